/- The Go functions come to what the plain functions tell. No condition. -/
import Derived.Test.YtfihfbkjomploaaProg
import Derived.Test.YtfihfbkjomploaaFnX
namespace Go.Proofs.Ytfihfbkjomploaa.X
open Go Go.RowKit Go.Proofs.Ytfihfbkjomploaa.Sx
set_option linter.unusedVariables false
set_option maxHeartbeats 4000000 in
set_option maxRecDepth 100000 in
theorem merkle_filled_ok (w0 w : World) (cs : List Chunk) (F : Nat → Prop) (W : World) (A_a : Option Addr) (c_a : Nat) (a : List Int) (A_b : Option Addr) (c_b : Nat) (b : List Int) (hM0 : Mem w0 (Fz F W :: cs) w) (h_a : RdS (Rep.int .u64) F W A_a c_a a) (h_b : RdS (Rep.int .u64) F W A_b c_b b) (l9003 : List Int) (hp : merkle_filled a b = some l9003) : Calls Try.prog 107 #[.slice A_a a.length c_a, .slice A_b b.length c_b] w fun e w' => ∃ (A9001 : Option Addr), ∃ (c9002 : Nat), ∃ (y9004 : List Value), ((RepL (Rep.int .u64) F W l9003 y9004)) ∧ e = .returned (.slice A9001 l9003.length c9002) ∧ Mem w0 (orow A9001 l9003.length c9002 24 1 y9004 :: Fz F W :: cs) w' := by
 unfold merkle_filled at hp
 refine sx_calls Try.func107 rfl (n := 26) (by kernel_rfl) (l := [(0, .slice A_a a.length c_a), (1, .slice A_b b.length c_b)]) rfl (by rfl) hM0 ?_
 refine st_seq ?_
 refine st_region [oF 0] (by rfl) ?_
 refine oR [oF 0] [(0, .slice A_a a.length c_a), (1, .slice A_b b.length c_b)] [0, 1] (by kernel_rfl) ?_
 refine ops_nil ?_
 refine fin_then ?_
 refine st_seq ?_
 refine st_region [oF 0, oF 1, oF 2] (by rfl) ?_
 refine oR [oF 0] [(7, .slice A_a a.length c_a), (0, .slice A_a a.length c_a), (1, .slice A_b b.length c_b)] [7, 0, 1] (by kernel_rfl) ?_
 refine ops_conv (l' := [(7, .slice A_a a.length c_a), (0, .slice A_a a.length c_a), (1, .slice A_b b.length c_b)]) (M' := Mem w0 (orow none ([] : List Int).length 0 24 1 [] :: Fz F W :: cs)) rfl (fun w_ h => h.onil none 24 1) ?_
 obtain ⟨l1, hv2, hp⟩ := obind hp
 obtain ⟨he3, hb4⟩ := app_some hv2
 obtain ⟨y8, h9, hs10⟩ := RdS.src h_a
 obtain ⟨y5, hy6⟩ : ∃ y_, [] ++ y8 = y_ := ⟨_, rfl⟩
 have h7 : RepL (Rep.int .u64) F W l1 y5 := by rw [he3, ← hy6]; exact RepL.app (RepL.nil (R := (Rep.int .u64))) h9
 refine ops_appendO (x := (Go.Operand.const (Go.Value.slice none 0 0))) (y := (Go.Operand.tmp 7)) (t := 63) (e := 24) (d := some 8) (n' := l1.length) (z := 1) (m := a.length) (bytes := 8) (xs' := y5) (news := y8) (zv := vU 0) 0 ⟨by kernel_rfl⟩ rfl rfl Try.underlying63 (by kernel_rfl) (by rfl) rfl (fun w_ hM => hM.srcS 1 rfl h9 hs10) h9.len h9.one hb4 (by have z_ := congrArg List.length he3; rw [List.length_append] at z_; exact z_.symm) hy6 (fun _ _ _ _ hS h' => trivial) ?_
 rintro ⟨A11, c12⟩
 refine ops_conv (l' := [(8, .slice A11 l1.length c12), (7, .slice A_a a.length c_a), (0, .slice A_a a.length c_a), (1, .slice A_b b.length c_b)]) (M' := Mem w0 (orow A11 l1.length c12 24 1 y5 :: Fz F W :: cs)) rfl (fun _ h => h) ?_
 refine oR [oF 2] [(5, .slice A11 l1.length c12), (0, .slice A_a a.length c_a), (1, .slice A_b b.length c_b)] [5, 0, 1] (by kernel_rfl) ?_
 refine ops_nil ?_
 refine fin_then ?_
 refine st_join1 (σ := (Option Addr) × Nat × (List Int) × (List Value)) (L := fun x_ => match x_ with | (A13, c14, l15, y16) => [(5, .slice A13 l15.length c14)]) (N := fun x_ => match x_ with | (A13, c14, l15, y16) => Mem w0 (orow A13 l15.length c14 24 1 y16 :: Fz F W :: cs)) (I := fun x_ => match x_ with | (A13, c14, l15, y16) => (merkle_filled_j1 l15 = some l9003) ∧ (RepL (Rep.int .u64) F W l15 y16)) ?_ ?_
 · --
  rintro ⟨A13, c14, l15, y16⟩ ⟨hp, h17⟩
  refine st_conv (l' := [(5, .slice A13 l15.length c14)]) (M' := Mem w0 (orow A13 l15.length c14 24 1 y16 :: Fz F W :: cs)) rfl (fun _ h => h) ?_
  unfold merkle_filled_j1 at hp
  refine st_seq ?_
  refine st_region [oF 0, oF 1] (by rfl) ?_
  refine oR [oF 0, oF 1] [(4, .slice A13 l15.length c14)] [4] (by kernel_rfl) ?_
  refine ops_nil ?_
  refine fin_then ?_
  refine st_ret ?_
  have hq_ := Option.some.inj hp
  have hr0_ := hq_
  subst hr0_
  refine fin_ret [.tmp 4] [.slice A13 l15.length c14] rfl rfl (fun w_ hM => (.tmp rfl .nil)) (fun w_ hM => ?_)
  exact ⟨A13, c14, y16, h17, rfl, hM⟩
 · --
  intro HJ1
  refine st_seq ?_
  refine st_seq ?_
  refine st_region [oF 0, oF 1, oF 2] (by rfl) ?_
  refine oR [oF 0, oF 1, oF 2] [(6, vI (a.length : Int)), (5, .slice A11 l1.length c12), (1, .slice A_b b.length c_b)] [6, 5, 1] (by kernel_rfl) ?_
  refine ops_nil ?_
  refine fin_then ?_
  refine st_block ?_
  obtain ⟨r2, hl2, hk2⟩ := obind hp
  refine st_loopP (σ := (List Int) × Int) (ρ := (List Int)) (γ := (Option Addr) × Nat × (List Value)) hl2 (A11, c12, y5) (fun s_ g_ => match s_, g_ with | (l20, i23), (A18, c19, y21) => [(1, .slice A_b b.length c_b), (5, .slice A18 l20.length c19), (6, vI i23)]) (fun s_ g_ => match s_, g_ with | (l20, i23), (A18, c19, y21) => Mem w0 (orow A18 l20.length c19 24 1 y21 :: Fz F W :: cs)) (fun s_ g_ => match s_, g_ with | (l20, i23), (A18, c19, y21) => (RepL (Rep.int .u64) F W l20 y21)) h7 (look_has ⟨rfl, rfl, rfl, trivial⟩) (fun w_ hM => hM) ?_
  rintro ⟨l20, i23⟩ ⟨A18, c19, y21⟩ o2 h22 hs_ hd2
  have hp : (merkle_filled_l2 b) l20 i23 = some o2 := hs_
  clear hs_
  unfold merkle_filled_l2 at hp
  refine st_conv (l' := [(1, .slice A_b b.length c_b), (5, .slice A18 l20.length c19), (6, vI i23)]) (M' := Mem w0 (orow A18 l20.length c19 24 1 y21 :: Fz F W :: cs)) rfl (fun _ h => h) ?_
  refine st_seq ?_
  refine st_seq ?_
  refine st_region [oF 0, oF 1, oF 2, oF 3] (by rfl) ?_
  refine oR [oF 0, oF 1, oF 2, oF 3] [(14, .bool (decide (i23 < (b.length : Int)))), (1, .slice A_b b.length c_b), (5, .slice A18 l20.length c19), (6, vI i23)] [14, 1, 5, 6] (by kernel_rfl) ?_
  refine ops_nil ?_
  refine fin_then ?_
  refine st_if (b := decide (i23 < (b.length : Int))) rfl (fun hc24 => ?_) (fun hc24 => ?_)
  · --
   have hp := cnd_t hc24 hp
   refine st_skip ?_
   refine fin_then ?_
   refine st_seq ?_
   refine st_block ?_
   refine st_region [oF 0, oF 1, oF 2, oF 3, oF 4, oF 5, oF 6, oF 7, oF 8] (by rfl) ?_
   refine oR [oF 0, oF 1, oF 2] [(19, vI i23), (18, .slice A_b b.length c_b), (17, .slice A18 l20.length c19), (1, .slice A_b b.length c_b), (5, .slice A18 l20.length c19), (6, vI i23)] [19, 18, 17, 1, 5, 6] (by kernel_rfl) ?_
   obtain ⟨x25, hv26, hp⟩ := obind hp
   obtain ⟨m27, hm28, hx29⟩ := idx_some hv26
   have hl32 := (List.getElem?_eq_some_iff.1 hx29).1
   obtain ⟨ad33, vs30, hA34, hr31, hq35⟩ := RdS.el h_b hx29
   obtain rfl := hr31
   refine ops_val (op := (Go.Op.indexAddr 63 (Go.Operand.tmp 18) (Go.Operand.tmp 19))) (d := some 20) (v := .pointer (some (ad33.add (m27 * 1)))) ⟨by kernel_rfl⟩ (run_indexA hA34 Try.underlying63 (z := 1) (by kernel_rfl) rfl rfl hm28 hl32) ?_
   refine oR [] [(20, .pointer (some (ad33.add (m27 * 1)))), (17, .slice A18 l20.length c19), (1, .slice A_b b.length c_b), (5, .slice A18 l20.length c19), (6, vI i23)] [20, 17, 1, 5, 6] (by kernel_rfl) ?_
   refine ops_mem (d := some 21) (an := [.v (vU x25)]) (evs := [.load (ad33.add (m27 * 1)) (vU x25)]) (v := vU x25) (M' := Mem w0 (orow A18 l20.length c19 24 1 y21 :: Fz F W :: cs)) ⟨by kernel_rfl⟩ (fun w_ hM hS => ⟨w_, ⟨hM.elcell 1 rfl hq35 0 rfl, rfl⟩, hM, trivial⟩) ?_
   refine oR [oF 5] [(22, vU (Go.bits .xor .u64 18446744073709551615 x25)), (17, .slice A18 l20.length c19), (1, .slice A_b b.length c_b), (5, .slice A18 l20.length c19), (6, vI i23)] [22, 17, 1, 5, 6] (by kernel_rfl) ?_
   have h36 : RepL (Rep.int .u64) F W ([Go.bits .xor .u64 18446744073709551615 x25] : List Int) ([vU (Go.bits .xor .u64 18446744073709551615 x25)]) := (RepL.cons (R := (Rep.int .u64)) (F := F) (w := W) (vs := [vU (Go.bits .xor .u64 18446744073709551615 x25)]) (ys := []) rfl RepL.nil)
   refine ops_new (d := some 23) (o := .cells ([vU (Go.bits .xor .u64 18446744073709551615 x25)]).toArray 24) (v := fun g37 => .slice (some ⟨g37, 0, none⟩) ([Go.bits .xor .u64 18446744073709551615 x25] : List Int).length 1) (M' := fun g37 => Mem w0 (orow (some ⟨g37, 0, none⟩) ([Go.bits .xor .u64 18446744073709551615 x25] : List Int).length 1 24 1 ([vU (Go.bits .xor .u64 18446744073709551615 x25)]) :: orow A18 l20.length c19 24 1 y21 :: Fz F W :: cs)) (fun g37 => ⟨by kernel_rfl⟩) (fun w_ hM hS => ⟨hM.onew [vU (Go.bits .xor .u64 18446744073709551615 x25)] 24 1 1 rfl (by decide), trivial⟩) (fun g37 => ?_)
   refine oR [] [(23, .slice (some ⟨g37, 0, none⟩) ([Go.bits .xor .u64 18446744073709551615 x25] : List Int).length 1), (17, .slice A18 l20.length c19), (1, .slice A_b b.length c_b), (5, .slice A18 l20.length c19), (6, vI i23)] [23, 17, 1, 5, 6] (by kernel_rfl) ?_
   obtain ⟨l38, hv39, hp⟩ := obind hp
   obtain ⟨he40, hb41⟩ := app_some hv39
   obtain ⟨y42, hy43⟩ : ∃ y_, y21 ++ ([vU (Go.bits .xor .u64 18446744073709551615 x25)]) = y_ := ⟨_, rfl⟩
   have h44 : RepL (Rep.int .u64) F W l38 y42 := by rw [he40, ← hy43]; exact RepL.app h22 h36
   refine ops_appendO (x := (Go.Operand.tmp 17)) (y := (Go.Operand.tmp 23)) (t := 63) (e := 24) (d := some 24) (n' := l38.length) (z := 1) (m := ([Go.bits .xor .u64 18446744073709551615 x25] : List Int).length) (bytes := 8) (xs' := y42) (news := ([vU (Go.bits .xor .u64 18446744073709551615 x25)])) (zv := vU 0) 1 ⟨by kernel_rfl⟩ rfl rfl Try.underlying63 (by kernel_rfl) (by rfl) rfl (fun w_ hM => hM.srcO 0 rfl) h36.len h36.one hb41 (by have z_ := congrArg List.length he40; rw [List.length_append] at z_; exact z_.symm) hy43 (fun _ _ _ _ hS h' => trivial) ?_
   rintro ⟨A45, c46⟩
   refine ops_conv (l' := [(24, .slice A45 l38.length c46), (23, .slice (some ⟨g37, 0, none⟩) ([Go.bits .xor .u64 18446744073709551615 x25] : List Int).length 1), (17, .slice A18 l20.length c19), (1, .slice A_b b.length c_b), (5, .slice A18 l20.length c19), (6, vI i23)]) (M' := Mem w0 (orow (some ⟨g37, 0, none⟩) ([Go.bits .xor .u64 18446744073709551615 x25] : List Int).length 1 24 1 ([vU (Go.bits .xor .u64 18446744073709551615 x25)]) :: orow A45 l38.length c46 24 1 y42 :: Fz F W :: cs)) rfl (fun _ h => h) ?_
   refine oR [oF 8] [(5, .slice A45 l38.length c46), (1, .slice A_b b.length c_b), (6, vI i23)] [5, 1, 6] (by kernel_rfl) ?_
   refine ops_nil ?_
   refine fin_block ?_
   refine fin_then ?_
   refine st_region [oF 0, oF 1, oF 2] (by rfl) ?_
   refine oR [oF 0, oF 1, oF 2] [(6, vI (IntKind.i64.wrap (i23 + 1))), (5, .slice A45 l38.length c46), (1, .slice A_b b.length c_b)] [6, 5, 1] (by kernel_rfl) ?_
   refine ops_nil ?_
   exact fin_again (l38, IntKind.i64.wrap (i23 + 1)) (A45, c46, y42) (Option.some.inj hp).symm h44 (look_has ⟨rfl, rfl, rfl, trivial⟩) (fun w_ hM => hM.pick 3 [1, 2] (by kernel_rfl) (by decide) rfl)
  · --
   have hp := cnd_f hc24 hp
   refine st_exit ?_
   refine fin_exit_then ?_
   refine fin_exit_then ?_
   refine fin_exit ?_
   obtain hq_ := Option.some.inj hp
   subst hq_
   obtain hq_ := hd2 _ rfl
   subst hq_
   have hp : merkle_filled_j1 l20 = some l9003 := hk2
   exact fin_join HJ1 (A18, c19, l20, y21) ⟨hp, h22⟩ (look_has ⟨rfl, trivial⟩) (fun w_ hM => hM)
set_option maxHeartbeats 4000000 in
set_option maxRecDepth 100000 in
theorem rnd_Mix_ok (w0 w : World) (cs : List Chunk) (F : Nat → Prop) (W : World) (x : Int) (hM0 : Mem w0 (Fz F W :: cs) w) (i9001 : Int) (hp : rnd_Mix x = some i9001) : Calls Try.prog 134 #[vU x] w fun e w' => (True) ∧ e = .returned (vU i9001) ∧ Mem w0 (Fz F W :: cs) w' := by
 unfold rnd_Mix at hp
 refine sx_calls Try.func134 rfl (n := 17) (by kernel_rfl) (l := [(0, vU x)]) rfl (by rfl) hM0 ?_
 refine st_seq ?_
 refine st_region [oF 0] (by rfl) ?_
 refine oR [oF 0] [(0, vU x)] [0] (by kernel_rfl) ?_
 refine ops_nil ?_
 refine fin_then ?_
 refine st_seq ?_
 refine st_region [oF 0, oF 1, oF 2, oF 3, oF 4, oF 5] (by rfl) ?_
 refine oR [oF 0, oF 1, oF 2, oF 3, oF 4, oF 5] [(0, vU (IntKind.u64.wrap (Go.bits .xor .u64 x (Int.fdiv x 2147483648) * 7640891576956012809)))] [0] (by kernel_rfl) ?_
 obtain ⟨x1, hv2, hp⟩ := obind hp
 refine ops_conv (l' := [(0, vU x1)]) (by rw [← Option.some.inj hv2]) (fun _ h => h) ?_
 refine ops_nil ?_
 refine fin_then ?_
 refine st_seq ?_
 refine st_region [oF 0, oF 1, oF 2, oF 3, oF 4, oF 5] (by rfl) ?_
 refine oR [oF 0, oF 1, oF 2, oF 3, oF 4, oF 5] [(0, vU (IntKind.u64.wrap (Go.bits .xor .u64 x1 (Int.fdiv x1 134217728) * 13503953896175478587)))] [0] (by kernel_rfl) ?_
 obtain ⟨x3, hv4, hp⟩ := obind hp
 refine ops_conv (l' := [(0, vU x3)]) (by rw [← Option.some.inj hv4]) (fun _ h => h) ?_
 refine ops_nil ?_
 refine fin_then ?_
 refine st_seq ?_
 refine st_region [oF 0, oF 1, oF 2, oF 3, oF 4] (by rfl) ?_
 refine oR [oF 0, oF 1, oF 2, oF 3, oF 4] [(2, vU (Go.bits .xor .u64 x3 (Int.fdiv x3 1073741824)))] [2] (by kernel_rfl) ?_
 refine ops_nil ?_
 refine fin_then ?_
 refine st_ret ?_
 have hq_ := Option.some.inj hp
 have hr0_ := hq_
 subst hr0_
 refine fin_ret [.tmp 2] [vU (Go.bits .xor .u64 x3 (Int.fdiv x3 1073741824))] rfl rfl (fun w_ hM => (.tmp rfl .nil)) (fun w_ hM => ?_)
 exact ⟨trivial, rfl, hM⟩
set_option maxHeartbeats 4000000 in
set_option maxRecDepth 100000 in
theorem sum_Join_ok (w0 w : World) (cs : List Chunk) (F : Nat → Prop) (W : World) (a : Int) (b : Int) (hM0 : Mem w0 (Fz F W :: cs) w) (i9001 : Int) (hp : sum_Join a b = some i9001) : Calls Try.prog 110 #[vU a, vU b] w fun e w' => (True) ∧ e = .returned (vU i9001) ∧ Mem w0 (Fz F W :: cs) w' := by
 unfold sum_Join at hp
 refine sx_calls Try.func110 rfl (n := 12) (by kernel_rfl) (l := [(0, vU a), (1, vU b)]) rfl (by rfl) hM0 ?_
 refine st_seq ?_
 refine st_region [oF 0] (by rfl) ?_
 refine oR [oF 0] [(0, vU a), (1, vU b)] [0, 1] (by kernel_rfl) ?_
 refine ops_nil ?_
 refine fin_then ?_
 refine st_seq ?_
 refine st_region [oF 0, oF 1, oF 2, oF 3, oF 4, oF 5, oF 6, oF 7] (by rfl) ?_
 refine oR [oF 0, oF 1] [(6, vU (IntKind.u64.wrap (a + 5840696475078001361))), (1, vU b)] [6, 1] (by kernel_rfl) ?_
 obtain ⟨x1, hv2, hp⟩ := obind hp
 refine ops_callI (σ := Unit) (d := some 7) (f := 134) (args := #[vU (IntKind.u64.wrap (a + 5840696475078001361))]) (v := (fun _ => vU x1)) (I := (fun _ => True)) (M' := (fun _ => Mem w0 (Fz F W :: cs))) ⟨by kernel_rfl⟩ (fun w_ hM hS => (rnd_Mix_ok w0 w_ (cs) F W (IntKind.u64.wrap (a + 5840696475078001361)) hM  x1 hv2).mono (by rintro e w' ⟨-, rfl, h'⟩; have h' : Mem w0 (Fz F W :: cs) w' := h'; exact ⟨(), trivial, rfl, h', trivial⟩)) ?_
 rintro _ -
 refine ops_conv (l' := [(7, vU x1), (6, vU (IntKind.u64.wrap (a + 5840696475078001361))), (1, vU b)]) (M' := Mem w0 (Fz F W :: cs)) rfl (fun _ h => h) ?_
 refine oR [oF 3, oF 4, oF 5] [(10, vU (IntKind.u64.wrap (IntKind.u64.wrap (x1 * 11170449401992604703) + b)))] [10] (by kernel_rfl) ?_
 obtain ⟨x3, hv4, hp⟩ := obind hp
 refine ops_conv (l' := [(10, vU x3)]) (by rw [← Option.some.inj hv4]) (fun _ h => h) ?_
 obtain ⟨x5, hv6, hp⟩ := obind hp
 refine ops_callI (σ := Unit) (d := some 11) (f := 134) (args := #[vU x3]) (v := (fun _ => vU x5)) (I := (fun _ => True)) (M' := (fun _ => Mem w0 (Fz F W :: cs))) ⟨by kernel_rfl⟩ (fun w_ hM hS => (rnd_Mix_ok w0 w_ (cs) F W x3 hM  x5 hv6).mono (by rintro e w' ⟨-, rfl, h'⟩; have h' : Mem w0 (Fz F W :: cs) w' := h'; exact ⟨(), trivial, rfl, h', trivial⟩)) ?_
 rintro _ -
 refine ops_conv (l' := [(11, vU x5), (10, vU x3)]) (M' := Mem w0 (Fz F W :: cs)) rfl (fun _ h => h) ?_
 refine oR [oF 7] [(4, vU x5)] [4] (by kernel_rfl) ?_
 refine ops_nil ?_
 refine fin_then ?_
 refine st_ret ?_
 have hq_ := Option.some.inj hp
 have hr0_ := hq_
 subst hr0_
 refine fin_ret [.tmp 4] [vU x5] rfl rfl (fun w_ hM => (.tmp rfl .nil)) (fun w_ hM => ?_)
 exact ⟨trivial, rfl, hM⟩
def merkle_levels__t0 : List Row := [⟨0, 134217728, 32⟩, ⟨0, 268435456, 16⟩, ⟨0, 536870912, 64⟩, ⟨6, 1073741824, 805306368⟩, ⟨8, 2147483648, 1073741824⟩, ⟨0, 4294967296, 16⟩, ⟨0, 8589934592, 64⟩, ⟨64, 17179869184, 8589934592⟩, ⟨160, 34359738368, 21474836480⟩, ⟨256, 68719476736, 34359738368⟩, ⟨528, 137438953472, 70866960384⟩, ⟨1024, 274877906944, 137438953472⟩, ⟨3073, 549755813888, 275012124672⟩, ⟨8191, 32, 549755813888⟩]
set_option maxHeartbeats 4000000 in
set_option maxRecDepth 100000 in
theorem merkle_levels_ok (w0 w : World) (cs : List Chunk) (F : Nat → Prop) (W : World) (A_leaves : Option Addr) (c_leaves : Nat) (leaves : List Int) (hM0 : Mem w0 (Fz F W :: cs) w) (h_leaves : RdS (Rep.int .u64) F W A_leaves c_leaves leaves) (l9003 : List (List Int)) (hp : merkle_levels leaves = some l9003) : Calls Try.prog 106 #[.slice A_leaves leaves.length c_leaves] w fun e w' => ∃ (A9001 : Option Addr), ∃ (c9002 : Nat), ∃ (y9004 : List Value), ∃ (F9006 : Nat → Prop), ∃ (W9007 : World), ((RepL (Rep.sl (Rep.int .u64)) F9006 W9007 l9003 y9004) ∧ (Ext w0 F W F9006 W9007)) ∧ e = .returned (.slice A9001 l9003.length c9002) ∧ Mem w0 (orow A9001 l9003.length c9002 63 1 y9004 :: Fz F9006 W9007 :: cs) w' := by
 unfold merkle_levels at hp
 refine sx_calls Try.func106 rfl (n := 53) (by kernel_rfl) (l := [(0, .slice A_leaves leaves.length c_leaves)]) rfl (by rfl) hM0 ?_
 refine st_seq ?_
 refine st_region [oF 0] (by rfl) ?_
 refine oR [oF 0] [(0, .slice A_leaves leaves.length c_leaves)] [0] (by kernel_rfl) ?_
 refine ops_nil ?_
 refine fin_then ?_
 refine st_seq ?_
 refine st_region [oF 0, oF 1, oF 2, oF 3] (by rfl) ?_
 refine oR [oF 0] [(7, .slice A_leaves leaves.length c_leaves)] [7] (by kernel_rfl) ?_
 refine ops_conv (l' := [(7, .slice A_leaves leaves.length c_leaves)]) (M' := Mem w0 (orow none ([] : List Int).length 0 24 1 [] :: Fz F W :: cs)) rfl (fun w_ h => h.onil none 24 1) ?_
 obtain ⟨l1, hv2, hp⟩ := obind hp
 obtain ⟨he3, hb4⟩ := app_some hv2
 obtain ⟨y8, h9, hs10⟩ := RdS.src h_leaves
 obtain ⟨y5, hy6⟩ : ∃ y_, [] ++ y8 = y_ := ⟨_, rfl⟩
 have h7 : RepL (Rep.int .u64) F W l1 y5 := by rw [he3, ← hy6]; exact RepL.app (RepL.nil (R := (Rep.int .u64))) h9
 refine ops_appendO (x := (Go.Operand.const (Go.Value.slice none 0 0))) (y := (Go.Operand.tmp 7)) (t := 63) (e := 24) (d := some 8) (n' := l1.length) (z := 1) (m := leaves.length) (bytes := 8) (xs' := y5) (news := y8) (zv := vU 0) 0 ⟨by kernel_rfl⟩ rfl rfl Try.underlying63 (by kernel_rfl) (by rfl) rfl (fun w_ hM => hM.srcS 1 rfl h9 hs10) h9.len h9.one hb4 (by have z_ := congrArg List.length he3; rw [List.length_append] at z_; exact z_.symm) hy6 (fun _ _ _ _ hS h' => trivial) ?_
 rintro ⟨A11, c12⟩
 refine ops_conv (l' := [(8, .slice A11 l1.length c12), (7, .slice A_leaves leaves.length c_leaves)]) (M' := Mem w0 (orow A11 l1.length c12 24 1 y5 :: Fz F W :: cs)) rfl (fun _ h => h) ?_
 refine oR [] [(8, .slice A11 l1.length c12)] [8] (by kernel_rfl) ?_
 refine ops_ex (σ := (Nat → Prop) × World) (I := fun x_ => Ext w0 F W x_.1 x_.2 ∧ RdS (Rep.int .u64) x_.1 x_.2 A11 c12 l1) (M' := fun x_ => Mem w0 (Fz x_.1 x_.2 :: cs)) (fun w_ hM => ?_) ?_
 · obtain ⟨F_, h1_, h2_, h3_⟩ := (hM.pick 2 [0, 1] (by kernel_rfl) (by decide) rfl : Mem w0 (orow A11 l1.length c12 24 1 y5 :: Fz F W :: cs) w_).freeze (z := 1) h7 rfl rfl
   exact ⟨(F_, w_), ⟨h1_, h2_⟩, h3_.pick 1 [0] (by kernel_rfl) (by decide) rfl⟩
 rintro ⟨F13, W14⟩ ⟨hx15, h16⟩
 have hx15 : Ext w0 F W F13 W14 := hx15
 have h16 : RdS (Rep.int .u64) F13 W14 A11 c12 l1 := h16
 refine ops_conv (l' := [(8, .slice A11 l1.length c12)]) (M' := Mem w0 (Fz F13 W14 :: cs)) rfl (fun _ h => h) ?_
 have h17 : RepL (Rep.sl (Rep.int .u64)) F13 W14 ([l1] : List (List Int)) ([.slice A11 l1.length c12]) := (RepL.cons (R := (Rep.sl (Rep.int .u64))) (F := F13) (w := W14) (vs := [.slice A11 l1.length c12]) (ys := []) (slrd h16) RepL.nil)
 refine ops_new (d := some 9) (o := .cells ([.slice A11 l1.length c12]).toArray 63) (v := fun g18 => .slice (some ⟨g18, 0, none⟩) ([l1] : List (List Int)).length 1) (M' := fun g18 => Mem w0 (orow (some ⟨g18, 0, none⟩) ([l1] : List (List Int)).length 1 63 1 ([.slice A11 l1.length c12]) :: Fz F13 W14 :: cs)) (fun g18 => ⟨by kernel_rfl⟩) (fun w_ hM hS => ⟨hM.onew [.slice A11 l1.length c12] 63 1 1 rfl (by decide), trivial⟩) (fun g18 => ?_)
 refine oR [oF 3] [(3, .slice (some ⟨g18, 0, none⟩) ([l1] : List (List Int)).length 1)] [3] (by kernel_rfl) ?_
 refine ops_nil ?_
 refine fin_then ?_
 refine st_join1 (σ := (Option Addr) × Nat × (List (List Int)) × (List Value) × (Nat → Prop) × World) (L := fun x_ => match x_ with | (A19, c20, l21, y22, F24, W25) => [(3, .slice A19 l21.length c20)]) (N := fun x_ => match x_ with | (A19, c20, l21, y22, F24, W25) => Mem w0 (orow A19 l21.length c20 63 1 y22 :: Fz F24 W25 :: cs)) (I := fun x_ => match x_ with | (A19, c20, l21, y22, F24, W25) => (merkle_levels_j1 l21 = some l9003) ∧ (RepL (Rep.sl (Rep.int .u64)) F24 W25 l21 y22) ∧ (Ext w0 F13 W14 F24 W25)) ?_ ?_
 · --
  rintro ⟨A19, c20, l21, y22, F24, W25⟩ ⟨hp, h23, hx1⟩
  refine st_conv (l' := [(3, .slice A19 l21.length c20)]) (M' := Mem w0 (orow A19 l21.length c20 63 1 y22 :: Fz F24 W25 :: cs)) rfl (fun _ h => h) ?_
  unfold merkle_levels_j1 at hp
  refine st_seq ?_
  refine st_region [oF 0, oF 1] (by rfl) ?_
  refine oR [oF 0, oF 1] [(2, .slice A19 l21.length c20)] [2] (by kernel_rfl) ?_
  refine ops_nil ?_
  refine fin_then ?_
  refine st_ret ?_
  have hq_ := Option.some.inj hp
  have hr0_ := hq_
  subst hr0_
  refine fin_ret [.tmp 2] [.slice A19 l21.length c20] rfl rfl (fun w_ hM => (.tmp rfl .nil)) (fun w_ hM => ?_)
  exact ⟨A19, c20, y22, F24, W25, ⟨h23, (hx15.trans hx1)⟩, rfl, hM⟩
 · --
  intro HJ1
  refine st_seq ?_
  refine st_seq ?_
  refine st_region [oF 0, oF 1, oF 2, oF 3] (by rfl) ?_
  refine oR [oF 0] [(10, .slice (some ⟨g18, 0, none⟩) ([l1] : List (List Int)).length 1), (3, .slice (some ⟨g18, 0, none⟩) ([l1] : List (List Int)).length 1)] [10, 3] (by kernel_rfl) ?_
  obtain ⟨x26, hv27, hp⟩ := obind hp
  obtain ⟨m28, hm29, hx30⟩ := idx_some hv27
  have hl33 := (List.getElem?_eq_some_iff.1 hx30).1
  obtain ⟨vs31, hr32, hq34⟩ := h17.at_ m28 x26 hx30
  obtain ⟨A35, c36, rfl, h37⟩ := hr32
  refine ops_val (op := (Go.Op.indexAddr 138 (Go.Operand.tmp 10) (Go.Operand.const (Go.Value.int Go.IntKind.i64 0)))) (d := some 11) (v := vP g18 (m28 * 1)) ⟨by kernel_rfl⟩ (run_indexRow Try.underlying138 (z := 1) (by kernel_rfl) rfl rfl hm29 hl33 rfl) ?_
  refine oR [] [(11, vP g18 (m28 * 1)), (3, .slice (some ⟨g18, 0, none⟩) ([l1] : List (List Int)).length 1)] [11, 3] (by kernel_rfl) ?_
  refine ops_mem (d := some 12) (an := [.v (.slice A35 x26.length c36)]) (evs := [.load ⟨g18, m28 * 1, none⟩ (.slice A35 x26.length c36)]) (v := .slice A35 x26.length c36) (M' := Mem w0 (orow (some ⟨g18, 0, none⟩) ([l1] : List (List Int)).length 1 63 1 ([.slice A11 l1.length c12]) :: Fz F13 W14 :: cs)) ⟨by kernel_rfl⟩ (fun w_ hM hS => ⟨w_, ⟨hM.ocell 0 rfl (hq34 0 _ rfl), rfl⟩, hM, trivial⟩) ?_
  refine oR [oF 3] [(4, .slice A35 x26.length c36), (3, .slice (some ⟨g18, 0, none⟩) ([l1] : List (List Int)).length 1)] [4, 3] (by kernel_rfl) ?_
  refine ops_nil ?_
  refine fin_then ?_
  refine st_block ?_
  obtain ⟨r2, hl2, hk2⟩ := obind hp
  refine st_loopP (σ := (List (List Int)) × (List Int)) (ρ := (List (List Int))) (γ := (Option Addr) × Nat × (List Value) × (Option Addr) × Nat × (Nat → Prop) × World) hl2 ((some ⟨g18, 0, none⟩), 1, ([.slice A11 l1.length c12]), A35, c36, F13, W14) (fun s_ g_ => match s_, g_ with | (l40, l45), (A38, c39, y41, A43, c44, F47, W48) => [(3, .slice A38 l40.length c39), (4, .slice A43 l45.length c44)]) (fun s_ g_ => match s_, g_ with | (l40, l45), (A38, c39, y41, A43, c44, F47, W48) => Mem w0 (orow A38 l40.length c39 63 1 y41 :: Fz F47 W48 :: cs)) (fun s_ g_ => match s_, g_ with | (l40, l45), (A38, c39, y41, A43, c44, F47, W48) => (RepL (Rep.sl (Rep.int .u64)) F47 W48 l40 y41) ∧ (RdS (Rep.int .u64) F47 W48 A43 c44 l45) ∧ (Ext w0 F13 W14 F47 W48)) ⟨h17, h37, (Ext.refl _ _ _)⟩ (look_has ⟨rfl, rfl, trivial⟩) (fun w_ hM => hM) ?_
  rintro ⟨l40, l45⟩ ⟨A38, c39, y41, A43, c44, F47, W48⟩ o2 ⟨h42, h46, hx2⟩ hs_ hd2
  have hp : merkle_levels_l2 l40 l45 = some o2 := hs_
  clear hs_
  unfold merkle_levels_l2 at hp
  refine st_conv (l' := [(3, .slice A38 l40.length c39), (4, .slice A43 l45.length c44)]) (M' := Mem w0 (orow A38 l40.length c39 63 1 y41 :: Fz F47 W48 :: cs)) rfl (fun _ h => h) ?_
  refine st_seq ?_
  refine st_seq ?_
  refine st_region [oF 0, oF 1, oF 2] (by rfl) ?_
  refine oR [oF 0, oF 1, oF 2] [(15, .bool (decide (1 < (l45.length : Int)))), (3, .slice A38 l40.length c39), (4, .slice A43 l45.length c44)] [15, 3, 4] (by kernel_rfl) ?_
  refine ops_nil ?_
  refine fin_then ?_
  refine st_if (b := decide (1 < (l45.length : Int))) rfl (fun hc49 => ?_) (fun hc49 => ?_)
  · --
   have hp := cnd_t hc49 hp
   refine st_skip ?_
   refine fin_then ?_
   refine st_block ?_
   refine st_seq ?_
   refine st_region [oF 0] (by rfl) ?_
   refine oR [oF 0] [(5, .slice none 0 0), (3, .slice A38 l40.length c39), (4, .slice A43 l45.length c44)] [5, 3, 4] (by kernel_rfl) ?_
   refine ops_nil ?_
   refine fin_then ?_
   refine st_join1 (σ := (Option Addr) × Nat × (List Int) × (List Value)) (L := fun x_ => match x_ with | (A50, c51, l52, y53) => [(3, .slice A38 l40.length c39), (5, .slice A50 l52.length c51)]) (N := fun x_ => match x_ with | (A50, c51, l52, y53) => Mem w0 (orow A38 l40.length c39 63 1 y41 :: orow A50 l52.length c51 24 1 y53 :: Fz F47 W48 :: cs)) (I := fun x_ => match x_ with | (A50, c51, l52, y53) => ((merkle_levels_j3 l40) l52 = some o2) ∧ (RepL (Rep.int .u64) F47 W48 l52 y53)) ?_ ?_
   · --
    rintro ⟨A50, c51, l52, y53⟩ ⟨hp, h54⟩
    refine st_conv (l' := [(3, .slice A38 l40.length c39), (5, .slice A50 l52.length c51)]) (M' := Mem w0 (orow A38 l40.length c39 63 1 y41 :: orow A50 l52.length c51 24 1 y53 :: Fz F47 W48 :: cs)) rfl (fun _ h => h) ?_
    unfold merkle_levels_j3 at hp
    refine st_region [oF 0, oF 1, oF 2, oF 3, oF 4, oF 5, oF 6] (by rfl) ?_
    refine oR [oF 0, oF 1] [(48, .slice A50 l52.length c51), (47, .slice A38 l40.length c39), (3, .slice A38 l40.length c39), (5, .slice A50 l52.length c51)] [48, 47, 3, 5] (by kernel_rfl) ?_
    refine ops_ex (σ := (Nat → Prop) × World) (I := fun x_ => Ext w0 F47 W48 x_.1 x_.2 ∧ RdS (Rep.int .u64) x_.1 x_.2 A50 c51 l52) (M' := fun x_ => Mem w0 (orow A38 l40.length c39 63 1 y41 :: Fz x_.1 x_.2 :: cs)) (fun w_ hM => ?_) ?_
    · obtain ⟨F_, h1_, h2_, h3_⟩ := (hM.pick 3 [1, 2, 0] (by kernel_rfl) (by decide) rfl : Mem w0 (orow A50 l52.length c51 24 1 y53 :: Fz F47 W48 :: orow A38 l40.length c39 63 1 y41 :: cs) w_).freeze (z := 1) h54 rfl rfl
      exact ⟨(F_, w_), ⟨h1_, h2_⟩, h3_.pick 2 [1, 0] (by kernel_rfl) (by decide) rfl⟩
    rintro ⟨F55, W56⟩ ⟨hx57, h58⟩
    have hx57 : Ext w0 F47 W48 F55 W56 := hx57
    have h58 : RdS (Rep.int .u64) F55 W56 A50 c51 l52 := h58
    have h42 := h42.ext hx57
    refine ops_conv (l' := [(48, .slice A50 l52.length c51), (47, .slice A38 l40.length c39), (3, .slice A38 l40.length c39), (5, .slice A50 l52.length c51)]) (M' := Mem w0 (orow A38 l40.length c39 63 1 y41 :: Fz F55 W56 :: cs)) rfl (fun _ h => h) ?_
    have h59 : RepL (Rep.sl (Rep.int .u64)) F55 W56 ([l52] : List (List Int)) ([.slice A50 l52.length c51]) := (RepL.cons (R := (Rep.sl (Rep.int .u64))) (F := F55) (w := W56) (vs := [.slice A50 l52.length c51]) (ys := []) (slrd h58) RepL.nil)
    refine ops_new (d := some 49) (o := .cells ([.slice A50 l52.length c51]).toArray 63) (v := fun g60 => .slice (some ⟨g60, 0, none⟩) ([l52] : List (List Int)).length 1) (M' := fun g60 => Mem w0 (orow (some ⟨g60, 0, none⟩) ([l52] : List (List Int)).length 1 63 1 ([.slice A50 l52.length c51]) :: orow A38 l40.length c39 63 1 y41 :: Fz F55 W56 :: cs)) (fun g60 => ⟨by kernel_rfl⟩) (fun w_ hM hS => ⟨hM.onew [.slice A50 l52.length c51] 63 1 1 rfl (by decide), trivial⟩) (fun g60 => ?_)
    refine oR [] [(49, .slice (some ⟨g60, 0, none⟩) ([l52] : List (List Int)).length 1), (47, .slice A38 l40.length c39), (3, .slice A38 l40.length c39), (5, .slice A50 l52.length c51)] [49, 47, 3, 5] (by kernel_rfl) ?_
    obtain ⟨l61, hv62, hp⟩ := obind hp
    obtain ⟨he63, hb64⟩ := app_some hv62
    obtain ⟨y65, hy66⟩ : ∃ y_, y41 ++ ([.slice A50 l52.length c51]) = y_ := ⟨_, rfl⟩
    have h67 : RepL (Rep.sl (Rep.int .u64)) F55 W56 l61 y65 := by rw [he63, ← hy66]; exact RepL.app h42 h59
    refine ops_appendO (x := (Go.Operand.tmp 47)) (y := (Go.Operand.tmp 49)) (t := 138) (e := 63) (d := some 50) (n' := l61.length) (z := 1) (m := ([l52] : List (List Int)).length) (bytes := 24) (xs' := y65) (news := ([.slice A50 l52.length c51])) (zv := .slice none 0 0) 1 ⟨by kernel_rfl⟩ rfl rfl Try.underlying138 (by kernel_rfl) (by rfl) rfl (fun w_ hM => hM.srcO 0 rfl) h59.len h59.one hb64 (by have z_ := congrArg List.length he63; rw [List.length_append] at z_; exact z_.symm) hy66 (fun _ _ _ _ hS h' => trivial) ?_
    rintro ⟨A68, c69⟩
    refine ops_conv (l' := [(50, .slice A68 l61.length c69), (49, .slice (some ⟨g60, 0, none⟩) ([l52] : List (List Int)).length 1), (47, .slice A38 l40.length c39), (3, .slice A38 l40.length c39), (5, .slice A50 l52.length c51)]) (M' := Mem w0 (orow (some ⟨g60, 0, none⟩) ([l52] : List (List Int)).length 1 63 1 ([.slice A50 l52.length c51]) :: orow A68 l61.length c69 63 1 y65 :: Fz F55 W56 :: cs)) rfl (fun _ h => h) ?_
    refine oR [oF 4, oF 5, oF 6] [(4, .slice A50 l52.length c51), (3, .slice A68 l61.length c69)] [4, 3] (by kernel_rfl) ?_
    refine ops_nil ?_
    refine fin_block ?_
    exact fin_again (l61, l52) (A68, c69, y65, A50, c51, F55, W56) (Option.some.inj hp).symm ⟨h67, h58, (hx2.trans hx57)⟩ (look_has ⟨rfl, rfl, trivial⟩) (fun w_ hM => hM.pick 3 [1, 2] (by kernel_rfl) (by decide) rfl)
   · --
    intro HJ3
    refine st_seq ?_
    refine st_seq ?_
    refine st_region [oF 0] (by rfl) ?_
    refine oR [oF 0] [(6, vI 0), (5, .slice none 0 0), (3, .slice A38 l40.length c39), (4, .slice A43 l45.length c44)] [6, 5, 3, 4] (by kernel_rfl) ?_
    refine ops_nil ?_
    refine fin_then ?_
    refine st_block ?_
    refine st_conv (l' := [(6, vI 0), (5, .slice none 0 0), (3, .slice A38 l40.length c39), (4, .slice A43 l45.length c44)]) (M' := Mem w0 (orow none ([] : List Int).length 0 24 1 [] :: orow A38 l40.length c39 63 1 y41 :: Fz F47 W48 :: cs)) rfl (fun w_ h => h.onil none 24 1) ?_
    refine st_conv (l' := [(6, vI 0), (5, .slice none ([] : List Int).length 0), (3, .slice A38 l40.length c39), (4, .slice A43 l45.length c44)]) (M' := Mem w0 (orow none ([] : List Int).length 0 24 1 [] :: orow A38 l40.length c39 63 1 y41 :: Fz F47 W48 :: cs)) rfl (fun _ h => h) ?_
    obtain ⟨r4, hl4, hk4⟩ := obind hp
    refine st_loopP (σ := (List Int) × Int) (ρ := (List Int)) (γ := (Option Addr) × Nat × (List Value)) hl4 (none, 0, []) (fun s_ g_ => match s_, g_ with | (l72, i75), (A70, c71, y73) => [(3, .slice A38 l40.length c39), (4, .slice A43 l45.length c44), (5, .slice A70 l72.length c71), (6, vI i75)]) (fun s_ g_ => match s_, g_ with | (l72, i75), (A70, c71, y73) => Mem w0 (orow A38 l40.length c39 63 1 y41 :: orow A70 l72.length c71 24 1 y73 :: Fz F47 W48 :: cs)) (fun s_ g_ => match s_, g_ with | (l72, i75), (A70, c71, y73) => (RepL (Rep.int .u64) F47 W48 l72 y73)) (RepL.nil (R := (Rep.int .u64))) (look_has ⟨rfl, rfl, rfl, rfl, trivial⟩) (fun w_ hM => hM.pick 3 [1, 0, 2] (by kernel_rfl) (by decide) rfl) ?_
    rintro ⟨l72, i75⟩ ⟨A70, c71, y73⟩ o4 h74 hs_ hd4
    have hp : (merkle_levels_l4 l45) l72 i75 = some o4 := hs_
    clear hs_
    unfold merkle_levels_l4 at hp
    refine st_conv (l' := [(3, .slice A38 l40.length c39), (4, .slice A43 l45.length c44), (5, .slice A70 l72.length c71), (6, vI i75)]) (M' := Mem w0 (orow A38 l40.length c39 63 1 y41 :: orow A70 l72.length c71 24 1 y73 :: Fz F47 W48 :: cs)) rfl (fun _ h => h) ?_
    refine st_seq ?_
    refine st_seq ?_
    refine st_region [oF 0, oF 1, oF 2, oF 3] (by rfl) ?_
    refine oR [oF 0, oF 1, oF 2, oF 3] [(19, .bool (decide (i75 < (l45.length : Int)))), (3, .slice A38 l40.length c39), (4, .slice A43 l45.length c44), (5, .slice A70 l72.length c71), (6, vI i75)] [19, 3, 4, 5, 6] (by kernel_rfl) ?_
    refine ops_nil ?_
    refine fin_then ?_
    refine st_if (b := decide (i75 < (l45.length : Int))) rfl (fun hc76 => ?_) (fun hc76 => ?_)
    · --
     have hp := cnd_t hc76 hp
     refine st_skip ?_
     refine fin_then ?_
     refine st_join1 (σ := (Option Addr) × Nat × (List Int) × (List Value)) (L := fun x_ => match x_ with | (A77, c78, l79, y80) => [(3, .slice A38 l40.length c39), (4, .slice A43 l45.length c44), (5, .slice A77 l79.length c78), (6, vI i75)]) (N := fun x_ => match x_ with | (A77, c78, l79, y80) => Mem w0 (orow A38 l40.length c39 63 1 y41 :: orow A77 l79.length c78 24 1 y80 :: Fz F47 W48 :: cs)) (I := fun x_ => match x_ with | (A77, c78, l79, y80) => ((merkle_levels_j5 i75) l79 = some o4) ∧ (RepL (Rep.int .u64) F47 W48 l79 y80)) ?_ ?_
     · --
      rintro ⟨A77, c78, l79, y80⟩ ⟨hp, h81⟩
      refine st_conv (l' := [(3, .slice A38 l40.length c39), (4, .slice A43 l45.length c44), (5, .slice A77 l79.length c78), (6, vI i75)]) (M' := Mem w0 (orow A38 l40.length c39 63 1 y41 :: orow A77 l79.length c78 24 1 y80 :: Fz F47 W48 :: cs)) rfl (fun _ h => h) ?_
      unfold merkle_levels_j5 at hp
      refine st_region [oF 0, oF 1, oF 2] (by rfl) ?_
      refine oR [oF 0, oF 1, oF 2] [(6, vI (IntKind.i64.wrap (i75 + 2))), (3, .slice A38 l40.length c39), (4, .slice A43 l45.length c44), (5, .slice A77 l79.length c78)] [6, 3, 4, 5] (by kernel_rfl) ?_
      refine ops_nil ?_
      exact fin_again (l79, IntKind.i64.wrap (i75 + 2)) (A77, c78, y80) (Option.some.inj hp).symm h81 (look_has ⟨rfl, rfl, rfl, rfl, trivial⟩) (fun w_ hM => hM)
     · --
      intro HJ5
      refine st_seq ?_
      refine st_block ?_
      refine st_seq ?_
      refine st_region [oF 0, oF 1, oF 2, oF 3, oF 4] (by rfl) ?_
      refine oR [oF 0, oF 1, oF 2, oF 3, oF 4] [(26, .bool (decide (IntKind.i64.wrap (i75 + 1) < (l45.length : Int)))), (3, .slice A38 l40.length c39), (4, .slice A43 l45.length c44), (5, .slice A70 l72.length c71), (6, vI i75)] [26, 3, 4, 5, 6] (by kernel_rfl) ?_
      refine ops_nil ?_
      refine fin_then ?_
      refine st_if (b := decide (IntKind.i64.wrap (i75 + 1) < (l45.length : Int))) rfl (fun hc82 => ?_) (fun hc82 => ?_)
      · --
       have hp := cnd_t hc82 hp
       refine st_region_fast merkle_levels__t0 [oT 0, oT 1, oT 2, oT 3, oT 4, oT 5, oT 6, oT 7, oT 8, oT 9, oF 10, oF 11, oF 12, oT 13] (Mem w0 (orow A38 l40.length c39 63 1 y41 :: Fz F47 W48 :: cs)) (by kernel_rfl) (by kernel_rfl) (by kernel_rfl) (by kernel_rfl) (by kernel_rfl) (fun _ d _ _ _ h => by cases d <;> exact h) (M' := Mem w0 (orow A38 l40.length c39 63 1 y41 :: orow A70 l72.length c71 24 1 y73 :: Fz F47 W48 :: cs)) (fun w_ hM => ⟨hM.drew, hM.drew.sub (.cons_cons _ (.cons _ (.cons_cons _ (.refl _))))⟩) ?_
       refine oR [oT 0, oT 1, oT 2] [(29, vI i75), (28, .slice A43 l45.length c44), (27, .slice A70 l72.length c71), (3, .slice A38 l40.length c39), (4, .slice A43 l45.length c44), (5, .slice A70 l72.length c71), (6, vI i75)] [29, 28, 27, 3, 4, 5, 6] (by kernel_rfl) ?_
       obtain ⟨x83, hv84, hp⟩ := obind hp
       obtain ⟨m85, hm86, hx87⟩ := idx_some hv84
       have hl90 := (List.getElem?_eq_some_iff.1 hx87).1
       obtain ⟨ad91, vs88, hA92, hr89, hq93⟩ := RdS.el h46 hx87
       obtain rfl := hr89
       refine ops_val (op := (Go.Op.indexAddr 63 (Go.Operand.tmp 28) (Go.Operand.tmp 29))) (d := some 30) (v := .pointer (some (ad91.add (m85 * 1)))) ⟨by kernel_rfl⟩ (run_indexA hA92 Try.underlying63 (z := 1) (by kernel_rfl) rfl rfl hm86 hl90) ?_
       refine oR [] [(30, .pointer (some (ad91.add (m85 * 1)))), (27, .slice A70 l72.length c71), (3, .slice A38 l40.length c39), (4, .slice A43 l45.length c44), (5, .slice A70 l72.length c71), (6, vI i75)] [30, 27, 3, 4, 5, 6] (by kernel_rfl) ?_
       refine ops_load (d := some 31) (an := [.v (vU x83)]) (evs := [.load (ad91.add (m85 * 1)) (vU x83)]) (v := vU x83) ⟨by kernel_rfl⟩ (fun w_ hM => ⟨hM.elcell 1 rfl hq93 0 rfl, rfl⟩) ?_
       refine oR [oT 5, oT 6, oT 7] [(34, vI (IntKind.i64.wrap (i75 + 1))), (32, .slice A43 l45.length c44), (31, vU x83), (27, .slice A70 l72.length c71), (3, .slice A38 l40.length c39), (4, .slice A43 l45.length c44), (5, .slice A70 l72.length c71), (6, vI i75)] [34, 32, 31, 27, 3, 4, 5, 6] (by kernel_rfl) ?_
       obtain ⟨x94, hv95, hp⟩ := obind hp
       obtain ⟨m96, hm97, hx98⟩ := idx_some hv95
       have hl101 := (List.getElem?_eq_some_iff.1 hx98).1
       obtain ⟨ad102, vs99, hA103, hr100, hq104⟩ := RdS.el h46 hx98
       obtain rfl := hr100
       refine ops_val (op := (Go.Op.indexAddr 63 (Go.Operand.tmp 32) (Go.Operand.tmp 34))) (d := some 35) (v := .pointer (some (ad102.add (m96 * 1)))) ⟨by kernel_rfl⟩ (run_indexA hA103 Try.underlying63 (z := 1) (by kernel_rfl) rfl rfl hm97 hl101) ?_
       refine oR [] [(35, .pointer (some (ad102.add (m96 * 1)))), (31, vU x83), (27, .slice A70 l72.length c71), (3, .slice A38 l40.length c39), (4, .slice A43 l45.length c44), (5, .slice A70 l72.length c71), (6, vI i75)] [35, 31, 27, 3, 4, 5, 6] (by kernel_rfl) ?_
       refine ops_load (d := some 36) (an := [.v (vU x94)]) (evs := [.load (ad102.add (m96 * 1)) (vU x94)]) (v := vU x94) ⟨by kernel_rfl⟩ (fun w_ hM => ⟨hM.elcell 1 rfl hq104 0 rfl, rfl⟩) ?_
       refine oR [] [(36, vU x94), (31, vU x83), (27, .slice A70 l72.length c71), (3, .slice A38 l40.length c39), (4, .slice A43 l45.length c44), (5, .slice A70 l72.length c71), (6, vI i75)] [36, 31, 27, 3, 4, 5, 6] (by kernel_rfl) ?_
       obtain ⟨x105, hv106, hp⟩ := obind hp
       refine ops_callI (σ := Unit) (d := some 37) (f := 110) (args := #[vU x83, vU x94]) (v := (fun _ => vU x105)) (I := (fun _ => True)) (M' := (fun _ => Mem w0 (orow A38 l40.length c39 63 1 y41 :: orow A70 l72.length c71 24 1 y73 :: Fz F47 W48 :: cs))) ⟨by kernel_rfl⟩ (fun w_ hM hS => (sum_Join_ok w0 w_ (orow A38 l40.length c39 63 1 y41 :: orow A70 l72.length c71 24 1 y73 :: cs) F47 W48 x83 x94 (hM.pick 3 [2, 0, 1] (by kernel_rfl) (by decide) rfl)  x105 hv106).mono (by rintro e w' ⟨-, rfl, h'⟩; have h' : Mem w0 (orow A38 l40.length c39 63 1 y41 :: orow A70 l72.length c71 24 1 y73 :: Fz F47 W48 :: cs) w' := (h'.pick 3 [1, 2, 0] (by kernel_rfl) (by decide) rfl); exact ⟨(), trivial, rfl, h', (by exact h'.sub (.cons_cons _ (.cons _ (.cons_cons _ (.refl _)))))⟩)) ?_
       rintro _ -
       refine ops_conv (l' := [(37, vU x105), (36, vU x94), (31, vU x83), (27, .slice A70 l72.length c71), (3, .slice A38 l40.length c39), (4, .slice A43 l45.length c44), (5, .slice A70 l72.length c71), (6, vI i75)]) (M' := Mem w0 (orow A38 l40.length c39 63 1 y41 :: orow A70 l72.length c71 24 1 y73 :: Fz F47 W48 :: cs)) rfl (fun _ h => h) ?_
       refine oR [] [(37, vU x105), (27, .slice A70 l72.length c71), (3, .slice A38 l40.length c39), (4, .slice A43 l45.length c44), (5, .slice A70 l72.length c71), (6, vI i75)] [37, 27, 3, 4, 5, 6] (by kernel_rfl) ?_
       have h107 : RepL (Rep.int .u64) F47 W48 ([x105] : List Int) ([vU x105]) := (RepL.cons (R := (Rep.int .u64)) (F := F47) (w := W48) (vs := [vU x105]) (ys := []) rfl RepL.nil)
       refine ops_new (d := some 38) (o := .cells ([vU x105]).toArray 24) (v := fun g108 => .slice (some ⟨g108, 0, none⟩) ([x105] : List Int).length 1) (M' := fun g108 => Mem w0 (orow (some ⟨g108, 0, none⟩) ([x105] : List Int).length 1 24 1 ([vU x105]) :: orow A38 l40.length c39 63 1 y41 :: orow A70 l72.length c71 24 1 y73 :: Fz F47 W48 :: cs)) (fun g108 => ⟨by kernel_rfl⟩) (fun w_ hM hS => ⟨hM.onew [vU x105] 24 1 1 rfl (by decide), hS.alloc _⟩) (fun g108 => ?_)
       refine oR [] [(38, .slice (some ⟨g108, 0, none⟩) ([x105] : List Int).length 1), (27, .slice A70 l72.length c71), (3, .slice A38 l40.length c39), (4, .slice A43 l45.length c44), (5, .slice A70 l72.length c71), (6, vI i75)] [38, 27, 3, 4, 5, 6] (by kernel_rfl) ?_
       obtain ⟨l109, hv110, hp⟩ := obind hp
       obtain ⟨he111, hb112⟩ := app_some hv110
       obtain ⟨y113, hy114⟩ : ∃ y_, y73 ++ ([vU x105]) = y_ := ⟨_, rfl⟩
       have h115 : RepL (Rep.int .u64) F47 W48 l109 y113 := by rw [he111, ← hy114]; exact RepL.app h74 h107
       refine ops_appendO (x := (Go.Operand.tmp 27)) (y := (Go.Operand.tmp 38)) (t := 63) (e := 24) (d := some 39) (n' := l109.length) (z := 1) (m := ([x105] : List Int).length) (bytes := 8) (xs' := y113) (news := ([vU x105])) (zv := vU 0) 2 ⟨by kernel_rfl⟩ rfl rfl Try.underlying63 (by kernel_rfl) (by rfl) rfl (fun w_ hM => hM.srcO 0 rfl) h107.len h107.one hb112 (by have z_ := congrArg List.length he111; rw [List.length_append] at z_; exact z_.symm) hy114 (fun _ _ _ _ hS h' => h'.sub (.cons _ (.cons_cons _ (.cons _ (.cons_cons _ (.refl _)))))) ?_
       rintro ⟨A116, c117⟩
       refine ops_conv (l' := [(39, .slice A116 l109.length c117), (38, .slice (some ⟨g108, 0, none⟩) ([x105] : List Int).length 1), (27, .slice A70 l72.length c71), (3, .slice A38 l40.length c39), (4, .slice A43 l45.length c44), (5, .slice A70 l72.length c71), (6, vI i75)]) (M' := Mem w0 (orow (some ⟨g108, 0, none⟩) ([x105] : List Int).length 1 24 1 ([vU x105]) :: orow A38 l40.length c39 63 1 y41 :: orow A116 l109.length c117 24 1 y113 :: Fz F47 W48 :: cs)) rfl (fun _ h => h) ?_
       refine oR [oT 13] [(5, .slice A116 l109.length c117), (3, .slice A38 l40.length c39), (4, .slice A43 l45.length c44), (6, vI i75)] [5, 3, 4, 6] (by kernel_rfl) ?_
       refine ops_nil ?_
       refine fin_block ?_
       exact fin_join HJ5 (A116, c117, l109, y113) ⟨hp, h115⟩ (look_has ⟨rfl, rfl, rfl, rfl, trivial⟩) (fun w_ hM => hM.pick 4 [1, 2, 3] (by kernel_rfl) (by decide) rfl)
      · --
       have hp := cnd_f hc82 hp
       refine st_region [oF 0, oF 1, oF 2, oF 3, oF 4, oF 5, oF 6, oF 7] (by rfl) ?_
       refine oR [oF 0, oF 1, oF 2] [(42, vI i75), (41, .slice A43 l45.length c44), (40, .slice A70 l72.length c71), (3, .slice A38 l40.length c39), (4, .slice A43 l45.length c44), (5, .slice A70 l72.length c71), (6, vI i75)] [42, 41, 40, 3, 4, 5, 6] (by kernel_rfl) ?_
       obtain ⟨x118, hv119, hp⟩ := obind hp
       obtain ⟨m120, hm121, hx122⟩ := idx_some hv119
       have hl125 := (List.getElem?_eq_some_iff.1 hx122).1
       obtain ⟨ad126, vs123, hA127, hr124, hq128⟩ := RdS.el h46 hx122
       obtain rfl := hr124
       refine ops_val (op := (Go.Op.indexAddr 63 (Go.Operand.tmp 41) (Go.Operand.tmp 42))) (d := some 43) (v := .pointer (some (ad126.add (m120 * 1)))) ⟨by kernel_rfl⟩ (run_indexA hA127 Try.underlying63 (z := 1) (by kernel_rfl) rfl rfl hm121 hl125) ?_
       refine oR [] [(43, .pointer (some (ad126.add (m120 * 1)))), (40, .slice A70 l72.length c71), (3, .slice A38 l40.length c39), (4, .slice A43 l45.length c44), (5, .slice A70 l72.length c71), (6, vI i75)] [43, 40, 3, 4, 5, 6] (by kernel_rfl) ?_
       refine ops_mem (d := some 44) (an := [.v (vU x118)]) (evs := [.load (ad126.add (m120 * 1)) (vU x118)]) (v := vU x118) (M' := Mem w0 (orow A38 l40.length c39 63 1 y41 :: orow A70 l72.length c71 24 1 y73 :: Fz F47 W48 :: cs)) ⟨by kernel_rfl⟩ (fun w_ hM hS => ⟨w_, ⟨hM.elcell 2 rfl hq128 0 rfl, rfl⟩, hM, trivial⟩) ?_
       refine oR [] [(44, vU x118), (40, .slice A70 l72.length c71), (3, .slice A38 l40.length c39), (4, .slice A43 l45.length c44), (5, .slice A70 l72.length c71), (6, vI i75)] [44, 40, 3, 4, 5, 6] (by kernel_rfl) ?_
       have h129 : RepL (Rep.int .u64) F47 W48 ([x118] : List Int) ([vU x118]) := (RepL.cons (R := (Rep.int .u64)) (F := F47) (w := W48) (vs := [vU x118]) (ys := []) rfl RepL.nil)
       refine ops_new (d := some 45) (o := .cells ([vU x118]).toArray 24) (v := fun g130 => .slice (some ⟨g130, 0, none⟩) ([x118] : List Int).length 1) (M' := fun g130 => Mem w0 (orow (some ⟨g130, 0, none⟩) ([x118] : List Int).length 1 24 1 ([vU x118]) :: orow A38 l40.length c39 63 1 y41 :: orow A70 l72.length c71 24 1 y73 :: Fz F47 W48 :: cs)) (fun g130 => ⟨by kernel_rfl⟩) (fun w_ hM hS => ⟨hM.onew [vU x118] 24 1 1 rfl (by decide), trivial⟩) (fun g130 => ?_)
       refine oR [] [(45, .slice (some ⟨g130, 0, none⟩) ([x118] : List Int).length 1), (40, .slice A70 l72.length c71), (3, .slice A38 l40.length c39), (4, .slice A43 l45.length c44), (5, .slice A70 l72.length c71), (6, vI i75)] [45, 40, 3, 4, 5, 6] (by kernel_rfl) ?_
       obtain ⟨l131, hv132, hp⟩ := obind hp
       obtain ⟨he133, hb134⟩ := app_some hv132
       obtain ⟨y135, hy136⟩ : ∃ y_, y73 ++ ([vU x118]) = y_ := ⟨_, rfl⟩
       have h137 : RepL (Rep.int .u64) F47 W48 l131 y135 := by rw [he133, ← hy136]; exact RepL.app h74 h129
       refine ops_appendO (x := (Go.Operand.tmp 40)) (y := (Go.Operand.tmp 45)) (t := 63) (e := 24) (d := some 46) (n' := l131.length) (z := 1) (m := ([x118] : List Int).length) (bytes := 8) (xs' := y135) (news := ([vU x118])) (zv := vU 0) 2 ⟨by kernel_rfl⟩ rfl rfl Try.underlying63 (by kernel_rfl) (by rfl) rfl (fun w_ hM => hM.srcO 0 rfl) h129.len h129.one hb134 (by have z_ := congrArg List.length he133; rw [List.length_append] at z_; exact z_.symm) hy136 (fun _ _ _ _ hS h' => trivial) ?_
       rintro ⟨A138, c139⟩
       refine ops_conv (l' := [(46, .slice A138 l131.length c139), (45, .slice (some ⟨g130, 0, none⟩) ([x118] : List Int).length 1), (40, .slice A70 l72.length c71), (3, .slice A38 l40.length c39), (4, .slice A43 l45.length c44), (5, .slice A70 l72.length c71), (6, vI i75)]) (M' := Mem w0 (orow (some ⟨g130, 0, none⟩) ([x118] : List Int).length 1 24 1 ([vU x118]) :: orow A38 l40.length c39 63 1 y41 :: orow A138 l131.length c139 24 1 y135 :: Fz F47 W48 :: cs)) rfl (fun _ h => h) ?_
       refine oR [oF 7] [(5, .slice A138 l131.length c139), (3, .slice A38 l40.length c39), (4, .slice A43 l45.length c44), (6, vI i75)] [5, 3, 4, 6] (by kernel_rfl) ?_
       refine ops_nil ?_
       refine fin_block ?_
       exact fin_join HJ5 (A138, c139, l131, y135) ⟨hp, h137⟩ (look_has ⟨rfl, rfl, rfl, rfl, trivial⟩) (fun w_ hM => hM.pick 4 [1, 2, 3] (by kernel_rfl) (by decide) rfl)
    · --
     have hp := cnd_f hc76 hp
     refine st_exit ?_
     refine fin_exit_then ?_
     refine fin_exit_then ?_
     refine fin_exit ?_
     obtain hq_ := Option.some.inj hp
     subst hq_
     obtain hq_ := hd4 _ rfl
     subst hq_
     have hp : (merkle_levels_j3 l40) l72 = some o2 := hk4
     exact fin_join HJ3 (A70, c71, l72, y73) ⟨hp, h74⟩ (look_has ⟨rfl, rfl, trivial⟩) (fun w_ hM => hM)
  · --
   have hp := cnd_f hc49 hp
   refine st_exit ?_
   refine fin_exit_then ?_
   refine fin_exit_then ?_
   refine fin_exit ?_
   obtain hq_ := Option.some.inj hp
   subst hq_
   obtain hq_ := hd2 _ rfl
   subst hq_
   have hp : merkle_levels_j1 l40 = some l9003 := hk2
   exact fin_join HJ1 (A38, c39, l40, y41, F47, W48) ⟨hp, h42, hx2⟩ (look_has ⟨rfl, trivial⟩) (fun w_ hM => hM)
def merkle_Narrow__t0 : List Row := [⟨0, 73786976294838206464, 128⟩, ⟨0, 147573952589676412928, 4096⟩, ⟨3, 295147905179352825856, 221360928884514619392⟩, ⟨4, 590295810358705651712, 295147905179352825856⟩, ⟨0, 1180591620717411303424, 1024⟩, ⟨24, 2361183241434822606848, 1770887431076116955136⟩, ⟨32, 4722366482869645213696, 2361183241434822606848⟩, ⟨0, 9444732965739290427392, 256⟩, ⟨0, 18889465931478580854784, 4096⟩, ⟨384, 37778931862957161709568, 28334198897217871282176⟩, ⟨512, 75557863725914323419136, 37778931862957161709568⟩, ⟨0, 151115727451828646838272, 1024⟩, ⟨3072, 302231454903657293676544, 226673591177742970257408⟩, ⟨4096, 604462909807314587353088, 302231454903657293676544⟩, ⟨8256, 1208925819614629174706176, 609185276290184232566784⟩]
set_option maxHeartbeats 4000000 in
set_option maxRecDepth 100000 in
theorem merkle_Narrow_ok (w0 w : World) (cs : List Chunk) (F : Nat → Prop) (W : World) (A_a : Option Addr) (c_a : Nat) (a : List Int) (A_b : Option Addr) (c_b : Nat) (b : List Int) (hM0 : Mem w0 (Fz F W :: cs) w) (h_a : RdS (Rep.int .u64) F W A_a c_a a) (h_b : RdS (Rep.int .u64) F W A_b c_b b) (i9001 : Int) (i9002 : Int) (hp : merkle_Narrow a b = some (i9001, i9002)) : Calls Try.prog 43 #[.slice A_a a.length c_a, .slice A_b b.length c_b] w fun e w' => ∃ (F9003 : Nat → Prop), ∃ (W9004 : World), ((Ext w0 F W F9003 W9004)) ∧ e = .returned (.tuple #[vI i9001, vI i9002]) ∧ Mem w0 (Fz F9003 W9004 :: cs) w' := by
 unfold merkle_Narrow at hp
 refine sx_calls Try.func43 rfl (n := 85) (by kernel_rfl) (l := [(0, .slice A_a a.length c_a), (1, .slice A_b b.length c_b)]) rfl (by rfl) hM0 ?_
 refine st_seq ?_
 refine st_region [oF 0, oF 1] (by rfl) ?_
 refine oR [oF 0, oF 1] [(0, .slice A_a a.length c_a), (1, .slice A_b b.length c_b)] [0, 1] (by kernel_rfl) ?_
 refine ops_nil ?_
 refine fin_then ?_
 refine st_seq ?_
 refine st_region [oF 0, oF 1, oF 2, oF 3, oF 4, oF 5] (by rfl) ?_
 refine oR [oF 0, oF 1, oF 2, oF 3] [(16, vI (b.length : Int)), (14, vI (a.length : Int)), (0, .slice A_a a.length c_a), (1, .slice A_b b.length c_b)] [16, 14, 0, 1] (by kernel_rfl) ?_
 refine ops_val (op := (Go.Op.call { callee := (Go.Callee.builtin Go.Builtin.max), args := #[(Go.Operand.tmp 14), (Go.Operand.tmp 16)], argTypes := #[3, 3] })) (d := some 17) (v := vI (max (a.length : Int) (b.length : Int))) ⟨by kernel_rfl⟩ (run_max rfl rfl) ?_
 refine oR [oF 5] [(6, vI (max (a.length : Int) (b.length : Int))), (0, .slice A_a a.length c_a), (1, .slice A_b b.length c_b)] [6, 0, 1] (by kernel_rfl) ?_
 refine ops_nil ?_
 refine fin_then ?_
 refine st_seq ?_
 refine st_seq ?_
 refine st_region [oF 0, oF 1, oF 2, oF 3, oF 4, oF 5] (by rfl) ?_
 refine oR [oF 0, oF 1, oF 2] [(20, .bool (max (a.length : Int) (b.length : Int) == 0)), (6, vI (max (a.length : Int) (b.length : Int))), (0, .slice A_a a.length c_a), (1, .slice A_b b.length c_b)] [20, 6, 0, 1] (by kernel_rfl) ?_
 refine ops_bool (t := (max (a.length : Int) (b.length : Int) == 0)) (l1 := [(20, .bool true), (6, vI (max (a.length : Int) (b.length : Int))), (0, .slice A_a a.length c_a), (1, .slice A_b b.length c_b)]) (l2 := [(20, .bool false), (6, vI (max (a.length : Int) (b.length : Int))), (0, .slice A_a a.length c_a), (1, .slice A_b b.length c_b)]) (fun h => by rw [h]) (fun h => by rw [h]) (fun hc1 => ?_) (fun hc1 => ?_)
 · --
  have hp := cnd_t hc1 hp
  refine oR [oF 3, oF 4, oF 5] [(23, .bool true), (0, .slice A_a a.length c_a), (1, .slice A_b b.length c_b)] [23, 0, 1] (by kernel_rfl) ?_
  refine ops_nil ?_
  refine fin_then ?_
  refine st_true rfl ?_
  refine st_seq ?_
  refine st_region [oF 0, oF 1] (by rfl) ?_
  refine oR [oF 0, oF 1] [(5, vI 0), (4, vI (-1))] [5, 4] (by kernel_rfl) ?_
  refine ops_nil ?_
  refine fin_then ?_
  refine st_ret ?_
  refine fin_ret_then ?_
  have hq_ := Option.some.inj hp
  obtain ⟨hr0_, hq_⟩ := Prod.mk.inj hq_
  have hr1_ := hq_
  subst hr0_
  subst hr1_
  refine fin_ret [.tmp 4, .tmp 5] [vI (-1), vI 0] rfl rfl (fun w_ hM => (.tmp rfl (.tmp rfl .nil))) (fun w_ hM => ?_)
  exact ⟨F, W, (Ext.refl _ _ _), rfl, hM⟩
 · --
  have hp := cnd_f hc1 hp
  refine oR [oF 3, oF 4, oF 5] [(23, .bool (decide (4096 < max (a.length : Int) (b.length : Int)))), (0, .slice A_a a.length c_a), (1, .slice A_b b.length c_b)] [23, 0, 1] (by kernel_rfl) ?_
  refine ops_nil ?_
  refine fin_then ?_
  refine st_if (b := decide (4096 < max (a.length : Int) (b.length : Int))) rfl (fun hc2 => ?_) (fun hc2 => ?_)
  · --
   have hp := cnd_t hc2 hp
   refine st_seq ?_
   refine st_region [oF 0, oF 1] (by rfl) ?_
   refine oR [oF 0, oF 1] [(5, vI 0), (4, vI (-1))] [5, 4] (by kernel_rfl) ?_
   refine ops_nil ?_
   refine fin_then ?_
   refine st_ret ?_
   refine fin_ret_then ?_
   have hq_ := Option.some.inj hp
   obtain ⟨hr0_, hq_⟩ := Prod.mk.inj hq_
   have hr1_ := hq_
   subst hr0_
   subst hr1_
   refine fin_ret [.tmp 4, .tmp 5] [vI (-1), vI 0] rfl rfl (fun w_ hM => (.tmp rfl (.tmp rfl .nil))) (fun w_ hM => ?_)
   exact ⟨F, W, (Ext.refl _ _ _), rfl, hM⟩
  · --
   have hp := cnd_f hc2 hp
   refine st_skip ?_
   refine fin_then ?_
   refine st_seq ?_
   refine st_region [oF 0, oF 1, oF 2, oF 3, oF 4, oF 5, oF 6, oF 7, oF 8, oF 9] (by rfl) ?_
   refine oR [oF 0, oF 1] [(25, .slice A_b b.length c_b), (24, .slice A_a a.length c_a), (0, .slice A_a a.length c_a), (1, .slice A_b b.length c_b)] [25, 24, 0, 1] (by kernel_rfl) ?_
   obtain ⟨x3, hv4, hp⟩ := obind hp
   refine ops_callI (σ := (Option Addr) × Nat × (List Value)) (d := some 26) (f := 107) (args := #[.slice A_a a.length c_a, .slice A_b b.length c_b]) (v := (fun x_ => match x_ with | (A5, c6, y7) => .slice A5 x3.length c6)) (I := (fun x_ => match x_ with | (A5, c6, y7) => (RepL (Rep.int .u64) F W x3 y7))) (M' := (fun x_ => match x_ with | (A5, c6, y7) => Mem w0 (orow A5 x3.length c6 24 1 y7 :: Fz F W :: cs))) ⟨by kernel_rfl⟩ (fun w_ hM hS => (merkle_filled_ok w0 w_ (cs) F W A_a c_a a A_b c_b b hM h_a h_b x3 hv4).mono (by rintro e w' ⟨A5, c6, y7, h8, rfl, h'⟩; have h' : Mem w0 (orow A5 x3.length c6 24 1 y7 :: Fz F W :: cs) w' := h'; exact ⟨(A5, c6, y7), h8, rfl, h', trivial⟩)) ?_
   rintro ⟨A5, c6, y7⟩ h8
   refine ops_conv (l' := [(26, .slice A5 x3.length c6), (25, .slice A_b b.length c_b), (24, .slice A_a a.length c_a), (0, .slice A_a a.length c_a), (1, .slice A_b b.length c_b)]) (M' := Mem w0 (orow A5 x3.length c6 24 1 y7 :: Fz F W :: cs)) rfl (fun _ h => h) ?_
   refine oR [] [(26, .slice A5 x3.length c6), (0, .slice A_a a.length c_a), (1, .slice A_b b.length c_b)] [26, 0, 1] (by kernel_rfl) ?_
   refine ops_ex (σ := (Nat → Prop) × World) (I := fun x_ => Ext w0 F W x_.1 x_.2 ∧ RdS (Rep.int .u64) x_.1 x_.2 A5 c6 x3) (M' := fun x_ => Mem w0 (Fz x_.1 x_.2 :: cs)) (fun w_ hM => ?_) ?_
   · obtain ⟨F_, h1_, h2_, h3_⟩ := (hM.pick 2 [0, 1] (by kernel_rfl) (by decide) rfl : Mem w0 (orow A5 x3.length c6 24 1 y7 :: Fz F W :: cs) w_).freeze (z := 1) h8 rfl rfl
     exact ⟨(F_, w_), ⟨h1_, h2_⟩, h3_.pick 1 [0] (by kernel_rfl) (by decide) rfl⟩
   rintro ⟨F9, W10⟩ ⟨hx11, h12⟩
   have hx11 : Ext w0 F W F9 W10 := hx11
   have h12 : RdS (Rep.int .u64) F9 W10 A5 c6 x3 := h12
   have h_a := h_a.ext hx11
   have h_b := h_b.ext hx11
   refine ops_conv (l' := [(26, .slice A5 x3.length c6), (0, .slice A_a a.length c_a), (1, .slice A_b b.length c_b)]) (M' := Mem w0 (Fz F9 W10 :: cs)) rfl (fun _ h => h) ?_
   obtain ⟨x13, hv14, hp⟩ := obind hp
   refine ops_callI (σ := (Option Addr) × Nat × (List Value) × (Nat → Prop) × World) (d := some 27) (f := 106) (args := #[.slice A5 x3.length c6]) (v := (fun x_ => match x_ with | (A15, c16, y17, F18, W19) => .slice A15 x13.length c16)) (I := (fun x_ => match x_ with | (A15, c16, y17, F18, W19) => (RepL (Rep.sl (Rep.int .u64)) F18 W19 x13 y17) ∧ (Ext w0 F9 W10 F18 W19))) (M' := (fun x_ => match x_ with | (A15, c16, y17, F18, W19) => Mem w0 (orow A15 x13.length c16 63 1 y17 :: Fz F18 W19 :: cs))) ⟨by kernel_rfl⟩ (fun w_ hM hS => (merkle_levels_ok w0 w_ (cs) F9 W10 A5 c6 x3 hM h12 x13 hv14).mono (by rintro e w' ⟨A15, c16, y17, F18, W19, ⟨h20, h21⟩, rfl, h'⟩; have h' : Mem w0 (orow A15 x13.length c16 63 1 y17 :: Fz F18 W19 :: cs) w' := h'; exact ⟨(A15, c16, y17, F18, W19), ⟨h20, h21⟩, rfl, h', trivial⟩)) ?_
   rintro ⟨A15, c16, y17, F18, W19⟩ ⟨h20, h21⟩
   have h12 := h12.ext h21
   have h_a := h_a.ext h21
   have h_b := h_b.ext h21
   refine ops_conv (l' := [(27, .slice A15 x13.length c16), (26, .slice A5 x3.length c6), (0, .slice A_a a.length c_a), (1, .slice A_b b.length c_b)]) (M' := Mem w0 (orow A15 x13.length c16 63 1 y17 :: Fz F18 W19 :: cs)) rfl (fun _ h => h) ?_
   refine oR [oF 4, oF 5] [(29, .slice A_a a.length c_a), (28, .slice A_b b.length c_b), (27, .slice A15 x13.length c16)] [29, 28, 27] (by kernel_rfl) ?_
   obtain ⟨x22, hv23, hp⟩ := obind hp
   refine ops_callI (σ := (Option Addr) × Nat × (List Value)) (d := some 30) (f := 107) (args := #[.slice A_b b.length c_b, .slice A_a a.length c_a]) (v := (fun x_ => match x_ with | (A24, c25, y26) => .slice A24 x22.length c25)) (I := (fun x_ => match x_ with | (A24, c25, y26) => (RepL (Rep.int .u64) F18 W19 x22 y26))) (M' := (fun x_ => match x_ with | (A24, c25, y26) => Mem w0 (orow A24 x22.length c25 24 1 y26 :: orow A15 x13.length c16 63 1 y17 :: Fz F18 W19 :: cs))) ⟨by kernel_rfl⟩ (fun w_ hM hS => (merkle_filled_ok w0 w_ (orow A15 x13.length c16 63 1 y17 :: cs) F18 W19 A_b c_b b A_a c_a a (hM.pick 2 [1, 0] (by kernel_rfl) (by decide) rfl) h_b h_a x22 hv23).mono (by rintro e w' ⟨A24, c25, y26, h27, rfl, h'⟩; have h' : Mem w0 (orow A24 x22.length c25 24 1 y26 :: orow A15 x13.length c16 63 1 y17 :: Fz F18 W19 :: cs) w' := (h'.pick 3 [0, 2, 1] (by kernel_rfl) (by decide) rfl); exact ⟨(A24, c25, y26), h27, rfl, h', trivial⟩)) ?_
   rintro ⟨A24, c25, y26⟩ h27
   refine ops_conv (l' := [(30, .slice A24 x22.length c25), (29, .slice A_a a.length c_a), (28, .slice A_b b.length c_b), (27, .slice A15 x13.length c16)]) (M' := Mem w0 (orow A24 x22.length c25 24 1 y26 :: orow A15 x13.length c16 63 1 y17 :: Fz F18 W19 :: cs)) rfl (fun _ h => h) ?_
   refine oR [] [(30, .slice A24 x22.length c25), (27, .slice A15 x13.length c16)] [30, 27] (by kernel_rfl) ?_
   refine ops_ex (σ := (Nat → Prop) × World) (I := fun x_ => Ext w0 F18 W19 x_.1 x_.2 ∧ RdS (Rep.int .u64) x_.1 x_.2 A24 c25 x22) (M' := fun x_ => Mem w0 (orow A15 x13.length c16 63 1 y17 :: Fz x_.1 x_.2 :: cs)) (fun w_ hM => ?_) ?_
   · obtain ⟨F_, h1_, h2_, h3_⟩ := (hM.pick 3 [0, 2, 1] (by kernel_rfl) (by decide) rfl : Mem w0 (orow A24 x22.length c25 24 1 y26 :: Fz F18 W19 :: orow A15 x13.length c16 63 1 y17 :: cs) w_).freeze (z := 1) h27 rfl rfl
     exact ⟨(F_, w_), ⟨h1_, h2_⟩, h3_.pick 2 [1, 0] (by kernel_rfl) (by decide) rfl⟩
   rintro ⟨F28, W29⟩ ⟨hx30, h31⟩
   have hx30 : Ext w0 F18 W19 F28 W29 := hx30
   have h31 : RdS (Rep.int .u64) F28 W29 A24 c25 x22 := h31
   have h20 := h20.ext hx30
   refine ops_conv (l' := [(30, .slice A24 x22.length c25), (27, .slice A15 x13.length c16)]) (M' := Mem w0 (orow A15 x13.length c16 63 1 y17 :: Fz F28 W29 :: cs)) rfl (fun _ h => h) ?_
   obtain ⟨x32, hv33, hp⟩ := obind hp
   refine ops_callI (σ := (Option Addr) × Nat × (List Value) × (Nat → Prop) × World) (d := some 31) (f := 106) (args := #[.slice A24 x22.length c25]) (v := (fun x_ => match x_ with | (A34, c35, y36, F37, W38) => .slice A34 x32.length c35)) (I := (fun x_ => match x_ with | (A34, c35, y36, F37, W38) => (RepL (Rep.sl (Rep.int .u64)) F37 W38 x32 y36) ∧ (Ext w0 F28 W29 F37 W38))) (M' := (fun x_ => match x_ with | (A34, c35, y36, F37, W38) => Mem w0 (orow A34 x32.length c35 63 1 y36 :: orow A15 x13.length c16 63 1 y17 :: Fz F37 W38 :: cs))) ⟨by kernel_rfl⟩ (fun w_ hM hS => (merkle_levels_ok w0 w_ (orow A15 x13.length c16 63 1 y17 :: cs) F28 W29 A24 c25 x22 (hM.pick 2 [1, 0] (by kernel_rfl) (by decide) rfl) h31 x32 hv33).mono (by rintro e w' ⟨A34, c35, y36, F37, W38, ⟨h39, h40⟩, rfl, h'⟩; have h' : Mem w0 (orow A34 x32.length c35 63 1 y36 :: orow A15 x13.length c16 63 1 y17 :: Fz F37 W38 :: cs) w' := (h'.pick 3 [0, 2, 1] (by kernel_rfl) (by decide) rfl); exact ⟨(A34, c35, y36, F37, W38), ⟨h39, h40⟩, rfl, h', trivial⟩)) ?_
   rintro ⟨A34, c35, y36, F37, W38⟩ ⟨h39, h40⟩
   have h31 := h31.ext h40
   have h20 := h20.ext h40
   refine ops_conv (l' := [(31, .slice A34 x32.length c35), (30, .slice A24 x22.length c25), (27, .slice A15 x13.length c16)]) (M' := Mem w0 (orow A34 x32.length c35 63 1 y36 :: orow A15 x13.length c16 63 1 y17 :: Fz F37 W38 :: cs)) rfl (fun _ h => h) ?_
   refine oR [oF 8, oF 9] [(8, .slice A34 x32.length c35), (7, .slice A15 x13.length c16)] [8, 7] (by kernel_rfl) ?_
   refine ops_nil ?_
   refine fin_then ?_
   refine st_seq ?_
   refine st_region [oF 0, oF 1, oF 2, oF 3] (by rfl) ?_
   refine oR [oF 0, oF 1, oF 2, oF 3] [(9, vI (IntKind.i64.wrap ((x13.length : Int) - 1))), (8, .slice A34 x32.length c35), (7, .slice A15 x13.length c16)] [9, 8, 7] (by kernel_rfl) ?_
   refine ops_nil ?_
   refine fin_then ?_
   refine st_seq ?_
   refine st_seq ?_
   refine st_region_draw [oT 0, oT 1, oT 2, oT 3, oT 4, oT 5, oT 6, oT 7, oT 8, oT 9, oT 10, oT 11, oT 12] (Mem w0 (orow A34 x32.length c35 63 1 y36 :: orow A15 x13.length c16 63 1 y17 :: Fz F37 W38 :: cs)) (by kernel_rfl) (by kernel_rfl) (by kernel_rfl) (fun _ d _ _ _ h => by cases d <;> exact h) (M' := Mem w0 (orow A34 x32.length c35 63 1 y36 :: orow A15 x13.length c16 63 1 y17 :: Fz F37 W38 :: cs)) (fun w_ hM => ⟨hM.drew, hM.drew.sub (.cons_cons _ (.cons_cons _ (.cons_cons _ (.refl _))))⟩) ?_
   refine oR [oT 0, oT 1] [(36, vI (IntKind.i64.wrap ((x13.length : Int) - 1))), (35, .slice A15 x13.length c16), (9, vI (IntKind.i64.wrap ((x13.length : Int) - 1))), (8, .slice A34 x32.length c35), (7, .slice A15 x13.length c16)] [36, 35, 9, 8, 7] (by kernel_rfl) ?_
   obtain ⟨x41, hv42, hp⟩ := obind hp
   obtain ⟨m43, hm44, hx45⟩ := idx_some hv42
   have hl48 := (List.getElem?_eq_some_iff.1 hx45).1
   refine ops_fact (fun w_ hM => hM.orowSome 1 rfl (Nat.lt_of_le_of_lt (Nat.zero_le _) hl48)) ?_
   rintro ⟨g49, rfl, -⟩
   obtain ⟨vs46, hr47, hq50⟩ := h20.at_ m43 x41 hx45
   obtain ⟨A51, c52, rfl, h53⟩ := hr47
   refine ops_val (op := (Go.Op.indexAddr 138 (Go.Operand.tmp 35) (Go.Operand.tmp 36))) (d := some 37) (v := vP g49 (m43 * 1)) ⟨by kernel_rfl⟩ (run_indexRow Try.underlying138 (z := 1) (by kernel_rfl) rfl rfl hm44 hl48 rfl) ?_
   refine oR [] [(37, vP g49 (m43 * 1)), (9, vI (IntKind.i64.wrap ((x13.length : Int) - 1))), (8, .slice A34 x32.length c35), (7, .slice (some ⟨g49, 0, none⟩) x13.length c16)] [37, 9, 8, 7] (by kernel_rfl) ?_
   refine ops_load (d := some 38) (an := [.v (.slice A51 x41.length c52)]) (evs := [.load ⟨g49, m43 * 1, none⟩ (.slice A51 x41.length c52)]) (v := .slice A51 x41.length c52) ⟨by kernel_rfl⟩ (fun w_ hM => ⟨hM.ocell 1 rfl (hq50 0 _ rfl), rfl⟩) ?_
   refine oR [] [(38, .slice A51 x41.length c52), (9, vI (IntKind.i64.wrap ((x13.length : Int) - 1))), (8, .slice A34 x32.length c35), (7, .slice (some ⟨g49, 0, none⟩) x13.length c16)] [38, 9, 8, 7] (by kernel_rfl) ?_
   obtain ⟨x54, hv55, hp⟩ := obind hp
   obtain ⟨m56, hm57, hx58⟩ := idx_some hv55
   have hl61 := (List.getElem?_eq_some_iff.1 hx58).1
   obtain ⟨ad62, vs59, hA63, hr60, hq64⟩ := RdS.el h53 hx58
   obtain rfl := hr60
   refine ops_val (op := (Go.Op.indexAddr 63 (Go.Operand.tmp 38) (Go.Operand.const (Go.Value.int Go.IntKind.i64 0)))) (d := some 39) (v := .pointer (some (ad62.add (m56 * 1)))) ⟨by kernel_rfl⟩ (run_indexA hA63 Try.underlying63 (z := 1) (by kernel_rfl) rfl rfl hm57 hl61) ?_
   refine oR [] [(39, .pointer (some (ad62.add (m56 * 1)))), (9, vI (IntKind.i64.wrap ((x13.length : Int) - 1))), (8, .slice A34 x32.length c35), (7, .slice (some ⟨g49, 0, none⟩) x13.length c16)] [39, 9, 8, 7] (by kernel_rfl) ?_
   refine ops_load (d := some 40) (an := [.v (vU x54)]) (evs := [.load (ad62.add (m56 * 1)) (vU x54)]) (v := vU x54) ⟨by kernel_rfl⟩ (fun w_ hM => ⟨hM.elcell 2 rfl hq64 0 rfl, rfl⟩) ?_
   refine oR [oT 6, oT 7] [(42, vI (IntKind.i64.wrap ((x13.length : Int) - 1))), (41, .slice A34 x32.length c35), (40, vU x54), (9, vI (IntKind.i64.wrap ((x13.length : Int) - 1))), (8, .slice A34 x32.length c35), (7, .slice (some ⟨g49, 0, none⟩) x13.length c16)] [42, 41, 40, 9, 8, 7] (by kernel_rfl) ?_
   obtain ⟨x65, hv66, hp⟩ := obind hp
   obtain ⟨m67, hm68, hx69⟩ := idx_some hv66
   have hl72 := (List.getElem?_eq_some_iff.1 hx69).1
   refine ops_fact (fun w_ hM => hM.orowSome 0 rfl (Nat.lt_of_le_of_lt (Nat.zero_le _) hl72)) ?_
   rintro ⟨g73, rfl, -⟩
   obtain ⟨vs70, hr71, hq74⟩ := h39.at_ m67 x65 hx69
   obtain ⟨A75, c76, rfl, h77⟩ := hr71
   refine ops_val (op := (Go.Op.indexAddr 138 (Go.Operand.tmp 41) (Go.Operand.tmp 42))) (d := some 43) (v := vP g73 (m67 * 1)) ⟨by kernel_rfl⟩ (run_indexRow Try.underlying138 (z := 1) (by kernel_rfl) rfl rfl hm68 hl72 rfl) ?_
   refine oR [] [(43, vP g73 (m67 * 1)), (40, vU x54), (9, vI (IntKind.i64.wrap ((x13.length : Int) - 1))), (8, .slice (some ⟨g73, 0, none⟩) x32.length c35), (7, .slice (some ⟨g49, 0, none⟩) x13.length c16)] [43, 40, 9, 8, 7] (by kernel_rfl) ?_
   refine ops_load (d := some 44) (an := [.v (.slice A75 x65.length c76)]) (evs := [.load ⟨g73, m67 * 1, none⟩ (.slice A75 x65.length c76)]) (v := .slice A75 x65.length c76) ⟨by kernel_rfl⟩ (fun w_ hM => ⟨hM.ocell 0 rfl (hq74 0 _ rfl), rfl⟩) ?_
   refine oR [] [(44, .slice A75 x65.length c76), (40, vU x54), (9, vI (IntKind.i64.wrap ((x13.length : Int) - 1))), (8, .slice (some ⟨g73, 0, none⟩) x32.length c35), (7, .slice (some ⟨g49, 0, none⟩) x13.length c16)] [44, 40, 9, 8, 7] (by kernel_rfl) ?_
   obtain ⟨x78, hv79, hp⟩ := obind hp
   obtain ⟨m80, hm81, hx82⟩ := idx_some hv79
   have hl85 := (List.getElem?_eq_some_iff.1 hx82).1
   obtain ⟨ad86, vs83, hA87, hr84, hq88⟩ := RdS.el h77 hx82
   obtain rfl := hr84
   refine ops_val (op := (Go.Op.indexAddr 63 (Go.Operand.tmp 44) (Go.Operand.const (Go.Value.int Go.IntKind.i64 0)))) (d := some 45) (v := .pointer (some (ad86.add (m80 * 1)))) ⟨by kernel_rfl⟩ (run_indexA hA87 Try.underlying63 (z := 1) (by kernel_rfl) rfl rfl hm81 hl85) ?_
   refine oR [] [(45, .pointer (some (ad86.add (m80 * 1)))), (40, vU x54), (9, vI (IntKind.i64.wrap ((x13.length : Int) - 1))), (8, .slice (some ⟨g73, 0, none⟩) x32.length c35), (7, .slice (some ⟨g49, 0, none⟩) x13.length c16)] [45, 40, 9, 8, 7] (by kernel_rfl) ?_
   refine ops_load (d := some 46) (an := [.v (vU x78)]) (evs := [.load (ad86.add (m80 * 1)) (vU x78)]) (v := vU x78) ⟨by kernel_rfl⟩ (fun w_ hM => ⟨hM.elcell 2 rfl hq88 0 rfl, rfl⟩) ?_
   refine oR [oT 12] [(47, .bool (x54 == x78)), (9, vI (IntKind.i64.wrap ((x13.length : Int) - 1))), (8, .slice (some ⟨g73, 0, none⟩) x32.length c35), (7, .slice (some ⟨g49, 0, none⟩) x13.length c16)] [47, 9, 8, 7] (by kernel_rfl) ?_
   refine ops_nil ?_
   refine fin_then ?_
   refine st_if (b := (x54 == x78)) rfl (fun hc89 => ?_) (fun hc89 => ?_)
   · --
    have hp := cnd_t hc89 hp
    refine st_seq ?_
    refine st_region [oF 0, oF 1] (by rfl) ?_
    refine oR [oF 0, oF 1] [(5, vI 1), (4, vI (-1))] [5, 4] (by kernel_rfl) ?_
    refine ops_nil ?_
    refine fin_then ?_
    refine st_ret ?_
    refine fin_ret_then ?_
    have hq_ := Option.some.inj hp
    obtain ⟨hr0_, hq_⟩ := Prod.mk.inj hq_
    have hr1_ := hq_
    subst hr0_
    subst hr1_
    refine fin_ret [.tmp 4, .tmp 5] [vI (-1), vI 1] rfl rfl (fun w_ hM => (.tmp rfl (.tmp rfl .nil))) (fun w_ hM => ?_)
    exact ⟨F37, W38, (((hx11.trans h21).trans hx30).trans h40), rfl, hM.pick 3 [2] (by kernel_rfl) (by decide) rfl⟩
   · --
    have hp := cnd_f hc89 hp
    refine st_skip ?_
    refine fin_then ?_
    refine st_seq ?_
    refine st_region [oF 0, oF 1] (by rfl) ?_
    refine oR [oF 0, oF 1] [(11, vI 1), (10, vI 0), (9, vI (IntKind.i64.wrap ((x13.length : Int) - 1))), (8, .slice (some ⟨g73, 0, none⟩) x32.length c35), (7, .slice (some ⟨g49, 0, none⟩) x13.length c16)] [11, 10, 9, 8, 7] (by kernel_rfl) ?_
    refine ops_nil ?_
    refine fin_then ?_
    refine st_join1 (σ := Int × Int) (L := fun x_ => match x_ with | (i90, i91) => [(10, vI i90), (11, vI i91)]) (N := fun x_ => match x_ with | (i90, i91) => Mem w0 (Fz F37 W38 :: cs)) (I := fun x_ => match x_ with | (i90, i91) => (merkle_Narrow_j1 i90 i91 = some (i9001, i9002))) ?_ ?_
    · --
     rintro ⟨i90, i91⟩ hp
     refine st_conv (l' := [(10, vI i90), (11, vI i91)]) (M' := Mem w0 (Fz F37 W38 :: cs)) rfl (fun _ h => h) ?_
     unfold merkle_Narrow_j1 at hp
     refine st_seq ?_
     refine st_region [oF 0, oF 1, oF 2, oF 3] (by rfl) ?_
     refine oR [oF 0, oF 1, oF 2, oF 3] [(5, vI i91), (4, vI i90)] [5, 4] (by kernel_rfl) ?_
     refine ops_nil ?_
     refine fin_then ?_
     refine st_ret ?_
     have hq_ := Option.some.inj hp
     obtain ⟨hr0_, hq_⟩ := Prod.mk.inj hq_
     have hr1_ := hq_
     subst hr0_
     subst hr1_
     refine fin_ret [.tmp 4, .tmp 5] [vI i90, vI i91] rfl rfl (fun w_ hM => (.tmp rfl (.tmp rfl .nil))) (fun w_ hM => ?_)
     exact ⟨F37, W38, (((hx11.trans h21).trans hx30).trans h40), rfl, hM⟩
    · --
     intro HJ1
     refine st_seq ?_
     refine st_seq ?_
     refine st_region [oF 0, oF 1, oF 2] (by rfl) ?_
     refine oR [oF 0, oF 1, oF 2] [(12, vI (IntKind.i64.wrap (IntKind.i64.wrap ((x13.length : Int) - 1) - 1))), (11, vI 1), (10, vI 0), (8, .slice (some ⟨g73, 0, none⟩) x32.length c35), (7, .slice (some ⟨g49, 0, none⟩) x13.length c16)] [12, 11, 10, 8, 7] (by kernel_rfl) ?_
     obtain ⟨x92, hv93, hp⟩ := obind hp
     refine ops_conv (l' := [(12, vI x92), (11, vI 1), (10, vI 0), (8, .slice (some ⟨g73, 0, none⟩) x32.length c35), (7, .slice (some ⟨g49, 0, none⟩) x13.length c16)]) (by rw [← Option.some.inj hv93]) (fun _ h => h) ?_
     refine ops_nil ?_
     refine fin_then ?_
     refine st_block ?_
     obtain ⟨r2, hl2, hk2⟩ := obind hp
     refine st_loopP (σ := Int × Int × Int) (ρ := Int × Int) (γ := Unit) hl2 () (fun s_ g_ => match s_, g_ with | (i94, i95, i96), _ => [(7, .slice (some ⟨g49, 0, none⟩) x13.length c16), (8, .slice (some ⟨g73, 0, none⟩) x32.length c35), (10, vI i94), (11, vI i95), (12, vI i96)]) (fun s_ g_ => match s_, g_ with | (i94, i95, i96), _ => Mem w0 (orow (some ⟨g49, 0, none⟩) x13.length c16 63 1 y17 :: orow (some ⟨g73, 0, none⟩) x32.length c35 63 1 y36 :: Fz F37 W38 :: cs)) (fun s_ g_ => match s_, g_ with | (i94, i95, i96), _ => True) trivial (look_has ⟨rfl, rfl, rfl, rfl, rfl, trivial⟩) (fun w_ hM => hM.pick 3 [1, 0, 2] (by kernel_rfl) (by decide) rfl) ?_
     rintro ⟨i94, i95, i96⟩ _ o2 - hs_ hd2
     have hp : (merkle_Narrow_l2 x13 x32) i94 i95 i96 = some o2 := hs_
     clear hs_
     unfold merkle_Narrow_l2 at hp
     refine st_conv (l' := [(7, .slice (some ⟨g49, 0, none⟩) x13.length c16), (8, .slice (some ⟨g73, 0, none⟩) x32.length c35), (10, vI i94), (11, vI i95), (12, vI i96)]) (M' := Mem w0 (orow (some ⟨g49, 0, none⟩) x13.length c16 63 1 y17 :: orow (some ⟨g73, 0, none⟩) x32.length c35 63 1 y36 :: Fz F37 W38 :: cs)) rfl (fun _ h => h) ?_
     refine st_seq ?_
     refine st_seq ?_
     refine st_region [oF 0, oF 1] (by rfl) ?_
     refine oR [oF 0, oF 1] [(51, .bool (decide (0 ≤ i96))), (7, .slice (some ⟨g49, 0, none⟩) x13.length c16), (8, .slice (some ⟨g73, 0, none⟩) x32.length c35), (10, vI i94), (11, vI i95), (12, vI i96)] [51, 7, 8, 10, 11, 12] (by kernel_rfl) ?_
     refine ops_nil ?_
     refine fin_then ?_
     refine st_if (b := decide (0 ≤ i96)) rfl (fun hc97 => ?_) (fun hc97 => ?_)
     · --
      have hp := cnd_t hc97 hp
      refine st_skip ?_
      refine fin_then ?_
      refine st_join1 (σ := Int × Int) (L := fun x_ => match x_ with | (i98, i99) => [(7, .slice (some ⟨g49, 0, none⟩) x13.length c16), (8, .slice (some ⟨g73, 0, none⟩) x32.length c35), (10, vI i98), (11, vI i99), (12, vI i96)]) (N := fun x_ => match x_ with | (i98, i99) => Mem w0 (orow (some ⟨g49, 0, none⟩) x13.length c16 63 1 y17 :: orow (some ⟨g73, 0, none⟩) x32.length c35 63 1 y36 :: Fz F37 W38 :: cs)) (I := fun x_ => match x_ with | (i98, i99) => ((merkle_Narrow_j3 i96) i98 i99 = some o2)) ?_ ?_
      · --
       rintro ⟨i98, i99⟩ hp
       refine st_conv (l' := [(7, .slice (some ⟨g49, 0, none⟩) x13.length c16), (8, .slice (some ⟨g73, 0, none⟩) x32.length c35), (10, vI i98), (11, vI i99), (12, vI i96)]) (M' := Mem w0 (orow (some ⟨g49, 0, none⟩) x13.length c16 63 1 y17 :: orow (some ⟨g73, 0, none⟩) x32.length c35 63 1 y36 :: Fz F37 W38 :: cs)) rfl (fun _ h => h) ?_
       unfold merkle_Narrow_j3 at hp
       refine st_region [oF 0, oF 1, oF 2] (by rfl) ?_
       refine oR [oF 0, oF 1, oF 2] [(12, vI (IntKind.i64.wrap (i96 - 1))), (7, .slice (some ⟨g49, 0, none⟩) x13.length c16), (8, .slice (some ⟨g73, 0, none⟩) x32.length c35), (10, vI i98), (11, vI i99)] [12, 7, 8, 10, 11] (by kernel_rfl) ?_
       refine ops_nil ?_
       exact fin_again (i98, i99, IntKind.i64.wrap (i96 - 1)) () (Option.some.inj hp).symm trivial (look_has ⟨rfl, rfl, rfl, rfl, rfl, trivial⟩) (fun w_ hM => hM)
      · --
       intro HJ3
       refine st_seq ?_
       refine st_block ?_
       refine st_seq ?_
       refine st_region [oF 0, oF 1, oF 2] (by rfl) ?_
       refine oR [oF 0, oF 1, oF 2] [(10, vI (IntKind.i64.wrap (i94 * 2))), (7, .slice (some ⟨g49, 0, none⟩) x13.length c16), (8, .slice (some ⟨g73, 0, none⟩) x32.length c35), (11, vI i95), (12, vI i96)] [10, 7, 8, 11, 12] (by kernel_rfl) ?_
       refine ops_nil ?_
       refine fin_then ?_
       refine st_seq ?_
       refine st_seq ?_
       refine st_region [oF 0, oF 1, oF 2, oF 3, oF 4, oF 5, oF 6, oF 7] (by rfl) ?_
       refine oR [oF 0, oF 1, oF 2, oF 3] [(59, vI i96), (58, .slice (some ⟨g49, 0, none⟩) x13.length c16), (57, vI (IntKind.i64.wrap (IntKind.i64.wrap (i94 * 2) + 1))), (10, vI (IntKind.i64.wrap (i94 * 2))), (7, .slice (some ⟨g49, 0, none⟩) x13.length c16), (8, .slice (some ⟨g73, 0, none⟩) x32.length c35), (11, vI i95), (12, vI i96)] [59, 58, 57, 10, 7, 8, 11, 12] (by kernel_rfl) ?_
       obtain ⟨x100, hv101, hp⟩ := obind hp
       obtain ⟨m102, hm103, hx104⟩ := idx_some hv101
       have hl107 := (List.getElem?_eq_some_iff.1 hx104).1
       obtain ⟨vs105, hr106, hq108⟩ := h20.at_ m102 x100 hx104
       obtain ⟨A109, c110, rfl, h111⟩ := hr106
       refine ops_val (op := (Go.Op.indexAddr 138 (Go.Operand.tmp 58) (Go.Operand.tmp 59))) (d := some 60) (v := vP g49 (m102 * 1)) ⟨by kernel_rfl⟩ (run_indexRow Try.underlying138 (z := 1) (by kernel_rfl) rfl rfl hm103 hl107 rfl) ?_
       refine oR [] [(60, vP g49 (m102 * 1)), (57, vI (IntKind.i64.wrap (IntKind.i64.wrap (i94 * 2) + 1))), (10, vI (IntKind.i64.wrap (i94 * 2))), (7, .slice (some ⟨g49, 0, none⟩) x13.length c16), (8, .slice (some ⟨g73, 0, none⟩) x32.length c35), (11, vI i95), (12, vI i96)] [60, 57, 10, 7, 8, 11, 12] (by kernel_rfl) ?_
       refine ops_mem (d := some 61) (an := [.v (.slice A109 x100.length c110)]) (evs := [.load ⟨g49, m102 * 1, none⟩ (.slice A109 x100.length c110)]) (v := .slice A109 x100.length c110) (M' := Mem w0 (orow (some ⟨g49, 0, none⟩) x13.length c16 63 1 y17 :: orow (some ⟨g73, 0, none⟩) x32.length c35 63 1 y36 :: Fz F37 W38 :: cs)) ⟨by kernel_rfl⟩ (fun w_ hM hS => ⟨w_, ⟨hM.ocell 0 rfl (hq108 0 _ rfl), rfl⟩, hM, trivial⟩) ?_
       refine oR [oF 6, oF 7] [(63, .bool (IntKind.i64.wrap (IntKind.i64.wrap (i94 * 2) + 1) == (x100.length : Int))), (10, vI (IntKind.i64.wrap (i94 * 2))), (7, .slice (some ⟨g49, 0, none⟩) x13.length c16), (8, .slice (some ⟨g73, 0, none⟩) x32.length c35), (11, vI i95), (12, vI i96)] [63, 10, 7, 8, 11, 12] (by kernel_rfl) ?_
       refine ops_nil ?_
       refine fin_then ?_
       refine st_if (b := (IntKind.i64.wrap (IntKind.i64.wrap (i94 * 2) + 1) == (x100.length : Int))) rfl (fun hc112 => ?_) (fun hc112 => ?_)
       · --
        have hp := cnd_t hc112 hp
        refine st_exit ?_
        refine fin_exit_then ?_
        refine fin_exit ?_
        exact fin_join HJ3 (IntKind.i64.wrap (i94 * 2), i95) hp (look_has ⟨rfl, rfl, rfl, rfl, rfl, trivial⟩) (fun w_ hM => hM)
       · --
        have hp := cnd_f hc112 hp
        refine st_skip ?_
        refine fin_then ?_
        refine st_seq ?_
        refine st_region [oF 0, oF 1, oF 2] (by rfl) ?_
        refine oR [oF 0, oF 1, oF 2] [(11, vI (IntKind.i64.wrap (i95 + 1))), (10, vI (IntKind.i64.wrap (i94 * 2))), (7, .slice (some ⟨g49, 0, none⟩) x13.length c16), (8, .slice (some ⟨g73, 0, none⟩) x32.length c35), (12, vI i96)] [11, 10, 7, 8, 12] (by kernel_rfl) ?_
        refine ops_nil ?_
        refine fin_then ?_
        refine st_seq ?_
        refine st_region_fast merkle_Narrow__t0 [oT 0, oT 1, oT 2, oT 3, oT 4, oT 5, oT 6, oT 7, oT 8, oT 9, oT 10, oT 11, oT 12, oT 13, oT 14] (Mem w0 (orow (some ⟨g49, 0, none⟩) x13.length c16 63 1 y17 :: orow (some ⟨g73, 0, none⟩) x32.length c35 63 1 y36 :: Fz F37 W38 :: cs)) (by kernel_rfl) (by kernel_rfl) (by kernel_rfl) (by kernel_rfl) (by kernel_rfl) (fun _ d _ _ _ h => by cases d <;> exact h) (M' := Mem w0 (orow (some ⟨g49, 0, none⟩) x13.length c16 63 1 y17 :: orow (some ⟨g73, 0, none⟩) x32.length c35 63 1 y36 :: Fz F37 W38 :: cs)) (fun w_ hM => ⟨hM.drew, hM.drew.sub (.cons_cons _ (.cons_cons _ (.cons_cons _ (.refl _))))⟩) ?_
        refine oR [oT 0, oT 1] [(67, vI i96), (66, .slice (some ⟨g49, 0, none⟩) x13.length c16), (11, vI (IntKind.i64.wrap (i95 + 1))), (10, vI (IntKind.i64.wrap (i94 * 2))), (7, .slice (some ⟨g49, 0, none⟩) x13.length c16), (8, .slice (some ⟨g73, 0, none⟩) x32.length c35), (12, vI i96)] [67, 66, 11, 10, 7, 8, 12] (by kernel_rfl) ?_
        obtain ⟨x113, hv114, hp⟩ := obind hp
        obtain ⟨m115, hm116, hx117⟩ := idx_some hv114
        have hl120 := (List.getElem?_eq_some_iff.1 hx117).1
        obtain ⟨vs118, hr119, hq121⟩ := h20.at_ m115 x113 hx117
        obtain ⟨A122, c123, rfl, h124⟩ := hr119
        refine ops_val (op := (Go.Op.indexAddr 138 (Go.Operand.tmp 66) (Go.Operand.tmp 67))) (d := some 68) (v := vP g49 (m115 * 1)) ⟨by kernel_rfl⟩ (run_indexRow Try.underlying138 (z := 1) (by kernel_rfl) rfl rfl hm116 hl120 rfl) ?_
        refine oR [] [(68, vP g49 (m115 * 1)), (11, vI (IntKind.i64.wrap (i95 + 1))), (10, vI (IntKind.i64.wrap (i94 * 2))), (7, .slice (some ⟨g49, 0, none⟩) x13.length c16), (8, .slice (some ⟨g73, 0, none⟩) x32.length c35), (12, vI i96)] [68, 11, 10, 7, 8, 12] (by kernel_rfl) ?_
        refine ops_load (d := some 69) (an := [.v (.slice A122 x113.length c123)]) (evs := [.load ⟨g49, m115 * 1, none⟩ (.slice A122 x113.length c123)]) (v := .slice A122 x113.length c123) ⟨by kernel_rfl⟩ (fun w_ hM => ⟨hM.ocell 0 rfl (hq121 0 _ rfl), rfl⟩) ?_
        refine oR [oT 4] [(70, vI (IntKind.i64.wrap (i94 * 2))), (69, .slice A122 x113.length c123), (11, vI (IntKind.i64.wrap (i95 + 1))), (10, vI (IntKind.i64.wrap (i94 * 2))), (7, .slice (some ⟨g49, 0, none⟩) x13.length c16), (8, .slice (some ⟨g73, 0, none⟩) x32.length c35), (12, vI i96)] [70, 69, 11, 10, 7, 8, 12] (by kernel_rfl) ?_
        obtain ⟨x125, hv126, hp⟩ := obind hp
        obtain ⟨m127, hm128, hx129⟩ := idx_some hv126
        have hl132 := (List.getElem?_eq_some_iff.1 hx129).1
        obtain ⟨ad133, vs130, hA134, hr131, hq135⟩ := RdS.el h124 hx129
        obtain rfl := hr131
        refine ops_val (op := (Go.Op.indexAddr 63 (Go.Operand.tmp 69) (Go.Operand.tmp 70))) (d := some 71) (v := .pointer (some (ad133.add (m127 * 1)))) ⟨by kernel_rfl⟩ (run_indexA hA134 Try.underlying63 (z := 1) (by kernel_rfl) rfl rfl hm128 hl132) ?_
        refine oR [] [(71, .pointer (some (ad133.add (m127 * 1)))), (11, vI (IntKind.i64.wrap (i95 + 1))), (10, vI (IntKind.i64.wrap (i94 * 2))), (7, .slice (some ⟨g49, 0, none⟩) x13.length c16), (8, .slice (some ⟨g73, 0, none⟩) x32.length c35), (12, vI i96)] [71, 11, 10, 7, 8, 12] (by kernel_rfl) ?_
        refine ops_load (d := some 72) (an := [.v (vU x125)]) (evs := [.load (ad133.add (m127 * 1)) (vU x125)]) (v := vU x125) ⟨by kernel_rfl⟩ (fun w_ hM => ⟨hM.elcell 2 rfl hq135 0 rfl, rfl⟩) ?_
        refine oR [oT 7, oT 8] [(74, vI i96), (73, .slice (some ⟨g73, 0, none⟩) x32.length c35), (72, vU x125), (11, vI (IntKind.i64.wrap (i95 + 1))), (10, vI (IntKind.i64.wrap (i94 * 2))), (7, .slice (some ⟨g49, 0, none⟩) x13.length c16), (8, .slice (some ⟨g73, 0, none⟩) x32.length c35), (12, vI i96)] [74, 73, 72, 11, 10, 7, 8, 12] (by kernel_rfl) ?_
        obtain ⟨x136, hv137, hp⟩ := obind hp
        obtain ⟨m138, hm139, hx140⟩ := idx_some hv137
        have hl143 := (List.getElem?_eq_some_iff.1 hx140).1
        obtain ⟨vs141, hr142, hq144⟩ := h39.at_ m138 x136 hx140
        obtain ⟨A145, c146, rfl, h147⟩ := hr142
        refine ops_val (op := (Go.Op.indexAddr 138 (Go.Operand.tmp 73) (Go.Operand.tmp 74))) (d := some 75) (v := vP g73 (m138 * 1)) ⟨by kernel_rfl⟩ (run_indexRow Try.underlying138 (z := 1) (by kernel_rfl) rfl rfl hm139 hl143 rfl) ?_
        refine oR [] [(75, vP g73 (m138 * 1)), (72, vU x125), (11, vI (IntKind.i64.wrap (i95 + 1))), (10, vI (IntKind.i64.wrap (i94 * 2))), (7, .slice (some ⟨g49, 0, none⟩) x13.length c16), (8, .slice (some ⟨g73, 0, none⟩) x32.length c35), (12, vI i96)] [75, 72, 11, 10, 7, 8, 12] (by kernel_rfl) ?_
        refine ops_load (d := some 76) (an := [.v (.slice A145 x136.length c146)]) (evs := [.load ⟨g73, m138 * 1, none⟩ (.slice A145 x136.length c146)]) (v := .slice A145 x136.length c146) ⟨by kernel_rfl⟩ (fun w_ hM => ⟨hM.ocell 1 rfl (hq144 0 _ rfl), rfl⟩) ?_
        refine oR [oT 11] [(77, vI (IntKind.i64.wrap (i94 * 2))), (76, .slice A145 x136.length c146), (72, vU x125), (11, vI (IntKind.i64.wrap (i95 + 1))), (10, vI (IntKind.i64.wrap (i94 * 2))), (7, .slice (some ⟨g49, 0, none⟩) x13.length c16), (8, .slice (some ⟨g73, 0, none⟩) x32.length c35), (12, vI i96)] [77, 76, 72, 11, 10, 7, 8, 12] (by kernel_rfl) ?_
        obtain ⟨x148, hv149, hp⟩ := obind hp
        obtain ⟨m150, hm151, hx152⟩ := idx_some hv149
        have hl155 := (List.getElem?_eq_some_iff.1 hx152).1
        obtain ⟨ad156, vs153, hA157, hr154, hq158⟩ := RdS.el h147 hx152
        obtain rfl := hr154
        refine ops_val (op := (Go.Op.indexAddr 63 (Go.Operand.tmp 76) (Go.Operand.tmp 77))) (d := some 78) (v := .pointer (some (ad156.add (m150 * 1)))) ⟨by kernel_rfl⟩ (run_indexA hA157 Try.underlying63 (z := 1) (by kernel_rfl) rfl rfl hm151 hl155) ?_
        refine oR [] [(78, .pointer (some (ad156.add (m150 * 1)))), (72, vU x125), (11, vI (IntKind.i64.wrap (i95 + 1))), (10, vI (IntKind.i64.wrap (i94 * 2))), (7, .slice (some ⟨g49, 0, none⟩) x13.length c16), (8, .slice (some ⟨g73, 0, none⟩) x32.length c35), (12, vI i96)] [78, 72, 11, 10, 7, 8, 12] (by kernel_rfl) ?_
        refine ops_load (d := some 79) (an := [.v (vU x148)]) (evs := [.load (ad156.add (m150 * 1)) (vU x148)]) (v := vU x148) ⟨by kernel_rfl⟩ (fun w_ hM => ⟨hM.elcell 2 rfl hq158 0 rfl, rfl⟩) ?_
        refine oR [oT 14] [(80, .bool (x125 == x148)), (11, vI (IntKind.i64.wrap (i95 + 1))), (10, vI (IntKind.i64.wrap (i94 * 2))), (7, .slice (some ⟨g49, 0, none⟩) x13.length c16), (8, .slice (some ⟨g73, 0, none⟩) x32.length c35), (12, vI i96)] [80, 11, 10, 7, 8, 12] (by kernel_rfl) ?_
        refine ops_nil ?_
        refine fin_then ?_
        refine st_if (b := (x125 == x148)) rfl (fun hc159 => ?_) (fun hc159 => ?_)
        · --
         have hp := cnd_t hc159 hp
         refine st_region [oF 0, oF 1, oF 2] (by rfl) ?_
         refine oR [oF 0, oF 1, oF 2] [(10, vI (IntKind.i64.wrap (IntKind.i64.wrap (i94 * 2) + 1))), (11, vI (IntKind.i64.wrap (i95 + 1))), (7, .slice (some ⟨g49, 0, none⟩) x13.length c16), (8, .slice (some ⟨g73, 0, none⟩) x32.length c35), (12, vI i96)] [10, 11, 7, 8, 12] (by kernel_rfl) ?_
         refine ops_nil ?_
         refine fin_block ?_
         exact fin_join HJ3 (IntKind.i64.wrap (IntKind.i64.wrap (i94 * 2) + 1), IntKind.i64.wrap (i95 + 1)) hp (look_has ⟨rfl, rfl, rfl, rfl, rfl, trivial⟩) (fun w_ hM => hM)
        · --
         have hp := cnd_f hc159 hp
         refine st_skip ?_
         refine fin_block ?_
         exact fin_join HJ3 (IntKind.i64.wrap (i94 * 2), IntKind.i64.wrap (i95 + 1)) hp (look_has ⟨rfl, rfl, rfl, rfl, rfl, trivial⟩) (fun w_ hM => hM)
     · --
      have hp := cnd_f hc97 hp
      refine st_exit ?_
      refine fin_exit_then ?_
      refine fin_exit_then ?_
      refine fin_exit ?_
      obtain hq_ := Option.some.inj hp
      subst hq_
      obtain hq_ := hd2 _ rfl
      subst hq_
      have hp : merkle_Narrow_j1 i94 i95 = some (i9001, i9002) := hk2
      exact fin_join HJ1 (i94, i95) hp (look_has ⟨rfl, rfl, trivial⟩) (fun w_ hM => hM.pick 3 [2] (by kernel_rfl) (by decide) rfl)
set_option maxHeartbeats 4000000 in
set_option maxRecDepth 100000 in
theorem tourlaw1_merkleBegun_ok (w0 w : World) (cs : List Chunk) (F : Nat → Prop) (W : World) (hM0 : Mem w0 (Fz F W :: cs) w) (t9001 : Bool) (hp : tourlaw1_merkleBegun = some t9001) : Calls Try.prog 42 #[] w fun e w' => ∃ (F9002 : Nat → Prop), ∃ (W9003 : World), ((Ext w0 F W F9002 W9003)) ∧ e = .returned (.bool t9001) ∧ Mem w0 (Fz F9002 W9003 :: cs) w' := by
 unfold tourlaw1_merkleBegun at hp
 refine sx_calls Try.func42 rfl (n := 15) (by kernel_rfl) (l := []) rfl (by rfl) hM0 ?_
 refine st_seq ?_
 refine st_region [oF 0] (by rfl) ?_
 refine oR [oF 0] [] [] (by kernel_rfl) ?_
 refine ops_nil ?_
 refine fin_then ?_
 refine st_seq ?_
 refine st_region [oF 0, oF 1, oF 2, oF 3, oF 4, oF 5, oF 6, oF 7] (by rfl) ?_
 have h1 : RepL (Rep.int .u64) F W ([1, 2, 3] : List Int) ([vU 1, vU 2, vU 3]) := (RepL.cons (R := (Rep.int .u64)) (F := F) (w := W) (vs := [vU 1]) (ys := [vU 2, vU 3]) rfl (RepL.cons (R := (Rep.int .u64)) (F := F) (w := W) (vs := [vU 2]) (ys := [vU 3]) rfl (RepL.cons (R := (Rep.int .u64)) (F := F) (w := W) (vs := [vU 3]) (ys := []) rfl RepL.nil)))
 refine ops_new (d := some 4) (o := .cells ([vU 1, vU 2, vU 3]).toArray 24) (v := fun g2 => .slice (some ⟨g2, 0, none⟩) ([1, 2, 3] : List Int).length 3) (M' := fun g2 => Mem w0 (orow (some ⟨g2, 0, none⟩) ([1, 2, 3] : List Int).length 3 24 1 ([vU 1, vU 2, vU 3]) :: Fz F W :: cs)) (fun g2 => ⟨by kernel_rfl⟩) (fun w_ hM hS => ⟨hM.onew [vU 1, vU 2, vU 3] 24 3 1 rfl (by decide), trivial⟩) (fun g2 => ?_)
 have h3 : RepL (Rep.int .u64) F W ([1, 2, 4] : List Int) ([vU 1, vU 2, vU 4]) := (RepL.cons (R := (Rep.int .u64)) (F := F) (w := W) (vs := [vU 1]) (ys := [vU 2, vU 4]) rfl (RepL.cons (R := (Rep.int .u64)) (F := F) (w := W) (vs := [vU 2]) (ys := [vU 4]) rfl (RepL.cons (R := (Rep.int .u64)) (F := F) (w := W) (vs := [vU 4]) (ys := []) rfl RepL.nil)))
 refine ops_new (d := some 5) (o := .cells ([vU 1, vU 2, vU 4]).toArray 24) (v := fun g4 => .slice (some ⟨g4, 0, none⟩) ([1, 2, 4] : List Int).length 3) (M' := fun g4 => Mem w0 (orow (some ⟨g4, 0, none⟩) ([1, 2, 4] : List Int).length 3 24 1 ([vU 1, vU 2, vU 4]) :: orow (some ⟨g2, 0, none⟩) ([1, 2, 3] : List Int).length 3 24 1 ([vU 1, vU 2, vU 3]) :: Fz F W :: cs)) (fun g4 => ⟨by kernel_rfl⟩) (fun w_ hM hS => ⟨hM.onew [vU 1, vU 2, vU 4] 24 3 1 rfl (by decide), trivial⟩) (fun g4 => ?_)
 refine ops_ex (σ := (Nat → Prop) × World) (I := fun x_ => Ext w0 F W x_.1 x_.2 ∧ RdS (Rep.int .u64) x_.1 x_.2 (some ⟨g2, 0, none⟩) 3 ([1, 2, 3] : List Int)) (M' := fun x_ => Mem w0 (orow (some ⟨g4, 0, none⟩) ([1, 2, 4] : List Int).length 3 24 1 ([vU 1, vU 2, vU 4]) :: Fz x_.1 x_.2 :: cs)) (fun w_ hM => ?_) ?_
 · obtain ⟨F_, h1_, h2_, h3_⟩ := (hM.pick 3 [1, 2, 0] (by kernel_rfl) (by decide) rfl : Mem w0 (orow (some ⟨g2, 0, none⟩) ([1, 2, 3] : List Int).length 3 24 1 ([vU 1, vU 2, vU 3]) :: Fz F W :: orow (some ⟨g4, 0, none⟩) ([1, 2, 4] : List Int).length 3 24 1 ([vU 1, vU 2, vU 4]) :: cs) w_).freeze (z := 1) h1 rfl rfl
   exact ⟨(F_, w_), ⟨h1_, h2_⟩, h3_.pick 2 [1, 0] (by kernel_rfl) (by decide) rfl⟩
 rintro ⟨F5, W6⟩ ⟨hx7, h8⟩
 have hx7 : Ext w0 F W F5 W6 := hx7
 have h8 : RdS (Rep.int .u64) F5 W6 (some ⟨g2, 0, none⟩) 3 ([1, 2, 3] : List Int) := h8
 have h3 := h3.ext hx7
 refine ops_conv (l' := [(5, .slice (some ⟨g4, 0, none⟩) ([1, 2, 4] : List Int).length 3), (4, .slice (some ⟨g2, 0, none⟩) ([1, 2, 3] : List Int).length 3)]) (M' := Mem w0 (orow (some ⟨g4, 0, none⟩) ([1, 2, 4] : List Int).length 3 24 1 ([vU 1, vU 2, vU 4]) :: Fz F5 W6 :: cs)) rfl (fun _ h => h) ?_
 refine ops_ex (σ := (Nat → Prop) × World) (I := fun x_ => Ext w0 F5 W6 x_.1 x_.2 ∧ RdS (Rep.int .u64) x_.1 x_.2 (some ⟨g4, 0, none⟩) 3 ([1, 2, 4] : List Int)) (M' := fun x_ => Mem w0 (Fz x_.1 x_.2 :: cs)) (fun w_ hM => ?_) ?_
 · obtain ⟨F_, h1_, h2_, h3_⟩ := (hM.pick 2 [0, 1] (by kernel_rfl) (by decide) rfl : Mem w0 (orow (some ⟨g4, 0, none⟩) ([1, 2, 4] : List Int).length 3 24 1 ([vU 1, vU 2, vU 4]) :: Fz F5 W6 :: cs) w_).freeze (z := 1) h3 rfl rfl
   exact ⟨(F_, w_), ⟨h1_, h2_⟩, h3_.pick 1 [0] (by kernel_rfl) (by decide) rfl⟩
 rintro ⟨F9, W10⟩ ⟨hx11, h12⟩
 have hx11 : Ext w0 F5 W6 F9 W10 := hx11
 have h12 : RdS (Rep.int .u64) F9 W10 (some ⟨g4, 0, none⟩) 3 ([1, 2, 4] : List Int) := h12
 have h8 := h8.ext hx11
 refine ops_conv (l' := [(5, .slice (some ⟨g4, 0, none⟩) ([1, 2, 4] : List Int).length 3), (4, .slice (some ⟨g2, 0, none⟩) ([1, 2, 3] : List Int).length 3)]) (M' := Mem w0 (Fz F9 W10 :: cs)) rfl (fun _ h => h) ?_
 obtain ⟨x13, x14, hv15, hp⟩ := obind2 hp
 refine ops_callI (σ := (Nat → Prop) × World) (d := some 6) (f := 43) (args := #[.slice (some ⟨g2, 0, none⟩) ([1, 2, 3] : List Int).length 3, .slice (some ⟨g4, 0, none⟩) ([1, 2, 4] : List Int).length 3]) (v := (fun x_ => match x_ with | (F16, W17) => .tuple #[vI x13, vI x14])) (I := (fun x_ => match x_ with | (F16, W17) => (Ext w0 F9 W10 F16 W17))) (M' := (fun x_ => match x_ with | (F16, W17) => Mem w0 (Fz F16 W17 :: cs))) ⟨by kernel_rfl⟩ (fun w_ hM hS => (merkle_Narrow_ok w0 w_ (cs) F9 W10 (some ⟨g2, 0, none⟩) 3 ([1, 2, 3] : List Int) (some ⟨g4, 0, none⟩) 3 ([1, 2, 4] : List Int) hM h8 h12 x13 x14 hv15).mono (by rintro e w' ⟨F16, W17, h18, rfl, h'⟩; have h' : Mem w0 (Fz F16 W17 :: cs) w' := h'; exact ⟨(F16, W17), h18, rfl, h', trivial⟩)) ?_
 rintro ⟨F16, W17⟩ h18
 have h12 := h12.ext h18
 have h8 := h8.ext h18
 refine ops_conv (l' := [(6, .tuple #[vI x13, vI x14]), (5, .slice (some ⟨g4, 0, none⟩) ([1, 2, 4] : List Int).length 3), (4, .slice (some ⟨g2, 0, none⟩) ([1, 2, 3] : List Int).length 3)]) (M' := Mem w0 (Fz F16 W17 :: cs)) rfl (fun _ h => h) ?_
 refine oR [oF 3, oF 4, oF 5, oF 6, oF 7] [(2, vI x14), (1, vI x13)] [2, 1] (by kernel_rfl) ?_
 refine ops_nil ?_
 refine fin_then ?_
 refine st_join1 (σ := Bool) (L := fun x_ => match x_ with | t19 => [(0, .bool t19)]) (N := fun x_ => match x_ with | t19 => Mem w0 (Fz F16 W17 :: cs)) (I := fun x_ => match x_ with | t19 => (tourlaw1_merkleBegun_j1 t19 = some t9001)) ?_ ?_
 · --
  rintro t19 hp
  refine st_conv (l' := [(0, .bool t19)]) (M' := Mem w0 (Fz F16 W17 :: cs)) rfl (fun _ h => h) ?_
  unfold tourlaw1_merkleBegun_j1 at hp
  refine st_ret ?_
  have hq_ := Option.some.inj hp
  have hr0_ := hq_
  subst hr0_
  refine fin_ret [.tmp 0] [.bool t19] rfl rfl (fun w_ hM => (.tmp rfl .nil)) (fun w_ hM => ?_)
  exact ⟨F16, W17, ((hx7.trans hx11).trans h18), rfl, hM⟩
 · --
  intro HJ1
  refine st_seq ?_
  refine st_region [oF 0, oF 1, oF 2, oF 3, oF 4, oF 5, oF 6] (by rfl) ?_
  refine oR [oF 0, oF 1, oF 2] [(11, .bool (x13 == 2)), (2, vI x14)] [11, 2] (by kernel_rfl) ?_
  refine ops_bool (t := (x13 == 2)) (l1 := [(11, .bool true), (2, vI x14)]) (l2 := [(11, .bool false), (2, vI x14)]) (fun h => by rw [h]) (fun h => by rw [h]) (fun hc20 => ?_) (fun hc20 => ?_)
  · --
   have hp := cnd_t hc20 hp
   refine oR [oF 3, oF 4, oF 5, oF 6] [(0, .bool (x14 == 2))] [0] (by kernel_rfl) ?_
   refine ops_nil ?_
   exact fin_join HJ1 (x14 == 2) hp (look_has ⟨rfl, trivial⟩) (fun w_ hM => hM)
  · --
   have hp := cnd_f hc20 hp
   refine oR [oF 3, oF 4, oF 5, oF 6] [(0, .bool false)] [0] (by kernel_rfl) ?_
   refine ops_nil ?_
   exact fin_join HJ1 false hp (look_has ⟨rfl, trivial⟩) (fun w_ hM => hM)
end Go.Proofs.Ytfihfbkjomploaa.X
