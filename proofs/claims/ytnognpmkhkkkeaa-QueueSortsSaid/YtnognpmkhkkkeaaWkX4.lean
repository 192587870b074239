/- The Go functions come to what the plain functions tell. No condition. -/
import Derived.Test.YtnognpmkhkkkeaaProg
import Derived.Test.YtnognpmkhkkkeaaFnX
import Derived.Test.YtnognpmkhkkkeaaWkX1
import Derived.Test.YtnognpmkhkkkeaaWkX2
import Derived.Test.YtnognpmkhkkkeaaWkX3
namespace Go.Proofs.Ytnognpmkhkkkeaa.X
open Go Go.RowKit Go.Proofs.Ytnognpmkhkkkeaa.Sx
set_option linter.unusedVariables false
set_option maxHeartbeats 4000000 in
set_option maxRecDepth 100000 in
theorem slices_stableCmpFunc_int_ok (w0 w : World) (cs : List Chunk) (F : Nat → Prop) (W : World) (A_data : Option Addr) (c_data : Nat) (data : List Int) (y_data : List Value) (n : Int) (b_cmp_c0 : Nat) (A_cmp_c0_0 : Option Addr) (c_cmp_c0_0 : Nat) (cmp_c0_0 : List Int) (hM0 : Mem w0 (orow A_data data.length c_data 3 1 y_data :: .blk b_cmp_c0 [.slice A_cmp_c0_0 cmp_c0_0.length c_cmp_c0_0] 32 :: Fz F W :: cs) w) (h_data : RepL (Rep.int .i64) F W data y_data) (h_cmp_c0_0 : RdS (Rep.int .i64) F W A_cmp_c0_0 c_cmp_c0_0 cmp_c0_0) (l9001 : List Int) (hp : slices_stableCmpFunc_int data n cmp_c0_0 = some l9001) : Calls Try.prog 74 #[.slice A_data data.length c_data, vI n, .func (.func 52) #[] #[vP b_cmp_c0 0]] w fun e w' => ∃ (y9002 : List Value), ((RepL (Rep.int .i64) F W l9001 y9002) ∧ (l9001.length = data.length) ∧ (RdS (Rep.int .i64) F W A_cmp_c0_0 c_cmp_c0_0 cmp_c0_0)) ∧ e = .returned (.tuple #[]) ∧ Mem w0 (orow A_data l9001.length c_data 3 1 y9002 :: .blk b_cmp_c0 [.slice A_cmp_c0_0 cmp_c0_0.length c_cmp_c0_0] 32 :: Fz F W :: cs) w' := by
 unfold slices_stableCmpFunc_int at hp
 refine sx_calls Try.func74 rfl (n := 63) (by kernel_rfl) (l := [(0, .slice A_data data.length c_data), (1, vI n), (2, .func (.func 52) #[] #[vP b_cmp_c0 0])]) rfl (by rfl) hM0 ?_
 refine st_seq ?_
 refine st_region [oF 0] (by rfl) ?_
 refine oR [oF 0] [(6, vI 20), (0, .slice A_data data.length c_data), (1, vI n), (2, .func (.func 52) #[] #[vP b_cmp_c0 0])] [6, 0, 1, 2] (by kernel_rfl) ?_
 refine ops_nil ?_
 refine fin_then ?_
 refine st_seq ?_
 refine st_region [oF 0, oF 1, oF 2] (by rfl) ?_
 refine oR [oF 0, oF 1, oF 2] [(8, vI 20), (7, vI 0), (6, vI 20), (0, .slice A_data data.length c_data), (1, vI n), (2, .func (.func 52) #[] #[vP b_cmp_c0 0])] [8, 7, 6, 0, 1, 2] (by kernel_rfl) ?_
 refine ops_nil ?_
 refine fin_then ?_
 refine st_join1 (σ := (List Int) × (List Value) × Int) (L := fun x_ => match x_ with | (l1, y2, i6) => [(0, .slice A_data l1.length c_data), (1, vI n), (2, .func (.func 52) #[] #[vP b_cmp_c0 0]), (6, vI 20), (7, vI i6)]) (N := fun x_ => match x_ with | (l1, y2, i6) => Mem w0 (orow A_data l1.length c_data 3 1 y2 :: .blk b_cmp_c0 [.slice A_cmp_c0_0 cmp_c0_0.length c_cmp_c0_0] 32 :: Fz F W :: cs)) (I := fun x_ => match x_ with | (l1, y2, i6) => ((slices_stableCmpFunc_int_j1 n cmp_c0_0) l1 i6 = some l9001) ∧ (RepL (Rep.int .i64) F W l1 y2) ∧ (l1.length = data.length) ∧ (RdS (Rep.int .i64) F W A_cmp_c0_0 c_cmp_c0_0 cmp_c0_0)) ?_ ?_
 · --
  rintro ⟨l1, y2, i6⟩ ⟨hp, h3, hl4, h5⟩
  refine st_conv (l' := [(0, .slice A_data l1.length c_data), (1, vI n), (2, .func (.func 52) #[] #[vP b_cmp_c0 0]), (6, vI 20), (7, vI i6)]) (M' := Mem w0 (orow A_data l1.length c_data 3 1 y2 :: .blk b_cmp_c0 [.slice A_cmp_c0_0 cmp_c0_0.length c_cmp_c0_0] 32 :: Fz F W :: cs)) rfl (fun _ h => h) ?_
  unfold slices_stableCmpFunc_int_j1 at hp
  refine st_seq ?_
  refine st_region [oF 0, oF 1, oF 2, oF 3, oF 4] (by rfl) ?_
  refine oR [oF 0, oF 1, oF 2, oF 3] [(26, .func (.func 52) #[] #[vP b_cmp_c0 0]), (25, vI n), (24, vI i6), (23, .slice A_data l1.length c_data), (0, .slice A_data l1.length c_data), (1, vI n), (2, .func (.func 52) #[] #[vP b_cmp_c0 0]), (6, vI 20)] [26, 25, 24, 23, 0, 1, 2, 6] (by kernel_rfl) ?_
  obtain ⟨x7, hv8, hp⟩ := obind hp
  refine ops_callI (σ := (List Value)) (d := some 27) (f := 78) (args := #[.slice A_data l1.length c_data, vI i6, vI n, .func (.func 52) #[] #[vP b_cmp_c0 0]]) (v := (fun x_ => match x_ with | y9 => .tuple #[])) (I := (fun x_ => match x_ with | y9 => (RepL (Rep.int .i64) F W x7 y9) ∧ (x7.length = l1.length) ∧ (RdS (Rep.int .i64) F W A_cmp_c0_0 c_cmp_c0_0 cmp_c0_0))) (M' := (fun x_ => match x_ with | y9 => Mem w0 (orow A_data x7.length c_data 3 1 y9 :: .blk b_cmp_c0 [.slice A_cmp_c0_0 cmp_c0_0.length c_cmp_c0_0] 32 :: Fz F W :: cs))) ⟨by kernel_rfl⟩ (fun w_ hM hS => (slices_insertionSortCmpFunc_int_ok w0 w_ (cs) F W A_data c_data l1 y2 i6 n b_cmp_c0 A_cmp_c0_0 c_cmp_c0_0 cmp_c0_0 hM h3 h5 x7 hv8).mono (by rintro e w' ⟨y9, ⟨h10, h11, h12⟩, rfl, h'⟩; have h' : Mem w0 (orow A_data x7.length c_data 3 1 y9 :: .blk b_cmp_c0 [.slice A_cmp_c0_0 cmp_c0_0.length c_cmp_c0_0] 32 :: Fz F W :: cs) w' := h'; exact ⟨y9, ⟨h10, h11, h12⟩, rfl, h', trivial⟩)) ?_
  rintro y9 ⟨h10, h11, h12⟩
  refine ops_conv (l' := [(27, .tuple #[]), (26, .func (.func 52) #[] #[vP b_cmp_c0 0]), (25, vI n), (24, vI i6), (23, .slice A_data x7.length c_data), (0, .slice A_data x7.length c_data), (1, vI n), (2, .func (.func 52) #[] #[vP b_cmp_c0 0]), (6, vI 20)]) (M' := Mem w0 (orow A_data x7.length c_data 3 1 y9 :: .blk b_cmp_c0 [.slice A_cmp_c0_0 cmp_c0_0.length c_cmp_c0_0] 32 :: Fz F W :: cs)) (by first | rfl | (rw [h11]; done) | (rw [h11]; rfl)) (fun _ h => h) ?_
  refine oR [] [(0, .slice A_data x7.length c_data), (1, vI n), (2, .func (.func 52) #[] #[vP b_cmp_c0 0]), (6, vI 20)] [0, 1, 2, 6] (by kernel_rfl) ?_
  refine ops_nil ?_
  refine fin_then ?_
  refine st_block ?_
  obtain ⟨r2, hl2, hk2⟩ := obind hp
  refine st_loopP (σ := (List Int) × Int) (ρ := (List Int)) (γ := (List Value)) hl2 y9 (fun s_ g_ => match s_, g_ with | (l13, i17), y14 => [(0, .slice A_data l13.length c_data), (1, vI n), (2, .func (.func 52) #[] #[vP b_cmp_c0 0]), (6, vI i17)]) (fun s_ g_ => match s_, g_ with | (l13, i17), y14 => Mem w0 (orow A_data l13.length c_data 3 1 y14 :: .blk b_cmp_c0 [.slice A_cmp_c0_0 cmp_c0_0.length c_cmp_c0_0] 32 :: Fz F W :: cs)) (fun s_ g_ => match s_, g_ with | (l13, i17), y14 => (RepL (Rep.int .i64) F W l13 y14) ∧ (l13.length = data.length)) ⟨h10, (h11.trans hl4)⟩ (look_has ⟨rfl, rfl, rfl, rfl, trivial⟩) (fun w_ hM => hM) ?_
  rintro ⟨l13, i17⟩ y14 o2 ⟨h15, hl16⟩ hs_ hd2
  have hp : (slices_stableCmpFunc_int_l2 n cmp_c0_0) l13 i17 = some o2 := hs_
  clear hs_
  unfold slices_stableCmpFunc_int_l2 at hp
  refine st_conv (l' := [(0, .slice A_data l13.length c_data), (1, vI n), (2, .func (.func 52) #[] #[vP b_cmp_c0 0]), (6, vI i17)]) (M' := Mem w0 (orow A_data l13.length c_data 3 1 y14 :: .blk b_cmp_c0 [.slice A_cmp_c0_0 cmp_c0_0.length c_cmp_c0_0] 32 :: Fz F W :: cs)) rfl (fun _ h => h) ?_
  refine st_seq ?_
  refine st_seq ?_
  refine st_region [oF 0, oF 1, oF 2] (by rfl) ?_
  refine oR [oF 0, oF 1, oF 2] [(30, .bool (decide (i17 < n))), (0, .slice A_data l13.length c_data), (1, vI n), (2, .func (.func 52) #[] #[vP b_cmp_c0 0]), (6, vI i17)] [30, 0, 1, 2, 6] (by kernel_rfl) ?_
  refine ops_nil ?_
  refine fin_then ?_
  refine st_if (b := decide (i17 < n)) rfl (fun hc18 => ?_) (fun hc18 => ?_)
  · --
   have hp := cnd_t hc18 hp
   refine st_skip ?_
   refine fin_then ?_
   refine st_block ?_
   refine st_seq ?_
   refine st_region [oF 0, oF 1, oF 2, oF 3] (by rfl) ?_
   refine oR [oF 0, oF 1, oF 2, oF 3] [(8, vI (IntKind.i64.wrap (2 * i17))), (7, vI 0), (0, .slice A_data l13.length c_data), (1, vI n), (2, .func (.func 52) #[] #[vP b_cmp_c0 0]), (6, vI i17)] [8, 7, 0, 1, 2, 6] (by kernel_rfl) ?_
   refine ops_nil ?_
   refine fin_then ?_
   refine st_join1 (σ := (List Int) × (List Value) × Int) (L := fun x_ => match x_ with | (l19, y20, i23) => [(0, .slice A_data l19.length c_data), (1, vI n), (2, .func (.func 52) #[] #[vP b_cmp_c0 0]), (6, vI i17), (7, vI i23)]) (N := fun x_ => match x_ with | (l19, y20, i23) => Mem w0 (orow A_data l19.length c_data 3 1 y20 :: .blk b_cmp_c0 [.slice A_cmp_c0_0 cmp_c0_0.length c_cmp_c0_0] 32 :: Fz F W :: cs)) (I := fun x_ => match x_ with | (l19, y20, i23) => ((slices_stableCmpFunc_int_j3 i17 n cmp_c0_0) l19 i23 = some o2) ∧ (RepL (Rep.int .i64) F W l19 y20) ∧ (l19.length = data.length)) ?_ ?_
   · --
    rintro ⟨l19, y20, i23⟩ ⟨hp, h21, hl22⟩
    refine st_conv (l' := [(0, .slice A_data l19.length c_data), (1, vI n), (2, .func (.func 52) #[] #[vP b_cmp_c0 0]), (6, vI i17), (7, vI i23)]) (M' := Mem w0 (orow A_data l19.length c_data 3 1 y20 :: .blk b_cmp_c0 [.slice A_cmp_c0_0 cmp_c0_0.length c_cmp_c0_0] 32 :: Fz F W :: cs)) rfl (fun _ h => h) ?_
    unfold slices_stableCmpFunc_int_j3 at hp
    refine st_join1 (σ := (List Int) × (List Value)) (L := fun x_ => match x_ with | (l24, y25) => [(0, .slice A_data l24.length c_data), (1, vI n), (2, .func (.func 52) #[] #[vP b_cmp_c0 0]), (6, vI i17)]) (N := fun x_ => match x_ with | (l24, y25) => Mem w0 (orow A_data l24.length c_data 3 1 y25 :: .blk b_cmp_c0 [.slice A_cmp_c0_0 cmp_c0_0.length c_cmp_c0_0] 32 :: Fz F W :: cs)) (I := fun x_ => match x_ with | (l24, y25) => ((slices_stableCmpFunc_int_j4 i17) l24 = some o2) ∧ (RepL (Rep.int .i64) F W l24 y25) ∧ (l24.length = data.length)) ?_ ?_
    · --
     rintro ⟨l24, y25⟩ ⟨hp, h26, hl27⟩
     refine st_conv (l' := [(0, .slice A_data l24.length c_data), (1, vI n), (2, .func (.func 52) #[] #[vP b_cmp_c0 0]), (6, vI i17)]) (M' := Mem w0 (orow A_data l24.length c_data 3 1 y25 :: .blk b_cmp_c0 [.slice A_cmp_c0_0 cmp_c0_0.length c_cmp_c0_0] 32 :: Fz F W :: cs)) rfl (fun _ h => h) ?_
     unfold slices_stableCmpFunc_int_j4 at hp
     refine st_region [oF 0, oF 1, oF 2] (by rfl) ?_
     refine oR [oF 0, oF 1, oF 2] [(6, vI (IntKind.i64.wrap (i17 * 2))), (0, .slice A_data l24.length c_data), (1, vI n), (2, .func (.func 52) #[] #[vP b_cmp_c0 0])] [6, 0, 1, 2] (by kernel_rfl) ?_
     refine ops_nil ?_
     refine fin_block ?_
     exact fin_again (l24, IntKind.i64.wrap (i17 * 2)) y25 (Option.some.inj hp).symm ⟨h26, hl27⟩ (look_has ⟨rfl, rfl, rfl, rfl, trivial⟩) (fun w_ hM => hM)
    · --
     intro HJ4
     refine st_seq ?_
     refine st_seq ?_
     refine st_region [oF 0, oF 1, oF 2, oF 3] (by rfl) ?_
     refine oR [oF 0, oF 1, oF 2, oF 3] [(9, vI (IntKind.i64.wrap (i23 + i17))), (0, .slice A_data l19.length c_data), (1, vI n), (2, .func (.func 52) #[] #[vP b_cmp_c0 0]), (6, vI i17), (7, vI i23)] [9, 0, 1, 2, 6, 7] (by kernel_rfl) ?_
     refine ops_nil ?_
     refine fin_then ?_
     refine st_seq ?_
     refine st_region [oF 0, oF 1, oF 2] (by rfl) ?_
     refine oR [oF 0, oF 1, oF 2] [(54, .bool (decide (IntKind.i64.wrap (i23 + i17) < n))), (9, vI (IntKind.i64.wrap (i23 + i17))), (0, .slice A_data l19.length c_data), (1, vI n), (2, .func (.func 52) #[] #[vP b_cmp_c0 0]), (6, vI i17), (7, vI i23)] [54, 9, 0, 1, 2, 6, 7] (by kernel_rfl) ?_
     refine ops_nil ?_
     refine fin_then ?_
     refine st_if (b := decide (IntKind.i64.wrap (i23 + i17) < n)) rfl (fun hc28 => ?_) (fun hc28 => ?_)
     · --
      have hp := cnd_t hc28 hp
      refine st_region [oF 0, oF 1, oF 2, oF 3, oF 4, oF 5] (by rfl) ?_
      refine oR [oF 0, oF 1, oF 2, oF 3, oF 4] [(59, .func (.func 52) #[] #[vP b_cmp_c0 0]), (58, vI n), (57, vI (IntKind.i64.wrap (i23 + i17))), (56, vI i23), (55, .slice A_data l19.length c_data), (0, .slice A_data l19.length c_data), (1, vI n), (2, .func (.func 52) #[] #[vP b_cmp_c0 0]), (6, vI i17)] [59, 58, 57, 56, 55, 0, 1, 2, 6] (by kernel_rfl) ?_
      obtain ⟨x29, hv30, hp⟩ := obind hp
      refine ops_callI (σ := (List Value)) (d := some 60) (f := 79) (args := #[.slice A_data l19.length c_data, vI i23, vI (IntKind.i64.wrap (i23 + i17)), vI n, .func (.func 52) #[] #[vP b_cmp_c0 0]]) (v := (fun x_ => match x_ with | y31 => .tuple #[])) (I := (fun x_ => match x_ with | y31 => (RepL (Rep.int .i64) F W x29 y31) ∧ (x29.length = l19.length))) (M' := (fun x_ => match x_ with | y31 => Mem w0 (orow A_data x29.length c_data 3 1 y31 :: .blk b_cmp_c0 [.slice A_cmp_c0_0 cmp_c0_0.length c_cmp_c0_0] 32 :: Fz F W :: cs))) ⟨by kernel_rfl⟩ (fun w_ hM hS => (slices_symMergeCmpFunc_int_ok w0 w_ (cs) F W A_data c_data l19 y20 i23 (IntKind.i64.wrap (i23 + i17)) n b_cmp_c0 A_cmp_c0_0 c_cmp_c0_0 cmp_c0_0 hM h21 h12 x29 hv30).mono (by rintro e w' ⟨y31, ⟨h32, h33⟩, rfl, h'⟩; have h' : Mem w0 (orow A_data x29.length c_data 3 1 y31 :: .blk b_cmp_c0 [.slice A_cmp_c0_0 cmp_c0_0.length c_cmp_c0_0] 32 :: Fz F W :: cs) w' := h'; exact ⟨y31, ⟨h32, h33⟩, rfl, h', trivial⟩)) ?_
      rintro y31 ⟨h32, h33⟩
      refine ops_conv (l' := [(60, .tuple #[]), (59, .func (.func 52) #[] #[vP b_cmp_c0 0]), (58, vI n), (57, vI (IntKind.i64.wrap (i23 + i17))), (56, vI i23), (55, .slice A_data x29.length c_data), (0, .slice A_data x29.length c_data), (1, vI n), (2, .func (.func 52) #[] #[vP b_cmp_c0 0]), (6, vI i17)]) (M' := Mem w0 (orow A_data x29.length c_data 3 1 y31 :: .blk b_cmp_c0 [.slice A_cmp_c0_0 cmp_c0_0.length c_cmp_c0_0] 32 :: Fz F W :: cs)) (by first | rfl | (rw [h33]; done) | (rw [h33]; rfl)) (fun _ h => h) ?_
      refine oR [] [(0, .slice A_data x29.length c_data), (1, vI n), (2, .func (.func 52) #[] #[vP b_cmp_c0 0]), (6, vI i17)] [0, 1, 2, 6] (by kernel_rfl) ?_
      refine ops_nil ?_
      exact fin_join HJ4 (x29, y31) ⟨hp, h32, (h33.trans hl22)⟩ (look_has ⟨rfl, rfl, rfl, rfl, trivial⟩) (fun w_ hM => hM)
     · --
      have hp := cnd_f hc28 hp
      refine st_skip ?_
      exact fin_join HJ4 (l19, y20) ⟨hp, h21, hl22⟩ (look_has ⟨rfl, rfl, rfl, rfl, trivial⟩) (fun w_ hM => hM)
   · --
    intro HJ3
    refine st_seq ?_
    refine st_block ?_
    obtain ⟨r5, hl5, hk5⟩ := obind hp
    refine st_loopP (σ := (List Int) × Int × Int) (ρ := (List Int) × Int) (γ := (List Value)) hl5 y14 (fun s_ g_ => match s_, g_ with | (l34, i38, i39), y35 => [(0, .slice A_data l34.length c_data), (1, vI n), (2, .func (.func 52) #[] #[vP b_cmp_c0 0]), (6, vI i17), (7, vI i38), (8, vI i39)]) (fun s_ g_ => match s_, g_ with | (l34, i38, i39), y35 => Mem w0 (orow A_data l34.length c_data 3 1 y35 :: .blk b_cmp_c0 [.slice A_cmp_c0_0 cmp_c0_0.length c_cmp_c0_0] 32 :: Fz F W :: cs)) (fun s_ g_ => match s_, g_ with | (l34, i38, i39), y35 => (RepL (Rep.int .i64) F W l34 y35) ∧ (l34.length = data.length)) ⟨h15, hl16⟩ (look_has ⟨rfl, rfl, rfl, rfl, rfl, rfl, trivial⟩) (fun w_ hM => hM) ?_
    rintro ⟨l34, i38, i39⟩ y35 o5 ⟨h36, hl37⟩ hs_ hd5
    have hp : (slices_stableCmpFunc_int_l5 n i17 cmp_c0_0) l34 i38 i39 = some o5 := hs_
    clear hs_
    unfold slices_stableCmpFunc_int_l5 at hp
    refine st_conv (l' := [(0, .slice A_data l34.length c_data), (1, vI n), (2, .func (.func 52) #[] #[vP b_cmp_c0 0]), (6, vI i17), (7, vI i38), (8, vI i39)]) (M' := Mem w0 (orow A_data l34.length c_data 3 1 y35 :: .blk b_cmp_c0 [.slice A_cmp_c0_0 cmp_c0_0.length c_cmp_c0_0] 32 :: Fz F W :: cs)) rfl (fun _ h => h) ?_
    refine st_seq ?_
    refine st_seq ?_
    refine st_region [oF 0, oF 1, oF 2] (by rfl) ?_
    refine oR [oF 0, oF 1, oF 2] [(35, .bool (decide (i39 ≤ n))), (0, .slice A_data l34.length c_data), (1, vI n), (2, .func (.func 52) #[] #[vP b_cmp_c0 0]), (6, vI i17), (7, vI i38), (8, vI i39)] [35, 0, 1, 2, 6, 7, 8] (by kernel_rfl) ?_
    refine ops_nil ?_
    refine fin_then ?_
    refine st_if (b := decide (i39 ≤ n)) rfl (fun hc40 => ?_) (fun hc40 => ?_)
    · --
     have hp := cnd_t hc40 hp
     refine st_skip ?_
     refine fin_then ?_
     refine st_block ?_
     refine st_seq ?_
     refine st_region [oF 0, oF 1, oF 2, oF 3, oF 4, oF 5, oF 6, oF 7] (by rfl) ?_
     refine oR [oF 0, oF 1, oF 2, oF 3, oF 4, oF 5, oF 6] [(42, .func (.func 52) #[] #[vP b_cmp_c0 0]), (41, vI i39), (40, vI (IntKind.i64.wrap (i38 + i17))), (37, vI i38), (36, .slice A_data l34.length c_data), (0, .slice A_data l34.length c_data), (1, vI n), (2, .func (.func 52) #[] #[vP b_cmp_c0 0]), (6, vI i17), (8, vI i39)] [42, 41, 40, 37, 36, 0, 1, 2, 6, 8] (by kernel_rfl) ?_
     obtain ⟨x41, hv42, hp⟩ := obind hp
     refine ops_callI (σ := (List Value)) (d := some 43) (f := 79) (args := #[.slice A_data l34.length c_data, vI i38, vI (IntKind.i64.wrap (i38 + i17)), vI i39, .func (.func 52) #[] #[vP b_cmp_c0 0]]) (v := (fun x_ => match x_ with | y43 => .tuple #[])) (I := (fun x_ => match x_ with | y43 => (RepL (Rep.int .i64) F W x41 y43) ∧ (x41.length = l34.length))) (M' := (fun x_ => match x_ with | y43 => Mem w0 (orow A_data x41.length c_data 3 1 y43 :: .blk b_cmp_c0 [.slice A_cmp_c0_0 cmp_c0_0.length c_cmp_c0_0] 32 :: Fz F W :: cs))) ⟨by kernel_rfl⟩ (fun w_ hM hS => (slices_symMergeCmpFunc_int_ok w0 w_ (cs) F W A_data c_data l34 y35 i38 (IntKind.i64.wrap (i38 + i17)) i39 b_cmp_c0 A_cmp_c0_0 c_cmp_c0_0 cmp_c0_0 hM h36 h12 x41 hv42).mono (by rintro e w' ⟨y43, ⟨h44, h45⟩, rfl, h'⟩; have h' : Mem w0 (orow A_data x41.length c_data 3 1 y43 :: .blk b_cmp_c0 [.slice A_cmp_c0_0 cmp_c0_0.length c_cmp_c0_0] 32 :: Fz F W :: cs) w' := h'; exact ⟨y43, ⟨h44, h45⟩, rfl, h', trivial⟩)) ?_
     rintro y43 ⟨h44, h45⟩
     refine ops_conv (l' := [(43, .tuple #[]), (42, .func (.func 52) #[] #[vP b_cmp_c0 0]), (41, vI i39), (40, vI (IntKind.i64.wrap (i38 + i17))), (37, vI i38), (36, .slice A_data x41.length c_data), (0, .slice A_data x41.length c_data), (1, vI n), (2, .func (.func 52) #[] #[vP b_cmp_c0 0]), (6, vI i17), (8, vI i39)]) (M' := Mem w0 (orow A_data x41.length c_data 3 1 y43 :: .blk b_cmp_c0 [.slice A_cmp_c0_0 cmp_c0_0.length c_cmp_c0_0] 32 :: Fz F W :: cs)) (by first | rfl | (rw [h45]; done) | (rw [h45]; rfl)) (fun _ h => h) ?_
     refine oR [] [(0, .slice A_data x41.length c_data), (1, vI n), (2, .func (.func 52) #[] #[vP b_cmp_c0 0]), (6, vI i17), (8, vI i39)] [0, 1, 2, 6, 8] (by kernel_rfl) ?_
     refine ops_nil ?_
     refine fin_then ?_
     refine st_seq ?_
     refine st_region [oF 0, oF 1] (by rfl) ?_
     refine oR [oF 0, oF 1] [(7, vI i39), (0, .slice A_data x41.length c_data), (1, vI n), (2, .func (.func 52) #[] #[vP b_cmp_c0 0]), (6, vI i17), (8, vI i39)] [7, 0, 1, 2, 6, 8] (by kernel_rfl) ?_
     refine ops_nil ?_
     refine fin_then ?_
     refine st_region [oF 0, oF 1, oF 2, oF 3, oF 4] (by rfl) ?_
     refine oR [oF 0, oF 1, oF 2, oF 3, oF 4] [(8, vI (IntKind.i64.wrap (i39 + IntKind.i64.wrap (2 * i17)))), (7, vI i39), (0, .slice A_data x41.length c_data), (1, vI n), (2, .func (.func 52) #[] #[vP b_cmp_c0 0]), (6, vI i17)] [8, 7, 0, 1, 2, 6] (by kernel_rfl) ?_
     refine ops_nil ?_
     refine fin_block ?_
     exact fin_again (x41, i39, IntKind.i64.wrap (i39 + IntKind.i64.wrap (2 * i17))) y43 (Option.some.inj hp).symm ⟨h44, (h45.trans hl37)⟩ (look_has ⟨rfl, rfl, rfl, rfl, rfl, rfl, trivial⟩) (fun w_ hM => hM)
    · --
     have hp := cnd_f hc40 hp
     refine st_exit ?_
     refine fin_exit_then ?_
     refine fin_exit_then ?_
     refine fin_exit ?_
     obtain hq_ := Option.some.inj hp
     subst hq_
     obtain hq_ := hd5 _ rfl
     subst hq_
     have hp : (slices_stableCmpFunc_int_j3 i17 n cmp_c0_0) l34 i38 = some o2 := hk5
     exact fin_join HJ3 (l34, y35, i38) ⟨hp, h36, hl37⟩ (look_has ⟨rfl, rfl, rfl, rfl, rfl, trivial⟩) (fun w_ hM => hM)
  · --
   have hp := cnd_f hc18 hp
   refine st_exit ?_
   refine fin_exit_then ?_
   refine fin_exit_then ?_
   refine fin_exit ?_
   obtain hq_ := Option.some.inj hp
   subst hq_
   obtain hq_ := hd2 _ rfl
   subst hq_
   have hp : some l13 = some l9001 := hk2
   have hq_ := Option.some.inj hp
   have hr0_ := hq_
   subst hr0_
   refine fin_ret [] [] rfl rfl (fun w_ hM => .nil) (fun w_ hM => ?_)
   exact ⟨y14, ⟨h15, hl16, h12⟩, rfl, hM⟩
 · --
  intro HJ1
  refine st_seq ?_
  refine st_block ?_
  obtain ⟨r6, hl6, hk6⟩ := obind hp
  refine st_loopP (σ := (List Int) × Int × Int) (ρ := (List Int) × Int) (γ := (List Value)) hl6 y_data (fun s_ g_ => match s_, g_ with | (l46, i51, i52), y47 => [(0, .slice A_data l46.length c_data), (1, vI n), (2, .func (.func 52) #[] #[vP b_cmp_c0 0]), (6, vI 20), (7, vI i51), (8, vI i52)]) (fun s_ g_ => match s_, g_ with | (l46, i51, i52), y47 => Mem w0 (orow A_data l46.length c_data 3 1 y47 :: .blk b_cmp_c0 [.slice A_cmp_c0_0 cmp_c0_0.length c_cmp_c0_0] 32 :: Fz F W :: cs)) (fun s_ g_ => match s_, g_ with | (l46, i51, i52), y47 => (RepL (Rep.int .i64) F W l46 y47) ∧ (l46.length = data.length) ∧ (RdS (Rep.int .i64) F W A_cmp_c0_0 c_cmp_c0_0 cmp_c0_0)) ⟨h_data, rfl, h_cmp_c0_0⟩ (look_has ⟨rfl, rfl, rfl, rfl, rfl, rfl, trivial⟩) (fun w_ hM => hM) ?_
  rintro ⟨l46, i51, i52⟩ y47 o6 ⟨h48, hl49, h50⟩ hs_ hd6
  have hp : (slices_stableCmpFunc_int_l6 n cmp_c0_0) l46 i51 i52 = some o6 := hs_
  clear hs_
  unfold slices_stableCmpFunc_int_l6 at hp
  refine st_conv (l' := [(0, .slice A_data l46.length c_data), (1, vI n), (2, .func (.func 52) #[] #[vP b_cmp_c0 0]), (6, vI 20), (7, vI i51), (8, vI i52)]) (M' := Mem w0 (orow A_data l46.length c_data 3 1 y47 :: .blk b_cmp_c0 [.slice A_cmp_c0_0 cmp_c0_0.length c_cmp_c0_0] 32 :: Fz F W :: cs)) rfl (fun _ h => h) ?_
  refine st_seq ?_
  refine st_seq ?_
  refine st_region [oF 0, oF 1, oF 2] (by rfl) ?_
  refine oR [oF 0, oF 1, oF 2] [(13, .bool (decide (i52 ≤ n))), (0, .slice A_data l46.length c_data), (1, vI n), (2, .func (.func 52) #[] #[vP b_cmp_c0 0]), (6, vI 20), (7, vI i51), (8, vI i52)] [13, 0, 1, 2, 6, 7, 8] (by kernel_rfl) ?_
  refine ops_nil ?_
  refine fin_then ?_
  refine st_if (b := decide (i52 ≤ n)) rfl (fun hc53 => ?_) (fun hc53 => ?_)
  · --
   have hp := cnd_t hc53 hp
   refine st_skip ?_
   refine fin_then ?_
   refine st_block ?_
   refine st_seq ?_
   refine st_region [oF 0, oF 1, oF 2, oF 3, oF 4] (by rfl) ?_
   refine oR [oF 0, oF 1, oF 2, oF 3] [(17, .func (.func 52) #[] #[vP b_cmp_c0 0]), (16, vI i52), (15, vI i51), (14, .slice A_data l46.length c_data), (0, .slice A_data l46.length c_data), (1, vI n), (2, .func (.func 52) #[] #[vP b_cmp_c0 0]), (6, vI 20), (8, vI i52)] [17, 16, 15, 14, 0, 1, 2, 6, 8] (by kernel_rfl) ?_
   obtain ⟨x54, hv55, hp⟩ := obind hp
   refine ops_callI (σ := (List Value)) (d := some 18) (f := 78) (args := #[.slice A_data l46.length c_data, vI i51, vI i52, .func (.func 52) #[] #[vP b_cmp_c0 0]]) (v := (fun x_ => match x_ with | y56 => .tuple #[])) (I := (fun x_ => match x_ with | y56 => (RepL (Rep.int .i64) F W x54 y56) ∧ (x54.length = l46.length) ∧ (RdS (Rep.int .i64) F W A_cmp_c0_0 c_cmp_c0_0 cmp_c0_0))) (M' := (fun x_ => match x_ with | y56 => Mem w0 (orow A_data x54.length c_data 3 1 y56 :: .blk b_cmp_c0 [.slice A_cmp_c0_0 cmp_c0_0.length c_cmp_c0_0] 32 :: Fz F W :: cs))) ⟨by kernel_rfl⟩ (fun w_ hM hS => (slices_insertionSortCmpFunc_int_ok w0 w_ (cs) F W A_data c_data l46 y47 i51 i52 b_cmp_c0 A_cmp_c0_0 c_cmp_c0_0 cmp_c0_0 hM h48 h50 x54 hv55).mono (by rintro e w' ⟨y56, ⟨h57, h58, h59⟩, rfl, h'⟩; have h' : Mem w0 (orow A_data x54.length c_data 3 1 y56 :: .blk b_cmp_c0 [.slice A_cmp_c0_0 cmp_c0_0.length c_cmp_c0_0] 32 :: Fz F W :: cs) w' := h'; exact ⟨y56, ⟨h57, h58, h59⟩, rfl, h', trivial⟩)) ?_
   rintro y56 ⟨h57, h58, h59⟩
   refine ops_conv (l' := [(18, .tuple #[]), (17, .func (.func 52) #[] #[vP b_cmp_c0 0]), (16, vI i52), (15, vI i51), (14, .slice A_data x54.length c_data), (0, .slice A_data x54.length c_data), (1, vI n), (2, .func (.func 52) #[] #[vP b_cmp_c0 0]), (6, vI 20), (8, vI i52)]) (M' := Mem w0 (orow A_data x54.length c_data 3 1 y56 :: .blk b_cmp_c0 [.slice A_cmp_c0_0 cmp_c0_0.length c_cmp_c0_0] 32 :: Fz F W :: cs)) (by first | rfl | (rw [h58]; done) | (rw [h58]; rfl)) (fun _ h => h) ?_
   refine oR [] [(0, .slice A_data x54.length c_data), (1, vI n), (2, .func (.func 52) #[] #[vP b_cmp_c0 0]), (6, vI 20), (8, vI i52)] [0, 1, 2, 6, 8] (by kernel_rfl) ?_
   refine ops_nil ?_
   refine fin_then ?_
   refine st_seq ?_
   refine st_region [oF 0, oF 1] (by rfl) ?_
   refine oR [oF 0, oF 1] [(7, vI i52), (0, .slice A_data x54.length c_data), (1, vI n), (2, .func (.func 52) #[] #[vP b_cmp_c0 0]), (6, vI 20), (8, vI i52)] [7, 0, 1, 2, 6, 8] (by kernel_rfl) ?_
   refine ops_nil ?_
   refine fin_then ?_
   refine st_region [oF 0, oF 1, oF 2, oF 3] (by rfl) ?_
   refine oR [oF 0, oF 1, oF 2, oF 3] [(8, vI (IntKind.i64.wrap (i52 + 20))), (7, vI i52), (0, .slice A_data x54.length c_data), (1, vI n), (2, .func (.func 52) #[] #[vP b_cmp_c0 0]), (6, vI 20)] [8, 7, 0, 1, 2, 6] (by kernel_rfl) ?_
   refine ops_nil ?_
   refine fin_block ?_
   exact fin_again (x54, i52, IntKind.i64.wrap (i52 + 20)) y56 (Option.some.inj hp).symm ⟨h57, (h58.trans hl49), h59⟩ (look_has ⟨rfl, rfl, rfl, rfl, rfl, rfl, trivial⟩) (fun w_ hM => hM)
  · --
   have hp := cnd_f hc53 hp
   refine st_exit ?_
   refine fin_exit_then ?_
   refine fin_exit_then ?_
   refine fin_exit ?_
   obtain hq_ := Option.some.inj hp
   subst hq_
   obtain hq_ := hd6 _ rfl
   subst hq_
   have hp : (slices_stableCmpFunc_int_j1 n cmp_c0_0) l46 i51 = some l9001 := hk6
   exact fin_join HJ1 (l46, y47, i51) ⟨hp, h48, hl49, h50⟩ (look_has ⟨rfl, rfl, rfl, rfl, rfl, trivial⟩) (fun w_ hM => hM)
set_option maxHeartbeats 4000000 in
set_option maxRecDepth 100000 in
theorem slices_SortStableFunc_int_int_ok (w0 w : World) (cs : List Chunk) (F : Nat → Prop) (W : World) (A_x : Option Addr) (c_x : Nat) (x : List Int) (y_x : List Value) (b_cmp_c0 : Nat) (A_cmp_c0_0 : Option Addr) (c_cmp_c0_0 : Nat) (cmp_c0_0 : List Int) (hM0 : Mem w0 (orow A_x x.length c_x 3 1 y_x :: .blk b_cmp_c0 [.slice A_cmp_c0_0 cmp_c0_0.length c_cmp_c0_0] 32 :: Fz F W :: cs) w) (h_x : RepL (Rep.int .i64) F W x y_x) (h_cmp_c0_0 : RdS (Rep.int .i64) F W A_cmp_c0_0 c_cmp_c0_0 cmp_c0_0) (l9001 : List Int) (hp : slices_SortStableFunc_int_int x cmp_c0_0 = some l9001) : Calls Try.prog 51 #[.slice A_x x.length c_x, .func (.func 52) #[] #[vP b_cmp_c0 0]] w fun e w' => ∃ (y9002 : List Value), ((RepL (Rep.int .i64) F W l9001 y9002) ∧ (l9001.length = x.length) ∧ (RdS (Rep.int .i64) F W A_cmp_c0_0 c_cmp_c0_0 cmp_c0_0)) ∧ e = .returned (.tuple #[]) ∧ Mem w0 (orow A_x l9001.length c_x 3 1 y9002 :: .blk b_cmp_c0 [.slice A_cmp_c0_0 cmp_c0_0.length c_cmp_c0_0] 32 :: Fz F W :: cs) w' := by
 unfold slices_SortStableFunc_int_int at hp
 refine sx_calls Try.func51 rfl (n := 9) (by kernel_rfl) (l := [(0, .slice A_x x.length c_x), (1, .func (.func 52) #[] #[vP b_cmp_c0 0])]) rfl (by rfl) hM0 ?_
 refine st_region [oF 0, oF 1, oF 2, oF 3, oF 4] (by rfl) ?_
 refine oR [oF 0, oF 1, oF 2, oF 3] [(7, .func (.func 52) #[] #[vP b_cmp_c0 0]), (6, vI (x.length : Int)), (4, .slice A_x x.length c_x)] [7, 6, 4] (by kernel_rfl) ?_
 obtain ⟨x1, hv2, hp⟩ := obind hp
 refine ops_callI (σ := (List Value)) (d := some 8) (f := 74) (args := #[.slice A_x x.length c_x, vI (x.length : Int), .func (.func 52) #[] #[vP b_cmp_c0 0]]) (v := (fun x_ => match x_ with | y3 => .tuple #[])) (I := (fun x_ => match x_ with | y3 => (RepL (Rep.int .i64) F W x1 y3) ∧ (x1.length = x.length) ∧ (RdS (Rep.int .i64) F W A_cmp_c0_0 c_cmp_c0_0 cmp_c0_0))) (M' := (fun x_ => match x_ with | y3 => Mem w0 (orow A_x x1.length c_x 3 1 y3 :: .blk b_cmp_c0 [.slice A_cmp_c0_0 cmp_c0_0.length c_cmp_c0_0] 32 :: Fz F W :: cs))) ⟨by kernel_rfl⟩ (fun w_ hM hS => (slices_stableCmpFunc_int_ok w0 w_ (cs) F W A_x c_x x y_x (x.length : Int) b_cmp_c0 A_cmp_c0_0 c_cmp_c0_0 cmp_c0_0 hM h_x h_cmp_c0_0 x1 hv2).mono (by rintro e w' ⟨y3, ⟨h4, h5, h6⟩, rfl, h'⟩; have h' : Mem w0 (orow A_x x1.length c_x 3 1 y3 :: .blk b_cmp_c0 [.slice A_cmp_c0_0 cmp_c0_0.length c_cmp_c0_0] 32 :: Fz F W :: cs) w' := h'; exact ⟨y3, ⟨h4, h5, h6⟩, rfl, h', trivial⟩)) ?_
 rintro y3 ⟨h4, h5, h6⟩
 refine ops_conv (l' := [(8, .tuple #[]), (7, .func (.func 52) #[] #[vP b_cmp_c0 0]), (6, vI (x.length : Int)), (4, .slice A_x x1.length c_x)]) (M' := Mem w0 (orow A_x x1.length c_x 3 1 y3 :: .blk b_cmp_c0 [.slice A_cmp_c0_0 cmp_c0_0.length c_cmp_c0_0] 32 :: Fz F W :: cs)) (by first | rfl | (rw [h5]; done) | (rw [h5]; rfl)) (fun _ h => h) ?_
 refine oR [] [] [] (by kernel_rfl) ?_
 refine ops_nil ?_
 have hq_ := Option.some.inj hp
 have hr0_ := hq_
 subst hr0_
 refine fin_ret [] [] rfl rfl (fun w_ hM => .nil) (fun w_ hM => ?_)
 exact ⟨y3, ⟨h4, h5, h6⟩, rfl, hM⟩
set_option maxHeartbeats 4000000 in
set_option maxRecDepth 100000 in
theorem tourlaw1_QueueSorts_ok (w0 w : World) (cs : List Chunk) (F : Nat → Prop) (W : World) (A_l : Option Addr) (c_l : Nat) (l : List Int) (hM0 : Mem w0 (Fz F W :: cs) w) (h_l : RdS (Rep.int .i64) F W A_l c_l l) (t9001 : Bool) (hp : tourlaw1_QueueSorts l = some t9001) : Calls Try.prog 7 #[.slice A_l l.length c_l] w fun e w' => (True) ∧ e = .returned (.bool t9001) ∧ Mem w0 (Fz F W :: cs) w' := by
 unfold tourlaw1_QueueSorts at hp
 refine sx_calls Try.func7 rfl (n := 60) (by kernel_rfl) (l := [(0, .slice A_l l.length c_l)]) rfl (by rfl) hM0 ?_
 refine st_seq ?_
 refine st_region [oF 0, oF 1] (by rfl) ?_
 refine ops_new (d := some 1) (o := .cells #[.slice A_l l.length c_l] 32) (v := fun b1 => vP b1 0) (M' := fun b1 => Mem w0 (.blk b1 [.slice A_l l.length c_l] 32 :: Fz F W :: cs)) (fun b1 => ⟨by kernel_rfl⟩) (fun w_ hM hS => ⟨hM.blk [.slice A_l l.length c_l] 32, trivial⟩) (fun b1 => ?_)
 refine oR [oF 1] [(1, vP b1 0)] [1] (by kernel_rfl) ?_
 refine ops_nil ?_
 refine fin_then ?_
 refine st_seq ?_
 refine st_seq ?_
 refine st_region [oF 0, oF 1, oF 2, oF 3, oF 4, oF 5, oF 6] (by rfl) ?_
 have h2 : RepL (Rep.int .i64) F W ([2, 1] : List Int) ([vI 2, vI 1]) := (RepL.cons (R := (Rep.int .i64)) (F := F) (w := W) (vs := [vI 2]) (ys := [vI 1]) rfl (RepL.cons (R := (Rep.int .i64)) (F := F) (w := W) (vs := [vI 1]) (ys := []) rfl RepL.nil))
 refine ops_new (d := some 10) (o := .cells ([vI 2, vI 1]).toArray 3) (v := fun g3 => .slice (some ⟨g3, 0, none⟩) ([2, 1] : List Int).length 2) (M' := fun g3 => Mem w0 (orow (some ⟨g3, 0, none⟩) ([2, 1] : List Int).length 2 3 1 ([vI 2, vI 1]) :: .blk b1 [.slice A_l l.length c_l] 32 :: Fz F W :: cs)) (fun g3 => ⟨by kernel_rfl⟩) (fun w_ hM hS => ⟨hM.onew [vI 2, vI 1] 3 2 1 rfl (by decide), trivial⟩) (fun g3 => ?_)
 obtain ⟨x4, x5, hv6, hp⟩ := obind2 hp
 refine ops_callI (σ := (Option Addr) × Nat × (List Value)) (d := some 11) (f := 50) (args := #[.slice (some ⟨g3, 0, none⟩) ([2, 1] : List Int).length 2]) (v := (fun x_ => match x_ with | (A7, c8, y9) => .tuple #[.slice A7 x4.length c8, vI x5])) (I := (fun x_ => match x_ with | (A7, c8, y9) => (RepL (Rep.int .i64) F W x4 y9))) (M' := (fun x_ => match x_ with | (A7, c8, y9) => Mem w0 (orow A7 x4.length c8 3 1 y9 :: orow (some ⟨g3, 0, none⟩) ([2, 1] : List Int).length 2 3 1 ([vI 2, vI 1]) :: .blk b1 [.slice A_l l.length c_l] 32 :: Fz F W :: cs))) ⟨by kernel_rfl⟩ (fun w_ hM hS => (queue_Sort_ok w_ w_ [] (fun b => b < w_.heap.size) w_ (some ⟨g3, 0, none⟩) 2 ([2, 1] : List Int) (Mem.fz0 w_) (hM.ordS 0 2 rfl rfl h2 rfl rfl) x4 x5 hv6).mono (by rintro e w' ⟨A7, c8, y9, h10, rfl, h'⟩; have h' : Mem w_ [orow A7 x4.length c8 3 1 y9] w' := h'.pick 2 [0] (by kernel_rfl) (by decide) rfl; exact ⟨(A7, c8, y9), (RepL.move' (fun h => h) h10), rfl, hM.join h' rfl, trivial⟩)) ?_
 rintro ⟨A7, c8, y9⟩ h10
 refine ops_conv (l' := [(11, .tuple #[.slice A7 x4.length c8, vI x5]), (10, .slice (some ⟨g3, 0, none⟩) ([2, 1] : List Int).length 2), (1, vP b1 0)]) (M' := Mem w0 (orow A7 x4.length c8 3 1 y9 :: orow (some ⟨g3, 0, none⟩) ([2, 1] : List Int).length 2 3 1 ([vI 2, vI 1]) :: .blk b1 [.slice A_l l.length c_l] 32 :: Fz F W :: cs)) rfl (fun _ h => h) ?_
 refine oR [oF 2, oF 3, oF 4, oF 5, oF 6] [(4, vI x5), (3, .slice A7 x4.length c8), (1, vP b1 0)] [4, 3, 1] (by kernel_rfl) ?_
 refine ops_nil ?_
 refine fin_then ?_
 refine st_seq ?_
 refine st_region [oF 0, oF 1, oF 2, oF 3, oF 4, oF 5, oF 6, oF 7] (by rfl) ?_
 refine oR [oF 0, oF 1, oF 2] [(16, .bool (!(x5 == 0))), (3, .slice A7 x4.length c8), (1, vP b1 0)] [16, 3, 1] (by kernel_rfl) ?_
 refine ops_bool (t := !(x5 == 0)) (l1 := [(16, .bool true), (3, .slice A7 x4.length c8), (1, vP b1 0)]) (l2 := [(16, .bool false), (3, .slice A7 x4.length c8), (1, vP b1 0)]) (fun h => by rw [h]) (fun h => by rw [h]) (fun hc11 => ?_) (fun hc11 => ?_)
 · --
  have hp := cnd_t hc11 hp
  refine oR [oF 3, oF 4, oF 5, oF 6, oF 7] [(21, .bool true), (1, vP b1 0)] [21, 1] (by kernel_rfl) ?_
  refine ops_nil ?_
  refine fin_then ?_
  refine st_true rfl ?_
  refine st_seq ?_
  refine st_region [oF 0] (by rfl) ?_
  refine oR [oF 0] [(2, .bool false)] [2] (by kernel_rfl) ?_
  refine ops_nil ?_
  refine fin_then ?_
  refine st_ret ?_
  refine fin_ret_then ?_
  have hq_ := Option.some.inj hp
  have hr0_ := hq_
  subst hr0_
  refine fin_ret [.tmp 2] [.bool false] rfl rfl (fun w_ hM => (.tmp rfl .nil)) (fun w_ hM => ?_)
  exact ⟨trivial, rfl, hM.pick 4 [3] (by kernel_rfl) (by decide) rfl⟩
 · --
  have hp := cnd_f hc11 hp
  refine oR [oF 3] [(17, .slice A7 x4.length c8), (16, .bool false), (1, vP b1 0)] [17, 16, 1] (by kernel_rfl) ?_
  have h12 : RepL (Rep.int .i64) F W ([1, 0] : List Int) ([vI 1, vI 0]) := (RepL.cons (R := (Rep.int .i64)) (F := F) (w := W) (vs := [vI 1]) (ys := [vI 0]) rfl (RepL.cons (R := (Rep.int .i64)) (F := F) (w := W) (vs := [vI 0]) (ys := []) rfl RepL.nil))
  refine ops_new (d := some 18) (o := .cells ([vI 1, vI 0]).toArray 3) (v := fun g13 => .slice (some ⟨g13, 0, none⟩) ([1, 0] : List Int).length 2) (M' := fun g13 => Mem w0 (orow (some ⟨g13, 0, none⟩) ([1, 0] : List Int).length 2 3 1 ([vI 1, vI 0]) :: orow A7 x4.length c8 3 1 y9 :: orow (some ⟨g3, 0, none⟩) ([2, 1] : List Int).length 2 3 1 ([vI 2, vI 1]) :: .blk b1 [.slice A_l l.length c_l] 32 :: Fz F W :: cs)) (fun g13 => ⟨by kernel_rfl⟩) (fun w_ hM hS => ⟨hM.onew [vI 1, vI 0] 3 2 1 rfl (by decide), trivial⟩) (fun g13 => ?_)
  obtain ⟨x14, hv15, hp⟩ := obind hp
  refine ops_callI (σ := Unit) (d := some 19) (f := 14) (args := #[.slice A7 x4.length c8, .slice (some ⟨g13, 0, none⟩) ([1, 0] : List Int).length 2]) (v := (fun _ => .bool x14)) (I := (fun _ => True)) (M' := (fun _ => Mem w0 (orow (some ⟨g13, 0, none⟩) ([1, 0] : List Int).length 2 3 1 ([vI 1, vI 0]) :: orow A7 x4.length c8 3 1 y9 :: orow (some ⟨g3, 0, none⟩) ([2, 1] : List Int).length 2 3 1 ([vI 2, vI 1]) :: .blk b1 [.slice A_l l.length c_l] 32 :: Fz F W :: cs))) ⟨by kernel_rfl⟩ (fun w_ hM hS => (slices_Equal_int_int_ok w_ w_ [] (fun b => b < w_.heap.size) w_ A7 c8 x4 (some ⟨g13, 0, none⟩) 2 ([1, 0] : List Int) (Mem.fz0 w_) (hM.ordS 1 4 rfl rfl h10 rfl rfl) (hM.ordS 0 4 rfl rfl h12 rfl rfl) x14 hv15).mono (by rintro e w' ⟨-, rfl, h'⟩; have h' : Mem w_ [] w' := h'.pick 1 [] (by kernel_rfl) (by decide) rfl; exact ⟨(), trivial, rfl, hM.join h' rfl, trivial⟩)) ?_
  rintro _ -
  refine ops_conv (l' := [(19, .bool x14), (18, .slice (some ⟨g13, 0, none⟩) ([1, 0] : List Int).length 2), (17, .slice A7 x4.length c8), (16, .bool false), (1, vP b1 0)]) (M' := Mem w0 (orow (some ⟨g13, 0, none⟩) ([1, 0] : List Int).length 2 3 1 ([vI 1, vI 0]) :: orow A7 x4.length c8 3 1 y9 :: orow (some ⟨g3, 0, none⟩) ([2, 1] : List Int).length 2 3 1 ([vI 2, vI 1]) :: .blk b1 [.slice A_l l.length c_l] 32 :: Fz F W :: cs)) rfl (fun _ h => h) ?_
  refine oR [oF 6, oF 7] [(21, .bool (!x14)), (1, vP b1 0)] [21, 1] (by kernel_rfl) ?_
  refine ops_nil ?_
  refine fin_then ?_
  refine st_if (b := !x14) rfl (fun hc16 => ?_) (fun hc16 => ?_)
  · --
   have hp := cnd_t hc16 hp
   refine st_seq ?_
   refine st_region [oF 0] (by rfl) ?_
   refine oR [oF 0] [(2, .bool false)] [2] (by kernel_rfl) ?_
   refine ops_nil ?_
   refine fin_then ?_
   refine st_ret ?_
   refine fin_ret_then ?_
   have hq_ := Option.some.inj hp
   have hr0_ := hq_
   subst hr0_
   refine fin_ret [.tmp 2] [.bool false] rfl rfl (fun w_ hM => (.tmp rfl .nil)) (fun w_ hM => ?_)
   exact ⟨trivial, rfl, hM.pick 5 [4] (by kernel_rfl) (by decide) rfl⟩
  · --
   have hp := cnd_f hc16 hp
   refine st_skip ?_
   refine fin_then ?_
   refine st_seq ?_
   refine st_region [oF 0, oF 1, oF 2, oF 3, oF 4, oF 5, oF 6] (by rfl) ?_
   refine oR [] [(1, vP b1 0)] [1] (by kernel_rfl) ?_
   refine ops_mem (d := some 23) (an := [.v (.slice A_l l.length c_l)]) (evs := [.load ⟨b1, 0, none⟩ (.slice A_l l.length c_l)]) (v := .slice A_l l.length c_l) (M' := Mem w0 (orow (some ⟨g13, 0, none⟩) ([1, 0] : List Int).length 2 3 1 ([vI 1, vI 0]) :: orow A7 x4.length c8 3 1 y9 :: orow (some ⟨g3, 0, none⟩) ([2, 1] : List Int).length 2 3 1 ([vI 2, vI 1]) :: .blk b1 [.slice A_l l.length c_l] 32 :: Fz F W :: cs)) ⟨by kernel_rfl⟩ (fun w_ hM hS => ⟨w_, ⟨hM.cell 3 rfl rfl, rfl⟩, hM, trivial⟩) ?_
   obtain ⟨x17, x18, hv19, hp⟩ := obind2 hp
   refine ops_callI (σ := (Option Addr) × Nat × (List Value)) (d := some 24) (f := 50) (args := #[.slice A_l l.length c_l]) (v := (fun x_ => match x_ with | (A20, c21, y22) => .tuple #[.slice A20 x17.length c21, vI x18])) (I := (fun x_ => match x_ with | (A20, c21, y22) => (RepL (Rep.int .i64) F W x17 y22))) (M' := (fun x_ => match x_ with | (A20, c21, y22) => Mem w0 (orow A20 x17.length c21 3 1 y22 :: orow (some ⟨g13, 0, none⟩) ([1, 0] : List Int).length 2 3 1 ([vI 1, vI 0]) :: orow A7 x4.length c8 3 1 y9 :: orow (some ⟨g3, 0, none⟩) ([2, 1] : List Int).length 2 3 1 ([vI 2, vI 1]) :: .blk b1 [.slice A_l l.length c_l] 32 :: Fz F W :: cs))) ⟨by kernel_rfl⟩ (fun w_ hM hS => (queue_Sort_ok w0 w_ (orow (some ⟨g13, 0, none⟩) ([1, 0] : List Int).length 2 3 1 ([vI 1, vI 0]) :: orow A7 x4.length c8 3 1 y9 :: orow (some ⟨g3, 0, none⟩) ([2, 1] : List Int).length 2 3 1 ([vI 2, vI 1]) :: .blk b1 [.slice A_l l.length c_l] 32 :: cs) F W A_l c_l l (hM.pick 5 [4, 0, 1, 2, 3] (by kernel_rfl) (by decide) rfl) h_l x17 x18 hv19).mono (by rintro e w' ⟨A20, c21, y22, h23, rfl, h'⟩; have h' : Mem w0 (orow A20 x17.length c21 3 1 y22 :: orow (some ⟨g13, 0, none⟩) ([1, 0] : List Int).length 2 3 1 ([vI 1, vI 0]) :: orow A7 x4.length c8 3 1 y9 :: orow (some ⟨g3, 0, none⟩) ([2, 1] : List Int).length 2 3 1 ([vI 2, vI 1]) :: .blk b1 [.slice A_l l.length c_l] 32 :: Fz F W :: cs) w' := (h'.pick 6 [0, 2, 3, 4, 5, 1] (by kernel_rfl) (by decide) rfl); exact ⟨(A20, c21, y22), h23, rfl, h', trivial⟩)) ?_
   rintro ⟨A20, c21, y22⟩ h23
   refine ops_conv (l' := [(24, .tuple #[.slice A20 x17.length c21, vI x18]), (23, .slice A_l l.length c_l), (1, vP b1 0)]) (M' := Mem w0 (orow A20 x17.length c21 3 1 y22 :: orow (some ⟨g13, 0, none⟩) ([1, 0] : List Int).length 2 3 1 ([vI 1, vI 0]) :: orow A7 x4.length c8 3 1 y9 :: orow (some ⟨g3, 0, none⟩) ([2, 1] : List Int).length 2 3 1 ([vI 2, vI 1]) :: .blk b1 [.slice A_l l.length c_l] 32 :: Fz F W :: cs)) rfl (fun _ h => h) ?_
   refine oR [oF 2, oF 3, oF 4, oF 5, oF 6] [(6, vI x18), (5, .slice A20 x17.length c21), (1, vP b1 0)] [6, 5, 1] (by kernel_rfl) ?_
   refine ops_nil ?_
   refine fin_then ?_
   refine st_seq ?_
   refine st_seq ?_
   refine st_region [oF 0, oF 1, oF 2] (by rfl) ?_
   refine ops_mem (d := some 27) (an := [.v (.slice A_l l.length c_l)]) (evs := [.load ⟨b1, 0, none⟩ (.slice A_l l.length c_l)]) (v := .slice A_l l.length c_l) (M' := Mem w0 (orow A20 x17.length c21 3 1 y22 :: orow (some ⟨g13, 0, none⟩) ([1, 0] : List Int).length 2 3 1 ([vI 1, vI 0]) :: orow A7 x4.length c8 3 1 y9 :: orow (some ⟨g3, 0, none⟩) ([2, 1] : List Int).length 2 3 1 ([vI 2, vI 1]) :: .blk b1 [.slice A_l l.length c_l] 32 :: Fz F W :: cs)) ⟨by kernel_rfl⟩ (fun w_ hM hS => ⟨w_, ⟨hM.cell 4 rfl rfl, rfl⟩, hM, trivial⟩) ?_
   refine oR [oF 1, oF 2] [(29, .bool (decide (4096 < (l.length : Int)))), (6, vI x18), (5, .slice A20 x17.length c21), (1, vP b1 0)] [29, 6, 5, 1] (by kernel_rfl) ?_
   refine ops_nil ?_
   refine fin_then ?_
   refine st_if (b := decide (4096 < (l.length : Int))) rfl (fun hc24 => ?_) (fun hc24 => ?_)
   · --
    have hp := cnd_t hc24 hp
    refine st_join1 (σ := Bool) (L := fun x_ => match x_ with | t25 => [(2, .bool t25)]) (N := fun x_ => match x_ with | t25 => Mem w0 (Fz F W :: cs)) (I := fun x_ => match x_ with | t25 => (tourlaw1_QueueSorts_j1 t25 = some t9001)) ?_ ?_
    · --
     rintro t25 hp
     refine st_conv (l' := [(2, .bool t25)]) (M' := Mem w0 (Fz F W :: cs)) rfl (fun _ h => h) ?_
     unfold tourlaw1_QueueSorts_j1 at hp
     refine st_ret ?_
     refine fin_ret_then ?_
     have hq_ := Option.some.inj hp
     have hr0_ := hq_
     subst hr0_
     refine fin_ret [.tmp 2] [.bool t25] rfl rfl (fun w_ hM => (.tmp rfl .nil)) (fun w_ hM => ?_)
     exact ⟨trivial, rfl, hM⟩
    · --
     intro HJ1
     refine st_seq ?_
     refine st_region [oF 0, oF 1, oF 2, oF 3, oF 4, oF 5, oF 6, oF 7] (by rfl) ?_
     refine oR [oF 0, oF 1, oF 2] [(32, .bool (x18 == 2)), (5, .slice A20 x17.length c21)] [32, 5] (by kernel_rfl) ?_
     refine ops_bool (t := (x18 == 2)) (l1 := [(32, .bool true), (5, .slice A20 x17.length c21)]) (l2 := [(32, .bool false), (5, .slice A20 x17.length c21)]) (fun h => by rw [h]) (fun h => by rw [h]) (fun hc26 => ?_) (fun hc26 => ?_)
     · --
      have hp := cnd_t hc26 hp
      refine oR [oF 3, oF 4, oF 5, oF 6, oF 7] [(2, .bool ((x17.length : Int) == 0))] [2] (by kernel_rfl) ?_
      refine ops_nil ?_
      exact fin_join HJ1 ((x17.length : Int) == 0) hp (look_has ⟨rfl, trivial⟩) (fun w_ hM => hM.pick 6 [5] (by kernel_rfl) (by decide) rfl)
     · --
      have hp := cnd_f hc26 hp
      refine oR [oF 3, oF 4, oF 5, oF 6, oF 7] [(2, .bool false)] [2] (by kernel_rfl) ?_
      refine ops_nil ?_
      exact fin_join HJ1 false hp (look_has ⟨rfl, trivial⟩) (fun w_ hM => hM.pick 6 [5] (by kernel_rfl) (by decide) rfl)
   · --
    have hp := cnd_f hc24 hp
    refine st_skip ?_
    refine fin_then ?_
    refine st_seq ?_
    refine st_region [oF 0, oF 1, oF 2, oF 3] (by rfl) ?_
    refine oR [] [(6, vI x18), (5, .slice A20 x17.length c21), (1, vP b1 0)] [6, 5, 1] (by kernel_rfl) ?_
    refine ops_mem (d := some 37) (an := [.v (.slice A_l l.length c_l)]) (evs := [.load ⟨b1, 0, none⟩ (.slice A_l l.length c_l)]) (v := .slice A_l l.length c_l) (M' := Mem w0 (orow A20 x17.length c21 3 1 y22 :: orow (some ⟨g13, 0, none⟩) ([1, 0] : List Int).length 2 3 1 ([vI 1, vI 0]) :: orow A7 x4.length c8 3 1 y9 :: orow (some ⟨g3, 0, none⟩) ([2, 1] : List Int).length 2 3 1 ([vI 2, vI 1]) :: .blk b1 [.slice A_l l.length c_l] 32 :: Fz F W :: cs)) ⟨by kernel_rfl⟩ (fun w_ hM hS => ⟨w_, ⟨hM.cell 4 rfl rfl, rfl⟩, hM, trivial⟩) ?_
    refine oR [oF 1] [(38, vI (l.length : Int)), (6, vI x18), (5, .slice A20 x17.length c21), (1, vP b1 0)] [38, 6, 5, 1] (by kernel_rfl) ?_
    obtain ⟨l27, hv28, hp⟩ := obind hp
    obtain ⟨m29, hm30, he31, hb32⟩ := mk_some hv28
    have hl33 : l27.length = m29 := by rw [he31, List.length_replicate]
    obtain ⟨y34, hy35⟩ : ∃ y_, (Sx.madeOf [vI 0] (l27.length * 1)).toList = y_ := ⟨_, rfl⟩
    have h36 : RepL (Rep.int .i64) F W l27 y34 := by rw [← hy35, hl33, he31]; exact RepL.made rfl (by decide) _
    refine ops_makeO (t := 32) (x := (Go.Operand.tmp 38)) (y := (Go.Operand.tmp 38)) (d := some 39) (nn := l27.length) (z := 1) (bytes := 8) (xs := y34) (zv := vI 0) ⟨by kernel_rfl⟩ rfl rfl (by rw [hl33]; exact hm30) (by rw [hl33]; exact hm30) Try.underlying32 (by kernel_rfl) (by rw [hl33]; exact hb32) (by rfl) hy35 (fun _ _ _ hS h' => trivial) (fun g37 => ?_)
    refine oR [oF 3] [(7, .slice (some ⟨g37, 0, none⟩) l27.length l27.length), (6, vI x18), (5, .slice A20 x17.length c21), (1, vP b1 0)] [7, 6, 5, 1] (by kernel_rfl) ?_
    refine ops_nil ?_
    refine fin_then ?_
    refine st_join1 (σ := (List Int) × (List Value)) (L := fun x_ => match x_ with | (l38, y39) => [(1, vP b1 0), (5, .slice A20 x17.length c21), (6, vI x18), (7, .slice (some ⟨g37, 0, none⟩) l38.length l27.length)]) (N := fun x_ => match x_ with | (l38, y39) => Mem w0 (.blk b1 [.slice A_l l.length c_l] 32 :: orow A20 x17.length c21 3 1 y22 :: orow (some ⟨g37, 0, none⟩) l38.length l27.length 3 1 y39 :: Fz F W :: cs)) (I := fun x_ => match x_ with | (l38, y39) => ((tourlaw1_QueueSorts_j2 l x18 x17) l38 = some t9001) ∧ (RepL (Rep.int .i64) F W l38 y39)) ?_ ?_
    · --
     rintro ⟨l38, y39⟩ ⟨hp, h40⟩
     refine st_conv (l' := [(1, vP b1 0), (5, .slice A20 x17.length c21), (6, vI x18), (7, .slice (some ⟨g37, 0, none⟩) l38.length l27.length)]) (M' := Mem w0 (.blk b1 [.slice A_l l.length c_l] 32 :: orow A20 x17.length c21 3 1 y22 :: orow (some ⟨g37, 0, none⟩) l38.length l27.length 3 1 y39 :: Fz F W :: cs)) rfl (fun _ h => h) ?_
     unfold tourlaw1_QueueSorts_j2 at hp
     refine st_seq ?_
     refine st_region [oF 0, oF 1, oF 2] (by rfl) ?_
     refine oR [oF 0, oF 1] [(51, .func (.func 52) #[] #[vP b1 0]), (50, .slice (some ⟨g37, 0, none⟩) l38.length l27.length), (5, .slice A20 x17.length c21), (6, vI x18), (7, .slice (some ⟨g37, 0, none⟩) l38.length l27.length)] [51, 50, 5, 6, 7] (by kernel_rfl) ?_
     obtain ⟨x41, hv42, hp⟩ := obind hp
     refine ops_callI (σ := (List Value)) (d := some 52) (f := 51) (args := #[.slice (some ⟨g37, 0, none⟩) l38.length l27.length, .func (.func 52) #[] #[vP b1 0]]) (v := (fun x_ => match x_ with | y43 => .tuple #[])) (I := (fun x_ => match x_ with | y43 => (RepL (Rep.int .i64) F W x41 y43) ∧ (x41.length = l38.length) ∧ (RdS (Rep.int .i64) F W A_l c_l l))) (M' := (fun x_ => match x_ with | y43 => Mem w0 (.blk b1 [.slice A_l l.length c_l] 32 :: orow A20 x17.length c21 3 1 y22 :: orow (some ⟨g37, 0, none⟩) x41.length l27.length 3 1 y43 :: Fz F W :: cs))) ⟨by kernel_rfl⟩ (fun w_ hM hS => (slices_SortStableFunc_int_int_ok w0 w_ (orow A20 x17.length c21 3 1 y22 :: cs) F W (some ⟨g37, 0, none⟩) l27.length l38 y39 b1 A_l c_l l (hM.pick 4 [2, 0, 3, 1] (by kernel_rfl) (by decide) rfl) h40 h_l x41 hv42).mono (by rintro e w' ⟨y43, ⟨h44, h45, h46⟩, rfl, h'⟩; have h' : Mem w0 (.blk b1 [.slice A_l l.length c_l] 32 :: orow A20 x17.length c21 3 1 y22 :: orow (some ⟨g37, 0, none⟩) x41.length l27.length 3 1 y43 :: Fz F W :: cs) w' := (h'.pick 4 [1, 3, 0, 2] (by kernel_rfl) (by decide) rfl); exact ⟨y43, ⟨h44, h45, h46⟩, rfl, h', trivial⟩)) ?_
     rintro y43 ⟨h44, h45, h46⟩
     refine ops_conv (l' := [(52, .tuple #[]), (51, .func (.func 52) #[] #[vP b1 0]), (50, .slice (some ⟨g37, 0, none⟩) x41.length l27.length), (5, .slice A20 x17.length c21), (6, vI x18), (7, .slice (some ⟨g37, 0, none⟩) x41.length l27.length)]) (M' := Mem w0 (.blk b1 [.slice A_l l.length c_l] 32 :: orow A20 x17.length c21 3 1 y22 :: orow (some ⟨g37, 0, none⟩) x41.length l27.length 3 1 y43 :: Fz F W :: cs)) (by first | rfl | (rw [h45]; done) | (rw [h45]; rfl)) (fun _ h => h) ?_
     refine oR [] [(5, .slice A20 x17.length c21), (6, vI x18), (7, .slice (some ⟨g37, 0, none⟩) x41.length l27.length)] [5, 6, 7] (by kernel_rfl) ?_
     refine ops_nil ?_
     refine fin_then ?_
     refine st_join1 (σ := Bool) (L := fun x_ => match x_ with | t47 => [(2, .bool t47)]) (N := fun x_ => match x_ with | t47 => Mem w0 (Fz F W :: cs)) (I := fun x_ => match x_ with | t47 => (tourlaw1_QueueSorts_j3 t47 = some t9001)) ?_ ?_
     · --
      rintro t47 hp
      refine st_conv (l' := [(2, .bool t47)]) (M' := Mem w0 (Fz F W :: cs)) rfl (fun _ h => h) ?_
      unfold tourlaw1_QueueSorts_j3 at hp
      refine st_ret ?_
      have hq_ := Option.some.inj hp
      have hr0_ := hq_
      subst hr0_
      refine fin_ret [.tmp 2] [.bool t47] rfl rfl (fun w_ hM => (.tmp rfl .nil)) (fun w_ hM => ?_)
      exact ⟨trivial, rfl, hM⟩
     · --
      intro HJ3
      refine st_seq ?_
      refine st_region [oF 0, oF 1, oF 2, oF 3, oF 4, oF 5, oF 6, oF 7] (by rfl) ?_
      refine oR [oF 0, oF 1, oF 2] [(55, .bool (x18 == 0)), (5, .slice A20 x17.length c21), (7, .slice (some ⟨g37, 0, none⟩) x41.length l27.length)] [55, 5, 7] (by kernel_rfl) ?_
      refine ops_bool (t := (x18 == 0)) (l1 := [(55, .bool true), (5, .slice A20 x17.length c21), (7, .slice (some ⟨g37, 0, none⟩) x41.length l27.length)]) (l2 := [(55, .bool false), (5, .slice A20 x17.length c21), (7, .slice (some ⟨g37, 0, none⟩) x41.length l27.length)]) (fun h => by rw [h]) (fun h => by rw [h]) (fun hc48 => ?_) (fun hc48 => ?_)
      · --
       have hp := cnd_t hc48 hp
       refine oR [oF 3, oF 4] [(57, .slice (some ⟨g37, 0, none⟩) x41.length l27.length), (56, .slice A20 x17.length c21), (55, .bool true)] [57, 56, 55] (by kernel_rfl) ?_
       obtain ⟨x49, hv50, hp⟩ := obind hp
       refine ops_callI (σ := Unit) (d := some 58) (f := 14) (args := #[.slice A20 x17.length c21, .slice (some ⟨g37, 0, none⟩) x41.length l27.length]) (v := (fun _ => .bool x49)) (I := (fun _ => True)) (M' := (fun _ => Mem w0 (.blk b1 [.slice A_l l.length c_l] 32 :: orow A20 x17.length c21 3 1 y22 :: orow (some ⟨g37, 0, none⟩) x41.length l27.length 3 1 y43 :: Fz F W :: cs))) ⟨by kernel_rfl⟩ (fun w_ hM hS => (slices_Equal_int_int_ok w_ w_ [] (fun b => b < w_.heap.size) w_ A20 c21 x17 (some ⟨g37, 0, none⟩) l27.length x41 (Mem.fz0 w_) (hM.ordS 1 3 rfl rfl h23 rfl rfl) (hM.ordS 2 3 rfl rfl h44 rfl rfl) x49 hv50).mono (by rintro e w' ⟨-, rfl, h'⟩; have h' : Mem w_ [] w' := h'.pick 1 [] (by kernel_rfl) (by decide) rfl; exact ⟨(), trivial, rfl, hM.join h' rfl, trivial⟩)) ?_
       rintro _ -
       refine ops_conv (l' := [(58, .bool x49), (57, .slice (some ⟨g37, 0, none⟩) x41.length l27.length), (56, .slice A20 x17.length c21), (55, .bool true)]) (M' := Mem w0 (.blk b1 [.slice A_l l.length c_l] 32 :: orow A20 x17.length c21 3 1 y22 :: orow (some ⟨g37, 0, none⟩) x41.length l27.length 3 1 y43 :: Fz F W :: cs)) rfl (fun _ h => h) ?_
       refine oR [oF 6, oF 7] [(2, .bool x49)] [2] (by kernel_rfl) ?_
       refine ops_nil ?_
       exact fin_join HJ3 x49 hp (look_has ⟨rfl, trivial⟩) (fun w_ hM => hM.pick 4 [3] (by kernel_rfl) (by decide) rfl)
      · --
       have hp := cnd_f hc48 hp
       refine oR [oF 3, oF 4, oF 5, oF 6, oF 7] [(2, .bool false)] [2] (by kernel_rfl) ?_
       refine ops_nil ?_
       exact fin_join HJ3 false hp (look_has ⟨rfl, trivial⟩) (fun w_ hM => hM.pick 4 [3] (by kernel_rfl) (by decide) rfl)
    · --
     intro HJ2
     refine st_seq ?_
     refine st_seq ?_
     refine st_region [oF 0, oF 1, oF 2] (by rfl) ?_
     refine oR [oF 0, oF 1, oF 2] [(42, vI 0), (41, vI (l27.length : Int)), (7, .slice (some ⟨g37, 0, none⟩) l27.length l27.length), (6, vI x18), (5, .slice A20 x17.length c21), (1, vP b1 0)] [42, 41, 7, 6, 5, 1] (by kernel_rfl) ?_
     refine ops_nil ?_
     refine fin_then ?_
     refine st_block ?_
     obtain ⟨r4, hl4, hk4⟩ := obind hp
     refine st_loopP (σ := (List Int) × Int) (ρ := (List Int)) (γ := (List Value)) hl4 y34 (fun s_ g_ => match s_, g_ with | (l51, i54), y52 => [(1, vP b1 0), (5, .slice A20 x17.length c21), (6, vI x18), (7, .slice (some ⟨g37, 0, none⟩) l51.length l27.length), (41, vI (l27.length : Int)), (42, vI i54)]) (fun s_ g_ => match s_, g_ with | (l51, i54), y52 => Mem w0 (.blk b1 [.slice A_l l.length c_l] 32 :: orow A20 x17.length c21 3 1 y22 :: orow (some ⟨g37, 0, none⟩) l51.length l27.length 3 1 y52 :: Fz F W :: cs)) (fun s_ g_ => match s_, g_ with | (l51, i54), y52 => (RepL (Rep.int .i64) F W l51 y52)) h36 (look_has ⟨rfl, rfl, rfl, rfl, rfl, rfl, trivial⟩) (fun w_ hM => hM.pick 7 [5, 1, 0, 6] (by kernel_rfl) (by decide) rfl) ?_
     rintro ⟨l51, i54⟩ y52 o4 h53 hs_ hd4
     have hp : (tourlaw1_QueueSorts_l4 l27) l51 i54 = some o4 := hs_
     clear hs_
     unfold tourlaw1_QueueSorts_l4 at hp
     refine st_conv (l' := [(1, vP b1 0), (5, .slice A20 x17.length c21), (6, vI x18), (7, .slice (some ⟨g37, 0, none⟩) l51.length l27.length), (41, vI (l27.length : Int)), (42, vI i54)]) (M' := Mem w0 (.blk b1 [.slice A_l l.length c_l] 32 :: orow A20 x17.length c21 3 1 y22 :: orow (some ⟨g37, 0, none⟩) l51.length l27.length 3 1 y52 :: Fz F W :: cs)) rfl (fun _ h => h) ?_
     refine st_seq ?_
     refine st_region [oF 0] (by rfl) ?_
     refine oR [oF 0] [(43, .bool (decide (i54 < (l27.length : Int)))), (1, vP b1 0), (5, .slice A20 x17.length c21), (6, vI x18), (7, .slice (some ⟨g37, 0, none⟩) l51.length l27.length), (41, vI (l27.length : Int)), (42, vI i54)] [43, 1, 5, 6, 7, 41, 42] (by kernel_rfl) ?_
     refine ops_nil ?_
     refine fin_then ?_
     refine st_seq ?_
     refine st_if (b := decide (i54 < (l27.length : Int))) rfl (fun hc55 => ?_) (fun hc55 => ?_)
     · --
      have hp := cnd_t hc55 hp
      refine st_skip ?_
      refine fin_then ?_
      refine st_seq ?_
      refine st_block ?_
      refine st_seq ?_
      refine st_region [oF 0, oF 1] (by rfl) ?_
      refine oR [oF 0, oF 1] [(8, vI i54), (1, vP b1 0), (5, .slice A20 x17.length c21), (6, vI x18), (7, .slice (some ⟨g37, 0, none⟩) l51.length l27.length), (41, vI (l27.length : Int)), (42, vI i54)] [8, 1, 5, 6, 7, 41, 42] (by kernel_rfl) ?_
      refine ops_nil ?_
      refine fin_then ?_
      refine st_region [oF 0, oF 1, oF 2, oF 3, oF 4] (by rfl) ?_
      refine oR [oF 0, oF 1, oF 2] [(47, vI i54), (46, vI i54), (45, .slice (some ⟨g37, 0, none⟩) l51.length l27.length), (1, vP b1 0), (5, .slice A20 x17.length c21), (6, vI x18), (7, .slice (some ⟨g37, 0, none⟩) l51.length l27.length), (41, vI (l27.length : Int)), (42, vI i54)] [47, 46, 45, 1, 5, 6, 7, 41, 42] (by kernel_rfl) ?_
      obtain ⟨x56, hv57, hp⟩ := obind hp
      obtain ⟨m58, hm59, hx60⟩ := idx_some hv57
      have hl63 := (List.getElem?_eq_some_iff.1 hx60).1
      obtain ⟨vs61, hr62, hq64⟩ := h53.at_ m58 x56 hx60
      obtain rfl := hr62
      refine ops_val (op := (Go.Op.indexAddr 32 (Go.Operand.tmp 45) (Go.Operand.tmp 46))) (d := some 48) (v := vP g37 (m58 * 1)) ⟨by kernel_rfl⟩ (run_indexRow Try.underlying32 (z := 1) (by kernel_rfl) rfl rfl hm59 hl63 rfl) ?_
      refine oR [] [(48, vP g37 (m58 * 1)), (47, vI i54), (1, vP b1 0), (5, .slice A20 x17.length c21), (6, vI x18), (7, .slice (some ⟨g37, 0, none⟩) l51.length l27.length), (41, vI (l27.length : Int)), (42, vI i54)] [48, 47, 1, 5, 6, 7, 41, 42] (by kernel_rfl) ?_
      obtain ⟨l65, hv66, hp⟩ := obind hp
      obtain ⟨m67, hm68, hl69, he70⟩ := upd_some hv66
      obtain rfl : m58 = m67 := by have := hm59; omega
      have hl71 : l51.length = l65.length := by rw [he70, List.length_set]
      obtain ⟨y72, hy73⟩ : ∃ y_, setAll y52 (m58 * 1 + 0) [vI i54] = y_ := ⟨_, rfl⟩
      have h74 : RepL (Rep.int .i64) F W l65 y72 := by rw [he70, ← hy73]; exact RepL.set h53 (List.getElem?_eq_getElem hl69) (fun vs_ hr_ _ => by obtain rfl := hr_; exact ⟨rfl, Nat.le_of_ble_eq_true rfl⟩)
      refine ops_store (an := []) (evs := [.store ⟨g37, m58 * 1, none⟩ (vI i54)]) (M' := Mem w0 (.blk b1 [.slice A_l l.length c_l] 32 :: orow A20 x17.length c21 3 1 y22 :: orow (some ⟨g37, 0, none⟩) l65.length l27.length 3 1 y72 :: Fz F W :: cs)) ⟨by kernel_rfl⟩ (fun w_ hM hS => let ⟨w', he, h'⟩ := hM.ostore' 2 rfl (m58 * 1 + 0) [vI i54] (by have z_ : y52.length = l51.length * 1 := h53.len; have y_ : (m58 + 1) * 1 ≤ l51.length * 1 := Nat.mul_le_mul_right _ hl69; rw [Nat.add_mul] at y_; simp only [List.length_cons, List.length_nil]; omega) hl71 hy73; ⟨w', he, h', trivial⟩) ?_
      refine ops_conv (l' := [(48, vP g37 (m58 * 1)), (47, vI i54), (1, vP b1 0), (5, .slice A20 x17.length c21), (6, vI x18), (7, .slice (some ⟨g37, 0, none⟩) l65.length l27.length), (41, vI (l27.length : Int)), (42, vI i54)]) (M' := Mem w0 (.blk b1 [.slice A_l l.length c_l] 32 :: orow A20 x17.length c21 3 1 y22 :: orow (some ⟨g37, 0, none⟩) l65.length l27.length 3 1 y72 :: Fz F W :: cs)) (by first | rfl | rw [hl71]) (fun w_ hM => by first | exact hM | (rw [hl71] at hM; exact hM)) ?_
      refine oR [] [(1, vP b1 0), (5, .slice A20 x17.length c21), (6, vI x18), (7, .slice (some ⟨g37, 0, none⟩) l65.length l27.length), (41, vI (l27.length : Int)), (42, vI i54)] [1, 5, 6, 7, 41, 42] (by kernel_rfl) ?_
      refine ops_nil ?_
      refine fin_block ?_
      refine fin_then ?_
      refine st_region [oF 0, oF 1] (by rfl) ?_
      refine oR [oF 0, oF 1] [(42, vI (IntKind.i64.wrap (i54 + 1))), (1, vP b1 0), (5, .slice A20 x17.length c21), (6, vI x18), (7, .slice (some ⟨g37, 0, none⟩) l65.length l27.length), (41, vI (l27.length : Int))] [42, 1, 5, 6, 7, 41] (by kernel_rfl) ?_
      refine ops_nil ?_
      exact fin_again (l65, IntKind.i64.wrap (i54 + 1)) y72 (Option.some.inj hp).symm h74 (look_has ⟨rfl, rfl, rfl, rfl, rfl, rfl, trivial⟩) (fun w_ hM => hM)
     · --
      have hp := cnd_f hc55 hp
      refine st_exit ?_
      refine fin_exit_then ?_
      refine fin_exit_then ?_
      refine fin_exit ?_
      obtain hq_ := Option.some.inj hp
      subst hq_
      obtain hq_ := hd4 _ rfl
      subst hq_
      have hp : (tourlaw1_QueueSorts_j2 l x18 x17) l51 = some t9001 := hk4
      exact fin_join HJ2 (l51, y52) ⟨hp, h53⟩ (look_has ⟨rfl, rfl, rfl, rfl, trivial⟩) (fun w_ hM => hM)
end Go.Proofs.Ytnognpmkhkkkeaa.X
