/- The Go functions come to what the plain functions tell. No condition. -/
import Derived.Test.YtnnhijlgohlaeaaDoorProg
import Derived.Test.YtnnhijlgohlaeaaDoorFnD
import Derived.Test.YtnnhijlgohlaeaaDoorWkD3
import Derived.Test.YtnnhijlgohlaeaaDoorWkD7
import Derived.Test.YtnnhijlgohlaeaaDoorWkD10
namespace Go.Proofs.YtnnhijlgohlaeaaDoor.D
open Go Go.RowKit Go.Proofs.YtnnhijlgohlaeaaDoor.Sx
set_option linter.unusedVariables false
set_option maxHeartbeats 4000000
set_option maxRecDepth 100000
def tourlaw3_SystemChecks__t0 : List Row := [⟨0, 256, 0⟩, ⟨0, 512, 32⟩, ⟨3, 1024, 768⟩, ⟨4, 2048, 1024⟩, ⟨12, 4096, 2048⟩, ⟨16, 8192, 4096⟩, ⟨48, 16384, 4096⟩, ⟨112, 32768, 28672⟩, ⟨144, 65536, 36864⟩, ⟨272, 131072, 69632⟩, ⟨640, 262144, 131072⟩, ⟨1024, 524288, 262145⟩, ⟨1024, 1048576, 262152⟩, ⟨7168, 2097152, 1835008⟩, ⟨1024, 4194304, 262145⟩, ⟨1024, 8388608, 262152⟩, ⟨58368, 16777216, 12845056⟩, ⟨74752, 33554432, 19136512⟩, ⟨132096, 67108864, 33816576⟩, ⟨524287, 16, 67108864⟩]
theorem tourlaw3_SystemChecks_ok (w0 w : World) (cs : List Chunk) (F : Nat → Prop) (W : World) (A_k : Option Addr) (c_k : Nat) (k : List api_Kind) (s_0 : ByteArray) (A_s_1 : Option Addr) (c_s_1 : Nat) (s_1 : List Int) (A_s_2 : Option Addr) (c_s_2 : Nat) (s_2 : List Int) (A_s_3 : Option Addr) (c_s_3 : Nat) (s_3 : List Int) (A_s_4 : Option Addr) (c_s_4 : Nat) (s_4 : List Int) (A_s_5 : Option Addr) (c_s_5 : Nat) (s_5 : List api_Op) (A_s_6 : Option Addr) (c_s_6 : Nat) (s_6 : List api_Comp) (hM0 : Mem w0 (Fz F W :: cs) w) (h_k : RdS R_api_Kind F W A_k c_k k) (h_s_1 : RdS (Rep.int .i64) F W A_s_1 c_s_1 s_1) (h_s_2 : RdS (Rep.int .i64) F W A_s_2 c_s_2 s_2) (h_s_3 : RdS (Rep.int .i64) F W A_s_3 c_s_3 s_3) (h_s_4 : RdS (Rep.int .i64) F W A_s_4 c_s_4 s_4) (h_s_5 : RdS R_api_Op F W A_s_5 c_s_5 s_5) (h_s_6 : RdS R_api_Comp F W A_s_6 c_s_6 s_6) (t9001 : Bool) (hp : tourlaw3_SystemChecks k s_0 s_1 s_2 s_3 s_4 s_5 s_6 = some t9001) : Calls Tryd.prog 7 #[sl A_k k c_k, .agg #[.string s_0, sl A_s_1 s_1 c_s_1, sl A_s_2 s_2 c_s_2, sl A_s_3 s_3 c_s_3, sl A_s_4 s_4 c_s_4, sl A_s_5 s_5 c_s_5, sl A_s_6 s_6 c_s_6]] w fun e w' => ∃ (F9002 : Nat → Prop), ∃ (W9003 : World), ((Ext w0 F W F9002 W9003)) ∧ e = .returned (.bool t9001) ∧ Mem w0 (Fz F9002 W9003 :: cs) w' := by
 unfold tourlaw3_SystemChecks at hp
 refine sx_calls Tryd.func7 rfl (n := 27) (by kernel_rfl) (l := [(0, sl A_k k c_k), (1, .agg #[.string s_0, sl A_s_1 s_1 c_s_1, sl A_s_2 s_2 c_s_2, sl A_s_3 s_3 c_s_3, sl A_s_4 s_4 c_s_4, sl A_s_5 s_5 c_s_5, sl A_s_6 s_6 c_s_6])]) rfl (by rfl) hM0 ?_
 refine st_seq (st_region [oF 0, oF 1] (by rfl) ?_)
 refine ops_newB (d := some 3) [.string s_0, sl A_s_1 s_1 c_s_1, sl A_s_2 s_2 c_s_2, sl A_s_3 s_3 c_s_3, sl A_s_4 s_4 c_s_4, sl A_s_5 s_5 c_s_5, sl A_s_6 s_6 c_s_6] 96 (fun b1 => ⟨by kernel_rfl⟩) (fun w_ hM hS => trivial) (fun b1 => ?_)
 refine oQ [oF 1] [(3, vP b1 0), (0, sl A_k k c_k)] (by kernel_rfl) ?_
 refine ops_nil (fin_then (st_seq (st_region [oF 0, oF 1, oF 2] (by rfl) ?_)))
 obtain ⟨x2, x3, hv4, hp⟩ := obind2 hp
 refine ops_callI (σ := (Option Addr) × (List Value) × (Option Addr) × (List Value) × (Option Addr) × (List Value)) (d := some 6) (f := 40) (args := #[]) (v := (fun x_ => match x_ with | (A5, y6, A7, y8, A9, y10) => .agg #[.string (⟨#[111, 108, 100, 101, 114]⟩), sl A5 x2 1, .slice none 0 0, .slice none 0 0, sl A7 x2 1, sl A9 x3 2, .slice none 0 0])) (I := (fun x_ => match x_ with | (A5, y6, A7, y8, A9, y10) => (RepL (Rep.int .i64) F W x2 y6) ∧ (RepL (Rep.int .i64) F W x2 y8) ∧ (RepL R_api_Op F W x3 y10))) (M' := (fun x_ => match x_ with | (A5, y6, A7, y8, A9, y10) => Mem w0 (ow A5 x2 1 3 1 y6 :: ow A7 x2 1 3 1 y8 :: ow A9 x3 2 170 11 y10 :: .blk b1 [.string s_0, sl A_s_1 s_1 c_s_1, sl A_s_2 s_2 c_s_2, sl A_s_3 s_3 c_s_3, sl A_s_4 s_4 c_s_4, sl A_s_5 s_5 c_s_5, sl A_s_6 s_6 c_s_6] 96 :: Fz F W :: cs))) ⟨by kernel_rfl⟩ (fun w_ hM hS => (tourlaw3_older_ok w0 w_ (.blk b1 [.string s_0, sl A_s_1 s_1 c_s_1, sl A_s_2 s_2 c_s_2, sl A_s_3 s_3 c_s_3, sl A_s_4 s_4 c_s_4, sl A_s_5 s_5 c_s_5, sl A_s_6 s_6 c_s_6] 96 :: cs) F W  (hM.pick 2 [1, 0] (by kernel_rfl) (by decide) rfl)  x2 x3 hv4).mono (by rintro e w' ⟨A5, y6, A7, y8, A9, y10, ⟨h11, h12, h13⟩, rfl, h'⟩; have h' : Mem w0 (ow A5 x2 1 3 1 y6 :: ow A7 x2 1 3 1 y8 :: ow A9 x3 2 170 11 y10 :: .blk b1 [.string s_0, sl A_s_1 s_1 c_s_1, sl A_s_2 s_2 c_s_2, sl A_s_3 s_3 c_s_3, sl A_s_4 s_4 c_s_4, sl A_s_5 s_5 c_s_5, sl A_s_6 s_6 c_s_6] 96 :: Fz F W :: cs) w' := (h'.pick 5 [0, 1, 2, 4, 3] (by kernel_rfl) (by decide) rfl); exact ⟨(A5, y6, A7, y8, A9, y10), ⟨h11, h12, h13⟩, rfl, h', trivial⟩)) ?_
 rintro ⟨A5, y6, A7, y8, A9, y10⟩ ⟨h11, h12, h13⟩
 refine ops_newB (d := some 5) [.string ByteArray.empty, .slice none 0 0, .slice none 0 0, .slice none 0 0, .slice none 0 0, .slice none 0 0, .slice none 0 0] 96 (fun b14 => ⟨by kernel_rfl⟩) (fun w_ hM hS => trivial) (fun b14 => ?_)
 refine ops_store (an := []) (evs := [sr b14 0 (.string (⟨#[111, 108, 100, 101, 114]⟩)), sr b14 1 (sl A5 x2 1), sr b14 2 (.slice none 0 0), sr b14 3 (.slice none 0 0), sr b14 4 (sl A7 x2 1), sr b14 5 (sl A9 x3 2), sr b14 6 (.slice none 0 0)]) ⟨by kernel_rfl⟩ (fun w_ hM hS => let ⟨w', he, h'⟩ := hM.evs_stores [.string (⟨#[111, 108, 100, 101, 114]⟩), sl A5 x2 1, .slice none 0 0, .slice none 0 0, sl A7 x2 1, sl A9 x3 2, .slice none 0 0] 0 rfl 0 (Nat.le_of_ble_eq_true rfl); ⟨w', he, h', trivial⟩) ?_
 refine ops_nil (fin_then (st_seq (st_region [oF 0, oF 1] (by rfl) ?_)))
 refine oQ [oF 0] [(7, vP b14 4), (5, vP b14 0), (3, vP b1 0), (0, sl A_k k c_k)] (by kernel_rfl) ?_
 refine ops_store (an := []) (evs := [sr b14 4 (.slice none 0 0)]) ⟨by kernel_rfl⟩ (fun w_ hM hS => let ⟨w', he, h'⟩ := hM.evs_stores [.slice none 0 0] 0 rfl 4 (Nat.le_of_ble_eq_true rfl); ⟨w', he, h', trivial⟩) ?_
 refine ops_nil (fin_then ?_)
 refine st_join1 (σ := Bool × (Nat → Prop) × World) (L := fun x_ => match x_ with | (t15, F16, W17) => [(4, .bool t15)]) (N := fun x_ => match x_ with | (t15, F16, W17) => Mem w0 (Fz F16 W17 :: cs)) (I := fun x_ => match x_ with | (t15, F16, W17) => (tourlaw3_SystemChecks_j1 t15 = some t9001) ∧ (Ext w0 F W F16 W17)) ?_ ?_
 ·
  rintro ⟨t15, F16, W17⟩ ⟨hp, hx1⟩
  unfold tourlaw3_SystemChecks_j1 at hp
  refine st_ret ?_
  have hq_ := Option.some.inj hp
  have hr0_ := hq_
  subst hr0_
  refine fin_ret [.tmp 4] [.bool t15] rfl rfl (fun w_ hM => (.tmp rfl .nil)) (fun w_ hM => ?_)
  exact ⟨F16, W17, hx1, rfl, hM⟩
 ·
  intro HJ1
  refine st_seq ?_
  refine st_region_fast tourlaw3_SystemChecks__t0 [oT 1, oF 0, oF 2, oT 3, oT 4, oF 5, oF 6, oF 7, oT 8, oT 9, oT 10, oT 11, oT 12, oT 14, oT 15, oF 13, oF 16, oT 17, oT 18, oT 19] (Mem w0 (.blk b14 [.string (⟨#[111, 108, 100, 101, 114]⟩), sl A5 x2 1, .slice none 0 0, .slice none 0 0, .slice none 0 0, sl A9 x3 2, .slice none 0 0] 96 :: ow A7 x2 1 3 1 y8 :: .blk b1 [.string s_0, sl A_s_1 s_1 c_s_1, sl A_s_2 s_2 c_s_2, sl A_s_3 s_3 c_s_3, sl A_s_4 s_4 c_s_4, sl A_s_5 s_5 c_s_5, sl A_s_6 s_6 c_s_6] 96 :: Fz F W :: cs)) (by kernel_rfl) (by kernel_rfl) (by kernel_rfl) (by kernel_rfl) (by kernel_rfl) (fun _ d _ _ _ h => by cases d <;> exact h) (M' := Mem w0 (.blk b14 [.string (⟨#[111, 108, 100, 101, 114]⟩), sl A5 x2 1, .slice none 0 0, .slice none 0 0, .slice none 0 0, sl A9 x3 2, .slice none 0 0] 96 :: ow A5 x2 1 3 1 y6 :: ow A7 x2 1 3 1 y8 :: ow A9 x3 2 170 11 y10 :: .blk b1 [.string s_0, sl A_s_1 s_1 c_s_1, sl A_s_2 s_2 c_s_2, sl A_s_3 s_3 c_s_3, sl A_s_4 s_4 c_s_4, sl A_s_5 s_5 c_s_5, sl A_s_6 s_6 c_s_6] 96 :: Fz F W :: cs)) (fun w_ hM => ⟨hM.drew, hM.drew.sub (.cons_cons _ (.cons _ (.cons_cons _ (.cons _ (.cons_cons _ (.cons_cons _ (.refl _)))))))⟩) ?_
  refine ops_load (d := some 9) (an := [.v (.string (⟨#[111, 108, 100, 101, 114]⟩)), .v (sl A5 x2 1), .v (.slice none 0 0), .v (.slice none 0 0), .v (.slice none 0 0), .v (sl A9 x3 2), .v (.slice none 0 0)]) (evs := [ld b14 0 (.string (⟨#[111, 108, 100, 101, 114]⟩)), ld b14 1 (sl A5 x2 1), ld b14 2 (.slice none 0 0), ld b14 3 (.slice none 0 0), ld b14 4 (.slice none 0 0), ld b14 5 (sl A9 x3 2), ld b14 6 (.slice none 0 0)]) (v := .agg #[.string (⟨#[111, 108, 100, 101, 114]⟩), sl A5 x2 1, .slice none 0 0, .slice none 0 0, .slice none 0 0, sl A9 x3 2, .slice none 0 0]) ⟨by kernel_rfl⟩ (fun w_ hM => ⟨hM.cell 0 rfl rfl, hM.cell 0 rfl rfl, hM.cell 0 rfl rfl, hM.cell 0 rfl rfl, hM.cell 0 rfl rfl, hM.cell 0 rfl rfl, hM.cell 0 rfl rfl, rfl⟩) ?_
  obtain ⟨x18, hv19, hp⟩ := obind hp
  refine ops_callI (σ := (Option Addr) × (List Value) × (Nat → Prop) × World) (d := some 8) (f := 9) (args := #[]) (v := (fun x_ => match x_ with | (A20, y21, F22, W23) => sl A20 x18 2)) (I := (fun x_ => match x_ with | (A20, y21, F22, W23) => (RepL R_api_Kind F22 W23 x18 y21) ∧ (Ext w0 F W F22 W23))) (M' := (fun x_ => match x_ with | (A20, y21, F22, W23) => Mem w0 (ow A20 x18 2 35 2 y21 :: .blk b14 [.string (⟨#[111, 108, 100, 101, 114]⟩), sl A5 x2 1, .slice none 0 0, .slice none 0 0, .slice none 0 0, sl A9 x3 2, .slice none 0 0] 96 :: ow A5 x2 1 3 1 y6 :: ow A7 x2 1 3 1 y8 :: ow A9 x3 2 170 11 y10 :: .blk b1 [.string s_0, sl A_s_1 s_1 c_s_1, sl A_s_2 s_2 c_s_2, sl A_s_3 s_3 c_s_3, sl A_s_4 s_4 c_s_4, sl A_s_5 s_5 c_s_5, sl A_s_6 s_6 c_s_6] 96 :: Fz F22 W23 :: cs))) ⟨by kernel_rfl⟩ (fun w_ hM hS => (tourlaw3_two_ok w0 w_ (.blk b14 [.string (⟨#[111, 108, 100, 101, 114]⟩), sl A5 x2 1, .slice none 0 0, .slice none 0 0, .slice none 0 0, sl A9 x3 2, .slice none 0 0] 96 :: ow A5 x2 1 3 1 y6 :: ow A7 x2 1 3 1 y8 :: ow A9 x3 2 170 11 y10 :: .blk b1 [.string s_0, sl A_s_1 s_1 c_s_1, sl A_s_2 s_2 c_s_2, sl A_s_3 s_3 c_s_3, sl A_s_4 s_4 c_s_4, sl A_s_5 s_5 c_s_5, sl A_s_6 s_6 c_s_6] 96 :: cs) F W  (hM.pick 6 [5, 0, 1, 2, 3, 4] (by kernel_rfl) (by decide) rfl)  x18 hv19).mono (by rintro e w' ⟨A20, y21, F22, W23, ⟨h24, h25⟩, rfl, h'⟩; have h' : Mem w0 (ow A20 x18 2 35 2 y21 :: .blk b14 [.string (⟨#[111, 108, 100, 101, 114]⟩), sl A5 x2 1, .slice none 0 0, .slice none 0 0, .slice none 0 0, sl A9 x3 2, .slice none 0 0] 96 :: ow A5 x2 1 3 1 y6 :: ow A7 x2 1 3 1 y8 :: ow A9 x3 2 170 11 y10 :: .blk b1 [.string s_0, sl A_s_1 s_1 c_s_1, sl A_s_2 s_2 c_s_2, sl A_s_3 s_3 c_s_3, sl A_s_4 s_4 c_s_4, sl A_s_5 s_5 c_s_5, sl A_s_6 s_6 c_s_6] 96 :: Fz F22 W23 :: cs) w' := (h'.pick 7 [0, 2, 3, 4, 5, 6, 1] (by kernel_rfl) (by decide) rfl); exact ⟨(A20, y21, F22, W23), ⟨h24, h25⟩, rfl, h', (by first | exact (Mem.fzback h' 6 rfl h25).sub (.cons _ (.cons_cons _ (.cons _ (.cons_cons _ (.cons _ (.cons_cons _ (.cons_cons _ (.refl _)))))))))⟩)) ?_
  rintro ⟨A20, y21, F22, W23⟩ ⟨h24, h25⟩
  have h_k := h_k.ext h25
  have h11 := h11.ext h25
  have h12 := h12.ext h25
  have h13 := h13.ext h25
  have h_s_1 := h_s_1.ext h25
  have h_s_2 := h_s_2.ext h25
  have h_s_3 := h_s_3.ext h25
  have h_s_4 := h_s_4.ext h25
  have h_s_5 := h_s_5.ext h25
  have h_s_6 := h_s_6.ext h25
  refine ops_ex (σ := (Nat → Prop) × World) (I := fun x_ => Ext w0 F22 W23 x_.1 x_.2 ∧ RdS R_api_Kind x_.1 x_.2 A20 2 x18) (M' := fun x_ => Mem w0 (.blk b14 [.string (⟨#[111, 108, 100, 101, 114]⟩), sl A5 x2 1, .slice none 0 0, .slice none 0 0, .slice none 0 0, sl A9 x3 2, .slice none 0 0] 96 :: ow A5 x2 1 3 1 y6 :: ow A7 x2 1 3 1 y8 :: ow A9 x3 2 170 11 y10 :: .blk b1 [.string s_0, sl A_s_1 s_1 c_s_1, sl A_s_2 s_2 c_s_2, sl A_s_3 s_3 c_s_3, sl A_s_4 s_4 c_s_4, sl A_s_5 s_5 c_s_5, sl A_s_6 s_6 c_s_6] 96 :: Fz x_.1 x_.2 :: cs)) (fun w_ hM => ?_) ?_
  · obtain ⟨F_, h1_, h2_, h3_⟩ := (hM.pick 7 [0, 6, 1, 2, 3, 4, 5] (by kernel_rfl) (by decide) rfl : Mem w0 (ow A20 x18 2 35 2 y21 :: Fz F22 W23 :: .blk b14 [.string (⟨#[111, 108, 100, 101, 114]⟩), sl A5 x2 1, .slice none 0 0, .slice none 0 0, .slice none 0 0, sl A9 x3 2, .slice none 0 0] 96 :: ow A5 x2 1 3 1 y6 :: ow A7 x2 1 3 1 y8 :: ow A9 x3 2 170 11 y10 :: .blk b1 [.string s_0, sl A_s_1 s_1 c_s_1, sl A_s_2 s_2 c_s_2, sl A_s_3 s_3 c_s_3, sl A_s_4 s_4 c_s_4, sl A_s_5 s_5 c_s_5, sl A_s_6 s_6 c_s_6] 96 :: cs) w_).freeze (z := 2) h24 rfl rfl
    exact ⟨(F_, w_), ⟨h1_, h2_⟩, h3_.pick 6 [1, 2, 3, 4, 5, 0] (by kernel_rfl) (by decide) rfl⟩
  rintro ⟨F26, W27⟩ ⟨hx28, h29⟩
  have hx28 : Ext w0 F22 W23 F26 W27 := hx28
  have h29 : RdS R_api_Kind F26 W27 A20 2 x18 := h29
  have h_k := h_k.ext hx28
  have h11 := h11.ext hx28
  have h12 := h12.ext hx28
  have h13 := h13.ext hx28
  have h_s_1 := h_s_1.ext hx28
  have h_s_2 := h_s_2.ext hx28
  have h_s_3 := h_s_3.ext hx28
  have h_s_4 := h_s_4.ext hx28
  have h_s_5 := h_s_5.ext hx28
  have h_s_6 := h_s_6.ext hx28
  refine ops_ex (σ := (Nat → Prop) × World) (I := fun x_ => Ext w0 F26 W27 x_.1 x_.2 ∧ RdS (Rep.int .i64) x_.1 x_.2 A5 1 x2) (M' := fun x_ => Mem w0 (.blk b14 [.string (⟨#[111, 108, 100, 101, 114]⟩), sl A5 x2 1, .slice none 0 0, .slice none 0 0, .slice none 0 0, sl A9 x3 2, .slice none 0 0] 96 :: ow A7 x2 1 3 1 y8 :: ow A9 x3 2 170 11 y10 :: .blk b1 [.string s_0, sl A_s_1 s_1 c_s_1, sl A_s_2 s_2 c_s_2, sl A_s_3 s_3 c_s_3, sl A_s_4 s_4 c_s_4, sl A_s_5 s_5 c_s_5, sl A_s_6 s_6 c_s_6] 96 :: Fz x_.1 x_.2 :: cs)) (fun w_ hM => ?_) ?_
  · obtain ⟨F_, h1_, h2_, h3_⟩ := (hM.pick 6 [1, 5, 0, 2, 3, 4] (by kernel_rfl) (by decide) rfl : Mem w0 (ow A5 x2 1 3 1 y6 :: Fz F26 W27 :: .blk b14 [.string (⟨#[111, 108, 100, 101, 114]⟩), sl A5 x2 1, .slice none 0 0, .slice none 0 0, .slice none 0 0, sl A9 x3 2, .slice none 0 0] 96 :: ow A7 x2 1 3 1 y8 :: ow A9 x3 2 170 11 y10 :: .blk b1 [.string s_0, sl A_s_1 s_1 c_s_1, sl A_s_2 s_2 c_s_2, sl A_s_3 s_3 c_s_3, sl A_s_4 s_4 c_s_4, sl A_s_5 s_5 c_s_5, sl A_s_6 s_6 c_s_6] 96 :: cs) w_).freeze (z := 1) h11 rfl rfl
    exact ⟨(F_, w_), ⟨h1_, h2_⟩, h3_.pick 5 [1, 2, 3, 4, 0] (by kernel_rfl) (by decide) rfl⟩
  rintro ⟨F30, W31⟩ ⟨hx32, h33⟩
  have hx32 : Ext w0 F26 W27 F30 W31 := hx32
  have h33 : RdS (Rep.int .i64) F30 W31 A5 1 x2 := h33
  have h29 := h29.ext hx32
  have h_k := h_k.ext hx32
  have h12 := h12.ext hx32
  have h13 := h13.ext hx32
  have h_s_1 := h_s_1.ext hx32
  have h_s_2 := h_s_2.ext hx32
  have h_s_3 := h_s_3.ext hx32
  have h_s_4 := h_s_4.ext hx32
  have h_s_5 := h_s_5.ext hx32
  have h_s_6 := h_s_6.ext hx32
  refine ops_ex (σ := (Nat → Prop) × World) (I := fun x_ => Ext w0 F30 W31 x_.1 x_.2 ∧ RdS R_api_Op x_.1 x_.2 A9 2 x3) (M' := fun x_ => Mem w0 (.blk b14 [.string (⟨#[111, 108, 100, 101, 114]⟩), sl A5 x2 1, .slice none 0 0, .slice none 0 0, .slice none 0 0, sl A9 x3 2, .slice none 0 0] 96 :: ow A7 x2 1 3 1 y8 :: .blk b1 [.string s_0, sl A_s_1 s_1 c_s_1, sl A_s_2 s_2 c_s_2, sl A_s_3 s_3 c_s_3, sl A_s_4 s_4 c_s_4, sl A_s_5 s_5 c_s_5, sl A_s_6 s_6 c_s_6] 96 :: Fz x_.1 x_.2 :: cs)) (fun w_ hM => ?_) ?_
  · obtain ⟨F_, h1_, h2_, h3_⟩ := (hM.pick 5 [2, 4, 0, 1, 3] (by kernel_rfl) (by decide) rfl : Mem w0 (ow A9 x3 2 170 11 y10 :: Fz F30 W31 :: .blk b14 [.string (⟨#[111, 108, 100, 101, 114]⟩), sl A5 x2 1, .slice none 0 0, .slice none 0 0, .slice none 0 0, sl A9 x3 2, .slice none 0 0] 96 :: ow A7 x2 1 3 1 y8 :: .blk b1 [.string s_0, sl A_s_1 s_1 c_s_1, sl A_s_2 s_2 c_s_2, sl A_s_3 s_3 c_s_3, sl A_s_4 s_4 c_s_4, sl A_s_5 s_5 c_s_5, sl A_s_6 s_6 c_s_6] 96 :: cs) w_).freeze (z := 11) h13 rfl rfl
    exact ⟨(F_, w_), ⟨h1_, h2_⟩, h3_.pick 4 [1, 2, 3, 0] (by kernel_rfl) (by decide) rfl⟩
  rintro ⟨F34, W35⟩ ⟨hx36, h37⟩
  have hx36 : Ext w0 F30 W31 F34 W35 := hx36
  have h37 : RdS R_api_Op F34 W35 A9 2 x3 := h37
  have h29 := h29.ext hx36
  have h33 := h33.ext hx36
  have h_k := h_k.ext hx36
  have h12 := h12.ext hx36
  have h_s_1 := h_s_1.ext hx36
  have h_s_2 := h_s_2.ext hx36
  have h_s_3 := h_s_3.ext hx36
  have h_s_4 := h_s_4.ext hx36
  have h_s_5 := h_s_5.ext hx36
  have h_s_6 := h_s_6.ext hx36
  obtain ⟨x38, hv39, hp⟩ := obind hp
  refine ops_callI (σ := (Nat → Prop) × World) (d := some 10) (f := 41) (args := #[sl A20 x18 2, .agg #[.string (⟨#[111, 108, 100, 101, 114]⟩), sl A5 x2 1, .slice none 0 0, .slice none 0 0, .slice none 0 0, sl A9 x3 2, .slice none 0 0]]) (v := (fun x_ => match x_ with | (F40, W41) => vI x38)) (I := (fun x_ => match x_ with | (F40, W41) => (Ext w0 F34 W35 F40 W41))) (M' := (fun x_ => match x_ with | (F40, W41) => Mem w0 (.blk b14 [.string (⟨#[111, 108, 100, 101, 114]⟩), sl A5 x2 1, .slice none 0 0, .slice none 0 0, .slice none 0 0, sl A9 x3 2, .slice none 0 0] 96 :: ow A7 x2 1 3 1 y8 :: .blk b1 [.string s_0, sl A_s_1 s_1 c_s_1, sl A_s_2 s_2 c_s_2, sl A_s_3 s_3 c_s_3, sl A_s_4 s_4 c_s_4, sl A_s_5 s_5 c_s_5, sl A_s_6 s_6 c_s_6] 96 :: Fz F40 W41 :: cs))) ⟨by kernel_rfl⟩ (fun w_ hM hS => (system_Check_ok w0 w_ (.blk b14 [.string (⟨#[111, 108, 100, 101, 114]⟩), sl A5 x2 1, .slice none 0 0, .slice none 0 0, .slice none 0 0, sl A9 x3 2, .slice none 0 0] 96 :: ow A7 x2 1 3 1 y8 :: .blk b1 [.string s_0, sl A_s_1 s_1 c_s_1, sl A_s_2 s_2 c_s_2, sl A_s_3 s_3 c_s_3, sl A_s_4 s_4 c_s_4, sl A_s_5 s_5 c_s_5, sl A_s_6 s_6 c_s_6] 96 :: cs) F34 W35 A20 2 x18 (⟨#[111, 108, 100, 101, 114]⟩) A5 1 x2 none 0 [] none 0 [] none 0 [] A9 2 x3 none 0 [] (hM.pick 4 [3, 0, 1, 2] (by kernel_rfl) (by decide) rfl) h29 h33 (RdS.empty _) (RdS.empty _) (RdS.empty _) h37 (RdS.empty _) x38 hv39).mono (by rintro e w' ⟨F40, W41, h42, rfl, h'⟩; have h' : Mem w0 (.blk b14 [.string (⟨#[111, 108, 100, 101, 114]⟩), sl A5 x2 1, .slice none 0 0, .slice none 0 0, .slice none 0 0, sl A9 x3 2, .slice none 0 0] 96 :: ow A7 x2 1 3 1 y8 :: .blk b1 [.string s_0, sl A_s_1 s_1 c_s_1, sl A_s_2 s_2 c_s_2, sl A_s_3 s_3 c_s_3, sl A_s_4 s_4 c_s_4, sl A_s_5 s_5 c_s_5, sl A_s_6 s_6 c_s_6] 96 :: Fz F40 W41 :: cs) w' := (h'.pick 4 [1, 2, 3, 0] (by kernel_rfl) (by decide) rfl); exact ⟨(F40, W41), h42, rfl, h', (by first | exact (Mem.fzback h' 3 rfl h42).sub (.cons_cons _ (.cons_cons _ (.cons_cons _ (.cons_cons _ (.refl _))))) | exact (Mem.fzback h' 3 rfl (hx36.trans h42)).sub (.cons_cons _ (.cons_cons _ (.cons_cons _ (.cons_cons _ (.refl _))))) | exact (Mem.fzback h' 3 rfl ((hx32.trans hx36).trans h42)).sub (.cons_cons _ (.cons_cons _ (.cons_cons _ (.cons_cons _ (.refl _))))) | exact (Mem.fzback h' 3 rfl (((hx28.trans hx32).trans hx36).trans h42)).sub (.cons_cons _ (.cons_cons _ (.cons_cons _ (.cons_cons _ (.refl _))))) | exact (Mem.fzback h' 3 rfl ((((h25.trans hx28).trans hx32).trans hx36).trans h42)).sub (.cons_cons _ (.cons_cons _ (.cons_cons _ (.cons_cons _ (.refl _))))))⟩)) ?_
  rintro ⟨F40, W41⟩ h42
  have h29 := h29.ext h42
  have h33 := h33.ext h42
  have h37 := h37.ext h42
  have h_k := h_k.ext h42
  have h12 := h12.ext h42
  have h_s_1 := h_s_1.ext h42
  have h_s_2 := h_s_2.ext h42
  have h_s_3 := h_s_3.ext h42
  have h_s_4 := h_s_4.ext h42
  have h_s_5 := h_s_5.ext h42
  have h_s_6 := h_s_6.ext h42
  refine oQ [oT 3, oT 4] [(12, .bool (x38 == 8)), (3, vP b1 0), (0, sl A_k k c_k)] (by kernel_rfl) ?_
  refine ops_bool (t := (x38 == 8)) (l1 := [(12, .bool true), (3, vP b1 0), (0, sl A_k k c_k)]) (l2 := [(12, .bool false), (3, vP b1 0), (0, sl A_k k c_k)]) (fun h => by rw [h]) (fun h => by rw [h]) (fun hc43 => ?_) (fun hc43 => ?_)
  ·
   have hp := cnd_t hc43 hp
   obtain ⟨x44, hv45, hp⟩ := obind hp
   refine ops_callI (σ := (Option Addr) × (List Value) × (Nat → Prop) × World) (d := some 13) (f := 9) (args := #[]) (v := (fun x_ => match x_ with | (A46, y47, F48, W49) => sl A46 x44 2)) (I := (fun x_ => match x_ with | (A46, y47, F48, W49) => (RepL R_api_Kind F48 W49 x44 y47) ∧ (Ext w0 F40 W41 F48 W49))) (M' := (fun x_ => match x_ with | (A46, y47, F48, W49) => Mem w0 (ow A46 x44 2 35 2 y47 :: .blk b14 [.string (⟨#[111, 108, 100, 101, 114]⟩), sl A5 x2 1, .slice none 0 0, .slice none 0 0, .slice none 0 0, sl A9 x3 2, .slice none 0 0] 96 :: ow A7 x2 1 3 1 y8 :: .blk b1 [.string s_0, sl A_s_1 s_1 c_s_1, sl A_s_2 s_2 c_s_2, sl A_s_3 s_3 c_s_3, sl A_s_4 s_4 c_s_4, sl A_s_5 s_5 c_s_5, sl A_s_6 s_6 c_s_6] 96 :: Fz F48 W49 :: cs))) ⟨by kernel_rfl⟩ (fun w_ hM hS => (tourlaw3_two_ok w0 w_ (.blk b14 [.string (⟨#[111, 108, 100, 101, 114]⟩), sl A5 x2 1, .slice none 0 0, .slice none 0 0, .slice none 0 0, sl A9 x3 2, .slice none 0 0] 96 :: ow A7 x2 1 3 1 y8 :: .blk b1 [.string s_0, sl A_s_1 s_1 c_s_1, sl A_s_2 s_2 c_s_2, sl A_s_3 s_3 c_s_3, sl A_s_4 s_4 c_s_4, sl A_s_5 s_5 c_s_5, sl A_s_6 s_6 c_s_6] 96 :: cs) F40 W41  (hM.pick 4 [3, 0, 1, 2] (by kernel_rfl) (by decide) rfl)  x44 hv45).mono (by rintro e w' ⟨A46, y47, F48, W49, ⟨h50, h51⟩, rfl, h'⟩; have h' : Mem w0 (ow A46 x44 2 35 2 y47 :: .blk b14 [.string (⟨#[111, 108, 100, 101, 114]⟩), sl A5 x2 1, .slice none 0 0, .slice none 0 0, .slice none 0 0, sl A9 x3 2, .slice none 0 0] 96 :: ow A7 x2 1 3 1 y8 :: .blk b1 [.string s_0, sl A_s_1 s_1 c_s_1, sl A_s_2 s_2 c_s_2, sl A_s_3 s_3 c_s_3, sl A_s_4 s_4 c_s_4, sl A_s_5 s_5 c_s_5, sl A_s_6 s_6 c_s_6] 96 :: Fz F48 W49 :: cs) w' := (h'.pick 5 [0, 2, 3, 4, 1] (by kernel_rfl) (by decide) rfl); exact ⟨(A46, y47, F48, W49), ⟨h50, h51⟩, rfl, h', (by first | exact (Mem.fzback h' 4 rfl h51).sub (.cons _ (.cons_cons _ (.cons_cons _ (.cons_cons _ (.cons_cons _ (.refl _)))))) | exact (Mem.fzback h' 4 rfl (h42.trans h51)).sub (.cons _ (.cons_cons _ (.cons_cons _ (.cons_cons _ (.cons_cons _ (.refl _)))))) | exact (Mem.fzback h' 4 rfl ((hx36.trans h42).trans h51)).sub (.cons _ (.cons_cons _ (.cons_cons _ (.cons_cons _ (.cons_cons _ (.refl _)))))) | exact (Mem.fzback h' 4 rfl (((hx32.trans hx36).trans h42).trans h51)).sub (.cons _ (.cons_cons _ (.cons_cons _ (.cons_cons _ (.cons_cons _ (.refl _)))))) | exact (Mem.fzback h' 4 rfl ((((hx28.trans hx32).trans hx36).trans h42).trans h51)).sub (.cons _ (.cons_cons _ (.cons_cons _ (.cons_cons _ (.cons_cons _ (.refl _)))))) | exact (Mem.fzback h' 4 rfl (((((h25.trans hx28).trans hx32).trans hx36).trans h42).trans h51)).sub (.cons _ (.cons_cons _ (.cons_cons _ (.cons_cons _ (.cons_cons _ (.refl _)))))))⟩)) ?_
   rintro ⟨A46, y47, F48, W49⟩ ⟨h50, h51⟩
   have h_k := h_k.ext h51
   have h33 := h33.ext h51
   have h37 := h37.ext h51
   have h12 := h12.ext h51
   have h_s_1 := h_s_1.ext h51
   have h_s_2 := h_s_2.ext h51
   have h_s_3 := h_s_3.ext h51
   have h_s_4 := h_s_4.ext h51
   have h_s_5 := h_s_5.ext h51
   have h_s_6 := h_s_6.ext h51
   obtain ⟨x52, x53, hv54, hp⟩ := obind2 hp
   refine ops_callI (σ := (Option Addr) × (List Value) × (Option Addr) × (List Value) × (Option Addr) × (List Value)) (d := some 14) (f := 40) (args := #[]) (v := (fun x_ => match x_ with | (A55, y56, A57, y58, A59, y60) => .agg #[.string (⟨#[111, 108, 100, 101, 114]⟩), sl A55 x52 1, .slice none 0 0, .slice none 0 0, sl A57 x52 1, sl A59 x53 2, .slice none 0 0])) (I := (fun x_ => match x_ with | (A55, y56, A57, y58, A59, y60) => (RepL (Rep.int .i64) F48 W49 x52 y56) ∧ (RepL (Rep.int .i64) F48 W49 x52 y58) ∧ (RepL R_api_Op F48 W49 x53 y60))) (M' := (fun x_ => match x_ with | (A55, y56, A57, y58, A59, y60) => Mem w0 (ow A55 x52 1 3 1 y56 :: ow A57 x52 1 3 1 y58 :: ow A59 x53 2 170 11 y60 :: ow A46 x44 2 35 2 y47 :: .blk b14 [.string (⟨#[111, 108, 100, 101, 114]⟩), sl A5 x2 1, .slice none 0 0, .slice none 0 0, .slice none 0 0, sl A9 x3 2, .slice none 0 0] 96 :: ow A7 x2 1 3 1 y8 :: .blk b1 [.string s_0, sl A_s_1 s_1 c_s_1, sl A_s_2 s_2 c_s_2, sl A_s_3 s_3 c_s_3, sl A_s_4 s_4 c_s_4, sl A_s_5 s_5 c_s_5, sl A_s_6 s_6 c_s_6] 96 :: Fz F48 W49 :: cs))) ⟨by kernel_rfl⟩ (fun w_ hM hS => (tourlaw3_older_ok w0 w_ (ow A46 x44 2 35 2 y47 :: .blk b14 [.string (⟨#[111, 108, 100, 101, 114]⟩), sl A5 x2 1, .slice none 0 0, .slice none 0 0, .slice none 0 0, sl A9 x3 2, .slice none 0 0] 96 :: ow A7 x2 1 3 1 y8 :: .blk b1 [.string s_0, sl A_s_1 s_1 c_s_1, sl A_s_2 s_2 c_s_2, sl A_s_3 s_3 c_s_3, sl A_s_4 s_4 c_s_4, sl A_s_5 s_5 c_s_5, sl A_s_6 s_6 c_s_6] 96 :: cs) F48 W49  (hM.pick 5 [4, 0, 1, 2, 3] (by kernel_rfl) (by decide) rfl)  x52 x53 hv54).mono (by rintro e w' ⟨A55, y56, A57, y58, A59, y60, ⟨h61, h62, h63⟩, rfl, h'⟩; have h' : Mem w0 (ow A55 x52 1 3 1 y56 :: ow A57 x52 1 3 1 y58 :: ow A59 x53 2 170 11 y60 :: ow A46 x44 2 35 2 y47 :: .blk b14 [.string (⟨#[111, 108, 100, 101, 114]⟩), sl A5 x2 1, .slice none 0 0, .slice none 0 0, .slice none 0 0, sl A9 x3 2, .slice none 0 0] 96 :: ow A7 x2 1 3 1 y8 :: .blk b1 [.string s_0, sl A_s_1 s_1 c_s_1, sl A_s_2 s_2 c_s_2, sl A_s_3 s_3 c_s_3, sl A_s_4 s_4 c_s_4, sl A_s_5 s_5 c_s_5, sl A_s_6 s_6 c_s_6] 96 :: Fz F48 W49 :: cs) w' := (h'.pick 8 [0, 1, 2, 4, 5, 6, 7, 3] (by kernel_rfl) (by decide) rfl); exact ⟨(A55, y56, A57, y58, A59, y60), ⟨h61, h62, h63⟩, rfl, h', (by first | exact (Mem.fzback h' 7 rfl h51).sub (.cons _ (.cons _ (.cons _ (.cons _ (.cons_cons _ (.cons_cons _ (.cons_cons _ (.cons_cons _ (.refl _))))))))) | exact (Mem.fzback h' 7 rfl (h42.trans h51)).sub (.cons _ (.cons _ (.cons _ (.cons _ (.cons_cons _ (.cons_cons _ (.cons_cons _ (.cons_cons _ (.refl _))))))))) | exact (Mem.fzback h' 7 rfl ((hx36.trans h42).trans h51)).sub (.cons _ (.cons _ (.cons _ (.cons _ (.cons_cons _ (.cons_cons _ (.cons_cons _ (.cons_cons _ (.refl _))))))))) | exact (Mem.fzback h' 7 rfl (((hx32.trans hx36).trans h42).trans h51)).sub (.cons _ (.cons _ (.cons _ (.cons _ (.cons_cons _ (.cons_cons _ (.cons_cons _ (.cons_cons _ (.refl _))))))))) | exact (Mem.fzback h' 7 rfl ((((hx28.trans hx32).trans hx36).trans h42).trans h51)).sub (.cons _ (.cons _ (.cons _ (.cons _ (.cons_cons _ (.cons_cons _ (.cons_cons _ (.cons_cons _ (.refl _))))))))) | exact (Mem.fzback h' 7 rfl (((((h25.trans hx28).trans hx32).trans hx36).trans h42).trans h51)).sub (.cons _ (.cons _ (.cons _ (.cons _ (.cons_cons _ (.cons_cons _ (.cons_cons _ (.cons_cons _ (.refl _))))))))))⟩)) ?_
   rintro ⟨A55, y56, A57, y58, A59, y60⟩ ⟨h61, h62, h63⟩
   refine ops_ex (σ := (Nat → Prop) × World) (I := fun x_ => Ext w0 F48 W49 x_.1 x_.2 ∧ RdS R_api_Kind x_.1 x_.2 A46 2 x44) (M' := fun x_ => Mem w0 (ow A55 x52 1 3 1 y56 :: ow A57 x52 1 3 1 y58 :: ow A59 x53 2 170 11 y60 :: .blk b14 [.string (⟨#[111, 108, 100, 101, 114]⟩), sl A5 x2 1, .slice none 0 0, .slice none 0 0, .slice none 0 0, sl A9 x3 2, .slice none 0 0] 96 :: ow A7 x2 1 3 1 y8 :: .blk b1 [.string s_0, sl A_s_1 s_1 c_s_1, sl A_s_2 s_2 c_s_2, sl A_s_3 s_3 c_s_3, sl A_s_4 s_4 c_s_4, sl A_s_5 s_5 c_s_5, sl A_s_6 s_6 c_s_6] 96 :: Fz x_.1 x_.2 :: cs)) (fun w_ hM => ?_) ?_
   · obtain ⟨F_, h1_, h2_, h3_⟩ := (hM.pick 8 [3, 7, 0, 1, 2, 4, 5, 6] (by kernel_rfl) (by decide) rfl : Mem w0 (ow A46 x44 2 35 2 y47 :: Fz F48 W49 :: ow A55 x52 1 3 1 y56 :: ow A57 x52 1 3 1 y58 :: ow A59 x53 2 170 11 y60 :: .blk b14 [.string (⟨#[111, 108, 100, 101, 114]⟩), sl A5 x2 1, .slice none 0 0, .slice none 0 0, .slice none 0 0, sl A9 x3 2, .slice none 0 0] 96 :: ow A7 x2 1 3 1 y8 :: .blk b1 [.string s_0, sl A_s_1 s_1 c_s_1, sl A_s_2 s_2 c_s_2, sl A_s_3 s_3 c_s_3, sl A_s_4 s_4 c_s_4, sl A_s_5 s_5 c_s_5, sl A_s_6 s_6 c_s_6] 96 :: cs) w_).freeze (z := 2) h50 rfl rfl
     exact ⟨(F_, w_), ⟨h1_, h2_⟩, h3_.pick 7 [1, 2, 3, 4, 5, 6, 0] (by kernel_rfl) (by decide) rfl⟩
   rintro ⟨F64, W65⟩ ⟨hx66, h67⟩
   have hx66 : Ext w0 F48 W49 F64 W65 := hx66
   have h67 : RdS R_api_Kind F64 W65 A46 2 x44 := h67
   have h_k := h_k.ext hx66
   have h61 := h61.ext hx66
   have h62 := h62.ext hx66
   have h63 := h63.ext hx66
   have h33 := h33.ext hx66
   have h37 := h37.ext hx66
   have h12 := h12.ext hx66
   have h_s_1 := h_s_1.ext hx66
   have h_s_2 := h_s_2.ext hx66
   have h_s_3 := h_s_3.ext hx66
   have h_s_4 := h_s_4.ext hx66
   have h_s_5 := h_s_5.ext hx66
   have h_s_6 := h_s_6.ext hx66
   refine ops_ex (σ := (Nat → Prop) × World) (I := fun x_ => Ext w0 F64 W65 x_.1 x_.2 ∧ RdS (Rep.int .i64) x_.1 x_.2 A55 1 x52) (M' := fun x_ => Mem w0 (ow A57 x52 1 3 1 y58 :: ow A59 x53 2 170 11 y60 :: .blk b14 [.string (⟨#[111, 108, 100, 101, 114]⟩), sl A5 x2 1, .slice none 0 0, .slice none 0 0, .slice none 0 0, sl A9 x3 2, .slice none 0 0] 96 :: ow A7 x2 1 3 1 y8 :: .blk b1 [.string s_0, sl A_s_1 s_1 c_s_1, sl A_s_2 s_2 c_s_2, sl A_s_3 s_3 c_s_3, sl A_s_4 s_4 c_s_4, sl A_s_5 s_5 c_s_5, sl A_s_6 s_6 c_s_6] 96 :: Fz x_.1 x_.2 :: cs)) (fun w_ hM => ?_) ?_
   · obtain ⟨F_, h1_, h2_, h3_⟩ := (hM.pick 7 [0, 6, 1, 2, 3, 4, 5] (by kernel_rfl) (by decide) rfl : Mem w0 (ow A55 x52 1 3 1 y56 :: Fz F64 W65 :: ow A57 x52 1 3 1 y58 :: ow A59 x53 2 170 11 y60 :: .blk b14 [.string (⟨#[111, 108, 100, 101, 114]⟩), sl A5 x2 1, .slice none 0 0, .slice none 0 0, .slice none 0 0, sl A9 x3 2, .slice none 0 0] 96 :: ow A7 x2 1 3 1 y8 :: .blk b1 [.string s_0, sl A_s_1 s_1 c_s_1, sl A_s_2 s_2 c_s_2, sl A_s_3 s_3 c_s_3, sl A_s_4 s_4 c_s_4, sl A_s_5 s_5 c_s_5, sl A_s_6 s_6 c_s_6] 96 :: cs) w_).freeze (z := 1) h61 rfl rfl
     exact ⟨(F_, w_), ⟨h1_, h2_⟩, h3_.pick 6 [1, 2, 3, 4, 5, 0] (by kernel_rfl) (by decide) rfl⟩
   rintro ⟨F68, W69⟩ ⟨hx70, h71⟩
   have hx70 : Ext w0 F64 W65 F68 W69 := hx70
   have h71 : RdS (Rep.int .i64) F68 W69 A55 1 x52 := h71
   have h67 := h67.ext hx70
   have h_k := h_k.ext hx70
   have h62 := h62.ext hx70
   have h63 := h63.ext hx70
   have h33 := h33.ext hx70
   have h37 := h37.ext hx70
   have h12 := h12.ext hx70
   have h_s_1 := h_s_1.ext hx70
   have h_s_2 := h_s_2.ext hx70
   have h_s_3 := h_s_3.ext hx70
   have h_s_4 := h_s_4.ext hx70
   have h_s_5 := h_s_5.ext hx70
   have h_s_6 := h_s_6.ext hx70
   refine ops_ex (σ := (Nat → Prop) × World) (I := fun x_ => Ext w0 F68 W69 x_.1 x_.2 ∧ RdS (Rep.int .i64) x_.1 x_.2 A57 1 x52) (M' := fun x_ => Mem w0 (ow A59 x53 2 170 11 y60 :: .blk b14 [.string (⟨#[111, 108, 100, 101, 114]⟩), sl A5 x2 1, .slice none 0 0, .slice none 0 0, .slice none 0 0, sl A9 x3 2, .slice none 0 0] 96 :: ow A7 x2 1 3 1 y8 :: .blk b1 [.string s_0, sl A_s_1 s_1 c_s_1, sl A_s_2 s_2 c_s_2, sl A_s_3 s_3 c_s_3, sl A_s_4 s_4 c_s_4, sl A_s_5 s_5 c_s_5, sl A_s_6 s_6 c_s_6] 96 :: Fz x_.1 x_.2 :: cs)) (fun w_ hM => ?_) ?_
   · obtain ⟨F_, h1_, h2_, h3_⟩ := (hM.pick 6 [0, 5, 1, 2, 3, 4] (by kernel_rfl) (by decide) rfl : Mem w0 (ow A57 x52 1 3 1 y58 :: Fz F68 W69 :: ow A59 x53 2 170 11 y60 :: .blk b14 [.string (⟨#[111, 108, 100, 101, 114]⟩), sl A5 x2 1, .slice none 0 0, .slice none 0 0, .slice none 0 0, sl A9 x3 2, .slice none 0 0] 96 :: ow A7 x2 1 3 1 y8 :: .blk b1 [.string s_0, sl A_s_1 s_1 c_s_1, sl A_s_2 s_2 c_s_2, sl A_s_3 s_3 c_s_3, sl A_s_4 s_4 c_s_4, sl A_s_5 s_5 c_s_5, sl A_s_6 s_6 c_s_6] 96 :: cs) w_).freeze (z := 1) h62 rfl rfl
     exact ⟨(F_, w_), ⟨h1_, h2_⟩, h3_.pick 5 [1, 2, 3, 4, 0] (by kernel_rfl) (by decide) rfl⟩
   rintro ⟨F72, W73⟩ ⟨hx74, h75⟩
   have hx74 : Ext w0 F68 W69 F72 W73 := hx74
   have h75 : RdS (Rep.int .i64) F72 W73 A57 1 x52 := h75
   have h71 := h71.ext hx74
   have h67 := h67.ext hx74
   have h_k := h_k.ext hx74
   have h63 := h63.ext hx74
   have h33 := h33.ext hx74
   have h37 := h37.ext hx74
   have h12 := h12.ext hx74
   have h_s_1 := h_s_1.ext hx74
   have h_s_2 := h_s_2.ext hx74
   have h_s_3 := h_s_3.ext hx74
   have h_s_4 := h_s_4.ext hx74
   have h_s_5 := h_s_5.ext hx74
   have h_s_6 := h_s_6.ext hx74
   refine ops_ex (σ := (Nat → Prop) × World) (I := fun x_ => Ext w0 F72 W73 x_.1 x_.2 ∧ RdS R_api_Op x_.1 x_.2 A59 2 x53) (M' := fun x_ => Mem w0 (.blk b14 [.string (⟨#[111, 108, 100, 101, 114]⟩), sl A5 x2 1, .slice none 0 0, .slice none 0 0, .slice none 0 0, sl A9 x3 2, .slice none 0 0] 96 :: ow A7 x2 1 3 1 y8 :: .blk b1 [.string s_0, sl A_s_1 s_1 c_s_1, sl A_s_2 s_2 c_s_2, sl A_s_3 s_3 c_s_3, sl A_s_4 s_4 c_s_4, sl A_s_5 s_5 c_s_5, sl A_s_6 s_6 c_s_6] 96 :: Fz x_.1 x_.2 :: cs)) (fun w_ hM => ?_) ?_
   · obtain ⟨F_, h1_, h2_, h3_⟩ := (hM.pick 5 [0, 4, 1, 2, 3] (by kernel_rfl) (by decide) rfl : Mem w0 (ow A59 x53 2 170 11 y60 :: Fz F72 W73 :: .blk b14 [.string (⟨#[111, 108, 100, 101, 114]⟩), sl A5 x2 1, .slice none 0 0, .slice none 0 0, .slice none 0 0, sl A9 x3 2, .slice none 0 0] 96 :: ow A7 x2 1 3 1 y8 :: .blk b1 [.string s_0, sl A_s_1 s_1 c_s_1, sl A_s_2 s_2 c_s_2, sl A_s_3 s_3 c_s_3, sl A_s_4 s_4 c_s_4, sl A_s_5 s_5 c_s_5, sl A_s_6 s_6 c_s_6] 96 :: cs) w_).freeze (z := 11) h63 rfl rfl
     exact ⟨(F_, w_), ⟨h1_, h2_⟩, h3_.pick 4 [1, 2, 3, 0] (by kernel_rfl) (by decide) rfl⟩
   rintro ⟨F76, W77⟩ ⟨hx78, h79⟩
   have hx78 : Ext w0 F72 W73 F76 W77 := hx78
   have h79 : RdS R_api_Op F76 W77 A59 2 x53 := h79
   have h71 := h71.ext hx78
   have h75 := h75.ext hx78
   have h67 := h67.ext hx78
   have h_k := h_k.ext hx78
   have h33 := h33.ext hx78
   have h37 := h37.ext hx78
   have h12 := h12.ext hx78
   have h_s_1 := h_s_1.ext hx78
   have h_s_2 := h_s_2.ext hx78
   have h_s_3 := h_s_3.ext hx78
   have h_s_4 := h_s_4.ext hx78
   have h_s_5 := h_s_5.ext hx78
   have h_s_6 := h_s_6.ext hx78
   obtain ⟨x80, hv81, hp⟩ := obind hp
   refine ops_callI (σ := (Nat → Prop) × World) (d := some 15) (f := 41) (args := #[sl A46 x44 2, .agg #[.string (⟨#[111, 108, 100, 101, 114]⟩), sl A55 x52 1, .slice none 0 0, .slice none 0 0, sl A57 x52 1, sl A59 x53 2, .slice none 0 0]]) (v := (fun x_ => match x_ with | (F82, W83) => vI x80)) (I := (fun x_ => match x_ with | (F82, W83) => (Ext w0 F76 W77 F82 W83))) (M' := (fun x_ => match x_ with | (F82, W83) => Mem w0 (.blk b14 [.string (⟨#[111, 108, 100, 101, 114]⟩), sl A5 x2 1, .slice none 0 0, .slice none 0 0, .slice none 0 0, sl A9 x3 2, .slice none 0 0] 96 :: ow A7 x2 1 3 1 y8 :: .blk b1 [.string s_0, sl A_s_1 s_1 c_s_1, sl A_s_2 s_2 c_s_2, sl A_s_3 s_3 c_s_3, sl A_s_4 s_4 c_s_4, sl A_s_5 s_5 c_s_5, sl A_s_6 s_6 c_s_6] 96 :: Fz F82 W83 :: cs))) ⟨by kernel_rfl⟩ (fun w_ hM hS => (system_Check_ok w0 w_ (.blk b14 [.string (⟨#[111, 108, 100, 101, 114]⟩), sl A5 x2 1, .slice none 0 0, .slice none 0 0, .slice none 0 0, sl A9 x3 2, .slice none 0 0] 96 :: ow A7 x2 1 3 1 y8 :: .blk b1 [.string s_0, sl A_s_1 s_1 c_s_1, sl A_s_2 s_2 c_s_2, sl A_s_3 s_3 c_s_3, sl A_s_4 s_4 c_s_4, sl A_s_5 s_5 c_s_5, sl A_s_6 s_6 c_s_6] 96 :: cs) F76 W77 A46 2 x44 (⟨#[111, 108, 100, 101, 114]⟩) A55 1 x52 none 0 [] none 0 [] A57 1 x52 A59 2 x53 none 0 [] (hM.pick 4 [3, 0, 1, 2] (by kernel_rfl) (by decide) rfl) h67 h71 (RdS.empty _) (RdS.empty _) h75 h79 (RdS.empty _) x80 hv81).mono (by rintro e w' ⟨F82, W83, h84, rfl, h'⟩; have h' : Mem w0 (.blk b14 [.string (⟨#[111, 108, 100, 101, 114]⟩), sl A5 x2 1, .slice none 0 0, .slice none 0 0, .slice none 0 0, sl A9 x3 2, .slice none 0 0] 96 :: ow A7 x2 1 3 1 y8 :: .blk b1 [.string s_0, sl A_s_1 s_1 c_s_1, sl A_s_2 s_2 c_s_2, sl A_s_3 s_3 c_s_3, sl A_s_4 s_4 c_s_4, sl A_s_5 s_5 c_s_5, sl A_s_6 s_6 c_s_6] 96 :: Fz F82 W83 :: cs) w' := (h'.pick 4 [1, 2, 3, 0] (by kernel_rfl) (by decide) rfl); exact ⟨(F82, W83), h84, rfl, h', (by first | exact (Mem.fzback h' 3 rfl h84).sub (.cons_cons _ (.cons_cons _ (.cons_cons _ (.cons_cons _ (.refl _))))) | exact (Mem.fzback h' 3 rfl (hx78.trans h84)).sub (.cons_cons _ (.cons_cons _ (.cons_cons _ (.cons_cons _ (.refl _))))) | exact (Mem.fzback h' 3 rfl ((hx74.trans hx78).trans h84)).sub (.cons_cons _ (.cons_cons _ (.cons_cons _ (.cons_cons _ (.refl _))))) | exact (Mem.fzback h' 3 rfl (((hx70.trans hx74).trans hx78).trans h84)).sub (.cons_cons _ (.cons_cons _ (.cons_cons _ (.cons_cons _ (.refl _))))) | exact (Mem.fzback h' 3 rfl ((((hx66.trans hx70).trans hx74).trans hx78).trans h84)).sub (.cons_cons _ (.cons_cons _ (.cons_cons _ (.cons_cons _ (.refl _))))) | exact (Mem.fzback h' 3 rfl (((((h51.trans hx66).trans hx70).trans hx74).trans hx78).trans h84)).sub (.cons_cons _ (.cons_cons _ (.cons_cons _ (.cons_cons _ (.refl _))))) | exact (Mem.fzback h' 3 rfl ((((((h42.trans h51).trans hx66).trans hx70).trans hx74).trans hx78).trans h84)).sub (.cons_cons _ (.cons_cons _ (.cons_cons _ (.cons_cons _ (.refl _))))) | exact (Mem.fzback h' 3 rfl (((((((hx36.trans h42).trans h51).trans hx66).trans hx70).trans hx74).trans hx78).trans h84)).sub (.cons_cons _ (.cons_cons _ (.cons_cons _ (.cons_cons _ (.refl _))))) | exact (Mem.fzback h' 3 rfl ((((((((hx32.trans hx36).trans h42).trans h51).trans hx66).trans hx70).trans hx74).trans hx78).trans h84)).sub (.cons_cons _ (.cons_cons _ (.cons_cons _ (.cons_cons _ (.refl _))))) | exact (Mem.fzback h' 3 rfl (((((((((hx28.trans hx32).trans hx36).trans h42).trans h51).trans hx66).trans hx70).trans hx74).trans hx78).trans h84)).sub (.cons_cons _ (.cons_cons _ (.cons_cons _ (.cons_cons _ (.refl _))))) | exact (Mem.fzback h' 3 rfl ((((((((((h25.trans hx28).trans hx32).trans hx36).trans h42).trans h51).trans hx66).trans hx70).trans hx74).trans hx78).trans h84)).sub (.cons_cons _ (.cons_cons _ (.cons_cons _ (.cons_cons _ (.refl _))))))⟩)) ?_
   rintro ⟨F82, W83⟩ h84
   have h71 := h71.ext h84
   have h75 := h75.ext h84
   have h79 := h79.ext h84
   have h67 := h67.ext h84
   have h_k := h_k.ext h84
   have h33 := h33.ext h84
   have h37 := h37.ext h84
   have h12 := h12.ext h84
   have h_s_1 := h_s_1.ext h84
   have h_s_2 := h_s_2.ext h84
   have h_s_3 := h_s_3.ext h84
   have h_s_4 := h_s_4.ext h84
   have h_s_5 := h_s_5.ext h84
   have h_s_6 := h_s_6.ext h84
   refine oQ [oT 8, oT 9, oT 10] [(18, .bool (x80 == 0)), (3, vP b1 0), (0, sl A_k k c_k)] (by kernel_rfl) ?_
   refine ops_bool (t := (x80 == 0)) (l1 := [(18, .bool true), (3, vP b1 0), (0, sl A_k k c_k)]) (l2 := [(18, .bool false), (3, vP b1 0), (0, sl A_k k c_k)]) (fun h => by rw [h]) (fun h => by rw [h]) (fun hc85 => ?_) (fun hc85 => ?_)
   ·
    have hp := cnd_t hc85 hp
    refine oQ [oT 11] [(19, sl A_k k c_k), (18, .bool true), (3, vP b1 0), (0, sl A_k k c_k)] (by kernel_rfl) ?_
    refine ops_load (d := some 20) (an := [.v (.string s_0), .v (sl A_s_1 s_1 c_s_1), .v (sl A_s_2 s_2 c_s_2), .v (sl A_s_3 s_3 c_s_3), .v (sl A_s_4 s_4 c_s_4), .v (sl A_s_5 s_5 c_s_5), .v (sl A_s_6 s_6 c_s_6)]) (evs := [ld b1 0 (.string s_0), ld b1 1 (sl A_s_1 s_1 c_s_1), ld b1 2 (sl A_s_2 s_2 c_s_2), ld b1 3 (sl A_s_3 s_3 c_s_3), ld b1 4 (sl A_s_4 s_4 c_s_4), ld b1 5 (sl A_s_5 s_5 c_s_5), ld b1 6 (sl A_s_6 s_6 c_s_6)]) (v := .agg #[.string s_0, sl A_s_1 s_1 c_s_1, sl A_s_2 s_2 c_s_2, sl A_s_3 s_3 c_s_3, sl A_s_4 s_4 c_s_4, sl A_s_5 s_5 c_s_5, sl A_s_6 s_6 c_s_6]) ⟨by kernel_rfl⟩ (fun w_ hM => ⟨hM.cell 2 rfl rfl, hM.cell 2 rfl rfl, hM.cell 2 rfl rfl, hM.cell 2 rfl rfl, hM.cell 2 rfl rfl, hM.cell 2 rfl rfl, hM.cell 2 rfl rfl, rfl⟩) ?_
    refine oQ [oT 14] [(22, sl A_k k c_k), (20, .agg #[.string s_0, sl A_s_1 s_1 c_s_1, sl A_s_2 s_2 c_s_2, sl A_s_3 s_3 c_s_3, sl A_s_4 s_4 c_s_4, sl A_s_5 s_5 c_s_5, sl A_s_6 s_6 c_s_6]), (19, sl A_k k c_k), (18, .bool true), (3, vP b1 0)] (by kernel_rfl) ?_
    refine ops_load (d := some 23) (an := [.v (.string s_0), .v (sl A_s_1 s_1 c_s_1), .v (sl A_s_2 s_2 c_s_2), .v (sl A_s_3 s_3 c_s_3), .v (sl A_s_4 s_4 c_s_4), .v (sl A_s_5 s_5 c_s_5), .v (sl A_s_6 s_6 c_s_6)]) (evs := [ld b1 0 (.string s_0), ld b1 1 (sl A_s_1 s_1 c_s_1), ld b1 2 (sl A_s_2 s_2 c_s_2), ld b1 3 (sl A_s_3 s_3 c_s_3), ld b1 4 (sl A_s_4 s_4 c_s_4), ld b1 5 (sl A_s_5 s_5 c_s_5), ld b1 6 (sl A_s_6 s_6 c_s_6)]) (v := .agg #[.string s_0, sl A_s_1 s_1 c_s_1, sl A_s_2 s_2 c_s_2, sl A_s_3 s_3 c_s_3, sl A_s_4 s_4 c_s_4, sl A_s_5 s_5 c_s_5, sl A_s_6 s_6 c_s_6]) ⟨by kernel_rfl⟩ (fun w_ hM => ⟨hM.cell 2 rfl rfl, hM.cell 2 rfl rfl, hM.cell 2 rfl rfl, hM.cell 2 rfl rfl, hM.cell 2 rfl rfl, hM.cell 2 rfl rfl, hM.cell 2 rfl rfl, rfl⟩) ?_
    obtain ⟨x86, hv87, hp⟩ := obind hp
    refine ops_callI (σ := (Nat → Prop) × World) (d := some 21) (f := 41) (args := #[sl A_k k c_k, .agg #[.string s_0, sl A_s_1 s_1 c_s_1, sl A_s_2 s_2 c_s_2, sl A_s_3 s_3 c_s_3, sl A_s_4 s_4 c_s_4, sl A_s_5 s_5 c_s_5, sl A_s_6 s_6 c_s_6]]) (v := (fun x_ => match x_ with | (F88, W89) => vI x86)) (I := (fun x_ => match x_ with | (F88, W89) => (Ext w0 F82 W83 F88 W89))) (M' := (fun x_ => match x_ with | (F88, W89) => Mem w0 (.blk b14 [.string (⟨#[111, 108, 100, 101, 114]⟩), sl A5 x2 1, .slice none 0 0, .slice none 0 0, .slice none 0 0, sl A9 x3 2, .slice none 0 0] 96 :: ow A7 x2 1 3 1 y8 :: .blk b1 [.string s_0, sl A_s_1 s_1 c_s_1, sl A_s_2 s_2 c_s_2, sl A_s_3 s_3 c_s_3, sl A_s_4 s_4 c_s_4, sl A_s_5 s_5 c_s_5, sl A_s_6 s_6 c_s_6] 96 :: Fz F88 W89 :: cs))) ⟨by kernel_rfl⟩ (fun w_ hM hS => (system_Check_ok w0 w_ (.blk b14 [.string (⟨#[111, 108, 100, 101, 114]⟩), sl A5 x2 1, .slice none 0 0, .slice none 0 0, .slice none 0 0, sl A9 x3 2, .slice none 0 0] 96 :: ow A7 x2 1 3 1 y8 :: .blk b1 [.string s_0, sl A_s_1 s_1 c_s_1, sl A_s_2 s_2 c_s_2, sl A_s_3 s_3 c_s_3, sl A_s_4 s_4 c_s_4, sl A_s_5 s_5 c_s_5, sl A_s_6 s_6 c_s_6] 96 :: cs) F82 W83 A_k c_k k s_0 A_s_1 c_s_1 s_1 A_s_2 c_s_2 s_2 A_s_3 c_s_3 s_3 A_s_4 c_s_4 s_4 A_s_5 c_s_5 s_5 A_s_6 c_s_6 s_6 (hM.pick 4 [3, 0, 1, 2] (by kernel_rfl) (by decide) rfl) h_k h_s_1 h_s_2 h_s_3 h_s_4 h_s_5 h_s_6 x86 hv87).mono (by rintro e w' ⟨F88, W89, h90, rfl, h'⟩; have h' : Mem w0 (.blk b14 [.string (⟨#[111, 108, 100, 101, 114]⟩), sl A5 x2 1, .slice none 0 0, .slice none 0 0, .slice none 0 0, sl A9 x3 2, .slice none 0 0] 96 :: ow A7 x2 1 3 1 y8 :: .blk b1 [.string s_0, sl A_s_1 s_1 c_s_1, sl A_s_2 s_2 c_s_2, sl A_s_3 s_3 c_s_3, sl A_s_4 s_4 c_s_4, sl A_s_5 s_5 c_s_5, sl A_s_6 s_6 c_s_6] 96 :: Fz F88 W89 :: cs) w' := (h'.pick 4 [1, 2, 3, 0] (by kernel_rfl) (by decide) rfl); exact ⟨(F88, W89), h90, rfl, h', (by first | exact (Mem.fzback h' 3 rfl h90).sub (.cons_cons _ (.cons_cons _ (.cons_cons _ (.cons_cons _ (.refl _))))) | exact (Mem.fzback h' 3 rfl (h84.trans h90)).sub (.cons_cons _ (.cons_cons _ (.cons_cons _ (.cons_cons _ (.refl _))))) | exact (Mem.fzback h' 3 rfl ((hx78.trans h84).trans h90)).sub (.cons_cons _ (.cons_cons _ (.cons_cons _ (.cons_cons _ (.refl _))))) | exact (Mem.fzback h' 3 rfl (((hx74.trans hx78).trans h84).trans h90)).sub (.cons_cons _ (.cons_cons _ (.cons_cons _ (.cons_cons _ (.refl _))))) | exact (Mem.fzback h' 3 rfl ((((hx70.trans hx74).trans hx78).trans h84).trans h90)).sub (.cons_cons _ (.cons_cons _ (.cons_cons _ (.cons_cons _ (.refl _))))) | exact (Mem.fzback h' 3 rfl (((((hx66.trans hx70).trans hx74).trans hx78).trans h84).trans h90)).sub (.cons_cons _ (.cons_cons _ (.cons_cons _ (.cons_cons _ (.refl _))))) | exact (Mem.fzback h' 3 rfl ((((((h51.trans hx66).trans hx70).trans hx74).trans hx78).trans h84).trans h90)).sub (.cons_cons _ (.cons_cons _ (.cons_cons _ (.cons_cons _ (.refl _))))) | exact (Mem.fzback h' 3 rfl (((((((h42.trans h51).trans hx66).trans hx70).trans hx74).trans hx78).trans h84).trans h90)).sub (.cons_cons _ (.cons_cons _ (.cons_cons _ (.cons_cons _ (.refl _))))) | exact (Mem.fzback h' 3 rfl ((((((((hx36.trans h42).trans h51).trans hx66).trans hx70).trans hx74).trans hx78).trans h84).trans h90)).sub (.cons_cons _ (.cons_cons _ (.cons_cons _ (.cons_cons _ (.refl _))))) | exact (Mem.fzback h' 3 rfl (((((((((hx32.trans hx36).trans h42).trans h51).trans hx66).trans hx70).trans hx74).trans hx78).trans h84).trans h90)).sub (.cons_cons _ (.cons_cons _ (.cons_cons _ (.cons_cons _ (.refl _))))) | exact (Mem.fzback h' 3 rfl ((((((((((hx28.trans hx32).trans hx36).trans h42).trans h51).trans hx66).trans hx70).trans hx74).trans hx78).trans h84).trans h90)).sub (.cons_cons _ (.cons_cons _ (.cons_cons _ (.cons_cons _ (.refl _))))) | exact (Mem.fzback h' 3 rfl (((((((((((h25.trans hx28).trans hx32).trans hx36).trans h42).trans h51).trans hx66).trans hx70).trans hx74).trans hx78).trans h84).trans h90)).sub (.cons_cons _ (.cons_cons _ (.cons_cons _ (.cons_cons _ (.refl _))))))⟩)) ?_
    rintro ⟨F88, W89⟩ h90
    have h_s_1 := h_s_1.ext h90
    have h_s_2 := h_s_2.ext h90
    have h_s_3 := h_s_3.ext h90
    have h_s_4 := h_s_4.ext h90
    have h_s_5 := h_s_5.ext h90
    have h_s_6 := h_s_6.ext h90
    have h_k := h_k.ext h90
    have h33 := h33.ext h90
    have h37 := h37.ext h90
    have h12 := h12.ext h90
    obtain ⟨x91, hv92, hp⟩ := obind hp
    refine ops_callI (σ := (Nat → Prop) × World) (d := some 24) (f := 42) (args := #[sl A_k k c_k, .agg #[.string s_0, sl A_s_1 s_1 c_s_1, sl A_s_2 s_2 c_s_2, sl A_s_3 s_3 c_s_3, sl A_s_4 s_4 c_s_4, sl A_s_5 s_5 c_s_5, sl A_s_6 s_6 c_s_6]]) (v := (fun x_ => match x_ with | (F93, W94) => vI x91)) (I := (fun x_ => match x_ with | (F93, W94) => (Ext w0 F88 W89 F93 W94))) (M' := (fun x_ => match x_ with | (F93, W94) => Mem w0 (.blk b14 [.string (⟨#[111, 108, 100, 101, 114]⟩), sl A5 x2 1, .slice none 0 0, .slice none 0 0, .slice none 0 0, sl A9 x3 2, .slice none 0 0] 96 :: ow A7 x2 1 3 1 y8 :: .blk b1 [.string s_0, sl A_s_1 s_1 c_s_1, sl A_s_2 s_2 c_s_2, sl A_s_3 s_3 c_s_3, sl A_s_4 s_4 c_s_4, sl A_s_5 s_5 c_s_5, sl A_s_6 s_6 c_s_6] 96 :: Fz F93 W94 :: cs))) ⟨by kernel_rfl⟩ (fun w_ hM hS => (tourref3_SystemError_ok w0 w_ (.blk b14 [.string (⟨#[111, 108, 100, 101, 114]⟩), sl A5 x2 1, .slice none 0 0, .slice none 0 0, .slice none 0 0, sl A9 x3 2, .slice none 0 0] 96 :: ow A7 x2 1 3 1 y8 :: .blk b1 [.string s_0, sl A_s_1 s_1 c_s_1, sl A_s_2 s_2 c_s_2, sl A_s_3 s_3 c_s_3, sl A_s_4 s_4 c_s_4, sl A_s_5 s_5 c_s_5, sl A_s_6 s_6 c_s_6] 96 :: cs) F88 W89 A_k c_k k s_0 A_s_1 c_s_1 s_1 A_s_2 c_s_2 s_2 A_s_3 c_s_3 s_3 A_s_4 c_s_4 s_4 A_s_5 c_s_5 s_5 A_s_6 c_s_6 s_6 (hM.pick 4 [3, 0, 1, 2] (by kernel_rfl) (by decide) rfl) h_k h_s_1 h_s_2 h_s_3 h_s_4 h_s_5 h_s_6 x91 hv92).mono (by rintro e w' ⟨F93, W94, h95, rfl, h'⟩; have h' : Mem w0 (.blk b14 [.string (⟨#[111, 108, 100, 101, 114]⟩), sl A5 x2 1, .slice none 0 0, .slice none 0 0, .slice none 0 0, sl A9 x3 2, .slice none 0 0] 96 :: ow A7 x2 1 3 1 y8 :: .blk b1 [.string s_0, sl A_s_1 s_1 c_s_1, sl A_s_2 s_2 c_s_2, sl A_s_3 s_3 c_s_3, sl A_s_4 s_4 c_s_4, sl A_s_5 s_5 c_s_5, sl A_s_6 s_6 c_s_6] 96 :: Fz F93 W94 :: cs) w' := (h'.pick 4 [1, 2, 3, 0] (by kernel_rfl) (by decide) rfl); exact ⟨(F93, W94), h95, rfl, h', (by first | exact (Mem.fzback h' 3 rfl h95).sub (.cons_cons _ (.cons_cons _ (.cons_cons _ (.cons_cons _ (.refl _))))) | exact (Mem.fzback h' 3 rfl (h90.trans h95)).sub (.cons_cons _ (.cons_cons _ (.cons_cons _ (.cons_cons _ (.refl _))))) | exact (Mem.fzback h' 3 rfl ((h84.trans h90).trans h95)).sub (.cons_cons _ (.cons_cons _ (.cons_cons _ (.cons_cons _ (.refl _))))) | exact (Mem.fzback h' 3 rfl (((hx78.trans h84).trans h90).trans h95)).sub (.cons_cons _ (.cons_cons _ (.cons_cons _ (.cons_cons _ (.refl _))))) | exact (Mem.fzback h' 3 rfl ((((hx74.trans hx78).trans h84).trans h90).trans h95)).sub (.cons_cons _ (.cons_cons _ (.cons_cons _ (.cons_cons _ (.refl _))))) | exact (Mem.fzback h' 3 rfl (((((hx70.trans hx74).trans hx78).trans h84).trans h90).trans h95)).sub (.cons_cons _ (.cons_cons _ (.cons_cons _ (.cons_cons _ (.refl _))))) | exact (Mem.fzback h' 3 rfl ((((((hx66.trans hx70).trans hx74).trans hx78).trans h84).trans h90).trans h95)).sub (.cons_cons _ (.cons_cons _ (.cons_cons _ (.cons_cons _ (.refl _))))) | exact (Mem.fzback h' 3 rfl (((((((h51.trans hx66).trans hx70).trans hx74).trans hx78).trans h84).trans h90).trans h95)).sub (.cons_cons _ (.cons_cons _ (.cons_cons _ (.cons_cons _ (.refl _))))) | exact (Mem.fzback h' 3 rfl ((((((((h42.trans h51).trans hx66).trans hx70).trans hx74).trans hx78).trans h84).trans h90).trans h95)).sub (.cons_cons _ (.cons_cons _ (.cons_cons _ (.cons_cons _ (.refl _))))) | exact (Mem.fzback h' 3 rfl (((((((((hx36.trans h42).trans h51).trans hx66).trans hx70).trans hx74).trans hx78).trans h84).trans h90).trans h95)).sub (.cons_cons _ (.cons_cons _ (.cons_cons _ (.cons_cons _ (.refl _))))) | exact (Mem.fzback h' 3 rfl ((((((((((hx32.trans hx36).trans h42).trans h51).trans hx66).trans hx70).trans hx74).trans hx78).trans h84).trans h90).trans h95)).sub (.cons_cons _ (.cons_cons _ (.cons_cons _ (.cons_cons _ (.refl _))))) | exact (Mem.fzback h' 3 rfl (((((((((((hx28.trans hx32).trans hx36).trans h42).trans h51).trans hx66).trans hx70).trans hx74).trans hx78).trans h84).trans h90).trans h95)).sub (.cons_cons _ (.cons_cons _ (.cons_cons _ (.cons_cons _ (.refl _))))) | exact (Mem.fzback h' 3 rfl ((((((((((((h25.trans hx28).trans hx32).trans hx36).trans h42).trans h51).trans hx66).trans hx70).trans hx74).trans hx78).trans h84).trans h90).trans h95)).sub (.cons_cons _ (.cons_cons _ (.cons_cons _ (.cons_cons _ (.refl _))))))⟩)) ?_
    rintro ⟨F93, W94⟩ h95
    have h_s_1 := h_s_1.ext h95
    have h_s_2 := h_s_2.ext h95
    have h_s_3 := h_s_3.ext h95
    have h_s_4 := h_s_4.ext h95
    have h_s_5 := h_s_5.ext h95
    have h_s_6 := h_s_6.ext h95
    have h_k := h_k.ext h95
    have h33 := h33.ext h95
    have h37 := h37.ext h95
    have h12 := h12.ext h95
    refine oQ [oT 17, oT 18, oT 19] [(4, .bool (x86 == x91))] (by kernel_rfl) ?_
    refine ops_nil ?_
    exact fin_join HJ1 ((x86 == x91), F93, W94) ⟨hp, ((((((((((((h25.trans hx28).trans hx32).trans hx36).trans h42).trans h51).trans hx66).trans hx70).trans hx74).trans hx78).trans h84).trans h90).trans h95)⟩ (look_has ⟨rfl, trivial⟩) (fun w_ hM => hM.pick 4 [3] (by kernel_rfl) (by decide) rfl)
   ·
    have hp := cnd_f hc85 hp
    refine oQ [oT 11, oT 12, oT 14, oT 15, oF 13, oF 16, oT 17, oT 18, oT 19] [(4, .bool false)] (by kernel_rfl) ?_
    refine ops_nil ?_
    exact fin_join HJ1 (false, F82, W83) ⟨hp, ((((((((((h25.trans hx28).trans hx32).trans hx36).trans h42).trans h51).trans hx66).trans hx70).trans hx74).trans hx78).trans h84)⟩ (look_has ⟨rfl, trivial⟩) (fun w_ hM => hM.pick 4 [3] (by kernel_rfl) (by decide) rfl)
  ·
   have hp := cnd_f hc43 hp
   refine oQ [oF 5, oF 6, oF 7, oT 8, oT 9, oT 10, oT 11, oT 12, oT 14, oT 15, oF 13, oF 16, oT 17, oT 18, oT 19] [(4, .bool false)] (by kernel_rfl) ?_
   refine ops_nil ?_
   exact fin_join HJ1 (false, F40, W41) ⟨hp, ((((h25.trans hx28).trans hx32).trans hx36).trans h42)⟩ (look_has ⟨rfl, trivial⟩) (fun w_ hM => hM.pick 4 [3] (by kernel_rfl) (by decide) rfl)
end Go.Proofs.YtnnhijlgohlaeaaDoor.D
