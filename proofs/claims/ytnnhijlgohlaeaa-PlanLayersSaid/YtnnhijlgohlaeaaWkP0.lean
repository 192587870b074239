/- The Go functions come to what the plain functions tell. No condition. -/
import Derived.Test.YtnnhijlgohlaeaaProg
import Derived.Test.YtnnhijlgohlaeaaFnP
import Derived.Test.YtnnhijlgohlaeaaExOwn
namespace Go.Proofs.Ytnnhijlgohlaeaa.P
open Go Go.RowKit Go.Proofs.Ytnnhijlgohlaeaa.Sx
set_option linter.unusedVariables false
set_option maxHeartbeats 4000000
set_option maxRecDepth 100000
theorem tourlaw3_older_ok (w0 w : World) (cs : List Chunk) (F : Nat → Prop) (W : World) (hM0 : Mem w0 (Fz F W :: cs) w) (l9002 : List Int) (l9009 : List api_Op) (hp : tourlaw3_older = some (l9002, l9009)) : Calls Try.prog 12 #[] w fun e w' => ∃ (A9001 : Option Addr), ∃ (y9003 : List Value), ∃ (A9005 : Option Addr), ∃ (y9006 : List Value), ∃ (A9008 : Option Addr), ∃ (y9010 : List Value), ((RepL (Rep.int .i64) F W l9002 y9003) ∧ (RepL (Rep.int .i64) F W l9002 y9006) ∧ (RepL R_api_Op F W l9009 y9010)) ∧ e = .returned (.agg #[.string (⟨#[111, 108, 100, 101, 114]⟩), sl A9001 l9002 1, .slice none 0 0, .slice none 0 0, sl A9005 l9002 1, sl A9008 l9009 2, .slice none 0 0]) ∧ Mem w0 (ow A9001 l9002 1 3 1 y9003 :: ow A9005 l9002 1 3 1 y9006 :: ow A9008 l9009 2 140 11 y9010 :: Fz F W :: cs) w' := by
 unfold tourlaw3_older at hp
 refine sx_calls Try.func12 rfl (n := 13) (by kernel_rfl) (l := []) rfl (by rfl) hM0 ?_
 refine st_seq (st_region [oF 0] (by rfl) ?_)
 refine ops_newB (d := some 0) [.string ByteArray.empty, .slice none 0 0, .slice none 0 0, .slice none 0 0, .slice none 0 0, .slice none 0 0, .slice none 0 0] 30 (fun b1 => ⟨by kernel_rfl⟩) (fun w_ hM hS => trivial) (fun b1 => ?_)
 refine ops_nil (fin_then (st_seq (st_region [oF 0, oF 1, oF 2] (by rfl) ?_)))
 refine oQ [oF 0] [(2, .agg #[.bool true, vI 0, vI 0, vI 0]), (0, vP b1 0)] (by kernel_rfl) ?_
 refine ops_newB (d := some 1) [.bool false, vI 0, vI 0, vI 0] 138 (fun b2 => ⟨by kernel_rfl⟩) (fun w_ hM hS => trivial) (fun b2 => ?_)
 refine ops_store (an := []) (evs := [sr b2 0 (.bool true), sr b2 1 (vI 0), sr b2 2 (vI 0), sr b2 3 (vI 0)]) ⟨by kernel_rfl⟩ (fun w_ hM hS => let ⟨w', he, h'⟩ := hM.evs_stores [.bool true, vI 0, vI 0, vI 0] 0 rfl 0 (Nat.le_of_ble_eq_true rfl); ⟨w', he, h', trivial⟩) ?_
 refine ops_nil (fin_then (st_seq (st_region [oF 0, oF 1, oF 2, oF 3, oF 4, oF 5, oF 6, oF 7, oF 8, oF 9, oF 10] (by rfl) ?_)))
 have h3 : RepL (Rep.int .i64) F W ([0] : List Int) ([vI 0]) := (RepL.cons (R := (Rep.int .i64)) (F := F) (w := W) (vs := [vI 0]) (ys := []) rfl RepL.nil)
 refine ops_new (d := some 3) (o := .cells ([vI 0]).toArray 3) (v := fun g4 => .slice (sa g4) ([0] : List Int).length 1) (M' := fun g4 => Mem w0 (orow (sa g4) ([0] : List Int).length 1 3 1 ([vI 0]) :: .blk b2 [.bool true, vI 0, vI 0, vI 0] 138 :: .blk b1 [.string ByteArray.empty, .slice none 0 0, .slice none 0 0, .slice none 0 0, .slice none 0 0, .slice none 0 0, .slice none 0 0] 30 :: Fz F W :: cs)) (fun g4 => ⟨by kernel_rfl⟩) (fun w_ hM hS => ⟨hM.onew [vI 0] 3 1 1 rfl (by decide), trivial⟩) (fun g4 => ?_)
 have h5 : RepL (Rep.int .i64) F W ([0] : List Int) ([vI 0]) := (RepL.cons (R := (Rep.int .i64)) (F := F) (w := W) (vs := [vI 0]) (ys := []) rfl RepL.nil)
 refine ops_new (d := some 4) (o := .cells ([vI 0]).toArray 3) (v := fun g6 => .slice (sa g6) ([0] : List Int).length 1) (M' := fun g6 => Mem w0 (orow (sa g6) ([0] : List Int).length 1 3 1 ([vI 0]) :: orow (sa g4) ([0] : List Int).length 1 3 1 ([vI 0]) :: .blk b2 [.bool true, vI 0, vI 0, vI 0] 138 :: .blk b1 [.string ByteArray.empty, .slice none 0 0, .slice none 0 0, .slice none 0 0, .slice none 0 0, .slice none 0 0, .slice none 0 0] 30 :: Fz F W :: cs)) (fun g6 => ⟨by kernel_rfl⟩) (fun w_ hM hS => ⟨hM.onew [vI 0] 3 1 1 rfl (by decide), trivial⟩) (fun g6 => ?_)
 refine ops_mem (d := some 5) (an := [.v (.bool true), .v (vI 0), .v (vI 0), .v (vI 0)]) (evs := [ld b2 0 (.bool true), ld b2 1 (vI 0), ld b2 2 (vI 0), ld b2 3 (vI 0)]) (v := .agg #[.bool true, vI 0, vI 0, vI 0]) ⟨by kernel_rfl⟩ (fun w_ hM hS => ⟨w_, ⟨hM.cell 2 rfl rfl, hM.cell 2 rfl rfl, hM.cell 2 rfl rfl, hM.cell 2 rfl rfl, rfl⟩, hM, trivial⟩) ?_
 refine oQ [oF 3, oF 4, oF 5] [(8, .agg #[.bool false, vI 1, vI 0, vI 0]), (7, .agg #[vI 1, vI 0, vI 0, .bool true, vI 0, vI 0, vI 0, .bool false, vI 1, vI 0, vI 0]), (4, .slice (sa g6) ([0] : List Int).length 1), (3, .slice (sa g4) ([0] : List Int).length 1), (1, vP b2 0), (0, vP b1 0)] (by kernel_rfl) ?_
 refine ops_mem (d := some 9) (an := [.v (.bool true), .v (vI 0), .v (vI 0), .v (vI 0)]) (evs := [ld b2 0 (.bool true), ld b2 1 (vI 0), ld b2 2 (vI 0), ld b2 3 (vI 0)]) (v := .agg #[.bool true, vI 0, vI 0, vI 0]) ⟨by kernel_rfl⟩ (fun w_ hM hS => ⟨w_, ⟨hM.cell 2 rfl rfl, hM.cell 2 rfl rfl, hM.cell 2 rfl rfl, hM.cell 2 rfl rfl, rfl⟩, hM, trivial⟩) ?_
 refine oQ [oF 7] [(10, .agg #[vI 12, vI 0, vI 0, .bool false, vI 1, vI 0, vI 0, .bool true, vI 0, vI 0, vI 0]), (7, .agg #[vI 1, vI 0, vI 0, .bool true, vI 0, vI 0, vI 0, .bool false, vI 1, vI 0, vI 0]), (4, .slice (sa g6) ([0] : List Int).length 1), (3, .slice (sa g4) ([0] : List Int).length 1), (0, vP b1 0)] (by kernel_rfl) ?_
 have h7 : RepL R_api_Op F W ([(api_Op.mk 1 (api_Ref.mk 0 0) (api_Arg.mk true 0 (api_Ref.mk 0 0)) (api_Arg.mk false 1 (api_Ref.mk 0 0))), (api_Op.mk 12 (api_Ref.mk 0 0) (api_Arg.mk false 1 (api_Ref.mk 0 0)) (api_Arg.mk true 0 (api_Ref.mk 0 0)))] : List api_Op) ([vI 1, vI 0, vI 0, .bool true, vI 0, vI 0, vI 0, .bool false, vI 1, vI 0, vI 0, vI 12, vI 0, vI 0, .bool false, vI 1, vI 0, vI 0, .bool true, vI 0, vI 0, vI 0]) := (RepL.cons (R := R_api_Op) (F := F) (w := W) (vs := [vI 1, vI 0, vI 0, .bool true, vI 0, vI 0, vI 0, .bool false, vI 1, vI 0, vI 0]) (ys := [vI 12, vI 0, vI 0, .bool false, vI 1, vI 0, vI 0, .bool true, vI 0, vI 0, vI 0]) (enc_api_Op) (RepL.cons (R := R_api_Op) (F := F) (w := W) (vs := [vI 12, vI 0, vI 0, .bool false, vI 1, vI 0, vI 0, .bool true, vI 0, vI 0, vI 0]) (ys := []) (enc_api_Op) RepL.nil))
 refine ops_new (d := some 11) (o := .cells ([vI 1, vI 0, vI 0, .bool true, vI 0, vI 0, vI 0, .bool false, vI 1, vI 0, vI 0, vI 12, vI 0, vI 0, .bool false, vI 1, vI 0, vI 0, .bool true, vI 0, vI 0, vI 0]).toArray 140) (v := fun g8 => .slice (sa g8) ([(api_Op.mk 1 (api_Ref.mk 0 0) (api_Arg.mk true 0 (api_Ref.mk 0 0)) (api_Arg.mk false 1 (api_Ref.mk 0 0))), (api_Op.mk 12 (api_Ref.mk 0 0) (api_Arg.mk false 1 (api_Ref.mk 0 0)) (api_Arg.mk true 0 (api_Ref.mk 0 0)))] : List api_Op).length 2) (M' := fun g8 => Mem w0 (orow (sa g8) ([(api_Op.mk 1 (api_Ref.mk 0 0) (api_Arg.mk true 0 (api_Ref.mk 0 0)) (api_Arg.mk false 1 (api_Ref.mk 0 0))), (api_Op.mk 12 (api_Ref.mk 0 0) (api_Arg.mk false 1 (api_Ref.mk 0 0)) (api_Arg.mk true 0 (api_Ref.mk 0 0)))] : List api_Op).length 2 140 11 ([vI 1, vI 0, vI 0, .bool true, vI 0, vI 0, vI 0, .bool false, vI 1, vI 0, vI 0, vI 12, vI 0, vI 0, .bool false, vI 1, vI 0, vI 0, .bool true, vI 0, vI 0, vI 0]) :: orow (sa g6) ([0] : List Int).length 1 3 1 ([vI 0]) :: orow (sa g4) ([0] : List Int).length 1 3 1 ([vI 0]) :: .blk b2 [.bool true, vI 0, vI 0, vI 0] 138 :: .blk b1 [.string ByteArray.empty, .slice none 0 0, .slice none 0 0, .slice none 0 0, .slice none 0 0, .slice none 0 0, .slice none 0 0] 30 :: Fz F W :: cs)) (fun g8 => ⟨by kernel_rfl⟩) (fun w_ hM hS => ⟨hM.onew [vI 1, vI 0, vI 0, .bool true, vI 0, vI 0, vI 0, .bool false, vI 1, vI 0, vI 0, vI 12, vI 0, vI 0, .bool false, vI 1, vI 0, vI 0, .bool true, vI 0, vI 0, vI 0] 140 2 11 rfl (by decide), trivial⟩) (fun g8 => ?_)
 refine oQ [oF 9] [(12, .agg #[.string (⟨#[111, 108, 100, 101, 114]⟩), .slice (sa g4) ([0] : List Int).length 1, .slice none 0 0, .slice none 0 0, .slice (sa g6) ([0] : List Int).length 1, .slice (sa g8) ([(api_Op.mk 1 (api_Ref.mk 0 0) (api_Arg.mk true 0 (api_Ref.mk 0 0)) (api_Arg.mk false 1 (api_Ref.mk 0 0))), (api_Op.mk 12 (api_Ref.mk 0 0) (api_Arg.mk false 1 (api_Ref.mk 0 0)) (api_Arg.mk true 0 (api_Ref.mk 0 0)))] : List api_Op).length 2, .slice none 0 0]), (0, vP b1 0)] (by kernel_rfl) ?_
 refine ops_store (an := []) (evs := [sr b1 0 (.string (⟨#[111, 108, 100, 101, 114]⟩)), sr b1 1 (.slice (sa g4) ([0] : List Int).length 1), sr b1 2 (.slice none 0 0), sr b1 3 (.slice none 0 0), sr b1 4 (.slice (sa g6) ([0] : List Int).length 1), sr b1 5 (.slice (sa g8) ([(api_Op.mk 1 (api_Ref.mk 0 0) (api_Arg.mk true 0 (api_Ref.mk 0 0)) (api_Arg.mk false 1 (api_Ref.mk 0 0))), (api_Op.mk 12 (api_Ref.mk 0 0) (api_Arg.mk false 1 (api_Ref.mk 0 0)) (api_Arg.mk true 0 (api_Ref.mk 0 0)))] : List api_Op).length 2), sr b1 6 (.slice none 0 0)]) ⟨by kernel_rfl⟩ (fun w_ hM hS => let ⟨w', he, h'⟩ := hM.evs_stores [.string (⟨#[111, 108, 100, 101, 114]⟩), .slice (sa g4) ([0] : List Int).length 1, .slice none 0 0, .slice none 0 0, .slice (sa g6) ([0] : List Int).length 1, .slice (sa g8) ([(api_Op.mk 1 (api_Ref.mk 0 0) (api_Arg.mk true 0 (api_Ref.mk 0 0)) (api_Arg.mk false 1 (api_Ref.mk 0 0))), (api_Op.mk 12 (api_Ref.mk 0 0) (api_Arg.mk false 1 (api_Ref.mk 0 0)) (api_Arg.mk true 0 (api_Ref.mk 0 0)))] : List api_Op).length 2, .slice none 0 0] 4 rfl 0 (Nat.le_of_ble_eq_true rfl); ⟨w', he, h', trivial⟩) ?_
 refine ops_nil (fin_then (st_ret ?_))
 have hq_ := Option.some.inj hp
 obtain ⟨hr0_, hq_⟩ := Prod.mk.inj hq_
 have hr1_ := hq_
 subst hr0_
 subst hr1_
 refine fin_ret [.cell 0 30] [.agg #[.string (⟨#[111, 108, 100, 101, 114]⟩), .slice (sa g4) ([0] : List Int).length 1, .slice none 0 0, .slice none 0 0, .slice (sa g6) ([0] : List Int).length 1, .slice (sa g8) ([(api_Op.mk 1 (api_Ref.mk 0 0) (api_Arg.mk true 0 (api_Ref.mk 0 0)) (api_Arg.mk false 1 (api_Ref.mk 0 0))), (api_Op.mk 12 (api_Ref.mk 0 0) (api_Arg.mk false 1 (api_Ref.mk 0 0)) (api_Arg.mk true 0 (api_Ref.mk 0 0)))] : List api_Op).length 2, .slice none 0 0]] rfl rfl (fun w_ hM => (.cell rfl (tr_run _ [.v (.string (⟨#[111, 108, 100, 101, 114]⟩)), .v (.slice (sa g4) ([0] : List Int).length 1), .v (.slice none 0 0), .v (.slice none 0 0), .v (.slice (sa g6) ([0] : List Int).length 1), .v (.slice (sa g8) ([(api_Op.mk 1 (api_Ref.mk 0 0) (api_Arg.mk true 0 (api_Ref.mk 0 0)) (api_Arg.mk false 1 (api_Ref.mk 0 0))), (api_Op.mk 12 (api_Ref.mk 0 0) (api_Arg.mk false 1 (api_Ref.mk 0 0)) (api_Arg.mk true 0 (api_Ref.mk 0 0)))] : List api_Op).length 2), .v (.slice none 0 0)] [ld b1 0 (.string (⟨#[111, 108, 100, 101, 114]⟩)), ld b1 1 (.slice (sa g4) ([0] : List Int).length 1), ld b1 2 (.slice none 0 0), ld b1 3 (.slice none 0 0), ld b1 4 (.slice (sa g6) ([0] : List Int).length 1), ld b1 5 (.slice (sa g8) ([(api_Op.mk 1 (api_Ref.mk 0 0) (api_Arg.mk true 0 (api_Ref.mk 0 0)) (api_Arg.mk false 1 (api_Ref.mk 0 0))), (api_Op.mk 12 (api_Ref.mk 0 0) (api_Arg.mk false 1 (api_Ref.mk 0 0)) (api_Arg.mk true 0 (api_Ref.mk 0 0)))] : List api_Op).length 2), ld b1 6 (.slice none 0 0)] (.agg #[.string (⟨#[111, 108, 100, 101, 114]⟩), .slice (sa g4) ([0] : List Int).length 1, .slice none 0 0, .slice none 0 0, .slice (sa g6) ([0] : List Int).length 1, .slice (sa g8) ([(api_Op.mk 1 (api_Ref.mk 0 0) (api_Arg.mk true 0 (api_Ref.mk 0 0)) (api_Arg.mk false 1 (api_Ref.mk 0 0))), (api_Op.mk 12 (api_Ref.mk 0 0) (api_Arg.mk false 1 (api_Ref.mk 0 0)) (api_Arg.mk true 0 (api_Ref.mk 0 0)))] : List api_Op).length 2, .slice none 0 0] : Value) _ _ (by kernel_rfl) ⟨hM.cell 4 rfl rfl, hM.cell 4 rfl rfl, hM.cell 4 rfl rfl, hM.cell 4 rfl rfl, hM.cell 4 rfl rfl, hM.cell 4 rfl rfl, hM.cell 4 rfl rfl, rfl⟩) .nil)) (fun w_ hM => ?_)
 exact ⟨(sa g4), ([vI 0]), (sa g6), ([vI 0]), (sa g8), ([vI 1, vI 0, vI 0, .bool true, vI 0, vI 0, vI 0, .bool false, vI 1, vI 0, vI 0, vI 12, vI 0, vI 0, .bool false, vI 1, vI 0, vI 0, .bool true, vI 0, vI 0, vI 0]), ⟨h3, h5, h7⟩, rfl, hM.pick 6 [2, 1, 0, 5] (by kernel_rfl) (by decide) rfl⟩
theorem slices_Index_int_int_ok (w0 w : World) (cs : List Chunk) (F : Nat → Prop) (W : World) (A_s : Option Addr) (c_s : Nat) (s : List Int) (v : Int) (hM0 : Mem w0 (Fz F W :: cs) w) (h_s : RdS (Rep.int .i64) F W A_s c_s s) (i9001 : Int) (hp : slices_Index_int_int s v = some i9001) : Calls Try.prog 98 #[sl A_s s c_s, vI v] w fun e w' => (True) ∧ e = .returned (vI i9001) ∧ Mem w0 (Fz F W :: cs) w' := by
 unfold slices_Index_int_int at hp
 refine sx_calls Try.func98 rfl (n := 19) (by kernel_rfl) (l := [(0, sl A_s s c_s), (1, vI v)]) rfl (by rfl) hM0 ?_
 refine st_seq (st_region [oF 0] (by rfl) ?_)
 refine oQ [oF 0] [(0, sl A_s s c_s), (1, vI v)] (by kernel_rfl) ?_
 refine ops_nil (fin_then ?_)
 refine st_join1 (σ := Unit) (L := fun _ => []) (N := fun _ => Mem w0 (Fz F W :: cs)) (I := fun _ => (slices_Index_int_int_j1 = some i9001)) ?_ ?_
 ·
  rintro _ hp
  unfold slices_Index_int_int_j1 at hp
  refine st_seq (st_region [oF 0] (by rfl) ?_)
  refine oQ [oF 0] [(4, vI (-1))] (by kernel_rfl) ?_
  refine ops_nil (fin_then (st_ret ?_))
  have hq_ := Option.some.inj hp
  have hr0_ := hq_
  subst hr0_
  refine fin_ret [.tmp 4] [vI (-1)] rfl rfl (fun w_ hM => (.tmp rfl .nil)) (fun w_ hM => ?_)
  exact ⟨trivial, rfl, hM⟩
 ·
  intro HJ1
  refine st_seq (st_seq (st_region [oF 0, oF 1, oF 2] (by rfl) ?_))
  refine oQ [oF 0, oF 1, oF 2] [(8, vI 0), (7, vI (s.length : Int)), (0, sl A_s s c_s), (1, vI v)] (by kernel_rfl) ?_
  refine ops_nil (fin_then (st_block ?_))
  obtain ⟨r2, hl2, hk2⟩ := obind hp
  refine st_loopP (σ := Int) (ρ := (Int ⊕ Unit)) (γ := Unit) hl2 () (fun s_ g_ => match s_, g_ with | i1, _ => [(0, sl A_s s c_s), (1, vI v), (7, vI (s.length : Int)), (8, vI i1)]) (fun s_ g_ => match s_, g_ with | i1, _ => Mem w0 (Fz F W :: cs)) (fun s_ g_ => match s_, g_ with | i1, _ => True) trivial (look_has ⟨rfl, rfl, rfl, rfl, trivial⟩) (fun w_ hM => hM) ?_
  rintro i1 _ o2 - hs_ hd2
  have hp : (slices_Index_int_int_l2 s v) i1 = some o2 := hs_
  clear hs_
  unfold slices_Index_int_int_l2 at hp
  refine st_seq (st_region [oF 0] (by rfl) ?_)
  refine oQ [oF 0] [(9, .bool (decide (i1 < (s.length : Int)))), (0, sl A_s s c_s), (1, vI v), (7, vI (s.length : Int)), (8, vI i1)] (by kernel_rfl) ?_
  refine ops_nil (fin_then (st_seq ?_))
  refine st_if (b := decide (i1 < (s.length : Int))) rfl (fun hc2 => ?_) (fun hc2 => ?_)
  ·
   have hp := cnd_t hc2 hp
   refine st_skip (fin_then (st_seq (st_block (st_seq (st_region [oF 0, oF 1] (by rfl) ?_)))))
   refine oQ [oF 0, oF 1] [(5, vI i1), (0, sl A_s s c_s), (1, vI v), (7, vI (s.length : Int)), (8, vI i1)] (by kernel_rfl) ?_
   refine ops_nil (fin_then (st_seq (st_region [oF 0, oF 1, oF 2, oF 3, oF 4, oF 5] (by rfl) ?_)))
   refine oQ [oF 0, oF 1, oF 2] [(13, vI i1), (12, sl A_s s c_s), (11, vI v), (5, vI i1), (0, sl A_s s c_s), (1, vI v), (7, vI (s.length : Int)), (8, vI i1)] (by kernel_rfl) ?_
   obtain ⟨x3, hv4, hp⟩ := obind hp
   obtain ⟨m5, hm6, hx7⟩ := idx_some hv4
   have hl10 := (List.getElem?_eq_some_iff.1 hx7).1
   obtain ⟨ad11, vs8, hA12, hr9, hq13⟩ := RdS.el h_s hx7
   obtain rfl := hr9
   refine ops_val (op := (.indexAddr 26 (.tmp 12) (.tmp 13))) (d := some 14) (v := .pointer (some (ad11.add (m5 * 1)))) ⟨by kernel_rfl⟩ (run_indexA hA12 Try.underlying26 (z := 1) (by kernel_rfl) rfl rfl hm6 hl10) ?_
   refine ops_mem (d := some 15) (an := [.v (vI x3)]) (evs := [.load (ad11.add (m5 * 1)) (vI x3)]) (v := vI x3) ⟨by kernel_rfl⟩ (fun w_ hM hS => ⟨w_, ⟨hM.elcell 0 rfl hq13 0 rfl, rfl⟩, hM, trivial⟩) ?_
   refine oQ [oF 5] [(16, .bool (v == x3)), (5, vI i1), (0, sl A_s s c_s), (1, vI v), (7, vI (s.length : Int)), (8, vI i1)] (by kernel_rfl) ?_
   refine ops_nil (fin_then ?_)
   refine st_if (b := (v == x3)) rfl (fun hc14 => ?_) (fun hc14 => ?_)
   ·
    have hp := cnd_t hc14 hp
    refine st_seq (st_region [oF 0, oF 1] (by rfl) ?_)
    refine oQ [oF 0, oF 1] [(4, vI i1)] (by kernel_rfl) ?_
    refine ops_nil (fin_then (st_ret (fin_ret_block (fin_ret_then (fin_ret_then (fin_ret_block (fin_ret_then ?_)))))))
    obtain hq_ := Option.some.inj hp
    subst hq_
    obtain hq_ := hd2 _ rfl
    subst hq_
    have hp : some i1 = some i9001 := hk2
    have hq_ := Option.some.inj hp
    have hr0_ := hq_
    subst hr0_
    refine fin_ret [.tmp 4] [vI i1] rfl rfl (fun w_ hM => (.tmp rfl .nil)) (fun w_ hM => ?_)
    exact ⟨trivial, rfl, hM⟩
   ·
    have hp := cnd_f hc14 hp
    refine st_skip (fin_block (fin_then (st_region [oF 0, oF 1] (by rfl) ?_)))
    refine oQ [oF 0, oF 1] [(8, vI (IntKind.i64.wrap (i1 + 1))), (0, sl A_s s c_s), (1, vI v), (7, vI (s.length : Int))] (by kernel_rfl) ?_
    refine ops_nil ?_
    exact fin_again (IntKind.i64.wrap (i1 + 1)) () (Option.some.inj hp).symm trivial (look_has ⟨rfl, rfl, rfl, rfl, trivial⟩) (fun w_ hM => hM)
  ·
   have hp := cnd_f hc2 hp
   refine st_exit (fin_exit_then (fin_exit_then (fin_exit ?_)))
   obtain hq_ := Option.some.inj hp
   subst hq_
   obtain hq_ := hd2 _ rfl
   subst hq_
   have hp : slices_Index_int_int_j1 = some i9001 := hk2
   exact fin_join HJ1 () hp (look_has trivial) (fun w_ hM => hM)
theorem slices_Contains_int_int_ok (w0 w : World) (cs : List Chunk) (F : Nat → Prop) (W : World) (A_s : Option Addr) (c_s : Nat) (s : List Int) (v : Int) (hM0 : Mem w0 (Fz F W :: cs) w) (h_s : RdS (Rep.int .i64) F W A_s c_s s) (t9001 : Bool) (hp : slices_Contains_int_int s v = some t9001) : Calls Try.prog 35 #[sl A_s s c_s, vI v] w fun e w' => (True) ∧ e = .returned (.bool t9001) ∧ Mem w0 (Fz F W :: cs) w' := by
 unfold slices_Contains_int_int at hp
 refine sx_calls Try.func35 rfl (n := 9) (by kernel_rfl) (l := [(0, sl A_s s c_s), (1, vI v)]) rfl (by rfl) hM0 ?_
 refine st_seq (st_region [oF 0] (by rfl) ?_)
 refine oQ [oF 0] [(0, sl A_s s c_s), (1, vI v)] (by kernel_rfl) ?_
 refine ops_nil (fin_then (st_seq (st_region [oF 0, oF 1, oF 2, oF 3, oF 4] (by rfl) ?_)))
 refine oQ [oF 0, oF 1] [(6, vI v), (5, sl A_s s c_s)] (by kernel_rfl) ?_
 obtain ⟨x1, hv2, hp⟩ := obind hp
 refine ops_callI (σ := Unit) (d := some 7) (f := 98) (args := #[sl A_s s c_s, vI v]) (v := (fun _ => vI x1)) (I := (fun _ => True)) (M' := (fun _ => Mem w0 (Fz F W :: cs))) ⟨by kernel_rfl⟩ (fun w_ hM hS => (slices_Index_int_int_ok w0 w_ (cs) F W A_s c_s s v hM h_s x1 hv2).mono (by rintro e w' ⟨-, rfl, h'⟩; have h' : Mem w0 (Fz F W :: cs) w' := h'; exact ⟨(), trivial, rfl, h', trivial⟩)) ?_
 rintro _ -
 refine oQ [oF 3, oF 4] [(4, .bool (decide (0 ≤ x1)))] (by kernel_rfl) ?_
 refine ops_nil (fin_then (st_ret ?_))
 have hq_ := Option.some.inj hp
 have hr0_ := hq_
 subst hr0_
 refine fin_ret [.tmp 4] [.bool (decide (0 ≤ x1))] rfl rfl (fun w_ hM => (.tmp rfl .nil)) (fun w_ hM => ?_)
 exact ⟨trivial, rfl, hM⟩
theorem plan_Conflict_1_1_ok (w0 w : World) (cs : List Chunk) (F : Nat → Prop) (W : World) (k : Int) (b_p1 : Nat) (A_p1_0 : Option Addr) (c_p1_0 : Nat) (p1_0 : List Int) (hM0 : Mem w0 (.blk b_p1 [sl A_p1_0 p1_0 c_p1_0] 26 :: Fz F W :: cs) w) (h_p1_0 : RdS (Rep.int .i64) F W A_p1_0 c_p1_0 p1_0) (t9001 : Bool) (hp : plan_Conflict_1_1 k p1_0 = some t9001) : Calls Try.prog 96 #[vI k, vP b_p1 0] w fun e w' => ((RdS (Rep.int .i64) F W A_p1_0 c_p1_0 p1_0)) ∧ e = .returned (.bool t9001) ∧ Mem w0 (.blk b_p1 [sl A_p1_0 p1_0 c_p1_0] 26 :: Fz F W :: cs) w' := by
 unfold plan_Conflict_1_1 at hp
 refine sx_calls Try.func96 rfl (n := 7) (by kernel_rfl) (l := [(0, vI k), (1, vP b_p1 0)]) rfl (by rfl) hM0 ?_
 refine st_seq (st_region [oF 0] (by rfl) ?_)
 refine oQ [oF 0] [(0, vI k), (1, vP b_p1 0)] (by kernel_rfl) ?_
 refine ops_nil (fin_then (st_seq (st_region [oF 0, oF 1, oF 2, oF 3] (by rfl) ?_)))
 refine ops_mem (d := some 4) (an := [.v (sl A_p1_0 p1_0 c_p1_0)]) (evs := [ld b_p1 0 (sl A_p1_0 p1_0 c_p1_0)]) (v := sl A_p1_0 p1_0 c_p1_0) ⟨by kernel_rfl⟩ (fun w_ hM hS => ⟨w_, ⟨hM.cell 0 rfl rfl, rfl⟩, hM, trivial⟩) ?_
 refine oQ [oF 1] [(5, vI k), (4, sl A_p1_0 p1_0 c_p1_0)] (by kernel_rfl) ?_
 obtain ⟨x1, hv2, hp⟩ := obind hp
 refine ops_callI (σ := Unit) (d := some 6) (f := 35) (args := #[sl A_p1_0 p1_0 c_p1_0, vI k]) (v := (fun _ => .bool x1)) (I := (fun _ => True)) (M' := (fun _ => Mem w0 (.blk b_p1 [sl A_p1_0 p1_0 c_p1_0] 26 :: Fz F W :: cs))) ⟨by kernel_rfl⟩ (fun w_ hM hS => (slices_Contains_int_int_ok w0 w_ (.blk b_p1 [sl A_p1_0 p1_0 c_p1_0] 26 :: cs) F W A_p1_0 c_p1_0 p1_0 k (hM.pick 2 [1, 0] (by kernel_rfl) (by decide) rfl) h_p1_0 x1 hv2).mono (by rintro e w' ⟨-, rfl, h'⟩; have h' : Mem w0 (.blk b_p1 [sl A_p1_0 p1_0 c_p1_0] 26 :: Fz F W :: cs) w' := (h'.pick 2 [1, 0] (by kernel_rfl) (by decide) rfl); exact ⟨(), trivial, rfl, h', trivial⟩)) ?_
 rintro _ -
 refine oQ [oF 3] [(3, .bool x1)] (by kernel_rfl) ?_
 refine ops_nil (fin_then (st_ret ?_))
 have hq_ := Option.some.inj hp
 have hr0_ := hq_
 subst hr0_
 refine fin_ret [.tmp 3] [.bool x1] rfl rfl (fun w_ hM => (.tmp rfl .nil)) (fun w_ hM => ?_)
 exact ⟨h_p1_0, rfl, hM⟩
theorem slices_IndexFunc_int_int_ok (w0 w : World) (cs : List Chunk) (F : Nat → Prop) (W : World) (A_s : Option Addr) (c_s : Nat) (s : List Int) (b_f_c0 : Nat) (A_f_c0_0 : Option Addr) (c_f_c0_0 : Nat) (f_c0_0 : List Int) (hM0 : Mem w0 (.blk b_f_c0 [sl A_f_c0_0 f_c0_0 c_f_c0_0] 26 :: Fz F W :: cs) w) (h_s : RdS (Rep.int .i64) F W A_s c_s s) (h_f_c0_0 : RdS (Rep.int .i64) F W A_f_c0_0 c_f_c0_0 f_c0_0) (i9001 : Int) (hp : slices_IndexFunc_int_int s f_c0_0 = some i9001) : Calls Try.prog 130 #[sl A_s s c_s, .func (.func 96) #[] #[vP b_f_c0 0]] w fun e w' => ((RdS (Rep.int .i64) F W A_f_c0_0 c_f_c0_0 f_c0_0)) ∧ e = .returned (vI i9001) ∧ Mem w0 (.blk b_f_c0 [sl A_f_c0_0 f_c0_0 c_f_c0_0] 26 :: Fz F W :: cs) w' := by
 unfold slices_IndexFunc_int_int at hp
 refine sx_calls Try.func130 rfl (n := 19) (by kernel_rfl) (l := [(0, sl A_s s c_s), (1, .func (.func 96) #[] #[vP b_f_c0 0])]) rfl (by rfl) hM0 ?_
 refine st_seq (st_region [oF 0] (by rfl) ?_)
 refine oQ [oF 0] [(0, sl A_s s c_s), (1, .func (.func 96) #[] #[vP b_f_c0 0])] (by kernel_rfl) ?_
 refine ops_nil (fin_then ?_)
 refine st_join1 (σ := Unit) (L := fun _ => []) (N := fun _ => Mem w0 (.blk b_f_c0 [sl A_f_c0_0 f_c0_0 c_f_c0_0] 26 :: Fz F W :: cs)) (I := fun _ => (slices_IndexFunc_int_int_j1 = some i9001) ∧ (RdS (Rep.int .i64) F W A_f_c0_0 c_f_c0_0 f_c0_0)) ?_ ?_
 ·
  rintro _ ⟨hp, h1⟩
  unfold slices_IndexFunc_int_int_j1 at hp
  refine st_seq (st_region [oF 0] (by rfl) ?_)
  refine oQ [oF 0] [(4, vI (-1))] (by kernel_rfl) ?_
  refine ops_nil (fin_then (st_ret ?_))
  have hq_ := Option.some.inj hp
  have hr0_ := hq_
  subst hr0_
  refine fin_ret [.tmp 4] [vI (-1)] rfl rfl (fun w_ hM => (.tmp rfl .nil)) (fun w_ hM => ?_)
  exact ⟨h1, rfl, hM⟩
 ·
  intro HJ1
  refine st_seq (st_seq (st_region [oF 0, oF 1, oF 2] (by rfl) ?_))
  refine oQ [oF 0, oF 1, oF 2] [(8, vI 0), (7, vI (s.length : Int)), (0, sl A_s s c_s), (1, .func (.func 96) #[] #[vP b_f_c0 0])] (by kernel_rfl) ?_
  refine ops_nil (fin_then (st_block ?_))
  obtain ⟨r2, hl2, hk2⟩ := obind hp
  refine st_loopP (σ := Int) (ρ := (Int ⊕ Unit)) (γ := Unit) hl2 () (fun s_ g_ => match s_, g_ with | i3, _ => [(0, sl A_s s c_s), (1, .func (.func 96) #[] #[vP b_f_c0 0]), (7, vI (s.length : Int)), (8, vI i3)]) (fun s_ g_ => match s_, g_ with | i3, _ => Mem w0 (.blk b_f_c0 [sl A_f_c0_0 f_c0_0 c_f_c0_0] 26 :: Fz F W :: cs)) (fun s_ g_ => match s_, g_ with | i3, _ => (RdS (Rep.int .i64) F W A_f_c0_0 c_f_c0_0 f_c0_0)) h_f_c0_0 (look_has ⟨rfl, rfl, rfl, rfl, trivial⟩) (fun w_ hM => hM) ?_
  rintro i3 _ o2 h2 hs_ hd2
  have hp : (slices_IndexFunc_int_int_l2 s f_c0_0) i3 = some o2 := hs_
  clear hs_
  unfold slices_IndexFunc_int_int_l2 at hp
  refine st_seq (st_region [oF 0] (by rfl) ?_)
  refine oQ [oF 0] [(9, .bool (decide (i3 < (s.length : Int)))), (0, sl A_s s c_s), (1, .func (.func 96) #[] #[vP b_f_c0 0]), (7, vI (s.length : Int)), (8, vI i3)] (by kernel_rfl) ?_
  refine ops_nil (fin_then (st_seq ?_))
  refine st_if (b := decide (i3 < (s.length : Int))) rfl (fun hc4 => ?_) (fun hc4 => ?_)
  ·
   have hp := cnd_t hc4 hp
   refine st_skip (fin_then (st_seq (st_block (st_seq (st_region [oF 0, oF 1] (by rfl) ?_)))))
   refine oQ [oF 0, oF 1] [(5, vI i3), (0, sl A_s s c_s), (1, .func (.func 96) #[] #[vP b_f_c0 0]), (7, vI (s.length : Int)), (8, vI i3)] (by kernel_rfl) ?_
   refine ops_nil (fin_then (st_seq (st_region [oF 0, oF 1, oF 2, oF 3, oF 4, oF 5] (by rfl) ?_)))
   refine oQ [oF 0, oF 1, oF 2] [(13, vI i3), (12, sl A_s s c_s), (11, .func (.func 96) #[] #[vP b_f_c0 0]), (5, vI i3), (0, sl A_s s c_s), (1, .func (.func 96) #[] #[vP b_f_c0 0]), (7, vI (s.length : Int)), (8, vI i3)] (by kernel_rfl) ?_
   obtain ⟨x5, hv6, hp⟩ := obind hp
   obtain ⟨m7, hm8, hx9⟩ := idx_some hv6
   have hl12 := (List.getElem?_eq_some_iff.1 hx9).1
   obtain ⟨ad13, vs10, hA14, hr11, hq15⟩ := RdS.el h_s hx9
   obtain rfl := hr11
   refine ops_val (op := (.indexAddr 26 (.tmp 12) (.tmp 13))) (d := some 14) (v := .pointer (some (ad13.add (m7 * 1)))) ⟨by kernel_rfl⟩ (run_indexA hA14 Try.underlying26 (z := 1) (by kernel_rfl) rfl rfl hm8 hl12) ?_
   refine ops_mem (d := some 15) (an := [.v (vI x5)]) (evs := [.load (ad13.add (m7 * 1)) (vI x5)]) (v := vI x5) ⟨by kernel_rfl⟩ (fun w_ hM hS => ⟨w_, ⟨hM.elcell 1 rfl hq15 0 rfl, rfl⟩, hM, trivial⟩) ?_
   obtain ⟨x16, hv17, hp⟩ := obind hp
   refine ops_callI (σ := Unit) (d := some 16) (f := 96) (args := #[vI x5, vP b_f_c0 0]) (v := (fun _ => .bool x16)) (I := (fun _ => (RdS (Rep.int .i64) F W A_f_c0_0 c_f_c0_0 f_c0_0))) (M' := (fun _ => Mem w0 (.blk b_f_c0 [sl A_f_c0_0 f_c0_0 c_f_c0_0] 26 :: Fz F W :: cs))) ⟨by kernel_rfl⟩ (fun w_ hM hS => (plan_Conflict_1_1_ok w0 w_ (cs) F W x5 b_f_c0 A_f_c0_0 c_f_c0_0 f_c0_0 hM h2 x16 hv17).mono (by rintro e w' ⟨h18, rfl, h'⟩; have h' : Mem w0 (.blk b_f_c0 [sl A_f_c0_0 f_c0_0 c_f_c0_0] 26 :: Fz F W :: cs) w' := h'; exact ⟨(), h18, rfl, h', trivial⟩)) ?_
   rintro _ h18
   refine ops_nil (fin_then ?_)
   refine st_if (b := x16) rfl (fun hc19 => ?_) (fun hc19 => ?_)
   ·
    have hp := cnd_t hc19 hp
    refine st_seq (st_region [oF 0, oF 1] (by rfl) ?_)
    refine oQ [oF 0, oF 1] [(4, vI i3)] (by kernel_rfl) ?_
    refine ops_nil (fin_then (st_ret (fin_ret_block (fin_ret_then (fin_ret_then (fin_ret_block (fin_ret_then ?_)))))))
    obtain hq_ := Option.some.inj hp
    subst hq_
    obtain hq_ := hd2 _ rfl
    subst hq_
    have hp : some i3 = some i9001 := hk2
    have hq_ := Option.some.inj hp
    have hr0_ := hq_
    subst hr0_
    refine fin_ret [.tmp 4] [vI i3] rfl rfl (fun w_ hM => (.tmp rfl .nil)) (fun w_ hM => ?_)
    exact ⟨h18, rfl, hM⟩
   ·
    have hp := cnd_f hc19 hp
    refine st_skip (fin_block (fin_then (st_region [oF 0, oF 1] (by rfl) ?_)))
    refine oQ [oF 0, oF 1] [(8, vI (IntKind.i64.wrap (i3 + 1))), (0, sl A_s s c_s), (1, .func (.func 96) #[] #[vP b_f_c0 0]), (7, vI (s.length : Int))] (by kernel_rfl) ?_
    refine ops_nil ?_
    exact fin_again (IntKind.i64.wrap (i3 + 1)) () (Option.some.inj hp).symm h18 (look_has ⟨rfl, rfl, rfl, rfl, trivial⟩) (fun w_ hM => hM)
  ·
   have hp := cnd_f hc4 hp
   refine st_exit (fin_exit_then (fin_exit_then (fin_exit ?_)))
   obtain hq_ := Option.some.inj hp
   subst hq_
   obtain hq_ := hd2 _ rfl
   subst hq_
   have hp : slices_IndexFunc_int_int_j1 = some i9001 := hk2
   exact fin_join HJ1 () ⟨hp, h2⟩ (look_has trivial) (fun w_ hM => hM)
theorem slices_ContainsFunc_int_int_ok (w0 w : World) (cs : List Chunk) (F : Nat → Prop) (W : World) (A_s : Option Addr) (c_s : Nat) (s : List Int) (b_f_c0 : Nat) (A_f_c0_0 : Option Addr) (c_f_c0_0 : Nat) (f_c0_0 : List Int) (hM0 : Mem w0 (.blk b_f_c0 [sl A_f_c0_0 f_c0_0 c_f_c0_0] 26 :: Fz F W :: cs) w) (h_s : RdS (Rep.int .i64) F W A_s c_s s) (h_f_c0_0 : RdS (Rep.int .i64) F W A_f_c0_0 c_f_c0_0 f_c0_0) (t9001 : Bool) (hp : slices_ContainsFunc_int_int s f_c0_0 = some t9001) : Calls Try.prog 93 #[sl A_s s c_s, .func (.func 96) #[] #[vP b_f_c0 0]] w fun e w' => ((RdS (Rep.int .i64) F W A_f_c0_0 c_f_c0_0 f_c0_0)) ∧ e = .returned (.bool t9001) ∧ Mem w0 (.blk b_f_c0 [sl A_f_c0_0 f_c0_0 c_f_c0_0] 26 :: Fz F W :: cs) w' := by
 unfold slices_ContainsFunc_int_int at hp
 refine sx_calls Try.func93 rfl (n := 9) (by kernel_rfl) (l := [(0, sl A_s s c_s), (1, .func (.func 96) #[] #[vP b_f_c0 0])]) rfl (by rfl) hM0 ?_
 refine st_seq (st_region [oF 0] (by rfl) ?_)
 refine oQ [oF 0] [(0, sl A_s s c_s), (1, .func (.func 96) #[] #[vP b_f_c0 0])] (by kernel_rfl) ?_
 refine ops_nil (fin_then (st_seq (st_region [oF 0, oF 1, oF 2, oF 3, oF 4] (by rfl) ?_)))
 refine oQ [oF 0, oF 1] [(6, .func (.func 96) #[] #[vP b_f_c0 0]), (5, sl A_s s c_s)] (by kernel_rfl) ?_
 obtain ⟨x1, hv2, hp⟩ := obind hp
 refine ops_callI (σ := Unit) (d := some 7) (f := 130) (args := #[sl A_s s c_s, .func (.func 96) #[] #[vP b_f_c0 0]]) (v := (fun _ => vI x1)) (I := (fun _ => (RdS (Rep.int .i64) F W A_f_c0_0 c_f_c0_0 f_c0_0))) (M' := (fun _ => Mem w0 (.blk b_f_c0 [sl A_f_c0_0 f_c0_0 c_f_c0_0] 26 :: Fz F W :: cs))) ⟨by kernel_rfl⟩ (fun w_ hM hS => (slices_IndexFunc_int_int_ok w0 w_ (cs) F W A_s c_s s b_f_c0 A_f_c0_0 c_f_c0_0 f_c0_0 hM h_s h_f_c0_0 x1 hv2).mono (by rintro e w' ⟨h3, rfl, h'⟩; have h' : Mem w0 (.blk b_f_c0 [sl A_f_c0_0 f_c0_0 c_f_c0_0] 26 :: Fz F W :: cs) w' := h'; exact ⟨(), h3, rfl, h', trivial⟩)) ?_
 rintro _ h3
 refine oQ [oF 3, oF 4] [(4, .bool (decide (0 ≤ x1)))] (by kernel_rfl) ?_
 refine ops_nil (fin_then (st_ret ?_))
 have hq_ := Option.some.inj hp
 have hr0_ := hq_
 subst hr0_
 refine fin_ret [.tmp 4] [.bool (decide (0 ≤ x1))] rfl rfl (fun w_ hM => (.tmp rfl .nil)) (fun w_ hM => ?_)
 exact ⟨h3, rfl, hM⟩
theorem plan_Conflict_1_ok (w0 w : World) (cs : List Chunk) (F : Nat → Prop) (W : World) (A_x : Option Addr) (c_x : Nat) (x : List Int) (A_y : Option Addr) (c_y : Nat) (y : List Int) (hM0 : Mem w0 (Fz F W :: cs) w) (h_x : RdS (Rep.int .i64) F W A_x c_x x) (h_y : RdS (Rep.int .i64) F W A_y c_y y) (t9001 : Bool) (hp : plan_Conflict_1 x y = some t9001) : Calls Try.prog 95 #[sl A_x x c_x, sl A_y y c_y] w fun e w' => (True) ∧ e = .returned (.bool t9001) ∧ Mem w0 (Fz F W :: cs) w' := by
 unfold plan_Conflict_1 at hp
 refine sx_calls Try.func95 rfl (n := 8) (by kernel_rfl) (l := [(0, sl A_x x c_x), (1, sl A_y y c_y)]) rfl (by rfl) hM0 ?_
 refine st_seq (st_region [oF 0, oF 1] (by rfl) ?_)
 refine ops_newB (d := some 3) [sl A_y y c_y] 26 (fun b1 => ⟨by kernel_rfl⟩) (fun w_ hM hS => trivial) (fun b1 => ?_)
 refine oQ [oF 1] [(3, vP b1 0), (0, sl A_x x c_x)] (by kernel_rfl) ?_
 refine ops_nil (fin_then (st_seq (st_region [oF 0, oF 1, oF 2, oF 3] (by rfl) ?_)))
 refine oQ [oF 0, oF 1] [(6, .func (.func 96) #[] #[vP b1 0]), (5, sl A_x x c_x)] (by kernel_rfl) ?_
 obtain ⟨x2, hv3, hp⟩ := obind hp
 refine ops_callI (σ := Unit) (d := some 7) (f := 93) (args := #[sl A_x x c_x, .func (.func 96) #[] #[vP b1 0]]) (v := (fun _ => .bool x2)) (I := (fun _ => (RdS (Rep.int .i64) F W A_y c_y y))) (M' := (fun _ => Mem w0 (.blk b1 [sl A_y y c_y] 26 :: Fz F W :: cs))) ⟨by kernel_rfl⟩ (fun w_ hM hS => (slices_ContainsFunc_int_int_ok w0 w_ (cs) F W A_x c_x x b1 A_y c_y y hM h_x h_y x2 hv3).mono (by rintro e w' ⟨h4, rfl, h'⟩; have h' : Mem w0 (.blk b1 [sl A_y y c_y] 26 :: Fz F W :: cs) w' := h'; exact ⟨(), h4, rfl, h', trivial⟩)) ?_
 rintro _ h4
 refine oQ [oF 3] [(4, .bool x2)] (by kernel_rfl) ?_
 refine ops_nil (fin_then (st_ret ?_))
 have hq_ := Option.some.inj hp
 have hr0_ := hq_
 subst hr0_
 refine fin_ret [.tmp 4] [.bool x2] rfl rfl (fun w_ hM => (.tmp rfl .nil)) (fun w_ hM => ?_)
 exact ⟨trivial, rfl, hM.pick 2 [1] (by kernel_rfl) (by decide) rfl⟩
theorem plan_Conflict_ok (w0 w : World) (cs : List Chunk) (F : Nat → Prop) (W : World) (a_0 : ByteArray) (A_a_1 : Option Addr) (c_a_1 : Nat) (a_1 : List Int) (A_a_2 : Option Addr) (c_a_2 : Nat) (a_2 : List Int) (A_a_3 : Option Addr) (c_a_3 : Nat) (a_3 : List Int) (A_a_4 : Option Addr) (c_a_4 : Nat) (a_4 : List Int) (A_a_5 : Option Addr) (c_a_5 : Nat) (a_5 : List api_Op) (A_a_6 : Option Addr) (c_a_6 : Nat) (a_6 : List api_Comp) (b_0 : ByteArray) (A_b_1 : Option Addr) (c_b_1 : Nat) (b_1 : List Int) (A_b_2 : Option Addr) (c_b_2 : Nat) (b_2 : List Int) (A_b_3 : Option Addr) (c_b_3 : Nat) (b_3 : List Int) (A_b_4 : Option Addr) (c_b_4 : Nat) (b_4 : List Int) (A_b_5 : Option Addr) (c_b_5 : Nat) (b_5 : List api_Op) (A_b_6 : Option Addr) (c_b_6 : Nat) (b_6 : List api_Comp) (hM0 : Mem w0 (Fz F W :: cs) w) (h_a_1 : RdS (Rep.int .i64) F W A_a_1 c_a_1 a_1) (h_a_2 : RdS (Rep.int .i64) F W A_a_2 c_a_2 a_2) (h_a_3 : RdS (Rep.int .i64) F W A_a_3 c_a_3 a_3) (h_a_4 : RdS (Rep.int .i64) F W A_a_4 c_a_4 a_4) (h_a_5 : RdS R_api_Op F W A_a_5 c_a_5 a_5) (h_a_6 : RdS R_api_Comp F W A_a_6 c_a_6 a_6) (h_b_1 : RdS (Rep.int .i64) F W A_b_1 c_b_1 b_1) (h_b_2 : RdS (Rep.int .i64) F W A_b_2 c_b_2 b_2) (h_b_3 : RdS (Rep.int .i64) F W A_b_3 c_b_3 b_3) (h_b_4 : RdS (Rep.int .i64) F W A_b_4 c_b_4 b_4) (h_b_5 : RdS R_api_Op F W A_b_5 c_b_5 b_5) (h_b_6 : RdS R_api_Comp F W A_b_6 c_b_6 b_6) (t9001 : Bool) (hp : plan_Conflict a_0 a_1 a_2 a_3 a_4 a_5 a_6 b_0 b_1 b_2 b_3 b_4 b_5 b_6 = some t9001) : Calls Try.prog 25 #[.agg #[.string a_0, sl A_a_1 a_1 c_a_1, sl A_a_2 a_2 c_a_2, sl A_a_3 a_3 c_a_3, sl A_a_4 a_4 c_a_4, sl A_a_5 a_5 c_a_5, sl A_a_6 a_6 c_a_6], .agg #[.string b_0, sl A_b_1 b_1 c_b_1, sl A_b_2 b_2 c_b_2, sl A_b_3 b_3 c_b_3, sl A_b_4 b_4 c_b_4, sl A_b_5 b_5 c_b_5, sl A_b_6 b_6 c_b_6]] w fun e w' => (True) ∧ e = .returned (.bool t9001) ∧ Mem w0 (Fz F W :: cs) w' := by
 unfold plan_Conflict at hp
 refine sx_calls Try.func25 rfl (n := 28) (by kernel_rfl) (l := [(0, .agg #[.string a_0, sl A_a_1 a_1 c_a_1, sl A_a_2 a_2 c_a_2, sl A_a_3 a_3 c_a_3, sl A_a_4 a_4 c_a_4, sl A_a_5 a_5 c_a_5, sl A_a_6 a_6 c_a_6]), (1, .agg #[.string b_0, sl A_b_1 b_1 c_b_1, sl A_b_2 b_2 c_b_2, sl A_b_3 b_3 c_b_3, sl A_b_4 b_4 c_b_4, sl A_b_5 b_5 c_b_5, sl A_b_6 b_6 c_b_6])]) rfl (by rfl) hM0 ?_
 refine st_seq (st_region [oF 0, oF 1, oF 2] (by rfl) ?_)
 refine ops_newB (d := some 2) [.string a_0, sl A_a_1 a_1 c_a_1, sl A_a_2 a_2 c_a_2, sl A_a_3 a_3 c_a_3, sl A_a_4 a_4 c_a_4, sl A_a_5 a_5 c_a_5, sl A_a_6 a_6 c_a_6] 30 (fun b1 => ⟨by kernel_rfl⟩) (fun w_ hM hS => trivial) (fun b1 => ?_)
 refine ops_newB (d := some 3) [.string b_0, sl A_b_1 b_1 c_b_1, sl A_b_2 b_2 c_b_2, sl A_b_3 b_3 c_b_3, sl A_b_4 b_4 c_b_4, sl A_b_5 b_5 c_b_5, sl A_b_6 b_6 c_b_6] 30 (fun b2 => ⟨by kernel_rfl⟩) (fun w_ hM hS => trivial) (fun b2 => ?_)
 refine oQ [oF 2] [(3, vP b2 0), (2, vP b1 0)] (by kernel_rfl) ?_
 refine ops_nil (fin_then (st_seq (st_region [oF 0] (by rfl) ?_)))
 refine oQ [oF 0] [(5, .func (.func 95) #[] #[]), (3, vP b2 0), (2, vP b1 0)] (by kernel_rfl) ?_
 refine ops_nil (fin_then ?_)
 refine st_join1 (σ := Bool) (L := fun x_ => match x_ with | t3 => [(4, .bool t3)]) (N := fun x_ => match x_ with | t3 => Mem w0 (Fz F W :: cs)) (I := fun x_ => match x_ with | t3 => (plan_Conflict_j1 t3 = some t9001)) ?_ ?_
 ·
  rintro t3 hp
  unfold plan_Conflict_j1 at hp
  refine st_ret ?_
  have hq_ := Option.some.inj hp
  have hr0_ := hq_
  subst hr0_
  refine fin_ret [.tmp 4] [.bool t3] rfl rfl (fun w_ hM => (.tmp rfl .nil)) (fun w_ hM => ?_)
  exact ⟨trivial, rfl, hM⟩
 ·
  intro HJ1
  refine st_seq (st_region [oF 0, oF 1, oF 2, oF 3, oF 4, oF 5, oF 6, oF 7, oF 8, oF 9, oF 10, oF 11, oF 12, oF 13, oF 14, oF 15, oF 16, oF 17, oF 18, oF 19, oF 20, oF 21, oF 22] (by rfl) ?_)
  refine oQ [oF 0, oF 1] [(7, vP b1 4), (6, .func (.func 95) #[] #[]), (5, .func (.func 95) #[] #[]), (3, vP b2 0), (2, vP b1 0)] (by kernel_rfl) ?_
  refine ops_mem (d := some 8) (an := [.v (sl A_a_4 a_4 c_a_4)]) (evs := [ld b1 4 (sl A_a_4 a_4 c_a_4)]) (v := sl A_a_4 a_4 c_a_4) ⟨by kernel_rfl⟩ (fun w_ hM hS => ⟨w_, ⟨hM.cell 1 rfl rfl, rfl⟩, hM, trivial⟩) ?_
  refine oQ [oF 3] [(9, vP b2 4), (8, sl A_a_4 a_4 c_a_4), (6, .func (.func 95) #[] #[]), (5, .func (.func 95) #[] #[]), (3, vP b2 0), (2, vP b1 0)] (by kernel_rfl) ?_
  refine ops_mem (d := some 10) (an := [.v (sl A_b_4 b_4 c_b_4)]) (evs := [ld b2 4 (sl A_b_4 b_4 c_b_4)]) (v := sl A_b_4 b_4 c_b_4) ⟨by kernel_rfl⟩ (fun w_ hM hS => ⟨w_, ⟨hM.cell 0 rfl rfl, rfl⟩, hM, trivial⟩) ?_
  obtain ⟨x4, hv5, hp⟩ := obind hp
  refine ops_callI (σ := Unit) (d := some 11) (f := 95) (args := #[sl A_a_4 a_4 c_a_4, sl A_b_4 b_4 c_b_4]) (v := (fun _ => .bool x4)) (I := (fun _ => True)) (M' := (fun _ => Mem w0 (.blk b2 [.string b_0, sl A_b_1 b_1 c_b_1, sl A_b_2 b_2 c_b_2, sl A_b_3 b_3 c_b_3, sl A_b_4 b_4 c_b_4, sl A_b_5 b_5 c_b_5, sl A_b_6 b_6 c_b_6] 30 :: .blk b1 [.string a_0, sl A_a_1 a_1 c_a_1, sl A_a_2 a_2 c_a_2, sl A_a_3 a_3 c_a_3, sl A_a_4 a_4 c_a_4, sl A_a_5 a_5 c_a_5, sl A_a_6 a_6 c_a_6] 30 :: Fz F W :: cs))) ⟨by kernel_rfl⟩ (fun w_ hM hS => (plan_Conflict_1_ok w0 w_ (.blk b2 [.string b_0, sl A_b_1 b_1 c_b_1, sl A_b_2 b_2 c_b_2, sl A_b_3 b_3 c_b_3, sl A_b_4 b_4 c_b_4, sl A_b_5 b_5 c_b_5, sl A_b_6 b_6 c_b_6] 30 :: .blk b1 [.string a_0, sl A_a_1 a_1 c_a_1, sl A_a_2 a_2 c_a_2, sl A_a_3 a_3 c_a_3, sl A_a_4 a_4 c_a_4, sl A_a_5 a_5 c_a_5, sl A_a_6 a_6 c_a_6] 30 :: cs) F W A_a_4 c_a_4 a_4 A_b_4 c_b_4 b_4 (hM.pick 3 [2, 0, 1] (by kernel_rfl) (by decide) rfl) h_a_4 h_b_4 x4 hv5).mono (by rintro e w' ⟨-, rfl, h'⟩; have h' : Mem w0 (.blk b2 [.string b_0, sl A_b_1 b_1 c_b_1, sl A_b_2 b_2 c_b_2, sl A_b_3 b_3 c_b_3, sl A_b_4 b_4 c_b_4, sl A_b_5 b_5 c_b_5, sl A_b_6 b_6 c_b_6] 30 :: .blk b1 [.string a_0, sl A_a_1 a_1 c_a_1, sl A_a_2 a_2 c_a_2, sl A_a_3 a_3 c_a_3, sl A_a_4 a_4 c_a_4, sl A_a_5 a_5 c_a_5, sl A_a_6 a_6 c_a_6] 30 :: Fz F W :: cs) w' := (h'.pick 3 [1, 2, 0] (by kernel_rfl) (by decide) rfl); exact ⟨(), trivial, rfl, h', trivial⟩)) ?_
  rintro _ -
  refine oQ [oF 6] [(12, .bool x4), (5, .func (.func 95) #[] #[]), (3, vP b2 0), (2, vP b1 0)] (by kernel_rfl) ?_
  refine ops_bool (t := x4) (l1 := [(12, .bool true), (5, .func (.func 95) #[] #[]), (3, vP b2 0), (2, vP b1 0)]) (l2 := [(12, .bool false), (5, .func (.func 95) #[] #[]), (3, vP b2 0), (2, vP b1 0)]) (fun h => by rw [h]) (fun h => by rw [h]) (fun hc6 => ?_) (fun hc6 => ?_)
  ·
   have hp := cnd_t hc6 hp
   refine oQ [oF 7, oF 8, oF 9, oF 10, oF 11, oF 12, oF 13, oF 14, oF 15, oF 16, oF 17, oF 18, oF 19, oF 20, oF 21, oF 22] [(4, .bool true)] (by kernel_rfl) ?_
   refine ops_nil ?_
   exact fin_join HJ1 true hp (look_has ⟨rfl, trivial⟩) (fun w_ hM => hM.pick 3 [2] (by kernel_rfl) (by decide) rfl)
  ·
   have hp := cnd_f hc6 hp
   refine oQ [oF 7, oF 8] [(14, vP b1 4), (13, .func (.func 95) #[] #[]), (12, .bool false), (5, .func (.func 95) #[] #[]), (3, vP b2 0), (2, vP b1 0)] (by kernel_rfl) ?_
   refine ops_mem (d := some 15) (an := [.v (sl A_a_4 a_4 c_a_4)]) (evs := [ld b1 4 (sl A_a_4 a_4 c_a_4)]) (v := sl A_a_4 a_4 c_a_4) ⟨by kernel_rfl⟩ (fun w_ hM hS => ⟨w_, ⟨hM.cell 1 rfl rfl, rfl⟩, hM, trivial⟩) ?_
   refine oQ [oF 10] [(16, vP b2 3), (15, sl A_a_4 a_4 c_a_4), (13, .func (.func 95) #[] #[]), (12, .bool false), (5, .func (.func 95) #[] #[]), (3, vP b2 0), (2, vP b1 0)] (by kernel_rfl) ?_
   refine ops_mem (d := some 17) (an := [.v (sl A_b_3 b_3 c_b_3)]) (evs := [ld b2 3 (sl A_b_3 b_3 c_b_3)]) (v := sl A_b_3 b_3 c_b_3) ⟨by kernel_rfl⟩ (fun w_ hM hS => ⟨w_, ⟨hM.cell 0 rfl rfl, rfl⟩, hM, trivial⟩) ?_
   obtain ⟨x7, hv8, hp⟩ := obind hp
   refine ops_callI (σ := Unit) (d := some 18) (f := 95) (args := #[sl A_a_4 a_4 c_a_4, sl A_b_3 b_3 c_b_3]) (v := (fun _ => .bool x7)) (I := (fun _ => True)) (M' := (fun _ => Mem w0 (.blk b2 [.string b_0, sl A_b_1 b_1 c_b_1, sl A_b_2 b_2 c_b_2, sl A_b_3 b_3 c_b_3, sl A_b_4 b_4 c_b_4, sl A_b_5 b_5 c_b_5, sl A_b_6 b_6 c_b_6] 30 :: .blk b1 [.string a_0, sl A_a_1 a_1 c_a_1, sl A_a_2 a_2 c_a_2, sl A_a_3 a_3 c_a_3, sl A_a_4 a_4 c_a_4, sl A_a_5 a_5 c_a_5, sl A_a_6 a_6 c_a_6] 30 :: Fz F W :: cs))) ⟨by kernel_rfl⟩ (fun w_ hM hS => (plan_Conflict_1_ok w0 w_ (.blk b2 [.string b_0, sl A_b_1 b_1 c_b_1, sl A_b_2 b_2 c_b_2, sl A_b_3 b_3 c_b_3, sl A_b_4 b_4 c_b_4, sl A_b_5 b_5 c_b_5, sl A_b_6 b_6 c_b_6] 30 :: .blk b1 [.string a_0, sl A_a_1 a_1 c_a_1, sl A_a_2 a_2 c_a_2, sl A_a_3 a_3 c_a_3, sl A_a_4 a_4 c_a_4, sl A_a_5 a_5 c_a_5, sl A_a_6 a_6 c_a_6] 30 :: cs) F W A_a_4 c_a_4 a_4 A_b_3 c_b_3 b_3 (hM.pick 3 [2, 0, 1] (by kernel_rfl) (by decide) rfl) h_a_4 h_b_3 x7 hv8).mono (by rintro e w' ⟨-, rfl, h'⟩; have h' : Mem w0 (.blk b2 [.string b_0, sl A_b_1 b_1 c_b_1, sl A_b_2 b_2 c_b_2, sl A_b_3 b_3 c_b_3, sl A_b_4 b_4 c_b_4, sl A_b_5 b_5 c_b_5, sl A_b_6 b_6 c_b_6] 30 :: .blk b1 [.string a_0, sl A_a_1 a_1 c_a_1, sl A_a_2 a_2 c_a_2, sl A_a_3 a_3 c_a_3, sl A_a_4 a_4 c_a_4, sl A_a_5 a_5 c_a_5, sl A_a_6 a_6 c_a_6] 30 :: Fz F W :: cs) w' := (h'.pick 3 [1, 2, 0] (by kernel_rfl) (by decide) rfl); exact ⟨(), trivial, rfl, h', trivial⟩)) ?_
   rintro _ -
   refine oQ [oF 13, oF 14] [(20, .bool x7), (5, .func (.func 95) #[] #[]), (3, vP b2 0), (2, vP b1 0)] (by kernel_rfl) ?_
   refine ops_bool (t := x7) (l1 := [(20, .bool true), (5, .func (.func 95) #[] #[]), (3, vP b2 0), (2, vP b1 0)]) (l2 := [(20, .bool false), (5, .func (.func 95) #[] #[]), (3, vP b2 0), (2, vP b1 0)]) (fun h => by rw [h]) (fun h => by rw [h]) (fun hc9 => ?_) (fun hc9 => ?_)
   ·
    have hp := cnd_t hc9 hp
    refine oQ [oF 15, oF 16, oF 17, oF 18, oF 19, oF 20, oF 21, oF 22] [(4, .bool true)] (by kernel_rfl) ?_
    refine ops_nil ?_
    exact fin_join HJ1 true hp (look_has ⟨rfl, trivial⟩) (fun w_ hM => hM.pick 3 [2] (by kernel_rfl) (by decide) rfl)
   ·
    have hp := cnd_f hc9 hp
    refine oQ [oF 15, oF 16] [(22, vP b1 3), (21, .func (.func 95) #[] #[]), (20, .bool false), (3, vP b2 0)] (by kernel_rfl) ?_
    refine ops_mem (d := some 23) (an := [.v (sl A_a_3 a_3 c_a_3)]) (evs := [ld b1 3 (sl A_a_3 a_3 c_a_3)]) (v := sl A_a_3 a_3 c_a_3) ⟨by kernel_rfl⟩ (fun w_ hM hS => ⟨w_, ⟨hM.cell 1 rfl rfl, rfl⟩, hM, trivial⟩) ?_
    refine oQ [oF 18] [(24, vP b2 4), (23, sl A_a_3 a_3 c_a_3), (21, .func (.func 95) #[] #[]), (20, .bool false)] (by kernel_rfl) ?_
    refine ops_mem (d := some 25) (an := [.v (sl A_b_4 b_4 c_b_4)]) (evs := [ld b2 4 (sl A_b_4 b_4 c_b_4)]) (v := sl A_b_4 b_4 c_b_4) ⟨by kernel_rfl⟩ (fun w_ hM hS => ⟨w_, ⟨hM.cell 0 rfl rfl, rfl⟩, hM, trivial⟩) ?_
    obtain ⟨x10, hv11, hp⟩ := obind hp
    refine ops_callI (σ := Unit) (d := some 26) (f := 95) (args := #[sl A_a_3 a_3 c_a_3, sl A_b_4 b_4 c_b_4]) (v := (fun _ => .bool x10)) (I := (fun _ => True)) (M' := (fun _ => Mem w0 (.blk b2 [.string b_0, sl A_b_1 b_1 c_b_1, sl A_b_2 b_2 c_b_2, sl A_b_3 b_3 c_b_3, sl A_b_4 b_4 c_b_4, sl A_b_5 b_5 c_b_5, sl A_b_6 b_6 c_b_6] 30 :: .blk b1 [.string a_0, sl A_a_1 a_1 c_a_1, sl A_a_2 a_2 c_a_2, sl A_a_3 a_3 c_a_3, sl A_a_4 a_4 c_a_4, sl A_a_5 a_5 c_a_5, sl A_a_6 a_6 c_a_6] 30 :: Fz F W :: cs))) ⟨by kernel_rfl⟩ (fun w_ hM hS => (plan_Conflict_1_ok w0 w_ (.blk b2 [.string b_0, sl A_b_1 b_1 c_b_1, sl A_b_2 b_2 c_b_2, sl A_b_3 b_3 c_b_3, sl A_b_4 b_4 c_b_4, sl A_b_5 b_5 c_b_5, sl A_b_6 b_6 c_b_6] 30 :: .blk b1 [.string a_0, sl A_a_1 a_1 c_a_1, sl A_a_2 a_2 c_a_2, sl A_a_3 a_3 c_a_3, sl A_a_4 a_4 c_a_4, sl A_a_5 a_5 c_a_5, sl A_a_6 a_6 c_a_6] 30 :: cs) F W A_a_3 c_a_3 a_3 A_b_4 c_b_4 b_4 (hM.pick 3 [2, 0, 1] (by kernel_rfl) (by decide) rfl) h_a_3 h_b_4 x10 hv11).mono (by rintro e w' ⟨-, rfl, h'⟩; have h' : Mem w0 (.blk b2 [.string b_0, sl A_b_1 b_1 c_b_1, sl A_b_2 b_2 c_b_2, sl A_b_3 b_3 c_b_3, sl A_b_4 b_4 c_b_4, sl A_b_5 b_5 c_b_5, sl A_b_6 b_6 c_b_6] 30 :: .blk b1 [.string a_0, sl A_a_1 a_1 c_a_1, sl A_a_2 a_2 c_a_2, sl A_a_3 a_3 c_a_3, sl A_a_4 a_4 c_a_4, sl A_a_5 a_5 c_a_5, sl A_a_6 a_6 c_a_6] 30 :: Fz F W :: cs) w' := (h'.pick 3 [1, 2, 0] (by kernel_rfl) (by decide) rfl); exact ⟨(), trivial, rfl, h', trivial⟩)) ?_
    rintro _ -
    refine oQ [oF 21, oF 22] [(4, .bool x10)] (by kernel_rfl) ?_
    refine ops_nil ?_
    exact fin_join HJ1 x10 hp (look_has ⟨rfl, trivial⟩) (fun w_ hM => hM.pick 3 [2] (by kernel_rfl) (by decide) rfl)
theorem plan_depths_ok (w0 w : World) (cs : List Chunk) (F : Nat → Prop) (W : World) (A_l : Option Addr) (c_l : Nat) (l : List api_System) (hM0 : Mem w0 (Fz F W :: cs) w) (h_l : RdS R_api_System F W A_l c_l l) (l9003 : List Int) (hp : plan_depths l = some l9003) : Calls Try.prog 84 #[sl A_l l c_l] w fun e w' => ∃ (A9001 : Option Addr), ∃ (c9002 : Nat), ∃ (y9004 : List Value), ((RepL (Rep.int .i64) F W l9003 y9004)) ∧ e = .returned (sl A9001 l9003 c9002) ∧ Mem w0 (ow A9001 l9003 c9002 3 1 y9004 :: Fz F W :: cs) w' := by
 unfold plan_depths at hp
 refine sx_calls Try.func84 rfl (n := 46) (by kernel_rfl) (l := [(0, sl A_l l c_l)]) rfl (by rfl) hM0 ?_
 refine st_seq (st_region [oF 0] (by rfl) ?_)
 refine oQ [oF 0] [(0, sl A_l l c_l)] (by kernel_rfl) ?_
 refine ops_nil (fin_then (st_seq (st_region [oF 0, oF 1, oF 2, oF 3] (by rfl) ?_)))
 refine oQ [oF 0, oF 1] [(7, vI (l.length : Int)), (0, sl A_l l c_l)] (by kernel_rfl) ?_
 obtain ⟨l1, hv2, hp⟩ := obind hp
 obtain ⟨m3, hm4, he5, hb6⟩ := mk_some hv2
 have hl7 : l1.length = m3 := by rw [he5, List.length_replicate]
 obtain ⟨y8, hy9⟩ : ∃ y_, (Sx.madeOf [vI 0] (l1.length * 1)).toList = y_ := ⟨_, rfl⟩
 have h10 : RepL (Rep.int .i64) F W l1 y8 := by rw [← hy9, hl7, he5]; exact RepL.made rfl (by decide) _
 refine ops_makeO (t := 26) (x := (Go.Operand.tmp 7)) (y := (Go.Operand.tmp 7)) (d := some 8) (nn := l1.length) (z := 1) (bytes := 8) (xs := y8) (zv := vI 0) ⟨by kernel_rfl⟩ rfl rfl (by rw [hl7]; exact hm4) (by rw [hl7]; exact hm4) Try.underlying26 (by kernel_rfl) (by rw [hl7]; exact hb6) (by rfl) hy9 (fun _ _ _ hS h' => trivial) (fun g11 => ?_)
 refine oQ [oF 3] [(3, sl (sa g11) l1 l1.length), (0, sl A_l l c_l)] (by kernel_rfl) ?_
 refine ops_nil (fin_then ?_)
 refine st_join1 (σ := (List Int) × (List Value)) (L := fun x_ => match x_ with | (l12, y13) => [(3, sl (sa g11) l12 l1.length)]) (N := fun x_ => match x_ with | (l12, y13) => Mem w0 (ow (sa g11) l12 l1.length 3 1 y13 :: Fz F W :: cs)) (I := fun x_ => match x_ with | (l12, y13) => (plan_depths_j1 l12 = some l9003) ∧ (RepL (Rep.int .i64) F W l12 y13)) ?_ ?_
 ·
  rintro ⟨l12, y13⟩ ⟨hp, h14⟩
  unfold plan_depths_j1 at hp
  refine st_seq (st_region [oF 0, oF 1] (by rfl) ?_)
  refine oQ [oF 0, oF 1] [(2, sl (sa g11) l12 l1.length)] (by kernel_rfl) ?_
  refine ops_nil (fin_then (st_ret ?_))
  have hq_ := Option.some.inj hp
  have hr0_ := hq_
  subst hr0_
  refine fin_ret [.tmp 2] [sl (sa g11) l12 l1.length] rfl rfl (fun w_ hM => (.tmp rfl .nil)) (fun w_ hM => ?_)
  exact ⟨(sa g11), l1.length, y13, h14, rfl, hM⟩
 ·
  intro HJ1
  refine st_seq (st_seq (st_region [oF 0, oF 1, oF 2] (by rfl) ?_))
  refine oQ [oF 0, oF 1, oF 2] [(11, vI 0), (10, vI (l.length : Int)), (3, sl (sa g11) l1 l1.length), (0, sl A_l l c_l)] (by kernel_rfl) ?_
  refine ops_nil (fin_then (st_block ?_))
  obtain ⟨r2, hl2, hk2⟩ := obind hp
  refine st_loopP (σ := (List Int) × Int) (ρ := (List Int)) (γ := (List Value)) hl2 y8 (fun s_ g_ => match s_, g_ with | (l15, i18), y16 => [(0, sl A_l l c_l), (3, sl (sa g11) l15 l1.length), (10, vI (l.length : Int)), (11, vI i18)]) (fun s_ g_ => match s_, g_ with | (l15, i18), y16 => Mem w0 (ow (sa g11) l15 l1.length 3 1 y16 :: Fz F W :: cs)) (fun s_ g_ => match s_, g_ with | (l15, i18), y16 => (RepL (Rep.int .i64) F W l15 y16)) h10 (look_has ⟨rfl, rfl, rfl, rfl, trivial⟩) (fun w_ hM => hM) ?_
  rintro ⟨l15, i18⟩ y16 o2 h17 hs_ hd2
  have hp : (plan_depths_l2 l) l15 i18 = some o2 := hs_
  clear hs_
  unfold plan_depths_l2 at hp
  refine st_seq (st_region [oF 0] (by rfl) ?_)
  refine oQ [oF 0] [(12, .bool (decide (i18 < (l.length : Int)))), (0, sl A_l l c_l), (3, sl (sa g11) l15 l1.length), (10, vI (l.length : Int)), (11, vI i18)] (by kernel_rfl) ?_
  refine ops_nil (fin_then (st_seq ?_))
  refine st_if (b := decide (i18 < (l.length : Int))) rfl (fun hc19 => ?_) (fun hc19 => ?_)
  ·
   have hp := cnd_t hc19 hp
   refine st_skip (fin_then ?_)
   refine st_join1 (σ := (List Int) × (List Value)) (L := fun x_ => match x_ with | (l20, y21) => [(0, sl A_l l c_l), (3, sl (sa g11) l20 l1.length), (10, vI (l.length : Int)), (11, vI i18)]) (N := fun x_ => match x_ with | (l20, y21) => Mem w0 (ow (sa g11) l20 l1.length 3 1 y21 :: Fz F W :: cs)) (I := fun x_ => match x_ with | (l20, y21) => ((plan_depths_j3 i18) l20 = some o2) ∧ (RepL (Rep.int .i64) F W l20 y21)) ?_ ?_
   ·
    rintro ⟨l20, y21⟩ ⟨hp, h22⟩
    unfold plan_depths_j3 at hp
    refine st_region [oF 0, oF 1] (by rfl) ?_
    refine oQ [oF 0, oF 1] [(11, vI (IntKind.i64.wrap (i18 + 1))), (0, sl A_l l c_l), (3, sl (sa g11) l20 l1.length), (10, vI (l.length : Int))] (by kernel_rfl) ?_
    refine ops_nil ?_
    exact fin_again (l20, IntKind.i64.wrap (i18 + 1)) y21 (Option.some.inj hp).symm h22 (look_has ⟨rfl, rfl, rfl, rfl, trivial⟩) (fun w_ hM => hM)
   ·
    intro HJ3
    refine st_seq (st_block (st_seq (st_region [oF 0, oF 1] (by rfl) ?_)))
    refine oQ [oF 0, oF 1] [(4, vI i18), (0, sl A_l l c_l), (3, sl (sa g11) l15 l1.length), (10, vI (l.length : Int)), (11, vI i18)] (by kernel_rfl) ?_
    refine ops_nil (fin_then (st_seq (st_region [oF 0, oF 1, oF 2, oF 3] (by rfl) ?_)))
    refine oQ [oF 0, oF 1] [(15, vI i18), (14, sl (sa g11) l15 l1.length), (4, vI i18), (0, sl A_l l c_l), (3, sl (sa g11) l15 l1.length), (10, vI (l.length : Int)), (11, vI i18)] (by kernel_rfl) ?_
    obtain ⟨x23, hv24, hp⟩ := obind hp
    obtain ⟨m25, hm26, hx27⟩ := idx_some hv24
    have hl30 := (List.getElem?_eq_some_iff.1 hx27).1
    obtain ⟨vs28, hr29, hq31⟩ := h17.at_ m25 x23 hx27
    obtain rfl := hr29
    refine ops_val (op := (.indexAddr 26 (.tmp 14) (.tmp 15))) (d := some 16) (v := vP g11 (m25 * 1)) ⟨by kernel_rfl⟩ (run_indexRow Try.underlying26 (z := 1) (by kernel_rfl) rfl rfl hm26 hl30 rfl) ?_
    refine oQ [] [(16, vP g11 (m25 * 1)), (4, vI i18), (0, sl A_l l c_l), (3, sl (sa g11) l15 l1.length), (10, vI (l.length : Int)), (11, vI i18)] (by kernel_rfl) ?_
    obtain ⟨l32, hv33, hp⟩ := obind hp
    obtain ⟨m34, hm35, hl36, he37⟩ := upd_some hv33
    obtain rfl : m25 = m34 := by have := hm26; omega
    have hl38 : l15.length = l32.length := by rw [he37, List.length_set]
    obtain ⟨y39, hy40⟩ : ∃ y_, setAll y16 (m25 * 1 + 0) [vI 1] = y_ := ⟨_, rfl⟩
    have h41 : RepL (Rep.int .i64) F W l32 y39 := by rw [he37, ← hy40]; exact RepL.set h17 (List.getElem?_eq_getElem hl36) (fun vs_ hr_ _ => by obtain rfl := hr_; exact ⟨rfl, Nat.le_of_ble_eq_true rfl⟩)
    refine ops_store (an := []) (evs := [.store ⟨g11, m25 * 1, none⟩ (vI 1)]) ⟨by kernel_rfl⟩ (fun w_ hM hS => let ⟨w', he, h'⟩ := hM.ostore' 0 rfl (m25 * 1 + 0) [vI 1] (by have z_ : y16.length = l15.length * 1 := h17.len; have y_ : (m25 + 1) * 1 ≤ l15.length * 1 := Nat.mul_le_mul_right _ hl36; rw [Nat.add_mul] at y_; simp only [List.length_cons, List.length_nil]; omega) hl38 hy40; ⟨w', he, h', trivial⟩) ?_
    refine ops_conv (l' := [(16, vP g11 (m25 * 1)), (4, vI i18), (0, sl A_l l c_l), (3, sl (sa g11) l32 l1.length), (10, vI (l.length : Int)), (11, vI i18)]) (M' := Mem w0 (ow (sa g11) l32 l1.length 3 1 y39 :: Fz F W :: cs)) (by first | rfl | ((try dsimp only [sl, ow]); rw [hl38])) (fun w_ hM => by first | exact hM | ((try dsimp only [sl, ow] at hM ⊢); rw [hl38] at hM; exact hM)) ?_
    refine ops_nil (fin_then (st_seq (st_region [oF 0, oF 1] (by rfl) ?_)))
    refine oQ [oF 0, oF 1] [(18, vI 0), (17, vI i18), (4, vI i18), (0, sl A_l l c_l), (3, sl (sa g11) l32 l1.length), (10, vI (l.length : Int)), (11, vI i18)] (by kernel_rfl) ?_
    refine ops_nil (fin_then (st_block ?_))
    obtain ⟨r4, hl4, hk4⟩ := obind hp
    refine st_loopP (σ := (List Int) × Int) (ρ := (List Int)) (γ := (List Value)) hl4 y39 (fun s_ g_ => match s_, g_ with | (l43, i46), y44 => [(0, sl A_l l c_l), (3, sl (sa g11) l43 l1.length), (4, vI i18), (10, vI (l.length : Int)), (11, vI i18), (17, vI i18), (18, vI i46)]) (fun s_ g_ => match s_, g_ with | (l43, i46), y44 => Mem w0 (ow (sa g11) l43 l1.length 3 1 y44 :: Fz F W :: cs)) (fun s_ g_ => match s_, g_ with | (l43, i46), y44 => (RepL (Rep.int .i64) F W l43 y44)) h41 (look_has ⟨rfl, rfl, rfl, rfl, rfl, rfl, rfl, trivial⟩) (fun w_ hM => hM) ?_
    rintro ⟨l43, i46⟩ y44 o4 h45 hs_ hd4
    have hp : (plan_depths_l4 i18 l) l43 i46 = some o4 := hs_
    clear hs_
    unfold plan_depths_l4 at hp
    refine st_seq (st_region [oF 0] (by rfl) ?_)
    refine oQ [oF 0] [(19, .bool (decide (i46 < i18))), (0, sl A_l l c_l), (3, sl (sa g11) l43 l1.length), (4, vI i18), (10, vI (l.length : Int)), (11, vI i18), (17, vI i18), (18, vI i46)] (by kernel_rfl) ?_
    refine ops_nil (fin_then (st_seq ?_))
    refine st_if (b := decide (i46 < i18)) rfl (fun hc47 => ?_) (fun hc47 => ?_)
    ·
     have hp := cnd_t hc47 hp
     refine st_skip (fin_then ?_)
     refine st_join1 (σ := (List Int) × (List Value)) (L := fun x_ => match x_ with | (l48, y49) => [(0, sl A_l l c_l), (3, sl (sa g11) l48 l1.length), (4, vI i18), (10, vI (l.length : Int)), (11, vI i18), (17, vI i18), (18, vI i46)]) (N := fun x_ => match x_ with | (l48, y49) => Mem w0 (ow (sa g11) l48 l1.length 3 1 y49 :: Fz F W :: cs)) (I := fun x_ => match x_ with | (l48, y49) => ((plan_depths_j5 i46) l48 = some o4) ∧ (RepL (Rep.int .i64) F W l48 y49)) ?_ ?_
     ·
      rintro ⟨l48, y49⟩ ⟨hp, h50⟩
      unfold plan_depths_j5 at hp
      refine st_region [oF 0, oF 1] (by rfl) ?_
      refine oQ [oF 0, oF 1] [(18, vI (IntKind.i64.wrap (i46 + 1))), (0, sl A_l l c_l), (3, sl (sa g11) l48 l1.length), (4, vI i18), (10, vI (l.length : Int)), (11, vI i18), (17, vI i18)] (by kernel_rfl) ?_
      refine ops_nil ?_
      exact fin_again (l48, IntKind.i64.wrap (i46 + 1)) y49 (Option.some.inj hp).symm h50 (look_has ⟨rfl, rfl, rfl, rfl, rfl, rfl, rfl, trivial⟩) (fun w_ hM => hM)
     ·
      intro HJ5
      refine st_seq (st_block (st_seq (st_region [oF 0, oF 1] (by rfl) ?_)))
      refine oQ [oF 0, oF 1] [(5, vI i46), (0, sl A_l l c_l), (3, sl (sa g11) l43 l1.length), (4, vI i18), (10, vI (l.length : Int)), (11, vI i18), (17, vI i18), (18, vI i46)] (by kernel_rfl) ?_
      refine ops_nil (fin_then (st_seq ?_))
      refine st_region_draw [oT 0, oT 1, oT 2, oT 3, oT 4, oT 5, oT 6, oT 7, oF 8] (Mem w0 (ow (sa g11) l43 l1.length 3 1 y44 :: Fz F W :: cs)) (by kernel_rfl) (by kernel_rfl) (by kernel_rfl) (fun _ d _ _ _ h => by cases d <;> exact h) (M' := Mem w0 (ow (sa g11) l43 l1.length 3 1 y44 :: Fz F W :: cs)) (fun w_ hM => ⟨hM.drew, hM.drew.sub (.cons_cons _ (.cons_cons _ (.refl _)))⟩) ?_
      refine oQ [oT 0, oT 1] [(22, vI i46), (21, sl A_l l c_l), (5, vI i46), (0, sl A_l l c_l), (3, sl (sa g11) l43 l1.length), (4, vI i18), (10, vI (l.length : Int)), (11, vI i18), (17, vI i18), (18, vI i46)] (by kernel_rfl) ?_
      obtain ⟨x51, hv52, hp⟩ := obind hp
      obtain ⟨m53, hm54, hx55⟩ := idx_some hv52
      have hl58 := (List.getElem?_eq_some_iff.1 hx55).1
      obtain ⟨ad59, vs56, hA60, hr57, hq61⟩ := RdS.el h_l hx55
      obtain ⟨A62, c63, A65, c66, A68, c69, A71, c72, A74, c75, A77, c78, rfl, h64, h67, h70, h73, h76, h79⟩ := dec_api_System hr57
      refine ops_val (op := (.indexAddr 22 (.tmp 21) (.tmp 22))) (d := some 23) (v := .pointer (some (ad59.add (m53 * 7)))) ⟨by kernel_rfl⟩ (run_indexA hA60 Try.underlying22 (z := 7) (by kernel_rfl) rfl rfl hm54 hl58) ?_
      refine ops_load (d := some 24) (an := [.v (.string x51.Name), .v (sl A62 x51.With c63), .v (sl A65 x51.Without c66), .v (sl A68 x51.Reads c69), .v (sl A71 x51.Writes c72), .v (sl A74 x51.Ops c75), .v (sl A77 x51.Spawn c78)]) (evs := [.load (ad59.add (m53 * 7)) (.string x51.Name), .load ((ad59.add (m53 * 7)).add 1) (sl A62 x51.With c63), .load ((ad59.add (m53 * 7)).add 2) (sl A65 x51.Without c66), .load ((ad59.add (m53 * 7)).add 3) (sl A68 x51.Reads c69), .load ((ad59.add (m53 * 7)).add 4) (sl A71 x51.Writes c72), .load ((ad59.add (m53 * 7)).add 5) (sl A74 x51.Ops c75), .load ((ad59.add (m53 * 7)).add 6) (sl A77 x51.Spawn c78)]) (v := .agg #[.string x51.Name, sl A62 x51.With c63, sl A65 x51.Without c66, sl A68 x51.Reads c69, sl A71 x51.Writes c72, sl A74 x51.Ops c75, sl A77 x51.Spawn c78]) ⟨by kernel_rfl⟩ (fun w_ hM => ⟨hM.elcell 1 rfl hq61 0 rfl, hM.elcell 1 rfl hq61 1 rfl, hM.elcell 1 rfl hq61 2 rfl, hM.elcell 1 rfl hq61 3 rfl, hM.elcell 1 rfl hq61 4 rfl, hM.elcell 1 rfl hq61 5 rfl, hM.elcell 1 rfl hq61 6 rfl, rfl⟩) ?_
      refine oQ [oT 4, oT 5] [(26, vI i18), (25, sl A_l l c_l), (24, .agg #[.string x51.Name, sl A62 x51.With c63, sl A65 x51.Without c66, sl A68 x51.Reads c69, sl A71 x51.Writes c72, sl A74 x51.Ops c75, sl A77 x51.Spawn c78]), (5, vI i46), (0, sl A_l l c_l), (3, sl (sa g11) l43 l1.length), (4, vI i18), (10, vI (l.length : Int)), (11, vI i18), (17, vI i18), (18, vI i46)] (by kernel_rfl) ?_
      obtain ⟨x80, hv81, hp⟩ := obind hp
      obtain ⟨m82, hm83, hx84⟩ := idx_some hv81
      have hl87 := (List.getElem?_eq_some_iff.1 hx84).1
      obtain ⟨ad88, vs85, hA89, hr86, hq90⟩ := RdS.el h_l hx84
      obtain ⟨A91, c92, A94, c95, A97, c98, A100, c101, A103, c104, A106, c107, rfl, h93, h96, h99, h102, h105, h108⟩ := dec_api_System hr86
      refine ops_val (op := (.indexAddr 22 (.tmp 25) (.tmp 26))) (d := some 27) (v := .pointer (some (ad88.add (m82 * 7)))) ⟨by kernel_rfl⟩ (run_indexA hA89 Try.underlying22 (z := 7) (by kernel_rfl) rfl rfl hm83 hl87) ?_
      refine ops_load (d := some 28) (an := [.v (.string x80.Name), .v (sl A91 x80.With c92), .v (sl A94 x80.Without c95), .v (sl A97 x80.Reads c98), .v (sl A100 x80.Writes c101), .v (sl A103 x80.Ops c104), .v (sl A106 x80.Spawn c107)]) (evs := [.load (ad88.add (m82 * 7)) (.string x80.Name), .load ((ad88.add (m82 * 7)).add 1) (sl A91 x80.With c92), .load ((ad88.add (m82 * 7)).add 2) (sl A94 x80.Without c95), .load ((ad88.add (m82 * 7)).add 3) (sl A97 x80.Reads c98), .load ((ad88.add (m82 * 7)).add 4) (sl A100 x80.Writes c101), .load ((ad88.add (m82 * 7)).add 5) (sl A103 x80.Ops c104), .load ((ad88.add (m82 * 7)).add 6) (sl A106 x80.Spawn c107)]) (v := .agg #[.string x80.Name, sl A91 x80.With c92, sl A94 x80.Without c95, sl A97 x80.Reads c98, sl A100 x80.Writes c101, sl A103 x80.Ops c104, sl A106 x80.Spawn c107]) ⟨by kernel_rfl⟩ (fun w_ hM => ⟨hM.elcell 1 rfl hq90 0 rfl, hM.elcell 1 rfl hq90 1 rfl, hM.elcell 1 rfl hq90 2 rfl, hM.elcell 1 rfl hq90 3 rfl, hM.elcell 1 rfl hq90 4 rfl, hM.elcell 1 rfl hq90 5 rfl, hM.elcell 1 rfl hq90 6 rfl, rfl⟩) ?_
      obtain ⟨x109, hv110, hp⟩ := obind hp
      refine ops_callI (σ := Unit) (d := some 29) (f := 25) (args := #[.agg #[.string x51.Name, sl A62 x51.With c63, sl A65 x51.Without c66, sl A68 x51.Reads c69, sl A71 x51.Writes c72, sl A74 x51.Ops c75, sl A77 x51.Spawn c78], .agg #[.string x80.Name, sl A91 x80.With c92, sl A94 x80.Without c95, sl A97 x80.Reads c98, sl A100 x80.Writes c101, sl A103 x80.Ops c104, sl A106 x80.Spawn c107]]) (v := (fun _ => .bool x109)) (I := (fun _ => True)) (M' := (fun _ => Mem w0 (ow (sa g11) l43 l1.length 3 1 y44 :: Fz F W :: cs))) ⟨by kernel_rfl⟩ (fun w_ hM hS => (plan_Conflict_ok w0 w_ (ow (sa g11) l43 l1.length 3 1 y44 :: cs) F W x51.Name A62 c63 x51.With A65 c66 x51.Without A68 c69 x51.Reads A71 c72 x51.Writes A74 c75 x51.Ops A77 c78 x51.Spawn x80.Name A91 c92 x80.With A94 c95 x80.Without A97 c98 x80.Reads A100 c101 x80.Writes A103 c104 x80.Ops A106 c107 x80.Spawn (hM.pick 2 [1, 0] (by kernel_rfl) (by decide) rfl) h64 h67 h70 h73 h76 h79 h93 h96 h99 h102 h105 h108 x109 hv110).mono (by rintro e w' ⟨-, rfl, h'⟩; have h' : Mem w0 (ow (sa g11) l43 l1.length 3 1 y44 :: Fz F W :: cs) w' := (h'.pick 2 [1, 0] (by kernel_rfl) (by decide) rfl); exact ⟨(), trivial, rfl, h', (by exact h'.sub (.cons_cons _ (.cons_cons _ (.refl _))))⟩)) ?_
      rintro _ -
      refine ops_nil (fin_then ?_)
      refine st_if (b := x109) rfl (fun hc111 => ?_) (fun hc111 => ?_)
      ·
       have hp := cnd_t hc111 hp
       obtain ⟨x112, hv113, hp⟩ := obind hp
       obtain ⟨x121, hv122, hp⟩ := obind hp
       obtain ⟨x130, hv131, hp⟩ := obind hp
       obtain ⟨l139, hv140, hp⟩ := obind hp
       refine st_region_tree (.node [oT 0, oT 1, oT 2, oT 3, oT 4, oT 6, oT 7, oT 8] (.leaf [oF 5, oF 9, oT 10, oT 11, oT 12, oF 13]) (.leaf [oF 9, oT 10, oF 5, oT 11, oT 12, oF 13])) (Mem w0 (Fz F W :: cs)) (by kernel_rfl) (by kernel_rfl) (by kernel_rfl) (fun _ d _ _ _ h => by cases d <;> exact h) (M' := Mem w0 (ow (sa g11) l43 l1.length 3 1 y44 :: Fz F W :: cs)) (fun w_ hM => ⟨hM.drew, hM.drew.sub (.cons _ (.cons_cons _ (.refl _)))⟩) ?_
       refine tree_node ?_
       refine oQ [oT 0, oT 1, oT 2, oT 3] [(33, vI i18), (32, sl (sa g11) l43 l1.length), (31, vI i18), (30, sl (sa g11) l43 l1.length), (5, vI i46), (0, sl A_l l c_l), (3, sl (sa g11) l43 l1.length), (4, vI i18), (10, vI (l.length : Int)), (11, vI i18), (17, vI i18), (18, vI i46)] (by kernel_rfl) ?_
       obtain ⟨m141, hm142, hx143⟩ := idx_some hv113
       have hl146 := (List.getElem?_eq_some_iff.1 hx143).1
       obtain ⟨vs144, hr145, hq147⟩ := h45.at_ m141 x112 hx143
       obtain rfl := hr145
       refine ops_val (op := (.indexAddr 26 (.tmp 32) (.tmp 33))) (d := some 34) (v := vP g11 (m141 * 1)) ⟨by kernel_rfl⟩ (run_indexRow Try.underlying26 (z := 1) (by kernel_rfl) rfl rfl hm142 hl146 rfl) ?_
       refine oQ [oT 6, oT 7] [(37, vI i46), (36, sl (sa g11) l43 l1.length), (34, vP g11 (m141 * 1)), (31, vI i18), (30, sl (sa g11) l43 l1.length), (0, sl A_l l c_l), (3, sl (sa g11) l43 l1.length), (4, vI i18), (10, vI (l.length : Int)), (11, vI i18), (17, vI i18), (18, vI i46)] (by kernel_rfl) ?_
       obtain ⟨m148, hm149, hx150⟩ := idx_some hv122
       have hl153 := (List.getElem?_eq_some_iff.1 hx150).1
       obtain ⟨vs151, hr152, hq154⟩ := h45.at_ m148 x121 hx150
       obtain rfl := hr152
       refine ops_val (op := (.indexAddr 26 (.tmp 36) (.tmp 37))) (d := some 38) (v := vP g11 (m148 * 1)) ⟨by kernel_rfl⟩ (run_indexRow Try.underlying26 (z := 1) (by kernel_rfl) rfl rfl hm149 hl153 rfl) ?_
       refine ops_nil ?_
       refine tree_both ?_ ?_
       ·
        refine tree_leaf ?_
        refine ops_mem (d := some 35) (an := [.v (vI x112)]) (evs := [.load ⟨g11, m141 * 1, none⟩ (vI x112)]) (v := vI x112) ⟨by kernel_rfl⟩ (fun w_ hM hS => ⟨w_, ⟨hM.ocell 0 rfl (hq147 0 _ rfl), rfl⟩, hM, hS⟩) ?_
        refine ops_mem (d := some 39) (an := [.v (vI x121)]) (evs := [.load ⟨g11, m148 * 1, none⟩ (vI x121)]) (v := vI x121) ⟨by kernel_rfl⟩ (fun w_ hM hS => ⟨w_, ⟨hM.ocell 0 rfl (hq154 0 _ rfl), rfl⟩, hM, hS⟩) ?_
        refine oQ [oT 10] [(40, vI (IntKind.i64.wrap (x121 + 1))), (35, vI x112), (31, vI i18), (30, sl (sa g11) l43 l1.length), (0, sl A_l l c_l), (3, sl (sa g11) l43 l1.length), (4, vI i18), (10, vI (l.length : Int)), (11, vI i18), (17, vI i18), (18, vI i46)] (by kernel_rfl) ?_
        refine ops_val (op := (.call { callee := (Go.Callee.builtin Go.Builtin.max), args := #[(.tmp 35), (.tmp 40)], argTypes := #[3, 3] })) (d := some 41) (v := vI (max x112 (IntKind.i64.wrap (x121 + 1)))) ⟨by kernel_rfl⟩ (run_max rfl rfl) ?_
        obtain ⟨m155, hm156, hx157⟩ := idx_some hv131
        have hl160 := (List.getElem?_eq_some_iff.1 hx157).1
        obtain ⟨vs158, hr159, hq161⟩ := h45.at_ m155 x130 hx157
        obtain rfl := hr159
        refine ops_val (op := (.indexAddr 26 (.tmp 30) (.tmp 31))) (d := some 42) (v := vP g11 (m155 * 1)) ⟨by kernel_rfl⟩ (run_indexRow Try.underlying26 (z := 1) (by kernel_rfl) rfl rfl hm156 hl160 rfl) ?_
        refine oQ [] [(42, vP g11 (m155 * 1)), (41, vI (max x112 (IntKind.i64.wrap (x121 + 1)))), (0, sl A_l l c_l), (3, sl (sa g11) l43 l1.length), (4, vI i18), (10, vI (l.length : Int)), (11, vI i18), (17, vI i18), (18, vI i46)] (by kernel_rfl) ?_
        obtain ⟨m162, hm163, hl164, he165⟩ := upd_some hv140
        obtain rfl : m155 = m162 := by have := hm156; omega
        have hl166 : l43.length = l139.length := by rw [he165, List.length_set]
        obtain ⟨y167, hy168⟩ : ∃ y_, setAll y44 (m155 * 1 + 0) [vI (max x112 (IntKind.i64.wrap (x121 + 1)))] = y_ := ⟨_, rfl⟩
        have h169 : RepL (Rep.int .i64) F W l139 y167 := by rw [he165, ← hy168]; exact RepL.set h45 (List.getElem?_eq_getElem hl164) (fun vs_ hr_ _ => by obtain rfl := hr_; exact ⟨rfl, Nat.le_of_ble_eq_true rfl⟩)
        refine ops_store (an := []) (evs := [.store ⟨g11, m155 * 1, none⟩ (vI (max x112 (IntKind.i64.wrap (x121 + 1))))]) ⟨by kernel_rfl⟩ (fun w_ hM hS => let ⟨w', he, h'⟩ := hM.ostore' 0 rfl (m155 * 1 + 0) [vI (max x112 (IntKind.i64.wrap (x121 + 1)))] (by have z_ : y44.length = l43.length * 1 := h45.len; have y_ : (m155 + 1) * 1 ≤ l43.length * 1 := Nat.mul_le_mul_right _ hl164; rw [Nat.add_mul] at y_; simp only [List.length_cons, List.length_nil]; omega) hl166 hy168; ⟨w', he, h', (by exact h'.sub (.cons _ (.cons_cons _ (.refl _))))⟩) ?_
        refine ops_conv (l' := [(42, vP g11 (m155 * 1)), (41, vI (max x112 (IntKind.i64.wrap (x121 + 1)))), (0, sl A_l l c_l), (3, sl (sa g11) l139 l1.length), (4, vI i18), (10, vI (l.length : Int)), (11, vI i18), (17, vI i18), (18, vI i46)]) (M' := Mem w0 (ow (sa g11) l139 l1.length 3 1 y167 :: Fz F W :: cs)) (by first | rfl | ((try dsimp only [sl, ow]); rw [hl166])) (fun w_ hM => by first | exact hM | ((try dsimp only [sl, ow] at hM ⊢); rw [hl166] at hM; exact hM)) ?_
        refine ops_nil (fin_block ?_)
        exact fin_join HJ5 (l139, y167) ⟨hp, h169⟩ (look_has ⟨rfl, rfl, rfl, rfl, rfl, rfl, rfl, trivial⟩) (fun w_ hM => hM)
       ·
        refine tree_leaf ?_
        refine ops_mem (d := some 39) (an := [.v (vI x121)]) (evs := [.load ⟨g11, m148 * 1, none⟩ (vI x121)]) (v := vI x121) ⟨by kernel_rfl⟩ (fun w_ hM hS => ⟨w_, ⟨hM.ocell 0 rfl (hq154 0 _ rfl), rfl⟩, hM, hS⟩) ?_
        refine oQ [oT 10] [(40, vI (IntKind.i64.wrap (x121 + 1))), (34, vP g11 (m141 * 1)), (31, vI i18), (30, sl (sa g11) l43 l1.length), (0, sl A_l l c_l), (3, sl (sa g11) l43 l1.length), (4, vI i18), (10, vI (l.length : Int)), (11, vI i18), (17, vI i18), (18, vI i46)] (by kernel_rfl) ?_
        refine ops_mem (d := some 35) (an := [.v (vI x112)]) (evs := [.load ⟨g11, m141 * 1, none⟩ (vI x112)]) (v := vI x112) ⟨by kernel_rfl⟩ (fun w_ hM hS => ⟨w_, ⟨hM.ocell 0 rfl (hq147 0 _ rfl), rfl⟩, hM, hS⟩) ?_
        refine ops_val (op := (.call { callee := (Go.Callee.builtin Go.Builtin.max), args := #[(.tmp 35), (.tmp 40)], argTypes := #[3, 3] })) (d := some 41) (v := vI (max x112 (IntKind.i64.wrap (x121 + 1)))) ⟨by kernel_rfl⟩ (run_max rfl rfl) ?_
        obtain ⟨m171, hm172, hx173⟩ := idx_some hv131
        have hl176 := (List.getElem?_eq_some_iff.1 hx173).1
        obtain ⟨vs174, hr175, hq177⟩ := h45.at_ m171 x130 hx173
        obtain rfl := hr175
        refine ops_val (op := (.indexAddr 26 (.tmp 30) (.tmp 31))) (d := some 42) (v := vP g11 (m171 * 1)) ⟨by kernel_rfl⟩ (run_indexRow Try.underlying26 (z := 1) (by kernel_rfl) rfl rfl hm172 hl176 rfl) ?_
        refine oQ [] [(42, vP g11 (m171 * 1)), (41, vI (max x112 (IntKind.i64.wrap (x121 + 1)))), (0, sl A_l l c_l), (3, sl (sa g11) l43 l1.length), (4, vI i18), (10, vI (l.length : Int)), (11, vI i18), (17, vI i18), (18, vI i46)] (by kernel_rfl) ?_
        obtain ⟨m178, hm179, hl180, he181⟩ := upd_some hv140
        obtain rfl : m171 = m178 := by have := hm172; omega
        have hl182 : l43.length = l139.length := by rw [he181, List.length_set]
        obtain ⟨y183, hy184⟩ : ∃ y_, setAll y44 (m171 * 1 + 0) [vI (max x112 (IntKind.i64.wrap (x121 + 1)))] = y_ := ⟨_, rfl⟩
        have h185 : RepL (Rep.int .i64) F W l139 y183 := by rw [he181, ← hy184]; exact RepL.set h45 (List.getElem?_eq_getElem hl180) (fun vs_ hr_ _ => by obtain rfl := hr_; exact ⟨rfl, Nat.le_of_ble_eq_true rfl⟩)
        refine ops_store (an := []) (evs := [.store ⟨g11, m171 * 1, none⟩ (vI (max x112 (IntKind.i64.wrap (x121 + 1))))]) ⟨by kernel_rfl⟩ (fun w_ hM hS => let ⟨w', he, h'⟩ := hM.ostore' 0 rfl (m171 * 1 + 0) [vI (max x112 (IntKind.i64.wrap (x121 + 1)))] (by have z_ : y44.length = l43.length * 1 := h45.len; have y_ : (m171 + 1) * 1 ≤ l43.length * 1 := Nat.mul_le_mul_right _ hl180; rw [Nat.add_mul] at y_; simp only [List.length_cons, List.length_nil]; omega) hl182 hy184; ⟨w', he, h', (by exact h'.sub (.cons _ (.cons_cons _ (.refl _))))⟩) ?_
        refine ops_conv (l' := [(42, vP g11 (m171 * 1)), (41, vI (max x112 (IntKind.i64.wrap (x121 + 1)))), (0, sl A_l l c_l), (3, sl (sa g11) l139 l1.length), (4, vI i18), (10, vI (l.length : Int)), (11, vI i18), (17, vI i18), (18, vI i46)]) (M' := Mem w0 (ow (sa g11) l139 l1.length 3 1 y183 :: Fz F W :: cs)) (by first | rfl | ((try dsimp only [sl, ow]); rw [hl182])) (fun w_ hM => by first | exact hM | ((try dsimp only [sl, ow] at hM ⊢); rw [hl182] at hM; exact hM)) ?_
        refine ops_nil (fin_block ?_)
        exact fin_join HJ5 (l139, y183) ⟨hp, h185⟩ (look_has ⟨rfl, rfl, rfl, rfl, rfl, rfl, rfl, trivial⟩) (fun w_ hM => hM)
      ·
       have hp := cnd_f hc111 hp
       refine st_skip (fin_block ?_)
       exact fin_join HJ5 (l43, y44) ⟨hp, h45⟩ (look_has ⟨rfl, rfl, rfl, rfl, rfl, rfl, rfl, trivial⟩) (fun w_ hM => hM)
    ·
     have hp := cnd_f hc47 hp
     refine st_exit (fin_exit_then (fin_exit_then (fin_exit (fin_block ?_))))
     obtain hq_ := Option.some.inj hp
     subst hq_
     obtain hq_ := hd4 _ rfl
     subst hq_
     have hp : (plan_depths_j3 i18) l43 = some o2 := hk4
     exact fin_join HJ3 (l43, y44) ⟨hp, h45⟩ (look_has ⟨rfl, rfl, rfl, rfl, trivial⟩) (fun w_ hM => hM)
  ·
   have hp := cnd_f hc19 hp
   refine st_exit (fin_exit_then (fin_exit_then (fin_exit ?_)))
   obtain hq_ := Option.some.inj hp
   subst hq_
   obtain hq_ := hd2 _ rfl
   subst hq_
   have hp : plan_depths_j1 l15 = some l9003 := hk2
   exact fin_join HJ1 (l15, y16) ⟨hp, h17⟩ (look_has ⟨rfl, trivial⟩) (fun w_ hM => hM)
theorem plan_Layers_ok (w0 w : World) (cs : List Chunk) (F : Nat → Prop) (W : World) (A_l : Option Addr) (c_l : Nat) (l : List api_System) (hM0 : Mem w0 (Fz F W :: cs) w) (h_l : RdS R_api_System F W A_l c_l l) (l9003 : List (List Int)) (i9007 : Int) (hp : plan_Layers l = some (l9003, i9007)) : Calls Try.prog 14 #[sl A_l l c_l] w fun e w' => ∃ (A9001 : Option Addr), ∃ (c9002 : Nat), ∃ (y9004 : List Value), ∃ (K9006 : Chunk), ((OwL (Own.sr (Rep.int .i64) 3) F W l9003 y9004 K9006)) ∧ e = .returned (.tuple #[sl A9001 l9003 c9002, vI i9007]) ∧ Mem w0 (ow A9001 l9003 c9002 26 1 y9004 :: K9006 :: Fz F W :: cs) w' := by
 unfold plan_Layers at hp
 refine sx_calls Try.func14 rfl (n := 39) (by kernel_rfl) (l := [(0, sl A_l l c_l)]) rfl (by rfl) hM0 ?_
 refine st_seq (st_region [oF 0, oF 1] (by rfl) ?_)
 refine oQ [oF 0, oF 1] [(0, sl A_l l c_l)] (by kernel_rfl) ?_
 refine ops_nil (fin_then (st_seq (st_seq (st_region [oF 0, oF 1, oF 2] (by rfl) ?_))))
 refine oQ [oF 0, oF 1, oF 2] [(9, .bool (decide (24 < (l.length : Int)))), (0, sl A_l l c_l)] (by kernel_rfl) ?_
 refine ops_nil (fin_then ?_)
 refine st_if (b := decide (24 < (l.length : Int))) rfl (fun hc1 => ?_) (fun hc1 => ?_)
 ·
  have hp := cnd_t hc1 hp
  refine st_seq (st_region [oF 0, oF 1] (by rfl) ?_)
  refine oQ [oF 0, oF 1] [(3, vI 2), (2, .slice none 0 0)] (by kernel_rfl) ?_
  refine ops_nil (fin_then (st_ret (fin_ret_then ?_)))
  refine fin_conv (l' := [(3, vI 2), (2, .slice none 0 0)]) (M' := Mem w0 (orow none ([] : List (List Int)).length 0 26 1 [] :: (Sx.bundle []) :: Fz F W :: cs)) rfl (fun w_ h => h.bnil.onil none 26 1) ?_
  refine fin_conv (l' := [(3, vI 2), (2, .slice none ([] : List (List Int)).length 0)]) (M' := Mem w0 (orow none ([] : List (List Int)).length 0 26 1 [] :: (Sx.bundle []) :: Fz F W :: cs)) rfl (fun _ h => h) ?_
  have hq_ := Option.some.inj hp
  obtain ⟨hr0_, hq_⟩ := Prod.mk.inj hq_
  have hr1_ := hq_
  subst hr0_
  subst hr1_
  refine fin_ret [.tmp 2, .tmp 3] [.slice none ([] : List (List Int)).length 0, vI 2] rfl rfl (fun w_ hM => (.tmp rfl (.tmp rfl .nil))) (fun w_ hM => ?_)
  exact ⟨none, 0, [], (Sx.bundle []), (OwL.nil (O := (Own.sr (Rep.int .i64) 3))), rfl, hM⟩
 ·
  have hp := cnd_f hc1 hp
  refine st_skip (fin_then (st_seq (st_region [oF 0] (by rfl) ?_)))
  refine oQ [oF 0] [(4, .slice none 0 0), (0, sl A_l l c_l)] (by kernel_rfl) ?_
  refine ops_nil (fin_then ?_)
  refine st_join1 (σ := (Option Addr) × Nat × (List (List Int)) × (List Value) × Chunk) (L := fun x_ => match x_ with | (A2, c3, l4, y5, K7) => [(4, sl A2 l4 c3)]) (N := fun x_ => match x_ with | (A2, c3, l4, y5, K7) => Mem w0 (ow A2 l4 c3 26 1 y5 :: K7 :: Fz F W :: cs)) (I := fun x_ => match x_ with | (A2, c3, l4, y5, K7) => (plan_Layers_j1 l4 = some (l9003, i9007)) ∧ (OwL (Own.sr (Rep.int .i64) 3) F W l4 y5 K7)) ?_ ?_
  ·
   rintro ⟨A2, c3, l4, y5, K7⟩ ⟨hp, h6⟩
   unfold plan_Layers_j1 at hp
   refine st_seq (st_region [oF 0, oF 1, oF 2] (by rfl) ?_)
   refine oQ [oF 0, oF 1, oF 2] [(3, vI 0), (2, sl A2 l4 c3)] (by kernel_rfl) ?_
   refine ops_nil (fin_then (st_ret ?_))
   have hq_ := Option.some.inj hp
   obtain ⟨hr0_, hq_⟩ := Prod.mk.inj hq_
   have hr1_ := hq_
   subst hr0_
   subst hr1_
   refine fin_ret [.tmp 2, .tmp 3] [sl A2 l4 c3, vI 0] rfl rfl (fun w_ hM => (.tmp rfl (.tmp rfl .nil))) (fun w_ hM => ?_)
   exact ⟨A2, c3, y5, K7, h6, rfl, hM⟩
  ·
   intro HJ1
   refine st_seq (st_seq (st_region [oF 0, oF 1, oF 2, oF 3] (by rfl) ?_))
   refine oQ [oF 0] [(10, sl A_l l c_l), (4, .slice none 0 0)] (by kernel_rfl) ?_
   obtain ⟨x8, hv9, hp⟩ := obind hp
   refine ops_callI (σ := (Option Addr) × Nat × (List Value)) (d := some 11) (f := 84) (args := #[sl A_l l c_l]) (v := (fun x_ => match x_ with | (A10, c11, y12) => sl A10 x8 c11)) (I := (fun x_ => match x_ with | (A10, c11, y12) => (RepL (Rep.int .i64) F W x8 y12))) (M' := (fun x_ => match x_ with | (A10, c11, y12) => Mem w0 (ow A10 x8 c11 3 1 y12 :: Fz F W :: cs))) ⟨by kernel_rfl⟩ (fun w_ hM hS => (plan_depths_ok w0 w_ (cs) F W A_l c_l l hM h_l x8 hv9).mono (by rintro e w' ⟨A10, c11, y12, h13, rfl, h'⟩; have h' : Mem w0 (ow A10 x8 c11 3 1 y12 :: Fz F W :: cs) w' := h'; exact ⟨(A10, c11, y12), h13, rfl, h', trivial⟩)) ?_
   rintro ⟨A10, c11, y12⟩ h13
   refine oQ [oF 2, oF 3] [(13, vI 0), (12, vI (x8.length : Int)), (11, sl A10 x8 c11), (4, .slice none 0 0)] (by kernel_rfl) ?_
   refine ops_nil (fin_then (st_block ?_))
   refine st_conv (l' := [(13, vI 0), (12, vI (x8.length : Int)), (11, sl A10 x8 c11), (4, .slice none 0 0)]) (M' := Mem w0 (orow none ([] : List (List Int)).length 0 26 1 [] :: (Sx.bundle []) :: ow A10 x8 c11 3 1 y12 :: Fz F W :: cs)) rfl (fun w_ h => h.bnil.onil none 26 1) ?_
   obtain ⟨r2, hl2, hk2⟩ := obind hp
   refine st_loopP (σ := (List (List Int)) × Int) (ρ := (List (List Int))) (γ := (Option Addr) × Nat × (List Value) × Chunk) hl2 (none, 0, [], (Sx.bundle [])) (fun s_ g_ => match s_, g_ with | (l16, i20), (A14, c15, y17, K19) => [(4, sl A14 l16 c15), (11, sl A10 x8 c11), (12, vI (x8.length : Int)), (13, vI i20)]) (fun s_ g_ => match s_, g_ with | (l16, i20), (A14, c15, y17, K19) => Mem w0 (ow A14 l16 c15 26 1 y17 :: K19 :: ow A10 x8 c11 3 1 y12 :: Fz F W :: cs)) (fun s_ g_ => match s_, g_ with | (l16, i20), (A14, c15, y17, K19) => (OwL (Own.sr (Rep.int .i64) 3) F W l16 y17 K19)) (OwL.nil (O := (Own.sr (Rep.int .i64) 3))) (look_has ⟨rfl, rfl, rfl, rfl, trivial⟩) (fun w_ hM => hM) ?_
   rintro ⟨l16, i20⟩ ⟨A14, c15, y17, K19⟩ o2 h18 hs_ hd2
   have hp : (plan_Layers_l2 x8) l16 i20 = some o2 := hs_
   clear hs_
   unfold plan_Layers_l2 at hp
   refine st_seq (st_region [oF 0] (by rfl) ?_)
   refine oQ [oF 0] [(14, .bool (decide (i20 < (x8.length : Int)))), (4, sl A14 l16 c15), (11, sl A10 x8 c11), (12, vI (x8.length : Int)), (13, vI i20)] (by kernel_rfl) ?_
   refine ops_nil (fin_then (st_seq ?_))
   refine st_if (b := decide (i20 < (x8.length : Int))) rfl (fun hc21 => ?_) (fun hc21 => ?_)
   ·
    have hp := cnd_t hc21 hp
    refine st_skip (fin_then (st_seq (st_block (st_seq (st_region [oF 0, oF 1, oF 2, oF 3, oF 4] (by rfl) ?_)))))
    refine oQ [oF 0] [(15, vI i20), (4, sl A14 l16 c15), (11, sl A10 x8 c11), (12, vI (x8.length : Int)), (13, vI i20)] (by kernel_rfl) ?_
    obtain ⟨x22, hv23, hp⟩ := obind hp
    obtain ⟨m24, hm25, hx26⟩ := idx_some hv23
    have hl29 := (List.getElem?_eq_some_iff.1 hx26).1
    refine ops_fact (fun w_ hM => hM.orowSome 2 rfl (Nat.lt_of_le_of_lt (Nat.zero_le _) hl29)) ?_
    rintro ⟨g30, rfl, -⟩
    obtain ⟨vs27, hr28, hq31⟩ := h13.at_ m24 x22 hx26
    obtain rfl := hr28
    refine ops_val (op := (.indexAddr 26 (.tmp 11) (.tmp 13))) (d := some 16) (v := vP g30 (m24 * 1)) ⟨by kernel_rfl⟩ (run_indexRow Try.underlying26 (z := 1) (by kernel_rfl) rfl rfl hm25 hl29 rfl) ?_
    refine ops_mem (d := some 17) (an := [.v (vI x22)]) (evs := [.load ⟨g30, m24 * 1, none⟩ (vI x22)]) (v := vI x22) ⟨by kernel_rfl⟩ (fun w_ hM hS => ⟨w_, ⟨hM.ocell 2 rfl (hq31 0 _ rfl), rfl⟩, hM, trivial⟩) ?_
    refine oQ [oF 3, oF 4] [(6, vI x22), (5, vI i20), (4, sl A14 l16 c15), (11, sl (sa g30) x8 c11), (12, vI (x8.length : Int)), (13, vI i20)] (by kernel_rfl) ?_
    refine ops_nil (fin_then ?_)
    refine st_join1 (σ := (Option Addr) × Nat × (List (List Int)) × (List Value) × Chunk) (L := fun x_ => match x_ with | (A32, c33, l34, y35, K37) => [(4, sl A32 l34 c33), (5, vI i20), (6, vI x22), (11, sl (sa g30) x8 c11), (12, vI (x8.length : Int)), (13, vI i20)]) (N := fun x_ => match x_ with | (A32, c33, l34, y35, K37) => Mem w0 (ow A32 l34 c33 26 1 y35 :: K37 :: ow (sa g30) x8 c11 3 1 y12 :: Fz F W :: cs)) (I := fun x_ => match x_ with | (A32, c33, l34, y35, K37) => ((plan_Layers_j3 x22 i20) l34 = some o2) ∧ (OwL (Own.sr (Rep.int .i64) 3) F W l34 y35 K37)) ?_ ?_
    ·
     rintro ⟨A32, c33, l34, y35, K37⟩ ⟨hp, h36⟩
     unfold plan_Layers_j3 at hp
     refine st_region [oF 0, oF 1, oF 2, oF 3, oF 4, oF 5, oF 6, oF 7, oF 8, oF 9, oF 10, oF 11, oF 12] (by rfl) ?_
     refine oQ [oF 0, oF 1, oF 2, oF 3, oF 4, oF 5] [(30, vI (IntKind.i64.wrap (x22 - 1))), (28, sl A32 l34 c33), (27, vI (IntKind.i64.wrap (x22 - 1))), (25, sl A32 l34 c33), (4, sl A32 l34 c33), (5, vI i20), (11, sl (sa g30) x8 c11), (12, vI (x8.length : Int)), (13, vI i20)] (by kernel_rfl) ?_
     obtain ⟨x38, hv39, hp⟩ := obind hp
     obtain ⟨m40, hm41, hx42⟩ := idx_some hv39
     have hl43 := (List.getElem?_eq_some_iff.1 hx42).1
     refine ops_fact (fun w_ hM => hM.orowSome 0 rfl (Nat.lt_of_le_of_lt (Nat.zero_le _) hl43)) ?_
     rintro ⟨g50, rfl, -⟩
     obtain ⟨vs44, Kx45, K46, ho47, ha48, hm49⟩ := OwL.open_ h36 hx42
     obtain ⟨A51, c52, y54, rfl, rfl, h53⟩ := ha48
     have hq55 : ∀ (i : Nat) (u : Value), [sl A51 x38 c52][i]? = some u → y35[m40 * 1 + i]? = some u := fun i u hi => OwO.cell ho47 hi
     refine ops_val (op := (.indexAddr 23 (.tmp 28) (.tmp 30))) (d := some 31) (v := vP g50 (m40 * 1)) ⟨by kernel_rfl⟩ (run_indexRow Try.underlying23 (z := 1) (by kernel_rfl) rfl rfl hm41 hl43 rfl) ?_
     refine ops_conv (l' := [(31, vP g50 (m40 * 1)), (30, vI (IntKind.i64.wrap (x22 - 1))), (28, sl (sa g50) l34 c33), (27, vI (IntKind.i64.wrap (x22 - 1))), (25, sl (sa g50) l34 c33), (4, sl (sa g50) l34 c33), (5, vI i20), (11, sl (sa g30) x8 c11), (12, vI (x8.length : Int)), (13, vI i20)]) (M' := Mem w0 (ow A51 x38 c52 3 1 y54 :: ow (sa g50) l34 c33 26 1 y35 :: K46 :: ow (sa g30) x8 c11 3 1 y12 :: Fz F W :: cs)) rfl (fun w_ h => (hm49 (h.pick 4 [1, 0, 2, 3] (by kernel_rfl) (by decide) rfl)).pick 5 [1, 2, 0, 3, 4] (by kernel_rfl) (by decide) rfl) ?_
     refine ops_mem (d := some 32) (an := [.v (sl A51 x38 c52)]) (evs := [.load ⟨g50, m40 * 1, none⟩ (sl A51 x38 c52)]) (v := sl A51 x38 c52) ⟨by kernel_rfl⟩ (fun w_ hM hS => ⟨w_, ⟨hM.ocell 1 rfl (hq55 0 _ rfl), rfl⟩, hM, trivial⟩) ?_
     refine oQ [oF 8] [(33, vI i20), (32, sl A51 x38 c52), (27, vI (IntKind.i64.wrap (x22 - 1))), (25, sl (sa g50) l34 c33), (4, sl (sa g50) l34 c33), (11, sl (sa g30) x8 c11), (12, vI (x8.length : Int)), (13, vI i20)] (by kernel_rfl) ?_
     have h56 : RepL (Rep.int .i64) F W ([i20] : List Int) ([vI i20]) := (RepL.cons (R := (Rep.int .i64)) (F := F) (w := W) (vs := [vI i20]) (ys := []) rfl RepL.nil)
     refine ops_new (d := some 34) (o := .cells ([vI i20]).toArray 3) (v := fun g57 => .slice (sa g57) ([i20] : List Int).length 1) (M' := fun g57 => Mem w0 (orow (sa g57) ([i20] : List Int).length 1 3 1 ([vI i20]) :: ow A51 x38 c52 3 1 y54 :: ow (sa g50) l34 c33 26 1 y35 :: K46 :: ow (sa g30) x8 c11 3 1 y12 :: Fz F W :: cs)) (fun g57 => ⟨by kernel_rfl⟩) (fun w_ hM hS => ⟨hM.onew [vI i20] 3 1 1 rfl (by decide), trivial⟩) (fun g57 => ?_)
     obtain ⟨l58, hv59, hp⟩ := obind hp
     obtain ⟨he60, hb61⟩ := app_some hv59
     obtain ⟨y62, hy63⟩ : ∃ y_, y54 ++ ([vI i20]) = y_ := ⟨_, rfl⟩
     have h64 : RepL (Rep.int .i64) F W l58 y62 := by rw [he60, ← hy63]; exact RepL.app h53 h56
     refine ops_appendO (x := (Go.Operand.tmp 32)) (y := (Go.Operand.tmp 34)) (t := 26) (e := 3) (d := some 35) (n' := l58.length) (z := 1) (m := ([i20] : List Int).length) (bytes := 8) (xs' := y62) (news := ([vI i20])) (zv := vI 0) 1 ⟨by kernel_rfl⟩ rfl rfl Try.underlying26 (by kernel_rfl) (by rfl) rfl (fun w_ hM => hM.srcO 0 rfl) h56.len h56.one hb61 (by have z_ := congrArg List.length he60; rw [List.length_append] at z_; exact z_.symm) hy63 (fun _ _ _ _ hS h' => trivial) ?_
     rintro ⟨A65, c66⟩
     refine ops_val (op := (.indexAddr 23 (.tmp 25) (.tmp 27))) (d := some 36) (v := vP g50 (m40 * 1)) ⟨by kernel_rfl⟩ (run_indexRow Try.underlying23 (z := 1) (by kernel_rfl) rfl rfl hm41 ho47.lt rfl) ?_
     obtain ⟨y67, hy68⟩ : ∃ y_, setAll y35 (m40 * 1 + 0) [sl A65 l58 c66] = y_ := ⟨_, rfl⟩
     have ho69 : OwO (Own.sr (Rep.int .i64) 3) F W l34 m40 y67 [sl A65 l58 c66] K46 := by rw [← hy68]; exact OwO.put (us := [sl A65 l58 c66]) (o := 0) ho47 (Nat.le_of_ble_eq_true rfl)
     have hq70 : ∀ (i : Nat) (u : Value), [sl A65 l58 c66][i]? = some u → y67[m40 * 1 + i]? = some u := fun i u hi => OwO.cell ho69 hi
     refine ops_store (an := []) (evs := [.store ⟨g50, m40 * 1, none⟩ (sl A65 l58 c66)]) ⟨by kernel_rfl⟩ (fun w_ hM hS => let ⟨w', he, h'⟩ := hM.ostore' 2 rfl (m40 * 1 + 0) [sl A65 l58 c66] (by have z_ : y35.length = l34.length * 1 := OwO.len ho47; have y_ : (m40 + 1) * 1 ≤ l34.length * 1 := Nat.mul_le_mul_right _ (OwO.lt ho47); rw [Nat.add_mul] at y_; simp only [List.length_cons, List.length_nil]; omega) rfl hy68; ⟨w', he, h', trivial⟩) ?_
     refine ops_nil (fin_block (fin_then (st_region [oF 0, oF 1] (by rfl) ?_)))
     refine oQ [oF 0, oF 1] [(13, vI (IntKind.i64.wrap (i20 + 1))), (4, sl (sa g50) l34 c33), (11, sl (sa g30) x8 c11), (12, vI (x8.length : Int))] (by kernel_rfl) ?_
     refine ops_nil ?_
     obtain ⟨l74, hv75, hp⟩ := obind hp
     obtain ⟨m76, hm77, hl78, he79⟩ := upd_some hv75
     obtain rfl : m40 = m76 := by have := hm41; omega
     have hl80 : l34.length = l74.length := by rw [he79, List.length_set]
     obtain ⟨K71, h72, hm73⟩ := OwO.close (x := l58) (Kx := [ow A65 l58 c66 3 1 y62]) ho69 ⟨_, _, _, rfl, rfl, h64⟩
     rw [← he79] at h72
     refine fin_conv (l' := [(13, vI (IntKind.i64.wrap (i20 + 1))), (4, sl (sa g50) l34 c33), (11, sl (sa g30) x8 c11), (12, vI (x8.length : Int))]) (M' := Mem w0 (orow (sa g57) ([i20] : List Int).length 1 3 1 ([vI i20]) :: ow (sa g50) l34 c33 26 1 y67 :: K71 :: ow (sa g30) x8 c11 3 1 y12 :: Fz F W :: cs)) rfl (fun w_ h => (hm73 (h.pick 6 [3, 1, 0, 2, 4, 5] (by kernel_rfl) (by decide) rfl)).pick 5 [1, 2, 0, 3, 4] (by kernel_rfl) (by decide) rfl) ?_
     refine fin_conv (l' := [(13, vI (IntKind.i64.wrap (i20 + 1))), (4, sl (sa g50) l74 c33), (11, sl (sa g30) x8 c11), (12, vI (x8.length : Int))]) (M' := Mem w0 (orow (sa g57) ([i20] : List Int).length 1 3 1 ([vI i20]) :: ow (sa g50) l74 c33 26 1 y67 :: K71 :: ow (sa g30) x8 c11 3 1 y12 :: Fz F W :: cs)) (by first | rfl | ((try dsimp only [sl, ow]); rw [hl80])) (fun w_ hM => by first | exact hM | ((try dsimp only [sl, ow] at hM ⊢); rw [hl80] at hM; exact hM)) ?_
     exact fin_again (l74, IntKind.i64.wrap (i20 + 1)) ((sa g50), c33, y67, K71) (Option.some.inj hp).symm h72 (look_has ⟨rfl, rfl, rfl, rfl, trivial⟩) (fun w_ hM => hM.pick 5 [1, 2, 3, 4] (by kernel_rfl) (by decide) rfl)
    ·
     intro HJ3
     refine st_seq (st_block ?_)
     obtain ⟨r4, hl4, hk4⟩ := obind hp
     refine st_loopP (σ := (List (List Int))) (ρ := (List (List Int))) (γ := (Option Addr) × Nat × (List Value) × Chunk) hl4 (A14, c15, y17, K19) (fun s_ g_ => match s_, g_ with | l83, (A81, c82, y84, K86) => [(4, sl A81 l83 c82), (5, vI i20), (6, vI x22), (11, sl (sa g30) x8 c11), (12, vI (x8.length : Int)), (13, vI i20)]) (fun s_ g_ => match s_, g_ with | l83, (A81, c82, y84, K86) => Mem w0 (ow A81 l83 c82 26 1 y84 :: K86 :: ow (sa g30) x8 c11 3 1 y12 :: Fz F W :: cs)) (fun s_ g_ => match s_, g_ with | l83, (A81, c82, y84, K86) => (OwL (Own.sr (Rep.int .i64) 3) F W l83 y84 K86)) h18 (look_has ⟨rfl, rfl, rfl, rfl, rfl, rfl, trivial⟩) (fun w_ hM => hM) ?_
     rintro l83 ⟨A81, c82, y84, K86⟩ o4 h85 hs_ hd4
     have hp : (plan_Layers_l4 x22) l83 = some o4 := hs_
     clear hs_
     unfold plan_Layers_l4 at hp
     refine st_seq (st_seq (st_region [oF 0, oF 1, oF 2, oF 3] (by rfl) ?_))
     refine oQ [oF 0, oF 1, oF 2, oF 3] [(21, .bool (decide ((l83.length : Int) < x22))), (4, sl A81 l83 c82), (5, vI i20), (6, vI x22), (11, sl (sa g30) x8 c11), (12, vI (x8.length : Int)), (13, vI i20)] (by kernel_rfl) ?_
     refine ops_nil (fin_then ?_)
     refine st_if (b := decide ((l83.length : Int) < x22)) rfl (fun hc87 => ?_) (fun hc87 => ?_)
     ·
      have hp := cnd_t hc87 hp
      refine st_skip (fin_then (st_block (st_region [oF 0, oF 1, oF 2, oF 3] (by rfl) ?_)))
      refine oQ [oF 0] [(22, sl A81 l83 c82), (4, sl A81 l83 c82), (5, vI i20), (6, vI x22), (11, sl (sa g30) x8 c11), (12, vI (x8.length : Int)), (13, vI i20)] (by kernel_rfl) ?_
      refine ops_conv (l' := [(22, sl A81 l83 c82), (4, sl A81 l83 c82), (5, vI i20), (6, vI x22), (11, sl (sa g30) x8 c11), (12, vI (x8.length : Int)), (13, vI i20)]) (M' := Mem w0 (ow none ([] : List Int) 0 3 1 [] :: ow A81 l83 c82 26 1 y84 :: K86 :: ow (sa g30) x8 c11 3 1 y12 :: Fz F W :: cs)) rfl (fun w_ h => h.onil none 3 1) ?_
      have h88 : EL (Own.sr (Rep.int .i64) 3) F W ([([] : List Int)] : List (List Int)) ([sl none ([] : List Int) 0]) [ow none ([] : List Int) 0 3 1 []] := (EL.cons (vs := [sl none ([] : List Int) 0]) (ys := []) (K := [ow none ([] : List Int) 0 3 1 []]) (Ks := []) (⟨_, _, _, rfl, rfl, (RepL.nil (R := (Rep.int .i64)))⟩) EL.nil)
      have h89 := OwL.of h88
      refine ops_conv (l' := [(22, sl A81 l83 c82), (4, sl A81 l83 c82), (5, vI i20), (6, vI x22), (11, sl (sa g30) x8 c11), (12, vI (x8.length : Int)), (13, vI i20)]) (M' := Mem w0 ((Sx.bundle [ow none ([] : List Int) 0 3 1 []]) :: ow A81 l83 c82 26 1 y84 :: K86 :: ow (sa g30) x8 c11 3 1 y12 :: Fz F W :: cs)) rfl (fun w_ h => Mem.ofEL (h.pick 5 [0, 1, 2, 3, 4] (by kernel_rfl) (by decide) rfl) h88) ?_
      refine ops_new (d := some 23) (o := .cells ([sl none ([] : List Int) 0]).toArray 26) (v := fun g90 => .slice (sa g90) ([([] : List Int)] : List (List Int)).length 1) (M' := fun g90 => Mem w0 (orow (sa g90) ([([] : List Int)] : List (List Int)).length 1 26 1 ([sl none ([] : List Int) 0]) :: (Sx.bundle [ow none ([] : List Int) 0 3 1 []]) :: ow A81 l83 c82 26 1 y84 :: K86 :: ow (sa g30) x8 c11 3 1 y12 :: Fz F W :: cs)) (fun g90 => ⟨by kernel_rfl⟩) (fun w_ hM hS => ⟨hM.onew [sl none ([] : List Int) 0] 26 1 1 rfl (by decide), trivial⟩) (fun g90 => ?_)
      obtain ⟨l91, hv92, hp⟩ := obind hp
      obtain ⟨he93, hb94⟩ := app_some hv92
      obtain ⟨y95, hy96⟩ : ∃ y_, y84 ++ ([sl none ([] : List Int) 0]) = y_ := ⟨_, rfl⟩
      obtain ⟨K99, h97, hm98⟩ := OwL.app h85 h89
      rw [← he93, hy96] at h97
      refine ops_appendO (x := (Go.Operand.tmp 22)) (y := (Go.Operand.tmp 23)) (t := 23) (e := 26) (d := some 24) (n' := l91.length) (z := 1) (m := ([([] : List Int)] : List (List Int)).length) (bytes := 24) (xs' := y95) (news := ([sl none ([] : List Int) 0])) (zv := .slice none 0 0) 2 ⟨by kernel_rfl⟩ rfl rfl Try.underlying23 (by kernel_rfl) (by rfl) rfl (fun w_ hM => hM.srcO 0 rfl) h89.len h89.one hb94 (by have z_ := congrArg List.length he93; rw [List.length_append] at z_; exact z_.symm) hy96 (fun _ _ _ _ hS h' => trivial) ?_
      rintro ⟨A100, c101⟩
      refine ops_conv (l' := [(24, sl A100 l91 c101), (23, .slice (sa g90) ([([] : List Int)] : List (List Int)).length 1), (22, sl A81 l83 c82), (4, sl A81 l83 c82), (5, vI i20), (6, vI x22), (11, sl (sa g30) x8 c11), (12, vI (x8.length : Int)), (13, vI i20)]) (M' := Mem w0 (ow A100 l91 c101 26 1 y95 :: K99 :: ow (sa g30) x8 c11 3 1 y12 :: Fz F W :: cs)) rfl (fun w_ h => (hm98 (h.pick 6 [3, 1, 2, 4, 5] (by kernel_rfl) (by decide) rfl)).pick 4 [1, 0, 2, 3] (by kernel_rfl) (by decide) rfl) ?_
      refine oQ [oF 3] [(4, sl A100 l91 c101), (5, vI i20), (6, vI x22), (11, sl (sa g30) x8 c11), (12, vI (x8.length : Int)), (13, vI i20)] (by kernel_rfl) ?_
      refine ops_nil (fin_block ?_)
      exact fin_again l91 (A100, c101, y95, K99) (Option.some.inj hp).symm h97 (look_has ⟨rfl, rfl, rfl, rfl, rfl, rfl, trivial⟩) (fun w_ hM => hM)
     ·
      have hp := cnd_f hc87 hp
      refine st_exit (fin_exit_then (fin_exit_then (fin_exit ?_)))
      obtain hq_ := Option.some.inj hp
      subst hq_
      obtain hq_ := hd4 _ rfl
      subst hq_
      have hp : (plan_Layers_j3 x22 i20) l83 = some o2 := hk4
      exact fin_join HJ3 (A81, c82, l83, y84, K86) ⟨hp, h85⟩ (look_has ⟨rfl, rfl, rfl, rfl, rfl, rfl, trivial⟩) (fun w_ hM => hM)
   ·
    have hp := cnd_f hc21 hp
    refine st_exit (fin_exit_then (fin_exit_then (fin_exit ?_)))
    obtain hq_ := Option.some.inj hp
    subst hq_
    obtain hq_ := hd2 _ rfl
    subst hq_
    have hp : plan_Layers_j1 l16 = some (l9003, i9007) := hk2
    exact fin_join HJ1 (A14, c15, l16, y17, K19) ⟨hp, h18⟩ (look_has ⟨rfl, trivial⟩) (fun w_ hM => hM.pick 4 [0, 1, 3] (by kernel_rfl) (by decide) rfl)
end Go.Proofs.Ytnnhijlgohlaeaa.P
