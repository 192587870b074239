/- The Go functions come to what the plain functions tell. No condition. -/
import Derived.Test.YthcbepikeinglaaProg
import Derived.Test.YthcbepikeinglaaFnM
import Derived.Test.YthcbepikeinglaaWkM3
namespace Go.Proofs.Ythcbepikeinglaa.M
open Go Go.RowKit Go.Proofs.Ythcbepikeinglaa.Sx
set_option linter.unusedVariables false
set_option maxHeartbeats 4000000 in
set_option maxRecDepth 100000 in
theorem kind_Holds_ok (w0 w : World) (cs : List Chunk) (F : Nat → Prop) (W : World) (k_0 : ByteArray) (A_k_1 : Option Addr) (c_k_1 : Nat) (k_1 : List api_Field) (A_vals : Option Addr) (c_vals : Nat) (vals : List Int) (hM0 : Mem w0 (Fz F W :: cs) w) (h_k_1 : RdS R_api_Field F W A_k_1 c_k_1 k_1) (h_vals : RdS (Rep.int .i64) F W A_vals c_vals vals) (t9001 : Bool) (hp : kind_Holds k_0 k_1 vals = some t9001) : Calls Try.prog 120 #[.agg #[.string k_0, .slice A_k_1 k_1.length c_k_1], .slice A_vals vals.length c_vals] w fun e w' => (True) ∧ e = .returned (.bool t9001) ∧ Mem w0 (Fz F W :: cs) w' := by
 unfold kind_Holds at hp
 refine sx_calls Try.func120 rfl (n := 31) (by kernel_rfl) (l := [(0, .agg #[.string k_0, .slice A_k_1 k_1.length c_k_1]), (1, .slice A_vals vals.length c_vals)]) rfl (by rfl) hM0 ?_
 refine st_seq ?_
 refine st_region [oF 0, oF 1] (by rfl) ?_
 refine ops_new (d := some 2) (o := .cells #[.string k_0, .slice A_k_1 k_1.length c_k_1] 176) (v := fun b1 => vP b1 0) (M' := fun b1 => Mem w0 (.blk b1 [.string k_0, .slice A_k_1 k_1.length c_k_1] 176 :: Fz F W :: cs)) (fun b1 => ⟨by kernel_rfl⟩) (fun w_ hM hS => ⟨hM.blk [.string k_0, .slice A_k_1 k_1.length c_k_1] 176, trivial⟩) (fun b1 => ?_)
 refine oR [oF 1] [(2, vP b1 0), (1, .slice A_vals vals.length c_vals)] [2, 1] (by kernel_rfl) ?_
 refine ops_nil ?_
 refine fin_then ?_
 refine st_seq ?_
 refine st_region [oF 0, oF 1, oF 2, oF 3, oF 4, oF 5, oF 6, oF 7] (by rfl) ?_
 refine ops_mem (d := some 9) (an := [.v (.string k_0), .v (.slice A_k_1 k_1.length c_k_1)]) (evs := [.load ⟨b1, 0, none⟩ (.string k_0), .load ⟨b1, 1, none⟩ (.slice A_k_1 k_1.length c_k_1)]) (v := .agg #[.string k_0, .slice A_k_1 k_1.length c_k_1]) (M' := Mem w0 (.blk b1 [.string k_0, .slice A_k_1 k_1.length c_k_1] 176 :: Fz F W :: cs)) ⟨by kernel_rfl⟩ (fun w_ hM hS => ⟨w_, ⟨hM.cell 0 rfl rfl, hM.cell 0 rfl rfl, rfl⟩, hM, trivial⟩) ?_
 refine oR [oF 1] [(10, .slice A_vals vals.length c_vals), (9, .agg #[.string k_0, .slice A_k_1 k_1.length c_k_1]), (1, .slice A_vals vals.length c_vals)] [10, 9, 1] (by kernel_rfl) ?_
 obtain ⟨x2, x3, hv4, hp⟩ := obind2 hp
 refine ops_callI (σ := (Option Addr) × Nat × (List Value)) (d := some 11) (f := 122) (args := #[.agg #[.string k_0, .slice A_k_1 k_1.length c_k_1], .slice A_vals vals.length c_vals]) (v := (fun x_ => match x_ with | (A5, c6, y7) => .tuple #[.slice A5 x2.length c6, vI x3])) (I := (fun x_ => match x_ with | (A5, c6, y7) => (RepL (Rep.int .i64) F W x2 y7))) (M' := (fun x_ => match x_ with | (A5, c6, y7) => Mem w0 (orow A5 x2.length c6 3 1 y7 :: .blk b1 [.string k_0, .slice A_k_1 k_1.length c_k_1] 176 :: Fz F W :: cs))) ⟨by kernel_rfl⟩ (fun w_ hM hS => (kind_Fit_ok w0 w_ (.blk b1 [.string k_0, .slice A_k_1 k_1.length c_k_1] 176 :: cs) F W k_0 A_k_1 c_k_1 k_1 A_vals c_vals vals (hM.pick 2 [1, 0] (by kernel_rfl) (by decide) rfl) h_k_1 h_vals x2 x3 hv4).mono (by rintro e w' ⟨A5, c6, y7, h8, rfl, h'⟩; have h' : Mem w0 (orow A5 x2.length c6 3 1 y7 :: .blk b1 [.string k_0, .slice A_k_1 k_1.length c_k_1] 176 :: Fz F W :: cs) w' := (h'.pick 3 [0, 2, 1] (by kernel_rfl) (by decide) rfl); exact ⟨(A5, c6, y7), h8, rfl, h', trivial⟩)) ?_
 rintro ⟨A5, c6, y7⟩ h8
 refine ops_conv (l' := [(11, .tuple #[.slice A5 x2.length c6, vI x3]), (10, .slice A_vals vals.length c_vals), (9, .agg #[.string k_0, .slice A_k_1 k_1.length c_k_1]), (1, .slice A_vals vals.length c_vals)]) (M' := Mem w0 (orow A5 x2.length c6 3 1 y7 :: .blk b1 [.string k_0, .slice A_k_1 k_1.length c_k_1] 176 :: Fz F W :: cs)) rfl (fun _ h => h) ?_
 refine oR [oF 3, oF 4, oF 5, oF 6, oF 7] [(6, vI x3), (5, .slice A5 x2.length c6), (1, .slice A_vals vals.length c_vals)] [6, 5, 1] (by kernel_rfl) ?_
 refine ops_nil ?_
 refine fin_then ?_
 refine st_seq ?_
 refine st_seq ?_
 refine st_region [oF 0, oF 1] (by rfl) ?_
 refine oR [oF 0, oF 1] [(15, .bool (!(x3 == 0))), (5, .slice A5 x2.length c6), (1, .slice A_vals vals.length c_vals)] [15, 5, 1] (by kernel_rfl) ?_
 refine ops_nil ?_
 refine fin_then ?_
 refine st_if (b := !(x3 == 0)) rfl (fun hc9 => ?_) (fun hc9 => ?_)
 · --
  have hp := cnd_t hc9 hp
  refine st_seq ?_
  refine st_region [oF 0] (by rfl) ?_
  refine oR [oF 0] [(4, .bool false)] [4] (by kernel_rfl) ?_
  refine ops_nil ?_
  refine fin_then ?_
  refine st_ret ?_
  refine fin_ret_then ?_
  have hq_ := Option.some.inj hp
  have hr0_ := hq_
  subst hr0_
  refine fin_ret [.tmp 4] [.bool false] rfl rfl (fun w_ hM => (.tmp rfl .nil)) (fun w_ hM => ?_)
  exact ⟨trivial, rfl, hM.pick 3 [2] (by kernel_rfl) (by decide) rfl⟩
 · --
  have hp := cnd_f hc9 hp
  refine st_skip ?_
  refine fin_then ?_
  refine st_join1 (σ := Unit) (L := fun _ => []) (N := fun _ => Mem w0 (Fz F W :: cs)) (I := fun _ => (kind_Holds_j1 = some t9001)) ?_ ?_
  · --
   rintro _ hp
   refine st_conv (l' := []) (M' := Mem w0 (Fz F W :: cs)) rfl (fun _ h => h) ?_
   unfold kind_Holds_j1 at hp
   refine st_seq ?_
   refine st_region [oF 0] (by rfl) ?_
   refine oR [oF 0] [(4, .bool true)] [4] (by kernel_rfl) ?_
   refine ops_nil ?_
   refine fin_then ?_
   refine st_ret ?_
   have hq_ := Option.some.inj hp
   have hr0_ := hq_
   subst hr0_
   refine fin_ret [.tmp 4] [.bool true] rfl rfl (fun w_ hM => (.tmp rfl .nil)) (fun w_ hM => ?_)
   exact ⟨trivial, rfl, hM⟩
  · --
   intro HJ1
   refine st_seq ?_
   refine st_seq ?_
   refine st_region [oF 0, oF 1, oF 2] (by rfl) ?_
   refine oR [oF 0, oF 1, oF 2] [(18, vI 0), (17, vI (x2.length : Int)), (5, .slice A5 x2.length c6), (1, .slice A_vals vals.length c_vals)] [18, 17, 5, 1] (by kernel_rfl) ?_
   refine ops_nil ?_
   refine fin_then ?_
   refine st_block ?_
   obtain ⟨r2, hl2, hk2⟩ := obind hp
   refine st_loopP (σ := Int) (ρ := (Bool ⊕ Unit)) (γ := Unit) hl2 () (fun s_ g_ => match s_, g_ with | i10, _ => [(1, .slice A_vals vals.length c_vals), (5, .slice A5 x2.length c6), (17, vI (x2.length : Int)), (18, vI i10)]) (fun s_ g_ => match s_, g_ with | i10, _ => Mem w0 (orow A5 x2.length c6 3 1 y7 :: Fz F W :: cs)) (fun s_ g_ => match s_, g_ with | i10, _ => True) trivial (look_has ⟨rfl, rfl, rfl, rfl, trivial⟩) (fun w_ hM => hM.pick 3 [0, 2] (by kernel_rfl) (by decide) rfl) ?_
   rintro i10 _ o2 - hs_ hd2
   have hp : (kind_Holds_l2 x2 vals) i10 = some o2 := hs_
   clear hs_
   unfold kind_Holds_l2 at hp
   refine st_conv (l' := [(1, .slice A_vals vals.length c_vals), (5, .slice A5 x2.length c6), (17, vI (x2.length : Int)), (18, vI i10)]) (M' := Mem w0 (orow A5 x2.length c6 3 1 y7 :: Fz F W :: cs)) rfl (fun _ h => h) ?_
   refine st_seq ?_
   refine st_region [oF 0] (by rfl) ?_
   refine oR [oF 0] [(19, .bool (decide (i10 < (x2.length : Int)))), (1, .slice A_vals vals.length c_vals), (5, .slice A5 x2.length c6), (17, vI (x2.length : Int)), (18, vI i10)] [19, 1, 5, 17, 18] (by kernel_rfl) ?_
   refine ops_nil ?_
   refine fin_then ?_
   refine st_seq ?_
   refine st_if (b := decide (i10 < (x2.length : Int))) rfl (fun hc11 => ?_) (fun hc11 => ?_)
   · --
    have hp := cnd_t hc11 hp
    refine st_skip ?_
    refine fin_then ?_
    refine st_seq ?_
    refine st_block ?_
    refine st_seq ?_
    refine st_region [oF 0, oF 1] (by rfl) ?_
    refine oR [oF 0, oF 1] [(7, vI i10), (1, .slice A_vals vals.length c_vals), (5, .slice A5 x2.length c6), (17, vI (x2.length : Int)), (18, vI i10)] [7, 1, 5, 17, 18] (by kernel_rfl) ?_
    refine ops_nil ?_
    refine fin_then ?_
    refine st_seq ?_
    refine st_region_draw [oT 0, oT 1, oT 2, oT 3, oT 4, oT 5, oT 6, oT 7, oT 8] (Mem w0 (orow A5 x2.length c6 3 1 y7 :: Fz F W :: cs)) (by kernel_rfl) (by kernel_rfl) (by kernel_rfl) (fun _ d _ _ _ h => by cases d <;> exact h) (M' := Mem w0 (orow A5 x2.length c6 3 1 y7 :: Fz F W :: cs)) (fun w_ hM => ⟨hM.drew, hM.drew.sub (.cons_cons _ (.cons_cons _ (.refl _)))⟩) ?_
    refine oR [oT 0, oT 1] [(22, vI i10), (21, .slice A5 x2.length c6), (7, vI i10), (1, .slice A_vals vals.length c_vals), (5, .slice A5 x2.length c6), (17, vI (x2.length : Int)), (18, vI i10)] [22, 21, 7, 1, 5, 17, 18] (by kernel_rfl) ?_
    obtain ⟨x12, hv13, hp⟩ := obind hp
    obtain ⟨m14, hm15, hx16⟩ := idx_some hv13
    have hl19 := (List.getElem?_eq_some_iff.1 hx16).1
    refine ops_fact (fun w_ hM => hM.orowSome 0 rfl (Nat.lt_of_le_of_lt (Nat.zero_le _) hl19)) ?_
    rintro ⟨g20, rfl, -⟩
    obtain ⟨vs17, hr18, hq21⟩ := h8.at_ m14 x12 hx16
    obtain rfl := hr18
    refine ops_val (op := (Go.Op.indexAddr 39 (Go.Operand.tmp 21) (Go.Operand.tmp 22))) (d := some 23) (v := vP g20 (m14 * 1)) ⟨by kernel_rfl⟩ (run_indexRow Try.underlying39 (z := 1) (by kernel_rfl) rfl rfl hm15 hl19 rfl) ?_
    refine oR [] [(23, vP g20 (m14 * 1)), (7, vI i10), (1, .slice A_vals vals.length c_vals), (5, .slice (some ⟨g20, 0, none⟩) x2.length c6), (17, vI (x2.length : Int)), (18, vI i10)] [23, 7, 1, 5, 17, 18] (by kernel_rfl) ?_
    refine ops_load (d := some 24) (an := [.v (vI x12)]) (evs := [.load ⟨g20, m14 * 1, none⟩ (vI x12)]) (v := vI x12) ⟨by kernel_rfl⟩ (fun w_ hM => ⟨hM.ocell 0 rfl (hq21 0 _ rfl), rfl⟩) ?_
    refine oR [oT 4, oT 5] [(26, vI i10), (25, .slice A_vals vals.length c_vals), (24, vI x12), (1, .slice A_vals vals.length c_vals), (5, .slice (some ⟨g20, 0, none⟩) x2.length c6), (17, vI (x2.length : Int)), (18, vI i10)] [26, 25, 24, 1, 5, 17, 18] (by kernel_rfl) ?_
    obtain ⟨x22, hv23, hp⟩ := obind hp
    obtain ⟨m24, hm25, hx26⟩ := idx_some hv23
    have hl29 := (List.getElem?_eq_some_iff.1 hx26).1
    obtain ⟨ad30, vs27, hA31, hr28, hq32⟩ := RdS.el h_vals hx26
    obtain rfl := hr28
    refine ops_val (op := (Go.Op.indexAddr 39 (Go.Operand.tmp 25) (Go.Operand.tmp 26))) (d := some 27) (v := .pointer (some (ad30.add (m24 * 1)))) ⟨by kernel_rfl⟩ (run_indexA hA31 Try.underlying39 (z := 1) (by kernel_rfl) rfl rfl hm25 hl29) ?_
    refine oR [] [(27, .pointer (some (ad30.add (m24 * 1)))), (24, vI x12), (1, .slice A_vals vals.length c_vals), (5, .slice (some ⟨g20, 0, none⟩) x2.length c6), (17, vI (x2.length : Int)), (18, vI i10)] [27, 24, 1, 5, 17, 18] (by kernel_rfl) ?_
    refine ops_load (d := some 28) (an := [.v (vI x22)]) (evs := [.load (ad30.add (m24 * 1)) (vI x22)]) (v := vI x22) ⟨by kernel_rfl⟩ (fun w_ hM => ⟨hM.elcell 1 rfl hq32 0 rfl, rfl⟩) ?_
    refine oR [oT 8] [(29, .bool (!(x12 == x22))), (1, .slice A_vals vals.length c_vals), (5, .slice (some ⟨g20, 0, none⟩) x2.length c6), (17, vI (x2.length : Int)), (18, vI i10)] [29, 1, 5, 17, 18] (by kernel_rfl) ?_
    refine ops_nil ?_
    refine fin_then ?_
    refine st_if (b := !(x12 == x22)) rfl (fun hc33 => ?_) (fun hc33 => ?_)
    · --
     have hp := cnd_t hc33 hp
     refine st_seq ?_
     refine st_region [oF 0] (by rfl) ?_
     refine oR [oF 0] [(4, .bool false)] [4] (by kernel_rfl) ?_
     refine ops_nil ?_
     refine fin_then ?_
     refine st_ret ?_
     refine fin_ret_block ?_
     refine fin_ret_then ?_
     refine fin_ret_then ?_
     refine fin_ret_block ?_
     refine fin_ret_then ?_
     obtain hq_ := Option.some.inj hp
     subst hq_
     obtain hq_ := hd2 _ rfl
     subst hq_
     have hp : some false = some t9001 := hk2
     have hq_ := Option.some.inj hp
     have hr0_ := hq_
     subst hr0_
     refine fin_ret [.tmp 4] [.bool false] rfl rfl (fun w_ hM => (.tmp rfl .nil)) (fun w_ hM => ?_)
     exact ⟨trivial, rfl, hM.pick 2 [1] (by kernel_rfl) (by decide) rfl⟩
    · --
     have hp := cnd_f hc33 hp
     refine st_skip ?_
     refine fin_block ?_
     refine fin_then ?_
     refine st_region [oF 0, oF 1] (by rfl) ?_
     refine oR [oF 0, oF 1] [(18, vI (IntKind.i64.wrap (i10 + 1))), (1, .slice A_vals vals.length c_vals), (5, .slice (some ⟨g20, 0, none⟩) x2.length c6), (17, vI (x2.length : Int))] [18, 1, 5, 17] (by kernel_rfl) ?_
     refine ops_nil ?_
     exact fin_again (IntKind.i64.wrap (i10 + 1)) () (Option.some.inj hp).symm trivial (look_has ⟨rfl, rfl, rfl, rfl, trivial⟩) (fun w_ hM => hM)
   · --
    have hp := cnd_f hc11 hp
    refine st_exit ?_
    refine fin_exit_then ?_
    refine fin_exit_then ?_
    refine fin_exit ?_
    obtain hq_ := Option.some.inj hp
    subst hq_
    obtain hq_ := hd2 _ rfl
    subst hq_
    have hp : kind_Holds_j1 = some t9001 := hk2
    exact fin_join HJ1 () hp (look_has trivial) (fun w_ hM => hM.pick 2 [1] (by kernel_rfl) (by decide) rfl)
def world_held__t0 : List Row := [⟨0, 16384, 128⟩, ⟨1, 32768, 16384⟩, ⟨0, 65536, 32⟩, ⟨6, 131072, 98304⟩, ⟨8, 262144, 131072⟩, ⟨16, 524288, 262272⟩, ⟨48, 1048576, 786432⟩, ⟨16, 2097152, 262145⟩, ⟨144, 4194304, 2359296⟩, ⟨336, 8388608, 5505024⟩, ⟨528, 16777216, 8650752⟩, ⟨1040, 33554432, 16777216⟩, ⟨2048, 67108864, 33554433⟩, ⟨2048, 134217728, 33554560⟩, ⟨10240, 268435456, 167772160⟩, ⟨22528, 536870912, 369098752⟩, ⟨34816, 1073741824, 570425344⟩, ⟨2048, 2147483648, 33554560⟩, ⟨133120, 4294967296, 2181038080⟩, ⟨329728, 8589934592, 5402263552⟩, ⟨526336, 17179869184, 8623489024⟩, ⟨1050624, 34359738368, 17213423616⟩]
set_option maxHeartbeats 4000000 in
set_option maxRecDepth 100000 in
theorem world_held_ok (w0 w : World) (cs : List Chunk) (F : Nat → Prop) (W : World) (A_k : Option Addr) (c_k : Nat) (k : List api_Kind) (A_l : Option Addr) (c_l : Nat) (l : List api_Comp) (hM0 : Mem w0 (Fz F W :: cs) w) (h_k : RdS R_api_Kind F W A_k c_k k) (h_l : RdS R_api_Comp F W A_l c_l l) (t9001 : Bool) (hp : world_held k l = some t9001) : Calls Try.prog 111 #[.slice A_k k.length c_k, .slice A_l l.length c_l] w fun e w' => (True) ∧ e = .returned (.bool t9001) ∧ Mem w0 (Fz F W :: cs) w' := by
 unfold world_held at hp
 refine sx_calls Try.func111 rfl (n := 39) (by kernel_rfl) (l := [(0, .slice A_k k.length c_k), (1, .slice A_l l.length c_l)]) rfl (by rfl) hM0 ?_
 refine st_seq ?_
 refine st_region [oF 0] (by rfl) ?_
 refine oR [oF 0] [(0, .slice A_k k.length c_k), (1, .slice A_l l.length c_l)] [0, 1] (by kernel_rfl) ?_
 refine ops_nil ?_
 refine fin_then ?_
 refine st_seq ?_
 refine st_region [oF 0] (by rfl) ?_
 refine oR [oF 0] [(5, vI (-1)), (0, .slice A_k k.length c_k), (1, .slice A_l l.length c_l)] [5, 0, 1] (by kernel_rfl) ?_
 refine ops_nil ?_
 refine fin_then ?_
 refine st_join1 (σ := Unit) (L := fun _ => []) (N := fun _ => Mem w0 (Fz F W :: cs)) (I := fun _ => (world_held_j1 = some t9001)) ?_ ?_
 · --
  rintro _ hp
  refine st_conv (l' := []) (M' := Mem w0 (Fz F W :: cs)) rfl (fun _ h => h) ?_
  unfold world_held_j1 at hp
  refine st_seq ?_
  refine st_region [oF 0] (by rfl) ?_
  refine oR [oF 0] [(4, .bool true)] [4] (by kernel_rfl) ?_
  refine ops_nil ?_
  refine fin_then ?_
  refine st_ret ?_
  have hq_ := Option.some.inj hp
  have hr0_ := hq_
  subst hr0_
  refine fin_ret [.tmp 4] [.bool true] rfl rfl (fun w_ hM => (.tmp rfl .nil)) (fun w_ hM => ?_)
  exact ⟨trivial, rfl, hM⟩
 · --
  intro HJ1
  refine st_seq ?_
  refine st_seq ?_
  refine st_region [oF 0, oF 1, oF 2] (by rfl) ?_
  refine oR [oF 0, oF 1, oF 2] [(10, vI 0), (9, vI (l.length : Int)), (8, .slice A_l l.length c_l), (5, vI (-1)), (0, .slice A_k k.length c_k)] [10, 9, 8, 5, 0] (by kernel_rfl) ?_
  refine ops_nil ?_
  refine fin_then ?_
  refine st_block ?_
  obtain ⟨r2, hl2, hk2⟩ := obind hp
  refine st_loopP (σ := Int × Int) (ρ := (Bool ⊕ Unit)) (γ := Unit) hl2 () (fun s_ g_ => match s_, g_ with | (i1, i2), _ => [(0, .slice A_k k.length c_k), (5, vI i1), (8, .slice A_l l.length c_l), (9, vI (l.length : Int)), (10, vI i2)]) (fun s_ g_ => match s_, g_ with | (i1, i2), _ => Mem w0 (Fz F W :: cs)) (fun s_ g_ => match s_, g_ with | (i1, i2), _ => True) trivial (look_has ⟨rfl, rfl, rfl, rfl, rfl, trivial⟩) (fun w_ hM => hM) ?_
  rintro ⟨i1, i2⟩ _ o2 - hs_ hd2
  have hp : (world_held_l2 l k) i1 i2 = some o2 := hs_
  clear hs_
  unfold world_held_l2 at hp
  refine st_conv (l' := [(0, .slice A_k k.length c_k), (5, vI i1), (8, .slice A_l l.length c_l), (9, vI (l.length : Int)), (10, vI i2)]) (M' := Mem w0 (Fz F W :: cs)) rfl (fun _ h => h) ?_
  refine st_seq ?_
  refine st_region [oF 0] (by rfl) ?_
  refine oR [oF 0] [(11, .bool (decide (i2 < (l.length : Int)))), (0, .slice A_k k.length c_k), (5, vI i1), (8, .slice A_l l.length c_l), (9, vI (l.length : Int)), (10, vI i2)] [11, 0, 5, 8, 9, 10] (by kernel_rfl) ?_
  refine ops_nil ?_
  refine fin_then ?_
  refine st_seq ?_
  refine st_if (b := decide (i2 < (l.length : Int))) rfl (fun hc3 => ?_) (fun hc3 => ?_)
  · --
   have hp := cnd_t hc3 hp
   refine st_skip ?_
   refine fin_then ?_
   refine st_seq ?_
   refine st_block ?_
   refine st_seq ?_
   refine st_region [oF 0, oF 1, oF 2, oF 3] (by rfl) ?_
   refine oR [] [(0, .slice A_k k.length c_k), (5, vI i1), (8, .slice A_l l.length c_l), (9, vI (l.length : Int)), (10, vI i2)] [0, 5, 8, 9, 10] (by kernel_rfl) ?_
   obtain ⟨x4, hv5, hp⟩ := obind hp
   obtain ⟨m6, hm7, hx8⟩ := idx_some hv5
   have hl11 := (List.getElem?_eq_some_iff.1 hx8).1
   obtain ⟨ad12, vs9, hA13, hr10, hq14⟩ := RdS.el h_l hx8
   obtain ⟨A15, c16, rfl, h17⟩ := dec_api_Comp hr10
   refine ops_val (op := (Go.Op.indexAddr 25 (Go.Operand.tmp 8) (Go.Operand.tmp 10))) (d := some 12) (v := .pointer (some (ad12.add (m6 * 2)))) ⟨by kernel_rfl⟩ (run_indexA hA13 Try.underlying25 (z := 2) (by kernel_rfl) rfl rfl hm7 hl11) ?_
   refine ops_mem (d := some 13) (an := [.v (vI x4.Kind), .v (.slice A15 x4.Vals.length c16)]) (evs := [.load (ad12.add (m6 * 2)) (vI x4.Kind), .load ((ad12.add (m6 * 2)).add 1) (.slice A15 x4.Vals.length c16)]) (v := .agg #[vI x4.Kind, .slice A15 x4.Vals.length c16]) (M' := Mem w0 (Fz F W :: cs)) ⟨by kernel_rfl⟩ (fun w_ hM hS => ⟨w_, ⟨hM.elcell 0 rfl hq14 0 rfl, hM.elcell 0 rfl hq14 1 rfl, rfl⟩, hM, trivial⟩) ?_
   refine oR [] [(13, .agg #[vI x4.Kind, .slice A15 x4.Vals.length c16]), (0, .slice A_k k.length c_k), (5, vI i1), (8, .slice A_l l.length c_l), (9, vI (l.length : Int)), (10, vI i2)] [13, 0, 5, 8, 9, 10] (by kernel_rfl) ?_
   refine ops_new (d := some 7) (o := .cells #[vI 0, .slice none 0 0] 63) (v := fun b18 => vP b18 0) (M' := fun b18 => Mem w0 (.blk b18 [vI 0, .slice none 0 0] 63 :: Fz F W :: cs)) (fun b18 => ⟨by kernel_rfl⟩) (fun w_ hM hS => ⟨hM.blk [vI 0, .slice none 0 0] 63, trivial⟩) (fun b18 => ?_)
   refine ops_store (an := []) (evs := [.store ⟨b18, 0, none⟩ (vI x4.Kind), .store ⟨b18, 1, none⟩ (.slice A15 x4.Vals.length c16)]) (M' := Mem w0 (.blk b18 [vI x4.Kind, .slice A15 x4.Vals.length c16] 63 :: Fz F W :: cs)) ⟨by kernel_rfl⟩ (fun w_ hM hS => let ⟨w', he, h'⟩ := hM.evs_stores [vI x4.Kind, .slice A15 x4.Vals.length c16] 0 rfl 0 (Nat.le_of_ble_eq_true rfl); ⟨w', he, h', trivial⟩) ?_
   refine oR [] [(7, vP b18 0), (0, .slice A_k k.length c_k), (5, vI i1), (8, .slice A_l l.length c_l), (9, vI (l.length : Int)), (10, vI i2)] [7, 0, 5, 8, 9, 10] (by kernel_rfl) ?_
   refine ops_nil ?_
   refine fin_then ?_
   refine st_seq ?_
   refine st_seq ?_
   refine st_region_fast world_held__t0 [oT 0, oT 1, oT 2, oT 3, oT 4, oT 5, oT 6, oT 7, oT 8, oT 9, oT 10, oT 11, oT 12, oT 13, oT 14, oT 15, oT 16, oT 17, oT 18, oF 19, oT 20, oT 21] (Mem w0 (.blk b18 [vI x4.Kind, .slice A15 x4.Vals.length c16] 63 :: Fz F W :: cs)) (by kernel_rfl) (by kernel_rfl) (by kernel_rfl) (by kernel_rfl) (by kernel_rfl) (fun _ d _ _ _ h => by cases d <;> exact h) (M' := Mem w0 (.blk b18 [vI x4.Kind, .slice A15 x4.Vals.length c16] 63 :: Fz F W :: cs)) (fun w_ hM => ⟨hM.drew, hM.drew.sub (.cons_cons _ (.cons_cons _ (.refl _)))⟩) ?_
   refine oR [oT 0] [(14, vP b18 0), (7, vP b18 0), (0, .slice A_k k.length c_k), (5, vI i1), (8, .slice A_l l.length c_l), (9, vI (l.length : Int)), (10, vI i2)] [14, 7, 0, 5, 8, 9, 10] (by kernel_rfl) ?_
   refine ops_load (d := some 15) (an := [.v (vI x4.Kind)]) (evs := [.load ⟨b18, 0, none⟩ (vI x4.Kind)]) (v := vI x4.Kind) ⟨by kernel_rfl⟩ (fun w_ hM => ⟨hM.cell 0 rfl rfl, rfl⟩) ?_
   refine oR [oT 2, oT 3, oT 4] [(18, .bool (decide (x4.Kind ≤ i1))), (7, vP b18 0), (0, .slice A_k k.length c_k), (8, .slice A_l l.length c_l), (9, vI (l.length : Int)), (10, vI i2)] [18, 7, 0, 8, 9, 10] (by kernel_rfl) ?_
   refine ops_bool (t := decide (x4.Kind ≤ i1)) (l1 := [(18, .bool true), (7, vP b18 0), (0, .slice A_k k.length c_k), (8, .slice A_l l.length c_l), (9, vI (l.length : Int)), (10, vI i2)]) (l2 := [(18, .bool false), (7, vP b18 0), (0, .slice A_k k.length c_k), (8, .slice A_l l.length c_l), (9, vI (l.length : Int)), (10, vI i2)]) (fun h => by rw [h]) (fun h => by rw [h]) (fun hc19 => ?_) (fun hc19 => ?_)
   · --
    have hp := cnd_t hc19 hp
    refine oR [oT 5, oT 6, oT 7, oT 8, oT 9, oT 10, oT 11, oT 12, oT 13, oT 14, oT 15, oT 16, oT 17, oT 18, oF 19, oT 20, oT 21] [(35, .bool true), (7, vP b18 0), (0, .slice A_k k.length c_k), (8, .slice A_l l.length c_l), (9, vI (l.length : Int)), (10, vI i2)] [35, 7, 0, 8, 9, 10] (by kernel_rfl) ?_
    refine ops_nil ?_
    refine fin_then ?_
    refine st_true rfl ?_
    refine st_seq ?_
    refine st_region [oF 0] (by rfl) ?_
    refine oR [oF 0] [(4, .bool false)] [4] (by kernel_rfl) ?_
    refine ops_nil ?_
    refine fin_then ?_
    refine st_ret ?_
    refine fin_ret_then ?_
    refine fin_ret_block ?_
    refine fin_ret_then ?_
    refine fin_ret_then ?_
    refine fin_ret_block ?_
    refine fin_ret_then ?_
    obtain hq_ := Option.some.inj hp
    subst hq_
    obtain hq_ := hd2 _ rfl
    subst hq_
    have hp : some false = some t9001 := hk2
    have hq_ := Option.some.inj hp
    have hr0_ := hq_
    subst hr0_
    refine fin_ret [.tmp 4] [.bool false] rfl rfl (fun w_ hM => (.tmp rfl .nil)) (fun w_ hM => ?_)
    exact ⟨trivial, rfl, hM.pick 2 [1] (by kernel_rfl) (by decide) rfl⟩
   · --
    have hp := cnd_f hc19 hp
    refine oR [oT 5] [(19, vP b18 0), (18, .bool false), (7, vP b18 0), (0, .slice A_k k.length c_k), (8, .slice A_l l.length c_l), (9, vI (l.length : Int)), (10, vI i2)] [19, 18, 7, 0, 8, 9, 10] (by kernel_rfl) ?_
    refine ops_load (d := some 20) (an := [.v (vI x4.Kind)]) (evs := [.load ⟨b18, 0, none⟩ (vI x4.Kind)]) (v := vI x4.Kind) ⟨by kernel_rfl⟩ (fun w_ hM => ⟨hM.cell 0 rfl rfl, rfl⟩) ?_
    refine oR [oT 7, oT 8, oT 9, oT 10, oT 11] [(25, .bool (decide ((k.length : Int) ≤ x4.Kind))), (7, vP b18 0), (0, .slice A_k k.length c_k), (8, .slice A_l l.length c_l), (9, vI (l.length : Int)), (10, vI i2)] [25, 7, 0, 8, 9, 10] (by kernel_rfl) ?_
    refine ops_bool (t := decide ((k.length : Int) ≤ x4.Kind)) (l1 := [(25, .bool true), (7, vP b18 0), (0, .slice A_k k.length c_k), (8, .slice A_l l.length c_l), (9, vI (l.length : Int)), (10, vI i2)]) (l2 := [(25, .bool false), (7, vP b18 0), (0, .slice A_k k.length c_k), (8, .slice A_l l.length c_l), (9, vI (l.length : Int)), (10, vI i2)]) (fun h => by rw [h]) (fun h => by rw [h]) (fun hc20 => ?_) (fun hc20 => ?_)
    · --
     have hp := cnd_t hc20 hp
     refine oR [oT 12, oT 13, oT 14, oT 15, oT 16, oT 17, oT 18, oF 19, oT 20, oT 21] [(35, .bool true), (7, vP b18 0), (0, .slice A_k k.length c_k), (8, .slice A_l l.length c_l), (9, vI (l.length : Int)), (10, vI i2)] [35, 7, 0, 8, 9, 10] (by kernel_rfl) ?_
     refine ops_nil ?_
     refine fin_then ?_
     refine st_true rfl ?_
     refine st_seq ?_
     refine st_region [oF 0] (by rfl) ?_
     refine oR [oF 0] [(4, .bool false)] [4] (by kernel_rfl) ?_
     refine ops_nil ?_
     refine fin_then ?_
     refine st_ret ?_
     refine fin_ret_then ?_
     refine fin_ret_block ?_
     refine fin_ret_then ?_
     refine fin_ret_then ?_
     refine fin_ret_block ?_
     refine fin_ret_then ?_
     obtain hq_ := Option.some.inj hp
     subst hq_
     obtain hq_ := hd2 _ rfl
     subst hq_
     have hp : some false = some t9001 := hk2
     have hq_ := Option.some.inj hp
     have hr0_ := hq_
     subst hr0_
     refine fin_ret [.tmp 4] [.bool false] rfl rfl (fun w_ hM => (.tmp rfl .nil)) (fun w_ hM => ?_)
     exact ⟨trivial, rfl, hM.pick 2 [1] (by kernel_rfl) (by decide) rfl⟩
    · --
     have hp := cnd_f hc20 hp
     refine oR [oT 12, oT 13] [(27, vP b18 0), (26, .slice A_k k.length c_k), (25, .bool false), (7, vP b18 0), (0, .slice A_k k.length c_k), (8, .slice A_l l.length c_l), (9, vI (l.length : Int)), (10, vI i2)] [27, 26, 25, 7, 0, 8, 9, 10] (by kernel_rfl) ?_
     refine ops_load (d := some 28) (an := [.v (vI x4.Kind)]) (evs := [.load ⟨b18, 0, none⟩ (vI x4.Kind)]) (v := vI x4.Kind) ⟨by kernel_rfl⟩ (fun w_ hM => ⟨hM.cell 0 rfl rfl, rfl⟩) ?_
     refine oR [] [(28, vI x4.Kind), (26, .slice A_k k.length c_k), (25, .bool false), (7, vP b18 0), (0, .slice A_k k.length c_k), (8, .slice A_l l.length c_l), (9, vI (l.length : Int)), (10, vI i2)] [28, 26, 25, 7, 0, 8, 9, 10] (by kernel_rfl) ?_
     obtain ⟨x21, hv22, hp⟩ := obind hp
     obtain ⟨m23, hm24, hx25⟩ := idx_some hv22
     have hl28 := (List.getElem?_eq_some_iff.1 hx25).1
     obtain ⟨ad29, vs26, hA30, hr27, hq31⟩ := RdS.el h_k hx25
     obtain ⟨A32, c33, rfl, h34⟩ := dec_api_Kind hr27
     refine ops_val (op := (Go.Op.indexAddr 46 (Go.Operand.tmp 26) (Go.Operand.tmp 28))) (d := some 29) (v := .pointer (some (ad29.add (m23 * 2)))) ⟨by kernel_rfl⟩ (run_indexA hA30 Try.underlying46 (z := 2) (by kernel_rfl) rfl rfl hm24 hl28) ?_
     refine oR [] [(29, .pointer (some (ad29.add (m23 * 2)))), (25, .bool false), (7, vP b18 0), (0, .slice A_k k.length c_k), (8, .slice A_l l.length c_l), (9, vI (l.length : Int)), (10, vI i2)] [29, 25, 7, 0, 8, 9, 10] (by kernel_rfl) ?_
     refine ops_load (d := some 30) (an := [.v (.string x21.Name), .v (.slice A32 x21.Fields.length c33)]) (evs := [.load (ad29.add (m23 * 2)) (.string x21.Name), .load ((ad29.add (m23 * 2)).add 1) (.slice A32 x21.Fields.length c33)]) (v := .agg #[.string x21.Name, .slice A32 x21.Fields.length c33]) ⟨by kernel_rfl⟩ (fun w_ hM => ⟨hM.elcell 1 rfl hq31 0 rfl, hM.elcell 1 rfl hq31 1 rfl, rfl⟩) ?_
     refine oR [oT 17] [(31, vP b18 1), (30, .agg #[.string x21.Name, .slice A32 x21.Fields.length c33]), (25, .bool false), (7, vP b18 0), (0, .slice A_k k.length c_k), (8, .slice A_l l.length c_l), (9, vI (l.length : Int)), (10, vI i2)] [31, 30, 25, 7, 0, 8, 9, 10] (by kernel_rfl) ?_
     refine ops_load (d := some 32) (an := [.v (.slice A15 x4.Vals.length c16)]) (evs := [.load ⟨b18, 1, none⟩ (.slice A15 x4.Vals.length c16)]) (v := .slice A15 x4.Vals.length c16) ⟨by kernel_rfl⟩ (fun w_ hM => ⟨hM.cell 0 rfl rfl, rfl⟩) ?_
     refine oR [] [(32, .slice A15 x4.Vals.length c16), (30, .agg #[.string x21.Name, .slice A32 x21.Fields.length c33]), (25, .bool false), (7, vP b18 0), (0, .slice A_k k.length c_k), (8, .slice A_l l.length c_l), (9, vI (l.length : Int)), (10, vI i2)] [32, 30, 25, 7, 0, 8, 9, 10] (by kernel_rfl) ?_
     obtain ⟨x35, hv36, hp⟩ := obind hp
     refine ops_callI (σ := Unit) (d := some 33) (f := 120) (args := #[.agg #[.string x21.Name, .slice A32 x21.Fields.length c33], .slice A15 x4.Vals.length c16]) (v := (fun _ => .bool x35)) (I := (fun _ => True)) (M' := (fun _ => Mem w0 (.blk b18 [vI x4.Kind, .slice A15 x4.Vals.length c16] 63 :: Fz F W :: cs))) ⟨by kernel_rfl⟩ (fun w_ hM hS => (kind_Holds_ok w0 w_ (.blk b18 [vI x4.Kind, .slice A15 x4.Vals.length c16] 63 :: cs) F W x21.Name A32 c33 x21.Fields A15 c16 x4.Vals (hM.pick 2 [1, 0] (by kernel_rfl) (by decide) rfl) h34 h17 x35 hv36).mono (by rintro e w' ⟨-, rfl, h'⟩; have h' : Mem w0 (.blk b18 [vI x4.Kind, .slice A15 x4.Vals.length c16] 63 :: Fz F W :: cs) w' := (h'.pick 2 [1, 0] (by kernel_rfl) (by decide) rfl); exact ⟨(), trivial, rfl, h', (by exact h'.sub (.cons_cons _ (.cons_cons _ (.refl _))))⟩)) ?_
     rintro _ -
     refine ops_conv (l' := [(33, .bool x35), (32, .slice A15 x4.Vals.length c16), (30, .agg #[.string x21.Name, .slice A32 x21.Fields.length c33]), (25, .bool false), (7, vP b18 0), (0, .slice A_k k.length c_k), (8, .slice A_l l.length c_l), (9, vI (l.length : Int)), (10, vI i2)]) (M' := Mem w0 (.blk b18 [vI x4.Kind, .slice A15 x4.Vals.length c16] 63 :: Fz F W :: cs)) rfl (fun _ h => h) ?_
     refine oR [oT 20, oT 21] [(35, .bool (!x35)), (7, vP b18 0), (0, .slice A_k k.length c_k), (8, .slice A_l l.length c_l), (9, vI (l.length : Int)), (10, vI i2)] [35, 7, 0, 8, 9, 10] (by kernel_rfl) ?_
     refine ops_nil ?_
     refine fin_then ?_
     refine st_if (b := !x35) rfl (fun hc37 => ?_) (fun hc37 => ?_)
     · --
      have hp := cnd_t hc37 hp
      refine st_seq ?_
      refine st_region [oF 0] (by rfl) ?_
      refine oR [oF 0] [(4, .bool false)] [4] (by kernel_rfl) ?_
      refine ops_nil ?_
      refine fin_then ?_
      refine st_ret ?_
      refine fin_ret_then ?_
      refine fin_ret_block ?_
      refine fin_ret_then ?_
      refine fin_ret_then ?_
      refine fin_ret_block ?_
      refine fin_ret_then ?_
      obtain hq_ := Option.some.inj hp
      subst hq_
      obtain hq_ := hd2 _ rfl
      subst hq_
      have hp : some false = some t9001 := hk2
      have hq_ := Option.some.inj hp
      have hr0_ := hq_
      subst hr0_
      refine fin_ret [.tmp 4] [.bool false] rfl rfl (fun w_ hM => (.tmp rfl .nil)) (fun w_ hM => ?_)
      exact ⟨trivial, rfl, hM.pick 2 [1] (by kernel_rfl) (by decide) rfl⟩
     · --
      have hp := cnd_f hc37 hp
      refine st_skip ?_
      refine fin_then ?_
      refine st_region [oF 0, oF 1, oF 2] (by rfl) ?_
      refine oR [oF 0] [(36, vP b18 0), (0, .slice A_k k.length c_k), (8, .slice A_l l.length c_l), (9, vI (l.length : Int)), (10, vI i2)] [36, 0, 8, 9, 10] (by kernel_rfl) ?_
      refine ops_mem (d := some 37) (an := [.v (vI x4.Kind)]) (evs := [.load ⟨b18, 0, none⟩ (vI x4.Kind)]) (v := vI x4.Kind) (M' := Mem w0 (.blk b18 [vI x4.Kind, .slice A15 x4.Vals.length c16] 63 :: Fz F W :: cs)) ⟨by kernel_rfl⟩ (fun w_ hM hS => ⟨w_, ⟨hM.cell 0 rfl rfl, rfl⟩, hM, trivial⟩) ?_
      refine oR [oF 2] [(5, vI x4.Kind), (0, .slice A_k k.length c_k), (8, .slice A_l l.length c_l), (9, vI (l.length : Int)), (10, vI i2)] [5, 0, 8, 9, 10] (by kernel_rfl) ?_
      refine ops_nil ?_
      refine fin_block ?_
      refine fin_then ?_
      refine st_region [oF 0, oF 1] (by rfl) ?_
      refine oR [oF 0, oF 1] [(10, vI (IntKind.i64.wrap (i2 + 1))), (5, vI x4.Kind), (0, .slice A_k k.length c_k), (8, .slice A_l l.length c_l), (9, vI (l.length : Int))] [10, 5, 0, 8, 9] (by kernel_rfl) ?_
      refine ops_nil ?_
      exact fin_again (x4.Kind, IntKind.i64.wrap (i2 + 1)) () (Option.some.inj hp).symm trivial (look_has ⟨rfl, rfl, rfl, rfl, rfl, trivial⟩) (fun w_ hM => hM.pick 2 [1] (by kernel_rfl) (by decide) rfl)
  · --
   have hp := cnd_f hc3 hp
   refine st_exit ?_
   refine fin_exit_then ?_
   refine fin_exit_then ?_
   refine fin_exit ?_
   obtain hq_ := Option.some.inj hp
   subst hq_
   obtain hq_ := hd2 _ rfl
   subst hq_
   have hp : world_held_j1 = some t9001 := hk2
   exact fin_join HJ1 () hp (look_has trivial) (fun w_ hM => hM)
def world_Check__t0 : List Row := [⟨0, 562949953421312, 256⟩, ⟨1, 1125899906842624, 562949953421312⟩, ⟨2, 2251799813685248, 1125899906842624⟩, ⟨0, 4503599627370496, 64⟩, ⟨12, 9007199254740992, 6755399441055744⟩, ⟨16, 18014398509481984, 9007199254740992⟩, ⟨32, 36028797018963968, 18014398509482240⟩, ⟨96, 72057594037927936, 54043195528445952⟩, ⟨160, 144115188075855872, 90071992547409920⟩, ⟨32, 288230376151711744, 18014398509481986⟩, ⟨544, 576460752303423488, 306244774661193728⟩, ⟨1056, 1152921504606846976, 594475150812905472⟩, ⟨2336, 2305843009213693952, 1315051091192184832⟩, ⟨4128, 4611686018427387904, 2323857407723175936⟩, ⟨8224, 9223372036854775808, 4611686018427387904⟩, ⟨16384, 18446744073709551616, 9223372036854776064⟩, ⟨49152, 36893488147419103232, 27670116110564327424⟩, ⟨81920, 73786976294838206464, 46116860184273879040⟩, ⟨16384, 147573952589676412928, 9223372036854775810⟩, ⟨278528, 295147905179352825856, 156797324626531188736⟩, ⟨16384, 590295810358705651712, 9223372036854776064⟩, ⟨1064960, 1180591620717411303424, 599519182395560427520⟩, ⟨2113536, 2361183241434822606848, 1189814992754266079232⟩, ⟨4734976, 4722366482869645213696, 2665554518651030208512⟩, ⟨8404992, 9444732965739290427392, 4731589854906499989504⟩, ⟨16924672, 18889465931478580854784, 9527743314070983409664⟩, ⟨33570816, 37778931862957161709568, 18898689303515435630592⟩, ⟨67125248, 75557863725914323419136, 37778931862957161709568⟩, ⟨134217728, 151115727451828646838272, 75557863725914323419392⟩, ⟨402653184, 302231454903657293676544, 226673591177742970257408⟩, ⟨671088640, 604462909807314587353088, 377789318629571617095680⟩, ⟨1207959552, 1208925819614629174706176, 680020773533228910772224⟩, ⟨2281701376, 2417851639229258349412352, 1284483683340543498125312⟩, ⟨4429185024, 4835703278458516698824704, 2417851639229258349412352⟩, ⟨8589934592, 9671406556917033397649408, 4835703278458516698824706⟩, ⟨25769803776, 19342813113834066795298816, 14507109835375550096474112⟩, ⟨8589934592, 38685626227668133590597632, 4835703278458516698824960⟩, ⟨77309411328, 77371252455336267181195264, 43521329506126650289422336⟩, ⟨180388626432, 154742504910672534362390528, 101549768847628850675318784⟩, ⟨283467841536, 309485009821345068724781056, 159578208189131051061215232⟩, ⟨558345748480, 618970019642690137449562112, 314320713099803585423605760⟩]
set_option maxHeartbeats 4000000 in
set_option maxRecDepth 100000 in
theorem world_Check_ok (w0 w : World) (cs : List Chunk) (F : Nat → Prop) (W : World) (A_w_0 : Option Addr) (c_w_0 : Nat) (w_0 : List api_Kind) (A_w_1 : Option Addr) (c_w_1 : Nat) (w_1 : List Int) (A_w_2 : Option Addr) (c_w_2 : Nat) (w_2 : List api_Item) (hM0 : Mem w0 (Fz F W :: cs) w) (h_w_0 : RdS R_api_Kind F W A_w_0 c_w_0 w_0) (h_w_1 : RdS (Rep.int .i64) F W A_w_1 c_w_1 w_1) (h_w_2 : RdS R_api_Item F W A_w_2 c_w_2 w_2) (i9001 : Int) (hp : world_Check w_0 w_1 w_2 = some i9001) : Calls Try.prog 94 #[.agg #[.slice A_w_0 w_0.length c_w_0, .slice A_w_1 w_1.length c_w_1, .slice A_w_2 w_2.length c_w_2]] w fun e w' => (True) ∧ e = .returned (vI i9001) ∧ Mem w0 (Fz F W :: cs) w' := by
 unfold world_Check at hp
 refine sx_calls Try.func94 rfl (n := 94) (by kernel_rfl) (l := [(0, .agg #[.slice A_w_0 w_0.length c_w_0, .slice A_w_1 w_1.length c_w_1, .slice A_w_2 w_2.length c_w_2])]) rfl (by rfl) hM0 ?_
 refine st_seq ?_
 refine st_region [oF 0, oF 1] (by rfl) ?_
 refine ops_new (d := some 1) (o := .cells #[.slice A_w_0 w_0.length c_w_0, .slice A_w_1 w_1.length c_w_1, .slice A_w_2 w_2.length c_w_2] 49) (v := fun b1 => vP b1 0) (M' := fun b1 => Mem w0 (.blk b1 [.slice A_w_0 w_0.length c_w_0, .slice A_w_1 w_1.length c_w_1, .slice A_w_2 w_2.length c_w_2] 49 :: Fz F W :: cs)) (fun b1 => ⟨by kernel_rfl⟩) (fun w_ hM hS => ⟨hM.blk [.slice A_w_0 w_0.length c_w_0, .slice A_w_1 w_1.length c_w_1, .slice A_w_2 w_2.length c_w_2] 49, trivial⟩) (fun b1 => ?_)
 refine oR [oF 1] [(1, vP b1 0)] [1] (by kernel_rfl) ?_
 refine ops_nil ?_
 refine fin_then ?_
 refine st_seq ?_
 refine st_seq ?_
 refine st_region [oF 0, oF 1, oF 2, oF 3] (by rfl) ?_
 refine oR [oF 0] [(9, vP b1 0), (1, vP b1 0)] [9, 1] (by kernel_rfl) ?_
 refine ops_mem (d := some 10) (an := [.v (.slice A_w_0 w_0.length c_w_0)]) (evs := [.load ⟨b1, 0, none⟩ (.slice A_w_0 w_0.length c_w_0)]) (v := .slice A_w_0 w_0.length c_w_0) (M' := Mem w0 (.blk b1 [.slice A_w_0 w_0.length c_w_0, .slice A_w_1 w_1.length c_w_1, .slice A_w_2 w_2.length c_w_2] 49 :: Fz F W :: cs)) ⟨by kernel_rfl⟩ (fun w_ hM hS => ⟨w_, ⟨hM.cell 0 rfl rfl, rfl⟩, hM, trivial⟩) ?_
 refine oR [] [(10, .slice A_w_0 w_0.length c_w_0), (1, vP b1 0)] [10, 1] (by kernel_rfl) ?_
 obtain ⟨x2, hv3, hp⟩ := obind hp
 refine ops_callI (σ := Unit) (d := some 11) (f := 110) (args := #[.slice A_w_0 w_0.length c_w_0]) (v := (fun _ => vI x2)) (I := (fun _ => True)) (M' := (fun _ => Mem w0 (.blk b1 [.slice A_w_0 w_0.length c_w_0, .slice A_w_1 w_1.length c_w_1, .slice A_w_2 w_2.length c_w_2] 49 :: Fz F W :: cs))) ⟨by kernel_rfl⟩ (fun w_ hM hS => (kind_Check_ok w0 w_ (.blk b1 [.slice A_w_0 w_0.length c_w_0, .slice A_w_1 w_1.length c_w_1, .slice A_w_2 w_2.length c_w_2] 49 :: cs) F W A_w_0 c_w_0 w_0 (hM.pick 2 [1, 0] (by kernel_rfl) (by decide) rfl) h_w_0 x2 hv3).mono (by rintro e w' ⟨-, rfl, h'⟩; have h' : Mem w0 (.blk b1 [.slice A_w_0 w_0.length c_w_0, .slice A_w_1 w_1.length c_w_1, .slice A_w_2 w_2.length c_w_2] 49 :: Fz F W :: cs) w' := (h'.pick 2 [1, 0] (by kernel_rfl) (by decide) rfl); exact ⟨(), trivial, rfl, h', trivial⟩)) ?_
 rintro _ -
 refine ops_conv (l' := [(11, vI x2), (10, .slice A_w_0 w_0.length c_w_0), (1, vP b1 0)]) (M' := Mem w0 (.blk b1 [.slice A_w_0 w_0.length c_w_0, .slice A_w_1 w_1.length c_w_1, .slice A_w_2 w_2.length c_w_2] 49 :: Fz F W :: cs)) rfl (fun _ h => h) ?_
 refine oR [oF 3] [(3, vI x2), (1, vP b1 0)] [3, 1] (by kernel_rfl) ?_
 refine ops_nil ?_
 refine fin_then ?_
 refine st_seq ?_
 refine st_region [oF 0, oF 1] (by rfl) ?_
 refine oR [oF 0, oF 1] [(13, .bool (!(x2 == 0))), (3, vI x2), (1, vP b1 0)] [13, 3, 1] (by kernel_rfl) ?_
 refine ops_nil ?_
 refine fin_then ?_
 refine st_if (b := !(x2 == 0)) rfl (fun hc4 => ?_) (fun hc4 => ?_)
 · --
  have hp := cnd_t hc4 hp
  refine st_seq ?_
  refine st_region [oF 0, oF 1] (by rfl) ?_
  refine oR [oF 0, oF 1] [(2, vI x2)] [2] (by kernel_rfl) ?_
  refine ops_nil ?_
  refine fin_then ?_
  refine st_ret ?_
  refine fin_ret_then ?_
  have hq_ := Option.some.inj hp
  have hr0_ := hq_
  subst hr0_
  refine fin_ret [.tmp 2] [vI x2] rfl rfl (fun w_ hM => (.tmp rfl .nil)) (fun w_ hM => ?_)
  exact ⟨trivial, rfl, hM.pick 2 [1] (by kernel_rfl) (by decide) rfl⟩
 · --
  have hp := cnd_f hc4 hp
  refine st_skip ?_
  refine fin_then ?_
  refine st_seq ?_
  refine st_seq ?_
  refine st_region [oF 0, oF 1, oF 2, oF 3, oF 4, oF 5, oF 6, oF 7, oF 8, oF 9, oF 10, oF 11, oF 12] (by rfl) ?_
  refine oR [oF 0] [(15, vP b1 1), (1, vP b1 0)] [15, 1] (by kernel_rfl) ?_
  refine ops_mem (d := some 16) (an := [.v (.slice A_w_1 w_1.length c_w_1)]) (evs := [.load ⟨b1, 1, none⟩ (.slice A_w_1 w_1.length c_w_1)]) (v := .slice A_w_1 w_1.length c_w_1) (M' := Mem w0 (.blk b1 [.slice A_w_0 w_0.length c_w_0, .slice A_w_1 w_1.length c_w_1, .slice A_w_2 w_2.length c_w_2] 49 :: Fz F W :: cs)) ⟨by kernel_rfl⟩ (fun w_ hM hS => ⟨w_, ⟨hM.cell 0 rfl rfl, rfl⟩, hM, trivial⟩) ?_
  refine oR [oF 2, oF 3, oF 4] [(19, .bool (decide (256 < (w_1.length : Int)))), (1, vP b1 0)] [19, 1] (by kernel_rfl) ?_
  refine ops_bool (t := decide (256 < (w_1.length : Int))) (l1 := [(19, .bool true), (1, vP b1 0)]) (l2 := [(19, .bool false), (1, vP b1 0)]) (fun h => by rw [h]) (fun h => by rw [h]) (fun hc5 => ?_) (fun hc5 => ?_)
  · --
   have hp := cnd_t hc5 hp
   refine oR [oF 5, oF 6, oF 7, oF 8, oF 9, oF 10, oF 11, oF 12] [(27, .bool true), (1, vP b1 0)] [27, 1] (by kernel_rfl) ?_
   refine ops_nil ?_
   refine fin_then ?_
   refine st_true rfl ?_
   refine st_seq ?_
   refine st_region [oF 0] (by rfl) ?_
   refine oR [oF 0] [(2, vI 2)] [2] (by kernel_rfl) ?_
   refine ops_nil ?_
   refine fin_then ?_
   refine st_ret ?_
   refine fin_ret_then ?_
   have hq_ := Option.some.inj hp
   have hr0_ := hq_
   subst hr0_
   refine fin_ret [.tmp 2] [vI 2] rfl rfl (fun w_ hM => (.tmp rfl .nil)) (fun w_ hM => ?_)
   exact ⟨trivial, rfl, hM.pick 2 [1] (by kernel_rfl) (by decide) rfl⟩
  · --
   have hp := cnd_f hc5 hp
   refine oR [oF 5] [(20, vP b1 2), (19, .bool false), (1, vP b1 0)] [20, 19, 1] (by kernel_rfl) ?_
   refine ops_mem (d := some 21) (an := [.v (.slice A_w_2 w_2.length c_w_2)]) (evs := [.load ⟨b1, 2, none⟩ (.slice A_w_2 w_2.length c_w_2)]) (v := .slice A_w_2 w_2.length c_w_2) (M' := Mem w0 (.blk b1 [.slice A_w_0 w_0.length c_w_0, .slice A_w_1 w_1.length c_w_1, .slice A_w_2 w_2.length c_w_2] 49 :: Fz F W :: cs)) ⟨by kernel_rfl⟩ (fun w_ hM hS => ⟨w_, ⟨hM.cell 0 rfl rfl, rfl⟩, hM, trivial⟩) ?_
   refine oR [oF 7, oF 8] [(23, vP b1 1), (22, vI (w_2.length : Int)), (19, .bool false), (1, vP b1 0)] [23, 22, 19, 1] (by kernel_rfl) ?_
   refine ops_mem (d := some 24) (an := [.v (.slice A_w_1 w_1.length c_w_1)]) (evs := [.load ⟨b1, 1, none⟩ (.slice A_w_1 w_1.length c_w_1)]) (v := .slice A_w_1 w_1.length c_w_1) (M' := Mem w0 (.blk b1 [.slice A_w_0 w_0.length c_w_0, .slice A_w_1 w_1.length c_w_1, .slice A_w_2 w_2.length c_w_2] 49 :: Fz F W :: cs)) ⟨by kernel_rfl⟩ (fun w_ hM hS => ⟨w_, ⟨hM.cell 0 rfl rfl, rfl⟩, hM, trivial⟩) ?_
   refine oR [oF 10, oF 11, oF 12] [(27, .bool (decide ((w_1.length : Int) < (w_2.length : Int)))), (1, vP b1 0)] [27, 1] (by kernel_rfl) ?_
   refine ops_nil ?_
   refine fin_then ?_
   refine st_if (b := decide ((w_1.length : Int) < (w_2.length : Int))) rfl (fun hc6 => ?_) (fun hc6 => ?_)
   · --
    have hp := cnd_t hc6 hp
    refine st_seq ?_
    refine st_region [oF 0] (by rfl) ?_
    refine oR [oF 0] [(2, vI 2)] [2] (by kernel_rfl) ?_
    refine ops_nil ?_
    refine fin_then ?_
    refine st_ret ?_
    refine fin_ret_then ?_
    have hq_ := Option.some.inj hp
    have hr0_ := hq_
    subst hr0_
    refine fin_ret [.tmp 2] [vI 2] rfl rfl (fun w_ hM => (.tmp rfl .nil)) (fun w_ hM => ?_)
    exact ⟨trivial, rfl, hM.pick 2 [1] (by kernel_rfl) (by decide) rfl⟩
   · --
    have hp := cnd_f hc6 hp
    refine st_skip ?_
    refine fin_then ?_
    refine st_join1 (σ := Unit) (L := fun _ => [(1, vP b1 0)]) (N := fun _ => Mem w0 (.blk b1 [.slice A_w_0 w_0.length c_w_0, .slice A_w_1 w_1.length c_w_1, .slice A_w_2 w_2.length c_w_2] 49 :: Fz F W :: cs)) (I := fun _ => ((world_Check_j1 w_2 w_1 w_0) = some i9001)) ?_ ?_
    · --
     rintro _ hp
     refine st_conv (l' := [(1, vP b1 0)]) (M' := Mem w0 (.blk b1 [.slice A_w_0 w_0.length c_w_0, .slice A_w_1 w_1.length c_w_1, .slice A_w_2 w_2.length c_w_2] 49 :: Fz F W :: cs)) rfl (fun _ h => h) ?_
     unfold world_Check_j1 at hp
     refine st_seq ?_
     refine st_region [oF 0] (by rfl) ?_
     refine oR [oF 0] [(6, vI (-1)), (1, vP b1 0)] [6, 1] (by kernel_rfl) ?_
     refine ops_nil ?_
     refine fin_then ?_
     refine st_join1 (σ := Unit) (L := fun _ => []) (N := fun _ => Mem w0 (Fz F W :: cs)) (I := fun _ => (world_Check_j2 = some i9001)) ?_ ?_
     · --
      rintro _ hp
      refine st_conv (l' := []) (M' := Mem w0 (Fz F W :: cs)) rfl (fun _ h => h) ?_
      unfold world_Check_j2 at hp
      refine st_seq ?_
      refine st_region [oF 0] (by rfl) ?_
      refine oR [oF 0] [(2, vI 0)] [2] (by kernel_rfl) ?_
      refine ops_nil ?_
      refine fin_then ?_
      refine st_ret ?_
      have hq_ := Option.some.inj hp
      have hr0_ := hq_
      subst hr0_
      refine fin_ret [.tmp 2] [vI 0] rfl rfl (fun w_ hM => (.tmp rfl .nil)) (fun w_ hM => ?_)
      exact ⟨trivial, rfl, hM⟩
     · --
      intro HJ2
      refine st_seq ?_
      refine st_seq ?_
      refine st_region [oF 0, oF 1, oF 2, oF 3] (by rfl) ?_
      refine oR [oF 0] [(42, vP b1 2), (6, vI (-1)), (1, vP b1 0)] [42, 6, 1] (by kernel_rfl) ?_
      refine ops_mem (d := some 43) (an := [.v (.slice A_w_2 w_2.length c_w_2)]) (evs := [.load ⟨b1, 2, none⟩ (.slice A_w_2 w_2.length c_w_2)]) (v := .slice A_w_2 w_2.length c_w_2) (M' := Mem w0 (.blk b1 [.slice A_w_0 w_0.length c_w_0, .slice A_w_1 w_1.length c_w_1, .slice A_w_2 w_2.length c_w_2] 49 :: Fz F W :: cs)) ⟨by kernel_rfl⟩ (fun w_ hM hS => ⟨w_, ⟨hM.cell 0 rfl rfl, rfl⟩, hM, trivial⟩) ?_
      refine oR [oF 2, oF 3] [(45, vI 0), (44, vI (w_2.length : Int)), (43, .slice A_w_2 w_2.length c_w_2), (6, vI (-1)), (1, vP b1 0)] [45, 44, 43, 6, 1] (by kernel_rfl) ?_
      refine ops_nil ?_
      refine fin_then ?_
      refine st_block ?_
      obtain ⟨r3, hl3, hk3⟩ := obind hp
      refine st_loopP (σ := Int × Int) (ρ := (Int ⊕ Unit)) (γ := Unit) hl3 () (fun s_ g_ => match s_, g_ with | (i7, i8), _ => [(1, vP b1 0), (6, vI i7), (43, .slice A_w_2 w_2.length c_w_2), (44, vI (w_2.length : Int)), (45, vI i8)]) (fun s_ g_ => match s_, g_ with | (i7, i8), _ => Mem w0 (.blk b1 [.slice A_w_0 w_0.length c_w_0, .slice A_w_1 w_1.length c_w_1, .slice A_w_2 w_2.length c_w_2] 49 :: Fz F W :: cs)) (fun s_ g_ => match s_, g_ with | (i7, i8), _ => True) trivial (look_has ⟨rfl, rfl, rfl, rfl, rfl, trivial⟩) (fun w_ hM => hM) ?_
      rintro ⟨i7, i8⟩ _ o3 - hs_ hd3
      have hp : (world_Check_l3 w_2 w_1 w_0) i7 i8 = some o3 := hs_
      clear hs_
      unfold world_Check_l3 at hp
      refine st_conv (l' := [(1, vP b1 0), (6, vI i7), (43, .slice A_w_2 w_2.length c_w_2), (44, vI (w_2.length : Int)), (45, vI i8)]) (M' := Mem w0 (.blk b1 [.slice A_w_0 w_0.length c_w_0, .slice A_w_1 w_1.length c_w_1, .slice A_w_2 w_2.length c_w_2] 49 :: Fz F W :: cs)) rfl (fun _ h => h) ?_
      refine st_seq ?_
      refine st_region [oF 0] (by rfl) ?_
      refine oR [oF 0] [(46, .bool (decide (i8 < (w_2.length : Int)))), (1, vP b1 0), (6, vI i7), (43, .slice A_w_2 w_2.length c_w_2), (44, vI (w_2.length : Int)), (45, vI i8)] [46, 1, 6, 43, 44, 45] (by kernel_rfl) ?_
      refine ops_nil ?_
      refine fin_then ?_
      refine st_seq ?_
      refine st_if (b := decide (i8 < (w_2.length : Int))) rfl (fun hc9 => ?_) (fun hc9 => ?_)
      · --
       have hp := cnd_t hc9 hp
       refine st_skip ?_
       refine fin_then ?_
       refine st_seq ?_
       refine st_block ?_
       refine st_seq ?_
       refine st_region [oF 0, oF 1, oF 2, oF 3] (by rfl) ?_
       refine oR [] [(1, vP b1 0), (6, vI i7), (43, .slice A_w_2 w_2.length c_w_2), (44, vI (w_2.length : Int)), (45, vI i8)] [1, 6, 43, 44, 45] (by kernel_rfl) ?_
       obtain ⟨x10, hv11, hp⟩ := obind hp
       obtain ⟨m12, hm13, hx14⟩ := idx_some hv11
       have hl17 := (List.getElem?_eq_some_iff.1 hx14).1
       obtain ⟨ad18, vs15, hA19, hr16, hq20⟩ := RdS.el h_w_2 hx14
       obtain ⟨A21, c22, rfl, h23⟩ := dec_api_Item hr16
       refine ops_val (op := (Go.Op.indexAddr 47 (Go.Operand.tmp 43) (Go.Operand.tmp 45))) (d := some 47) (v := .pointer (some (ad18.add (m12 * 3)))) ⟨by kernel_rfl⟩ (run_indexA hA19 Try.underlying47 (z := 3) (by kernel_rfl) rfl rfl hm13 hl17) ?_
       refine ops_mem (d := some 48) (an := [.v (vI x10.Ent.N), .v (vI x10.Ent.Gen), .v (.slice A21 x10.Comps.length c22)]) (evs := [.load (ad18.add (m12 * 3)) (vI x10.Ent.N), .load ((ad18.add (m12 * 3)).add 1) (vI x10.Ent.Gen), .load ((ad18.add (m12 * 3)).add 2) (.slice A21 x10.Comps.length c22)]) (v := .agg #[vI x10.Ent.N, vI x10.Ent.Gen, .slice A21 x10.Comps.length c22]) (M' := Mem w0 (.blk b1 [.slice A_w_0 w_0.length c_w_0, .slice A_w_1 w_1.length c_w_1, .slice A_w_2 w_2.length c_w_2] 49 :: Fz F W :: cs)) ⟨by kernel_rfl⟩ (fun w_ hM hS => ⟨w_, ⟨hM.elcell 1 rfl hq20 0 rfl, hM.elcell 1 rfl hq20 1 rfl, hM.elcell 1 rfl hq20 2 rfl, rfl⟩, hM, trivial⟩) ?_
       refine oR [] [(48, .agg #[vI x10.Ent.N, vI x10.Ent.Gen, .slice A21 x10.Comps.length c22]), (1, vP b1 0), (6, vI i7), (43, .slice A_w_2 w_2.length c_w_2), (44, vI (w_2.length : Int)), (45, vI i8)] [48, 1, 6, 43, 44, 45] (by kernel_rfl) ?_
       refine ops_new (d := some 8) (o := .cells #[vI 0, vI 0, .slice none 0 0] 58) (v := fun b24 => vP b24 0) (M' := fun b24 => Mem w0 (.blk b24 [vI 0, vI 0, .slice none 0 0] 58 :: .blk b1 [.slice A_w_0 w_0.length c_w_0, .slice A_w_1 w_1.length c_w_1, .slice A_w_2 w_2.length c_w_2] 49 :: Fz F W :: cs)) (fun b24 => ⟨by kernel_rfl⟩) (fun w_ hM hS => ⟨hM.blk [vI 0, vI 0, .slice none 0 0] 58, trivial⟩) (fun b24 => ?_)
       refine ops_store (an := []) (evs := [.store ⟨b24, 0, none⟩ (vI x10.Ent.N), .store ⟨b24, 1, none⟩ (vI x10.Ent.Gen), .store ⟨b24, 2, none⟩ (.slice A21 x10.Comps.length c22)]) (M' := Mem w0 (.blk b24 [vI x10.Ent.N, vI x10.Ent.Gen, .slice A21 x10.Comps.length c22] 58 :: .blk b1 [.slice A_w_0 w_0.length c_w_0, .slice A_w_1 w_1.length c_w_1, .slice A_w_2 w_2.length c_w_2] 49 :: Fz F W :: cs)) ⟨by kernel_rfl⟩ (fun w_ hM hS => let ⟨w', he, h'⟩ := hM.evs_stores [vI x10.Ent.N, vI x10.Ent.Gen, .slice A21 x10.Comps.length c22] 0 rfl 0 (Nat.le_of_ble_eq_true rfl); ⟨w', he, h', trivial⟩) ?_
       refine oR [] [(8, vP b24 0), (1, vP b1 0), (6, vI i7), (43, .slice A_w_2 w_2.length c_w_2), (44, vI (w_2.length : Int)), (45, vI i8)] [8, 1, 6, 43, 44, 45] (by kernel_rfl) ?_
       refine ops_nil ?_
       refine fin_then ?_
       refine st_seq ?_
       refine st_seq ?_
       refine st_region_fast world_Check__t0 [oT 0, oT 1, oT 2, oT 3, oT 4, oT 5, oT 6, oT 7, oT 8, oT 9, oT 10, oT 11, oT 12, oT 13, oT 14, oT 15, oT 16, oT 17, oT 18, oT 19, oT 20, oT 21, oT 22, oT 23, oT 24, oT 25, oT 26, oT 27, oT 28, oT 29, oT 30, oT 31, oT 32, oT 33, oT 34, oT 35, oT 36, oT 37, oF 38, oT 39, oT 40] (Mem w0 (.blk b24 [vI x10.Ent.N, vI x10.Ent.Gen, .slice A21 x10.Comps.length c22] 58 :: .blk b1 [.slice A_w_0 w_0.length c_w_0, .slice A_w_1 w_1.length c_w_1, .slice A_w_2 w_2.length c_w_2] 49 :: Fz F W :: cs)) (by kernel_rfl) (by kernel_rfl) (by kernel_rfl) (by kernel_rfl) (by kernel_rfl) (fun _ d _ _ _ h => by cases d <;> exact h) (M' := Mem w0 (.blk b24 [vI x10.Ent.N, vI x10.Ent.Gen, .slice A21 x10.Comps.length c22] 58 :: .blk b1 [.slice A_w_0 w_0.length c_w_0, .slice A_w_1 w_1.length c_w_1, .slice A_w_2 w_2.length c_w_2] 49 :: Fz F W :: cs)) (fun w_ hM => ⟨hM.drew, hM.drew.sub (.cons_cons _ (.cons_cons _ (.cons_cons _ (.refl _))))⟩) ?_
       refine oR [oT 0, oT 1] [(50, vP b24 0), (8, vP b24 0), (1, vP b1 0), (6, vI i7), (43, .slice A_w_2 w_2.length c_w_2), (44, vI (w_2.length : Int)), (45, vI i8)] [50, 8, 1, 6, 43, 44, 45] (by kernel_rfl) ?_
       refine ops_load (d := some 51) (an := [.v (vI x10.Ent.N)]) (evs := [.load ⟨b24, 0, none⟩ (vI x10.Ent.N)]) (v := vI x10.Ent.N) ⟨by kernel_rfl⟩ (fun w_ hM => ⟨hM.cell 0 rfl rfl, rfl⟩) ?_
       refine oR [oT 3, oT 4, oT 5] [(54, .bool (decide (x10.Ent.N ≤ i7))), (8, vP b24 0), (1, vP b1 0), (43, .slice A_w_2 w_2.length c_w_2), (44, vI (w_2.length : Int)), (45, vI i8)] [54, 8, 1, 43, 44, 45] (by kernel_rfl) ?_
       refine ops_bool (t := decide (x10.Ent.N ≤ i7)) (l1 := [(54, .bool true), (8, vP b24 0), (1, vP b1 0), (43, .slice A_w_2 w_2.length c_w_2), (44, vI (w_2.length : Int)), (45, vI i8)]) (l2 := [(54, .bool false), (8, vP b24 0), (1, vP b1 0), (43, .slice A_w_2 w_2.length c_w_2), (44, vI (w_2.length : Int)), (45, vI i8)]) (fun h => by rw [h]) (fun h => by rw [h]) (fun hc25 => ?_) (fun hc25 => ?_)
       · --
        have hp := cnd_t hc25 hp
        refine oR [oT 6, oT 7, oT 8, oT 9, oT 10, oT 11, oT 12, oT 13, oT 14, oT 15, oT 16, oT 17, oT 18, oT 19, oT 20, oT 21, oT 22, oT 23, oT 24, oT 25, oT 26, oT 27, oT 28, oT 29, oT 30, oT 31, oT 32, oT 33, oT 34, oT 35, oT 36, oT 37, oF 38, oT 39, oT 40] [(89, .bool true), (8, vP b24 0), (1, vP b1 0), (43, .slice A_w_2 w_2.length c_w_2), (44, vI (w_2.length : Int)), (45, vI i8)] [89, 8, 1, 43, 44, 45] (by kernel_rfl) ?_
        refine ops_nil ?_
        refine fin_then ?_
        refine st_true rfl ?_
        refine st_seq ?_
        refine st_region [oF 0] (by rfl) ?_
        refine oR [oF 0] [(2, vI 3)] [2] (by kernel_rfl) ?_
        refine ops_nil ?_
        refine fin_then ?_
        refine st_ret ?_
        refine fin_ret_then ?_
        refine fin_ret_block ?_
        refine fin_ret_then ?_
        refine fin_ret_then ?_
        refine fin_ret_block ?_
        refine fin_ret_then ?_
        obtain hq_ := Option.some.inj hp
        subst hq_
        obtain hq_ := hd3 _ rfl
        subst hq_
        have hp : some 3 = some i9001 := hk3
        have hq_ := Option.some.inj hp
        have hr0_ := hq_
        subst hr0_
        refine fin_ret [.tmp 2] [vI 3] rfl rfl (fun w_ hM => (.tmp rfl .nil)) (fun w_ hM => ?_)
        exact ⟨trivial, rfl, hM.pick 3 [2] (by kernel_rfl) (by decide) rfl⟩
       · --
        have hp := cnd_f hc25 hp
        refine oR [oT 6, oT 7] [(56, vP b24 0), (54, .bool false), (8, vP b24 0), (1, vP b1 0), (43, .slice A_w_2 w_2.length c_w_2), (44, vI (w_2.length : Int)), (45, vI i8)] [56, 54, 8, 1, 43, 44, 45] (by kernel_rfl) ?_
        refine ops_load (d := some 57) (an := [.v (vI x10.Ent.N)]) (evs := [.load ⟨b24, 0, none⟩ (vI x10.Ent.N)]) (v := vI x10.Ent.N) ⟨by kernel_rfl⟩ (fun w_ hM => ⟨hM.cell 0 rfl rfl, rfl⟩) ?_
        refine oR [oT 9] [(58, vP b1 1), (57, vI x10.Ent.N), (54, .bool false), (8, vP b24 0), (1, vP b1 0), (43, .slice A_w_2 w_2.length c_w_2), (44, vI (w_2.length : Int)), (45, vI i8)] [58, 57, 54, 8, 1, 43, 44, 45] (by kernel_rfl) ?_
        refine ops_load (d := some 59) (an := [.v (.slice A_w_1 w_1.length c_w_1)]) (evs := [.load ⟨b1, 1, none⟩ (.slice A_w_1 w_1.length c_w_1)]) (v := .slice A_w_1 w_1.length c_w_1) ⟨by kernel_rfl⟩ (fun w_ hM => ⟨hM.cell 1 rfl rfl, rfl⟩) ?_
        refine oR [oT 11, oT 12, oT 13, oT 14] [(63, .bool (decide ((w_1.length : Int) ≤ x10.Ent.N))), (8, vP b24 0), (1, vP b1 0), (43, .slice A_w_2 w_2.length c_w_2), (44, vI (w_2.length : Int)), (45, vI i8)] [63, 8, 1, 43, 44, 45] (by kernel_rfl) ?_
        refine ops_bool (t := decide ((w_1.length : Int) ≤ x10.Ent.N)) (l1 := [(63, .bool true), (8, vP b24 0), (1, vP b1 0), (43, .slice A_w_2 w_2.length c_w_2), (44, vI (w_2.length : Int)), (45, vI i8)]) (l2 := [(63, .bool false), (8, vP b24 0), (1, vP b1 0), (43, .slice A_w_2 w_2.length c_w_2), (44, vI (w_2.length : Int)), (45, vI i8)]) (fun h => by rw [h]) (fun h => by rw [h]) (fun hc26 => ?_) (fun hc26 => ?_)
        · --
         have hp := cnd_t hc26 hp
         refine oR [oT 15, oT 16, oT 17, oT 18, oT 19, oT 20, oT 21, oT 22, oT 23, oT 24, oT 25, oT 26, oT 27, oT 28, oT 29, oT 30, oT 31, oT 32, oT 33, oT 34, oT 35, oT 36, oT 37, oF 38, oT 39, oT 40] [(89, .bool true), (8, vP b24 0), (1, vP b1 0), (43, .slice A_w_2 w_2.length c_w_2), (44, vI (w_2.length : Int)), (45, vI i8)] [89, 8, 1, 43, 44, 45] (by kernel_rfl) ?_
         refine ops_nil ?_
         refine fin_then ?_
         refine st_true rfl ?_
         refine st_seq ?_
         refine st_region [oF 0] (by rfl) ?_
         refine oR [oF 0] [(2, vI 3)] [2] (by kernel_rfl) ?_
         refine ops_nil ?_
         refine fin_then ?_
         refine st_ret ?_
         refine fin_ret_then ?_
         refine fin_ret_block ?_
         refine fin_ret_then ?_
         refine fin_ret_then ?_
         refine fin_ret_block ?_
         refine fin_ret_then ?_
         obtain hq_ := Option.some.inj hp
         subst hq_
         obtain hq_ := hd3 _ rfl
         subst hq_
         have hp : some 3 = some i9001 := hk3
         have hq_ := Option.some.inj hp
         have hr0_ := hq_
         subst hr0_
         refine fin_ret [.tmp 2] [vI 3] rfl rfl (fun w_ hM => (.tmp rfl .nil)) (fun w_ hM => ?_)
         exact ⟨trivial, rfl, hM.pick 3 [2] (by kernel_rfl) (by decide) rfl⟩
        · --
         have hp := cnd_f hc26 hp
         refine oR [oT 15, oT 16] [(65, vP b24 1), (63, .bool false), (8, vP b24 0), (1, vP b1 0), (43, .slice A_w_2 w_2.length c_w_2), (44, vI (w_2.length : Int)), (45, vI i8)] [65, 63, 8, 1, 43, 44, 45] (by kernel_rfl) ?_
         refine ops_load (d := some 66) (an := [.v (vI x10.Ent.Gen)]) (evs := [.load ⟨b24, 1, none⟩ (vI x10.Ent.Gen)]) (v := vI x10.Ent.Gen) ⟨by kernel_rfl⟩ (fun w_ hM => ⟨hM.cell 0 rfl rfl, rfl⟩) ?_
         refine oR [oT 18] [(67, vP b1 1), (66, vI x10.Ent.Gen), (63, .bool false), (8, vP b24 0), (1, vP b1 0), (43, .slice A_w_2 w_2.length c_w_2), (44, vI (w_2.length : Int)), (45, vI i8)] [67, 66, 63, 8, 1, 43, 44, 45] (by kernel_rfl) ?_
         refine ops_load (d := some 68) (an := [.v (.slice A_w_1 w_1.length c_w_1)]) (evs := [.load ⟨b1, 1, none⟩ (.slice A_w_1 w_1.length c_w_1)]) (v := .slice A_w_1 w_1.length c_w_1) ⟨by kernel_rfl⟩ (fun w_ hM => ⟨hM.cell 1 rfl rfl, rfl⟩) ?_
         refine oR [oT 20, oT 21] [(70, vP b24 0), (68, .slice A_w_1 w_1.length c_w_1), (66, vI x10.Ent.Gen), (63, .bool false), (8, vP b24 0), (1, vP b1 0), (43, .slice A_w_2 w_2.length c_w_2), (44, vI (w_2.length : Int)), (45, vI i8)] [70, 68, 66, 63, 8, 1, 43, 44, 45] (by kernel_rfl) ?_
         refine ops_load (d := some 71) (an := [.v (vI x10.Ent.N)]) (evs := [.load ⟨b24, 0, none⟩ (vI x10.Ent.N)]) (v := vI x10.Ent.N) ⟨by kernel_rfl⟩ (fun w_ hM => ⟨hM.cell 0 rfl rfl, rfl⟩) ?_
         refine oR [] [(71, vI x10.Ent.N), (68, .slice A_w_1 w_1.length c_w_1), (66, vI x10.Ent.Gen), (63, .bool false), (8, vP b24 0), (1, vP b1 0), (43, .slice A_w_2 w_2.length c_w_2), (44, vI (w_2.length : Int)), (45, vI i8)] [71, 68, 66, 63, 8, 1, 43, 44, 45] (by kernel_rfl) ?_
         obtain ⟨x27, hv28, hp⟩ := obind hp
         obtain ⟨m29, hm30, hx31⟩ := idx_some hv28
         have hl34 := (List.getElem?_eq_some_iff.1 hx31).1
         obtain ⟨ad35, vs32, hA36, hr33, hq37⟩ := RdS.el h_w_1 hx31
         obtain rfl := hr33
         refine ops_val (op := (Go.Op.indexAddr 39 (Go.Operand.tmp 68) (Go.Operand.tmp 71))) (d := some 72) (v := .pointer (some (ad35.add (m29 * 1)))) ⟨by kernel_rfl⟩ (run_indexA hA36 Try.underlying39 (z := 1) (by kernel_rfl) rfl rfl hm30 hl34) ?_
         refine oR [] [(72, .pointer (some (ad35.add (m29 * 1)))), (66, vI x10.Ent.Gen), (63, .bool false), (8, vP b24 0), (1, vP b1 0), (43, .slice A_w_2 w_2.length c_w_2), (44, vI (w_2.length : Int)), (45, vI i8)] [72, 66, 63, 8, 1, 43, 44, 45] (by kernel_rfl) ?_
         refine ops_load (d := some 73) (an := [.v (vI x27)]) (evs := [.load (ad35.add (m29 * 1)) (vI x27)]) (v := vI x27) ⟨by kernel_rfl⟩ (fun w_ hM => ⟨hM.elcell 2 rfl hq37 0 rfl, rfl⟩) ?_
         refine oR [oT 25, oT 26, oT 27] [(76, .bool (!(x10.Ent.Gen == x27))), (8, vP b24 0), (1, vP b1 0), (43, .slice A_w_2 w_2.length c_w_2), (44, vI (w_2.length : Int)), (45, vI i8)] [76, 8, 1, 43, 44, 45] (by kernel_rfl) ?_
         refine ops_bool (t := !(x10.Ent.Gen == x27)) (l1 := [(76, .bool true), (8, vP b24 0), (1, vP b1 0), (43, .slice A_w_2 w_2.length c_w_2), (44, vI (w_2.length : Int)), (45, vI i8)]) (l2 := [(76, .bool false), (8, vP b24 0), (1, vP b1 0), (43, .slice A_w_2 w_2.length c_w_2), (44, vI (w_2.length : Int)), (45, vI i8)]) (fun h => by rw [h]) (fun h => by rw [h]) (fun hc38 => ?_) (fun hc38 => ?_)
         · --
          have hp := cnd_t hc38 hp
          refine oR [oT 28, oT 29, oT 30, oT 31, oT 32, oT 33, oT 34, oT 35, oT 36, oT 37, oF 38, oT 39, oT 40] [(89, .bool true), (8, vP b24 0), (1, vP b1 0), (43, .slice A_w_2 w_2.length c_w_2), (44, vI (w_2.length : Int)), (45, vI i8)] [89, 8, 1, 43, 44, 45] (by kernel_rfl) ?_
          refine ops_nil ?_
          refine fin_then ?_
          refine st_true rfl ?_
          refine st_seq ?_
          refine st_region [oF 0] (by rfl) ?_
          refine oR [oF 0] [(2, vI 3)] [2] (by kernel_rfl) ?_
          refine ops_nil ?_
          refine fin_then ?_
          refine st_ret ?_
          refine fin_ret_then ?_
          refine fin_ret_block ?_
          refine fin_ret_then ?_
          refine fin_ret_then ?_
          refine fin_ret_block ?_
          refine fin_ret_then ?_
          obtain hq_ := Option.some.inj hp
          subst hq_
          obtain hq_ := hd3 _ rfl
          subst hq_
          have hp : some 3 = some i9001 := hk3
          have hq_ := Option.some.inj hp
          have hr0_ := hq_
          subst hr0_
          refine fin_ret [.tmp 2] [vI 3] rfl rfl (fun w_ hM => (.tmp rfl .nil)) (fun w_ hM => ?_)
          exact ⟨trivial, rfl, hM.pick 3 [2] (by kernel_rfl) (by decide) rfl⟩
         · --
          have hp := cnd_f hc38 hp
          refine oR [oT 28, oT 29] [(78, vP b24 1), (76, .bool false), (8, vP b24 0), (1, vP b1 0), (43, .slice A_w_2 w_2.length c_w_2), (44, vI (w_2.length : Int)), (45, vI i8)] [78, 76, 8, 1, 43, 44, 45] (by kernel_rfl) ?_
          refine ops_load (d := some 79) (an := [.v (vI x10.Ent.Gen)]) (evs := [.load ⟨b24, 1, none⟩ (vI x10.Ent.Gen)]) (v := vI x10.Ent.Gen) ⟨by kernel_rfl⟩ (fun w_ hM => ⟨hM.cell 0 rfl rfl, rfl⟩) ?_
          refine oR [oT 31, oT 32, oT 33] [(82, .bool (x10.Ent.Gen == 1073741824)), (8, vP b24 0), (1, vP b1 0), (43, .slice A_w_2 w_2.length c_w_2), (44, vI (w_2.length : Int)), (45, vI i8)] [82, 8, 1, 43, 44, 45] (by kernel_rfl) ?_
          refine ops_bool (t := (x10.Ent.Gen == 1073741824)) (l1 := [(82, .bool true), (8, vP b24 0), (1, vP b1 0), (43, .slice A_w_2 w_2.length c_w_2), (44, vI (w_2.length : Int)), (45, vI i8)]) (l2 := [(82, .bool false), (8, vP b24 0), (1, vP b1 0), (43, .slice A_w_2 w_2.length c_w_2), (44, vI (w_2.length : Int)), (45, vI i8)]) (fun h => by rw [h]) (fun h => by rw [h]) (fun hc39 => ?_) (fun hc39 => ?_)
          · --
           have hp := cnd_t hc39 hp
           refine oR [oT 34, oT 35, oT 36, oT 37, oF 38, oT 39, oT 40] [(89, .bool true), (8, vP b24 0), (1, vP b1 0), (43, .slice A_w_2 w_2.length c_w_2), (44, vI (w_2.length : Int)), (45, vI i8)] [89, 8, 1, 43, 44, 45] (by kernel_rfl) ?_
           refine ops_nil ?_
           refine fin_then ?_
           refine st_true rfl ?_
           refine st_seq ?_
           refine st_region [oF 0] (by rfl) ?_
           refine oR [oF 0] [(2, vI 3)] [2] (by kernel_rfl) ?_
           refine ops_nil ?_
           refine fin_then ?_
           refine st_ret ?_
           refine fin_ret_then ?_
           refine fin_ret_block ?_
           refine fin_ret_then ?_
           refine fin_ret_then ?_
           refine fin_ret_block ?_
           refine fin_ret_then ?_
           obtain hq_ := Option.some.inj hp
           subst hq_
           obtain hq_ := hd3 _ rfl
           subst hq_
           have hp : some 3 = some i9001 := hk3
           have hq_ := Option.some.inj hp
           have hr0_ := hq_
           subst hr0_
           refine fin_ret [.tmp 2] [vI 3] rfl rfl (fun w_ hM => (.tmp rfl .nil)) (fun w_ hM => ?_)
           exact ⟨trivial, rfl, hM.pick 3 [2] (by kernel_rfl) (by decide) rfl⟩
          · --
           have hp := cnd_f hc39 hp
           refine oR [oT 34] [(83, vP b1 0), (82, .bool false), (8, vP b24 0), (1, vP b1 0), (43, .slice A_w_2 w_2.length c_w_2), (44, vI (w_2.length : Int)), (45, vI i8)] [83, 82, 8, 1, 43, 44, 45] (by kernel_rfl) ?_
           refine ops_load (d := some 84) (an := [.v (.slice A_w_0 w_0.length c_w_0)]) (evs := [.load ⟨b1, 0, none⟩ (.slice A_w_0 w_0.length c_w_0)]) (v := .slice A_w_0 w_0.length c_w_0) ⟨by kernel_rfl⟩ (fun w_ hM => ⟨hM.cell 1 rfl rfl, rfl⟩) ?_
           refine oR [oT 36] [(85, vP b24 2), (84, .slice A_w_0 w_0.length c_w_0), (82, .bool false), (8, vP b24 0), (1, vP b1 0), (43, .slice A_w_2 w_2.length c_w_2), (44, vI (w_2.length : Int)), (45, vI i8)] [85, 84, 82, 8, 1, 43, 44, 45] (by kernel_rfl) ?_
           refine ops_load (d := some 86) (an := [.v (.slice A21 x10.Comps.length c22)]) (evs := [.load ⟨b24, 2, none⟩ (.slice A21 x10.Comps.length c22)]) (v := .slice A21 x10.Comps.length c22) ⟨by kernel_rfl⟩ (fun w_ hM => ⟨hM.cell 0 rfl rfl, rfl⟩) ?_
           refine oR [] [(86, .slice A21 x10.Comps.length c22), (84, .slice A_w_0 w_0.length c_w_0), (82, .bool false), (8, vP b24 0), (1, vP b1 0), (43, .slice A_w_2 w_2.length c_w_2), (44, vI (w_2.length : Int)), (45, vI i8)] [86, 84, 82, 8, 1, 43, 44, 45] (by kernel_rfl) ?_
           obtain ⟨x40, hv41, hp⟩ := obind hp
           refine ops_callI (σ := Unit) (d := some 87) (f := 111) (args := #[.slice A_w_0 w_0.length c_w_0, .slice A21 x10.Comps.length c22]) (v := (fun _ => .bool x40)) (I := (fun _ => True)) (M' := (fun _ => Mem w0 (.blk b24 [vI x10.Ent.N, vI x10.Ent.Gen, .slice A21 x10.Comps.length c22] 58 :: .blk b1 [.slice A_w_0 w_0.length c_w_0, .slice A_w_1 w_1.length c_w_1, .slice A_w_2 w_2.length c_w_2] 49 :: Fz F W :: cs))) ⟨by kernel_rfl⟩ (fun w_ hM hS => (world_held_ok w0 w_ (.blk b24 [vI x10.Ent.N, vI x10.Ent.Gen, .slice A21 x10.Comps.length c22] 58 :: .blk b1 [.slice A_w_0 w_0.length c_w_0, .slice A_w_1 w_1.length c_w_1, .slice A_w_2 w_2.length c_w_2] 49 :: cs) F W A_w_0 c_w_0 w_0 A21 c22 x10.Comps (hM.pick 3 [2, 0, 1] (by kernel_rfl) (by decide) rfl) h_w_0 h23 x40 hv41).mono (by rintro e w' ⟨-, rfl, h'⟩; have h' : Mem w0 (.blk b24 [vI x10.Ent.N, vI x10.Ent.Gen, .slice A21 x10.Comps.length c22] 58 :: .blk b1 [.slice A_w_0 w_0.length c_w_0, .slice A_w_1 w_1.length c_w_1, .slice A_w_2 w_2.length c_w_2] 49 :: Fz F W :: cs) w' := (h'.pick 3 [1, 2, 0] (by kernel_rfl) (by decide) rfl); exact ⟨(), trivial, rfl, h', (by exact h'.sub (.cons_cons _ (.cons_cons _ (.cons_cons _ (.refl _)))))⟩)) ?_
           rintro _ -
           refine ops_conv (l' := [(87, .bool x40), (86, .slice A21 x10.Comps.length c22), (84, .slice A_w_0 w_0.length c_w_0), (82, .bool false), (8, vP b24 0), (1, vP b1 0), (43, .slice A_w_2 w_2.length c_w_2), (44, vI (w_2.length : Int)), (45, vI i8)]) (M' := Mem w0 (.blk b24 [vI x10.Ent.N, vI x10.Ent.Gen, .slice A21 x10.Comps.length c22] 58 :: .blk b1 [.slice A_w_0 w_0.length c_w_0, .slice A_w_1 w_1.length c_w_1, .slice A_w_2 w_2.length c_w_2] 49 :: Fz F W :: cs)) rfl (fun _ h => h) ?_
           refine oR [oT 39, oT 40] [(89, .bool (!x40)), (8, vP b24 0), (1, vP b1 0), (43, .slice A_w_2 w_2.length c_w_2), (44, vI (w_2.length : Int)), (45, vI i8)] [89, 8, 1, 43, 44, 45] (by kernel_rfl) ?_
           refine ops_nil ?_
           refine fin_then ?_
           refine st_if (b := !x40) rfl (fun hc42 => ?_) (fun hc42 => ?_)
           · --
            have hp := cnd_t hc42 hp
            refine st_seq ?_
            refine st_region [oF 0] (by rfl) ?_
            refine oR [oF 0] [(2, vI 3)] [2] (by kernel_rfl) ?_
            refine ops_nil ?_
            refine fin_then ?_
            refine st_ret ?_
            refine fin_ret_then ?_
            refine fin_ret_block ?_
            refine fin_ret_then ?_
            refine fin_ret_then ?_
            refine fin_ret_block ?_
            refine fin_ret_then ?_
            obtain hq_ := Option.some.inj hp
            subst hq_
            obtain hq_ := hd3 _ rfl
            subst hq_
            have hp : some 3 = some i9001 := hk3
            have hq_ := Option.some.inj hp
            have hr0_ := hq_
            subst hr0_
            refine fin_ret [.tmp 2] [vI 3] rfl rfl (fun w_ hM => (.tmp rfl .nil)) (fun w_ hM => ?_)
            exact ⟨trivial, rfl, hM.pick 3 [2] (by kernel_rfl) (by decide) rfl⟩
           · --
            have hp := cnd_f hc42 hp
            refine st_skip ?_
            refine fin_then ?_
            refine st_region [oF 0, oF 1, oF 2, oF 3] (by rfl) ?_
            refine oR [oF 0, oF 1] [(91, vP b24 0), (1, vP b1 0), (43, .slice A_w_2 w_2.length c_w_2), (44, vI (w_2.length : Int)), (45, vI i8)] [91, 1, 43, 44, 45] (by kernel_rfl) ?_
            refine ops_mem (d := some 92) (an := [.v (vI x10.Ent.N)]) (evs := [.load ⟨b24, 0, none⟩ (vI x10.Ent.N)]) (v := vI x10.Ent.N) (M' := Mem w0 (.blk b24 [vI x10.Ent.N, vI x10.Ent.Gen, .slice A21 x10.Comps.length c22] 58 :: .blk b1 [.slice A_w_0 w_0.length c_w_0, .slice A_w_1 w_1.length c_w_1, .slice A_w_2 w_2.length c_w_2] 49 :: Fz F W :: cs)) ⟨by kernel_rfl⟩ (fun w_ hM hS => ⟨w_, ⟨hM.cell 0 rfl rfl, rfl⟩, hM, trivial⟩) ?_
            refine oR [oF 3] [(6, vI x10.Ent.N), (1, vP b1 0), (43, .slice A_w_2 w_2.length c_w_2), (44, vI (w_2.length : Int)), (45, vI i8)] [6, 1, 43, 44, 45] (by kernel_rfl) ?_
            refine ops_nil ?_
            refine fin_block ?_
            refine fin_then ?_
            refine st_region [oF 0, oF 1] (by rfl) ?_
            refine oR [oF 0, oF 1] [(45, vI (IntKind.i64.wrap (i8 + 1))), (6, vI x10.Ent.N), (1, vP b1 0), (43, .slice A_w_2 w_2.length c_w_2), (44, vI (w_2.length : Int))] [45, 6, 1, 43, 44] (by kernel_rfl) ?_
            refine ops_nil ?_
            exact fin_again (x10.Ent.N, IntKind.i64.wrap (i8 + 1)) () (Option.some.inj hp).symm trivial (look_has ⟨rfl, rfl, rfl, rfl, rfl, trivial⟩) (fun w_ hM => hM.pick 3 [1, 2] (by kernel_rfl) (by decide) rfl)
      · --
       have hp := cnd_f hc9 hp
       refine st_exit ?_
       refine fin_exit_then ?_
       refine fin_exit_then ?_
       refine fin_exit ?_
       obtain hq_ := Option.some.inj hp
       subst hq_
       obtain hq_ := hd3 _ rfl
       subst hq_
       have hp : world_Check_j2 = some i9001 := hk3
       exact fin_join HJ2 () hp (look_has trivial) (fun w_ hM => hM.pick 2 [1] (by kernel_rfl) (by decide) rfl)
    · --
     intro HJ1
     refine st_seq ?_
     refine st_seq ?_
     refine st_region [oF 0, oF 1, oF 2, oF 3] (by rfl) ?_
     refine oR [oF 0] [(28, vP b1 1), (1, vP b1 0)] [28, 1] (by kernel_rfl) ?_
     refine ops_mem (d := some 29) (an := [.v (.slice A_w_1 w_1.length c_w_1)]) (evs := [.load ⟨b1, 1, none⟩ (.slice A_w_1 w_1.length c_w_1)]) (v := .slice A_w_1 w_1.length c_w_1) (M' := Mem w0 (.blk b1 [.slice A_w_0 w_0.length c_w_0, .slice A_w_1 w_1.length c_w_1, .slice A_w_2 w_2.length c_w_2] 49 :: Fz F W :: cs)) ⟨by kernel_rfl⟩ (fun w_ hM hS => ⟨w_, ⟨hM.cell 0 rfl rfl, rfl⟩, hM, trivial⟩) ?_
     refine oR [oF 2, oF 3] [(31, vI 0), (30, vI (w_1.length : Int)), (29, .slice A_w_1 w_1.length c_w_1), (1, vP b1 0)] [31, 30, 29, 1] (by kernel_rfl) ?_
     refine ops_nil ?_
     refine fin_then ?_
     refine st_block ?_
     obtain ⟨r4, hl4, hk4⟩ := obind hp
     refine st_loopP (σ := Int) (ρ := (Int ⊕ Unit)) (γ := Unit) hl4 () (fun s_ g_ => match s_, g_ with | i43, _ => [(1, vP b1 0), (29, .slice A_w_1 w_1.length c_w_1), (30, vI (w_1.length : Int)), (31, vI i43)]) (fun s_ g_ => match s_, g_ with | i43, _ => Mem w0 (.blk b1 [.slice A_w_0 w_0.length c_w_0, .slice A_w_1 w_1.length c_w_1, .slice A_w_2 w_2.length c_w_2] 49 :: Fz F W :: cs)) (fun s_ g_ => match s_, g_ with | i43, _ => True) trivial (look_has ⟨rfl, rfl, rfl, rfl, trivial⟩) (fun w_ hM => hM) ?_
     rintro i43 _ o4 - hs_ hd4
     have hp : (world_Check_l4 w_1) i43 = some o4 := hs_
     clear hs_
     unfold world_Check_l4 at hp
     refine st_conv (l' := [(1, vP b1 0), (29, .slice A_w_1 w_1.length c_w_1), (30, vI (w_1.length : Int)), (31, vI i43)]) (M' := Mem w0 (.blk b1 [.slice A_w_0 w_0.length c_w_0, .slice A_w_1 w_1.length c_w_1, .slice A_w_2 w_2.length c_w_2] 49 :: Fz F W :: cs)) rfl (fun _ h => h) ?_
     refine st_seq ?_
     refine st_region [oF 0] (by rfl) ?_
     refine oR [oF 0] [(32, .bool (decide (i43 < (w_1.length : Int)))), (1, vP b1 0), (29, .slice A_w_1 w_1.length c_w_1), (30, vI (w_1.length : Int)), (31, vI i43)] [32, 1, 29, 30, 31] (by kernel_rfl) ?_
     refine ops_nil ?_
     refine fin_then ?_
     refine st_seq ?_
     refine st_if (b := decide (i43 < (w_1.length : Int))) rfl (fun hc44 => ?_) (fun hc44 => ?_)
     · --
      have hp := cnd_t hc44 hp
      refine st_skip ?_
      refine fin_then ?_
      refine st_seq ?_
      refine st_block ?_
      refine st_seq ?_
      refine st_region [oF 0, oF 1, oF 2] (by rfl) ?_
      refine oR [] [(1, vP b1 0), (29, .slice A_w_1 w_1.length c_w_1), (30, vI (w_1.length : Int)), (31, vI i43)] [1, 29, 30, 31] (by kernel_rfl) ?_
      obtain ⟨x45, hv46, hp⟩ := obind hp
      obtain ⟨m47, hm48, hx49⟩ := idx_some hv46
      have hl52 := (List.getElem?_eq_some_iff.1 hx49).1
      obtain ⟨ad53, vs50, hA54, hr51, hq55⟩ := RdS.el h_w_1 hx49
      obtain rfl := hr51
      refine ops_val (op := (Go.Op.indexAddr 39 (Go.Operand.tmp 29) (Go.Operand.tmp 31))) (d := some 33) (v := .pointer (some (ad53.add (m47 * 1)))) ⟨by kernel_rfl⟩ (run_indexA hA54 Try.underlying39 (z := 1) (by kernel_rfl) rfl rfl hm48 hl52) ?_
      refine ops_mem (d := some 34) (an := [.v (vI x45)]) (evs := [.load (ad53.add (m47 * 1)) (vI x45)]) (v := vI x45) (M' := Mem w0 (.blk b1 [.slice A_w_0 w_0.length c_w_0, .slice A_w_1 w_1.length c_w_1, .slice A_w_2 w_2.length c_w_2] 49 :: Fz F W :: cs)) ⟨by kernel_rfl⟩ (fun w_ hM hS => ⟨w_, ⟨hM.elcell 1 rfl hq55 0 rfl, rfl⟩, hM, trivial⟩) ?_
      refine oR [oF 2] [(5, vI x45), (1, vP b1 0), (29, .slice A_w_1 w_1.length c_w_1), (30, vI (w_1.length : Int)), (31, vI i43)] [5, 1, 29, 30, 31] (by kernel_rfl) ?_
      refine ops_nil ?_
      refine fin_then ?_
      refine st_seq ?_
      refine st_region [oF 0, oF 1, oF 2, oF 3, oF 4, oF 5] (by rfl) ?_
      refine oR [oF 0, oF 1, oF 2] [(37, .bool (decide (x45 < 0))), (5, vI x45), (1, vP b1 0), (29, .slice A_w_1 w_1.length c_w_1), (30, vI (w_1.length : Int)), (31, vI i43)] [37, 5, 1, 29, 30, 31] (by kernel_rfl) ?_
      refine ops_bool (t := decide (x45 < 0)) (l1 := [(37, .bool true), (5, vI x45), (1, vP b1 0), (29, .slice A_w_1 w_1.length c_w_1), (30, vI (w_1.length : Int)), (31, vI i43)]) (l2 := [(37, .bool false), (5, vI x45), (1, vP b1 0), (29, .slice A_w_1 w_1.length c_w_1), (30, vI (w_1.length : Int)), (31, vI i43)]) (fun h => by rw [h]) (fun h => by rw [h]) (fun hc56 => ?_) (fun hc56 => ?_)
      · --
       have hp := cnd_t hc56 hp
       refine oR [oF 3, oF 4, oF 5] [(40, .bool true), (1, vP b1 0), (29, .slice A_w_1 w_1.length c_w_1), (30, vI (w_1.length : Int)), (31, vI i43)] [40, 1, 29, 30, 31] (by kernel_rfl) ?_
       refine ops_nil ?_
       refine fin_then ?_
       refine st_true rfl ?_
       refine st_seq ?_
       refine st_region [oF 0] (by rfl) ?_
       refine oR [oF 0] [(2, vI 3)] [2] (by kernel_rfl) ?_
       refine ops_nil ?_
       refine fin_then ?_
       refine st_ret ?_
       refine fin_ret_block ?_
       refine fin_ret_then ?_
       refine fin_ret_then ?_
       refine fin_ret_block ?_
       refine fin_ret_then ?_
       obtain hq_ := Option.some.inj hp
       subst hq_
       obtain hq_ := hd4 _ rfl
       subst hq_
       have hp : some 3 = some i9001 := hk4
       have hq_ := Option.some.inj hp
       have hr0_ := hq_
       subst hr0_
       refine fin_ret [.tmp 2] [vI 3] rfl rfl (fun w_ hM => (.tmp rfl .nil)) (fun w_ hM => ?_)
       exact ⟨trivial, rfl, hM.pick 2 [1] (by kernel_rfl) (by decide) rfl⟩
      · --
       have hp := cnd_f hc56 hp
       refine oR [oF 3, oF 4, oF 5] [(40, .bool (decide (1073741824 < x45))), (1, vP b1 0), (29, .slice A_w_1 w_1.length c_w_1), (30, vI (w_1.length : Int)), (31, vI i43)] [40, 1, 29, 30, 31] (by kernel_rfl) ?_
       refine ops_nil ?_
       refine fin_then ?_
       refine st_if (b := decide (1073741824 < x45)) rfl (fun hc57 => ?_) (fun hc57 => ?_)
       · --
        have hp := cnd_t hc57 hp
        refine st_seq ?_
        refine st_region [oF 0] (by rfl) ?_
        refine oR [oF 0] [(2, vI 3)] [2] (by kernel_rfl) ?_
        refine ops_nil ?_
        refine fin_then ?_
        refine st_ret ?_
        refine fin_ret_block ?_
        refine fin_ret_then ?_
        refine fin_ret_then ?_
        refine fin_ret_block ?_
        refine fin_ret_then ?_
        obtain hq_ := Option.some.inj hp
        subst hq_
        obtain hq_ := hd4 _ rfl
        subst hq_
        have hp : some 3 = some i9001 := hk4
        have hq_ := Option.some.inj hp
        have hr0_ := hq_
        subst hr0_
        refine fin_ret [.tmp 2] [vI 3] rfl rfl (fun w_ hM => (.tmp rfl .nil)) (fun w_ hM => ?_)
        exact ⟨trivial, rfl, hM.pick 2 [1] (by kernel_rfl) (by decide) rfl⟩
       · --
        have hp := cnd_f hc57 hp
        refine st_skip ?_
        refine fin_block ?_
        refine fin_then ?_
        refine st_region [oF 0, oF 1] (by rfl) ?_
        refine oR [oF 0, oF 1] [(31, vI (IntKind.i64.wrap (i43 + 1))), (1, vP b1 0), (29, .slice A_w_1 w_1.length c_w_1), (30, vI (w_1.length : Int))] [31, 1, 29, 30] (by kernel_rfl) ?_
        refine ops_nil ?_
        exact fin_again (IntKind.i64.wrap (i43 + 1)) () (Option.some.inj hp).symm trivial (look_has ⟨rfl, rfl, rfl, rfl, trivial⟩) (fun w_ hM => hM)
     · --
      have hp := cnd_f hc44 hp
      refine st_exit ?_
      refine fin_exit_then ?_
      refine fin_exit_then ?_
      refine fin_exit ?_
      obtain hq_ := Option.some.inj hp
      subst hq_
      obtain hq_ := hd4 _ rfl
      subst hq_
      have hp : (world_Check_j1 w_2 w_1 w_0) = some i9001 := hk4
      exact fin_join HJ1 () hp (look_has ⟨rfl, trivial⟩) (fun w_ hM => hM)
set_option maxHeartbeats 4000000 in
set_option maxRecDepth 100000 in
theorem world_Fit_1_ok (w0 w : World) (cs : List Chunk) (F : Nat → Prop) (W : World) (o_0 : Int) (A_o_1 : Option Addr) (c_o_1 : Nat) (o_1 : List Int) (b_p1 : Nat) (p1_0 : Int) (A_p1_1 : Option Addr) (c_p1_1 : Nat) (p1_1 : List Int) (hM0 : Mem w0 (.blk b_p1 [vI p1_0, .slice A_p1_1 p1_1.length c_p1_1] 63 :: Fz F W :: cs) w) (h_o_1 : RdS (Rep.int .i64) F W A_o_1 c_o_1 o_1) (h_p1_1 : RdS (Rep.int .i64) F W A_p1_1 c_p1_1 p1_1) (t9001 : Bool) (hp : world_Fit_1 o_0 o_1 p1_0 p1_1 = some t9001) : Calls Try.prog 121 #[.agg #[vI o_0, .slice A_o_1 o_1.length c_o_1], vP b_p1 0] w fun e w' => ((RdS (Rep.int .i64) F W A_p1_1 c_p1_1 p1_1)) ∧ e = .returned (.bool t9001) ∧ Mem w0 (.blk b_p1 [vI p1_0, .slice A_p1_1 p1_1.length c_p1_1] 63 :: Fz F W :: cs) w' := by
 unfold world_Fit_1 at hp
 refine sx_calls Try.func121 rfl (n := 9) (by kernel_rfl) (l := [(0, .agg #[vI o_0, .slice A_o_1 o_1.length c_o_1]), (1, vP b_p1 0)]) rfl (by rfl) hM0 ?_
 refine st_seq ?_
 refine st_region [oF 0, oF 1] (by rfl) ?_
 refine ops_new (d := some 2) (o := .cells #[vI o_0, .slice A_o_1 o_1.length c_o_1] 63) (v := fun b1 => vP b1 0) (M' := fun b1 => Mem w0 (.blk b1 [vI o_0, .slice A_o_1 o_1.length c_o_1] 63 :: .blk b_p1 [vI p1_0, .slice A_p1_1 p1_1.length c_p1_1] 63 :: Fz F W :: cs)) (fun b1 => ⟨by kernel_rfl⟩) (fun w_ hM hS => ⟨hM.blk [vI o_0, .slice A_o_1 o_1.length c_o_1] 63, trivial⟩) (fun b1 => ?_)
 refine oR [oF 1] [(2, vP b1 0), (1, vP b_p1 0)] [2, 1] (by kernel_rfl) ?_
 refine ops_nil ?_
 refine fin_then ?_
 refine st_seq ?_
 refine st_region [oF 0, oF 1, oF 2, oF 3, oF 4, oF 5] (by rfl) ?_
 refine oR [oF 0] [(4, vP b1 0), (1, vP b_p1 0)] [4, 1] (by kernel_rfl) ?_
 refine ops_mem (d := some 5) (an := [.v (vI o_0)]) (evs := [.load ⟨b1, 0, none⟩ (vI o_0)]) (v := vI o_0) (M' := Mem w0 (.blk b1 [vI o_0, .slice A_o_1 o_1.length c_o_1] 63 :: .blk b_p1 [vI p1_0, .slice A_p1_1 p1_1.length c_p1_1] 63 :: Fz F W :: cs)) ⟨by kernel_rfl⟩ (fun w_ hM hS => ⟨w_, ⟨hM.cell 0 rfl rfl, rfl⟩, hM, trivial⟩) ?_
 refine oR [oF 2] [(6, vP b_p1 0), (5, vI o_0)] [6, 5] (by kernel_rfl) ?_
 refine ops_mem (d := some 7) (an := [.v (vI p1_0)]) (evs := [.load ⟨b_p1, 0, none⟩ (vI p1_0)]) (v := vI p1_0) (M' := Mem w0 (.blk b1 [vI o_0, .slice A_o_1 o_1.length c_o_1] 63 :: .blk b_p1 [vI p1_0, .slice A_p1_1 p1_1.length c_p1_1] 63 :: Fz F W :: cs)) ⟨by kernel_rfl⟩ (fun w_ hM hS => ⟨w_, ⟨hM.cell 1 rfl rfl, rfl⟩, hM, trivial⟩) ?_
 refine oR [oF 4, oF 5] [(3, .bool (o_0 == p1_0))] [3] (by kernel_rfl) ?_
 refine ops_nil ?_
 refine fin_then ?_
 refine st_ret ?_
 have hq_ := Option.some.inj hp
 have hr0_ := hq_
 subst hr0_
 refine fin_ret [.tmp 3] [.bool (o_0 == p1_0)] rfl rfl (fun w_ hM => (.tmp rfl .nil)) (fun w_ hM => ?_)
 exact ⟨h_p1_1, rfl, hM.pick 3 [1, 2] (by kernel_rfl) (by decide) rfl⟩
set_option maxHeartbeats 4000000 in
set_option maxRecDepth 100000 in
theorem slices_IndexFunc_api_Comp_api_Comp_ok (w0 w : World) (cs : List Chunk) (F : Nat → Prop) (W : World) (A_s : Option Addr) (c_s : Nat) (s : List api_Comp) (b_f_c0 : Nat) (f_c0_0 : Int) (A_f_c0_1 : Option Addr) (c_f_c0_1 : Nat) (f_c0_1 : List Int) (hM0 : Mem w0 (.blk b_f_c0 [vI f_c0_0, .slice A_f_c0_1 f_c0_1.length c_f_c0_1] 63 :: Fz F W :: cs) w) (h_s : RdS R_api_Comp F W A_s c_s s) (h_f_c0_1 : RdS (Rep.int .i64) F W A_f_c0_1 c_f_c0_1 f_c0_1) (i9001 : Int) (hp : slices_IndexFunc_api_Comp_api_Comp s f_c0_0 f_c0_1 = some i9001) : Calls Try.prog 97 #[.slice A_s s.length c_s, .func (.func 121) #[] #[vP b_f_c0 0]] w fun e w' => ((RdS (Rep.int .i64) F W A_f_c0_1 c_f_c0_1 f_c0_1)) ∧ e = .returned (vI i9001) ∧ Mem w0 (.blk b_f_c0 [vI f_c0_0, .slice A_f_c0_1 f_c0_1.length c_f_c0_1] 63 :: Fz F W :: cs) w' := by
 unfold slices_IndexFunc_api_Comp_api_Comp at hp
 refine sx_calls Try.func97 rfl (n := 19) (by kernel_rfl) (l := [(0, .slice A_s s.length c_s), (1, .func (.func 121) #[] #[vP b_f_c0 0])]) rfl (by rfl) hM0 ?_
 refine st_seq ?_
 refine st_region [oF 0] (by rfl) ?_
 refine oR [oF 0] [(0, .slice A_s s.length c_s), (1, .func (.func 121) #[] #[vP b_f_c0 0])] [0, 1] (by kernel_rfl) ?_
 refine ops_nil ?_
 refine fin_then ?_
 refine st_join1 (σ := Unit) (L := fun _ => []) (N := fun _ => Mem w0 (.blk b_f_c0 [vI f_c0_0, .slice A_f_c0_1 f_c0_1.length c_f_c0_1] 63 :: Fz F W :: cs)) (I := fun _ => (slices_IndexFunc_api_Comp_api_Comp_j1 = some i9001) ∧ (RdS (Rep.int .i64) F W A_f_c0_1 c_f_c0_1 f_c0_1)) ?_ ?_
 · --
  rintro _ ⟨hp, h1⟩
  refine st_conv (l' := []) (M' := Mem w0 (.blk b_f_c0 [vI f_c0_0, .slice A_f_c0_1 f_c0_1.length c_f_c0_1] 63 :: Fz F W :: cs)) rfl (fun _ h => h) ?_
  unfold slices_IndexFunc_api_Comp_api_Comp_j1 at hp
  refine st_seq ?_
  refine st_region [oF 0] (by rfl) ?_
  refine oR [oF 0] [(4, vI (-1))] [4] (by kernel_rfl) ?_
  refine ops_nil ?_
  refine fin_then ?_
  refine st_ret ?_
  have hq_ := Option.some.inj hp
  have hr0_ := hq_
  subst hr0_
  refine fin_ret [.tmp 4] [vI (-1)] rfl rfl (fun w_ hM => (.tmp rfl .nil)) (fun w_ hM => ?_)
  exact ⟨h1, rfl, hM⟩
 · --
  intro HJ1
  refine st_seq ?_
  refine st_seq ?_
  refine st_region [oF 0, oF 1, oF 2] (by rfl) ?_
  refine oR [oF 0, oF 1, oF 2] [(8, vI 0), (7, vI (s.length : Int)), (0, .slice A_s s.length c_s), (1, .func (.func 121) #[] #[vP b_f_c0 0])] [8, 7, 0, 1] (by kernel_rfl) ?_
  refine ops_nil ?_
  refine fin_then ?_
  refine st_block ?_
  obtain ⟨r2, hl2, hk2⟩ := obind hp
  refine st_loopP (σ := Int) (ρ := (Int ⊕ Unit)) (γ := Unit) hl2 () (fun s_ g_ => match s_, g_ with | i3, _ => [(0, .slice A_s s.length c_s), (1, .func (.func 121) #[] #[vP b_f_c0 0]), (7, vI (s.length : Int)), (8, vI i3)]) (fun s_ g_ => match s_, g_ with | i3, _ => Mem w0 (.blk b_f_c0 [vI f_c0_0, .slice A_f_c0_1 f_c0_1.length c_f_c0_1] 63 :: Fz F W :: cs)) (fun s_ g_ => match s_, g_ with | i3, _ => (RdS (Rep.int .i64) F W A_f_c0_1 c_f_c0_1 f_c0_1)) h_f_c0_1 (look_has ⟨rfl, rfl, rfl, rfl, trivial⟩) (fun w_ hM => hM) ?_
  rintro i3 _ o2 h2 hs_ hd2
  have hp : (slices_IndexFunc_api_Comp_api_Comp_l2 s f_c0_0 f_c0_1) i3 = some o2 := hs_
  clear hs_
  unfold slices_IndexFunc_api_Comp_api_Comp_l2 at hp
  refine st_conv (l' := [(0, .slice A_s s.length c_s), (1, .func (.func 121) #[] #[vP b_f_c0 0]), (7, vI (s.length : Int)), (8, vI i3)]) (M' := Mem w0 (.blk b_f_c0 [vI f_c0_0, .slice A_f_c0_1 f_c0_1.length c_f_c0_1] 63 :: Fz F W :: cs)) rfl (fun _ h => h) ?_
  refine st_seq ?_
  refine st_region [oF 0] (by rfl) ?_
  refine oR [oF 0] [(9, .bool (decide (i3 < (s.length : Int)))), (0, .slice A_s s.length c_s), (1, .func (.func 121) #[] #[vP b_f_c0 0]), (7, vI (s.length : Int)), (8, vI i3)] [9, 0, 1, 7, 8] (by kernel_rfl) ?_
  refine ops_nil ?_
  refine fin_then ?_
  refine st_seq ?_
  refine st_if (b := decide (i3 < (s.length : Int))) rfl (fun hc4 => ?_) (fun hc4 => ?_)
  · --
   have hp := cnd_t hc4 hp
   refine st_skip ?_
   refine fin_then ?_
   refine st_seq ?_
   refine st_block ?_
   refine st_seq ?_
   refine st_region [oF 0, oF 1] (by rfl) ?_
   refine oR [oF 0, oF 1] [(5, vI i3), (0, .slice A_s s.length c_s), (1, .func (.func 121) #[] #[vP b_f_c0 0]), (7, vI (s.length : Int)), (8, vI i3)] [5, 0, 1, 7, 8] (by kernel_rfl) ?_
   refine ops_nil ?_
   refine fin_then ?_
   refine st_seq ?_
   refine st_region [oF 0, oF 1, oF 2, oF 3, oF 4, oF 5] (by rfl) ?_
   refine oR [oF 0, oF 1, oF 2] [(13, vI i3), (12, .slice A_s s.length c_s), (11, .func (.func 121) #[] #[vP b_f_c0 0]), (5, vI i3), (0, .slice A_s s.length c_s), (1, .func (.func 121) #[] #[vP b_f_c0 0]), (7, vI (s.length : Int)), (8, vI i3)] [13, 12, 11, 5, 0, 1, 7, 8] (by kernel_rfl) ?_
   obtain ⟨x5, hv6, hp⟩ := obind hp
   obtain ⟨m7, hm8, hx9⟩ := idx_some hv6
   have hl12 := (List.getElem?_eq_some_iff.1 hx9).1
   obtain ⟨ad13, vs10, hA14, hr11, hq15⟩ := RdS.el h_s hx9
   obtain ⟨A16, c17, rfl, h18⟩ := dec_api_Comp hr11
   refine ops_val (op := (Go.Op.indexAddr 25 (Go.Operand.tmp 12) (Go.Operand.tmp 13))) (d := some 14) (v := .pointer (some (ad13.add (m7 * 2)))) ⟨by kernel_rfl⟩ (run_indexA hA14 Try.underlying25 (z := 2) (by kernel_rfl) rfl rfl hm8 hl12) ?_
   refine oR [] [(14, .pointer (some (ad13.add (m7 * 2)))), (11, .func (.func 121) #[] #[vP b_f_c0 0]), (5, vI i3), (0, .slice A_s s.length c_s), (1, .func (.func 121) #[] #[vP b_f_c0 0]), (7, vI (s.length : Int)), (8, vI i3)] [14, 11, 5, 0, 1, 7, 8] (by kernel_rfl) ?_
   refine ops_mem (d := some 15) (an := [.v (vI x5.Kind), .v (.slice A16 x5.Vals.length c17)]) (evs := [.load (ad13.add (m7 * 2)) (vI x5.Kind), .load ((ad13.add (m7 * 2)).add 1) (.slice A16 x5.Vals.length c17)]) (v := .agg #[vI x5.Kind, .slice A16 x5.Vals.length c17]) (M' := Mem w0 (.blk b_f_c0 [vI f_c0_0, .slice A_f_c0_1 f_c0_1.length c_f_c0_1] 63 :: Fz F W :: cs)) ⟨by kernel_rfl⟩ (fun w_ hM hS => ⟨w_, ⟨hM.elcell 1 rfl hq15 0 rfl, hM.elcell 1 rfl hq15 1 rfl, rfl⟩, hM, trivial⟩) ?_
   refine oR [] [(15, .agg #[vI x5.Kind, .slice A16 x5.Vals.length c17]), (11, .func (.func 121) #[] #[vP b_f_c0 0]), (5, vI i3), (0, .slice A_s s.length c_s), (1, .func (.func 121) #[] #[vP b_f_c0 0]), (7, vI (s.length : Int)), (8, vI i3)] [15, 11, 5, 0, 1, 7, 8] (by kernel_rfl) ?_
   obtain ⟨x19, hv20, hp⟩ := obind hp
   refine ops_callI (σ := Unit) (d := some 16) (f := 121) (args := #[.agg #[vI x5.Kind, .slice A16 x5.Vals.length c17], vP b_f_c0 0]) (v := (fun _ => .bool x19)) (I := (fun _ => (RdS (Rep.int .i64) F W A_f_c0_1 c_f_c0_1 f_c0_1))) (M' := (fun _ => Mem w0 (.blk b_f_c0 [vI f_c0_0, .slice A_f_c0_1 f_c0_1.length c_f_c0_1] 63 :: Fz F W :: cs))) ⟨by kernel_rfl⟩ (fun w_ hM hS => (world_Fit_1_ok w0 w_ (cs) F W x5.Kind A16 c17 x5.Vals b_f_c0 f_c0_0 A_f_c0_1 c_f_c0_1 f_c0_1 hM h18 h2 x19 hv20).mono (by rintro e w' ⟨h21, rfl, h'⟩; have h' : Mem w0 (.blk b_f_c0 [vI f_c0_0, .slice A_f_c0_1 f_c0_1.length c_f_c0_1] 63 :: Fz F W :: cs) w' := h'; exact ⟨(), h21, rfl, h', trivial⟩)) ?_
   rintro _ h21
   refine ops_conv (l' := [(16, .bool x19), (15, .agg #[vI x5.Kind, .slice A16 x5.Vals.length c17]), (11, .func (.func 121) #[] #[vP b_f_c0 0]), (5, vI i3), (0, .slice A_s s.length c_s), (1, .func (.func 121) #[] #[vP b_f_c0 0]), (7, vI (s.length : Int)), (8, vI i3)]) (M' := Mem w0 (.blk b_f_c0 [vI f_c0_0, .slice A_f_c0_1 f_c0_1.length c_f_c0_1] 63 :: Fz F W :: cs)) rfl (fun _ h => h) ?_
   refine oR [] [(16, .bool x19), (5, vI i3), (0, .slice A_s s.length c_s), (1, .func (.func 121) #[] #[vP b_f_c0 0]), (7, vI (s.length : Int)), (8, vI i3)] [16, 5, 0, 1, 7, 8] (by kernel_rfl) ?_
   refine ops_nil ?_
   refine fin_then ?_
   refine st_if (b := x19) rfl (fun hc22 => ?_) (fun hc22 => ?_)
   · --
    have hp := cnd_t hc22 hp
    refine st_seq ?_
    refine st_region [oF 0, oF 1] (by rfl) ?_
    refine oR [oF 0, oF 1] [(4, vI i3)] [4] (by kernel_rfl) ?_
    refine ops_nil ?_
    refine fin_then ?_
    refine st_ret ?_
    refine fin_ret_block ?_
    refine fin_ret_then ?_
    refine fin_ret_then ?_
    refine fin_ret_block ?_
    refine fin_ret_then ?_
    obtain hq_ := Option.some.inj hp
    subst hq_
    obtain hq_ := hd2 _ rfl
    subst hq_
    have hp : some i3 = some i9001 := hk2
    have hq_ := Option.some.inj hp
    have hr0_ := hq_
    subst hr0_
    refine fin_ret [.tmp 4] [vI i3] rfl rfl (fun w_ hM => (.tmp rfl .nil)) (fun w_ hM => ?_)
    exact ⟨h21, rfl, hM⟩
   · --
    have hp := cnd_f hc22 hp
    refine st_skip ?_
    refine fin_block ?_
    refine fin_then ?_
    refine st_region [oF 0, oF 1] (by rfl) ?_
    refine oR [oF 0, oF 1] [(8, vI (IntKind.i64.wrap (i3 + 1))), (0, .slice A_s s.length c_s), (1, .func (.func 121) #[] #[vP b_f_c0 0]), (7, vI (s.length : Int))] [8, 0, 1, 7] (by kernel_rfl) ?_
    refine ops_nil ?_
    exact fin_again (IntKind.i64.wrap (i3 + 1)) () (Option.some.inj hp).symm h21 (look_has ⟨rfl, rfl, rfl, rfl, trivial⟩) (fun w_ hM => hM)
  · --
   have hp := cnd_f hc4 hp
   refine st_exit ?_
   refine fin_exit_then ?_
   refine fin_exit_then ?_
   refine fin_exit ?_
   obtain hq_ := Option.some.inj hp
   subst hq_
   obtain hq_ := hd2 _ rfl
   subst hq_
   have hp : slices_IndexFunc_api_Comp_api_Comp_j1 = some i9001 := hk2
   exact fin_join HJ1 () ⟨hp, h2⟩ (look_has trivial) (fun w_ hM => hM)
set_option maxHeartbeats 4000000 in
set_option maxRecDepth 100000 in
theorem slices_ContainsFunc_api_Comp_api_Comp_ok (w0 w : World) (cs : List Chunk) (F : Nat → Prop) (W : World) (A_s : Option Addr) (c_s : Nat) (s : List api_Comp) (b_f_c0 : Nat) (f_c0_0 : Int) (A_f_c0_1 : Option Addr) (c_f_c0_1 : Nat) (f_c0_1 : List Int) (hM0 : Mem w0 (.blk b_f_c0 [vI f_c0_0, .slice A_f_c0_1 f_c0_1.length c_f_c0_1] 63 :: Fz F W :: cs) w) (h_s : RdS R_api_Comp F W A_s c_s s) (h_f_c0_1 : RdS (Rep.int .i64) F W A_f_c0_1 c_f_c0_1 f_c0_1) (t9001 : Bool) (hp : slices_ContainsFunc_api_Comp_api_Comp s f_c0_0 f_c0_1 = some t9001) : Calls Try.prog 65 #[.slice A_s s.length c_s, .func (.func 121) #[] #[vP b_f_c0 0]] w fun e w' => ((RdS (Rep.int .i64) F W A_f_c0_1 c_f_c0_1 f_c0_1)) ∧ e = .returned (.bool t9001) ∧ Mem w0 (.blk b_f_c0 [vI f_c0_0, .slice A_f_c0_1 f_c0_1.length c_f_c0_1] 63 :: Fz F W :: cs) w' := by
 unfold slices_ContainsFunc_api_Comp_api_Comp at hp
 refine sx_calls Try.func65 rfl (n := 9) (by kernel_rfl) (l := [(0, .slice A_s s.length c_s), (1, .func (.func 121) #[] #[vP b_f_c0 0])]) rfl (by rfl) hM0 ?_
 refine st_seq ?_
 refine st_region [oF 0] (by rfl) ?_
 refine oR [oF 0] [(0, .slice A_s s.length c_s), (1, .func (.func 121) #[] #[vP b_f_c0 0])] [0, 1] (by kernel_rfl) ?_
 refine ops_nil ?_
 refine fin_then ?_
 refine st_seq ?_
 refine st_region [oF 0, oF 1, oF 2, oF 3, oF 4] (by rfl) ?_
 refine oR [oF 0, oF 1] [(6, .func (.func 121) #[] #[vP b_f_c0 0]), (5, .slice A_s s.length c_s)] [6, 5] (by kernel_rfl) ?_
 obtain ⟨x1, hv2, hp⟩ := obind hp
 refine ops_callI (σ := Unit) (d := some 7) (f := 97) (args := #[.slice A_s s.length c_s, .func (.func 121) #[] #[vP b_f_c0 0]]) (v := (fun _ => vI x1)) (I := (fun _ => (RdS (Rep.int .i64) F W A_f_c0_1 c_f_c0_1 f_c0_1))) (M' := (fun _ => Mem w0 (.blk b_f_c0 [vI f_c0_0, .slice A_f_c0_1 f_c0_1.length c_f_c0_1] 63 :: Fz F W :: cs))) ⟨by kernel_rfl⟩ (fun w_ hM hS => (slices_IndexFunc_api_Comp_api_Comp_ok w0 w_ (cs) F W A_s c_s s b_f_c0 f_c0_0 A_f_c0_1 c_f_c0_1 f_c0_1 hM h_s h_f_c0_1 x1 hv2).mono (by rintro e w' ⟨h3, rfl, h'⟩; have h' : Mem w0 (.blk b_f_c0 [vI f_c0_0, .slice A_f_c0_1 f_c0_1.length c_f_c0_1] 63 :: Fz F W :: cs) w' := h'; exact ⟨(), h3, rfl, h', trivial⟩)) ?_
 rintro _ h3
 refine ops_conv (l' := [(7, vI x1), (6, .func (.func 121) #[] #[vP b_f_c0 0]), (5, .slice A_s s.length c_s)]) (M' := Mem w0 (.blk b_f_c0 [vI f_c0_0, .slice A_f_c0_1 f_c0_1.length c_f_c0_1] 63 :: Fz F W :: cs)) rfl (fun _ h => h) ?_
 refine oR [oF 3, oF 4] [(4, .bool (decide (0 ≤ x1)))] [4] (by kernel_rfl) ?_
 refine ops_nil ?_
 refine fin_then ?_
 refine st_ret ?_
 have hq_ := Option.some.inj hp
 have hr0_ := hq_
 subst hr0_
 refine fin_ret [.tmp 4] [.bool (decide (0 ≤ x1))] rfl rfl (fun w_ hM => (.tmp rfl .nil)) (fun w_ hM => ?_)
 exact ⟨h3, rfl, hM⟩
end Go.Proofs.Ythcbepikeinglaa.M
