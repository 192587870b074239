/- The Go functions come to what the plain functions tell. No condition. -/
import Derived.Test.YtfihfbkjomploaaProg
import Derived.Test.YtfihfbkjomploaaFnX
import Derived.Test.YtfihfbkjomploaaWkX0
import Derived.Test.YtfihfbkjomploaaWkX14
import Derived.Test.YtfihfbkjomploaaWkX15
import Derived.Test.YtfihfbkjomploaaWkX16
namespace Go.Proofs.Ytfihfbkjomploaa.X
open Go Go.RowKit Go.Proofs.Ytfihfbkjomploaa.Sx
set_option linter.unusedVariables false
set_option maxHeartbeats 4000000 in
set_option maxRecDepth 100000 in
theorem tourlaw1_QueuePlays_ok (w0 w : World) (cs : List Chunk) (F : Nat → Prop) (W : World) (A_l : Option Addr) (c_l : Nat) (l : List (Int × Int × Int)) (hM0 : Mem w0 (Fz F W :: cs) w) (h_l : RdS R_arr3_Int F W A_l c_l l) (t9001 : Bool) (hp : tourlaw1_QueuePlays l = some t9001) : Calls Try.prog 9 #[.slice A_l l.length c_l] w fun e w' => (True) ∧ e = .returned (.bool t9001) ∧ Mem w0 (Fz F W :: cs) w' := by
 unfold tourlaw1_QueuePlays at hp
 refine sx_calls Try.func9 rfl (n := 105) (by kernel_rfl) (l := [(0, .slice A_l l.length c_l)]) rfl (by rfl) hM0 ?_
 refine st_seq ?_
 refine st_region [oF 0] (by rfl) ?_
 refine oR [oF 0] [(0, .slice A_l l.length c_l)] [0] (by kernel_rfl) ?_
 refine ops_nil ?_
 refine fin_then ?_
 refine st_seq ?_
 refine st_seq ?_
 refine st_region [oF 0, oF 1] (by rfl) ?_
 obtain ⟨x1, hv2, hp⟩ := obind hp
 refine ops_callI (σ := Unit) (d := some 12) (f := 52) (args := #[]) (v := (fun _ => .bool x1)) (I := (fun _ => True)) (M' := (fun _ => Mem w0 (Fz F W :: cs))) ⟨by kernel_rfl⟩ (fun w_ hM hS => (tourlaw1_queueBegun_ok w0 w_ (cs) F W  hM  x1 hv2).mono (by rintro e w' ⟨-, rfl, h'⟩; have h' : Mem w0 (Fz F W :: cs) w' := h'; exact ⟨(), trivial, rfl, h', trivial⟩)) ?_
 rintro _ -
 refine ops_conv (l' := [(12, .bool x1), (0, .slice A_l l.length c_l)]) (M' := Mem w0 (Fz F W :: cs)) rfl (fun _ h => h) ?_
 refine oR [oF 1] [(13, .bool (!x1)), (0, .slice A_l l.length c_l)] [13, 0] (by kernel_rfl) ?_
 refine ops_nil ?_
 refine fin_then ?_
 refine st_if (b := !x1) rfl (fun hc3 => ?_) (fun hc3 => ?_)
 · --
  have hp := cnd_t hc3 hp
  refine st_seq ?_
  refine st_region [oF 0] (by rfl) ?_
  refine oR [oF 0] [(2, .bool false)] [2] (by kernel_rfl) ?_
  refine ops_nil ?_
  refine fin_then ?_
  refine st_ret ?_
  refine fin_ret_then ?_
  have hq_ := Option.some.inj hp
  have hr0_ := hq_
  subst hr0_
  refine fin_ret [.tmp 2] [.bool false] rfl rfl (fun w_ hM => (.tmp rfl .nil)) (fun w_ hM => ?_)
  exact ⟨trivial, rfl, hM⟩
 · --
  have hp := cnd_f hc3 hp
  refine st_skip ?_
  refine fin_then ?_
  refine st_seq ?_
  refine st_region [oF 0] (by rfl) ?_
  refine oR [] [(0, .slice A_l l.length c_l)] [0] (by kernel_rfl) ?_
  refine ops_new (d := some 3) (o := .cells #[.slice none 0 0, vI 0] 78) (v := fun b4 => vP b4 0) (M' := fun b4 => Mem w0 (.blk b4 [.slice none 0 0, vI 0] 78 :: Fz F W :: cs)) (fun b4 => ⟨by kernel_rfl⟩) (fun w_ hM hS => ⟨hM.blk [.slice none 0 0, vI 0] 78, trivial⟩) (fun b4 => ?_)
  refine ops_nil ?_
  refine fin_then ?_
  refine st_seq ?_
  refine st_region [oF 0] (by rfl) ?_
  refine oR [oF 0] [(4, .slice none 0 0), (3, vP b4 0), (0, .slice A_l l.length c_l)] [4, 3, 0] (by kernel_rfl) ?_
  refine ops_nil ?_
  refine fin_then ?_
  refine st_join1 (σ := Unit) (L := fun _ => []) (N := fun _ => Mem w0 (Fz F W :: cs)) (I := fun _ => (tourlaw1_QueuePlays_j1 = some t9001)) ?_ ?_
  · --
   rintro _ hp
   refine st_conv (l' := []) (M' := Mem w0 (Fz F W :: cs)) rfl (fun _ h => h) ?_
   unfold tourlaw1_QueuePlays_j1 at hp
   refine st_seq ?_
   refine st_region [oF 0] (by rfl) ?_
   refine oR [oF 0] [(2, .bool true)] [2] (by kernel_rfl) ?_
   refine ops_nil ?_
   refine fin_then ?_
   refine st_ret ?_
   have hq_ := Option.some.inj hp
   have hr0_ := hq_
   subst hr0_
   refine fin_ret [.tmp 2] [.bool true] rfl rfl (fun w_ hM => (.tmp rfl .nil)) (fun w_ hM => ?_)
   exact ⟨trivial, rfl, hM⟩
  · --
   intro HJ1
   refine st_seq ?_
   refine st_seq ?_
   refine st_region [oF 0, oF 1, oF 2] (by rfl) ?_
   refine oR [oF 0, oF 1, oF 2] [(16, vI 0), (15, vI (l.length : Int)), (14, .slice A_l l.length c_l), (4, .slice none 0 0), (3, vP b4 0)] [16, 15, 14, 4, 3] (by kernel_rfl) ?_
   refine ops_nil ?_
   refine fin_then ?_
   refine st_block ?_
   refine st_conv (l' := [(16, vI 0), (15, vI (l.length : Int)), (14, .slice A_l l.length c_l), (4, .slice none 0 0), (3, vP b4 0)]) (M' := Mem w0 (orow none ([] : List queue_item_int).length 0 151 3 [] :: .blk b4 [.slice none 0 0, vI 0] 78 :: Fz F W :: cs)) rfl (fun w_ h => h.onil none 151 3) ?_
   refine st_conv (l' := [(16, vI 0), (15, vI (l.length : Int)), (14, .slice A_l l.length c_l), (4, .slice none 0 0), (3, vP b4 0)]) (M' := Mem w0 (orow none ([] : List tourref1_Waiting).length 0 82 2 [] :: orow none ([] : List queue_item_int).length 0 151 3 [] :: .blk b4 [.slice none ([] : List queue_item_int).length 0, vI 0] 78 :: Fz F W :: cs)) rfl (fun w_ h => h.onil none 82 2) ?_
   refine st_conv (l' := [(16, vI 0), (15, vI (l.length : Int)), (14, .slice A_l l.length c_l), (4, .slice none ([] : List tourref1_Waiting).length 0), (3, vP b4 0)]) (M' := Mem w0 (orow none ([] : List tourref1_Waiting).length 0 82 2 [] :: orow none ([] : List queue_item_int).length 0 151 3 [] :: .blk b4 [.slice none ([] : List queue_item_int).length 0, vI 0] 78 :: Fz F W :: cs)) rfl (fun _ h => h) ?_
   obtain ⟨r2, hl2, hk2⟩ := obind hp
   refine st_loopP (σ := (List queue_item_int) × Int × (List tourref1_Waiting) × Int) (ρ := (Bool ⊕ Unit)) (γ := (Option Addr) × Nat × (List Value) × (Option Addr) × Nat × (List Value)) hl2 (none, 0, [], none, 0, []) (fun s_ g_ => match s_, g_ with | (l11, i14, l17, i20), (A9, c10, y12, A15, c16, y18) => [(3, vP b4 0), (4, .slice A15 l17.length c16), (14, .slice A_l l.length c_l), (15, vI (l.length : Int)), (16, vI i20)]) (fun s_ g_ => match s_, g_ with | (l11, i14, l17, i20), (A9, c10, y12, A15, c16, y18) => Mem w0 (.blk b4 [.slice A9 l11.length c10, vI i14] 78 :: orow A9 l11.length c10 151 3 y12 :: orow A15 l17.length c16 82 2 y18 :: Fz F W :: cs)) (fun s_ g_ => match s_, g_ with | (l11, i14, l17, i20), (A9, c10, y12, A15, c16, y18) => (RepL R_queue_item_int F W l11 y12) ∧ (RepL R_tourref1_Waiting F W l17 y18)) ⟨(RepL.nil (R := R_queue_item_int)), (RepL.nil (R := R_tourref1_Waiting))⟩ (look_has ⟨rfl, rfl, rfl, rfl, rfl, trivial⟩) (fun w_ hM => hM.pick 4 [2, 1, 0, 3] (by kernel_rfl) (by decide) rfl) ?_
   rintro ⟨l11, i14, l17, i20⟩ ⟨A9, c10, y12, A15, c16, y18⟩ o2 ⟨h13, h19⟩ hs_ hd2
   have hp : (tourlaw1_QueuePlays_l2 l) l11 i14 l17 i20 = some o2 := hs_
   clear hs_
   unfold tourlaw1_QueuePlays_l2 at hp
   refine st_conv (l' := [(3, vP b4 0), (4, .slice A15 l17.length c16), (14, .slice A_l l.length c_l), (15, vI (l.length : Int)), (16, vI i20)]) (M' := Mem w0 (.blk b4 [.slice A9 l11.length c10, vI i14] 78 :: orow A9 l11.length c10 151 3 y12 :: orow A15 l17.length c16 82 2 y18 :: Fz F W :: cs)) rfl (fun _ h => h) ?_
   refine st_seq ?_
   refine st_region [oF 0] (by rfl) ?_
   refine oR [oF 0] [(17, .bool (decide (i20 < (l.length : Int)))), (3, vP b4 0), (4, .slice A15 l17.length c16), (14, .slice A_l l.length c_l), (15, vI (l.length : Int)), (16, vI i20)] [17, 3, 4, 14, 15, 16] (by kernel_rfl) ?_
   refine ops_nil ?_
   refine fin_then ?_
   refine st_seq ?_
   refine st_if (b := decide (i20 < (l.length : Int))) rfl (fun hc21 => ?_) (fun hc21 => ?_)
   · --
    have hp := cnd_t hc21 hp
    refine st_skip ?_
    refine fin_then ?_
    refine st_seq ?_
    refine st_block ?_
    refine st_seq ?_
    refine st_region [oF 0, oF 1, oF 2, oF 3] (by rfl) ?_
    refine oR [] [(3, vP b4 0), (4, .slice A15 l17.length c16), (14, .slice A_l l.length c_l), (15, vI (l.length : Int)), (16, vI i20)] [3, 4, 14, 15, 16] (by kernel_rfl) ?_
    obtain ⟨x22, hv23, hp⟩ := obind hp
    obtain ⟨m24, hm25, hx26⟩ := idx_some hv23
    have hl29 := (List.getElem?_eq_some_iff.1 hx26).1
    obtain ⟨ad30, vs27, hA31, hr28, hq32⟩ := RdS.el h_l hx26
    obtain rfl := dec_arr3_Int hr28
    refine ops_val (op := (Go.Op.indexAddr 42 (Go.Operand.tmp 14) (Go.Operand.tmp 16))) (d := some 18) (v := .pointer (some (ad30.add (m24 * 3)))) ⟨by kernel_rfl⟩ (run_indexA hA31 Try.underlying42 (z := 3) (by kernel_rfl) rfl rfl hm25 hl29) ?_
    refine ops_mem (d := some 19) (an := [.v (vI x22.1), .v (vI x22.2.1), .v (vI x22.2.2)]) (evs := [.load (ad30.add (m24 * 3)) (vI x22.1), .load ((ad30.add (m24 * 3)).add 1) (vI x22.2.1), .load ((ad30.add (m24 * 3)).add 2) (vI x22.2.2)]) (v := .agg #[vI x22.1, vI x22.2.1, vI x22.2.2]) (M' := Mem w0 (.blk b4 [.slice A9 l11.length c10, vI i14] 78 :: orow A9 l11.length c10 151 3 y12 :: orow A15 l17.length c16 82 2 y18 :: Fz F W :: cs)) ⟨by kernel_rfl⟩ (fun w_ hM hS => ⟨w_, ⟨hM.elcell 3 rfl hq32 0 rfl, hM.elcell 3 rfl hq32 1 rfl, hM.elcell 3 rfl hq32 2 rfl, rfl⟩, hM, trivial⟩) ?_
    refine oR [] [(19, .agg #[vI x22.1, vI x22.2.1, vI x22.2.2]), (3, vP b4 0), (4, .slice A15 l17.length c16), (14, .slice A_l l.length c_l), (15, vI (l.length : Int)), (16, vI i20)] [19, 3, 4, 14, 15, 16] (by kernel_rfl) ?_
    refine ops_new (d := some 6) (o := .cells #[vI 0, vI 0, vI 0] 46) (v := fun b33 => vP b33 0) (M' := fun b33 => Mem w0 (.blk b33 [vI 0, vI 0, vI 0] 46 :: .blk b4 [.slice A9 l11.length c10, vI i14] 78 :: orow A9 l11.length c10 151 3 y12 :: orow A15 l17.length c16 82 2 y18 :: Fz F W :: cs)) (fun b33 => ⟨by kernel_rfl⟩) (fun w_ hM hS => ⟨hM.blk [vI 0, vI 0, vI 0] 46, trivial⟩) (fun b33 => ?_)
    refine ops_store (an := []) (evs := [.store ⟨b33, 0, none⟩ (vI x22.1), .store ⟨b33, 1, none⟩ (vI x22.2.1), .store ⟨b33, 2, none⟩ (vI x22.2.2)]) (M' := Mem w0 (.blk b33 [vI x22.1, vI x22.2.1, vI x22.2.2] 46 :: .blk b4 [.slice A9 l11.length c10, vI i14] 78 :: orow A9 l11.length c10 151 3 y12 :: orow A15 l17.length c16 82 2 y18 :: Fz F W :: cs)) ⟨by kernel_rfl⟩ (fun w_ hM hS => let ⟨w', he, h'⟩ := hM.evs_stores [vI x22.1, vI x22.2.1, vI x22.2.2] 0 rfl 0 (Nat.le_of_ble_eq_true rfl); ⟨w', he, h', trivial⟩) ?_
    refine oR [] [(6, vP b33 0), (3, vP b4 0), (4, .slice A15 l17.length c16), (14, .slice A_l l.length c_l), (15, vI (l.length : Int)), (16, vI i20)] [6, 3, 4, 14, 15, 16] (by kernel_rfl) ?_
    refine ops_nil ?_
    refine fin_then ?_
    refine st_join1 (σ := (Option Addr) × Nat × (List queue_item_int) × (List Value) × Int × (Option Addr) × Nat × (List tourref1_Waiting) × (List Value)) (L := fun x_ => match x_ with | (A34, c35, l36, y37, i39, A40, c41, l42, y43) => [(3, vP b4 0), (4, .slice A40 l42.length c41), (14, .slice A_l l.length c_l), (15, vI (l.length : Int)), (16, vI i20)]) (N := fun x_ => match x_ with | (A34, c35, l36, y37, i39, A40, c41, l42, y43) => Mem w0 (.blk b4 [.slice A34 l36.length c35, vI i39] 78 :: orow A34 l36.length c35 151 3 y37 :: orow A40 l42.length c41 82 2 y43 :: Fz F W :: cs)) (I := fun x_ => match x_ with | (A34, c35, l36, y37, i39, A40, c41, l42, y43) => ((tourlaw1_QueuePlays_j3 i20) l36 i39 l42 = some o2) ∧ (RepL R_queue_item_int F W l36 y37) ∧ (RepL R_tourref1_Waiting F W l42 y43)) ?_ ?_
    · --
     rintro ⟨A34, c35, l36, y37, i39, A40, c41, l42, y43⟩ ⟨hp, h38, h44⟩
     refine st_conv (l' := [(3, vP b4 0), (4, .slice A40 l42.length c41), (14, .slice A_l l.length c_l), (15, vI (l.length : Int)), (16, vI i20)]) (M' := Mem w0 (.blk b4 [.slice A34 l36.length c35, vI i39] 78 :: orow A34 l36.length c35 151 3 y37 :: orow A40 l42.length c41 82 2 y43 :: Fz F W :: cs)) rfl (fun _ h => h) ?_
     unfold tourlaw1_QueuePlays_j3 at hp
     refine st_seq ?_
     refine st_region [oF 0, oF 1, oF 2, oF 3] (by rfl) ?_
     obtain ⟨x45, hv46, hp⟩ := obind hp
     refine ops_callI (σ := (List Value)) (d := some 100) (f := 58) (args := #[vP b4 0]) (v := (fun x_ => match x_ with | y47 => vI x45)) (I := (fun x_ => match x_ with | y47 => (RepL R_queue_item_int F W l36 y47))) (M' := (fun x_ => match x_ with | y47 => Mem w0 (orow A34 l36.length c35 151 3 y47 :: .blk b4 [.slice A34 l36.length c35, vI i39] 78 :: orow A40 l42.length c41 82 2 y43 :: Fz F W :: cs))) ⟨by kernel_rfl⟩ (fun w_ hM hS => (queue_Queue_int_Len_ok w0 w_ (orow A40 l42.length c41 82 2 y43 :: cs) F W b4 A34 c35 l36 y37 i39 (hM.pick 4 [0, 1, 3, 2] (by kernel_rfl) (by decide) rfl) h38 x45 hv46).mono (by rintro e w' ⟨y47, h48, rfl, h'⟩; have h' : Mem w0 (orow A34 l36.length c35 151 3 y47 :: .blk b4 [.slice A34 l36.length c35, vI i39] 78 :: orow A40 l42.length c41 82 2 y43 :: Fz F W :: cs) w' := (h'.pick 4 [1, 0, 3, 2] (by kernel_rfl) (by decide) rfl); exact ⟨y47, h48, rfl, h', trivial⟩)) ?_
     rintro y47 h48
     refine ops_conv (l' := [(100, vI x45), (3, vP b4 0), (4, .slice A40 l42.length c41), (14, .slice A_l l.length c_l), (15, vI (l.length : Int)), (16, vI i20)]) (M' := Mem w0 (orow A34 l36.length c35 151 3 y47 :: .blk b4 [.slice A34 l36.length c35, vI i39] 78 :: orow A40 l42.length c41 82 2 y43 :: Fz F W :: cs)) rfl (fun _ h => h) ?_
     refine oR [oF 1, oF 2, oF 3] [(103, .bool (!(x45 == (l42.length : Int)))), (3, vP b4 0), (4, .slice A40 l42.length c41), (14, .slice A_l l.length c_l), (15, vI (l.length : Int)), (16, vI i20)] [103, 3, 4, 14, 15, 16] (by kernel_rfl) ?_
     refine ops_nil ?_
     refine fin_then ?_
     refine st_if (b := !(x45 == (l42.length : Int))) rfl (fun hc49 => ?_) (fun hc49 => ?_)
     · --
      have hp := cnd_t hc49 hp
      refine st_seq ?_
      refine st_region [oF 0] (by rfl) ?_
      refine oR [oF 0] [(2, .bool false)] [2] (by kernel_rfl) ?_
      refine ops_nil ?_
      refine fin_then ?_
      refine st_ret ?_
      refine fin_ret_block ?_
      refine fin_ret_then ?_
      refine fin_ret_then ?_
      refine fin_ret_block ?_
      refine fin_ret_then ?_
      obtain hq_ := Option.some.inj hp
      subst hq_
      obtain hq_ := hd2 _ rfl
      subst hq_
      have hp : some false = some t9001 := hk2
      have hq_ := Option.some.inj hp
      have hr0_ := hq_
      subst hr0_
      refine fin_ret [.tmp 2] [.bool false] rfl rfl (fun w_ hM => (.tmp rfl .nil)) (fun w_ hM => ?_)
      exact ⟨trivial, rfl, hM.pick 4 [3] (by kernel_rfl) (by decide) rfl⟩
     · --
      have hp := cnd_f hc49 hp
      refine st_skip ?_
      refine fin_block ?_
      refine fin_then ?_
      refine st_region [oF 0, oF 1] (by rfl) ?_
      refine oR [oF 0, oF 1] [(16, vI (IntKind.i64.wrap (i20 + 1))), (3, vP b4 0), (4, .slice A40 l42.length c41), (14, .slice A_l l.length c_l), (15, vI (l.length : Int))] [16, 3, 4, 14, 15] (by kernel_rfl) ?_
      refine ops_nil ?_
      exact fin_again (l36, i39, l42, IntKind.i64.wrap (i20 + 1)) (A34, c35, y47, A40, c41, y43) (Option.some.inj hp).symm ⟨h48, h44⟩ (look_has ⟨rfl, rfl, rfl, rfl, rfl, trivial⟩) (fun w_ hM => hM.pick 4 [1, 0, 2, 3] (by kernel_rfl) (by decide) rfl)
    · --
     intro HJ3
     refine st_seq ?_
     refine st_seq ?_
     refine st_region [oF 0, oF 1] (by rfl) ?_
     refine oR [oF 0] [(20, vP b33 2), (6, vP b33 0), (3, vP b4 0), (4, .slice A15 l17.length c16), (14, .slice A_l l.length c_l), (15, vI (l.length : Int)), (16, vI i20)] [20, 6, 3, 4, 14, 15, 16] (by kernel_rfl) ?_
     refine ops_mem (d := some 21) (an := [.v (vI x22.2.2)]) (evs := [.load ⟨b33, 2, none⟩ (vI x22.2.2)]) (v := vI x22.2.2) (M' := Mem w0 (.blk b33 [vI x22.1, vI x22.2.1, vI x22.2.2] 46 :: .blk b4 [.slice A9 l11.length c10, vI i14] 78 :: orow A9 l11.length c10 151 3 y12 :: orow A15 l17.length c16 82 2 y18 :: Fz F W :: cs)) ⟨by kernel_rfl⟩ (fun w_ hM hS => ⟨w_, ⟨hM.cell 0 rfl rfl, rfl⟩, hM, trivial⟩) ?_
     refine oR [] [(21, vI x22.2.2), (6, vP b33 0), (3, vP b4 0), (4, .slice A15 l17.length c16), (14, .slice A_l l.length c_l), (15, vI (l.length : Int)), (16, vI i20)] [21, 6, 3, 4, 14, 15, 16] (by kernel_rfl) ?_
     refine ops_nil ?_
     refine fin_then ?_
     refine st_block ?_
     refine st_seq ?_
     refine st_region [oF 0, oF 1] (by rfl) ?_
     refine oR [oF 0, oF 1] [(78, .bool (x22.2.2 == 0)), (6, vP b33 0), (3, vP b4 0), (4, .slice A15 l17.length c16), (14, .slice A_l l.length c_l), (15, vI (l.length : Int)), (16, vI i20)] [78, 6, 3, 4, 14, 15, 16] (by kernel_rfl) ?_
     refine ops_nil ?_
     refine fin_then ?_
     refine st_if (b := (x22.2.2 == 0)) rfl (fun hc50 => ?_) (fun hc50 => ?_)
     · --
      have hp := cnd_t hc50 hp
      refine st_seq ?_
      refine st_region [oF 0, oF 1, oF 2, oF 3, oF 4, oF 5] (by rfl) ?_
      refine oR [oF 0] [(80, vP b33 0), (6, vP b33 0), (3, vP b4 0), (4, .slice A15 l17.length c16), (14, .slice A_l l.length c_l), (15, vI (l.length : Int)), (16, vI i20)] [80, 6, 3, 4, 14, 15, 16] (by kernel_rfl) ?_
      refine ops_mem (d := some 81) (an := [.v (vI x22.1)]) (evs := [.load ⟨b33, 0, none⟩ (vI x22.1)]) (v := vI x22.1) (M' := Mem w0 (.blk b33 [vI x22.1, vI x22.2.1, vI x22.2.2] 46 :: .blk b4 [.slice A9 l11.length c10, vI i14] 78 :: orow A9 l11.length c10 151 3 y12 :: orow A15 l17.length c16 82 2 y18 :: Fz F W :: cs)) ⟨by kernel_rfl⟩ (fun w_ hM hS => ⟨w_, ⟨hM.cell 0 rfl rfl, rfl⟩, hM, trivial⟩) ?_
      refine oR [oF 2] [(82, vP b33 1), (81, vI x22.1), (6, vP b33 0), (3, vP b4 0), (4, .slice A15 l17.length c16), (14, .slice A_l l.length c_l), (15, vI (l.length : Int)), (16, vI i20)] [82, 81, 6, 3, 4, 14, 15, 16] (by kernel_rfl) ?_
      refine ops_mem (d := some 83) (an := [.v (vI x22.2.1)]) (evs := [.load ⟨b33, 1, none⟩ (vI x22.2.1)]) (v := vI x22.2.1) (M' := Mem w0 (.blk b33 [vI x22.1, vI x22.2.1, vI x22.2.2] 46 :: .blk b4 [.slice A9 l11.length c10, vI i14] 78 :: orow A9 l11.length c10 151 3 y12 :: orow A15 l17.length c16 82 2 y18 :: Fz F W :: cs)) ⟨by kernel_rfl⟩ (fun w_ hM hS => ⟨w_, ⟨hM.cell 0 rfl rfl, rfl⟩, hM, trivial⟩) ?_
      refine oR [] [(83, vI x22.2.1), (81, vI x22.1), (6, vP b33 0), (3, vP b4 0), (4, .slice A15 l17.length c16), (14, .slice A_l l.length c_l), (15, vI (l.length : Int)), (16, vI i20)] [83, 81, 6, 3, 4, 14, 15, 16] (by kernel_rfl) ?_
      obtain ⟨x51, x52, x53, hv54, hp⟩ := obind3 hp
      refine ops_callI (σ := (Option Addr) × Nat × (List Value)) (d := some 84) (f := 53) (args := #[vP b4 0, vI x22.1, vI x22.2.1]) (v := (fun x_ => match x_ with | (A55, c56, y57) => vI x51)) (I := (fun x_ => match x_ with | (A55, c56, y57) => (RepL R_queue_item_int F W x52 y57))) (M' := (fun x_ => match x_ with | (A55, c56, y57) => Mem w0 (orow A55 x52.length c56 151 3 y57 :: .blk b33 [vI x22.1, vI x22.2.1, vI x22.2.2] 46 :: .blk b4 [.slice A55 x52.length c56, vI x53] 78 :: orow A15 l17.length c16 82 2 y18 :: Fz F W :: cs))) ⟨by kernel_rfl⟩ (fun w_ hM hS => (queue_Queue_int_Put_ok w0 w_ (.blk b33 [vI x22.1, vI x22.2.1, vI x22.2.2] 46 :: orow A15 l17.length c16 82 2 y18 :: cs) F W b4 A9 c10 l11 y12 i14 x22.1 x22.2.1 (hM.pick 5 [1, 2, 4, 0, 3] (by kernel_rfl) (by decide) rfl) h13 x51 x52 x53 hv54).mono (by rintro e w' ⟨A55, c56, y57, h58, rfl, h'⟩; have h' : Mem w0 (orow A55 x52.length c56 151 3 y57 :: .blk b33 [vI x22.1, vI x22.2.1, vI x22.2.2] 46 :: .blk b4 [.slice A55 x52.length c56, vI x53] 78 :: orow A15 l17.length c16 82 2 y18 :: Fz F W :: cs) w' := (h'.pick 5 [1, 3, 0, 4, 2] (by kernel_rfl) (by decide) rfl); exact ⟨(A55, c56, y57), h58, rfl, h', trivial⟩)) ?_
      rintro ⟨A55, c56, y57⟩ h58
      refine ops_conv (l' := [(84, vI x51), (83, vI x22.2.1), (81, vI x22.1), (6, vP b33 0), (3, vP b4 0), (4, .slice A15 l17.length c16), (14, .slice A_l l.length c_l), (15, vI (l.length : Int)), (16, vI i20)]) (M' := Mem w0 (orow A55 x52.length c56 151 3 y57 :: .blk b33 [vI x22.1, vI x22.2.1, vI x22.2.2] 46 :: .blk b4 [.slice A55 x52.length c56, vI x53] 78 :: orow A15 l17.length c16 82 2 y18 :: Fz F W :: cs)) rfl (fun _ h => h) ?_
      refine oR [oF 5] [(7, vI x51), (6, vP b33 0), (3, vP b4 0), (4, .slice A15 l17.length c16), (14, .slice A_l l.length c_l), (15, vI (l.length : Int)), (16, vI i20)] [7, 6, 3, 4, 14, 15, 16] (by kernel_rfl) ?_
      refine ops_nil ?_
      refine fin_then ?_
      refine st_seq ?_
      refine st_seq ?_
      refine st_region [oF 0, oF 1, oF 2] (by rfl) ?_
      refine oR [oF 0, oF 1, oF 2] [(87, .bool (decide (4096 ≤ (l17.length : Int)))), (7, vI x51), (6, vP b33 0), (3, vP b4 0), (4, .slice A15 l17.length c16), (14, .slice A_l l.length c_l), (15, vI (l.length : Int)), (16, vI i20)] [87, 7, 6, 3, 4, 14, 15, 16] (by kernel_rfl) ?_
      refine ops_nil ?_
      refine fin_then ?_
      refine st_if (b := decide (4096 ≤ (l17.length : Int))) rfl (fun hc59 => ?_) (fun hc59 => ?_)
      · --
       have hp := cnd_t hc59 hp
       refine st_seq ?_
       refine st_seq ?_
       refine st_region [oF 0, oF 1] (by rfl) ?_
       refine oR [oF 0, oF 1] [(89, .bool (!(x51 == 6))), (3, vP b4 0), (4, .slice A15 l17.length c16), (14, .slice A_l l.length c_l), (15, vI (l.length : Int)), (16, vI i20)] [89, 3, 4, 14, 15, 16] (by kernel_rfl) ?_
       refine ops_nil ?_
       refine fin_then ?_
       refine st_if (b := !(x51 == 6)) rfl (fun hc60 => ?_) (fun hc60 => ?_)
       · --
        have hp := cnd_t hc60 hp
        refine st_seq ?_
        refine st_region [oF 0] (by rfl) ?_
        refine oR [oF 0] [(2, .bool false)] [2] (by kernel_rfl) ?_
        refine ops_nil ?_
        refine fin_then ?_
        refine st_ret ?_
        refine fin_ret_then ?_
        refine fin_ret_then ?_
        refine fin_ret_block ?_
        refine fin_ret_then ?_
        refine fin_ret_block ?_
        refine fin_ret_then ?_
        refine fin_ret_then ?_
        refine fin_ret_block ?_
        refine fin_ret_then ?_
        obtain hq_ := Option.some.inj hp
        subst hq_
        obtain hq_ := hd2 _ rfl
        subst hq_
        have hp : some false = some t9001 := hk2
        have hq_ := Option.some.inj hp
        have hr0_ := hq_
        subst hr0_
        refine fin_ret [.tmp 2] [.bool false] rfl rfl (fun w_ hM => (.tmp rfl .nil)) (fun w_ hM => ?_)
        exact ⟨trivial, rfl, hM.pick 5 [4] (by kernel_rfl) (by decide) rfl⟩
       · --
        have hp := cnd_f hc60 hp
        refine st_skip ?_
        refine fin_then ?_
        refine st_exit ?_
        refine fin_exit_then ?_
        refine fin_exit ?_
        exact fin_join HJ3 (A55, c56, x52, y57, x53, A15, c16, l17, y18) ⟨hp, h58, h19⟩ (look_has ⟨rfl, rfl, rfl, rfl, rfl, trivial⟩) (fun w_ hM => hM.pick 5 [2, 0, 3, 4] (by kernel_rfl) (by decide) rfl)
      · --
       have hp := cnd_f hc59 hp
       refine st_skip ?_
       refine fin_then ?_
       refine st_seq ?_
       refine st_region [oF 0, oF 1, oF 2, oF 3, oF 4, oF 5, oF 6, oF 7, oF 8] (by rfl) ?_
       refine oR [oF 0, oF 1] [(91, vP b33 0), (90, .slice A15 l17.length c16), (7, vI x51), (6, vP b33 0), (3, vP b4 0), (4, .slice A15 l17.length c16), (14, .slice A_l l.length c_l), (15, vI (l.length : Int)), (16, vI i20)] [91, 90, 7, 6, 3, 4, 14, 15, 16] (by kernel_rfl) ?_
       refine ops_mem (d := some 92) (an := [.v (vI x22.1)]) (evs := [.load ⟨b33, 0, none⟩ (vI x22.1)]) (v := vI x22.1) (M' := Mem w0 (orow A55 x52.length c56 151 3 y57 :: .blk b33 [vI x22.1, vI x22.2.1, vI x22.2.2] 46 :: .blk b4 [.slice A55 x52.length c56, vI x53] 78 :: orow A15 l17.length c16 82 2 y18 :: Fz F W :: cs)) ⟨by kernel_rfl⟩ (fun w_ hM hS => ⟨w_, ⟨hM.cell 1 rfl rfl, rfl⟩, hM, trivial⟩) ?_
       refine oR [oF 3] [(93, vP b33 1), (92, vI x22.1), (90, .slice A15 l17.length c16), (7, vI x51), (3, vP b4 0), (4, .slice A15 l17.length c16), (14, .slice A_l l.length c_l), (15, vI (l.length : Int)), (16, vI i20)] [93, 92, 90, 7, 3, 4, 14, 15, 16] (by kernel_rfl) ?_
       refine ops_mem (d := some 94) (an := [.v (vI x22.2.1)]) (evs := [.load ⟨b33, 1, none⟩ (vI x22.2.1)]) (v := vI x22.2.1) (M' := Mem w0 (orow A55 x52.length c56 151 3 y57 :: .blk b33 [vI x22.1, vI x22.2.1, vI x22.2.2] 46 :: .blk b4 [.slice A55 x52.length c56, vI x53] 78 :: orow A15 l17.length c16 82 2 y18 :: Fz F W :: cs)) ⟨by kernel_rfl⟩ (fun w_ hM hS => ⟨w_, ⟨hM.cell 1 rfl rfl, rfl⟩, hM, trivial⟩) ?_
       refine oR [oF 5] [(95, .agg #[vI x22.1, vI x22.2.1]), (90, .slice A15 l17.length c16), (7, vI x51), (3, vP b4 0), (4, .slice A15 l17.length c16), (14, .slice A_l l.length c_l), (15, vI (l.length : Int)), (16, vI i20)] [95, 90, 7, 3, 4, 14, 15, 16] (by kernel_rfl) ?_
       have h61 : RepL R_tourref1_Waiting F W ([(tourref1_Waiting.mk x22.1 x22.2.1)] : List tourref1_Waiting) ([vI x22.1, vI x22.2.1]) := (RepL.cons (R := R_tourref1_Waiting) (F := F) (w := W) (vs := [vI x22.1, vI x22.2.1]) (ys := []) (enc_tourref1_Waiting) RepL.nil)
       refine ops_new (d := some 96) (o := .cells ([vI x22.1, vI x22.2.1]).toArray 82) (v := fun g62 => .slice (some ⟨g62, 0, none⟩) ([(tourref1_Waiting.mk x22.1 x22.2.1)] : List tourref1_Waiting).length 1) (M' := fun g62 => Mem w0 (orow (some ⟨g62, 0, none⟩) ([(tourref1_Waiting.mk x22.1 x22.2.1)] : List tourref1_Waiting).length 1 82 2 ([vI x22.1, vI x22.2.1]) :: orow A55 x52.length c56 151 3 y57 :: .blk b33 [vI x22.1, vI x22.2.1, vI x22.2.2] 46 :: .blk b4 [.slice A55 x52.length c56, vI x53] 78 :: orow A15 l17.length c16 82 2 y18 :: Fz F W :: cs)) (fun g62 => ⟨by kernel_rfl⟩) (fun w_ hM hS => ⟨hM.onew [vI x22.1, vI x22.2.1] 82 1 2 rfl (by decide), trivial⟩) (fun g62 => ?_)
       refine oR [] [(96, .slice (some ⟨g62, 0, none⟩) ([(tourref1_Waiting.mk x22.1 x22.2.1)] : List tourref1_Waiting).length 1), (90, .slice A15 l17.length c16), (7, vI x51), (3, vP b4 0), (4, .slice A15 l17.length c16), (14, .slice A_l l.length c_l), (15, vI (l.length : Int)), (16, vI i20)] [96, 90, 7, 3, 4, 14, 15, 16] (by kernel_rfl) ?_
       obtain ⟨l63, hv64, hp⟩ := obind hp
       obtain ⟨he65, hb66⟩ := app_some hv64
       obtain ⟨y67, hy68⟩ : ∃ y_, y18 ++ ([vI x22.1, vI x22.2.1]) = y_ := ⟨_, rfl⟩
       have h69 : RepL R_tourref1_Waiting F W l63 y67 := by rw [he65, ← hy68]; exact RepL.app h19 h61
       refine ops_appendO (x := (Go.Operand.tmp 90)) (y := (Go.Operand.tmp 96)) (t := 79) (e := 82) (d := some 97) (n' := l63.length) (z := 2) (m := ([(tourref1_Waiting.mk x22.1 x22.2.1)] : List tourref1_Waiting).length) (bytes := 16) (xs' := y67) (news := ([vI x22.1, vI x22.2.1])) (zv := .agg #[vI 0, vI 0]) 4 ⟨by kernel_rfl⟩ rfl rfl Try.underlying79 (by kernel_rfl) (by rfl) rfl (fun w_ hM => hM.srcO 0 rfl) h61.len h61.one hb66 (by have z_ := congrArg List.length he65; rw [List.length_append] at z_; exact z_.symm) hy68 (fun _ _ _ _ hS h' => trivial) ?_
       rintro ⟨A70, c71⟩
       refine ops_conv (l' := [(97, .slice A70 l63.length c71), (96, .slice (some ⟨g62, 0, none⟩) ([(tourref1_Waiting.mk x22.1 x22.2.1)] : List tourref1_Waiting).length 1), (90, .slice A15 l17.length c16), (7, vI x51), (3, vP b4 0), (4, .slice A15 l17.length c16), (14, .slice A_l l.length c_l), (15, vI (l.length : Int)), (16, vI i20)]) (M' := Mem w0 (orow (some ⟨g62, 0, none⟩) ([(tourref1_Waiting.mk x22.1 x22.2.1)] : List tourref1_Waiting).length 1 82 2 ([vI x22.1, vI x22.2.1]) :: orow A55 x52.length c56 151 3 y57 :: .blk b33 [vI x22.1, vI x22.2.1, vI x22.2.2] 46 :: .blk b4 [.slice A55 x52.length c56, vI x53] 78 :: orow A70 l63.length c71 82 2 y67 :: Fz F W :: cs)) rfl (fun _ h => h) ?_
       refine oR [oF 8] [(4, .slice A70 l63.length c71), (7, vI x51), (3, vP b4 0), (14, .slice A_l l.length c_l), (15, vI (l.length : Int)), (16, vI i20)] [4, 7, 3, 14, 15, 16] (by kernel_rfl) ?_
       refine ops_nil ?_
       refine fin_then ?_
       refine st_seq ?_
       refine st_region [oF 0, oF 1] (by rfl) ?_
       refine oR [oF 0, oF 1] [(99, .bool (!(x51 == 0))), (4, .slice A70 l63.length c71), (3, vP b4 0), (14, .slice A_l l.length c_l), (15, vI (l.length : Int)), (16, vI i20)] [99, 4, 3, 14, 15, 16] (by kernel_rfl) ?_
       refine ops_nil ?_
       refine fin_then ?_
       refine st_if (b := !(x51 == 0)) rfl (fun hc72 => ?_) (fun hc72 => ?_)
       · --
        have hp := cnd_t hc72 hp
        refine st_seq ?_
        refine st_region [oF 0] (by rfl) ?_
        refine oR [oF 0] [(2, .bool false)] [2] (by kernel_rfl) ?_
        refine ops_nil ?_
        refine fin_then ?_
        refine st_ret ?_
        refine fin_ret_block ?_
        refine fin_ret_then ?_
        refine fin_ret_block ?_
        refine fin_ret_then ?_
        refine fin_ret_then ?_
        refine fin_ret_block ?_
        refine fin_ret_then ?_
        obtain hq_ := Option.some.inj hp
        subst hq_
        obtain hq_ := hd2 _ rfl
        subst hq_
        have hp : some false = some t9001 := hk2
        have hq_ := Option.some.inj hp
        have hr0_ := hq_
        subst hr0_
        refine fin_ret [.tmp 2] [.bool false] rfl rfl (fun w_ hM => (.tmp rfl .nil)) (fun w_ hM => ?_)
        exact ⟨trivial, rfl, hM.pick 6 [5] (by kernel_rfl) (by decide) rfl⟩
       · --
        have hp := cnd_f hc72 hp
        refine st_skip ?_
        refine fin_block ?_
        exact fin_join HJ3 (A55, c56, x52, y57, x53, A70, c71, l63, y67) ⟨hp, h58, h69⟩ (look_has ⟨rfl, rfl, rfl, rfl, rfl, trivial⟩) (fun w_ hM => hM.pick 6 [3, 1, 4, 5] (by kernel_rfl) (by decide) rfl)
     · --
      have hp := cnd_f hc50 hp
      refine st_seq ?_
      refine st_region [oF 0, oF 1, oF 2, oF 3, oF 4, oF 5, oF 6, oF 7] (by rfl) ?_
      refine oR [] [(6, vP b33 0), (3, vP b4 0), (4, .slice A15 l17.length c16), (14, .slice A_l l.length c_l), (15, vI (l.length : Int)), (16, vI i20)] [6, 3, 4, 14, 15, 16] (by kernel_rfl) ?_
      obtain ⟨x73, x74, x75, hv76, hp⟩ := obind3 hp
      refine ops_callI (σ := (Option Addr) × (List Value)) (d := some 23) (f := 54) (args := #[vP b4 0]) (v := (fun x_ => match x_ with | (A77, y78) => .tuple #[vI x73, vI x74, vI x75])) (I := (fun x_ => match x_ with | (A77, y78) => (RepL R_queue_item_int F W l11 y78))) (M' := (fun x_ => match x_ with | (A77, y78) => Mem w0 (orow A77 l11.length c10 151 3 y78 :: .blk b33 [vI x22.1, vI x22.2.1, vI x22.2.2] 46 :: .blk b4 [.slice A77 l11.length c10, vI i14] 78 :: orow A15 l17.length c16 82 2 y18 :: Fz F W :: cs))) ⟨by kernel_rfl⟩ (fun w_ hM hS => (queue_Queue_int_First_ok w0 w_ (.blk b33 [vI x22.1, vI x22.2.1, vI x22.2.2] 46 :: orow A15 l17.length c16 82 2 y18 :: cs) F W b4 A9 c10 l11 y12 i14 (hM.pick 5 [1, 2, 4, 0, 3] (by kernel_rfl) (by decide) rfl) h13 x73 x74 x75 hv76).mono (by rintro e w' ⟨A77, y78, h79, rfl, h'⟩; have h' : Mem w0 (orow A77 l11.length c10 151 3 y78 :: .blk b33 [vI x22.1, vI x22.2.1, vI x22.2.2] 46 :: .blk b4 [.slice A77 l11.length c10, vI i14] 78 :: orow A15 l17.length c16 82 2 y18 :: Fz F W :: cs) w' := (h'.pick 5 [1, 3, 0, 4, 2] (by kernel_rfl) (by decide) rfl); exact ⟨(A77, y78), h79, rfl, h', trivial⟩)) ?_
      rintro ⟨A77, y78⟩ h79
      refine ops_conv (l' := [(23, .tuple #[vI x73, vI x74, vI x75]), (6, vP b33 0), (3, vP b4 0), (4, .slice A15 l17.length c16), (14, .slice A_l l.length c_l), (15, vI (l.length : Int)), (16, vI i20)]) (M' := Mem w0 (orow A77 l11.length c10 151 3 y78 :: .blk b33 [vI x22.1, vI x22.2.1, vI x22.2.2] 46 :: .blk b4 [.slice A77 l11.length c10, vI i14] 78 :: orow A15 l17.length c16 82 2 y18 :: Fz F W :: cs)) rfl (fun _ h => h) ?_
      refine oR [oF 1, oF 2, oF 3, oF 4, oF 5, oF 6, oF 7] [(10, vI x75), (9, vI x74), (8, vI x73), (6, vP b33 0), (3, vP b4 0), (4, .slice A15 l17.length c16), (14, .slice A_l l.length c_l), (15, vI (l.length : Int)), (16, vI i20)] [10, 9, 8, 6, 3, 4, 14, 15, 16] (by kernel_rfl) ?_
      refine ops_nil ?_
      refine fin_then ?_
      refine st_join1 (σ := (Option Addr) × (List queue_item_int) × (List Value) × Int × Int × Int) (L := fun x_ => match x_ with | (A80, l81, y82, i84, i85, i86) => [(3, vP b4 0), (4, .slice A15 l17.length c16), (6, vP b33 0), (8, vI i84), (9, vI i85), (10, vI i86), (14, .slice A_l l.length c_l), (15, vI (l.length : Int)), (16, vI i20)]) (N := fun x_ => match x_ with | (A80, l81, y82, i84, i85, i86) => Mem w0 (.blk b4 [.slice A80 l81.length c10, vI i14] 78 :: orow A80 l81.length c10 151 3 y82 :: orow A15 l17.length c16 82 2 y18 :: .blk b33 [vI x22.1, vI x22.2.1, vI x22.2.2] 46 :: Fz F W :: cs)) (I := fun x_ => match x_ with | (A80, l81, y82, i84, i85, i86) => ((tourlaw1_QueuePlays_j4 l17 i20 i14 x22) l81 i84 i85 i86 = some o2) ∧ (RepL R_queue_item_int F W l81 y82)) ?_ ?_
      · --
       rintro ⟨A80, l81, y82, i84, i85, i86⟩ ⟨hp, h83⟩
       refine st_conv (l' := [(3, vP b4 0), (4, .slice A15 l17.length c16), (6, vP b33 0), (8, vI i84), (9, vI i85), (10, vI i86), (14, .slice A_l l.length c_l), (15, vI (l.length : Int)), (16, vI i20)]) (M' := Mem w0 (.blk b4 [.slice A80 l81.length c10, vI i14] 78 :: orow A80 l81.length c10 151 3 y82 :: orow A15 l17.length c16 82 2 y18 :: .blk b33 [vI x22.1, vI x22.2.1, vI x22.2.2] 46 :: Fz F W :: cs)) rfl (fun _ h => h) ?_
       unfold tourlaw1_QueuePlays_j4 at hp
       refine st_seq ?_
       refine st_seq ?_
       refine st_region [oF 0, oF 1, oF 2] (by rfl) ?_
       refine oR [oF 0, oF 1, oF 2] [(37, .bool ((l17.length : Int) == 0)), (3, vP b4 0), (4, .slice A15 l17.length c16), (6, vP b33 0), (8, vI i84), (9, vI i85), (10, vI i86), (14, .slice A_l l.length c_l), (15, vI (l.length : Int)), (16, vI i20)] [37, 3, 4, 6, 8, 9, 10, 14, 15, 16] (by kernel_rfl) ?_
       refine ops_nil ?_
       refine fin_then ?_
       refine st_if (b := ((l17.length : Int) == 0)) rfl (fun hc87 => ?_) (fun hc87 => ?_)
       · --
        have hp := cnd_t hc87 hp
        refine st_seq ?_
        refine st_seq ?_
        refine st_region [oF 0, oF 1, oF 2, oF 3, oF 4, oF 5, oF 6, oF 7, oF 8, oF 9] (by rfl) ?_
        refine oR [oF 0, oF 1, oF 2] [(40, .bool (!(i84 == 0))), (3, vP b4 0), (4, .slice A15 l17.length c16), (9, vI i85), (10, vI i86), (14, .slice A_l l.length c_l), (15, vI (l.length : Int)), (16, vI i20)] [40, 3, 4, 9, 10, 14, 15, 16] (by kernel_rfl) ?_
        refine ops_bool (t := !(i84 == 0)) (l1 := [(40, .bool true), (3, vP b4 0), (4, .slice A15 l17.length c16), (9, vI i85), (10, vI i86), (14, .slice A_l l.length c_l), (15, vI (l.length : Int)), (16, vI i20)]) (l2 := [(40, .bool false), (3, vP b4 0), (4, .slice A15 l17.length c16), (9, vI i85), (10, vI i86), (14, .slice A_l l.length c_l), (15, vI (l.length : Int)), (16, vI i20)]) (fun h => by rw [h]) (fun h => by rw [h]) (fun hc88 => ?_) (fun hc88 => ?_)
        · --
         have hp := cnd_t hc88 hp
         refine oR [oF 3, oF 4, oF 5, oF 6, oF 7, oF 8, oF 9] [(47, .bool true), (3, vP b4 0), (4, .slice A15 l17.length c16), (14, .slice A_l l.length c_l), (15, vI (l.length : Int)), (16, vI i20)] [47, 3, 4, 14, 15, 16] (by kernel_rfl) ?_
         refine ops_nil ?_
         refine fin_then ?_
         refine st_true rfl ?_
         refine st_seq ?_
         refine st_region [oF 0] (by rfl) ?_
         refine oR [oF 0] [(2, .bool false)] [2] (by kernel_rfl) ?_
         refine ops_nil ?_
         refine fin_then ?_
         refine st_ret ?_
         refine fin_ret_then ?_
         refine fin_ret_then ?_
         refine fin_ret_block ?_
         refine fin_ret_then ?_
         refine fin_ret_block ?_
         refine fin_ret_then ?_
         refine fin_ret_then ?_
         refine fin_ret_block ?_
         refine fin_ret_then ?_
         obtain hq_ := Option.some.inj hp
         subst hq_
         obtain hq_ := hd2 _ rfl
         subst hq_
         have hp : some false = some t9001 := hk2
         have hq_ := Option.some.inj hp
         have hr0_ := hq_
         subst hr0_
         refine fin_ret [.tmp 2] [.bool false] rfl rfl (fun w_ hM => (.tmp rfl .nil)) (fun w_ hM => ?_)
         exact ⟨trivial, rfl, hM.pick 5 [4] (by kernel_rfl) (by decide) rfl⟩
        · --
         have hp := cnd_f hc88 hp
         refine oR [oF 3, oF 4, oF 5, oF 6] [(44, .bool (!(i85 == 0))), (3, vP b4 0), (4, .slice A15 l17.length c16), (10, vI i86), (14, .slice A_l l.length c_l), (15, vI (l.length : Int)), (16, vI i20)] [44, 3, 4, 10, 14, 15, 16] (by kernel_rfl) ?_
         refine ops_bool (t := !(i85 == 0)) (l1 := [(44, .bool true), (3, vP b4 0), (4, .slice A15 l17.length c16), (10, vI i86), (14, .slice A_l l.length c_l), (15, vI (l.length : Int)), (16, vI i20)]) (l2 := [(44, .bool false), (3, vP b4 0), (4, .slice A15 l17.length c16), (10, vI i86), (14, .slice A_l l.length c_l), (15, vI (l.length : Int)), (16, vI i20)]) (fun h => by rw [h]) (fun h => by rw [h]) (fun hc89 => ?_) (fun hc89 => ?_)
         · --
          have hp := cnd_t hc89 hp
          refine oR [oF 7, oF 8, oF 9] [(47, .bool true), (3, vP b4 0), (4, .slice A15 l17.length c16), (14, .slice A_l l.length c_l), (15, vI (l.length : Int)), (16, vI i20)] [47, 3, 4, 14, 15, 16] (by kernel_rfl) ?_
          refine ops_nil ?_
          refine fin_then ?_
          refine st_true rfl ?_
          refine st_seq ?_
          refine st_region [oF 0] (by rfl) ?_
          refine oR [oF 0] [(2, .bool false)] [2] (by kernel_rfl) ?_
          refine ops_nil ?_
          refine fin_then ?_
          refine st_ret ?_
          refine fin_ret_then ?_
          refine fin_ret_then ?_
          refine fin_ret_block ?_
          refine fin_ret_then ?_
          refine fin_ret_block ?_
          refine fin_ret_then ?_
          refine fin_ret_then ?_
          refine fin_ret_block ?_
          refine fin_ret_then ?_
          obtain hq_ := Option.some.inj hp
          subst hq_
          obtain hq_ := hd2 _ rfl
          subst hq_
          have hp : some false = some t9001 := hk2
          have hq_ := Option.some.inj hp
          have hr0_ := hq_
          subst hr0_
          refine fin_ret [.tmp 2] [.bool false] rfl rfl (fun w_ hM => (.tmp rfl .nil)) (fun w_ hM => ?_)
          exact ⟨trivial, rfl, hM.pick 5 [4] (by kernel_rfl) (by decide) rfl⟩
         · --
          have hp := cnd_f hc89 hp
          refine oR [oF 7, oF 8, oF 9] [(47, .bool (!(i86 == 4))), (3, vP b4 0), (4, .slice A15 l17.length c16), (14, .slice A_l l.length c_l), (15, vI (l.length : Int)), (16, vI i20)] [47, 3, 4, 14, 15, 16] (by kernel_rfl) ?_
          refine ops_nil ?_
          refine fin_then ?_
          refine st_if (b := !(i86 == 4)) rfl (fun hc90 => ?_) (fun hc90 => ?_)
          · --
           have hp := cnd_t hc90 hp
           refine st_seq ?_
           refine st_region [oF 0] (by rfl) ?_
           refine oR [oF 0] [(2, .bool false)] [2] (by kernel_rfl) ?_
           refine ops_nil ?_
           refine fin_then ?_
           refine st_ret ?_
           refine fin_ret_then ?_
           refine fin_ret_then ?_
           refine fin_ret_block ?_
           refine fin_ret_then ?_
           refine fin_ret_block ?_
           refine fin_ret_then ?_
           refine fin_ret_then ?_
           refine fin_ret_block ?_
           refine fin_ret_then ?_
           obtain hq_ := Option.some.inj hp
           subst hq_
           obtain hq_ := hd2 _ rfl
           subst hq_
           have hp : some false = some t9001 := hk2
           have hq_ := Option.some.inj hp
           have hr0_ := hq_
           subst hr0_
           refine fin_ret [.tmp 2] [.bool false] rfl rfl (fun w_ hM => (.tmp rfl .nil)) (fun w_ hM => ?_)
           exact ⟨trivial, rfl, hM.pick 5 [4] (by kernel_rfl) (by decide) rfl⟩
          · --
           have hp := cnd_f hc90 hp
           refine st_skip ?_
           refine fin_then ?_
           refine st_exit ?_
           refine fin_exit_then ?_
           refine fin_exit ?_
           exact fin_join HJ3 (A80, c10, l81, y82, i14, A15, c16, l17, y18) ⟨hp, h83, h19⟩ (look_has ⟨rfl, rfl, rfl, rfl, rfl, trivial⟩) (fun w_ hM => hM.pick 5 [0, 1, 2, 4] (by kernel_rfl) (by decide) rfl)
       · --
        have hp := cnd_f hc87 hp
        refine st_skip ?_
        refine fin_then ?_
        refine st_seq ?_
        refine st_region [oF 0, oF 1, oF 2] (by rfl) ?_
        refine oR [oF 0] [(48, .slice A15 l17.length c16), (3, vP b4 0), (4, .slice A15 l17.length c16), (6, vP b33 0), (8, vI i84), (9, vI i85), (10, vI i86), (14, .slice A_l l.length c_l), (15, vI (l.length : Int)), (16, vI i20)] [48, 3, 4, 6, 8, 9, 10, 14, 15, 16] (by kernel_rfl) ?_
        obtain ⟨x91, hv92, hp⟩ := obind hp
        refine ops_callI (σ := Unit) (d := some 49) (f := 56) (args := #[.slice A15 l17.length c16]) (v := (fun _ => vI x91)) (I := (fun _ => True)) (M' := (fun _ => Mem w0 (.blk b4 [.slice A80 l81.length c10, vI i14] 78 :: orow A80 l81.length c10 151 3 y82 :: orow A15 l17.length c16 82 2 y18 :: .blk b33 [vI x22.1, vI x22.2.1, vI x22.2.2] 46 :: Fz F W :: cs))) ⟨by kernel_rfl⟩ (fun w_ hM hS => (tourref1_Taken_ok w_ w_ [] (fun b => b < w_.heap.size) w_ A15 c16 l17 (Mem.fz0 w_) (hM.ordS 2 4 rfl rfl h19 rfl rfl) x91 hv92).mono (by rintro e w' ⟨-, rfl, h'⟩; have h' : Mem w_ [] w' := h'.pick 1 [] (by kernel_rfl) (by decide) rfl; exact ⟨(), trivial, rfl, hM.join h' rfl, trivial⟩)) ?_
        rintro _ -
        refine ops_conv (l' := [(49, vI x91), (48, .slice A15 l17.length c16), (3, vP b4 0), (4, .slice A15 l17.length c16), (6, vP b33 0), (8, vI i84), (9, vI i85), (10, vI i86), (14, .slice A_l l.length c_l), (15, vI (l.length : Int)), (16, vI i20)]) (M' := Mem w0 (.blk b4 [.slice A80 l81.length c10, vI i14] 78 :: orow A80 l81.length c10 151 3 y82 :: orow A15 l17.length c16 82 2 y18 :: .blk b33 [vI x22.1, vI x22.2.1, vI x22.2.2] 46 :: Fz F W :: cs)) rfl (fun _ h => h) ?_
        refine oR [oF 2] [(11, vI x91), (3, vP b4 0), (4, .slice A15 l17.length c16), (6, vP b33 0), (8, vI i84), (9, vI i85), (10, vI i86), (14, .slice A_l l.length c_l), (15, vI (l.length : Int)), (16, vI i20)] [11, 3, 4, 6, 8, 9, 10, 14, 15, 16] (by kernel_rfl) ?_
        refine ops_nil ?_
        refine fin_then ?_
        refine st_seq ?_
        refine st_seq ?_
        refine st_region [oF 0, oF 1, oF 2, oF 3, oF 4, oF 5, oF 6, oF 7, oF 8, oF 9, oF 10, oF 11, oF 12, oF 13, oF 14, oF 15, oF 16, oF 17, oF 18, oF 19] (by rfl) ?_
        refine oR [oF 0, oF 1, oF 2] [(52, .bool (!(i86 == 0))), (11, vI x91), (3, vP b4 0), (4, .slice A15 l17.length c16), (6, vP b33 0), (8, vI i84), (9, vI i85), (14, .slice A_l l.length c_l), (15, vI (l.length : Int)), (16, vI i20)] [52, 11, 3, 4, 6, 8, 9, 14, 15, 16] (by kernel_rfl) ?_
        refine ops_bool (t := !(i86 == 0)) (l1 := [(52, .bool true), (11, vI x91), (3, vP b4 0), (4, .slice A15 l17.length c16), (6, vP b33 0), (8, vI i84), (9, vI i85), (14, .slice A_l l.length c_l), (15, vI (l.length : Int)), (16, vI i20)]) (l2 := [(52, .bool false), (11, vI x91), (3, vP b4 0), (4, .slice A15 l17.length c16), (6, vP b33 0), (8, vI i84), (9, vI i85), (14, .slice A_l l.length c_l), (15, vI (l.length : Int)), (16, vI i20)]) (fun h => by rw [h]) (fun h => by rw [h]) (fun hc93 => ?_) (fun hc93 => ?_)
        · --
         have hp := cnd_t hc93 hp
         refine oR [oF 3, oF 4, oF 5, oF 6, oF 7, oF 8, oF 9, oF 10, oF 11, oF 12, oF 13, oF 14, oF 15, oF 16, oF 17, oF 18, oF 19] [(69, .bool true), (11, vI x91), (3, vP b4 0), (4, .slice A15 l17.length c16), (6, vP b33 0), (14, .slice A_l l.length c_l), (15, vI (l.length : Int)), (16, vI i20)] [69, 11, 3, 4, 6, 14, 15, 16] (by kernel_rfl) ?_
         refine ops_nil ?_
         refine fin_then ?_
         refine st_true rfl ?_
         refine st_seq ?_
         refine st_region [oF 0] (by rfl) ?_
         refine oR [oF 0] [(2, .bool false)] [2] (by kernel_rfl) ?_
         refine ops_nil ?_
         refine fin_then ?_
         refine st_ret ?_
         refine fin_ret_then ?_
         refine fin_ret_block ?_
         refine fin_ret_then ?_
         refine fin_ret_block ?_
         refine fin_ret_then ?_
         refine fin_ret_then ?_
         refine fin_ret_block ?_
         refine fin_ret_then ?_
         obtain hq_ := Option.some.inj hp
         subst hq_
         obtain hq_ := hd2 _ rfl
         subst hq_
         have hp : some false = some t9001 := hk2
         have hq_ := Option.some.inj hp
         have hr0_ := hq_
         subst hr0_
         refine fin_ret [.tmp 2] [.bool false] rfl rfl (fun w_ hM => (.tmp rfl .nil)) (fun w_ hM => ?_)
         exact ⟨trivial, rfl, hM.pick 5 [4] (by kernel_rfl) (by decide) rfl⟩
        · --
         have hp := cnd_f hc93 hp
         refine oR [oF 3, oF 4, oF 5] [(55, vI x91), (54, .slice A15 l17.length c16), (53, vI i84), (52, .bool false), (11, vI x91), (3, vP b4 0), (4, .slice A15 l17.length c16), (6, vP b33 0), (9, vI i85), (14, .slice A_l l.length c_l), (15, vI (l.length : Int)), (16, vI i20)] [55, 54, 53, 52, 11, 3, 4, 6, 9, 14, 15, 16] (by kernel_rfl) ?_
         obtain ⟨x94, hv95, hp⟩ := obind hp
         obtain ⟨m96, hm97, hx98⟩ := idx_some hv95
         have hl101 := (List.getElem?_eq_some_iff.1 hx98).1
         refine ops_fact (fun w_ hM => hM.orowSome 2 rfl (Nat.lt_of_le_of_lt (Nat.zero_le _) hl101)) ?_
         rintro ⟨g102, rfl, -⟩
         obtain ⟨vs99, hr100, hq103⟩ := h19.at_ m96 x94 hx98
         obtain rfl := dec_tourref1_Waiting hr100
         refine ops_val (op := (Go.Op.indexAddr 79 (Go.Operand.tmp 54) (Go.Operand.tmp 55))) (d := some 56) (v := vP g102 (m96 * 2)) ⟨by kernel_rfl⟩ (run_indexRow Try.underlying79 (z := 2) (by kernel_rfl) rfl rfl hm97 hl101 rfl) ?_
         refine oR [oF 7] [(57, vP g102 (m96 * 2)), (53, vI i84), (52, .bool false), (11, vI x91), (3, vP b4 0), (4, .slice (some ⟨g102, 0, none⟩) l17.length c16), (6, vP b33 0), (9, vI i85), (14, .slice A_l l.length c_l), (15, vI (l.length : Int)), (16, vI i20)] [57, 53, 52, 11, 3, 4, 6, 9, 14, 15, 16] (by kernel_rfl) ?_
         refine ops_mem (d := some 58) (an := [.v (vI x94.V)]) (evs := [.load ⟨g102, m96 * 2, none⟩ (vI x94.V)]) (v := vI x94.V) (M' := Mem w0 (.blk b4 [.slice A80 l81.length c10, vI i14] 78 :: orow A80 l81.length c10 151 3 y82 :: orow (some ⟨g102, 0, none⟩) l17.length c16 82 2 y18 :: .blk b33 [vI x22.1, vI x22.2.1, vI x22.2.2] 46 :: Fz F W :: cs)) ⟨by kernel_rfl⟩ (fun w_ hM hS => ⟨w_, ⟨hM.ocell 2 rfl (hq103 0 _ rfl), rfl⟩, hM, trivial⟩) ?_
         refine oR [oF 9, oF 10, oF 11] [(61, .bool (!(i84 == x94.V))), (11, vI x91), (3, vP b4 0), (4, .slice (some ⟨g102, 0, none⟩) l17.length c16), (6, vP b33 0), (9, vI i85), (14, .slice A_l l.length c_l), (15, vI (l.length : Int)), (16, vI i20)] [61, 11, 3, 4, 6, 9, 14, 15, 16] (by kernel_rfl) ?_
         refine ops_bool (t := !(i84 == x94.V)) (l1 := [(61, .bool true), (11, vI x91), (3, vP b4 0), (4, .slice (some ⟨g102, 0, none⟩) l17.length c16), (6, vP b33 0), (9, vI i85), (14, .slice A_l l.length c_l), (15, vI (l.length : Int)), (16, vI i20)]) (l2 := [(61, .bool false), (11, vI x91), (3, vP b4 0), (4, .slice (some ⟨g102, 0, none⟩) l17.length c16), (6, vP b33 0), (9, vI i85), (14, .slice A_l l.length c_l), (15, vI (l.length : Int)), (16, vI i20)]) (fun h => by rw [h]) (fun h => by rw [h]) (fun hc104 => ?_) (fun hc104 => ?_)
         · --
          have hp := cnd_t hc104 hp
          refine oR [oF 12, oF 13, oF 14, oF 15, oF 16, oF 17, oF 18, oF 19] [(69, .bool true), (11, vI x91), (3, vP b4 0), (4, .slice (some ⟨g102, 0, none⟩) l17.length c16), (6, vP b33 0), (14, .slice A_l l.length c_l), (15, vI (l.length : Int)), (16, vI i20)] [69, 11, 3, 4, 6, 14, 15, 16] (by kernel_rfl) ?_
          refine ops_nil ?_
          refine fin_then ?_
          refine st_true rfl ?_
          refine st_seq ?_
          refine st_region [oF 0] (by rfl) ?_
          refine oR [oF 0] [(2, .bool false)] [2] (by kernel_rfl) ?_
          refine ops_nil ?_
          refine fin_then ?_
          refine st_ret ?_
          refine fin_ret_then ?_
          refine fin_ret_block ?_
          refine fin_ret_then ?_
          refine fin_ret_block ?_
          refine fin_ret_then ?_
          refine fin_ret_then ?_
          refine fin_ret_block ?_
          refine fin_ret_then ?_
          obtain hq_ := Option.some.inj hp
          subst hq_
          obtain hq_ := hd2 _ rfl
          subst hq_
          have hp : some false = some t9001 := hk2
          have hq_ := Option.some.inj hp
          have hr0_ := hq_
          subst hr0_
          refine fin_ret [.tmp 2] [.bool false] rfl rfl (fun w_ hM => (.tmp rfl .nil)) (fun w_ hM => ?_)
          exact ⟨trivial, rfl, hM.pick 5 [4] (by kernel_rfl) (by decide) rfl⟩
         · --
          have hp := cnd_f hc104 hp
          refine oR [oF 12, oF 13, oF 14] [(64, vI x91), (63, .slice (some ⟨g102, 0, none⟩) l17.length c16), (62, vI i85), (61, .bool false), (11, vI x91), (3, vP b4 0), (4, .slice (some ⟨g102, 0, none⟩) l17.length c16), (6, vP b33 0), (14, .slice A_l l.length c_l), (15, vI (l.length : Int)), (16, vI i20)] [64, 63, 62, 61, 11, 3, 4, 6, 14, 15, 16] (by kernel_rfl) ?_
          obtain ⟨x105, hv106, hp⟩ := obind hp
          obtain ⟨m107, hm108, hx109⟩ := idx_some hv106
          have hl112 := (List.getElem?_eq_some_iff.1 hx109).1
          obtain ⟨vs110, hr111, hq113⟩ := h19.at_ m107 x105 hx109
          obtain rfl := dec_tourref1_Waiting hr111
          refine ops_val (op := (Go.Op.indexAddr 79 (Go.Operand.tmp 63) (Go.Operand.tmp 64))) (d := some 65) (v := vP g102 (m107 * 2)) ⟨by kernel_rfl⟩ (run_indexRow Try.underlying79 (z := 2) (by kernel_rfl) rfl rfl hm108 hl112 rfl) ?_
          refine oR [oF 16] [(66, vP g102 (m107 * 2 + 1)), (62, vI i85), (61, .bool false), (11, vI x91), (3, vP b4 0), (4, .slice (some ⟨g102, 0, none⟩) l17.length c16), (6, vP b33 0), (14, .slice A_l l.length c_l), (15, vI (l.length : Int)), (16, vI i20)] [66, 62, 61, 11, 3, 4, 6, 14, 15, 16] (by kernel_rfl) ?_
          refine ops_mem (d := some 67) (an := [.v (vI x105.Rank)]) (evs := [.load ⟨g102, m107 * 2 + 1, none⟩ (vI x105.Rank)]) (v := vI x105.Rank) (M' := Mem w0 (.blk b4 [.slice A80 l81.length c10, vI i14] 78 :: orow A80 l81.length c10 151 3 y82 :: orow (some ⟨g102, 0, none⟩) l17.length c16 82 2 y18 :: .blk b33 [vI x22.1, vI x22.2.1, vI x22.2.2] 46 :: Fz F W :: cs)) ⟨by kernel_rfl⟩ (fun w_ hM hS => ⟨w_, ⟨hM.ocell 2 rfl (hq113 1 _ rfl), rfl⟩, hM, trivial⟩) ?_
          refine oR [oF 18, oF 19] [(69, .bool (!(i85 == x105.Rank))), (11, vI x91), (3, vP b4 0), (4, .slice (some ⟨g102, 0, none⟩) l17.length c16), (6, vP b33 0), (14, .slice A_l l.length c_l), (15, vI (l.length : Int)), (16, vI i20)] [69, 11, 3, 4, 6, 14, 15, 16] (by kernel_rfl) ?_
          refine ops_nil ?_
          refine fin_then ?_
          refine st_if (b := !(i85 == x105.Rank)) rfl (fun hc114 => ?_) (fun hc114 => ?_)
          · --
           have hp := cnd_t hc114 hp
           refine st_seq ?_
           refine st_region [oF 0] (by rfl) ?_
           refine oR [oF 0] [(2, .bool false)] [2] (by kernel_rfl) ?_
           refine ops_nil ?_
           refine fin_then ?_
           refine st_ret ?_
           refine fin_ret_then ?_
           refine fin_ret_block ?_
           refine fin_ret_then ?_
           refine fin_ret_block ?_
           refine fin_ret_then ?_
           refine fin_ret_then ?_
           refine fin_ret_block ?_
           refine fin_ret_then ?_
           obtain hq_ := Option.some.inj hp
           subst hq_
           obtain hq_ := hd2 _ rfl
           subst hq_
           have hp : some false = some t9001 := hk2
           have hq_ := Option.some.inj hp
           have hr0_ := hq_
           subst hr0_
           refine fin_ret [.tmp 2] [.bool false] rfl rfl (fun w_ hM => (.tmp rfl .nil)) (fun w_ hM => ?_)
           exact ⟨trivial, rfl, hM.pick 5 [4] (by kernel_rfl) (by decide) rfl⟩
          · --
           have hp := cnd_f hc114 hp
           refine st_skip ?_
           refine fin_then ?_
           refine st_seq ?_
           refine st_region [oF 0, oF 1, oF 2] (by rfl) ?_
           refine oR [oF 0] [(70, vP b33 2), (11, vI x91), (3, vP b4 0), (4, .slice (some ⟨g102, 0, none⟩) l17.length c16), (14, .slice A_l l.length c_l), (15, vI (l.length : Int)), (16, vI i20)] [70, 11, 3, 4, 14, 15, 16] (by kernel_rfl) ?_
           refine ops_mem (d := some 71) (an := [.v (vI x22.2.2)]) (evs := [.load ⟨b33, 2, none⟩ (vI x22.2.2)]) (v := vI x22.2.2) (M' := Mem w0 (.blk b4 [.slice A80 l81.length c10, vI i14] 78 :: orow A80 l81.length c10 151 3 y82 :: orow (some ⟨g102, 0, none⟩) l17.length c16 82 2 y18 :: .blk b33 [vI x22.1, vI x22.2.1, vI x22.2.2] 46 :: Fz F W :: cs)) ⟨by kernel_rfl⟩ (fun w_ hM hS => ⟨w_, ⟨hM.cell 3 rfl rfl, rfl⟩, hM, trivial⟩) ?_
           refine oR [oF 2] [(72, .bool (!(x22.2.2 == 1))), (11, vI x91), (3, vP b4 0), (4, .slice (some ⟨g102, 0, none⟩) l17.length c16), (14, .slice A_l l.length c_l), (15, vI (l.length : Int)), (16, vI i20)] [72, 11, 3, 4, 14, 15, 16] (by kernel_rfl) ?_
           refine ops_nil ?_
           refine fin_then ?_
           refine st_if (b := !(x22.2.2 == 1)) rfl (fun hc115 => ?_) (fun hc115 => ?_)
           · --
            have hp := cnd_t hc115 hp
            refine st_region [oF 0, oF 1, oF 2, oF 3, oF 4, oF 5] (by rfl) ?_
            refine oR [oF 0, oF 1, oF 2, oF 3] [(76, vI (IntKind.i64.wrap (x91 + 1))), (74, vI x91), (73, .slice (some ⟨g102, 0, none⟩) l17.length c16), (3, vP b4 0), (4, .slice (some ⟨g102, 0, none⟩) l17.length c16), (14, .slice A_l l.length c_l), (15, vI (l.length : Int)), (16, vI i20)] [76, 74, 73, 3, 4, 14, 15, 16] (by kernel_rfl) ?_
            obtain ⟨x116, hv117, hp⟩ := obind hp
            refine ops_callI (σ := (List Value)) (d := some 77) (f := 57) (args := #[.slice (some ⟨g102, 0, none⟩) l17.length c16, vI x91, vI (IntKind.i64.wrap (x91 + 1))]) (v := (fun x_ => match x_ with | y118 => .slice (some ⟨g102, 0, none⟩) x116.length c16)) (I := (fun x_ => match x_ with | y118 => (RepL R_tourref1_Waiting F W x116 y118))) (M' := (fun x_ => match x_ with | y118 => Mem w0 (.blk b4 [.slice A80 l81.length c10, vI i14] 78 :: orow A80 l81.length c10 151 3 y82 :: orow (some ⟨g102, 0, none⟩) x116.length c16 82 2 y118 :: .blk b33 [vI x22.1, vI x22.2.1, vI x22.2.2] 46 :: Fz F W :: cs))) ⟨by kernel_rfl⟩ (fun w_ hM hS => (slices_Delete_tourref1_Waiting_tourref1_Waiting_ok w0 w_ (.blk b4 [.slice A80 l81.length c10, vI i14] 78 :: orow A80 l81.length c10 151 3 y82 :: .blk b33 [vI x22.1, vI x22.2.1, vI x22.2.2] 46 :: cs) F W (some ⟨g102, 0, none⟩) c16 l17 y18 x91 (IntKind.i64.wrap (x91 + 1)) (hM.pick 5 [2, 4, 0, 1, 3] (by kernel_rfl) (by decide) rfl) h19 x116 hv117).mono (by rintro e w' ⟨y118, h119, rfl, h'⟩; have h' : Mem w0 (.blk b4 [.slice A80 l81.length c10, vI i14] 78 :: orow A80 l81.length c10 151 3 y82 :: orow (some ⟨g102, 0, none⟩) x116.length c16 82 2 y118 :: .blk b33 [vI x22.1, vI x22.2.1, vI x22.2.2] 46 :: Fz F W :: cs) w' := (h'.pick 5 [2, 3, 0, 4, 1] (by kernel_rfl) (by decide) rfl); exact ⟨y118, h119, rfl, h', trivial⟩)) ?_
            rintro y118 h119
            refine ops_conv (l' := [(77, .slice (some ⟨g102, 0, none⟩) x116.length c16), (76, vI (IntKind.i64.wrap (x91 + 1))), (74, vI x91), (73, .slice (some ⟨g102, 0, none⟩) l17.length c16), (3, vP b4 0), (4, .slice (some ⟨g102, 0, none⟩) l17.length c16), (14, .slice A_l l.length c_l), (15, vI (l.length : Int)), (16, vI i20)]) (M' := Mem w0 (.blk b4 [.slice A80 l81.length c10, vI i14] 78 :: orow A80 l81.length c10 151 3 y82 :: orow (some ⟨g102, 0, none⟩) x116.length c16 82 2 y118 :: .blk b33 [vI x22.1, vI x22.2.1, vI x22.2.2] 46 :: Fz F W :: cs)) rfl (fun _ h => h) ?_
            refine oR [oF 5] [(4, .slice (some ⟨g102, 0, none⟩) x116.length c16), (3, vP b4 0), (14, .slice A_l l.length c_l), (15, vI (l.length : Int)), (16, vI i20)] [4, 3, 14, 15, 16] (by kernel_rfl) ?_
            refine ops_nil ?_
            refine fin_block ?_
            exact fin_join HJ3 (A80, c10, l81, y82, i14, (some ⟨g102, 0, none⟩), c16, x116, y118) ⟨hp, h83, h119⟩ (look_has ⟨rfl, rfl, rfl, rfl, rfl, trivial⟩) (fun w_ hM => hM.pick 5 [0, 1, 2, 4] (by kernel_rfl) (by decide) rfl)
           · --
            have hp := cnd_f hc115 hp
            refine st_skip ?_
            refine fin_block ?_
            exact fin_join HJ3 (A80, c10, l81, y82, i14, (some ⟨g102, 0, none⟩), c16, l17, y18) ⟨hp, h83, h19⟩ (look_has ⟨rfl, rfl, rfl, rfl, rfl, trivial⟩) (fun w_ hM => hM.pick 5 [0, 1, 2, 4] (by kernel_rfl) (by decide) rfl)
      · --
       intro HJ4
       refine st_seq ?_
       refine st_seq ?_
       refine st_region [oF 0, oF 1, oF 2] (by rfl) ?_
       refine oR [oF 0] [(27, vP b33 2), (10, vI x75), (9, vI x74), (8, vI x73), (6, vP b33 0), (3, vP b4 0), (4, .slice A15 l17.length c16), (14, .slice A_l l.length c_l), (15, vI (l.length : Int)), (16, vI i20)] [27, 10, 9, 8, 6, 3, 4, 14, 15, 16] (by kernel_rfl) ?_
       refine ops_mem (d := some 28) (an := [.v (vI x22.2.2)]) (evs := [.load ⟨b33, 2, none⟩ (vI x22.2.2)]) (v := vI x22.2.2) (M' := Mem w0 (orow A77 l11.length c10 151 3 y78 :: .blk b33 [vI x22.1, vI x22.2.1, vI x22.2.2] 46 :: .blk b4 [.slice A77 l11.length c10, vI i14] 78 :: orow A15 l17.length c16 82 2 y18 :: Fz F W :: cs)) ⟨by kernel_rfl⟩ (fun w_ hM hS => ⟨w_, ⟨hM.cell 1 rfl rfl, rfl⟩, hM, trivial⟩) ?_
       refine oR [oF 2] [(29, .bool (!(x22.2.2 == 1))), (10, vI x75), (9, vI x74), (8, vI x73), (6, vP b33 0), (3, vP b4 0), (4, .slice A15 l17.length c16), (14, .slice A_l l.length c_l), (15, vI (l.length : Int)), (16, vI i20)] [29, 10, 9, 8, 6, 3, 4, 14, 15, 16] (by kernel_rfl) ?_
       refine ops_nil ?_
       refine fin_then ?_
       refine st_if (b := !(x22.2.2 == 1)) rfl (fun hc120 => ?_) (fun hc120 => ?_)
       · --
        have hp := cnd_t hc120 hp
        refine st_region [oF 0, oF 1, oF 2, oF 3, oF 4, oF 5, oF 6, oF 7] (by rfl) ?_
        refine oR [] [(10, vI x75), (9, vI x74), (8, vI x73), (6, vP b33 0), (3, vP b4 0), (4, .slice A15 l17.length c16), (14, .slice A_l l.length c_l), (15, vI (l.length : Int)), (16, vI i20)] [10, 9, 8, 6, 3, 4, 14, 15, 16] (by kernel_rfl) ?_
        obtain ⟨x121, x122, x123, x124, hv125, hp⟩ := obind4 hp
        refine ops_callI (σ := (Option Addr) × (List Value)) (d := some 31) (f := 55) (args := #[vP b4 0]) (v := (fun x_ => match x_ with | (A126, y127) => .tuple #[vI x121, vI x122, vI x123])) (I := (fun x_ => match x_ with | (A126, y127) => (RepL R_queue_item_int F W x124 y127))) (M' := (fun x_ => match x_ with | (A126, y127) => Mem w0 (orow A126 x124.length c10 151 3 y127 :: .blk b33 [vI x22.1, vI x22.2.1, vI x22.2.2] 46 :: .blk b4 [.slice A126 x124.length c10, vI i14] 78 :: orow A15 l17.length c16 82 2 y18 :: Fz F W :: cs))) ⟨by kernel_rfl⟩ (fun w_ hM hS => (queue_Queue_int_Take_ok w0 w_ (.blk b33 [vI x22.1, vI x22.2.1, vI x22.2.2] 46 :: orow A15 l17.length c16 82 2 y18 :: cs) F W b4 A77 c10 l11 y78 i14 (hM.pick 5 [2, 0, 4, 1, 3] (by kernel_rfl) (by decide) rfl) h79 x121 x122 x123 x124 hv125).mono (by rintro e w' ⟨A126, y127, h128, rfl, h'⟩; have h' : Mem w0 (orow A126 x124.length c10 151 3 y127 :: .blk b33 [vI x22.1, vI x22.2.1, vI x22.2.2] 46 :: .blk b4 [.slice A126 x124.length c10, vI i14] 78 :: orow A15 l17.length c16 82 2 y18 :: Fz F W :: cs) w' := (h'.pick 5 [1, 3, 0, 4, 2] (by kernel_rfl) (by decide) rfl); exact ⟨(A126, y127), h128, rfl, h', trivial⟩)) ?_
        rintro ⟨A126, y127⟩ h128
        refine ops_conv (l' := [(31, .tuple #[vI x121, vI x122, vI x123]), (10, vI x75), (9, vI x74), (8, vI x73), (6, vP b33 0), (3, vP b4 0), (4, .slice A15 l17.length c16), (14, .slice A_l l.length c_l), (15, vI (l.length : Int)), (16, vI i20)]) (M' := Mem w0 (orow A126 x124.length c10 151 3 y127 :: .blk b33 [vI x22.1, vI x22.2.1, vI x22.2.2] 46 :: .blk b4 [.slice A126 x124.length c10, vI i14] 78 :: orow A15 l17.length c16 82 2 y18 :: Fz F W :: cs)) rfl (fun _ h => h) ?_
        refine oR [oF 1, oF 2, oF 3, oF 4, oF 5, oF 6, oF 7] [(10, vI x123), (9, vI x122), (8, vI x121), (6, vP b33 0), (3, vP b4 0), (4, .slice A15 l17.length c16), (14, .slice A_l l.length c_l), (15, vI (l.length : Int)), (16, vI i20)] [10, 9, 8, 6, 3, 4, 14, 15, 16] (by kernel_rfl) ?_
        refine ops_nil ?_
        exact fin_join HJ4 (A126, x124, y127, x121, x122, x123) ⟨hp, h128⟩ (look_has ⟨rfl, rfl, rfl, rfl, rfl, rfl, rfl, rfl, rfl, trivial⟩) (fun w_ hM => hM.pick 5 [2, 0, 3, 1, 4] (by kernel_rfl) (by decide) rfl)
       · --
        have hp := cnd_f hc120 hp
        refine st_skip ?_
        exact fin_join HJ4 (A77, l11, y78, x73, x74, x75) ⟨hp, h79⟩ (look_has ⟨rfl, rfl, rfl, rfl, rfl, rfl, rfl, rfl, rfl, trivial⟩) (fun w_ hM => hM.pick 5 [2, 0, 3, 1, 4] (by kernel_rfl) (by decide) rfl)
   · --
    have hp := cnd_f hc21 hp
    refine st_exit ?_
    refine fin_exit_then ?_
    refine fin_exit_then ?_
    refine fin_exit ?_
    obtain hq_ := Option.some.inj hp
    subst hq_
    obtain hq_ := hd2 _ rfl
    subst hq_
    have hp : tourlaw1_QueuePlays_j1 = some t9001 := hk2
    exact fin_join HJ1 () hp (look_has trivial) (fun w_ hM => hM.pick 4 [3] (by kernel_rfl) (by decide) rfl)
end Go.Proofs.Ytfihfbkjomploaa.X
