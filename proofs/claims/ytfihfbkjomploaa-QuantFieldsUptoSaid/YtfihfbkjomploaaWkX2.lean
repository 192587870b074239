/- The Go functions come to what the plain functions tell. No condition. -/
import Derived.Test.YtfihfbkjomploaaProg
import Derived.Test.YtfihfbkjomploaaFnX
import Derived.Test.YtfihfbkjomploaaWkX0
import Derived.Test.YtfihfbkjomploaaWkX1
namespace Go.Proofs.Ytfihfbkjomploaa.X
open Go Go.RowKit Go.Proofs.Ytfihfbkjomploaa.Sx
set_option linter.unusedVariables false
set_option maxHeartbeats 4000000 in
set_option maxRecDepth 100000 in
theorem tourlaw1_BitsReads_ok (w0 w : World) (cs : List Chunk) (F : Nat → Prop) (W : World) (A_data : Option Addr) (c_data : Nat) (data : List Int) (A_l : Option Addr) (c_l : Nat) (l : List (Int × Int)) (hM0 : Mem w0 (Fz F W :: cs) w) (h_data : RdS (Rep.int .u8) F W A_data c_data data) (h_l : RdS R_arr2_Int F W A_l c_l l) (t9001 : Bool) (hp : tourlaw1_BitsReads data l = some t9001) : Calls Try.prog 3 #[.slice A_data data.length c_data, .slice A_l l.length c_l] w fun e w' => (True) ∧ e = .returned (.bool t9001) ∧ Mem w0 (Fz F W :: cs) w' := by
 unfold tourlaw1_BitsReads at hp
 refine sx_calls Try.func3 rfl (n := 126) (by kernel_rfl) (l := [(0, .slice A_data data.length c_data), (1, .slice A_l l.length c_l)]) rfl (by rfl) hM0 ?_
 refine st_seq ?_
 refine st_region [oF 0] (by rfl) ?_
 refine oR [oF 0] [(0, .slice A_data data.length c_data), (1, .slice A_l l.length c_l)] [0, 1] (by kernel_rfl) ?_
 refine ops_nil ?_
 refine fin_then ?_
 refine st_seq ?_
 refine st_seq ?_
 refine st_region [oF 0, oF 1, oF 2, oF 3, oF 4, oF 5, oF 6, oF 7] (by rfl) ?_
 have h1 : RepL (Rep.int .u8) F W ([6] : List Int) ([.int .u8 6]) := (RepL.cons (R := (Rep.int .u8)) (F := F) (w := W) (vs := [.int .u8 6]) (ys := []) rfl RepL.nil)
 refine ops_new (d := some 24) (o := .cells ([.int .u8 6]).toArray 5) (v := fun g2 => .slice (some ⟨g2, 0, none⟩) ([6] : List Int).length 1) (M' := fun g2 => Mem w0 (orow (some ⟨g2, 0, none⟩) ([6] : List Int).length 1 5 1 ([.int .u8 6]) :: Fz F W :: cs)) (fun g2 => ⟨by kernel_rfl⟩) (fun w_ hM hS => ⟨hM.onew [.int .u8 6] 5 1 1 rfl (by decide), trivial⟩) (fun g2 => ?_)
 obtain ⟨x3, hv4, hp⟩ := obind hp
 refine ops_callI (σ := Nat × (Option Addr) × Nat × (List Value)) (d := some 25) (f := 15) (args := #[.slice (some ⟨g2, 0, none⟩) ([6] : List Int).length 1]) (v := (fun x_ => match x_ with | (b5, A6, c7, y8) => vP b5 0)) (I := (fun x_ => match x_ with | (b5, A6, c7, y8) => (RepL (Rep.int .u8) F W x3 y8))) (M' := (fun x_ => match x_ with | (b5, A6, c7, y8) => Mem w0 (.blk b5 [.slice A6 x3.length c7, vI 0] 136 :: orow A6 x3.length c7 5 1 y8 :: orow (some ⟨g2, 0, none⟩) ([6] : List Int).length 1 5 1 ([.int .u8 6]) :: Fz F W :: cs))) ⟨by kernel_rfl⟩ (fun w_ hM hS => (bits_New_ok w_ w_ [] (fun b => b < w_.heap.size) w_ (some ⟨g2, 0, none⟩) 1 ([6] : List Int) (Mem.fz0 w_) (hM.ordS 0 1 rfl rfl h1 rfl rfl) x3 hv4).mono (by rintro e w' ⟨b5, A6, c7, y8, h9, rfl, h'⟩; have h' : Mem w_ [.blk b5 [.slice A6 x3.length c7, vI 0] 136, orow A6 x3.length c7 5 1 y8] w' := h'.pick 3 [0, 1] (by kernel_rfl) (by decide) rfl; exact ⟨(b5, A6, c7, y8), (RepL.move' (fun h => h) h9), rfl, hM.join h' rfl, trivial⟩)) ?_
 rintro ⟨b5, A6, c7, y8⟩ h9
 refine ops_conv (l' := [(25, vP b5 0), (24, .slice (some ⟨g2, 0, none⟩) ([6] : List Int).length 1), (0, .slice A_data data.length c_data), (1, .slice A_l l.length c_l)]) (M' := Mem w0 (.blk b5 [.slice A6 x3.length c7, vI 0] 136 :: orow A6 x3.length c7 5 1 y8 :: orow (some ⟨g2, 0, none⟩) ([6] : List Int).length 1 5 1 ([.int .u8 6]) :: Fz F W :: cs)) rfl (fun _ h => h) ?_
 refine oR [] [(25, vP b5 0), (0, .slice A_data data.length c_data), (1, .slice A_l l.length c_l)] [25, 0, 1] (by kernel_rfl) ?_
 obtain ⟨x10, x11, x12, hv13, hp⟩ := obind3 hp
 refine ops_callI (σ := (Option Addr) × (List Value)) (d := some 26) (f := 16) (args := #[vP b5 0, vI 2]) (v := (fun x_ => match x_ with | (A14, y15) => .tuple #[vU x10, vI x11])) (I := (fun x_ => match x_ with | (A14, y15) => (RepL (Rep.int .u8) F W x3 y15))) (M' := (fun x_ => match x_ with | (A14, y15) => Mem w0 (orow A14 x3.length c7 5 1 y15 :: .blk b5 [.slice A14 x3.length c7, vI x12] 136 :: orow (some ⟨g2, 0, none⟩) ([6] : List Int).length 1 5 1 ([.int .u8 6]) :: Fz F W :: cs))) ⟨by kernel_rfl⟩ (fun w_ hM hS => (bits_Reader_Get_ok w0 w_ (orow (some ⟨g2, 0, none⟩) ([6] : List Int).length 1 5 1 ([.int .u8 6]) :: cs) F W b5 A6 c7 x3 y8 0 2 (hM.pick 4 [0, 1, 3, 2] (by kernel_rfl) (by decide) rfl) h9 x10 x11 x12 hv13).mono (by rintro e w' ⟨A14, y15, h16, rfl, h'⟩; have h' : Mem w0 (orow A14 x3.length c7 5 1 y15 :: .blk b5 [.slice A14 x3.length c7, vI x12] 136 :: orow (some ⟨g2, 0, none⟩) ([6] : List Int).length 1 5 1 ([.int .u8 6]) :: Fz F W :: cs) w' := (h'.pick 4 [1, 0, 3, 2] (by kernel_rfl) (by decide) rfl); exact ⟨(A14, y15), h16, rfl, h', trivial⟩)) ?_
 rintro ⟨A14, y15⟩ h16
 refine ops_conv (l' := [(26, .tuple #[vU x10, vI x11]), (25, vP b5 0), (0, .slice A_data data.length c_data), (1, .slice A_l l.length c_l)]) (M' := Mem w0 (orow A14 x3.length c7 5 1 y15 :: .blk b5 [.slice A14 x3.length c7, vI x12] 136 :: orow (some ⟨g2, 0, none⟩) ([6] : List Int).length 1 5 1 ([.int .u8 6]) :: Fz F W :: cs)) rfl (fun _ h => h) ?_
 refine oR [oF 3, oF 4, oF 5, oF 6, oF 7] [(6, vI x11), (5, vU x10), (0, .slice A_data data.length c_data), (1, .slice A_l l.length c_l)] [6, 5, 0, 1] (by kernel_rfl) ?_
 refine ops_nil ?_
 refine fin_then ?_
 refine st_seq ?_
 refine st_region [oF 0, oF 1, oF 2, oF 3, oF 4, oF 5] (by rfl) ?_
 refine oR [oF 0, oF 1, oF 2] [(31, .bool (!(x10 == 2))), (6, vI x11), (0, .slice A_data data.length c_data), (1, .slice A_l l.length c_l)] [31, 6, 0, 1] (by kernel_rfl) ?_
 refine ops_bool (t := !(x10 == 2)) (l1 := [(31, .bool true), (6, vI x11), (0, .slice A_data data.length c_data), (1, .slice A_l l.length c_l)]) (l2 := [(31, .bool false), (6, vI x11), (0, .slice A_data data.length c_data), (1, .slice A_l l.length c_l)]) (fun h => by rw [h]) (fun h => by rw [h]) (fun hc17 => ?_) (fun hc17 => ?_)
 · --
  have hp := cnd_t hc17 hp
  refine oR [oF 3, oF 4, oF 5] [(34, .bool true), (0, .slice A_data data.length c_data), (1, .slice A_l l.length c_l)] [34, 0, 1] (by kernel_rfl) ?_
  refine ops_nil ?_
  refine fin_then ?_
  refine st_true rfl ?_
  refine st_seq ?_
  refine st_region [oF 0] (by rfl) ?_
  refine oR [oF 0] [(4, .bool false)] [4] (by kernel_rfl) ?_
  refine ops_nil ?_
  refine fin_then ?_
  refine st_ret ?_
  refine fin_ret_then ?_
  have hq_ := Option.some.inj hp
  have hr0_ := hq_
  subst hr0_
  refine fin_ret [.tmp 4] [.bool false] rfl rfl (fun w_ hM => (.tmp rfl .nil)) (fun w_ hM => ?_)
  exact ⟨trivial, rfl, hM.pick 4 [3] (by kernel_rfl) (by decide) rfl⟩
 · --
  have hp := cnd_f hc17 hp
  refine oR [oF 3, oF 4, oF 5] [(34, .bool (!(x11 == 0))), (0, .slice A_data data.length c_data), (1, .slice A_l l.length c_l)] [34, 0, 1] (by kernel_rfl) ?_
  refine ops_nil ?_
  refine fin_then ?_
  refine st_if (b := !(x11 == 0)) rfl (fun hc18 => ?_) (fun hc18 => ?_)
  · --
   have hp := cnd_t hc18 hp
   refine st_seq ?_
   refine st_region [oF 0] (by rfl) ?_
   refine oR [oF 0] [(4, .bool false)] [4] (by kernel_rfl) ?_
   refine ops_nil ?_
   refine fin_then ?_
   refine st_ret ?_
   refine fin_ret_then ?_
   have hq_ := Option.some.inj hp
   have hr0_ := hq_
   subst hr0_
   refine fin_ret [.tmp 4] [.bool false] rfl rfl (fun w_ hM => (.tmp rfl .nil)) (fun w_ hM => ?_)
   exact ⟨trivial, rfl, hM.pick 4 [3] (by kernel_rfl) (by decide) rfl⟩
  · --
   have hp := cnd_f hc18 hp
   refine st_skip ?_
   refine fin_then ?_
   refine st_seq ?_
   refine st_region [oF 0, oF 1, oF 2, oF 3, oF 4, oF 5] (by rfl) ?_
   refine oR [oF 0] [(35, .slice A_data data.length c_data), (0, .slice A_data data.length c_data), (1, .slice A_l l.length c_l)] [35, 0, 1] (by kernel_rfl) ?_
   obtain ⟨x19, hv20, hp⟩ := obind hp
   refine ops_callI (σ := Nat × (Option Addr) × Nat × (List Value)) (d := some 36) (f := 15) (args := #[.slice A_data data.length c_data]) (v := (fun x_ => match x_ with | (b21, A22, c23, y24) => vP b21 0)) (I := (fun x_ => match x_ with | (b21, A22, c23, y24) => (RepL (Rep.int .u8) F W x19 y24))) (M' := (fun x_ => match x_ with | (b21, A22, c23, y24) => Mem w0 (.blk b21 [.slice A22 x19.length c23, vI 0] 136 :: orow A22 x19.length c23 5 1 y24 :: orow A14 x3.length c7 5 1 y15 :: .blk b5 [.slice A14 x3.length c7, vI x12] 136 :: orow (some ⟨g2, 0, none⟩) ([6] : List Int).length 1 5 1 ([.int .u8 6]) :: Fz F W :: cs))) ⟨by kernel_rfl⟩ (fun w_ hM hS => (bits_New_ok w0 w_ (orow A14 x3.length c7 5 1 y15 :: .blk b5 [.slice A14 x3.length c7, vI x12] 136 :: orow (some ⟨g2, 0, none⟩) ([6] : List Int).length 1 5 1 ([.int .u8 6]) :: cs) F W A_data c_data data (hM.pick 4 [3, 0, 1, 2] (by kernel_rfl) (by decide) rfl) h_data x19 hv20).mono (by rintro e w' ⟨b21, A22, c23, y24, h25, rfl, h'⟩; have h' : Mem w0 (.blk b21 [.slice A22 x19.length c23, vI 0] 136 :: orow A22 x19.length c23 5 1 y24 :: orow A14 x3.length c7 5 1 y15 :: .blk b5 [.slice A14 x3.length c7, vI x12] 136 :: orow (some ⟨g2, 0, none⟩) ([6] : List Int).length 1 5 1 ([.int .u8 6]) :: Fz F W :: cs) w' := (h'.pick 6 [0, 1, 3, 4, 5, 2] (by kernel_rfl) (by decide) rfl); exact ⟨(b21, A22, c23, y24), h25, rfl, h', trivial⟩)) ?_
   rintro ⟨b21, A22, c23, y24⟩ h25
   refine ops_conv (l' := [(36, vP b21 0), (35, .slice A_data data.length c_data), (0, .slice A_data data.length c_data), (1, .slice A_l l.length c_l)]) (M' := Mem w0 (.blk b21 [.slice A22 x19.length c23, vI 0] 136 :: orow A22 x19.length c23 5 1 y24 :: orow A14 x3.length c7 5 1 y15 :: .blk b5 [.slice A14 x3.length c7, vI x12] 136 :: orow (some ⟨g2, 0, none⟩) ([6] : List Int).length 1 5 1 ([.int .u8 6]) :: Fz F W :: cs)) rfl (fun _ h => h) ?_
   refine oR [oF 2] [(37, .slice A_data data.length c_data), (36, vP b21 0), (1, .slice A_l l.length c_l)] [37, 36, 1] (by kernel_rfl) ?_
   obtain ⟨x26, hv27, hp⟩ := obind hp
   refine ops_callI (σ := Nat × (Option Addr) × Nat × (List Value)) (d := some 38) (f := 17) (args := #[.slice A_data data.length c_data]) (v := (fun x_ => match x_ with | (b28, A29, c30, y31) => vP b28 0)) (I := (fun x_ => match x_ with | (b28, A29, c30, y31) => (RepL Rep.bool F W x26 y31))) (M' := (fun x_ => match x_ with | (b28, A29, c30, y31) => Mem w0 (.blk b28 [.slice A29 x26.length c30, vI 0] 40 :: orow A29 x26.length c30 4 1 y31 :: .blk b21 [.slice A22 x19.length c23, vI 0] 136 :: orow A22 x19.length c23 5 1 y24 :: orow A14 x3.length c7 5 1 y15 :: .blk b5 [.slice A14 x3.length c7, vI x12] 136 :: orow (some ⟨g2, 0, none⟩) ([6] : List Int).length 1 5 1 ([.int .u8 6]) :: Fz F W :: cs))) ⟨by kernel_rfl⟩ (fun w_ hM hS => (tourref1_BitsOf_ok w0 w_ (.blk b21 [.slice A22 x19.length c23, vI 0] 136 :: orow A22 x19.length c23 5 1 y24 :: orow A14 x3.length c7 5 1 y15 :: .blk b5 [.slice A14 x3.length c7, vI x12] 136 :: orow (some ⟨g2, 0, none⟩) ([6] : List Int).length 1 5 1 ([.int .u8 6]) :: cs) F W A_data c_data data (hM.pick 6 [5, 0, 1, 2, 3, 4] (by kernel_rfl) (by decide) rfl) h_data x26 hv27).mono (by rintro e w' ⟨b28, A29, c30, y31, h32, rfl, h'⟩; have h' : Mem w0 (.blk b28 [.slice A29 x26.length c30, vI 0] 40 :: orow A29 x26.length c30 4 1 y31 :: .blk b21 [.slice A22 x19.length c23, vI 0] 136 :: orow A22 x19.length c23 5 1 y24 :: orow A14 x3.length c7 5 1 y15 :: .blk b5 [.slice A14 x3.length c7, vI x12] 136 :: orow (some ⟨g2, 0, none⟩) ([6] : List Int).length 1 5 1 ([.int .u8 6]) :: Fz F W :: cs) w' := (h'.pick 8 [0, 1, 3, 4, 5, 6, 7, 2] (by kernel_rfl) (by decide) rfl); exact ⟨(b28, A29, c30, y31), h32, rfl, h', trivial⟩)) ?_
   rintro ⟨b28, A29, c30, y31⟩ h32
   refine ops_conv (l' := [(38, vP b28 0), (37, .slice A_data data.length c_data), (36, vP b21 0), (1, .slice A_l l.length c_l)]) (M' := Mem w0 (.blk b28 [.slice A29 x26.length c30, vI 0] 40 :: orow A29 x26.length c30 4 1 y31 :: .blk b21 [.slice A22 x19.length c23, vI 0] 136 :: orow A22 x19.length c23 5 1 y24 :: orow A14 x3.length c7 5 1 y15 :: .blk b5 [.slice A14 x3.length c7, vI x12] 136 :: orow (some ⟨g2, 0, none⟩) ([6] : List Int).length 1 5 1 ([.int .u8 6]) :: Fz F W :: cs)) rfl (fun _ h => h) ?_
   refine oR [oF 4, oF 5] [(8, vP b28 0), (7, vP b21 0), (1, .slice A_l l.length c_l)] [8, 7, 1] (by kernel_rfl) ?_
   refine ops_nil ?_
   refine fin_then ?_
   refine st_join1 (σ := Unit) (L := fun _ => []) (N := fun _ => Mem w0 (Fz F W :: cs)) (I := fun _ => (tourlaw1_BitsReads_j1 = some t9001)) ?_ ?_
   · --
    rintro _ hp
    refine st_conv (l' := []) (M' := Mem w0 (Fz F W :: cs)) rfl (fun _ h => h) ?_
    unfold tourlaw1_BitsReads_j1 at hp
    refine st_seq ?_
    refine st_region [oF 0] (by rfl) ?_
    refine oR [oF 0] [(4, .bool true)] [4] (by kernel_rfl) ?_
    refine ops_nil ?_
    refine fin_then ?_
    refine st_ret ?_
    have hq_ := Option.some.inj hp
    have hr0_ := hq_
    subst hr0_
    refine fin_ret [.tmp 4] [.bool true] rfl rfl (fun w_ hM => (.tmp rfl .nil)) (fun w_ hM => ?_)
    exact ⟨trivial, rfl, hM⟩
   · --
    intro HJ1
    refine st_seq ?_
    refine st_seq ?_
    refine st_region [oF 0, oF 1, oF 2] (by rfl) ?_
    refine oR [oF 0, oF 1, oF 2] [(41, vI 0), (40, vI (l.length : Int)), (39, .slice A_l l.length c_l), (8, vP b28 0), (7, vP b21 0)] [41, 40, 39, 8, 7] (by kernel_rfl) ?_
    refine ops_nil ?_
    refine fin_then ?_
    refine st_block ?_
    obtain ⟨r2, hl2, hk2⟩ := obind hp
    refine st_loopP (σ := Int × Int × Int) (ρ := (Bool ⊕ Unit)) (γ := (Option Addr) × (List Value) × (Option Addr) × (List Value)) hl2 (A22, y24, A29, y31) (fun s_ g_ => match s_, g_ with | (i36, i40, i41), (A33, y34, A37, y38) => [(7, vP b21 0), (8, vP b28 0), (39, .slice A_l l.length c_l), (40, vI (l.length : Int)), (41, vI i41)]) (fun s_ g_ => match s_, g_ with | (i36, i40, i41), (A33, y34, A37, y38) => Mem w0 (.blk b21 [.slice A33 x19.length c23, vI i36] 136 :: orow A33 x19.length c23 5 1 y34 :: .blk b28 [.slice A37 x26.length c30, vI i40] 40 :: orow A37 x26.length c30 4 1 y38 :: Fz F W :: cs)) (fun s_ g_ => match s_, g_ with | (i36, i40, i41), (A33, y34, A37, y38) => (RepL (Rep.int .u8) F W x19 y34) ∧ (RepL Rep.bool F W x26 y38)) ⟨h25, h32⟩ (look_has ⟨rfl, rfl, rfl, rfl, rfl, trivial⟩) (fun w_ hM => hM.pick 8 [2, 3, 0, 1, 7] (by kernel_rfl) (by decide) rfl) ?_
    rintro ⟨i36, i40, i41⟩ ⟨A33, y34, A37, y38⟩ o2 ⟨h35, h39⟩ hs_ hd2
    have hp : (tourlaw1_BitsReads_l2 l x19 x26) i36 i40 i41 = some o2 := hs_
    clear hs_
    unfold tourlaw1_BitsReads_l2 at hp
    refine st_conv (l' := [(7, vP b21 0), (8, vP b28 0), (39, .slice A_l l.length c_l), (40, vI (l.length : Int)), (41, vI i41)]) (M' := Mem w0 (.blk b21 [.slice A33 x19.length c23, vI i36] 136 :: orow A33 x19.length c23 5 1 y34 :: .blk b28 [.slice A37 x26.length c30, vI i40] 40 :: orow A37 x26.length c30 4 1 y38 :: Fz F W :: cs)) rfl (fun _ h => h) ?_
    refine st_seq ?_
    refine st_region [oF 0] (by rfl) ?_
    refine oR [oF 0] [(42, .bool (decide (i41 < (l.length : Int)))), (7, vP b21 0), (8, vP b28 0), (39, .slice A_l l.length c_l), (40, vI (l.length : Int)), (41, vI i41)] [42, 7, 8, 39, 40, 41] (by kernel_rfl) ?_
    refine ops_nil ?_
    refine fin_then ?_
    refine st_seq ?_
    refine st_if (b := decide (i41 < (l.length : Int))) rfl (fun hc42 => ?_) (fun hc42 => ?_)
    · --
     have hp := cnd_t hc42 hp
     refine st_skip ?_
     refine fin_then ?_
     refine st_seq ?_
     refine st_block ?_
     refine st_seq ?_
     refine st_region [oF 0, oF 1, oF 2, oF 3] (by rfl) ?_
     refine oR [] [(7, vP b21 0), (8, vP b28 0), (39, .slice A_l l.length c_l), (40, vI (l.length : Int)), (41, vI i41)] [7, 8, 39, 40, 41] (by kernel_rfl) ?_
     obtain ⟨x43, hv44, hp⟩ := obind hp
     obtain ⟨m45, hm46, hx47⟩ := idx_some hv44
     have hl50 := (List.getElem?_eq_some_iff.1 hx47).1
     obtain ⟨ad51, vs48, hA52, hr49, hq53⟩ := RdS.el h_l hx47
     obtain rfl := dec_arr2_Int hr49
     refine ops_val (op := (Go.Op.indexAddr 23 (Go.Operand.tmp 39) (Go.Operand.tmp 41))) (d := some 43) (v := .pointer (some (ad51.add (m45 * 2)))) ⟨by kernel_rfl⟩ (run_indexA hA52 Try.underlying23 (z := 2) (by kernel_rfl) rfl rfl hm46 hl50) ?_
     refine ops_mem (d := some 44) (an := [.v (vI x43.1), .v (vI x43.2)]) (evs := [.load (ad51.add (m45 * 2)) (vI x43.1), .load ((ad51.add (m45 * 2)).add 1) (vI x43.2)]) (v := .agg #[vI x43.1, vI x43.2]) (M' := Mem w0 (.blk b21 [.slice A33 x19.length c23, vI i36] 136 :: orow A33 x19.length c23 5 1 y34 :: .blk b28 [.slice A37 x26.length c30, vI i40] 40 :: orow A37 x26.length c30 4 1 y38 :: Fz F W :: cs)) ⟨by kernel_rfl⟩ (fun w_ hM hS => ⟨w_, ⟨hM.elcell 4 rfl hq53 0 rfl, hM.elcell 4 rfl hq53 1 rfl, rfl⟩, hM, trivial⟩) ?_
     refine oR [] [(44, .agg #[vI x43.1, vI x43.2]), (7, vP b21 0), (8, vP b28 0), (39, .slice A_l l.length c_l), (40, vI (l.length : Int)), (41, vI i41)] [44, 7, 8, 39, 40, 41] (by kernel_rfl) ?_
     refine ops_new (d := some 10) (o := .cells #[vI 0, vI 0] 32) (v := fun b54 => vP b54 0) (M' := fun b54 => Mem w0 (.blk b54 [vI 0, vI 0] 32 :: .blk b21 [.slice A33 x19.length c23, vI i36] 136 :: orow A33 x19.length c23 5 1 y34 :: .blk b28 [.slice A37 x26.length c30, vI i40] 40 :: orow A37 x26.length c30 4 1 y38 :: Fz F W :: cs)) (fun b54 => ⟨by kernel_rfl⟩) (fun w_ hM hS => ⟨hM.blk [vI 0, vI 0] 32, trivial⟩) (fun b54 => ?_)
     refine ops_store (an := []) (evs := [.store ⟨b54, 0, none⟩ (vI x43.1), .store ⟨b54, 1, none⟩ (vI x43.2)]) (M' := Mem w0 (.blk b54 [vI x43.1, vI x43.2] 32 :: .blk b21 [.slice A33 x19.length c23, vI i36] 136 :: orow A33 x19.length c23 5 1 y34 :: .blk b28 [.slice A37 x26.length c30, vI i40] 40 :: orow A37 x26.length c30 4 1 y38 :: Fz F W :: cs)) ⟨by kernel_rfl⟩ (fun w_ hM hS => let ⟨w', he, h'⟩ := hM.evs_stores [vI x43.1, vI x43.2] 0 rfl 0 (Nat.le_of_ble_eq_true rfl); ⟨w', he, h', trivial⟩) ?_
     refine oR [] [(10, vP b54 0), (7, vP b21 0), (8, vP b28 0), (39, .slice A_l l.length c_l), (40, vI (l.length : Int)), (41, vI i41)] [10, 7, 8, 39, 40, 41] (by kernel_rfl) ?_
     refine ops_nil ?_
     refine fin_then ?_
     refine st_join1 (σ := (Option Addr) × (List Value) × Int × (Option Addr) × (List Value) × Int) (L := fun x_ => match x_ with | (A55, y56, i58, A59, y60, i62) => [(7, vP b21 0), (8, vP b28 0), (39, .slice A_l l.length c_l), (40, vI (l.length : Int)), (41, vI i41)]) (N := fun x_ => match x_ with | (A55, y56, i58, A59, y60, i62) => Mem w0 (.blk b21 [.slice A55 x19.length c23, vI i58] 136 :: orow A55 x19.length c23 5 1 y56 :: .blk b28 [.slice A59 x26.length c30, vI i62] 40 :: orow A59 x26.length c30 4 1 y60 :: Fz F W :: cs)) (I := fun x_ => match x_ with | (A55, y56, i58, A59, y60, i62) => ((tourlaw1_BitsReads_j3 x19 x26 i41) i58 i62 = some o2) ∧ (RepL (Rep.int .u8) F W x19 y56) ∧ (RepL Rep.bool F W x26 y60)) ?_ ?_
     · --
      rintro ⟨A55, y56, i58, A59, y60, i62⟩ ⟨hp, h57, h61⟩
      refine st_conv (l' := [(7, vP b21 0), (8, vP b28 0), (39, .slice A_l l.length c_l), (40, vI (l.length : Int)), (41, vI i41)]) (M' := Mem w0 (.blk b21 [.slice A55 x19.length c23, vI i58] 136 :: orow A55 x19.length c23 5 1 y56 :: .blk b28 [.slice A59 x26.length c30, vI i62] 40 :: orow A59 x26.length c30 4 1 y60 :: Fz F W :: cs)) rfl (fun _ h => h) ?_
      unfold tourlaw1_BitsReads_j3 at hp
      refine st_seq ?_
      refine st_region_draw [oT 0, oT 2, oT 3, oT 4, oT 5, oT 6, oT 7, oT 8, oT 9, oT 10, oT 11, oF 1, oT 12] (Mem w0 (.blk b28 [.slice A59 x26.length c30, vI i62] 40 :: orow A59 x26.length c30 4 1 y60 :: Fz F W :: cs)) (by kernel_rfl) (by kernel_rfl) (by kernel_rfl) (fun _ d _ _ _ h => by cases d <;> exact h) (M' := Mem w0 (.blk b21 [.slice A55 x19.length c23, vI i58] 136 :: orow A55 x19.length c23 5 1 y56 :: .blk b28 [.slice A59 x26.length c30, vI i62] 40 :: orow A59 x26.length c30 4 1 y60 :: Fz F W :: cs)) (fun w_ hM => ⟨hM.drew, hM.drew.sub (.cons _ (.cons _ (.cons_cons _ (.cons_cons _ (.cons_cons _ (.refl _))))))⟩) ?_
      refine oR [oT 0, oT 2, oT 3, oT 4] [(116, vP b28 0), (112, vP b21 0), (7, vP b21 0), (8, vP b28 0), (39, .slice A_l l.length c_l), (40, vI (l.length : Int)), (41, vI i41)] [116, 112, 7, 8, 39, 40, 41] (by kernel_rfl) ?_
      refine ops_load (d := some 117) (an := [.v (.slice A59 x26.length c30)]) (evs := [.load ⟨b28, 0, none⟩ (.slice A59 x26.length c30)]) (v := .slice A59 x26.length c30) ⟨by kernel_rfl⟩ (fun w_ hM => ⟨hM.cell 0 rfl rfl, rfl⟩) ?_
      refine oR [oT 6, oT 7, oT 8, oT 9] [(121, vP b28 1), (118, vI (x26.length : Int)), (112, vP b21 0), (7, vP b21 0), (8, vP b28 0), (39, .slice A_l l.length c_l), (40, vI (l.length : Int)), (41, vI i41)] [121, 118, 112, 7, 8, 39, 40, 41] (by kernel_rfl) ?_
      refine ops_load (d := some 122) (an := [.v (vI i62)]) (evs := [.load ⟨b28, 1, none⟩ (vI i62)]) (v := vI i62) ⟨by kernel_rfl⟩ (fun w_ hM => ⟨hM.cell 0 rfl rfl, rfl⟩) ?_
      refine oR [oT 11] [(123, vI (IntKind.i64.wrap ((x26.length : Int) - i62))), (112, vP b21 0), (7, vP b21 0), (8, vP b28 0), (39, .slice A_l l.length c_l), (40, vI (l.length : Int)), (41, vI i41)] [123, 112, 7, 8, 39, 40, 41] (by kernel_rfl) ?_
      obtain ⟨x63, hv64, hp⟩ := obind hp
      refine ops_callI (σ := (List Value)) (d := some 113) (f := 23) (args := #[vP b21 0]) (v := (fun x_ => match x_ with | y65 => vI x63)) (I := (fun x_ => match x_ with | y65 => (RepL (Rep.int .u8) F W x19 y65))) (M' := (fun x_ => match x_ with | y65 => Mem w0 (orow A55 x19.length c23 5 1 y65 :: .blk b21 [.slice A55 x19.length c23, vI i58] 136 :: .blk b28 [.slice A59 x26.length c30, vI i62] 40 :: orow A59 x26.length c30 4 1 y60 :: Fz F W :: cs))) ⟨by kernel_rfl⟩ (fun w_ hM hS => (bits_Reader_Left_ok w0 w_ (.blk b28 [.slice A59 x26.length c30, vI i62] 40 :: orow A59 x26.length c30 4 1 y60 :: cs) F W b21 A55 c23 x19 y56 i58 (hM.pick 5 [0, 1, 4, 2, 3] (by kernel_rfl) (by decide) rfl) h57 x63 hv64).mono (by rintro e w' ⟨y65, h66, rfl, h'⟩; have h' : Mem w0 (orow A55 x19.length c23 5 1 y65 :: .blk b21 [.slice A55 x19.length c23, vI i58] 136 :: .blk b28 [.slice A59 x26.length c30, vI i62] 40 :: orow A59 x26.length c30 4 1 y60 :: Fz F W :: cs) w' := (h'.pick 5 [1, 0, 3, 4, 2] (by kernel_rfl) (by decide) rfl); exact ⟨y65, h66, rfl, h', (by exact h'.sub (.cons _ (.cons _ (.cons_cons _ (.cons_cons _ (.cons_cons _ (.refl _)))))))⟩)) ?_
      rintro y65 h66
      refine ops_conv (l' := [(113, vI x63), (123, vI (IntKind.i64.wrap ((x26.length : Int) - i62))), (112, vP b21 0), (7, vP b21 0), (8, vP b28 0), (39, .slice A_l l.length c_l), (40, vI (l.length : Int)), (41, vI i41)]) (M' := Mem w0 (orow A55 x19.length c23 5 1 y65 :: .blk b21 [.slice A55 x19.length c23, vI i58] 136 :: .blk b28 [.slice A59 x26.length c30, vI i62] 40 :: orow A59 x26.length c30 4 1 y60 :: Fz F W :: cs)) rfl (fun _ h => h) ?_
      refine oR [oT 12] [(124, .bool (!(x63 == IntKind.i64.wrap ((x26.length : Int) - i62)))), (7, vP b21 0), (8, vP b28 0), (39, .slice A_l l.length c_l), (40, vI (l.length : Int)), (41, vI i41)] [124, 7, 8, 39, 40, 41] (by kernel_rfl) ?_
      refine ops_nil ?_
      refine fin_then ?_
      refine st_if (b := !(x63 == IntKind.i64.wrap ((x26.length : Int) - i62))) rfl (fun hc67 => ?_) (fun hc67 => ?_)
      · --
       have hp := cnd_t hc67 hp
       refine st_seq ?_
       refine st_region [oF 0] (by rfl) ?_
       refine oR [oF 0] [(4, .bool false)] [4] (by kernel_rfl) ?_
       refine ops_nil ?_
       refine fin_then ?_
       refine st_ret ?_
       refine fin_ret_block ?_
       refine fin_ret_then ?_
       refine fin_ret_then ?_
       refine fin_ret_block ?_
       refine fin_ret_then ?_
       obtain hq_ := Option.some.inj hp
       subst hq_
       obtain hq_ := hd2 _ rfl
       subst hq_
       have hp : some false = some t9001 := hk2
       have hq_ := Option.some.inj hp
       have hr0_ := hq_
       subst hr0_
       refine fin_ret [.tmp 4] [.bool false] rfl rfl (fun w_ hM => (.tmp rfl .nil)) (fun w_ hM => ?_)
       exact ⟨trivial, rfl, hM.pick 5 [4] (by kernel_rfl) (by decide) rfl⟩
      · --
       have hp := cnd_f hc67 hp
       refine st_skip ?_
       refine fin_block ?_
       refine fin_then ?_
       refine st_region [oF 0, oF 1] (by rfl) ?_
       refine oR [oF 0, oF 1] [(41, vI (IntKind.i64.wrap (i41 + 1))), (7, vP b21 0), (8, vP b28 0), (39, .slice A_l l.length c_l), (40, vI (l.length : Int))] [41, 7, 8, 39, 40] (by kernel_rfl) ?_
       refine ops_nil ?_
       exact fin_again (i58, i62, IntKind.i64.wrap (i41 + 1)) (A55, y65, A59, y60) (Option.some.inj hp).symm ⟨h66, h61⟩ (look_has ⟨rfl, rfl, rfl, rfl, rfl, trivial⟩) (fun w_ hM => hM.pick 5 [1, 0, 2, 3, 4] (by kernel_rfl) (by decide) rfl)
     · --
      intro HJ3
      refine st_seq ?_
      refine st_seq ?_
      refine st_region [oF 0, oF 1] (by rfl) ?_
      refine oR [oF 0] [(45, vP b54 1), (10, vP b54 0), (7, vP b21 0), (8, vP b28 0), (39, .slice A_l l.length c_l), (40, vI (l.length : Int)), (41, vI i41)] [45, 10, 7, 8, 39, 40, 41] (by kernel_rfl) ?_
      refine ops_mem (d := some 46) (an := [.v (vI x43.2)]) (evs := [.load ⟨b54, 1, none⟩ (vI x43.2)]) (v := vI x43.2) (M' := Mem w0 (.blk b54 [vI x43.1, vI x43.2] 32 :: .blk b21 [.slice A33 x19.length c23, vI i36] 136 :: orow A33 x19.length c23 5 1 y34 :: .blk b28 [.slice A37 x26.length c30, vI i40] 40 :: orow A37 x26.length c30 4 1 y38 :: Fz F W :: cs)) ⟨by kernel_rfl⟩ (fun w_ hM hS => ⟨w_, ⟨hM.cell 0 rfl rfl, rfl⟩, hM, trivial⟩) ?_
      refine oR [] [(46, vI x43.2), (10, vP b54 0), (7, vP b21 0), (8, vP b28 0), (39, .slice A_l l.length c_l), (40, vI (l.length : Int)), (41, vI i41)] [46, 10, 7, 8, 39, 40, 41] (by kernel_rfl) ?_
      refine ops_nil ?_
      refine fin_then ?_
      refine st_block ?_
      refine st_seq ?_
      refine st_region [oF 0, oF 1] (by rfl) ?_
      refine oR [oF 0, oF 1] [(47, .bool (x43.2 == 0)), (46, vI x43.2), (10, vP b54 0), (7, vP b21 0), (8, vP b28 0), (39, .slice A_l l.length c_l), (40, vI (l.length : Int)), (41, vI i41)] [47, 46, 10, 7, 8, 39, 40, 41] (by kernel_rfl) ?_
      refine ops_nil ?_
      refine fin_then ?_
      refine st_if (b := (x43.2 == 0)) rfl (fun hc68 => ?_) (fun hc68 => ?_)
      · --
       have hp := cnd_t hc68 hp
       refine st_seq ?_
       refine st_region [oF 0, oF 1, oF 2, oF 3, oF 4, oF 5, oF 6, oF 7, oF 8] (by rfl) ?_
       refine oR [oF 0, oF 1] [(51, vP b54 0), (50, vP b21 0), (10, vP b54 0), (7, vP b21 0), (8, vP b28 0), (39, .slice A_l l.length c_l), (40, vI (l.length : Int)), (41, vI i41)] [51, 50, 10, 7, 8, 39, 40, 41] (by kernel_rfl) ?_
       refine ops_mem (d := some 52) (an := [.v (vI x43.1)]) (evs := [.load ⟨b54, 0, none⟩ (vI x43.1)]) (v := vI x43.1) (M' := Mem w0 (.blk b54 [vI x43.1, vI x43.2] 32 :: .blk b21 [.slice A33 x19.length c23, vI i36] 136 :: orow A33 x19.length c23 5 1 y34 :: .blk b28 [.slice A37 x26.length c30, vI i40] 40 :: orow A37 x26.length c30 4 1 y38 :: Fz F W :: cs)) ⟨by kernel_rfl⟩ (fun w_ hM hS => ⟨w_, ⟨hM.cell 0 rfl rfl, rfl⟩, hM, trivial⟩) ?_
       refine oR [] [(52, vI x43.1), (50, vP b21 0), (10, vP b54 0), (7, vP b21 0), (8, vP b28 0), (39, .slice A_l l.length c_l), (40, vI (l.length : Int)), (41, vI i41)] [52, 50, 10, 7, 8, 39, 40, 41] (by kernel_rfl) ?_
       obtain ⟨x69, x70, x71, hv72, hp⟩ := obind3 hp
       refine ops_callI (σ := (Option Addr) × (List Value)) (d := some 53) (f := 16) (args := #[vP b21 0, vI x43.1]) (v := (fun x_ => match x_ with | (A73, y74) => .tuple #[vU x69, vI x70])) (I := (fun x_ => match x_ with | (A73, y74) => (RepL (Rep.int .u8) F W x19 y74))) (M' := (fun x_ => match x_ with | (A73, y74) => Mem w0 (orow A73 x19.length c23 5 1 y74 :: .blk b54 [vI x43.1, vI x43.2] 32 :: .blk b21 [.slice A73 x19.length c23, vI x71] 136 :: .blk b28 [.slice A37 x26.length c30, vI i40] 40 :: orow A37 x26.length c30 4 1 y38 :: Fz F W :: cs))) ⟨by kernel_rfl⟩ (fun w_ hM hS => (bits_Reader_Get_ok w0 w_ (.blk b54 [vI x43.1, vI x43.2] 32 :: .blk b28 [.slice A37 x26.length c30, vI i40] 40 :: orow A37 x26.length c30 4 1 y38 :: cs) F W b21 A33 c23 x19 y34 i36 x43.1 (hM.pick 6 [1, 2, 5, 0, 3, 4] (by kernel_rfl) (by decide) rfl) h35 x69 x70 x71 hv72).mono (by rintro e w' ⟨A73, y74, h75, rfl, h'⟩; have h' : Mem w0 (orow A73 x19.length c23 5 1 y74 :: .blk b54 [vI x43.1, vI x43.2] 32 :: .blk b21 [.slice A73 x19.length c23, vI x71] 136 :: .blk b28 [.slice A37 x26.length c30, vI i40] 40 :: orow A37 x26.length c30 4 1 y38 :: Fz F W :: cs) w' := (h'.pick 6 [1, 3, 0, 4, 5, 2] (by kernel_rfl) (by decide) rfl); exact ⟨(A73, y74), h75, rfl, h', trivial⟩)) ?_
       rintro ⟨A73, y74⟩ h75
       refine ops_conv (l' := [(53, .tuple #[vU x69, vI x70]), (52, vI x43.1), (50, vP b21 0), (10, vP b54 0), (7, vP b21 0), (8, vP b28 0), (39, .slice A_l l.length c_l), (40, vI (l.length : Int)), (41, vI i41)]) (M' := Mem w0 (orow A73 x19.length c23 5 1 y74 :: .blk b54 [vI x43.1, vI x43.2] 32 :: .blk b21 [.slice A73 x19.length c23, vI x71] 136 :: .blk b28 [.slice A37 x26.length c30, vI i40] 40 :: orow A37 x26.length c30 4 1 y38 :: Fz F W :: cs)) rfl (fun _ h => h) ?_
       refine oR [oF 4, oF 5, oF 6, oF 7, oF 8] [(12, vI x70), (11, vU x69), (10, vP b54 0), (7, vP b21 0), (8, vP b28 0), (39, .slice A_l l.length c_l), (40, vI (l.length : Int)), (41, vI i41)] [12, 11, 10, 7, 8, 39, 40, 41] (by kernel_rfl) ?_
       refine ops_nil ?_
       refine fin_then ?_
       refine st_seq ?_
       refine st_region [oF 0, oF 1, oF 2, oF 3, oF 4, oF 5, oF 6, oF 7, oF 8] (by rfl) ?_
       refine oR [oF 0, oF 1] [(58, vP b54 0), (57, vP b28 0), (12, vI x70), (11, vU x69), (7, vP b21 0), (8, vP b28 0), (39, .slice A_l l.length c_l), (40, vI (l.length : Int)), (41, vI i41)] [58, 57, 12, 11, 7, 8, 39, 40, 41] (by kernel_rfl) ?_
       refine ops_mem (d := some 59) (an := [.v (vI x43.1)]) (evs := [.load ⟨b54, 0, none⟩ (vI x43.1)]) (v := vI x43.1) (M' := Mem w0 (orow A73 x19.length c23 5 1 y74 :: .blk b54 [vI x43.1, vI x43.2] 32 :: .blk b21 [.slice A73 x19.length c23, vI x71] 136 :: .blk b28 [.slice A37 x26.length c30, vI i40] 40 :: orow A37 x26.length c30 4 1 y38 :: Fz F W :: cs)) ⟨by kernel_rfl⟩ (fun w_ hM hS => ⟨w_, ⟨hM.cell 1 rfl rfl, rfl⟩, hM, trivial⟩) ?_
       refine oR [] [(59, vI x43.1), (57, vP b28 0), (12, vI x70), (11, vU x69), (7, vP b21 0), (8, vP b28 0), (39, .slice A_l l.length c_l), (40, vI (l.length : Int)), (41, vI i41)] [59, 57, 12, 11, 7, 8, 39, 40, 41] (by kernel_rfl) ?_
       obtain ⟨x76, x77, x78, hv79, hp⟩ := obind3 hp
       refine ops_callI (σ := (Option Addr) × (List Value)) (d := some 60) (f := 18) (args := #[vP b28 0, vI x43.1]) (v := (fun x_ => match x_ with | (A80, y81) => .tuple #[vU x76, vI x77])) (I := (fun x_ => match x_ with | (A80, y81) => (RepL Rep.bool F W x26 y81))) (M' := (fun x_ => match x_ with | (A80, y81) => Mem w0 (orow A80 x26.length c30 4 1 y81 :: orow A73 x19.length c23 5 1 y74 :: .blk b54 [vI x43.1, vI x43.2] 32 :: .blk b21 [.slice A73 x19.length c23, vI x71] 136 :: .blk b28 [.slice A80 x26.length c30, vI x78] 40 :: Fz F W :: cs))) ⟨by kernel_rfl⟩ (fun w_ hM hS => (tourref1_Bits_Read_ok w0 w_ (orow A73 x19.length c23 5 1 y74 :: .blk b54 [vI x43.1, vI x43.2] 32 :: .blk b21 [.slice A73 x19.length c23, vI x71] 136 :: cs) F W b28 A37 c30 x26 y38 i40 x43.1 (hM.pick 6 [3, 4, 5, 0, 1, 2] (by kernel_rfl) (by decide) rfl) h39 x76 x77 x78 hv79).mono (by rintro e w' ⟨A80, y81, h82, rfl, h'⟩; have h' : Mem w0 (orow A80 x26.length c30 4 1 y81 :: orow A73 x19.length c23 5 1 y74 :: .blk b54 [vI x43.1, vI x43.2] 32 :: .blk b21 [.slice A73 x19.length c23, vI x71] 136 :: .blk b28 [.slice A80 x26.length c30, vI x78] 40 :: Fz F W :: cs) w' := (h'.pick 6 [1, 3, 4, 5, 0, 2] (by kernel_rfl) (by decide) rfl); exact ⟨(A80, y81), h82, rfl, h', trivial⟩)) ?_
       rintro ⟨A80, y81⟩ h82
       refine ops_conv (l' := [(60, .tuple #[vU x76, vI x77]), (59, vI x43.1), (57, vP b28 0), (12, vI x70), (11, vU x69), (7, vP b21 0), (8, vP b28 0), (39, .slice A_l l.length c_l), (40, vI (l.length : Int)), (41, vI i41)]) (M' := Mem w0 (orow A80 x26.length c30 4 1 y81 :: orow A73 x19.length c23 5 1 y74 :: .blk b54 [vI x43.1, vI x43.2] 32 :: .blk b21 [.slice A73 x19.length c23, vI x71] 136 :: .blk b28 [.slice A80 x26.length c30, vI x78] 40 :: Fz F W :: cs)) rfl (fun _ h => h) ?_
       refine oR [oF 4, oF 5, oF 6, oF 7, oF 8] [(14, vI x77), (13, vU x76), (12, vI x70), (11, vU x69), (7, vP b21 0), (8, vP b28 0), (39, .slice A_l l.length c_l), (40, vI (l.length : Int)), (41, vI i41)] [14, 13, 12, 11, 7, 8, 39, 40, 41] (by kernel_rfl) ?_
       refine ops_nil ?_
       refine fin_then ?_
       refine st_seq ?_
       refine st_region [oF 0, oF 1, oF 2, oF 3, oF 4, oF 5, oF 6, oF 7] (by rfl) ?_
       refine oR [oF 0, oF 1, oF 2, oF 3] [(66, .bool (!(x69 == x76))), (14, vI x77), (12, vI x70), (7, vP b21 0), (8, vP b28 0), (39, .slice A_l l.length c_l), (40, vI (l.length : Int)), (41, vI i41)] [66, 14, 12, 7, 8, 39, 40, 41] (by kernel_rfl) ?_
       refine ops_bool (t := !(x69 == x76)) (l1 := [(66, .bool true), (14, vI x77), (12, vI x70), (7, vP b21 0), (8, vP b28 0), (39, .slice A_l l.length c_l), (40, vI (l.length : Int)), (41, vI i41)]) (l2 := [(66, .bool false), (14, vI x77), (12, vI x70), (7, vP b21 0), (8, vP b28 0), (39, .slice A_l l.length c_l), (40, vI (l.length : Int)), (41, vI i41)]) (fun h => by rw [h]) (fun h => by rw [h]) (fun hc83 => ?_) (fun hc83 => ?_)
       · --
        have hp := cnd_t hc83 hp
        refine oR [oF 4, oF 5, oF 6, oF 7] [(70, .bool true), (7, vP b21 0), (8, vP b28 0), (39, .slice A_l l.length c_l), (40, vI (l.length : Int)), (41, vI i41)] [70, 7, 8, 39, 40, 41] (by kernel_rfl) ?_
        refine ops_nil ?_
        refine fin_then ?_
        refine st_true rfl ?_
        refine st_seq ?_
        refine st_region [oF 0] (by rfl) ?_
        refine oR [oF 0] [(4, .bool false)] [4] (by kernel_rfl) ?_
        refine ops_nil ?_
        refine fin_then ?_
        refine st_ret ?_
        refine fin_ret_block ?_
        refine fin_ret_then ?_
        refine fin_ret_block ?_
        refine fin_ret_then ?_
        refine fin_ret_then ?_
        refine fin_ret_block ?_
        refine fin_ret_then ?_
        obtain hq_ := Option.some.inj hp
        subst hq_
        obtain hq_ := hd2 _ rfl
        subst hq_
        have hp : some false = some t9001 := hk2
        have hq_ := Option.some.inj hp
        have hr0_ := hq_
        subst hr0_
        refine fin_ret [.tmp 4] [.bool false] rfl rfl (fun w_ hM => (.tmp rfl .nil)) (fun w_ hM => ?_)
        exact ⟨trivial, rfl, hM.pick 6 [5] (by kernel_rfl) (by decide) rfl⟩
       · --
        have hp := cnd_f hc83 hp
        refine oR [oF 4, oF 5, oF 6, oF 7] [(70, .bool (!(x70 == x77))), (7, vP b21 0), (8, vP b28 0), (39, .slice A_l l.length c_l), (40, vI (l.length : Int)), (41, vI i41)] [70, 7, 8, 39, 40, 41] (by kernel_rfl) ?_
        refine ops_nil ?_
        refine fin_then ?_
        refine st_if (b := !(x70 == x77)) rfl (fun hc84 => ?_) (fun hc84 => ?_)
        · --
         have hp := cnd_t hc84 hp
         refine st_seq ?_
         refine st_region [oF 0] (by rfl) ?_
         refine oR [oF 0] [(4, .bool false)] [4] (by kernel_rfl) ?_
         refine ops_nil ?_
         refine fin_then ?_
         refine st_ret ?_
         refine fin_ret_block ?_
         refine fin_ret_then ?_
         refine fin_ret_block ?_
         refine fin_ret_then ?_
         refine fin_ret_then ?_
         refine fin_ret_block ?_
         refine fin_ret_then ?_
         obtain hq_ := Option.some.inj hp
         subst hq_
         obtain hq_ := hd2 _ rfl
         subst hq_
         have hp : some false = some t9001 := hk2
         have hq_ := Option.some.inj hp
         have hr0_ := hq_
         subst hr0_
         refine fin_ret [.tmp 4] [.bool false] rfl rfl (fun w_ hM => (.tmp rfl .nil)) (fun w_ hM => ?_)
         exact ⟨trivial, rfl, hM.pick 6 [5] (by kernel_rfl) (by decide) rfl⟩
        · --
         have hp := cnd_f hc84 hp
         refine st_skip ?_
         refine fin_block ?_
         exact fin_join HJ3 (A73, y74, x71, A80, y81, x78) ⟨hp, h75, h82⟩ (look_has ⟨rfl, rfl, rfl, rfl, rfl, trivial⟩) (fun w_ hM => hM.pick 6 [3, 1, 4, 0, 5] (by kernel_rfl) (by decide) rfl)
      · --
       have hp := cnd_f hc68 hp
       refine st_seq ?_
       refine st_region [oF 0, oF 1] (by rfl) ?_
       refine oR [oF 0, oF 1] [(71, .bool (x43.2 == 1)), (46, vI x43.2), (7, vP b21 0), (8, vP b28 0), (39, .slice A_l l.length c_l), (40, vI (l.length : Int)), (41, vI i41)] [71, 46, 7, 8, 39, 40, 41] (by kernel_rfl) ?_
       refine ops_nil ?_
       refine fin_then ?_
       refine st_if (b := (x43.2 == 1)) rfl (fun hc85 => ?_) (fun hc85 => ?_)
       · --
        have hp := cnd_t hc85 hp
        refine st_seq ?_
        refine st_region [oF 0, oF 1, oF 2, oF 3, oF 4, oF 5, oF 6] (by rfl) ?_
        refine oR [oF 0] [(74, vP b21 0), (7, vP b21 0), (8, vP b28 0), (39, .slice A_l l.length c_l), (40, vI (l.length : Int)), (41, vI i41)] [74, 7, 8, 39, 40, 41] (by kernel_rfl) ?_
        obtain ⟨x86, x87, x88, hv89, hp⟩ := obind3 hp
        refine ops_callI (σ := (Option Addr) × (List Value)) (d := some 75) (f := 19) (args := #[vP b21 0]) (v := (fun x_ => match x_ with | (A90, y91) => .tuple #[vU x86, vI x87])) (I := (fun x_ => match x_ with | (A90, y91) => (RepL (Rep.int .u8) F W x19 y91))) (M' := (fun x_ => match x_ with | (A90, y91) => Mem w0 (orow A90 x19.length c23 5 1 y91 :: .blk b54 [vI x43.1, vI x43.2] 32 :: .blk b21 [.slice A90 x19.length c23, vI x88] 136 :: .blk b28 [.slice A37 x26.length c30, vI i40] 40 :: orow A37 x26.length c30 4 1 y38 :: Fz F W :: cs))) ⟨by kernel_rfl⟩ (fun w_ hM hS => (bits_Reader_Nat_ok w0 w_ (.blk b54 [vI x43.1, vI x43.2] 32 :: .blk b28 [.slice A37 x26.length c30, vI i40] 40 :: orow A37 x26.length c30 4 1 y38 :: cs) F W b21 A33 c23 x19 y34 i36 (hM.pick 6 [1, 2, 5, 0, 3, 4] (by kernel_rfl) (by decide) rfl) h35 x86 x87 x88 hv89).mono (by rintro e w' ⟨A90, y91, h92, rfl, h'⟩; have h' : Mem w0 (orow A90 x19.length c23 5 1 y91 :: .blk b54 [vI x43.1, vI x43.2] 32 :: .blk b21 [.slice A90 x19.length c23, vI x88] 136 :: .blk b28 [.slice A37 x26.length c30, vI i40] 40 :: orow A37 x26.length c30 4 1 y38 :: Fz F W :: cs) w' := (h'.pick 6 [1, 3, 0, 4, 5, 2] (by kernel_rfl) (by decide) rfl); exact ⟨(A90, y91), h92, rfl, h', trivial⟩)) ?_
        rintro ⟨A90, y91⟩ h92
        refine ops_conv (l' := [(75, .tuple #[vU x86, vI x87]), (74, vP b21 0), (7, vP b21 0), (8, vP b28 0), (39, .slice A_l l.length c_l), (40, vI (l.length : Int)), (41, vI i41)]) (M' := Mem w0 (orow A90 x19.length c23 5 1 y91 :: .blk b54 [vI x43.1, vI x43.2] 32 :: .blk b21 [.slice A90 x19.length c23, vI x88] 136 :: .blk b28 [.slice A37 x26.length c30, vI i40] 40 :: orow A37 x26.length c30 4 1 y38 :: Fz F W :: cs)) rfl (fun _ h => h) ?_
        refine oR [oF 2, oF 3, oF 4, oF 5, oF 6] [(16, vI x87), (15, vU x86), (7, vP b21 0), (8, vP b28 0), (39, .slice A_l l.length c_l), (40, vI (l.length : Int)), (41, vI i41)] [16, 15, 7, 8, 39, 40, 41] (by kernel_rfl) ?_
        refine ops_nil ?_
        refine fin_then ?_
        refine st_seq ?_
        refine st_region [oF 0, oF 1, oF 2, oF 3, oF 4, oF 5, oF 6] (by rfl) ?_
        refine oR [oF 0] [(79, vP b28 0), (16, vI x87), (15, vU x86), (7, vP b21 0), (8, vP b28 0), (39, .slice A_l l.length c_l), (40, vI (l.length : Int)), (41, vI i41)] [79, 16, 15, 7, 8, 39, 40, 41] (by kernel_rfl) ?_
        obtain ⟨x93, x94, x95, hv96, hp⟩ := obind3 hp
        refine ops_callI (σ := (Option Addr) × (List Value)) (d := some 80) (f := 20) (args := #[vP b28 0]) (v := (fun x_ => match x_ with | (A97, y98) => .tuple #[vU x93, vI x94])) (I := (fun x_ => match x_ with | (A97, y98) => (RepL Rep.bool F W x26 y98))) (M' := (fun x_ => match x_ with | (A97, y98) => Mem w0 (orow A97 x26.length c30 4 1 y98 :: orow A90 x19.length c23 5 1 y91 :: .blk b54 [vI x43.1, vI x43.2] 32 :: .blk b21 [.slice A90 x19.length c23, vI x88] 136 :: .blk b28 [.slice A97 x26.length c30, vI x95] 40 :: Fz F W :: cs))) ⟨by kernel_rfl⟩ (fun w_ hM hS => (tourref1_Bits_ReadNat_ok w0 w_ (orow A90 x19.length c23 5 1 y91 :: .blk b54 [vI x43.1, vI x43.2] 32 :: .blk b21 [.slice A90 x19.length c23, vI x88] 136 :: cs) F W b28 A37 c30 x26 y38 i40 (hM.pick 6 [3, 4, 5, 0, 1, 2] (by kernel_rfl) (by decide) rfl) h39 x93 x94 x95 hv96).mono (by rintro e w' ⟨A97, y98, h99, rfl, h'⟩; have h' : Mem w0 (orow A97 x26.length c30 4 1 y98 :: orow A90 x19.length c23 5 1 y91 :: .blk b54 [vI x43.1, vI x43.2] 32 :: .blk b21 [.slice A90 x19.length c23, vI x88] 136 :: .blk b28 [.slice A97 x26.length c30, vI x95] 40 :: Fz F W :: cs) w' := (h'.pick 6 [1, 3, 4, 5, 0, 2] (by kernel_rfl) (by decide) rfl); exact ⟨(A97, y98), h99, rfl, h', trivial⟩)) ?_
        rintro ⟨A97, y98⟩ h99
        refine ops_conv (l' := [(80, .tuple #[vU x93, vI x94]), (79, vP b28 0), (16, vI x87), (15, vU x86), (7, vP b21 0), (8, vP b28 0), (39, .slice A_l l.length c_l), (40, vI (l.length : Int)), (41, vI i41)]) (M' := Mem w0 (orow A97 x26.length c30 4 1 y98 :: orow A90 x19.length c23 5 1 y91 :: .blk b54 [vI x43.1, vI x43.2] 32 :: .blk b21 [.slice A90 x19.length c23, vI x88] 136 :: .blk b28 [.slice A97 x26.length c30, vI x95] 40 :: Fz F W :: cs)) rfl (fun _ h => h) ?_
        refine oR [oF 2, oF 3, oF 4, oF 5, oF 6] [(18, vI x94), (17, vU x93), (16, vI x87), (15, vU x86), (7, vP b21 0), (8, vP b28 0), (39, .slice A_l l.length c_l), (40, vI (l.length : Int)), (41, vI i41)] [18, 17, 16, 15, 7, 8, 39, 40, 41] (by kernel_rfl) ?_
        refine ops_nil ?_
        refine fin_then ?_
        refine st_seq ?_
        refine st_region [oF 0, oF 1, oF 2, oF 3, oF 4, oF 5, oF 6, oF 7] (by rfl) ?_
        refine oR [oF 0, oF 1, oF 2, oF 3] [(86, .bool (!(x86 == x93))), (18, vI x94), (16, vI x87), (7, vP b21 0), (8, vP b28 0), (39, .slice A_l l.length c_l), (40, vI (l.length : Int)), (41, vI i41)] [86, 18, 16, 7, 8, 39, 40, 41] (by kernel_rfl) ?_
        refine ops_bool (t := !(x86 == x93)) (l1 := [(86, .bool true), (18, vI x94), (16, vI x87), (7, vP b21 0), (8, vP b28 0), (39, .slice A_l l.length c_l), (40, vI (l.length : Int)), (41, vI i41)]) (l2 := [(86, .bool false), (18, vI x94), (16, vI x87), (7, vP b21 0), (8, vP b28 0), (39, .slice A_l l.length c_l), (40, vI (l.length : Int)), (41, vI i41)]) (fun h => by rw [h]) (fun h => by rw [h]) (fun hc100 => ?_) (fun hc100 => ?_)
        · --
         have hp := cnd_t hc100 hp
         refine oR [oF 4, oF 5, oF 6, oF 7] [(90, .bool true), (7, vP b21 0), (8, vP b28 0), (39, .slice A_l l.length c_l), (40, vI (l.length : Int)), (41, vI i41)] [90, 7, 8, 39, 40, 41] (by kernel_rfl) ?_
         refine ops_nil ?_
         refine fin_then ?_
         refine st_true rfl ?_
         refine st_seq ?_
         refine st_region [oF 0] (by rfl) ?_
         refine oR [oF 0] [(4, .bool false)] [4] (by kernel_rfl) ?_
         refine ops_nil ?_
         refine fin_then ?_
         refine st_ret ?_
         refine fin_ret_block ?_
         refine fin_ret_then ?_
         refine fin_ret_block ?_
         refine fin_ret_then ?_
         refine fin_ret_then ?_
         refine fin_ret_block ?_
         refine fin_ret_then ?_
         obtain hq_ := Option.some.inj hp
         subst hq_
         obtain hq_ := hd2 _ rfl
         subst hq_
         have hp : some false = some t9001 := hk2
         have hq_ := Option.some.inj hp
         have hr0_ := hq_
         subst hr0_
         refine fin_ret [.tmp 4] [.bool false] rfl rfl (fun w_ hM => (.tmp rfl .nil)) (fun w_ hM => ?_)
         exact ⟨trivial, rfl, hM.pick 6 [5] (by kernel_rfl) (by decide) rfl⟩
        · --
         have hp := cnd_f hc100 hp
         refine oR [oF 4, oF 5, oF 6, oF 7] [(90, .bool (!(x87 == x94))), (7, vP b21 0), (8, vP b28 0), (39, .slice A_l l.length c_l), (40, vI (l.length : Int)), (41, vI i41)] [90, 7, 8, 39, 40, 41] (by kernel_rfl) ?_
         refine ops_nil ?_
         refine fin_then ?_
         refine st_if (b := !(x87 == x94)) rfl (fun hc101 => ?_) (fun hc101 => ?_)
         · --
          have hp := cnd_t hc101 hp
          refine st_seq ?_
          refine st_region [oF 0] (by rfl) ?_
          refine oR [oF 0] [(4, .bool false)] [4] (by kernel_rfl) ?_
          refine ops_nil ?_
          refine fin_then ?_
          refine st_ret ?_
          refine fin_ret_block ?_
          refine fin_ret_then ?_
          refine fin_ret_block ?_
          refine fin_ret_then ?_
          refine fin_ret_then ?_
          refine fin_ret_block ?_
          refine fin_ret_then ?_
          obtain hq_ := Option.some.inj hp
          subst hq_
          obtain hq_ := hd2 _ rfl
          subst hq_
          have hp : some false = some t9001 := hk2
          have hq_ := Option.some.inj hp
          have hr0_ := hq_
          subst hr0_
          refine fin_ret [.tmp 4] [.bool false] rfl rfl (fun w_ hM => (.tmp rfl .nil)) (fun w_ hM => ?_)
          exact ⟨trivial, rfl, hM.pick 6 [5] (by kernel_rfl) (by decide) rfl⟩
         · --
          have hp := cnd_f hc101 hp
          refine st_skip ?_
          refine fin_block ?_
          exact fin_join HJ3 (A90, y91, x88, A97, y98, x95) ⟨hp, h92, h99⟩ (look_has ⟨rfl, rfl, rfl, rfl, rfl, trivial⟩) (fun w_ hM => hM.pick 6 [3, 1, 4, 0, 5] (by kernel_rfl) (by decide) rfl)
       · --
        have hp := cnd_f hc85 hp
        refine st_seq ?_
        refine st_region [oF 0, oF 1] (by rfl) ?_
        refine oR [oF 0, oF 1] [(91, .bool (x43.2 == 2)), (7, vP b21 0), (8, vP b28 0), (39, .slice A_l l.length c_l), (40, vI (l.length : Int)), (41, vI i41)] [91, 7, 8, 39, 40, 41] (by kernel_rfl) ?_
        refine ops_nil ?_
        refine fin_then ?_
        refine st_if (b := (x43.2 == 2)) rfl (fun hc102 => ?_) (fun hc102 => ?_)
        · --
         have hp := cnd_t hc102 hp
         refine st_seq ?_
         refine st_region [oF 0, oF 1, oF 2, oF 3, oF 4, oF 5, oF 6] (by rfl) ?_
         refine oR [oF 0] [(94, vP b21 0), (7, vP b21 0), (8, vP b28 0), (39, .slice A_l l.length c_l), (40, vI (l.length : Int)), (41, vI i41)] [94, 7, 8, 39, 40, 41] (by kernel_rfl) ?_
         obtain ⟨x103, x104, x105, hv106, hp⟩ := obind3 hp
         refine ops_callI (σ := (Option Addr) × (List Value)) (d := some 95) (f := 21) (args := #[vP b21 0]) (v := (fun x_ => match x_ with | (A107, y108) => .tuple #[vI x103, vI x104])) (I := (fun x_ => match x_ with | (A107, y108) => (RepL (Rep.int .u8) F W x19 y108))) (M' := (fun x_ => match x_ with | (A107, y108) => Mem w0 (orow A107 x19.length c23 5 1 y108 :: .blk b54 [vI x43.1, vI x43.2] 32 :: .blk b21 [.slice A107 x19.length c23, vI x105] 136 :: .blk b28 [.slice A37 x26.length c30, vI i40] 40 :: orow A37 x26.length c30 4 1 y38 :: Fz F W :: cs))) ⟨by kernel_rfl⟩ (fun w_ hM hS => (bits_Reader_Int_ok w0 w_ (.blk b54 [vI x43.1, vI x43.2] 32 :: .blk b28 [.slice A37 x26.length c30, vI i40] 40 :: orow A37 x26.length c30 4 1 y38 :: cs) F W b21 A33 c23 x19 y34 i36 (hM.pick 6 [1, 2, 5, 0, 3, 4] (by kernel_rfl) (by decide) rfl) h35 x103 x104 x105 hv106).mono (by rintro e w' ⟨A107, y108, h109, rfl, h'⟩; have h' : Mem w0 (orow A107 x19.length c23 5 1 y108 :: .blk b54 [vI x43.1, vI x43.2] 32 :: .blk b21 [.slice A107 x19.length c23, vI x105] 136 :: .blk b28 [.slice A37 x26.length c30, vI i40] 40 :: orow A37 x26.length c30 4 1 y38 :: Fz F W :: cs) w' := (h'.pick 6 [1, 3, 0, 4, 5, 2] (by kernel_rfl) (by decide) rfl); exact ⟨(A107, y108), h109, rfl, h', trivial⟩)) ?_
         rintro ⟨A107, y108⟩ h109
         refine ops_conv (l' := [(95, .tuple #[vI x103, vI x104]), (94, vP b21 0), (7, vP b21 0), (8, vP b28 0), (39, .slice A_l l.length c_l), (40, vI (l.length : Int)), (41, vI i41)]) (M' := Mem w0 (orow A107 x19.length c23 5 1 y108 :: .blk b54 [vI x43.1, vI x43.2] 32 :: .blk b21 [.slice A107 x19.length c23, vI x105] 136 :: .blk b28 [.slice A37 x26.length c30, vI i40] 40 :: orow A37 x26.length c30 4 1 y38 :: Fz F W :: cs)) rfl (fun _ h => h) ?_
         refine oR [oF 2, oF 3, oF 4, oF 5, oF 6] [(20, vI x104), (19, vI x103), (7, vP b21 0), (8, vP b28 0), (39, .slice A_l l.length c_l), (40, vI (l.length : Int)), (41, vI i41)] [20, 19, 7, 8, 39, 40, 41] (by kernel_rfl) ?_
         refine ops_nil ?_
         refine fin_then ?_
         refine st_seq ?_
         refine st_region [oF 0, oF 1, oF 2, oF 3, oF 4, oF 5, oF 6] (by rfl) ?_
         refine oR [oF 0] [(99, vP b28 0), (20, vI x104), (19, vI x103), (7, vP b21 0), (8, vP b28 0), (39, .slice A_l l.length c_l), (40, vI (l.length : Int)), (41, vI i41)] [99, 20, 19, 7, 8, 39, 40, 41] (by kernel_rfl) ?_
         obtain ⟨x110, x111, x112, hv113, hp⟩ := obind3 hp
         refine ops_callI (σ := (Option Addr) × (List Value)) (d := some 100) (f := 20) (args := #[vP b28 0]) (v := (fun x_ => match x_ with | (A114, y115) => .tuple #[vU x110, vI x111])) (I := (fun x_ => match x_ with | (A114, y115) => (RepL Rep.bool F W x26 y115))) (M' := (fun x_ => match x_ with | (A114, y115) => Mem w0 (orow A114 x26.length c30 4 1 y115 :: orow A107 x19.length c23 5 1 y108 :: .blk b54 [vI x43.1, vI x43.2] 32 :: .blk b21 [.slice A107 x19.length c23, vI x105] 136 :: .blk b28 [.slice A114 x26.length c30, vI x112] 40 :: Fz F W :: cs))) ⟨by kernel_rfl⟩ (fun w_ hM hS => (tourref1_Bits_ReadNat_ok w0 w_ (orow A107 x19.length c23 5 1 y108 :: .blk b54 [vI x43.1, vI x43.2] 32 :: .blk b21 [.slice A107 x19.length c23, vI x105] 136 :: cs) F W b28 A37 c30 x26 y38 i40 (hM.pick 6 [3, 4, 5, 0, 1, 2] (by kernel_rfl) (by decide) rfl) h39 x110 x111 x112 hv113).mono (by rintro e w' ⟨A114, y115, h116, rfl, h'⟩; have h' : Mem w0 (orow A114 x26.length c30 4 1 y115 :: orow A107 x19.length c23 5 1 y108 :: .blk b54 [vI x43.1, vI x43.2] 32 :: .blk b21 [.slice A107 x19.length c23, vI x105] 136 :: .blk b28 [.slice A114 x26.length c30, vI x112] 40 :: Fz F W :: cs) w' := (h'.pick 6 [1, 3, 4, 5, 0, 2] (by kernel_rfl) (by decide) rfl); exact ⟨(A114, y115), h116, rfl, h', trivial⟩)) ?_
         rintro ⟨A114, y115⟩ h116
         refine ops_conv (l' := [(100, .tuple #[vU x110, vI x111]), (99, vP b28 0), (20, vI x104), (19, vI x103), (7, vP b21 0), (8, vP b28 0), (39, .slice A_l l.length c_l), (40, vI (l.length : Int)), (41, vI i41)]) (M' := Mem w0 (orow A114 x26.length c30 4 1 y115 :: orow A107 x19.length c23 5 1 y108 :: .blk b54 [vI x43.1, vI x43.2] 32 :: .blk b21 [.slice A107 x19.length c23, vI x105] 136 :: .blk b28 [.slice A114 x26.length c30, vI x112] 40 :: Fz F W :: cs)) rfl (fun _ h => h) ?_
         refine oR [oF 2, oF 3, oF 4, oF 5, oF 6] [(22, vI x111), (21, vU x110), (20, vI x104), (19, vI x103), (7, vP b21 0), (8, vP b28 0), (39, .slice A_l l.length c_l), (40, vI (l.length : Int)), (41, vI i41)] [22, 21, 20, 19, 7, 8, 39, 40, 41] (by kernel_rfl) ?_
         refine ops_nil ?_
         refine fin_then ?_
         refine st_seq ?_
         refine st_region [oF 0, oF 1, oF 2, oF 3, oF 4, oF 5, oF 6, oF 7, oF 8] (by rfl) ?_
         refine oR [oF 0, oF 1] [(104, vU x110), (103, vI x103), (22, vI x111), (20, vI x104), (7, vP b21 0), (8, vP b28 0), (39, .slice A_l l.length c_l), (40, vI (l.length : Int)), (41, vI i41)] [104, 103, 22, 20, 7, 8, 39, 40, 41] (by kernel_rfl) ?_
         obtain ⟨x117, hv118, hp⟩ := obind hp
         refine ops_callI (σ := Unit) (d := some 105) (f := 22) (args := #[vU x110]) (v := (fun _ => vI x117)) (I := (fun _ => True)) (M' := (fun _ => Mem w0 (orow A114 x26.length c30 4 1 y115 :: orow A107 x19.length c23 5 1 y108 :: .blk b54 [vI x43.1, vI x43.2] 32 :: .blk b21 [.slice A107 x19.length c23, vI x105] 136 :: .blk b28 [.slice A114 x26.length c30, vI x112] 40 :: Fz F W :: cs))) ⟨by kernel_rfl⟩ (fun w_ hM hS => (tourref1_Unzigzag_ok w0 w_ (orow A114 x26.length c30 4 1 y115 :: orow A107 x19.length c23 5 1 y108 :: .blk b54 [vI x43.1, vI x43.2] 32 :: .blk b21 [.slice A107 x19.length c23, vI x105] 136 :: .blk b28 [.slice A114 x26.length c30, vI x112] 40 :: cs) F W x110 (hM.pick 6 [5, 0, 1, 2, 3, 4] (by kernel_rfl) (by decide) rfl)  x117 hv118).mono (by rintro e w' ⟨-, rfl, h'⟩; have h' : Mem w0 (orow A114 x26.length c30 4 1 y115 :: orow A107 x19.length c23 5 1 y108 :: .blk b54 [vI x43.1, vI x43.2] 32 :: .blk b21 [.slice A107 x19.length c23, vI x105] 136 :: .blk b28 [.slice A114 x26.length c30, vI x112] 40 :: Fz F W :: cs) w' := (h'.pick 6 [1, 2, 3, 4, 5, 0] (by kernel_rfl) (by decide) rfl); exact ⟨(), trivial, rfl, h', trivial⟩)) ?_
         rintro _ -
         refine ops_conv (l' := [(105, vI x117), (104, vU x110), (103, vI x103), (22, vI x111), (20, vI x104), (7, vP b21 0), (8, vP b28 0), (39, .slice A_l l.length c_l), (40, vI (l.length : Int)), (41, vI i41)]) (M' := Mem w0 (orow A114 x26.length c30 4 1 y115 :: orow A107 x19.length c23 5 1 y108 :: .blk b54 [vI x43.1, vI x43.2] 32 :: .blk b21 [.slice A107 x19.length c23, vI x105] 136 :: .blk b28 [.slice A114 x26.length c30, vI x112] 40 :: Fz F W :: cs)) rfl (fun _ h => h) ?_
         refine oR [oF 3, oF 4] [(107, .bool (!(x103 == x117))), (22, vI x111), (20, vI x104), (7, vP b21 0), (8, vP b28 0), (39, .slice A_l l.length c_l), (40, vI (l.length : Int)), (41, vI i41)] [107, 22, 20, 7, 8, 39, 40, 41] (by kernel_rfl) ?_
         refine ops_bool (t := !(x103 == x117)) (l1 := [(107, .bool true), (22, vI x111), (20, vI x104), (7, vP b21 0), (8, vP b28 0), (39, .slice A_l l.length c_l), (40, vI (l.length : Int)), (41, vI i41)]) (l2 := [(107, .bool false), (22, vI x111), (20, vI x104), (7, vP b21 0), (8, vP b28 0), (39, .slice A_l l.length c_l), (40, vI (l.length : Int)), (41, vI i41)]) (fun h => by rw [h]) (fun h => by rw [h]) (fun hc119 => ?_) (fun hc119 => ?_)
         · --
          have hp := cnd_t hc119 hp
          refine oR [oF 5, oF 6, oF 7, oF 8] [(111, .bool true), (7, vP b21 0), (8, vP b28 0), (39, .slice A_l l.length c_l), (40, vI (l.length : Int)), (41, vI i41)] [111, 7, 8, 39, 40, 41] (by kernel_rfl) ?_
          refine ops_nil ?_
          refine fin_then ?_
          refine st_true rfl ?_
          refine st_seq ?_
          refine st_region [oF 0] (by rfl) ?_
          refine oR [oF 0] [(4, .bool false)] [4] (by kernel_rfl) ?_
          refine ops_nil ?_
          refine fin_then ?_
          refine st_ret ?_
          refine fin_ret_block ?_
          refine fin_ret_then ?_
          refine fin_ret_block ?_
          refine fin_ret_then ?_
          refine fin_ret_then ?_
          refine fin_ret_block ?_
          refine fin_ret_then ?_
          obtain hq_ := Option.some.inj hp
          subst hq_
          obtain hq_ := hd2 _ rfl
          subst hq_
          have hp : some false = some t9001 := hk2
          have hq_ := Option.some.inj hp
          have hr0_ := hq_
          subst hr0_
          refine fin_ret [.tmp 4] [.bool false] rfl rfl (fun w_ hM => (.tmp rfl .nil)) (fun w_ hM => ?_)
          exact ⟨trivial, rfl, hM.pick 6 [5] (by kernel_rfl) (by decide) rfl⟩
         · --
          have hp := cnd_f hc119 hp
          refine oR [oF 5, oF 6, oF 7, oF 8] [(111, .bool (!(x104 == x111))), (7, vP b21 0), (8, vP b28 0), (39, .slice A_l l.length c_l), (40, vI (l.length : Int)), (41, vI i41)] [111, 7, 8, 39, 40, 41] (by kernel_rfl) ?_
          refine ops_nil ?_
          refine fin_then ?_
          refine st_if (b := !(x104 == x111)) rfl (fun hc120 => ?_) (fun hc120 => ?_)
          · --
           have hp := cnd_t hc120 hp
           refine st_seq ?_
           refine st_region [oF 0] (by rfl) ?_
           refine oR [oF 0] [(4, .bool false)] [4] (by kernel_rfl) ?_
           refine ops_nil ?_
           refine fin_then ?_
           refine st_ret ?_
           refine fin_ret_block ?_
           refine fin_ret_then ?_
           refine fin_ret_block ?_
           refine fin_ret_then ?_
           refine fin_ret_then ?_
           refine fin_ret_block ?_
           refine fin_ret_then ?_
           obtain hq_ := Option.some.inj hp
           subst hq_
           obtain hq_ := hd2 _ rfl
           subst hq_
           have hp : some false = some t9001 := hk2
           have hq_ := Option.some.inj hp
           have hr0_ := hq_
           subst hr0_
           refine fin_ret [.tmp 4] [.bool false] rfl rfl (fun w_ hM => (.tmp rfl .nil)) (fun w_ hM => ?_)
           exact ⟨trivial, rfl, hM.pick 6 [5] (by kernel_rfl) (by decide) rfl⟩
          · --
           have hp := cnd_f hc120 hp
           refine st_skip ?_
           refine fin_block ?_
           exact fin_join HJ3 (A107, y108, x105, A114, y115, x112) ⟨hp, h109, h116⟩ (look_has ⟨rfl, rfl, rfl, rfl, rfl, trivial⟩) (fun w_ hM => hM.pick 6 [3, 1, 4, 0, 5] (by kernel_rfl) (by decide) rfl)
        · --
         have hp := cnd_f hc102 hp
         refine st_skip ?_
         refine fin_block ?_
         exact fin_join HJ3 (A33, y34, i36, A37, y38, i40) ⟨hp, h35, h39⟩ (look_has ⟨rfl, rfl, rfl, rfl, rfl, trivial⟩) (fun w_ hM => hM.pick 6 [1, 2, 3, 4, 5] (by kernel_rfl) (by decide) rfl)
    · --
     have hp := cnd_f hc42 hp
     refine st_exit ?_
     refine fin_exit_then ?_
     refine fin_exit_then ?_
     refine fin_exit ?_
     obtain hq_ := Option.some.inj hp
     subst hq_
     obtain hq_ := hd2 _ rfl
     subst hq_
     have hp : tourlaw1_BitsReads_j1 = some t9001 := hk2
     exact fin_join HJ1 () hp (look_has trivial) (fun w_ hM => hM.pick 5 [4] (by kernel_rfl) (by decide) rfl)
def bits_Writer_Put__t0 : List Row := [⟨0, 1125899906842624, 1⟩, ⟨1, 2251799813685248, 1125899906842624⟩, ⟨2, 4503599627370496, 2251799813685248⟩, ⟨4, 9007199254740992, 4503599627370496⟩, ⟨0, 18014398509481984, 1⟩, ⟨16, 36028797018963968, 18014398509481984⟩, ⟨32, 72057594037927936, 36028797018963968⟩, ⟨64, 144115188075855872, 72057594037927936⟩, ⟨128, 288230376151711744, 144115188075855872⟩, ⟨264, 576460752303423488, 297237575406452736⟩, ⟨512, 1152921504606846976, 576460752303423488⟩, ⟨0, 2305843009213693952, 2⟩, ⟨0, 4611686018427387904, 128⟩, ⟨6144, 9223372036854775808, 6917529027641081856⟩, ⟨8192, 18446744073709551616, 9223372036854775808⟩, ⟨16384, 36893488147419103232, 18446744073709551616⟩, ⟨0, 73786976294838206464, 1⟩, ⟨65536, 147573952589676412928, 73786976294838206464⟩, ⟨131072, 295147905179352825856, 147573952589676412928⟩, ⟨262144, 590295810358705651712, 295147905179352825856⟩, ⟨524288, 1180591620717411303424, 590295810358705651712⟩, ⟨1081344, 2361183241434822606848, 1217485108864830406656⟩, ⟨2098176, 4722366482869645213696, 2362336162939429453824⟩, ⟨8388607, 9444732965739290427392, 297237575406452736⟩, ⟨16777215, 0, 14167099448608935641088⟩]
set_option maxHeartbeats 4000000 in
set_option maxRecDepth 100000 in
theorem bits_Writer_Put_ok (w0 w : World) (cs : List Chunk) (F : Nat → Prop) (W : World) (b_w : Nat) (A_w_0 : Option Addr) (c_w_0 : Nat) (w_0 : List Int) (y_w_0 : List Value) (w_1 : Int) (v : Int) (n : Int) (hM0 : Mem w0 (.blk b_w [.slice A_w_0 w_0.length c_w_0, vI w_1] 45 :: orow A_w_0 w_0.length c_w_0 5 1 y_w_0 :: Fz F W :: cs) w) (h_w_0 : RepL (Rep.int .u8) F W w_0 y_w_0) (i9001 : Int) (l9004 : List Int) (i9007 : Int) (hp : bits_Writer_Put w_0 w_1 v n = some (i9001, l9004, i9007)) : Calls Try.prog 25 #[vP b_w 0, vU v, vI n] w fun e w' => ∃ (A9002 : Option Addr), ∃ (c9003 : Nat), ∃ (y9005 : List Value), ((RepL (Rep.int .u8) F W l9004 y9005)) ∧ e = .returned (vI i9001) ∧ Mem w0 (.blk b_w [.slice A9002 l9004.length c9003, vI i9007] 45 :: orow A9002 l9004.length c9003 5 1 y9005 :: Fz F W :: cs) w' := by
 unfold bits_Writer_Put at hp
 refine sx_calls Try.func25 rfl (n := 82) (by kernel_rfl) (l := [(0, vP b_w 0), (1, vU v), (2, vI n)]) rfl (by rfl) hM0 ?_
 refine st_seq ?_
 refine st_region [oF 0] (by rfl) ?_
 refine oR [oF 0] [(0, vP b_w 0), (1, vU v), (2, vI n)] [0, 1, 2] (by kernel_rfl) ?_
 refine ops_nil ?_
 refine fin_then ?_
 refine st_join1 (σ := Unit) (L := fun _ => [(0, vP b_w 0), (1, vU v), (2, vI n)]) (N := fun _ => Mem w0 (.blk b_w [.slice A_w_0 w_0.length c_w_0, vI w_1] 45 :: orow A_w_0 w_0.length c_w_0 5 1 y_w_0 :: Fz F W :: cs)) (I := fun _ => ((bits_Writer_Put_j1 w_1 n w_0 v) = some (i9001, l9004, i9007))) ?_ ?_
 · --
  rintro _ hp
  refine st_conv (l' := [(0, vP b_w 0), (1, vU v), (2, vI n)]) (M' := Mem w0 (.blk b_w [.slice A_w_0 w_0.length c_w_0, vI w_1] 45 :: orow A_w_0 w_0.length c_w_0 5 1 y_w_0 :: Fz F W :: cs)) rfl (fun _ h => h) ?_
  unfold bits_Writer_Put_j1 at hp
  refine st_seq ?_
  refine st_seq ?_
  refine st_region [oF 0, oF 1, oF 2, oF 3, oF 4, oF 5, oF 6] (by rfl) ?_
  refine oR [oF 0, oF 1, oF 2] [(26, vP b_w 1), (0, vP b_w 0), (1, vU v), (2, vI n)] [26, 0, 1, 2] (by kernel_rfl) ?_
  refine ops_mem (d := some 27) (an := [.v (vI w_1)]) (evs := [.load ⟨b_w, 1, none⟩ (vI w_1)]) (v := vI w_1) (M' := Mem w0 (.blk b_w [.slice A_w_0 w_0.length c_w_0, vI w_1] 45 :: orow A_w_0 w_0.length c_w_0 5 1 y_w_0 :: Fz F W :: cs)) ⟨by kernel_rfl⟩ (fun w_ hM hS => ⟨w_, ⟨hM.cell 0 rfl rfl, rfl⟩, hM, trivial⟩) ?_
  refine oR [oF 4, oF 5, oF 6] [(30, .bool (decide (524288 < IntKind.i64.wrap (w_1 + n)))), (0, vP b_w 0), (1, vU v), (2, vI n)] [30, 0, 1, 2] (by kernel_rfl) ?_
  refine ops_nil ?_
  refine fin_then ?_
  refine st_if (b := decide (524288 < IntKind.i64.wrap (w_1 + n))) rfl (fun hc1 => ?_) (fun hc1 => ?_)
  · --
   have hp := cnd_t hc1 hp
   refine st_seq ?_
   refine st_region [oF 0] (by rfl) ?_
   refine oR [oF 0] [(6, vI 6)] [6] (by kernel_rfl) ?_
   refine ops_nil ?_
   refine fin_then ?_
   refine st_ret ?_
   refine fin_ret_then ?_
   have hq_ := Option.some.inj hp
   obtain ⟨hr0_, hq_⟩ := Prod.mk.inj hq_
   obtain ⟨hr1_, hq_⟩ := Prod.mk.inj hq_
   have hr2_ := hq_
   subst hr0_
   subst hr1_
   subst hr2_
   refine fin_ret [.tmp 6] [vI 6] rfl rfl (fun w_ hM => (.tmp rfl .nil)) (fun w_ hM => ?_)
   exact ⟨A_w_0, c_w_0, y_w_0, h_w_0, rfl, hM⟩
  · --
   have hp := cnd_f hc1 hp
   refine st_skip ?_
   refine fin_then ?_
   refine st_join1 (σ := (Option Addr) × Nat × (List Int) × (List Value) × Int) (L := fun x_ => match x_ with | (A2, c3, l4, y5, i7) => []) (N := fun x_ => match x_ with | (A2, c3, l4, y5, i7) => Mem w0 (.blk b_w [.slice A2 l4.length c3, vI i7] 45 :: orow A2 l4.length c3 5 1 y5 :: Fz F W :: cs)) (I := fun x_ => match x_ with | (A2, c3, l4, y5, i7) => (bits_Writer_Put_j2 l4 i7 = some (i9001, l9004, i9007)) ∧ (RepL (Rep.int .u8) F W l4 y5)) ?_ ?_
   · --
    rintro ⟨A2, c3, l4, y5, i7⟩ ⟨hp, h6⟩
    refine st_conv (l' := []) (M' := Mem w0 (.blk b_w [.slice A2 l4.length c3, vI i7] 45 :: orow A2 l4.length c3 5 1 y5 :: Fz F W :: cs)) rfl (fun _ h => h) ?_
    unfold bits_Writer_Put_j2 at hp
    refine st_seq ?_
    refine st_region [oF 0] (by rfl) ?_
    refine oR [oF 0] [(6, vI 0)] [6] (by kernel_rfl) ?_
    refine ops_nil ?_
    refine fin_then ?_
    refine st_ret ?_
    have hq_ := Option.some.inj hp
    obtain ⟨hr0_, hq_⟩ := Prod.mk.inj hq_
    obtain ⟨hr1_, hq_⟩ := Prod.mk.inj hq_
    have hr2_ := hq_
    subst hr0_
    subst hr1_
    subst hr2_
    refine fin_ret [.tmp 6] [vI 0] rfl rfl (fun w_ hM => (.tmp rfl .nil)) (fun w_ hM => ?_)
    exact ⟨A2, c3, y5, h6, rfl, hM⟩
   · --
    intro HJ2
    refine st_seq ?_
    refine st_seq ?_
    refine st_region [oF 0, oF 1] (by rfl) ?_
    refine oR [oF 0, oF 1] [(32, vI 0), (31, vI n), (0, vP b_w 0), (1, vU v)] [32, 31, 0, 1] (by kernel_rfl) ?_
    refine ops_nil ?_
    refine fin_then ?_
    refine st_block ?_
    obtain ⟨r3, hl3, hk3⟩ := obind hp
    refine st_loopP (σ := (List Int) × Int × Int) (ρ := (List Int) × Int) (γ := (Option Addr) × Nat × (List Value)) hl3 (A_w_0, c_w_0, y_w_0) (fun s_ g_ => match s_, g_ with | (l10, i13, i14), (A8, c9, y11) => [(0, vP b_w 0), (1, vU v), (31, vI n), (32, vI i14)]) (fun s_ g_ => match s_, g_ with | (l10, i13, i14), (A8, c9, y11) => Mem w0 (.blk b_w [.slice A8 l10.length c9, vI i13] 45 :: orow A8 l10.length c9 5 1 y11 :: Fz F W :: cs)) (fun s_ g_ => match s_, g_ with | (l10, i13, i14), (A8, c9, y11) => (RepL (Rep.int .u8) F W l10 y11)) h_w_0 (look_has ⟨rfl, rfl, rfl, rfl, trivial⟩) (fun w_ hM => hM) ?_
    rintro ⟨l10, i13, i14⟩ ⟨A8, c9, y11⟩ o3 h12 hs_ hd3
    have hp : (bits_Writer_Put_l3 n v) l10 i13 i14 = some o3 := hs_
    clear hs_
    unfold bits_Writer_Put_l3 at hp
    refine st_conv (l' := [(0, vP b_w 0), (1, vU v), (31, vI n), (32, vI i14)]) (M' := Mem w0 (.blk b_w [.slice A8 l10.length c9, vI i13] 45 :: orow A8 l10.length c9 5 1 y11 :: Fz F W :: cs)) rfl (fun _ h => h) ?_
    refine st_seq ?_
    refine st_region [oF 0] (by rfl) ?_
    refine oR [oF 0] [(33, .bool (decide (i14 < n))), (0, vP b_w 0), (1, vU v), (31, vI n), (32, vI i14)] [33, 0, 1, 31, 32] (by kernel_rfl) ?_
    refine ops_nil ?_
    refine fin_then ?_
    refine st_seq ?_
    refine st_if (b := decide (i14 < n)) rfl (fun hc15 => ?_) (fun hc15 => ?_)
    · --
     have hp := cnd_t hc15 hp
     refine st_skip ?_
     refine fin_then ?_
     refine st_seq ?_
     refine st_block ?_
     refine st_seq ?_
     refine st_region [oF 0, oF 1] (by rfl) ?_
     refine oR [oF 0, oF 1] [(7, vI i14), (0, vP b_w 0), (1, vU v), (31, vI n), (32, vI i14)] [7, 0, 1, 31, 32] (by kernel_rfl) ?_
     refine ops_nil ?_
     refine fin_then ?_
     refine st_join1 (σ := (Option Addr) × Nat × (List Int) × (List Value)) (L := fun x_ => match x_ with | (A16, c17, l18, y19) => [(0, vP b_w 0), (1, vU v), (7, vI i14), (31, vI n), (32, vI i14)]) (N := fun x_ => match x_ with | (A16, c17, l18, y19) => Mem w0 (.blk b_w [.slice A16 l18.length c17, vI i13] 45 :: orow A16 l18.length c17 5 1 y19 :: Fz F W :: cs)) (I := fun x_ => match x_ with | (A16, c17, l18, y19) => ((bits_Writer_Put_j4 i13 v i14) l18 = some o3) ∧ (RepL (Rep.int .u8) F W l18 y19)) ?_ ?_
     · --
      rintro ⟨A16, c17, l18, y19⟩ ⟨hp, h20⟩
      refine st_conv (l' := [(0, vP b_w 0), (1, vU v), (7, vI i14), (31, vI n), (32, vI i14)]) (M' := Mem w0 (.blk b_w [.slice A16 l18.length c17, vI i13] 45 :: orow A16 l18.length c17 5 1 y19 :: Fz F W :: cs)) rfl (fun _ h => h) ?_
      unfold bits_Writer_Put_j4 at hp
      refine st_seq ?_
      refine st_region_fast bits_Writer_Put__t0 [oT 0, oT 1, oT 2, oT 3, oT 4, oT 5, oT 6, oT 7, oT 8, oT 9, oT 11, oT 12, oT 13, oT 14, oT 15, oT 16, oT 17, oT 18, oT 19, oT 20, oT 21, oF 10, oT 22, oT 23, oF 24] (Mem w0 (.blk b_w [.slice A16 l18.length c17, vI i13] 45 :: Fz F W :: cs)) (by kernel_rfl) (by kernel_rfl) (by kernel_rfl) (by kernel_rfl) (by kernel_rfl) (fun _ d _ _ _ h => by cases d <;> exact h) (M' := Mem w0 (.blk b_w [.slice A16 l18.length c17, vI i13] 45 :: orow A16 l18.length c17 5 1 y19 :: Fz F W :: cs)) (fun w_ hM => ⟨hM.drew, hM.drew.sub (.cons_cons _ (.cons _ (.cons_cons _ (.refl _))))⟩) ?_
      refine oR [oT 0, oT 1, oT 2] [(52, vP b_w 0), (0, vP b_w 0), (1, vU v), (7, vI i14), (31, vI n), (32, vI i14)] [52, 0, 1, 7, 31, 32] (by kernel_rfl) ?_
      refine ops_load (d := some 53) (an := [.v (.slice A16 l18.length c17)]) (evs := [.load ⟨b_w, 0, none⟩ (.slice A16 l18.length c17)]) (v := .slice A16 l18.length c17) ⟨by kernel_rfl⟩ (fun w_ hM => ⟨hM.cell 0 rfl rfl, rfl⟩) ?_
      refine oR [oT 4, oT 5, oT 6] [(56, vP b_w 1), (53, .slice A16 l18.length c17), (0, vP b_w 0), (1, vU v), (7, vI i14), (31, vI n), (32, vI i14)] [56, 53, 0, 1, 7, 31, 32] (by kernel_rfl) ?_
      refine ops_load (d := some 57) (an := [.v (vI i13)]) (evs := [.load ⟨b_w, 1, none⟩ (vI i13)]) (v := vI i13) ⟨by kernel_rfl⟩ (fun w_ hM => ⟨hM.cell 0 rfl rfl, rfl⟩) ?_
      refine oR [oT 8] [(58, vI (IntKind.i64.wrap (Int.tdiv i13 8))), (53, .slice A16 l18.length c17), (0, vP b_w 0), (1, vU v), (7, vI i14), (31, vI n), (32, vI i14)] [58, 53, 0, 1, 7, 31, 32] (by kernel_rfl) ?_
      obtain ⟨x21, hv22, hp⟩ := obind hp
      obtain ⟨m23, hm24, hx25⟩ := idx_some hv22
      have hl28 := (List.getElem?_eq_some_iff.1 hx25).1
      refine ops_fact (fun w_ hM => hM.orowSome 1 rfl (Nat.lt_of_le_of_lt (Nat.zero_le _) hl28)) ?_
      rintro ⟨g29, rfl, -⟩
      obtain ⟨vs26, hr27, hq30⟩ := h20.at_ m23 x21 hx25
      obtain rfl := hr27
      refine ops_val (op := (Go.Op.indexAddr 22 (Go.Operand.tmp 53) (Go.Operand.tmp 58))) (d := some 59) (v := vP g29 (m23 * 1)) ⟨by kernel_rfl⟩ (run_indexRow Try.underlying22 (z := 1) (by kernel_rfl) rfl rfl hm24 hl28 rfl) ?_
      refine oR [oT 11, oT 12] [(62, vI i14), (61, vU v), (59, vP g29 (m23 * 1)), (58, vI (IntKind.i64.wrap (Int.tdiv i13 8))), (53, .slice (some ⟨g29, 0, none⟩) l18.length c17), (0, vP b_w 0), (1, vU v), (31, vI n), (32, vI i14)] [62, 61, 59, 58, 53, 0, 1, 31, 32] (by kernel_rfl) ?_
      obtain ⟨x31, hv32, hp⟩ := obind hp
      obtain ⟨hb33, he34⟩ := shr_some hv32
      refine ops_val (op := (Go.Op.binOp Go.BinOp.shr 24 (Go.Operand.tmp 61) (Go.Operand.tmp 62) 3)) (d := some 63) (v := vU x31) ⟨by kernel_rfl⟩ (by rw [he34]; exact run_shr rfl rfl hb33) ?_
      refine oR [oT 14, oT 15, oT 16, oT 17, oT 18] [(68, vP b_w 1), (65, .int .u8 (IntKind.u8.wrap (Go.bits .and .u64 x31 1))), (59, vP g29 (m23 * 1)), (58, vI (IntKind.i64.wrap (Int.tdiv i13 8))), (53, .slice (some ⟨g29, 0, none⟩) l18.length c17), (0, vP b_w 0), (1, vU v), (31, vI n), (32, vI i14)] [68, 65, 59, 58, 53, 0, 1, 31, 32] (by kernel_rfl) ?_
      refine ops_load (d := some 69) (an := [.v (vI i13)]) (evs := [.load ⟨b_w, 1, none⟩ (vI i13)]) (v := vI i13) ⟨by kernel_rfl⟩ (fun w_ hM => ⟨hM.cell 0 rfl rfl, rfl⟩) ?_
      refine oR [oT 20] [(70, vI (Int.tmod i13 8)), (65, .int .u8 (IntKind.u8.wrap (Go.bits .and .u64 x31 1))), (59, vP g29 (m23 * 1)), (58, vI (IntKind.i64.wrap (Int.tdiv i13 8))), (53, .slice (some ⟨g29, 0, none⟩) l18.length c17), (0, vP b_w 0), (1, vU v), (31, vI n), (32, vI i14)] [70, 65, 59, 58, 53, 0, 1, 31, 32] (by kernel_rfl) ?_
      obtain ⟨x35, hv36, hp⟩ := obind hp
      obtain ⟨hb37, he38⟩ := shl_some hv36
      refine ops_val (op := (Go.Op.binOp Go.BinOp.shl 5 (Go.Operand.tmp 65) (Go.Operand.tmp 70) 3)) (d := some 71) (v := .int .u8 x35) ⟨by kernel_rfl⟩ (by rw [he38]; exact run_shl rfl rfl hb37) ?_
      refine oR [] [(71, .int .u8 x35), (59, vP g29 (m23 * 1)), (58, vI (IntKind.i64.wrap (Int.tdiv i13 8))), (53, .slice (some ⟨g29, 0, none⟩) l18.length c17), (0, vP b_w 0), (1, vU v), (31, vI n), (32, vI i14)] [71, 59, 58, 53, 0, 1, 31, 32] (by kernel_rfl) ?_
      refine ops_mem (d := some 60) (an := [.v (.int .u8 x21)]) (evs := [.load ⟨g29, m23 * 1, none⟩ (.int .u8 x21)]) (v := .int .u8 x21) (M' := Mem w0 (.blk b_w [.slice (some ⟨g29, 0, none⟩) l18.length c17, vI i13] 45 :: orow (some ⟨g29, 0, none⟩) l18.length c17 5 1 y19 :: Fz F W :: cs)) ⟨by kernel_rfl⟩ (fun w_ hM hS => ⟨w_, ⟨hM.ocell 1 rfl (hq30 0 _ rfl), rfl⟩, hM, hS⟩) ?_
      refine oR [oT 22] [(72, .int .u8 (Go.bits .or .u8 x21 x35)), (58, vI (IntKind.i64.wrap (Int.tdiv i13 8))), (53, .slice (some ⟨g29, 0, none⟩) l18.length c17), (0, vP b_w 0), (1, vU v), (31, vI n), (32, vI i14)] [72, 58, 53, 0, 1, 31, 32] (by kernel_rfl) ?_
      obtain ⟨x39, hv40, hp⟩ := obind hp
      obtain ⟨m41, hm42, hx43⟩ := idx_some hv40
      have hl46 := (List.getElem?_eq_some_iff.1 hx43).1
      obtain ⟨vs44, hr45, hq47⟩ := h20.at_ m41 x39 hx43
      obtain rfl := hr45
      refine ops_val (op := (Go.Op.indexAddr 22 (Go.Operand.tmp 53) (Go.Operand.tmp 58))) (d := some 73) (v := vP g29 (m41 * 1)) ⟨by kernel_rfl⟩ (run_indexRow Try.underlying22 (z := 1) (by kernel_rfl) rfl rfl hm42 hl46 rfl) ?_
      refine oR [] [(73, vP g29 (m41 * 1)), (72, .int .u8 (Go.bits .or .u8 x21 x35)), (0, vP b_w 0), (1, vU v), (31, vI n), (32, vI i14)] [73, 72, 0, 1, 31, 32] (by kernel_rfl) ?_
      obtain ⟨l48, hv49, hp⟩ := obind hp
      obtain ⟨m50, hm51, hl52, he53⟩ := upd_some hv49
      obtain rfl : m41 = m50 := by have := hm42; omega
      have hl54 : l18.length = l48.length := by rw [he53, List.length_set]
      obtain ⟨y55, hy56⟩ : ∃ y_, setAll y19 (m41 * 1 + 0) [.int .u8 (Go.bits .or .u8 x21 x35)] = y_ := ⟨_, rfl⟩
      have h57 : RepL (Rep.int .u8) F W l48 y55 := by rw [he53, ← hy56]; exact RepL.set h20 (List.getElem?_eq_getElem hl52) (fun vs_ hr_ _ => by obtain rfl := hr_; exact ⟨rfl, Nat.le_of_ble_eq_true rfl⟩)
      refine ops_store (an := []) (evs := [.store ⟨g29, m41 * 1, none⟩ (.int .u8 (Go.bits .or .u8 x21 x35))]) (M' := Mem w0 (.blk b_w [.slice (some ⟨g29, 0, none⟩) l18.length c17, vI i13] 45 :: orow (some ⟨g29, 0, none⟩) l48.length c17 5 1 y55 :: Fz F W :: cs)) ⟨by kernel_rfl⟩ (fun w_ hM hS => let ⟨w', he, h'⟩ := hM.ostore' 1 rfl (m41 * 1 + 0) [.int .u8 (Go.bits .or .u8 x21 x35)] (by have z_ : y19.length = l18.length * 1 := h20.len; have y_ : (m41 + 1) * 1 ≤ l18.length * 1 := Nat.mul_le_mul_right _ hl52; rw [Nat.add_mul] at y_; simp only [List.length_cons, List.length_nil]; omega) hl54 hy56; ⟨w', he, h', (by exact h'.sub (.cons_cons _ (.cons _ (.cons_cons _ (.refl _)))))⟩) ?_
      refine ops_conv (l' := [(73, vP g29 (m41 * 1)), (72, .int .u8 (Go.bits .or .u8 x21 x35)), (0, vP b_w 0), (1, vU v), (31, vI n), (32, vI i14)]) (M' := Mem w0 (.blk b_w [.slice (some ⟨g29, 0, none⟩) l48.length c17, vI i13] 45 :: orow (some ⟨g29, 0, none⟩) l48.length c17 5 1 y55 :: Fz F W :: cs)) (by first | rfl | rw [hl54]) (fun w_ hM => by first | exact hM | (rw [hl54] at hM; exact hM)) ?_
      refine oR [] [(0, vP b_w 0), (1, vU v), (31, vI n), (32, vI i14)] [0, 1, 31, 32] (by kernel_rfl) ?_
      refine ops_nil ?_
      refine fin_then ?_
      refine st_region [oF 0, oF 1, oF 2, oF 3, oF 4, oF 5, oF 6, oF 7] (by rfl) ?_
      refine oR [oF 0, oF 1, oF 2] [(76, vP b_w 1), (74, vP b_w 0), (0, vP b_w 0), (1, vU v), (31, vI n), (32, vI i14)] [76, 74, 0, 1, 31, 32] (by kernel_rfl) ?_
      refine ops_mem (d := some 77) (an := [.v (vI i13)]) (evs := [.load ⟨b_w, 1, none⟩ (vI i13)]) (v := vI i13) (M' := Mem w0 (.blk b_w [.slice (some ⟨g29, 0, none⟩) l48.length c17, vI i13] 45 :: orow (some ⟨g29, 0, none⟩) l48.length c17 5 1 y55 :: Fz F W :: cs)) ⟨by kernel_rfl⟩ (fun w_ hM hS => ⟨w_, ⟨hM.cell 0 rfl rfl, rfl⟩, hM, trivial⟩) ?_
      refine oR [oF 4, oF 5, oF 6] [(80, vP b_w 1), (78, vI (IntKind.i64.wrap (i13 + 1))), (0, vP b_w 0), (1, vU v), (31, vI n), (32, vI i14)] [80, 78, 0, 1, 31, 32] (by kernel_rfl) ?_
      refine ops_store (an := []) (evs := [.store ⟨b_w, 1, none⟩ (vI (IntKind.i64.wrap (i13 + 1)))]) (M' := Mem w0 (.blk b_w [.slice (some ⟨g29, 0, none⟩) l48.length c17, vI (IntKind.i64.wrap (i13 + 1))] 45 :: orow (some ⟨g29, 0, none⟩) l48.length c17 5 1 y55 :: Fz F W :: cs)) ⟨by kernel_rfl⟩ (fun w_ hM hS => let ⟨w', he, h'⟩ := hM.evs_stores [vI (IntKind.i64.wrap (i13 + 1))] 0 rfl 1 (Nat.le_of_ble_eq_true rfl); ⟨w', he, h', trivial⟩) ?_
      refine oR [] [(0, vP b_w 0), (1, vU v), (31, vI n), (32, vI i14)] [0, 1, 31, 32] (by kernel_rfl) ?_
      refine ops_nil ?_
      refine fin_block ?_
      refine fin_then ?_
      refine st_region [oF 0, oF 1] (by rfl) ?_
      refine oR [oF 0, oF 1] [(32, vI (IntKind.i64.wrap (i14 + 1))), (0, vP b_w 0), (1, vU v), (31, vI n)] [32, 0, 1, 31] (by kernel_rfl) ?_
      refine ops_nil ?_
      exact fin_again (l48, IntKind.i64.wrap (i13 + 1), IntKind.i64.wrap (i14 + 1)) ((some ⟨g29, 0, none⟩), c17, y55) (Option.some.inj hp).symm h57 (look_has ⟨rfl, rfl, rfl, rfl, trivial⟩) (fun w_ hM => hM)
     · --
      intro HJ4
      refine st_seq ?_
      refine st_seq ?_
      refine st_region [oF 0, oF 1, oF 2, oF 3, oF 4, oF 5] (by rfl) ?_
      refine oR [oF 0, oF 1, oF 2] [(37, vP b_w 1), (7, vI i14), (0, vP b_w 0), (1, vU v), (31, vI n), (32, vI i14)] [37, 7, 0, 1, 31, 32] (by kernel_rfl) ?_
      refine ops_mem (d := some 38) (an := [.v (vI i13)]) (evs := [.load ⟨b_w, 1, none⟩ (vI i13)]) (v := vI i13) (M' := Mem w0 (.blk b_w [.slice A8 l10.length c9, vI i13] 45 :: orow A8 l10.length c9 5 1 y11 :: Fz F W :: cs)) ⟨by kernel_rfl⟩ (fun w_ hM hS => ⟨w_, ⟨hM.cell 0 rfl rfl, rfl⟩, hM, trivial⟩) ?_
      refine oR [oF 4, oF 5] [(40, .bool (Int.tmod i13 8 == 0)), (7, vI i14), (0, vP b_w 0), (1, vU v), (31, vI n), (32, vI i14)] [40, 7, 0, 1, 31, 32] (by kernel_rfl) ?_
      refine ops_nil ?_
      refine fin_then ?_
      refine st_if (b := (Int.tmod i13 8 == 0)) rfl (fun hc59 => ?_) (fun hc59 => ?_)
      · --
       have hp := cnd_t hc59 hp
       refine st_region [oF 0, oF 1, oF 2, oF 3, oF 4, oF 5, oF 6, oF 7, oF 8, oF 9] (by rfl) ?_
       refine oR [oF 0, oF 1, oF 2, oF 3] [(44, vP b_w 0), (41, vP b_w 0), (7, vI i14), (0, vP b_w 0), (1, vU v), (31, vI n), (32, vI i14)] [44, 41, 7, 0, 1, 31, 32] (by kernel_rfl) ?_
       refine ops_mem (d := some 45) (an := [.v (.slice A8 l10.length c9)]) (evs := [.load ⟨b_w, 0, none⟩ (.slice A8 l10.length c9)]) (v := .slice A8 l10.length c9) (M' := Mem w0 (.blk b_w [.slice A8 l10.length c9, vI i13] 45 :: orow A8 l10.length c9 5 1 y11 :: Fz F W :: cs)) ⟨by kernel_rfl⟩ (fun w_ hM hS => ⟨w_, ⟨hM.cell 0 rfl rfl, rfl⟩, hM, trivial⟩) ?_
       refine oR [] [(45, .slice A8 l10.length c9), (41, vP b_w 0), (7, vI i14), (0, vP b_w 0), (1, vU v), (31, vI n), (32, vI i14)] [45, 41, 7, 0, 1, 31, 32] (by kernel_rfl) ?_
       have h60 : RepL (Rep.int .u8) F W ([0] : List Int) ([.int .u8 0]) := (RepL.cons (R := (Rep.int .u8)) (F := F) (w := W) (vs := [.int .u8 0]) (ys := []) rfl RepL.nil)
       refine ops_new (d := some 46) (o := .cells ([.int .u8 0]).toArray 5) (v := fun g61 => .slice (some ⟨g61, 0, none⟩) ([0] : List Int).length 1) (M' := fun g61 => Mem w0 (orow (some ⟨g61, 0, none⟩) ([0] : List Int).length 1 5 1 ([.int .u8 0]) :: .blk b_w [.slice A8 l10.length c9, vI i13] 45 :: orow A8 l10.length c9 5 1 y11 :: Fz F W :: cs)) (fun g61 => ⟨by kernel_rfl⟩) (fun w_ hM hS => ⟨hM.onew [.int .u8 0] 5 1 1 rfl (by decide), trivial⟩) (fun g61 => ?_)
       obtain ⟨l62, hv63, hp⟩ := obind hp
       obtain ⟨he64, hb65⟩ := app_some hv63
       obtain ⟨y66, hy67⟩ : ∃ y_, y11 ++ ([.int .u8 0]) = y_ := ⟨_, rfl⟩
       have h68 : RepL (Rep.int .u8) F W l62 y66 := by rw [he64, ← hy67]; exact RepL.app h12 h60
       refine ops_appendO (x := (Go.Operand.tmp 45)) (y := (Go.Operand.tmp 46)) (t := 22) (e := 5) (d := some 47) (n' := l62.length) (z := 1) (m := ([0] : List Int).length) (bytes := 1) (xs' := y66) (news := ([.int .u8 0])) (zv := .int .u8 0) 2 ⟨by kernel_rfl⟩ rfl rfl Try.underlying22 (by kernel_rfl) (by rfl) rfl (fun w_ hM => hM.srcO 0 rfl) h60.len h60.one hb65 (by have z_ := congrArg List.length he64; rw [List.length_append] at z_; exact z_.symm) hy67 (fun _ _ _ _ hS h' => trivial) ?_
       rintro ⟨A69, c70⟩
       refine ops_conv (l' := [(47, .slice A69 l62.length c70), (46, .slice (some ⟨g61, 0, none⟩) ([0] : List Int).length 1), (45, .slice A8 l10.length c9), (41, vP b_w 0), (7, vI i14), (0, vP b_w 0), (1, vU v), (31, vI n), (32, vI i14)]) (M' := Mem w0 (orow (some ⟨g61, 0, none⟩) ([0] : List Int).length 1 5 1 ([.int .u8 0]) :: .blk b_w [.slice A8 l10.length c9, vI i13] 45 :: orow A69 l62.length c70 5 1 y66 :: Fz F W :: cs)) rfl (fun _ h => h) ?_
       refine oR [oF 7, oF 8] [(49, vP b_w 0), (47, .slice A69 l62.length c70), (7, vI i14), (0, vP b_w 0), (1, vU v), (31, vI n), (32, vI i14)] [49, 47, 7, 0, 1, 31, 32] (by kernel_rfl) ?_
       refine ops_store (an := []) (evs := [.store ⟨b_w, 0, none⟩ (.slice A69 l62.length c70)]) (M' := Mem w0 (orow (some ⟨g61, 0, none⟩) ([0] : List Int).length 1 5 1 ([.int .u8 0]) :: .blk b_w [.slice A69 l62.length c70, vI i13] 45 :: orow A69 l62.length c70 5 1 y66 :: Fz F W :: cs)) ⟨by kernel_rfl⟩ (fun w_ hM hS => let ⟨w', he, h'⟩ := hM.evs_stores [.slice A69 l62.length c70] 1 rfl 0 (Nat.le_of_ble_eq_true rfl); ⟨w', he, h', trivial⟩) ?_
       refine oR [] [(7, vI i14), (0, vP b_w 0), (1, vU v), (31, vI n), (32, vI i14)] [7, 0, 1, 31, 32] (by kernel_rfl) ?_
       refine ops_nil ?_
       exact fin_join HJ4 (A69, c70, l62, y66) ⟨hp, h68⟩ (look_has ⟨rfl, rfl, rfl, rfl, rfl, trivial⟩) (fun w_ hM => hM.pick 4 [1, 2, 3] (by kernel_rfl) (by decide) rfl)
      · --
       have hp := cnd_f hc59 hp
       refine st_skip ?_
       exact fin_join HJ4 (A8, c9, l10, y11) ⟨hp, h12⟩ (look_has ⟨rfl, rfl, rfl, rfl, rfl, trivial⟩) (fun w_ hM => hM)
    · --
     have hp := cnd_f hc15 hp
     refine st_exit ?_
     refine fin_exit_then ?_
     refine fin_exit_then ?_
     refine fin_exit ?_
     obtain hq_ := Option.some.inj hp
     subst hq_
     obtain hq_ := hd3 _ rfl
     subst hq_
     have hp : bits_Writer_Put_j2 l10 i13 = some (i9001, l9004, i9007) := hk3
     exact fin_join HJ2 (A8, c9, l10, y11, i13) ⟨hp, h12⟩ (look_has trivial) (fun w_ hM => hM)
 · --
  intro HJ1
  refine st_seq ?_
  refine st_seq ?_
  refine st_region [oF 0, oF 1, oF 2, oF 3, oF 4, oF 5, oF 6, oF 7, oF 8, oF 9, oF 10, oF 11, oF 12, oF 13, oF 14, oF 15] (by rfl) ?_
  refine oR [oF 0, oF 1, oF 2] [(10, .bool (decide (n < 0))), (0, vP b_w 0), (1, vU v), (2, vI n)] [10, 0, 1, 2] (by kernel_rfl) ?_
  refine ops_bool (t := decide (n < 0)) (l1 := [(10, .bool true), (0, vP b_w 0), (1, vU v), (2, vI n)]) (l2 := [(10, .bool false), (0, vP b_w 0), (1, vU v), (2, vI n)]) (fun h => by rw [h]) (fun h => by rw [h]) (fun hc71 => ?_) (fun hc71 => ?_)
  · --
   have hp := cnd_t hc71 hp
   refine oR [oF 3, oF 4, oF 5, oF 6, oF 7, oF 8, oF 9, oF 10, oF 11, oF 12, oF 13, oF 14, oF 15] [(23, .bool true), (0, vP b_w 0), (1, vU v), (2, vI n)] [23, 0, 1, 2] (by kernel_rfl) ?_
   refine ops_nil ?_
   refine fin_then ?_
   refine st_true rfl ?_
   refine st_seq ?_
   refine st_region [oF 0] (by rfl) ?_
   refine oR [oF 0] [(6, vI 1)] [6] (by kernel_rfl) ?_
   refine ops_nil ?_
   refine fin_then ?_
   refine st_ret ?_
   refine fin_ret_then ?_
   have hq_ := Option.some.inj hp
   obtain ⟨hr0_, hq_⟩ := Prod.mk.inj hq_
   obtain ⟨hr1_, hq_⟩ := Prod.mk.inj hq_
   have hr2_ := hq_
   subst hr0_
   subst hr1_
   subst hr2_
   refine fin_ret [.tmp 6] [vI 1] rfl rfl (fun w_ hM => (.tmp rfl .nil)) (fun w_ hM => ?_)
   exact ⟨A_w_0, c_w_0, y_w_0, h_w_0, rfl, hM⟩
  · --
   have hp := cnd_f hc71 hp
   refine oR [oF 3, oF 4, oF 5, oF 6] [(14, .bool (decide (64 < n))), (0, vP b_w 0), (1, vU v), (2, vI n)] [14, 0, 1, 2] (by kernel_rfl) ?_
   refine ops_bool (t := decide (64 < n)) (l1 := [(14, .bool true), (0, vP b_w 0), (1, vU v), (2, vI n)]) (l2 := [(14, .bool false), (0, vP b_w 0), (1, vU v), (2, vI n)]) (fun h => by rw [h]) (fun h => by rw [h]) (fun hc72 => ?_) (fun hc72 => ?_)
   · --
    have hp := cnd_t hc72 hp
    refine oR [oF 7, oF 8, oF 9, oF 10, oF 11, oF 12, oF 13, oF 14, oF 15] [(23, .bool true), (0, vP b_w 0), (1, vU v), (2, vI n)] [23, 0, 1, 2] (by kernel_rfl) ?_
    refine ops_nil ?_
    refine fin_then ?_
    refine st_true rfl ?_
    refine st_seq ?_
    refine st_region [oF 0] (by rfl) ?_
    refine oR [oF 0] [(6, vI 1)] [6] (by kernel_rfl) ?_
    refine ops_nil ?_
    refine fin_then ?_
    refine st_ret ?_
    refine fin_ret_then ?_
    have hq_ := Option.some.inj hp
    obtain ⟨hr0_, hq_⟩ := Prod.mk.inj hq_
    obtain ⟨hr1_, hq_⟩ := Prod.mk.inj hq_
    have hr2_ := hq_
    subst hr0_
    subst hr1_
    subst hr2_
    refine fin_ret [.tmp 6] [vI 1] rfl rfl (fun w_ hM => (.tmp rfl .nil)) (fun w_ hM => ?_)
    exact ⟨A_w_0, c_w_0, y_w_0, h_w_0, rfl, hM⟩
   · --
    have hp := cnd_f hc72 hp
    refine oR [oF 7, oF 8, oF 9] [(17, .bool (decide (n < 64))), (14, .bool false), (0, vP b_w 0), (1, vU v), (2, vI n)] [17, 14, 0, 1, 2] (by kernel_rfl) ?_
    refine ops_bool (t := decide (n < 64)) (l1 := [(17, .bool true), (14, .bool false), (0, vP b_w 0), (1, vU v), (2, vI n)]) (l2 := [(17, .bool false), (14, .bool false), (0, vP b_w 0), (1, vU v), (2, vI n)]) (fun h => by rw [h]) (fun h => by rw [h]) (fun hc73 => ?_) (fun hc73 => ?_)
    · --
     have hp := cnd_t hc73 hp
     refine oR [oF 10, oF 11] [(19, vI n), (18, vU v), (17, .bool true), (14, .bool false), (0, vP b_w 0), (1, vU v), (2, vI n)] [19, 18, 17, 14, 0, 1, 2] (by kernel_rfl) ?_
     obtain ⟨x74, hv75, hp⟩ := obind hp
     obtain ⟨hb76, he77⟩ := shr_some hv75
     refine ops_val (op := (Go.Op.binOp Go.BinOp.shr 24 (Go.Operand.tmp 18) (Go.Operand.tmp 19) 3)) (d := some 20) (v := vU x74) ⟨by kernel_rfl⟩ (by rw [he77]; exact run_shr rfl rfl hb76) ?_
     refine oR [oF 13, oF 14, oF 15] [(23, .bool (!(x74 == 0))), (0, vP b_w 0), (1, vU v), (2, vI n)] [23, 0, 1, 2] (by kernel_rfl) ?_
     refine ops_nil ?_
     refine fin_then ?_
     refine st_if (b := !(x74 == 0)) rfl (fun hc78 => ?_) (fun hc78 => ?_)
     · --
      have hp := cnd_t hc78 hp
      refine st_seq ?_
      refine st_region [oF 0] (by rfl) ?_
      refine oR [oF 0] [(6, vI 1)] [6] (by kernel_rfl) ?_
      refine ops_nil ?_
      refine fin_then ?_
      refine st_ret ?_
      refine fin_ret_then ?_
      have hq_ := Option.some.inj hp
      obtain ⟨hr0_, hq_⟩ := Prod.mk.inj hq_
      obtain ⟨hr1_, hq_⟩ := Prod.mk.inj hq_
      have hr2_ := hq_
      subst hr0_
      subst hr1_
      subst hr2_
      refine fin_ret [.tmp 6] [vI 1] rfl rfl (fun w_ hM => (.tmp rfl .nil)) (fun w_ hM => ?_)
      exact ⟨A_w_0, c_w_0, y_w_0, h_w_0, rfl, hM⟩
     · --
      have hp := cnd_f hc78 hp
      refine st_skip ?_
      exact fin_join HJ1 () hp (look_has ⟨rfl, rfl, rfl, trivial⟩) (fun w_ hM => hM)
    · --
     have hp := cnd_f hc73 hp
     refine oR [oF 10, oF 11, oF 12, oF 13, oF 14, oF 15] [(23, .bool false), (0, vP b_w 0), (1, vU v), (2, vI n)] [23, 0, 1, 2] (by kernel_rfl) ?_
     refine ops_nil ?_
     refine fin_then ?_
     refine st_false rfl ?_
     refine st_skip ?_
     exact fin_join HJ1 () hp (look_has ⟨rfl, rfl, rfl, trivial⟩) (fun w_ hM => hM)
set_option maxHeartbeats 4000000 in
set_option maxRecDepth 100000 in
theorem bits_Writer_Len_ok (w0 w : World) (cs : List Chunk) (F : Nat → Prop) (W : World) (b_w : Nat) (A_w_0 : Option Addr) (c_w_0 : Nat) (w_0 : List Int) (y_w_0 : List Value) (w_1 : Int) (hM0 : Mem w0 (.blk b_w [.slice A_w_0 w_0.length c_w_0, vI w_1] 45 :: orow A_w_0 w_0.length c_w_0 5 1 y_w_0 :: Fz F W :: cs) w) (h_w_0 : RepL (Rep.int .u8) F W w_0 y_w_0) (hp : bits_Writer_Len w_0 w_1 = some ()) : Calls Try.prog 31 #[vP b_w 0] w fun e w' => ∃ (y9001 : List Value), ((RepL (Rep.int .u8) F W w_0 y9001)) ∧ e = .returned (vI w_1) ∧ Mem w0 (.blk b_w [.slice A_w_0 w_0.length c_w_0, vI w_1] 45 :: orow A_w_0 w_0.length c_w_0 5 1 y9001 :: Fz F W :: cs) w' := by
 unfold bits_Writer_Len at hp
 refine sx_calls Try.func31 rfl (n := 7) (by kernel_rfl) (l := [(0, vP b_w 0)]) rfl (by rfl) hM0 ?_
 refine st_seq ?_
 refine st_region [oF 0] (by rfl) ?_
 refine oR [oF 0] [(0, vP b_w 0)] [0] (by kernel_rfl) ?_
 refine ops_nil ?_
 refine fin_then ?_
 refine st_seq ?_
 refine st_region [oF 0, oF 1, oF 2, oF 3, oF 4] (by rfl) ?_
 refine oR [oF 0, oF 1, oF 2] [(5, vP b_w 1)] [5] (by kernel_rfl) ?_
 refine ops_mem (d := some 6) (an := [.v (vI w_1)]) (evs := [.load ⟨b_w, 1, none⟩ (vI w_1)]) (v := vI w_1) (M' := Mem w0 (.blk b_w [.slice A_w_0 w_0.length c_w_0, vI w_1] 45 :: orow A_w_0 w_0.length c_w_0 5 1 y_w_0 :: Fz F W :: cs)) ⟨by kernel_rfl⟩ (fun w_ hM hS => ⟨w_, ⟨hM.cell 0 rfl rfl, rfl⟩, hM, trivial⟩) ?_
 refine oR [oF 4] [(2, vI w_1)] [2] (by kernel_rfl) ?_
 refine ops_nil ?_
 refine fin_then ?_
 refine st_ret ?_
 refine fin_ret [.tmp 2] [vI w_1] rfl rfl (fun w_ hM => (.tmp rfl .nil)) (fun w_ hM => ?_)
 exact ⟨y_w_0, h_w_0, rfl, hM⟩
set_option maxHeartbeats 4000000 in
set_option maxRecDepth 100000 in
theorem bits_Writer_Bytes_ok (w0 w : World) (cs : List Chunk) (F : Nat → Prop) (W : World) (b_w : Nat) (A_w_0 : Option Addr) (c_w_0 : Nat) (w_0 : List Int) (y_w_0 : List Value) (w_1 : Int) (hM0 : Mem w0 (.blk b_w [.slice A_w_0 w_0.length c_w_0, vI w_1] 45 :: orow A_w_0 w_0.length c_w_0 5 1 y_w_0 :: Fz F W :: cs) w) (h_w_0 : RepL (Rep.int .u8) F W w_0 y_w_0) (l9003 : List Int) (hp : bits_Writer_Bytes w_0 w_1 = some l9003) : Calls Try.prog 33 #[vP b_w 0] w fun e w' => ∃ (A9001 : Option Addr), ∃ (c9002 : Nat), ∃ (y9004 : List Value), ∃ (y9006 : List Value), ((RepL (Rep.int .u8) F W l9003 y9004) ∧ (RepL (Rep.int .u8) F W w_0 y9006)) ∧ e = .returned (.slice A9001 l9003.length c9002) ∧ Mem w0 (orow A9001 l9003.length c9002 5 1 y9004 :: .blk b_w [.slice A_w_0 w_0.length c_w_0, vI w_1] 45 :: orow A_w_0 w_0.length c_w_0 5 1 y9006 :: Fz F W :: cs) w' := by
 unfold bits_Writer_Bytes at hp
 refine sx_calls Try.func33 rfl (n := 8) (by kernel_rfl) (l := [(0, vP b_w 0)]) rfl (by rfl) hM0 ?_
 refine st_seq ?_
 refine st_region [oF 0] (by rfl) ?_
 refine oR [oF 0] [(0, vP b_w 0)] [0] (by kernel_rfl) ?_
 refine ops_nil ?_
 refine fin_then ?_
 refine st_seq ?_
 refine st_region [oF 0, oF 1, oF 2, oF 3, oF 4, oF 5] (by rfl) ?_
 refine oR [oF 0, oF 1, oF 2] [(5, vP b_w 0)] [5] (by kernel_rfl) ?_
 refine ops_mem (d := some 6) (an := [.v (.slice A_w_0 w_0.length c_w_0)]) (evs := [.load ⟨b_w, 0, none⟩ (.slice A_w_0 w_0.length c_w_0)]) (v := .slice A_w_0 w_0.length c_w_0) (M' := Mem w0 (.blk b_w [.slice A_w_0 w_0.length c_w_0, vI w_1] 45 :: orow A_w_0 w_0.length c_w_0 5 1 y_w_0 :: Fz F W :: cs)) ⟨by kernel_rfl⟩ (fun w_ hM hS => ⟨w_, ⟨hM.cell 0 rfl rfl, rfl⟩, hM, trivial⟩) ?_
 refine oR [] [(6, .slice A_w_0 w_0.length c_w_0)] [6] (by kernel_rfl) ?_
 refine ops_conv (l' := [(6, .slice A_w_0 w_0.length c_w_0)]) (M' := Mem w0 (orow none ([] : List Int).length 0 5 1 [] :: .blk b_w [.slice A_w_0 w_0.length c_w_0, vI w_1] 45 :: orow A_w_0 w_0.length c_w_0 5 1 y_w_0 :: Fz F W :: cs)) rfl (fun w_ h => h.onil none 5 1) ?_
 obtain ⟨l1, hv2, hp⟩ := obind hp
 obtain ⟨he3, hb4⟩ := app_some hv2
 obtain ⟨y5, hy6⟩ : ∃ y_, [] ++ y_w_0 = y_ := ⟨_, rfl⟩
 have h7 : RepL (Rep.int .u8) F W l1 y5 := by rw [he3, ← hy6]; exact RepL.app (RepL.nil (R := (Rep.int .u8))) h_w_0
 refine ops_appendO (x := (Go.Operand.const (Go.Value.slice none 0 0))) (y := (Go.Operand.tmp 6)) (t := 22) (e := 5) (d := some 7) (n' := l1.length) (z := 1) (m := w_0.length) (bytes := 1) (xs' := y5) (news := y_w_0) (zv := .int .u8 0) 0 ⟨by kernel_rfl⟩ rfl rfl Try.underlying22 (by kernel_rfl) (by rfl) rfl (fun w_ hM => hM.srcO 2 rfl) h_w_0.len h_w_0.one hb4 (by have z_ := congrArg List.length he3; rw [List.length_append] at z_; exact z_.symm) hy6 (fun _ _ _ _ hS h' => trivial) ?_
 rintro ⟨A8, c9⟩
 refine ops_conv (l' := [(7, .slice A8 l1.length c9), (6, .slice A_w_0 w_0.length c_w_0)]) (M' := Mem w0 (orow A8 l1.length c9 5 1 y5 :: .blk b_w [.slice A_w_0 w_0.length c_w_0, vI w_1] 45 :: orow A_w_0 w_0.length c_w_0 5 1 y_w_0 :: Fz F W :: cs)) rfl (fun _ h => h) ?_
 refine oR [oF 5] [(2, .slice A8 l1.length c9)] [2] (by kernel_rfl) ?_
 refine ops_nil ?_
 refine fin_then ?_
 refine st_ret ?_
 have hq_ := Option.some.inj hp
 have hr0_ := hq_
 subst hr0_
 refine fin_ret [.tmp 2] [.slice A8 l1.length c9] rfl rfl (fun w_ hM => (.tmp rfl .nil)) (fun w_ hM => ?_)
 exact ⟨A8, c9, y5, y_w_0, ⟨h7, h_w_0⟩, rfl, hM⟩
end Go.Proofs.Ytfihfbkjomploaa.X
