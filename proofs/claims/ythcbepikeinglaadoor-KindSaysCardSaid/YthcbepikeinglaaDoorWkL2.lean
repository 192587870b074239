/- The Go functions come to what the plain functions tell. No condition. -/
import Derived.Test.YthcbepikeinglaaDoorProg
import Derived.Test.YthcbepikeinglaaDoorFnL
import Derived.Test.YthcbepikeinglaaDoorWkL0
import Derived.Test.YthcbepikeinglaaDoorWkL1
namespace Go.Proofs.YthcbepikeinglaaDoor.L
open Go Go.RowKit Go.Proofs.YthcbepikeinglaaDoor.Sx
set_option linter.unusedVariables false
set_option maxHeartbeats 4000000 in
set_option maxRecDepth 100000 in
theorem kind_Fit_ok (w0 w : World) (cs : List Chunk) (F : Nat → Prop) (W : World) (k_0 : ByteArray) (A_k_1 : Option Addr) (c_k_1 : Nat) (k_1 : List api_Field) (A_vals : Option Addr) (c_vals : Nat) (vals : List Int) (hM0 : Mem w0 (Fz F W :: cs) w) (h_k_1 : RdS R_api_Field F W A_k_1 c_k_1 k_1) (h_vals : RdS (Rep.int .i64) F W A_vals c_vals vals) (l9003 : List Int) (i9006 : Int) (hp : kind_Fit k_0 k_1 vals = some (l9003, i9006)) : Calls Tryd.prog 14 #[.agg #[.string k_0, .slice A_k_1 k_1.length c_k_1], .slice A_vals vals.length c_vals] w fun e w' => ∃ (A9001 : Option Addr), ∃ (c9002 : Nat), ∃ (y9004 : List Value), ((RepL (Rep.int .i64) F W l9003 y9004)) ∧ e = .returned (.tuple #[.slice A9001 l9003.length c9002, vI i9006]) ∧ Mem w0 (orow A9001 l9003.length c9002 3 1 y9004 :: Fz F W :: cs) w' := by
 unfold kind_Fit at hp
 refine sx_calls Tryd.func14 rfl (n := 43) (by kernel_rfl) (l := [(0, .agg #[.string k_0, .slice A_k_1 k_1.length c_k_1]), (1, .slice A_vals vals.length c_vals)]) rfl (by rfl) hM0 ?_
 refine st_seq ?_
 refine st_region [oF 0, oF 1, oF 2] (by rfl) ?_
 refine ops_new (d := some 2) (o := .cells #[.string k_0, .slice A_k_1 k_1.length c_k_1] 27) (v := fun b1 => vP b1 0) (M' := fun b1 => Mem w0 (.blk b1 [.string k_0, .slice A_k_1 k_1.length c_k_1] 27 :: Fz F W :: cs)) (fun b1 => ⟨by kernel_rfl⟩) (fun w_ hM hS => ⟨hM.blk [.string k_0, .slice A_k_1 k_1.length c_k_1] 27, trivial⟩) (fun b1 => ?_)
 refine oR [oF 1, oF 2] [(2, vP b1 0), (1, .slice A_vals vals.length c_vals)] [2, 1] (by kernel_rfl) ?_
 refine ops_nil ?_
 refine fin_then ?_
 refine st_seq ?_
 refine st_seq ?_
 refine st_region [oF 0, oF 1, oF 2] (by rfl) ?_
 refine ops_mem (d := some 10) (an := [.v (.string k_0), .v (.slice A_k_1 k_1.length c_k_1)]) (evs := [.load ⟨b1, 0, none⟩ (.string k_0), .load ⟨b1, 1, none⟩ (.slice A_k_1 k_1.length c_k_1)]) (v := .agg #[.string k_0, .slice A_k_1 k_1.length c_k_1]) (M' := Mem w0 (.blk b1 [.string k_0, .slice A_k_1 k_1.length c_k_1] 27 :: Fz F W :: cs)) ⟨by kernel_rfl⟩ (fun w_ hM hS => ⟨w_, ⟨hM.cell 0 rfl rfl, hM.cell 0 rfl rfl, rfl⟩, hM, trivial⟩) ?_
 obtain ⟨x2, hv3, hp⟩ := obind hp
 refine ops_callI (σ := Unit) (d := some 11) (f := 20) (args := #[.agg #[.string k_0, .slice A_k_1 k_1.length c_k_1]]) (v := (fun _ => vI x2)) (I := (fun _ => True)) (M' := (fun _ => Mem w0 (.blk b1 [.string k_0, .slice A_k_1 k_1.length c_k_1] 27 :: Fz F W :: cs))) ⟨by kernel_rfl⟩ (fun w_ hM hS => (kind_One_ok w0 w_ (.blk b1 [.string k_0, .slice A_k_1 k_1.length c_k_1] 27 :: cs) F W k_0 A_k_1 c_k_1 k_1 (hM.pick 2 [1, 0] (by kernel_rfl) (by decide) rfl) h_k_1 x2 hv3).mono (by rintro e w' ⟨-, rfl, h'⟩; have h' : Mem w0 (.blk b1 [.string k_0, .slice A_k_1 k_1.length c_k_1] 27 :: Fz F W :: cs) w' := (h'.pick 2 [1, 0] (by kernel_rfl) (by decide) rfl); exact ⟨(), trivial, rfl, h', trivial⟩)) ?_
 rintro _ -
 refine ops_conv (l' := [(11, vI x2), (10, .agg #[.string k_0, .slice A_k_1 k_1.length c_k_1]), (2, vP b1 0), (1, .slice A_vals vals.length c_vals)]) (M' := Mem w0 (.blk b1 [.string k_0, .slice A_k_1 k_1.length c_k_1] 27 :: Fz F W :: cs)) rfl (fun _ h => h) ?_
 refine oR [oF 2] [(6, vI x2), (2, vP b1 0), (1, .slice A_vals vals.length c_vals)] [6, 2, 1] (by kernel_rfl) ?_
 refine ops_nil ?_
 refine fin_then ?_
 refine st_seq ?_
 refine st_region [oF 0, oF 1] (by rfl) ?_
 refine oR [oF 0, oF 1] [(13, .bool (!(x2 == 0))), (6, vI x2), (2, vP b1 0), (1, .slice A_vals vals.length c_vals)] [13, 6, 2, 1] (by kernel_rfl) ?_
 refine ops_nil ?_
 refine fin_then ?_
 refine st_if (b := !(x2 == 0)) rfl (fun hc4 => ?_) (fun hc4 => ?_)
 · --
  have hp := cnd_t hc4 hp
  refine st_seq ?_
  refine st_region [oF 0, oF 1, oF 2] (by rfl) ?_
  refine oR [oF 0, oF 1, oF 2] [(5, vI x2), (4, .slice none 0 0)] [5, 4] (by kernel_rfl) ?_
  refine ops_nil ?_
  refine fin_then ?_
  refine st_ret ?_
  refine fin_ret_then ?_
  refine fin_conv (l' := [(5, vI x2), (4, .slice none 0 0)]) (M' := Mem w0 (orow none ([] : List Int).length 0 3 1 [] :: .blk b1 [.string k_0, .slice A_k_1 k_1.length c_k_1] 27 :: Fz F W :: cs)) rfl (fun w_ h => h.onil none 3 1) ?_
  refine fin_conv (l' := [(5, vI x2), (4, .slice none ([] : List Int).length 0)]) (M' := Mem w0 (orow none ([] : List Int).length 0 3 1 [] :: .blk b1 [.string k_0, .slice A_k_1 k_1.length c_k_1] 27 :: Fz F W :: cs)) rfl (fun _ h => h) ?_
  have hq_ := Option.some.inj hp
  obtain ⟨hr0_, hq_⟩ := Prod.mk.inj hq_
  have hr1_ := hq_
  subst hr0_
  subst hr1_
  refine fin_ret [.tmp 4, .tmp 5] [.slice none ([] : List Int).length 0, vI x2] rfl rfl (fun w_ hM => (.tmp rfl (.tmp rfl .nil))) (fun w_ hM => ?_)
  exact ⟨none, 0, [], (RepL.nil (R := (Rep.int .i64))), rfl, hM.pick 3 [0, 2] (by kernel_rfl) (by decide) rfl⟩
 · --
  have hp := cnd_f hc4 hp
  refine st_skip ?_
  refine fin_then ?_
  refine st_seq ?_
  refine st_seq ?_
  refine st_region [oF 0, oF 1, oF 2, oF 3, oF 4, oF 5] (by rfl) ?_
  refine oR [oF 0, oF 1, oF 2] [(17, vP b1 1), (16, vI (vals.length : Int)), (2, vP b1 0), (1, .slice A_vals vals.length c_vals)] [17, 16, 2, 1] (by kernel_rfl) ?_
  refine ops_mem (d := some 18) (an := [.v (.slice A_k_1 k_1.length c_k_1)]) (evs := [.load ⟨b1, 1, none⟩ (.slice A_k_1 k_1.length c_k_1)]) (v := .slice A_k_1 k_1.length c_k_1) (M' := Mem w0 (.blk b1 [.string k_0, .slice A_k_1 k_1.length c_k_1] 27 :: Fz F W :: cs)) ⟨by kernel_rfl⟩ (fun w_ hM hS => ⟨w_, ⟨hM.cell 0 rfl rfl, rfl⟩, hM, trivial⟩) ?_
  refine oR [oF 4, oF 5] [(20, .bool (!((vals.length : Int) == (k_1.length : Int)))), (2, vP b1 0), (1, .slice A_vals vals.length c_vals)] [20, 2, 1] (by kernel_rfl) ?_
  refine ops_nil ?_
  refine fin_then ?_
  refine st_if (b := !((vals.length : Int) == (k_1.length : Int))) rfl (fun hc5 => ?_) (fun hc5 => ?_)
  · --
   have hp := cnd_t hc5 hp
   refine st_seq ?_
   refine st_region [oF 0, oF 1] (by rfl) ?_
   refine oR [oF 0, oF 1] [(5, vI 1), (4, .slice none 0 0)] [5, 4] (by kernel_rfl) ?_
   refine ops_nil ?_
   refine fin_then ?_
   refine st_ret ?_
   refine fin_ret_then ?_
   refine fin_conv (l' := [(5, vI 1), (4, .slice none 0 0)]) (M' := Mem w0 (orow none ([] : List Int).length 0 3 1 [] :: .blk b1 [.string k_0, .slice A_k_1 k_1.length c_k_1] 27 :: Fz F W :: cs)) rfl (fun w_ h => h.onil none 3 1) ?_
   refine fin_conv (l' := [(5, vI 1), (4, .slice none ([] : List Int).length 0)]) (M' := Mem w0 (orow none ([] : List Int).length 0 3 1 [] :: .blk b1 [.string k_0, .slice A_k_1 k_1.length c_k_1] 27 :: Fz F W :: cs)) rfl (fun _ h => h) ?_
   have hq_ := Option.some.inj hp
   obtain ⟨hr0_, hq_⟩ := Prod.mk.inj hq_
   have hr1_ := hq_
   subst hr0_
   subst hr1_
   refine fin_ret [.tmp 4, .tmp 5] [.slice none ([] : List Int).length 0, vI 1] rfl rfl (fun w_ hM => (.tmp rfl (.tmp rfl .nil))) (fun w_ hM => ?_)
   exact ⟨none, 0, [], (RepL.nil (R := (Rep.int .i64))), rfl, hM.pick 3 [0, 2] (by kernel_rfl) (by decide) rfl⟩
  · --
   have hp := cnd_f hc5 hp
   refine st_skip ?_
   refine fin_then ?_
   refine st_seq ?_
   refine st_region [oF 0, oF 1, oF 2, oF 3] (by rfl) ?_
   refine oR [oF 0, oF 1] [(22, vI (vals.length : Int)), (2, vP b1 0), (1, .slice A_vals vals.length c_vals)] [22, 2, 1] (by kernel_rfl) ?_
   obtain ⟨l6, hv7, hp⟩ := obind hp
   obtain ⟨m8, hm9, he10, hb11⟩ := mk_some hv7
   have hl12 : l6.length = m8 := by rw [he10, List.length_replicate]
   obtain ⟨y13, hy14⟩ : ∃ y_, (Sx.madeOf [vI 0] (l6.length * 1)).toList = y_ := ⟨_, rfl⟩
   have h15 : RepL (Rep.int .i64) F W l6 y13 := by rw [← hy14, hl12, he10]; exact RepL.made rfl (by decide) _
   refine ops_makeO (t := 33) (x := (Go.Operand.tmp 22)) (y := (Go.Operand.tmp 22)) (d := some 23) (nn := l6.length) (z := 1) (bytes := 8) (xs := y13) (zv := vI 0) ⟨by kernel_rfl⟩ rfl rfl (by rw [hl12]; exact hm9) (by rw [hl12]; exact hm9) Tryd.underlying33 (by kernel_rfl) (by rw [hl12]; exact hb11) (by rfl) hy14 (fun _ _ _ hS h' => trivial) (fun g16 => ?_)
   refine oR [oF 3] [(7, .slice (some ⟨g16, 0, none⟩) l6.length l6.length), (2, vP b1 0), (1, .slice A_vals vals.length c_vals)] [7, 2, 1] (by kernel_rfl) ?_
   refine ops_nil ?_
   refine fin_then ?_
   refine st_join1 (σ := (List Int) × (List Value)) (L := fun x_ => match x_ with | (l17, y18) => [(7, .slice (some ⟨g16, 0, none⟩) l17.length l6.length)]) (N := fun x_ => match x_ with | (l17, y18) => Mem w0 (orow (some ⟨g16, 0, none⟩) l17.length l6.length 3 1 y18 :: Fz F W :: cs)) (I := fun x_ => match x_ with | (l17, y18) => (kind_Fit_j1 l17 = some (l9003, i9006)) ∧ (RepL (Rep.int .i64) F W l17 y18)) ?_ ?_
   · --
    rintro ⟨l17, y18⟩ ⟨hp, h19⟩
    refine st_conv (l' := [(7, .slice (some ⟨g16, 0, none⟩) l17.length l6.length)]) (M' := Mem w0 (orow (some ⟨g16, 0, none⟩) l17.length l6.length 3 1 y18 :: Fz F W :: cs)) rfl (fun _ h => h) ?_
    unfold kind_Fit_j1 at hp
    refine st_seq ?_
    refine st_region [oF 0, oF 1, oF 2] (by rfl) ?_
    refine oR [oF 0, oF 1, oF 2] [(5, vI 0), (4, .slice (some ⟨g16, 0, none⟩) l17.length l6.length)] [5, 4] (by kernel_rfl) ?_
    refine ops_nil ?_
    refine fin_then ?_
    refine st_ret ?_
    have hq_ := Option.some.inj hp
    obtain ⟨hr0_, hq_⟩ := Prod.mk.inj hq_
    have hr1_ := hq_
    subst hr0_
    subst hr1_
    refine fin_ret [.tmp 4, .tmp 5] [.slice (some ⟨g16, 0, none⟩) l17.length l6.length, vI 0] rfl rfl (fun w_ hM => (.tmp rfl (.tmp rfl .nil))) (fun w_ hM => ?_)
    exact ⟨(some ⟨g16, 0, none⟩), l6.length, y18, h19, rfl, hM⟩
   · --
    intro HJ1
    refine st_seq ?_
    refine st_seq ?_
    refine st_region [oF 0, oF 1, oF 2, oF 3] (by rfl) ?_
    refine oR [oF 0] [(24, vP b1 1), (7, .slice (some ⟨g16, 0, none⟩) l6.length l6.length), (1, .slice A_vals vals.length c_vals)] [24, 7, 1] (by kernel_rfl) ?_
    refine ops_mem (d := some 25) (an := [.v (.slice A_k_1 k_1.length c_k_1)]) (evs := [.load ⟨b1, 1, none⟩ (.slice A_k_1 k_1.length c_k_1)]) (v := .slice A_k_1 k_1.length c_k_1) (M' := Mem w0 (orow (some ⟨g16, 0, none⟩) l6.length l6.length 3 1 y13 :: .blk b1 [.string k_0, .slice A_k_1 k_1.length c_k_1] 27 :: Fz F W :: cs)) ⟨by kernel_rfl⟩ (fun w_ hM hS => ⟨w_, ⟨hM.cell 1 rfl rfl, rfl⟩, hM, trivial⟩) ?_
    refine oR [oF 2, oF 3] [(27, vI 0), (26, vI (k_1.length : Int)), (25, .slice A_k_1 k_1.length c_k_1), (7, .slice (some ⟨g16, 0, none⟩) l6.length l6.length), (1, .slice A_vals vals.length c_vals)] [27, 26, 25, 7, 1] (by kernel_rfl) ?_
    refine ops_nil ?_
    refine fin_then ?_
    refine st_block ?_
    obtain ⟨r2, hl2, hk2⟩ := obind hp
    refine st_loopP (σ := (List Int) × Int) (ρ := (List Int)) (γ := (List Value)) hl2 y13 (fun s_ g_ => match s_, g_ with | (l20, i23), y21 => [(1, .slice A_vals vals.length c_vals), (7, .slice (some ⟨g16, 0, none⟩) l20.length l6.length), (25, .slice A_k_1 k_1.length c_k_1), (26, vI (k_1.length : Int)), (27, vI i23)]) (fun s_ g_ => match s_, g_ with | (l20, i23), y21 => Mem w0 (orow (some ⟨g16, 0, none⟩) l20.length l6.length 3 1 y21 :: Fz F W :: cs)) (fun s_ g_ => match s_, g_ with | (l20, i23), y21 => (RepL (Rep.int .i64) F W l20 y21)) h15 (look_has ⟨rfl, rfl, rfl, rfl, rfl, trivial⟩) (fun w_ hM => hM.pick 3 [0, 2] (by kernel_rfl) (by decide) rfl) ?_
    rintro ⟨l20, i23⟩ y21 o2 h22 hs_ hd2
    have hp : (kind_Fit_l2 k_1 vals) l20 i23 = some o2 := hs_
    clear hs_
    unfold kind_Fit_l2 at hp
    refine st_conv (l' := [(1, .slice A_vals vals.length c_vals), (7, .slice (some ⟨g16, 0, none⟩) l20.length l6.length), (25, .slice A_k_1 k_1.length c_k_1), (26, vI (k_1.length : Int)), (27, vI i23)]) (M' := Mem w0 (orow (some ⟨g16, 0, none⟩) l20.length l6.length 3 1 y21 :: Fz F W :: cs)) rfl (fun _ h => h) ?_
    refine st_seq ?_
    refine st_region [oF 0] (by rfl) ?_
    refine oR [oF 0] [(28, .bool (decide (i23 < (k_1.length : Int)))), (1, .slice A_vals vals.length c_vals), (7, .slice (some ⟨g16, 0, none⟩) l20.length l6.length), (25, .slice A_k_1 k_1.length c_k_1), (26, vI (k_1.length : Int)), (27, vI i23)] [28, 1, 7, 25, 26, 27] (by kernel_rfl) ?_
    refine ops_nil ?_
    refine fin_then ?_
    refine st_seq ?_
    refine st_if (b := decide (i23 < (k_1.length : Int))) rfl (fun hc24 => ?_) (fun hc24 => ?_)
    · --
     have hp := cnd_t hc24 hp
     refine st_skip ?_
     refine fin_then ?_
     refine st_seq ?_
     refine st_block ?_
     refine st_seq ?_
     refine st_region [oF 0, oF 1, oF 2, oF 3, oF 4, oF 5] (by rfl) ?_
     refine oR [oF 0] [(29, vI i23), (1, .slice A_vals vals.length c_vals), (7, .slice (some ⟨g16, 0, none⟩) l20.length l6.length), (25, .slice A_k_1 k_1.length c_k_1), (26, vI (k_1.length : Int)), (27, vI i23)] [29, 1, 7, 25, 26, 27] (by kernel_rfl) ?_
     obtain ⟨x25, hv26, hp⟩ := obind hp
     obtain ⟨m27, hm28, hx29⟩ := idx_some hv26
     have hl32 := (List.getElem?_eq_some_iff.1 hx29).1
     obtain ⟨ad33, vs30, hA34, hr31, hq35⟩ := RdS.el h_k_1 hx29
     obtain rfl := dec_api_Field hr31
     refine ops_val (op := (Go.Op.indexAddr 25 (Go.Operand.tmp 25) (Go.Operand.tmp 27))) (d := some 30) (v := .pointer (some (ad33.add (m27 * 3)))) ⟨by kernel_rfl⟩ (run_indexA hA34 Tryd.underlying25 (z := 3) (by kernel_rfl) rfl rfl hm28 hl32) ?_
     refine ops_mem (d := some 31) (an := [.v (.string x25.Name), .v (vI x25.Bits), .v (vI x25.Low)]) (evs := [.load (ad33.add (m27 * 3)) (.string x25.Name), .load ((ad33.add (m27 * 3)).add 1) (vI x25.Bits), .load ((ad33.add (m27 * 3)).add 2) (vI x25.Low)]) (v := .agg #[.string x25.Name, vI x25.Bits, vI x25.Low]) (M' := Mem w0 (orow (some ⟨g16, 0, none⟩) l20.length l6.length 3 1 y21 :: Fz F W :: cs)) ⟨by kernel_rfl⟩ (fun w_ hM hS => ⟨w_, ⟨hM.elcell 1 rfl hq35 0 rfl, hM.elcell 1 rfl hq35 1 rfl, hM.elcell 1 rfl hq35 2 rfl, rfl⟩, hM, trivial⟩) ?_
     refine oR [] [(31, .agg #[.string x25.Name, vI x25.Bits, vI x25.Low]), (29, vI i23), (1, .slice A_vals vals.length c_vals), (7, .slice (some ⟨g16, 0, none⟩) l20.length l6.length), (25, .slice A_k_1 k_1.length c_k_1), (26, vI (k_1.length : Int)), (27, vI i23)] [31, 29, 1, 7, 25, 26, 27] (by kernel_rfl) ?_
     refine ops_new (d := some 9) (o := .cells #[.string ByteArray.empty, vI 0, vI 0] 23) (v := fun b36 => vP b36 0) (M' := fun b36 => Mem w0 (.blk b36 [.string ByteArray.empty, vI 0, vI 0] 23 :: orow (some ⟨g16, 0, none⟩) l20.length l6.length 3 1 y21 :: Fz F W :: cs)) (fun b36 => ⟨by kernel_rfl⟩) (fun w_ hM hS => ⟨hM.blk [.string ByteArray.empty, vI 0, vI 0] 23, trivial⟩) (fun b36 => ?_)
     refine oR [oF 4] [(8, vI i23), (9, vP b36 0), (31, .agg #[.string x25.Name, vI x25.Bits, vI x25.Low]), (1, .slice A_vals vals.length c_vals), (7, .slice (some ⟨g16, 0, none⟩) l20.length l6.length), (25, .slice A_k_1 k_1.length c_k_1), (26, vI (k_1.length : Int)), (27, vI i23)] [8, 9, 31, 1, 7, 25, 26, 27] (by kernel_rfl) ?_
     refine ops_store (an := []) (evs := [.store ⟨b36, 0, none⟩ (.string x25.Name), .store ⟨b36, 1, none⟩ (vI x25.Bits), .store ⟨b36, 2, none⟩ (vI x25.Low)]) (M' := Mem w0 (.blk b36 [.string x25.Name, vI x25.Bits, vI x25.Low] 23 :: orow (some ⟨g16, 0, none⟩) l20.length l6.length 3 1 y21 :: Fz F W :: cs)) ⟨by kernel_rfl⟩ (fun w_ hM hS => let ⟨w', he, h'⟩ := hM.evs_stores [.string x25.Name, vI x25.Bits, vI x25.Low] 0 rfl 0 (Nat.le_of_ble_eq_true rfl); ⟨w', he, h', trivial⟩) ?_
     refine oR [] [(8, vI i23), (9, vP b36 0), (1, .slice A_vals vals.length c_vals), (7, .slice (some ⟨g16, 0, none⟩) l20.length l6.length), (25, .slice A_k_1 k_1.length c_k_1), (26, vI (k_1.length : Int)), (27, vI i23)] [8, 9, 1, 7, 25, 26, 27] (by kernel_rfl) ?_
     refine ops_nil ?_
     refine fin_then ?_
     refine st_region_draw [oT 0, oT 1, oT 2, oT 3, oT 4, oT 5, oT 6, oF 7, oT 8, oF 9] (Mem w0 (.blk b36 [.string x25.Name, vI x25.Bits, vI x25.Low] 23 :: Fz F W :: cs)) (by kernel_rfl) (by kernel_rfl) (by kernel_rfl) (fun _ d _ _ _ h => by cases d <;> exact h) (M' := Mem w0 (.blk b36 [.string x25.Name, vI x25.Bits, vI x25.Low] 23 :: orow (some ⟨g16, 0, none⟩) l20.length l6.length 3 1 y21 :: Fz F W :: cs)) (fun w_ hM => ⟨hM.drew, hM.drew.sub (.cons_cons _ (.cons _ (.cons_cons _ (.refl _))))⟩) ?_
     refine oR [oT 0, oT 1] [(33, vI i23), (32, .slice (some ⟨g16, 0, none⟩) l20.length l6.length), (8, vI i23), (9, vP b36 0), (1, .slice A_vals vals.length c_vals), (7, .slice (some ⟨g16, 0, none⟩) l20.length l6.length), (25, .slice A_k_1 k_1.length c_k_1), (26, vI (k_1.length : Int)), (27, vI i23)] [33, 32, 8, 9, 1, 7, 25, 26, 27] (by kernel_rfl) ?_
     refine ops_load (d := some 34) (an := [.v (.string x25.Name), .v (vI x25.Bits), .v (vI x25.Low)]) (evs := [.load ⟨b36, 0, none⟩ (.string x25.Name), .load ⟨b36, 1, none⟩ (vI x25.Bits), .load ⟨b36, 2, none⟩ (vI x25.Low)]) (v := .agg #[.string x25.Name, vI x25.Bits, vI x25.Low]) ⟨by kernel_rfl⟩ (fun w_ hM => ⟨hM.cell 0 rfl rfl, hM.cell 0 rfl rfl, hM.cell 0 rfl rfl, rfl⟩) ?_
     refine oR [oT 3, oT 4] [(36, vI i23), (35, .slice A_vals vals.length c_vals), (34, .agg #[.string x25.Name, vI x25.Bits, vI x25.Low]), (33, vI i23), (32, .slice (some ⟨g16, 0, none⟩) l20.length l6.length), (1, .slice A_vals vals.length c_vals), (7, .slice (some ⟨g16, 0, none⟩) l20.length l6.length), (25, .slice A_k_1 k_1.length c_k_1), (26, vI (k_1.length : Int)), (27, vI i23)] [36, 35, 34, 33, 32, 1, 7, 25, 26, 27] (by kernel_rfl) ?_
     obtain ⟨x37, hv38, hp⟩ := obind hp
     obtain ⟨m39, hm40, hx41⟩ := idx_some hv38
     have hl44 := (List.getElem?_eq_some_iff.1 hx41).1
     obtain ⟨ad45, vs42, hA46, hr43, hq47⟩ := RdS.el h_vals hx41
     obtain rfl := hr43
     refine ops_val (op := (Go.Op.indexAddr 33 (Go.Operand.tmp 35) (Go.Operand.tmp 36))) (d := some 37) (v := .pointer (some (ad45.add (m39 * 1)))) ⟨by kernel_rfl⟩ (run_indexA hA46 Tryd.underlying33 (z := 1) (by kernel_rfl) rfl rfl hm40 hl44) ?_
     refine oR [] [(37, .pointer (some (ad45.add (m39 * 1)))), (34, .agg #[.string x25.Name, vI x25.Bits, vI x25.Low]), (33, vI i23), (32, .slice (some ⟨g16, 0, none⟩) l20.length l6.length), (1, .slice A_vals vals.length c_vals), (7, .slice (some ⟨g16, 0, none⟩) l20.length l6.length), (25, .slice A_k_1 k_1.length c_k_1), (26, vI (k_1.length : Int)), (27, vI i23)] [37, 34, 33, 32, 1, 7, 25, 26, 27] (by kernel_rfl) ?_
     refine ops_load (d := some 38) (an := [.v (vI x37)]) (evs := [.load (ad45.add (m39 * 1)) (vI x37)]) (v := vI x37) ⟨by kernel_rfl⟩ (fun w_ hM => ⟨hM.elcell 1 rfl hq47 0 rfl, rfl⟩) ?_
     refine oR [] [(38, vI x37), (34, .agg #[.string x25.Name, vI x25.Bits, vI x25.Low]), (33, vI i23), (32, .slice (some ⟨g16, 0, none⟩) l20.length l6.length), (1, .slice A_vals vals.length c_vals), (7, .slice (some ⟨g16, 0, none⟩) l20.length l6.length), (25, .slice A_k_1 k_1.length c_k_1), (26, vI (k_1.length : Int)), (27, vI i23)] [38, 34, 33, 32, 1, 7, 25, 26, 27] (by kernel_rfl) ?_
     obtain ⟨x48, hv49, hp⟩ := obind hp
     refine ops_callI (σ := Unit) (d := some 39) (f := 12) (args := #[.agg #[.string x25.Name, vI x25.Bits, vI x25.Low], vI x37]) (v := (fun _ => vI x48)) (I := (fun _ => True)) (M' := (fun _ => Mem w0 (.blk b36 [.string x25.Name, vI x25.Bits, vI x25.Low] 23 :: orow (some ⟨g16, 0, none⟩) l20.length l6.length 3 1 y21 :: Fz F W :: cs))) ⟨by kernel_rfl⟩ (fun w_ hM hS => (kind_Near_ok w0 w_ (.blk b36 [.string x25.Name, vI x25.Bits, vI x25.Low] 23 :: orow (some ⟨g16, 0, none⟩) l20.length l6.length 3 1 y21 :: cs) F W x25.Name x25.Bits x25.Low x37 (hM.pick 3 [2, 0, 1] (by kernel_rfl) (by decide) rfl)  x48 hv49).mono (by rintro e w' ⟨-, rfl, h'⟩; have h' : Mem w0 (.blk b36 [.string x25.Name, vI x25.Bits, vI x25.Low] 23 :: orow (some ⟨g16, 0, none⟩) l20.length l6.length 3 1 y21 :: Fz F W :: cs) w' := (h'.pick 3 [1, 2, 0] (by kernel_rfl) (by decide) rfl); exact ⟨(), trivial, rfl, h', (by exact h'.sub (.cons_cons _ (.cons _ (.cons_cons _ (.refl _)))))⟩)) ?_
     rintro _ -
     refine ops_conv (l' := [(39, vI x48), (38, vI x37), (34, .agg #[.string x25.Name, vI x25.Bits, vI x25.Low]), (33, vI i23), (32, .slice (some ⟨g16, 0, none⟩) l20.length l6.length), (1, .slice A_vals vals.length c_vals), (7, .slice (some ⟨g16, 0, none⟩) l20.length l6.length), (25, .slice A_k_1 k_1.length c_k_1), (26, vI (k_1.length : Int)), (27, vI i23)]) (M' := Mem w0 (.blk b36 [.string x25.Name, vI x25.Bits, vI x25.Low] 23 :: orow (some ⟨g16, 0, none⟩) l20.length l6.length 3 1 y21 :: Fz F W :: cs)) rfl (fun _ h => h) ?_
     refine oR [] [(39, vI x48), (33, vI i23), (32, .slice (some ⟨g16, 0, none⟩) l20.length l6.length), (1, .slice A_vals vals.length c_vals), (7, .slice (some ⟨g16, 0, none⟩) l20.length l6.length), (25, .slice A_k_1 k_1.length c_k_1), (26, vI (k_1.length : Int)), (27, vI i23)] [39, 33, 32, 1, 7, 25, 26, 27] (by kernel_rfl) ?_
     obtain ⟨x50, hv51, hp⟩ := obind hp
     obtain ⟨m52, hm53, hx54⟩ := idx_some hv51
     have hl57 := (List.getElem?_eq_some_iff.1 hx54).1
     obtain ⟨vs55, hr56, hq58⟩ := h22.at_ m52 x50 hx54
     obtain rfl := hr56
     refine ops_val (op := (Go.Op.indexAddr 33 (Go.Operand.tmp 32) (Go.Operand.tmp 33))) (d := some 40) (v := vP g16 (m52 * 1)) ⟨by kernel_rfl⟩ (run_indexRow Tryd.underlying33 (z := 1) (by kernel_rfl) rfl rfl hm53 hl57 rfl) ?_
     refine oR [] [(40, vP g16 (m52 * 1)), (39, vI x48), (1, .slice A_vals vals.length c_vals), (7, .slice (some ⟨g16, 0, none⟩) l20.length l6.length), (25, .slice A_k_1 k_1.length c_k_1), (26, vI (k_1.length : Int)), (27, vI i23)] [40, 39, 1, 7, 25, 26, 27] (by kernel_rfl) ?_
     obtain ⟨l59, hv60, hp⟩ := obind hp
     obtain ⟨m61, hm62, hl63, he64⟩ := upd_some hv60
     obtain rfl : m52 = m61 := by have := hm53; omega
     have hl65 : l20.length = l59.length := by rw [he64, List.length_set]
     obtain ⟨y66, hy67⟩ : ∃ y_, setAll y21 (m52 * 1 + 0) [vI x48] = y_ := ⟨_, rfl⟩
     have h68 : RepL (Rep.int .i64) F W l59 y66 := by rw [he64, ← hy67]; exact RepL.set h22 (List.getElem?_eq_getElem hl63) (fun vs_ hr_ _ => by obtain rfl := hr_; exact ⟨rfl, Nat.le_of_ble_eq_true rfl⟩)
     refine ops_store (an := []) (evs := [.store ⟨g16, m52 * 1, none⟩ (vI x48)]) (M' := Mem w0 (.blk b36 [.string x25.Name, vI x25.Bits, vI x25.Low] 23 :: orow (some ⟨g16, 0, none⟩) l59.length l6.length 3 1 y66 :: Fz F W :: cs)) ⟨by kernel_rfl⟩ (fun w_ hM hS => let ⟨w', he, h'⟩ := hM.ostore' 1 rfl (m52 * 1 + 0) [vI x48] (by have z_ : y21.length = l20.length * 1 := h22.len; have y_ : (m52 + 1) * 1 ≤ l20.length * 1 := Nat.mul_le_mul_right _ hl63; rw [Nat.add_mul] at y_; simp only [List.length_cons, List.length_nil]; omega) hl65 hy67; ⟨w', he, h', (by exact h'.sub (.cons_cons _ (.cons _ (.cons_cons _ (.refl _)))))⟩) ?_
     refine ops_conv (l' := [(40, vP g16 (m52 * 1)), (39, vI x48), (1, .slice A_vals vals.length c_vals), (7, .slice (some ⟨g16, 0, none⟩) l59.length l6.length), (25, .slice A_k_1 k_1.length c_k_1), (26, vI (k_1.length : Int)), (27, vI i23)]) (M' := Mem w0 (.blk b36 [.string x25.Name, vI x25.Bits, vI x25.Low] 23 :: orow (some ⟨g16, 0, none⟩) l59.length l6.length 3 1 y66 :: Fz F W :: cs)) (by first | rfl | rw [hl65]) (fun w_ hM => by first | exact hM | (rw [hl65] at hM; exact hM)) ?_
     refine oR [] [(1, .slice A_vals vals.length c_vals), (7, .slice (some ⟨g16, 0, none⟩) l59.length l6.length), (25, .slice A_k_1 k_1.length c_k_1), (26, vI (k_1.length : Int)), (27, vI i23)] [1, 7, 25, 26, 27] (by kernel_rfl) ?_
     refine ops_nil ?_
     refine fin_block ?_
     refine fin_then ?_
     refine st_region [oF 0, oF 1] (by rfl) ?_
     refine oR [oF 0, oF 1] [(27, vI (IntKind.i64.wrap (i23 + 1))), (1, .slice A_vals vals.length c_vals), (7, .slice (some ⟨g16, 0, none⟩) l59.length l6.length), (25, .slice A_k_1 k_1.length c_k_1), (26, vI (k_1.length : Int))] [27, 1, 7, 25, 26] (by kernel_rfl) ?_
     refine ops_nil ?_
     exact fin_again (l59, IntKind.i64.wrap (i23 + 1)) y66 (Option.some.inj hp).symm h68 (look_has ⟨rfl, rfl, rfl, rfl, rfl, trivial⟩) (fun w_ hM => hM.pick 3 [1, 2] (by kernel_rfl) (by decide) rfl)
    · --
     have hp := cnd_f hc24 hp
     refine st_exit ?_
     refine fin_exit_then ?_
     refine fin_exit_then ?_
     refine fin_exit ?_
     obtain hq_ := Option.some.inj hp
     subst hq_
     obtain hq_ := hd2 _ rfl
     subst hq_
     have hp : kind_Fit_j1 l20 = some (l9003, i9006) := hk2
     exact fin_join HJ1 (l20, y21) ⟨hp, h22⟩ (look_has ⟨rfl, trivial⟩) (fun w_ hM => hM)
set_option maxHeartbeats 4000000 in
set_option maxRecDepth 100000 in
theorem slices_Equal_int_int_ok (w0 w : World) (cs : List Chunk) (F : Nat → Prop) (W : World) (A_s1 : Option Addr) (c_s1 : Nat) (s1_1 : List Int) (A_s2 : Option Addr) (c_s2 : Nat) (s2_1 : List Int) (hM0 : Mem w0 (Fz F W :: cs) w) (h_s1 : RdS (Rep.int .i64) F W A_s1 c_s1 s1_1) (h_s2 : RdS (Rep.int .i64) F W A_s2 c_s2 s2_1) (t9001 : Bool) (hp : slices_Equal_int_int s1_1 s2_1 = some t9001) : Calls Tryd.prog 15 #[.slice A_s1 s1_1.length c_s1, .slice A_s2 s2_1.length c_s2] w fun e w' => (True) ∧ e = .returned (.bool t9001) ∧ Mem w0 (Fz F W :: cs) w' := by
 unfold slices_Equal_int_int at hp
 refine sx_calls Tryd.func15 rfl (n := 26) (by kernel_rfl) (l := [(0, .slice A_s1 s1_1.length c_s1), (1, .slice A_s2 s2_1.length c_s2)]) rfl (by rfl) hM0 ?_
 refine st_seq ?_
 refine st_region [oF 0] (by rfl) ?_
 refine oR [oF 0] [(0, .slice A_s1 s1_1.length c_s1), (1, .slice A_s2 s2_1.length c_s2)] [0, 1] (by kernel_rfl) ?_
 refine ops_nil ?_
 refine fin_then ?_
 refine st_seq ?_
 refine st_seq ?_
 refine st_region [oF 0, oF 1, oF 2, oF 3, oF 4] (by rfl) ?_
 refine oR [oF 0, oF 1, oF 2, oF 3, oF 4] [(10, .bool (!((s1_1.length : Int) == (s2_1.length : Int)))), (0, .slice A_s1 s1_1.length c_s1), (1, .slice A_s2 s2_1.length c_s2)] [10, 0, 1] (by kernel_rfl) ?_
 refine ops_nil ?_
 refine fin_then ?_
 refine st_if (b := !((s1_1.length : Int) == (s2_1.length : Int))) rfl (fun hc1 => ?_) (fun hc1 => ?_)
 · --
  have hp := cnd_t hc1 hp
  refine st_seq ?_
  refine st_region [oF 0] (by rfl) ?_
  refine oR [oF 0] [(4, .bool false)] [4] (by kernel_rfl) ?_
  refine ops_nil ?_
  refine fin_then ?_
  refine st_ret ?_
  refine fin_ret_then ?_
  have hq_ := Option.some.inj hp
  have hr0_ := hq_
  subst hr0_
  refine fin_ret [.tmp 4] [.bool false] rfl rfl (fun w_ hM => (.tmp rfl .nil)) (fun w_ hM => ?_)
  exact ⟨trivial, rfl, hM⟩
 · --
  have hp := cnd_f hc1 hp
  refine st_skip ?_
  refine fin_then ?_
  refine st_join1 (σ := Unit) (L := fun _ => []) (N := fun _ => Mem w0 (Fz F W :: cs)) (I := fun _ => (slices_Equal_int_int_j1 = some t9001)) ?_ ?_
  · --
   rintro _ hp
   refine st_conv (l' := []) (M' := Mem w0 (Fz F W :: cs)) rfl (fun _ h => h) ?_
   unfold slices_Equal_int_int_j1 at hp
   refine st_seq ?_
   refine st_region [oF 0] (by rfl) ?_
   refine oR [oF 0] [(4, .bool true)] [4] (by kernel_rfl) ?_
   refine ops_nil ?_
   refine fin_then ?_
   refine st_ret ?_
   have hq_ := Option.some.inj hp
   have hr0_ := hq_
   subst hr0_
   refine fin_ret [.tmp 4] [.bool true] rfl rfl (fun w_ hM => (.tmp rfl .nil)) (fun w_ hM => ?_)
   exact ⟨trivial, rfl, hM⟩
  · --
   intro HJ1
   refine st_seq ?_
   refine st_seq ?_
   refine st_region [oF 0, oF 1, oF 2] (by rfl) ?_
   refine oR [oF 0, oF 1, oF 2] [(13, vI 0), (12, vI (s1_1.length : Int)), (0, .slice A_s1 s1_1.length c_s1), (1, .slice A_s2 s2_1.length c_s2)] [13, 12, 0, 1] (by kernel_rfl) ?_
   refine ops_nil ?_
   refine fin_then ?_
   refine st_block ?_
   obtain ⟨r2, hl2, hk2⟩ := obind hp
   refine st_loopP (σ := Int) (ρ := (Bool ⊕ Unit)) (γ := Unit) hl2 () (fun s_ g_ => match s_, g_ with | i2, _ => [(0, .slice A_s1 s1_1.length c_s1), (1, .slice A_s2 s2_1.length c_s2), (12, vI (s1_1.length : Int)), (13, vI i2)]) (fun s_ g_ => match s_, g_ with | i2, _ => Mem w0 (Fz F W :: cs)) (fun s_ g_ => match s_, g_ with | i2, _ => True) trivial (look_has ⟨rfl, rfl, rfl, rfl, trivial⟩) (fun w_ hM => hM) ?_
   rintro i2 _ o2 - hs_ hd2
   have hp : (slices_Equal_int_int_l2 s1_1 s2_1) i2 = some o2 := hs_
   clear hs_
   unfold slices_Equal_int_int_l2 at hp
   refine st_conv (l' := [(0, .slice A_s1 s1_1.length c_s1), (1, .slice A_s2 s2_1.length c_s2), (12, vI (s1_1.length : Int)), (13, vI i2)]) (M' := Mem w0 (Fz F W :: cs)) rfl (fun _ h => h) ?_
   refine st_seq ?_
   refine st_region [oF 0] (by rfl) ?_
   refine oR [oF 0] [(14, .bool (decide (i2 < (s1_1.length : Int)))), (0, .slice A_s1 s1_1.length c_s1), (1, .slice A_s2 s2_1.length c_s2), (12, vI (s1_1.length : Int)), (13, vI i2)] [14, 0, 1, 12, 13] (by kernel_rfl) ?_
   refine ops_nil ?_
   refine fin_then ?_
   refine st_seq ?_
   refine st_if (b := decide (i2 < (s1_1.length : Int))) rfl (fun hc3 => ?_) (fun hc3 => ?_)
   · --
    have hp := cnd_t hc3 hp
    refine st_skip ?_
    refine fin_then ?_
    refine st_seq ?_
    refine st_block ?_
    refine st_seq ?_
    refine st_region [oF 0, oF 1] (by rfl) ?_
    refine oR [oF 0, oF 1] [(5, vI i2), (0, .slice A_s1 s1_1.length c_s1), (1, .slice A_s2 s2_1.length c_s2), (12, vI (s1_1.length : Int)), (13, vI i2)] [5, 0, 1, 12, 13] (by kernel_rfl) ?_
    refine ops_nil ?_
    refine fin_then ?_
    refine st_seq ?_
    refine st_region_draw [oT 0, oT 1, oT 2, oT 3, oT 4, oT 5, oT 6, oT 7, oT 8] (Mem w0 (Fz F W :: cs)) (by kernel_rfl) (by kernel_rfl) (by kernel_rfl) (fun _ d _ _ _ h => by cases d <;> exact h) (M' := Mem w0 (Fz F W :: cs)) (fun w_ hM => ⟨hM.drew, hM.drew.sub (.cons_cons _ (.refl _))⟩) ?_
    refine oR [oT 0, oT 1] [(17, vI i2), (16, .slice A_s1 s1_1.length c_s1), (5, vI i2), (0, .slice A_s1 s1_1.length c_s1), (1, .slice A_s2 s2_1.length c_s2), (12, vI (s1_1.length : Int)), (13, vI i2)] [17, 16, 5, 0, 1, 12, 13] (by kernel_rfl) ?_
    obtain ⟨x4, hv5, hp⟩ := obind hp
    obtain ⟨m6, hm7, hx8⟩ := idx_some hv5
    have hl11 := (List.getElem?_eq_some_iff.1 hx8).1
    obtain ⟨ad12, vs9, hA13, hr10, hq14⟩ := RdS.el h_s1 hx8
    obtain rfl := hr10
    refine ops_val (op := (Go.Op.indexAddr 33 (Go.Operand.tmp 16) (Go.Operand.tmp 17))) (d := some 18) (v := .pointer (some (ad12.add (m6 * 1)))) ⟨by kernel_rfl⟩ (run_indexA hA13 Tryd.underlying33 (z := 1) (by kernel_rfl) rfl rfl hm7 hl11) ?_
    refine oR [] [(18, .pointer (some (ad12.add (m6 * 1)))), (5, vI i2), (0, .slice A_s1 s1_1.length c_s1), (1, .slice A_s2 s2_1.length c_s2), (12, vI (s1_1.length : Int)), (13, vI i2)] [18, 5, 0, 1, 12, 13] (by kernel_rfl) ?_
    refine ops_load (d := some 19) (an := [.v (vI x4)]) (evs := [.load (ad12.add (m6 * 1)) (vI x4)]) (v := vI x4) ⟨by kernel_rfl⟩ (fun w_ hM => ⟨hM.elcell 0 rfl hq14 0 rfl, rfl⟩) ?_
    refine oR [oT 4, oT 5] [(21, vI i2), (20, .slice A_s2 s2_1.length c_s2), (19, vI x4), (0, .slice A_s1 s1_1.length c_s1), (1, .slice A_s2 s2_1.length c_s2), (12, vI (s1_1.length : Int)), (13, vI i2)] [21, 20, 19, 0, 1, 12, 13] (by kernel_rfl) ?_
    obtain ⟨x15, hv16, hp⟩ := obind hp
    obtain ⟨m17, hm18, hx19⟩ := idx_some hv16
    have hl22 := (List.getElem?_eq_some_iff.1 hx19).1
    obtain ⟨ad23, vs20, hA24, hr21, hq25⟩ := RdS.el h_s2 hx19
    obtain rfl := hr21
    refine ops_val (op := (Go.Op.indexAddr 33 (Go.Operand.tmp 20) (Go.Operand.tmp 21))) (d := some 22) (v := .pointer (some (ad23.add (m17 * 1)))) ⟨by kernel_rfl⟩ (run_indexA hA24 Tryd.underlying33 (z := 1) (by kernel_rfl) rfl rfl hm18 hl22) ?_
    refine oR [] [(22, .pointer (some (ad23.add (m17 * 1)))), (19, vI x4), (0, .slice A_s1 s1_1.length c_s1), (1, .slice A_s2 s2_1.length c_s2), (12, vI (s1_1.length : Int)), (13, vI i2)] [22, 19, 0, 1, 12, 13] (by kernel_rfl) ?_
    refine ops_load (d := some 23) (an := [.v (vI x15)]) (evs := [.load (ad23.add (m17 * 1)) (vI x15)]) (v := vI x15) ⟨by kernel_rfl⟩ (fun w_ hM => ⟨hM.elcell 0 rfl hq25 0 rfl, rfl⟩) ?_
    refine oR [oT 8] [(24, .bool (!(x4 == x15))), (0, .slice A_s1 s1_1.length c_s1), (1, .slice A_s2 s2_1.length c_s2), (12, vI (s1_1.length : Int)), (13, vI i2)] [24, 0, 1, 12, 13] (by kernel_rfl) ?_
    refine ops_nil ?_
    refine fin_then ?_
    refine st_if (b := !(x4 == x15)) rfl (fun hc26 => ?_) (fun hc26 => ?_)
    · --
     have hp := cnd_t hc26 hp
     refine st_seq ?_
     refine st_region [oF 0] (by rfl) ?_
     refine oR [oF 0] [(4, .bool false)] [4] (by kernel_rfl) ?_
     refine ops_nil ?_
     refine fin_then ?_
     refine st_ret ?_
     refine fin_ret_block ?_
     refine fin_ret_then ?_
     refine fin_ret_then ?_
     refine fin_ret_block ?_
     refine fin_ret_then ?_
     obtain hq_ := Option.some.inj hp
     subst hq_
     obtain hq_ := hd2 _ rfl
     subst hq_
     have hp : some false = some t9001 := hk2
     have hq_ := Option.some.inj hp
     have hr0_ := hq_
     subst hr0_
     refine fin_ret [.tmp 4] [.bool false] rfl rfl (fun w_ hM => (.tmp rfl .nil)) (fun w_ hM => ?_)
     exact ⟨trivial, rfl, hM⟩
    · --
     have hp := cnd_f hc26 hp
     refine st_skip ?_
     refine fin_block ?_
     refine fin_then ?_
     refine st_region [oF 0, oF 1] (by rfl) ?_
     refine oR [oF 0, oF 1] [(13, vI (IntKind.i64.wrap (i2 + 1))), (0, .slice A_s1 s1_1.length c_s1), (1, .slice A_s2 s2_1.length c_s2), (12, vI (s1_1.length : Int))] [13, 0, 1, 12] (by kernel_rfl) ?_
     refine ops_nil ?_
     exact fin_again (IntKind.i64.wrap (i2 + 1)) () (Option.some.inj hp).symm trivial (look_has ⟨rfl, rfl, rfl, rfl, trivial⟩) (fun w_ hM => hM)
   · --
    have hp := cnd_f hc3 hp
    refine st_exit ?_
    refine fin_exit_then ?_
    refine fin_exit_then ?_
    refine fin_exit ?_
    obtain hq_ := Option.some.inj hp
    subst hq_
    obtain hq_ := hd2 _ rfl
    subst hq_
    have hp : slices_Equal_int_int_j1 = some t9001 := hk2
    exact fin_join HJ1 () hp (look_has trivial) (fun w_ hM => hM)
set_option maxHeartbeats 4000000 in
set_option maxRecDepth 100000 in
theorem tourref3_IsName_ok (w0 w : World) (cs : List Chunk) (F : Nat → Prop) (W : World) (s : ByteArray) (hM0 : Mem w0 (Fz F W :: cs) w) (t9001 : Bool) (hp : tourref3_IsName s = some t9001) : Calls Tryd.prog 19 #[.string s] w fun e w' => (True) ∧ e = .returned (.bool t9001) ∧ Mem w0 (Fz F W :: cs) w' := by
 unfold tourref3_IsName at hp
 refine sx_calls Tryd.func19 rfl (n := 20) (by kernel_rfl) (l := [(0, .string s)]) rfl (by rfl) hM0 ?_
 refine st_seq ?_
 refine st_region [oF 0] (by rfl) ?_
 refine oR [oF 0] [(0, .string s)] [0] (by kernel_rfl) ?_
 refine ops_nil ?_
 refine fin_then ?_
 refine st_join1 (σ := Bool) (L := fun x_ => match x_ with | t1 => [(2, .bool t1)]) (N := fun x_ => match x_ with | t1 => Mem w0 (Fz F W :: cs)) (I := fun x_ => match x_ with | t1 => (tourref3_IsName_j1 t1 = some t9001)) ?_ ?_
 · --
  rintro t1 hp
  refine st_conv (l' := [(2, .bool t1)]) (M' := Mem w0 (Fz F W :: cs)) rfl (fun _ h => h) ?_
  unfold tourref3_IsName_j1 at hp
  refine st_ret ?_
  have hq_ := Option.some.inj hp
  have hr0_ := hq_
  subst hr0_
  refine fin_ret [.tmp 2] [.bool t1] rfl rfl (fun w_ hM => (.tmp rfl .nil)) (fun w_ hM => ?_)
  exact ⟨trivial, rfl, hM⟩
 · --
  intro HJ1
  refine st_seq ?_
  refine st_region [oF 0, oF 1, oF 2, oF 3, oF 4, oF 5, oF 6, oF 7, oF 8, oF 9, oF 10, oF 11, oF 12, oF 13, oF 14, oF 15, oF 16, oF 17] (by rfl) ?_
  refine oR [oF 0, oF 1, oF 2] [(5, .bool (!(s.toList == (⟨#[]⟩ : ByteArray).toList))), (0, .string s)] [5, 0] (by kernel_rfl) ?_
  refine ops_bool (t := !(s.toList == (⟨#[]⟩ : ByteArray).toList)) (l1 := [(5, .bool true), (0, .string s)]) (l2 := [(5, .bool false), (0, .string s)]) (fun h => by rw [h]) (fun h => by rw [h]) (fun hc2 => ?_) (fun hc2 => ?_)
  · --
   have hp := cnd_t hc2 hp
   refine oR [oF 3, oF 4, oF 5, oF 6, oF 7] [(10, .bool (decide ((s.size : Int) < 17))), (0, .string s)] [10, 0] (by kernel_rfl) ?_
   refine ops_bool (t := decide ((s.size : Int) < 17)) (l1 := [(10, .bool true), (0, .string s)]) (l2 := [(10, .bool false), (0, .string s)]) (fun h => by rw [h]) (fun h => by rw [h]) (fun hc3 => ?_) (fun hc3 => ?_)
   · --
    have hp := cnd_t hc3 hp
    refine oR [oF 8] [(11, .string s), (10, .bool true), (0, .string s)] [11, 10, 0] (by kernel_rfl) ?_
    obtain ⟨x4, hv5, hp⟩ := obind hp
    refine ops_callI (σ := Unit) (d := some 12) (f := 64) (args := #[.string s, .string (⟨#[97, 98, 99, 100, 101, 102, 103, 104, 105, 106, 107, 108, 109, 110, 111, 112, 113, 114, 115, 116, 117, 118, 119, 120, 121, 122, 48, 49, 50, 51, 52, 53, 54, 55, 56, 57]⟩)]) (v := (fun _ => .string x4)) (I := (fun _ => True)) (M' := (fun _ => Mem w0 (Fz F W :: cs))) ⟨by kernel_rfl⟩ (fun w_ hM hS => (strings_Trim_ok w0 w_ (cs) F W s hM  x4 hv5).mono (by rintro e w' ⟨-, rfl, h'⟩; have h' : Mem w0 (Fz F W :: cs) w' := h'; exact ⟨(), trivial, rfl, h', trivial⟩)) ?_
    rintro _ -
    refine ops_conv (l' := [(12, .string x4), (11, .string s), (10, .bool true), (0, .string s)]) (M' := Mem w0 (Fz F W :: cs)) rfl (fun _ h => h) ?_
    refine oR [oF 10, oF 11, oF 12] [(15, .bool (x4.toList == (⟨#[]⟩ : ByteArray).toList)), (0, .string s)] [15, 0] (by kernel_rfl) ?_
    refine ops_bool (t := (x4.toList == (⟨#[]⟩ : ByteArray).toList)) (l1 := [(15, .bool true), (0, .string s)]) (l2 := [(15, .bool false), (0, .string s)]) (fun h => by rw [h]) (fun h => by rw [h]) (fun hc6 => ?_) (fun hc6 => ?_)
    · --
     have hp := cnd_t hc6 hp
     refine oR [oF 13] [(16, .string s), (15, .bool true)] [16, 15] (by kernel_rfl) ?_
     obtain ⟨x7, hv8, hp⟩ := obind hp
     refine ops_val (op := (Go.Op.index 9 (Go.Operand.tmp 16) (Go.Operand.const (Go.Value.int Go.IntKind.i64 0)))) (d := some 17) (v := .int .u8 x7) ⟨by kernel_rfl⟩ (run_strIdx Tryd.underlying9 rfl rfl hv8) ?_
     refine oR [oF 15, oF 16, oF 17] [(2, .bool (decide (57 < x7)))] [2] (by kernel_rfl) ?_
     refine ops_nil ?_
     exact fin_join HJ1 (decide (57 < x7)) hp (look_has ⟨rfl, trivial⟩) (fun w_ hM => hM)
    · --
     have hp := cnd_f hc6 hp
     refine oR [oF 13, oF 14, oF 15, oF 16, oF 17] [(2, .bool false)] [2] (by kernel_rfl) ?_
     refine ops_nil ?_
     exact fin_join HJ1 false hp (look_has ⟨rfl, trivial⟩) (fun w_ hM => hM)
   · --
    have hp := cnd_f hc3 hp
    refine oR [oF 8, oF 9, oF 10, oF 11, oF 12, oF 13, oF 14, oF 15, oF 16, oF 17] [(2, .bool false)] [2] (by kernel_rfl) ?_
    refine ops_nil ?_
    exact fin_join HJ1 false hp (look_has ⟨rfl, trivial⟩) (fun w_ hM => hM)
  · --
   have hp := cnd_f hc2 hp
   refine oR [oF 3, oF 4, oF 5, oF 6, oF 7, oF 8, oF 9, oF 10, oF 11, oF 12, oF 13, oF 14, oF 15, oF 16, oF 17] [(2, .bool false)] [2] (by kernel_rfl) ?_
   refine ops_nil ?_
   exact fin_join HJ1 false hp (look_has ⟨rfl, trivial⟩) (fun w_ hM => hM)
set_option maxHeartbeats 4000000 in
set_option maxRecDepth 100000 in
theorem tourref3_FieldOK_ok (w0 w : World) (cs : List Chunk) (F : Nat → Prop) (W : World) (f_0 : ByteArray) (f_1 : Int) (f_2 : Int) (hM0 : Mem w0 (Fz F W :: cs) w) (t9001 : Bool) (hp : tourref3_FieldOK f_0 f_1 f_2 = some t9001) : Calls Tryd.prog 10 #[.agg #[.string f_0, vI f_1, vI f_2]] w fun e w' => (True) ∧ e = .returned (.bool t9001) ∧ Mem w0 (Fz F W :: cs) w' := by
 unfold tourref3_FieldOK at hp
 refine sx_calls Tryd.func10 rfl (n := 26) (by kernel_rfl) (l := [(0, .agg #[.string f_0, vI f_1, vI f_2])]) rfl (by rfl) hM0 ?_
 refine st_seq ?_
 refine st_region [oF 0, oF 1] (by rfl) ?_
 refine ops_new (d := some 1) (o := .cells #[.string f_0, vI f_1, vI f_2] 23) (v := fun b1 => vP b1 0) (M' := fun b1 => Mem w0 (.blk b1 [.string f_0, vI f_1, vI f_2] 23 :: Fz F W :: cs)) (fun b1 => ⟨by kernel_rfl⟩) (fun w_ hM hS => ⟨hM.blk [.string f_0, vI f_1, vI f_2] 23, trivial⟩) (fun b1 => ?_)
 refine oR [oF 1] [(1, vP b1 0)] [1] (by kernel_rfl) ?_
 refine ops_nil ?_
 refine fin_then ?_
 refine st_join1 (σ := Bool) (L := fun x_ => match x_ with | t2 => [(2, .bool t2)]) (N := fun x_ => match x_ with | t2 => Mem w0 (Fz F W :: cs)) (I := fun x_ => match x_ with | t2 => (tourref3_FieldOK_j1 t2 = some t9001)) ?_ ?_
 · --
  rintro t2 hp
  refine st_conv (l' := [(2, .bool t2)]) (M' := Mem w0 (Fz F W :: cs)) rfl (fun _ h => h) ?_
  unfold tourref3_FieldOK_j1 at hp
  refine st_ret ?_
  have hq_ := Option.some.inj hp
  have hr0_ := hq_
  subst hr0_
  refine fin_ret [.tmp 2] [.bool t2] rfl rfl (fun w_ hM => (.tmp rfl .nil)) (fun w_ hM => ?_)
  exact ⟨trivial, rfl, hM⟩
 · --
  intro HJ1
  refine st_seq ?_
  refine st_region [oF 0, oF 1, oF 2, oF 3, oF 4, oF 5, oF 6, oF 7, oF 8, oF 9, oF 10, oF 11, oF 12, oF 13, oF 14, oF 15, oF 16, oF 17, oF 18, oF 19, oF 20, oF 21, oF 22, oF 23] (by rfl) ?_
  refine oR [oF 0] [(3, vP b1 0), (1, vP b1 0)] [3, 1] (by kernel_rfl) ?_
  refine ops_mem (d := some 4) (an := [.v (.string f_0)]) (evs := [.load ⟨b1, 0, none⟩ (.string f_0)]) (v := .string f_0) (M' := Mem w0 (.blk b1 [.string f_0, vI f_1, vI f_2] 23 :: Fz F W :: cs)) ⟨by kernel_rfl⟩ (fun w_ hM hS => ⟨w_, ⟨hM.cell 0 rfl rfl, rfl⟩, hM, trivial⟩) ?_
  refine oR [] [(4, .string f_0), (1, vP b1 0)] [4, 1] (by kernel_rfl) ?_
  obtain ⟨x3, hv4, hp⟩ := obind hp
  refine ops_callI (σ := Unit) (d := some 5) (f := 19) (args := #[.string f_0]) (v := (fun _ => .bool x3)) (I := (fun _ => True)) (M' := (fun _ => Mem w0 (.blk b1 [.string f_0, vI f_1, vI f_2] 23 :: Fz F W :: cs))) ⟨by kernel_rfl⟩ (fun w_ hM hS => (tourref3_IsName_ok w0 w_ (.blk b1 [.string f_0, vI f_1, vI f_2] 23 :: cs) F W f_0 (hM.pick 2 [1, 0] (by kernel_rfl) (by decide) rfl)  x3 hv4).mono (by rintro e w' ⟨-, rfl, h'⟩; have h' : Mem w0 (.blk b1 [.string f_0, vI f_1, vI f_2] 23 :: Fz F W :: cs) w' := (h'.pick 2 [1, 0] (by kernel_rfl) (by decide) rfl); exact ⟨(), trivial, rfl, h', trivial⟩)) ?_
  rintro _ -
  refine ops_conv (l' := [(5, .bool x3), (4, .string f_0), (1, vP b1 0)]) (M' := Mem w0 (.blk b1 [.string f_0, vI f_1, vI f_2] 23 :: Fz F W :: cs)) rfl (fun _ h => h) ?_
  refine oR [oF 3] [(6, .bool x3), (1, vP b1 0)] [6, 1] (by kernel_rfl) ?_
  refine ops_bool (t := x3) (l1 := [(6, .bool true), (1, vP b1 0)]) (l2 := [(6, .bool false), (1, vP b1 0)]) (fun h => by rw [h]) (fun h => by rw [h]) (fun hc5 => ?_) (fun hc5 => ?_)
  · --
   have hp := cnd_t hc5 hp
   refine oR [oF 4] [(7, vP b1 1), (6, .bool true), (1, vP b1 0)] [7, 6, 1] (by kernel_rfl) ?_
   refine ops_mem (d := some 8) (an := [.v (vI f_1)]) (evs := [.load ⟨b1, 1, none⟩ (vI f_1)]) (v := vI f_1) (M' := Mem w0 (.blk b1 [.string f_0, vI f_1, vI f_2] 23 :: Fz F W :: cs)) ⟨by kernel_rfl⟩ (fun w_ hM hS => ⟨w_, ⟨hM.cell 0 rfl rfl, rfl⟩, hM, trivial⟩) ?_
   refine oR [oF 6, oF 7, oF 8] [(11, .bool (decide (0 < f_1))), (1, vP b1 0)] [11, 1] (by kernel_rfl) ?_
   refine ops_bool (t := decide (0 < f_1)) (l1 := [(11, .bool true), (1, vP b1 0)]) (l2 := [(11, .bool false), (1, vP b1 0)]) (fun h => by rw [h]) (fun h => by rw [h]) (fun hc6 => ?_) (fun hc6 => ?_)
   · --
    have hp := cnd_t hc6 hp
    refine oR [oF 9] [(12, vP b1 1), (11, .bool true), (1, vP b1 0)] [12, 11, 1] (by kernel_rfl) ?_
    refine ops_mem (d := some 13) (an := [.v (vI f_1)]) (evs := [.load ⟨b1, 1, none⟩ (vI f_1)]) (v := vI f_1) (M' := Mem w0 (.blk b1 [.string f_0, vI f_1, vI f_2] 23 :: Fz F W :: cs)) ⟨by kernel_rfl⟩ (fun w_ hM hS => ⟨w_, ⟨hM.cell 0 rfl rfl, rfl⟩, hM, trivial⟩) ?_
    refine oR [oF 11, oF 12, oF 13] [(16, .bool (decide (f_1 < 33))), (1, vP b1 0)] [16, 1] (by kernel_rfl) ?_
    refine ops_bool (t := decide (f_1 < 33)) (l1 := [(16, .bool true), (1, vP b1 0)]) (l2 := [(16, .bool false), (1, vP b1 0)]) (fun h => by rw [h]) (fun h => by rw [h]) (fun hc7 => ?_) (fun hc7 => ?_)
    · --
     have hp := cnd_t hc7 hp
     refine oR [oF 14] [(17, vP b1 2), (16, .bool true), (1, vP b1 0)] [17, 16, 1] (by kernel_rfl) ?_
     refine ops_mem (d := some 18) (an := [.v (vI f_2)]) (evs := [.load ⟨b1, 2, none⟩ (vI f_2)]) (v := vI f_2) (M' := Mem w0 (.blk b1 [.string f_0, vI f_1, vI f_2] 23 :: Fz F W :: cs)) ⟨by kernel_rfl⟩ (fun w_ hM hS => ⟨w_, ⟨hM.cell 0 rfl rfl, rfl⟩, hM, trivial⟩) ?_
     refine oR [oF 16, oF 17, oF 18] [(21, .bool (decide ((-4294967296) ≤ f_2))), (1, vP b1 0)] [21, 1] (by kernel_rfl) ?_
     refine ops_bool (t := decide ((-4294967296) ≤ f_2)) (l1 := [(21, .bool true), (1, vP b1 0)]) (l2 := [(21, .bool false), (1, vP b1 0)]) (fun h => by rw [h]) (fun h => by rw [h]) (fun hc8 => ?_) (fun hc8 => ?_)
     · --
      have hp := cnd_t hc8 hp
      refine oR [oF 19] [(22, vP b1 2), (21, .bool true)] [22, 21] (by kernel_rfl) ?_
      refine ops_mem (d := some 23) (an := [.v (vI f_2)]) (evs := [.load ⟨b1, 2, none⟩ (vI f_2)]) (v := vI f_2) (M' := Mem w0 (.blk b1 [.string f_0, vI f_1, vI f_2] 23 :: Fz F W :: cs)) ⟨by kernel_rfl⟩ (fun w_ hM hS => ⟨w_, ⟨hM.cell 0 rfl rfl, rfl⟩, hM, trivial⟩) ?_
      refine oR [oF 21, oF 22, oF 23] [(2, .bool (decide (f_2 ≤ 4294967296)))] [2] (by kernel_rfl) ?_
      refine ops_nil ?_
      exact fin_join HJ1 (decide (f_2 ≤ 4294967296)) hp (look_has ⟨rfl, trivial⟩) (fun w_ hM => hM.pick 2 [1] (by kernel_rfl) (by decide) rfl)
     · --
      have hp := cnd_f hc8 hp
      refine oR [oF 19, oF 20, oF 21, oF 22, oF 23] [(2, .bool false)] [2] (by kernel_rfl) ?_
      refine ops_nil ?_
      exact fin_join HJ1 false hp (look_has ⟨rfl, trivial⟩) (fun w_ hM => hM.pick 2 [1] (by kernel_rfl) (by decide) rfl)
    · --
     have hp := cnd_f hc7 hp
     refine oR [oF 14, oF 15, oF 16, oF 17, oF 18, oF 19, oF 20, oF 21, oF 22, oF 23] [(2, .bool false)] [2] (by kernel_rfl) ?_
     refine ops_nil ?_
     exact fin_join HJ1 false hp (look_has ⟨rfl, trivial⟩) (fun w_ hM => hM.pick 2 [1] (by kernel_rfl) (by decide) rfl)
   · --
    have hp := cnd_f hc6 hp
    refine oR [oF 9, oF 10, oF 11, oF 12, oF 13, oF 14, oF 15, oF 16, oF 17, oF 18, oF 19, oF 20, oF 21, oF 22, oF 23] [(2, .bool false)] [2] (by kernel_rfl) ?_
    refine ops_nil ?_
    exact fin_join HJ1 false hp (look_has ⟨rfl, trivial⟩) (fun w_ hM => hM.pick 2 [1] (by kernel_rfl) (by decide) rfl)
  · --
   have hp := cnd_f hc5 hp
   refine oR [oF 4, oF 5, oF 6, oF 7, oF 8, oF 9, oF 10, oF 11, oF 12, oF 13, oF 14, oF 15, oF 16, oF 17, oF 18, oF 19, oF 20, oF 21, oF 22, oF 23] [(2, .bool false)] [2] (by kernel_rfl) ?_
   refine ops_nil ?_
   exact fin_join HJ1 false hp (look_has ⟨rfl, trivial⟩) (fun w_ hM => hM.pick 2 [1] (by kernel_rfl) (by decide) rfl)
set_option maxHeartbeats 4000000 in
set_option maxRecDepth 100000 in
theorem slices_Index_string_string_ok (w0 w : World) (cs : List Chunk) (F : Nat → Prop) (W : World) (A_s : Option Addr) (c_s : Nat) (s : List ByteArray) (v : ByteArray) (hM0 : Mem w0 (Fz F W :: cs) w) (h_s : RdS Rep.str F W A_s c_s s) (i9001 : Int) (hp : slices_Index_string_string s v = some i9001) : Calls Tryd.prog 117 #[.slice A_s s.length c_s, .string v] w fun e w' => (True) ∧ e = .returned (vI i9001) ∧ Mem w0 (Fz F W :: cs) w' := by
 unfold slices_Index_string_string at hp
 refine sx_calls Tryd.func117 rfl (n := 19) (by kernel_rfl) (l := [(0, .slice A_s s.length c_s), (1, .string v)]) rfl (by rfl) hM0 ?_
 refine st_seq ?_
 refine st_region [oF 0] (by rfl) ?_
 refine oR [oF 0] [(0, .slice A_s s.length c_s), (1, .string v)] [0, 1] (by kernel_rfl) ?_
 refine ops_nil ?_
 refine fin_then ?_
 refine st_join1 (σ := Unit) (L := fun _ => []) (N := fun _ => Mem w0 (Fz F W :: cs)) (I := fun _ => (slices_Index_string_string_j1 = some i9001)) ?_ ?_
 · --
  rintro _ hp
  refine st_conv (l' := []) (M' := Mem w0 (Fz F W :: cs)) rfl (fun _ h => h) ?_
  unfold slices_Index_string_string_j1 at hp
  refine st_seq ?_
  refine st_region [oF 0] (by rfl) ?_
  refine oR [oF 0] [(4, vI (-1))] [4] (by kernel_rfl) ?_
  refine ops_nil ?_
  refine fin_then ?_
  refine st_ret ?_
  have hq_ := Option.some.inj hp
  have hr0_ := hq_
  subst hr0_
  refine fin_ret [.tmp 4] [vI (-1)] rfl rfl (fun w_ hM => (.tmp rfl .nil)) (fun w_ hM => ?_)
  exact ⟨trivial, rfl, hM⟩
 · --
  intro HJ1
  refine st_seq ?_
  refine st_seq ?_
  refine st_region [oF 0, oF 1, oF 2] (by rfl) ?_
  refine oR [oF 0, oF 1, oF 2] [(8, vI 0), (7, vI (s.length : Int)), (0, .slice A_s s.length c_s), (1, .string v)] [8, 7, 0, 1] (by kernel_rfl) ?_
  refine ops_nil ?_
  refine fin_then ?_
  refine st_block ?_
  obtain ⟨r2, hl2, hk2⟩ := obind hp
  refine st_loopP (σ := Int) (ρ := (Int ⊕ Unit)) (γ := Unit) hl2 () (fun s_ g_ => match s_, g_ with | i1, _ => [(0, .slice A_s s.length c_s), (1, .string v), (7, vI (s.length : Int)), (8, vI i1)]) (fun s_ g_ => match s_, g_ with | i1, _ => Mem w0 (Fz F W :: cs)) (fun s_ g_ => match s_, g_ with | i1, _ => True) trivial (look_has ⟨rfl, rfl, rfl, rfl, trivial⟩) (fun w_ hM => hM) ?_
  rintro i1 _ o2 - hs_ hd2
  have hp : (slices_Index_string_string_l2 s v) i1 = some o2 := hs_
  clear hs_
  unfold slices_Index_string_string_l2 at hp
  refine st_conv (l' := [(0, .slice A_s s.length c_s), (1, .string v), (7, vI (s.length : Int)), (8, vI i1)]) (M' := Mem w0 (Fz F W :: cs)) rfl (fun _ h => h) ?_
  refine st_seq ?_
  refine st_region [oF 0] (by rfl) ?_
  refine oR [oF 0] [(9, .bool (decide (i1 < (s.length : Int)))), (0, .slice A_s s.length c_s), (1, .string v), (7, vI (s.length : Int)), (8, vI i1)] [9, 0, 1, 7, 8] (by kernel_rfl) ?_
  refine ops_nil ?_
  refine fin_then ?_
  refine st_seq ?_
  refine st_if (b := decide (i1 < (s.length : Int))) rfl (fun hc2 => ?_) (fun hc2 => ?_)
  · --
   have hp := cnd_t hc2 hp
   refine st_skip ?_
   refine fin_then ?_
   refine st_seq ?_
   refine st_block ?_
   refine st_seq ?_
   refine st_region [oF 0, oF 1] (by rfl) ?_
   refine oR [oF 0, oF 1] [(5, vI i1), (0, .slice A_s s.length c_s), (1, .string v), (7, vI (s.length : Int)), (8, vI i1)] [5, 0, 1, 7, 8] (by kernel_rfl) ?_
   refine ops_nil ?_
   refine fin_then ?_
   refine st_seq ?_
   refine st_region [oF 0, oF 1, oF 2, oF 3, oF 4, oF 5] (by rfl) ?_
   refine oR [oF 0, oF 1, oF 2] [(13, vI i1), (12, .slice A_s s.length c_s), (11, .string v), (5, vI i1), (0, .slice A_s s.length c_s), (1, .string v), (7, vI (s.length : Int)), (8, vI i1)] [13, 12, 11, 5, 0, 1, 7, 8] (by kernel_rfl) ?_
   obtain ⟨x3, hv4, hp⟩ := obind hp
   obtain ⟨m5, hm6, hx7⟩ := idx_some hv4
   have hl10 := (List.getElem?_eq_some_iff.1 hx7).1
   obtain ⟨ad11, vs8, hA12, hr9, hq13⟩ := RdS.el h_s hx7
   obtain rfl := hr9
   refine ops_val (op := (Go.Op.indexAddr 104 (Go.Operand.tmp 12) (Go.Operand.tmp 13))) (d := some 14) (v := .pointer (some (ad11.add (m5 * 1)))) ⟨by kernel_rfl⟩ (run_indexA hA12 Tryd.underlying104 (z := 1) (by kernel_rfl) rfl rfl hm6 hl10) ?_
   refine oR [] [(14, .pointer (some (ad11.add (m5 * 1)))), (11, .string v), (5, vI i1), (0, .slice A_s s.length c_s), (1, .string v), (7, vI (s.length : Int)), (8, vI i1)] [14, 11, 5, 0, 1, 7, 8] (by kernel_rfl) ?_
   refine ops_mem (d := some 15) (an := [.v (.string x3)]) (evs := [.load (ad11.add (m5 * 1)) (.string x3)]) (v := .string x3) (M' := Mem w0 (Fz F W :: cs)) ⟨by kernel_rfl⟩ (fun w_ hM hS => ⟨w_, ⟨hM.elcell 0 rfl hq13 0 rfl, rfl⟩, hM, trivial⟩) ?_
   refine oR [oF 5] [(16, .bool (v.toList == x3.toList)), (5, vI i1), (0, .slice A_s s.length c_s), (1, .string v), (7, vI (s.length : Int)), (8, vI i1)] [16, 5, 0, 1, 7, 8] (by kernel_rfl) ?_
   refine ops_nil ?_
   refine fin_then ?_
   refine st_if (b := (v.toList == x3.toList)) rfl (fun hc14 => ?_) (fun hc14 => ?_)
   · --
    have hp := cnd_t hc14 hp
    refine st_seq ?_
    refine st_region [oF 0, oF 1] (by rfl) ?_
    refine oR [oF 0, oF 1] [(4, vI i1)] [4] (by kernel_rfl) ?_
    refine ops_nil ?_
    refine fin_then ?_
    refine st_ret ?_
    refine fin_ret_block ?_
    refine fin_ret_then ?_
    refine fin_ret_then ?_
    refine fin_ret_block ?_
    refine fin_ret_then ?_
    obtain hq_ := Option.some.inj hp
    subst hq_
    obtain hq_ := hd2 _ rfl
    subst hq_
    have hp : some i1 = some i9001 := hk2
    have hq_ := Option.some.inj hp
    have hr0_ := hq_
    subst hr0_
    refine fin_ret [.tmp 4] [vI i1] rfl rfl (fun w_ hM => (.tmp rfl .nil)) (fun w_ hM => ?_)
    exact ⟨trivial, rfl, hM⟩
   · --
    have hp := cnd_f hc14 hp
    refine st_skip ?_
    refine fin_block ?_
    refine fin_then ?_
    refine st_region [oF 0, oF 1] (by rfl) ?_
    refine oR [oF 0, oF 1] [(8, vI (IntKind.i64.wrap (i1 + 1))), (0, .slice A_s s.length c_s), (1, .string v), (7, vI (s.length : Int))] [8, 0, 1, 7] (by kernel_rfl) ?_
    refine ops_nil ?_
    exact fin_again (IntKind.i64.wrap (i1 + 1)) () (Option.some.inj hp).symm trivial (look_has ⟨rfl, rfl, rfl, rfl, trivial⟩) (fun w_ hM => hM)
  · --
   have hp := cnd_f hc2 hp
   refine st_exit ?_
   refine fin_exit_then ?_
   refine fin_exit_then ?_
   refine fin_exit ?_
   obtain hq_ := Option.some.inj hp
   subst hq_
   obtain hq_ := hd2 _ rfl
   subst hq_
   have hp : slices_Index_string_string_j1 = some i9001 := hk2
   exact fin_join HJ1 () hp (look_has trivial) (fun w_ hM => hM)
set_option maxHeartbeats 4000000 in
set_option maxRecDepth 100000 in
theorem slices_Contains_string_string_ok (w0 w : World) (cs : List Chunk) (F : Nat → Prop) (W : World) (A_s : Option Addr) (c_s : Nat) (s : List ByteArray) (v : ByteArray) (hM0 : Mem w0 (Fz F W :: cs) w) (h_s : RdS Rep.str F W A_s c_s s) (t9001 : Bool) (hp : slices_Contains_string_string s v = some t9001) : Calls Tryd.prog 99 #[.slice A_s s.length c_s, .string v] w fun e w' => (True) ∧ e = .returned (.bool t9001) ∧ Mem w0 (Fz F W :: cs) w' := by
 unfold slices_Contains_string_string at hp
 refine sx_calls Tryd.func99 rfl (n := 9) (by kernel_rfl) (l := [(0, .slice A_s s.length c_s), (1, .string v)]) rfl (by rfl) hM0 ?_
 refine st_seq ?_
 refine st_region [oF 0] (by rfl) ?_
 refine oR [oF 0] [(0, .slice A_s s.length c_s), (1, .string v)] [0, 1] (by kernel_rfl) ?_
 refine ops_nil ?_
 refine fin_then ?_
 refine st_seq ?_
 refine st_region [oF 0, oF 1, oF 2, oF 3, oF 4] (by rfl) ?_
 refine oR [oF 0, oF 1] [(6, .string v), (5, .slice A_s s.length c_s)] [6, 5] (by kernel_rfl) ?_
 obtain ⟨x1, hv2, hp⟩ := obind hp
 refine ops_callI (σ := Unit) (d := some 7) (f := 117) (args := #[.slice A_s s.length c_s, .string v]) (v := (fun _ => vI x1)) (I := (fun _ => True)) (M' := (fun _ => Mem w0 (Fz F W :: cs))) ⟨by kernel_rfl⟩ (fun w_ hM hS => (slices_Index_string_string_ok w0 w_ (cs) F W A_s c_s s v hM h_s x1 hv2).mono (by rintro e w' ⟨-, rfl, h'⟩; have h' : Mem w0 (Fz F W :: cs) w' := h'; exact ⟨(), trivial, rfl, h', trivial⟩)) ?_
 rintro _ -
 refine ops_conv (l' := [(7, vI x1), (6, .string v), (5, .slice A_s s.length c_s)]) (M' := Mem w0 (Fz F W :: cs)) rfl (fun _ h => h) ?_
 refine oR [oF 3, oF 4] [(4, .bool (decide (0 ≤ x1)))] [4] (by kernel_rfl) ?_
 refine ops_nil ?_
 refine fin_then ?_
 refine st_ret ?_
 have hq_ := Option.some.inj hp
 have hr0_ := hq_
 subst hr0_
 refine fin_ret [.tmp 4] [.bool (decide (0 ≤ x1))] rfl rfl (fun w_ hM => (.tmp rfl .nil)) (fun w_ hM => ?_)
 exact ⟨trivial, rfl, hM⟩
set_option maxHeartbeats 4000000 in
set_option maxRecDepth 100000 in
theorem tourref3_twice_ok (w0 w : World) (cs : List Chunk) (F : Nat → Prop) (W : World) (A_l : Option Addr) (c_l : Nat) (l : List ByteArray) (s : ByteArray) (hM0 : Mem w0 (Fz F W :: cs) w) (h_l : RdS Rep.str F W A_l c_l l) (t9001 : Bool) (hp : tourref3_twice l s = some t9001) : Calls Tryd.prog 65 #[.slice A_l l.length c_l, .string s] w fun e w' => (True) ∧ e = .returned (.bool t9001) ∧ Mem w0 (Fz F W :: cs) w' := by
 unfold tourref3_twice at hp
 refine sx_calls Tryd.func65 rfl (n := 8) (by kernel_rfl) (l := [(0, .slice A_l l.length c_l), (1, .string s)]) rfl (by rfl) hM0 ?_
 refine st_seq ?_
 refine st_region [oF 0] (by rfl) ?_
 refine oR [oF 0] [(0, .slice A_l l.length c_l), (1, .string s)] [0, 1] (by kernel_rfl) ?_
 refine ops_nil ?_
 refine fin_then ?_
 refine st_seq ?_
 refine st_region [oF 0, oF 1, oF 2, oF 3] (by rfl) ?_
 refine oR [oF 0, oF 1] [(6, .string s), (5, .slice A_l l.length c_l)] [6, 5] (by kernel_rfl) ?_
 obtain ⟨x1, hv2, hp⟩ := obind hp
 refine ops_callI (σ := Unit) (d := some 7) (f := 99) (args := #[.slice A_l l.length c_l, .string s]) (v := (fun _ => .bool x1)) (I := (fun _ => True)) (M' := (fun _ => Mem w0 (Fz F W :: cs))) ⟨by kernel_rfl⟩ (fun w_ hM hS => (slices_Contains_string_string_ok w0 w_ (cs) F W A_l c_l l s hM h_l x1 hv2).mono (by rintro e w' ⟨-, rfl, h'⟩; have h' : Mem w0 (Fz F W :: cs) w' := h'; exact ⟨(), trivial, rfl, h', trivial⟩)) ?_
 rintro _ -
 refine ops_conv (l' := [(7, .bool x1), (6, .string s), (5, .slice A_l l.length c_l)]) (M' := Mem w0 (Fz F W :: cs)) rfl (fun _ h => h) ?_
 refine oR [oF 3] [(4, .bool x1)] [4] (by kernel_rfl) ?_
 refine ops_nil ?_
 refine fin_then ?_
 refine st_ret ?_
 have hq_ := Option.some.inj hp
 have hr0_ := hq_
 subst hr0_
 refine fin_ret [.tmp 4] [.bool x1] rfl rfl (fun w_ hM => (.tmp rfl .nil)) (fun w_ hM => ?_)
 exact ⟨trivial, rfl, hM⟩
set_option maxHeartbeats 4000000 in
set_option maxRecDepth 100000 in
theorem tourref3_KindError_ok (w0 w : World) (cs : List Chunk) (F : Nat → Prop) (W : World) (k_0 : ByteArray) (A_k_1 : Option Addr) (c_k_1 : Nat) (k_1 : List api_Field) (hM0 : Mem w0 (Fz F W :: cs) w) (h_k_1 : RdS R_api_Field F W A_k_1 c_k_1 k_1) (i9001 : Int) (hp : tourref3_KindError k_0 k_1 = some i9001) : Calls Tryd.prog 21 #[.agg #[.string k_0, .slice A_k_1 k_1.length c_k_1]] w fun e w' => (True) ∧ e = .returned (vI i9001) ∧ Mem w0 (Fz F W :: cs) w' := by
 unfold tourref3_KindError at hp
 refine sx_calls Tryd.func21 rfl (n := 34) (by kernel_rfl) (l := [(0, .agg #[.string k_0, .slice A_k_1 k_1.length c_k_1])]) rfl (by rfl) hM0 ?_
 refine st_seq ?_
 refine st_region [oF 0, oF 1] (by rfl) ?_
 refine ops_new (d := some 1) (o := .cells #[.string k_0, .slice A_k_1 k_1.length c_k_1] 27) (v := fun b1 => vP b1 0) (M' := fun b1 => Mem w0 (.blk b1 [.string k_0, .slice A_k_1 k_1.length c_k_1] 27 :: Fz F W :: cs)) (fun b1 => ⟨by kernel_rfl⟩) (fun w_ hM hS => ⟨hM.blk [.string k_0, .slice A_k_1 k_1.length c_k_1] 27, trivial⟩) (fun b1 => ?_)
 refine oR [oF 1] [(1, vP b1 0)] [1] (by kernel_rfl) ?_
 refine ops_nil ?_
 refine fin_then ?_
 refine st_seq ?_
 refine st_seq ?_
 refine st_region [oF 0, oF 1, oF 2, oF 3] (by rfl) ?_
 refine oR [oF 0] [(6, vP b1 0), (1, vP b1 0)] [6, 1] (by kernel_rfl) ?_
 refine ops_mem (d := some 7) (an := [.v (.string k_0)]) (evs := [.load ⟨b1, 0, none⟩ (.string k_0)]) (v := .string k_0) (M' := Mem w0 (.blk b1 [.string k_0, .slice A_k_1 k_1.length c_k_1] 27 :: Fz F W :: cs)) ⟨by kernel_rfl⟩ (fun w_ hM hS => ⟨w_, ⟨hM.cell 0 rfl rfl, rfl⟩, hM, trivial⟩) ?_
 refine oR [] [(7, .string k_0), (1, vP b1 0)] [7, 1] (by kernel_rfl) ?_
 obtain ⟨x2, hv3, hp⟩ := obind hp
 refine ops_callI (σ := Unit) (d := some 8) (f := 19) (args := #[.string k_0]) (v := (fun _ => .bool x2)) (I := (fun _ => True)) (M' := (fun _ => Mem w0 (.blk b1 [.string k_0, .slice A_k_1 k_1.length c_k_1] 27 :: Fz F W :: cs))) ⟨by kernel_rfl⟩ (fun w_ hM hS => (tourref3_IsName_ok w0 w_ (.blk b1 [.string k_0, .slice A_k_1 k_1.length c_k_1] 27 :: cs) F W k_0 (hM.pick 2 [1, 0] (by kernel_rfl) (by decide) rfl)  x2 hv3).mono (by rintro e w' ⟨-, rfl, h'⟩; have h' : Mem w0 (.blk b1 [.string k_0, .slice A_k_1 k_1.length c_k_1] 27 :: Fz F W :: cs) w' := (h'.pick 2 [1, 0] (by kernel_rfl) (by decide) rfl); exact ⟨(), trivial, rfl, h', trivial⟩)) ?_
 rintro _ -
 refine ops_conv (l' := [(8, .bool x2), (7, .string k_0), (1, vP b1 0)]) (M' := Mem w0 (.blk b1 [.string k_0, .slice A_k_1 k_1.length c_k_1] 27 :: Fz F W :: cs)) rfl (fun _ h => h) ?_
 refine oR [oF 3] [(9, .bool (!x2)), (1, vP b1 0)] [9, 1] (by kernel_rfl) ?_
 refine ops_nil ?_
 refine fin_then ?_
 refine st_if (b := !x2) rfl (fun hc4 => ?_) (fun hc4 => ?_)
 · --
  have hp := cnd_t hc4 hp
  refine st_seq ?_
  refine st_region [oF 0] (by rfl) ?_
  refine oR [oF 0] [(2, vI 3)] [2] (by kernel_rfl) ?_
  refine ops_nil ?_
  refine fin_then ?_
  refine st_ret ?_
  refine fin_ret_then ?_
  have hq_ := Option.some.inj hp
  have hr0_ := hq_
  subst hr0_
  refine fin_ret [.tmp 2] [vI 3] rfl rfl (fun w_ hM => (.tmp rfl .nil)) (fun w_ hM => ?_)
  exact ⟨trivial, rfl, hM.pick 2 [1] (by kernel_rfl) (by decide) rfl⟩
 · --
  have hp := cnd_f hc4 hp
  refine st_skip ?_
  refine fin_then ?_
  refine st_seq ?_
  refine st_seq ?_
  refine st_region [oF 0, oF 1, oF 2, oF 3] (by rfl) ?_
  refine oR [oF 0] [(10, vP b1 1), (1, vP b1 0)] [10, 1] (by kernel_rfl) ?_
  refine ops_mem (d := some 11) (an := [.v (.slice A_k_1 k_1.length c_k_1)]) (evs := [.load ⟨b1, 1, none⟩ (.slice A_k_1 k_1.length c_k_1)]) (v := .slice A_k_1 k_1.length c_k_1) (M' := Mem w0 (.blk b1 [.string k_0, .slice A_k_1 k_1.length c_k_1] 27 :: Fz F W :: cs)) ⟨by kernel_rfl⟩ (fun w_ hM hS => ⟨w_, ⟨hM.cell 0 rfl rfl, rfl⟩, hM, trivial⟩) ?_
  refine oR [oF 2, oF 3] [(13, .bool (decide (8 < (k_1.length : Int)))), (1, vP b1 0)] [13, 1] (by kernel_rfl) ?_
  refine ops_nil ?_
  refine fin_then ?_
  refine st_if (b := decide (8 < (k_1.length : Int))) rfl (fun hc5 => ?_) (fun hc5 => ?_)
  · --
   have hp := cnd_t hc5 hp
   refine st_seq ?_
   refine st_region [oF 0] (by rfl) ?_
   refine oR [oF 0] [(2, vI 2)] [2] (by kernel_rfl) ?_
   refine ops_nil ?_
   refine fin_then ?_
   refine st_ret ?_
   refine fin_ret_then ?_
   have hq_ := Option.some.inj hp
   have hr0_ := hq_
   subst hr0_
   refine fin_ret [.tmp 2] [vI 2] rfl rfl (fun w_ hM => (.tmp rfl .nil)) (fun w_ hM => ?_)
   exact ⟨trivial, rfl, hM.pick 2 [1] (by kernel_rfl) (by decide) rfl⟩
  · --
   have hp := cnd_f hc5 hp
   refine st_skip ?_
   refine fin_then ?_
   refine st_seq ?_
   refine st_region [oF 0] (by rfl) ?_
   refine oR [oF 0] [(3, .slice none 0 0), (1, vP b1 0)] [3, 1] (by kernel_rfl) ?_
   refine ops_nil ?_
   refine fin_then ?_
   refine st_join1 (σ := Unit) (L := fun _ => []) (N := fun _ => Mem w0 (Fz F W :: cs)) (I := fun _ => (tourref3_KindError_j1 = some i9001)) ?_ ?_
   · --
    rintro _ hp
    refine st_conv (l' := []) (M' := Mem w0 (Fz F W :: cs)) rfl (fun _ h => h) ?_
    unfold tourref3_KindError_j1 at hp
    refine st_seq ?_
    refine st_region [oF 0] (by rfl) ?_
    refine oR [oF 0] [(2, vI 0)] [2] (by kernel_rfl) ?_
    refine ops_nil ?_
    refine fin_then ?_
    refine st_ret ?_
    have hq_ := Option.some.inj hp
    have hr0_ := hq_
    subst hr0_
    refine fin_ret [.tmp 2] [vI 0] rfl rfl (fun w_ hM => (.tmp rfl .nil)) (fun w_ hM => ?_)
    exact ⟨trivial, rfl, hM⟩
   · --
    intro HJ1
    refine st_seq ?_
    refine st_seq ?_
    refine st_region [oF 0, oF 1, oF 2, oF 3] (by rfl) ?_
    refine oR [oF 0] [(14, vP b1 1), (3, .slice none 0 0)] [14, 3] (by kernel_rfl) ?_
    refine ops_mem (d := some 15) (an := [.v (.slice A_k_1 k_1.length c_k_1)]) (evs := [.load ⟨b1, 1, none⟩ (.slice A_k_1 k_1.length c_k_1)]) (v := .slice A_k_1 k_1.length c_k_1) (M' := Mem w0 (.blk b1 [.string k_0, .slice A_k_1 k_1.length c_k_1] 27 :: Fz F W :: cs)) ⟨by kernel_rfl⟩ (fun w_ hM hS => ⟨w_, ⟨hM.cell 0 rfl rfl, rfl⟩, hM, trivial⟩) ?_
    refine oR [oF 2, oF 3] [(17, vI 0), (16, vI (k_1.length : Int)), (15, .slice A_k_1 k_1.length c_k_1), (3, .slice none 0 0)] [17, 16, 15, 3] (by kernel_rfl) ?_
    refine ops_nil ?_
    refine fin_then ?_
    refine st_block ?_
    refine st_conv (l' := [(17, vI 0), (16, vI (k_1.length : Int)), (15, .slice A_k_1 k_1.length c_k_1), (3, .slice none 0 0)]) (M' := Mem w0 (orow none ([] : List ByteArray).length 0 9 1 [] :: .blk b1 [.string k_0, .slice A_k_1 k_1.length c_k_1] 27 :: Fz F W :: cs)) rfl (fun w_ h => h.onil none 9 1) ?_
    refine st_conv (l' := [(17, vI 0), (16, vI (k_1.length : Int)), (15, .slice A_k_1 k_1.length c_k_1), (3, .slice none ([] : List ByteArray).length 0)]) (M' := Mem w0 (orow none ([] : List ByteArray).length 0 9 1 [] :: .blk b1 [.string k_0, .slice A_k_1 k_1.length c_k_1] 27 :: Fz F W :: cs)) rfl (fun _ h => h) ?_
    obtain ⟨r2, hl2, hk2⟩ := obind hp
    refine st_loopP (σ := (List ByteArray) × Int) (ρ := (Int ⊕ Unit)) (γ := (Option Addr) × Nat × (List Value)) hl2 (none, 0, []) (fun s_ g_ => match s_, g_ with | (l8, i11), (A6, c7, y9) => [(3, .slice A6 l8.length c7), (15, .slice A_k_1 k_1.length c_k_1), (16, vI (k_1.length : Int)), (17, vI i11)]) (fun s_ g_ => match s_, g_ with | (l8, i11), (A6, c7, y9) => Mem w0 (orow A6 l8.length c7 9 1 y9 :: Fz F W :: cs)) (fun s_ g_ => match s_, g_ with | (l8, i11), (A6, c7, y9) => (RepL Rep.str F W l8 y9)) (RepL.nil (R := Rep.str)) (look_has ⟨rfl, rfl, rfl, rfl, trivial⟩) (fun w_ hM => hM.pick 3 [0, 2] (by kernel_rfl) (by decide) rfl) ?_
    rintro ⟨l8, i11⟩ ⟨A6, c7, y9⟩ o2 h10 hs_ hd2
    have hp : (tourref3_KindError_l2 k_1) l8 i11 = some o2 := hs_
    clear hs_
    unfold tourref3_KindError_l2 at hp
    refine st_conv (l' := [(3, .slice A6 l8.length c7), (15, .slice A_k_1 k_1.length c_k_1), (16, vI (k_1.length : Int)), (17, vI i11)]) (M' := Mem w0 (orow A6 l8.length c7 9 1 y9 :: Fz F W :: cs)) rfl (fun _ h => h) ?_
    refine st_seq ?_
    refine st_region [oF 0] (by rfl) ?_
    refine oR [oF 0] [(18, .bool (decide (i11 < (k_1.length : Int)))), (3, .slice A6 l8.length c7), (15, .slice A_k_1 k_1.length c_k_1), (16, vI (k_1.length : Int)), (17, vI i11)] [18, 3, 15, 16, 17] (by kernel_rfl) ?_
    refine ops_nil ?_
    refine fin_then ?_
    refine st_seq ?_
    refine st_if (b := decide (i11 < (k_1.length : Int))) rfl (fun hc12 => ?_) (fun hc12 => ?_)
    · --
     have hp := cnd_t hc12 hp
     refine st_skip ?_
     refine fin_then ?_
     refine st_seq ?_
     refine st_block ?_
     refine st_seq ?_
     refine st_region [oF 0, oF 1, oF 2, oF 3] (by rfl) ?_
     refine oR [] [(3, .slice A6 l8.length c7), (15, .slice A_k_1 k_1.length c_k_1), (16, vI (k_1.length : Int)), (17, vI i11)] [3, 15, 16, 17] (by kernel_rfl) ?_
     obtain ⟨x13, hv14, hp⟩ := obind hp
     obtain ⟨m15, hm16, hx17⟩ := idx_some hv14
     have hl20 := (List.getElem?_eq_some_iff.1 hx17).1
     obtain ⟨ad21, vs18, hA22, hr19, hq23⟩ := RdS.el h_k_1 hx17
     obtain rfl := dec_api_Field hr19
     refine ops_val (op := (Go.Op.indexAddr 25 (Go.Operand.tmp 15) (Go.Operand.tmp 17))) (d := some 19) (v := .pointer (some (ad21.add (m15 * 3)))) ⟨by kernel_rfl⟩ (run_indexA hA22 Tryd.underlying25 (z := 3) (by kernel_rfl) rfl rfl hm16 hl20) ?_
     refine ops_mem (d := some 20) (an := [.v (.string x13.Name), .v (vI x13.Bits), .v (vI x13.Low)]) (evs := [.load (ad21.add (m15 * 3)) (.string x13.Name), .load ((ad21.add (m15 * 3)).add 1) (vI x13.Bits), .load ((ad21.add (m15 * 3)).add 2) (vI x13.Low)]) (v := .agg #[.string x13.Name, vI x13.Bits, vI x13.Low]) (M' := Mem w0 (orow A6 l8.length c7 9 1 y9 :: Fz F W :: cs)) ⟨by kernel_rfl⟩ (fun w_ hM hS => ⟨w_, ⟨hM.elcell 1 rfl hq23 0 rfl, hM.elcell 1 rfl hq23 1 rfl, hM.elcell 1 rfl hq23 2 rfl, rfl⟩, hM, trivial⟩) ?_
     refine oR [] [(20, .agg #[.string x13.Name, vI x13.Bits, vI x13.Low]), (3, .slice A6 l8.length c7), (15, .slice A_k_1 k_1.length c_k_1), (16, vI (k_1.length : Int)), (17, vI i11)] [20, 3, 15, 16, 17] (by kernel_rfl) ?_
     refine ops_new (d := some 5) (o := .cells #[.string ByteArray.empty, vI 0, vI 0] 23) (v := fun b24 => vP b24 0) (M' := fun b24 => Mem w0 (.blk b24 [.string ByteArray.empty, vI 0, vI 0] 23 :: orow A6 l8.length c7 9 1 y9 :: Fz F W :: cs)) (fun b24 => ⟨by kernel_rfl⟩) (fun w_ hM hS => ⟨hM.blk [.string ByteArray.empty, vI 0, vI 0] 23, trivial⟩) (fun b24 => ?_)
     refine ops_store (an := []) (evs := [.store ⟨b24, 0, none⟩ (.string x13.Name), .store ⟨b24, 1, none⟩ (vI x13.Bits), .store ⟨b24, 2, none⟩ (vI x13.Low)]) (M' := Mem w0 (.blk b24 [.string x13.Name, vI x13.Bits, vI x13.Low] 23 :: orow A6 l8.length c7 9 1 y9 :: Fz F W :: cs)) ⟨by kernel_rfl⟩ (fun w_ hM hS => let ⟨w', he, h'⟩ := hM.evs_stores [.string x13.Name, vI x13.Bits, vI x13.Low] 0 rfl 0 (Nat.le_of_ble_eq_true rfl); ⟨w', he, h', trivial⟩) ?_
     refine oR [] [(5, vP b24 0), (3, .slice A6 l8.length c7), (15, .slice A_k_1 k_1.length c_k_1), (16, vI (k_1.length : Int)), (17, vI i11)] [5, 3, 15, 16, 17] (by kernel_rfl) ?_
     refine ops_nil ?_
     refine fin_then ?_
     refine st_seq ?_
     refine st_seq ?_
     refine st_region [oF 0, oF 1, oF 2] (by rfl) ?_
     refine ops_mem (d := some 21) (an := [.v (.string x13.Name), .v (vI x13.Bits), .v (vI x13.Low)]) (evs := [.load ⟨b24, 0, none⟩ (.string x13.Name), .load ⟨b24, 1, none⟩ (vI x13.Bits), .load ⟨b24, 2, none⟩ (vI x13.Low)]) (v := .agg #[.string x13.Name, vI x13.Bits, vI x13.Low]) (M' := Mem w0 (.blk b24 [.string x13.Name, vI x13.Bits, vI x13.Low] 23 :: orow A6 l8.length c7 9 1 y9 :: Fz F W :: cs)) ⟨by kernel_rfl⟩ (fun w_ hM hS => ⟨w_, ⟨hM.cell 0 rfl rfl, hM.cell 0 rfl rfl, hM.cell 0 rfl rfl, rfl⟩, hM, trivial⟩) ?_
     obtain ⟨x25, hv26, hp⟩ := obind hp
     refine ops_callI (σ := Unit) (d := some 22) (f := 10) (args := #[.agg #[.string x13.Name, vI x13.Bits, vI x13.Low]]) (v := (fun _ => .bool x25)) (I := (fun _ => True)) (M' := (fun _ => Mem w0 (.blk b24 [.string x13.Name, vI x13.Bits, vI x13.Low] 23 :: orow A6 l8.length c7 9 1 y9 :: Fz F W :: cs))) ⟨by kernel_rfl⟩ (fun w_ hM hS => (tourref3_FieldOK_ok w0 w_ (.blk b24 [.string x13.Name, vI x13.Bits, vI x13.Low] 23 :: orow A6 l8.length c7 9 1 y9 :: cs) F W x13.Name x13.Bits x13.Low (hM.pick 3 [2, 0, 1] (by kernel_rfl) (by decide) rfl)  x25 hv26).mono (by rintro e w' ⟨-, rfl, h'⟩; have h' : Mem w0 (.blk b24 [.string x13.Name, vI x13.Bits, vI x13.Low] 23 :: orow A6 l8.length c7 9 1 y9 :: Fz F W :: cs) w' := (h'.pick 3 [1, 2, 0] (by kernel_rfl) (by decide) rfl); exact ⟨(), trivial, rfl, h', trivial⟩)) ?_
     rintro _ -
     refine ops_conv (l' := [(22, .bool x25), (21, .agg #[.string x13.Name, vI x13.Bits, vI x13.Low]), (5, vP b24 0), (3, .slice A6 l8.length c7), (15, .slice A_k_1 k_1.length c_k_1), (16, vI (k_1.length : Int)), (17, vI i11)]) (M' := Mem w0 (.blk b24 [.string x13.Name, vI x13.Bits, vI x13.Low] 23 :: orow A6 l8.length c7 9 1 y9 :: Fz F W :: cs)) rfl (fun _ h => h) ?_
     refine oR [oF 2] [(23, .bool (!x25)), (5, vP b24 0), (3, .slice A6 l8.length c7), (15, .slice A_k_1 k_1.length c_k_1), (16, vI (k_1.length : Int)), (17, vI i11)] [23, 5, 3, 15, 16, 17] (by kernel_rfl) ?_
     refine ops_nil ?_
     refine fin_then ?_
     refine st_if (b := !x25) rfl (fun hc27 => ?_) (fun hc27 => ?_)
     · --
      have hp := cnd_t hc27 hp
      refine st_seq ?_
      refine st_region [oF 0] (by rfl) ?_
      refine oR [oF 0] [(2, vI 3)] [2] (by kernel_rfl) ?_
      refine ops_nil ?_
      refine fin_then ?_
      refine st_ret ?_
      refine fin_ret_then ?_
      refine fin_ret_block ?_
      refine fin_ret_then ?_
      refine fin_ret_then ?_
      refine fin_ret_block ?_
      refine fin_ret_then ?_
      obtain hq_ := Option.some.inj hp
      subst hq_
      obtain hq_ := hd2 _ rfl
      subst hq_
      have hp : some 3 = some i9001 := hk2
      have hq_ := Option.some.inj hp
      have hr0_ := hq_
      subst hr0_
      refine fin_ret [.tmp 2] [vI 3] rfl rfl (fun w_ hM => (.tmp rfl .nil)) (fun w_ hM => ?_)
      exact ⟨trivial, rfl, hM.pick 3 [2] (by kernel_rfl) (by decide) rfl⟩
     · --
      have hp := cnd_f hc27 hp
      refine st_skip ?_
      refine fin_then ?_
      refine st_seq ?_
      refine st_seq ?_
      refine st_region [oF 0, oF 1, oF 2, oF 3] (by rfl) ?_
      refine oR [oF 0, oF 1] [(25, vP b24 0), (24, .slice A6 l8.length c7), (5, vP b24 0), (3, .slice A6 l8.length c7), (15, .slice A_k_1 k_1.length c_k_1), (16, vI (k_1.length : Int)), (17, vI i11)] [25, 24, 5, 3, 15, 16, 17] (by kernel_rfl) ?_
      refine ops_mem (d := some 26) (an := [.v (.string x13.Name)]) (evs := [.load ⟨b24, 0, none⟩ (.string x13.Name)]) (v := .string x13.Name) (M' := Mem w0 (.blk b24 [.string x13.Name, vI x13.Bits, vI x13.Low] 23 :: orow A6 l8.length c7 9 1 y9 :: Fz F W :: cs)) ⟨by kernel_rfl⟩ (fun w_ hM hS => ⟨w_, ⟨hM.cell 0 rfl rfl, rfl⟩, hM, trivial⟩) ?_
      refine oR [] [(26, .string x13.Name), (24, .slice A6 l8.length c7), (5, vP b24 0), (3, .slice A6 l8.length c7), (15, .slice A_k_1 k_1.length c_k_1), (16, vI (k_1.length : Int)), (17, vI i11)] [26, 24, 5, 3, 15, 16, 17] (by kernel_rfl) ?_
      obtain ⟨x28, hv29, hp⟩ := obind hp
      refine ops_callI (σ := Unit) (d := some 27) (f := 65) (args := #[.slice A6 l8.length c7, .string x13.Name]) (v := (fun _ => .bool x28)) (I := (fun _ => True)) (M' := (fun _ => Mem w0 (.blk b24 [.string x13.Name, vI x13.Bits, vI x13.Low] 23 :: orow A6 l8.length c7 9 1 y9 :: Fz F W :: cs))) ⟨by kernel_rfl⟩ (fun w_ hM hS => (tourref3_twice_ok w_ w_ [] (fun b => b < w_.heap.size) w_ A6 c7 l8 x13.Name (Mem.fz0 w_) (hM.ordS 1 2 rfl rfl h10 rfl rfl) x28 hv29).mono (by rintro e w' ⟨-, rfl, h'⟩; have h' : Mem w_ [] w' := h'.pick 1 [] (by kernel_rfl) (by decide) rfl; exact ⟨(), trivial, rfl, hM.join h' rfl, trivial⟩)) ?_
      rintro _ -
      refine ops_conv (l' := [(27, .bool x28), (26, .string x13.Name), (24, .slice A6 l8.length c7), (5, vP b24 0), (3, .slice A6 l8.length c7), (15, .slice A_k_1 k_1.length c_k_1), (16, vI (k_1.length : Int)), (17, vI i11)]) (M' := Mem w0 (.blk b24 [.string x13.Name, vI x13.Bits, vI x13.Low] 23 :: orow A6 l8.length c7 9 1 y9 :: Fz F W :: cs)) rfl (fun _ h => h) ?_
      refine oR [] [(27, .bool x28), (5, vP b24 0), (3, .slice A6 l8.length c7), (15, .slice A_k_1 k_1.length c_k_1), (16, vI (k_1.length : Int)), (17, vI i11)] [27, 5, 3, 15, 16, 17] (by kernel_rfl) ?_
      refine ops_nil ?_
      refine fin_then ?_
      refine st_if (b := x28) rfl (fun hc30 => ?_) (fun hc30 => ?_)
      · --
       have hp := cnd_t hc30 hp
       refine st_seq ?_
       refine st_region [oF 0] (by rfl) ?_
       refine oR [oF 0] [(2, vI 5)] [2] (by kernel_rfl) ?_
       refine ops_nil ?_
       refine fin_then ?_
       refine st_ret ?_
       refine fin_ret_then ?_
       refine fin_ret_block ?_
       refine fin_ret_then ?_
       refine fin_ret_then ?_
       refine fin_ret_block ?_
       refine fin_ret_then ?_
       obtain hq_ := Option.some.inj hp
       subst hq_
       obtain hq_ := hd2 _ rfl
       subst hq_
       have hp : some 5 = some i9001 := hk2
       have hq_ := Option.some.inj hp
       have hr0_ := hq_
       subst hr0_
       refine fin_ret [.tmp 2] [vI 5] rfl rfl (fun w_ hM => (.tmp rfl .nil)) (fun w_ hM => ?_)
       exact ⟨trivial, rfl, hM.pick 3 [2] (by kernel_rfl) (by decide) rfl⟩
      · --
       have hp := cnd_f hc30 hp
       refine st_skip ?_
       refine fin_then ?_
       refine st_region [oF 0, oF 1, oF 2, oF 3, oF 4, oF 5] (by rfl) ?_
       refine oR [oF 0, oF 1] [(29, vP b24 0), (28, .slice A6 l8.length c7), (3, .slice A6 l8.length c7), (15, .slice A_k_1 k_1.length c_k_1), (16, vI (k_1.length : Int)), (17, vI i11)] [29, 28, 3, 15, 16, 17] (by kernel_rfl) ?_
       refine ops_mem (d := some 30) (an := [.v (.string x13.Name)]) (evs := [.load ⟨b24, 0, none⟩ (.string x13.Name)]) (v := .string x13.Name) (M' := Mem w0 (.blk b24 [.string x13.Name, vI x13.Bits, vI x13.Low] 23 :: orow A6 l8.length c7 9 1 y9 :: Fz F W :: cs)) ⟨by kernel_rfl⟩ (fun w_ hM hS => ⟨w_, ⟨hM.cell 0 rfl rfl, rfl⟩, hM, trivial⟩) ?_
       refine oR [] [(30, .string x13.Name), (28, .slice A6 l8.length c7), (3, .slice A6 l8.length c7), (15, .slice A_k_1 k_1.length c_k_1), (16, vI (k_1.length : Int)), (17, vI i11)] [30, 28, 3, 15, 16, 17] (by kernel_rfl) ?_
       have h31 : RepL Rep.str F W ([x13.Name] : List ByteArray) ([.string x13.Name]) := (RepL.cons (R := Rep.str) (F := F) (w := W) (vs := [.string x13.Name]) (ys := []) rfl RepL.nil)
       refine ops_new (d := some 31) (o := .cells ([.string x13.Name]).toArray 9) (v := fun g32 => .slice (some ⟨g32, 0, none⟩) ([x13.Name] : List ByteArray).length 1) (M' := fun g32 => Mem w0 (orow (some ⟨g32, 0, none⟩) ([x13.Name] : List ByteArray).length 1 9 1 ([.string x13.Name]) :: .blk b24 [.string x13.Name, vI x13.Bits, vI x13.Low] 23 :: orow A6 l8.length c7 9 1 y9 :: Fz F W :: cs)) (fun g32 => ⟨by kernel_rfl⟩) (fun w_ hM hS => ⟨hM.onew [.string x13.Name] 9 1 1 rfl (by decide), trivial⟩) (fun g32 => ?_)
       refine oR [] [(31, .slice (some ⟨g32, 0, none⟩) ([x13.Name] : List ByteArray).length 1), (28, .slice A6 l8.length c7), (3, .slice A6 l8.length c7), (15, .slice A_k_1 k_1.length c_k_1), (16, vI (k_1.length : Int)), (17, vI i11)] [31, 28, 3, 15, 16, 17] (by kernel_rfl) ?_
       obtain ⟨l33, hv34, hp⟩ := obind hp
       obtain ⟨he35, hb36⟩ := app_some hv34
       obtain ⟨y37, hy38⟩ : ∃ y_, y9 ++ ([.string x13.Name]) = y_ := ⟨_, rfl⟩
       have h39 : RepL Rep.str F W l33 y37 := by rw [he35, ← hy38]; exact RepL.app h10 h31
       refine ops_appendO (x := (Go.Operand.tmp 28)) (y := (Go.Operand.tmp 31)) (t := 104) (e := 9) (d := some 32) (n' := l33.length) (z := 1) (m := ([x13.Name] : List ByteArray).length) (bytes := 16) (xs' := y37) (news := ([.string x13.Name])) (zv := .string ByteArray.empty) 2 ⟨by kernel_rfl⟩ rfl rfl Tryd.underlying104 (by kernel_rfl) (by rfl) rfl (fun w_ hM => hM.srcO 0 rfl) h31.len h31.one hb36 (by have z_ := congrArg List.length he35; rw [List.length_append] at z_; exact z_.symm) hy38 (fun _ _ _ _ hS h' => trivial) ?_
       rintro ⟨A40, c41⟩
       refine ops_conv (l' := [(32, .slice A40 l33.length c41), (31, .slice (some ⟨g32, 0, none⟩) ([x13.Name] : List ByteArray).length 1), (28, .slice A6 l8.length c7), (3, .slice A6 l8.length c7), (15, .slice A_k_1 k_1.length c_k_1), (16, vI (k_1.length : Int)), (17, vI i11)]) (M' := Mem w0 (orow (some ⟨g32, 0, none⟩) ([x13.Name] : List ByteArray).length 1 9 1 ([.string x13.Name]) :: .blk b24 [.string x13.Name, vI x13.Bits, vI x13.Low] 23 :: orow A40 l33.length c41 9 1 y37 :: Fz F W :: cs)) rfl (fun _ h => h) ?_
       refine oR [oF 5] [(3, .slice A40 l33.length c41), (15, .slice A_k_1 k_1.length c_k_1), (16, vI (k_1.length : Int)), (17, vI i11)] [3, 15, 16, 17] (by kernel_rfl) ?_
       refine ops_nil ?_
       refine fin_block ?_
       refine fin_then ?_
       refine st_region [oF 0, oF 1] (by rfl) ?_
       refine oR [oF 0, oF 1] [(17, vI (IntKind.i64.wrap (i11 + 1))), (3, .slice A40 l33.length c41), (15, .slice A_k_1 k_1.length c_k_1), (16, vI (k_1.length : Int))] [17, 3, 15, 16] (by kernel_rfl) ?_
       refine ops_nil ?_
       exact fin_again (l33, IntKind.i64.wrap (i11 + 1)) (A40, c41, y37) (Option.some.inj hp).symm h39 (look_has ⟨rfl, rfl, rfl, rfl, trivial⟩) (fun w_ hM => hM.pick 4 [2, 3] (by kernel_rfl) (by decide) rfl)
    · --
     have hp := cnd_f hc12 hp
     refine st_exit ?_
     refine fin_exit_then ?_
     refine fin_exit_then ?_
     refine fin_exit ?_
     obtain hq_ := Option.some.inj hp
     subst hq_
     obtain hq_ := hd2 _ rfl
     subst hq_
     have hp : tourref3_KindError_j1 = some i9001 := hk2
     exact fin_join HJ1 () hp (look_has trivial) (fun w_ hM => hM.pick 2 [1] (by kernel_rfl) (by decide) rfl)
set_option maxHeartbeats 4000000 in
set_option maxRecDepth 100000 in
theorem tourref3_Top_ok (w0 w : World) (cs : List Chunk) (F : Nat → Prop) (W : World) (f_0 : ByteArray) (f_1 : Int) (f_2 : Int) (hM0 : Mem w0 (Fz F W :: cs) w) (i9001 : Int) (hp : tourref3_Top f_0 f_1 f_2 = some i9001) : Calls Tryd.prog 11 #[.agg #[.string f_0, vI f_1, vI f_2]] w fun e w' => (True) ∧ e = .returned (vI i9001) ∧ Mem w0 (Fz F W :: cs) w' := by
 unfold tourref3_Top at hp
 refine sx_calls Tryd.func11 rfl (n := 16) (by kernel_rfl) (l := [(0, .agg #[.string f_0, vI f_1, vI f_2])]) rfl (by rfl) hM0 ?_
 refine st_seq ?_
 refine st_region [oF 0, oF 1] (by rfl) ?_
 refine ops_new (d := some 1) (o := .cells #[.string f_0, vI f_1, vI f_2] 23) (v := fun b1 => vP b1 0) (M' := fun b1 => Mem w0 (.blk b1 [.string f_0, vI f_1, vI f_2] 23 :: Fz F W :: cs)) (fun b1 => ⟨by kernel_rfl⟩) (fun w_ hM hS => ⟨hM.blk [.string f_0, vI f_1, vI f_2] 23, trivial⟩) (fun b1 => ?_)
 refine oR [oF 1] [(1, vP b1 0)] [1] (by kernel_rfl) ?_
 refine ops_nil ?_
 refine fin_then ?_
 refine st_seq ?_
 refine st_region [oF 0] (by rfl) ?_
 refine oR [oF 0] [(3, vI 1), (1, vP b1 0)] [3, 1] (by kernel_rfl) ?_
 refine ops_nil ?_
 refine fin_then ?_
 refine st_join1 (σ := Int) (L := fun x_ => match x_ with | i2 => [(1, vP b1 0), (3, vI i2)]) (N := fun x_ => match x_ with | i2 => Mem w0 (.blk b1 [.string f_0, vI f_1, vI f_2] 23 :: Fz F W :: cs)) (I := fun x_ => match x_ with | i2 => ((tourref3_Top_j1 f_2) i2 = some i9001)) ?_ ?_
 · --
  rintro i2 hp
  refine st_conv (l' := [(1, vP b1 0), (3, vI i2)]) (M' := Mem w0 (.blk b1 [.string f_0, vI f_1, vI f_2] 23 :: Fz F W :: cs)) rfl (fun _ h => h) ?_
  unfold tourref3_Top_j1 at hp
  refine st_seq ?_
  refine st_region [oF 0, oF 1, oF 2, oF 3, oF 4, oF 5] (by rfl) ?_
  refine oR [oF 0] [(11, vP b1 2), (3, vI i2)] [11, 3] (by kernel_rfl) ?_
  refine ops_mem (d := some 12) (an := [.v (vI f_2)]) (evs := [.load ⟨b1, 2, none⟩ (vI f_2)]) (v := vI f_2) (M' := Mem w0 (.blk b1 [.string f_0, vI f_1, vI f_2] 23 :: Fz F W :: cs)) ⟨by kernel_rfl⟩ (fun w_ hM hS => ⟨w_, ⟨hM.cell 0 rfl rfl, rfl⟩, hM, trivial⟩) ?_
  refine oR [oF 2, oF 3, oF 4, oF 5] [(2, vI (IntKind.i64.wrap (IntKind.i64.wrap (f_2 + i2) - 1)))] [2] (by kernel_rfl) ?_
  refine ops_nil ?_
  refine fin_then ?_
  refine st_ret ?_
  have hq_ := Option.some.inj hp
  have hr0_ := hq_
  subst hr0_
  refine fin_ret [.tmp 2] [vI (IntKind.i64.wrap (IntKind.i64.wrap (f_2 + i2) - 1))] rfl rfl (fun w_ hM => (.tmp rfl .nil)) (fun w_ hM => ?_)
  exact ⟨trivial, rfl, hM.pick 2 [1] (by kernel_rfl) (by decide) rfl⟩
 · --
  intro HJ1
  refine st_seq ?_
  refine st_seq ?_
  refine st_region [oF 0, oF 1, oF 2] (by rfl) ?_
  refine oR [oF 0] [(4, vP b1 1), (3, vI 1), (1, vP b1 0)] [4, 3, 1] (by kernel_rfl) ?_
  refine ops_mem (d := some 5) (an := [.v (vI f_1)]) (evs := [.load ⟨b1, 1, none⟩ (vI f_1)]) (v := vI f_1) (M' := Mem w0 (.blk b1 [.string f_0, vI f_1, vI f_2] 23 :: Fz F W :: cs)) ⟨by kernel_rfl⟩ (fun w_ hM hS => ⟨w_, ⟨hM.cell 0 rfl rfl, rfl⟩, hM, trivial⟩) ?_
  refine oR [oF 2] [(6, vI 0), (5, vI f_1), (3, vI 1), (1, vP b1 0)] [6, 5, 3, 1] (by kernel_rfl) ?_
  refine ops_nil ?_
  refine fin_then ?_
  refine st_block ?_
  obtain ⟨r2, hl2, hk2⟩ := obind hp
  refine st_loopP (σ := Int × Int) (ρ := Int) (γ := Unit) hl2 () (fun s_ g_ => match s_, g_ with | (i3, i4), _ => [(1, vP b1 0), (3, vI i3), (5, vI f_1), (6, vI i4)]) (fun s_ g_ => match s_, g_ with | (i3, i4), _ => Mem w0 (.blk b1 [.string f_0, vI f_1, vI f_2] 23 :: Fz F W :: cs)) (fun s_ g_ => match s_, g_ with | (i3, i4), _ => True) trivial (look_has ⟨rfl, rfl, rfl, rfl, trivial⟩) (fun w_ hM => hM) ?_
  rintro ⟨i3, i4⟩ _ o2 - hs_ hd2
  have hp : (tourref3_Top_l2 f_1) i3 i4 = some o2 := hs_
  clear hs_
  unfold tourref3_Top_l2 at hp
  refine st_conv (l' := [(1, vP b1 0), (3, vI i3), (5, vI f_1), (6, vI i4)]) (M' := Mem w0 (.blk b1 [.string f_0, vI f_1, vI f_2] 23 :: Fz F W :: cs)) rfl (fun _ h => h) ?_
  refine st_seq ?_
  refine st_region [oF 0] (by rfl) ?_
  refine oR [oF 0] [(7, .bool (decide (i4 < f_1))), (1, vP b1 0), (3, vI i3), (5, vI f_1), (6, vI i4)] [7, 1, 3, 5, 6] (by kernel_rfl) ?_
  refine ops_nil ?_
  refine fin_then ?_
  refine st_seq ?_
  refine st_if (b := decide (i4 < f_1)) rfl (fun hc5 => ?_) (fun hc5 => ?_)
  · --
   have hp := cnd_t hc5 hp
   refine st_skip ?_
   refine fin_then ?_
   refine st_seq ?_
   refine st_block ?_
   refine st_region [oF 0, oF 1, oF 2] (by rfl) ?_
   refine oR [oF 0, oF 1, oF 2] [(3, vI (IntKind.i64.wrap (i3 * 2))), (1, vP b1 0), (5, vI f_1), (6, vI i4)] [3, 1, 5, 6] (by kernel_rfl) ?_
   refine ops_nil ?_
   refine fin_block ?_
   refine fin_then ?_
   refine st_region [oF 0, oF 1] (by rfl) ?_
   refine oR [oF 0, oF 1] [(6, vI (IntKind.i64.wrap (i4 + 1))), (3, vI (IntKind.i64.wrap (i3 * 2))), (1, vP b1 0), (5, vI f_1)] [6, 3, 1, 5] (by kernel_rfl) ?_
   refine ops_nil ?_
   exact fin_again (IntKind.i64.wrap (i3 * 2), IntKind.i64.wrap (i4 + 1)) () (Option.some.inj hp).symm trivial (look_has ⟨rfl, rfl, rfl, rfl, trivial⟩) (fun w_ hM => hM)
  · --
   have hp := cnd_f hc5 hp
   refine st_exit ?_
   refine fin_exit_then ?_
   refine fin_exit_then ?_
   refine fin_exit ?_
   obtain hq_ := Option.some.inj hp
   subst hq_
   obtain hq_ := hd2 _ rfl
   subst hq_
   have hp : (tourref3_Top_j1 f_2) i3 = some i9001 := hk2
   exact fin_join HJ1 i3 hp (look_has ⟨rfl, rfl, trivial⟩) (fun w_ hM => hM)
end Go.Proofs.YthcbepikeinglaaDoor.L
