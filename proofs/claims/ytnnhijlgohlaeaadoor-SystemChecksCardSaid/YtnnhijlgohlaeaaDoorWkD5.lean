/- The Go functions come to what the plain functions tell. No condition. -/
import Derived.Test.YtnnhijlgohlaeaaDoorProg
import Derived.Test.YtnnhijlgohlaeaaDoorFnD
import Derived.Test.YtnnhijlgohlaeaaDoorWkD1
import Derived.Test.YtnnhijlgohlaeaaDoorWkD3
import Derived.Test.YtnnhijlgohlaeaaDoorWkD4
namespace Go.Proofs.YtnnhijlgohlaeaaDoor.D
open Go Go.RowKit Go.Proofs.YtnnhijlgohlaeaaDoor.Sx
set_option linter.unusedVariables false
set_option maxHeartbeats 4000000
set_option maxRecDepth 100000
theorem kind_Fit_ok (w0 w : World) (cs : List Chunk) (F : Nat → Prop) (W : World) (k_0 : ByteArray) (A_k_1 : Option Addr) (c_k_1 : Nat) (k_1 : List api_Field) (A_vals : Option Addr) (c_vals : Nat) (vals : List Int) (hM0 : Mem w0 (Fz F W :: cs) w) (h_k_1 : RdS R_api_Field F W A_k_1 c_k_1 k_1) (h_vals : RdS (Rep.int .i64) F W A_vals c_vals vals) (l9003 : List Int) (i9006 : Int) (hp : kind_Fit k_0 k_1 vals = some (l9003, i9006)) : Calls Tryd.prog 131 #[.agg #[.string k_0, sl A_k_1 k_1 c_k_1], sl A_vals vals c_vals] w fun e w' => ∃ (A9001 : Option Addr), ∃ (c9002 : Nat), ∃ (y9004 : List Value), ((RepL (Rep.int .i64) F W l9003 y9004)) ∧ e = .returned (.tuple #[sl A9001 l9003 c9002, vI i9006]) ∧ Mem w0 (ow A9001 l9003 c9002 3 1 y9004 :: Fz F W :: cs) w' := by
 unfold kind_Fit at hp
 refine sx_calls Tryd.func131 rfl (n := 43) (by kernel_rfl) (l := [(0, .agg #[.string k_0, sl A_k_1 k_1 c_k_1]), (1, sl A_vals vals c_vals)]) rfl (by rfl) hM0 ?_
 refine st_seq (st_region [oF 0, oF 1, oF 2] (by rfl) ?_)
 refine ops_newB (d := some 2) [.string k_0, sl A_k_1 k_1 c_k_1] 35 (fun b1 => ⟨by kernel_rfl⟩) (fun w_ hM hS => trivial) (fun b1 => ?_)
 refine oQ [oF 1, oF 2] [(2, vP b1 0), (1, sl A_vals vals c_vals)] (by kernel_rfl) ?_
 refine ops_nil (fin_then (st_seq (st_seq (st_region [oF 0, oF 1, oF 2] (by rfl) ?_))))
 refine ops_mem (d := some 10) (an := [.v (.string k_0), .v (sl A_k_1 k_1 c_k_1)]) (evs := [ld b1 0 (.string k_0), ld b1 1 (sl A_k_1 k_1 c_k_1)]) (v := .agg #[.string k_0, sl A_k_1 k_1 c_k_1]) ⟨by kernel_rfl⟩ (fun w_ hM hS => ⟨w_, ⟨hM.cell 0 rfl rfl, hM.cell 0 rfl rfl, rfl⟩, hM, trivial⟩) ?_
 obtain ⟨x2, hv3, hp⟩ := obind hp
 refine ops_callI (σ := Unit) (d := some 11) (f := 103) (args := #[.agg #[.string k_0, sl A_k_1 k_1 c_k_1]]) (v := (fun _ => vI x2)) (I := (fun _ => True)) (M' := (fun _ => Mem w0 (.blk b1 [.string k_0, sl A_k_1 k_1 c_k_1] 35 :: Fz F W :: cs))) ⟨by kernel_rfl⟩ (fun w_ hM hS => (kind_One_ok w0 w_ (.blk b1 [.string k_0, sl A_k_1 k_1 c_k_1] 35 :: cs) F W k_0 A_k_1 c_k_1 k_1 (hM.pick 2 [1, 0] (by kernel_rfl) (by decide) rfl) h_k_1 x2 hv3).mono (by rintro e w' ⟨-, rfl, h'⟩; have h' : Mem w0 (.blk b1 [.string k_0, sl A_k_1 k_1 c_k_1] 35 :: Fz F W :: cs) w' := (h'.pick 2 [1, 0] (by kernel_rfl) (by decide) rfl); exact ⟨(), trivial, rfl, h', trivial⟩)) ?_
 rintro _ -
 refine oQ [oF 2] [(6, vI x2), (2, vP b1 0), (1, sl A_vals vals c_vals)] (by kernel_rfl) ?_
 refine ops_nil (fin_then (st_seq (st_region [oF 0, oF 1] (by rfl) ?_)))
 refine oQ [oF 0, oF 1] [(13, .bool (!(x2 == 0))), (6, vI x2), (2, vP b1 0), (1, sl A_vals vals c_vals)] (by kernel_rfl) ?_
 refine ops_nil (fin_then ?_)
 refine st_if (b := !(x2 == 0)) rfl (fun hc4 => ?_) (fun hc4 => ?_)
 ·
  have hp := cnd_t hc4 hp
  refine st_seq (st_region [oF 0, oF 1, oF 2] (by rfl) ?_)
  refine oQ [oF 0, oF 1, oF 2] [(5, vI x2), (4, .slice none 0 0)] (by kernel_rfl) ?_
  refine ops_nil (fin_then (st_ret (fin_ret_then ?_)))
  refine fin_conv (l' := [(5, vI x2), (4, .slice none 0 0)]) (M' := Mem w0 (ow none ([] : List Int) 0 3 1 [] :: .blk b1 [.string k_0, sl A_k_1 k_1 c_k_1] 35 :: Fz F W :: cs)) rfl (fun w_ h => h.onil none 3 1) ?_
  refine fin_conv (l' := [(5, vI x2), (4, sl none ([] : List Int) 0)]) (M' := Mem w0 (ow none ([] : List Int) 0 3 1 [] :: .blk b1 [.string k_0, sl A_k_1 k_1 c_k_1] 35 :: Fz F W :: cs)) rfl (fun _ h => h) ?_
  have hq_ := Option.some.inj hp
  obtain ⟨hr0_, hq_⟩ := Prod.mk.inj hq_
  have hr1_ := hq_
  subst hr0_
  subst hr1_
  refine fin_ret [.tmp 4, .tmp 5] [sl none ([] : List Int) 0, vI x2] rfl rfl (fun w_ hM => (.tmp rfl (.tmp rfl .nil))) (fun w_ hM => ?_)
  exact ⟨none, 0, [], (RepL.nil (R := (Rep.int .i64))), rfl, hM.pick 3 [0, 2] (by kernel_rfl) (by decide) rfl⟩
 ·
  have hp := cnd_f hc4 hp
  refine st_skip (fin_then (st_seq (st_seq (st_region [oF 0, oF 1, oF 2, oF 3, oF 4, oF 5] (by rfl) ?_))))
  refine oQ [oF 0, oF 1, oF 2] [(17, vP b1 1), (16, vI (vals.length : Int)), (2, vP b1 0), (1, sl A_vals vals c_vals)] (by kernel_rfl) ?_
  refine ops_mem (d := some 18) (an := [.v (sl A_k_1 k_1 c_k_1)]) (evs := [ld b1 1 (sl A_k_1 k_1 c_k_1)]) (v := sl A_k_1 k_1 c_k_1) ⟨by kernel_rfl⟩ (fun w_ hM hS => ⟨w_, ⟨hM.cell 0 rfl rfl, rfl⟩, hM, trivial⟩) ?_
  refine oQ [oF 4, oF 5] [(20, .bool (!((vals.length : Int) == (k_1.length : Int)))), (2, vP b1 0), (1, sl A_vals vals c_vals)] (by kernel_rfl) ?_
  refine ops_nil (fin_then ?_)
  refine st_if (b := !((vals.length : Int) == (k_1.length : Int))) rfl (fun hc5 => ?_) (fun hc5 => ?_)
  ·
   have hp := cnd_t hc5 hp
   refine st_seq (st_region [oF 0, oF 1] (by rfl) ?_)
   refine oQ [oF 0, oF 1] [(5, vI 1), (4, .slice none 0 0)] (by kernel_rfl) ?_
   refine ops_nil (fin_then (st_ret (fin_ret_then ?_)))
   refine fin_conv (l' := [(5, vI 1), (4, .slice none 0 0)]) (M' := Mem w0 (ow none ([] : List Int) 0 3 1 [] :: .blk b1 [.string k_0, sl A_k_1 k_1 c_k_1] 35 :: Fz F W :: cs)) rfl (fun w_ h => h.onil none 3 1) ?_
   refine fin_conv (l' := [(5, vI 1), (4, sl none ([] : List Int) 0)]) (M' := Mem w0 (ow none ([] : List Int) 0 3 1 [] :: .blk b1 [.string k_0, sl A_k_1 k_1 c_k_1] 35 :: Fz F W :: cs)) rfl (fun _ h => h) ?_
   have hq_ := Option.some.inj hp
   obtain ⟨hr0_, hq_⟩ := Prod.mk.inj hq_
   have hr1_ := hq_
   subst hr0_
   subst hr1_
   refine fin_ret [.tmp 4, .tmp 5] [sl none ([] : List Int) 0, vI 1] rfl rfl (fun w_ hM => (.tmp rfl (.tmp rfl .nil))) (fun w_ hM => ?_)
   exact ⟨none, 0, [], (RepL.nil (R := (Rep.int .i64))), rfl, hM.pick 3 [0, 2] (by kernel_rfl) (by decide) rfl⟩
  ·
   have hp := cnd_f hc5 hp
   refine st_skip (fin_then (st_seq (st_region [oF 0, oF 1, oF 2, oF 3] (by rfl) ?_)))
   refine oQ [oF 0, oF 1] [(22, vI (vals.length : Int)), (2, vP b1 0), (1, sl A_vals vals c_vals)] (by kernel_rfl) ?_
   obtain ⟨l6, hv7, hp⟩ := obind hp
   obtain ⟨m8, hm9, he10, hb11⟩ := mk_some hv7
   have hl12 : l6.length = m8 := by rw [he10, List.length_replicate]
   obtain ⟨y13, hy14⟩ : ∃ y_, (Sx.madeOf [vI 0] (l6.length * 1)).toList = y_ := ⟨_, rfl⟩
   have h15 : RepL (Rep.int .i64) F W l6 y13 := by rw [← hy14, hl12, he10]; exact RepL.made rfl (by decide) _
   refine ops_makeO (t := 44) (x := (Go.Operand.tmp 22)) (y := (Go.Operand.tmp 22)) (d := some 23) (nn := l6.length) (z := 1) (bytes := 8) (xs := y13) (zv := vI 0) ⟨by kernel_rfl⟩ rfl rfl (by rw [hl12]; exact hm9) (by rw [hl12]; exact hm9) Tryd.underlying44 (by kernel_rfl) (by rw [hl12]; exact hb11) (by rfl) hy14 (fun _ _ _ hS h' => trivial) (fun g16 => ?_)
   refine oQ [oF 3] [(7, sl (sa g16) l6 l6.length), (2, vP b1 0), (1, sl A_vals vals c_vals)] (by kernel_rfl) ?_
   refine ops_nil (fin_then ?_)
   refine st_join1 (σ := (List Int) × (List Value)) (L := fun x_ => match x_ with | (l17, y18) => [(7, sl (sa g16) l17 l6.length)]) (N := fun x_ => match x_ with | (l17, y18) => Mem w0 (ow (sa g16) l17 l6.length 3 1 y18 :: Fz F W :: cs)) (I := fun x_ => match x_ with | (l17, y18) => (kind_Fit_j1 l17 = some (l9003, i9006)) ∧ (RepL (Rep.int .i64) F W l17 y18)) ?_ ?_
   ·
    rintro ⟨l17, y18⟩ ⟨hp, h19⟩
    unfold kind_Fit_j1 at hp
    refine st_seq (st_region [oF 0, oF 1, oF 2] (by rfl) ?_)
    refine oQ [oF 0, oF 1, oF 2] [(5, vI 0), (4, sl (sa g16) l17 l6.length)] (by kernel_rfl) ?_
    refine ops_nil (fin_then (st_ret ?_))
    have hq_ := Option.some.inj hp
    obtain ⟨hr0_, hq_⟩ := Prod.mk.inj hq_
    have hr1_ := hq_
    subst hr0_
    subst hr1_
    refine fin_ret [.tmp 4, .tmp 5] [sl (sa g16) l17 l6.length, vI 0] rfl rfl (fun w_ hM => (.tmp rfl (.tmp rfl .nil))) (fun w_ hM => ?_)
    exact ⟨(sa g16), l6.length, y18, h19, rfl, hM⟩
   ·
    intro HJ1
    refine st_seq (st_seq (st_region [oF 0, oF 1, oF 2, oF 3] (by rfl) ?_))
    refine oQ [oF 0] [(24, vP b1 1), (7, sl (sa g16) l6 l6.length), (1, sl A_vals vals c_vals)] (by kernel_rfl) ?_
    refine ops_mem (d := some 25) (an := [.v (sl A_k_1 k_1 c_k_1)]) (evs := [ld b1 1 (sl A_k_1 k_1 c_k_1)]) (v := sl A_k_1 k_1 c_k_1) ⟨by kernel_rfl⟩ (fun w_ hM hS => ⟨w_, ⟨hM.cell 1 rfl rfl, rfl⟩, hM, trivial⟩) ?_
    refine oQ [oF 2, oF 3] [(27, vI 0), (26, vI (k_1.length : Int)), (25, sl A_k_1 k_1 c_k_1), (7, sl (sa g16) l6 l6.length), (1, sl A_vals vals c_vals)] (by kernel_rfl) ?_
    refine ops_nil (fin_then (st_block ?_))
    obtain ⟨r2, hl2, hk2⟩ := obind hp
    refine st_loopP (σ := (List Int) × Int) (ρ := (List Int)) (γ := (List Value)) hl2 y13 (fun s_ g_ => match s_, g_ with | (l20, i23), y21 => [(1, sl A_vals vals c_vals), (7, sl (sa g16) l20 l6.length), (25, sl A_k_1 k_1 c_k_1), (26, vI (k_1.length : Int)), (27, vI i23)]) (fun s_ g_ => match s_, g_ with | (l20, i23), y21 => Mem w0 (ow (sa g16) l20 l6.length 3 1 y21 :: Fz F W :: cs)) (fun s_ g_ => match s_, g_ with | (l20, i23), y21 => (RepL (Rep.int .i64) F W l20 y21)) h15 (look_has ⟨rfl, rfl, rfl, rfl, rfl, trivial⟩) (fun w_ hM => hM.pick 3 [0, 2] (by kernel_rfl) (by decide) rfl) ?_
    rintro ⟨l20, i23⟩ y21 o2 h22 hs_ hd2
    have hp : (kind_Fit_l2 k_1 vals) l20 i23 = some o2 := hs_
    clear hs_
    unfold kind_Fit_l2 at hp
    refine st_seq (st_region [oF 0] (by rfl) ?_)
    refine oQ [oF 0] [(28, .bool (decide (i23 < (k_1.length : Int)))), (1, sl A_vals vals c_vals), (7, sl (sa g16) l20 l6.length), (25, sl A_k_1 k_1 c_k_1), (26, vI (k_1.length : Int)), (27, vI i23)] (by kernel_rfl) ?_
    refine ops_nil (fin_then (st_seq ?_))
    refine st_if (b := decide (i23 < (k_1.length : Int))) rfl (fun hc24 => ?_) (fun hc24 => ?_)
    ·
     have hp := cnd_t hc24 hp
     refine st_skip (fin_then (st_seq (st_block (st_seq (st_region [oF 0, oF 1, oF 2, oF 3, oF 4, oF 5] (by rfl) ?_)))))
     refine oQ [oF 0] [(29, vI i23), (1, sl A_vals vals c_vals), (7, sl (sa g16) l20 l6.length), (25, sl A_k_1 k_1 c_k_1), (26, vI (k_1.length : Int)), (27, vI i23)] (by kernel_rfl) ?_
     obtain ⟨x25, hv26, hp⟩ := obind hp
     obtain ⟨m27, hm28, hx29⟩ := idx_some hv26
     have hl32 := (List.getElem?_eq_some_iff.1 hx29).1
     obtain ⟨ad33, vs30, hA34, hr31, hq35⟩ := RdS.el h_k_1 hx29
     obtain rfl := dec_api_Field hr31
     refine ops_val (op := (.indexAddr 33 (.tmp 25) (.tmp 27))) (d := some 30) (v := .pointer (some (ad33.add (m27 * 3)))) ⟨by kernel_rfl⟩ (run_indexA hA34 Tryd.underlying33 (z := 3) (by kernel_rfl) rfl rfl hm28 hl32) ?_
     refine ops_mem (d := some 31) (an := [.v (.string x25.Name), .v (vI x25.Bits), .v (vI x25.Low)]) (evs := [.load (ad33.add (m27 * 3)) (.string x25.Name), .load ((ad33.add (m27 * 3)).add 1) (vI x25.Bits), .load ((ad33.add (m27 * 3)).add 2) (vI x25.Low)]) (v := .agg #[.string x25.Name, vI x25.Bits, vI x25.Low]) ⟨by kernel_rfl⟩ (fun w_ hM hS => ⟨w_, ⟨hM.elcell 1 rfl hq35 0 rfl, hM.elcell 1 rfl hq35 1 rfl, hM.elcell 1 rfl hq35 2 rfl, rfl⟩, hM, trivial⟩) ?_
     refine ops_newB (d := some 9) [.string ByteArray.empty, vI 0, vI 0] 32 (fun b36 => ⟨by kernel_rfl⟩) (fun w_ hM hS => trivial) (fun b36 => ?_)
     refine oQ [oF 4] [(8, vI i23), (9, vP b36 0), (31, .agg #[.string x25.Name, vI x25.Bits, vI x25.Low]), (1, sl A_vals vals c_vals), (7, sl (sa g16) l20 l6.length), (25, sl A_k_1 k_1 c_k_1), (26, vI (k_1.length : Int)), (27, vI i23)] (by kernel_rfl) ?_
     refine ops_store (an := []) (evs := [sr b36 0 (.string x25.Name), sr b36 1 (vI x25.Bits), sr b36 2 (vI x25.Low)]) ⟨by kernel_rfl⟩ (fun w_ hM hS => let ⟨w', he, h'⟩ := hM.evs_stores [.string x25.Name, vI x25.Bits, vI x25.Low] 0 rfl 0 (Nat.le_of_ble_eq_true rfl); ⟨w', he, h', trivial⟩) ?_
     refine ops_nil (fin_then ?_)
     refine st_region_draw [oT 0, oT 1, oT 2, oT 3, oT 4, oT 5, oT 6, oF 7, oT 8, oF 9] (Mem w0 (.blk b36 [.string x25.Name, vI x25.Bits, vI x25.Low] 32 :: Fz F W :: cs)) (by kernel_rfl) (by kernel_rfl) (by kernel_rfl) (fun _ d _ _ _ h => by cases d <;> exact h) (M' := Mem w0 (.blk b36 [.string x25.Name, vI x25.Bits, vI x25.Low] 32 :: ow (sa g16) l20 l6.length 3 1 y21 :: Fz F W :: cs)) (fun w_ hM => ⟨hM.drew, hM.drew.sub (.cons_cons _ (.cons _ (.cons_cons _ (.refl _))))⟩) ?_
     refine oQ [oT 0, oT 1] [(33, vI i23), (32, sl (sa g16) l20 l6.length), (8, vI i23), (9, vP b36 0), (1, sl A_vals vals c_vals), (7, sl (sa g16) l20 l6.length), (25, sl A_k_1 k_1 c_k_1), (26, vI (k_1.length : Int)), (27, vI i23)] (by kernel_rfl) ?_
     refine ops_load (d := some 34) (an := [.v (.string x25.Name), .v (vI x25.Bits), .v (vI x25.Low)]) (evs := [ld b36 0 (.string x25.Name), ld b36 1 (vI x25.Bits), ld b36 2 (vI x25.Low)]) (v := .agg #[.string x25.Name, vI x25.Bits, vI x25.Low]) ⟨by kernel_rfl⟩ (fun w_ hM => ⟨hM.cell 0 rfl rfl, hM.cell 0 rfl rfl, hM.cell 0 rfl rfl, rfl⟩) ?_
     refine oQ [oT 3, oT 4] [(36, vI i23), (35, sl A_vals vals c_vals), (34, .agg #[.string x25.Name, vI x25.Bits, vI x25.Low]), (33, vI i23), (32, sl (sa g16) l20 l6.length), (1, sl A_vals vals c_vals), (7, sl (sa g16) l20 l6.length), (25, sl A_k_1 k_1 c_k_1), (26, vI (k_1.length : Int)), (27, vI i23)] (by kernel_rfl) ?_
     obtain ⟨x37, hv38, hp⟩ := obind hp
     obtain ⟨m39, hm40, hx41⟩ := idx_some hv38
     have hl44 := (List.getElem?_eq_some_iff.1 hx41).1
     obtain ⟨ad45, vs42, hA46, hr43, hq47⟩ := RdS.el h_vals hx41
     obtain rfl := hr43
     refine ops_val (op := (.indexAddr 44 (.tmp 35) (.tmp 36))) (d := some 37) (v := .pointer (some (ad45.add (m39 * 1)))) ⟨by kernel_rfl⟩ (run_indexA hA46 Tryd.underlying44 (z := 1) (by kernel_rfl) rfl rfl hm40 hl44) ?_
     refine ops_load (d := some 38) (an := [.v (vI x37)]) (evs := [.load (ad45.add (m39 * 1)) (vI x37)]) (v := vI x37) ⟨by kernel_rfl⟩ (fun w_ hM => ⟨hM.elcell 1 rfl hq47 0 rfl, rfl⟩) ?_
     obtain ⟨x48, hv49, hp⟩ := obind hp
     refine ops_callI (σ := Unit) (d := some 39) (f := 107) (args := #[.agg #[.string x25.Name, vI x25.Bits, vI x25.Low], vI x37]) (v := (fun _ => vI x48)) (I := (fun _ => True)) (M' := (fun _ => Mem w0 (.blk b36 [.string x25.Name, vI x25.Bits, vI x25.Low] 32 :: ow (sa g16) l20 l6.length 3 1 y21 :: Fz F W :: cs))) ⟨by kernel_rfl⟩ (fun w_ hM hS => (kind_Near_ok w0 w_ (.blk b36 [.string x25.Name, vI x25.Bits, vI x25.Low] 32 :: ow (sa g16) l20 l6.length 3 1 y21 :: cs) F W x25.Name x25.Bits x25.Low x37 (hM.pick 3 [2, 0, 1] (by kernel_rfl) (by decide) rfl)  x48 hv49).mono (by rintro e w' ⟨-, rfl, h'⟩; have h' : Mem w0 (.blk b36 [.string x25.Name, vI x25.Bits, vI x25.Low] 32 :: ow (sa g16) l20 l6.length 3 1 y21 :: Fz F W :: cs) w' := (h'.pick 3 [1, 2, 0] (by kernel_rfl) (by decide) rfl); exact ⟨(), trivial, rfl, h', (by exact h'.sub (.cons_cons _ (.cons _ (.cons_cons _ (.refl _)))))⟩)) ?_
     rintro _ -
     obtain ⟨x50, hv51, hp⟩ := obind hp
     obtain ⟨m52, hm53, hx54⟩ := idx_some hv51
     have hl57 := (List.getElem?_eq_some_iff.1 hx54).1
     obtain ⟨vs55, hr56, hq58⟩ := h22.at_ m52 x50 hx54
     obtain rfl := hr56
     refine ops_val (op := (.indexAddr 44 (.tmp 32) (.tmp 33))) (d := some 40) (v := vP g16 (m52 * 1)) ⟨by kernel_rfl⟩ (run_indexRow Tryd.underlying44 (z := 1) (by kernel_rfl) rfl rfl hm53 hl57 rfl) ?_
     refine oQ [] [(40, vP g16 (m52 * 1)), (39, vI x48), (1, sl A_vals vals c_vals), (7, sl (sa g16) l20 l6.length), (25, sl A_k_1 k_1 c_k_1), (26, vI (k_1.length : Int)), (27, vI i23)] (by kernel_rfl) ?_
     obtain ⟨l59, hv60, hp⟩ := obind hp
     obtain ⟨m61, hm62, hl63, he64⟩ := upd_some hv60
     obtain rfl : m52 = m61 := by have := hm53; omega
     have hl65 : l20.length = l59.length := by rw [he64, List.length_set]
     obtain ⟨y66, hy67⟩ : ∃ y_, setAll y21 (m52 * 1 + 0) [vI x48] = y_ := ⟨_, rfl⟩
     have h68 : RepL (Rep.int .i64) F W l59 y66 := by rw [he64, ← hy67]; exact RepL.set h22 (List.getElem?_eq_getElem hl63) (fun vs_ hr_ _ => by obtain rfl := hr_; exact ⟨rfl, Nat.le_of_ble_eq_true rfl⟩)
     refine ops_store (an := []) (evs := [.store ⟨g16, m52 * 1, none⟩ (vI x48)]) ⟨by kernel_rfl⟩ (fun w_ hM hS => let ⟨w', he, h'⟩ := hM.ostore' 1 rfl (m52 * 1 + 0) [vI x48] (by have z_ : y21.length = l20.length * 1 := h22.len; have y_ : (m52 + 1) * 1 ≤ l20.length * 1 := Nat.mul_le_mul_right _ hl63; rw [Nat.add_mul] at y_; simp only [List.length_cons, List.length_nil]; omega) hl65 hy67; ⟨w', he, h', (by exact h'.sub (.cons_cons _ (.cons _ (.cons_cons _ (.refl _)))))⟩) ?_
     refine ops_conv (l' := [(40, vP g16 (m52 * 1)), (39, vI x48), (1, sl A_vals vals c_vals), (7, sl (sa g16) l59 l6.length), (25, sl A_k_1 k_1 c_k_1), (26, vI (k_1.length : Int)), (27, vI i23)]) (M' := Mem w0 (.blk b36 [.string x25.Name, vI x25.Bits, vI x25.Low] 32 :: ow (sa g16) l59 l6.length 3 1 y66 :: Fz F W :: cs)) (by first | rfl | ((try dsimp only [sl, ow]); rw [hl65])) (fun w_ hM => by first | exact hM | ((try dsimp only [sl, ow] at hM ⊢); rw [hl65] at hM; exact hM)) ?_
     refine ops_nil (fin_block (fin_then (st_region [oF 0, oF 1] (by rfl) ?_)))
     refine oQ [oF 0, oF 1] [(27, vI (IntKind.i64.wrap (i23 + 1))), (1, sl A_vals vals c_vals), (7, sl (sa g16) l59 l6.length), (25, sl A_k_1 k_1 c_k_1), (26, vI (k_1.length : Int))] (by kernel_rfl) ?_
     refine ops_nil ?_
     exact fin_again (l59, IntKind.i64.wrap (i23 + 1)) y66 (Option.some.inj hp).symm h68 (look_has ⟨rfl, rfl, rfl, rfl, rfl, trivial⟩) (fun w_ hM => hM.pick 3 [1, 2] (by kernel_rfl) (by decide) rfl)
    ·
     have hp := cnd_f hc24 hp
     refine st_exit (fin_exit_then (fin_exit_then (fin_exit ?_)))
     obtain hq_ := Option.some.inj hp
     subst hq_
     obtain hq_ := hd2 _ rfl
     subst hq_
     have hp : kind_Fit_j1 l20 = some (l9003, i9006) := hk2
     exact fin_join HJ1 (l20, y21) ⟨hp, h22⟩ (look_has ⟨rfl, trivial⟩) (fun w_ hM => hM)
theorem world_Fit_ok (w0 w : World) (cs : List Chunk) (F : Nat → Prop) (W : World) (A_k : Option Addr) (c_k : Nat) (k : List api_Kind) (A_l : Option Addr) (c_l : Nat) (l : List api_Comp) (hM0 : Mem w0 (Fz F W :: cs) w) (h_k : RdS R_api_Kind F W A_k c_k k) (h_l : RdS R_api_Comp F W A_l c_l l) (l9003 : List api_Comp) (i9006 : Int) (hp : world_Fit k l = some (l9003, i9006)) : Calls Tryd.prog 93 #[sl A_k k c_k, sl A_l l c_l] w fun e w' => ∃ (A9001 : Option Addr), ∃ (c9002 : Nat), ∃ (y9004 : List Value), ∃ (F9007 : Nat → Prop), ∃ (W9008 : World), ((RepL R_api_Comp F9007 W9008 l9003 y9004) ∧ (Ext w0 F W F9007 W9008)) ∧ e = .returned (.tuple #[sl A9001 l9003 c9002, vI i9006]) ∧ Mem w0 (ow A9001 l9003 c9002 135 2 y9004 :: Fz F9007 W9008 :: cs) w' := by
 unfold world_Fit at hp
 refine sx_calls Tryd.func93 rfl (n := 64) (by kernel_rfl) (l := [(0, sl A_k k c_k), (1, sl A_l l c_l)]) rfl (by rfl) hM0 ?_
 refine st_seq (st_region [oF 0, oF 1] (by rfl) ?_)
 refine oQ [oF 0, oF 1] [(0, sl A_k k c_k), (1, sl A_l l c_l)] (by kernel_rfl) ?_
 refine ops_nil (fin_then (st_seq (st_seq (st_region [oF 0, oF 1, oF 2] (by rfl) ?_))))
 refine oQ [oF 0] [(12, sl A_k k c_k), (0, sl A_k k c_k), (1, sl A_l l c_l)] (by kernel_rfl) ?_
 obtain ⟨x1, hv2, hp⟩ := obind hp
 refine ops_callI (σ := Unit) (d := some 13) (f := 50) (args := #[sl A_k k c_k]) (v := (fun _ => vI x1)) (I := (fun _ => True)) (M' := (fun _ => Mem w0 (Fz F W :: cs))) ⟨by kernel_rfl⟩ (fun w_ hM hS => (kind_Check_ok w0 w_ (cs) F W A_k c_k k hM h_k x1 hv2).mono (by rintro e w' ⟨-, rfl, h'⟩; have h' : Mem w0 (Fz F W :: cs) w' := h'; exact ⟨(), trivial, rfl, h', trivial⟩)) ?_
 rintro _ -
 refine oQ [oF 2] [(6, vI x1), (0, sl A_k k c_k), (1, sl A_l l c_l)] (by kernel_rfl) ?_
 refine ops_nil (fin_then (st_seq (st_region [oF 0, oF 1] (by rfl) ?_)))
 refine oQ [oF 0, oF 1] [(15, .bool (!(x1 == 0))), (6, vI x1), (0, sl A_k k c_k), (1, sl A_l l c_l)] (by kernel_rfl) ?_
 refine ops_nil (fin_then ?_)
 refine st_if (b := !(x1 == 0)) rfl (fun hc3 => ?_) (fun hc3 => ?_)
 ·
  have hp := cnd_t hc3 hp
  refine st_seq (st_region [oF 0, oF 1, oF 2] (by rfl) ?_)
  refine oQ [oF 0, oF 1, oF 2] [(5, vI x1), (4, .slice none 0 0)] (by kernel_rfl) ?_
  refine ops_nil (fin_then (st_ret (fin_ret_then ?_)))
  refine fin_conv (l' := [(5, vI x1), (4, .slice none 0 0)]) (M' := Mem w0 (ow none ([] : List api_Comp) 0 135 2 [] :: Fz F W :: cs)) rfl (fun w_ h => h.onil none 135 2) ?_
  refine fin_conv (l' := [(5, vI x1), (4, sl none ([] : List api_Comp) 0)]) (M' := Mem w0 (ow none ([] : List api_Comp) 0 135 2 [] :: Fz F W :: cs)) rfl (fun _ h => h) ?_
  have hq_ := Option.some.inj hp
  obtain ⟨hr0_, hq_⟩ := Prod.mk.inj hq_
  have hr1_ := hq_
  subst hr0_
  subst hr1_
  refine fin_ret [.tmp 4, .tmp 5] [sl none ([] : List api_Comp) 0, vI x1] rfl rfl (fun w_ hM => (.tmp rfl (.tmp rfl .nil))) (fun w_ hM => ?_)
  exact ⟨none, 0, [], F, W, ⟨(RepL.nil (R := R_api_Comp)), (Ext.refl _ _ _)⟩, rfl, hM⟩
 ·
  have hp := cnd_f hc3 hp
  refine st_skip (fin_then (st_seq (st_region [oF 0] (by rfl) ?_)))
  refine oQ [oF 0] [(7, .slice none 0 0), (0, sl A_k k c_k), (1, sl A_l l c_l)] (by kernel_rfl) ?_
  refine ops_nil (fin_then ?_)
  refine st_join1 (σ := (Option Addr) × Nat × (List api_Comp) × (List Value) × (Nat → Prop) × World) (L := fun x_ => match x_ with | (A4, c5, l6, y7, F9, W10) => [(7, sl A4 l6 c5)]) (N := fun x_ => match x_ with | (A4, c5, l6, y7, F9, W10) => Mem w0 (ow A4 l6 c5 135 2 y7 :: Fz F9 W10 :: cs)) (I := fun x_ => match x_ with | (A4, c5, l6, y7, F9, W10) => (world_Fit_j1 l6 = some (l9003, i9006)) ∧ (RepL R_api_Comp F9 W10 l6 y7) ∧ (Ext w0 F W F9 W10)) ?_ ?_
  ·
   rintro ⟨A4, c5, l6, y7, F9, W10⟩ ⟨hp, h8, hx1⟩
   unfold world_Fit_j1 at hp
   refine st_seq (st_region [oF 0, oF 1] (by rfl) ?_)
   refine oQ [oF 0] [(61, sl A4 l6 c5), (7, sl A4 l6 c5)] (by kernel_rfl) ?_
   obtain ⟨x11, hv12, hp⟩ := obind hp
   refine ops_callI (σ := (List Value)) (d := some 62) (f := 132) (args := #[sl A4 l6 c5, .func (.func 133) #[] #[]]) (v := (fun x_ => match x_ with | y13 => .tuple #[])) (I := (fun x_ => match x_ with | y13 => (RepL R_api_Comp F9 W10 x11 y13) ∧ (x11.length = l6.length))) (M' := (fun x_ => match x_ with | y13 => Mem w0 (ow A4 x11 c5 135 2 y13 :: Fz F9 W10 :: cs))) ⟨by kernel_rfl⟩ (fun w_ hM hS => (slices_SortFunc_api_Comp_api_Comp_ok w0 w_ (cs) F9 W10 A4 c5 l6 y7 hM h8 x11 hv12).mono (by rintro e w' ⟨y13, ⟨h14, h15⟩, rfl, h'⟩; have h' : Mem w0 (ow A4 x11 c5 135 2 y13 :: Fz F9 W10 :: cs) w' := h'; exact ⟨y13, ⟨h14, h15⟩, rfl, h', trivial⟩)) ?_
   rintro y13 ⟨h14, h15⟩
   refine ops_conv (l' := [(62, .tuple #[]), (61, sl A4 x11 c5), (7, sl A4 x11 c5)]) (M' := Mem w0 (ow A4 x11 c5 135 2 y13 :: Fz F9 W10 :: cs)) (by first | rfl | ((try dsimp only [sl, ow]); rw [h15]; done) | ((try dsimp only [sl, ow]); rw [h15]; rfl)) (fun _ h => h) ?_
   refine ops_nil (fin_then (st_seq (st_region [oF 0, oF 1, oF 2] (by rfl) ?_)))
   refine oQ [oF 0, oF 1, oF 2] [(5, vI 0), (4, sl A4 x11 c5)] (by kernel_rfl) ?_
   refine ops_nil (fin_then (st_ret ?_))
   have hq_ := Option.some.inj hp
   obtain ⟨hr0_, hq_⟩ := Prod.mk.inj hq_
   have hr1_ := hq_
   subst hr0_
   subst hr1_
   refine fin_ret [.tmp 4, .tmp 5] [sl A4 x11 c5, vI 0] rfl rfl (fun w_ hM => (.tmp rfl (.tmp rfl .nil))) (fun w_ hM => ?_)
   exact ⟨A4, c5, y13, F9, W10, ⟨h14, hx1⟩, rfl, hM⟩
  ·
   intro HJ1
   refine st_seq (st_seq (st_region [oF 0, oF 1, oF 2] (by rfl) ?_))
   refine oQ [oF 0, oF 1, oF 2] [(19, vI 0), (18, vI (l.length : Int)), (17, sl A_l l c_l), (7, .slice none 0 0), (0, sl A_k k c_k), (1, sl A_l l c_l)] (by kernel_rfl) ?_
   refine ops_nil (fin_then (st_block ?_))
   refine st_conv (l' := [(19, vI 0), (18, vI (l.length : Int)), (17, sl A_l l c_l), (7, .slice none 0 0), (0, sl A_k k c_k), (1, sl A_l l c_l)]) (M' := Mem w0 (ow none ([] : List api_Comp) 0 135 2 [] :: Fz F W :: cs)) rfl (fun w_ h => h.onil none 135 2) ?_
   obtain ⟨r2, hl2, hk2⟩ := obind hp
   refine st_loopP (σ := (List api_Comp) × Int) (ρ := (((List api_Comp) × Int) ⊕ (List api_Comp))) (γ := (Option Addr) × Nat × (List Value) × (Nat → Prop) × World) hl2 (none, 0, [], F, W) (fun s_ g_ => match s_, g_ with | (l18, i21), (A16, c17, y19, F22, W23) => [(0, sl A_k k c_k), (1, sl A_l l c_l), (7, sl A16 l18 c17), (17, sl A_l l c_l), (18, vI (l.length : Int)), (19, vI i21)]) (fun s_ g_ => match s_, g_ with | (l18, i21), (A16, c17, y19, F22, W23) => Mem w0 (ow A16 l18 c17 135 2 y19 :: Fz F22 W23 :: cs)) (fun s_ g_ => match s_, g_ with | (l18, i21), (A16, c17, y19, F22, W23) => (RepL R_api_Comp F22 W23 l18 y19) ∧ (Ext w0 F W F22 W23)) ⟨(RepL.nil (R := R_api_Comp)), (Ext.refl _ _ _)⟩ (look_has ⟨rfl, rfl, rfl, rfl, rfl, rfl, trivial⟩) (fun w_ hM => hM) ?_
   rintro ⟨l18, i21⟩ ⟨A16, c17, y19, F22, W23⟩ o2 ⟨h20, hx2⟩ hs_ hd2
   have hp : (world_Fit_l2 l k) l18 i21 = some o2 := hs_
   clear hs_
   unfold world_Fit_l2 at hp
   have h_k := h_k.ext hx2
   have h_l := h_l.ext hx2
   refine st_seq (st_region [oF 0] (by rfl) ?_)
   refine oQ [oF 0] [(20, .bool (decide (i21 < (l.length : Int)))), (0, sl A_k k c_k), (1, sl A_l l c_l), (7, sl A16 l18 c17), (17, sl A_l l c_l), (18, vI (l.length : Int)), (19, vI i21)] (by kernel_rfl) ?_
   refine ops_nil (fin_then (st_seq ?_))
   refine st_if (b := decide (i21 < (l.length : Int))) rfl (fun hc24 => ?_) (fun hc24 => ?_)
   ·
    have hp := cnd_t hc24 hp
    refine st_skip (fin_then (st_seq (st_block (st_seq (st_region [oF 0, oF 1, oF 2, oF 3, oF 4, oF 5] (by rfl) ?_)))))
    refine oQ [oF 0] [(21, vI i21), (0, sl A_k k c_k), (1, sl A_l l c_l), (7, sl A16 l18 c17), (17, sl A_l l c_l), (18, vI (l.length : Int)), (19, vI i21)] (by kernel_rfl) ?_
    obtain ⟨x25, hv26, hp⟩ := obind hp
    obtain ⟨m27, hm28, hx29⟩ := idx_some hv26
    have hl32 := (List.getElem?_eq_some_iff.1 hx29).1
    obtain ⟨ad33, vs30, hA34, hr31, hq35⟩ := RdS.el h_l hx29
    obtain ⟨A36, c37, rfl, h38⟩ := dec_api_Comp hr31
    refine ops_val (op := (.indexAddr 94 (.tmp 17) (.tmp 19))) (d := some 22) (v := .pointer (some (ad33.add (m27 * 2)))) ⟨by kernel_rfl⟩ (run_indexA hA34 Tryd.underlying94 (z := 2) (by kernel_rfl) rfl rfl hm28 hl32) ?_
    refine ops_mem (d := some 23) (an := [.v (vI x25.Kind), .v (sl A36 x25.Vals c37)]) (evs := [.load (ad33.add (m27 * 2)) (vI x25.Kind), .load ((ad33.add (m27 * 2)).add 1) (sl A36 x25.Vals c37)]) (v := .agg #[vI x25.Kind, sl A36 x25.Vals c37]) ⟨by kernel_rfl⟩ (fun w_ hM hS => ⟨w_, ⟨hM.elcell 1 rfl hq35 0 rfl, hM.elcell 1 rfl hq35 1 rfl, rfl⟩, hM, trivial⟩) ?_
    refine ops_newB (d := some 9) [vI 0, .slice none 0 0] 135 (fun b39 => ⟨by kernel_rfl⟩) (fun w_ hM hS => trivial) (fun b39 => ?_)
    refine oQ [oF 4] [(8, vI i21), (9, vP b39 0), (23, .agg #[vI x25.Kind, sl A36 x25.Vals c37]), (0, sl A_k k c_k), (1, sl A_l l c_l), (7, sl A16 l18 c17), (17, sl A_l l c_l), (18, vI (l.length : Int)), (19, vI i21)] (by kernel_rfl) ?_
    refine ops_store (an := []) (evs := [sr b39 0 (vI x25.Kind), sr b39 1 (sl A36 x25.Vals c37)]) ⟨by kernel_rfl⟩ (fun w_ hM hS => let ⟨w', he, h'⟩ := hM.evs_stores [vI x25.Kind, sl A36 x25.Vals c37] 0 rfl 0 (Nat.le_of_ble_eq_true rfl); ⟨w', he, h', trivial⟩) ?_
    refine ops_nil (fin_then (st_seq (st_seq (st_region [oF 0, oF 1, oF 2, oF 3, oF 4, oF 5, oF 6, oF 7, oF 8, oF 9] (by rfl) ?_))))
    refine oQ [oF 0] [(24, vP b39 0), (8, vI i21), (9, vP b39 0), (0, sl A_k k c_k), (1, sl A_l l c_l), (7, sl A16 l18 c17), (17, sl A_l l c_l), (18, vI (l.length : Int)), (19, vI i21)] (by kernel_rfl) ?_
    refine ops_mem (d := some 25) (an := [.v (vI x25.Kind)]) (evs := [ld b39 0 (vI x25.Kind)]) (v := vI x25.Kind) ⟨by kernel_rfl⟩ (fun w_ hM hS => ⟨w_, ⟨hM.cell 0 rfl rfl, rfl⟩, hM, trivial⟩) ?_
    refine oQ [oF 2, oF 3] [(27, .bool (decide (x25.Kind < 0))), (8, vI i21), (9, vP b39 0), (0, sl A_k k c_k), (1, sl A_l l c_l), (7, sl A16 l18 c17), (17, sl A_l l c_l), (18, vI (l.length : Int)), (19, vI i21)] (by kernel_rfl) ?_
    refine ops_bool (t := decide (x25.Kind < 0)) (l1 := [(27, .bool true), (8, vI i21), (9, vP b39 0), (0, sl A_k k c_k), (1, sl A_l l c_l), (7, sl A16 l18 c17), (17, sl A_l l c_l), (18, vI (l.length : Int)), (19, vI i21)]) (l2 := [(27, .bool false), (8, vI i21), (9, vP b39 0), (0, sl A_k k c_k), (1, sl A_l l c_l), (7, sl A16 l18 c17), (17, sl A_l l c_l), (18, vI (l.length : Int)), (19, vI i21)]) (fun h => by rw [h]) (fun h => by rw [h]) (fun hc40 => ?_) (fun hc40 => ?_)
    ·
     have hp := cnd_t hc40 hp
     refine oQ [oF 4, oF 5, oF 6, oF 7, oF 8, oF 9] [(33, .bool true), (8, vI i21), (9, vP b39 0), (0, sl A_k k c_k), (1, sl A_l l c_l), (7, sl A16 l18 c17), (17, sl A_l l c_l), (18, vI (l.length : Int)), (19, vI i21)] (by kernel_rfl) ?_
     refine ops_nil (fin_then (st_true rfl (st_seq (st_region [oF 0, oF 1] (by rfl) ?_))))
     refine oQ [oF 0, oF 1] [(5, vI 1), (4, .slice none 0 0)] (by kernel_rfl) ?_
     refine ops_nil (fin_then (st_ret (fin_ret_then (fin_ret_block (fin_ret_then (fin_ret_then (fin_ret_block (fin_ret_then ?_))))))))
     refine fin_conv (l' := [(5, vI 1), (4, .slice none 0 0)]) (M' := Mem w0 (ow none ([] : List api_Comp) 0 135 2 [] :: .blk b39 [vI x25.Kind, sl A36 x25.Vals c37] 135 :: ow A16 l18 c17 135 2 y19 :: Fz F22 W23 :: cs)) rfl (fun w_ h => h.onil none 135 2) ?_
     refine fin_conv (l' := [(5, vI 1), (4, sl none ([] : List api_Comp) 0)]) (M' := Mem w0 (ow none ([] : List api_Comp) 0 135 2 [] :: .blk b39 [vI x25.Kind, sl A36 x25.Vals c37] 135 :: ow A16 l18 c17 135 2 y19 :: Fz F22 W23 :: cs)) rfl (fun _ h => h) ?_
     obtain hq_ := Option.some.inj hp
     subst hq_
     obtain hq_ := hd2 _ rfl
     subst hq_
     have hp : some (([] : List api_Comp), 1) = some (l9003, i9006) := hk2
     have hq_ := Option.some.inj hp
     obtain ⟨hr0_, hq_⟩ := Prod.mk.inj hq_
     have hr1_ := hq_
     subst hr0_
     subst hr1_
     refine fin_ret [.tmp 4, .tmp 5] [sl none ([] : List api_Comp) 0, vI 1] rfl rfl (fun w_ hM => (.tmp rfl (.tmp rfl .nil))) (fun w_ hM => ?_)
     exact ⟨none, 0, [], F22, W23, ⟨(RepL.nil (R := R_api_Comp)), hx2⟩, rfl, hM.pick 4 [0, 3] (by kernel_rfl) (by decide) rfl⟩
    ·
     have hp := cnd_f hc40 hp
     refine oQ [oF 4] [(28, vP b39 0), (27, .bool false), (8, vI i21), (9, vP b39 0), (0, sl A_k k c_k), (1, sl A_l l c_l), (7, sl A16 l18 c17), (17, sl A_l l c_l), (18, vI (l.length : Int)), (19, vI i21)] (by kernel_rfl) ?_
     refine ops_mem (d := some 29) (an := [.v (vI x25.Kind)]) (evs := [ld b39 0 (vI x25.Kind)]) (v := vI x25.Kind) ⟨by kernel_rfl⟩ (fun w_ hM hS => ⟨w_, ⟨hM.cell 0 rfl rfl, rfl⟩, hM, trivial⟩) ?_
     refine oQ [oF 6, oF 7, oF 8, oF 9] [(33, .bool (decide ((k.length : Int) ≤ x25.Kind))), (8, vI i21), (9, vP b39 0), (0, sl A_k k c_k), (1, sl A_l l c_l), (7, sl A16 l18 c17), (17, sl A_l l c_l), (18, vI (l.length : Int)), (19, vI i21)] (by kernel_rfl) ?_
     refine ops_nil (fin_then ?_)
     refine st_if (b := decide ((k.length : Int) ≤ x25.Kind)) rfl (fun hc41 => ?_) (fun hc41 => ?_)
     ·
      have hp := cnd_t hc41 hp
      refine st_seq (st_region [oF 0, oF 1] (by rfl) ?_)
      refine oQ [oF 0, oF 1] [(5, vI 1), (4, .slice none 0 0)] (by kernel_rfl) ?_
      refine ops_nil (fin_then (st_ret (fin_ret_then (fin_ret_block (fin_ret_then (fin_ret_then (fin_ret_block (fin_ret_then ?_))))))))
      refine fin_conv (l' := [(5, vI 1), (4, .slice none 0 0)]) (M' := Mem w0 (ow none ([] : List api_Comp) 0 135 2 [] :: .blk b39 [vI x25.Kind, sl A36 x25.Vals c37] 135 :: ow A16 l18 c17 135 2 y19 :: Fz F22 W23 :: cs)) rfl (fun w_ h => h.onil none 135 2) ?_
      refine fin_conv (l' := [(5, vI 1), (4, sl none ([] : List api_Comp) 0)]) (M' := Mem w0 (ow none ([] : List api_Comp) 0 135 2 [] :: .blk b39 [vI x25.Kind, sl A36 x25.Vals c37] 135 :: ow A16 l18 c17 135 2 y19 :: Fz F22 W23 :: cs)) rfl (fun _ h => h) ?_
      obtain hq_ := Option.some.inj hp
      subst hq_
      obtain hq_ := hd2 _ rfl
      subst hq_
      have hp : some (([] : List api_Comp), 1) = some (l9003, i9006) := hk2
      have hq_ := Option.some.inj hp
      obtain ⟨hr0_, hq_⟩ := Prod.mk.inj hq_
      have hr1_ := hq_
      subst hr0_
      subst hr1_
      refine fin_ret [.tmp 4, .tmp 5] [sl none ([] : List api_Comp) 0, vI 1] rfl rfl (fun w_ hM => (.tmp rfl (.tmp rfl .nil))) (fun w_ hM => ?_)
      exact ⟨none, 0, [], F22, W23, ⟨(RepL.nil (R := R_api_Comp)), hx2⟩, rfl, hM.pick 4 [0, 3] (by kernel_rfl) (by decide) rfl⟩
     ·
      have hp := cnd_f hc41 hp
      refine st_skip (fin_then (st_seq (st_seq (st_region [oF 0, oF 1, oF 2, oF 3, oF 4] (by rfl) ?_))))
      refine oQ [oF 0, oF 1] [(35, vI i21), (34, sl A_l l c_l), (9, vP b39 0), (0, sl A_k k c_k), (1, sl A_l l c_l), (7, sl A16 l18 c17), (17, sl A_l l c_l), (18, vI (l.length : Int)), (19, vI i21)] (by kernel_rfl) ?_
      obtain ⟨l42, hv43, hp⟩ := obind hp
      obtain ⟨m44, n45, hm46, hn47, h48, h49, he50⟩ := cut_some hv43
      have hl51 := cut_len he50 h48 h49
      have h52 : RdS R_api_Comp F22 W23 A_l c_l l42 := by have h_ := h_l.cut h48 h49; rw [← he50] at h_; rw [show m44 = 0 by omega, cutA_zero, Nat.sub_zero] at h_; exact h_
      refine ops_val (op := (.slice 94 (.tmp 34) none (some (.tmp 35)) none)) (d := some 36) (v := sl A_l l42 c_l) ⟨by kernel_rfl⟩ (run_cutH0 (by kernel_rfl) (z := 2) (by kernel_rfl) rfl rfl hn47 (Nat.le_trans h49 h_l.cap) (by omega)) ?_
      refine oQ [oF 3] [(37, .func (.func 130) #[] #[vP b39 0]), (36, sl A_l l42 c_l), (9, vP b39 0), (0, sl A_k k c_k), (1, sl A_l l c_l), (7, sl A16 l18 c17), (17, sl A_l l c_l), (18, vI (l.length : Int)), (19, vI i21)] (by kernel_rfl) ?_
      obtain ⟨x53, hv54, hp⟩ := obind hp
      refine ops_callI (σ := Unit) (d := some 38) (f := 129) (args := #[sl A_l l42 c_l, .func (.func 130) #[] #[vP b39 0]]) (v := (fun _ => .bool x53)) (I := (fun _ => (RdS (Rep.int .i64) F22 W23 A36 c37 x25.Vals))) (M' := (fun _ => Mem w0 (.blk b39 [vI x25.Kind, sl A36 x25.Vals c37] 135 :: ow A16 l18 c17 135 2 y19 :: Fz F22 W23 :: cs))) ⟨by kernel_rfl⟩ (fun w_ hM hS => (slices_ContainsFunc_api_Comp_api_Comp_ok w0 w_ (ow A16 l18 c17 135 2 y19 :: cs) F22 W23 A_l c_l l42 b39 x25.Kind A36 c37 x25.Vals (hM.pick 3 [0, 2, 1] (by kernel_rfl) (by decide) rfl) h52 h38 x53 hv54).mono (by rintro e w' ⟨h55, rfl, h'⟩; have h' : Mem w0 (.blk b39 [vI x25.Kind, sl A36 x25.Vals c37] 135 :: ow A16 l18 c17 135 2 y19 :: Fz F22 W23 :: cs) w' := (h'.pick 3 [0, 2, 1] (by kernel_rfl) (by decide) rfl); exact ⟨(), h55, rfl, h', trivial⟩)) ?_
      rintro _ h55
      refine ops_nil (fin_then ?_)
      refine st_if (b := x53) rfl (fun hc56 => ?_) (fun hc56 => ?_)
      ·
       have hp := cnd_t hc56 hp
       refine st_seq (st_region [oF 0, oF 1] (by rfl) ?_)
       refine oQ [oF 0, oF 1] [(5, vI 5), (4, .slice none 0 0)] (by kernel_rfl) ?_
       refine ops_nil (fin_then (st_ret (fin_ret_then (fin_ret_block (fin_ret_then (fin_ret_then (fin_ret_block (fin_ret_then ?_))))))))
       refine fin_conv (l' := [(5, vI 5), (4, .slice none 0 0)]) (M' := Mem w0 (ow none ([] : List api_Comp) 0 135 2 [] :: .blk b39 [vI x25.Kind, sl A36 x25.Vals c37] 135 :: ow A16 l18 c17 135 2 y19 :: Fz F22 W23 :: cs)) rfl (fun w_ h => h.onil none 135 2) ?_
       refine fin_conv (l' := [(5, vI 5), (4, sl none ([] : List api_Comp) 0)]) (M' := Mem w0 (ow none ([] : List api_Comp) 0 135 2 [] :: .blk b39 [vI x25.Kind, sl A36 x25.Vals c37] 135 :: ow A16 l18 c17 135 2 y19 :: Fz F22 W23 :: cs)) rfl (fun _ h => h) ?_
       obtain hq_ := Option.some.inj hp
       subst hq_
       obtain hq_ := hd2 _ rfl
       subst hq_
       have hp : some (([] : List api_Comp), 5) = some (l9003, i9006) := hk2
       have hq_ := Option.some.inj hp
       obtain ⟨hr0_, hq_⟩ := Prod.mk.inj hq_
       have hr1_ := hq_
       subst hr0_
       subst hr1_
       refine fin_ret [.tmp 4, .tmp 5] [sl none ([] : List api_Comp) 0, vI 5] rfl rfl (fun w_ hM => (.tmp rfl (.tmp rfl .nil))) (fun w_ hM => ?_)
       exact ⟨none, 0, [], F22, W23, ⟨(RepL.nil (R := R_api_Comp)), hx2⟩, rfl, hM.pick 4 [0, 3] (by kernel_rfl) (by decide) rfl⟩
      ·
       have hp := cnd_f hc56 hp
       refine st_skip (fin_then (st_seq ?_))
       refine st_region_draw [oT 0, oT 1, oT 2, oT 3, oT 4, oT 5, oT 6, oF 7, oT 8, oT 9, oT 10, oT 11, oT 12] (Mem w0 (.blk b39 [vI x25.Kind, sl A36 x25.Vals c37] 135 :: ow A16 l18 c17 135 2 y19 :: Fz F22 W23 :: cs)) (by kernel_rfl) (by kernel_rfl) (by kernel_rfl) (fun _ d _ _ _ h => by cases d <;> exact h) (M' := Mem w0 (.blk b39 [vI x25.Kind, sl A36 x25.Vals c37] 135 :: ow A16 l18 c17 135 2 y19 :: Fz F22 W23 :: cs)) (fun w_ hM => ⟨hM.drew, hM.drew.sub (.cons_cons _ (.cons_cons _ (.cons_cons _ (.refl _))))⟩) ?_
       refine oQ [oT 0, oT 1] [(41, vP b39 0), (40, sl A_k k c_k), (9, vP b39 0), (0, sl A_k k c_k), (1, sl A_l l c_l), (7, sl A16 l18 c17), (17, sl A_l l c_l), (18, vI (l.length : Int)), (19, vI i21)] (by kernel_rfl) ?_
       refine ops_load (d := some 42) (an := [.v (vI x25.Kind)]) (evs := [ld b39 0 (vI x25.Kind)]) (v := vI x25.Kind) ⟨by kernel_rfl⟩ (fun w_ hM => ⟨hM.cell 0 rfl rfl, rfl⟩) ?_
       obtain ⟨x57, hv58, hp⟩ := obind hp
       obtain ⟨m59, hm60, hx61⟩ := idx_some hv58
       have hl64 := (List.getElem?_eq_some_iff.1 hx61).1
       obtain ⟨ad65, vs62, hA66, hr63, hq67⟩ := RdS.el h_k hx61
       obtain ⟨A68, c69, rfl, h70⟩ := dec_api_Kind hr63
       refine ops_val (op := (.indexAddr 22 (.tmp 40) (.tmp 42))) (d := some 43) (v := .pointer (some (ad65.add (m59 * 2)))) ⟨by kernel_rfl⟩ (run_indexA hA66 Tryd.underlying22 (z := 2) (by kernel_rfl) rfl rfl hm60 hl64) ?_
       refine ops_load (d := some 44) (an := [.v (.string x57.Name), .v (sl A68 x57.Fields c69)]) (evs := [.load (ad65.add (m59 * 2)) (.string x57.Name), .load ((ad65.add (m59 * 2)).add 1) (sl A68 x57.Fields c69)]) (v := .agg #[.string x57.Name, sl A68 x57.Fields c69]) ⟨by kernel_rfl⟩ (fun w_ hM => ⟨hM.elcell 2 rfl hq67 0 rfl, hM.elcell 2 rfl hq67 1 rfl, rfl⟩) ?_
       refine oQ [oT 5] [(45, vP b39 1), (44, .agg #[.string x57.Name, sl A68 x57.Fields c69]), (9, vP b39 0), (0, sl A_k k c_k), (1, sl A_l l c_l), (7, sl A16 l18 c17), (17, sl A_l l c_l), (18, vI (l.length : Int)), (19, vI i21)] (by kernel_rfl) ?_
       refine ops_load (d := some 46) (an := [.v (sl A36 x25.Vals c37)]) (evs := [ld b39 1 (sl A36 x25.Vals c37)]) (v := sl A36 x25.Vals c37) ⟨by kernel_rfl⟩ (fun w_ hM => ⟨hM.cell 0 rfl rfl, rfl⟩) ?_
       obtain ⟨x71, x72, hv73, hp⟩ := obind2 hp
       refine ops_callI (σ := (Option Addr) × Nat × (List Value)) (d := some 47) (f := 131) (args := #[.agg #[.string x57.Name, sl A68 x57.Fields c69], sl A36 x25.Vals c37]) (v := (fun x_ => match x_ with | (A74, c75, y76) => .tuple #[sl A74 x71 c75, vI x72])) (I := (fun x_ => match x_ with | (A74, c75, y76) => (RepL (Rep.int .i64) F22 W23 x71 y76))) (M' := (fun x_ => match x_ with | (A74, c75, y76) => Mem w0 (ow A74 x71 c75 3 1 y76 :: .blk b39 [vI x25.Kind, sl A36 x25.Vals c37] 135 :: ow A16 l18 c17 135 2 y19 :: Fz F22 W23 :: cs))) ⟨by kernel_rfl⟩ (fun w_ hM hS => (kind_Fit_ok w0 w_ (.blk b39 [vI x25.Kind, sl A36 x25.Vals c37] 135 :: ow A16 l18 c17 135 2 y19 :: cs) F22 W23 x57.Name A68 c69 x57.Fields A36 c37 x25.Vals (hM.pick 3 [2, 0, 1] (by kernel_rfl) (by decide) rfl) h70 h55 x71 x72 hv73).mono (by rintro e w' ⟨A74, c75, y76, h77, rfl, h'⟩; have h' : Mem w0 (ow A74 x71 c75 3 1 y76 :: .blk b39 [vI x25.Kind, sl A36 x25.Vals c37] 135 :: ow A16 l18 c17 135 2 y19 :: Fz F22 W23 :: cs) w' := (h'.pick 4 [0, 2, 3, 1] (by kernel_rfl) (by decide) rfl); exact ⟨(A74, c75, y76), h77, rfl, h', (by exact h'.sub (.cons _ (.cons_cons _ (.cons_cons _ (.cons_cons _ (.refl _))))))⟩)) ?_
       rintro ⟨A74, c75, y76⟩ h77
       refine oQ [oT 8, oT 9, oT 10, oT 11, oT 12] [(11, vI x72), (10, sl A74 x71 c75), (9, vP b39 0), (0, sl A_k k c_k), (1, sl A_l l c_l), (7, sl A16 l18 c17), (17, sl A_l l c_l), (18, vI (l.length : Int)), (19, vI i21)] (by kernel_rfl) ?_
       refine ops_nil (fin_then (st_seq (st_seq (st_region [oF 0, oF 1] (by rfl) ?_))))
       refine oQ [oF 0, oF 1] [(51, .bool (!(x72 == 0))), (11, vI x72), (10, sl A74 x71 c75), (9, vP b39 0), (0, sl A_k k c_k), (1, sl A_l l c_l), (7, sl A16 l18 c17), (17, sl A_l l c_l), (18, vI (l.length : Int)), (19, vI i21)] (by kernel_rfl) ?_
       refine ops_nil (fin_then ?_)
       refine st_if (b := !(x72 == 0)) rfl (fun hc78 => ?_) (fun hc78 => ?_)
       ·
        have hp := cnd_t hc78 hp
        refine st_seq (st_region [oF 0, oF 1, oF 2] (by rfl) ?_)
        refine oQ [oF 0, oF 1, oF 2] [(5, vI x72), (4, .slice none 0 0)] (by kernel_rfl) ?_
        refine ops_nil (fin_then (st_ret (fin_ret_then (fin_ret_block (fin_ret_then (fin_ret_then (fin_ret_block (fin_ret_then ?_))))))))
        refine fin_conv (l' := [(5, vI x72), (4, .slice none 0 0)]) (M' := Mem w0 (ow none ([] : List api_Comp) 0 135 2 [] :: ow A74 x71 c75 3 1 y76 :: .blk b39 [vI x25.Kind, sl A36 x25.Vals c37] 135 :: ow A16 l18 c17 135 2 y19 :: Fz F22 W23 :: cs)) rfl (fun w_ h => h.onil none 135 2) ?_
        refine fin_conv (l' := [(5, vI x72), (4, sl none ([] : List api_Comp) 0)]) (M' := Mem w0 (ow none ([] : List api_Comp) 0 135 2 [] :: ow A74 x71 c75 3 1 y76 :: .blk b39 [vI x25.Kind, sl A36 x25.Vals c37] 135 :: ow A16 l18 c17 135 2 y19 :: Fz F22 W23 :: cs)) rfl (fun _ h => h) ?_
        obtain hq_ := Option.some.inj hp
        subst hq_
        obtain hq_ := hd2 _ rfl
        subst hq_
        have hp : some (([] : List api_Comp), x72) = some (l9003, i9006) := hk2
        have hq_ := Option.some.inj hp
        obtain ⟨hr0_, hq_⟩ := Prod.mk.inj hq_
        have hr1_ := hq_
        subst hr0_
        subst hr1_
        refine fin_ret [.tmp 4, .tmp 5] [sl none ([] : List api_Comp) 0, vI x72] rfl rfl (fun w_ hM => (.tmp rfl (.tmp rfl .nil))) (fun w_ hM => ?_)
        exact ⟨none, 0, [], F22, W23, ⟨(RepL.nil (R := R_api_Comp)), hx2⟩, rfl, hM.pick 5 [0, 4] (by kernel_rfl) (by decide) rfl⟩
       ·
        have hp := cnd_f hc78 hp
        refine st_skip (fin_then (st_region [oF 0, oF 1, oF 2, oF 3, oF 4, oF 5, oF 6, oF 7] (by rfl) ?_))
        refine oQ [oF 0, oF 1] [(54, vP b39 0), (53, sl A16 l18 c17), (10, sl A74 x71 c75), (0, sl A_k k c_k), (1, sl A_l l c_l), (7, sl A16 l18 c17), (17, sl A_l l c_l), (18, vI (l.length : Int)), (19, vI i21)] (by kernel_rfl) ?_
        refine ops_mem (d := some 55) (an := [.v (vI x25.Kind)]) (evs := [ld b39 0 (vI x25.Kind)]) (v := vI x25.Kind) ⟨by kernel_rfl⟩ (fun w_ hM hS => ⟨w_, ⟨hM.cell 1 rfl rfl, rfl⟩, hM, trivial⟩) ?_
        refine oQ [oF 3, oF 4] [(57, .agg #[vI x25.Kind, sl A74 x71 c75]), (53, sl A16 l18 c17), (0, sl A_k k c_k), (1, sl A_l l c_l), (7, sl A16 l18 c17), (17, sl A_l l c_l), (18, vI (l.length : Int)), (19, vI i21)] (by kernel_rfl) ?_
        refine ops_ex (σ := (Nat → Prop) × World) (I := fun x_ => Ext w0 F22 W23 x_.1 x_.2 ∧ RdS (Rep.int .i64) x_.1 x_.2 A74 c75 x71) (M' := fun x_ => Mem w0 (.blk b39 [vI x25.Kind, sl A36 x25.Vals c37] 135 :: ow A16 l18 c17 135 2 y19 :: Fz x_.1 x_.2 :: cs)) (fun w_ hM => ?_) ?_
        · obtain ⟨F_, h1_, h2_, h3_⟩ := (hM.pick 4 [0, 3, 1, 2] (by kernel_rfl) (by decide) rfl : Mem w0 (ow A74 x71 c75 3 1 y76 :: Fz F22 W23 :: .blk b39 [vI x25.Kind, sl A36 x25.Vals c37] 135 :: ow A16 l18 c17 135 2 y19 :: cs) w_).freeze (z := 1) h77 rfl rfl
          exact ⟨(F_, w_), ⟨h1_, h2_⟩, h3_.pick 3 [1, 2, 0] (by kernel_rfl) (by decide) rfl⟩
        rintro ⟨F79, W80⟩ ⟨hx81, h82⟩
        have hx81 : Ext w0 F22 W23 F79 W80 := hx81
        have h82 : RdS (Rep.int .i64) F79 W80 A74 c75 x71 := h82
        have h_k := h_k.ext hx81
        have h_l := h_l.ext hx81
        have h55 := h55.ext hx81
        have h20 := h20.ext hx81
        have h83 : RepL R_api_Comp F79 W80 ([(api_Comp.mk x25.Kind x71)] : List api_Comp) ([vI x25.Kind, sl A74 x71 c75]) := (RepL.cons (R := R_api_Comp) (F := F79) (w := W80) (vs := [vI x25.Kind, sl A74 x71 c75]) (ys := []) (enc_api_Comp h82) RepL.nil)
        refine ops_new (d := some 58) (o := .cells ([vI x25.Kind, sl A74 x71 c75] : List Value).toArray 135) (v := fun g84 => .slice (sa g84) ([(api_Comp.mk x25.Kind x71)] : List api_Comp).length 1) (M' := fun g84 => Mem w0 (orow (sa g84) ([(api_Comp.mk x25.Kind x71)] : List api_Comp).length 1 135 2 ([vI x25.Kind, sl A74 x71 c75]) :: .blk b39 [vI x25.Kind, sl A36 x25.Vals c37] 135 :: ow A16 l18 c17 135 2 y19 :: Fz F79 W80 :: cs)) (fun g84 => ⟨by kernel_rfl⟩) (fun w_ hM hS => ⟨hM.onew [vI x25.Kind, sl A74 x71 c75] 135 1 2 rfl (by decide), trivial⟩) (fun g84 => ?_)
        obtain ⟨l85, hv86, hp⟩ := obind hp
        obtain ⟨he87, hb88⟩ := app_some hv86
        obtain ⟨y89, hy90⟩ : ∃ y_, y19 ++ ([vI x25.Kind, sl A74 x71 c75]) = y_ := ⟨_, rfl⟩
        have h91 : RepL R_api_Comp F79 W80 l85 y89 := by rw [he87, ← hy90]; exact RepL.app h20 h83
        refine ops_appendO (x := (Go.Operand.tmp 53)) (y := (Go.Operand.tmp 58)) (t := 94) (e := 135) (d := some 59) (n' := l85.length) (z := 2) (m := ([(api_Comp.mk x25.Kind x71)] : List api_Comp).length) (bytes := 32) (xs' := y89) (news := ([vI x25.Kind, sl A74 x71 c75])) (zv := .agg #[vI 0, .slice none 0 0]) 2 ⟨by kernel_rfl⟩ rfl rfl Tryd.underlying94 (by kernel_rfl) (by rfl) rfl (fun w_ hM => hM.srcO 0 rfl) h83.len h83.one hb88 (by have z_ := congrArg List.length he87; rw [List.length_append] at z_; exact z_.symm) hy90 (fun _ _ _ _ hS h' => trivial) ?_
        rintro ⟨A92, c93⟩
        refine oQ [oF 7] [(7, sl A92 l85 c93), (0, sl A_k k c_k), (1, sl A_l l c_l), (17, sl A_l l c_l), (18, vI (l.length : Int)), (19, vI i21)] (by kernel_rfl) ?_
        refine ops_nil (fin_block (fin_then (st_region [oF 0, oF 1] (by rfl) ?_)))
        refine oQ [oF 0, oF 1] [(19, vI (IntKind.i64.wrap (i21 + 1))), (7, sl A92 l85 c93), (0, sl A_k k c_k), (1, sl A_l l c_l), (17, sl A_l l c_l), (18, vI (l.length : Int))] (by kernel_rfl) ?_
        refine ops_nil ?_
        exact fin_again (l85, IntKind.i64.wrap (i21 + 1)) (A92, c93, y89, F79, W80) (Option.some.inj hp).symm ⟨h91, (hx2.trans hx81)⟩ (look_has ⟨rfl, rfl, rfl, rfl, rfl, rfl, trivial⟩) (fun w_ hM => hM.pick 4 [2, 3] (by kernel_rfl) (by decide) rfl)
   ·
    have hp := cnd_f hc24 hp
    refine st_exit (fin_exit_then (fin_exit_then (fin_exit ?_)))
    obtain hq_ := Option.some.inj hp
    subst hq_
    obtain hq_ := hd2 _ rfl
    subst hq_
    have hp : world_Fit_j1 l18 = some (l9003, i9006) := hk2
    exact fin_join HJ1 (A16, c17, l18, y19, F22, W23) ⟨hp, h20, hx2⟩ (look_has ⟨rfl, trivial⟩) (fun w_ hM => hM)
def system_isField__t0 : List Row := [⟨0, 32, 8⟩, ⟨1, 64, 32⟩, ⟨2, 128, 64⟩, ⟨4, 256, 128⟩, ⟨8, 512, 264⟩, ⟨24, 1024, 768⟩, ⟨8, 2048, 257⟩, ⟨72, 4096, 2304⟩, ⟨168, 8192, 5376⟩, ⟨264, 16384, 8448⟩, ⟨520, 32768, 16384⟩, ⟨1024, 65536, 32776⟩, ⟨3072, 131072, 98304⟩, ⟨5120, 262144, 163840⟩, ⟨9216, 524288, 294912⟩, ⟨17408, 1048576, 524288⟩, ⟨32768, 2097152, 1048584⟩, ⟨98304, 4194304, 3145728⟩, ⟨32768, 8388608, 1048577⟩, ⟨32768, 16777216, 1048584⟩, ⟨557056, 33554432, 17825792⟩, ⟨1343488, 67108864, 42991616⟩, ⟨2129920, 134217728, 68157440⟩, ⟨4227072, 268435456, 135266304⟩, ⟨8421376, 536870912, 269484032⟩, ⟨16941056, 1073741824, 542113792⟩, ⟨33587200, 2147483648, 1074790400⟩, ⟨134217727, 16, 2147483648⟩]
theorem system_isField_ok (w0 w : World) (cs : List Chunk) (F : Nat → Prop) (W : World) (A_k : Option Addr) (c_k : Nat) (k : List api_Kind) (r_0 : Int) (r_1 : Int) (hM0 : Mem w0 (Fz F W :: cs) w) (h_k : RdS R_api_Kind F W A_k c_k k) (t9001 : Bool) (hp : system_isField k r_0 r_1 = some t9001) : Calls Tryd.prog 134 #[sl A_k k c_k, .agg #[vI r_0, vI r_1]] w fun e w' => (True) ∧ e = .returned (.bool t9001) ∧ Mem w0 (Fz F W :: cs) w' := by
 unfold system_isField at hp
 refine sx_calls Tryd.func134 rfl (n := 32) (by kernel_rfl) (l := [(0, sl A_k k c_k), (1, .agg #[vI r_0, vI r_1])]) rfl (by rfl) hM0 ?_
 refine st_seq (st_region [oF 0, oF 1] (by rfl) ?_)
 refine ops_newB (d := some 3) [vI r_0, vI r_1] 166 (fun b1 => ⟨by kernel_rfl⟩) (fun w_ hM hS => trivial) (fun b1 => ?_)
 refine oQ [oF 1] [(3, vP b1 0), (0, sl A_k k c_k)] (by kernel_rfl) ?_
 refine ops_nil (fin_then ?_)
 refine st_join1 (σ := Bool) (L := fun x_ => match x_ with | t2 => [(4, .bool t2)]) (N := fun x_ => match x_ with | t2 => Mem w0 (Fz F W :: cs)) (I := fun x_ => match x_ with | t2 => (system_isField_j1 t2 = some t9001)) ?_ ?_
 ·
  rintro t2 hp
  unfold system_isField_j1 at hp
  refine st_ret ?_
  have hq_ := Option.some.inj hp
  have hr0_ := hq_
  subst hr0_
  refine fin_ret [.tmp 4] [.bool t2] rfl rfl (fun w_ hM => (.tmp rfl .nil)) (fun w_ hM => ?_)
  exact ⟨trivial, rfl, hM⟩
 ·
  intro HJ1
  refine st_seq ?_
  refine st_region_fast system_isField__t0 [oT 0, oT 1, oT 2, oT 3, oT 4, oT 5, oT 6, oT 7, oT 8, oT 9, oT 10, oT 11, oT 12, oT 13, oT 14, oT 15, oT 16, oT 17, oT 18, oT 19, oT 20, oT 21, oT 22, oT 23, oT 24, oT 25, oT 26, oT 27] (Mem w0 (.blk b1 [vI r_0, vI r_1] 166 :: Fz F W :: cs)) (by kernel_rfl) (by kernel_rfl) (by kernel_rfl) (by kernel_rfl) (by kernel_rfl) (fun _ d _ _ _ h => by cases d <;> exact h) (M' := Mem w0 (.blk b1 [vI r_0, vI r_1] 166 :: Fz F W :: cs)) (fun w_ hM => ⟨hM.drew, hM.drew.sub (.cons_cons _ (.cons_cons _ (.refl _)))⟩) ?_
  refine oQ [oT 0] [(5, vP b1 0), (3, vP b1 0), (0, sl A_k k c_k)] (by kernel_rfl) ?_
  refine ops_load (d := some 6) (an := [.v (vI r_0)]) (evs := [ld b1 0 (vI r_0)]) (v := vI r_0) ⟨by kernel_rfl⟩ (fun w_ hM => ⟨hM.cell 0 rfl rfl, rfl⟩) ?_
  refine oQ [oT 2, oT 3] [(8, .bool (decide (0 ≤ r_0))), (3, vP b1 0), (0, sl A_k k c_k)] (by kernel_rfl) ?_
  refine ops_bool (t := decide (0 ≤ r_0)) (l1 := [(8, .bool true), (3, vP b1 0), (0, sl A_k k c_k)]) (l2 := [(8, .bool false), (3, vP b1 0), (0, sl A_k k c_k)]) (fun h => by rw [h]) (fun h => by rw [h]) (fun hc3 => ?_) (fun hc3 => ?_)
  ·
   have hp := cnd_t hc3 hp
   refine oQ [oT 4] [(9, vP b1 0), (8, .bool true), (3, vP b1 0), (0, sl A_k k c_k)] (by kernel_rfl) ?_
   refine ops_load (d := some 10) (an := [.v (vI r_0)]) (evs := [ld b1 0 (vI r_0)]) (v := vI r_0) ⟨by kernel_rfl⟩ (fun w_ hM => ⟨hM.cell 0 rfl rfl, rfl⟩) ?_
   refine oQ [oT 6, oT 7, oT 8, oT 9, oT 10] [(15, .bool (decide (r_0 < (k.length : Int)))), (3, vP b1 0), (0, sl A_k k c_k)] (by kernel_rfl) ?_
   refine ops_bool (t := decide (r_0 < (k.length : Int))) (l1 := [(15, .bool true), (3, vP b1 0), (0, sl A_k k c_k)]) (l2 := [(15, .bool false), (3, vP b1 0), (0, sl A_k k c_k)]) (fun h => by rw [h]) (fun h => by rw [h]) (fun hc4 => ?_) (fun hc4 => ?_)
   ·
    have hp := cnd_t hc4 hp
    refine oQ [oT 11] [(16, vP b1 1), (15, .bool true), (3, vP b1 0), (0, sl A_k k c_k)] (by kernel_rfl) ?_
    refine ops_load (d := some 17) (an := [.v (vI r_1)]) (evs := [ld b1 1 (vI r_1)]) (v := vI r_1) ⟨by kernel_rfl⟩ (fun w_ hM => ⟨hM.cell 0 rfl rfl, rfl⟩) ?_
    refine oQ [oT 13, oT 14, oT 15] [(20, .bool (decide (0 ≤ r_1))), (3, vP b1 0), (0, sl A_k k c_k)] (by kernel_rfl) ?_
    refine ops_bool (t := decide (0 ≤ r_1)) (l1 := [(20, .bool true), (3, vP b1 0), (0, sl A_k k c_k)]) (l2 := [(20, .bool false), (3, vP b1 0), (0, sl A_k k c_k)]) (fun h => by rw [h]) (fun h => by rw [h]) (fun hc5 => ?_) (fun hc5 => ?_)
    ·
     have hp := cnd_t hc5 hp
     refine oQ [oT 16] [(21, vP b1 1), (20, .bool true), (3, vP b1 0), (0, sl A_k k c_k)] (by kernel_rfl) ?_
     refine ops_load (d := some 22) (an := [.v (vI r_1)]) (evs := [ld b1 1 (vI r_1)]) (v := vI r_1) ⟨by kernel_rfl⟩ (fun w_ hM => ⟨hM.cell 0 rfl rfl, rfl⟩) ?_
     refine oQ [oT 18, oT 19] [(24, vP b1 0), (23, sl A_k k c_k), (22, vI r_1), (20, .bool true)] (by kernel_rfl) ?_
     refine ops_load (d := some 25) (an := [.v (vI r_0)]) (evs := [ld b1 0 (vI r_0)]) (v := vI r_0) ⟨by kernel_rfl⟩ (fun w_ hM => ⟨hM.cell 0 rfl rfl, rfl⟩) ?_
     obtain ⟨x6, hv7, hp⟩ := obind hp
     obtain ⟨m8, hm9, hx10⟩ := idx_some hv7
     have hl13 := (List.getElem?_eq_some_iff.1 hx10).1
     obtain ⟨ad14, vs11, hA15, hr12, hq16⟩ := RdS.el h_k hx10
     obtain ⟨A17, c18, rfl, h19⟩ := dec_api_Kind hr12
     refine ops_val (op := (.indexAddr 22 (.tmp 23) (.tmp 25))) (d := some 26) (v := .pointer (some (ad14.add (m8 * 2)))) ⟨by kernel_rfl⟩ (run_indexA hA15 Tryd.underlying22 (z := 2) (by kernel_rfl) rfl rfl hm9 hl13) ?_
     refine oQ [oT 22] [(27, .pointer (some ((ad14.add (m8 * 2)).add 1))), (22, vI r_1), (20, .bool true)] (by kernel_rfl) ?_
     refine ops_load (d := some 28) (an := [.v (sl A17 x6.Fields c18)]) (evs := [.load ((ad14.add (m8 * 2)).add 1) (sl A17 x6.Fields c18)]) (v := sl A17 x6.Fields c18) ⟨by kernel_rfl⟩ (fun w_ hM => ⟨hM.elcell 1 rfl hq16 1 rfl, rfl⟩) ?_
     refine oQ [oT 24, oT 25, oT 26, oT 27] [(4, .bool (decide (r_1 < (x6.Fields.length : Int))))] (by kernel_rfl) ?_
     refine ops_nil ?_
     exact fin_join HJ1 (decide (r_1 < (x6.Fields.length : Int))) hp (look_has ⟨rfl, trivial⟩) (fun w_ hM => hM.pick 2 [1] (by kernel_rfl) (by decide) rfl)
    ·
     have hp := cnd_f hc5 hp
     refine oQ [oT 16, oT 17, oT 18, oT 19, oT 20, oT 21, oT 22, oT 23, oT 24, oT 25, oT 26, oT 27] [(4, .bool false)] (by kernel_rfl) ?_
     refine ops_nil ?_
     exact fin_join HJ1 false hp (look_has ⟨rfl, trivial⟩) (fun w_ hM => hM.pick 2 [1] (by kernel_rfl) (by decide) rfl)
   ·
    have hp := cnd_f hc4 hp
    refine oQ [oT 11, oT 12, oT 13, oT 14, oT 15, oT 16, oT 17, oT 18, oT 19, oT 20, oT 21, oT 22, oT 23, oT 24, oT 25, oT 26, oT 27] [(4, .bool false)] (by kernel_rfl) ?_
    refine ops_nil ?_
    exact fin_join HJ1 false hp (look_has ⟨rfl, trivial⟩) (fun w_ hM => hM.pick 2 [1] (by kernel_rfl) (by decide) rfl)
  ·
   have hp := cnd_f hc3 hp
   refine oQ [oT 4, oT 5, oT 6, oT 7, oT 8, oT 9, oT 10, oT 11, oT 12, oT 13, oT 14, oT 15, oT 16, oT 17, oT 18, oT 19, oT 20, oT 21, oT 22, oT 23, oT 24, oT 25, oT 26, oT 27] [(4, .bool false)] (by kernel_rfl) ?_
   refine ops_nil ?_
   exact fin_join HJ1 false hp (look_has ⟨rfl, trivial⟩) (fun w_ hM => hM.pick 2 [1] (by kernel_rfl) (by decide) rfl)
theorem system_two_ok (w0 w : World) (cs : List Chunk) (F : Nat → Prop) (W : World) (do_1 : Int) (hM0 : Mem w0 (Fz F W :: cs) w) (t9001 : Bool) (hp : system_two do_1 = some t9001) : Calls Tryd.prog 135 #[vI do_1] w fun e w' => (True) ∧ e = .returned (.bool t9001) ∧ Mem w0 (Fz F W :: cs) w' := by
 unfold system_two at hp
 refine sx_calls Tryd.func135 rfl (n := 13) (by kernel_rfl) (l := [(0, vI do_1)]) rfl (by rfl) hM0 ?_
 refine st_seq (st_region [oF 0] (by rfl) ?_)
 refine oQ [oF 0] [(0, vI do_1)] (by kernel_rfl) ?_
 refine ops_nil (fin_then ?_)
 refine st_join1 (σ := Bool) (L := fun x_ => match x_ with | t1 => [(2, .bool t1)]) (N := fun x_ => match x_ with | t1 => Mem w0 (Fz F W :: cs)) (I := fun x_ => match x_ with | t1 => (system_two_j1 t1 = some t9001)) ?_ ?_
 ·
  rintro t1 hp
  unfold system_two_j1 at hp
  refine st_ret ?_
  have hq_ := Option.some.inj hp
  have hr0_ := hq_
  subst hr0_
  refine fin_ret [.tmp 2] [.bool t1] rfl rfl (fun w_ hM => (.tmp rfl .nil)) (fun w_ hM => ?_)
  exact ⟨trivial, rfl, hM⟩
 ·
  intro HJ1
  refine st_seq (st_region [oF 0, oF 1, oF 2, oF 3, oF 4, oF 5, oF 6, oF 7, oF 8, oF 9, oF 10] (by rfl) ?_)
  refine oQ [oF 0, oF 1, oF 2] [(5, .bool (decide (1 ≤ do_1))), (0, vI do_1)] (by kernel_rfl) ?_
  refine ops_bool (t := decide (1 ≤ do_1)) (l1 := [(5, .bool true), (0, vI do_1)]) (l2 := [(5, .bool false), (0, vI do_1)]) (fun h => by rw [h]) (fun h => by rw [h]) (fun hc2 => ?_) (fun hc2 => ?_)
  ·
   have hp := cnd_t hc2 hp
   refine oQ [oF 3, oF 4, oF 5, oF 6] [(9, .bool (decide (do_1 ≤ 6))), (0, vI do_1)] (by kernel_rfl) ?_
   refine ops_bool (t := decide (do_1 ≤ 6)) (l1 := [(9, .bool true), (0, vI do_1)]) (l2 := [(9, .bool false), (0, vI do_1)]) (fun h => by rw [h]) (fun h => by rw [h]) (fun hc3 => ?_) (fun hc3 => ?_)
   ·
    have hp := cnd_t hc3 hp
    refine oQ [oF 7, oF 8, oF 9, oF 10] [(2, .bool true)] (by kernel_rfl) ?_
    refine ops_nil ?_
    exact fin_join HJ1 true hp (look_has ⟨rfl, trivial⟩) (fun w_ hM => hM)
   ·
    have hp := cnd_f hc3 hp
    refine oQ [oF 7, oF 8, oF 9, oF 10] [(2, .bool (do_1 == 12))] (by kernel_rfl) ?_
    refine ops_nil ?_
    exact fin_join HJ1 (do_1 == 12) hp (look_has ⟨rfl, trivial⟩) (fun w_ hM => hM)
  ·
   have hp := cnd_f hc2 hp
   refine oQ [oF 3, oF 4, oF 5, oF 6, oF 7, oF 8, oF 9, oF 10] [(2, .bool (do_1 == 12))] (by kernel_rfl) ?_
   refine ops_nil ?_
   exact fin_join HJ1 (do_1 == 12) hp (look_has ⟨rfl, trivial⟩) (fun w_ hM => hM)
theorem system_sets_ok (w0 w : World) (cs : List Chunk) (F : Nat → Prop) (W : World) (do_1 : Int) (hM0 : Mem w0 (Fz F W :: cs) w) (t9001 : Bool) (hp : system_sets do_1 = some t9001) : Calls Tryd.prog 136 #[vI do_1] w fun e w' => (True) ∧ e = .returned (.bool t9001) ∧ Mem w0 (Fz F W :: cs) w' := by
 unfold system_sets at hp
 refine sx_calls Tryd.func136 rfl (n := 9) (by kernel_rfl) (l := [(0, vI do_1)]) rfl (by rfl) hM0 ?_
 refine st_seq (st_region [oF 0] (by rfl) ?_)
 refine oQ [oF 0] [(0, vI do_1)] (by kernel_rfl) ?_
 refine ops_nil (fin_then ?_)
 refine st_join1 (σ := Bool) (L := fun x_ => match x_ with | t1 => [(2, .bool t1)]) (N := fun x_ => match x_ with | t1 => Mem w0 (Fz F W :: cs)) (I := fun x_ => match x_ with | t1 => (system_sets_j1 t1 = some t9001)) ?_ ?_
 ·
  rintro t1 hp
  unfold system_sets_j1 at hp
  refine st_ret ?_
  have hq_ := Option.some.inj hp
  have hr0_ := hq_
  subst hr0_
  refine fin_ret [.tmp 2] [.bool t1] rfl rfl (fun w_ hM => (.tmp rfl .nil)) (fun w_ hM => ?_)
  exact ⟨trivial, rfl, hM⟩
 ·
  intro HJ1
  refine st_seq (st_region [oF 0, oF 1, oF 2, oF 3, oF 4, oF 5, oF 6] (by rfl) ?_)
  refine oQ [oF 0, oF 1, oF 2] [(5, .bool (decide (0 ≤ do_1))), (0, vI do_1)] (by kernel_rfl) ?_
  refine ops_bool (t := decide (0 ≤ do_1)) (l1 := [(5, .bool true), (0, vI do_1)]) (l2 := [(5, .bool false), (0, vI do_1)]) (fun h => by rw [h]) (fun h => by rw [h]) (fun hc2 => ?_) (fun hc2 => ?_)
  ·
   have hp := cnd_t hc2 hp
   refine oQ [oF 3, oF 4, oF 5, oF 6] [(2, .bool (decide (do_1 ≤ 7)))] (by kernel_rfl) ?_
   refine ops_nil ?_
   exact fin_join HJ1 (decide (do_1 ≤ 7)) hp (look_has ⟨rfl, trivial⟩) (fun w_ hM => hM)
  ·
   have hp := cnd_f hc2 hp
   refine oQ [oF 3, oF 4, oF 5, oF 6] [(2, .bool false)] (by kernel_rfl) ?_
   refine ops_nil ?_
   exact fin_join HJ1 false hp (look_has ⟨rfl, trivial⟩) (fun w_ hM => hM)
end Go.Proofs.YtnnhijlgohlaeaaDoor.D
