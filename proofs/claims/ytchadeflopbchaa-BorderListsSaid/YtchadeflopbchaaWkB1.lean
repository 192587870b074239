/- The Go functions come to what the plain functions tell. No condition. -/
import Derived.Test.YtchadeflopbchaaProg
import Derived.Test.YtchadeflopbchaaFnB
import Derived.Test.YtchadeflopbchaaWkB0
namespace Go.Proofs.Ytchadeflopbchaa.B
open Go Go.RowKit Go.Proofs.Ytchadeflopbchaa.Sx
set_option linter.unusedVariables false
set_option maxHeartbeats 4000000
set_option maxRecDepth 100000
theorem tourlaw1_BorderLists_ok (w0 w : World) (cs : List Chunk) (F : Nat → Prop) (W : World) (A_l : Option Addr) (c_l : Nat) (l : List Int) (hM0 : Mem w0 (Fz F W :: cs) w) (h_l : RdS (Rep.int .u64) F W A_l c_l l) (t9001 : Bool) (hp : tourlaw1_BorderLists l = some t9001) : Calls Try.prog 4 #[sl A_l l c_l] w fun e w' => (True) ∧ e = .returned (.bool t9001) ∧ Mem w0 (Fz F W :: cs) w' := by
 unfold tourlaw1_BorderLists at hp
 refine sx_calls Try.func4 rfl (n := 63) (by kernel_rfl) (l := [(0, sl A_l l c_l)]) rfl (by rfl) hM0 ?_
 refine st_seq (st_region [oF 0] (by rfl) ?_)
 refine oQ [oF 0] [(0, sl A_l l c_l)] (by kernel_rfl) ?_
 refine ops_nil (fin_then (st_seq (st_seq (st_region [oF 0, oF 1, oF 2, oF 3, oF 4, oF 5, oF 6] (by rfl) ?_))))
 have h1 : RepL (Rep.int .u64) F W ([4609434218613702656] : List Int) ([vU 4609434218613702656]) := (RepL.cons (R := (Rep.int .u64)) (F := F) (w := W) (vs := [vU 4609434218613702656]) (ys := []) rfl RepL.nil)
 refine ops_new (d := some 13) (o := .cells ([vU 4609434218613702656] : List Value).toArray 22) (v := fun g2 => .slice (sa g2) ([4609434218613702656] : List Int).length 1) (M' := fun g2 => Mem w0 (orow (sa g2) ([4609434218613702656] : List Int).length 1 22 1 ([vU 4609434218613702656]) :: Fz F W :: cs)) (fun g2 => ⟨by kernel_rfl⟩) (fun w_ hM hS => ⟨hM.onew [vU 4609434218613702656] 22 1 1 rfl (by decide), trivial⟩) (fun g2 => ?_)
 obtain ⟨x3, x4, hv5, hp⟩ := obind2 hp
 refine ops_callI (σ := (Option Addr) × Nat × (List Value)) (d := some 14) (f := 10) (args := #[.slice (sa g2) ([4609434218613702656] : List Int).length 1]) (v := (fun x_ => match x_ with | (A6, c7, y8) => .tuple #[sl A6 x3 c7, vI x4])) (I := (fun x_ => match x_ with | (A6, c7, y8) => (RepL (Rep.int .i64) F W x3 y8))) (M' := (fun x_ => match x_ with | (A6, c7, y8) => Mem w0 (ow A6 x3 c7 3 1 y8 :: orow (sa g2) ([4609434218613702656] : List Int).length 1 22 1 ([vU 4609434218613702656]) :: Fz F W :: cs))) ⟨by kernel_rfl⟩ (fun w_ hM hS => (border_List_ok w_ w_ [] (fun b => b < w_.heap.size) w_ (sa g2) 1 ([4609434218613702656] : List Int) (Mem.fz0 w_) (hM.ordS 0 1 rfl rfl h1 rfl rfl) x3 x4 hv5).mono (by rintro e w' ⟨A6, c7, y8, h9, rfl, h'⟩; have h' : Mem w_ [ow A6 x3 c7 3 1 y8] w' := h'.pick 2 [0] (by kernel_rfl) (by decide) rfl; exact ⟨(A6, c7, y8), (RepL.move' (fun h => h) h9), rfl, hM.join h' rfl, trivial⟩)) ?_
 rintro ⟨A6, c7, y8⟩ h9
 refine oQ [oF 2, oF 3, oF 4, oF 5, oF 6] [(4, vI x4), (3, sl A6 x3 c7), (0, sl A_l l c_l)] (by kernel_rfl) ?_
 refine ops_nil (fin_then (st_seq (st_region [oF 0, oF 1, oF 2, oF 3, oF 4, oF 5, oF 6, oF 7] (by rfl) ?_)))
 refine oQ [oF 0, oF 1, oF 2] [(19, .bool (!(x4 == 0))), (3, sl A6 x3 c7), (0, sl A_l l c_l)] (by kernel_rfl) ?_
 refine ops_bool (t := !(x4 == 0)) (l1 := [(19, .bool true), (3, sl A6 x3 c7), (0, sl A_l l c_l)]) (l2 := [(19, .bool false), (3, sl A6 x3 c7), (0, sl A_l l c_l)]) (fun h => by rw [h]) (fun h => by rw [h]) (fun hc10 => ?_) (fun hc10 => ?_)
 ·
  have hp := cnd_t hc10 hp
  refine oQ [oF 3, oF 4, oF 5, oF 6, oF 7] [(24, .bool true), (0, sl A_l l c_l)] (by kernel_rfl) ?_
  refine ops_nil (fin_then (st_true rfl (st_seq (st_region [oF 0] (by rfl) ?_))))
  refine oQ [oF 0] [(2, .bool false)] (by kernel_rfl) ?_
  refine ops_nil (fin_then (st_ret (fin_ret_then ?_)))
  have hq_ := Option.some.inj hp
  have hr0_ := hq_
  subst hr0_
  refine fin_ret [.tmp 2] [.bool false] rfl rfl (fun w_ hM => (.tmp rfl .nil)) (fun w_ hM => ?_)
  exact ⟨trivial, rfl, hM.pick 3 [2] (by kernel_rfl) (by decide) rfl⟩
 ·
  have hp := cnd_f hc10 hp
  refine oQ [oF 3] [(20, sl A6 x3 c7), (19, .bool false), (0, sl A_l l c_l)] (by kernel_rfl) ?_
  have h11 : RepL (Rep.int .i64) F W ([98304] : List Int) ([vI 98304]) := (RepL.cons (R := (Rep.int .i64)) (F := F) (w := W) (vs := [vI 98304]) (ys := []) rfl RepL.nil)
  refine ops_new (d := some 21) (o := .cells ([vI 98304] : List Value).toArray 3) (v := fun g12 => .slice (sa g12) ([98304] : List Int).length 1) (M' := fun g12 => Mem w0 (orow (sa g12) ([98304] : List Int).length 1 3 1 ([vI 98304]) :: ow A6 x3 c7 3 1 y8 :: orow (sa g2) ([4609434218613702656] : List Int).length 1 22 1 ([vU 4609434218613702656]) :: Fz F W :: cs)) (fun g12 => ⟨by kernel_rfl⟩) (fun w_ hM hS => ⟨hM.onew [vI 98304] 3 1 1 rfl (by decide), trivial⟩) (fun g12 => ?_)
  obtain ⟨x13, hv14, hp⟩ := obind hp
  refine ops_callI (σ := Unit) (d := some 22) (f := 11) (args := #[sl A6 x3 c7, .slice (sa g12) ([98304] : List Int).length 1]) (v := (fun _ => .bool x13)) (I := (fun _ => True)) (M' := (fun _ => Mem w0 (orow (sa g12) ([98304] : List Int).length 1 3 1 ([vI 98304]) :: ow A6 x3 c7 3 1 y8 :: orow (sa g2) ([4609434218613702656] : List Int).length 1 22 1 ([vU 4609434218613702656]) :: Fz F W :: cs))) ⟨by kernel_rfl⟩ (fun w_ hM hS => (slices_Equal_int_int_ok w_ w_ [] (fun b => b < w_.heap.size) w_ A6 c7 x3 (sa g12) 1 ([98304] : List Int) (Mem.fz0 w_) (hM.ordS 1 3 rfl rfl h9 rfl rfl) (hM.ordS 0 3 rfl rfl h11 rfl rfl) x13 hv14).mono (by rintro e w' ⟨-, rfl, h'⟩; have h' : Mem w_ [] w' := h'.pick 1 [] (by kernel_rfl) (by decide) rfl; exact ⟨(), trivial, rfl, hM.join h' rfl, trivial⟩)) ?_
  rintro _ -
  refine oQ [oF 6, oF 7] [(24, .bool (!x13)), (0, sl A_l l c_l)] (by kernel_rfl) ?_
  refine ops_nil (fin_then ?_)
  refine st_if (b := !x13) rfl (fun hc15 => ?_) (fun hc15 => ?_)
  ·
   have hp := cnd_t hc15 hp
   refine st_seq (st_region [oF 0] (by rfl) ?_)
   refine oQ [oF 0] [(2, .bool false)] (by kernel_rfl) ?_
   refine ops_nil (fin_then (st_ret (fin_ret_then ?_)))
   have hq_ := Option.some.inj hp
   have hr0_ := hq_
   subst hr0_
   refine fin_ret [.tmp 2] [.bool false] rfl rfl (fun w_ hM => (.tmp rfl .nil)) (fun w_ hM => ?_)
   exact ⟨trivial, rfl, hM.pick 4 [3] (by kernel_rfl) (by decide) rfl⟩
  ·
   have hp := cnd_f hc15 hp
   refine st_skip (fin_then (st_seq (st_region [oF 0, oF 1, oF 2, oF 3, oF 4, oF 5, oF 6] (by rfl) ?_)))
   refine oQ [oF 0] [(26, sl A_l l c_l), (0, sl A_l l c_l)] (by kernel_rfl) ?_
   obtain ⟨x16, x17, hv18, hp⟩ := obind2 hp
   refine ops_callI (σ := (Option Addr) × Nat × (List Value)) (d := some 27) (f := 10) (args := #[sl A_l l c_l]) (v := (fun x_ => match x_ with | (A19, c20, y21) => .tuple #[sl A19 x16 c20, vI x17])) (I := (fun x_ => match x_ with | (A19, c20, y21) => (RepL (Rep.int .i64) F W x16 y21))) (M' := (fun x_ => match x_ with | (A19, c20, y21) => Mem w0 (ow A19 x16 c20 3 1 y21 :: orow (sa g12) ([98304] : List Int).length 1 3 1 ([vI 98304]) :: ow A6 x3 c7 3 1 y8 :: orow (sa g2) ([4609434218613702656] : List Int).length 1 22 1 ([vU 4609434218613702656]) :: Fz F W :: cs))) ⟨by kernel_rfl⟩ (fun w_ hM hS => (border_List_ok w0 w_ (orow (sa g12) ([98304] : List Int).length 1 3 1 ([vI 98304]) :: ow A6 x3 c7 3 1 y8 :: orow (sa g2) ([4609434218613702656] : List Int).length 1 22 1 ([vU 4609434218613702656]) :: cs) F W A_l c_l l (hM.pick 4 [3, 0, 1, 2] (by kernel_rfl) (by decide) rfl) h_l x16 x17 hv18).mono (by rintro e w' ⟨A19, c20, y21, h22, rfl, h'⟩; have h' : Mem w0 (ow A19 x16 c20 3 1 y21 :: orow (sa g12) ([98304] : List Int).length 1 3 1 ([vI 98304]) :: ow A6 x3 c7 3 1 y8 :: orow (sa g2) ([4609434218613702656] : List Int).length 1 22 1 ([vU 4609434218613702656]) :: Fz F W :: cs) w' := (h'.pick 5 [0, 2, 3, 4, 1] (by kernel_rfl) (by decide) rfl); exact ⟨(A19, c20, y21), h22, rfl, h', trivial⟩)) ?_
   rintro ⟨A19, c20, y21⟩ h22
   refine oQ [oF 2, oF 3, oF 4, oF 5, oF 6] [(6, vI x17), (5, sl A19 x16 c20), (0, sl A_l l c_l)] (by kernel_rfl) ?_
   refine ops_nil (fin_then (st_seq (st_region [oF 0] (by rfl) ?_)))
   refine oQ [oF 0] [(7, .slice none 0 0), (6, vI x17), (5, sl A19 x16 c20), (0, sl A_l l c_l)] (by kernel_rfl) ?_
   refine ops_nil (fin_then ?_)
   refine st_join1 (σ := (Option Addr) × Nat × (List Int) × (List Value)) (L := fun x_ => match x_ with | (A23, c24, l25, y26) => [(5, sl A19 x16 c20), (6, vI x17), (7, sl A23 l25 c24)]) (N := fun x_ => match x_ with | (A23, c24, l25, y26) => Mem w0 (ow A19 x16 c20 3 1 y21 :: ow A23 l25 c24 3 1 y26 :: Fz F W :: cs)) (I := fun x_ => match x_ with | (A23, c24, l25, y26) => ((tourlaw1_BorderLists_j1 x17 x16) l25 = some t9001) ∧ (RepL (Rep.int .i64) F W l25 y26)) ?_ ?_
   ·
    rintro ⟨A23, c24, l25, y26⟩ ⟨hp, h27⟩
    unfold tourlaw1_BorderLists_j1 at hp
    refine st_join1 (σ := Bool) (L := fun x_ => match x_ with | t28 => [(2, .bool t28)]) (N := fun x_ => match x_ with | t28 => Mem w0 (Fz F W :: cs)) (I := fun x_ => match x_ with | t28 => (tourlaw1_BorderLists_j2 t28 = some t9001)) ?_ ?_
    ·
     rintro t28 hp
     unfold tourlaw1_BorderLists_j2 at hp
     refine st_ret ?_
     have hq_ := Option.some.inj hp
     have hr0_ := hq_
     subst hr0_
     refine fin_ret [.tmp 2] [.bool t28] rfl rfl (fun w_ hM => (.tmp rfl .nil)) (fun w_ hM => ?_)
     exact ⟨trivial, rfl, hM⟩
    ·
     intro HJ2
     refine st_seq (st_region [oF 0, oF 1, oF 2, oF 3, oF 4, oF 5, oF 6, oF 7] (by rfl) ?_)
     refine oQ [oF 0, oF 1, oF 2] [(58, .bool (x17 == 0)), (5, sl A19 x16 c20), (7, sl A23 l25 c24)] (by kernel_rfl) ?_
     refine ops_bool (t := (x17 == 0)) (l1 := [(58, .bool true), (5, sl A19 x16 c20), (7, sl A23 l25 c24)]) (l2 := [(58, .bool false), (5, sl A19 x16 c20), (7, sl A23 l25 c24)]) (fun h => by rw [h]) (fun h => by rw [h]) (fun hc29 => ?_) (fun hc29 => ?_)
     ·
      have hp := cnd_t hc29 hp
      refine oQ [oF 3, oF 4] [(60, sl A23 l25 c24), (59, sl A19 x16 c20), (58, .bool true)] (by kernel_rfl) ?_
      obtain ⟨x30, hv31, hp⟩ := obind hp
      refine ops_callI (σ := Unit) (d := some 61) (f := 11) (args := #[sl A19 x16 c20, sl A23 l25 c24]) (v := (fun _ => .bool x30)) (I := (fun _ => True)) (M' := (fun _ => Mem w0 (ow A19 x16 c20 3 1 y21 :: ow A23 l25 c24 3 1 y26 :: Fz F W :: cs))) ⟨by kernel_rfl⟩ (fun w_ hM hS => (slices_Equal_int_int_ok w_ w_ [] (fun b => b < w_.heap.size) w_ A19 c20 x16 A23 c24 l25 (Mem.fz0 w_) (hM.ordS 0 2 rfl rfl h22 rfl rfl) (hM.ordS 1 2 rfl rfl h27 rfl rfl) x30 hv31).mono (by rintro e w' ⟨-, rfl, h'⟩; have h' : Mem w_ [] w' := h'.pick 1 [] (by kernel_rfl) (by decide) rfl; exact ⟨(), trivial, rfl, hM.join h' rfl, trivial⟩)) ?_
      rintro _ -
      refine oQ [oF 6, oF 7] [(2, .bool x30)] (by kernel_rfl) ?_
      refine ops_nil ?_
      exact fin_join HJ2 x30 hp (look_has ⟨rfl, trivial⟩) (fun w_ hM => hM.pick 3 [2] (by kernel_rfl) (by decide) rfl)
     ·
      have hp := cnd_f hc29 hp
      refine oQ [oF 3, oF 4, oF 5, oF 6, oF 7] [(2, .bool false)] (by kernel_rfl) ?_
      refine ops_nil ?_
      exact fin_join HJ2 false hp (look_has ⟨rfl, trivial⟩) (fun w_ hM => hM.pick 3 [2] (by kernel_rfl) (by decide) rfl)
   ·
    intro HJ1
    refine st_seq (st_seq (st_region [oF 0, oF 1, oF 2] (by rfl) ?_))
    refine oQ [oF 0, oF 1, oF 2] [(32, vI 0), (31, vI (l.length : Int)), (30, sl A_l l c_l), (7, .slice none 0 0), (6, vI x17), (5, sl A19 x16 c20)] (by kernel_rfl) ?_
    refine ops_nil (fin_then (st_block ?_))
    refine st_conv (l' := [(32, vI 0), (31, vI (l.length : Int)), (30, sl A_l l c_l), (7, .slice none 0 0), (6, vI x17), (5, sl A19 x16 c20)]) (M' := Mem w0 (ow none ([] : List Int) 0 3 1 [] :: ow A19 x16 c20 3 1 y21 :: orow (sa g12) ([98304] : List Int).length 1 3 1 ([vI 98304]) :: ow A6 x3 c7 3 1 y8 :: orow (sa g2) ([4609434218613702656] : List Int).length 1 22 1 ([vU 4609434218613702656]) :: Fz F W :: cs)) rfl (fun w_ h => h.onil none 3 1) ?_
    obtain ⟨r3, hl3, hk3⟩ := obind hp
    refine st_loopP (σ := (List Int) × Int) (ρ := (Bool ⊕ (List Int))) (γ := (Option Addr) × Nat × (List Value)) hl3 (none, 0, []) (fun s_ g_ => match s_, g_ with | (l34, i37), (A32, c33, y35) => [(5, sl A19 x16 c20), (6, vI x17), (7, sl A32 l34 c33), (30, sl A_l l c_l), (31, vI (l.length : Int)), (32, vI i37)]) (fun s_ g_ => match s_, g_ with | (l34, i37), (A32, c33, y35) => Mem w0 (ow A19 x16 c20 3 1 y21 :: ow A32 l34 c33 3 1 y35 :: Fz F W :: cs)) (fun s_ g_ => match s_, g_ with | (l34, i37), (A32, c33, y35) => (RepL (Rep.int .i64) F W l34 y35)) (RepL.nil (R := (Rep.int .i64))) (look_has ⟨rfl, rfl, rfl, rfl, rfl, rfl, trivial⟩) (fun w_ hM => hM.pick 6 [1, 0, 5] (by kernel_rfl) (by decide) rfl) ?_
    rintro ⟨l34, i37⟩ ⟨A32, c33, y35⟩ o3 h36 hs_ hd3
    have hp : (tourlaw1_BorderLists_l3 l x17 x16) l34 i37 = some o3 := hs_
    clear hs_
    unfold tourlaw1_BorderLists_l3 at hp
    refine st_seq (st_region [oF 0] (by rfl) ?_)
    refine oQ [oF 0] [(33, .bool (decide (i37 < (l.length : Int)))), (5, sl A19 x16 c20), (6, vI x17), (7, sl A32 l34 c33), (30, sl A_l l c_l), (31, vI (l.length : Int)), (32, vI i37)] (by kernel_rfl) ?_
    refine ops_nil (fin_then (st_seq ?_))
    refine st_if (b := decide (i37 < (l.length : Int))) rfl (fun hc38 => ?_) (fun hc38 => ?_)
    ·
     have hp := cnd_t hc38 hp
     refine st_skip (fin_then (st_seq (st_block (st_seq (st_region [oF 0, oF 1, oF 2] (by rfl) ?_)))))
     obtain ⟨x39, hv40, hp⟩ := obind hp
     obtain ⟨m41, hm42, hx43⟩ := idx_some hv40
     have hl46 := (List.getElem?_eq_some_iff.1 hx43).1
     obtain ⟨ad47, vs44, hA48, hr45, hq49⟩ := RdS.el h_l hx43
     obtain rfl := hr45
     refine ops_val (op := (.indexAddr 31 (.tmp 30) (.tmp 32))) (d := some 34) (v := .pointer (some (ad47.add (m41 * 1)))) ⟨by kernel_rfl⟩ (run_indexA hA48 Try.underlying31 (z := 1) (by kernel_rfl) rfl rfl hm42 hl46) ?_
     refine ops_mem (d := some 35) (an := [.v (vU x39)]) (evs := [.load (ad47.add (m41 * 1)) (vU x39)]) (v := vU x39) ⟨by kernel_rfl⟩ (fun w_ hM hS => ⟨w_, ⟨hM.elcell 2 rfl hq49 0 rfl, rfl⟩, hM, trivial⟩) ?_
     refine oQ [oF 2] [(9, vU x39), (5, sl A19 x16 c20), (6, vI x17), (7, sl A32 l34 c33), (30, sl A_l l c_l), (31, vI (l.length : Int)), (32, vI i37)] (by kernel_rfl) ?_
     refine ops_nil (fin_then (st_seq (st_region [oF 0, oF 1, oF 2, oF 3, oF 4, oF 5, oF 6] (by rfl) ?_)))
     refine oQ [oF 0] [(37, vU x39), (5, sl A19 x16 c20), (6, vI x17), (7, sl A32 l34 c33), (30, sl A_l l c_l), (31, vI (l.length : Int)), (32, vI i37)] (by kernel_rfl) ?_
     obtain ⟨x50, x51, hv52, hp⟩ := obind2 hp
     refine ops_callI (σ := Unit) (d := some 38) (f := 6) (args := #[vU x39]) (v := (fun _ => .tuple #[vI x50, vI x51])) (I := (fun _ => True)) (M' := (fun _ => Mem w0 (ow A19 x16 c20 3 1 y21 :: ow A32 l34 c33 3 1 y35 :: Fz F W :: cs))) ⟨by kernel_rfl⟩ (fun w_ hM hS => (tourref1_FromBits_ok w0 w_ (ow A19 x16 c20 3 1 y21 :: ow A32 l34 c33 3 1 y35 :: cs) F W x39 (hM.pick 3 [2, 0, 1] (by kernel_rfl) (by decide) rfl)  x50 x51 hv52).mono (by rintro e w' ⟨-, rfl, h'⟩; have h' : Mem w0 (ow A19 x16 c20 3 1 y21 :: ow A32 l34 c33 3 1 y35 :: Fz F W :: cs) w' := (h'.pick 3 [1, 2, 0] (by kernel_rfl) (by decide) rfl); exact ⟨(), trivial, rfl, h', trivial⟩)) ?_
     rintro _ -
     refine oQ [oF 2, oF 3, oF 4, oF 5, oF 6] [(11, vI x51), (10, vI x50), (5, sl A19 x16 c20), (6, vI x17), (7, sl A32 l34 c33), (30, sl A_l l c_l), (31, vI (l.length : Int)), (32, vI i37)] (by kernel_rfl) ?_
     refine ops_nil (fin_then (st_seq (st_seq (st_region [oF 0, oF 1] (by rfl) ?_))))
     refine oQ [oF 0, oF 1] [(42, .bool (!(x51 == 0))), (11, vI x51), (10, vI x50), (5, sl A19 x16 c20), (6, vI x17), (7, sl A32 l34 c33), (30, sl A_l l c_l), (31, vI (l.length : Int)), (32, vI i37)] (by kernel_rfl) ?_
     refine ops_nil (fin_then ?_)
     refine st_if (b := !(x51 == 0)) rfl (fun hc53 => ?_) (fun hc53 => ?_)
     ·
      have hp := cnd_t hc53 hp
      refine st_join1 (σ := Bool) (L := fun x_ => match x_ with | t54 => [(2, .bool t54)]) (N := fun x_ => match x_ with | t54 => Mem w0 (Fz F W :: cs)) (I := fun x_ => match x_ with | t54 => (tourlaw1_BorderLists_j4 t54 = some o3)) ?_ ?_
      ·
       rintro t54 hp
       unfold tourlaw1_BorderLists_j4 at hp
       refine st_ret (fin_ret_then (fin_ret_block (fin_ret_then (fin_ret_then (fin_ret_block (fin_ret_then ?_))))))
       obtain hq_ := Option.some.inj hp
       subst hq_
       obtain hq_ := hd3 _ rfl
       subst hq_
       have hp : some t54 = some t9001 := hk3
       have hq_ := Option.some.inj hp
       have hr0_ := hq_
       subst hr0_
       refine fin_ret [.tmp 2] [.bool t54] rfl rfl (fun w_ hM => (.tmp rfl .nil)) (fun w_ hM => ?_)
       exact ⟨trivial, rfl, hM⟩
      ·
       intro HJ4
       refine st_seq (st_region [oF 0, oF 1, oF 2, oF 3, oF 4, oF 5, oF 6, oF 7, oF 8] (by rfl) ?_)
       refine oQ [oF 0, oF 1, oF 2, oF 3] [(46, .bool (x17 == x51)), (5, sl A19 x16 c20)] (by kernel_rfl) ?_
       refine ops_bool (t := (x17 == x51)) (l1 := [(46, .bool true), (5, sl A19 x16 c20)]) (l2 := [(46, .bool false), (5, sl A19 x16 c20)]) (fun h => by rw [h]) (fun h => by rw [h]) (fun hc55 => ?_) (fun hc55 => ?_)
       ·
        have hp := cnd_t hc55 hp
        refine oQ [oF 4, oF 5, oF 6, oF 7, oF 8] [(2, .bool ((x16.length : Int) == 0))] (by kernel_rfl) ?_
        refine ops_nil ?_
        exact fin_join HJ4 ((x16.length : Int) == 0) hp (look_has ⟨rfl, trivial⟩) (fun w_ hM => hM.pick 3 [2] (by kernel_rfl) (by decide) rfl)
       ·
        have hp := cnd_f hc55 hp
        refine oQ [oF 4, oF 5, oF 6, oF 7, oF 8] [(2, .bool false)] (by kernel_rfl) ?_
        refine ops_nil ?_
        exact fin_join HJ4 false hp (look_has ⟨rfl, trivial⟩) (fun w_ hM => hM.pick 3 [2] (by kernel_rfl) (by decide) rfl)
     ·
      have hp := cnd_f hc53 hp
      refine st_skip (fin_then (st_region [oF 0, oF 1, oF 2, oF 3, oF 4] (by rfl) ?_))
      refine oQ [oF 0, oF 1] [(52, vI x50), (51, sl A32 l34 c33), (5, sl A19 x16 c20), (6, vI x17), (7, sl A32 l34 c33), (30, sl A_l l c_l), (31, vI (l.length : Int)), (32, vI i37)] (by kernel_rfl) ?_
      have h56 : RepL (Rep.int .i64) F W ([x50] : List Int) ([vI x50]) := (RepL.cons (R := (Rep.int .i64)) (F := F) (w := W) (vs := [vI x50]) (ys := []) rfl RepL.nil)
      refine ops_new (d := some 53) (o := .cells ([vI x50] : List Value).toArray 3) (v := fun g57 => .slice (sa g57) ([x50] : List Int).length 1) (M' := fun g57 => Mem w0 (orow (sa g57) ([x50] : List Int).length 1 3 1 ([vI x50]) :: ow A19 x16 c20 3 1 y21 :: ow A32 l34 c33 3 1 y35 :: Fz F W :: cs)) (fun g57 => ⟨by kernel_rfl⟩) (fun w_ hM hS => ⟨hM.onew [vI x50] 3 1 1 rfl (by decide), trivial⟩) (fun g57 => ?_)
      obtain ⟨l58, hv59, hp⟩ := obind hp
      obtain ⟨he60, hb61⟩ := app_some hv59
      obtain ⟨y62, hy63⟩ : ∃ y_, y35 ++ ([vI x50]) = y_ := ⟨_, rfl⟩
      have h64 : RepL (Rep.int .i64) F W l58 y62 := by rw [he60, ← hy63]; exact RepL.app h36 h56
      refine ops_appendO (x := (Go.Operand.tmp 51)) (y := (Go.Operand.tmp 53)) (t := 32) (e := 3) (d := some 54) (n' := l58.length) (z := 1) (m := ([x50] : List Int).length) (bytes := 8) (xs' := y62) (news := ([vI x50])) (zv := vI 0) 2 ⟨by kernel_rfl⟩ rfl rfl Try.underlying32 (by kernel_rfl) (by rfl) rfl (fun w_ hM => hM.srcO 0 rfl) h56.len h56.one hb61 (by have z_ := congrArg List.length he60; rw [List.length_append] at z_; exact z_.symm) hy63 (fun _ _ _ _ hS h' => trivial) ?_
      rintro ⟨A65, c66⟩
      refine oQ [oF 4] [(7, sl A65 l58 c66), (5, sl A19 x16 c20), (6, vI x17), (30, sl A_l l c_l), (31, vI (l.length : Int)), (32, vI i37)] (by kernel_rfl) ?_
      refine ops_nil (fin_block (fin_then (st_region [oF 0, oF 1] (by rfl) ?_)))
      refine oQ [oF 0, oF 1] [(32, vI (IntKind.i64.wrap (i37 + 1))), (7, sl A65 l58 c66), (5, sl A19 x16 c20), (6, vI x17), (30, sl A_l l c_l), (31, vI (l.length : Int))] (by kernel_rfl) ?_
      refine ops_nil ?_
      exact fin_again (l58, IntKind.i64.wrap (i37 + 1)) (A65, c66, y62) (Option.some.inj hp).symm h64 (look_has ⟨rfl, rfl, rfl, rfl, rfl, rfl, trivial⟩) (fun w_ hM => hM.pick 4 [1, 2, 3] (by kernel_rfl) (by decide) rfl)
    ·
     have hp := cnd_f hc38 hp
     refine st_exit (fin_exit_then (fin_exit_then (fin_exit ?_)))
     obtain hq_ := Option.some.inj hp
     subst hq_
     obtain hq_ := hd3 _ rfl
     subst hq_
     have hp : (tourlaw1_BorderLists_j1 x17 x16) l34 = some t9001 := hk3
     exact fin_join HJ1 (A32, c33, l34, y35) ⟨hp, h36⟩ (look_has ⟨rfl, rfl, rfl, trivial⟩) (fun w_ hM => hM)
end Go.Proofs.Ytchadeflopbchaa.B
