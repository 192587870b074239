/- The Go functions come to what the plain functions tell. No condition. -/
import Derived.Test.YtbfndcookgijfaaGreatDoorProg
import Derived.Test.YtbfndcookgijfaaGreatDoorFnC
import Derived.Test.YtbfndcookgijfaaGreatDoorExSq
import Derived.Test.YtbfndcookgijfaaGreatDoorWkC0
import Derived.Test.YtbfndcookgijfaaGreatDoorWkC1
import Derived.Test.YtbfndcookgijfaaGreatDoorWkC5
import Derived.Test.YtbfndcookgijfaaGreatDoorWkC6
import Derived.Test.YtbfndcookgijfaaGreatDoorExMap
import Derived.Test.YtbfndcookgijfaaGreatDoorExOwnM
namespace Go.Proofs.YtbfndcookgijfaaGreatDoor.C
open Go Go.RowKit Go.Proofs.YtbfndcookgijfaaGreatDoor.Sx
set_option linter.unusedVariables false
set_option maxHeartbeats 4000000
set_option maxRecDepth 100000
variable {w0 w : World} {cs : List Chunk} {F : Nat → Prop} {W : World}
theorem world_found_ok {f : Option Addr} {j : Nat} {N : List api_Kind} {g : Option Addr} {k : Nat} {T : List Int} {i : Option Addr} {m : Nat} {U : List api_Item} {V : Int} {X : Int} (aq : Mem w0 (Fz F W :: cs) w) (p : RdS R_api_Kind F W f j N) (q : RdS (Rep.int .i64) F W g k T) (r : RdS R_api_Item F W i m U) {A : List api_Kind} {B : List Int} {C : List api_Item} {af : Int} {ag : Int} (o : world_found N T U V X = some (A, B, C, af, ag)) : Calls Tryz.prog 56 #[.agg #[sl f N j, sl g T k, sl i U m], .agg #[vI V, vI X]] w (Post w0 (fun ((s, x, D, t, y, E, u, z, G, v, c, d) : (Option Addr) × Nat × (List Value) × (Option Addr) × Nat × (List Value) × (Option Addr) × Nat × (List Value) × Chunk × (Nat → Prop) × World) => (RepL R_api_Kind c d A D) ∧ (RepL (Rep.int .i64) c d B E) ∧ (OwL O_api_Item_rrw c d C G v) ∧ (Ext w0 F W c d)) (fun (s, x, D, t, y, E, u, z, G, v, c, d) => .tuple #[.agg #[sl s A x, sl t B y, sl u C z], vI af, vI ag]) (fun (s, x, D, t, y, E, u, z, G, v, c, d) => ow s A x 86 2 D :: ow t B y 3 1 E :: ow u C z 61 3 G :: v :: Fz c d :: cs)) := by
 unfold world_found at o
 refine sx_calls Tryz.func56 rfl (n := 24) (by kernel_rfl) (l := [(0, .agg #[sl f N j, sl g T k, sl i U m]), (1, .agg #[vI V, vI X])]) rfl (by rfl) aq ?_
 refine st_seq ?_
 refine st_region (oFs 0 5) (by rfl) ?_
 refine oN 2 [sl f N j, sl g T k, sl i U m] 26 (fun b1 => ?_)
 refine oN 3 [vI V, vI X] 29 (fun b2 => ?_)
 refine oN 4 [.slice none 0 0, .slice none 0 0, .slice none 0 0] 26 (fun a => ?_)
 refine oq [oF 3, oF 4] [(4, vP a 0), (3, vP b2 0), (2, vP b1 0)] ?_
 refine ops_nil (fin_then (st_seq (st_seq ?_)))
 refine st_region (oFs 0 3) (by rfl) ?_
 refine oMA 9 2 0 3 ?_
 obtain ⟨x4, av, o⟩ := obind o
 refine oV (some 10) 4 [3, 0, 1, 2] 4 [1, 2, 3, 0] (fun _ b => world_Check_ok b p q r av) ?_
 rintro _ -
 refine oq [oF 2] [(7, vI x4), (4, vP a 0), (3, vP b2 0), (2, vP b1 0)] ?_
 refine ops_nil (fin_then (st_seq (st_region [oF 0, oF 1] (by rfl) ?_)))
 refine oq [oF 0, oF 1] [(12, .bool (!(x4 == 0))), (7, vI x4), (4, vP a 0), (3, vP b2 0), (2, vP b1 0)] ?_
 refine ops_nil (fin_then ?_)
 refine sif o (fun ar o => ?_) (fun ar o => ?_)
 ·
  refine st_seq ?_
  refine st_region (oFs 0 5) (by rfl) ?_
  refine oq [oF 0, oF 1] [(14, vI x4), (13, .agg #[.slice none 0 0, .slice none 0 0, .slice none 0 0]), (4, vP a 0)] ?_
  refine oS 0 0 [.slice none 0 0, .slice none 0 0, .slice none 0 0] ?_
  refine oq [oF 3, oF 4] [(6, vI x4), (5, vI 0), (4, vP a 0)] ?_
  refine ops_nil (fin_then (st_ret (fin_ret_then ?_)))
  refine fnil 86 2 ?_
  refine fnil 3 1 ?_
  refine fin_conv (l' := [(6, vI x4), (5, vI 0), (4, vP a 0)]) (M' := Mem w0 (ow none ([] : List api_Item) 0 61 3 [] :: (Sx.bundle []) :: ow none ([] : List Int) 0 3 1 [] :: ow none ([] : List api_Kind) 0 86 2 [] :: .blk a [.slice none 0 0, .slice none 0 0, .slice none 0 0] 26 :: .blk b2 [vI V, vI X] 29 :: .blk b1 [sl f N j, sl g T k, sl i U m] 26 :: Fz F W :: cs)) rfl (fun w_ h => h.bnil.onil none 61 3) ?_
  obtain ⟨rfl, rfl, rfl, rfl, rfl⟩ := si5 o
  refine fin_ret [.cell 4 26, .tmp 5, .tmp 6] [.agg #[sl none ([] : List api_Kind) 0, sl none ([] : List Int) 0, sl none ([] : List api_Item) 0], vI 0, vI x4] rfl rfl (fun w_ b => (.cell rfl (tr_run _ [.v (.slice none 0 0), .v (.slice none 0 0), .v (.slice none 0 0)] [ld a 0 (.slice none 0 0), ld a 1 (.slice none 0 0), ld a 2 (.slice none 0 0)] (.agg #[.slice none 0 0, .slice none 0 0, .slice none 0 0] : Value) _ _ (by kernel_rfl) ⟨b.cell 4 rfl rfl, b.cell 4 rfl rfl, b.cell 4 rfl rfl, rfl⟩) (.tmp rfl (.tmp rfl .nil)))) (fun w_ b => ?_)
  exact ⟨(none, 0, [], none, 0, [], none, 0, [], (Sx.bundle []), F, W), ⟨(RepL.nil (R := R_api_Kind)), (RepL.nil (R := (Rep.int .i64))), (OwL.nil (O := O_api_Item_rrw)), (Ext.refl _ _ _)⟩, rfl, b.pick 8 [3, 2, 0, 1, 7] (by kernel_rfl) (by decide) rfl⟩
 ·
  refine st_skip (fin_then (st_seq ?_))
  refine st_region (oFs 0 4) (by rfl) ?_
  refine oMA 15 2 0 3 ?_
  refine oMA 16 1 0 2 ?_
  obtain ⟨x7, aw, o⟩ := obind o
  refine oV (some 17) 4 [3, 0, 1, 2] 4 [1, 2, 3, 0] (fun _ b => world_Find_ok b p q r aw) ?_
  rintro _ -
  refine oq [oF 3] [(8, vI x7), (4, vP a 0), (2, vP b1 0)] ?_
  refine ops_nil (fin_then (st_seq (st_seq (st_region [oF 0, oF 1] (by rfl) ?_))))
  refine oq [oF 0, oF 1] [(19, .bool (decide (x7 < 0))), (8, vI x7), (4, vP a 0), (2, vP b1 0)] ?_
  refine ops_nil (fin_then ?_)
  refine sif o (fun au o => ?_) (fun au o => ?_)
  ·
   refine st_seq ?_
   refine st_region (oFs 0 4) (by rfl) ?_
   refine oq [oF 0] [(20, .agg #[.slice none 0 0, .slice none 0 0, .slice none 0 0]), (4, vP a 0)] ?_
   refine oS 0 0 [.slice none 0 0, .slice none 0 0, .slice none 0 0] ?_
   refine oq [oF 2, oF 3] [(6, vI 4), (5, vI 0), (4, vP a 0)] ?_
   refine ops_nil (fin_then (st_ret (fin_ret_then ?_)))
   refine fnil 86 2 ?_
   refine fnil 3 1 ?_
   refine fin_conv (l' := [(6, vI 4), (5, vI 0), (4, vP a 0)]) (M' := Mem w0 (ow none ([] : List api_Item) 0 61 3 [] :: (Sx.bundle []) :: ow none ([] : List Int) 0 3 1 [] :: ow none ([] : List api_Kind) 0 86 2 [] :: .blk a [.slice none 0 0, .slice none 0 0, .slice none 0 0] 26 :: .blk b2 [vI V, vI X] 29 :: .blk b1 [sl f N j, sl g T k, sl i U m] 26 :: Fz F W :: cs)) rfl (fun w_ h => h.bnil.onil none 61 3) ?_
   obtain ⟨rfl, rfl, rfl, rfl, rfl⟩ := si5 o
   refine fin_ret [.cell 4 26, .tmp 5, .tmp 6] [.agg #[sl none ([] : List api_Kind) 0, sl none ([] : List Int) 0, sl none ([] : List api_Item) 0], vI 0, vI 4] rfl rfl (fun w_ b => (.cell rfl (tr_run _ [.v (.slice none 0 0), .v (.slice none 0 0), .v (.slice none 0 0)] [ld a 0 (.slice none 0 0), ld a 1 (.slice none 0 0), ld a 2 (.slice none 0 0)] (.agg #[.slice none 0 0, .slice none 0 0, .slice none 0 0] : Value) _ _ (by kernel_rfl) ⟨b.cell 4 rfl rfl, b.cell 4 rfl rfl, b.cell 4 rfl rfl, rfl⟩) (.tmp rfl (.tmp rfl .nil)))) (fun w_ b => ?_)
   exact ⟨(none, 0, [], none, 0, [], none, 0, [], (Sx.bundle []), F, W), ⟨(RepL.nil (R := R_api_Kind)), (RepL.nil (R := (Rep.int .i64))), (OwL.nil (O := O_api_Item_rrw)), (Ext.refl _ _ _)⟩, rfl, b.pick 8 [3, 2, 0, 1, 7] (by kernel_rfl) (by decide) rfl⟩
  ·
   refine st_skip (fin_then (st_seq ?_))
   refine st_region (oFs 0 6) (by rfl) ?_
   refine oMA 21 2 0 3 ?_
   obtain ⟨Y, Z, aa, aj, o⟩ := obind3 o
   refine oV (some 22) 4 [3, 0, 1, 2] 8 [0, 1, 2, 3, 5, 6, 7, 4] (fun _ b => world_Copy_ok b p q r aj) ?_
   rintro ⟨H, K, ax, I, L, ay, J, M, az, al, ak, am⟩ ⟨an, ao, ap, ae⟩
   have p := p.ext ae
   have q := q.ext ae
   have r := r.ext ae
   refine oq [oF 2] [(23, vI x7), (22, .agg #[sl H Y K, sl I Z L, sl J aa M]), (4, vP a 0)] ?_
   refine oS 4 0 [sl H Y K, sl I Z L, sl J aa M] ?_
   refine oq [oF 4, oF 5] [(6, vI 0), (5, vI x7), (4, vP a 0)] ?_
   refine ops_nil (fin_then (st_ret ?_))
   obtain ⟨rfl, rfl, rfl, rfl, rfl⟩ := si5 o
   refine fin_ret [.cell 4 26, .tmp 5, .tmp 6] [.agg #[sl H Y K, sl I Z L, sl J aa M], vI x7, vI 0] rfl rfl (fun w_ b => (.cell rfl (tr_run _ [.v (sl H Y K), .v (sl I Z L), .v (sl J aa M)] [ld a 0 (sl H Y K), ld a 1 (sl I Z L), ld a 2 (sl J aa M)] (.agg #[sl H Y K, sl I Z L, sl J aa M] : Value) _ _ (by kernel_rfl) ⟨b.cell 4 rfl rfl, b.cell 4 rfl rfl, b.cell 4 rfl rfl, rfl⟩) (.tmp rfl (.tmp rfl .nil)))) (fun w_ b => ?_)
   exact ⟨(H, K, ax, I, L, ay, J, M, az, al, ak, am), ⟨an, ao, ap, ae⟩, rfl, b.pick 8 [0, 1, 2, 3, 7] (by kernel_rfl) (by decide) rfl⟩
theorem world_Kill_ok {N : Option Addr} {aa : Nat} {aw : List api_Kind} {T : Option Addr} {ab : Nat} {ax : List Int} {U : Option Addr} {ac : Nat} {ay : List api_Item} {x : Int} {E : Int} (br : Mem w0 (Fz F W :: cs) w) (ao : RdS R_api_Kind F W N aa aw) (ap : RdS (Rep.int .i64) F W T ab ax) (aq : RdS R_api_Item F W U ac ay) {ad : List api_Kind} {ae : List Int} {af : List api_Item} {a2 : Int} (u : world_Kill aw ax ay x E = some (ad, ae, af, a2)) : Calls Tryz.prog 29 #[.agg #[sl N aw aa, sl T ax ab, sl U ay ac], .agg #[vI x, vI E]] w (Post w0 (fun ((K, X, ag, L, Y, ah, M, Z, ai, V, q, r) : (Option Addr) × Nat × (List Value) × (Option Addr) × Nat × (List Value) × (Option Addr) × Nat × (List Value) × Chunk × (Nat → Prop) × World) => (RepL R_api_Kind q r ad ag) ∧ (RepL (Rep.int .i64) q r ae ah) ∧ (OwL O_api_Item_rrw q r af ai V) ∧ (Ext w0 F W q r)) (fun (K, X, ag, L, Y, ah, M, Z, ai, V, q, r) => .tuple #[.agg #[sl K ad X, sl L ae Y, sl M af Z], vI a2]) (fun (K, X, ag, L, Y, ah, M, Z, ai, V, q, r) => ow K ad X 86 2 ag :: ow L ae Y 3 1 ah :: ow M af Z 61 3 ai :: V :: Fz q r :: cs)) := by
 unfold world_Kill at u
 refine sx_calls Tryz.func29 rfl (n := 35) (by kernel_rfl) (l := [(0, .agg #[sl N aw aa, sl T ax ab, sl U ay ac]), (1, .agg #[vI x, vI E])]) rfl (by rfl) br ?_
 refine st_seq ?_
 refine st_region (oFs 0 4) (by rfl) ?_
 refine oN 2 [sl N aw aa, sl T ax ab, sl U ay ac] 26 (fun p => ?_)
 refine oN 3 [vI x, vI E] 29 (fun b2 => ?_)
 refine oN 4 [.slice none 0 0, .slice none 0 0, .slice none 0 0] 26 (fun k => ?_)
 refine oq [oF 3] [(4, vP k 0), (3, vP b2 0), (2, vP p 0)] ?_
 refine ops_nil (fin_then (st_seq ?_))
 refine st_region (oFs 0 10) (by rfl) ?_
 refine oMA 9 2 0 3 ?_
 refine oMA 10 1 0 2 ?_
 obtain ⟨t, x5, J, A, x8, bt, u⟩ := obind5 u
 refine oV (some 11) 4 [3, 0, 1, 2] 8 [0, 1, 2, 3, 5, 6, 7, 4] (fun _ m => world_found_ok m ao ap aq bt) ?_
 rintro ⟨i, j, al, au, g, be, a, b, bf, a3, B, D⟩ ⟨bo, a1, bp, av⟩
 have ao := ao.ext av
 have ap := ap.ext av
 have aq := aq.ext av
 refine oq (oFs 3 4) [(14, vI x8), (13, vI A), (12, .agg #[sl i t j, sl au x5 g, sl a J b]), (4, vP k 0), (3, vP b2 0), (2, vP p 0)] ?_
 refine oS 6 0 [sl i t j, sl au x5 g, sl a J b] ?_
 refine oq [oF 8, oF 9] [(7, vI x8), (6, vI A), (4, vP k 0), (3, vP b2 0), (2, vP p 0)] ?_
 refine ops_nil (fin_then (st_seq (st_seq (st_region [oF 0, oF 1] (by rfl) ?_))))
 refine oq [oF 0, oF 1] [(16, .bool (!(x8 == 0))), (7, vI x8), (6, vI A), (4, vP k 0), (3, vP b2 0), (2, vP p 0)] ?_
 refine ops_nil (fin_then ?_)
 refine sif u (fun bg u => ?_) (fun bg u => ?_)
 ·
  refine st_seq ?_
  refine st_region (oFs 0 4) (by rfl) ?_
  refine oq [oF 0, oF 1] [(18, vI x8), (17, .agg #[.slice none 0 0, .slice none 0 0, .slice none 0 0]), (4, vP k 0)] ?_
  refine oS 4 0 [.slice none 0 0, .slice none 0 0, .slice none 0 0] ?_
  refine oq [oF 3] [(5, vI x8), (4, vP k 0)] ?_
  refine ops_nil (fin_then (st_ret (fin_ret_then ?_)))
  refine fnil 86 2 ?_
  refine fnil 3 1 ?_
  refine fin_conv (l' := [(5, vI x8), (4, vP k 0)]) (M' := Mem w0 (ow none ([] : List api_Item) 0 61 3 [] :: (Sx.bundle []) :: ow none ([] : List Int) 0 3 1 [] :: ow none ([] : List api_Kind) 0 86 2 [] :: ow i t j 86 2 al :: ow au x5 g 3 1 be :: ow a J b 61 3 bf :: a3 :: .blk k [.slice none 0 0, .slice none 0 0, .slice none 0 0] 26 :: .blk b2 [vI x, vI E] 29 :: .blk p [sl i t j, sl au x5 g, sl a J b] 26 :: Fz B D :: cs)) rfl (fun w_ h => h.bnil.onil none 61 3) ?_
  obtain ⟨rfl, rfl, rfl, rfl⟩ := si4 u
  refine fin_ret [.cell 4 26, .tmp 5] [.agg #[sl none ([] : List api_Kind) 0, sl none ([] : List Int) 0, sl none ([] : List api_Item) 0], vI x8] rfl rfl (fun w_ m => (.cell rfl (tr_run _ [.v (.slice none 0 0), .v (.slice none 0 0), .v (.slice none 0 0)] [ld k 0 (.slice none 0 0), ld k 1 (.slice none 0 0), ld k 2 (.slice none 0 0)] (.agg #[.slice none 0 0, .slice none 0 0, .slice none 0 0] : Value) _ _ (by kernel_rfl) ⟨m.cell 8 rfl rfl, m.cell 8 rfl rfl, m.cell 8 rfl rfl, rfl⟩) (.tmp rfl .nil))) (fun w_ m => ?_)
  exact ⟨(none, 0, [], none, 0, [], none, 0, [], (Sx.bundle []), B, D), ⟨(RepL.nil (R := R_api_Kind)), (RepL.nil (R := (Rep.int .i64))), (OwL.nil (O := O_api_Item_rrw)), av⟩, rfl, m.pick 12 [3, 2, 0, 1, 11] (by kernel_rfl) (by decide) rfl⟩
 ·
  refine st_skip (fin_then (st_seq ?_))
  refine st_region (oFs 0 9) (by rfl) ?_
  refine oq [oF 0] [(19, vP p 1), (6, vI A), (4, vP k 0), (3, vP b2 0), (2, vP p 0)] ?_
  refine oM 20 6 1 ?_
  refine oq [oF 2] [(21, vP b2 0), (20, sl au x5 g), (6, vI A), (4, vP k 0), (2, vP p 0)] ?_
  refine oM 22 5 0 ?_
  obtain ⟨y, bk, u⟩ := obind u
  obtain ⟨bc, bi, a9⟩ := idx_some bk
  have a6 := (List.getElem?_eq_some_iff.1 a9).1
  refine ops_fact (fun w_ m => m.orowSome 1 rfl (Nat.lt_of_le_of_lt (Nat.zero_le _) a6)) ?_
  rintro ⟨c, rfl, -⟩
  obtain ⟨bz, hr33, bj⟩ := a1.at_ bc y a9
  obtain rfl := hr33
  refine ops_val (op := (.indexAddr 23 (.tmp 20) (.tmp 22))) (d := some 23) (v := vP c (bc * 1)) ⟨by kernel_rfl⟩ (run_indexRow Tryz.underlying23 (z := 1) (by kernel_rfl) rfl rfl bi a6 rfl) ?_
  refine ops_mem (d := some 24) (an := [.v (vI y)]) (evs := [.load ⟨c, bc * 1, none⟩ (vI y)]) (v := vI y) ⟨by kernel_rfl⟩ (fun w_ m hS => ⟨w_, ⟨m.ocell 1 rfl (bj 0 _ rfl), rfl⟩, m, trivial⟩) ?_
  refine oq [oF 6] [(25, vI (IntKind.i64.wrap (y + 1))), (22, vI x), (20, sl (sa c) x5 g), (6, vI A), (4, vP k 0), (2, vP p 0)] ?_
  obtain ⟨bv, bl, u⟩ := obind u
  obtain ⟨G, a8, ba⟩ := idx_some bl
  have bh := (List.getElem?_eq_some_iff.1 ba).1
  obtain ⟨b0, hr43, bx⟩ := a1.at_ G bv ba
  obtain rfl := hr43
  refine ops_val (op := (.indexAddr 23 (.tmp 20) (.tmp 22))) (d := some 26) (v := vP c (G * 1)) ⟨by kernel_rfl⟩ (run_indexRow Tryz.underlying23 (z := 1) (by kernel_rfl) rfl rfl a8 bh rfl) ?_
  refine oq [] [(26, vP c (G * 1)), (25, vI (IntKind.i64.wrap (y + 1))), (6, vI A), (4, vP k 0), (2, vP p 0)] ?_
  obtain ⟨o, bm, u⟩ := obind u
  obtain ⟨bu, bw, a7, a5⟩ := upd_some bm
  obtain rfl : G = bu := by have := a8; omega
  have a0 : x5.length = o.length := by rw [a5, List.length_set]
  obtain ⟨am, bb⟩ : ∃ y_, setAll be (G * 1 + 0) [vI (IntKind.i64.wrap (y + 1))] = y_ := ⟨_, rfl⟩
  have bq : RepL (Rep.int .i64) B D o am := by rw [a5, ← bb]; exact RepL.set a1 (List.getElem?_eq_getElem a7) (fun vs_ hr_ _ => by obtain rfl := hr_; exact ⟨rfl, Nat.le_of_ble_eq_true rfl⟩)
  refine ops_store (an := []) (evs := [.store ⟨c, G * 1, none⟩ (vI (IntKind.i64.wrap (y + 1)))]) ⟨by kernel_rfl⟩ (fun w_ m hS => let ⟨w', he, h'⟩ := m.ostore' 1 rfl (G * 1 + 0) [vI (IntKind.i64.wrap (y + 1))] (by have z_ : be.length = x5.length * 1 := a1.len; have y_ : (G + 1) * 1 ≤ x5.length * 1 := Nat.mul_le_mul_right _ a7; rw [Nat.add_mul] at y_; simp only [List.length_cons, List.length_nil]; omega) a0 bb; ⟨w', he, h', trivial⟩) ?_
  refine ops_conv (l' := [(26, vP c (G * 1)), (25, vI (IntKind.i64.wrap (y + 1))), (6, vI A), (4, vP k 0), (2, vP p 0)]) (M' := Mem w0 (ow i t j 86 2 al :: ow (sa c) o g 3 1 am :: ow a J b 61 3 bf :: a3 :: .blk k [.slice none 0 0, .slice none 0 0, .slice none 0 0] 26 :: .blk b2 [vI x, vI E] 29 :: .blk p [sl i t j, sl (sa c) o g, sl a J b] 26 :: Fz B D :: cs)) (by first | rfl | ((try dsimp only [sl, ow]); rw [a0])) (fun w_ m => by first | exact m | ((try dsimp only [sl, ow] at m ⊢); rw [a0] at m; exact m)) ?_
  refine ops_nil (fin_then (st_seq ?_))
  refine st_region (oFs 0 8) (by rfl) ?_
  refine oq [oF 0] [(27, vP p 2), (6, vI A), (4, vP k 0), (2, vP p 0)] ?_
  refine oM 28 6 2 ?_
  refine oq (oFs 2 3) [(31, vI (IntKind.i64.wrap (A + 1))), (29, vI A), (28, sl a J b), (4, vP k 0), (2, vP p 0)] ?_
  obtain ⟨s, bn, u⟩ := obind u
  refine ops_callI (σ := (List Value) × Chunk) (d := some 32) (f := 57) (args := #[sl a J b, vI A, vI (IntKind.i64.wrap (A + 1))]) (v := (fun x_ => match x_ with | (H, C) => sl a s b)) (I := (fun x_ => match x_ with | (H, C) => (OwL O_api_Item_rrw B D s H C))) (M' := (fun x_ => match x_ with | (H, C) => Mem w0 (ow i t j 86 2 al :: ow (sa c) o g 3 1 am :: ow a s b 61 3 H :: C :: .blk k [.slice none 0 0, .slice none 0 0, .slice none 0 0] 26 :: .blk b2 [vI x, vI E] 29 :: .blk p [sl i t j, sl (sa c) o g, sl a J b] 26 :: Fz B D :: cs))) ⟨by kernel_rfl⟩ (fun w_ m hS => (slices_Delete_api_Item_api_Item_ok w0 w_ (ow i t j 86 2 al :: ow (sa c) o g 3 1 am :: .blk k [.slice none 0 0, .slice none 0 0, .slice none 0 0] 26 :: .blk b2 [vI x, vI E] 29 :: .blk p [sl i t j, sl (sa c) o g, sl a J b] 26 :: cs) B D a b J bf a3 A (IntKind.i64.wrap (A + 1)) (m.pick 8 [2, 3, 7, 0, 1, 4, 5, 6] (by kernel_rfl) (by decide) rfl) bp s bn).mono (by rintro e w' ⟨H, C, a4, rfl, h'⟩; have h' : Mem w0 (ow i t j 86 2 al :: ow (sa c) o g 3 1 am :: ow a s b 61 3 H :: C :: .blk k [.slice none 0 0, .slice none 0 0, .slice none 0 0] 26 :: .blk b2 [vI x, vI E] 29 :: .blk p [sl i t j, sl (sa c) o g, sl a J b] 26 :: Fz B D :: cs) w' := (h'.pick 8 [3, 4, 0, 1, 5, 6, 7, 2] (by kernel_rfl) (by decide) rfl); exact ⟨(H, C), a4, rfl, h', trivial⟩)) ?_
  rintro ⟨H, C⟩ a4
  refine oq [oF 6] [(33, vP p 2), (32, sl a s b), (4, vP k 0), (2, vP p 0)] ?_
  refine oS 6 2 [sl a s b] ?_
  refine ops_nil (fin_then (st_seq ?_))
  refine st_region (oFs 0 3) (by rfl) ?_
  refine oMA 34 6 0 3 ?_
  refine oS 4 0 [sl i t j, sl (sa c) o g, sl a s b] ?_
  refine oq [oF 2] [(5, vI 0), (4, vP k 0)] ?_
  refine ops_nil (fin_then (st_ret ?_))
  obtain ⟨rfl, rfl, rfl, rfl⟩ := si4 u
  refine fin_ret [.cell 4 26, .tmp 5] [.agg #[sl i t j, sl (sa c) o g, sl a s b], vI 0] rfl rfl (fun w_ m => (.cell rfl (tr_run _ [.v (sl i t j), .v (sl (sa c) o g), .v (sl a s b)] [ld k 0 (sl i t j), ld k 1 (sl (sa c) o g), ld k 2 (sl a s b)] (.agg #[sl i t j, sl (sa c) o g, sl a s b] : Value) _ _ (by kernel_rfl) ⟨m.cell 4 rfl rfl, m.cell 4 rfl rfl, m.cell 4 rfl rfl, rfl⟩) (.tmp rfl .nil))) (fun w_ m => ?_)
  exact ⟨(i, j, al, (sa c), g, am, a, b, H, C, B, D), ⟨bo, bq, a4, av⟩, rfl, m.pick 8 [0, 1, 2, 3, 7] (by kernel_rfl) (by decide) rfl⟩
theorem tourref3_IsName_ok {s : ByteArray} (p : Mem w0 (Fz F W :: cs) w) {c : Bool} (a : tourref3_IsName s = some c) : Calls Tryz.prog 72 #[.string s] w (Post w0 (fun (_ : Unit) => True) (fun _ => .bool c) (fun _ => Fz F W :: cs)) := by
 unfold tourref3_IsName at a
 refine sx_calls Tryz.func72 rfl (n := 20) (by kernel_rfl) (l := [(0, .string s)]) rfl (by rfl) p ?_
 refine st_seq (st_region [oF 0] (by rfl) ?_)
 refine oq [oF 0] [(0, .string s)] ?_
 refine ops_nil (fin_then ?_)
 refine st_join1 (σ := Bool) (L := fun k => match k with | j => [(2, .bool j)]) (N := fun k => match k with | j => Mem w0 (Fz F W :: cs)) (I := fun k => match k with | j => (tourref3_IsName_j1 j = some c)) ?_ ?_
 ·
  rintro j a
  unfold tourref3_IsName_j1 at a
  refine st_ret ?_
  obtain rfl := Option.some.inj a
  exact fr [2] () trivial 0 []
 ·
  intro g
  refine st_seq ?_
  refine st_region (oFs 0 18) (by rfl) ?_
  refine oq (oFs 0 3) [(5, .bool (!(s.toList == (⟨#[]⟩ : ByteArray).toList))), (0, .string s)] ?_
  refine ob a [5] (fun q a => ?_) (fun q a => ?_)
  ·
   refine oq (oFs 3 5) [(10, .bool (decide ((s.size : Int) < 17))), (0, .string s)] ?_
   refine ob a [10] (fun r a => ?_) (fun r a => ?_)
   ·
    refine oq [oF 8] [(11, .string s), (10, .bool true), (0, .string s)] ?_
    obtain ⟨m, u, a⟩ := obind a
    refine ops_callI (σ := Unit) (d := some 12) (f := 99) (args := #[.string s, .string (⟨#[97, 98, 99, 100, 101, 102, 103, 104, 105, 106, 107, 108, 109, 110, 111, 112, 113, 114, 115, 116, 117, 118, 119, 120, 121, 122, 48, 49, 50, 51, 52, 53, 54, 55, 56, 57]⟩)]) (v := (fun _ => .string m)) (I := (fun _ => True)) (M' := (fun _ => Mem w0 (Fz F W :: cs))) ⟨by kernel_rfl⟩ (fun z y A => (strings_Trim_ok w0 z (cs) F W s y  m u).mono (by rintro e w' ⟨-, rfl, h'⟩; have h' : Mem w0 (Fz F W :: cs) w' := h'; exact ⟨(), trivial, rfl, h', trivial⟩)) ?_
    rintro _ -
    refine oq (oFs 10 3) [(15, .bool (m.toList == (⟨#[]⟩ : ByteArray).toList)), (0, .string s)] ?_
    refine ob a [15] (fun t a => ?_) (fun t a => ?_)
    ·
     refine oq [oF 13] [(16, .string s), (15, .bool true)] ?_
     obtain ⟨o, x, a⟩ := obind a
     refine ops_val (op := (.index 9 (.tmp 16) (.const (Go.Value.int Go.IntKind.i64 0)))) (d := some 17) (v := .int .u8 o) ⟨by kernel_rfl⟩ (run_strIdx Tryz.underlying9 rfl rfl x) ?_
     refine oq (oFs 15 3) [(2, .bool (decide (57 < o)))] ?_
     refine ops_nil ?_
     exact fj g (decide (57 < o)) a 0 []
    ·
     refine oq (oFs 13 5) [(2, .bool false)] ?_
     refine ops_nil ?_
     exact fj g false a 0 []
   ·
    refine oq (oFs 8 10) [(2, .bool false)] ?_
    refine ops_nil ?_
    exact fj g false a 0 []
  ·
   refine oq (oFs 3 15) [(2, .bool false)] ?_
   refine ops_nil ?_
   exact fj g false a 0 []
theorem tourref3_FieldOK_ok {j : ByteArray} {f : Int} {d : Int} (o : Mem w0 (Fz F W :: cs) w) {g : Bool} (b : tourref3_FieldOK j f d = some g) : Calls Tryz.prog 73 #[.agg #[.string j, vI f, vI d]] w (Post w0 (fun (_ : Unit) => True) (fun _ => .bool g) (fun _ => Fz F W :: cs)) := by
 unfold tourref3_FieldOK at b
 refine sx_calls Tryz.func73 rfl (n := 26) (by kernel_rfl) (l := [(0, .agg #[.string j, vI f, vI d])]) rfl (by rfl) o ?_
 refine st_seq (st_region [oF 0, oF 1] (by rfl) ?_)
 refine oN 1 [.string j, vI f, vI d] 99 (fun c => ?_)
 refine oq [oF 1] [(1, vP c 0)] ?_
 refine ops_nil (fin_then ?_)
 refine st_join1 (σ := Bool) (L := fun m => match m with | k => [(2, .bool k)]) (N := fun m => match m with | k => Mem w0 (Fz F W :: cs)) (I := fun m => match m with | k => (tourref3_FieldOK_j1 k = some g)) ?_ ?_
 ·
  rintro k b
  unfold tourref3_FieldOK_j1 at b
  refine st_ret ?_
  obtain rfl := Option.some.inj b
  exact fr [2] () trivial 0 []
 ·
  intro i
  refine st_seq ?_
  refine st_region (oFs 0 24) (by rfl) ?_
  refine oq [oF 0] [(3, vP c 0), (1, vP c 0)] ?_
  refine oM 4 0 0 ?_
  obtain ⟨v, t, b⟩ := obind b
  refine oV (some 5) 2 [1, 0] 2 [1, 0] (fun _ u => tourref3_IsName_ok u t) ?_
  rintro _ -
  refine oq [oF 3] [(6, .bool v), (1, vP c 0)] ?_
  refine ob b [6] (fun p b => ?_) (fun p b => ?_)
  ·
   refine oq [oF 4] [(7, vP c 1), (6, .bool true), (1, vP c 0)] ?_
   refine oM 8 0 1 ?_
   refine oq (oFs 6 3) [(11, .bool (decide (0 < f))), (1, vP c 0)] ?_
   refine ob b [11] (fun q b => ?_) (fun q b => ?_)
   ·
    refine oq [oF 9] [(12, vP c 1), (11, .bool true), (1, vP c 0)] ?_
    refine oM 13 0 1 ?_
    refine oq (oFs 11 3) [(16, .bool (decide (f < 33))), (1, vP c 0)] ?_
    refine ob b [16] (fun r b => ?_) (fun r b => ?_)
    ·
     refine oq [oF 14] [(17, vP c 2), (16, .bool true), (1, vP c 0)] ?_
     refine oM 18 0 2 ?_
     refine oq (oFs 16 3) [(21, .bool (decide ((-4294967296) ≤ d))), (1, vP c 0)] ?_
     refine ob b [21] (fun s b => ?_) (fun s b => ?_)
     ·
      refine oq [oF 19] [(22, vP c 2), (21, .bool true)] ?_
      refine oM 23 0 2 ?_
      refine oq (oFs 21 3) [(2, .bool (decide (d ≤ 4294967296)))] ?_
      refine ops_nil ?_
      exact fj i (decide (d ≤ 4294967296)) b 2 [1]
     ·
      refine oq (oFs 19 5) [(2, .bool false)] ?_
      refine ops_nil ?_
      exact fj i false b 2 [1]
    ·
     refine oq (oFs 14 10) [(2, .bool false)] ?_
     refine ops_nil ?_
     exact fj i false b 2 [1]
   ·
    refine oq (oFs 9 15) [(2, .bool false)] ?_
    refine ops_nil ?_
    exact fj i false b 2 [1]
  ·
   refine oq (oFs 4 20) [(2, .bool false)] ?_
   refine ops_nil ?_
   exact fj i false b 2 [1]
theorem slices_Index_string_string_ok {c : Option Addr} {f : Nat} {s : List ByteArray} {v : ByteArray} (E : Mem w0 (Fz F W :: cs) w) (G : RdS Rep.str F W c f s) {i : Int} (b : slices_Index_string_string s v = some i) : Calls Tryz.prog 100 #[sl c s f, .string v] w (Post w0 (fun (_ : Unit) => True) (fun _ => vI i) (fun _ => Fz F W :: cs)) := by
 unfold slices_Index_string_string at b
 refine sx_calls Tryz.func100 rfl (n := 19) (by kernel_rfl) (l := [(0, sl c s f), (1, .string v)]) rfl (by rfl) E ?_
 refine st_seq (st_region [oF 0] (by rfl) ?_)
 refine oq [oF 0] [(0, sl c s f), (1, .string v)] ?_
 refine ops_nil (fin_then ?_)
 refine st_join1 (σ := Unit) (L := fun _ => []) (N := fun _ => Mem w0 (Fz F W :: cs)) (I := fun _ => (slices_Index_string_string_j1 = some i)) ?_ ?_
 ·
  rintro _ b
  unfold slices_Index_string_string_j1 at b
  refine st_seq (st_region [oF 0] (by rfl) ?_)
  refine oq [oF 0] [(4, vI (-1))] ?_
  refine ops_nil (fin_then (st_ret ?_))
  obtain rfl := Option.some.inj b
  exact fr [4] () trivial 0 []
 ·
  intro C
  refine st_seq (st_seq ?_)
  refine st_region (oFs 0 3) (by rfl) ?_
  refine oq (oFs 0 3) [(8, vI 0), (7, vI (s.length : Int)), (0, sl c s f), (1, .string v)] ?_
  refine ops_nil (fin_then (st_block ?_))
  obtain ⟨Y, J, t⟩ := obind b
  refine lp (σ := Int) (ρ := (Int ⊕ Unit)) (γ := Unit) J () (fun p o => match p, o with | g, _ => [(0, sl c s f), (1, .string v), (7, vI (s.length : Int)), (8, vI g)]) (fun p o => match p, o with | g, _ => Mem w0 (Fz F W :: cs)) (fun p o => match p, o with | g, _ => True) trivial 0 [] ?_
  rintro g _ T - hs_ r
  have b : (slices_Index_string_string_l2 s v) g = some T := hs_
  clear hs_
  unfold slices_Index_string_string_l2 at b
  refine st_seq (st_region [oF 0] (by rfl) ?_)
  refine oq [oF 0] [(9, .bool (decide (g < (s.length : Int)))), (0, sl c s f), (1, .string v), (7, vI (s.length : Int)), (8, vI g)] ?_
  refine ops_nil (fin_then (st_seq ?_))
  refine sif b (fun H b => ?_) (fun H b => ?_)
  ·
   refine st_skip (fin_then (st_seq (st_block (st_seq (st_region [oF 0, oF 1] (by rfl) ?_)))))
   refine oq [oF 0, oF 1] [(5, vI g), (0, sl c s f), (1, .string v), (7, vI (s.length : Int)), (8, vI g)] ?_
   refine ops_nil (fin_then (st_seq ?_))
   refine st_region (oFs 0 6) (by rfl) ?_
   refine oq (oFs 0 3) [(13, vI g), (12, sl c s f), (11, .string v), (5, vI g), (0, sl c s f), (1, .string v), (7, vI (s.length : Int)), (8, vI g)] ?_
   obtain ⟨q, M, b⟩ := obind b
   obtain ⟨O, K, u⟩ := idx_some M
   have A := (List.getElem?_eq_some_iff.1 u).1
   obtain ⟨m, V, x, hr9, B⟩ := RdS.el G u
   obtain rfl := hr9
   refine ops_val (op := (.indexAddr 89 (.tmp 12) (.tmp 13))) (d := some 14) (v := .pointer (some (m.add (O * 1)))) ⟨by kernel_rfl⟩ (run_indexA x Tryz.underlying89 (z := 1) (by kernel_rfl) rfl rfl K A) ?_
   refine ops_mem (d := some 15) (an := [.v (.string q)]) (evs := [.load (m.add (O * 1)) (.string q)]) (v := .string q) ⟨by kernel_rfl⟩ (fun U D X => ⟨U, ⟨D.elcell 0 rfl B 0 rfl, rfl⟩, D, trivial⟩) ?_
   refine oq [oF 5] [(16, .bool (v.toList == q.toList)), (5, vI g), (0, sl c s f), (1, .string v), (7, vI (s.length : Int)), (8, vI g)] ?_
   refine ops_nil (fin_then ?_)
   refine sif b (fun y b => ?_) (fun y b => ?_)
   ·
    refine st_seq (st_region [oF 0, oF 1] (by rfl) ?_)
    refine oq [oF 0, oF 1] [(4, vI g)] ?_
    refine ops_nil (fin_then (st_ret (fin_ret_block (fin_ret_then (fin_ret_then (fin_ret_block (fin_ret_then ?_)))))))
    obtain rfl := Option.some.inj b
    obtain rfl := r _ rfl
    have b : some g = some i := t
    obtain rfl := Option.some.inj b
    exact fr [4] () trivial 0 []
   ·
    refine st_skip (fin_block (fin_then (st_region [oF 0, oF 1] (by rfl) ?_)))
    refine oq [oF 0, oF 1] [(8, vI (IntKind.i64.wrap (g + 1))), (0, sl c s f), (1, .string v), (7, vI (s.length : Int))] ?_
    refine ops_nil ?_
    exact fag (IntKind.i64.wrap (g + 1)) () (Option.some.inj b).symm trivial 0 []
  ·
   refine st_exit (fin_exit_then (fin_exit_then (fin_exit ?_)))
   obtain rfl := Option.some.inj b
   obtain rfl := r _ rfl
   have b : slices_Index_string_string_j1 = some i := t
   exact fj C () b 0 []
theorem slices_Contains_string_string_ok {a : Option Addr} {b : Nat} {s : List ByteArray} {v : ByteArray} (i : Mem w0 (Fz F W :: cs) w) (j : RdS Rep.str F W a b s) {c : Bool} (f : slices_Contains_string_string s v = some c) : Calls Tryz.prog 74 #[sl a s b, .string v] w (Post w0 (fun (_ : Unit) => True) (fun _ => .bool c) (fun _ => Fz F W :: cs)) := by
 unfold slices_Contains_string_string at f
 refine sx_calls Tryz.func74 rfl (n := 9) (by kernel_rfl) (l := [(0, sl a s b), (1, .string v)]) rfl (by rfl) i ?_
 refine st_seq (st_region [oF 0] (by rfl) ?_)
 refine oq [oF 0] [(0, sl a s b), (1, .string v)] ?_
 refine ops_nil (fin_then (st_seq ?_))
 refine st_region (oFs 0 5) (by rfl) ?_
 refine oq [oF 0, oF 1] [(6, .string v), (5, sl a s b)] ?_
 obtain ⟨p, k, f⟩ := obind f
 refine oV (some 7) 0 [] 0 [] (fun _ o => slices_Index_string_string_ok o j k) ?_
 rintro _ -
 refine oq [oF 3, oF 4] [(4, .bool (decide (0 ≤ p)))] ?_
 refine ops_nil (fin_then (st_ret ?_))
 obtain rfl := Option.some.inj f
 exact fr [4] () trivial 0 []
theorem tourref3_twice_ok {a : Option Addr} {b : Nat} {l : List ByteArray} {s : ByteArray} (i : Mem w0 (Fz F W :: cs) w) (j : RdS Rep.str F W a b l) {c : Bool} (f : tourref3_twice l s = some c) : Calls Tryz.prog 47 #[sl a l b, .string s] w (Post w0 (fun (_ : Unit) => True) (fun _ => .bool c) (fun _ => Fz F W :: cs)) := by
 unfold tourref3_twice at f
 refine sx_calls Tryz.func47 rfl (n := 8) (by kernel_rfl) (l := [(0, sl a l b), (1, .string s)]) rfl (by rfl) i ?_
 refine st_seq (st_region [oF 0] (by rfl) ?_)
 refine oq [oF 0] [(0, sl a l b), (1, .string s)] ?_
 refine ops_nil (fin_then (st_seq ?_))
 refine st_region (oFs 0 4) (by rfl) ?_
 refine oq [oF 0, oF 1] [(6, .string s), (5, sl a l b)] ?_
 obtain ⟨p, k, f⟩ := obind f
 refine oV (some 7) 0 [] 0 [] (fun _ o => slices_Contains_string_string_ok o j k) ?_
 rintro _ -
 refine oq [oF 3] [(4, .bool p)] ?_
 refine ops_nil (fin_then (st_ret ?_))
 obtain rfl := Option.some.inj f
 exact fr [4] () trivial 0 []
theorem tourref3_KindError_ok {J : ByteArray} {j : Option Addr} {k : Nat} {g : List api_Field} (aw : Mem w0 (Fz F W :: cs) w) (ad : RdS R_api_Field F W j k g) {p : Int} (c : tourref3_KindError J g = some p) : Calls Tryz.prog 46 #[.agg #[.string J, sl j g k]] w (Post w0 (fun (_ : Unit) => True) (fun _ => vI p) (fun _ => Fz F W :: cs)) := by
 unfold tourref3_KindError at c
 refine sx_calls Tryz.func46 rfl (n := 34) (by kernel_rfl) (l := [(0, .agg #[.string J, sl j g k])]) rfl (by rfl) aw ?_
 refine st_seq (st_region [oF 0, oF 1] (by rfl) ?_)
 refine oN 1 [.string J, sl j g k] 86 (fun B => ?_)
 refine oq [oF 1] [(1, vP B 0)] ?_
 refine ops_nil (fin_then (st_seq (st_seq ?_)))
 refine st_region (oFs 0 4) (by rfl) ?_
 refine oq [oF 0] [(6, vP B 0), (1, vP B 0)] ?_
 refine oM 7 0 0 ?_
 obtain ⟨x2, a1, c⟩ := obind c
 refine oV (some 8) 2 [1, 0] 2 [1, 0] (fun _ u => tourref3_IsName_ok u a1) ?_
 rintro _ -
 refine oq [oF 3] [(9, .bool (!x2)), (1, vP B 0)] ?_
 refine ops_nil (fin_then ?_)
 refine sif c (fun ay c => ?_) (fun ay c => ?_)
 ·
  refine st_seq (st_region [oF 0] (by rfl) ?_)
  refine oq [oF 0] [(2, vI 3)] ?_
  refine ops_nil (fin_then (st_ret (fin_ret_then ?_)))
  obtain rfl := Option.some.inj c
  exact fr [2] () trivial 2 [1]
 ·
  refine st_skip (fin_then (st_seq (st_seq ?_)))
  refine st_region (oFs 0 4) (by rfl) ?_
  refine oq [oF 0] [(10, vP B 1), (1, vP B 0)] ?_
  refine oM 11 0 1 ?_
  refine oq [oF 2, oF 3] [(13, .bool (decide (8 < (g.length : Int)))), (1, vP B 0)] ?_
  refine ops_nil (fin_then ?_)
  refine sif c (fun az c => ?_) (fun az c => ?_)
  ·
   refine st_seq (st_region [oF 0] (by rfl) ?_)
   refine oq [oF 0] [(2, vI 2)] ?_
   refine ops_nil (fin_then (st_ret (fin_ret_then ?_)))
   obtain rfl := Option.some.inj c
   exact fr [2] () trivial 2 [1]
  ·
   refine st_skip (fin_then (st_seq (st_region [oF 0] (by rfl) ?_)))
   refine oq [oF 0] [(3, .slice none 0 0), (1, vP B 0)] ?_
   refine ops_nil (fin_then ?_)
   refine st_join1 (σ := Unit) (L := fun _ => []) (N := fun _ => Mem w0 (Fz F W :: cs)) (I := fun _ => (tourref3_KindError_j1 = some p)) ?_ ?_
   ·
    rintro _ c
    unfold tourref3_KindError_j1 at c
    refine st_seq (st_region [oF 0] (by rfl) ?_)
    refine oq [oF 0] [(2, vI 0)] ?_
    refine ops_nil (fin_then (st_ret ?_))
    obtain rfl := Option.some.inj c
    exact fr [2] () trivial 0 []
   ·
    intro au
    refine st_seq (st_seq ?_)
    refine st_region (oFs 0 4) (by rfl) ?_
    refine oq [oF 0] [(14, vP B 1), (3, .slice none 0 0)] ?_
    refine oM 15 0 1 ?_
    refine oq [oF 2, oF 3] [(17, vI 0), (16, vI (g.length : Int)), (15, sl j g k), (3, .slice none 0 0)] ?_
    refine ops_nil (fin_then (st_block ?_))
    refine snil 9 1 ?_
    obtain ⟨r2, a0, Y⟩ := obind c
    refine lp (σ := (List ByteArray) × Int) (ρ := (Int ⊕ Unit)) (γ := (Option Addr) × Nat × (List Value)) a0 (none, 0, []) (fun s_ T => match s_, T with | (q, o), (r, s, H) => [(3, sl r q s), (15, sl j g k), (16, vI (g.length : Int)), (17, vI o)]) (fun s_ T => match s_, T with | (q, o), (r, s, H) => Mem w0 (ow r q s 9 1 H :: Fz F W :: cs)) (fun s_ T => match s_, T with | (q, o), (r, s, H) => (RepL Rep.str F W q H)) (RepL.nil (R := Rep.str)) 3 [0, 2] ?_
    rintro ⟨q, o⟩ ⟨r, s, H⟩ o2 ae hs_ V
    have c : (tourref3_KindError_l2 g) q o = some o2 := hs_
    clear hs_
    unfold tourref3_KindError_l2 at c
    refine st_seq (st_region [oF 0] (by rfl) ?_)
    refine oq [oF 0] [(18, .bool (decide (o < (g.length : Int)))), (3, sl r q s), (15, sl j g k), (16, vI (g.length : Int)), (17, vI o)] ?_
    refine ops_nil (fin_then (st_seq ?_))
    refine sif c (fun ai c => ?_) (fun ai c => ?_)
    ·
     refine st_skip (fin_then (st_seq (st_block (st_seq ?_))))
     refine st_region (oFs 0 4) (by rfl) ?_
     obtain ⟨i, ao, c⟩ := obind c
     obtain ⟨K, am, Z⟩ := idx_some ao
     have al := (List.getElem?_eq_some_iff.1 Z).1
     obtain ⟨A, a4, ag, hr19, G⟩ := RdS.el ad Z
     obtain rfl := dec_api_Field hr19
     refine ops_val (op := (.indexAddr 84 (.tmp 15) (.tmp 17))) (d := some 19) (v := .pointer (some (A.add (K * 3)))) ⟨by kernel_rfl⟩ (run_indexA ag Tryz.underlying84 (z := 3) (by kernel_rfl) rfl rfl am al) ?_
     refine ops_mem (d := some 20) (an := [.v (.string i.Name), .v (vI i.Bits), .v (vI i.Low)]) (evs := [.load (A.add (K * 3)) (.string i.Name), .load ((A.add (K * 3)).add 1) (vI i.Bits), .load ((A.add (K * 3)).add 2) (vI i.Low)]) (v := .agg #[.string i.Name, vI i.Bits, vI i.Low]) ⟨by kernel_rfl⟩ (fun C u hS => ⟨C, ⟨u.elcell 1 rfl G 0 rfl, u.elcell 1 rfl G 1 rfl, u.elcell 1 rfl G 2 rfl, rfl⟩, u, trivial⟩) ?_
     refine oN 5 [.string ByteArray.empty, vI 0, vI 0] 99 (fun D => ?_)
     refine oS 0 0 [.string i.Name, vI i.Bits, vI i.Low] ?_
     refine ops_nil (fin_then (st_seq (st_seq ?_)))
     refine st_region (oFs 0 3) (by rfl) ?_
     refine oMA 21 0 0 3 ?_
     obtain ⟨a2, ap, c⟩ := obind c
     refine oV (some 22) 3 [2, 0, 1] 3 [1, 2, 0] (fun _ u => tourref3_FieldOK_ok u ap) ?_
     rintro _ -
     refine oq [oF 2] [(23, .bool (!a2)), (5, vP D 0), (3, sl r q s), (15, sl j g k), (16, vI (g.length : Int)), (17, vI o)] ?_
     refine ops_nil (fin_then ?_)
     refine sif c (fun aj c => ?_) (fun aj c => ?_)
     ·
      refine st_seq (st_region [oF 0] (by rfl) ?_)
      refine oq [oF 0] [(2, vI 3)] ?_
      refine ops_nil (fin_then (st_ret (fin_ret_then (fin_ret_block (fin_ret_then (fin_ret_then (fin_ret_block (fin_ret_then ?_))))))))
      obtain rfl := Option.some.inj c
      obtain rfl := V _ rfl
      have c : some 3 = some p := Y
      obtain rfl := Option.some.inj c
      exact fr [2] () trivial 3 [2]
     ·
      refine st_skip (fin_then (st_seq (st_seq ?_)))
      refine st_region (oFs 0 4) (by rfl) ?_
      refine oq [oF 0, oF 1] [(25, vP D 0), (24, sl r q s), (5, vP D 0), (3, sl r q s), (15, sl j g k), (16, vI (g.length : Int)), (17, vI o)] ?_
      refine oM 26 0 0 ?_
      obtain ⟨af, aq, c⟩ := obind c
      refine ops_callI (σ := Unit) (d := some 27) (f := 47) (args := #[sl r q s, .string i.Name]) (v := (fun _ => .bool af)) (I := (fun _ => True)) (M' := (fun _ => Mem w0 (.blk D [.string i.Name, vI i.Bits, vI i.Low] 99 :: ow r q s 9 1 H :: Fz F W :: cs))) ⟨by kernel_rfl⟩ (fun C u hS => (@tourref3_twice_ok C C [] (fun b => b < C.heap.size) C r s q i.Name (Mem.fz0 C) (u.ordS 1 2 rfl rfl ae rfl rfl) af aq).mono (by rintro e w' ⟨_, -, rfl, h'⟩; have h' : Mem C [] w' := h'.pick 1 [] (by kernel_rfl) (by decide) rfl; exact ⟨(), trivial, rfl, u.join h' rfl, trivial⟩)) ?_
      rintro _ -
      refine ops_nil (fin_then ?_)
      refine sif c (fun ak c => ?_) (fun ak c => ?_)
      ·
       refine st_seq (st_region [oF 0] (by rfl) ?_)
       refine oq [oF 0] [(2, vI 5)] ?_
       refine ops_nil (fin_then (st_ret (fin_ret_then (fin_ret_block (fin_ret_then (fin_ret_then (fin_ret_block (fin_ret_then ?_))))))))
       obtain rfl := Option.some.inj c
       obtain rfl := V _ rfl
       have c : some 5 = some p := Y
       obtain rfl := Option.some.inj c
       exact fr [2] () trivial 3 [2]
      ·
       refine st_skip (fin_then ?_)
       refine st_region (oFs 0 6) (by rfl) ?_
       refine oq [oF 0, oF 1] [(29, vP D 0), (28, sl r q s), (3, sl r q s), (15, sl j g k), (16, vI (g.length : Int)), (17, vI o)] ?_
       refine oM 30 0 0 ?_
       have U : RepL Rep.str F W ([i.Name] : List ByteArray) ([.string i.Name]) := (RepL.cons (R := Rep.str) (F := F) (w := W) (vs := [.string i.Name]) (ys := []) rfl RepL.nil)
       refine oB 31 [.string i.Name] 9 1 1 (fun a6 => ?_)
       obtain ⟨E, ar, c⟩ := obind c
       obtain ⟨X, ah⟩ := app_some ar
       obtain ⟨ac, aa⟩ : ∃ y_, H ++ ([.string i.Name]) = y_ := ⟨_, rfl⟩
       have av : RepL Rep.str F W E ac := by rw [X, ← aa]; exact RepL.app ae U
       refine ops_appendO (x := (Go.Operand.tmp 28)) (y := (Go.Operand.tmp 31)) (t := 89) (e := 9) (d := some 32) (n' := E.length) (z := 1) (m := ([i.Name] : List ByteArray).length) (bytes := 16) (xs' := ac) (news := ([.string i.Name])) (zv := .string ByteArray.empty) 2 ⟨by kernel_rfl⟩ rfl rfl Tryz.underlying89 (by kernel_rfl) (by rfl) rfl (fun C u => u.srcO 0 rfl) U.len U.one ah (by have z_ := congrArg List.length X; rw [List.length_append] at z_; exact z_.symm) aa (fun _ _ _ _ hS h' => trivial) ?_
       rintro ⟨M, O⟩
       refine oq [oF 5] [(3, sl M E O), (15, sl j g k), (16, vI (g.length : Int)), (17, vI o)] ?_
       refine ops_nil (fin_block (fin_then (st_region [oF 0, oF 1] (by rfl) ?_)))
       refine oq [oF 0, oF 1] [(17, vI (IntKind.i64.wrap (o + 1))), (3, sl M E O), (15, sl j g k), (16, vI (g.length : Int))] ?_
       refine ops_nil ?_
       exact fag (E, IntKind.i64.wrap (o + 1)) (M, O, ac) (Option.some.inj c).symm av 4 [2, 3]
    ·
     refine st_exit (fin_exit_then (fin_exit_then (fin_exit ?_)))
     obtain rfl := Option.some.inj c
     obtain rfl := V _ rfl
     have c : tourref3_KindError_j1 = some p := Y
     exact fj au () c 2 [1]
theorem tourref3_KindsError_ok {g : Option Addr} {i : Nat} {l : List api_Kind} (aw : Mem w0 (Fz F W :: cs) w) (ay : RdS R_api_Kind F W g i l) {o : Int} (c : tourref3_KindsError l = some o) : Calls Tryz.prog 8 #[sl g l i] w (Post w0 (fun (_ : Unit) => True) (fun _ => vI o) (fun _ => Fz F W :: cs)) := by
 unfold tourref3_KindsError at c
 refine sx_calls Tryz.func8 rfl (n := 31) (by kernel_rfl) (l := [(0, sl g l i)]) rfl (by rfl) aw ?_
 refine st_seq (st_region [oF 0] (by rfl) ?_)
 refine oq [oF 0] [(0, sl g l i)] ?_
 refine ops_nil (fin_then (st_seq (st_seq ?_)))
 refine st_region (oFs 0 3) (by rfl) ?_
 refine oq (oFs 0 3) [(9, .bool (decide (16 < (l.length : Int)))), (0, sl g l i)] ?_
 refine ops_nil (fin_then ?_)
 refine sif c (fun az c => ?_) (fun az c => ?_)
 ·
  refine st_seq (st_region [oF 0] (by rfl) ?_)
  refine oq [oF 0] [(2, vI 2)] ?_
  refine ops_nil (fin_then (st_ret (fin_ret_then ?_)))
  obtain rfl := Option.some.inj c
  exact fr [2] () trivial 0 []
 ·
  refine st_skip (fin_then (st_seq (st_region [oF 0] (by rfl) ?_)))
  refine oq [oF 0] [(3, .slice none 0 0), (0, sl g l i)] ?_
  refine ops_nil (fin_then ?_)
  refine st_join1 (σ := Unit) (L := fun _ => []) (N := fun _ => Mem w0 (Fz F W :: cs)) (I := fun _ => (tourref3_KindsError_j1 = some o)) ?_ ?_
  ·
   rintro _ c
   unfold tourref3_KindsError_j1 at c
   refine st_seq (st_region [oF 0] (by rfl) ?_)
   refine oq [oF 0] [(2, vI 0)] ?_
   refine ops_nil (fin_then (st_ret ?_))
   obtain rfl := Option.some.inj c
   exact fr [2] () trivial 0 []
  ·
   intro aq
   refine st_seq (st_seq ?_)
   refine st_region (oFs 0 3) (by rfl) ?_
   refine oq (oFs 0 3) [(12, vI 0), (11, vI (l.length : Int)), (10, sl g l i), (3, .slice none 0 0)] ?_
   refine ops_nil (fin_then (st_block ?_))
   refine snil 9 1 ?_
   obtain ⟨r2, a1, X⟩ := obind c
   refine lp (σ := (List ByteArray) × Int) (ρ := (Int ⊕ Unit)) (γ := (Option Addr) × Nat × (List Value)) a1 (none, 0, []) (fun s_ O => match s_, O with | (k, r), (p, q, J) => [(3, sl p k q), (10, sl g l i), (11, vI (l.length : Int)), (12, vI r)]) (fun s_ O => match s_, O with | (k, r), (p, q, J) => Mem w0 (ow p k q 9 1 J :: Fz F W :: cs)) (fun s_ O => match s_, O with | (k, r), (p, q, J) => (RepL Rep.str F W k J)) (RepL.nil (R := Rep.str)) 0 [] ?_
   rintro ⟨k, r⟩ ⟨p, q, J⟩ o2 h6 hs_ U
   have c : (tourref3_KindsError_l2 l) k r = some o2 := hs_
   clear hs_
   unfold tourref3_KindsError_l2 at c
   refine st_seq (st_region [oF 0] (by rfl) ?_)
   refine oq [oF 0] [(13, .bool (decide (r < (l.length : Int)))), (3, sl p k q), (10, sl g l i), (11, vI (l.length : Int)), (12, vI r)] ?_
   refine ops_nil (fin_then (st_seq ?_))
   refine sif c (fun a0 c => ?_) (fun a0 c => ?_)
   ·
    refine st_skip (fin_then (st_seq (st_block (st_seq ?_))))
    refine st_region (oFs 0 4) (by rfl) ?_
    obtain ⟨j, al, c⟩ := obind c
    obtain ⟨ab, ak, Z⟩ := idx_some al
    have aj := (List.getElem?_eq_some_iff.1 Z).1
    obtain ⟨H, a3, af, hr15, Y⟩ := RdS.el ay Z
    obtain ⟨C, D, rfl, ar⟩ := dec_api_Kind hr15
    refine ops_val (op := (.indexAddr 22 (.tmp 10) (.tmp 12))) (d := some 14) (v := .pointer (some (H.add (ab * 2)))) ⟨by kernel_rfl⟩ (run_indexA af Tryz.underlying22 (z := 2) (by kernel_rfl) rfl rfl ak aj) ?_
    refine ops_mem (d := some 15) (an := [.v (.string j.Name), .v (sl C j.Fields D)]) (evs := [.load (H.add (ab * 2)) (.string j.Name), .load ((H.add (ab * 2)).add 1) (sl C j.Fields D)]) (v := .agg #[.string j.Name, sl C j.Fields D]) ⟨by kernel_rfl⟩ (fun B u hS => ⟨B, ⟨u.elcell 1 rfl Y 0 rfl, u.elcell 1 rfl Y 1 rfl, rfl⟩, u, trivial⟩) ?_
    refine oN 5 [.string ByteArray.empty, .slice none 0 0] 86 (fun A => ?_)
    refine oS 0 0 [.string j.Name, sl C j.Fields D] ?_
    refine ops_nil (fin_then (st_seq (st_seq ?_)))
    refine st_region (oFs 0 3) (by rfl) ?_
    refine oMA 16 0 0 2 ?_
    obtain ⟨G, am, c⟩ := obind c
    refine oV (some 17) 3 [2, 0, 1] 3 [1, 2, 0] (fun _ u => tourref3_KindError_ok u ar am) ?_
    rintro _ -
    refine oq [oF 2] [(6, vI G), (5, vP A 0), (3, sl p k q), (10, sl g l i), (11, vI (l.length : Int)), (12, vI r)] ?_
    refine ops_nil (fin_then (st_seq (st_region [oF 0, oF 1] (by rfl) ?_)))
    refine oq [oF 0, oF 1] [(19, .bool (!(G == 0))), (6, vI G), (5, vP A 0), (3, sl p k q), (10, sl g l i), (11, vI (l.length : Int)), (12, vI r)] ?_
    refine ops_nil (fin_then ?_)
    refine sif c (fun ah c => ?_) (fun ah c => ?_)
    ·
     refine st_seq (st_region [oF 0, oF 1] (by rfl) ?_)
     refine oq [oF 0, oF 1] [(2, vI G)] ?_
     refine ops_nil (fin_then (st_ret (fin_ret_then (fin_ret_block (fin_ret_then (fin_ret_then (fin_ret_block (fin_ret_then ?_))))))))
     obtain rfl := Option.some.inj c
     obtain rfl := U _ rfl
     have c : some G = some o := X
     obtain rfl := Option.some.inj c
     exact fr [2] () trivial 3 [2]
    ·
     refine st_skip (fin_then (st_seq (st_seq ?_)))
     refine st_region (oFs 0 4) (by rfl) ?_
     refine oq [oF 0, oF 1] [(22, vP A 0), (21, sl p k q), (5, vP A 0), (3, sl p k q), (10, sl g l i), (11, vI (l.length : Int)), (12, vI r)] ?_
     refine oM 23 0 0 ?_
     obtain ⟨ae, ao, c⟩ := obind c
     refine ops_callI (σ := Unit) (d := some 24) (f := 47) (args := #[sl p k q, .string j.Name]) (v := (fun _ => .bool ae)) (I := (fun _ => True)) (M' := (fun _ => Mem w0 (.blk A [.string j.Name, sl C j.Fields D] 86 :: ow p k q 9 1 J :: Fz F W :: cs))) ⟨by kernel_rfl⟩ (fun B u hS => (@tourref3_twice_ok B B [] (fun b => b < B.heap.size) B p q k j.Name (Mem.fz0 B) (u.ordS 1 2 rfl rfl h6 rfl rfl) ae ao).mono (by rintro e w' ⟨_, -, rfl, h'⟩; have h' : Mem B [] w' := h'.pick 1 [] (by kernel_rfl) (by decide) rfl; exact ⟨(), trivial, rfl, u.join h' rfl, trivial⟩)) ?_
     rintro _ -
     refine ops_nil (fin_then ?_)
     refine sif c (fun ai c => ?_) (fun ai c => ?_)
     ·
      refine st_seq (st_region [oF 0] (by rfl) ?_)
      refine oq [oF 0] [(2, vI 5)] ?_
      refine ops_nil (fin_then (st_ret (fin_ret_then (fin_ret_block (fin_ret_then (fin_ret_then (fin_ret_block (fin_ret_then ?_))))))))
      obtain rfl := Option.some.inj c
      obtain rfl := U _ rfl
      have c : some 5 = some o := X
      obtain rfl := Option.some.inj c
      exact fr [2] () trivial 3 [2]
     ·
      refine st_skip (fin_then ?_)
      refine st_region (oFs 0 6) (by rfl) ?_
      refine oq [oF 0, oF 1] [(26, vP A 0), (25, sl p k q), (3, sl p k q), (10, sl g l i), (11, vI (l.length : Int)), (12, vI r)] ?_
      refine oM 27 0 0 ?_
      have T : RepL Rep.str F W ([j.Name] : List ByteArray) ([.string j.Name]) := (RepL.cons (R := Rep.str) (F := F) (w := W) (vs := [.string j.Name]) (ys := []) rfl RepL.nil)
      refine oB 28 [.string j.Name] 9 1 1 (fun a4 => ?_)
      obtain ⟨E, ap, c⟩ := obind c
      obtain ⟨V, ag⟩ := app_some ap
      obtain ⟨ad, aa⟩ : ∃ y_, J ++ ([.string j.Name]) = y_ := ⟨_, rfl⟩
      have au : RepL Rep.str F W E ad := by rw [V, ← aa]; exact RepL.app h6 T
      refine ops_appendO (x := (Go.Operand.tmp 25)) (y := (Go.Operand.tmp 28)) (t := 89) (e := 9) (d := some 29) (n' := E.length) (z := 1) (m := ([j.Name] : List ByteArray).length) (bytes := 16) (xs' := ad) (news := ([.string j.Name])) (zv := .string ByteArray.empty) 2 ⟨by kernel_rfl⟩ rfl rfl Tryz.underlying89 (by kernel_rfl) (by rfl) rfl (fun B u => u.srcO 0 rfl) T.len T.one ag (by have z_ := congrArg List.length V; rw [List.length_append] at z_; exact z_.symm) aa (fun _ _ _ _ hS h' => trivial) ?_
      rintro ⟨K, M⟩
      refine oq [oF 5] [(3, sl K E M), (10, sl g l i), (11, vI (l.length : Int)), (12, vI r)] ?_
      refine ops_nil (fin_block (fin_then (st_region [oF 0, oF 1] (by rfl) ?_)))
      refine oq [oF 0, oF 1] [(12, vI (IntKind.i64.wrap (r + 1))), (3, sl K E M), (10, sl g l i), (11, vI (l.length : Int))] ?_
      refine ops_nil ?_
      exact fag (E, IntKind.i64.wrap (r + 1)) (K, M, ad) (Option.some.inj c).symm au 4 [2, 3]
   ·
    refine st_exit (fin_exit_then (fin_exit_then (fin_exit ?_)))
    obtain rfl := Option.some.inj c
    obtain rfl := U _ rfl
    have c : tourref3_KindsError_j1 = some o := X
    exact fj aq () c 2 [1]
theorem slices_Clone_api_Field_api_Field_ok {i : Option Addr} {a : Nat} {s : List api_Field} (I : Mem w0 (Fz F W :: cs) w) (v : RdS R_api_Field F W i a s) {b : List api_Field} (j : slices_Clone_api_Field_api_Field s = some b) : Calls Tryz.prog 50 #[sl i s a] w (Post w0 (fun ((c, f, g) : (Option Addr) × Nat × (List Value)) => (RepL R_api_Field F W b g)) (fun (c, f, g) => sl c b f) (fun (c, f, g) => ow c b f 99 3 g :: Fz F W :: cs)) := by
 unfold slices_Clone_api_Field_api_Field at j
 refine sx_calls Tryz.func50 rfl (n := 8) (by kernel_rfl) (l := [(0, sl i s a)]) rfl (by rfl) I ?_
 refine st_seq (st_region [oF 0] (by rfl) ?_)
 refine oq [oF 0] [(0, sl i s a)] ?_
 refine ops_nil (fin_then (st_seq (st_seq (st_region [oF 0, oF 1] (by rfl) ?_))))
 refine oq [oF 0] [(3, sl i s a), (0, sl i s a)] ?_
 have B := fun e_ => RdS.len0 v e_
 rcases i with _ | p
 ·
  have j : some ([] : List api_Field) = some b := by rw [← j, B rfl]; simp [app]
  refine oq [oF 1] [(4, .bool true), (3, sl none s a), (0, sl none s a)] ?_
  refine ops_nil (fin_then (st_true rfl (st_seq (st_region [oF 0] (by rfl) ?_))))
  refine oq [oF 0] [(2, .slice none 0 0)] ?_
  refine ops_nil (fin_then (st_ret (fin_ret_then ?_)))
  refine fnil 99 3 ?_
  obtain rfl := Option.some.inj j
  exact fr [2] (none, 0, []) (RepL.nil (R := R_api_Field)) 0 []
 ·
  clear B
  refine oq [oF 1] [(4, .bool false), (3, sl (some p) s a), (0, sl (some p) s a)] ?_
  refine ops_nil (fin_then (st_false rfl (st_skip (fin_then (st_seq ?_)))))
  refine st_region (oFs 0 4) (by rfl) ?_
  have M : RepL R_api_Field F W ([] : List api_Field) ([]) := RepL.nil
  refine oB 5 [] 99 0 3 (fun L => ?_)
  refine oq [oF 1] [(6, sl (some p) s a), (5, sl (sa L) ([] : List api_Field) 0)] ?_
  obtain ⟨E, K, j⟩ := obind j
  obtain ⟨A, J⟩ := app_some K
  obtain ⟨C, k, D⟩ := RdS.src v
  obtain ⟨G, q⟩ : ∃ y_, [] ++ C = y_ := ⟨_, rfl⟩
  have H : RepL R_api_Field F W E G := by rw [A, ← q]; exact RepL.app M k
  refine ops_appendO (x := (Go.Operand.tmp 5)) (y := (Go.Operand.tmp 6)) (t := 84) (e := 99) (d := some 7) (n' := E.length) (z := 3) (m := s.length) (bytes := 32) (xs' := G) (news := C) (zv := .agg #[.string ByteArray.empty, vI 0, vI 0]) 0 ⟨by kernel_rfl⟩ rfl rfl Tryz.underlying84 (by kernel_rfl) (by rfl) rfl (fun T N => N.srcS 1 rfl k D) k.len k.one J (by have z_ := congrArg List.length A; rw [List.length_append] at z_; exact z_.symm) q (fun _ _ _ _ O h' => trivial) ?_
  rintro ⟨r, u⟩
  refine oq [oF 3] [(2, sl r E u)] ?_
  refine ops_nil (fin_then (st_ret ?_))
  obtain rfl := Option.some.inj j
  exact fr [2] (r, u, G) H 0 []
theorem tourref3_Top_ok {k : ByteArray} {b : Int} {c : Int} (s : Mem w0 (Fz F W :: cs) w) {g : Int} (d : tourref3_Top k b c = some g) : Calls Tryz.prog 101 #[.agg #[.string k, vI b, vI c]] w (Post w0 (fun (_ : Unit) => True) (fun _ => vI g) (fun _ => Fz F W :: cs)) := by
 unfold tourref3_Top at d
 refine sx_calls Tryz.func101 rfl (n := 16) (by kernel_rfl) (l := [(0, .agg #[.string k, vI b, vI c])]) rfl (by rfl) s ?_
 refine st_seq (st_region [oF 0, oF 1] (by rfl) ?_)
 refine oN 1 [.string k, vI b, vI c] 99 (fun f => ?_)
 refine oq [oF 1] [(1, vP f 0)] ?_
 refine ops_nil (fin_then (st_seq (st_region [oF 0] (by rfl) ?_)))
 refine oq [oF 0] [(3, vI 1), (1, vP f 0)] ?_
 refine ops_nil (fin_then ?_)
 refine st_join1 (σ := Int) (L := fun q => match q with | m => [(1, vP f 0), (3, vI m)]) (N := fun q => match q with | m => Mem w0 (.blk f [.string k, vI b, vI c] 99 :: Fz F W :: cs)) (I := fun q => match q with | m => ((tourref3_Top_j1 c) m = some g)) ?_ ?_
 ·
  rintro m d
  unfold tourref3_Top_j1 at d
  refine st_seq ?_
  refine st_region (oFs 0 6) (by rfl) ?_
  refine oq [oF 0] [(11, vP f 2), (3, vI m)] ?_
  refine oM 12 0 2 ?_
  refine oq (oFs 2 4) [(2, vI (IntKind.i64.wrap (IntKind.i64.wrap (c + m) - 1)))] ?_
  refine ops_nil (fin_then (st_ret ?_))
  obtain rfl := Option.some.inj d
  exact fr [2] () trivial 2 [1]
 ·
  intro r
  refine st_seq (st_seq ?_)
  refine st_region (oFs 0 3) (by rfl) ?_
  refine oq [oF 0] [(4, vP f 1), (3, vI 1), (1, vP f 0)] ?_
  refine oM 5 0 1 ?_
  refine oq [oF 2] [(6, vI 0), (5, vI b), (3, vI 1), (1, vP f 0)] ?_
  refine ops_nil (fin_then (st_block ?_))
  obtain ⟨z, x, v⟩ := obind d
  refine lp (σ := Int × Int) (ρ := Int) (γ := Unit) x () (fun p o => match p, o with | (i, j), _ => [(1, vP f 0), (3, vI i), (5, vI b), (6, vI j)]) (fun p o => match p, o with | (i, j), _ => Mem w0 (.blk f [.string k, vI b, vI c] 99 :: Fz F W :: cs)) (fun p o => match p, o with | (i, j), _ => True) trivial 0 [] ?_
  rintro ⟨i, j⟩ _ y - hs_ u
  have d : (tourref3_Top_l2 b) i j = some y := hs_
  clear hs_
  unfold tourref3_Top_l2 at d
  refine st_seq (st_region [oF 0] (by rfl) ?_)
  refine oq [oF 0] [(7, .bool (decide (j < b))), (1, vP f 0), (3, vI i), (5, vI b), (6, vI j)] ?_
  refine ops_nil (fin_then (st_seq ?_))
  refine sif d (fun t d => ?_) (fun t d => ?_)
  ·
   refine st_skip (fin_then (st_seq (st_block ?_)))
   refine st_region (oFs 0 3) (by rfl) ?_
   refine oq (oFs 0 3) [(3, vI (IntKind.i64.wrap (i * 2))), (1, vP f 0), (5, vI b), (6, vI j)] ?_
   refine ops_nil (fin_block (fin_then (st_region [oF 0, oF 1] (by rfl) ?_)))
   refine oq [oF 0, oF 1] [(6, vI (IntKind.i64.wrap (j + 1))), (3, vI (IntKind.i64.wrap (i * 2))), (1, vP f 0), (5, vI b)] ?_
   refine ops_nil ?_
   exact fag (IntKind.i64.wrap (i * 2), IntKind.i64.wrap (j + 1)) () (Option.some.inj d).symm trivial 0 []
  ·
   refine st_exit (fin_exit_then (fin_exit_then (fin_exit ?_)))
   obtain rfl := Option.some.inj d
   obtain rfl := u _ rfl
   have d : (tourref3_Top_j1 c) i = some g := v
   exact fj r i d 0 []
theorem tourref3_Nearest_ok {f : ByteArray} {g : Int} {c : Int} {v : Int} (o : Mem w0 (Fz F W :: cs) w) {i : Int} (b : tourref3_Nearest f g c v = some i) : Calls Tryz.prog 75 #[.agg #[.string f, vI g, vI c], vI v] w (Post w0 (fun (_ : Unit) => True) (fun _ => vI i) (fun _ => Fz F W :: cs)) := by
 unfold tourref3_Nearest at b
 refine sx_calls Tryz.func75 rfl (n := 24) (by kernel_rfl) (l := [(0, .agg #[.string f, vI g, vI c]), (1, vI v)]) rfl (by rfl) o ?_
 refine st_seq (st_region [oF 0, oF 1] (by rfl) ?_)
 refine oN 2 [.string f, vI g, vI c] 99 (fun d => ?_)
 refine oq [oF 1] [(2, vP d 0), (1, vI v)] ?_
 refine ops_nil (fin_then (st_seq (st_block (st_seq ?_))))
 refine st_region (oFs 0 4) (by rfl) ?_
 refine oMA 6 0 0 3 ?_
 obtain ⟨u, s, b⟩ := obind b
 refine oV (some 7) 2 [1, 0] 2 [1, 0] (fun _ k => tourref3_FieldOK_ok k s) ?_
 rintro _ -
 refine oq [oF 2, oF 3] [(5, .bool (!u)), (2, vP d 0), (1, vI v)] ?_
 refine ops_nil (fin_then ?_)
 refine sif b (fun p b => ?_) (fun p b => ?_)
 ·
  refine st_seq (st_region [oF 0] (by rfl) ?_)
  refine oq [oF 0] [(4, vI 0)] ?_
  refine ops_nil (fin_then (st_ret (fin_ret_block (fin_ret_then ?_))))
  obtain rfl := Option.some.inj b
  exact fr [4] () trivial 2 [1]
 ·
  refine st_seq ?_
  refine st_region (oFs 0 5) (by rfl) ?_
  refine oq [oF 0, oF 1] [(11, vP d 2), (10, vI v), (2, vP d 0), (1, vI v)] ?_
  refine oM 12 0 2 ?_
  refine oq [oF 3, oF 4] [(9, .bool (decide (v < c))), (2, vP d 0), (1, vI v)] ?_
  refine ops_nil (fin_then ?_)
  refine sif b (fun q b => ?_) (fun q b => ?_)
  ·
   refine st_seq ?_
   refine st_region (oFs 0 3) (by rfl) ?_
   refine oq [oF 0] [(14, vP d 2)] ?_
   refine oM 15 0 2 ?_
   refine oq [oF 2] [(4, vI c)] ?_
   refine ops_nil (fin_then (st_ret (fin_ret_block (fin_ret_then ?_))))
   obtain rfl := Option.some.inj b
   exact fr [4] () trivial 2 [1]
  ·
   refine st_seq ?_
   refine st_region (oFs 0 5) (by rfl) ?_
   refine oq [oF 0] [(17, vI v), (2, vP d 0), (1, vI v)] ?_
   refine oMA 18 0 0 3 ?_
   obtain ⟨x, t, b⟩ := obind b
   refine oV (some 19) 2 [1, 0] 2 [1, 0] (fun _ k => tourref3_Top_ok k t) ?_
   rintro _ -
   refine oq [oF 3, oF 4] [(16, .bool (decide (x < v))), (2, vP d 0), (1, vI v)] ?_
   refine ops_nil (fin_then ?_)
   refine sif b (fun r b => ?_) (fun r b => ?_)
   ·
    refine st_seq ?_
    refine st_region (oFs 0 3) (by rfl) ?_
    refine oMA 21 0 0 3 ?_
    obtain ⟨y, m, b⟩ := obind b
    refine oV (some 22) 2 [1, 0] 2 [1, 0] (fun _ k => tourref3_Top_ok k m) ?_
    rintro _ -
    refine oq [oF 2] [(4, vI y)] ?_
    refine ops_nil (fin_then (st_ret (fin_ret_block (fin_ret_then ?_))))
    obtain rfl := Option.some.inj b
    exact fr [4] () trivial 2 [1]
   ·
    refine st_skip (fin_block (fin_then (st_seq (st_region [oF 0, oF 1] (by rfl) ?_))))
    refine oq [oF 0, oF 1] [(4, vI v)] ?_
    refine ops_nil (fin_then (st_ret ?_))
    obtain rfl := Option.some.inj b
    exact fr [4] () trivial 2 [1]
def tourref3_Fitted__t0 : List Row := [⟨0, 33554432, 128⟩, ⟨0, 67108864, 4⟩, ⟨2, 134217728, 67108864⟩, ⟨0, 268435456, 256⟩, ⟨12, 536870912, 402653184⟩, ⟨16, 1073741824, 536870912⟩, ⟨0, 2147483648, 2⟩, ⟨0, 4294967296, 256⟩, ⟨192, 8589934592, 6442450944⟩, ⟨256, 17179869184, 8589934592⟩, ⟨544, 34359738368, 18253611008⟩, ⟨1024, 68719476736, 34359738368⟩, ⟨3073, 137438953472, 68753031168⟩, ⟨8191, 128, 137438953472⟩]
theorem tourref3_Fitted_ok {C : ByteArray} {j : Option Addr} {k : Nat} {u : List api_Field} {b : Option Addr} {c : Nat} {a : List Int} (bc : Mem w0 (Fz F W :: cs) w) (Z : RdS R_api_Field F W j k u) (ah : RdS (Rep.int .i64) F W b c a) {B : List Int} {J : Int} (g : tourref3_Fitted C u a = some (B, J)) : Calls Tryz.prog 48 #[.agg #[.string C, sl j u k], sl b a c] w (Post w0 (fun ((G, H, K) : (Option Addr) × Nat × (List Value)) => (RepL (Rep.int .i64) F W B K)) (fun (G, H, K) => .tuple #[sl G B H, vI J]) (fun (G, H, K) => ow G B H 3 1 K :: Fz F W :: cs)) := by
 unfold tourref3_Fitted at g
 refine sx_calls Tryz.func48 rfl (n := 40) (by kernel_rfl) (l := [(0, .agg #[.string C, sl j u k]), (1, sl b a c)]) rfl (by rfl) bc ?_
 refine st_seq ?_
 refine st_region (oFs 0 3) (by rfl) ?_
 refine oN 2 [.string C, sl j u k] 86 (fun s => ?_)
 refine oq [oF 1, oF 2] [(2, vP s 0), (1, sl b a c)] ?_
 refine ops_nil (fin_then (st_seq (st_seq ?_)))
 refine st_region (oFs 0 3) (by rfl) ?_
 refine oMA 9 0 0 2 ?_
 obtain ⟨x2, bi, g⟩ := obind g
 refine oV (some 10) 2 [1, 0] 2 [1, 0] (fun _ D => tourref3_KindError_ok D Z bi) ?_
 rintro _ -
 refine oq [oF 2] [(6, vI x2), (2, vP s 0), (1, sl b a c)] ?_
 refine ops_nil (fin_then (st_seq (st_region [oF 0, oF 1] (by rfl) ?_)))
 refine oq [oF 0, oF 1] [(12, .bool (!(x2 == 0))), (6, vI x2), (2, vP s 0), (1, sl b a c)] ?_
 refine ops_nil (fin_then ?_)
 refine sif g (fun bd g => ?_) (fun bd g => ?_)
 ·
  refine st_seq ?_
  refine st_region (oFs 0 3) (by rfl) ?_
  refine oq (oFs 0 3) [(5, vI x2), (4, .slice none 0 0)] ?_
  refine ops_nil (fin_then (st_ret (fin_ret_then ?_)))
  refine fnil 3 1 ?_
  obtain ⟨rfl, rfl⟩ := si2 g
  exact fr [4, 5] (none, 0, []) (RepL.nil (R := (Rep.int .i64))) 3 [0, 2]
 ·
  refine st_skip (fin_then (st_seq (st_seq ?_)))
  refine st_region (oFs 0 6) (by rfl) ?_
  refine oq (oFs 0 3) [(16, vP s 1), (15, vI (a.length : Int)), (2, vP s 0), (1, sl b a c)] ?_
  refine oM 17 0 1 ?_
  refine oq [oF 4, oF 5] [(19, .bool (!((a.length : Int) == (u.length : Int)))), (2, vP s 0), (1, sl b a c)] ?_
  refine ops_nil (fin_then ?_)
  refine sif g (fun be g => ?_) (fun be g => ?_)
  ·
   refine st_seq (st_region [oF 0, oF 1] (by rfl) ?_)
   refine oq [oF 0, oF 1] [(5, vI 1), (4, .slice none 0 0)] ?_
   refine ops_nil (fin_then (st_ret (fin_ret_then ?_)))
   refine fnil 3 1 ?_
   obtain ⟨rfl, rfl⟩ := si2 g
   exact fr [4, 5] (none, 0, []) (RepL.nil (R := (Rep.int .i64))) 3 [0, 2]
  ·
   refine st_skip (fin_then (st_seq (st_region [oF 0] (by rfl) ?_)))
   refine oq [oF 0] [(7, .slice none 0 0), (2, vP s 0), (1, sl b a c)] ?_
   refine ops_nil (fin_then ?_)
   refine st_join1 (σ := (Option Addr) × Nat × (List Int) × (List Value)) (L := fun x_ => match x_ with | (V, X, T, y9) => [(7, sl V T X)]) (N := fun x_ => match x_ with | (V, X, T, y9) => Mem w0 (ow V T X 3 1 y9 :: Fz F W :: cs)) (I := fun x_ => match x_ with | (V, X, T, y9) => (tourref3_Fitted_j1 T = some (B, J)) ∧ (RepL (Rep.int .i64) F W T y9)) ?_ ?_
   ·
    rintro ⟨V, X, T, y9⟩ ⟨g, ba⟩
    unfold tourref3_Fitted_j1 at g
    refine st_seq ?_
    refine st_region (oFs 0 3) (by rfl) ?_
    refine oq (oFs 0 3) [(5, vI 0), (4, sl V T X)] ?_
    refine ops_nil (fin_then (st_ret ?_))
    obtain ⟨rfl, rfl⟩ := si2 g
    exact fr [4, 5] (V, X, y9) ba 0 []
   ·
    intro a9
    refine st_seq (st_seq ?_)
    refine st_region (oFs 0 3) (by rfl) ?_
    refine oq (oFs 0 3) [(22, vI 0), (21, vI (a.length : Int)), (7, .slice none 0 0), (2, vP s 0), (1, sl b a c)] ?_
    refine ops_nil (fin_then (st_block ?_))
    refine snil 3 1 ?_
    obtain ⟨r2, bh, bg⟩ := obind g
    refine lp (σ := (List Int) × Int) (ρ := (List Int)) (γ := (Option Addr) × Nat × (List Value)) bh (none, 0, []) (fun s_ g_ => match s_, g_ with | (i, o), (p, q, A) => [(1, sl b a c), (2, vP s 0), (7, sl p i q), (21, vI (a.length : Int)), (22, vI o)]) (fun s_ g_ => match s_, g_ with | (i, o), (p, q, A) => Mem w0 (.blk s [.string C, sl j u k] 86 :: ow p i q 3 1 A :: Fz F W :: cs)) (fun s_ g_ => match s_, g_ with | (i, o), (p, q, A) => (RepL (Rep.int .i64) F W i A)) (RepL.nil (R := (Rep.int .i64))) 3 [1, 0, 2] ?_
    rintro ⟨i, o⟩ ⟨p, q, A⟩ o2 au hs_ bf
    have g : (tourref3_Fitted_l2 a u) i o = some o2 := hs_
    clear hs_
    unfold tourref3_Fitted_l2 at g
    refine st_seq (st_region [oF 0] (by rfl) ?_)
    refine oq [oF 0] [(23, .bool (decide (o < (a.length : Int)))), (1, sl b a c), (2, vP s 0), (7, sl p i q), (21, vI (a.length : Int)), (22, vI o)] ?_
    refine ops_nil (fin_then (st_seq ?_))
    refine sif g (fun az g => ?_) (fun az g => ?_)
    ·
     refine st_skip (fin_then (st_seq (st_block (st_seq (st_region [oF 0, oF 1] (by rfl) ?_)))))
     refine oq [oF 0, oF 1] [(8, vI o), (1, sl b a c), (2, vP s 0), (7, sl p i q), (21, vI (a.length : Int)), (22, vI o)] ?_
     refine ops_nil (fin_then ?_)
     refine st_region_fast tourref3_Fitted__t0 [oT 0, oT 1, oT 2, oT 3, oT 4, oT 5, oT 6, oT 7, oT 8, oT 9, oF 10, oF 11, oF 12, oT 13] (Mem w0 (.blk s [.string C, sl j u k] 86 :: Fz F W :: cs)) (by kernel_rfl) (by kernel_rfl) (by kernel_rfl) (by kernel_rfl) (by kernel_rfl) (fun _ d _ _ _ h => by cases d <;> exact h) (M' := Mem w0 (.blk s [.string C, sl j u k] 86 :: ow p i q 3 1 A :: Fz F W :: cs)) (fun w_ D => ⟨D.drew, D.drew.sub (.cons_cons _ (.cons _ (.cons_cons _ (.refl _))))⟩) ?_
     refine oq [oT 0, oT 1] [(26, vP s 1), (25, sl p i q), (8, vI o), (1, sl b a c), (2, vP s 0), (7, sl p i q), (21, vI (a.length : Int)), (22, vI o)] ?_
     refine oL 27 0 1 ?_
     refine oq [oT 3] [(28, vI o), (27, sl j u k), (25, sl p i q), (8, vI o), (1, sl b a c), (2, vP s 0), (7, sl p i q), (21, vI (a.length : Int)), (22, vI o)] ?_
     obtain ⟨r, a5, g⟩ := obind g
     obtain ⟨aa, a2, aj⟩ := idx_some a5
     have a0 := (List.getElem?_eq_some_iff.1 aj).1
     obtain ⟨M, bl, aw, hr24, Y⟩ := RdS.el Z aj
     obtain rfl := dec_api_Field hr24
     refine ops_val (op := (.indexAddr 84 (.tmp 27) (.tmp 28))) (d := some 29) (v := .pointer (some (M.add (aa * 3)))) ⟨by kernel_rfl⟩ (run_indexA aw Tryz.underlying84 (z := 3) (by kernel_rfl) rfl rfl a2 a0) ?_
     refine ops_load (d := some 30) (an := [.v (.string r.Name), .v (vI r.Bits), .v (vI r.Low)]) (evs := [.load (M.add (aa * 3)) (.string r.Name), .load ((M.add (aa * 3)).add 1) (vI r.Bits), .load ((M.add (aa * 3)).add 2) (vI r.Low)]) (v := .agg #[.string r.Name, vI r.Bits, vI r.Low]) ⟨by kernel_rfl⟩ (fun w_ D => ⟨D.elcell 1 rfl Y 0 rfl, D.elcell 1 rfl Y 1 rfl, D.elcell 1 rfl Y 2 rfl, rfl⟩) ?_
     refine oq [oT 6, oT 7] [(32, vI o), (31, sl b a c), (30, .agg #[.string r.Name, vI r.Bits, vI r.Low]), (25, sl p i q), (1, sl b a c), (2, vP s 0), (7, sl p i q), (21, vI (a.length : Int)), (22, vI o)] ?_
     obtain ⟨U, a6, g⟩ := obind g
     obtain ⟨av, a3, ak⟩ := idx_some a6
     have a1 := (List.getElem?_eq_some_iff.1 ak).1
     obtain ⟨ad, bm, ax, hr35, a4⟩ := RdS.el ah ak
     obtain rfl := hr35
     refine ops_val (op := (.indexAddr 23 (.tmp 31) (.tmp 32))) (d := some 33) (v := .pointer (some (ad.add (av * 1)))) ⟨by kernel_rfl⟩ (run_indexA ax Tryz.underlying23 (z := 1) (by kernel_rfl) rfl rfl a3 a1) ?_
     refine ops_load (d := some 34) (an := [.v (vI U)]) (evs := [.load (ad.add (av * 1)) (vI U)]) (v := vI U) ⟨by kernel_rfl⟩ (fun w_ D => ⟨D.elcell 1 rfl a4 0 rfl, rfl⟩) ?_
     obtain ⟨E, a7, g⟩ := obind g
     refine ops_callI (σ := Unit) (d := some 35) (f := 75) (args := #[.agg #[.string r.Name, vI r.Bits, vI r.Low], vI U]) (v := (fun _ => vI E)) (I := (fun _ => True)) (M' := (fun _ => Mem w0 (.blk s [.string C, sl j u k] 86 :: ow p i q 3 1 A :: Fz F W :: cs))) ⟨by kernel_rfl⟩ (fun w_ D hS => (@tourref3_Nearest_ok w0 w_ (.blk s [.string C, sl j u k] 86 :: ow p i q 3 1 A :: cs) F W r.Name r.Bits r.Low U (D.pick 3 [2, 0, 1] (by kernel_rfl) (by decide) rfl)  E a7).mono (by rintro e w' ⟨_, -, rfl, h'⟩; have h' : Mem w0 (.blk s [.string C, sl j u k] 86 :: ow p i q 3 1 A :: Fz F W :: cs) w' := (h'.pick 3 [1, 2, 0] (by kernel_rfl) (by decide) rfl); exact ⟨(), trivial, rfl, h', (by exact h'.sub (.cons_cons _ (.cons _ (.cons_cons _ (.refl _)))))⟩)) ?_
     rintro _ -
     have ag : RepL (Rep.int .i64) F W ([E] : List Int) ([vI E]) := (RepL.cons (R := (Rep.int .i64)) (F := F) (w := W) (vs := [vI E]) (ys := []) rfl RepL.nil)
     refine oBS 36 [vI E] 3 1 1 (fun bn => ?_)
     obtain ⟨O, a8, g⟩ := obind g
     obtain ⟨ai, ay⟩ := app_some a8
     obtain ⟨aq, al⟩ : ∃ y_, A ++ ([vI E]) = y_ := ⟨_, rfl⟩
     have bb : RepL (Rep.int .i64) F W O aq := by rw [ai, ← al]; exact RepL.app au ag
     refine ops_appendO (x := (Go.Operand.tmp 25)) (y := (Go.Operand.tmp 36)) (t := 23) (e := 3) (d := some 37) (n' := O.length) (z := 1) (m := ([E] : List Int).length) (bytes := 8) (xs' := aq) (news := ([vI E])) (zv := vI 0) 2 ⟨by kernel_rfl⟩ rfl rfl Tryz.underlying23 (by kernel_rfl) (by rfl) rfl (fun w_ D => D.srcO 0 rfl) ag.len ag.one ay (by have z_ := congrArg List.length ai; rw [List.length_append] at z_; exact z_.symm) al (fun _ _ _ _ hS h' => (by exact h'.sub (.cons _ (.cons_cons _ (.cons _ (.cons_cons _ (.refl _))))))) ?_
     rintro ⟨ac, ae⟩
     refine oq [oT 13] [(7, sl ac O ae), (1, sl b a c), (2, vP s 0), (21, vI (a.length : Int)), (22, vI o)] ?_
     refine ops_nil (fin_block (fin_then (st_region [oF 0, oF 1] (by rfl) ?_)))
     refine oq [oF 0, oF 1] [(22, vI (IntKind.i64.wrap (o + 1))), (7, sl ac O ae), (1, sl b a c), (2, vP s 0), (21, vI (a.length : Int))] ?_
     refine ops_nil ?_
     exact fag (O, IntKind.i64.wrap (o + 1)) (ac, ae, aq) (Option.some.inj g).symm bb 4 [1, 2, 3]
    ·
     refine st_exit (fin_exit_then (fin_exit_then (fin_exit ?_)))
     obtain rfl := Option.some.inj g
     obtain rfl := bf _ rfl
     have g : tourref3_Fitted_j1 i = some (B, J) := bg
     exact fj a9 (p, q, i, A) ⟨g, au⟩ 3 [1, 2]
theorem tourref3_FittedAll_ok (w0 w : World) (cs : List Chunk) (F : Nat → Prop) (W : World) (A_k : Option Addr) (c_k : Nat) (k : List api_Kind) (A_l : Option Addr) (c_l : Nat) (l : List api_Comp) (hM0 : Mem w0 (Fz F W :: cs) w) (h_k : RdS R_api_Kind F W A_k c_k k) (h_l : RdS R_api_Comp F W A_l c_l l) (r_ : ((List (Int × (List Int))) ⊕ Int)) (hp : tourref3_FittedAll k l = some r_) : Calls Tryz.prog 9 #[sl A_k k c_k, sl A_l l c_l] w fun e w' => Sum.elim (fun (l9004 : List (Int × (List Int))) => ∃ (b9001 : Nat), ∃ (es9002 : Array MapEntry), ∃ (ck9003 : Nat), ∃ (F9006 : Nat → Prop), ∃ (W9007 : World), ((MapOK (fun x_ : Int => Value.int .i64 x_) (Rep.sl (Rep.int .i64)) false F9006 W9007 l9004 es9002 ck9003) ∧ (Ext w0 F W F9006 W9007)) ∧ e = .returned (.tuple #[.map (some b9001), vI 0]) ∧ Mem w0 (.obj b9001 (.map es9002 ck9003) :: Fz F9006 W9007 :: cs) w') (fun (i9008 : Int) => ∃ (F9009 : Nat → Prop), ∃ (W9010 : World), ((Ext w0 F W F9009 W9010)) ∧ e = .returned (.tuple #[.map none, vI i9008]) ∧ Mem w0 (Fz F9009 W9010 :: cs) w') r_ := by
 unfold tourref3_FittedAll at hp
 refine sx_calls Tryz.func9 rfl (n := 58) (by kernel_rfl) (l := [(0, sl A_k k c_k), (1, sl A_l l c_l)]) rfl (by rfl) hM0 ?_
 refine st_seq (st_region [oF 0, oF 1] (by rfl) ?_)
 refine oq [oF 0, oF 1] [(0, sl A_k k c_k), (1, sl A_l l c_l)] ?_
 refine ops_nil (fin_then (st_seq (st_region [oF 0, oF 1] (by rfl) ?_)))
 have h2 := (MapOK.nil : MapOK (fun x_ : Int => Value.int .i64 x_) (Rep.sl (Rep.int .i64)) false F W ([] : List (Int × (List Int))) #[] 0)
 refine ops_new (d := some 13) (o := .map #[] 0) (v := fun g1 => .map (some g1)) (M' := fun g1 => Mem w0 (.obj g1 (.map #[] 0) :: Fz F W :: cs)) (fun g1 => ⟨by kernel_rfl⟩) (fun w_ hM hS => ⟨hM.objNew _, trivial⟩) (fun g1 => ?_)
 refine oq [oF 1] [(6, .map (some g1)), (0, sl A_k k c_k), (1, sl A_l l c_l)] ?_
 refine ops_nil (fin_then ?_)
 refine st_join1 (σ := (Array MapEntry) × Nat × (List (Int × (List Int))) × (Nat → Prop) × World) (L := fun x_ => match x_ with | (es3, ck4, l5, F7, W8) => [(6, .map (some g1))]) (N := fun x_ => match x_ with | (es3, ck4, l5, F7, W8) => Mem w0 (.obj g1 (.map es3 ck4) :: Fz F7 W8 :: cs)) (I := fun x_ => match x_ with | (es3, ck4, l5, F7, W8) => (tourref3_FittedAll_j1 l5 = some r_) ∧ (MapOK (fun x_ : Int => Value.int .i64 x_) (Rep.sl (Rep.int .i64)) false F7 W8 l5 es3 ck4) ∧ (Ext w0 F W F7 W8)) ?_ ?_
 ·
  rintro ⟨es3, ck4, l5, F7, W8⟩ ⟨hp, h6, hx1⟩
  unfold tourref3_FittedAll_j1 at hp
  refine st_seq ?_
  refine st_region (oFs 0 3) (by rfl) ?_
  refine oq (oFs 0 3) [(5, vI 0), (4, .map (some g1))] ?_
  refine ops_nil (fin_then (st_ret ?_))
  have hq_ := Option.some.inj hp
  subst hq_
  refine fin_ret [.tmp 4, .tmp 5] [.map (some g1), vI 0] rfl rfl (fun w_ hM => (.tmp rfl (.tmp rfl .nil))) (fun w_ hM => ?_)
  refine (isel_l ?_)
  exact ⟨g1, es3, ck4, F7, W8, ⟨h6, hx1⟩, rfl, hM⟩
 ·
  intro HJ1
  refine st_seq (st_seq ?_)
  refine st_region (oFs 0 3) (by rfl) ?_
  refine oq (oFs 0 3) [(16, vI 0), (15, vI (l.length : Int)), (14, sl A_l l c_l), (6, .map (some g1)), (0, sl A_k k c_k)] ?_
  refine ops_nil (fin_then (st_block ?_))
  obtain ⟨r2, hl2, hk2⟩ := obind hp
  refine lp (σ := (List (Int × (List Int))) × Int) (ρ := (Int ⊕ (List (Int × (List Int))))) (γ := (Array MapEntry) × Nat × (Nat → Prop) × World) hl2 (#[], 0, F, W) (fun s_ g_ => match s_, g_ with | (l11, i13), (es9, ck10, F14, W15) => [(0, sl A_k k c_k), (6, .map (some g1)), (14, sl A_l l c_l), (15, vI (l.length : Int)), (16, vI i13)]) (fun s_ g_ => match s_, g_ with | (l11, i13), (es9, ck10, F14, W15) => Mem w0 (.obj g1 (.map es9 ck10) :: Fz F14 W15 :: cs)) (fun s_ g_ => match s_, g_ with | (l11, i13), (es9, ck10, F14, W15) => (MapOK (fun x_ : Int => Value.int .i64 x_) (Rep.sl (Rep.int .i64)) false F14 W15 l11 es9 ck10) ∧ (Ext w0 F W F14 W15)) ⟨h2, (Ext.refl _ _ _)⟩ 0 [] ?_
  rintro ⟨l11, i13⟩ ⟨es9, ck10, F14, W15⟩ o2 ⟨h12, hx2⟩ hs_ hd2
  have hp : (tourref3_FittedAll_l2 l k) l11 i13 = some o2 := hs_
  clear hs_
  unfold tourref3_FittedAll_l2 at hp
  have h_k := h_k.ext hx2
  have h_l := h_l.ext hx2
  refine st_seq (st_region [oF 0] (by rfl) ?_)
  refine oq [oF 0] [(17, .bool (decide (i13 < (l.length : Int)))), (0, sl A_k k c_k), (6, .map (some g1)), (14, sl A_l l c_l), (15, vI (l.length : Int)), (16, vI i13)] ?_
  refine ops_nil (fin_then (st_seq ?_))
  refine sif hp (fun hc16 hp => ?_) (fun hc16 hp => ?_)
  ·
   refine st_skip (fin_then (st_seq (st_block (st_seq ?_))))
   refine st_region (oFs 0 4) (by rfl) ?_
   obtain ⟨x17, hv18, hp⟩ := obind hp
   obtain ⟨m19, hm20, hx21⟩ := idx_some hv18
   have hl24 := (List.getElem?_eq_some_iff.1 hx21).1
   obtain ⟨ad25, vs22, hA26, hr23, hq27⟩ := RdS.el h_l hx21
   obtain ⟨A28, c29, rfl, h30⟩ := dec_api_Comp hr23
   refine ops_val (op := (.indexAddr 27 (.tmp 14) (.tmp 16))) (d := some 18) (v := .pointer (some (ad25.add (m19 * 2)))) ⟨by kernel_rfl⟩ (run_indexA hA26 Tryz.underlying27 (z := 2) (by kernel_rfl) rfl rfl hm20 hl24) ?_
   refine ops_mem (d := some 19) (an := [.v (vI x17.Kind), .v (sl A28 x17.Vals c29)]) (evs := [.load (ad25.add (m19 * 2)) (vI x17.Kind), .load ((ad25.add (m19 * 2)).add 1) (sl A28 x17.Vals c29)]) (v := .agg #[vI x17.Kind, sl A28 x17.Vals c29]) ⟨by kernel_rfl⟩ (fun w_ hM hS => ⟨w_, ⟨hM.elcell 1 rfl hq27 0 rfl, hM.elcell 1 rfl hq27 1 rfl, rfl⟩, hM, trivial⟩) ?_
   refine oN 8 [vI 0, .slice none 0 0] 42 (fun b31 => ?_)
   refine oS 0 0 [vI x17.Kind, sl A28 x17.Vals c29] ?_
   refine ops_nil (fin_then (st_seq (st_seq ?_)))
   refine st_region (oFs 0 10) (by rfl) ?_
   refine oq [oF 0] [(20, vP b31 0), (8, vP b31 0), (0, sl A_k k c_k), (6, .map (some g1)), (14, sl A_l l c_l), (15, vI (l.length : Int)), (16, vI i13)] ?_
   refine oM 21 0 0 ?_
   refine oq [oF 2, oF 3] [(23, .bool (decide (x17.Kind < 0))), (8, vP b31 0), (0, sl A_k k c_k), (6, .map (some g1)), (14, sl A_l l c_l), (15, vI (l.length : Int)), (16, vI i13)] ?_
   refine ob hp [23] (fun hc32 hp => ?_) (fun hc32 hp => ?_)
   ·
    refine oq (oFs 4 6) [(29, .bool true), (8, vP b31 0), (0, sl A_k k c_k), (6, .map (some g1)), (14, sl A_l l c_l), (15, vI (l.length : Int)), (16, vI i13)] ?_
    refine ops_nil (fin_then (st_true rfl (st_seq (st_region [oF 0, oF 1] (by rfl) ?_))))
    refine oq [oF 0, oF 1] [(5, vI 1), (4, .map none)] ?_
    refine ops_nil (fin_then (st_ret (fin_ret_then (fin_ret_block (fin_ret_then (fin_ret_then (fin_ret_block (fin_ret_then ?_))))))))
    obtain rfl := Option.some.inj hp
    obtain rfl := hd2 _ rfl
    have hp : some (.inr 1) = some r_ := hk2
    have hq_ := Option.some.inj hp
    subst hq_
    refine fin_ret [.tmp 4, .tmp 5] [.map none, vI 1] rfl rfl (fun w_ hM => (.tmp rfl (.tmp rfl .nil))) (fun w_ hM => ?_)
    refine (isel_r ?_)
    exact ⟨F14, W15, hx2, rfl, hM.pick 3 [2] (by kernel_rfl) (by decide) rfl⟩
   ·
    refine oq [oF 4] [(24, vP b31 0), (23, .bool false), (8, vP b31 0), (0, sl A_k k c_k), (6, .map (some g1)), (14, sl A_l l c_l), (15, vI (l.length : Int)), (16, vI i13)] ?_
    refine oM 25 0 0 ?_
    refine oq (oFs 6 4) [(29, .bool (decide ((k.length : Int) ≤ x17.Kind))), (8, vP b31 0), (0, sl A_k k c_k), (6, .map (some g1)), (14, sl A_l l c_l), (15, vI (l.length : Int)), (16, vI i13)] ?_
    refine ops_nil (fin_then ?_)
    refine sif hp (fun hc33 hp => ?_) (fun hc33 hp => ?_)
    ·
     refine st_seq (st_region [oF 0, oF 1] (by rfl) ?_)
     refine oq [oF 0, oF 1] [(5, vI 1), (4, .map none)] ?_
     refine ops_nil (fin_then (st_ret (fin_ret_then (fin_ret_block (fin_ret_then (fin_ret_then (fin_ret_block (fin_ret_then ?_))))))))
     obtain rfl := Option.some.inj hp
     obtain rfl := hd2 _ rfl
     have hp : some (.inr 1) = some r_ := hk2
     have hq_ := Option.some.inj hp
     subst hq_
     refine fin_ret [.tmp 4, .tmp 5] [.map none, vI 1] rfl rfl (fun w_ hM => (.tmp rfl (.tmp rfl .nil))) (fun w_ hM => ?_)
     refine (isel_r ?_)
     exact ⟨F14, W15, hx2, rfl, hM.pick 3 [2] (by kernel_rfl) (by decide) rfl⟩
    ·
     refine st_skip (fin_then (st_seq (st_seq ?_)))
     refine st_region (oFs 0 9) (by rfl) ?_
     refine oq [oF 0, oF 1] [(32, vP b31 0), (31, .map (some g1)), (8, vP b31 0), (0, sl A_k k c_k), (6, .map (some g1)), (14, sl A_l l c_l), (15, vI (l.length : Int)), (16, vI i13)] ?_
     refine oM 33 0 0 ?_
     obtain ⟨x34, hv35, hp⟩ := obind hp
     obtain ⟨vs36, hr37, hrun38⟩ := h12.get (KeyLaw.int Tryz.underlying3) Tryz.underlying37 x17.Kind ([] : List Int) ((slrd (RdS.empty _))) (fun u_ => Tryz.zeroValue23 u_)
     have hr37 : (Rep.sl (Rep.int .i64)).rd F14 W15 x34 vs36 := by rw [← Option.some.inj hv35]; exact hr37
     obtain ⟨A39, c40, rfl, h41⟩ := hr37
     refine ops_law (op := (.lookup 37 (.tmp 31) (.tmp 33) true)) (d := some 34) (σ := Unit) (v := fun _ => .tuple #[sl A39 x34 c40, .bool ((mget l11 x17.Kind).isSome)]) (M' := fun _ => Mem w0 (.blk b31 [vI x17.Kind, sl A28 x17.Vals c29] 42 :: .obj g1 (.map es9 ck10) :: Fz F14 W15 :: cs)) ⟨by kernel_rfl⟩ (fun o_ w_ ho_ hM hS => ⟨(), w_, run_lookupV rfl rfl (hrun38 true g1 w_ (hM.mapAt 1 rfl)) o_ ho_, hM, trivial⟩) (fun _ => ?_)
     refine oq (oFs 4 5) [(10, .bool ((mget l11 x17.Kind).isSome)), (8, vP b31 0), (0, sl A_k k c_k), (6, .map (some g1)), (14, sl A_l l c_l), (15, vI (l.length : Int)), (16, vI i13)] ?_
     refine ops_nil (fin_then (st_seq (st_region [oF 0] (by rfl) ?_)))
     refine oq [oF 0] [(37, .bool ((mget l11 x17.Kind).isSome)), (8, vP b31 0), (0, sl A_k k c_k), (6, .map (some g1)), (14, sl A_l l c_l), (15, vI (l.length : Int)), (16, vI i13)] ?_
     refine ops_nil (fin_then ?_)
     refine sif hp (fun hc42 hp => ?_) (fun hc42 hp => ?_)
     ·
      refine st_seq (st_region [oF 0, oF 1] (by rfl) ?_)
      refine oq [oF 0, oF 1] [(5, vI 5), (4, .map none)] ?_
      refine ops_nil (fin_then (st_ret (fin_ret_then (fin_ret_block (fin_ret_then (fin_ret_then (fin_ret_block (fin_ret_then ?_))))))))
      obtain rfl := Option.some.inj hp
      obtain rfl := hd2 _ rfl
      have hp : some (.inr 5) = some r_ := hk2
      have hq_ := Option.some.inj hp
      subst hq_
      refine fin_ret [.tmp 4, .tmp 5] [.map none, vI 5] rfl rfl (fun w_ hM => (.tmp rfl (.tmp rfl .nil))) (fun w_ hM => ?_)
      refine (isel_r ?_)
      exact ⟨F14, W15, hx2, rfl, hM.pick 3 [2] (by kernel_rfl) (by decide) rfl⟩
     ·
      refine st_skip (fin_then (st_seq ?_))
      refine st_region_draw [oT 0, oT 1, oT 2, oT 3, oT 4, oT 5, oT 6, oF 7, oT 8, oT 9, oT 10, oT 11, oT 12] (Mem w0 (.blk b31 [vI x17.Kind, sl A28 x17.Vals c29] 42 :: .obj g1 (.map es9 ck10) :: Fz F14 W15 :: cs)) (by kernel_rfl) (by kernel_rfl) (by kernel_rfl) (fun _ d _ _ _ h => by cases d <;> exact h) (M' := Mem w0 (.blk b31 [vI x17.Kind, sl A28 x17.Vals c29] 42 :: .obj g1 (.map es9 ck10) :: Fz F14 W15 :: cs)) (fun w_ hM => ⟨hM.drew, hM.drew.sub (.cons_cons _ (.cons_cons _ (.cons_cons _ (.refl _))))⟩) ?_
      refine oq [oT 0, oT 1] [(40, vP b31 0), (39, sl A_k k c_k), (8, vP b31 0), (0, sl A_k k c_k), (6, .map (some g1)), (14, sl A_l l c_l), (15, vI (l.length : Int)), (16, vI i13)] ?_
      refine oL 41 0 0 ?_
      obtain ⟨x43, hv44, hp⟩ := obind hp
      obtain ⟨m45, hm46, hx47⟩ := idx_some hv44
      have hl50 := (List.getElem?_eq_some_iff.1 hx47).1
      obtain ⟨ad51, vs48, hA52, hr49, hq53⟩ := RdS.el h_k hx47
      obtain ⟨A54, c55, rfl, h56⟩ := dec_api_Kind hr49
      refine ops_val (op := (.indexAddr 22 (.tmp 39) (.tmp 41))) (d := some 42) (v := .pointer (some (ad51.add (m45 * 2)))) ⟨by kernel_rfl⟩ (run_indexA hA52 Tryz.underlying22 (z := 2) (by kernel_rfl) rfl rfl hm46 hl50) ?_
      refine ops_load (d := some 43) (an := [.v (.string x43.Name), .v (sl A54 x43.Fields c55)]) (evs := [.load (ad51.add (m45 * 2)) (.string x43.Name), .load ((ad51.add (m45 * 2)).add 1) (sl A54 x43.Fields c55)]) (v := .agg #[.string x43.Name, sl A54 x43.Fields c55]) ⟨by kernel_rfl⟩ (fun w_ hM => ⟨hM.elcell 2 rfl hq53 0 rfl, hM.elcell 2 rfl hq53 1 rfl, rfl⟩) ?_
      refine oq [oT 5] [(44, vP b31 1), (43, .agg #[.string x43.Name, sl A54 x43.Fields c55]), (8, vP b31 0), (0, sl A_k k c_k), (6, .map (some g1)), (14, sl A_l l c_l), (15, vI (l.length : Int)), (16, vI i13)] ?_
      refine oL 45 0 1 ?_
      obtain ⟨x57, x58, hv59, hp⟩ := obind2 hp
      refine ops_callI (σ := (Option Addr) × Nat × (List Value)) (d := some 46) (f := 48) (args := #[.agg #[.string x43.Name, sl A54 x43.Fields c55], sl A28 x17.Vals c29]) (v := (fun x_ => match x_ with | (A60, c61, y62) => .tuple #[sl A60 x57 c61, vI x58])) (I := (fun x_ => match x_ with | (A60, c61, y62) => (RepL (Rep.int .i64) F14 W15 x57 y62))) (M' := (fun x_ => match x_ with | (A60, c61, y62) => Mem w0 (ow A60 x57 c61 3 1 y62 :: .blk b31 [vI x17.Kind, sl A28 x17.Vals c29] 42 :: .obj g1 (.map es9 ck10) :: Fz F14 W15 :: cs))) ⟨by kernel_rfl⟩ (fun w_ hM hS => (@tourref3_Fitted_ok w0 w_ (.blk b31 [vI x17.Kind, sl A28 x17.Vals c29] 42 :: .obj g1 (.map es9 ck10) :: cs) F14 W15 x43.Name A54 c55 x43.Fields A28 c29 x17.Vals (hM.pick 3 [2, 0, 1] (by kernel_rfl) (by decide) rfl) h56 h30 x57 x58 hv59).mono (by rintro e w' ⟨⟨A60, c61, y62⟩, h63, rfl, h'⟩; have h' : Mem w0 (ow A60 x57 c61 3 1 y62 :: .blk b31 [vI x17.Kind, sl A28 x17.Vals c29] 42 :: .obj g1 (.map es9 ck10) :: Fz F14 W15 :: cs) w' := (h'.pick 4 [0, 2, 3, 1] (by kernel_rfl) (by decide) rfl); exact ⟨(A60, c61, y62), h63, rfl, h', (by exact h'.sub (.cons _ (.cons_cons _ (.cons_cons _ (.cons_cons _ (.refl _))))))⟩)) ?_
      rintro ⟨A60, c61, y62⟩ h63
      refine oq (oTs 8 5) [(12, vI x58), (11, sl A60 x57 c61), (8, vP b31 0), (0, sl A_k k c_k), (6, .map (some g1)), (14, sl A_l l c_l), (15, vI (l.length : Int)), (16, vI i13)] ?_
      refine ops_nil (fin_then (st_seq (st_seq (st_region [oF 0, oF 1] (by rfl) ?_))))
      refine oq [oF 0, oF 1] [(50, .bool (!(x58 == 0))), (12, vI x58), (11, sl A60 x57 c61), (8, vP b31 0), (0, sl A_k k c_k), (6, .map (some g1)), (14, sl A_l l c_l), (15, vI (l.length : Int)), (16, vI i13)] ?_
      refine ops_nil (fin_then ?_)
      refine sif hp (fun hc64 hp => ?_) (fun hc64 hp => ?_)
      ·
       refine st_seq ?_
       refine st_region (oFs 0 3) (by rfl) ?_
       refine oq (oFs 0 3) [(5, vI x58), (4, .map none)] ?_
       refine ops_nil (fin_then (st_ret (fin_ret_then (fin_ret_block (fin_ret_then (fin_ret_then (fin_ret_block (fin_ret_then ?_))))))))
       obtain rfl := Option.some.inj hp
       obtain rfl := hd2 _ rfl
       have hp : some (.inr x58) = some r_ := hk2
       have hq_ := Option.some.inj hp
       subst hq_
       refine fin_ret [.tmp 4, .tmp 5] [.map none, vI x58] rfl rfl (fun w_ hM => (.tmp rfl (.tmp rfl .nil))) (fun w_ hM => ?_)
       refine (isel_r ?_)
       exact ⟨F14, W15, hx2, rfl, hM.pick 4 [3] (by kernel_rfl) (by decide) rfl⟩
      ·
       refine st_skip (fin_then ?_)
       refine st_region (oFs 0 5) (by rfl) ?_
       refine oq [oF 0, oF 1] [(53, vP b31 0), (52, .map (some g1)), (11, sl A60 x57 c61), (0, sl A_k k c_k), (6, .map (some g1)), (14, sl A_l l c_l), (15, vI (l.length : Int)), (16, vI i13)] ?_
       refine oM 54 1 0 ?_
       refine oq [oF 3] [(55, sl A60 x57 c61), (54, vI x17.Kind), (52, .map (some g1)), (0, sl A_k k c_k), (6, .map (some g1)), (14, sl A_l l c_l), (15, vI (l.length : Int)), (16, vI i13)] ?_
       refine ops_ex (σ := (Nat → Prop) × World) (I := fun x_ => Ext w0 F14 W15 x_.1 x_.2 ∧ RdS (Rep.int .i64) x_.1 x_.2 A60 c61 x57) (M' := fun x_ => Mem w0 (.blk b31 [vI x17.Kind, sl A28 x17.Vals c29] 42 :: .obj g1 (.map es9 ck10) :: Fz x_.1 x_.2 :: cs)) (fun w_ hM => ?_) ?_
       · obtain ⟨F_, h1_, h2_, h3_⟩ := (hM.pick 4 [0, 3, 1, 2] (by kernel_rfl) (by decide) rfl : Mem w0 (ow A60 x57 c61 3 1 y62 :: Fz F14 W15 :: .blk b31 [vI x17.Kind, sl A28 x17.Vals c29] 42 :: .obj g1 (.map es9 ck10) :: cs) w_).freeze (z := 1) h63 rfl rfl
         exact ⟨(F_, w_), ⟨h1_, h2_⟩, h3_.pick 3 [1, 2, 0] (by kernel_rfl) (by decide) rfl⟩
       rintro ⟨F65, W66⟩ ⟨hx67, h68⟩
       have hx67 : Ext w0 F14 W15 F65 W66 := hx67
       have h68 : RdS (Rep.int .i64) F65 W66 A60 c61 x57 := h68
       have h_k := h_k.ext hx67
       have h_l := h_l.ext hx67
       have h30 := h30.ext hx67
       have h12 := h12.ext hx67
       obtain ⟨l69, hv70, hp⟩ := obind hp
       obtain ⟨es71, ck72, h73, hrun74⟩ := MapOK.update h12 (KeyLaw.int Tryz.underlying3) Tryz.underlying37 x17.Kind (v := x57) (vs := [sl A60 x57 c61]) ((slrd h68))
       rw [Option.some.inj hv70] at h73
       refine ops_unit (op := (.mapUpdate 37 (.tmp 52) (.tmp 54) (.tmp 55))) (σ := Unit) (M' := fun _ => Mem w0 (.blk b31 [vI x17.Kind, sl A28 x17.Vals c29] 42 :: .obj g1 (.map es71 ck72) :: Fz F65 W66 :: cs)) ⟨by kernel_rfl⟩ (fun o_ w_ ho_ hM hS => have h' := hM.setObj 1 rfl _; ⟨(), _, run_updateV rfl rfl rfl (hrun74 g1 w_ (hM.mapAt 1 rfl)) o_ ho_, h', trivial⟩) (fun _ => ?_)
       refine ops_nil (fin_block (fin_then (st_region [oF 0, oF 1] (by rfl) ?_)))
       refine oq [oF 0, oF 1] [(16, vI (IntKind.i64.wrap (i13 + 1))), (0, sl A_k k c_k), (6, .map (some g1)), (14, sl A_l l c_l), (15, vI (l.length : Int))] ?_
       refine ops_nil ?_
       exact fag (l69, IntKind.i64.wrap (i13 + 1)) (es71, ck72, F65, W66) (Option.some.inj hp).symm ⟨h73, (hx2.trans hx67)⟩ 3 [1, 2]
  ·
   refine st_exit (fin_exit_then (fin_exit_then (fin_exit ?_)))
   obtain rfl := Option.some.inj hp
   obtain rfl := hd2 _ rfl
   have hp : tourref3_FittedAll_j1 l11 = some r_ := hk2
   exact fj HJ1 (es9, ck10, l11, F14, W15) ⟨hp, h12, hx2⟩ 0 []
theorem tourref3_Listed_ok {b : Nat} {q : Array MapEntry} {p : Nat} {m : List (Int × (List Int))} (bh : Mem w0 (.obj b (.map q p) :: Fz F W :: cs) w) (C : MapOK (fun g : Int => Value.int .i64 g) (Rep.sl (Rep.int .i64)) false F W m q p) {B : List api_Comp} (f : tourref3_Listed m = some B) : Calls Tryz.prog 11 #[.map (some b)] w (Post w0 (fun ((K, M, O, H, G, u, A) : (Option Addr) × Nat × (List Value) × (Array MapEntry) × Nat × (Nat → Prop) × World) => (RepL R_api_Comp u A B O) ∧ (MapOK (fun g : Int => Value.int .i64 g) (Rep.sl (Rep.int .i64)) false u A m H G) ∧ (Ext w0 F W u A)) (fun (K, M, O, H, G, u, A) => sl K B M) (fun (K, M, O, H, G, u, A) => ow K B M 42 2 O :: .obj b (.map H G) :: Fz u A :: cs)) := by
 unfold tourref3_Listed at f
 refine sx_calls Tryz.func11 rfl (n := 26) (by kernel_rfl) (l := [(0, .map (some b))]) rfl (by rfl) bh ?_
 refine st_seq (st_region [oF 0] (by rfl) ?_)
 refine oq [oF 0] [(0, .map (some b))] ?_
 refine ops_nil (fin_then (st_seq (st_region [oF 0] (by rfl) ?_)))
 refine oq [oF 0] [(3, .slice none 0 0), (0, .map (some b))] ?_
 refine ops_nil (fin_then ?_)
 refine st_join1 (σ := (Option Addr) × Nat × (List api_Comp) × (List Value) × (Nat → Prop) × World) (L := fun g => match g with | (A1, c2, l3, y4, F6, W7) => [(3, sl A1 l3 c2)]) (N := fun g => match g with | (A1, c2, l3, y4, F6, W7) => Mem w0 (ow A1 l3 c2 42 2 y4 :: .obj b (.map q p) :: Fz F6 W7 :: cs)) (I := fun g => match g with | (A1, c2, l3, y4, F6, W7) => (tourref3_Listed_j1 l3 = some B) ∧ (RepL R_api_Comp F6 W7 l3 y4) ∧ (Ext w0 F W F6 W7)) ?_ ?_
 ·
  rintro ⟨A1, c2, l3, y4, F6, W7⟩ ⟨f, h5, a2⟩
  have C := C.ext a2
  unfold tourref3_Listed_j1 at f
  refine st_seq (st_region [oF 0, oF 1] (by rfl) ?_)
  refine oq [oF 0, oF 1] [(2, sl A1 l3 c2)] ?_
  refine ops_nil (fin_then (st_ret ?_))
  obtain rfl := Option.some.inj f
  exact fr [2] (A1, c2, y4, q, p, F6, W7) ⟨h5, C, a2⟩ 0 []
 ·
  intro bc
  refine st_seq (st_seq (st_region [oF 0] (by rfl) ?_))
  refine oq [oF 0] [(7, vI 0), (3, .slice none 0 0), (0, .map (some b))] ?_
  refine ops_nil (fin_then (st_block ?_))
  refine snil 42 2 ?_
  obtain ⟨r2, bk, bj⟩ := obind f
  refine lp (σ := (List api_Comp) × Int) (ρ := (List api_Comp)) (γ := (Option Addr) × Nat × (List Value) × (Nat → Prop) × World) bk (none, 0, [], F, W) (fun s_ g_ => match s_, g_ with | (c, a), (k, o, s, i, j) => [(0, .map (some b)), (3, sl k c o), (7, vI a)]) (fun s_ g_ => match s_, g_ with | (c, a), (k, o, s, i, j) => Mem w0 (.obj b (.map q p) :: ow k c o 42 2 s :: Fz i j :: cs)) (fun s_ g_ => match s_, g_ with | (c, a), (k, o, s, i, j) => (RepL R_api_Comp i j c s) ∧ (Ext w0 F W i j)) ⟨(RepL.nil (R := R_api_Comp)), (Ext.refl _ _ _)⟩ 3 [1, 0, 2] ?_
  rintro ⟨c, a⟩ ⟨k, o, s, i, j⟩ o2 ⟨ac, av⟩ hs_ bi
  have f : (tourref3_Listed_l2 m) c a = some o2 := hs_
  clear hs_
  unfold tourref3_Listed_l2 at f
  have C := C.ext av
  refine st_seq (st_region [oF 0] (by rfl) ?_)
  refine oq [oF 0] [(8, .bool (decide (a < 16))), (0, .map (some b)), (3, sl k c o), (7, vI a)] ?_
  refine ops_nil (fin_then (st_seq ?_))
  refine sif f (fun a6 f => ?_) (fun a6 f => ?_)
  ·
   refine st_skip (fin_then ?_)
   refine st_join1 (σ := (Option Addr) × Nat × (List api_Comp) × (List Value) × (Nat → Prop) × World) (L := fun g => match g with | (T, X, J, ab, U, V) => [(0, .map (some b)), (3, sl T J X), (7, vI a)]) (N := fun g => match g with | (T, X, J, ab, U, V) => Mem w0 (.obj b (.map q p) :: ow T J X 42 2 ab :: Fz U V :: cs)) (I := fun g => match g with | (T, X, J, ab, U, V) => ((tourref3_Listed_j3 a) J = some o2) ∧ (RepL R_api_Comp U V J ab) ∧ (Ext w0 i j U V)) ?_ ?_
   ·
    rintro ⟨T, X, J, ab, U, V⟩ ⟨f, bd, a3⟩
    have C := C.ext a3
    unfold tourref3_Listed_j3 at f
    refine st_region [oF 0, oF 1] (by rfl) ?_
    refine oq [oF 0, oF 1] [(7, vI (IntKind.i64.wrap (a + 1))), (0, .map (some b)), (3, sl T J X)] ?_
    refine ops_nil ?_
    exact fag (J, IntKind.i64.wrap (a + 1)) (T, X, ab, U, V) (Option.some.inj f).symm ⟨bd, (av.trans a3)⟩ 0 []
   ·
    intro a0
    refine st_seq (st_block (st_seq (st_region [oF 0, oF 1] (by rfl) ?_)))
    refine oq [oF 0, oF 1] [(4, vI a), (0, .map (some b)), (3, sl k c o), (7, vI a)] ?_
    refine ops_nil (fin_then (st_seq ?_))
    refine st_region (oFs 0 8) (by rfl) ?_
    refine oq [oF 0, oF 1] [(12, vI a), (11, .map (some b)), (4, vI a), (0, .map (some b)), (3, sl k c o), (7, vI a)] ?_
    obtain ⟨af, a8, f⟩ := obind f
    obtain ⟨bb, hr27, hrun28⟩ := C.get (KeyLaw.int Tryz.underlying3) Tryz.underlying37 a ([] : List Int) ((slrd (RdS.empty _))) (fun u_ => Tryz.zeroValue23 u_)
    have hr27 : (Rep.sl (Rep.int .i64)).rd i j af bb := by rw [← Option.some.inj a8]; exact hr27
    obtain ⟨ak, al, rfl, be⟩ := hr27
    refine ops_law (op := (.lookup 37 (.tmp 11) (.tmp 12) true)) (d := some 13) (σ := Unit) (v := fun _ => .tuple #[sl ak af al, .bool ((mget m a).isSome)]) (M' := fun _ => Mem w0 (.obj b (.map q p) :: ow k c o 42 2 s :: Fz i j :: cs)) ⟨by kernel_rfl⟩ (fun o_ w_ ho_ hM hS => ⟨(), w_, run_lookupV rfl rfl (hrun28 true b w_ (hM.mapAt 0 rfl)) o_ ho_, hM, trivial⟩) (fun _ => ?_)
    refine oq (oFs 3 5) [(6, .bool ((mget m a).isSome)), (5, sl ak af al), (4, vI a), (0, .map (some b)), (3, sl k c o), (7, vI a)] ?_
    refine ops_nil (fin_then (st_seq (st_region [oF 0] (by rfl) ?_)))
    refine oq [oF 0] [(16, .bool ((mget m a).isSome)), (5, sl ak af al), (4, vI a), (0, .map (some b)), (3, sl k c o), (7, vI a)] ?_
    refine ops_nil (fin_then ?_)
    refine sif f (fun a7 f => ?_) (fun a7 f => ?_)
    ·
     refine st_region (oFs 0 8) (by rfl) ?_
     refine oq (oFs 0 3) [(19, sl ak af al), (18, vI a), (17, sl k c o), (0, .map (some b)), (3, sl k c o), (7, vI a)] ?_
     obtain ⟨r, a9, f⟩ := obind f
     refine oV (some 20) 3 [2, 0, 1] 4 [0, 2, 3, 1] (fun _ hM => slices_Clone_int_int_ok hM be a9) ?_
     rintro ⟨D, E, bm⟩ bf
     refine oq [oF 4] [(21, .agg #[vI a, sl D r E]), (17, sl k c o), (0, .map (some b)), (3, sl k c o), (7, vI a)] ?_
     refine ops_ex (σ := (Nat → Prop) × World) (I := fun g => Ext w0 i j g.1 g.2 ∧ RdS (Rep.int .i64) g.1 g.2 D E r) (M' := fun g => Mem w0 (.obj b (.map q p) :: ow k c o 42 2 s :: Fz g.1 g.2 :: cs)) (fun w_ hM => ?_) ?_
     · obtain ⟨F_, h1_, h2_, h3_⟩ := (hM.pick 4 [0, 3, 1, 2] (by kernel_rfl) (by decide) rfl : Mem w0 (ow D r E 3 1 bm :: Fz i j :: .obj b (.map q p) :: ow k c o 42 2 s :: cs) w_).freeze (z := 1) bf rfl rfl
       exact ⟨(F_, w_), ⟨h1_, h2_⟩, h3_.pick 3 [1, 2, 0] (by kernel_rfl) (by decide) rfl⟩
     rintro ⟨Z, aa⟩ ⟨Y, aq⟩
     have Y : Ext w0 i j Z aa := Y
     have aq : RdS (Rep.int .i64) Z aa D E r := aq
     have C := C.ext Y
     have ac := ac.ext Y
     have ar : RepL R_api_Comp Z aa ([(api_Comp.mk a r)] : List api_Comp) ([vI a, sl D r E]) := (RepL.cons (R := R_api_Comp) (F := Z) (w := aa) (vs := [vI a, sl D r E]) (ys := []) (enc_api_Comp aq) RepL.nil)
     refine oB 22 [vI a, sl D r E] 42 1 2 (fun bp => ?_)
     obtain ⟨am, ba, f⟩ := obind f
     obtain ⟨au, a5⟩ := app_some ba
     obtain ⟨ay, aw⟩ : ∃ y_, s ++ ([vI a, sl D r E]) = y_ := ⟨_, rfl⟩
     have bg : RepL R_api_Comp Z aa am ay := by rw [au, ← aw]; exact RepL.app ac ar
     refine ops_appendO (x := (Go.Operand.tmp 17)) (y := (Go.Operand.tmp 22)) (t := 27) (e := 42) (d := some 23) (n' := am.length) (z := 2) (m := ([(api_Comp.mk a r)] : List api_Comp).length) (bytes := 32) (xs' := ay) (news := ([vI a, sl D r E])) (zv := .agg #[vI 0, .slice none 0 0]) 2 ⟨by kernel_rfl⟩ rfl rfl Tryz.underlying27 (by kernel_rfl) (by rfl) rfl (fun w_ hM => hM.srcO 0 rfl) ar.len ar.one a5 (by have z_ := congrArg List.length au; rw [List.length_append] at z_; exact z_.symm) aw (fun _ _ _ _ hS h' => trivial) ?_
     rintro ⟨az, a1⟩
     refine oq [oF 7] [(3, sl az am a1), (0, .map (some b)), (7, vI a)] ?_
     refine ops_nil (fin_block ?_)
     exact fj a0 (az, a1, am, ay, Z, aa) ⟨f, bg, Y⟩ 4 [1, 2, 3]
    ·
     refine st_skip (fin_block ?_)
     exact fj a0 (k, o, c, s, i, j) ⟨f, ac, (Ext.refl _ _ _)⟩ 0 []
  ·
   refine st_exit (fin_exit_then (fin_exit_then (fin_exit ?_)))
   obtain rfl := Option.some.inj f
   obtain rfl := bi _ rfl
   have f : tourref3_Listed_j1 c = some B := bj
   exact fj bc (k, o, c, s, i, j) ⟨f, ac, av⟩ 3 [1, 0, 2]
end Go.Proofs.YtbfndcookgijfaaGreatDoor.C
