/- The Go functions come to what the plain functions tell. No condition. -/
import Derived.Test.YtbfndcookgijfaaProg
import Derived.Test.YtbfndcookgijfaaFnP
import Derived.Test.YtbfndcookgijfaaExSq
import Derived.Test.YtbfndcookgijfaaWkP0
import Derived.Test.YtbfndcookgijfaaExMap
namespace Go.Proofs.Ytbfndcookgijfaa.P
open Go Go.RowKit Go.Proofs.Ytbfndcookgijfaa.Sx
set_option linter.unusedVariables false
set_option maxHeartbeats 4000000
set_option maxRecDepth 100000
variable {w0 w : World} {cs : List Chunk} {F : Nat → Prop} {W : World}
def column_Store_int_Drop__t0 : List Row := [⟨0, 67108864, 1⟩, ⟨1, 134217728, 67108864⟩, ⟨2, 268435456, 134217728⟩, ⟨4, 536870912, 268435456⟩, ⟨0, 1073741824, 32⟩, ⟨0, 2147483648, 1⟩, ⟨32, 4294967296, 2147483648⟩, ⟨64, 8589934592, 4294967296⟩, ⟨128, 17179869184, 8589934592⟩, ⟨0, 34359738368, 32⟩, ⟨0, 68719476736, 1⟩, ⟨1024, 137438953472, 68719476736⟩, ⟨2048, 274877906944, 137438953472⟩, ⟨4096, 549755813888, 274877906944⟩, ⟨0, 1099511627776, 128⟩, ⟨24576, 2199023255552, 1649267441664⟩, ⟨32768, 4398046511104, 2199023255552⟩, ⟨0, 8796093022208, 1⟩, ⟨131072, 17592186044416, 8796093022208⟩, ⟨262144, 35184372088832, 17592186044416⟩, ⟨524288, 70368744177664, 35184372088832⟩, ⟨0, 140737488355328, 128⟩, ⟨3145728, 281474976710656, 211106232532992⟩, ⟨4194304, 562949953421312, 281474976710656⟩, ⟨9567519, 1125899906842624, 1610612736⟩, ⟨26344735, 0, 1130297953353728⟩, ⟨67108863, 2251799813685248, 51539607552⟩, ⟨134217727, 0, 2814749767106560⟩]
def column_Store_int_Drop__t1 : List Row := [⟨0, 75557863725914323419136, 1⟩, ⟨0, 151115727451828646838272, 1⟩, ⟨0, 302231454903657293676544, 1⟩, ⟨4, 604462909807314587353088, 302231454903657293676544⟩, ⟨8, 1208925819614629174706176, 604462909807314587353088⟩, ⟨16, 2417851639229258349412352, 1208925819614629174706176⟩, ⟨0, 4835703278458516698824704, 128⟩, ⟨96, 9671406556917033397649408, 7253554917687775048237056⟩, ⟨0, 19342813113834066795298816, 1⟩, ⟨256, 38685626227668133590597632, 19342813113834066795298816⟩, ⟨512, 77371252455336267181195264, 38685626227668133590597632⟩, ⟨1024, 154742504910672534362390528, 77371252455336267181195264⟩, ⟨0, 309485009821345068724781056, 128⟩, ⟨6144, 618970019642690137449562112, 464227514732017603087171584⟩, ⟨2301, 1237940039285380274899124224, 75557863725914323419136⟩, ⟨18685, 2475880078570760549798248448, 1237940039285380274899124224⟩, ⟨35069, 0, 2485551485127677583195897856⟩, ⟨131071, 4951760157141521099596496896, 151115727451828646838272⟩, ⟨262143, 9903520314283042199192993792, 4951760157141521099596496896⟩, ⟨393215, 0, 10522490333925732336642555904⟩]
theorem column_Store_int_Drop_ok {c : Nat} {s : Option Addr} {a : Nat} {D : List Int} {T : List Value} {t : Option Addr} {b : Nat} {m : List Int} {U : List Value} {f : Nat} {H : Array MapEntry} {G : Nat} {a8 : List (Int × Int)} {n : Int} (hu : Mem w0 (.blk c [sl s D a, sl t m b, .map (some f)] 44 :: ow s D a 3 1 T :: ow t m b 3 1 U :: .obj f (.map H G) :: Fz F W :: cs) w) (X : RepL (Rep.int .i64) F W D T) (Y : RepL (Rep.int .i64) F W m U) (bd : MapOK (fun x_ : Int => Value.int .i64 x_) (Rep.int .i64) false F W a8 H G) {a0 : Int} {ah : List Int} {ai : List Int} {a1 : List (Int × Int)} (u : column_Store_int_Drop D m a8 n = some (a0, ah, ai, a1)) : Calls Try.prog 8 #[vP c 0, vI n] w (Post w0 (fun ((a2, a3, am, al) : (List Value) × (List Value) × (Array MapEntry) × Nat) => (RepL (Rep.int .i64) F W ah a2) ∧ (RepL (Rep.int .i64) F W ai a3) ∧ (MapOK (fun x_ : Int => Value.int .i64 x_) (Rep.int .i64) false F W a1 am al)) (fun (a2, a3, am, al) => vI a0) (fun (a2, a3, am, al) => .blk c [sl s ah a, sl t ai b, .map (some f)] 44 :: ow s ah a 3 1 a2 :: ow t ai b 3 1 a3 :: .obj f (.map am al) :: Fz F W :: cs)) := by
 unfold column_Store_int_Drop at u
 refine sx_calls Try.func8 rfl (n := 94) (by kernel_rfl) (l := [(0, vP c 0), (1, vI n)]) rfl (by rfl) hu ?_
 refine st_seq (st_region [oF 0] (by rfl) ?_)
 refine oq [oF 0] [(0, vP c 0), (1, vI n)] ?_
 refine ops_nil (fin_then (st_seq ?_))
 refine st_region (oFs 0 11) (by rfl) ?_
 refine oq (oFs 0 3) [(12, vP c 2), (0, vP c 0), (1, vI n)] ?_
 refine oM 13 0 2 ?_
 refine oq [oF 4] [(14, vI n), (13, .map (some f)), (0, vP c 0), (1, vI n)] ?_
 obtain ⟨E, hw, u⟩ := obind u
 obtain ⟨h1, hr4, hrun5⟩ := bd.get (KeyLaw.int Try.underlying3) Try.underlying42 n 0 (rfl) (fun u_ => Try.zeroValue3 u_)
 have hr4 : (Rep.int .i64).rd F W E h1 := by rw [← Option.some.inj hw]; exact hr4
 obtain rfl := hr4
 refine ops_law (op := (.lookup 42 (.tmp 13) (.tmp 14) true)) (d := some 15) (σ := Unit) (v := fun _ => .tuple #[vI E, .bool ((mget a8 n).isSome)]) (M' := fun _ => Mem w0 (.blk c [sl s D a, sl t m b, .map (some f)] 44 :: ow s D a 3 1 T :: ow t m b 3 1 U :: .obj f (.map H G) :: Fz F W :: cs)) ⟨by kernel_rfl⟩ (fun o_ p ho_ j K => ⟨(), p, run_lookupV rfl rfl (hrun5 true f p (j.mapAt 3 rfl)) o_ ho_, j, trivial⟩) (fun _ => ?_)
 refine oq (oFs 6 5) [(6, .bool ((mget a8 n).isSome)), (5, vI E), (0, vP c 0), (1, vI n)] ?_
 refine ops_nil (fin_then (st_seq (st_seq (st_region [oF 0, oF 1] (by rfl) ?_))))
 refine oq [oF 0, oF 1] [(19, .bool (!((mget a8 n).isSome))), (5, vI E), (0, vP c 0), (1, vI n)] ?_
 refine ops_nil (fin_then ?_)
 refine sif u (fun hv u => ?_) (fun hv u => ?_)
 ·
  refine st_seq (st_region [oF 0] (by rfl) ?_)
  refine oq [oF 0] [(4, vI 4)] ?_
  refine ops_nil (fin_then (st_ret (fin_ret_then ?_)))
  obtain ⟨rfl, rfl, rfl, rfl⟩ := si4 u
  exact fr [4] (T, U, H, G) ⟨X, Y, bd⟩ 0 []
 ·
  refine st_skip (fin_then (st_seq ?_))
  refine st_region (oFs 0 7) (by rfl) ?_
  refine oq (oFs 0 3) [(22, vP c 1), (5, vI E), (0, vP c 0), (1, vI n)] ?_
  refine oM 23 0 1 ?_
  refine oq (oFs 4 3) [(7, vI (IntKind.i64.wrap ((m.length : Int) - 1))), (5, vI E), (0, vP c 0), (1, vI n)] ?_
  refine ops_nil (fin_then ?_)
  refine st_join1 (σ := (List Int) × (List Value) × (List Int) × (List Value)) (L := fun x_ => match x_ with | (l7, y8, q, M) => [(0, vP c 0), (1, vI n), (5, vI E), (7, vI (IntKind.i64.wrap ((m.length : Int) - 1)))]) (N := fun x_ => match x_ with | (l7, y8, q, M) => Mem w0 (.blk c [sl s l7 a, sl t q b, .map (some f)] 44 :: ow s l7 a 3 1 y8 :: ow t q b 3 1 M :: .obj f (.map H G) :: Fz F W :: cs)) (I := fun x_ => match x_ with | (l7, y8, q, M) => ((column_Store_int_Drop_j1 E a8 n m) l7 q = some (a0, ah, ai, a1)) ∧ (RepL (Rep.int .i64) F W l7 y8) ∧ (RepL (Rep.int .i64) F W q M)) ?_ ?_
  ·
   rintro ⟨l7, y8, q, M⟩ ⟨u, h9, a4⟩
   unfold column_Store_int_Drop_j1 at u
   refine st_seq ?_
   refine st_region_draw [oT 0, oT 1, oT 2, oT 3, oT 4, oT 5, oT 6, oT 7, oT 8, oT 9, oT 10, oT 11, oF 12] (Mem w0 (.blk c [sl s l7 a, sl t q b, .map (some f)] 44 :: ow s l7 a 3 1 y8 :: ow t q b 3 1 M :: Fz F W :: cs)) (by kernel_rfl) (by kernel_rfl) (by kernel_rfl) (fun _ d _ _ _ h => by cases d <;> exact h) (M' := Mem w0 (.blk c [sl s l7 a, sl t q b, .map (some f)] 44 :: ow s l7 a 3 1 y8 :: ow t q b 3 1 M :: .obj f (.map H G) :: Fz F W :: cs)) (fun p j => ⟨j.drew, j.drew.sub (.cons_cons _ (.cons_cons _ (.cons_cons _ (.cons _ (.cons_cons _ (.refl _))))))⟩) ?_
   refine oq (oTs 0 3) [(54, vP c 2), (0, vP c 0), (1, vI n), (5, vI E), (7, vI (IntKind.i64.wrap ((m.length : Int) - 1)))] ?_
   refine oL 55 0 2 ?_
   refine oq (oTs 4 3) [(58, vP c 1), (55, .map (some f)), (0, vP c 0), (1, vI n), (5, vI E), (7, vI (IntKind.i64.wrap ((m.length : Int) - 1)))] ?_
   refine oL 59 0 1 ?_
   refine oq [oT 8] [(60, vI E), (59, sl t q b), (55, .map (some f)), (0, vP c 0), (1, vI n), (5, vI E), (7, vI (IntKind.i64.wrap ((m.length : Int) - 1)))] ?_
   obtain ⟨a9, g1, u⟩ := obind u
   obtain ⟨eb, gx, d7⟩ := idx_some g1
   have d3 := (List.getElem?_eq_some_iff.1 d7).1
   refine ops_fact (fun p j => j.orowSome 2 rfl (Nat.lt_of_le_of_lt (Nat.zero_le _) d3)) ?_
   rintro ⟨i, rfl, -⟩
   obtain ⟨jf, hr19, g0⟩ := a4.at_ eb a9 d7
   obtain rfl := hr19
   refine ops_val (op := (.indexAddr 22 (.tmp 59) (.tmp 60))) (d := some 61) (v := vP i (eb * 1)) ⟨by kernel_rfl⟩ (run_indexRow Try.underlying22 (z := 1) (by kernel_rfl) rfl rfl gx d3 rfl) ?_
   refine ops_load (d := some 62) (an := [.v (vI a9)]) (evs := [.load ⟨i, eb * 1, none⟩ (vI a9)]) (v := vI a9) ⟨by kernel_rfl⟩ (fun p j => ⟨j.ocell 2 rfl (g0 0 _ rfl), rfl⟩) ?_
   refine oq [oT 11] [(63, vI E), (62, vI a9), (55, .map (some f)), (0, vP c 0), (1, vI n), (7, vI (IntKind.i64.wrap ((m.length : Int) - 1)))] ?_
   obtain ⟨jh, g2, u⟩ := obind u
   obtain ⟨fz, fy, ft, hrun28⟩ := MapOK.update bd (KeyLaw.int Try.underlying3) Try.underlying42 a9 (v := E) (vs := [vI E]) (rfl)
   rw [Option.some.inj g2] at ft
   refine ops_unit (op := (.mapUpdate 42 (.tmp 55) (.tmp 62) (.tmp 63))) (σ := Unit) (M' := fun _ => Mem w0 (.blk c [sl s l7 a, sl (sa i) q b, .map (some f)] 44 :: ow s l7 a 3 1 y8 :: ow (sa i) q b 3 1 M :: .obj f (.map fz fy) :: Fz F W :: cs)) ⟨by kernel_rfl⟩ (fun o_ p ho_ j K => have h' := j.setObj 3 rfl _; ⟨(), _, run_updateV rfl rfl rfl (hrun28 f p (j.mapAt 3 rfl)) o_ ho_, h', (by exact h'.sub (.cons_cons _ (.cons_cons _ (.cons_cons _ (.cons _ (.cons_cons _ (.refl _)))))))⟩) (fun _ => ?_)
   refine ops_nil (fin_then (st_seq ?_))
   refine st_region (oFs 0 6) (by rfl) ?_
   refine oq (oFs 0 3) [(66, vP c 2), (0, vP c 0), (1, vI n), (7, vI (IntKind.i64.wrap ((m.length : Int) - 1)))] ?_
   refine oM 67 0 2 ?_
   refine oq [oF 4] [(68, vI n), (67, .map (some f)), (0, vP c 0), (7, vI (IntKind.i64.wrap ((m.length : Int) - 1)))] ?_
   obtain ⟨hx, g3, u⟩ := obind u
   obtain ⟨B, A, fu, hrun34⟩ := MapOK.delete ft (KeyLaw.int Try.underlying3) Try.underlying42 n
   rw [Option.some.inj g3] at fu
   refine ops_law (op := (.call { callee := (Go.Callee.builtin Go.Builtin.delete), args := #[(.tmp 67), (.tmp 68)], argTypes := #[42, 3] })) (d := none) (σ := Unit) (v := fun _ => .tuple #[]) (M' := fun _ => Mem w0 (.blk c [sl s l7 a, sl (sa i) q b, .map (some f)] 44 :: ow s l7 a 3 1 y8 :: ow (sa i) q b 3 1 M :: .obj f (.map B A) :: Fz F W :: cs)) ⟨by kernel_rfl⟩ (fun o_ p ho_ j K => have h' := j.setObj 3 rfl _; ⟨(), _, run_deleteV rfl rfl (fun ty_ => hrun34 f _ ty_ p (j.mapAt 3 rfl)) o_ ho_, h', trivial⟩) (fun _ => ?_)
   refine ops_nil (fin_then (st_seq (st_region [oF 0] (by rfl) ?_)))
   refine oq [oF 0] [(8, vI 0), (0, vP c 0), (7, vI (IntKind.i64.wrap ((m.length : Int) - 1)))] ?_
   refine ops_nil (fin_then (st_seq ?_))
   refine st_region (oFs 0 8) (by rfl) ?_
   refine oq (oFs 0 3) [(71, vP c 0), (8, vI 0), (0, vP c 0), (7, vI (IntKind.i64.wrap ((m.length : Int) - 1)))] ?_
   refine oM 72 0 0 ?_
   refine oq [oF 4, oF 5] [(74, vI 0), (73, vI (IntKind.i64.wrap ((m.length : Int) - 1))), (72, sl s l7 a), (0, vP c 0), (7, vI (IntKind.i64.wrap ((m.length : Int) - 1)))] ?_
   obtain ⟨h2, g4, u⟩ := obind u
   obtain ⟨ar, d6, d8⟩ := idx_some g4
   have d4 := (List.getElem?_eq_some_iff.1 d8).1
   refine ops_fact (fun p j => j.orowSome 1 rfl (Nat.lt_of_le_of_lt (Nat.zero_le _) d4)) ?_
   rintro ⟨g, rfl, -⟩
   obtain ⟨jg, hr41, i1⟩ := h9.at_ ar h2 d8
   obtain rfl := hr41
   refine ops_val (op := (.indexAddr 22 (.tmp 72) (.tmp 73))) (d := some 75) (v := vP g (ar * 1)) ⟨by kernel_rfl⟩ (run_indexRow Try.underlying22 (z := 1) (by kernel_rfl) rfl rfl d6 d4 rfl) ?_
   refine oq [] [(75, vP g (ar * 1)), (74, vI 0), (0, vP c 0), (7, vI (IntKind.i64.wrap ((m.length : Int) - 1)))] ?_
   obtain ⟨r, g5, u⟩ := obind u
   obtain ⟨hy, iy, d5, d0⟩ := upd_some g5
   obtain rfl : ar = hy := by have := d6; omega
   have be : l7.length = r.length := by rw [d0, List.length_set]
   obtain ⟨V, d9⟩ : ∃ y_, setAll y8 (ar * 1 + 0) [vI 0] = y_ := ⟨_, rfl⟩
   have ao : RepL (Rep.int .i64) F W r V := by rw [d0, ← d9]; exact RepL.set h9 (List.getElem?_eq_getElem d5) (fun vs_ hr_ _ => by obtain rfl := hr_; exact ⟨rfl, Nat.le_of_ble_eq_true rfl⟩)
   refine ops_store (an := []) (evs := [.store ⟨g, ar * 1, none⟩ (vI 0)]) ⟨by kernel_rfl⟩ (fun p j K => let ⟨w', he, h'⟩ := j.ostore' 1 rfl (ar * 1 + 0) [vI 0] (by have z_ : y8.length = l7.length * 1 := h9.len; have y_ : (ar + 1) * 1 ≤ l7.length * 1 := Nat.mul_le_mul_right _ d5; rw [Nat.add_mul] at y_; simp only [List.length_cons, List.length_nil]; omega) be d9; ⟨w', he, h', trivial⟩) ?_
   refine ops_conv (l' := [(75, vP g (ar * 1)), (74, vI 0), (0, vP c 0), (7, vI (IntKind.i64.wrap ((m.length : Int) - 1)))]) (M' := Mem w0 (.blk c [sl (sa g) r a, sl (sa i) q b, .map (some f)] 44 :: ow (sa g) r a 3 1 V :: ow (sa i) q b 3 1 M :: .obj f (.map B A) :: Fz F W :: cs)) (by first | rfl | ((try dsimp only [sl, ow]); rw [be])) (fun p j => by first | exact j | ((try dsimp only [sl, ow] at j ⊢); rw [be] at j; exact j)) ?_
   refine ops_nil (fin_then ?_)
   refine st_join1 (σ := (List Int) × (List Value) × (List Int) × (List Value)) (L := fun x_ => match x_ with | (a5, ba, a6, bb) => []) (N := fun x_ => match x_ with | (a5, ba, a6, bb) => Mem w0 (.blk c [sl (sa g) a5 a, sl (sa i) a6 b, .map (some f)] 44 :: ow (sa g) a5 a 3 1 ba :: ow (sa i) a6 b 3 1 bb :: .obj f (.map B A) :: Fz F W :: cs)) (I := fun x_ => match x_ with | (a5, ba, a6, bb) => ((column_Store_int_Drop_j2 hx) a5 a6 = some (a0, ah, ai, a1)) ∧ (RepL (Rep.int .i64) F W a5 ba) ∧ (RepL (Rep.int .i64) F W a6 bb)) ?_ ?_
   ·
    rintro ⟨a5, ba, a6, bb⟩ ⟨u, ho, hq⟩
    unfold column_Store_int_Drop_j2 at u
    refine st_seq (st_region [oF 0] (by rfl) ?_)
    refine oq [oF 0] [(4, vI 0)] ?_
    refine ops_nil (fin_then (st_ret ?_))
    obtain ⟨rfl, rfl, rfl, rfl⟩ := si4 u
    exact fr [4] (ba, bb, B, A) ⟨ho, hq, fu⟩ 0 []
   ·
    intro ak
    refine st_seq ?_
    obtain ⟨o, au, u⟩ := obind u
    obtain ⟨k, aa, u⟩ := obind u
    refine st_region_treeF column_Store_int_Drop__t1 20 (.node [oT 0, oT 1, oT 2, oT 3, oT 4, oT 6, oT 8, oT 9, oT 10, oT 12] (.node [oF 5] (.node [oF 7, oF 11, oT 14, oT 15] (.leaf [oF 13, oF 16, oT 17, oT 18, oF 19]) (.leaf [oF 16, oF 13, oT 17, oT 18, oF 19])) (.node [oF 11] (.node [oF 7, oT 14, oT 15] (.leaf [oF 13, oF 16, oT 17, oT 18, oF 19]) (.leaf [oF 16, oF 13, oT 17, oT 18, oF 19])) (.leaf [oF 13, oF 7, oT 14, oT 15, oF 16, oT 17, oT 18, oF 19]))) (.node [oF 11] (.node [oF 5] (.node [oF 7, oT 14, oT 15] (.leaf [oF 13, oF 16, oT 17, oT 18, oF 19]) (.leaf [oF 16, oF 13, oT 17, oT 18, oF 19])) (.leaf [oF 13, oF 7, oT 14, oT 15, oF 16, oT 17, oT 18, oF 19])) (.leaf [oF 13, oF 5, oF 7, oT 14, oT 15, oF 16, oT 17, oT 18, oF 19]))) (Mem w0 (.obj f (.map B A) :: Fz F W :: cs)) (by kernel_rfl) (by kernel_rfl) (by kernel_rfl) (by kernel_rfl) (by kernel_rfl) (fun _ d _ _ _ h => by cases d <;> exact h) (M' := Mem w0 (.blk c [sl (sa g) r a, sl (sa i) q b, .map (some f)] 44 :: ow (sa g) r a 3 1 V :: ow (sa i) q b 3 1 M :: .obj f (.map B A) :: Fz F W :: cs)) (fun p j => ⟨j.drew, j.drew.sub (.cons _ (.cons _ (.cons _ (.cons_cons _ (.cons_cons _ (.refl _))))))⟩) ?_
    refine tree_node ?_
    refine oq [oT 0, oT 1, oT 2, oT 3, oT 4, oT 6, oT 8, oT 9, oT 10, oT 12] [(88, vI (IntKind.i64.wrap ((m.length : Int) - 1))), (86, vP c 0), (82, vI (IntKind.i64.wrap ((m.length : Int) - 1))), (80, vP c 1), (77, vP c 0), (76, vP c 0)] ?_
    refine ops_nil ?_
    refine tree_both ?_ ?_
    ·
     refine tree_node ?_
     refine oM 81 0 1 ?_
     refine oq [] [(81, sl (sa i) q b), (88, vI (IntKind.i64.wrap ((m.length : Int) - 1))), (86, vP c 0), (82, vI (IntKind.i64.wrap ((m.length : Int) - 1))), (77, vP c 0), (76, vP c 0)] ?_
     refine ops_nil ?_
     refine tree_both ?_ ?_
     ·
      refine tree_node ?_
      obtain ⟨hz, ji, iz, gy, hr, fv, d1⟩ := cut_some au
      have gv := cut_len d1 hr fv
      obtain rfl : hz = 0 := by omega
      refine ops_fact (fun p j => (j.rowCap 2 rfl).1) (fun gt => ?_)
      obtain ⟨bc, ea⟩ : ∃ y_, M.take (o.length * 1) = y_ := ⟨_, rfl⟩
      have fw : RepL (Rep.int .i64) F W o bc := by rw [← ea, gv, d1, List.drop_zero, Nat.sub_zero]; exact a4.take _
      refine ops_val (op := (.slice 22 (.tmp 81) none (some (.tmp 82)) none)) (d := some 83) (v := sl (sa i) o b) ⟨by kernel_rfl⟩ (run_cutH0 (by kernel_rfl) (z := 1) (by kernel_rfl) rfl rfl gy (Nat.le_trans fv gt) (by omega)) ?_
      refine ops_conv (l' := [(83, sl (sa i) o b), (81, sl (sa i) q b), (88, vI (IntKind.i64.wrap ((m.length : Int) - 1))), (86, vP c 0), (82, vI (IntKind.i64.wrap ((m.length : Int) - 1))), (77, vP c 0), (76, vP c 0)]) (M' := Mem w0 (.blk c [sl (sa g) r a, sl (sa i) q b, .map (some f)] 44 :: ow (sa g) r a 3 1 V :: ow (sa i) o b 3 1 bc :: .obj f (.map B A) :: Fz F W :: cs)) rfl (fun p h => h.otake' 2 rfl (by omega) ea) ?_
      refine oM 87 0 0 ?_
      refine oq [oT 14, oT 15] [(91, vP c 1), (87, sl (sa g) r a), (83, sl (sa i) o b), (88, vI (IntKind.i64.wrap ((m.length : Int) - 1))), (77, vP c 0)] ?_
      refine ops_nil ?_
      refine tree_both ?_ ?_
      ·
       refine tree_leaf ?_
       obtain ⟨h0, jj, i0, gz, hs, fx, d2⟩ := cut_some aa
       have gw := cut_len d2 hs fx
       obtain rfl : h0 = 0 := by omega
       refine ops_fact (fun p j => (j.rowCap 1 rfl).1) (fun gu => ?_)
       obtain ⟨bl, c2⟩ : ∃ y_, V.take (k.length * 1) = y_ := ⟨_, rfl⟩
       have ht : RepL (Rep.int .i64) F W k bl := by rw [← c2, gw, d2, List.drop_zero, Nat.sub_zero]; exact ao.take _
       refine ops_val (op := (.slice 22 (.tmp 87) none (some (.tmp 88)) none)) (d := some 89) (v := sl (sa g) k a) ⟨by kernel_rfl⟩ (run_cutH0 (by kernel_rfl) (z := 1) (by kernel_rfl) rfl rfl gz (Nat.le_trans fx gu) (by omega)) ?_
       refine ops_conv (l' := [(89, sl (sa g) k a), (91, vP c 1), (87, sl (sa g) r a), (83, sl (sa i) o b), (88, vI (IntKind.i64.wrap ((m.length : Int) - 1))), (77, vP c 0)]) (M' := Mem w0 (.blk c [sl (sa g) r a, sl (sa i) q b, .map (some f)] 44 :: ow (sa g) k a 3 1 bl :: ow (sa i) o b 3 1 bc :: .obj f (.map B A) :: Fz F W :: cs)) rfl (fun p h => h.otake' 1 rfl (by omega) c2) ?_
       refine ops_store (an := []) (evs := [sr c 1 (sl (sa i) o b)]) ⟨by kernel_rfl⟩ (fun p j K => let ⟨w', he, h'⟩ := j.evs_stores [sl (sa i) o b] 0 rfl 1 (Nat.le_of_ble_eq_true rfl); ⟨w', he, h', (by exact h'.sub (.cons _ (.cons _ (.cons _ (.cons_cons _ (.cons_cons _ (.refl _)))))))⟩) ?_
       refine oq [oT 17, oT 18] [(93, vP c 0), (89, sl (sa g) k a)] ?_
       refine ops_store (an := []) (evs := [sr c 0 (sl (sa g) k a)]) ⟨by kernel_rfl⟩ (fun p j K => let ⟨w', he, h'⟩ := j.evs_stores [sl (sa g) k a] 0 rfl 0 (Nat.le_of_ble_eq_true rfl); ⟨w', he, h', (by exact h'.sub (.cons _ (.cons _ (.cons _ (.cons_cons _ (.cons_cons _ (.refl _)))))))⟩) ?_
       refine ops_nil ?_
       exact fj ak (k, bl, o, bc) ⟨u, ht, fw⟩ 0 []
      ·
       refine tree_leaf ?_
       refine ops_store (an := []) (evs := [sr c 1 (sl (sa i) o b)]) ⟨by kernel_rfl⟩ (fun p j K => let ⟨w', he, h'⟩ := j.evs_stores [sl (sa i) o b] 0 rfl 1 (Nat.le_of_ble_eq_true rfl); ⟨w', he, h', (by exact h'.sub (.cons _ (.cons _ (.cons _ (.cons_cons _ (.cons_cons _ (.refl _)))))))⟩) ?_
       refine oq [] [(87, sl (sa g) r a), (88, vI (IntKind.i64.wrap ((m.length : Int) - 1))), (77, vP c 0)] ?_
       obtain ⟨g6, i2, h3, fb, f0, dk, bw⟩ := cut_some aa
       have er := cut_len bw f0 dk
       obtain rfl : g6 = 0 := by omega
       refine ops_fact (fun p j => (j.rowCap 1 rfl).1) (fun ee => ?_)
       obtain ⟨bm, c3⟩ : ∃ y_, V.take (k.length * 1) = y_ := ⟨_, rfl⟩
       have f1 : RepL (Rep.int .i64) F W k bm := by rw [← c3, er, bw, List.drop_zero, Nat.sub_zero]; exact ao.take _
       refine ops_val (op := (.slice 22 (.tmp 87) none (some (.tmp 88)) none)) (d := some 89) (v := sl (sa g) k a) ⟨by kernel_rfl⟩ (run_cutH0 (by kernel_rfl) (z := 1) (by kernel_rfl) rfl rfl fb (Nat.le_trans dk ee) (by omega)) ?_
       refine ops_conv (l' := [(89, sl (sa g) k a), (87, sl (sa g) r a), (88, vI (IntKind.i64.wrap ((m.length : Int) - 1))), (77, vP c 0)]) (M' := Mem w0 (.blk c [sl (sa g) r a, sl (sa i) o b, .map (some f)] 44 :: ow (sa g) k a 3 1 bm :: ow (sa i) o b 3 1 bc :: .obj f (.map B A) :: Fz F W :: cs)) rfl (fun p h => h.otake' 1 rfl (by omega) c3) ?_
       refine oq [oT 17, oT 18] [(93, vP c 0), (89, sl (sa g) k a)] ?_
       refine ops_store (an := []) (evs := [sr c 0 (sl (sa g) k a)]) ⟨by kernel_rfl⟩ (fun p j K => let ⟨w', he, h'⟩ := j.evs_stores [sl (sa g) k a] 0 rfl 0 (Nat.le_of_ble_eq_true rfl); ⟨w', he, h', (by exact h'.sub (.cons _ (.cons _ (.cons _ (.cons_cons _ (.cons_cons _ (.refl _)))))))⟩) ?_
       refine ops_nil ?_
       exact fj ak (k, bm, o, bc) ⟨u, f1, fw⟩ 0 []
     ·
      refine tree_node ?_
      refine oM 87 0 0 ?_
      refine oq [] [(87, sl (sa g) r a), (81, sl (sa i) q b), (88, vI (IntKind.i64.wrap ((m.length : Int) - 1))), (82, vI (IntKind.i64.wrap ((m.length : Int) - 1))), (77, vP c 0), (76, vP c 0)] ?_
      refine ops_nil ?_
      refine tree_both ?_ ?_
      ·
       refine tree_node ?_
       obtain ⟨g7, i3, h4, fc, f2, dl, bx⟩ := cut_some au
       have es := cut_len bx f2 dl
       obtain rfl : g7 = 0 := by omega
       refine ops_fact (fun p j => (j.rowCap 2 rfl).1) (fun ef => ?_)
       obtain ⟨aw, c4⟩ : ∃ y_, M.take (o.length * 1) = y_ := ⟨_, rfl⟩
       have dm : RepL (Rep.int .i64) F W o aw := by rw [← c4, es, bx, List.drop_zero, Nat.sub_zero]; exact a4.take _
       refine ops_val (op := (.slice 22 (.tmp 81) none (some (.tmp 82)) none)) (d := some 83) (v := sl (sa i) o b) ⟨by kernel_rfl⟩ (run_cutH0 (by kernel_rfl) (z := 1) (by kernel_rfl) rfl rfl fc (Nat.le_trans dl ef) (by omega)) ?_
       refine ops_conv (l' := [(83, sl (sa i) o b), (87, sl (sa g) r a), (81, sl (sa i) q b), (88, vI (IntKind.i64.wrap ((m.length : Int) - 1))), (82, vI (IntKind.i64.wrap ((m.length : Int) - 1))), (77, vP c 0), (76, vP c 0)]) (M' := Mem w0 (.blk c [sl (sa g) r a, sl (sa i) q b, .map (some f)] 44 :: ow (sa g) r a 3 1 V :: ow (sa i) o b 3 1 aw :: .obj f (.map B A) :: Fz F W :: cs)) rfl (fun p h => h.otake' 2 rfl (by omega) c4) ?_
       refine oq [oT 14, oT 15] [(91, vP c 1), (83, sl (sa i) o b), (87, sl (sa g) r a), (88, vI (IntKind.i64.wrap ((m.length : Int) - 1))), (77, vP c 0)] ?_
       refine ops_nil ?_
       refine tree_both ?_ ?_
       ·
        refine tree_leaf ?_
        obtain ⟨g8, i4, h5, fd, f3, dn, bz⟩ := cut_some aa
        have ce := cut_len bz f3 dn
        obtain rfl : g8 = 0 := by omega
        refine ops_fact (fun p j => (j.rowCap 1 rfl).1) (fun eg => ?_)
        obtain ⟨bn, c5⟩ : ∃ y_, V.take (k.length * 1) = y_ := ⟨_, rfl⟩
        have f4 : RepL (Rep.int .i64) F W k bn := by rw [← c5, ce, bz, List.drop_zero, Nat.sub_zero]; exact ao.take _
        refine ops_val (op := (.slice 22 (.tmp 87) none (some (.tmp 88)) none)) (d := some 89) (v := sl (sa g) k a) ⟨by kernel_rfl⟩ (run_cutH0 (by kernel_rfl) (z := 1) (by kernel_rfl) rfl rfl fd (Nat.le_trans dn eg) (by omega)) ?_
        refine ops_conv (l' := [(89, sl (sa g) k a), (91, vP c 1), (83, sl (sa i) o b), (87, sl (sa g) r a), (88, vI (IntKind.i64.wrap ((m.length : Int) - 1))), (77, vP c 0)]) (M' := Mem w0 (.blk c [sl (sa g) r a, sl (sa i) q b, .map (some f)] 44 :: ow (sa g) k a 3 1 bn :: ow (sa i) o b 3 1 aw :: .obj f (.map B A) :: Fz F W :: cs)) rfl (fun p h => h.otake' 1 rfl (by omega) c5) ?_
        refine ops_store (an := []) (evs := [sr c 1 (sl (sa i) o b)]) ⟨by kernel_rfl⟩ (fun p j K => let ⟨w', he, h'⟩ := j.evs_stores [sl (sa i) o b] 0 rfl 1 (Nat.le_of_ble_eq_true rfl); ⟨w', he, h', (by exact h'.sub (.cons _ (.cons _ (.cons _ (.cons_cons _ (.cons_cons _ (.refl _)))))))⟩) ?_
        refine oq [oT 17, oT 18] [(93, vP c 0), (89, sl (sa g) k a)] ?_
        refine ops_store (an := []) (evs := [sr c 0 (sl (sa g) k a)]) ⟨by kernel_rfl⟩ (fun p j K => let ⟨w', he, h'⟩ := j.evs_stores [sl (sa g) k a] 0 rfl 0 (Nat.le_of_ble_eq_true rfl); ⟨w', he, h', (by exact h'.sub (.cons _ (.cons _ (.cons _ (.cons_cons _ (.cons_cons _ (.refl _)))))))⟩) ?_
        refine ops_nil ?_
        exact fj ak (k, bn, o, aw) ⟨u, f4, dm⟩ 0 []
       ·
        refine tree_leaf ?_
        refine ops_store (an := []) (evs := [sr c 1 (sl (sa i) o b)]) ⟨by kernel_rfl⟩ (fun p j K => let ⟨w', he, h'⟩ := j.evs_stores [sl (sa i) o b] 0 rfl 1 (Nat.le_of_ble_eq_true rfl); ⟨w', he, h', (by exact h'.sub (.cons _ (.cons _ (.cons _ (.cons_cons _ (.cons_cons _ (.refl _)))))))⟩) ?_
        refine oq [] [(87, sl (sa g) r a), (88, vI (IntKind.i64.wrap ((m.length : Int) - 1))), (77, vP c 0)] ?_
        obtain ⟨g9, i5, h6, fe, f5, dp, b0⟩ := cut_some aa
        have et := cut_len b0 f5 dp
        obtain rfl : g9 = 0 := by omega
        refine ops_fact (fun p j => (j.rowCap 1 rfl).1) (fun eh => ?_)
        obtain ⟨bo, c6⟩ : ∃ y_, V.take (k.length * 1) = y_ := ⟨_, rfl⟩
        have f6 : RepL (Rep.int .i64) F W k bo := by rw [← c6, et, b0, List.drop_zero, Nat.sub_zero]; exact ao.take _
        refine ops_val (op := (.slice 22 (.tmp 87) none (some (.tmp 88)) none)) (d := some 89) (v := sl (sa g) k a) ⟨by kernel_rfl⟩ (run_cutH0 (by kernel_rfl) (z := 1) (by kernel_rfl) rfl rfl fe (Nat.le_trans dp eh) (by omega)) ?_
        refine ops_conv (l' := [(89, sl (sa g) k a), (87, sl (sa g) r a), (88, vI (IntKind.i64.wrap ((m.length : Int) - 1))), (77, vP c 0)]) (M' := Mem w0 (.blk c [sl (sa g) r a, sl (sa i) o b, .map (some f)] 44 :: ow (sa g) k a 3 1 bo :: ow (sa i) o b 3 1 aw :: .obj f (.map B A) :: Fz F W :: cs)) rfl (fun p h => h.otake' 1 rfl (by omega) c6) ?_
        refine oq [oT 17, oT 18] [(93, vP c 0), (89, sl (sa g) k a)] ?_
        refine ops_store (an := []) (evs := [sr c 0 (sl (sa g) k a)]) ⟨by kernel_rfl⟩ (fun p j K => let ⟨w', he, h'⟩ := j.evs_stores [sl (sa g) k a] 0 rfl 0 (Nat.le_of_ble_eq_true rfl); ⟨w', he, h', (by exact h'.sub (.cons _ (.cons _ (.cons _ (.cons_cons _ (.cons_cons _ (.refl _)))))))⟩) ?_
        refine ops_nil ?_
        exact fj ak (k, bo, o, aw) ⟨u, f6, dm⟩ 0 []
      ·
       refine tree_leaf ?_
       obtain ⟨ha, i6, h7, ff, f7, dq, b1⟩ := cut_some aa
       have eu := cut_len b1 f7 dq
       obtain rfl : ha = 0 := by omega
       refine ops_fact (fun p j => (j.rowCap 1 rfl).1) (fun ei => ?_)
       obtain ⟨bg, c7⟩ : ∃ y_, V.take (k.length * 1) = y_ := ⟨_, rfl⟩
       have f8 : RepL (Rep.int .i64) F W k bg := by rw [← c7, eu, b1, List.drop_zero, Nat.sub_zero]; exact ao.take _
       refine ops_val (op := (.slice 22 (.tmp 87) none (some (.tmp 88)) none)) (d := some 89) (v := sl (sa g) k a) ⟨by kernel_rfl⟩ (run_cutH0 (by kernel_rfl) (z := 1) (by kernel_rfl) rfl rfl ff (Nat.le_trans dq ei) (by omega)) ?_
       refine ops_conv (l' := [(89, sl (sa g) k a), (87, sl (sa g) r a), (81, sl (sa i) q b), (88, vI (IntKind.i64.wrap ((m.length : Int) - 1))), (82, vI (IntKind.i64.wrap ((m.length : Int) - 1))), (77, vP c 0), (76, vP c 0)]) (M' := Mem w0 (.blk c [sl (sa g) r a, sl (sa i) q b, .map (some f)] 44 :: ow (sa g) k a 3 1 bg :: ow (sa i) q b 3 1 M :: .obj f (.map B A) :: Fz F W :: cs)) rfl (fun p h => h.otake' 1 rfl (by omega) c7) ?_
       refine oq [] [(89, sl (sa g) k a), (81, sl (sa i) q b), (82, vI (IntKind.i64.wrap ((m.length : Int) - 1))), (77, vP c 0), (76, vP c 0)] ?_
       obtain ⟨hb, i7, h8, fg, f9, dr, b2⟩ := cut_some au
       have ev := cut_len b2 f9 dr
       obtain rfl : hb = 0 := by omega
       refine ops_fact (fun p j => (j.rowCap 2 rfl).1) (fun ej => ?_)
       obtain ⟨bp, c8⟩ : ∃ y_, M.take (o.length * 1) = y_ := ⟨_, rfl⟩
       have ga : RepL (Rep.int .i64) F W o bp := by rw [← c8, ev, b2, List.drop_zero, Nat.sub_zero]; exact a4.take _
       refine ops_val (op := (.slice 22 (.tmp 81) none (some (.tmp 82)) none)) (d := some 83) (v := sl (sa i) o b) ⟨by kernel_rfl⟩ (run_cutH0 (by kernel_rfl) (z := 1) (by kernel_rfl) rfl rfl fg (Nat.le_trans dr ej) (by omega)) ?_
       refine ops_conv (l' := [(83, sl (sa i) o b), (89, sl (sa g) k a), (81, sl (sa i) q b), (82, vI (IntKind.i64.wrap ((m.length : Int) - 1))), (77, vP c 0), (76, vP c 0)]) (M' := Mem w0 (.blk c [sl (sa g) r a, sl (sa i) q b, .map (some f)] 44 :: ow (sa g) k a 3 1 bg :: ow (sa i) o b 3 1 bp :: .obj f (.map B A) :: Fz F W :: cs)) rfl (fun p h => h.otake' 2 rfl (by omega) c8) ?_
       refine oq [oT 14, oT 15] [(91, vP c 1), (83, sl (sa i) o b), (89, sl (sa g) k a), (77, vP c 0)] ?_
       refine ops_store (an := []) (evs := [sr c 1 (sl (sa i) o b)]) ⟨by kernel_rfl⟩ (fun p j K => let ⟨w', he, h'⟩ := j.evs_stores [sl (sa i) o b] 0 rfl 1 (Nat.le_of_ble_eq_true rfl); ⟨w', he, h', (by exact h'.sub (.cons _ (.cons _ (.cons _ (.cons_cons _ (.cons_cons _ (.refl _)))))))⟩) ?_
       refine oq [oT 17, oT 18] [(93, vP c 0), (89, sl (sa g) k a)] ?_
       refine ops_store (an := []) (evs := [sr c 0 (sl (sa g) k a)]) ⟨by kernel_rfl⟩ (fun p j K => let ⟨w', he, h'⟩ := j.evs_stores [sl (sa g) k a] 0 rfl 0 (Nat.le_of_ble_eq_true rfl); ⟨w', he, h', (by exact h'.sub (.cons _ (.cons _ (.cons _ (.cons_cons _ (.cons_cons _ (.refl _)))))))⟩) ?_
       refine ops_nil ?_
       exact fj ak (k, bg, o, bp) ⟨u, f8, ga⟩ 0 []
    ·
     refine tree_node ?_
     refine oM 87 0 0 ?_
     refine oq [] [(87, sl (sa g) r a), (88, vI (IntKind.i64.wrap ((m.length : Int) - 1))), (82, vI (IntKind.i64.wrap ((m.length : Int) - 1))), (80, vP c 1), (77, vP c 0), (76, vP c 0)] ?_
     refine ops_nil ?_
     refine tree_both ?_ ?_
     ·
      refine tree_node ?_
      refine oM 81 0 1 ?_
      refine oq [] [(81, sl (sa i) q b), (87, sl (sa g) r a), (88, vI (IntKind.i64.wrap ((m.length : Int) - 1))), (82, vI (IntKind.i64.wrap ((m.length : Int) - 1))), (77, vP c 0), (76, vP c 0)] ?_
      refine ops_nil ?_
      refine tree_both ?_ ?_
      ·
       refine tree_node ?_
       obtain ⟨hc, i8, ia, fh, gb, ds, b3⟩ := cut_some au
       have ew := cut_len b3 gb ds
       obtain rfl : hc = 0 := by omega
       refine ops_fact (fun p j => (j.rowCap 2 rfl).1) (fun ek => ?_)
       obtain ⟨ax, c9⟩ : ∃ y_, M.take (o.length * 1) = y_ := ⟨_, rfl⟩
       have dt : RepL (Rep.int .i64) F W o ax := by rw [← c9, ew, b3, List.drop_zero, Nat.sub_zero]; exact a4.take _
       refine ops_val (op := (.slice 22 (.tmp 81) none (some (.tmp 82)) none)) (d := some 83) (v := sl (sa i) o b) ⟨by kernel_rfl⟩ (run_cutH0 (by kernel_rfl) (z := 1) (by kernel_rfl) rfl rfl fh (Nat.le_trans ds ek) (by omega)) ?_
       refine ops_conv (l' := [(83, sl (sa i) o b), (81, sl (sa i) q b), (87, sl (sa g) r a), (88, vI (IntKind.i64.wrap ((m.length : Int) - 1))), (82, vI (IntKind.i64.wrap ((m.length : Int) - 1))), (77, vP c 0), (76, vP c 0)]) (M' := Mem w0 (.blk c [sl (sa g) r a, sl (sa i) q b, .map (some f)] 44 :: ow (sa g) r a 3 1 V :: ow (sa i) o b 3 1 ax :: .obj f (.map B A) :: Fz F W :: cs)) rfl (fun p h => h.otake' 2 rfl (by omega) c9) ?_
       refine oq [oT 14, oT 15] [(91, vP c 1), (83, sl (sa i) o b), (87, sl (sa g) r a), (88, vI (IntKind.i64.wrap ((m.length : Int) - 1))), (77, vP c 0)] ?_
       refine ops_nil ?_
       refine tree_both ?_ ?_
       ·
        refine tree_leaf ?_
        obtain ⟨hd, i9, ib, fi, gc, du, b4⟩ := cut_some aa
        have ex := cut_len b4 gc du
        obtain rfl : hd = 0 := by omega
        refine ops_fact (fun p j => (j.rowCap 1 rfl).1) (fun el => ?_)
        obtain ⟨bq, da⟩ : ∃ y_, V.take (k.length * 1) = y_ := ⟨_, rfl⟩
        have gd : RepL (Rep.int .i64) F W k bq := by rw [← da, ex, b4, List.drop_zero, Nat.sub_zero]; exact ao.take _
        refine ops_val (op := (.slice 22 (.tmp 87) none (some (.tmp 88)) none)) (d := some 89) (v := sl (sa g) k a) ⟨by kernel_rfl⟩ (run_cutH0 (by kernel_rfl) (z := 1) (by kernel_rfl) rfl rfl fi (Nat.le_trans du el) (by omega)) ?_
        refine ops_conv (l' := [(89, sl (sa g) k a), (91, vP c 1), (83, sl (sa i) o b), (87, sl (sa g) r a), (88, vI (IntKind.i64.wrap ((m.length : Int) - 1))), (77, vP c 0)]) (M' := Mem w0 (.blk c [sl (sa g) r a, sl (sa i) q b, .map (some f)] 44 :: ow (sa g) k a 3 1 bq :: ow (sa i) o b 3 1 ax :: .obj f (.map B A) :: Fz F W :: cs)) rfl (fun p h => h.otake' 1 rfl (by omega) da) ?_
        refine ops_store (an := []) (evs := [sr c 1 (sl (sa i) o b)]) ⟨by kernel_rfl⟩ (fun p j K => let ⟨w', he, h'⟩ := j.evs_stores [sl (sa i) o b] 0 rfl 1 (Nat.le_of_ble_eq_true rfl); ⟨w', he, h', (by exact h'.sub (.cons _ (.cons _ (.cons _ (.cons_cons _ (.cons_cons _ (.refl _)))))))⟩) ?_
        refine oq [oT 17, oT 18] [(93, vP c 0), (89, sl (sa g) k a)] ?_
        refine ops_store (an := []) (evs := [sr c 0 (sl (sa g) k a)]) ⟨by kernel_rfl⟩ (fun p j K => let ⟨w', he, h'⟩ := j.evs_stores [sl (sa g) k a] 0 rfl 0 (Nat.le_of_ble_eq_true rfl); ⟨w', he, h', (by exact h'.sub (.cons _ (.cons _ (.cons _ (.cons_cons _ (.cons_cons _ (.refl _)))))))⟩) ?_
        refine ops_nil ?_
        exact fj ak (k, bq, o, ax) ⟨u, gd, dt⟩ 0 []
       ·
        refine tree_leaf ?_
        refine ops_store (an := []) (evs := [sr c 1 (sl (sa i) o b)]) ⟨by kernel_rfl⟩ (fun p j K => let ⟨w', he, h'⟩ := j.evs_stores [sl (sa i) o b] 0 rfl 1 (Nat.le_of_ble_eq_true rfl); ⟨w', he, h', (by exact h'.sub (.cons _ (.cons _ (.cons _ (.cons_cons _ (.cons_cons _ (.refl _)))))))⟩) ?_
        refine oq [] [(87, sl (sa g) r a), (88, vI (IntKind.i64.wrap ((m.length : Int) - 1))), (77, vP c 0)] ?_
        obtain ⟨hf, ja, ic, fk, ge, dv, b5⟩ := cut_some aa
        have ey := cut_len b5 ge dv
        obtain rfl : hf = 0 := by omega
        refine ops_fact (fun p j => (j.rowCap 1 rfl).1) (fun em => ?_)
        obtain ⟨br, db⟩ : ∃ y_, V.take (k.length * 1) = y_ := ⟨_, rfl⟩
        have gf : RepL (Rep.int .i64) F W k br := by rw [← db, ey, b5, List.drop_zero, Nat.sub_zero]; exact ao.take _
        refine ops_val (op := (.slice 22 (.tmp 87) none (some (.tmp 88)) none)) (d := some 89) (v := sl (sa g) k a) ⟨by kernel_rfl⟩ (run_cutH0 (by kernel_rfl) (z := 1) (by kernel_rfl) rfl rfl fk (Nat.le_trans dv em) (by omega)) ?_
        refine ops_conv (l' := [(89, sl (sa g) k a), (87, sl (sa g) r a), (88, vI (IntKind.i64.wrap ((m.length : Int) - 1))), (77, vP c 0)]) (M' := Mem w0 (.blk c [sl (sa g) r a, sl (sa i) o b, .map (some f)] 44 :: ow (sa g) k a 3 1 br :: ow (sa i) o b 3 1 ax :: .obj f (.map B A) :: Fz F W :: cs)) rfl (fun p h => h.otake' 1 rfl (by omega) db) ?_
        refine oq [oT 17, oT 18] [(93, vP c 0), (89, sl (sa g) k a)] ?_
        refine ops_store (an := []) (evs := [sr c 0 (sl (sa g) k a)]) ⟨by kernel_rfl⟩ (fun p j K => let ⟨w', he, h'⟩ := j.evs_stores [sl (sa g) k a] 0 rfl 0 (Nat.le_of_ble_eq_true rfl); ⟨w', he, h', (by exact h'.sub (.cons _ (.cons _ (.cons _ (.cons_cons _ (.cons_cons _ (.refl _)))))))⟩) ?_
        refine ops_nil ?_
        exact fj ak (k, br, o, ax) ⟨u, gf, dt⟩ 0 []
      ·
       refine tree_leaf ?_
       obtain ⟨hg, jb, id, fl, gg, dw, b6⟩ := cut_some aa
       have ez := cut_len b6 gg dw
       obtain rfl : hg = 0 := by omega
       refine ops_fact (fun p j => (j.rowCap 1 rfl).1) (fun en => ?_)
       obtain ⟨bh, dc⟩ : ∃ y_, V.take (k.length * 1) = y_ := ⟨_, rfl⟩
       have gh : RepL (Rep.int .i64) F W k bh := by rw [← dc, ez, b6, List.drop_zero, Nat.sub_zero]; exact ao.take _
       refine ops_val (op := (.slice 22 (.tmp 87) none (some (.tmp 88)) none)) (d := some 89) (v := sl (sa g) k a) ⟨by kernel_rfl⟩ (run_cutH0 (by kernel_rfl) (z := 1) (by kernel_rfl) rfl rfl fl (Nat.le_trans dw en) (by omega)) ?_
       refine ops_conv (l' := [(89, sl (sa g) k a), (81, sl (sa i) q b), (87, sl (sa g) r a), (88, vI (IntKind.i64.wrap ((m.length : Int) - 1))), (82, vI (IntKind.i64.wrap ((m.length : Int) - 1))), (77, vP c 0), (76, vP c 0)]) (M' := Mem w0 (.blk c [sl (sa g) r a, sl (sa i) q b, .map (some f)] 44 :: ow (sa g) k a 3 1 bh :: ow (sa i) q b 3 1 M :: .obj f (.map B A) :: Fz F W :: cs)) rfl (fun p h => h.otake' 1 rfl (by omega) dc) ?_
       refine oq [] [(89, sl (sa g) k a), (81, sl (sa i) q b), (82, vI (IntKind.i64.wrap ((m.length : Int) - 1))), (77, vP c 0), (76, vP c 0)] ?_
       obtain ⟨hh, jc, ie, fm, gi, dx, b7⟩ := cut_some au
       have e0 := cut_len b7 gi dx
       obtain rfl : hh = 0 := by omega
       refine ops_fact (fun p j => (j.rowCap 2 rfl).1) (fun eo => ?_)
       obtain ⟨bs, dd⟩ : ∃ y_, M.take (o.length * 1) = y_ := ⟨_, rfl⟩
       have gj : RepL (Rep.int .i64) F W o bs := by rw [← dd, e0, b7, List.drop_zero, Nat.sub_zero]; exact a4.take _
       refine ops_val (op := (.slice 22 (.tmp 81) none (some (.tmp 82)) none)) (d := some 83) (v := sl (sa i) o b) ⟨by kernel_rfl⟩ (run_cutH0 (by kernel_rfl) (z := 1) (by kernel_rfl) rfl rfl fm (Nat.le_trans dx eo) (by omega)) ?_
       refine ops_conv (l' := [(83, sl (sa i) o b), (89, sl (sa g) k a), (81, sl (sa i) q b), (82, vI (IntKind.i64.wrap ((m.length : Int) - 1))), (77, vP c 0), (76, vP c 0)]) (M' := Mem w0 (.blk c [sl (sa g) r a, sl (sa i) q b, .map (some f)] 44 :: ow (sa g) k a 3 1 bh :: ow (sa i) o b 3 1 bs :: .obj f (.map B A) :: Fz F W :: cs)) rfl (fun p h => h.otake' 2 rfl (by omega) dd) ?_
       refine oq [oT 14, oT 15] [(91, vP c 1), (83, sl (sa i) o b), (89, sl (sa g) k a), (77, vP c 0)] ?_
       refine ops_store (an := []) (evs := [sr c 1 (sl (sa i) o b)]) ⟨by kernel_rfl⟩ (fun p j K => let ⟨w', he, h'⟩ := j.evs_stores [sl (sa i) o b] 0 rfl 1 (Nat.le_of_ble_eq_true rfl); ⟨w', he, h', (by exact h'.sub (.cons _ (.cons _ (.cons _ (.cons_cons _ (.cons_cons _ (.refl _)))))))⟩) ?_
       refine oq [oT 17, oT 18] [(93, vP c 0), (89, sl (sa g) k a)] ?_
       refine ops_store (an := []) (evs := [sr c 0 (sl (sa g) k a)]) ⟨by kernel_rfl⟩ (fun p j K => let ⟨w', he, h'⟩ := j.evs_stores [sl (sa g) k a] 0 rfl 0 (Nat.le_of_ble_eq_true rfl); ⟨w', he, h', (by exact h'.sub (.cons _ (.cons _ (.cons _ (.cons_cons _ (.cons_cons _ (.refl _)))))))⟩) ?_
       refine ops_nil ?_
       exact fj ak (k, bh, o, bs) ⟨u, gh, gj⟩ 0 []
     ·
      refine tree_leaf ?_
      obtain ⟨hi, jd, ig, fn, gk, dy, b8⟩ := cut_some aa
      have e1 := cut_len b8 gk dy
      obtain rfl : hi = 0 := by omega
      refine ops_fact (fun p j => (j.rowCap 1 rfl).1) (fun ep => ?_)
      obtain ⟨bi, de⟩ : ∃ y_, V.take (k.length * 1) = y_ := ⟨_, rfl⟩
      have gl : RepL (Rep.int .i64) F W k bi := by rw [← de, e1, b8, List.drop_zero, Nat.sub_zero]; exact ao.take _
      refine ops_val (op := (.slice 22 (.tmp 87) none (some (.tmp 88)) none)) (d := some 89) (v := sl (sa g) k a) ⟨by kernel_rfl⟩ (run_cutH0 (by kernel_rfl) (z := 1) (by kernel_rfl) rfl rfl fn (Nat.le_trans dy ep) (by omega)) ?_
      refine ops_conv (l' := [(89, sl (sa g) k a), (87, sl (sa g) r a), (88, vI (IntKind.i64.wrap ((m.length : Int) - 1))), (82, vI (IntKind.i64.wrap ((m.length : Int) - 1))), (80, vP c 1), (77, vP c 0), (76, vP c 0)]) (M' := Mem w0 (.blk c [sl (sa g) r a, sl (sa i) q b, .map (some f)] 44 :: ow (sa g) k a 3 1 bi :: ow (sa i) q b 3 1 M :: .obj f (.map B A) :: Fz F W :: cs)) rfl (fun p h => h.otake' 1 rfl (by omega) de) ?_
      refine oM 81 0 1 ?_
      refine oq [] [(81, sl (sa i) q b), (89, sl (sa g) k a), (82, vI (IntKind.i64.wrap ((m.length : Int) - 1))), (77, vP c 0), (76, vP c 0)] ?_
      obtain ⟨hj, je, ih, fo, gm, dz, b9⟩ := cut_some au
      have e2 := cut_len b9 gm dz
      obtain rfl : hj = 0 := by omega
      refine ops_fact (fun p j => (j.rowCap 2 rfl).1) (fun eq => ?_)
      obtain ⟨bt, df⟩ : ∃ y_, M.take (o.length * 1) = y_ := ⟨_, rfl⟩
      have gn : RepL (Rep.int .i64) F W o bt := by rw [← df, e2, b9, List.drop_zero, Nat.sub_zero]; exact a4.take _
      refine ops_val (op := (.slice 22 (.tmp 81) none (some (.tmp 82)) none)) (d := some 83) (v := sl (sa i) o b) ⟨by kernel_rfl⟩ (run_cutH0 (by kernel_rfl) (z := 1) (by kernel_rfl) rfl rfl fo (Nat.le_trans dz eq) (by omega)) ?_
      refine ops_conv (l' := [(83, sl (sa i) o b), (81, sl (sa i) q b), (89, sl (sa g) k a), (82, vI (IntKind.i64.wrap ((m.length : Int) - 1))), (77, vP c 0), (76, vP c 0)]) (M' := Mem w0 (.blk c [sl (sa g) r a, sl (sa i) q b, .map (some f)] 44 :: ow (sa g) k a 3 1 bi :: ow (sa i) o b 3 1 bt :: .obj f (.map B A) :: Fz F W :: cs)) rfl (fun p h => h.otake' 2 rfl (by omega) df) ?_
      refine oq [oT 14, oT 15] [(91, vP c 1), (83, sl (sa i) o b), (89, sl (sa g) k a), (77, vP c 0)] ?_
      refine ops_store (an := []) (evs := [sr c 1 (sl (sa i) o b)]) ⟨by kernel_rfl⟩ (fun p j K => let ⟨w', he, h'⟩ := j.evs_stores [sl (sa i) o b] 0 rfl 1 (Nat.le_of_ble_eq_true rfl); ⟨w', he, h', (by exact h'.sub (.cons _ (.cons _ (.cons _ (.cons_cons _ (.cons_cons _ (.refl _)))))))⟩) ?_
      refine oq [oT 17, oT 18] [(93, vP c 0), (89, sl (sa g) k a)] ?_
      refine ops_store (an := []) (evs := [sr c 0 (sl (sa g) k a)]) ⟨by kernel_rfl⟩ (fun p j K => let ⟨w', he, h'⟩ := j.evs_stores [sl (sa g) k a] 0 rfl 0 (Nat.le_of_ble_eq_true rfl); ⟨w', he, h', (by exact h'.sub (.cons _ (.cons _ (.cons _ (.cons_cons _ (.cons_cons _ (.refl _)))))))⟩) ?_
      refine ops_nil ?_
      exact fj ak (k, bi, o, bt) ⟨u, gl, gn⟩ 0 []
  ·
   intro fs
   refine st_seq ?_
   obtain ⟨J, fp, u⟩ := obind u
   obtain ⟨C, fq, u⟩ := obind u
   obtain ⟨ec, cr, u⟩ := obind u
   obtain ⟨O, ct, u⟩ := obind u
   obtain ⟨ed, cu, u⟩ := obind u
   obtain ⟨Z, cv, u⟩ := obind u
   refine st_region_treeF column_Store_int_Drop__t0 28 (.node [oT 0, oT 1, oT 2, oT 3, oT 4, oT 5, oT 6, oT 7, oT 8, oT 9, oT 10, oT 11, oT 12, oT 13, oT 14, oT 15, oT 17, oT 18, oT 19, oT 20, oT 21, oT 22] (.leaf [oF 16, oF 23, oT 24, oF 25, oT 26, oF 27]) (.leaf [oF 23, oF 16, oT 24, oF 25, oT 26, oF 27])) (Mem w0 (.blk c [sl s D a, sl t m b, .map (some f)] 44 :: .obj f (.map H G) :: Fz F W :: cs)) (by kernel_rfl) (by kernel_rfl) (by kernel_rfl) (by kernel_rfl) (by kernel_rfl) (fun _ d _ _ _ h => by cases d <;> exact h) (M' := Mem w0 (.blk c [sl s D a, sl t m b, .map (some f)] 44 :: ow s D a 3 1 T :: ow t m b 3 1 U :: .obj f (.map H G) :: Fz F W :: cs)) (fun p j => ⟨j.drew, j.drew.sub (.cons_cons _ (.cons _ (.cons _ (.cons_cons _ (.cons_cons _ (.refl _))))))⟩) ?_
   refine tree_node ?_
   refine oq (oTs 0 3) [(28, vP c 1), (7, vI (IntKind.i64.wrap ((m.length : Int) - 1))), (5, vI E), (0, vP c 0), (1, vI n)] ?_
   refine oL 29 0 1 ?_
   refine oq (oTs 4 4) [(33, vP c 0), (30, vI E), (29, sl t m b), (7, vI (IntKind.i64.wrap ((m.length : Int) - 1))), (5, vI E), (0, vP c 0), (1, vI n)] ?_
   refine oL 34 0 0 ?_
   refine oq (oTs 9 4) [(38, vP c 1), (35, vI E), (34, sl s D a), (30, vI E), (29, sl t m b), (7, vI (IntKind.i64.wrap ((m.length : Int) - 1))), (5, vI E), (0, vP c 0), (1, vI n)] ?_
   refine oL 39 0 1 ?_
   refine oq [oT 14] [(40, vI (IntKind.i64.wrap ((m.length : Int) - 1))), (39, sl t m b), (35, vI E), (34, sl s D a), (30, vI E), (29, sl t m b), (7, vI (IntKind.i64.wrap ((m.length : Int) - 1))), (5, vI E), (0, vP c 0), (1, vI n)] ?_
   obtain ⟨av, e9, cw⟩ := idx_some fp
   have cf := (List.getElem?_eq_some_iff.1 cw).1
   refine ops_fact (fun p j => j.orowSome 2 rfl (Nat.lt_of_le_of_lt (Nat.zero_le _) cf)) ?_
   rintro ⟨x, rfl, -⟩
   obtain ⟨ir, hr313, cp⟩ := Y.at_ av J cw
   obtain rfl := hr313
   refine ops_val (op := (.indexAddr 22 (.tmp 39) (.tmp 40))) (d := some 41) (v := vP x (av * 1)) ⟨by kernel_rfl⟩ (run_indexRow Try.underlying22 (z := 1) (by kernel_rfl) rfl rfl e9 cf rfl) ?_
   refine oq (oTs 17 3) [(45, vP c 0), (41, vP x (av * 1)), (35, vI E), (34, sl s D a), (30, vI E), (29, sl (sa x) m b), (7, vI (IntKind.i64.wrap ((m.length : Int) - 1))), (5, vI E), (0, vP c 0), (1, vI n)] ?_
   refine oL 46 0 0 ?_
   refine oq [oT 21] [(47, vI (IntKind.i64.wrap ((m.length : Int) - 1))), (46, sl s D a), (41, vP x (av * 1)), (35, vI E), (34, sl s D a), (30, vI E), (29, sl (sa x) m b), (7, vI (IntKind.i64.wrap ((m.length : Int) - 1))), (5, vI E), (0, vP c 0), (1, vI n)] ?_
   obtain ⟨bf, fa, cx⟩ := idx_some fq
   have cg := (List.getElem?_eq_some_iff.1 cx).1
   refine ops_fact (fun p j => j.orowSome 1 rfl (Nat.lt_of_le_of_lt (Nat.zero_le _) cg)) ?_
   rintro ⟨y, rfl, -⟩
   obtain ⟨it, hr321, cq⟩ := X.at_ bf C cx
   obtain rfl := hr321
   refine ops_val (op := (.indexAddr 22 (.tmp 46) (.tmp 47))) (d := some 48) (v := vP y (bf * 1)) ⟨by kernel_rfl⟩ (run_indexRow Try.underlying22 (z := 1) (by kernel_rfl) rfl rfl fa cg rfl) ?_
   refine ops_nil ?_
   refine tree_both ?_ ?_
   ·
    refine tree_leaf ?_
    refine ops_mem (d := some 42) (an := [.v (vI J)]) (evs := [.load ⟨x, av * 1, none⟩ (vI J)]) (v := vI J) ⟨by kernel_rfl⟩ (fun p j K => ⟨p, ⟨j.ocell 2 rfl (cp 0 _ rfl), rfl⟩, j, K⟩) ?_
    refine ops_mem (d := some 49) (an := [.v (vI C)]) (evs := [.load ⟨y, bf * 1, none⟩ (vI C)]) (v := vI C) ⟨by kernel_rfl⟩ (fun p j K => ⟨p, ⟨j.ocell 1 rfl (cq 0 _ rfl), rfl⟩, j, K⟩) ?_
    obtain ⟨ac, cl, cy⟩ := idx_some cr
    have e5 := (List.getElem?_eq_some_iff.1 cy).1
    obtain ⟨iu, hr329, im⟩ := Y.at_ ac ec cy
    obtain rfl := hr329
    refine ops_val (op := (.indexAddr 22 (.tmp 29) (.tmp 30))) (d := some 50) (v := vP x (ac * 1)) ⟨by kernel_rfl⟩ (run_indexRow Try.underlying22 (z := 1) (by kernel_rfl) rfl rfl cl e5 rfl) ?_
    refine oq [] [(50, vP x (ac * 1)), (49, vI C), (42, vI J), (35, vI E), (34, sl (sa y) D a), (7, vI (IntKind.i64.wrap ((m.length : Int) - 1))), (5, vI E), (0, vP c 0), (1, vI n)] ?_
    obtain ⟨hk, ii, ch, ca⟩ := upd_some ct
    obtain rfl : ac = hk := by have := cl; omega
    have ap : m.length = O.length := by rw [ca, List.length_set]
    obtain ⟨bj, dg⟩ : ∃ y_, setAll U (ac * 1 + 0) [vI J] = y_ := ⟨_, rfl⟩
    have go : RepL (Rep.int .i64) F W O bj := by rw [ca, ← dg]; exact RepL.set Y (List.getElem?_eq_getElem ch) (fun vs_ hr_ _ => by obtain rfl := hr_; exact ⟨rfl, Nat.le_of_ble_eq_true rfl⟩)
    refine ops_store (an := []) (evs := [.store ⟨x, ac * 1, none⟩ (vI J)]) ⟨by kernel_rfl⟩ (fun p j K => let ⟨w', he, h'⟩ := j.ostore' 2 rfl (ac * 1 + 0) [vI J] (by have z_ : U.length = m.length * 1 := Y.len; have y_ : (ac + 1) * 1 ≤ m.length * 1 := Nat.mul_le_mul_right _ ch; rw [Nat.add_mul] at y_; simp only [List.length_cons, List.length_nil]; omega) ap dg; ⟨w', he, h', (by exact h'.sub (.cons_cons _ (.cons _ (.cons _ (.cons_cons _ (.cons_cons _ (.refl _)))))))⟩) ?_
    refine ops_conv (l' := [(50, vP x (ac * 1)), (49, vI C), (42, vI J), (35, vI E), (34, sl (sa y) D a), (7, vI (IntKind.i64.wrap ((m.length : Int) - 1))), (5, vI E), (0, vP c 0), (1, vI n)]) (M' := Mem w0 (.blk c [sl (sa y) D a, sl (sa x) O b, .map (some f)] 44 :: ow (sa y) D a 3 1 T :: ow (sa x) O b 3 1 bj :: .obj f (.map H G) :: Fz F W :: cs)) (by first | rfl | ((try dsimp only [sl, ow]); rw [ap])) (fun p j => by first | exact j | ((try dsimp only [sl, ow] at j ⊢); rw [ap] at j; exact j)) ?_
    obtain ⟨ad, cm, cz⟩ := idx_some cu
    have e6 := (List.getElem?_eq_some_iff.1 cz).1
    obtain ⟨iv, hr345, io⟩ := X.at_ ad ed cz
    obtain rfl := hr345
    refine ops_val (op := (.indexAddr 22 (.tmp 34) (.tmp 35))) (d := some 51) (v := vP y (ad * 1)) ⟨by kernel_rfl⟩ (run_indexRow Try.underlying22 (z := 1) (by kernel_rfl) rfl rfl cm e6 rfl) ?_
    refine oq [] [(51, vP y (ad * 1)), (49, vI C), (7, vI (IntKind.i64.wrap ((m.length : Int) - 1))), (5, vI E), (0, vP c 0), (1, vI n)] ?_
    obtain ⟨hl, ij, ci, cb⟩ := upd_some cv
    obtain rfl : ad = hl := by have := cm; omega
    have aq : D.length = Z.length := by rw [cb, List.length_set]
    obtain ⟨bu, dh⟩ : ∃ y_, setAll T (ad * 1 + 0) [vI C] = y_ := ⟨_, rfl⟩
    have gp : RepL (Rep.int .i64) F W Z bu := by rw [cb, ← dh]; exact RepL.set X (List.getElem?_eq_getElem ci) (fun vs_ hr_ _ => by obtain rfl := hr_; exact ⟨rfl, Nat.le_of_ble_eq_true rfl⟩)
    refine ops_store (an := []) (evs := [.store ⟨y, ad * 1, none⟩ (vI C)]) ⟨by kernel_rfl⟩ (fun p j K => let ⟨w', he, h'⟩ := j.ostore' 1 rfl (ad * 1 + 0) [vI C] (by have z_ : T.length = D.length * 1 := X.len; have y_ : (ad + 1) * 1 ≤ D.length * 1 := Nat.mul_le_mul_right _ ci; rw [Nat.add_mul] at y_; simp only [List.length_cons, List.length_nil]; omega) aq dh; ⟨w', he, h', (by first | (refine h'.sub ?_; simp; done) | ((try dsimp only [sl, ow, sa] at h' ⊢); (try simp only [← aq] at h' ⊢); (try simp only [← ap] at h' ⊢); (try simp only [← e4] at h' ⊢); (try simp only [← e3] at h' ⊢); (try simp only [← be] at h' ⊢); (try simp only [← ce] at h' ⊢); exact h'.sub (by simp)))⟩) ?_
    refine ops_conv (l' := [(51, vP y (ad * 1)), (49, vI C), (7, vI (IntKind.i64.wrap ((m.length : Int) - 1))), (5, vI E), (0, vP c 0), (1, vI n)]) (M' := Mem w0 (.blk c [sl (sa y) Z a, sl (sa x) O b, .map (some f)] 44 :: ow (sa y) Z a 3 1 bu :: ow (sa x) O b 3 1 bj :: .obj f (.map H G) :: Fz F W :: cs)) (by first | rfl | ((try dsimp only [sl, ow]); rw [aq])) (fun p j => by first | exact j | ((try dsimp only [sl, ow] at j ⊢); rw [aq] at j; exact j)) ?_
    refine ops_nil ?_
    exact fj fs (Z, bu, O, bj) ⟨u, gp, go⟩ 0 []
   ·
    refine tree_leaf ?_
    refine ops_mem (d := some 49) (an := [.v (vI C)]) (evs := [.load ⟨y, bf * 1, none⟩ (vI C)]) (v := vI C) ⟨by kernel_rfl⟩ (fun p j K => ⟨p, ⟨j.ocell 1 rfl (cq 0 _ rfl), rfl⟩, j, K⟩) ?_
    refine ops_mem (d := some 42) (an := [.v (vI J)]) (evs := [.load ⟨x, av * 1, none⟩ (vI J)]) (v := vI J) ⟨by kernel_rfl⟩ (fun p j K => ⟨p, ⟨j.ocell 2 rfl (cp 0 _ rfl), rfl⟩, j, K⟩) ?_
    obtain ⟨ae, cn, c0⟩ := idx_some cr
    have e7 := (List.getElem?_eq_some_iff.1 c0).1
    obtain ⟨iw, hr361, ip⟩ := Y.at_ ae ec c0
    obtain rfl := hr361
    refine ops_val (op := (.indexAddr 22 (.tmp 29) (.tmp 30))) (d := some 50) (v := vP x (ae * 1)) ⟨by kernel_rfl⟩ (run_indexRow Try.underlying22 (z := 1) (by kernel_rfl) rfl rfl cn e7 rfl) ?_
    refine oq [] [(50, vP x (ae * 1)), (42, vI J), (49, vI C), (35, vI E), (34, sl (sa y) D a), (7, vI (IntKind.i64.wrap ((m.length : Int) - 1))), (5, vI E), (0, vP c 0), (1, vI n)] ?_
    obtain ⟨hm, ik, cj, cc⟩ := upd_some ct
    obtain rfl : ae = hm := by have := cn; omega
    have ay : m.length = O.length := by rw [cc, List.length_set]
    obtain ⟨bk, di⟩ : ∃ y_, setAll U (ae * 1 + 0) [vI J] = y_ := ⟨_, rfl⟩
    have gq : RepL (Rep.int .i64) F W O bk := by rw [cc, ← di]; exact RepL.set Y (List.getElem?_eq_getElem cj) (fun vs_ hr_ _ => by obtain rfl := hr_; exact ⟨rfl, Nat.le_of_ble_eq_true rfl⟩)
    refine ops_store (an := []) (evs := [.store ⟨x, ae * 1, none⟩ (vI J)]) ⟨by kernel_rfl⟩ (fun p j K => let ⟨w', he, h'⟩ := j.ostore' 2 rfl (ae * 1 + 0) [vI J] (by have z_ : U.length = m.length * 1 := Y.len; have y_ : (ae + 1) * 1 ≤ m.length * 1 := Nat.mul_le_mul_right _ cj; rw [Nat.add_mul] at y_; simp only [List.length_cons, List.length_nil]; omega) ay di; ⟨w', he, h', (by exact h'.sub (.cons_cons _ (.cons _ (.cons _ (.cons_cons _ (.cons_cons _ (.refl _)))))))⟩) ?_
    refine ops_conv (l' := [(50, vP x (ae * 1)), (42, vI J), (49, vI C), (35, vI E), (34, sl (sa y) D a), (7, vI (IntKind.i64.wrap ((m.length : Int) - 1))), (5, vI E), (0, vP c 0), (1, vI n)]) (M' := Mem w0 (.blk c [sl (sa y) D a, sl (sa x) O b, .map (some f)] 44 :: ow (sa y) D a 3 1 T :: ow (sa x) O b 3 1 bk :: .obj f (.map H G) :: Fz F W :: cs)) (by first | rfl | ((try dsimp only [sl, ow]); rw [ay])) (fun p j => by first | exact j | ((try dsimp only [sl, ow] at j ⊢); rw [ay] at j; exact j)) ?_
    obtain ⟨af, co, c1⟩ := idx_some cu
    have e8 := (List.getElem?_eq_some_iff.1 c1).1
    obtain ⟨ix, hr377, iq⟩ := X.at_ af ed c1
    obtain rfl := hr377
    refine ops_val (op := (.indexAddr 22 (.tmp 34) (.tmp 35))) (d := some 51) (v := vP y (af * 1)) ⟨by kernel_rfl⟩ (run_indexRow Try.underlying22 (z := 1) (by kernel_rfl) rfl rfl co e8 rfl) ?_
    refine oq [] [(51, vP y (af * 1)), (49, vI C), (7, vI (IntKind.i64.wrap ((m.length : Int) - 1))), (5, vI E), (0, vP c 0), (1, vI n)] ?_
    obtain ⟨hn, il, ck, cd⟩ := upd_some cv
    obtain rfl : af = hn := by have := co; omega
    have az : D.length = Z.length := by rw [cd, List.length_set]
    obtain ⟨bv, dj⟩ : ∃ y_, setAll T (af * 1 + 0) [vI C] = y_ := ⟨_, rfl⟩
    have gr : RepL (Rep.int .i64) F W Z bv := by rw [cd, ← dj]; exact RepL.set X (List.getElem?_eq_getElem ck) (fun vs_ hr_ _ => by obtain rfl := hr_; exact ⟨rfl, Nat.le_of_ble_eq_true rfl⟩)
    refine ops_store (an := []) (evs := [.store ⟨y, af * 1, none⟩ (vI C)]) ⟨by kernel_rfl⟩ (fun p j K => let ⟨w', he, h'⟩ := j.ostore' 1 rfl (af * 1 + 0) [vI C] (by have z_ : T.length = D.length * 1 := X.len; have y_ : (af + 1) * 1 ≤ D.length * 1 := Nat.mul_le_mul_right _ ck; rw [Nat.add_mul] at y_; simp only [List.length_cons, List.length_nil]; omega) az dj; ⟨w', he, h', (by first | (refine h'.sub ?_; simp; done) | ((try dsimp only [sl, ow, sa] at h' ⊢); (try simp only [← az] at h' ⊢); (try simp only [← ay] at h' ⊢); (try simp only [← aq] at h' ⊢); (try simp only [← ap] at h' ⊢); (try simp only [← e4] at h' ⊢); (try simp only [← e3] at h' ⊢); exact h'.sub (by simp)))⟩) ?_
    refine ops_conv (l' := [(51, vP y (af * 1)), (49, vI C), (7, vI (IntKind.i64.wrap ((m.length : Int) - 1))), (5, vI E), (0, vP c 0), (1, vI n)]) (M' := Mem w0 (.blk c [sl (sa y) Z a, sl (sa x) O b, .map (some f)] 44 :: ow (sa y) Z a 3 1 bv :: ow (sa x) O b 3 1 bk :: .obj f (.map H G) :: Fz F W :: cs)) (by first | rfl | ((try dsimp only [sl, ow]); rw [az])) (fun p j => by first | exact j | ((try dsimp only [sl, ow] at j ⊢); rw [az] at j; exact j)) ?_
    refine ops_nil ?_
    exact fj fs (Z, bv, O, bk) ⟨u, gr, gq⟩ 0 []
theorem slices_Clone_int_int_ok {i : Option Addr} {a : Nat} {s : List Int} (I : Mem w0 (Fz F W :: cs) w) (v : RdS (Rep.int .i64) F W i a s) {b : List Int} (j : slices_Clone_int_int s = some b) : Calls Try.prog 20 #[sl i s a] w (Post w0 (fun ((c, f, g) : (Option Addr) × Nat × (List Value)) => (RepL (Rep.int .i64) F W b g)) (fun (c, f, g) => sl c b f) (fun (c, f, g) => ow c b f 3 1 g :: Fz F W :: cs)) := by
 unfold slices_Clone_int_int at j
 refine sx_calls Try.func20 rfl (n := 8) (by kernel_rfl) (l := [(0, sl i s a)]) rfl (by rfl) I ?_
 refine st_seq (st_region [oF 0] (by rfl) ?_)
 refine oq [oF 0] [(0, sl i s a)] ?_
 refine ops_nil (fin_then (st_seq (st_seq (st_region [oF 0, oF 1] (by rfl) ?_))))
 refine oq [oF 0] [(3, sl i s a), (0, sl i s a)] ?_
 have B := fun e_ => RdS.len0 v e_
 rcases i with _ | p
 ·
  have j : some ([] : List Int) = some b := by rw [← j, B rfl]; simp [app]
  refine oq [oF 1] [(4, .bool true), (3, sl none s a), (0, sl none s a)] ?_
  refine ops_nil (fin_then (st_true rfl (st_seq (st_region [oF 0] (by rfl) ?_))))
  refine oq [oF 0] [(2, .slice none 0 0)] ?_
  refine ops_nil (fin_then (st_ret (fin_ret_then ?_)))
  refine fnil 3 1 ?_
  obtain rfl := Option.some.inj j
  exact fr [2] (none, 0, []) (RepL.nil (R := (Rep.int .i64))) 0 []
 ·
  clear B
  refine oq [oF 1] [(4, .bool false), (3, sl (some p) s a), (0, sl (some p) s a)] ?_
  refine ops_nil (fin_then (st_false rfl (st_skip (fin_then (st_seq ?_)))))
  refine st_region (oFs 0 4) (by rfl) ?_
  have M : RepL (Rep.int .i64) F W ([] : List Int) ([]) := RepL.nil
  refine oB 5 [] 3 0 1 (fun L => ?_)
  refine oq [oF 1] [(6, sl (some p) s a), (5, sl (sa L) ([] : List Int) 0)] ?_
  obtain ⟨E, K, j⟩ := obind j
  obtain ⟨A, J⟩ := app_some K
  obtain ⟨C, k, D⟩ := RdS.src v
  obtain ⟨G, q⟩ : ∃ y_, [] ++ C = y_ := ⟨_, rfl⟩
  have H : RepL (Rep.int .i64) F W E G := by rw [A, ← q]; exact RepL.app M k
  refine ops_appendO (x := (Go.Operand.tmp 5)) (y := (Go.Operand.tmp 6)) (t := 22) (e := 3) (d := some 7) (n' := E.length) (z := 1) (m := s.length) (bytes := 8) (xs' := G) (news := C) (zv := vI 0) 0 ⟨by kernel_rfl⟩ rfl rfl Try.underlying22 (by kernel_rfl) (by rfl) rfl (fun T N => N.srcS 1 rfl k D) k.len k.one J (by have z_ := congrArg List.length A; rw [List.length_append] at z_; exact z_.symm) q (fun _ _ _ _ O h' => trivial) ?_
  rintro ⟨r, u⟩
  refine oq [oF 3] [(2, sl r E u)] ?_
  refine ops_nil (fin_then (st_ret ?_))
  obtain rfl := Option.some.inj j
  exact fr [2] (r, u, G) H 0 []
theorem column_Store_int_Rows_ok {C : Nat} {i : Option Addr} {k : Nat} {r : List Int} {A : List Value} {a : Option Addr} {c : Nat} {g : List Int} {B : List Value} {j : Nat} {q : Array MapEntry} {o : Nat} {M : List (Int × Int)} (X : Mem w0 (.blk C [sl i r k, sl a g c, .map (some j)] 44 :: ow i r k 3 1 A :: ow a g c 3 1 B :: .obj j (.map q o) :: Fz F W :: cs) w) (N : RepL (Rep.int .i64) F W r A) (J : RepL (Rep.int .i64) F W g B) (O : MapOK (fun G : Int => Value.int .i64 G) (Rep.int .i64) false F W M q o) {u : List Int} (T : column_Store_int_Rows r g M = some u) : Calls Try.prog 18 #[vP C 0] w (Post w0 (fun ((s, t, x, y, z, p, m) : (Option Addr) × Nat × (List Value) × (List Value) × (List Value) × (Array MapEntry) × Nat) => (RepL (Rep.int .i64) F W u x) ∧ (RepL (Rep.int .i64) F W r y) ∧ (RepL (Rep.int .i64) F W g z) ∧ (MapOK (fun G : Int => Value.int .i64 G) (Rep.int .i64) false F W M p m)) (fun (s, t, x, y, z, p, m) => sl s u t) (fun (s, t, x, y, z, p, m) => ow s u t 3 1 x :: .blk C [sl i r k, sl a g c, .map (some j)] 44 :: ow i r k 3 1 y :: ow a g c 3 1 z :: .obj j (.map p m) :: Fz F W :: cs)) := by
 unfold column_Store_int_Rows at T
 refine sx_calls Try.func18 rfl (n := 8) (by kernel_rfl) (l := [(0, vP C 0)]) rfl (by rfl) X ?_
 refine st_seq (st_region [oF 0] (by rfl) ?_)
 refine oq [oF 0] [(0, vP C 0)] ?_
 refine ops_nil (fin_then (st_seq ?_))
 refine st_region (oFs 0 6) (by rfl) ?_
 refine oq (oFs 0 3) [(5, vP C 1)] ?_
 refine oM 6 0 1 ?_
 obtain ⟨L, Y, T⟩ := obind T
 refine ops_callI (σ := (Option Addr) × Nat × (List Value)) (d := some 7) (f := 20) (args := #[sl a g c]) (v := (fun G => match G with | (D, E, H) => sl D L E)) (I := (fun G => match G with | (D, E, H) => (RepL (Rep.int .i64) F W L H))) (M' := (fun G => match G with | (D, E, H) => Mem w0 (ow D L E 3 1 H :: .blk C [sl i r k, sl a g c, .map (some j)] 44 :: ow i r k 3 1 A :: ow a g c 3 1 B :: .obj j (.map q o) :: Fz F W :: cs))) ⟨by kernel_rfl⟩ (fun K V Z => (@slices_Clone_int_int_ok K K [] (fun b => b < K.heap.size) K a c g (Mem.fz0 K) (V.ordS 2 4 rfl rfl J rfl rfl) L Y).mono (by rintro e w' ⟨⟨D, E, H⟩, U, rfl, h'⟩; have h' : Mem K [ow D L E 3 1 H] w' := h'.pick 2 [0] (by kernel_rfl) (by decide) rfl; exact ⟨(D, E, H), (RepL.move' (fun h => h) U), rfl, V.join h' rfl, trivial⟩)) ?_
 rintro ⟨D, E, H⟩ U
 refine oq [oF 5] [(2, sl D L E)] ?_
 refine ops_nil (fin_then (st_ret ?_))
 obtain rfl := Option.some.inj T
 exact fr [2] (D, E, H, A, B, q, o) ⟨U, N, J, O⟩ 0 []
theorem slices_Equal_int_int_ok {f : Option Addr} {i : Nat} {a : List Int} {g : Option Addr} {j : Nat} {b : List Int} (Z : Mem w0 (Fz F W :: cs) w) (H : RdS (Rep.int .i64) F W f i a) (J : RdS (Rep.int .i64) F W g j b) {o : Bool} (k : slices_Equal_int_int a b = some o) : Calls Try.prog 15 #[sl f a i, sl g b j] w (Post w0 (fun (_ : Unit) => True) (fun _ => .bool o) (fun _ => Fz F W :: cs)) := by
 unfold slices_Equal_int_int at k
 refine sx_calls Try.func15 rfl (n := 26) (by kernel_rfl) (l := [(0, sl f a i), (1, sl g b j)]) rfl (by rfl) Z ?_
 refine st_seq (st_region [oF 0] (by rfl) ?_)
 refine oq [oF 0] [(0, sl f a i), (1, sl g b j)] ?_
 refine ops_nil (fin_then (st_seq (st_seq ?_)))
 refine st_region (oFs 0 5) (by rfl) ?_
 refine oq (oFs 0 5) [(10, .bool (!((a.length : Int) == (b.length : Int)))), (0, sl f a i), (1, sl g b j)] ?_
 refine ops_nil (fin_then ?_)
 refine sif k (fun aa k => ?_) (fun aa k => ?_)
 ·
  refine st_seq (st_region [oF 0] (by rfl) ?_)
  refine oq [oF 0] [(4, .bool false)] ?_
  refine ops_nil (fin_then (st_ret (fin_ret_then ?_)))
  obtain rfl := Option.some.inj k
  exact fr [4] () trivial 0 []
 ·
  refine st_skip (fin_then ?_)
  refine st_join1 (σ := Unit) (L := fun _ => []) (N := fun _ => Mem w0 (Fz F W :: cs)) (I := fun _ => (slices_Equal_int_int_j1 = some o)) ?_ ?_
  ·
   rintro _ k
   unfold slices_Equal_int_int_j1 at k
   refine st_seq (st_region [oF 0] (by rfl) ?_)
   refine oq [oF 0] [(4, .bool true)] ?_
   refine ops_nil (fin_then (st_ret ?_))
   obtain rfl := Option.some.inj k
   exact fr [4] () trivial 0 []
  ·
   intro Y
   refine st_seq (st_seq ?_)
   refine st_region (oFs 0 3) (by rfl) ?_
   refine oq (oFs 0 3) [(13, vI 0), (12, vI (a.length : Int)), (0, sl f a i), (1, sl g b j)] ?_
   refine ops_nil (fin_then (st_block ?_))
   obtain ⟨r2, ac, B⟩ := obind k
   refine lp (σ := Int) (ρ := (Bool ⊕ Unit)) (γ := Unit) ac () (fun x t => match x, t with | m, _ => [(0, sl f a i), (1, sl g b j), (12, vI (a.length : Int)), (13, vI m)]) (fun x t => match x, t with | m, _ => Mem w0 (Fz F W :: cs)) (fun x t => match x, t with | m, _ => True) trivial 0 [] ?_
   rintro m _ o2 - hs_ A
   have k : (slices_Equal_int_int_l2 a b) m = some o2 := hs_
   clear hs_
   unfold slices_Equal_int_int_l2 at k
   refine st_seq (st_region [oF 0] (by rfl) ?_)
   refine oq [oF 0] [(14, .bool (decide (m < (a.length : Int)))), (0, sl f a i), (1, sl g b j), (12, vI (a.length : Int)), (13, vI m)] ?_
   refine ops_nil (fin_then (st_seq ?_))
   refine sif k (fun ab k => ?_) (fun ab k => ?_)
   ·
    refine st_skip (fin_then (st_seq (st_block (st_seq (st_region [oF 0, oF 1] (by rfl) ?_)))))
    refine oq [oF 0, oF 1] [(5, vI m), (0, sl f a i), (1, sl g b j), (12, vI (a.length : Int)), (13, vI m)] ?_
    refine ops_nil (fin_then (st_seq ?_))
    refine st_region_draw (oTs 0 9) (Mem w0 (Fz F W :: cs)) (by kernel_rfl) (by kernel_rfl) (by kernel_rfl) (fun _ d _ _ _ h => by cases d <;> exact h) (M' := Mem w0 (Fz F W :: cs)) (fun w_ q => ⟨q.drew, q.drew.sub (.cons_cons _ (.refl _))⟩) ?_
    refine oq [oT 0, oT 1] [(17, vI m), (16, sl f a i), (5, vI m), (0, sl f a i), (1, sl g b j), (12, vI (a.length : Int)), (13, vI m)] ?_
    obtain ⟨y, ae, k⟩ := obind k
    obtain ⟨m6, ad, C⟩ := idx_some ae
    have M := (List.getElem?_eq_some_iff.1 C).1
    obtain ⟨r, aj, E, hr10, U⟩ := RdS.el H C
    obtain rfl := hr10
    refine ops_val (op := (.indexAddr 22 (.tmp 16) (.tmp 17))) (d := some 18) (v := .pointer (some (r.add (m6 * 1)))) ⟨by kernel_rfl⟩ (run_indexA E Try.underlying22 (z := 1) (by kernel_rfl) rfl rfl ad M) ?_
    refine ops_load (d := some 19) (an := [.v (vI y)]) (evs := [.load (r.add (m6 * 1)) (vI y)]) (v := vI y) ⟨by kernel_rfl⟩ (fun w_ q => ⟨q.elcell 0 rfl U 0 rfl, rfl⟩) ?_
    refine oq [oT 4, oT 5] [(21, vI m), (20, sl g b j), (19, vI y), (0, sl f a i), (1, sl g b j), (12, vI (a.length : Int)), (13, vI m)] ?_
    obtain ⟨p, X, k⟩ := obind k
    obtain ⟨D, T, u⟩ := idx_some X
    have O := (List.getElem?_eq_some_iff.1 u).1
    obtain ⟨s, ai, G, hr21, V⟩ := RdS.el J u
    obtain rfl := hr21
    refine ops_val (op := (.indexAddr 22 (.tmp 20) (.tmp 21))) (d := some 22) (v := .pointer (some (s.add (D * 1)))) ⟨by kernel_rfl⟩ (run_indexA G Try.underlying22 (z := 1) (by kernel_rfl) rfl rfl T O) ?_
    refine ops_load (d := some 23) (an := [.v (vI p)]) (evs := [.load (s.add (D * 1)) (vI p)]) (v := vI p) ⟨by kernel_rfl⟩ (fun w_ q => ⟨q.elcell 0 rfl V 0 rfl, rfl⟩) ?_
    refine oq [oT 8] [(24, .bool (!(y == p))), (0, sl f a i), (1, sl g b j), (12, vI (a.length : Int)), (13, vI m)] ?_
    refine ops_nil (fin_then ?_)
    refine sif k (fun K k => ?_) (fun K k => ?_)
    ·
     refine st_seq (st_region [oF 0] (by rfl) ?_)
     refine oq [oF 0] [(4, .bool false)] ?_
     refine ops_nil (fin_then (st_ret (fin_ret_block (fin_ret_then (fin_ret_then (fin_ret_block (fin_ret_then ?_)))))))
     obtain rfl := Option.some.inj k
     obtain rfl := A _ rfl
     have k : some false = some o := B
     obtain rfl := Option.some.inj k
     exact fr [4] () trivial 0 []
    ·
     refine st_skip (fin_block (fin_then (st_region [oF 0, oF 1] (by rfl) ?_)))
     refine oq [oF 0, oF 1] [(13, vI (IntKind.i64.wrap (m + 1))), (0, sl f a i), (1, sl g b j), (12, vI (a.length : Int))] ?_
     refine ops_nil ?_
     exact fag (IntKind.i64.wrap (m + 1)) () (Option.some.inj k).symm trivial 0 []
   ·
    refine st_exit (fin_exit_then (fin_exit_then (fin_exit ?_)))
    obtain rfl := Option.some.inj k
    obtain rfl := A _ rfl
    have k : slices_Equal_int_int_j1 = some o := B
    exact fj Y () k 0 []
theorem tourlaw3_stored_ok (bz : Mem w0 (Fz F W :: cs) w) {j : Bool} (a : tourlaw3_stored = some j) : Calls Try.prog 4 #[] w (Post w0 (fun (_ : Unit) => True) (fun _ => .bool j) (fun _ => Fz F W :: cs)) := by
 unfold tourlaw3_stored at a
 refine sx_calls Try.func4 rfl (n := 29) (by kernel_rfl) (l := []) rfl (by rfl) bz ?_
 refine st_seq (st_region [oF 0] (by rfl) ?_)
 refine oq [oF 0] [] ?_
 refine ops_nil (fin_then (st_seq (st_region [oF 0, oF 1] (by rfl) ?_)))
 obtain ⟨x1, x2, b1, a⟩ := obind2 a
 refine oV (some 4) 0 [] 0 [] (fun _ o => column_New_int_ok o b1) ?_
 rintro ⟨i, A5, c6, y7, y8, b9, az, aw⟩ ⟨bm, bn, bo⟩
 refine oq [oF 1] [(1, vP i 0)] ?_
 refine ops_nil (fin_then (st_seq (st_seq (st_region [oF 0, oF 1] (by rfl) ?_))))
 refine oq [oF 0, oF 1] [(6, .bool false), (1, vP i 0)] ?_
 refine ops_nil (fin_then (st_false rfl (st_skip (fin_then ?_))))
 refine st_join1 (σ := (Option Addr) × Nat × (List Int) × (List Value) × (Option Addr) × Nat × (List Int) × (List Value) × (Array MapEntry) × Nat × (List (Int × Int))) (L := fun m => match m with | (t, x, C, Y, u, y, D, Z, B, A, U) => [(1, vP i 0)]) (N := fun m => match m with | (t, x, C, Y, u, y, D, Z, B, A, U) => Mem w0 (.blk i [sl t C x, sl u D y, .map (some b9)] 44 :: ow t C x 3 1 Y :: ow u D y 3 1 Z :: .obj b9 (.map B A) :: Fz F W :: cs)) (I := fun m => match m with | (t, x, C, Y, u, y, D, Z, B, A, U) => (tourlaw3_stored_j1 C D U = some j) ∧ (RepL (Rep.int .i64) F W C Y) ∧ (RepL (Rep.int .i64) F W D Z) ∧ (MapOK (fun m : Int => Value.int .i64 m) (Rep.int .i64) false F W U B A)) ?_ ?_
 ·
  rintro ⟨t, x, C, Y, u, y, D, Z, B, A, U⟩ ⟨a, bp, bq, br⟩
  unfold tourlaw3_stored_j1 at a
  refine st_join1 (σ := Bool) (L := fun m => match m with | V => [(0, .bool V)]) (N := fun m => match m with | V => Mem w0 (Fz F W :: cs)) (I := fun m => match m with | V => (tourlaw3_stored_j2 V = some j)) ?_ ?_
  ·
   rintro V a
   unfold tourlaw3_stored_j2 at a
   refine st_ret ?_
   obtain rfl := Option.some.inj a
   exact fr [0] () trivial 0 []
  ·
   intro al
   refine st_seq ?_
   refine st_region (oFs 0 10) (by rfl) ?_
   refine oq [oF 0] [(20, vP i 0), (1, vP i 0)] ?_
   obtain ⟨b2, au, av, co, ba, a⟩ := obind4 a
   refine oV (some 21) 0 [] 0 [] (fun _ o => column_Store_int_Drop_ok o bp bq br ba) ?_
   rintro ⟨cp, cq, cf, ce⟩ ⟨bs, bt, bu⟩
   refine oq [oF 2, oF 3] [(23, .bool (b2 == 0)), (1, vP i 0)] ?_
   refine ob a [23] (fun a5 a => ?_) (fun a5 a => ?_)
   ·
    refine oq [oF 4] [(24, vP i 0), (23, .bool true)] ?_
    obtain ⟨aj, bb, a⟩ := obind a
    refine oV (some 25) 0 [] 0 [] (fun _ o => column_Store_int_Rows_ok o bs bt bu bb) ?_
    rintro ⟨ac, ad, b8, ca, cb, a0, ax⟩ ⟨bv, cl, cm, cn⟩
    have bw : RepL (Rep.int .i64) F W ([7, 2] : List Int) ([vI 7, vI 2]) := (RepL.cons (R := (Rep.int .i64)) (F := F) (w := W) (vs := [vI 7]) (ys := [vI 2]) rfl (RepL.cons (R := (Rep.int .i64)) (F := F) (w := W) (vs := [vI 2]) (ys := []) rfl RepL.nil))
    refine oB 26 [vI 7, vI 2] 3 2 1 (fun ae => ?_)
    obtain ⟨aa, bc, a⟩ := obind a
    refine ops_callI (σ := Unit) (d := some 27) (f := 15) (args := #[sl ac aj ad, .slice (sa ae) ([7, 2] : List Int).length 2]) (v := (fun _ => .bool aa)) (I := (fun _ => True)) (M' := (fun _ => Mem w0 (orow (sa ae) ([7, 2] : List Int).length 2 3 1 ([vI 7, vI 2]) :: ow ac aj ad 3 1 b8 :: .blk i [sl t au x, sl u av y, .map (some b9)] 44 :: ow t au x 3 1 ca :: ow u av y 3 1 cb :: .obj b9 (.map a0 ax) :: Fz F W :: cs))) ⟨by kernel_rfl⟩ (fun X o hS => (@slices_Equal_int_int_ok X X [] (fun b => b < X.heap.size) X ac ad aj (sa ae) 2 ([7, 2] : List Int) (Mem.fz0 X) (o.ordS 1 6 rfl rfl bv rfl rfl) (o.ordS 0 6 rfl rfl bw rfl rfl) aa bc).mono (by rintro e w' ⟨_, -, rfl, h'⟩; have h' : Mem X [] w' := h'.pick 1 [] (by kernel_rfl) (by decide) rfl; exact ⟨(), trivial, rfl, o.join h' rfl, trivial⟩)) ?_
    rintro _ -
    refine oq [oF 8, oF 9] [(0, .bool aa)] ?_
    refine ops_nil ?_
    exact fj al aa a 7 [6]
   ·
    refine oq (oFs 4 6) [(0, .bool false)] ?_
    refine ops_nil ?_
    exact fj al false a 5 [4]
 ·
  intro bi
  refine st_seq (st_seq ?_)
  refine st_region (oFs 0 3) (by rfl) ?_
  have bx : RepL (Rep.int .i64) F W ([4, 2, 7] : List Int) ([vI 4, vI 2, vI 7]) := (RepL.cons (R := (Rep.int .i64)) (F := F) (w := W) (vs := [vI 4]) (ys := [vI 2, vI 7]) rfl (RepL.cons (R := (Rep.int .i64)) (F := F) (w := W) (vs := [vI 2]) (ys := [vI 7]) rfl (RepL.cons (R := (Rep.int .i64)) (F := F) (w := W) (vs := [vI 7]) (ys := []) rfl RepL.nil)))
  refine oB 7 [vI 4, vI 2, vI 7] 3 3 1 (fun k => ?_)
  refine oq [oF 1, oF 2] [(9, vI 0), (8, vI (([4, 2, 7] : List Int).length : Int)), (7, .slice (sa k) ([4, 2, 7] : List Int).length 3), (1, vP i 0)] ?_
  refine ops_nil (fin_then (st_block ?_))
  obtain ⟨r3, b0, ar⟩ := obind a
  refine lp (σ := (List Int) × (List Int) × (List (Int × Int)) × Int) (ρ := (Bool ⊕ (List Int) × (List Int) × (List (Int × Int)))) (γ := (Option Addr) × Nat × (List Value) × (Option Addr) × Nat × (List Value) × (Array MapEntry) × Nat) b0 (A5, c6, y7, A5, c6, y8, az, aw) (fun s_ g_ => match s_, g_ with | (p, q, E, g), (H, K, O, J, M, T, s, r) => [(1, vP i 0), (7, .slice (sa k) ([4, 2, 7] : List Int).length 3), (8, vI (([4, 2, 7] : List Int).length : Int)), (9, vI g)]) (fun s_ g_ => match s_, g_ with | (p, q, E, g), (H, K, O, J, M, T, s, r) => Mem w0 (.blk i [sl H p K, sl J q M, .map (some b9)] 44 :: ow H p K 3 1 O :: ow J q M 3 1 T :: .obj b9 (.map s r) :: orow (sa k) ([4, 2, 7] : List Int).length 3 3 1 ([vI 4, vI 2, vI 7]) :: Fz F W :: cs)) (fun s_ g_ => match s_, g_ with | (p, q, E, g), (H, K, O, J, M, T, s, r) => (RepL (Rep.int .i64) F W p O) ∧ (RepL (Rep.int .i64) F W q T) ∧ (MapOK (fun m : Int => Value.int .i64 m) (Rep.int .i64) false F W E s r)) ⟨bm, bn, bo⟩ 6 [1, 2, 3, 4, 0, 5] ?_
  rintro ⟨p, q, E, g⟩ ⟨H, K, O, J, M, T, s, r⟩ o3 ⟨am, ao, ap⟩ hs_ aq
  have a : tourlaw3_stored_l3 p q E g = some o3 := hs_
  clear hs_
  unfold tourlaw3_stored_l3 at a
  refine st_seq (st_region [oF 0] (by rfl) ?_)
  refine oq [oF 0] [(10, .bool (decide (g < (([4, 2, 7] : List Int).length : Int)))), (1, vP i 0), (7, .slice (sa k) ([4, 2, 7] : List Int).length 3), (8, vI (([4, 2, 7] : List Int).length : Int)), (9, vI g)] ?_
  refine ops_nil (fin_then (st_seq ?_))
  refine sif a (fun a6 a => ?_) (fun a6 a => ?_)
  ·
   refine st_skip (fin_then (st_seq (st_block (st_seq ?_))))
   refine st_region (oFs 0 3) (by rfl) ?_
   obtain ⟨G, bd, a⟩ := obind a
   obtain ⟨ah, a8, ag⟩ := idx_some bd
   have a7 := (List.getElem?_eq_some_iff.1 ag).1
   obtain ⟨ci, hr84, a9⟩ := bx.at_ ah G ag
   obtain rfl := hr84
   refine ops_val (op := (.indexAddr 22 (.tmp 7) (.tmp 9))) (d := some 11) (v := vP k (ah * 1)) ⟨by kernel_rfl⟩ (run_indexRow Try.underlying22 (z := 1) (by kernel_rfl) rfl rfl a8 a7 rfl) ?_
   refine ops_mem (d := some 12) (an := [.v (vI G)]) (evs := [.load ⟨k, ah * 1, none⟩ (vI G)]) (v := vI G) ⟨by kernel_rfl⟩ (fun X o hS => ⟨X, ⟨o.ocell 4 rfl (a9 0 _ rfl), rfl⟩, o, trivial⟩) ?_
   refine oq [oF 2] [(3, vI G), (1, vP i 0), (7, .slice (sa k) ([4, 2, 7] : List Int).length 3), (8, vI (([4, 2, 7] : List Int).length : Int)), (9, vI g)] ?_
   refine ops_nil (fin_then (st_seq ?_))
   refine st_region (oFs 0 6) (by rfl) ?_
   refine oq (oFs 0 4) [(16, vI (IntKind.i64.wrap (10 * G))), (14, vI G), (13, vP i 0), (1, vP i 0), (7, .slice (sa k) ([4, 2, 7] : List Int).length 3), (8, vI (([4, 2, 7] : List Int).length : Int)), (9, vI g)] ?_
   obtain ⟨b3, b5, b6, b7, be, a⟩ := obind4 a
   refine oV (some 17) 6 [0, 1, 2, 3, 5, 4] 6 [1, 2, 0, 3, 5, 4] (fun _ o => column_Store_int_Put_ok o am ao ap be) ?_
   rintro ⟨bg, bk, cc, bh, bl, cd, a1, ay⟩ ⟨a2, a3, a4⟩
   refine oq [oF 5] [(18, .bool (!(b3 == 0))), (1, vP i 0), (7, .slice (sa k) ([4, 2, 7] : List Int).length 3), (8, vI (([4, 2, 7] : List Int).length : Int)), (9, vI g)] ?_
   refine ops_nil (fin_then ?_)
   refine sif a (fun ak a => ?_) (fun ak a => ?_)
   ·
    refine st_seq (st_region [oF 0] (by rfl) ?_)
    refine oq [oF 0] [(0, .bool false)] ?_
    refine ops_nil (fin_then (st_ret (fin_ret_block (fin_ret_then (fin_ret_then (fin_ret_block (fin_ret_then ?_)))))))
    obtain rfl := Option.some.inj a
    obtain rfl := aq _ rfl
    have a : some false = some j := ar
    obtain rfl := Option.some.inj a
    exact fr [0] () trivial 6 [5]
   ·
    refine st_skip (fin_block (fin_then (st_region [oF 0, oF 1] (by rfl) ?_)))
    refine oq [oF 0, oF 1] [(9, vI (IntKind.i64.wrap (g + 1))), (1, vP i 0), (7, .slice (sa k) ([4, 2, 7] : List Int).length 3), (8, vI (([4, 2, 7] : List Int).length : Int))] ?_
    refine ops_nil ?_
    exact fag (b5, b6, b7, IntKind.i64.wrap (g + 1)) (bg, bk, cc, bh, bl, cd, a1, ay) (Option.some.inj a).symm ⟨a2, a3, a4⟩ 6 [2, 0, 1, 3, 4, 5]
  ·
   refine st_exit (fin_exit_then (fin_exit_then (fin_exit ?_)))
   obtain rfl := Option.some.inj a
   obtain rfl := aq _ rfl
   have a : tourlaw3_stored_j1 p q E = some j := ar
   exact fj bi (H, K, p, O, J, M, q, T, s, r, E) ⟨a, am, ao, ap⟩ 6 [0, 1, 2, 3, 5]
theorem slices_Index_int_int_ok {c : Option Addr} {f : Nat} {s : List Int} {v : Int} (E : Mem w0 (Fz F W :: cs) w) (G : RdS (Rep.int .i64) F W c f s) {i : Int} (b : slices_Index_int_int s v = some i) : Calls Try.prog 19 #[sl c s f, vI v] w (Post w0 (fun (_ : Unit) => True) (fun _ => vI i) (fun _ => Fz F W :: cs)) := by
 unfold slices_Index_int_int at b
 refine sx_calls Try.func19 rfl (n := 19) (by kernel_rfl) (l := [(0, sl c s f), (1, vI v)]) rfl (by rfl) E ?_
 refine st_seq (st_region [oF 0] (by rfl) ?_)
 refine oq [oF 0] [(0, sl c s f), (1, vI v)] ?_
 refine ops_nil (fin_then ?_)
 refine st_join1 (σ := Unit) (L := fun _ => []) (N := fun _ => Mem w0 (Fz F W :: cs)) (I := fun _ => (slices_Index_int_int_j1 = some i)) ?_ ?_
 ·
  rintro _ b
  unfold slices_Index_int_int_j1 at b
  refine st_seq (st_region [oF 0] (by rfl) ?_)
  refine oq [oF 0] [(4, vI (-1))] ?_
  refine ops_nil (fin_then (st_ret ?_))
  obtain rfl := Option.some.inj b
  exact fr [4] () trivial 0 []
 ·
  intro C
  refine st_seq (st_seq ?_)
  refine st_region (oFs 0 3) (by rfl) ?_
  refine oq (oFs 0 3) [(8, vI 0), (7, vI (s.length : Int)), (0, sl c s f), (1, vI v)] ?_
  refine ops_nil (fin_then (st_block ?_))
  obtain ⟨Y, J, t⟩ := obind b
  refine lp (σ := Int) (ρ := (Int ⊕ Unit)) (γ := Unit) J () (fun p o => match p, o with | g, _ => [(0, sl c s f), (1, vI v), (7, vI (s.length : Int)), (8, vI g)]) (fun p o => match p, o with | g, _ => Mem w0 (Fz F W :: cs)) (fun p o => match p, o with | g, _ => True) trivial 0 [] ?_
  rintro g _ T - hs_ r
  have b : (slices_Index_int_int_l2 s v) g = some T := hs_
  clear hs_
  unfold slices_Index_int_int_l2 at b
  refine st_seq (st_region [oF 0] (by rfl) ?_)
  refine oq [oF 0] [(9, .bool (decide (g < (s.length : Int)))), (0, sl c s f), (1, vI v), (7, vI (s.length : Int)), (8, vI g)] ?_
  refine ops_nil (fin_then (st_seq ?_))
  refine sif b (fun H b => ?_) (fun H b => ?_)
  ·
   refine st_skip (fin_then (st_seq (st_block (st_seq (st_region [oF 0, oF 1] (by rfl) ?_)))))
   refine oq [oF 0, oF 1] [(5, vI g), (0, sl c s f), (1, vI v), (7, vI (s.length : Int)), (8, vI g)] ?_
   refine ops_nil (fin_then (st_seq ?_))
   refine st_region (oFs 0 6) (by rfl) ?_
   refine oq (oFs 0 3) [(13, vI g), (12, sl c s f), (11, vI v), (5, vI g), (0, sl c s f), (1, vI v), (7, vI (s.length : Int)), (8, vI g)] ?_
   obtain ⟨q, M, b⟩ := obind b
   obtain ⟨O, K, u⟩ := idx_some M
   have A := (List.getElem?_eq_some_iff.1 u).1
   obtain ⟨m, V, x, hr9, B⟩ := RdS.el G u
   obtain rfl := hr9
   refine ops_val (op := (.indexAddr 22 (.tmp 12) (.tmp 13))) (d := some 14) (v := .pointer (some (m.add (O * 1)))) ⟨by kernel_rfl⟩ (run_indexA x Try.underlying22 (z := 1) (by kernel_rfl) rfl rfl K A) ?_
   refine ops_mem (d := some 15) (an := [.v (vI q)]) (evs := [.load (m.add (O * 1)) (vI q)]) (v := vI q) ⟨by kernel_rfl⟩ (fun U D X => ⟨U, ⟨D.elcell 0 rfl B 0 rfl, rfl⟩, D, trivial⟩) ?_
   refine oq [oF 5] [(16, .bool (v == q)), (5, vI g), (0, sl c s f), (1, vI v), (7, vI (s.length : Int)), (8, vI g)] ?_
   refine ops_nil (fin_then ?_)
   refine sif b (fun y b => ?_) (fun y b => ?_)
   ·
    refine st_seq (st_region [oF 0, oF 1] (by rfl) ?_)
    refine oq [oF 0, oF 1] [(4, vI g)] ?_
    refine ops_nil (fin_then (st_ret (fin_ret_block (fin_ret_then (fin_ret_then (fin_ret_block (fin_ret_then ?_)))))))
    obtain rfl := Option.some.inj b
    obtain rfl := r _ rfl
    have b : some g = some i := t
    obtain rfl := Option.some.inj b
    exact fr [4] () trivial 0 []
   ·
    refine st_skip (fin_block (fin_then (st_region [oF 0, oF 1] (by rfl) ?_)))
    refine oq [oF 0, oF 1] [(8, vI (IntKind.i64.wrap (g + 1))), (0, sl c s f), (1, vI v), (7, vI (s.length : Int))] ?_
    refine ops_nil ?_
    exact fag (IntKind.i64.wrap (g + 1)) () (Option.some.inj b).symm trivial 0 []
  ·
   refine st_exit (fin_exit_then (fin_exit_then (fin_exit ?_)))
   obtain rfl := Option.some.inj b
   obtain rfl := r _ rfl
   have b : slices_Index_int_int_j1 = some i := t
   exact fj C () b 0 []
end Go.Proofs.Ytbfndcookgijfaa.P
