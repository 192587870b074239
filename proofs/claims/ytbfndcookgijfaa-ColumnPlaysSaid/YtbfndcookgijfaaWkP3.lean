/- The Go functions come to what the plain functions tell. No condition. -/
import Derived.Test.YtbfndcookgijfaaProg
import Derived.Test.YtbfndcookgijfaaFnP
import Derived.Test.YtbfndcookgijfaaExSq
import Derived.Test.YtbfndcookgijfaaExRf
import Derived.Test.YtbfndcookgijfaaExFlt
import Derived.Test.YtbfndcookgijfaaWkP1
import Derived.Test.YtbfndcookgijfaaExMap
namespace Go.Proofs.Ytbfndcookgijfaa.P
open Go Go.RowKit Go.Proofs.Ytbfndcookgijfaa.Sx
set_option linter.unusedVariables false
set_option maxHeartbeats 4000000
set_option maxRecDepth 100000
variable {w0 w : World} {cs : List Chunk} {F : Nat → Prop} {W : World}
def tourref3_Model_Drop__t0 : List Row := [⟨0, 8388608, 1⟩, ⟨1, 16777216, 8388608⟩, ⟨2, 33554432, 16777216⟩, ⟨4, 67108864, 33554432⟩, ⟨0, 134217728, 64⟩, ⟨24, 268435456, 201326592⟩, ⟨32, 536870912, 268435456⟩, ⟨0, 1073741824, 1⟩, ⟨128, 2147483648, 1073741824⟩, ⟨256, 4294967296, 2147483648⟩, ⟨512, 8589934592, 4294967296⟩, ⟨0, 17179869184, 64⟩, ⟨3072, 34359738368, 25769803776⟩, ⟨4160, 68719476736, 34359738368⟩, ⟨8319, 128, 536870912⟩, ⟨32767, 256, 68719476736⟩]
def tourref3_Model_Drop__t1 : List Row := [⟨0, 1099511627776, 128⟩, ⟨0, 2199023255552, 32⟩, ⟨0, 4398046511104, 256⟩, ⟨0, 8796093022208, 32⟩, ⟨0, 17592186044416, 1⟩, ⟨16, 35184372088832, 17592186044416⟩, ⟨32, 70368744177664, 35184372088832⟩, ⟨64, 140737488355328, 70368744177664⟩, ⟨0, 281474976710656, 64⟩, ⟨384, 562949953421312, 422212465065984⟩, ⟨512, 1125899906842624, 562949953421312⟩, ⟨0, 2251799813685248, 1⟩, ⟨2048, 4503599627370496, 2251799813685248⟩, ⟨4096, 9007199254740992, 4503599627370496⟩, ⟨8192, 18014398509481984, 9007199254740992⟩, ⟨0, 36028797018963968, 64⟩, ⟨49152, 72057594037927936, 54043195528445952⟩, ⟨65536, 144115188075855872, 72057594037927936⟩, ⟨149491, 288230376151711744, 3298534883328⟩, ⟨411635, 0, 289356276058554368⟩, ⟨1048575, 576460752303423488, 13194139533312⟩, ⟨2097151, 0, 720575940379279360⟩]
theorem tourref3_Model_Drop_ok {k : Nat} {g : Option Addr} {i : Nat} {j : List Int} {ah : List Value} {a : Option Addr} {c : Nat} {m : List Int} {A : List Value} {n : Int} (ei : Mem w0 (.blk k [sl g j i, sl a m c] 28 :: ow g j i 3 1 ah :: ow a m c 3 1 A :: Fz F W :: cs) w) (a2 : RepL (Rep.int .i64) F W j ah) (a3 : RepL (Rep.int .i64) F W m A) {bo : Int} {a5 : List Int} {a6 : List Int} (x : tourref3_Model_Drop j m n = some (bo, a5, a6)) : Calls Try.prog 9 #[vP k 0, vI n] w (Post w0 (fun ((bk, bm, bp, bl, bn, bq, a0, a1) : (Option Addr) × Nat × (List Value) × (Option Addr) × Nat × (List Value) × (Nat → Prop) × World) => (RepL (Rep.int .i64) a0 a1 a5 bp) ∧ (RepL (Rep.int .i64) a0 a1 a6 bq) ∧ (Ext w0 F W a0 a1)) (fun (bk, bm, bp, bl, bn, bq, a0, a1) => vI bo) (fun (bk, bm, bp, bl, bn, bq, a0, a1) => .blk k [sl bk a5 bm, sl bl a6 bn] 28 :: ow bk a5 bm 3 1 bp :: ow bl a6 bn 3 1 bq :: Fz a0 a1 :: cs)) := by
 unfold tourref3_Model_Drop at x
 refine sx_calls Try.func9 rfl (n := 68) (by kernel_rfl) (l := [(0, vP k 0), (1, vI n)]) rfl (by rfl) ei ?_
 refine st_seq (st_region [oF 0] (by rfl) ?_)
 refine oq [oF 0] [(0, vP k 0), (1, vI n)] ?_
 refine ops_nil (fin_then (st_seq ?_))
 refine st_region (oFs 0 7) (by rfl) ?_
 refine oq (oFs 0 3) [(11, vP k 0), (0, vP k 0), (1, vI n)] ?_
 refine oM 12 0 0 ?_
 refine oq [oF 4] [(13, vI n), (12, sl g j i), (0, vP k 0)] ?_
 obtain ⟨U, ek, x⟩ := obind x
 refine ops_callI (σ := Unit) (d := some 14) (f := 19) (args := #[sl g j i, vI n]) (v := (fun _ => vI U)) (I := (fun _ => True)) (M' := (fun _ => Mem w0 (.blk k [sl g j i, sl a m c] 28 :: ow g j i 3 1 ah :: ow a m c 3 1 A :: Fz F W :: cs))) ⟨by kernel_rfl⟩ (fun s q hS => (@slices_Index_int_int_ok s s [] (fun b => b < s.heap.size) s g i j n (Mem.fz0 s) (q.ordS 1 3 rfl rfl a2 rfl rfl) U ek).mono (by rintro e w' ⟨_, -, rfl, h'⟩; have h' : Mem s [] w' := h'.pick 1 [] (by kernel_rfl) (by decide) rfl; exact ⟨(), trivial, rfl, q.join h' rfl, trivial⟩)) ?_
 rintro _ -
 refine oq [oF 6] [(5, vI U), (0, vP k 0)] ?_
 refine ops_nil (fin_then (st_seq (st_seq (st_region [oF 0, oF 1] (by rfl) ?_))))
 refine oq [oF 0, oF 1] [(16, .bool (decide (U < 0))), (5, vI U), (0, vP k 0)] ?_
 refine ops_nil (fin_then ?_)
 refine sif x (fun ej x => ?_) (fun ej x => ?_)
 ·
  refine st_seq (st_region [oF 0] (by rfl) ?_)
  refine oq [oF 0] [(4, vI 4)] ?_
  refine ops_nil (fin_then (st_ret (fin_ret_then ?_)))
  obtain ⟨rfl, rfl, rfl⟩ := si3 x
  exact fr [4] (g, i, ah, a, c, A, F, W) ⟨a2, a3, (Ext.refl _ _ _)⟩ 0 []
 ·
  refine st_skip (fin_then (st_seq ?_))
  refine st_region (oFs 0 7) (by rfl) ?_
  refine oq (oFs 0 3) [(19, vP k 0), (5, vI U), (0, vP k 0)] ?_
  refine oM 20 0 0 ?_
  refine oq (oFs 4 3) [(6, vI (IntKind.i64.wrap ((j.length : Int) - 1))), (5, vI U), (0, vP k 0)] ?_
  refine ops_nil (fin_then ?_)
  refine st_join1 (σ := (Option Addr) × Nat × (List Int) × (List Value) × (Option Addr) × Nat × (List Int) × (List Value) × (Nat → Prop) × World) (L := fun o => match o with | (A6, V, l8, y9, y, r, u, bc, D, E) => [(0, vP k 0), (5, vI U), (6, vI (IntKind.i64.wrap ((j.length : Int) - 1))), (7, sl A6 l8 V), (8, sl y u r)]) (N := fun o => match o with | (A6, V, l8, y9, y, r, u, bc, D, E) => Mem w0 (.blk k [sl g j i, sl a m c] 28 :: ow A6 l8 V 3 1 y9 :: ow y u r 3 1 bc :: Fz D E :: cs)) (I := fun o => match o with | (A6, V, l8, y9, y, r, u, bc, D, E) => ((tourref3_Model_Drop_j1 U j m) l8 u = some (bo, a5, a6)) ∧ (RdS (Rep.int .i64) D E g i j) ∧ (RdS (Rep.int .i64) D E a c m) ∧ (RepL (Rep.int .i64) D E l8 y9) ∧ (RepL (Rep.int .i64) D E u bc) ∧ (Ext w0 F W D E)) ?_ ?_
  ·
   rintro ⟨A6, V, l8, y9, y, r, u, bc, D, E⟩ ⟨x, h4, h5, cj, ck, el⟩
   unfold tourref3_Model_Drop_j1 at x
   refine st_join1 (σ := (List Int) × (List Value) × (List Int) × (List Value)) (L := fun o => match o with | (be, bw, a8, bx) => [(0, vP k 0), (7, sl A6 be V), (8, sl y a8 r)]) (N := fun o => match o with | (be, bw, a8, bx) => Mem w0 (.blk k [sl g j i, sl a m c] 28 :: ow A6 be V 3 1 bw :: ow y a8 r 3 1 bx :: Fz D E :: cs)) (I := fun o => match o with | (be, bw, a8, bx) => (tourref3_Model_Drop_j2 be a8 = some (bo, a5, a6)) ∧ (RepL (Rep.int .i64) D E be bw) ∧ (RepL (Rep.int .i64) D E a8 bx)) ?_ ?_
   ·
    rintro ⟨be, bw, a8, bx⟩ ⟨x, ee, ef⟩
    unfold tourref3_Model_Drop_j2 at x
    refine st_seq ?_
    refine st_region (oFs 0 10) (by rfl) ?_
    refine oq (oFs 0 6) [(65, vP k 0), (63, sl y a8 r), (62, sl A6 be V), (61, vP k 0)] ?_
    refine oS 0 0 [sl A6 be V] ?_
    refine oq [oF 7, oF 8] [(67, vP k 1), (63, sl y a8 r)] ?_
    refine oS 0 1 [sl y a8 r] ?_
    refine ops_nil (fin_then (st_seq (st_region [oF 0] (by rfl) ?_)))
    refine oq [oF 0] [(4, vI 0)] ?_
    refine ops_nil (fin_then (st_ret ?_))
    obtain ⟨rfl, rfl, rfl⟩ := si3 x
    exact fr [4] (A6, V, bw, y, r, bx, D, E) ⟨ee, ef, el⟩ 0 []
   ·
    intro dn
    refine st_seq (st_seq ?_)
    refine st_region (oFs 0 3) (by rfl) ?_
    refine oq (oFs 0 3) [(39, .bool (decide (U < IntKind.i64.wrap ((j.length : Int) - 1)))), (0, vP k 0), (5, vI U), (6, vI (IntKind.i64.wrap ((j.length : Int) - 1))), (7, sl A6 l8 V), (8, sl y u r)] ?_
    refine ops_nil (fin_then ?_)
    refine sif x (fun dw x => ?_) (fun dw x => ?_)
    ·
     refine st_region_fast tourref3_Model_Drop__t1 [oT 0, oT 1, oT 2, oT 3, oT 4, oT 5, oT 6, oT 7, oT 8, oT 9, oT 10, oT 11, oT 12, oT 13, oT 14, oT 15, oT 16, oT 17, oT 18, oF 19, oT 20, oF 21] (Mem w0 (.blk k [sl g j i, sl a m c] 28 :: Fz D E :: cs)) (by kernel_rfl) (by kernel_rfl) (by kernel_rfl) (by kernel_rfl) (by kernel_rfl) (fun _ d _ _ _ h => by cases d <;> exact h) (M' := Mem w0 (.blk k [sl g j i, sl a m c] 28 :: ow A6 l8 V 3 1 y9 :: ow y u r 3 1 bc :: Fz D E :: cs)) (fun s q => ⟨q.drew, q.drew.sub (.cons_cons _ (.cons _ (.cons _ (.cons_cons _ (.refl _)))))⟩) ?_
     refine oq (oTs 0 7) [(46, vP k 0), (43, vI U), (42, sl y u r), (41, vI U), (40, sl A6 l8 V), (0, vP k 0), (6, vI (IntKind.i64.wrap ((j.length : Int) - 1))), (7, sl A6 l8 V), (8, sl y u r)] ?_
     refine oL 47 0 0 ?_
     refine oq [oT 8] [(48, vI (IntKind.i64.wrap ((j.length : Int) - 1))), (47, sl g j i), (43, vI U), (42, sl y u r), (41, vI U), (40, sl A6 l8 V), (0, vP k 0), (6, vI (IntKind.i64.wrap ((j.length : Int) - 1))), (7, sl A6 l8 V), (8, sl y u r)] ?_
     obtain ⟨ba, d3, x⟩ := obind x
     obtain ⟨dp, dz, da⟩ := idx_some d3
     have dx := (List.getElem?_eq_some_iff.1 da).1
     obtain ⟨ct, fb, du, hr31, d1⟩ := RdS.el h4 da
     obtain rfl := hr31
     refine ops_val (op := (.indexAddr 22 (.tmp 47) (.tmp 48))) (d := some 49) (v := .pointer (some (ct.add (dp * 1)))) ⟨by kernel_rfl⟩ (run_indexA du Try.underlying22 (z := 1) (by kernel_rfl) rfl rfl dz dx) ?_
     refine ops_load (d := some 50) (an := [.v (vI ba)]) (evs := [.load (ct.add (dp * 1)) (vI ba)]) (v := vI ba) ⟨by kernel_rfl⟩ (fun s q => ⟨q.elcell 1 rfl d1 0 rfl, rfl⟩) ?_
     refine oq (oTs 11 3) [(53, vP k 1), (50, vI ba), (43, vI U), (42, sl y u r), (41, vI U), (40, sl A6 l8 V), (0, vP k 0), (6, vI (IntKind.i64.wrap ((j.length : Int) - 1))), (7, sl A6 l8 V), (8, sl y u r)] ?_
     refine oL 54 0 1 ?_
     refine oq [oT 15] [(55, vI (IntKind.i64.wrap ((j.length : Int) - 1))), (54, sl a m c), (50, vI ba), (43, vI U), (42, sl y u r), (41, vI U), (40, sl A6 l8 V), (0, vP k 0), (7, sl A6 l8 V), (8, sl y u r)] ?_
     obtain ⟨bb, d4, x⟩ := obind x
     obtain ⟨dq, d0, db⟩ := idx_some d4
     have dy := (List.getElem?_eq_some_iff.1 db).1
     obtain ⟨cu, fc, dv, hr42, d2⟩ := RdS.el h5 db
     obtain rfl := hr42
     refine ops_val (op := (.indexAddr 22 (.tmp 54) (.tmp 55))) (d := some 56) (v := .pointer (some (cu.add (dq * 1)))) ⟨by kernel_rfl⟩ (run_indexA dv Try.underlying22 (z := 1) (by kernel_rfl) rfl rfl d0 dy) ?_
     refine ops_load (d := some 57) (an := [.v (vI bb)]) (evs := [.load (cu.add (dq * 1)) (vI bb)]) (v := vI bb) ⟨by kernel_rfl⟩ (fun s q => ⟨q.elcell 1 rfl d2 0 rfl, rfl⟩) ?_
     obtain ⟨eo, d5, x⟩ := obind x
     obtain ⟨bf, c6, dc⟩ := idx_some d5
     have c2 := (List.getElem?_eq_some_iff.1 dc).1
     refine ops_fact (fun s q => q.orowSome 1 rfl (Nat.lt_of_le_of_lt (Nat.zero_le _) c2)) ?_
     rintro ⟨a7, rfl, -⟩
     obtain ⟨fd, hr53, e4⟩ := cj.at_ bf eo dc
     obtain rfl := hr53
     refine ops_val (op := (.indexAddr 22 (.tmp 40) (.tmp 41))) (d := some 58) (v := vP a7 (bf * 1)) ⟨by kernel_rfl⟩ (run_indexRow Try.underlying22 (z := 1) (by kernel_rfl) rfl rfl c6 c2 rfl) ?_
     refine oq [] [(58, vP a7 (bf * 1)), (57, vI bb), (50, vI ba), (43, vI U), (42, sl y u r), (0, vP k 0), (7, sl (sa a7) l8 V), (8, sl y u r)] ?_
     obtain ⟨bj, d6, x⟩ := obind x
     obtain ⟨em, e2, c3, c0⟩ := upd_some d6
     obtain rfl : bf = em := by have := c6; omega
     have ch : l8.length = bj.length := by rw [c0, List.length_set]
     obtain ⟨cq, de⟩ : ∃ y_, setAll y9 (bf * 1 + 0) [vI ba] = y_ := ⟨_, rfl⟩
     have eg : RepL (Rep.int .i64) D E bj cq := by rw [c0, ← de]; exact RepL.set cj (List.getElem?_eq_getElem c3) (fun vs_ hr_ _ => by obtain rfl := hr_; exact ⟨rfl, Nat.le_of_ble_eq_true rfl⟩)
     refine ops_store (an := []) (evs := [.store ⟨a7, bf * 1, none⟩ (vI ba)]) ⟨by kernel_rfl⟩ (fun s q hS => let ⟨w', he, h'⟩ := q.ostore' 1 rfl (bf * 1 + 0) [vI ba] (by have z_ : y9.length = l8.length * 1 := cj.len; have y_ : (bf + 1) * 1 ≤ l8.length * 1 := Nat.mul_le_mul_right _ c3; rw [Nat.add_mul] at y_; simp only [List.length_cons, List.length_nil]; omega) ch de; ⟨w', he, h', (by exact h'.sub (.cons_cons _ (.cons _ (.cons _ (.cons_cons _ (.refl _))))))⟩) ?_
     refine ops_conv (l' := [(58, vP a7 (bf * 1)), (57, vI bb), (50, vI ba), (43, vI U), (42, sl y u r), (0, vP k 0), (7, sl (sa a7) bj V), (8, sl y u r)]) (M' := Mem w0 (.blk k [sl g j i, sl a m c] 28 :: ow (sa a7) bj V 3 1 cq :: ow y u r 3 1 bc :: Fz D E :: cs)) (by first | rfl | ((try dsimp only [sl, ow]); rw [ch])) (fun s q => by first | exact q | ((try dsimp only [sl, ow] at q ⊢); rw [ch] at q; exact q)) ?_
     obtain ⟨ep, d7, x⟩ := obind x
     obtain ⟨bg, c8, dd⟩ := idx_some d7
     have c4 := (List.getElem?_eq_some_iff.1 dd).1
     refine ops_fact (fun s q => q.orowSome 2 rfl (Nat.lt_of_le_of_lt (Nat.zero_le _) c4)) ?_
     rintro ⟨br, rfl, -⟩
     obtain ⟨fe, hr74, e5⟩ := ck.at_ bg ep dd
     obtain rfl := hr74
     refine ops_val (op := (.indexAddr 22 (.tmp 42) (.tmp 43))) (d := some 59) (v := vP br (bg * 1)) ⟨by kernel_rfl⟩ (run_indexRow Try.underlying22 (z := 1) (by kernel_rfl) rfl rfl c8 c4 rfl) ?_
     refine oq [] [(59, vP br (bg * 1)), (57, vI bb), (0, vP k 0), (7, sl (sa a7) bj V), (8, sl (sa br) u r)] ?_
     obtain ⟨b5, d8, x⟩ := obind x
     obtain ⟨en, e3, c5, c1⟩ := upd_some d8
     obtain rfl : bg = en := by have := c8; omega
     have ci : u.length = b5.length := by rw [c1, List.length_set]
     obtain ⟨dg, df⟩ : ∃ y_, setAll bc (bg * 1 + 0) [vI bb] = y_ := ⟨_, rfl⟩
     have eh : RepL (Rep.int .i64) D E b5 dg := by rw [c1, ← df]; exact RepL.set ck (List.getElem?_eq_getElem c5) (fun vs_ hr_ _ => by obtain rfl := hr_; exact ⟨rfl, Nat.le_of_ble_eq_true rfl⟩)
     refine ops_store (an := []) (evs := [.store ⟨br, bg * 1, none⟩ (vI bb)]) ⟨by kernel_rfl⟩ (fun s q hS => let ⟨w', he, h'⟩ := q.ostore' 2 rfl (bg * 1 + 0) [vI bb] (by have z_ : bc.length = u.length * 1 := ck.len; have y_ : (bg + 1) * 1 ≤ u.length * 1 := Nat.mul_le_mul_right _ c5; rw [Nat.add_mul] at y_; simp only [List.length_cons, List.length_nil]; omega) ci df; ⟨w', he, h', (by exact h'.sub (.cons_cons _ (.cons _ (.cons _ (.cons_cons _ (.refl _))))))⟩) ?_
     refine ops_conv (l' := [(59, vP br (bg * 1)), (57, vI bb), (0, vP k 0), (7, sl (sa a7) bj V), (8, sl (sa br) b5 r)]) (M' := Mem w0 (.blk k [sl g j i, sl a m c] 28 :: ow (sa a7) bj V 3 1 cq :: ow (sa br) b5 r 3 1 dg :: Fz D E :: cs)) (by first | rfl | ((try dsimp only [sl, ow]); rw [ci])) (fun s q => by first | exact q | ((try dsimp only [sl, ow] at q ⊢); rw [ci] at q; exact q)) ?_
     refine ops_nil ?_
     exact fj dn (bj, cq, b5, dg) ⟨x, eg, eh⟩ 0 []
    ·
     refine st_skip ?_
     exact fj dn (l8, y9, u, bc) ⟨x, cj, ck⟩ 0 []
  ·
   intro cr
   refine st_seq ?_
   obtain ⟨a9, c9, x⟩ := obind x
   obtain ⟨p, b0, x⟩ := obind x
   obtain ⟨ab, b1, x⟩ := obind x
   obtain ⟨t, b2, x⟩ := obind x
   refine st_region_treeF tourref3_Model_Drop__t0 16 (.node [oT 0, oT 1, oT 2, oT 3, oT 4, oT 7, oT 8, oT 9, oT 10, oT 11] (.node [oF 5] (.leaf [oF 6, oF 12, oF 13, oT 14, oT 15]) (.leaf [oF 12, oF 6, oF 13, oT 14, oT 15])) (.leaf [oF 12, oF 5, oF 6, oF 13, oT 14, oT 15])) (Mem w0 (.blk k [sl g j i, sl a m c] 28 :: Fz F W :: cs)) (by kernel_rfl) (by kernel_rfl) (by kernel_rfl) (by kernel_rfl) (by kernel_rfl) (fun _ d _ _ _ h => by cases d <;> exact h) (M' := Mem w0 (.blk k [sl g j i, sl a m c] 28 :: ow g j i 3 1 ah :: ow a m c 3 1 A :: Fz F W :: cs)) (fun s q => ⟨q.drew, q.drew.sub (.cons_cons _ (.cons _ (.cons _ (.cons_cons _ (.refl _)))))⟩) ?_
   refine tree_node ?_
   refine oq (oTs 0 3) [(25, vP k 0), (6, vI (IntKind.i64.wrap ((j.length : Int) - 1))), (5, vI U), (0, vP k 0)] ?_
   refine oL 26 0 0 ?_
   refine oq [oT 4, oT 7, oT 8, oT 9] [(32, vP k 1), (27, vI (IntKind.i64.wrap ((j.length : Int) - 1))), (26, sl g j i), (6, vI (IntKind.i64.wrap ((j.length : Int) - 1))), (5, vI U), (0, vP k 0)] ?_
   refine oL 33 0 1 ?_
   refine oq [oT 11] [(34, vI (IntKind.i64.wrap ((j.length : Int) - 1))), (33, sl a m c), (27, vI (IntKind.i64.wrap ((j.length : Int) - 1))), (26, sl g j i), (6, vI (IntKind.i64.wrap ((j.length : Int) - 1))), (5, vI U), (0, vP k 0)] ?_
   refine ops_nil ?_
   refine tree_both ?_ ?_
   ·
    refine tree_node ?_
    refine ops_ex (σ := (Nat → Prop) × World) (I := fun o => Ext w0 F W o.1 o.2 ∧ RdS (Rep.int .i64) o.1 o.2 g i j) (M' := fun o => Mem w0 (.blk k [sl g j i, sl a m c] 28 :: ow a m c 3 1 A :: Fz o.1 o.2 :: cs)) (fun s q => ?_) ?_
    · obtain ⟨F_, h1_, h2_, h3_⟩ := (q.pick 4 [1, 3, 0, 2] (by kernel_rfl) (by decide) rfl : Mem w0 (ow g j i 3 1 ah :: Fz F W :: .blk k [sl g j i, sl a m c] 28 :: ow a m c 3 1 A :: cs) s).freeze (z := 1) a2 rfl rfl
      exact ⟨(F_, s), ⟨h1_, h2_⟩, h3_.pick 3 [1, 2, 0] (by kernel_rfl) (by decide) rfl⟩
    rintro ⟨K, M⟩ ⟨ae, aq⟩
    have ae : Ext w0 F W K M := ae
    have aq : RdS (Rep.int .i64) K M g i j := aq
    have a3 := a3.ext ae
    obtain ⟨d9, e6, ev, dh, cv, b6, cl⟩ := cut_some c9
    have eq := cut_len cl cv b6
    have bz : RdS (Rep.int .i64) K M g i a9 := by have h_ := aq.cut cv b6; rw [← cl] at h_; rw [show d9 = 0 by omega, cutA_zero, Nat.sub_zero] at h_; exact h_
    refine ops_val (op := (.slice 22 (.tmp 26) none (some (.tmp 27)) none)) (d := some 28) (v := sl g a9 i) ⟨by kernel_rfl⟩ (run_cutH0 (by kernel_rfl) (z := 1) (by kernel_rfl) rfl rfl dh (Nat.le_trans b6 aq.cap) (by omega)) ?_
    refine ops_nil ?_
    refine tree_both ?_ ?_
    ·
     refine tree_leaf ?_
     refine ops_callI (σ := (Option Addr) × Nat × (List Value)) (d := some 29) (f := 20) (args := #[sl g a9 i]) (v := (fun o => match o with | (B, C, G) => sl B p C)) (I := (fun o => match o with | (B, C, G) => (RepL (Rep.int .i64) K M p G))) (M' := (fun o => match o with | (B, C, G) => Mem w0 (ow B p C 3 1 G :: .blk k [sl g j i, sl a m c] 28 :: ow a m c 3 1 A :: Fz K M :: cs))) ⟨by kernel_rfl⟩ (fun s q hS => (@slices_Clone_int_int_ok w0 s (.blk k [sl g j i, sl a m c] 28 :: ow a m c 3 1 A :: cs) K M g i a9 (q.pick 3 [2, 0, 1] (by kernel_rfl) (by decide) rfl) bz p b0).mono (by rintro e w' ⟨⟨B, C, G⟩, bs, rfl, h'⟩; have h' : Mem w0 (ow B p C 3 1 G :: .blk k [sl g j i, sl a m c] 28 :: ow a m c 3 1 A :: Fz K M :: cs) w' := (h'.pick 4 [0, 2, 3, 1] (by kernel_rfl) (by decide) rfl); exact ⟨(B, C, G), bs, rfl, h', (by first | exact (Mem.fzback h' 3 rfl ae).sub (.cons _ (.cons_cons _ (.cons _ (.cons_cons _ (.refl _))))))⟩)) ?_
     rintro ⟨B, C, G⟩ bs
     refine ops_ex (σ := (Nat → Prop) × World) (I := fun o => Ext w0 K M o.1 o.2 ∧ RdS (Rep.int .i64) o.1 o.2 a c m) (M' := fun o => Mem w0 (ow B p C 3 1 G :: .blk k [sl g j i, sl a m c] 28 :: Fz o.1 o.2 :: cs)) (fun s q => ?_) ?_
     · obtain ⟨F_, h1_, h2_, h3_⟩ := (q.pick 4 [2, 3, 0, 1] (by kernel_rfl) (by decide) rfl : Mem w0 (ow a m c 3 1 A :: Fz K M :: ow B p C 3 1 G :: .blk k [sl g j i, sl a m c] 28 :: cs) s).freeze (z := 1) a3 rfl rfl
       exact ⟨(F_, s), ⟨h1_, h2_⟩, h3_.pick 3 [1, 2, 0] (by kernel_rfl) (by decide) rfl⟩
     rintro ⟨ay, az⟩ ⟨au, bt⟩
     have au : Ext w0 K M ay az := au
     have bt : RdS (Rep.int .i64) ay az a c m := bt
     have bs := bs.ext au
     have aq := aq.ext au
     obtain ⟨ea, e7, ew, di, cw, b7, cm⟩ := cut_some b1
     have er := cut_len cm cw b7
     have dr : RdS (Rep.int .i64) ay az a c ab := by have h_ := bt.cut cw b7; rw [← cm] at h_; rw [show ea = 0 by omega, cutA_zero, Nat.sub_zero] at h_; exact h_
     refine ops_val (op := (.slice 22 (.tmp 33) none (some (.tmp 34)) none)) (d := some 35) (v := sl a ab c) ⟨by kernel_rfl⟩ (run_cutH0 (by kernel_rfl) (z := 1) (by kernel_rfl) rfl rfl di (Nat.le_trans b7 bt.cap) (by omega)) ?_
     refine ops_callI (σ := (Option Addr) × Nat × (List Value)) (d := some 36) (f := 20) (args := #[sl a ab c]) (v := (fun o => match o with | (aj, am, av) => sl aj t am)) (I := (fun o => match o with | (aj, am, av) => (RepL (Rep.int .i64) ay az t av))) (M' := (fun o => match o with | (aj, am, av) => Mem w0 (ow aj t am 3 1 av :: ow B p C 3 1 G :: .blk k [sl g j i, sl a m c] 28 :: Fz ay az :: cs))) ⟨by kernel_rfl⟩ (fun s q hS => (@slices_Clone_int_int_ok w0 s (ow B p C 3 1 G :: .blk k [sl g j i, sl a m c] 28 :: cs) ay az a c ab (q.pick 3 [2, 0, 1] (by kernel_rfl) (by decide) rfl) dr t b2).mono (by rintro e w' ⟨⟨aj, am, av⟩, b8, rfl, h'⟩; have h' : Mem w0 (ow aj t am 3 1 av :: ow B p C 3 1 G :: .blk k [sl g j i, sl a m c] 28 :: Fz ay az :: cs) w' := (h'.pick 4 [0, 2, 3, 1] (by kernel_rfl) (by decide) rfl); exact ⟨(aj, am, av), b8, rfl, h', (by first | exact (Mem.fzback h' 3 rfl au).sub (.cons _ (.cons _ (.cons_cons _ (.cons_cons _ (.refl _))))) | exact (Mem.fzback h' 3 rfl (ae.trans au)).sub (.cons _ (.cons _ (.cons_cons _ (.cons_cons _ (.refl _))))))⟩)) ?_
     rintro ⟨aj, am, av⟩ b8
     refine oq [oT 14, oT 15] [(8, sl aj t am), (7, sl B p C), (6, vI (IntKind.i64.wrap ((j.length : Int) - 1))), (5, vI U), (0, vP k 0)] ?_
     refine ops_nil ?_
     exact fj cr (B, C, p, G, aj, am, t, av, ay, az) ⟨x, aq, bt, bs, b8, (ae.trans au)⟩ 4 [2, 1, 0, 3]
    ·
     refine tree_leaf ?_
     refine ops_ex (σ := (Nat → Prop) × World) (I := fun o => Ext w0 K M o.1 o.2 ∧ RdS (Rep.int .i64) o.1 o.2 a c m) (M' := fun o => Mem w0 (.blk k [sl g j i, sl a m c] 28 :: Fz o.1 o.2 :: cs)) (fun s q => ?_) ?_
     · obtain ⟨F_, h1_, h2_, h3_⟩ := (q.pick 3 [1, 2, 0] (by kernel_rfl) (by decide) rfl : Mem w0 (ow a m c 3 1 A :: Fz K M :: .blk k [sl g j i, sl a m c] 28 :: cs) s).freeze (z := 1) a3 rfl rfl
       exact ⟨(F_, s), ⟨h1_, h2_⟩, h3_.pick 2 [1, 0] (by kernel_rfl) (by decide) rfl⟩
     rintro ⟨X, Z⟩ ⟨af, bu⟩
     have af : Ext w0 K M X Z := af
     have bu : RdS (Rep.int .i64) X Z a c m := bu
     have bz := bz.ext af
     have aq := aq.ext af
     obtain ⟨eb, e8, ex, dj, cx, b9, cn⟩ := cut_some b1
     have es := cut_len cn cx b9
     have ds : RdS (Rep.int .i64) X Z a c ab := by have h_ := bu.cut cx b9; rw [← cn] at h_; rw [show eb = 0 by omega, cutA_zero, Nat.sub_zero] at h_; exact h_
     refine ops_val (op := (.slice 22 (.tmp 33) none (some (.tmp 34)) none)) (d := some 35) (v := sl a ab c) ⟨by kernel_rfl⟩ (run_cutH0 (by kernel_rfl) (z := 1) (by kernel_rfl) rfl rfl dj (Nat.le_trans b9 bu.cap) (by omega)) ?_
     refine ops_callI (σ := (Option Addr) × Nat × (List Value)) (d := some 29) (f := 20) (args := #[sl g a9 i]) (v := (fun o => match o with | (H, O, ac) => sl H p O)) (I := (fun o => match o with | (H, O, ac) => (RepL (Rep.int .i64) X Z p ac))) (M' := (fun o => match o with | (H, O, ac) => Mem w0 (ow H p O 3 1 ac :: .blk k [sl g j i, sl a m c] 28 :: Fz X Z :: cs))) ⟨by kernel_rfl⟩ (fun s q hS => (@slices_Clone_int_int_ok w0 s (.blk k [sl g j i, sl a m c] 28 :: cs) X Z g i a9 (q.pick 2 [1, 0] (by kernel_rfl) (by decide) rfl) bz p b0).mono (by rintro e w' ⟨⟨H, O, ac⟩, ca, rfl, h'⟩; have h' : Mem w0 (ow H p O 3 1 ac :: .blk k [sl g j i, sl a m c] 28 :: Fz X Z :: cs) w' := (h'.pick 3 [0, 2, 1] (by kernel_rfl) (by decide) rfl); exact ⟨(H, O, ac), ca, rfl, h', (by first | exact (Mem.fzback h' 2 rfl af).sub (.cons _ (.cons_cons _ (.cons_cons _ (.refl _)))) | exact (Mem.fzback h' 2 rfl (ae.trans af)).sub (.cons _ (.cons_cons _ (.cons_cons _ (.refl _)))))⟩)) ?_
     rintro ⟨H, O, ac⟩ ca
     refine ops_callI (σ := (Option Addr) × Nat × (List Value)) (d := some 36) (f := 20) (args := #[sl a ab c]) (v := (fun o => match o with | (ak, ao, aw) => sl ak t ao)) (I := (fun o => match o with | (ak, ao, aw) => (RepL (Rep.int .i64) X Z t aw))) (M' := (fun o => match o with | (ak, ao, aw) => Mem w0 (ow ak t ao 3 1 aw :: ow H p O 3 1 ac :: .blk k [sl g j i, sl a m c] 28 :: Fz X Z :: cs))) ⟨by kernel_rfl⟩ (fun s q hS => (@slices_Clone_int_int_ok w0 s (ow H p O 3 1 ac :: .blk k [sl g j i, sl a m c] 28 :: cs) X Z a c ab (q.pick 3 [2, 0, 1] (by kernel_rfl) (by decide) rfl) ds t b2).mono (by rintro e w' ⟨⟨ak, ao, aw⟩, cb, rfl, h'⟩; have h' : Mem w0 (ow ak t ao 3 1 aw :: ow H p O 3 1 ac :: .blk k [sl g j i, sl a m c] 28 :: Fz X Z :: cs) w' := (h'.pick 4 [0, 2, 3, 1] (by kernel_rfl) (by decide) rfl); exact ⟨(ak, ao, aw), cb, rfl, h', (by first | exact (Mem.fzback h' 3 rfl af).sub (.cons _ (.cons _ (.cons_cons _ (.cons_cons _ (.refl _))))) | exact (Mem.fzback h' 3 rfl (ae.trans af)).sub (.cons _ (.cons _ (.cons_cons _ (.cons_cons _ (.refl _))))))⟩)) ?_
     rintro ⟨ak, ao, aw⟩ cb
     refine oq [oT 14, oT 15] [(8, sl ak t ao), (7, sl H p O), (6, vI (IntKind.i64.wrap ((j.length : Int) - 1))), (5, vI U), (0, vP k 0)] ?_
     refine ops_nil ?_
     exact fj cr (H, O, p, ac, ak, ao, t, aw, X, Z) ⟨x, aq, bu, ca, cb, (ae.trans af)⟩ 4 [2, 1, 0, 3]
   ·
    refine tree_leaf ?_
    refine ops_ex (σ := (Nat → Prop) × World) (I := fun o => Ext w0 F W o.1 o.2 ∧ RdS (Rep.int .i64) o.1 o.2 a c m) (M' := fun o => Mem w0 (.blk k [sl g j i, sl a m c] 28 :: ow g j i 3 1 ah :: Fz o.1 o.2 :: cs)) (fun s q => ?_) ?_
    · obtain ⟨F_, h1_, h2_, h3_⟩ := (q.pick 4 [2, 3, 0, 1] (by kernel_rfl) (by decide) rfl : Mem w0 (ow a m c 3 1 A :: Fz F W :: .blk k [sl g j i, sl a m c] 28 :: ow g j i 3 1 ah :: cs) s).freeze (z := 1) a3 rfl rfl
      exact ⟨(F_, s), ⟨h1_, h2_⟩, h3_.pick 3 [1, 2, 0] (by kernel_rfl) (by decide) rfl⟩
    rintro ⟨bh, bi⟩ ⟨a4, bd⟩
    have a4 : Ext w0 F W bh bi := a4
    have bd : RdS (Rep.int .i64) bh bi a c m := bd
    have a2 := a2.ext a4
    obtain ⟨ec, e9, ey, dk, cy, cc, co⟩ := cut_some b1
    have et := cut_len co cy cc
    have cd : RdS (Rep.int .i64) bh bi a c ab := by have h_ := bd.cut cy cc; rw [← co] at h_; rw [show ec = 0 by omega, cutA_zero, Nat.sub_zero] at h_; exact h_
    refine ops_val (op := (.slice 22 (.tmp 33) none (some (.tmp 34)) none)) (d := some 35) (v := sl a ab c) ⟨by kernel_rfl⟩ (run_cutH0 (by kernel_rfl) (z := 1) (by kernel_rfl) rfl rfl dk (Nat.le_trans cc bd.cap) (by omega)) ?_
    refine ops_ex (σ := (Nat → Prop) × World) (I := fun o => Ext w0 bh bi o.1 o.2 ∧ RdS (Rep.int .i64) o.1 o.2 g i j) (M' := fun o => Mem w0 (.blk k [sl g j i, sl a m c] 28 :: Fz o.1 o.2 :: cs)) (fun s q => ?_) ?_
    · obtain ⟨F_, h1_, h2_, h3_⟩ := (q.pick 3 [1, 2, 0] (by kernel_rfl) (by decide) rfl : Mem w0 (ow g j i 3 1 ah :: Fz bh bi :: .blk k [sl g j i, sl a m c] 28 :: cs) s).freeze (z := 1) a2 rfl rfl
      exact ⟨(F_, s), ⟨h1_, h2_⟩, h3_.pick 2 [1, 0] (by kernel_rfl) (by decide) rfl⟩
    rintro ⟨Y, aa⟩ ⟨ag, bv⟩
    have ag : Ext w0 bh bi Y aa := ag
    have bv : RdS (Rep.int .i64) Y aa g i j := bv
    have cd := cd.ext ag
    have bd := bd.ext ag
    obtain ⟨ed, fa, ez, dl, cz, ce, cp⟩ := cut_some c9
    have eu := cut_len cp cz ce
    have dt : RdS (Rep.int .i64) Y aa g i a9 := by have h_ := bv.cut cz ce; rw [← cp] at h_; rw [show ed = 0 by omega, cutA_zero, Nat.sub_zero] at h_; exact h_
    refine ops_val (op := (.slice 22 (.tmp 26) none (some (.tmp 27)) none)) (d := some 28) (v := sl g a9 i) ⟨by kernel_rfl⟩ (run_cutH0 (by kernel_rfl) (z := 1) (by kernel_rfl) rfl rfl dl (Nat.le_trans ce bv.cap) (by omega)) ?_
    refine ops_callI (σ := (Option Addr) × Nat × (List Value)) (d := some 29) (f := 20) (args := #[sl g a9 i]) (v := (fun o => match o with | (J, T, ad) => sl J p T)) (I := (fun o => match o with | (J, T, ad) => (RepL (Rep.int .i64) Y aa p ad))) (M' := (fun o => match o with | (J, T, ad) => Mem w0 (ow J p T 3 1 ad :: .blk k [sl g j i, sl a m c] 28 :: Fz Y aa :: cs))) ⟨by kernel_rfl⟩ (fun s q hS => (@slices_Clone_int_int_ok w0 s (.blk k [sl g j i, sl a m c] 28 :: cs) Y aa g i a9 (q.pick 2 [1, 0] (by kernel_rfl) (by decide) rfl) dt p b0).mono (by rintro e w' ⟨⟨J, T, ad⟩, cf, rfl, h'⟩; have h' : Mem w0 (ow J p T 3 1 ad :: .blk k [sl g j i, sl a m c] 28 :: Fz Y aa :: cs) w' := (h'.pick 3 [0, 2, 1] (by kernel_rfl) (by decide) rfl); exact ⟨(J, T, ad), cf, rfl, h', (by first | exact (Mem.fzback h' 2 rfl ag).sub (.cons _ (.cons_cons _ (.cons_cons _ (.refl _)))) | exact (Mem.fzback h' 2 rfl (a4.trans ag)).sub (.cons _ (.cons_cons _ (.cons_cons _ (.refl _)))))⟩)) ?_
    rintro ⟨J, T, ad⟩ cf
    refine ops_callI (σ := (Option Addr) × Nat × (List Value)) (d := some 36) (f := 20) (args := #[sl a ab c]) (v := (fun o => match o with | (al, ap, ax) => sl al t ap)) (I := (fun o => match o with | (al, ap, ax) => (RepL (Rep.int .i64) Y aa t ax))) (M' := (fun o => match o with | (al, ap, ax) => Mem w0 (ow al t ap 3 1 ax :: ow J p T 3 1 ad :: .blk k [sl g j i, sl a m c] 28 :: Fz Y aa :: cs))) ⟨by kernel_rfl⟩ (fun s q hS => (@slices_Clone_int_int_ok w0 s (ow J p T 3 1 ad :: .blk k [sl g j i, sl a m c] 28 :: cs) Y aa a c ab (q.pick 3 [2, 0, 1] (by kernel_rfl) (by decide) rfl) cd t b2).mono (by rintro e w' ⟨⟨al, ap, ax⟩, cg, rfl, h'⟩; have h' : Mem w0 (ow al t ap 3 1 ax :: ow J p T 3 1 ad :: .blk k [sl g j i, sl a m c] 28 :: Fz Y aa :: cs) w' := (h'.pick 4 [0, 2, 3, 1] (by kernel_rfl) (by decide) rfl); exact ⟨(al, ap, ax), cg, rfl, h', (by first | exact (Mem.fzback h' 3 rfl ag).sub (.cons _ (.cons _ (.cons_cons _ (.cons_cons _ (.refl _))))) | exact (Mem.fzback h' 3 rfl (a4.trans ag)).sub (.cons _ (.cons _ (.cons_cons _ (.cons_cons _ (.refl _))))))⟩)) ?_
    rintro ⟨al, ap, ax⟩ cg
    refine oq [oT 14, oT 15] [(8, sl al t ap), (7, sl J p T), (6, vI (IntKind.i64.wrap ((j.length : Int) - 1))), (5, vI U), (0, vP k 0)] ?_
    refine ops_nil ?_
    exact fj cr (J, T, p, ad, al, ap, t, ax, Y, aa) ⟨x, bv, bd, cf, cg, (a4.trans ag)⟩ 4 [2, 1, 0, 3]
theorem slices_Values_int_int_ok {b : Option Addr} {c : Nat} {s : List Int} (g : Mem w0 (Fz F W :: cs) w) (i : RdS (Rep.int .i64) F W b c s) (j : slices_Values_int_int s = some ()) : Calls Try.prog 22 #[sl b s c] w (Post w0 (fun (a : Nat) => (RdS (Rep.int .i64) F W b c s)) (fun a => .func (.func 31) #[] #[vP a 0]) (fun a => .blk a [sl b s c] 22 :: Fz F W :: cs)) := by
 unfold slices_Values_int_int at j
 refine sx_calls Try.func22 rfl (n := 4) (by kernel_rfl) (l := [(0, sl b s c)]) rfl (by rfl) g ?_
 refine st_seq (st_region [oF 0, oF 1] (by rfl) ?_)
 refine oN 1 [sl b s c] 22 (fun d => ?_)
 refine oq [oF 1] [(1, vP d 0)] ?_
 refine ops_nil (fin_then (st_seq (st_region [oF 0, oF 1] (by rfl) ?_)))
 refine oq [oF 0, oF 1] [(2, .func (.func 31) #[] #[vP d 0])] ?_
 refine ops_nil (fin_then (st_ret ?_))
 exact fr [2] d i 0 []
theorem slices_AppendSeq_int_int_ok {M : Option Addr} {O : Nat} {s : List Int} {ah : List Value} {f : Nat} {b : Option Addr} {c : Nat} {a : List Int} (a1 : Mem w0 (ow M s O 3 1 ah :: .blk f [sl b a c] 22 :: Fz F W :: cs) w) (a2 : RepL (Rep.int .i64) F W s ah) (u : RdS (Rep.int .i64) F W b c a) {o : List Int} (k : slices_AppendSeq_int_int s a = some o) : Calls Try.prog 33 #[sl M s O, .func (.func 31) #[] #[vP f 0]] w (Post w0 (fun ((C, D, E) : (Option Addr) × Nat × (List Value)) => (RepL (Rep.int .i64) F W o E) ∧ (RdS (Rep.int .i64) F W b c a)) (fun (C, D, E) => sl C o D) (fun (C, D, E) => ow C o D 3 1 E :: .blk f [sl b a c] 22 :: Fz F W :: cs)) := by
 unfold slices_AppendSeq_int_int at k
 refine sx_callsM Try.func33 rfl (n := 13) (by kernel_rfl) (l := [(0, sl M s O), (1, .func (.func 31) #[] #[vP f 0])]) rfl (by rfl) a1 ?_
 refine st_seq (st_region [oF 0, oF 1] (by rfl) ?_)
 refine oN 2 [sl M s O] 22 (fun H => ?_)
 refine oq [oF 1] [(4, .slice none 0 0), (2, vP H 0), (1, .func (.func 31) #[] #[vP f 0])] ?_
 refine ops_nil (fin_then ?_)
 refine st_joinN1 (σ := (Option Addr) × Nat × (List Int) × (List Value) × Nat) (nn := fun U => match U with | (G, J, B, T, X) => ⟨13, [markOf X]⟩) (L := fun U => match U with | (G, J, B, T, X) => [(2, vP H 0)]) (N := fun U => match U with | (G, J, B, T, X) => Mem w0 (.blk H [sl G B J] 22 :: ow G B J 3 1 T :: .blk f [sl b a c] 22 :: .obj X (.deferred (some [])) :: Fz F W :: cs)) (I := fun U => match U with | (G, J, B, T, X) => (slices_AppendSeq_int_int_j1 B = some o) ∧ (RepL (Rep.int .i64) F W B T)) ?_ ?_
 ·
  rintro ⟨G, J, B, T, X⟩ ⟨k, h6⟩
  unfold slices_AppendSeq_int_int_j1 at k
  refine st_seq (st_region [oF 0, oF 1] (by rfl) ?_)
  refine oM 12 0 0 ?_
  refine oq [oF 1] [(4, sl G B J)] ?_
  refine ops_nil (fin_then (st_ret ?_))
  refine fin_outs rfl ?_
  refine outs_mark 3 rfl ?_
  refine outs_conv (M' := Mem w0 (.blk H [sl G B J] 22 :: ow G B J 3 1 T :: .blk f [sl b a c] 22 :: Fz F W :: cs)) (fun _ h => h) ?_
  obtain rfl := Option.some.inj k
  refine outs_nil [.tmp 4] [sl G B J] rfl (fun Z K => (.tmp rfl .nil)) (fun Z K => ?_)
  exact ⟨(G, J, T), ⟨h6, u⟩, rfl, K.pick 4 [1, 2, 3] (by kernel_rfl) (by decide) rfl⟩
 ·
  intro az
  refine st_seq (st_seq (st_region [oF 0] (by rfl) ?_))
  refine oq [oF 0] [(6, .func (.func 31) #[] #[vP f 0]), (4, .slice none 0 0), (2, vP H 0)] ?_
  refine ops_nil (fin_then (st_block ?_))
  refine st_keep (l' := [(6, .func (.func 31) #[] #[vP f 0]), (4, .slice none 0 0), (2, vP H 0)]) [6, 4, 2] (by kernel_rfl) ?_
  refine st_rangeFunc (tg := 6) (caps := #[vP f 0]) (nf := 16) (lf := fun L_ => [(0, yv L_), (1, vP f 0)]) rfl Try.func31 rfl (by kernel_rfl) (by kernel_rfl) (fun L_ => by kernel_rfl) (fun _ => rfl) ?_
  intro Y a_rf10 b8 q rc_rf10 hrc_rf10 hk_rf10
  refine st_seq ?_
  refine st_region (oFs 0 3) (by rfl) ?_
  refine oM 5 4 0 ?_
  refine oq [oF 1, oF 2] [(7, vI 0), (6, vI (a.length : Int)), (5, sl b a c), (0, yv q)] ?_
  refine ops_nil (fin_then (st_block ?_))
  obtain ⟨r2, a5, a4⟩ := obind k
  refine lp (σ := Int × (List Int)) (ρ := (List Int)) (γ := (Option Addr) × Nat × (List Value)) a5 (M, O, ah) (fun s_ Y => match s_, Y with | (i, j), (p, r, A) => [(0, yv q), (5, sl b a c), (6, vI (a.length : Int)), (7, vI i)]) (fun s_ Y => match s_, Y with | (i, j), (p, r, A) => Mem w0 (.blk f [sl b a c] 22 :: .blk H [sl p j r] 22 :: ow p j r 3 1 A :: .obj q (rc_rf10 .ready none) :: .obj b8 (.deferred (some [])) :: Fz F W :: cs)) (fun s_ Y => match s_, Y with | (i, j), (p, r, A) => (RepL (Rep.int .i64) F W j A)) a2 6 [4, 2, 3, 0, 1, 5] ?_
  rintro ⟨i, j⟩ ⟨p, r, A⟩ o2 ak hs_ a3
  have k : (slices_AppendSeq_int_int_l2 a) i j = some o2 := hs_
  clear hs_
  unfold slices_AppendSeq_int_int_l2 at k
  refine st_seq (st_region [oF 0] (by rfl) ?_)
  refine oq [oF 0] [(8, .bool (decide (i < (a.length : Int)))), (0, yv q), (5, sl b a c), (6, vI (a.length : Int)), (7, vI i)] ?_
  refine ops_nil (fin_then (st_seq ?_))
  refine sif k (fun aq k => ?_) (fun aq k => ?_)
  ·
   refine st_skip (fin_then (st_seq (st_block (st_seq ?_))))
   refine st_region (oFs 0 3) (by rfl) ?_
   obtain ⟨g, aw, k⟩ := obind k
   obtain ⟨al, au, ad⟩ := idx_some aw
   have ar := (List.getElem?_eq_some_iff.1 ad).1
   obtain ⟨aa, a9, ao, hr24, av⟩ := RdS.el u ad
   obtain rfl := hr24
   refine ops_val (op := (.indexAddr 22 (.tmp 5) (.tmp 7))) (d := some 9) (v := .pointer (some (aa.add (al * 1)))) ⟨by kernel_rfl⟩ (run_indexA ao Try.underlying22 (z := 1) (by kernel_rfl) rfl rfl au ar) ?_
   refine ops_mem (d := some 10) (an := [.v (vI g)]) (evs := [.load (aa.add (al * 1)) (vI g)]) (v := vI g) ⟨by kernel_rfl⟩ (fun Z K hS => ⟨Z, ⟨K.elcell 5 rfl av 0 rfl, rfl⟩, K, trivial⟩) ?_
   refine oq [oF 2] [(4, vI g), (0, yv q), (5, sl b a c), (6, vI (a.length : Int)), (7, vI i)] ?_
   refine ops_nil (fin_then (st_seq ?_))
   refine st_region (oFs 0 4) (by rfl) ?_
   refine oq [oF 0, oF 1] [(12, vI g), (11, yv q), (0, yv q), (5, sl b a c), (6, vI (a.length : Int)), (7, vI i)] ?_
   refine oq [] [(12, vI g), (11, yv q), (0, yv q), (5, sl b a c), (6, vI (a.length : Int)), (7, vI i)] ?_
   refine ops_yield (cs := (.blk f [sl b a c] 22 :: .blk H [sl p j r] 22 :: ow p j r 3 1 A :: .obj q (rc_rf10 .ready none) :: .obj b8 (.deferred (some [])) :: Fz F W :: cs)) (d := some 13) (args := #[vI g]) (l := [(12, vI g), (11, yv q), (0, yv q), (5, sl b a c), (6, vI (a.length : Int)), (7, vI i)]) (lr := [(7, vI g), (6, .func (.func 31) #[] #[vP f 0]), (4, .slice none 0 0), (2, vP H 0)]) 3 rfl hrc_rf10 ⟨by kernel_rfl⟩ hk_rf10 (by kernel_rfl) (by kernel_rfl) ?_
   intro a_rd29 hk_rd29
   refine st_region [oF 0] (by rfl) ?_
   refine oq [oF 0] [(5, vI g), (2, vP H 0)] ?_
   refine ops_nil ?_
   refine fin_begin 3 rfl hrc_rf10 ?_
   refine st_block ?_
   refine st_region (oFs 0 5) (by rfl) ?_
   refine oM 8 1 0 ?_
   refine oq [oF 1] [(9, vI g), (8, sl p j r), (2, vP H 0)] ?_
   have ab : RepL (Rep.int .i64) F W ([g] : List Int) ([vI g]) := (RepL.cons (R := (Rep.int .i64)) (F := F) (w := W) (vs := [vI g]) (ys := []) rfl RepL.nil)
   refine oB 10 [vI g] 3 1 1 (fun ba => ?_)
   obtain ⟨V, ax, k⟩ := obind k
   obtain ⟨ac, ap⟩ := app_some ax
   obtain ⟨ag, ae⟩ : ∃ y_, A ++ ([vI g]) = y_ := ⟨_, rfl⟩
   have a0 : RepL (Rep.int .i64) F W V ag := by rw [ac, ← ae]; exact RepL.app ak ab
   refine ops_appendO (x := (Go.Operand.tmp 8)) (y := (Go.Operand.tmp 10)) (t := 22) (e := 3) (d := some 11) (n' := V.length) (z := 1) (m := ([g] : List Int).length) (bytes := 8) (xs' := ag) (news := ([vI g])) (zv := vI 0) 3 ⟨by kernel_rfl⟩ rfl rfl Try.underlying22 (by kernel_rfl) (by rfl) rfl (fun Z K => K.srcO 0 rfl) ab.len ab.one ap (by have z_ := congrArg List.length ac; rw [List.length_append] at z_; exact z_.symm) ae (fun _ _ _ _ hS h' => trivial) ?_
   rintro ⟨ai, aj⟩
   refine oS 2 0 [sl ai V aj] ?_
   refine ops_nil (fin_block ?_)
   refine fin_round_on 4 rfl hrc_rf10 hk_rd29 (by intro t_ h_; cases h_; decide) (fun Z h' => trivial) ?_
   refine oq [oF 3] [(14, .bool false), (0, yv q), (5, sl b a c), (6, vI (a.length : Int)), (7, vI i)] ?_
   refine ops_nil (fin_then (st_false rfl (st_skip (fin_block (fin_then (st_region [oF 0, oF 1] (by rfl) ?_))))))
   refine oq [oF 0, oF 1] [(7, vI (IntKind.i64.wrap (i + 1))), (0, yv q), (5, sl b a c), (6, vI (a.length : Int))] ?_
   refine ops_nil ?_
   exact fag (IntKind.i64.wrap (i + 1), V) (ai, aj, ag) (Option.some.inj k).symm a0 7 [1, 2, 3, 4, 5, 6]
  ·
   refine st_exit (fin_exit_then (fin_exit_then (fin_exit ?_)))
   refine fin_rf_on rfl rfl 3 rfl hrc_rf10 hk_rf10 ?_
   refine fin_block ?_
   obtain rfl := Option.some.inj k
   obtain rfl := a3 _ rfl
   have k : slices_AppendSeq_int_int_j1 j = some o := a4
   exact fin_joinN az (p, r, j, A, b8) rfl ⟨k, ak⟩ (look_has ⟨rfl, trivial⟩) (fun Z K => K.pick 5 [1, 2, 0, 3, 4] (by kernel_rfl) (by decide) rfl)
theorem slices_Collect_int_ok {a : Nat} {b : Option Addr} {c : Nat} {d : List Int} (q : Mem w0 (.blk a [sl b d c] 22 :: Fz F W :: cs) w) (k : RdS (Rep.int .i64) F W b c d) {i : List Int} (m : slices_Collect_int d = some i) : Calls Try.prog 29 #[.func (.func 31) #[] #[vP a 0]] w (Post w0 (fun ((f, g, j) : (Option Addr) × Nat × (List Value)) => (RepL (Rep.int .i64) F W i j) ∧ (RdS (Rep.int .i64) F W b c d)) (fun (f, g, j) => sl f i g) (fun (f, g, j) => ow f i g 3 1 j :: .blk a [sl b d c] 22 :: Fz F W :: cs)) := by
 unfold slices_Collect_int at m
 refine sx_calls Try.func29 rfl (n := 5) (by kernel_rfl) (l := [(0, .func (.func 31) #[] #[vP a 0])]) rfl (by rfl) q ?_
 refine st_seq (st_region [oF 0] (by rfl) ?_)
 refine oq [oF 0] [(0, .func (.func 31) #[] #[vP a 0])] ?_
 refine ops_nil (fin_then (st_seq ?_))
 refine st_region (oFs 0 3) (by rfl) ?_
 refine oq [oF 0] [(3, .func (.func 31) #[] #[vP a 0])] ?_
 refine onilr 3 1 ?_
 obtain ⟨v, r, m⟩ := obind m
 refine oV (some 4) 0 [] 0 [] (fun _ u => slices_AppendSeq_int_int_ok u (RepL.nil (R := (Rep.int .i64))) k r) ?_
 rintro ⟨o, p, x⟩ ⟨s, t⟩
 refine oq [oF 2] [(2, sl o v p)] ?_
 refine ops_nil (fin_then (st_ret ?_))
 obtain rfl := Option.some.inj m
 exact fr [2] (o, p, x) ⟨s, t⟩ 0 []
theorem math_bits_Len64_ok {x : Int} (y : Mem w0 (Fz F W :: cs) w) {f : Int} (b : math_bits_Len64 x = some f) : Calls Try.prog 46 #[vU x] w (Post w0 (fun (_ : Unit) => True) (fun _ => vI f) (fun _ => Fz F W :: cs)) := by
 unfold math_bits_Len64 at b
 refine sx_calls Try.func46 rfl (n := 25) (by kernel_rfl) (l := [(0, vU x)]) rfl (by rfl) y ?_
 refine st_seq (st_region [oF 0] (by rfl) ?_)
 refine oq [oF 0] [(2, vI 0), (0, vU x)] ?_
 refine ops_nil (fin_then ?_)
 refine st_join1 (σ := Int × Int) (L := fun c => match c with | (g, j) => [(0, vU g), (2, vI j)]) (N := fun c => match c with | (g, j) => Mem w0 (Fz F W :: cs)) (I := fun c => match c with | (g, j) => (math_bits_Len64_j1 g j = some f)) ?_ ?_
 ·
  rintro ⟨g, j⟩ b
  unfold math_bits_Len64_j1 at b
  refine st_join1 (σ := Int × Int) (L := fun c => match c with | (i, k) => [(0, vU i), (2, vI k)]) (N := fun c => match c with | (i, k) => Mem w0 (Fz F W :: cs)) (I := fun c => match c with | (i, k) => (math_bits_Len64_j2 i k = some f)) ?_ ?_
  ·
   rintro ⟨i, k⟩ b
   unfold math_bits_Len64_j2 at b
   refine st_join1 (σ := Int × Int) (L := fun c => match c with | (o, m) => [(0, vU o), (2, vI m)]) (N := fun c => match c with | (o, m) => Mem w0 (Fz F W :: cs)) (I := fun c => match c with | (o, m) => (math_bits_Len64_j3 o m = some f)) ?_ ?_
   ·
    rintro ⟨o, m⟩ b
    unfold math_bits_Len64_j3 at b
    refine st_seq ?_
    refine st_region (oFs 0 7) (by rfl) ?_
    refine oq (oFs 0 3) [(21, .int .u8 (IntKind.u8.wrap o)), (19, vI m), (2, vI m)] ?_
    obtain ⟨B, A, b⟩ := obind b
    refine ops_val (op := (.index 9 (.const (Go.Value.string { data := #[0, 1, 2, 2, 3, 3, 3, 3, 4, 4, 4, 4, 4, 4, 4, 4, 5, 5, 5, 5, 5, 5, 5, 5, 5, 5, 5, 5, 5, 5, 5, 5, 6, 6, 6, 6, 6, 6, 6, 6, 6, 6, 6, 6, 6, 6, 6, 6, 6, 6, 6, 6, 6, 6, 6, 6, 6, 6, 6, 6, 6, 6, 6, 6, 7, 7, 7, 7, 7, 7, 7, 7, 7, 7, 7, 7, 7, 7, 7, 7, 7, 7, 7, 7, 7, 7, 7, 7, 7, 7, 7, 7, 7, 7, 7, 7, 7, 7, 7, 7, 7, 7, 7, 7, 7, 7, 7, 7, 7, 7, 7, 7, 7, 7, 7, 7, 7, 7, 7, 7, 7, 7, 7, 7, 7, 7, 7, 7, 8, 8, 8, 8, 8, 8, 8, 8, 8, 8, 8, 8, 8, 8, 8, 8, 8, 8, 8, 8, 8, 8, 8, 8, 8, 8, 8, 8, 8, 8, 8, 8, 8, 8, 8, 8, 8, 8, 8, 8, 8, 8, 8, 8, 8, 8, 8, 8, 8, 8, 8, 8, 8, 8, 8, 8, 8, 8, 8, 8, 8, 8, 8, 8, 8, 8, 8, 8, 8, 8, 8, 8, 8, 8, 8, 8, 8, 8, 8, 8, 8, 8, 8, 8, 8, 8, 8, 8, 8, 8, 8, 8, 8, 8, 8, 8, 8, 8, 8, 8, 8, 8, 8, 8, 8, 8, 8, 8, 8, 8, 8, 8, 8, 8, 8, 8, 8, 8, 8, 8, 8, 8, 8, 8, 8, 8, 8, 8] })) (.tmp 21))) (d := some 22) (v := .int .u8 B) ⟨by kernel_rfl⟩ (run_strIdx Try.underlying9 rfl rfl A) ?_
    refine oq (oFs 4 3) [(2, vI (IntKind.i64.wrap (m + IntKind.i64.wrap B)))] ?_
    refine ops_nil (fin_then (st_ret ?_))
    obtain rfl := Option.some.inj b
    exact fr [2] () trivial 0 []
   ·
    intro s
    refine st_seq (st_seq (st_region [oF 0, oF 1] (by rfl) ?_))
    refine oq [oF 0, oF 1] [(14, .bool (decide (256 ≤ i))), (0, vU i), (2, vI k)] ?_
    refine ops_nil (fin_then ?_)
    refine sif b (fun z b => ?_) (fun z b => ?_)
    ·
     refine st_seq ?_
     refine st_region (oFs 0 3) (by rfl) ?_
     refine oq (oFs 0 3) [(0, vU (Int.fdiv i 256)), (2, vI k)] ?_
     refine ops_nil (fin_then ?_)
     refine st_region (oFs 0 3) (by rfl) ?_
     refine oq (oFs 0 3) [(2, vI (IntKind.i64.wrap (k + 8))), (0, vU (Int.fdiv i 256))] ?_
     refine ops_nil ?_
     exact fj s (Int.fdiv i 256, IntKind.i64.wrap (k + 8)) b 0 []
    ·
     refine st_skip ?_
     exact fj s (i, k) b 0 []
  ·
   intro r
   refine st_seq (st_seq (st_region [oF 0, oF 1] (by rfl) ?_))
   refine oq [oF 0, oF 1] [(8, .bool (decide (65536 ≤ g))), (0, vU g), (2, vI j)] ?_
   refine ops_nil (fin_then ?_)
   refine sif b (fun t b => ?_) (fun t b => ?_)
   ·
    refine st_seq ?_
    refine st_region (oFs 0 3) (by rfl) ?_
    refine oq (oFs 0 3) [(0, vU (Int.fdiv g 65536)), (2, vI j)] ?_
    refine ops_nil (fin_then ?_)
    refine st_region (oFs 0 3) (by rfl) ?_
    refine oq (oFs 0 3) [(2, vI (IntKind.i64.wrap (j + 16))), (0, vU (Int.fdiv g 65536))] ?_
    refine ops_nil ?_
    exact fj r (Int.fdiv g 65536, IntKind.i64.wrap (j + 16)) b 0 []
   ·
    refine st_skip ?_
    exact fj r (g, j) b 0 []
 ·
  intro q
  refine st_seq (st_seq (st_region [oF 0, oF 1] (by rfl) ?_))
  refine oq [oF 0, oF 1] [(4, .bool (decide (4294967296 ≤ x))), (2, vI 0), (0, vU x)] ?_
  refine ops_nil (fin_then ?_)
  refine sif b (fun u b => ?_) (fun u b => ?_)
  ·
   refine st_seq ?_
   refine st_region (oFs 0 3) (by rfl) ?_
   refine oq (oFs 0 3) [(0, vU (Int.fdiv x 4294967296))] ?_
   refine ops_nil (fin_then (st_region [oF 0] (by rfl) ?_))
   refine oq [oF 0] [(2, vI 32), (0, vU (Int.fdiv x 4294967296))] ?_
   refine ops_nil ?_
   exact fj q (Int.fdiv x 4294967296, 32) b 0 []
  ·
   refine st_skip ?_
   exact fj q (x, 0) b 0 []
theorem math_bits_Len_ok {x : Int} (d : Mem w0 (Fz F W :: cs) w) {b : Int} (c : math_bits_Len x = some b) : Calls Try.prog 35 #[vU x] w (Post w0 (fun (_ : Unit) => True) (fun _ => vI b) (fun _ => Fz F W :: cs)) := by
 unfold math_bits_Len at c
 refine sx_calls Try.func35 rfl (n := 8) (by kernel_rfl) (l := [(0, vU x)]) rfl (by rfl) d ?_
 refine st_seq (st_region [oF 0] (by rfl) ?_)
 refine oq [oF 0] [(0, vU x)] ?_
 refine ops_nil (fin_then (st_seq ?_))
 refine st_falseC ?_
 refine st_skip (fin_then (st_seq ?_))
 refine st_region (oFs 0 3) (by rfl) ?_
 refine oq [oF 0] [(6, vU x)] ?_
 obtain ⟨j, f, c⟩ := obind c
 refine oV (some 7) 0 [] 0 [] (fun _ i => math_bits_Len64_ok i f) ?_
 rintro _ -
 refine oq [oF 2] [(2, vI j)] ?_
 refine ops_nil (fin_then (st_ret ?_))
 obtain rfl := Option.some.inj c
 exact fr [2] () trivial 0 []
theorem cmp_isNaN_int_ok {x : Int} (c : Mem w0 (Fz F W :: cs) w) (f : cmp_isNaN_int x = some ()) : Calls Try.prog 52 #[vI x] w (Post w0 (fun (_ : Unit) => True) (fun _ => .bool false) (fun _ => Fz F W :: cs)) := by
 unfold cmp_isNaN_int at f
 refine sx_calls Try.func52 rfl (n := 6) (by kernel_rfl) (l := [(0, vI x)]) rfl (by rfl) c ?_
 refine st_seq (st_region [oF 0] (by rfl) ?_)
 refine oq [oF 0] [(0, vI x)] ?_
 refine ops_nil (fin_then (st_seq ?_))
 refine st_region (oFs 0 4) (by rfl) ?_
 refine oq [oF 0, oF 1] [(4, vI x), (3, vI x)] ?_
 refine ops_val (op := (.binOp Go.BinOp.neq 3 (.tmp 3) (.tmp 4) 3)) (d := some 5) (v := .bool false) ⟨by kernel_rfl⟩ (run_neq_same rfl rfl) ?_
 refine oq [oF 3] [(2, .bool false)] ?_
 refine ops_nil (fin_then (st_ret ?_))
 exact fr [2] () trivial 0 []
theorem cmp_Less_int_ok {x : Int} {y : Int} (g : Mem w0 (Fz F W :: cs) w) {b : Bool} (c : cmp_Less_int x y = some b) : Calls Try.prog 42 #[vI x, vI y] w (Post w0 (fun (_ : Unit) => True) (fun _ => .bool b) (fun _ => Fz F W :: cs)) := by
 unfold cmp_Less_int at c
 refine sx_calls Try.func42 rfl (n := 17) (by kernel_rfl) (l := [(0, vI x), (1, vI y)]) rfl (by rfl) g ?_
 refine st_seq (st_region [oF 0] (by rfl) ?_)
 refine oq [oF 0] [(0, vI x), (1, vI y)] ?_
 refine ops_nil (fin_then (st_seq ?_))
 refine st_region (oFs 0 13) (by rfl) ?_
 refine oq [oF 0] [(5, vI x), (0, vI x), (1, vI y)] ?_
 obtain ⟨_, i, c⟩ := obind c
 refine oV (some 6) 0 [] 0 [] (fun _ j => cmp_isNaN_int_ok j i) ?_
 rintro _ -
 refine oq (oFs 2 11) [(4, .bool (decide (x < y)))] ?_
 refine ops_nil (fin_then (st_ret ?_))
 obtain rfl := Option.some.inj c
 exact fr [4] () trivial 0 []
def slices_insertionSortOrdered_int__t0 : List Row := [⟨0, 65536, 128⟩, ⟨0, 131072, 2⟩, ⟨3, 262144, 196608⟩, ⟨4, 524288, 262144⟩, ⟨8, 1048576, 524289⟩, ⟨8, 2097152, 524416⟩, ⟨56, 4194304, 3670016⟩, ⟨72, 8388608, 4718592⟩, ⟨8, 16777216, 524289⟩, ⟨8, 33554432, 524416⟩, ⟨520, 67108864, 34078720⟩, ⟨1288, 134217728, 84410368⟩, ⟨2056, 268435456, 134742016⟩, ⟨4232, 536870912, 277348352⟩, ⟨8200, 1073741824, 537395200⟩]
def slices_insertionSortOrdered_int__t1 : List Row := [⟨0, 8589934592, 1⟩, ⟨0, 17179869184, 128⟩, ⟨0, 34359738368, 1⟩, ⟨0, 68719476736, 128⟩, ⟨8, 137438953472, 68719476736⟩, ⟨0, 274877906944, 1⟩, ⟨0, 549755813888, 128⟩, ⟨64, 1099511627776, 549755813888⟩, ⟨160, 2199023255552, 1374389534720⟩, ⟨256, 4398046511104, 2199023255552⟩, ⟨0, 8796093022208, 1⟩, ⟨0, 17592186044416, 128⟩, ⟨3072, 35184372088832, 26388279066624⟩, ⟨4096, 70368744177664, 35184372088832⟩, ⟨9187, 140737488355328, 25769803776⟩, ⟨25571, 0, 145135534866432⟩, ⟨65535, 281474976710656, 171798691840⟩, ⟨131071, 0, 351843720888320⟩]
theorem slices_insertionSortOrdered_int_ok {j : Option Addr} {c : Nat} {u : List Int} {ad : List Value} {a : Int} {b : Int} (cy : Mem w0 (ow j u c 3 1 ad :: Fz F W :: cs) w) (bh : RepL (Rep.int .i64) F W u ad) {K : List Int} (o : slices_insertionSortOrdered_int u a b = some K) : Calls Try.prog 36 #[sl j u c, vI a, vI b] w (Post w0 (fun (X : List Value) => (RepL (Rep.int .i64) F W K X) ∧ (K.length = u.length)) (fun X => .tuple #[]) (fun X => ow j K c 3 1 X :: Fz F W :: cs)) := by
 unfold slices_insertionSortOrdered_int at o
 refine sx_calls Try.func36 rfl (n := 49) (by kernel_rfl) (l := [(0, sl j u c), (1, vI a), (2, vI b)]) rfl (by rfl) cy ?_
 refine st_seq ?_
 refine st_region (oFs 0 3) (by rfl) ?_
 refine oq (oFs 0 3) [(6, vI (IntKind.i64.wrap (a + 1))), (0, sl j u c), (1, vI a), (2, vI b)] ?_
 refine ops_nil (fin_then (st_block ?_))
 obtain ⟨r1, c2, c1⟩ := obind o
 refine lp (σ := (List Int) × Int) (ρ := (List Int)) (γ := (List Value)) c2 ad (fun s_ Y => match s_, Y with | (Z, p), y2 => [(0, sl j Z c), (1, vI a), (2, vI b), (6, vI p)]) (fun s_ Y => match s_, Y with | (Z, p), y2 => Mem w0 (ow j Z c 3 1 y2 :: Fz F W :: cs)) (fun s_ Y => match s_, Y with | (Z, p), y2 => (RepL (Rep.int .i64) F W Z y2) ∧ (Z.length = u.length)) ⟨bh, rfl⟩ 0 [] ?_
 rintro ⟨Z, p⟩ y2 o1 ⟨h3, b6⟩ hs_ c0
 have o : (slices_insertionSortOrdered_int_l1 b a) Z p = some o1 := hs_
 clear hs_
 unfold slices_insertionSortOrdered_int_l1 at o
 refine st_seq (st_seq ?_)
 refine st_region (oFs 0 3) (by rfl) ?_
 refine oq (oFs 0 3) [(12, .bool (decide (p < b))), (0, sl j Z c), (1, vI a), (2, vI b), (6, vI p)] ?_
 refine ops_nil (fin_then ?_)
 refine sif o (fun cz o => ?_) (fun cz o => ?_)
 ·
  refine st_skip (fin_then ?_)
  refine st_join1 (σ := (List Int) × (List Value)) (L := fun x_ => match x_ with | (l7, y8) => [(0, sl j l7 c), (1, vI a), (2, vI b), (6, vI p)]) (N := fun x_ => match x_ with | (l7, y8) => Mem w0 (ow j l7 c 3 1 y8 :: Fz F W :: cs)) (I := fun x_ => match x_ with | (l7, y8) => ((slices_insertionSortOrdered_int_j2 p) l7 = some o1) ∧ (RepL (Rep.int .i64) F W l7 y8) ∧ (l7.length = u.length)) ?_ ?_
  ·
   rintro ⟨l7, y8⟩ ⟨o, h9, cd⟩
   unfold slices_insertionSortOrdered_int_j2 at o
   refine st_region (oFs 0 3) (by rfl) ?_
   refine oq (oFs 0 3) [(6, vI (IntKind.i64.wrap (p + 1))), (0, sl j l7 c), (1, vI a), (2, vI b)] ?_
   refine ops_nil ?_
   exact fag (l7, IntKind.i64.wrap (p + 1)) y8 (Option.some.inj o).symm ⟨h9, cd⟩ 0 []
  ·
   intro b2
   refine st_seq (st_block (st_seq (st_region [oF 0, oF 1] (by rfl) ?_)))
   refine oq [oF 0, oF 1] [(7, vI p), (0, sl j Z c), (1, vI a), (2, vI b), (6, vI p)] ?_
   refine ops_nil (fin_then (st_block ?_))
   obtain ⟨r3, c3, b5⟩ := obind o
   refine lp (σ := (List Int) × Int) (ρ := (List Int)) (γ := (List Value)) c3 y2 (fun s_ Y => match s_, Y with | (i, k), t => [(0, sl j i c), (1, vI a), (2, vI b), (6, vI p), (7, vI k)]) (fun s_ Y => match s_, Y with | (i, k), t => Mem w0 (ow j i c 3 1 t :: Fz F W :: cs)) (fun s_ Y => match s_, Y with | (i, k), t => (RepL (Rep.int .i64) F W i t) ∧ (i.length = u.length)) ⟨h3, b6⟩ 0 [] ?_
   rintro ⟨i, k⟩ t o3 ⟨D, ah⟩ hs_ b4
   have o : (slices_insertionSortOrdered_int_l3 a) i k = some o3 := hs_
   clear hs_
   unfold slices_insertionSortOrdered_int_l3 at o
   refine st_seq (st_seq ?_)
   refine st_region_fast slices_insertionSortOrdered_int__t0 [oT 0, oT 1, oT 2, oT 3, oT 4, oT 5, oT 6, oT 7, oT 8, oT 9, oT 10, oT 11, oT 12, oF 13, oT 14] (Mem w0 (ow j i c 3 1 t :: Fz F W :: cs)) (by kernel_rfl) (by kernel_rfl) (by kernel_rfl) (by kernel_rfl) (by kernel_rfl) (fun _ d _ _ _ h => by cases d <;> exact h) (M' := Mem w0 (ow j i c 3 1 t :: Fz F W :: cs)) (fun x m => ⟨m.drew, m.drew.sub (.cons_cons _ (.cons_cons _ (.refl _)))⟩) ?_
   refine oq (oTs 0 4) [(19, .bool (decide (a < k))), (0, sl j i c), (1, vI a), (2, vI b), (6, vI p), (7, vI k)] ?_
   refine ob o [19] (fun cb o => ?_) (fun cb o => ?_)
   ·
    refine oq [oT 4, oT 5] [(21, vI k), (20, sl j i c), (19, .bool true), (0, sl j i c), (1, vI a), (2, vI b), (6, vI p), (7, vI k)] ?_
    obtain ⟨ab, cm, o⟩ := obind o
    obtain ⟨br, ch, bo⟩ := idx_some cm
    have bi := (List.getElem?_eq_some_iff.1 bo).1
    refine ops_fact (fun x m => m.orowSome 0 rfl (Nat.lt_of_le_of_lt (Nat.zero_le _) bi)) ?_
    rintro ⟨g, rfl, -⟩
    obtain ⟨dj, hr23, ck⟩ := D.at_ br ab bo
    obtain rfl := hr23
    refine ops_val (op := (.indexAddr 22 (.tmp 20) (.tmp 21))) (d := some 22) (v := vP g (br * 1)) ⟨by kernel_rfl⟩ (run_indexRow Try.underlying22 (z := 1) (by kernel_rfl) rfl rfl ch bi rfl) ?_
    refine ops_load (d := some 23) (an := [.v (vI ab)]) (evs := [.load ⟨g, br * 1, none⟩ (vI ab)]) (v := vI ab) ⟨by kernel_rfl⟩ (fun x m => ⟨m.ocell 0 rfl (ck 0 _ rfl), rfl⟩) ?_
    refine oq (oTs 8 3) [(26, vI (IntKind.i64.wrap (k - 1))), (24, sl (sa g) i c), (23, vI ab), (19, .bool true), (0, sl (sa g) i c), (1, vI a), (2, vI b), (6, vI p), (7, vI k)] ?_
    obtain ⟨af, cn, o⟩ := obind o
    obtain ⟨bs, ci, bp⟩ := idx_some cn
    have ce := (List.getElem?_eq_some_iff.1 bp).1
    obtain ⟨dk, hr33, cl⟩ := D.at_ bs af bp
    obtain rfl := hr33
    refine ops_val (op := (.indexAddr 22 (.tmp 24) (.tmp 26))) (d := some 27) (v := vP g (bs * 1)) ⟨by kernel_rfl⟩ (run_indexRow Try.underlying22 (z := 1) (by kernel_rfl) rfl rfl ci ce rfl) ?_
    refine ops_load (d := some 28) (an := [.v (vI af)]) (evs := [.load ⟨g, bs * 1, none⟩ (vI af)]) (v := vI af) ⟨by kernel_rfl⟩ (fun x m => ⟨m.ocell 0 rfl (cl 0 _ rfl), rfl⟩) ?_
    obtain ⟨bt, co, o⟩ := obind o
    refine ops_callI (σ := Unit) (d := some 29) (f := 42) (args := #[vI ab, vI af]) (v := (fun _ => .bool bt)) (I := (fun _ => True)) (M' := (fun _ => Mem w0 (ow (sa g) i c 3 1 t :: Fz F W :: cs))) ⟨by kernel_rfl⟩ (fun x m M => (@cmp_Less_int_ok w0 x (ow (sa g) i c 3 1 t :: cs) F W ab af (m.pick 2 [1, 0] (by kernel_rfl) (by decide) rfl)  bt co).mono (by rintro e w' ⟨_, -, rfl, h'⟩; have h' : Mem w0 (ow (sa g) i c 3 1 t :: Fz F W :: cs) w' := (h'.pick 2 [1, 0] (by kernel_rfl) (by decide) rfl); exact ⟨(), trivial, rfl, h', (by exact h'.sub (.cons_cons _ (.cons_cons _ (.refl _))))⟩)) ?_
    rintro _ -
    refine oq [oT 14] [(30, .bool bt), (0, sl (sa g) i c), (1, vI a), (2, vI b), (6, vI p), (7, vI k)] ?_
    refine ops_nil (fin_then ?_)
    refine sif o (fun cc o => ?_) (fun cc o => ?_)
    ·
     refine st_skip (fin_then ?_)
     refine st_join1 (σ := (List Int) × (List Value)) (L := fun x_ => match x_ with | (E, ag) => [(0, sl (sa g) E c), (1, vI a), (2, vI b), (6, vI p), (7, vI k)]) (N := fun x_ => match x_ with | (E, ag) => Mem w0 (ow (sa g) E c 3 1 ag :: Fz F W :: cs)) (I := fun x_ => match x_ with | (E, ag) => ((slices_insertionSortOrdered_int_j4 k) E = some o3) ∧ (RepL (Rep.int .i64) F W E ag) ∧ (E.length = u.length)) ?_ ?_
     ·
      rintro ⟨E, ag⟩ ⟨o, cx, cf⟩
      unfold slices_insertionSortOrdered_int_j4 at o
      refine st_region (oFs 0 3) (by rfl) ?_
      refine oq (oFs 0 3) [(7, vI (IntKind.i64.wrap (k - 1))), (0, sl (sa g) E c), (1, vI a), (2, vI b), (6, vI p)] ?_
      refine ops_nil ?_
      exact fag (E, IntKind.i64.wrap (k - 1)) ag (Option.some.inj o).symm ⟨cx, cf⟩ 0 []
     ·
      intro b3
      refine st_seq (st_block ?_)
      obtain ⟨s, cp, o⟩ := obind o
      obtain ⟨q, cq, o⟩ := obind o
      obtain ⟨b7, bk, o⟩ := obind o
      obtain ⟨r, bl, o⟩ := obind o
      obtain ⟨b8, bm, o⟩ := obind o
      obtain ⟨G, bn, o⟩ := obind o
      refine st_region_treeF slices_insertionSortOrdered_int__t1 18 (.node [oT 0, oT 1, oT 2, oT 3, oT 4, oT 5, oT 6, oT 7, oT 8, oT 10, oT 11, oT 12] (.leaf [oF 9, oF 13, oT 14, oF 15, oT 16, oF 17]) (.leaf [oF 13, oF 9, oT 14, oF 15, oT 16, oF 17])) (Mem w0 (Fz F W :: cs)) (by kernel_rfl) (by kernel_rfl) (by kernel_rfl) (by kernel_rfl) (by kernel_rfl) (fun _ d _ _ _ h => by cases d <;> exact h) (M' := Mem w0 (ow (sa g) i c 3 1 t :: Fz F W :: cs)) (fun x m => ⟨m.drew, m.drew.sub (.cons _ (.cons_cons _ (.refl _)))⟩) ?_
      refine tree_node ?_
      refine oq (oTs 0 8) [(40, vI (IntKind.i64.wrap (k - 1))), (38, sl (sa g) i c), (37, vI (IntKind.i64.wrap (k - 1))), (35, sl (sa g) i c), (34, vI k), (33, sl (sa g) i c), (0, sl (sa g) i c), (1, vI a), (2, vI b), (6, vI p), (7, vI k)] ?_
      obtain ⟨ak, cj, bq⟩ := idx_some cp
      have cg := (List.getElem?_eq_some_iff.1 bq).1
      obtain ⟨dl, hr96, bj⟩ := D.at_ ak s bq
      obtain rfl := hr96
      refine ops_val (op := (.indexAddr 22 (.tmp 38) (.tmp 40))) (d := some 41) (v := vP g (ak * 1)) ⟨by kernel_rfl⟩ (run_indexRow Try.underlying22 (z := 1) (by kernel_rfl) rfl rfl cj cg rfl) ?_
      refine oq [oT 10, oT 11] [(44, vI k), (43, sl (sa g) i c), (41, vP g (ak * 1)), (37, vI (IntKind.i64.wrap (k - 1))), (35, sl (sa g) i c), (34, vI k), (33, sl (sa g) i c), (0, sl (sa g) i c), (1, vI a), (2, vI b), (6, vI p), (7, vI k)] ?_
      obtain ⟨bf, b0, a6⟩ := idx_some cq
      have bu := (List.getElem?_eq_some_iff.1 a6).1
      obtain ⟨dd, hr103, a5⟩ := D.at_ bf q a6
      obtain rfl := hr103
      refine ops_val (op := (.indexAddr 22 (.tmp 43) (.tmp 44))) (d := some 45) (v := vP g (bf * 1)) ⟨by kernel_rfl⟩ (run_indexRow Try.underlying22 (z := 1) (by kernel_rfl) rfl rfl b0 bu rfl) ?_
      refine ops_nil ?_
      refine tree_both ?_ ?_
      ·
       refine tree_leaf ?_
       refine ops_mem (d := some 42) (an := [.v (vI s)]) (evs := [.load ⟨g, ak * 1, none⟩ (vI s)]) (v := vI s) ⟨by kernel_rfl⟩ (fun x m M => ⟨x, ⟨m.ocell 0 rfl (bj 0 _ rfl), rfl⟩, m, M⟩) ?_
       refine ops_mem (d := some 46) (an := [.v (vI q)]) (evs := [.load ⟨g, bf * 1, none⟩ (vI q)]) (v := vI q) ⟨by kernel_rfl⟩ (fun x m M => ⟨x, ⟨m.ocell 0 rfl (a5 0 _ rfl), rfl⟩, m, M⟩) ?_
       obtain ⟨y, a1, a7⟩ := idx_some bk
       have bv := (List.getElem?_eq_some_iff.1 a7).1
       obtain ⟨de, hr110, c9⟩ := D.at_ y b7 a7
       obtain rfl := hr110
       refine ops_val (op := (.indexAddr 22 (.tmp 33) (.tmp 34))) (d := some 47) (v := vP g (y * 1)) ⟨by kernel_rfl⟩ (run_indexRow Try.underlying22 (z := 1) (by kernel_rfl) rfl rfl a1 bv rfl) ?_
       refine oq [] [(47, vP g (y * 1)), (46, vI q), (42, vI s), (37, vI (IntKind.i64.wrap (k - 1))), (35, sl (sa g) i c), (0, sl (sa g) i c), (1, vI a), (2, vI b), (6, vI p), (7, vI k)] ?_
       obtain ⟨cr, c5, ax, ar⟩ := upd_some bl
       obtain rfl : y = cr := by have := a1; omega
       have O : i.length = r.length := by rw [ar, List.length_set]
       obtain ⟨ai, bb⟩ : ∃ y_, setAll t (y * 1 + 0) [vI s] = y_ := ⟨_, rfl⟩
       have al : RepL (Rep.int .i64) F W r ai := by rw [ar, ← bb]; exact RepL.set D (List.getElem?_eq_getElem ax) (fun vs_ hr_ _ => by obtain rfl := hr_; exact ⟨rfl, Nat.le_of_ble_eq_true rfl⟩)
       refine ops_store (an := []) (evs := [.store ⟨g, y * 1, none⟩ (vI s)]) ⟨by kernel_rfl⟩ (fun x m M => let ⟨w', he, h'⟩ := m.ostore' 0 rfl (y * 1 + 0) [vI s] (by have z_ : t.length = i.length * 1 := D.len; have y_ : (y + 1) * 1 ≤ i.length * 1 := Nat.mul_le_mul_right _ ax; rw [Nat.add_mul] at y_; simp only [List.length_cons, List.length_nil]; omega) O bb; ⟨w', he, h', (by exact h'.sub (.cons _ (.cons_cons _ (.refl _))))⟩) ?_
       refine ops_conv (l' := [(47, vP g (y * 1)), (46, vI q), (42, vI s), (37, vI (IntKind.i64.wrap (k - 1))), (35, sl (sa g) r c), (0, sl (sa g) r c), (1, vI a), (2, vI b), (6, vI p), (7, vI k)]) (M' := Mem w0 (ow (sa g) r c 3 1 ai :: Fz F W :: cs)) (by first | rfl | ((try dsimp only [sl, ow]); rw [O])) (fun x m => by first | exact m | ((try dsimp only [sl, ow] at m ⊢); rw [O] at m; exact m)) ?_
       obtain ⟨A, a2, a8⟩ := idx_some bm
       have bw := (List.getElem?_eq_some_iff.1 a8).1
       obtain ⟨df, hr126, da⟩ := al.at_ A b8 a8
       obtain rfl := hr126
       refine ops_val (op := (.indexAddr 22 (.tmp 35) (.tmp 37))) (d := some 48) (v := vP g (A * 1)) ⟨by kernel_rfl⟩ (run_indexRow Try.underlying22 (z := 1) (by kernel_rfl) rfl rfl a2 bw rfl) ?_
       refine oq [] [(48, vP g (A * 1)), (46, vI q), (0, sl (sa g) r c), (1, vI a), (2, vI b), (6, vI p), (7, vI k)] ?_
       obtain ⟨ct, c6, ay, au⟩ := upd_some bn
       obtain rfl : A = ct := by have := a2; omega
       have T : r.length = G.length := by rw [au, List.length_set]
       obtain ⟨ao, bc⟩ : ∃ y_, setAll ai (A * 1 + 0) [vI q] = y_ := ⟨_, rfl⟩
       have b9 : RepL (Rep.int .i64) F W G ao := by rw [au, ← bc]; exact RepL.set al (List.getElem?_eq_getElem ay) (fun vs_ hr_ _ => by obtain rfl := hr_; exact ⟨rfl, Nat.le_of_ble_eq_true rfl⟩)
       refine ops_store (an := []) (evs := [.store ⟨g, A * 1, none⟩ (vI q)]) ⟨by kernel_rfl⟩ (fun x m M => let ⟨w', he, h'⟩ := m.ostore' 0 rfl (A * 1 + 0) [vI q] (by have z_ : ai.length = r.length * 1 := al.len; have y_ : (A + 1) * 1 ≤ r.length * 1 := Nat.mul_le_mul_right _ ay; rw [Nat.add_mul] at y_; simp only [List.length_cons, List.length_nil]; omega) T bc; ⟨w', he, h', (by exact h'.sub (.cons _ (.cons_cons _ (.refl _))))⟩) ?_
       refine ops_conv (l' := [(48, vP g (A * 1)), (46, vI q), (0, sl (sa g) G c), (1, vI a), (2, vI b), (6, vI p), (7, vI k)]) (M' := Mem w0 (ow (sa g) G c 3 1 ao :: Fz F W :: cs)) (by first | rfl | ((try dsimp only [sl, ow]); rw [T])) (fun x m => by first | exact m | ((try dsimp only [sl, ow] at m ⊢); rw [T] at m; exact m)) ?_
       refine ops_nil (fin_block ?_)
       exact fj b3 (G, ao) ⟨o, b9, (T.symm.trans (O.symm.trans ah))⟩ 0 []
      ·
       refine tree_leaf ?_
       refine ops_mem (d := some 46) (an := [.v (vI q)]) (evs := [.load ⟨g, bf * 1, none⟩ (vI q)]) (v := vI q) ⟨by kernel_rfl⟩ (fun x m M => ⟨x, ⟨m.ocell 0 rfl (a5 0 _ rfl), rfl⟩, m, M⟩) ?_
       refine ops_mem (d := some 42) (an := [.v (vI s)]) (evs := [.load ⟨g, ak * 1, none⟩ (vI s)]) (v := vI s) ⟨by kernel_rfl⟩ (fun x m M => ⟨x, ⟨m.ocell 0 rfl (bj 0 _ rfl), rfl⟩, m, M⟩) ?_
       obtain ⟨B, a3, a9⟩ := idx_some bk
       have bx := (List.getElem?_eq_some_iff.1 a9).1
       obtain ⟨dg, hr142, db⟩ := D.at_ B b7 a9
       obtain rfl := hr142
       refine ops_val (op := (.indexAddr 22 (.tmp 33) (.tmp 34))) (d := some 47) (v := vP g (B * 1)) ⟨by kernel_rfl⟩ (run_indexRow Try.underlying22 (z := 1) (by kernel_rfl) rfl rfl a3 bx rfl) ?_
       refine oq [] [(47, vP g (B * 1)), (42, vI s), (46, vI q), (37, vI (IntKind.i64.wrap (k - 1))), (35, sl (sa g) i c), (0, sl (sa g) i c), (1, vI a), (2, vI b), (6, vI p), (7, vI k)] ?_
       obtain ⟨cu, c7, az, av⟩ := upd_some bl
       obtain rfl : B = cu := by have := a3; omega
       have U : i.length = r.length := by rw [av, List.length_set]
       obtain ⟨aj, bd⟩ : ∃ y_, setAll t (B * 1 + 0) [vI s] = y_ := ⟨_, rfl⟩
       have am : RepL (Rep.int .i64) F W r aj := by rw [av, ← bd]; exact RepL.set D (List.getElem?_eq_getElem az) (fun vs_ hr_ _ => by obtain rfl := hr_; exact ⟨rfl, Nat.le_of_ble_eq_true rfl⟩)
       refine ops_store (an := []) (evs := [.store ⟨g, B * 1, none⟩ (vI s)]) ⟨by kernel_rfl⟩ (fun x m M => let ⟨w', he, h'⟩ := m.ostore' 0 rfl (B * 1 + 0) [vI s] (by have z_ : t.length = i.length * 1 := D.len; have y_ : (B + 1) * 1 ≤ i.length * 1 := Nat.mul_le_mul_right _ az; rw [Nat.add_mul] at y_; simp only [List.length_cons, List.length_nil]; omega) U bd; ⟨w', he, h', (by exact h'.sub (.cons _ (.cons_cons _ (.refl _))))⟩) ?_
       refine ops_conv (l' := [(47, vP g (B * 1)), (42, vI s), (46, vI q), (37, vI (IntKind.i64.wrap (k - 1))), (35, sl (sa g) r c), (0, sl (sa g) r c), (1, vI a), (2, vI b), (6, vI p), (7, vI k)]) (M' := Mem w0 (ow (sa g) r c 3 1 aj :: Fz F W :: cs)) (by first | rfl | ((try dsimp only [sl, ow]); rw [U])) (fun x m => by first | exact m | ((try dsimp only [sl, ow] at m ⊢); rw [U] at m; exact m)) ?_
       obtain ⟨C, a4, ba⟩ := idx_some bm
       have bz := (List.getElem?_eq_some_iff.1 ba).1
       obtain ⟨dh, hr158, dc⟩ := am.at_ C b8 ba
       obtain rfl := hr158
       refine ops_val (op := (.indexAddr 22 (.tmp 35) (.tmp 37))) (d := some 48) (v := vP g (C * 1)) ⟨by kernel_rfl⟩ (run_indexRow Try.underlying22 (z := 1) (by kernel_rfl) rfl rfl a4 bz rfl) ?_
       refine oq [] [(48, vP g (C * 1)), (46, vI q), (0, sl (sa g) r c), (1, vI a), (2, vI b), (6, vI p), (7, vI k)] ?_
       obtain ⟨cv, c8, a0, aw⟩ := upd_some bn
       obtain rfl : C = cv := by have := a4; omega
       have V : r.length = G.length := by rw [aw, List.length_set]
       obtain ⟨ap, be⟩ : ∃ y_, setAll aj (C * 1 + 0) [vI q] = y_ := ⟨_, rfl⟩
       have ca : RepL (Rep.int .i64) F W G ap := by rw [aw, ← be]; exact RepL.set am (List.getElem?_eq_getElem a0) (fun vs_ hr_ _ => by obtain rfl := hr_; exact ⟨rfl, Nat.le_of_ble_eq_true rfl⟩)
       refine ops_store (an := []) (evs := [.store ⟨g, C * 1, none⟩ (vI q)]) ⟨by kernel_rfl⟩ (fun x m M => let ⟨w', he, h'⟩ := m.ostore' 0 rfl (C * 1 + 0) [vI q] (by have z_ : aj.length = r.length * 1 := am.len; have y_ : (C + 1) * 1 ≤ r.length * 1 := Nat.mul_le_mul_right _ a0; rw [Nat.add_mul] at y_; simp only [List.length_cons, List.length_nil]; omega) V be; ⟨w', he, h', (by exact h'.sub (.cons _ (.cons_cons _ (.refl _))))⟩) ?_
       refine ops_conv (l' := [(48, vP g (C * 1)), (46, vI q), (0, sl (sa g) G c), (1, vI a), (2, vI b), (6, vI p), (7, vI k)]) (M' := Mem w0 (ow (sa g) G c 3 1 ap :: Fz F W :: cs)) (by first | rfl | ((try dsimp only [sl, ow]); rw [V])) (fun x m => by first | exact m | ((try dsimp only [sl, ow] at m ⊢); rw [V] at m; exact m)) ?_
       refine ops_nil (fin_block ?_)
       exact fj b3 (G, ap) ⟨o, ca, (V.symm.trans (U.symm.trans ah))⟩ 0 []
    ·
     refine st_exit (fin_exit_then (fin_exit_then (fin_exit (fin_block ?_))))
     obtain rfl := Option.some.inj o
     obtain rfl := b4 _ rfl
     have o : (slices_insertionSortOrdered_int_j2 p) i = some o1 := b5
     exact fj b2 (i, t) ⟨o, D, ah⟩ 0 []
   ·
    refine oq [oT 4, oT 5, oT 6, oT 7, oT 8, oT 9, oT 10, oT 11, oT 12, oF 13, oT 14] [(30, .bool false), (0, sl j i c), (1, vI a), (2, vI b), (6, vI p), (7, vI k)] ?_
    refine ops_nil (fin_then (st_false rfl (st_exit (fin_exit_then (fin_exit_then (fin_exit (fin_block ?_)))))))
    obtain rfl := Option.some.inj o
    obtain rfl := b4 _ rfl
    have o : (slices_insertionSortOrdered_int_j2 p) i = some o1 := b5
    exact fj b2 (i, t) ⟨o, D, ah⟩ 0 []
 ·
  refine st_exit (fin_exit_then (fin_exit_then (fin_exit ?_)))
  obtain rfl := Option.some.inj o
  obtain rfl := c0 _ rfl
  have o : some Z = some K := c1
  obtain rfl := Option.some.inj o
  exact fr [] y2 ⟨h3, b6⟩ 0 []
theorem slices_pdqsortOrdered_int_ok {c : Option Addr} {d : Nat} {f : List Int} {m : List Value} {a : Int} {b : Int} {g : Int} (v : Mem w0 (ow c f d 3 1 m :: Fz F W :: cs) w) (r : RepL (Rep.int .i64) F W f m) {j : List Int} (i : slices_pdqsortOrdered_int f a b g = some j) : Calls Try.prog 34 #[sl c f d, vI a, vI b, vI g] w (Post w0 (fun (k : List Value) => (RepL (Rep.int .i64) F W j k) ∧ (j.length = f.length)) (fun k => .tuple #[]) (fun k => ow c j d 3 1 k :: Fz F W :: cs)) := by
 unfold slices_pdqsortOrdered_int at i
 refine sx_calls Try.func34 rfl (n := 134) (by kernel_rfl) (l := [(0, sl c f d), (1, vI a), (2, vI b), (3, vI g)]) rfl (by rfl) v ?_
 refine st_seq (st_region [oF 0] (by rfl) ?_)
 refine oq [oF 0] [(8, .bool true), (0, sl c f d), (1, vI a), (2, vI b), (3, vI g)] ?_
 refine ops_nil (fin_then (st_seq (st_region [oF 0] (by rfl) ?_)))
 refine oq [oF 0] [(9, .bool true), (8, .bool true), (0, sl c f d), (1, vI a), (2, vI b), (3, vI g)] ?_
 refine ops_nil (fin_then (st_block ?_))
 obtain ⟨I, B, A⟩ := obind i
 refine lp (σ := Unit) (ρ := (List Int)) (γ := Unit) B () (fun s q => match s, q with | _, _ => [(0, sl c f d), (1, vI a), (2, vI b), (3, vI g), (8, .bool true), (9, .bool true)]) (fun s q => match s, q with | _, _ => Mem w0 (ow c f d 3 1 m :: Fz F W :: cs)) (fun s q => match s, q with | _, _ => True) trivial 0 [] ?_
 rintro _ _ H - hs_ z
 have i : (slices_pdqsortOrdered_int_l1 b a f g) = some H := hs_
 clear hs_
 unfold slices_pdqsortOrdered_int_l1 at i
 refine st_block (st_seq ?_)
 refine st_region (oFs 0 4) (by rfl) ?_
 refine oq (oFs 0 4) [(10, vI (IntKind.i64.wrap (b - a))), (0, sl c f d), (1, vI a), (2, vI b), (3, vI g), (8, .bool true), (9, .bool true)] ?_
 refine ops_nil (fin_then (st_seq (st_seq (st_region [oF 0, oF 1] (by rfl) ?_))))
 refine oq [oF 0, oF 1] [(23, .bool (decide (IntKind.i64.wrap (b - a) ≤ 12))), (10, vI (IntKind.i64.wrap (b - a))), (0, sl c f d), (1, vI a), (2, vI b), (3, vI g), (8, .bool true), (9, .bool true)] ?_
 refine ops_nil (fin_then ?_)
 refine sif i (fun x i => ?_) (fun x i => ?_)
 ·
  refine st_seq ?_
  refine st_region (oFs 0 4) (by rfl) ?_
  refine oq (oFs 0 3) [(26, vI b), (25, vI a), (24, sl c f d)] ?_
  obtain ⟨u, C, i⟩ := obind i
  refine oV (some 27) 0 [] 0 [] (fun _ G => slices_insertionSortOrdered_int_ok G r C) ?_
  rintro D ⟨E, t⟩
  refine ops_conv (l' := [(27, .tuple #[]), (26, vI b), (25, vI a), (24, sl c u d)]) (M' := Mem w0 (ow c u d 3 1 D :: Fz F W :: cs)) (by first | rfl | ((try dsimp only [sl, ow]); rw [t]; done) | ((try dsimp only [sl, ow]); rw [t]; rfl)) (fun _ h => h) ?_
  refine ops_nil (fin_then (st_ret (fin_ret_then (fin_ret_block (fin_ret_then (fin_ret_block ?_))))))
  obtain rfl := Option.some.inj i
  obtain rfl := z _ rfl
  have i : some u = some j := A
  obtain rfl := Option.some.inj i
  exact fr [] D ⟨E, t⟩ 0 []
 ·
  refine st_skip (fin_then (st_seq (st_seq (st_region [oF 0, oF 1] (by rfl) ?_))))
  refine oq [oF 0, oF 1] [(29, .bool (g == 0)), (10, vI (IntKind.i64.wrap (b - a))), (0, sl c f d), (1, vI a), (2, vI b), (3, vI g), (8, .bool true), (9, .bool true)] ?_
  refine ops_nil (fin_then ?_)
  refine sif i (fun y i => ?_) (fun y i => ?_)
  ·
   refine st_seq ?_
   refine st_region (oFs 0 4) (by rfl) ?_
   refine oq (oFs 0 3) [(32, vI b), (31, vI a), (30, sl c f d)] ?_
   cases i
  ·
   refine st_skip (fin_then (st_seq (st_seq (st_region [oF 0, oF 1] (by rfl) ?_))))
   refine oq [oF 0, oF 1] [(35, .bool false), (10, vI (IntKind.i64.wrap (b - a))), (0, sl c f d), (1, vI a), (2, vI b), (3, vI g), (8, .bool true), (9, .bool true)] ?_
   refine ops_nil (fin_then (st_false rfl (st_skip (fin_then (st_seq ?_)))))
   refine st_region (oFs 0 9) (by rfl) ?_
   refine oq (oFs 0 3) [(45, vI b), (44, vI a), (43, sl c f d), (10, vI (IntKind.i64.wrap (b - a))), (0, sl c f d), (1, vI a), (2, vI b), (3, vI g), (8, .bool true), (9, .bool true)] ?_
   cases i
theorem slices_Sort_int_int_ok {a : Option Addr} {b : Nat} {x : List Int} {i : List Value} (m : Mem w0 (ow a x b 3 1 i :: Fz F W :: cs) w) (o : RepL (Rep.int .i64) F W x i) {c : List Int} (g : slices_Sort_int_int x = some c) : Calls Try.prog 30 #[sl a x b] w (Post w0 (fun (d : List Value) => (RepL (Rep.int .i64) F W c d) ∧ (c.length = x.length)) (fun d => .tuple #[]) (fun d => ow a c b 3 1 d :: Fz F W :: cs)) := by
 unfold slices_Sort_int_int at g
 refine sx_calls Try.func30 rfl (n := 11) (by kernel_rfl) (l := [(0, sl a x b)]) rfl (by rfl) m ?_
 refine st_seq ?_
 refine st_region (oFs 0 3) (by rfl) ?_
 refine oq (oFs 0 3) [(2, vI (x.length : Int)), (0, sl a x b)] ?_
 refine ops_nil (fin_then ?_)
 refine st_region (oFs 0 6) (by rfl) ?_
 refine oq (oFs 0 4) [(8, vU (IntKind.u64.wrap (x.length : Int))), (6, vI (x.length : Int)), (5, sl a x b)] ?_
 obtain ⟨r, p, g⟩ := obind g
 refine oV (some 9) 2 [1, 0] 2 [1, 0] (fun _ k => math_bits_Len_ok k p) ?_
 rintro _ -
 refine oq [] [(9, vI r), (6, vI (x.length : Int)), (5, sl a x b)] ?_
 obtain ⟨s, q, g⟩ := obind g
 refine oV (some 10) 0 [] 0 [] (fun _ k => slices_pdqsortOrdered_int_ok k o q) ?_
 rintro t ⟨u, j⟩
 refine ops_conv (l' := [(10, .tuple #[]), (9, vI r), (6, vI (x.length : Int)), (5, sl a s b)]) (M' := Mem w0 (ow a s b 3 1 t :: Fz F W :: cs)) (by first | rfl | ((try dsimp only [sl, ow]); rw [j]; done) | ((try dsimp only [sl, ow]); rw [j]; rfl)) (fun _ h => h) ?_
 refine ops_nil ?_
 obtain rfl := Option.some.inj g
 exact fr [] t ⟨u, j⟩ 0 []
theorem slices_Sorted_int_ok {a : Nat} {b : Option Addr} {c : Nat} {d : List Int} (x : Mem w0 (.blk a [sl b d c] 22 :: Fz F W :: cs) w) (k : RdS (Rep.int .i64) F W b c d) {i : List Int} (p : slices_Sorted_int d = some i) : Calls Try.prog 21 #[.func (.func 31) #[] #[vP a 0]] w (Post w0 (fun ((f, g, j) : (Option Addr) × Nat × (List Value)) => (RepL (Rep.int .i64) F W i j) ∧ (RdS (Rep.int .i64) F W b c d)) (fun (f, g, j) => sl f i g) (fun (f, g, j) => ow f i g 3 1 j :: .blk a [sl b d c] 22 :: Fz F W :: cs)) := by
 unfold slices_Sorted_int at p
 refine sx_calls Try.func21 rfl (n := 9) (by kernel_rfl) (l := [(0, .func (.func 31) #[] #[vP a 0])]) rfl (by rfl) x ?_
 refine st_seq (st_region [oF 0] (by rfl) ?_)
 refine oq [oF 0] [(0, .func (.func 31) #[] #[vP a 0])] ?_
 refine ops_nil (fin_then (st_seq ?_))
 refine st_region (oFs 0 3) (by rfl) ?_
 refine oq [oF 0] [(4, .func (.func 31) #[] #[vP a 0])] ?_
 obtain ⟨u, y, p⟩ := obind p
 refine oV (some 5) 0 [] 0 [] (fun _ t => slices_Collect_int_ok t k y) ?_
 rintro ⟨m, o, C⟩ ⟨A, B⟩
 refine oq [oF 2] [(3, sl m u o)] ?_
 refine ops_nil (fin_then (st_seq (st_region [oF 0, oF 1] (by rfl) ?_)))
 refine oq [oF 0] [(6, sl m u o), (3, sl m u o)] ?_
 obtain ⟨q, z, p⟩ := obind p
 refine oV (some 7) 3 [0, 2, 1] 3 [0, 2, 1] (fun _ t => slices_Sort_int_int_ok t A z) ?_
 rintro s ⟨v, r⟩
 refine ops_conv (l' := [(7, .tuple #[]), (6, sl m q o), (3, sl m q o)]) (M' := Mem w0 (ow m q o 3 1 s :: .blk a [sl b d c] 22 :: Fz F W :: cs)) (by first | rfl | ((try dsimp only [sl, ow]); rw [r]; done) | ((try dsimp only [sl, ow]); rw [r]; rfl)) (fun _ h => h) ?_
 refine ops_nil (fin_then (st_seq (st_region [oF 0, oF 1] (by rfl) ?_)))
 refine oq [oF 0, oF 1] [(2, sl m q o)] ?_
 refine ops_nil (fin_then (st_ret ?_))
 obtain rfl := Option.some.inj p
 exact fr [2] (m, o, s) ⟨v, B⟩ 0 []
def column_Store_int_Sort__t0 : List Row := [⟨0, 16777216, 8⟩, ⟨0, 33554432, 16⟩, ⟨0, 67108864, 1⟩, ⟨4, 134217728, 67108864⟩, ⟨8, 268435456, 134217728⟩, ⟨16, 536870912, 268435456⟩, ⟨0, 1073741824, 1⟩, ⟨64, 2147483648, 1073741824⟩, ⟨128, 4294967296, 2147483648⟩, ⟨256, 8589934592, 4294967296⟩, ⟨0, 17179869184, 32⟩, ⟨1536, 34359738368, 25769803776⟩, ⟨2080, 68719476736, 34896609280⟩, ⟨4096, 137438953472, 68719476736⟩, ⟨16383, 274877906944, 50331648⟩, ⟨32767, 0, 412316860416⟩]
theorem column_Store_int_Sort_ok {b : Nat} {k : Option Addr} {j : Nat} {q : List Int} {E : List Value} {C : Option Addr} {D : Nat} {T : List Int} {f : Nat} {H : Array MapEntry} {G : Nat} {az : List (Int × Int)} (cn : Mem w0 (.blk b [sl k q j, sl C T D, .map (some f)] 44 :: ow k q j 3 1 E :: .obj f (.map H G) :: Fz F W :: cs) w) (bq : RepL (Rep.int .i64) F W q E) (br : RdS (Rep.int .i64) F W C D T) (a3 : MapOK (fun M : Int => Value.int .i64 M) (Rep.int .i64) false F W az H G) {J : List Int} {K : List Int} {U : List (Int × Int)} (m : column_Store_int_Sort q T az = some (J, K, U)) : Calls Try.prog 10 #[vP b 0] w (Post w0 (fun ((aj, al, ao, ak, am, ap, X, V) : (Option Addr) × Nat × (List Value) × (Option Addr) × Nat × (List Value) × (Array MapEntry) × Nat) => (RepL (Rep.int .i64) F W J ao) ∧ (RepL (Rep.int .i64) F W K ap) ∧ (MapOK (fun M : Int => Value.int .i64 M) (Rep.int .i64) false F W U X V)) (fun (aj, al, ao, ak, am, ap, X, V) => .tuple #[]) (fun (aj, al, ao, ak, am, ap, X, V) => .blk b [sl aj J al, sl ak K am, .map (some f)] 44 :: ow aj J al 3 1 ao :: ow ak K am 3 1 ap :: .obj f (.map X V) :: Fz F W :: cs)) := by
 unfold column_Store_int_Sort at m
 refine sx_calls Try.func10 rfl (n := 62) (by kernel_rfl) (l := [(0, vP b 0)]) rfl (by rfl) cn ?_
 refine st_seq ?_
 refine st_region (oFs 0 7) (by rfl) ?_
 refine oq (oFs 0 3) [(10, vP b 1), (0, vP b 0)] ?_
 refine oM 11 0 1 ?_
 obtain ⟨_, cv, m⟩ := obind m
 refine oV (some 12) 4 [3, 0, 1, 2] 5 [0, 2, 3, 4, 1] (fun _ r => slices_Values_int_int_ok r br cv) ?_
 rintro b2 h3
 obtain ⟨a, cw, m⟩ := obind m
 refine oV (some 13) 5 [0, 4, 1, 2, 3] 6 [0, 1, 3, 4, 5, 2] (fun _ r => slices_Sorted_int_ok r h3 cw) ?_
 rintro ⟨B, i, y8⟩ ⟨h9, db⟩
 refine oq [oF 6] [(2, sl B a i), (0, vP b 0)] ?_
 refine ops_nil (fin_then (st_seq ?_))
 refine st_region (oFs 0 4) (by rfl) ?_
 refine oq [oF 0, oF 1] [(15, vI (a.length : Int)), (2, sl B a i), (0, vP b 0)] ?_
 obtain ⟨c, b8, m⟩ := obind m
 obtain ⟨cy, bc, a6, bw⟩ := mk_some b8
 have aw : c.length = cy := by rw [a6, List.length_replicate]
 obtain ⟨bn, bi⟩ : ∃ y_, (Sx.madeOf [vI 0] (c.length * 1)).toList = y_ := ⟨_, rfl⟩
 have cj : RepL (Rep.int .i64) F W c bn := by rw [← bi, aw, a6]; exact RepL.made rfl (by decide) _
 refine ops_makeO (t := 22) (x := (Go.Operand.tmp 15)) (y := (Go.Operand.tmp 15)) (d := some 16) (nn := c.length) (z := 1) (bytes := 8) (xs := bn) (zv := vI 0) ⟨by kernel_rfl⟩ rfl rfl (by rw [aw]; exact bc) (by rw [aw]; exact bc) Try.underlying22 (by kernel_rfl) (by rw [aw]; exact bw) (by rfl) bi (fun _ _ _ hS h' => trivial) (fun g => ?_)
 refine oq [oF 3] [(3, sl (sa g) c c.length), (2, sl B a i), (0, vP b 0)] ?_
 refine ops_nil (fin_then ?_)
 refine st_join1 (σ := (List Int) × (List Value)) (L := fun M => match M with | (o, ac) => [(0, vP b 0), (2, sl B a i), (3, sl (sa g) o c.length)]) (N := fun M => match M with | (o, ac) => Mem w0 (.blk b [sl k q j, sl C T D, .map (some f)] 44 :: ow k q j 3 1 E :: .obj f (.map H G) :: ow B a i 3 1 y8 :: ow (sa g) o c.length 3 1 ac :: Fz F W :: cs)) (I := fun M => match M with | (o, ac) => ((column_Store_int_Sort_j1 a az) o = some (J, K, U)) ∧ (RepL (Rep.int .i64) F W o ac)) ?_ ?_
 ·
  rintro ⟨o, ac⟩ ⟨m, ck⟩
  unfold column_Store_int_Sort_j1 at m
  refine st_join1 (σ := (Array MapEntry) × Nat × (List (Int × Int))) (L := fun M => match M with | (ag, ae, ay) => [(0, vP b 0), (2, sl B a i), (3, sl (sa g) o c.length)]) (N := fun M => match M with | (ag, ae, ay) => Mem w0 (.blk b [sl k q j, sl C T D, .map (some f)] 44 :: ow k q j 3 1 E :: .obj f (.map ag ae) :: ow B a i 3 1 y8 :: ow (sa g) o c.length 3 1 ac :: Fz F W :: cs)) (I := fun M => match M with | (ag, ae, ay) => ((column_Store_int_Sort_j2 o a) ay = some (J, K, U)) ∧ (MapOK (fun M : Int => Value.int .i64 M) (Rep.int .i64) false F W ay ag ae)) ?_ ?_
  ·
   rintro ⟨ag, ae, ay⟩ ⟨m, cl⟩
   unfold column_Store_int_Sort_j2 at m
   refine st_region (oFs 0 10) (by rfl) ?_
   refine oq (oFs 0 6) [(59, vP b 1), (57, sl (sa g) o c.length), (56, sl B a i), (55, vP b 0)] ?_
   refine oS 0 1 [sl B a i] ?_
   refine oq [oF 7, oF 8] [(61, vP b 0), (57, sl (sa g) o c.length)] ?_
   refine oS 0 0 [sl (sa g) o c.length] ?_
   refine ops_nil ?_
   obtain ⟨rfl, rfl, rfl⟩ := si3 m
   exact fr [] ((sa g), c.length, ac, B, i, y8, ag, ae) ⟨ck, h9, cl⟩ 6 [0, 4, 3, 2, 5]
  ·
   intro ci
   refine st_seq (st_seq ?_)
   refine st_region (oFs 0 3) (by rfl) ?_
   refine oq (oFs 0 3) [(42, vI 0), (41, vI (a.length : Int)), (40, sl B a i), (0, vP b 0), (2, sl B a i), (3, sl (sa g) o c.length)] ?_
   refine ops_nil (fin_then (st_block ?_))
   obtain ⟨r3, ct, cq⟩ := obind m
   refine lp (σ := (List (Int × Int)) × Int) (ρ := (List (Int × Int))) (γ := (Array MapEntry) × Nat) ct (H, G) (fun s_ g_ => match s_, g_ with | (ar, A), (ah, af) => [(0, vP b 0), (2, sl B a i), (3, sl (sa g) o c.length), (40, sl B a i), (41, vI (a.length : Int)), (42, vI A)]) (fun s_ g_ => match s_, g_ with | (ar, A), (ah, af) => Mem w0 (.blk b [sl k q j, sl C T D, .map (some f)] 44 :: ow k q j 3 1 E :: .obj f (.map ah af) :: ow B a i 3 1 y8 :: ow (sa g) o c.length 3 1 ac :: Fz F W :: cs)) (fun s_ g_ => match s_, g_ with | (ar, A), (ah, af) => (MapOK (fun M : Int => Value.int .i64 M) (Rep.int .i64) false F W ar ah af)) a3 0 [] ?_
   rintro ⟨ar, A⟩ ⟨ah, af⟩ o3 bs hs_ co
   have m : (column_Store_int_Sort_l3 a) ar A = some o3 := hs_
   clear hs_
   unfold column_Store_int_Sort_l3 at m
   refine st_seq (st_region [oF 0] (by rfl) ?_)
   refine oq [oF 0] [(43, .bool (decide (A < (a.length : Int)))), (0, vP b 0), (2, sl B a i), (3, sl (sa g) o c.length), (40, sl B a i), (41, vI (a.length : Int)), (42, vI A)] ?_
   refine ops_nil (fin_then (st_seq ?_))
   refine sif m (fun bx m => ?_) (fun bx m => ?_)
   ·
    refine st_skip (fin_then (st_seq (st_block (st_seq ?_))))
    refine st_region (oFs 0 5) (by rfl) ?_
    refine oq [oF 0] [(44, vI A), (0, vP b 0), (2, sl B a i), (3, sl (sa g) o c.length), (40, sl B a i), (41, vI (a.length : Int)), (42, vI A)] ?_
    obtain ⟨ai, b9, m⟩ := obind m
    obtain ⟨bk, b1, be⟩ := idx_some b9
    have a8 := (List.getElem?_eq_some_iff.1 be).1
    refine ops_fact (fun Z r => r.orowSome 3 rfl (Nat.lt_of_le_of_lt (Nat.zero_le _) a8)) ?_
    rintro ⟨O, rfl, -⟩
    obtain ⟨c6, hr41, b5⟩ := h9.at_ bk ai be
    obtain rfl := hr41
    refine ops_val (op := (.indexAddr 22 (.tmp 40) (.tmp 42))) (d := some 45) (v := vP O (bk * 1)) ⟨by kernel_rfl⟩ (run_indexRow Try.underlying22 (z := 1) (by kernel_rfl) rfl rfl b1 a8 rfl) ?_
    refine ops_mem (d := some 46) (an := [.v (vI ai)]) (evs := [.load ⟨O, bk * 1, none⟩ (vI ai)]) (v := vI ai) ⟨by kernel_rfl⟩ (fun Z r hS => ⟨Z, ⟨r.ocell 3 rfl (b5 0 _ rfl), rfl⟩, r, trivial⟩) ?_
    refine oq [oF 3, oF 4] [(7, vI ai), (6, vI A), (0, vP b 0), (2, sl (sa O) a i), (3, sl (sa g) o c.length), (40, sl (sa O) a i), (41, vI (a.length : Int)), (42, vI A)] ?_
    refine ops_nil (fin_then ?_)
    refine st_region (oFs 0 7) (by rfl) ?_
    refine oq (oFs 0 3) [(49, vP b 2), (7, vI ai), (6, vI A), (0, vP b 0), (2, sl (sa O) a i), (3, sl (sa g) o c.length), (40, sl (sa O) a i), (41, vI (a.length : Int)), (42, vI A)] ?_
    refine oM 50 0 2 ?_
    refine oq [oF 4, oF 5] [(52, vI A), (51, vI ai), (50, .map (some f)), (0, vP b 0), (2, sl (sa O) a i), (3, sl (sa g) o c.length), (40, sl (sa O) a i), (41, vI (a.length : Int)), (42, vI A)] ?_
    obtain ⟨cx, ca, m⟩ := obind m
    obtain ⟨a5, a4, bt, hrun50⟩ := MapOK.update bs (KeyLaw.int Try.underlying3) Try.underlying42 ai (v := A) (vs := [vI A]) (rfl)
    rw [Option.some.inj ca] at bt
    refine ops_unit (op := (.mapUpdate 42 (.tmp 50) (.tmp 51) (.tmp 52))) (σ := Unit) (M' := fun _ => Mem w0 (.blk b [sl k q j, sl C T D, .map (some f)] 44 :: ow k q j 3 1 E :: .obj f (.map a5 a4) :: ow (sa O) a i 3 1 y8 :: ow (sa g) o c.length 3 1 ac :: Fz F W :: cs)) ⟨by kernel_rfl⟩ (fun o_ Z ho_ r hS => have h' := r.setObj 2 rfl _; ⟨(), _, run_updateV rfl rfl rfl (hrun50 f Z (r.mapAt 2 rfl)) o_ ho_, h', trivial⟩) (fun _ => ?_)
    refine ops_nil (fin_block (fin_then (st_region [oF 0, oF 1] (by rfl) ?_)))
    refine oq [oF 0, oF 1] [(42, vI (IntKind.i64.wrap (A + 1))), (0, vP b 0), (2, sl (sa O) a i), (3, sl (sa g) o c.length), (40, sl (sa O) a i), (41, vI (a.length : Int))] ?_
    refine ops_nil ?_
    exact fag (cx, IntKind.i64.wrap (A + 1)) (a5, a4) (Option.some.inj m).symm bt 0 []
   ·
    refine st_exit (fin_exit_then (fin_exit_then (fin_exit ?_)))
    obtain rfl := Option.some.inj m
    obtain rfl := co _ rfl
    have m : (column_Store_int_Sort_j2 o a) ar = some (J, K, U) := cq
    exact fj ci (ah, af, ar) ⟨m, bs⟩ 0 []
 ·
  intro ch
  refine st_seq (st_seq ?_)
  refine st_region (oFs 0 3) (by rfl) ?_
  refine oq (oFs 0 3) [(19, vI 0), (18, vI (a.length : Int)), (17, sl B a i), (3, sl (sa g) c c.length), (2, sl B a i), (0, vP b 0)] ?_
  refine ops_nil (fin_then (st_block ?_))
  obtain ⟨r4, cu, cr⟩ := obind m
  refine lp (σ := (List Int) × Int) (ρ := (List Int)) (γ := (List Value)) cu bn (fun s_ g_ => match s_, g_ with | (p, s), ad => [(0, vP b 0), (2, sl B a i), (3, sl (sa g) p c.length), (17, sl B a i), (18, vI (a.length : Int)), (19, vI s)]) (fun s_ g_ => match s_, g_ with | (p, s), ad => Mem w0 (.blk b [sl k q j, sl C T D, .map (some f)] 44 :: ow k q j 3 1 E :: .obj f (.map H G) :: ow B a i 3 1 y8 :: ow (sa g) p c.length 3 1 ad :: Fz F W :: cs)) (fun s_ g_ => match s_, g_ with | (p, s), ad => (RepL (Rep.int .i64) F W p ad)) cj 7 [3, 4, 5, 1, 0, 6] ?_
  rintro ⟨p, s⟩ ad o4 a2 hs_ cp
  have m : (column_Store_int_Sort_l4 a az q) p s = some o4 := hs_
  clear hs_
  unfold column_Store_int_Sort_l4 at m
  refine st_seq (st_region [oF 0] (by rfl) ?_)
  refine oq [oF 0] [(20, .bool (decide (s < (a.length : Int)))), (0, vP b 0), (2, sl B a i), (3, sl (sa g) p c.length), (17, sl B a i), (18, vI (a.length : Int)), (19, vI s)] ?_
  refine ops_nil (fin_then (st_seq ?_))
  refine sif m (fun bz m => ?_) (fun bz m => ?_)
  ·
   refine st_skip (fin_then (st_seq (st_block (st_seq ?_))))
   refine st_region (oFs 0 5) (by rfl) ?_
   refine oq [oF 0] [(21, vI s), (0, vP b 0), (2, sl B a i), (3, sl (sa g) p c.length), (17, sl B a i), (18, vI (a.length : Int)), (19, vI s)] ?_
   obtain ⟨aa, cb, m⟩ := obind m
   obtain ⟨bl, b3, bf⟩ := idx_some cb
   have a9 := (List.getElem?_eq_some_iff.1 bf).1
   refine ops_fact (fun Z r => r.orowSome 3 rfl (Nat.lt_of_le_of_lt (Nat.zero_le _) a9)) ?_
   rintro ⟨u, rfl, -⟩
   obtain ⟨c8, hr62, b6⟩ := h9.at_ bl aa bf
   obtain rfl := hr62
   refine ops_val (op := (.indexAddr 22 (.tmp 17) (.tmp 19))) (d := some 22) (v := vP u (bl * 1)) ⟨by kernel_rfl⟩ (run_indexRow Try.underlying22 (z := 1) (by kernel_rfl) rfl rfl b3 a9 rfl) ?_
   refine ops_mem (d := some 23) (an := [.v (vI aa)]) (evs := [.load ⟨u, bl * 1, none⟩ (vI aa)]) (v := vI aa) ⟨by kernel_rfl⟩ (fun Z r hS => ⟨Z, ⟨r.ocell 3 rfl (b6 0 _ rfl), rfl⟩, r, trivial⟩) ?_
   refine oq [oF 3, oF 4] [(5, vI aa), (4, vI s), (0, vP b 0), (2, sl (sa u) a i), (3, sl (sa g) p c.length), (17, sl (sa u) a i), (18, vI (a.length : Int)), (19, vI s)] ?_
   refine ops_nil (fin_then ?_)
   refine st_region_fast column_Store_int_Sort__t0 [oT 0, oT 1, oT 2, oT 3, oT 4, oT 5, oT 6, oT 7, oT 8, oT 9, oT 10, oT 11, oT 12, oT 13, oT 14, oF 15] (Mem w0 (.blk b [sl k q j, sl C T D, .map (some f)] 44 :: ow k q j 3 1 E :: .obj f (.map H G) :: ow (sa u) a i 3 1 y8 :: Fz F W :: cs)) (by kernel_rfl) (by kernel_rfl) (by kernel_rfl) (by kernel_rfl) (by kernel_rfl) (fun _ d _ _ _ h => by cases d <;> exact h) (M' := Mem w0 (.blk b [sl k q j, sl C T D, .map (some f)] 44 :: ow k q j 3 1 E :: .obj f (.map H G) :: ow (sa u) a i 3 1 y8 :: ow (sa g) p c.length 3 1 ad :: Fz F W :: cs)) (fun Z r => ⟨r.drew, r.drew.sub (.cons_cons _ (.cons_cons _ (.cons_cons _ (.cons_cons _ (.cons _ (.cons_cons _ (.refl _)))))))⟩) ?_
   refine oq (oTs 0 5) [(28, vP b 0), (25, vI s), (24, sl (sa g) p c.length), (5, vI aa), (0, vP b 0), (2, sl (sa u) a i), (3, sl (sa g) p c.length), (17, sl (sa u) a i), (18, vI (a.length : Int)), (19, vI s)] ?_
   refine oL 29 0 0 ?_
   refine oq (oTs 6 3) [(32, vP b 2), (29, sl k q j), (25, vI s), (24, sl (sa g) p c.length), (5, vI aa), (0, vP b 0), (2, sl (sa u) a i), (3, sl (sa g) p c.length), (17, sl (sa u) a i), (18, vI (a.length : Int)), (19, vI s)] ?_
   refine oL 33 0 2 ?_
   refine oq [oT 10] [(34, vI aa), (33, .map (some f)), (29, sl k q j), (25, vI s), (24, sl (sa g) p c.length), (0, vP b 0), (2, sl (sa u) a i), (3, sl (sa g) p c.length), (17, sl (sa u) a i), (18, vI (a.length : Int)), (19, vI s)] ?_
   obtain ⟨bu, cc, m⟩ := obind m
   obtain ⟨cg, hr69, hrun70⟩ := a3.get (KeyLaw.int Try.underlying3) Try.underlying42 aa 0 (rfl) (fun u_ => Try.zeroValue3 u_)
   have hr69 : (Rep.int .i64).rd F W bu cg := by rw [← Option.some.inj cc]; exact hr69
   obtain rfl := hr69
   refine ops_valS (op := (.lookup 42 (.tmp 33) (.tmp 34) false)) (d := some 35) (v := vI bu) ⟨by kernel_rfl⟩ (fun o_ Z r ho_ => run_lookupV rfl rfl (hrun70 false f Z (r.mapAt 2 rfl)) o_ ho_) ?_
   obtain ⟨ab, cd, m⟩ := obind m
   obtain ⟨bm, b4, bg⟩ := idx_some cd
   have ba := (List.getElem?_eq_some_iff.1 bg).1
   refine ops_fact (fun Z r => r.orowSome 1 rfl (Nat.lt_of_le_of_lt (Nat.zero_le _) ba)) ?_
   rintro ⟨a1, rfl, -⟩
   obtain ⟨c9, hr77, b7⟩ := bq.at_ bm ab bg
   obtain rfl := hr77
   refine ops_val (op := (.indexAddr 22 (.tmp 29) (.tmp 35))) (d := some 36) (v := vP a1 (bm * 1)) ⟨by kernel_rfl⟩ (run_indexRow Try.underlying22 (z := 1) (by kernel_rfl) rfl rfl b4 ba rfl) ?_
   refine ops_load (d := some 37) (an := [.v (vI ab)]) (evs := [.load ⟨a1, bm * 1, none⟩ (vI ab)]) (v := vI ab) ⟨by kernel_rfl⟩ (fun Z r => ⟨r.ocell 1 rfl (b7 0 _ rfl), rfl⟩) ?_
   obtain ⟨c0, ce, m⟩ := obind m
   obtain ⟨Y, bd, bh⟩ := idx_some ce
   have b0 := (List.getElem?_eq_some_iff.1 bh).1
   obtain ⟨da, hr87, c3⟩ := a2.at_ Y c0 bh
   obtain rfl := hr87
   refine ops_val (op := (.indexAddr 22 (.tmp 24) (.tmp 25))) (d := some 38) (v := vP g (Y * 1)) ⟨by kernel_rfl⟩ (run_indexRow Try.underlying22 (z := 1) (by kernel_rfl) rfl rfl bd b0 rfl) ?_
   refine oq [] [(38, vP g (Y * 1)), (37, vI ab), (0, vP b 0), (2, sl (sa u) a i), (3, sl (sa g) p c.length), (17, sl (sa u) a i), (18, vI (a.length : Int)), (19, vI s)] ?_
   obtain ⟨av, cf, m⟩ := obind m
   obtain ⟨cz, c2, bb, a7⟩ := upd_some cf
   obtain rfl : Y = cz := by have := bd; omega
   have a0 : p.length = av.length := by rw [a7, List.length_set]
   obtain ⟨bo, bj⟩ : ∃ y_, setAll ad (Y * 1 + 0) [vI ab] = y_ := ⟨_, rfl⟩
   have cm : RepL (Rep.int .i64) F W av bo := by rw [a7, ← bj]; exact RepL.set a2 (List.getElem?_eq_getElem bb) (fun vs_ hr_ _ => by obtain rfl := hr_; exact ⟨rfl, Nat.le_of_ble_eq_true rfl⟩)
   refine ops_store (an := []) (evs := [.store ⟨g, Y * 1, none⟩ (vI ab)]) ⟨by kernel_rfl⟩ (fun Z r hS => let ⟨w', he, h'⟩ := r.ostore' 4 rfl (Y * 1 + 0) [vI ab] (by have z_ : ad.length = p.length * 1 := a2.len; have y_ : (Y + 1) * 1 ≤ p.length * 1 := Nat.mul_le_mul_right _ bb; rw [Nat.add_mul] at y_; simp only [List.length_cons, List.length_nil]; omega) a0 bj; ⟨w', he, h', (by exact h'.sub (.cons_cons _ (.cons_cons _ (.cons_cons _ (.cons_cons _ (.cons _ (.cons_cons _ (.refl _))))))))⟩) ?_
   refine ops_conv (l' := [(38, vP g (Y * 1)), (37, vI ab), (0, vP b 0), (2, sl (sa u) a i), (3, sl (sa g) av c.length), (17, sl (sa u) a i), (18, vI (a.length : Int)), (19, vI s)]) (M' := Mem w0 (.blk b [sl (sa a1) q j, sl C T D, .map (some f)] 44 :: ow (sa a1) q j 3 1 E :: .obj f (.map H G) :: ow (sa u) a i 3 1 y8 :: ow (sa g) av c.length 3 1 bo :: Fz F W :: cs)) (by first | rfl | ((try dsimp only [sl, ow]); rw [a0])) (fun Z r => by first | exact r | ((try dsimp only [sl, ow] at r ⊢); rw [a0] at r; exact r)) ?_
   refine ops_nil (fin_block (fin_then (st_region [oF 0, oF 1] (by rfl) ?_)))
   refine oq [oF 0, oF 1] [(19, vI (IntKind.i64.wrap (s + 1))), (0, vP b 0), (2, sl (sa u) a i), (3, sl (sa g) av c.length), (17, sl (sa u) a i), (18, vI (a.length : Int))] ?_
   refine ops_nil ?_
   exact fag (av, IntKind.i64.wrap (s + 1)) bo (Option.some.inj m).symm cm 0 []
  ·
   refine st_exit (fin_exit_then (fin_exit_then (fin_exit ?_)))
   obtain rfl := Option.some.inj m
   obtain rfl := cp _ rfl
   have m : (column_Store_int_Sort_j1 a az) p = some (J, K, U) := cr
   exact fj ch (p, ad) ⟨m, a2⟩ 0 []
end Go.Proofs.Ytbfndcookgijfaa.P
