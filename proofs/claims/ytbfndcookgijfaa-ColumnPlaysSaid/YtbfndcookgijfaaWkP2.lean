/- The Go functions come to what the plain functions tell. No condition. -/
import Derived.Test.YtbfndcookgijfaaProg
import Derived.Test.YtbfndcookgijfaaFnP
import Derived.Test.YtbfndcookgijfaaExSq
import Derived.Test.YtbfndcookgijfaaWkP1
namespace Go.Proofs.Ytbfndcookgijfaa.P
open Go Go.RowKit Go.Proofs.Ytbfndcookgijfaa.Sx
set_option linter.unusedVariables false
set_option maxHeartbeats 4000000
set_option maxRecDepth 100000
variable {w0 w : World} {cs : List Chunk} {F : Nat → Prop} {W : World}
def tourref3_Model_Put__t0 : List Row := [⟨0, 536870912, 1⟩, ⟨0, 1073741824, 1⟩, ⟨0, 2147483648, 1⟩, ⟨4, 4294967296, 2147483648⟩, ⟨8, 8589934592, 4294967296⟩, ⟨16, 17179869184, 8589934592⟩, ⟨0, 34359738368, 2⟩, ⟨64, 68719476736, 34359738368⟩, ⟨160, 137438953472, 85899345920⟩, ⟨0, 274877906944, 1⟩, ⟨512, 549755813888, 274877906944⟩, ⟨1024, 1099511627776, 549755813888⟩, ⟨2048, 2199023255552, 1099511627776⟩, ⟨0, 4398046511104, 4⟩, ⟨8192, 8796093022208, 4398046511104⟩, ⟨20736, 17592186044416, 10995116277760⟩, ⟨37373, 35184372088832, 536870912⟩, ⟨102909, 70368744177664, 35184372088832⟩, ⟨168445, 0, 70506183131136⟩, ⟨524287, 140737488355328, 1073741824⟩, ⟨1048575, 281474976710656, 140737488355328⟩, ⟨1572863, 0, 299067162755072⟩]
theorem tourref3_Model_Put_ok {g : Nat} {H : Option Addr} {J : Nat} {T : List Int} {o : List Value} {M : Option Addr} {K : Nat} {Z : List Int} {k : List Value} {n : Int} {v : Int} (r0 : Mem w0 (.blk g [sl H T J, sl M Z K] 28 :: ow H T J 3 1 o :: ow M Z K 3 1 k :: Fz F W :: cs) w) (q : RepL (Rep.int .i64) F W T o) (p : RepL (Rep.int .i64) F W Z k) {c9 : Int} {aa : List Int} {ab : List Int} (D : tourref3_Model_Put T Z n v = some (c9, aa, ab)) : Calls Try.prog 7 #[vP g 0, vI n, vI v] w (Post w0 (fun ((al, ao, aq, am, ap, ar) : (Option Addr) × Nat × (List Value) × (Option Addr) × Nat × (List Value)) => (RepL (Rep.int .i64) F W aa aq) ∧ (RepL (Rep.int .i64) F W ab ar)) (fun (al, ao, aq, am, ap, ar) => vI c9) (fun (al, ao, aq, am, ap, ar) => .blk g [sl al aa ao, sl am ab ap] 28 :: ow al aa ao 3 1 aq :: ow am ab ap 3 1 ar :: Fz F W :: cs)) := by
 unfold tourref3_Model_Put at D
 refine sx_calls Try.func7 rfl (n := 49) (by kernel_rfl) (l := [(0, vP g 0), (1, vI n), (2, vI v)]) rfl (by rfl) r0 ?_
 refine st_seq (st_region [oF 0] (by rfl) ?_)
 refine oq [oF 0] [(0, vP g 0), (1, vI n), (2, vI v)] ?_
 refine ops_nil (fin_then (st_seq (st_seq ?_)))
 refine st_region (oFs 0 6) (by rfl) ?_
 refine oq (oFs 0 3) [(10, .bool (decide (n < 0))), (0, vP g 0), (1, vI n), (2, vI v)] ?_
 refine ob D [10] (fun r1 D => ?_) (fun r1 D => ?_)
 ·
  refine oq (oFs 3 3) [(13, .bool true), (0, vP g 0), (1, vI n), (2, vI v)] ?_
  refine ops_nil (fin_then (st_true rfl (st_seq (st_region [oF 0] (by rfl) ?_))))
  refine oq [oF 0] [(6, vI 1)] ?_
  refine ops_nil (fin_then (st_ret (fin_ret_then ?_)))
  obtain ⟨rfl, rfl, rfl⟩ := si3 D
  exact fr [6] (H, J, o, M, K, k) ⟨q, p⟩ 0 []
 ·
  refine oq (oFs 3 3) [(13, .bool (decide (255 < n))), (0, vP g 0), (1, vI n), (2, vI v)] ?_
  refine ops_nil (fin_then ?_)
  refine sif D (fun r2 D => ?_) (fun r2 D => ?_)
  ·
   refine st_seq (st_region [oF 0] (by rfl) ?_)
   refine oq [oF 0] [(6, vI 1)] ?_
   refine ops_nil (fin_then (st_ret (fin_ret_then ?_)))
   obtain ⟨rfl, rfl, rfl⟩ := si3 D
   exact fr [6] (H, J, o, M, K, k) ⟨q, p⟩ 0 []
  ·
   refine st_skip (fin_then (st_seq (st_seq ?_)))
   refine st_region (oFs 0 7) (by rfl) ?_
   refine oq (oFs 0 3) [(16, vP g 0), (0, vP g 0), (1, vI n), (2, vI v)] ?_
   refine oM 17 0 0 ?_
   refine oq [oF 4] [(18, vI n), (17, sl H T J), (0, vP g 0), (1, vI n), (2, vI v)] ?_
   obtain ⟨x3, r4, D⟩ := obind D
   refine ops_callI (σ := Unit) (d := some 19) (f := 19) (args := #[sl H T J, vI n]) (v := (fun _ => vI x3)) (I := (fun _ => True)) (M' := (fun _ => Mem w0 (.blk g [sl H T J, sl M Z K] 28 :: ow H T J 3 1 o :: ow M Z K 3 1 k :: Fz F W :: cs))) ⟨by kernel_rfl⟩ (fun s i A => (@slices_Index_int_int_ok s s [] (fun b => b < s.heap.size) s H J T n (Mem.fz0 s) (i.ordS 1 3 rfl rfl q rfl rfl) x3 r4).mono (by rintro e w' ⟨_, -, rfl, h'⟩; have h' : Mem s [] w' := h'.pick 1 [] (by kernel_rfl) (by decide) rfl; exact ⟨(), trivial, rfl, i.join h' rfl, trivial⟩)) ?_
   rintro _ -
   refine oq [oF 6] [(7, vI x3), (0, vP g 0), (1, vI n), (2, vI v)] ?_
   refine ops_nil (fin_then (st_seq (st_region [oF 0, oF 1] (by rfl) ?_)))
   refine oq [oF 0, oF 1] [(21, .bool (decide (0 ≤ x3))), (7, vI x3), (0, vP g 0), (1, vI n), (2, vI v)] ?_
   refine ops_nil (fin_then ?_)
   refine sif D (fun r3 D => ?_) (fun r3 D => ?_)
   ·
    refine st_seq ?_
    refine st_region (oFs 0 8) (by rfl) ?_
    refine oq (oFs 0 3) [(24, vP g 1), (7, vI x3), (2, vI v)] ?_
    refine oM 25 0 1 ?_
    refine oq [oF 4, oF 5] [(27, vI v), (26, vI x3), (25, sl M Z K)] ?_
    obtain ⟨x6, r5, D⟩ := obind D
    obtain ⟨m8, pk, mw⟩ := idx_some r5
    have mu := (List.getElem?_eq_some_iff.1 mw).1
    refine ops_fact (fun s i => i.orowSome 2 rfl (Nat.lt_of_le_of_lt (Nat.zero_le _) mu)) ?_
    rintro ⟨au, rfl, -⟩
    obtain ⟨tc, hr12, tb⟩ := p.at_ m8 x6 mw
    obtain rfl := hr12
    refine ops_val (op := (.indexAddr 22 (.tmp 25) (.tmp 26))) (d := some 28) (v := vP au (m8 * 1)) ⟨by kernel_rfl⟩ (run_indexRow Try.underlying22 (z := 1) (by kernel_rfl) rfl rfl pk mu rfl) ?_
    refine oq [] [(28, vP au (m8 * 1)), (27, vI v)] ?_
    obtain ⟨me, rr, D⟩ := obind D
    obtain ⟨r6, ta, mv, mn⟩ := upd_some rr
    obtain rfl : m8 = r6 := by have := pk; omega
    have f1 : Z.length = me.length := by rw [mn, List.length_set]
    obtain ⟨m4, mx⟩ : ∃ y_, setAll k (m8 * 1 + 0) [vI v] = y_ := ⟨_, rfl⟩
    have rs : RepL (Rep.int .i64) F W me m4 := by rw [mn, ← mx]; exact RepL.set p (List.getElem?_eq_getElem mv) (fun vs_ hr_ _ => by obtain rfl := hr_; exact ⟨rfl, Nat.le_of_ble_eq_true rfl⟩)
    refine ops_store (an := []) (evs := [.store ⟨au, m8 * 1, none⟩ (vI v)]) ⟨by kernel_rfl⟩ (fun s i A => let ⟨w', he, h'⟩ := i.ostore' 2 rfl (m8 * 1 + 0) [vI v] (by have z_ : k.length = Z.length * 1 := p.len; have y_ : (m8 + 1) * 1 ≤ Z.length * 1 := Nat.mul_le_mul_right _ mv; rw [Nat.add_mul] at y_; simp only [List.length_cons, List.length_nil]; omega) f1 mx; ⟨w', he, h', trivial⟩) ?_
    refine ops_conv (l' := [(28, vP au (m8 * 1)), (27, vI v)]) (M' := Mem w0 (.blk g [sl H T J, sl (sa au) me K] 28 :: ow H T J 3 1 o :: ow (sa au) me K 3 1 m4 :: Fz F W :: cs)) (by first | rfl | ((try dsimp only [sl, ow]); rw [f1])) (fun s i => by first | exact i | ((try dsimp only [sl, ow] at i ⊢); rw [f1] at i; exact i)) ?_
    refine ops_nil (fin_then (st_seq (st_region [oF 0] (by rfl) ?_)))
    refine oq [oF 0] [(6, vI 0)] ?_
    refine ops_nil (fin_then (st_ret (fin_ret_then ?_)))
    obtain ⟨rfl, rfl, rfl⟩ := si3 D
    exact fr [6] (H, J, o, (sa au), K, m4) ⟨q, rs⟩ 0 []
   ·
    refine st_skip (fin_then ?_)
    refine st_join1 (σ := (Option Addr) × Nat × (List Int) × (List Value) × (Option Addr) × Nat × (List Int) × (List Value)) (L := fun x_ => match x_ with | (ax, a0, av, a3, ay, a1, aw, a4) => []) (N := fun x_ => match x_ with | (ax, a0, av, a3, ay, a1, aw, a4) => Mem w0 (.blk g [sl ax av a0, sl ay aw a1] 28 :: ow ax av a0 3 1 a3 :: ow ay aw a1 3 1 a4 :: Fz F W :: cs)) (I := fun x_ => match x_ with | (ax, a0, av, a3, ay, a1, aw, a4) => (tourref3_Model_Put_j1 av aw = some (c9, aa, ab)) ∧ (RepL (Rep.int .i64) F W av a3) ∧ (RepL (Rep.int .i64) F W aw a4)) ?_ ?_
    ·
     rintro ⟨ax, a0, av, a3, ay, a1, aw, a4⟩ ⟨D, rt, ru⟩
     unfold tourref3_Model_Put_j1 at D
     refine st_seq (st_region [oF 0] (by rfl) ?_)
     refine oq [oF 0] [(6, vI 0)] ?_
     refine ops_nil (fin_then (st_ret ?_))
     obtain ⟨rfl, rfl, rfl⟩ := si3 D
     exact fr [6] (ax, a0, a3, ay, a1, a4) ⟨rt, ru⟩ 0 []
    ·
     intro E
     refine st_seq ?_
     obtain ⟨c, B, D⟩ := obind D
     obtain ⟨a, u, D⟩ := obind D
     refine st_region_treeF tourref3_Model_Put__t0 22 (.node [oT 0, oT 1, oT 2, oT 3, oT 4, oT 6, oT 9, oT 10, oT 11, oT 13] (.node [oF 5] (.node [oF 7] (.node [oF 8] (.leaf [oF 12, oF 14, oF 15, oT 16, oT 17, oF 18, oT 19, oT 20, oF 21]) (.leaf [oF 14, oF 12, oF 15, oT 16, oT 17, oF 18, oT 19, oT 20, oF 21])) (.node [] (.node [oF 12] (.leaf [oF 8, oF 14, oF 15, oT 16, oT 17, oF 18, oT 19, oT 20, oF 21]) (.leaf [oF 14, oF 8, oF 15, oT 16, oT 17, oF 18, oT 19, oT 20, oF 21])) (.node [oF 14] (.leaf [oF 8, oF 12, oF 15, oT 16, oT 17, oF 18, oT 19, oT 20, oF 21]) (.leaf [oF 12, oF 8, oF 15, oT 16, oT 17, oF 18, oT 19, oT 20, oF 21])))) (.node [] (.node [oF 12] (.node [oF 7] (.leaf [oF 8, oF 14, oF 15, oT 16, oT 17, oF 18, oT 19, oT 20, oF 21]) (.leaf [oF 14, oF 8, oF 15, oT 16, oT 17, oF 18, oT 19, oT 20, oF 21])) (.leaf [oF 14, oF 7, oF 8, oF 15, oT 16, oT 17, oF 18, oT 19, oT 20, oF 21])) (.node [oF 14] (.node [oF 7] (.leaf [oF 8, oF 12, oF 15, oT 16, oT 17, oF 18, oT 19, oT 20, oF 21]) (.leaf [oF 12, oF 8, oF 15, oT 16, oT 17, oF 18, oT 19, oT 20, oF 21])) (.leaf [oF 12, oF 7, oF 8, oF 15, oT 16, oT 17, oF 18, oT 19, oT 20, oF 21])))) (.node [] (.node [oF 7] (.node [oF 5] (.node [oF 8] (.leaf [oF 12, oF 14, oF 15, oT 16, oT 17, oF 18, oT 19, oT 20, oF 21]) (.leaf [oF 14, oF 12, oF 15, oT 16, oT 17, oF 18, oT 19, oT 20, oF 21])) (.node [] (.node [oF 12] (.leaf [oF 8, oF 14, oF 15, oT 16, oT 17, oF 18, oT 19, oT 20, oF 21]) (.leaf [oF 14, oF 8, oF 15, oT 16, oT 17, oF 18, oT 19, oT 20, oF 21])) (.node [oF 14] (.leaf [oF 8, oF 12, oF 15, oT 16, oT 17, oF 18, oT 19, oT 20, oF 21]) (.leaf [oF 12, oF 8, oF 15, oT 16, oT 17, oF 18, oT 19, oT 20, oF 21])))) (.node [] (.node [oF 12] (.node [oF 5] (.leaf [oF 8, oF 14, oF 15, oT 16, oT 17, oF 18, oT 19, oT 20, oF 21]) (.leaf [oF 14, oF 8, oF 15, oT 16, oT 17, oF 18, oT 19, oT 20, oF 21])) (.leaf [oF 14, oF 5, oF 8, oF 15, oT 16, oT 17, oF 18, oT 19, oT 20, oF 21])) (.node [oF 14] (.node [oF 5] (.leaf [oF 8, oF 12, oF 15, oT 16, oT 17, oF 18, oT 19, oT 20, oF 21]) (.leaf [oF 12, oF 8, oF 15, oT 16, oT 17, oF 18, oT 19, oT 20, oF 21])) (.leaf [oF 12, oF 5, oF 8, oF 15, oT 16, oT 17, oF 18, oT 19, oT 20, oF 21])))) (.node [] (.node [oF 12] (.node [oF 5] (.node [oF 7] (.leaf [oF 8, oF 14, oF 15, oT 16, oT 17, oF 18, oT 19, oT 20, oF 21]) (.leaf [oF 14, oF 8, oF 15, oT 16, oT 17, oF 18, oT 19, oT 20, oF 21])) (.leaf [oF 14, oF 7, oF 8, oF 15, oT 16, oT 17, oF 18, oT 19, oT 20, oF 21])) (.node [] (.node [oF 7] (.node [oF 5] (.leaf [oF 8, oF 14, oF 15, oT 16, oT 17, oF 18, oT 19, oT 20, oF 21]) (.leaf [oF 14, oF 8, oF 15, oT 16, oT 17, oF 18, oT 19, oT 20, oF 21])) (.leaf [oF 14, oF 5, oF 8, oF 15, oT 16, oT 17, oF 18, oT 19, oT 20, oF 21])) (.node [oF 14] (.leaf [oF 5, oF 7, oF 8, oF 15, oT 16, oT 17, oF 18, oT 19, oT 20, oF 21]) (.leaf [oF 7, oF 5, oF 8, oF 15, oT 16, oT 17, oF 18, oT 19, oT 20, oF 21])))) (.node [oF 14] (.node [oF 5] (.node [oF 7] (.leaf [oF 8, oF 12, oF 15, oT 16, oT 17, oF 18, oT 19, oT 20, oF 21]) (.leaf [oF 12, oF 8, oF 15, oT 16, oT 17, oF 18, oT 19, oT 20, oF 21])) (.leaf [oF 12, oF 7, oF 8, oF 15, oT 16, oT 17, oF 18, oT 19, oT 20, oF 21])) (.node [] (.node [oF 7] (.node [oF 5] (.leaf [oF 8, oF 12, oF 15, oT 16, oT 17, oF 18, oT 19, oT 20, oF 21]) (.leaf [oF 12, oF 8, oF 15, oT 16, oT 17, oF 18, oT 19, oT 20, oF 21])) (.leaf [oF 12, oF 5, oF 8, oF 15, oT 16, oT 17, oF 18, oT 19, oT 20, oF 21])) (.node [oF 12] (.leaf [oF 5, oF 7, oF 8, oF 15, oT 16, oT 17, oF 18, oT 19, oT 20, oF 21]) (.leaf [oF 7, oF 5, oF 8, oF 15, oT 16, oT 17, oF 18, oT 19, oT 20, oF 21]))))))) (Mem w0 (Fz F W :: cs)) (by kernel_rfl) (by kernel_rfl) (by kernel_rfl) (by kernel_rfl) (by kernel_rfl) (fun _ d _ _ _ h => by cases d <;> exact h) (M' := Mem w0 (.blk g [sl H T J, sl M Z K] 28 :: ow H T J 3 1 o :: ow M Z K 3 1 k :: Fz F W :: cs)) (fun s i => ⟨i.drew, i.drew.sub (.cons _ (.cons _ (.cons _ (.cons_cons _ (.refl _)))))⟩) ?_
     refine tree_node ?_
     refine oq [oT 0, oT 1, oT 2, oT 3, oT 4, oT 6, oT 9, oT 10, oT 11, oT 13] [(42, vI v), (40, vP g 1), (35, vI n), (33, vP g 0), (30, vP g 0), (29, vP g 0)] ?_
     refine ops_nil ?_
     refine tree_both ?_ ?_
     ·
      refine tree_node ?_
      refine oM 34 0 0 ?_
      refine ops_nil ?_
      refine tree_both ?_ ?_
      ·
       refine tree_node ?_
       have O : RepL (Rep.int .i64) F W ([n] : List Int) ([vI n]) := (RepL.cons (R := (Rep.int .i64)) (F := F) (w := W) (vs := [vI n]) (ys := []) rfl RepL.nil)
       refine oBS 36 [vI n] 3 1 1 (fun te => ?_)
       refine ops_nil ?_
       refine tree_both ?_ ?_
       ·
        refine tree_node ?_
        obtain ⟨mo, rl⟩ := app_some B
        obtain ⟨mf, my⟩ : ∃ y_, o ++ ([vI n]) = y_ := ⟨_, rfl⟩
        have pj : RepL (Rep.int .i64) F W c mf := by rw [mo, ← my]; exact RepL.app q O
        refine ops_appendO (x := (Go.Operand.tmp 34)) (y := (Go.Operand.tmp 36)) (t := 22) (e := 3) (d := some 37) (n' := c.length) (z := 1) (m := ([n] : List Int).length) (bytes := 8) (xs' := mf) (news := ([vI n])) (zv := vI 0) 2 ⟨by kernel_rfl⟩ rfl rfl Try.underlying22 (by kernel_rfl) (by rfl) rfl (fun s i => i.srcO 0 rfl) O.len O.one rl (by have z_ := congrArg List.length mo; rw [List.length_append] at z_; exact z_.symm) my (fun _ _ _ _ A h' => (by exact h'.sub (.cons _ (.cons _ (.cons _ (.cons _ (.cons_cons _ (.refl _)))))))) ?_
        rintro ⟨az, a2⟩
        refine ops_nil ?_
        refine tree_both ?_ ?_
        ·
         refine tree_leaf ?_
         refine oM 41 1 1 ?_
         have mj : RepL (Rep.int .i64) F W ([v] : List Int) ([vI v]) := (RepL.cons (R := (Rep.int .i64)) (F := F) (w := W) (vs := [vI v]) (ys := []) rfl RepL.nil)
         refine oBS 43 [vI v] 3 1 1 (fun tf => ?_)
         obtain ⟨mp, rm⟩ := app_some u
         obtain ⟨m5, mz⟩ : ∃ y_, k ++ ([vI v]) = y_ := ⟨_, rfl⟩
         have rv : RepL (Rep.int .i64) F W a m5 := by rw [mp, ← mz]; exact RepL.app p mj
         refine ops_appendO (x := (Go.Operand.tmp 41)) (y := (Go.Operand.tmp 43)) (t := 22) (e := 3) (d := some 44) (n' := a.length) (z := 1) (m := ([v] : List Int).length) (bytes := 8) (xs' := m5) (news := ([vI v])) (zv := vI 0) 4 ⟨by kernel_rfl⟩ rfl rfl Try.underlying22 (by kernel_rfl) (by rfl) rfl (fun s i => i.srcO 0 rfl) mj.len mj.one rm (by have z_ := congrArg List.length mp; rw [List.length_append] at z_; exact z_.symm) mz (fun _ _ _ _ A h' => (by exact h'.sub (.cons _ (.cons _ (.cons _ (.cons _ (.cons _ (.cons_cons _ (.refl _))))))))) ?_
         rintro ⟨h4, h7⟩
         refine oq [oT 16, oT 17] [(46, vP g 0), (44, sl h4 a h7), (37, sl az c a2), (30, vP g 0)] ?_
         refine oSS 2 0 [sl az c a2] (fun w' h' => (by exact h'.sub (.cons _ (.cons _ (.cons _ (.cons _ (.cons _ (.cons_cons _ (.refl _))))))))) ?_
         refine oq [oT 19, oT 20] [(48, vP g 1), (44, sl h4 a h7)] ?_
         refine oSS 2 1 [sl h4 a h7] (fun w' h' => (by exact h'.sub (.cons _ (.cons _ (.cons _ (.cons _ (.cons _ (.cons_cons _ (.refl _))))))))) ?_
         refine ops_nil ?_
         exact fj E (az, a2, c, mf, h4, h7, a, m5) ⟨D, pj, rv⟩ 6 [2, 3, 4, 5]
        ·
         refine tree_leaf ?_
         have mk : RepL (Rep.int .i64) F W ([v] : List Int) ([vI v]) := (RepL.cons (R := (Rep.int .i64)) (F := F) (w := W) (vs := [vI v]) (ys := []) rfl RepL.nil)
         refine oBS 43 [vI v] 3 1 1 (fun tg => ?_)
         refine oM 41 2 1 ?_
         obtain ⟨mq, rn⟩ := app_some u
         obtain ⟨m6, m0⟩ : ∃ y_, k ++ ([vI v]) = y_ := ⟨_, rfl⟩
         have rx : RepL (Rep.int .i64) F W a m6 := by rw [mq, ← m0]; exact RepL.app p mk
         refine ops_appendO (x := (Go.Operand.tmp 41)) (y := (Go.Operand.tmp 43)) (t := 22) (e := 3) (d := some 44) (n' := a.length) (z := 1) (m := ([v] : List Int).length) (bytes := 8) (xs' := m6) (news := ([vI v])) (zv := vI 0) 4 ⟨by kernel_rfl⟩ rfl rfl Try.underlying22 (by kernel_rfl) (by rfl) rfl (fun s i => i.srcO 0 rfl) mk.len mk.one rn (by have z_ := congrArg List.length mq; rw [List.length_append] at z_; exact z_.symm) m0 (fun _ _ _ _ A h' => (by exact h'.sub (.cons _ (.cons _ (.cons _ (.cons _ (.cons _ (.cons_cons _ (.refl _))))))))) ?_
         rintro ⟨h5, h8⟩
         refine oq [oT 16, oT 17] [(46, vP g 0), (44, sl h5 a h8), (37, sl az c a2), (30, vP g 0)] ?_
         refine oSS 2 0 [sl az c a2] (fun w' h' => (by exact h'.sub (.cons _ (.cons _ (.cons _ (.cons _ (.cons _ (.cons_cons _ (.refl _))))))))) ?_
         refine oq [oT 19, oT 20] [(48, vP g 1), (44, sl h5 a h8)] ?_
         refine oSS 2 1 [sl h5 a h8] (fun w' h' => (by exact h'.sub (.cons _ (.cons _ (.cons _ (.cons _ (.cons _ (.cons_cons _ (.refl _))))))))) ?_
         refine ops_nil ?_
         exact fj E (az, a2, c, mf, h5, h8, a, m6) ⟨D, pj, rx⟩ 6 [2, 3, 4, 5]
       ·
        refine tree_ways ?_ ?_
        ·
         refine tree_node ?_
         refine oM 41 1 1 ?_
         refine ops_nil ?_
         refine tree_both ?_ ?_
         ·
          refine tree_leaf ?_
          obtain ⟨mr, ro⟩ := app_some B
          obtain ⟨m7, m1⟩ : ∃ y_, o ++ ([vI n]) = y_ := ⟨_, rfl⟩
          have ry : RepL (Rep.int .i64) F W c m7 := by rw [mr, ← m1]; exact RepL.app q O
          refine ops_appendO (x := (Go.Operand.tmp 34)) (y := (Go.Operand.tmp 36)) (t := 22) (e := 3) (d := some 37) (n' := c.length) (z := 1) (m := ([n] : List Int).length) (bytes := 8) (xs' := m7) (news := ([vI n])) (zv := vI 0) 2 ⟨by kernel_rfl⟩ rfl rfl Try.underlying22 (by kernel_rfl) (by rfl) rfl (fun s i => i.srcO 0 rfl) O.len O.one ro (by have z_ := congrArg List.length mr; rw [List.length_append] at z_; exact z_.symm) m1 (fun _ _ _ _ A h' => (by exact h'.sub (.cons _ (.cons _ (.cons _ (.cons _ (.cons_cons _ (.refl _)))))))) ?_
          rintro ⟨mg, mh⟩
          have ml : RepL (Rep.int .i64) F W ([v] : List Int) ([vI v]) := (RepL.cons (R := (Rep.int .i64)) (F := F) (w := W) (vs := [vI v]) (ys := []) rfl RepL.nil)
          refine oBS 43 [vI v] 3 1 1 (fun th => ?_)
          obtain ⟨ms, rp⟩ := app_some u
          obtain ⟨m9, m2⟩ : ∃ y_, k ++ ([vI v]) = y_ := ⟨_, rfl⟩
          have rz : RepL (Rep.int .i64) F W a m9 := by rw [ms, ← m2]; exact RepL.app p ml
          refine ops_appendO (x := (Go.Operand.tmp 41)) (y := (Go.Operand.tmp 43)) (t := 22) (e := 3) (d := some 44) (n' := a.length) (z := 1) (m := ([v] : List Int).length) (bytes := 8) (xs' := m9) (news := ([vI v])) (zv := vI 0) 4 ⟨by kernel_rfl⟩ rfl rfl Try.underlying22 (by kernel_rfl) (by rfl) rfl (fun s i => i.srcO 0 rfl) ml.len ml.one rp (by have z_ := congrArg List.length ms; rw [List.length_append] at z_; exact z_.symm) m2 (fun _ _ _ _ A h' => (by exact h'.sub (.cons _ (.cons _ (.cons _ (.cons _ (.cons _ (.cons_cons _ (.refl _))))))))) ?_
          rintro ⟨h6, h9⟩
          refine oq [oT 16, oT 17] [(46, vP g 0), (44, sl h6 a h9), (37, sl mg c mh), (30, vP g 0)] ?_
          refine oSS 2 0 [sl mg c mh] (fun w' h' => (by exact h'.sub (.cons _ (.cons _ (.cons _ (.cons _ (.cons _ (.cons_cons _ (.refl _))))))))) ?_
          refine oq [oT 19, oT 20] [(48, vP g 1), (44, sl h6 a h9)] ?_
          refine oSS 2 1 [sl h6 a h9] (fun w' h' => (by exact h'.sub (.cons _ (.cons _ (.cons _ (.cons _ (.cons _ (.cons_cons _ (.refl _))))))))) ?_
          refine ops_nil ?_
          exact fj E (mg, mh, c, m7, h6, h9, a, m9) ⟨D, ry, rz⟩ 6 [2, 3, 4, 5]
         ·
          refine tree_leaf ?_
          have mm : RepL (Rep.int .i64) F W ([v] : List Int) ([vI v]) := (RepL.cons (R := (Rep.int .i64)) (F := F) (w := W) (vs := [vI v]) (ys := []) rfl RepL.nil)
          refine oBS 43 [vI v] 3 1 1 (fun ti => ?_)
          obtain ⟨mt, rq⟩ := app_some B
          obtain ⟨na, kd⟩ : ∃ y_, o ++ ([vI n]) = y_ := ⟨_, rfl⟩
          have pl : RepL (Rep.int .i64) F W c na := by rw [mt, ← kd]; exact RepL.app q O
          refine ops_appendO (x := (Go.Operand.tmp 34)) (y := (Go.Operand.tmp 36)) (t := 22) (e := 3) (d := some 37) (n' := c.length) (z := 1) (m := ([n] : List Int).length) (bytes := 8) (xs' := na) (news := ([vI n])) (zv := vI 0) 3 ⟨by kernel_rfl⟩ rfl rfl Try.underlying22 (by kernel_rfl) (by rfl) rfl (fun s i => i.srcO 1 rfl) O.len O.one rq (by have z_ := congrArg List.length mt; rw [List.length_append] at z_; exact z_.symm) kd (fun _ _ _ _ A h' => (by exact h'.sub (.cons _ (.cons _ (.cons _ (.cons _ (.cons _ (.cons_cons _ (.refl _))))))))) ?_
          rintro ⟨dc, ec⟩
          obtain ⟨ia, nb⟩ := app_some u
          obtain ⟨f3, ke⟩ : ∃ y_, k ++ ([vI v]) = y_ := ⟨_, rfl⟩
          have pm : RepL (Rep.int .i64) F W a f3 := by rw [ia, ← ke]; exact RepL.app p mm
          refine ops_appendO (x := (Go.Operand.tmp 41)) (y := (Go.Operand.tmp 43)) (t := 22) (e := 3) (d := some 44) (n' := a.length) (z := 1) (m := ([v] : List Int).length) (bytes := 8) (xs' := f3) (news := ([vI v])) (zv := vI 0) 4 ⟨by kernel_rfl⟩ rfl rfl Try.underlying22 (by kernel_rfl) (by rfl) rfl (fun s i => i.srcO 0 rfl) mm.len mm.one nb (by have z_ := congrArg List.length ia; rw [List.length_append] at z_; exact z_.symm) ke (fun _ _ _ _ A h' => (by exact h'.sub (.cons _ (.cons _ (.cons _ (.cons _ (.cons _ (.cons_cons _ (.refl _))))))))) ?_
          rintro ⟨a5, b7⟩
          refine oq [oT 16, oT 17] [(46, vP g 0), (44, sl a5 a b7), (37, sl dc c ec), (30, vP g 0)] ?_
          refine oSS 2 0 [sl dc c ec] (fun w' h' => (by exact h'.sub (.cons _ (.cons _ (.cons _ (.cons _ (.cons _ (.cons_cons _ (.refl _))))))))) ?_
          refine oq [oT 19, oT 20] [(48, vP g 1), (44, sl a5 a b7)] ?_
          refine oSS 2 1 [sl a5 a b7] (fun w' h' => (by exact h'.sub (.cons _ (.cons _ (.cons _ (.cons _ (.cons _ (.cons_cons _ (.refl _))))))))) ?_
          refine ops_nil ?_
          exact fj E (dc, ec, c, na, a5, b7, a, f3) ⟨D, pl, pm⟩ 6 [2, 3, 4, 5]
        ·
         refine tree_node ?_
         have ae : RepL (Rep.int .i64) F W ([v] : List Int) ([vI v]) := (RepL.cons (R := (Rep.int .i64)) (F := F) (w := W) (vs := [vI v]) (ys := []) rfl RepL.nil)
         refine oBS 43 [vI v] 3 1 1 (fun r7 => ?_)
         refine ops_nil ?_
         refine tree_both ?_ ?_
         ·
          refine tree_leaf ?_
          obtain ⟨ib, nc⟩ := app_some B
          obtain ⟨f4, kf⟩ : ∃ y_, o ++ ([vI n]) = y_ := ⟨_, rfl⟩
          have pn : RepL (Rep.int .i64) F W c f4 := by rw [ib, ← kf]; exact RepL.app q O
          refine ops_appendO (x := (Go.Operand.tmp 34)) (y := (Go.Operand.tmp 36)) (t := 22) (e := 3) (d := some 37) (n' := c.length) (z := 1) (m := ([n] : List Int).length) (bytes := 8) (xs' := f4) (news := ([vI n])) (zv := vI 0) 3 ⟨by kernel_rfl⟩ rfl rfl Try.underlying22 (by kernel_rfl) (by rfl) rfl (fun s i => i.srcO 1 rfl) O.len O.one nc (by have z_ := congrArg List.length ib; rw [List.length_append] at z_; exact z_.symm) kf (fun _ _ _ _ A h' => (by exact h'.sub (.cons _ (.cons _ (.cons _ (.cons _ (.cons _ (.cons_cons _ (.refl _))))))))) ?_
          rintro ⟨dd, ed⟩
          refine oM 41 2 1 ?_
          obtain ⟨ic, nd⟩ := app_some u
          obtain ⟨f5, kg⟩ : ∃ y_, k ++ ([vI v]) = y_ := ⟨_, rfl⟩
          have po : RepL (Rep.int .i64) F W a f5 := by rw [ic, ← kg]; exact RepL.app p ae
          refine ops_appendO (x := (Go.Operand.tmp 41)) (y := (Go.Operand.tmp 43)) (t := 22) (e := 3) (d := some 44) (n' := a.length) (z := 1) (m := ([v] : List Int).length) (bytes := 8) (xs' := f5) (news := ([vI v])) (zv := vI 0) 4 ⟨by kernel_rfl⟩ rfl rfl Try.underlying22 (by kernel_rfl) (by rfl) rfl (fun s i => i.srcO 0 rfl) ae.len ae.one nd (by have z_ := congrArg List.length ic; rw [List.length_append] at z_; exact z_.symm) kg (fun _ _ _ _ A h' => (by exact h'.sub (.cons _ (.cons _ (.cons _ (.cons _ (.cons _ (.cons_cons _ (.refl _))))))))) ?_
          rintro ⟨a6, b8⟩
          refine oq [oT 16, oT 17] [(46, vP g 0), (44, sl a6 a b8), (37, sl dd c ed), (30, vP g 0)] ?_
          refine oSS 2 0 [sl dd c ed] (fun w' h' => (by exact h'.sub (.cons _ (.cons _ (.cons _ (.cons _ (.cons _ (.cons_cons _ (.refl _))))))))) ?_
          refine oq [oT 19, oT 20] [(48, vP g 1), (44, sl a6 a b8)] ?_
          refine oSS 2 1 [sl a6 a b8] (fun w' h' => (by exact h'.sub (.cons _ (.cons _ (.cons _ (.cons _ (.cons _ (.cons_cons _ (.refl _))))))))) ?_
          refine ops_nil ?_
          exact fj E (dd, ed, c, f4, a6, b8, a, f5) ⟨D, pn, po⟩ 6 [2, 3, 4, 5]
         ·
          refine tree_leaf ?_
          refine oM 41 2 1 ?_
          obtain ⟨id, ne⟩ := app_some B
          obtain ⟨f6, kh⟩ : ∃ y_, o ++ ([vI n]) = y_ := ⟨_, rfl⟩
          have pp : RepL (Rep.int .i64) F W c f6 := by rw [id, ← kh]; exact RepL.app q O
          refine ops_appendO (x := (Go.Operand.tmp 34)) (y := (Go.Operand.tmp 36)) (t := 22) (e := 3) (d := some 37) (n' := c.length) (z := 1) (m := ([n] : List Int).length) (bytes := 8) (xs' := f6) (news := ([vI n])) (zv := vI 0) 3 ⟨by kernel_rfl⟩ rfl rfl Try.underlying22 (by kernel_rfl) (by rfl) rfl (fun s i => i.srcO 1 rfl) O.len O.one ne (by have z_ := congrArg List.length id; rw [List.length_append] at z_; exact z_.symm) kh (fun _ _ _ _ A h' => (by exact h'.sub (.cons _ (.cons _ (.cons _ (.cons _ (.cons _ (.cons_cons _ (.refl _))))))))) ?_
          rintro ⟨de, ee⟩
          obtain ⟨ie, nf⟩ := app_some u
          obtain ⟨f7, ki⟩ : ∃ y_, k ++ ([vI v]) = y_ := ⟨_, rfl⟩
          have pq : RepL (Rep.int .i64) F W a f7 := by rw [ie, ← ki]; exact RepL.app p ae
          refine ops_appendO (x := (Go.Operand.tmp 41)) (y := (Go.Operand.tmp 43)) (t := 22) (e := 3) (d := some 44) (n' := a.length) (z := 1) (m := ([v] : List Int).length) (bytes := 8) (xs' := f7) (news := ([vI v])) (zv := vI 0) 4 ⟨by kernel_rfl⟩ rfl rfl Try.underlying22 (by kernel_rfl) (by rfl) rfl (fun s i => i.srcO 0 rfl) ae.len ae.one nf (by have z_ := congrArg List.length ie; rw [List.length_append] at z_; exact z_.symm) ki (fun _ _ _ _ A h' => (by exact h'.sub (.cons _ (.cons _ (.cons _ (.cons _ (.cons _ (.cons_cons _ (.refl _))))))))) ?_
          rintro ⟨a7, b9⟩
          refine oq [oT 16, oT 17] [(46, vP g 0), (44, sl a7 a b9), (37, sl de c ee), (30, vP g 0)] ?_
          refine oSS 2 0 [sl de c ee] (fun w' h' => (by exact h'.sub (.cons _ (.cons _ (.cons _ (.cons _ (.cons _ (.cons_cons _ (.refl _))))))))) ?_
          refine oq [oT 19, oT 20] [(48, vP g 1), (44, sl a7 a b9)] ?_
          refine oSS 2 1 [sl a7 a b9] (fun w' h' => (by exact h'.sub (.cons _ (.cons _ (.cons _ (.cons _ (.cons _ (.cons_cons _ (.refl _))))))))) ?_
          refine ops_nil ?_
          exact fj E (de, ee, c, f6, a7, b9, a, f7) ⟨D, pp, pq⟩ 6 [2, 3, 4, 5]
      ·
       refine tree_ways ?_ ?_
       ·
        refine tree_node ?_
        refine oM 41 0 1 ?_
        refine ops_nil ?_
        refine tree_both ?_ ?_
        ·
         refine tree_node ?_
         have af : RepL (Rep.int .i64) F W ([n] : List Int) ([vI n]) := (RepL.cons (R := (Rep.int .i64)) (F := F) (w := W) (vs := [vI n]) (ys := []) rfl RepL.nil)
         refine oBS 36 [vI n] 3 1 1 (fun r8 => ?_)
         refine ops_nil ?_
         refine tree_both ?_ ?_
         ·
          refine tree_leaf ?_
          obtain ⟨ig, ng⟩ := app_some B
          obtain ⟨f8, kj⟩ : ∃ y_, o ++ ([vI n]) = y_ := ⟨_, rfl⟩
          have pr : RepL (Rep.int .i64) F W c f8 := by rw [ig, ← kj]; exact RepL.app q af
          refine ops_appendO (x := (Go.Operand.tmp 34)) (y := (Go.Operand.tmp 36)) (t := 22) (e := 3) (d := some 37) (n' := c.length) (z := 1) (m := ([n] : List Int).length) (bytes := 8) (xs' := f8) (news := ([vI n])) (zv := vI 0) 2 ⟨by kernel_rfl⟩ rfl rfl Try.underlying22 (by kernel_rfl) (by rfl) rfl (fun s i => i.srcO 0 rfl) af.len af.one ng (by have z_ := congrArg List.length ig; rw [List.length_append] at z_; exact z_.symm) kj (fun _ _ _ _ A h' => (by exact h'.sub (.cons _ (.cons _ (.cons _ (.cons _ (.cons_cons _ (.refl _)))))))) ?_
          rintro ⟨df, ef⟩
          have fb : RepL (Rep.int .i64) F W ([v] : List Int) ([vI v]) := (RepL.cons (R := (Rep.int .i64)) (F := F) (w := W) (vs := [vI v]) (ys := []) rfl RepL.nil)
          refine oBS 43 [vI v] 3 1 1 (fun r9 => ?_)
          obtain ⟨ih, nh⟩ := app_some u
          obtain ⟨f9, kk⟩ : ∃ y_, k ++ ([vI v]) = y_ := ⟨_, rfl⟩
          have ps : RepL (Rep.int .i64) F W a f9 := by rw [ih, ← kk]; exact RepL.app p fb
          refine ops_appendO (x := (Go.Operand.tmp 41)) (y := (Go.Operand.tmp 43)) (t := 22) (e := 3) (d := some 44) (n' := a.length) (z := 1) (m := ([v] : List Int).length) (bytes := 8) (xs' := f9) (news := ([vI v])) (zv := vI 0) 4 ⟨by kernel_rfl⟩ rfl rfl Try.underlying22 (by kernel_rfl) (by rfl) rfl (fun s i => i.srcO 0 rfl) fb.len fb.one nh (by have z_ := congrArg List.length ih; rw [List.length_append] at z_; exact z_.symm) kk (fun _ _ _ _ A h' => (by exact h'.sub (.cons _ (.cons _ (.cons _ (.cons _ (.cons _ (.cons_cons _ (.refl _))))))))) ?_
          rintro ⟨a8, ca⟩
          refine oq [oT 16, oT 17] [(46, vP g 0), (44, sl a8 a ca), (37, sl df c ef), (30, vP g 0)] ?_
          refine oSS 2 0 [sl df c ef] (fun w' h' => (by exact h'.sub (.cons _ (.cons _ (.cons _ (.cons _ (.cons _ (.cons_cons _ (.refl _))))))))) ?_
          refine oq [oT 19, oT 20] [(48, vP g 1), (44, sl a8 a ca)] ?_
          refine oSS 2 1 [sl a8 a ca] (fun w' h' => (by exact h'.sub (.cons _ (.cons _ (.cons _ (.cons _ (.cons _ (.cons_cons _ (.refl _))))))))) ?_
          refine ops_nil ?_
          exact fj E (df, ef, c, f8, a8, ca, a, f9) ⟨D, pr, ps⟩ 6 [2, 3, 4, 5]
         ·
          refine tree_leaf ?_
          have fc : RepL (Rep.int .i64) F W ([v] : List Int) ([vI v]) := (RepL.cons (R := (Rep.int .i64)) (F := F) (w := W) (vs := [vI v]) (ys := []) rfl RepL.nil)
          refine oBS 43 [vI v] 3 1 1 (fun sb => ?_)
          obtain ⟨ii, ni⟩ := app_some B
          obtain ⟨ga, kl⟩ : ∃ y_, o ++ ([vI n]) = y_ := ⟨_, rfl⟩
          have pt : RepL (Rep.int .i64) F W c ga := by rw [ii, ← kl]; exact RepL.app q af
          refine ops_appendO (x := (Go.Operand.tmp 34)) (y := (Go.Operand.tmp 36)) (t := 22) (e := 3) (d := some 37) (n' := c.length) (z := 1) (m := ([n] : List Int).length) (bytes := 8) (xs' := ga) (news := ([vI n])) (zv := vI 0) 3 ⟨by kernel_rfl⟩ rfl rfl Try.underlying22 (by kernel_rfl) (by rfl) rfl (fun s i => i.srcO 1 rfl) af.len af.one ni (by have z_ := congrArg List.length ii; rw [List.length_append] at z_; exact z_.symm) kl (fun _ _ _ _ A h' => (by exact h'.sub (.cons _ (.cons _ (.cons _ (.cons _ (.cons _ (.cons_cons _ (.refl _))))))))) ?_
          rintro ⟨dg, eg⟩
          obtain ⟨ij, nj⟩ := app_some u
          obtain ⟨gb, km⟩ : ∃ y_, k ++ ([vI v]) = y_ := ⟨_, rfl⟩
          have pu : RepL (Rep.int .i64) F W a gb := by rw [ij, ← km]; exact RepL.app p fc
          refine ops_appendO (x := (Go.Operand.tmp 41)) (y := (Go.Operand.tmp 43)) (t := 22) (e := 3) (d := some 44) (n' := a.length) (z := 1) (m := ([v] : List Int).length) (bytes := 8) (xs' := gb) (news := ([vI v])) (zv := vI 0) 4 ⟨by kernel_rfl⟩ rfl rfl Try.underlying22 (by kernel_rfl) (by rfl) rfl (fun s i => i.srcO 0 rfl) fc.len fc.one nj (by have z_ := congrArg List.length ij; rw [List.length_append] at z_; exact z_.symm) km (fun _ _ _ _ A h' => (by exact h'.sub (.cons _ (.cons _ (.cons _ (.cons _ (.cons _ (.cons_cons _ (.refl _))))))))) ?_
          rintro ⟨a9, cb⟩
          refine oq [oT 16, oT 17] [(46, vP g 0), (44, sl a9 a cb), (37, sl dg c eg), (30, vP g 0)] ?_
          refine oSS 2 0 [sl dg c eg] (fun w' h' => (by exact h'.sub (.cons _ (.cons _ (.cons _ (.cons _ (.cons _ (.cons_cons _ (.refl _))))))))) ?_
          refine oq [oT 19, oT 20] [(48, vP g 1), (44, sl a9 a cb)] ?_
          refine oSS 2 1 [sl a9 a cb] (fun w' h' => (by exact h'.sub (.cons _ (.cons _ (.cons _ (.cons _ (.cons _ (.cons_cons _ (.refl _))))))))) ?_
          refine ops_nil ?_
          exact fj E (dg, eg, c, ga, a9, cb, a, gb) ⟨D, pt, pu⟩ 6 [2, 3, 4, 5]
        ·
         refine tree_leaf ?_
         have fd : RepL (Rep.int .i64) F W ([v] : List Int) ([vI v]) := (RepL.cons (R := (Rep.int .i64)) (F := F) (w := W) (vs := [vI v]) (ys := []) rfl RepL.nil)
         refine oBS 43 [vI v] 3 1 1 (fun sc => ?_)
         have fe : RepL (Rep.int .i64) F W ([n] : List Int) ([vI n]) := (RepL.cons (R := (Rep.int .i64)) (F := F) (w := W) (vs := [vI n]) (ys := []) rfl RepL.nil)
         refine oBS 36 [vI n] 3 1 1 (fun sd => ?_)
         obtain ⟨ik, nk⟩ := app_some B
         obtain ⟨gc, kn⟩ : ∃ y_, o ++ ([vI n]) = y_ := ⟨_, rfl⟩
         have pv : RepL (Rep.int .i64) F W c gc := by rw [ik, ← kn]; exact RepL.app q fe
         refine ops_appendO (x := (Go.Operand.tmp 34)) (y := (Go.Operand.tmp 36)) (t := 22) (e := 3) (d := some 37) (n' := c.length) (z := 1) (m := ([n] : List Int).length) (bytes := 8) (xs' := gc) (news := ([vI n])) (zv := vI 0) 3 ⟨by kernel_rfl⟩ rfl rfl Try.underlying22 (by kernel_rfl) (by rfl) rfl (fun s i => i.srcO 0 rfl) fe.len fe.one nk (by have z_ := congrArg List.length ik; rw [List.length_append] at z_; exact z_.symm) kn (fun _ _ _ _ A h' => (by exact h'.sub (.cons _ (.cons _ (.cons _ (.cons _ (.cons _ (.cons_cons _ (.refl _))))))))) ?_
         rintro ⟨dh, eh⟩
         obtain ⟨il, nl⟩ := app_some u
         obtain ⟨gd, ko⟩ : ∃ y_, k ++ ([vI v]) = y_ := ⟨_, rfl⟩
         have pw : RepL (Rep.int .i64) F W a gd := by rw [il, ← ko]; exact RepL.app p fd
         refine ops_appendO (x := (Go.Operand.tmp 41)) (y := (Go.Operand.tmp 43)) (t := 22) (e := 3) (d := some 44) (n' := a.length) (z := 1) (m := ([v] : List Int).length) (bytes := 8) (xs' := gd) (news := ([vI v])) (zv := vI 0) 4 ⟨by kernel_rfl⟩ rfl rfl Try.underlying22 (by kernel_rfl) (by rfl) rfl (fun s i => i.srcO 1 rfl) fd.len fd.one nl (by have z_ := congrArg List.length il; rw [List.length_append] at z_; exact z_.symm) ko (fun _ _ _ _ A h' => (by exact h'.sub (.cons _ (.cons _ (.cons _ (.cons _ (.cons _ (.cons_cons _ (.refl _))))))))) ?_
         rintro ⟨ba, cc⟩
         refine oq [oT 16, oT 17] [(46, vP g 0), (44, sl ba a cc), (37, sl dh c eh), (30, vP g 0)] ?_
         refine oSS 2 0 [sl dh c eh] (fun w' h' => (by exact h'.sub (.cons _ (.cons _ (.cons _ (.cons _ (.cons _ (.cons_cons _ (.refl _))))))))) ?_
         refine oq [oT 19, oT 20] [(48, vP g 1), (44, sl ba a cc)] ?_
         refine oSS 2 1 [sl ba a cc] (fun w' h' => (by exact h'.sub (.cons _ (.cons _ (.cons _ (.cons _ (.cons _ (.cons_cons _ (.refl _))))))))) ?_
         refine ops_nil ?_
         exact fj E (dh, eh, c, gc, ba, cc, a, gd) ⟨D, pv, pw⟩ 6 [2, 3, 4, 5]
       ·
        refine tree_node ?_
        have U : RepL (Rep.int .i64) F W ([v] : List Int) ([vI v]) := (RepL.cons (R := (Rep.int .i64)) (F := F) (w := W) (vs := [vI v]) (ys := []) rfl RepL.nil)
        refine oBS 43 [vI v] 3 1 1 (fun se => ?_)
        refine ops_nil ?_
        refine tree_both ?_ ?_
        ·
         refine tree_node ?_
         have ag : RepL (Rep.int .i64) F W ([n] : List Int) ([vI n]) := (RepL.cons (R := (Rep.int .i64)) (F := F) (w := W) (vs := [vI n]) (ys := []) rfl RepL.nil)
         refine oBS 36 [vI n] 3 1 1 (fun sf => ?_)
         refine ops_nil ?_
         refine tree_both ?_ ?_
         ·
          refine tree_leaf ?_
          obtain ⟨im, nm⟩ := app_some B
          obtain ⟨ge, kp⟩ : ∃ y_, o ++ ([vI n]) = y_ := ⟨_, rfl⟩
          have px : RepL (Rep.int .i64) F W c ge := by rw [im, ← kp]; exact RepL.app q ag
          refine ops_appendO (x := (Go.Operand.tmp 34)) (y := (Go.Operand.tmp 36)) (t := 22) (e := 3) (d := some 37) (n' := c.length) (z := 1) (m := ([n] : List Int).length) (bytes := 8) (xs' := ge) (news := ([vI n])) (zv := vI 0) 3 ⟨by kernel_rfl⟩ rfl rfl Try.underlying22 (by kernel_rfl) (by rfl) rfl (fun s i => i.srcO 0 rfl) ag.len ag.one nm (by have z_ := congrArg List.length im; rw [List.length_append] at z_; exact z_.symm) kp (fun _ _ _ _ A h' => (by exact h'.sub (.cons _ (.cons _ (.cons _ (.cons _ (.cons _ (.cons_cons _ (.refl _))))))))) ?_
          rintro ⟨di, ei⟩
          refine oM 41 2 1 ?_
          obtain ⟨io, nn⟩ := app_some u
          obtain ⟨gf, kq⟩ : ∃ y_, k ++ ([vI v]) = y_ := ⟨_, rfl⟩
          have py : RepL (Rep.int .i64) F W a gf := by rw [io, ← kq]; exact RepL.app p U
          refine ops_appendO (x := (Go.Operand.tmp 41)) (y := (Go.Operand.tmp 43)) (t := 22) (e := 3) (d := some 44) (n' := a.length) (z := 1) (m := ([v] : List Int).length) (bytes := 8) (xs' := gf) (news := ([vI v])) (zv := vI 0) 4 ⟨by kernel_rfl⟩ rfl rfl Try.underlying22 (by kernel_rfl) (by rfl) rfl (fun s i => i.srcO 1 rfl) U.len U.one nn (by have z_ := congrArg List.length io; rw [List.length_append] at z_; exact z_.symm) kq (fun _ _ _ _ A h' => (by exact h'.sub (.cons _ (.cons _ (.cons _ (.cons _ (.cons _ (.cons_cons _ (.refl _))))))))) ?_
          rintro ⟨bb, cd⟩
          refine oq [oT 16, oT 17] [(46, vP g 0), (44, sl bb a cd), (37, sl di c ei), (30, vP g 0)] ?_
          refine oSS 2 0 [sl di c ei] (fun w' h' => (by exact h'.sub (.cons _ (.cons _ (.cons _ (.cons _ (.cons _ (.cons_cons _ (.refl _))))))))) ?_
          refine oq [oT 19, oT 20] [(48, vP g 1), (44, sl bb a cd)] ?_
          refine oSS 2 1 [sl bb a cd] (fun w' h' => (by exact h'.sub (.cons _ (.cons _ (.cons _ (.cons _ (.cons _ (.cons_cons _ (.refl _))))))))) ?_
          refine ops_nil ?_
          exact fj E (di, ei, c, ge, bb, cd, a, gf) ⟨D, px, py⟩ 6 [2, 3, 4, 5]
         ·
          refine tree_leaf ?_
          refine oM 41 2 1 ?_
          obtain ⟨ip, np⟩ := app_some B
          obtain ⟨gg, kr⟩ : ∃ y_, o ++ ([vI n]) = y_ := ⟨_, rfl⟩
          have pz : RepL (Rep.int .i64) F W c gg := by rw [ip, ← kr]; exact RepL.app q ag
          refine ops_appendO (x := (Go.Operand.tmp 34)) (y := (Go.Operand.tmp 36)) (t := 22) (e := 3) (d := some 37) (n' := c.length) (z := 1) (m := ([n] : List Int).length) (bytes := 8) (xs' := gg) (news := ([vI n])) (zv := vI 0) 3 ⟨by kernel_rfl⟩ rfl rfl Try.underlying22 (by kernel_rfl) (by rfl) rfl (fun s i => i.srcO 0 rfl) ag.len ag.one np (by have z_ := congrArg List.length ip; rw [List.length_append] at z_; exact z_.symm) kr (fun _ _ _ _ A h' => (by exact h'.sub (.cons _ (.cons _ (.cons _ (.cons _ (.cons _ (.cons_cons _ (.refl _))))))))) ?_
          rintro ⟨dj, ej⟩
          obtain ⟨iq, nq⟩ := app_some u
          obtain ⟨gh, ks⟩ : ∃ y_, k ++ ([vI v]) = y_ := ⟨_, rfl⟩
          have p0 : RepL (Rep.int .i64) F W a gh := by rw [iq, ← ks]; exact RepL.app p U
          refine ops_appendO (x := (Go.Operand.tmp 41)) (y := (Go.Operand.tmp 43)) (t := 22) (e := 3) (d := some 44) (n' := a.length) (z := 1) (m := ([v] : List Int).length) (bytes := 8) (xs' := gh) (news := ([vI v])) (zv := vI 0) 4 ⟨by kernel_rfl⟩ rfl rfl Try.underlying22 (by kernel_rfl) (by rfl) rfl (fun s i => i.srcO 1 rfl) U.len U.one nq (by have z_ := congrArg List.length iq; rw [List.length_append] at z_; exact z_.symm) ks (fun _ _ _ _ A h' => (by exact h'.sub (.cons _ (.cons _ (.cons _ (.cons _ (.cons _ (.cons_cons _ (.refl _))))))))) ?_
          rintro ⟨bc, ce⟩
          refine oq [oT 16, oT 17] [(46, vP g 0), (44, sl bc a ce), (37, sl dj c ej), (30, vP g 0)] ?_
          refine oSS 2 0 [sl dj c ej] (fun w' h' => (by exact h'.sub (.cons _ (.cons _ (.cons _ (.cons _ (.cons _ (.cons_cons _ (.refl _))))))))) ?_
          refine oq [oT 19, oT 20] [(48, vP g 1), (44, sl bc a ce)] ?_
          refine oSS 2 1 [sl bc a ce] (fun w' h' => (by exact h'.sub (.cons _ (.cons _ (.cons _ (.cons _ (.cons _ (.cons_cons _ (.refl _))))))))) ?_
          refine ops_nil ?_
          exact fj E (dj, ej, c, gg, bc, ce, a, gh) ⟨D, pz, p0⟩ 6 [2, 3, 4, 5]
        ·
         refine tree_leaf ?_
         refine oM 41 1 1 ?_
         have ff : RepL (Rep.int .i64) F W ([n] : List Int) ([vI n]) := (RepL.cons (R := (Rep.int .i64)) (F := F) (w := W) (vs := [vI n]) (ys := []) rfl RepL.nil)
         refine oBS 36 [vI n] 3 1 1 (fun sg => ?_)
         obtain ⟨ir, nr⟩ := app_some B
         obtain ⟨gi, kt⟩ : ∃ y_, o ++ ([vI n]) = y_ := ⟨_, rfl⟩
         have p1 : RepL (Rep.int .i64) F W c gi := by rw [ir, ← kt]; exact RepL.app q ff
         refine ops_appendO (x := (Go.Operand.tmp 34)) (y := (Go.Operand.tmp 36)) (t := 22) (e := 3) (d := some 37) (n' := c.length) (z := 1) (m := ([n] : List Int).length) (bytes := 8) (xs' := gi) (news := ([vI n])) (zv := vI 0) 3 ⟨by kernel_rfl⟩ rfl rfl Try.underlying22 (by kernel_rfl) (by rfl) rfl (fun s i => i.srcO 0 rfl) ff.len ff.one nr (by have z_ := congrArg List.length ir; rw [List.length_append] at z_; exact z_.symm) kt (fun _ _ _ _ A h' => (by exact h'.sub (.cons _ (.cons _ (.cons _ (.cons _ (.cons _ (.cons_cons _ (.refl _))))))))) ?_
         rintro ⟨dk, ek⟩
         obtain ⟨it, ns⟩ := app_some u
         obtain ⟨gj, ku⟩ : ∃ y_, k ++ ([vI v]) = y_ := ⟨_, rfl⟩
         have p2 : RepL (Rep.int .i64) F W a gj := by rw [it, ← ku]; exact RepL.app p U
         refine ops_appendO (x := (Go.Operand.tmp 41)) (y := (Go.Operand.tmp 43)) (t := 22) (e := 3) (d := some 44) (n' := a.length) (z := 1) (m := ([v] : List Int).length) (bytes := 8) (xs' := gj) (news := ([vI v])) (zv := vI 0) 4 ⟨by kernel_rfl⟩ rfl rfl Try.underlying22 (by kernel_rfl) (by rfl) rfl (fun s i => i.srcO 1 rfl) U.len U.one ns (by have z_ := congrArg List.length it; rw [List.length_append] at z_; exact z_.symm) ku (fun _ _ _ _ A h' => (by exact h'.sub (.cons _ (.cons _ (.cons _ (.cons _ (.cons _ (.cons_cons _ (.refl _))))))))) ?_
         rintro ⟨bd, cf⟩
         refine oq [oT 16, oT 17] [(46, vP g 0), (44, sl bd a cf), (37, sl dk c ek), (30, vP g 0)] ?_
         refine oSS 2 0 [sl dk c ek] (fun w' h' => (by exact h'.sub (.cons _ (.cons _ (.cons _ (.cons _ (.cons _ (.cons_cons _ (.refl _))))))))) ?_
         refine oq [oT 19, oT 20] [(48, vP g 1), (44, sl bd a cf)] ?_
         refine oSS 2 1 [sl bd a cf] (fun w' h' => (by exact h'.sub (.cons _ (.cons _ (.cons _ (.cons _ (.cons _ (.cons_cons _ (.refl _))))))))) ?_
         refine ops_nil ?_
         exact fj E (dk, ek, c, gi, bd, cf, a, gj) ⟨D, p1, p2⟩ 6 [2, 3, 4, 5]
     ·
      refine tree_ways ?_ ?_
      ·
       refine tree_node ?_
       have C : RepL (Rep.int .i64) F W ([n] : List Int) ([vI n]) := (RepL.cons (R := (Rep.int .i64)) (F := F) (w := W) (vs := [vI n]) (ys := []) rfl RepL.nil)
       refine oBS 36 [vI n] 3 1 1 (fun sh => ?_)
       refine ops_nil ?_
       refine tree_both ?_ ?_
       ·
        refine tree_node ?_
        refine oM 34 1 0 ?_
        refine ops_nil ?_
        refine tree_both ?_ ?_
        ·
         refine tree_node ?_
         obtain ⟨iu, nt⟩ := app_some B
         obtain ⟨db, kv⟩ : ∃ y_, o ++ ([vI n]) = y_ := ⟨_, rfl⟩
         have mi : RepL (Rep.int .i64) F W c db := by rw [iu, ← kv]; exact RepL.app q C
         refine ops_appendO (x := (Go.Operand.tmp 34)) (y := (Go.Operand.tmp 36)) (t := 22) (e := 3) (d := some 37) (n' := c.length) (z := 1) (m := ([n] : List Int).length) (bytes := 8) (xs' := db) (news := ([vI n])) (zv := vI 0) 2 ⟨by kernel_rfl⟩ rfl rfl Try.underlying22 (by kernel_rfl) (by rfl) rfl (fun s i => i.srcO 0 rfl) C.len C.one nt (by have z_ := congrArg List.length iu; rw [List.length_append] at z_; exact z_.symm) kv (fun _ _ _ _ A h' => (by exact h'.sub (.cons _ (.cons _ (.cons _ (.cons _ (.cons_cons _ (.refl _)))))))) ?_
         rintro ⟨ac, ad⟩
         refine ops_nil ?_
         refine tree_both ?_ ?_
         ·
          refine tree_leaf ?_
          refine oM 41 1 1 ?_
          have fg : RepL (Rep.int .i64) F W ([v] : List Int) ([vI v]) := (RepL.cons (R := (Rep.int .i64)) (F := F) (w := W) (vs := [vI v]) (ys := []) rfl RepL.nil)
          refine oBS 43 [vI v] 3 1 1 (fun si => ?_)
          obtain ⟨iv, nu⟩ := app_some u
          obtain ⟨gk, kw⟩ : ∃ y_, k ++ ([vI v]) = y_ := ⟨_, rfl⟩
          have p3 : RepL (Rep.int .i64) F W a gk := by rw [iv, ← kw]; exact RepL.app p fg
          refine ops_appendO (x := (Go.Operand.tmp 41)) (y := (Go.Operand.tmp 43)) (t := 22) (e := 3) (d := some 44) (n' := a.length) (z := 1) (m := ([v] : List Int).length) (bytes := 8) (xs' := gk) (news := ([vI v])) (zv := vI 0) 4 ⟨by kernel_rfl⟩ rfl rfl Try.underlying22 (by kernel_rfl) (by rfl) rfl (fun s i => i.srcO 0 rfl) fg.len fg.one nu (by have z_ := congrArg List.length iv; rw [List.length_append] at z_; exact z_.symm) kw (fun _ _ _ _ A h' => (by exact h'.sub (.cons _ (.cons _ (.cons _ (.cons _ (.cons _ (.cons_cons _ (.refl _))))))))) ?_
          rintro ⟨be, cg⟩
          refine oq [oT 16, oT 17] [(46, vP g 0), (44, sl be a cg), (37, sl ac c ad), (30, vP g 0)] ?_
          refine oSS 2 0 [sl ac c ad] (fun w' h' => (by exact h'.sub (.cons _ (.cons _ (.cons _ (.cons _ (.cons _ (.cons_cons _ (.refl _))))))))) ?_
          refine oq [oT 19, oT 20] [(48, vP g 1), (44, sl be a cg)] ?_
          refine oSS 2 1 [sl be a cg] (fun w' h' => (by exact h'.sub (.cons _ (.cons _ (.cons _ (.cons _ (.cons _ (.cons_cons _ (.refl _))))))))) ?_
          refine ops_nil ?_
          exact fj E (ac, ad, c, db, be, cg, a, gk) ⟨D, mi, p3⟩ 6 [2, 3, 4, 5]
         ·
          refine tree_leaf ?_
          have fh : RepL (Rep.int .i64) F W ([v] : List Int) ([vI v]) := (RepL.cons (R := (Rep.int .i64)) (F := F) (w := W) (vs := [vI v]) (ys := []) rfl RepL.nil)
          refine oBS 43 [vI v] 3 1 1 (fun sj => ?_)
          refine oM 41 2 1 ?_
          obtain ⟨iw, nv⟩ := app_some u
          obtain ⟨gl, kx⟩ : ∃ y_, k ++ ([vI v]) = y_ := ⟨_, rfl⟩
          have p4 : RepL (Rep.int .i64) F W a gl := by rw [iw, ← kx]; exact RepL.app p fh
          refine ops_appendO (x := (Go.Operand.tmp 41)) (y := (Go.Operand.tmp 43)) (t := 22) (e := 3) (d := some 44) (n' := a.length) (z := 1) (m := ([v] : List Int).length) (bytes := 8) (xs' := gl) (news := ([vI v])) (zv := vI 0) 4 ⟨by kernel_rfl⟩ rfl rfl Try.underlying22 (by kernel_rfl) (by rfl) rfl (fun s i => i.srcO 0 rfl) fh.len fh.one nv (by have z_ := congrArg List.length iw; rw [List.length_append] at z_; exact z_.symm) kx (fun _ _ _ _ A h' => (by exact h'.sub (.cons _ (.cons _ (.cons _ (.cons _ (.cons _ (.cons_cons _ (.refl _))))))))) ?_
          rintro ⟨bf, ch⟩
          refine oq [oT 16, oT 17] [(46, vP g 0), (44, sl bf a ch), (37, sl ac c ad), (30, vP g 0)] ?_
          refine oSS 2 0 [sl ac c ad] (fun w' h' => (by exact h'.sub (.cons _ (.cons _ (.cons _ (.cons _ (.cons _ (.cons_cons _ (.refl _))))))))) ?_
          refine oq [oT 19, oT 20] [(48, vP g 1), (44, sl bf a ch)] ?_
          refine oSS 2 1 [sl bf a ch] (fun w' h' => (by exact h'.sub (.cons _ (.cons _ (.cons _ (.cons _ (.cons _ (.cons_cons _ (.refl _))))))))) ?_
          refine ops_nil ?_
          exact fj E (ac, ad, c, db, bf, ch, a, gl) ⟨D, mi, p4⟩ 6 [2, 3, 4, 5]
        ·
         refine tree_ways ?_ ?_
         ·
          refine tree_node ?_
          refine oM 41 1 1 ?_
          refine ops_nil ?_
          refine tree_both ?_ ?_
          ·
           refine tree_leaf ?_
           obtain ⟨ix, nw⟩ := app_some B
           obtain ⟨gm, ky⟩ : ∃ y_, o ++ ([vI n]) = y_ := ⟨_, rfl⟩
           have p5 : RepL (Rep.int .i64) F W c gm := by rw [ix, ← ky]; exact RepL.app q C
           refine ops_appendO (x := (Go.Operand.tmp 34)) (y := (Go.Operand.tmp 36)) (t := 22) (e := 3) (d := some 37) (n' := c.length) (z := 1) (m := ([n] : List Int).length) (bytes := 8) (xs' := gm) (news := ([vI n])) (zv := vI 0) 2 ⟨by kernel_rfl⟩ rfl rfl Try.underlying22 (by kernel_rfl) (by rfl) rfl (fun s i => i.srcO 0 rfl) C.len C.one nw (by have z_ := congrArg List.length ix; rw [List.length_append] at z_; exact z_.symm) ky (fun _ _ _ _ A h' => (by exact h'.sub (.cons _ (.cons _ (.cons _ (.cons _ (.cons_cons _ (.refl _)))))))) ?_
           rintro ⟨dl, el⟩
           have fi : RepL (Rep.int .i64) F W ([v] : List Int) ([vI v]) := (RepL.cons (R := (Rep.int .i64)) (F := F) (w := W) (vs := [vI v]) (ys := []) rfl RepL.nil)
           refine oBS 43 [vI v] 3 1 1 (fun sk => ?_)
           obtain ⟨iy, nx⟩ := app_some u
           obtain ⟨gn, kz⟩ : ∃ y_, k ++ ([vI v]) = y_ := ⟨_, rfl⟩
           have p6 : RepL (Rep.int .i64) F W a gn := by rw [iy, ← kz]; exact RepL.app p fi
           refine ops_appendO (x := (Go.Operand.tmp 41)) (y := (Go.Operand.tmp 43)) (t := 22) (e := 3) (d := some 44) (n' := a.length) (z := 1) (m := ([v] : List Int).length) (bytes := 8) (xs' := gn) (news := ([vI v])) (zv := vI 0) 4 ⟨by kernel_rfl⟩ rfl rfl Try.underlying22 (by kernel_rfl) (by rfl) rfl (fun s i => i.srcO 0 rfl) fi.len fi.one nx (by have z_ := congrArg List.length iy; rw [List.length_append] at z_; exact z_.symm) kz (fun _ _ _ _ A h' => (by exact h'.sub (.cons _ (.cons _ (.cons _ (.cons _ (.cons _ (.cons_cons _ (.refl _))))))))) ?_
           rintro ⟨bg, ci⟩
           refine oq [oT 16, oT 17] [(46, vP g 0), (44, sl bg a ci), (37, sl dl c el), (30, vP g 0)] ?_
           refine oSS 2 0 [sl dl c el] (fun w' h' => (by exact h'.sub (.cons _ (.cons _ (.cons _ (.cons _ (.cons _ (.cons_cons _ (.refl _))))))))) ?_
           refine oq [oT 19, oT 20] [(48, vP g 1), (44, sl bg a ci)] ?_
           refine oSS 2 1 [sl bg a ci] (fun w' h' => (by exact h'.sub (.cons _ (.cons _ (.cons _ (.cons _ (.cons _ (.cons_cons _ (.refl _))))))))) ?_
           refine ops_nil ?_
           exact fj E (dl, el, c, gm, bg, ci, a, gn) ⟨D, p5, p6⟩ 6 [2, 3, 4, 5]
          ·
           refine tree_leaf ?_
           have fk : RepL (Rep.int .i64) F W ([v] : List Int) ([vI v]) := (RepL.cons (R := (Rep.int .i64)) (F := F) (w := W) (vs := [vI v]) (ys := []) rfl RepL.nil)
           refine oBS 43 [vI v] 3 1 1 (fun sm => ?_)
           obtain ⟨iz, ny⟩ := app_some B
           obtain ⟨go, k0⟩ : ∃ y_, o ++ ([vI n]) = y_ := ⟨_, rfl⟩
           have p7 : RepL (Rep.int .i64) F W c go := by rw [iz, ← k0]; exact RepL.app q C
           refine ops_appendO (x := (Go.Operand.tmp 34)) (y := (Go.Operand.tmp 36)) (t := 22) (e := 3) (d := some 37) (n' := c.length) (z := 1) (m := ([n] : List Int).length) (bytes := 8) (xs' := go) (news := ([vI n])) (zv := vI 0) 3 ⟨by kernel_rfl⟩ rfl rfl Try.underlying22 (by kernel_rfl) (by rfl) rfl (fun s i => i.srcO 1 rfl) C.len C.one ny (by have z_ := congrArg List.length iz; rw [List.length_append] at z_; exact z_.symm) k0 (fun _ _ _ _ A h' => (by exact h'.sub (.cons _ (.cons _ (.cons _ (.cons _ (.cons _ (.cons_cons _ (.refl _))))))))) ?_
           rintro ⟨dm, em⟩
           obtain ⟨i0, nz⟩ := app_some u
           obtain ⟨gp, k1⟩ : ∃ y_, k ++ ([vI v]) = y_ := ⟨_, rfl⟩
           have p8 : RepL (Rep.int .i64) F W a gp := by rw [i0, ← k1]; exact RepL.app p fk
           refine ops_appendO (x := (Go.Operand.tmp 41)) (y := (Go.Operand.tmp 43)) (t := 22) (e := 3) (d := some 44) (n' := a.length) (z := 1) (m := ([v] : List Int).length) (bytes := 8) (xs' := gp) (news := ([vI v])) (zv := vI 0) 4 ⟨by kernel_rfl⟩ rfl rfl Try.underlying22 (by kernel_rfl) (by rfl) rfl (fun s i => i.srcO 0 rfl) fk.len fk.one nz (by have z_ := congrArg List.length i0; rw [List.length_append] at z_; exact z_.symm) k1 (fun _ _ _ _ A h' => (by exact h'.sub (.cons _ (.cons _ (.cons _ (.cons _ (.cons _ (.cons_cons _ (.refl _))))))))) ?_
           rintro ⟨bh, cj⟩
           refine oq [oT 16, oT 17] [(46, vP g 0), (44, sl bh a cj), (37, sl dm c em), (30, vP g 0)] ?_
           refine oSS 2 0 [sl dm c em] (fun w' h' => (by exact h'.sub (.cons _ (.cons _ (.cons _ (.cons _ (.cons _ (.cons_cons _ (.refl _))))))))) ?_
           refine oq [oT 19, oT 20] [(48, vP g 1), (44, sl bh a cj)] ?_
           refine oSS 2 1 [sl bh a cj] (fun w' h' => (by exact h'.sub (.cons _ (.cons _ (.cons _ (.cons _ (.cons _ (.cons_cons _ (.refl _))))))))) ?_
           refine ops_nil ?_
           exact fj E (dm, em, c, go, bh, cj, a, gp) ⟨D, p7, p8⟩ 6 [2, 3, 4, 5]
         ·
          refine tree_node ?_
          have ah : RepL (Rep.int .i64) F W ([v] : List Int) ([vI v]) := (RepL.cons (R := (Rep.int .i64)) (F := F) (w := W) (vs := [vI v]) (ys := []) rfl RepL.nil)
          refine oBS 43 [vI v] 3 1 1 (fun sn => ?_)
          refine ops_nil ?_
          refine tree_both ?_ ?_
          ·
           refine tree_leaf ?_
           obtain ⟨i1, n0⟩ := app_some B
           obtain ⟨gq, k2⟩ : ∃ y_, o ++ ([vI n]) = y_ := ⟨_, rfl⟩
           have p9 : RepL (Rep.int .i64) F W c gq := by rw [i1, ← k2]; exact RepL.app q C
           refine ops_appendO (x := (Go.Operand.tmp 34)) (y := (Go.Operand.tmp 36)) (t := 22) (e := 3) (d := some 37) (n' := c.length) (z := 1) (m := ([n] : List Int).length) (bytes := 8) (xs' := gq) (news := ([vI n])) (zv := vI 0) 3 ⟨by kernel_rfl⟩ rfl rfl Try.underlying22 (by kernel_rfl) (by rfl) rfl (fun s i => i.srcO 1 rfl) C.len C.one n0 (by have z_ := congrArg List.length i1; rw [List.length_append] at z_; exact z_.symm) k2 (fun _ _ _ _ A h' => (by exact h'.sub (.cons _ (.cons _ (.cons _ (.cons _ (.cons _ (.cons_cons _ (.refl _))))))))) ?_
           rintro ⟨dn, en⟩
           refine oM 41 2 1 ?_
           obtain ⟨i2, n1⟩ := app_some u
           obtain ⟨gr, k3⟩ : ∃ y_, k ++ ([vI v]) = y_ := ⟨_, rfl⟩
           have qa : RepL (Rep.int .i64) F W a gr := by rw [i2, ← k3]; exact RepL.app p ah
           refine ops_appendO (x := (Go.Operand.tmp 41)) (y := (Go.Operand.tmp 43)) (t := 22) (e := 3) (d := some 44) (n' := a.length) (z := 1) (m := ([v] : List Int).length) (bytes := 8) (xs' := gr) (news := ([vI v])) (zv := vI 0) 4 ⟨by kernel_rfl⟩ rfl rfl Try.underlying22 (by kernel_rfl) (by rfl) rfl (fun s i => i.srcO 0 rfl) ah.len ah.one n1 (by have z_ := congrArg List.length i2; rw [List.length_append] at z_; exact z_.symm) k3 (fun _ _ _ _ A h' => (by exact h'.sub (.cons _ (.cons _ (.cons _ (.cons _ (.cons _ (.cons_cons _ (.refl _))))))))) ?_
           rintro ⟨bi, ck⟩
           refine oq [oT 16, oT 17] [(46, vP g 0), (44, sl bi a ck), (37, sl dn c en), (30, vP g 0)] ?_
           refine oSS 2 0 [sl dn c en] (fun w' h' => (by exact h'.sub (.cons _ (.cons _ (.cons _ (.cons _ (.cons _ (.cons_cons _ (.refl _))))))))) ?_
           refine oq [oT 19, oT 20] [(48, vP g 1), (44, sl bi a ck)] ?_
           refine oSS 2 1 [sl bi a ck] (fun w' h' => (by exact h'.sub (.cons _ (.cons _ (.cons _ (.cons _ (.cons _ (.cons_cons _ (.refl _))))))))) ?_
           refine ops_nil ?_
           exact fj E (dn, en, c, gq, bi, ck, a, gr) ⟨D, p9, qa⟩ 6 [2, 3, 4, 5]
          ·
           refine tree_leaf ?_
           refine oM 41 2 1 ?_
           obtain ⟨i3, n2⟩ := app_some B
           obtain ⟨gs, k4⟩ : ∃ y_, o ++ ([vI n]) = y_ := ⟨_, rfl⟩
           have qb : RepL (Rep.int .i64) F W c gs := by rw [i3, ← k4]; exact RepL.app q C
           refine ops_appendO (x := (Go.Operand.tmp 34)) (y := (Go.Operand.tmp 36)) (t := 22) (e := 3) (d := some 37) (n' := c.length) (z := 1) (m := ([n] : List Int).length) (bytes := 8) (xs' := gs) (news := ([vI n])) (zv := vI 0) 3 ⟨by kernel_rfl⟩ rfl rfl Try.underlying22 (by kernel_rfl) (by rfl) rfl (fun s i => i.srcO 1 rfl) C.len C.one n2 (by have z_ := congrArg List.length i3; rw [List.length_append] at z_; exact z_.symm) k4 (fun _ _ _ _ A h' => (by exact h'.sub (.cons _ (.cons _ (.cons _ (.cons _ (.cons _ (.cons_cons _ (.refl _))))))))) ?_
           rintro ⟨dp, eo⟩
           obtain ⟨i4, n3⟩ := app_some u
           obtain ⟨gt, k5⟩ : ∃ y_, k ++ ([vI v]) = y_ := ⟨_, rfl⟩
           have qc : RepL (Rep.int .i64) F W a gt := by rw [i4, ← k5]; exact RepL.app p ah
           refine ops_appendO (x := (Go.Operand.tmp 41)) (y := (Go.Operand.tmp 43)) (t := 22) (e := 3) (d := some 44) (n' := a.length) (z := 1) (m := ([v] : List Int).length) (bytes := 8) (xs' := gt) (news := ([vI v])) (zv := vI 0) 4 ⟨by kernel_rfl⟩ rfl rfl Try.underlying22 (by kernel_rfl) (by rfl) rfl (fun s i => i.srcO 0 rfl) ah.len ah.one n3 (by have z_ := congrArg List.length i4; rw [List.length_append] at z_; exact z_.symm) k5 (fun _ _ _ _ A h' => (by exact h'.sub (.cons _ (.cons _ (.cons _ (.cons _ (.cons _ (.cons_cons _ (.refl _))))))))) ?_
           rintro ⟨bj, cl⟩
           refine oq [oT 16, oT 17] [(46, vP g 0), (44, sl bj a cl), (37, sl dp c eo), (30, vP g 0)] ?_
           refine oSS 2 0 [sl dp c eo] (fun w' h' => (by exact h'.sub (.cons _ (.cons _ (.cons _ (.cons _ (.cons _ (.cons_cons _ (.refl _))))))))) ?_
           refine oq [oT 19, oT 20] [(48, vP g 1), (44, sl bj a cl)] ?_
           refine oSS 2 1 [sl bj a cl] (fun w' h' => (by exact h'.sub (.cons _ (.cons _ (.cons _ (.cons _ (.cons _ (.cons_cons _ (.refl _))))))))) ?_
           refine ops_nil ?_
           exact fj E (dp, eo, c, gs, bj, cl, a, gt) ⟨D, qb, qc⟩ 6 [2, 3, 4, 5]
       ·
        refine tree_ways ?_ ?_
        ·
         refine tree_node ?_
         refine oM 41 1 1 ?_
         refine ops_nil ?_
         refine tree_both ?_ ?_
         ·
          refine tree_node ?_
          refine oM 34 1 0 ?_
          refine ops_nil ?_
          refine tree_both ?_ ?_
          ·
           refine tree_leaf ?_
           obtain ⟨i5, n4⟩ := app_some B
           obtain ⟨gu, k6⟩ : ∃ y_, o ++ ([vI n]) = y_ := ⟨_, rfl⟩
           have qd : RepL (Rep.int .i64) F W c gu := by rw [i5, ← k6]; exact RepL.app q C
           refine ops_appendO (x := (Go.Operand.tmp 34)) (y := (Go.Operand.tmp 36)) (t := 22) (e := 3) (d := some 37) (n' := c.length) (z := 1) (m := ([n] : List Int).length) (bytes := 8) (xs' := gu) (news := ([vI n])) (zv := vI 0) 2 ⟨by kernel_rfl⟩ rfl rfl Try.underlying22 (by kernel_rfl) (by rfl) rfl (fun s i => i.srcO 0 rfl) C.len C.one n4 (by have z_ := congrArg List.length i5; rw [List.length_append] at z_; exact z_.symm) k6 (fun _ _ _ _ A h' => (by exact h'.sub (.cons _ (.cons _ (.cons _ (.cons _ (.cons_cons _ (.refl _)))))))) ?_
           rintro ⟨dq, ep⟩
           have fl : RepL (Rep.int .i64) F W ([v] : List Int) ([vI v]) := (RepL.cons (R := (Rep.int .i64)) (F := F) (w := W) (vs := [vI v]) (ys := []) rfl RepL.nil)
           refine oBS 43 [vI v] 3 1 1 (fun so => ?_)
           obtain ⟨i6, n5⟩ := app_some u
           obtain ⟨gv, k7⟩ : ∃ y_, k ++ ([vI v]) = y_ := ⟨_, rfl⟩
           have qe : RepL (Rep.int .i64) F W a gv := by rw [i6, ← k7]; exact RepL.app p fl
           refine ops_appendO (x := (Go.Operand.tmp 41)) (y := (Go.Operand.tmp 43)) (t := 22) (e := 3) (d := some 44) (n' := a.length) (z := 1) (m := ([v] : List Int).length) (bytes := 8) (xs' := gv) (news := ([vI v])) (zv := vI 0) 4 ⟨by kernel_rfl⟩ rfl rfl Try.underlying22 (by kernel_rfl) (by rfl) rfl (fun s i => i.srcO 0 rfl) fl.len fl.one n5 (by have z_ := congrArg List.length i6; rw [List.length_append] at z_; exact z_.symm) k7 (fun _ _ _ _ A h' => (by exact h'.sub (.cons _ (.cons _ (.cons _ (.cons _ (.cons _ (.cons_cons _ (.refl _))))))))) ?_
           rintro ⟨bk, cm⟩
           refine oq [oT 16, oT 17] [(46, vP g 0), (44, sl bk a cm), (37, sl dq c ep), (30, vP g 0)] ?_
           refine oSS 2 0 [sl dq c ep] (fun w' h' => (by exact h'.sub (.cons _ (.cons _ (.cons _ (.cons _ (.cons _ (.cons_cons _ (.refl _))))))))) ?_
           refine oq [oT 19, oT 20] [(48, vP g 1), (44, sl bk a cm)] ?_
           refine oSS 2 1 [sl bk a cm] (fun w' h' => (by exact h'.sub (.cons _ (.cons _ (.cons _ (.cons _ (.cons _ (.cons_cons _ (.refl _))))))))) ?_
           refine ops_nil ?_
           exact fj E (dq, ep, c, gu, bk, cm, a, gv) ⟨D, qd, qe⟩ 6 [2, 3, 4, 5]
          ·
           refine tree_leaf ?_
           have fm : RepL (Rep.int .i64) F W ([v] : List Int) ([vI v]) := (RepL.cons (R := (Rep.int .i64)) (F := F) (w := W) (vs := [vI v]) (ys := []) rfl RepL.nil)
           refine oBS 43 [vI v] 3 1 1 (fun sp => ?_)
           obtain ⟨i7, n6⟩ := app_some B
           obtain ⟨gw, k8⟩ : ∃ y_, o ++ ([vI n]) = y_ := ⟨_, rfl⟩
           have qf : RepL (Rep.int .i64) F W c gw := by rw [i7, ← k8]; exact RepL.app q C
           refine ops_appendO (x := (Go.Operand.tmp 34)) (y := (Go.Operand.tmp 36)) (t := 22) (e := 3) (d := some 37) (n' := c.length) (z := 1) (m := ([n] : List Int).length) (bytes := 8) (xs' := gw) (news := ([vI n])) (zv := vI 0) 3 ⟨by kernel_rfl⟩ rfl rfl Try.underlying22 (by kernel_rfl) (by rfl) rfl (fun s i => i.srcO 1 rfl) C.len C.one n6 (by have z_ := congrArg List.length i7; rw [List.length_append] at z_; exact z_.symm) k8 (fun _ _ _ _ A h' => (by exact h'.sub (.cons _ (.cons _ (.cons _ (.cons _ (.cons _ (.cons_cons _ (.refl _))))))))) ?_
           rintro ⟨dr, eq⟩
           obtain ⟨i8, n7⟩ := app_some u
           obtain ⟨gx, k9⟩ : ∃ y_, k ++ ([vI v]) = y_ := ⟨_, rfl⟩
           have qg : RepL (Rep.int .i64) F W a gx := by rw [i8, ← k9]; exact RepL.app p fm
           refine ops_appendO (x := (Go.Operand.tmp 41)) (y := (Go.Operand.tmp 43)) (t := 22) (e := 3) (d := some 44) (n' := a.length) (z := 1) (m := ([v] : List Int).length) (bytes := 8) (xs' := gx) (news := ([vI v])) (zv := vI 0) 4 ⟨by kernel_rfl⟩ rfl rfl Try.underlying22 (by kernel_rfl) (by rfl) rfl (fun s i => i.srcO 0 rfl) fm.len fm.one n7 (by have z_ := congrArg List.length i8; rw [List.length_append] at z_; exact z_.symm) k9 (fun _ _ _ _ A h' => (by exact h'.sub (.cons _ (.cons _ (.cons _ (.cons _ (.cons _ (.cons_cons _ (.refl _))))))))) ?_
           rintro ⟨bl, cn⟩
           refine oq [oT 16, oT 17] [(46, vP g 0), (44, sl bl a cn), (37, sl dr c eq), (30, vP g 0)] ?_
           refine oSS 2 0 [sl dr c eq] (fun w' h' => (by exact h'.sub (.cons _ (.cons _ (.cons _ (.cons _ (.cons _ (.cons_cons _ (.refl _))))))))) ?_
           refine oq [oT 19, oT 20] [(48, vP g 1), (44, sl bl a cn)] ?_
           refine oSS 2 1 [sl bl a cn] (fun w' h' => (by exact h'.sub (.cons _ (.cons _ (.cons _ (.cons _ (.cons _ (.cons_cons _ (.refl _))))))))) ?_
           refine ops_nil ?_
           exact fj E (dr, eq, c, gw, bl, cn, a, gx) ⟨D, qf, qg⟩ 6 [2, 3, 4, 5]
         ·
          refine tree_leaf ?_
          have fn : RepL (Rep.int .i64) F W ([v] : List Int) ([vI v]) := (RepL.cons (R := (Rep.int .i64)) (F := F) (w := W) (vs := [vI v]) (ys := []) rfl RepL.nil)
          refine oBS 43 [vI v] 3 1 1 (fun sq => ?_)
          refine oM 34 2 0 ?_
          obtain ⟨i9, n8⟩ := app_some B
          obtain ⟨gy, la⟩ : ∃ y_, o ++ ([vI n]) = y_ := ⟨_, rfl⟩
          have qh : RepL (Rep.int .i64) F W c gy := by rw [i9, ← la]; exact RepL.app q C
          refine ops_appendO (x := (Go.Operand.tmp 34)) (y := (Go.Operand.tmp 36)) (t := 22) (e := 3) (d := some 37) (n' := c.length) (z := 1) (m := ([n] : List Int).length) (bytes := 8) (xs' := gy) (news := ([vI n])) (zv := vI 0) 3 ⟨by kernel_rfl⟩ rfl rfl Try.underlying22 (by kernel_rfl) (by rfl) rfl (fun s i => i.srcO 1 rfl) C.len C.one n8 (by have z_ := congrArg List.length i9; rw [List.length_append] at z_; exact z_.symm) la (fun _ _ _ _ A h' => (by exact h'.sub (.cons _ (.cons _ (.cons _ (.cons _ (.cons _ (.cons_cons _ (.refl _))))))))) ?_
          rintro ⟨ds, er⟩
          obtain ⟨ja, n9⟩ := app_some u
          obtain ⟨gz, lb⟩ : ∃ y_, k ++ ([vI v]) = y_ := ⟨_, rfl⟩
          have qi : RepL (Rep.int .i64) F W a gz := by rw [ja, ← lb]; exact RepL.app p fn
          refine ops_appendO (x := (Go.Operand.tmp 41)) (y := (Go.Operand.tmp 43)) (t := 22) (e := 3) (d := some 44) (n' := a.length) (z := 1) (m := ([v] : List Int).length) (bytes := 8) (xs' := gz) (news := ([vI v])) (zv := vI 0) 4 ⟨by kernel_rfl⟩ rfl rfl Try.underlying22 (by kernel_rfl) (by rfl) rfl (fun s i => i.srcO 0 rfl) fn.len fn.one n9 (by have z_ := congrArg List.length ja; rw [List.length_append] at z_; exact z_.symm) lb (fun _ _ _ _ A h' => (by exact h'.sub (.cons _ (.cons _ (.cons _ (.cons _ (.cons _ (.cons_cons _ (.refl _))))))))) ?_
          rintro ⟨bm, co⟩
          refine oq [oT 16, oT 17] [(46, vP g 0), (44, sl bm a co), (37, sl ds c er), (30, vP g 0)] ?_
          refine oSS 2 0 [sl ds c er] (fun w' h' => (by exact h'.sub (.cons _ (.cons _ (.cons _ (.cons _ (.cons _ (.cons_cons _ (.refl _))))))))) ?_
          refine oq [oT 19, oT 20] [(48, vP g 1), (44, sl bm a co)] ?_
          refine oSS 2 1 [sl bm a co] (fun w' h' => (by exact h'.sub (.cons _ (.cons _ (.cons _ (.cons _ (.cons _ (.cons_cons _ (.refl _))))))))) ?_
          refine ops_nil ?_
          exact fj E (ds, er, c, gy, bm, co, a, gz) ⟨D, qh, qi⟩ 6 [2, 3, 4, 5]
        ·
         refine tree_node ?_
         have V : RepL (Rep.int .i64) F W ([v] : List Int) ([vI v]) := (RepL.cons (R := (Rep.int .i64)) (F := F) (w := W) (vs := [vI v]) (ys := []) rfl RepL.nil)
         refine oBS 43 [vI v] 3 1 1 (fun sr => ?_)
         refine ops_nil ?_
         refine tree_both ?_ ?_
         ·
          refine tree_node ?_
          refine oM 34 2 0 ?_
          refine ops_nil ?_
          refine tree_both ?_ ?_
          ·
           refine tree_leaf ?_
           obtain ⟨jb, oa⟩ := app_some B
           obtain ⟨g0, lc⟩ : ∃ y_, o ++ ([vI n]) = y_ := ⟨_, rfl⟩
           have qj : RepL (Rep.int .i64) F W c g0 := by rw [jb, ← lc]; exact RepL.app q C
           refine ops_appendO (x := (Go.Operand.tmp 34)) (y := (Go.Operand.tmp 36)) (t := 22) (e := 3) (d := some 37) (n' := c.length) (z := 1) (m := ([n] : List Int).length) (bytes := 8) (xs' := g0) (news := ([vI n])) (zv := vI 0) 3 ⟨by kernel_rfl⟩ rfl rfl Try.underlying22 (by kernel_rfl) (by rfl) rfl (fun s i => i.srcO 1 rfl) C.len C.one oa (by have z_ := congrArg List.length jb; rw [List.length_append] at z_; exact z_.symm) lc (fun _ _ _ _ A h' => (by exact h'.sub (.cons _ (.cons _ (.cons _ (.cons _ (.cons _ (.cons_cons _ (.refl _))))))))) ?_
           rintro ⟨dt, es⟩
           refine oM 41 2 1 ?_
           obtain ⟨jc, oc⟩ := app_some u
           obtain ⟨g1, ld⟩ : ∃ y_, k ++ ([vI v]) = y_ := ⟨_, rfl⟩
           have qk : RepL (Rep.int .i64) F W a g1 := by rw [jc, ← ld]; exact RepL.app p V
           refine ops_appendO (x := (Go.Operand.tmp 41)) (y := (Go.Operand.tmp 43)) (t := 22) (e := 3) (d := some 44) (n' := a.length) (z := 1) (m := ([v] : List Int).length) (bytes := 8) (xs' := g1) (news := ([vI v])) (zv := vI 0) 4 ⟨by kernel_rfl⟩ rfl rfl Try.underlying22 (by kernel_rfl) (by rfl) rfl (fun s i => i.srcO 0 rfl) V.len V.one oc (by have z_ := congrArg List.length jc; rw [List.length_append] at z_; exact z_.symm) ld (fun _ _ _ _ A h' => (by exact h'.sub (.cons _ (.cons _ (.cons _ (.cons _ (.cons _ (.cons_cons _ (.refl _))))))))) ?_
           rintro ⟨bn, cp⟩
           refine oq [oT 16, oT 17] [(46, vP g 0), (44, sl bn a cp), (37, sl dt c es), (30, vP g 0)] ?_
           refine oSS 2 0 [sl dt c es] (fun w' h' => (by exact h'.sub (.cons _ (.cons _ (.cons _ (.cons _ (.cons _ (.cons_cons _ (.refl _))))))))) ?_
           refine oq [oT 19, oT 20] [(48, vP g 1), (44, sl bn a cp)] ?_
           refine oSS 2 1 [sl bn a cp] (fun w' h' => (by exact h'.sub (.cons _ (.cons _ (.cons _ (.cons _ (.cons _ (.cons_cons _ (.refl _))))))))) ?_
           refine ops_nil ?_
           exact fj E (dt, es, c, g0, bn, cp, a, g1) ⟨D, qj, qk⟩ 6 [2, 3, 4, 5]
          ·
           refine tree_leaf ?_
           refine oM 41 2 1 ?_
           obtain ⟨jd, od⟩ := app_some B
           obtain ⟨g2, le⟩ : ∃ y_, o ++ ([vI n]) = y_ := ⟨_, rfl⟩
           have ql : RepL (Rep.int .i64) F W c g2 := by rw [jd, ← le]; exact RepL.app q C
           refine ops_appendO (x := (Go.Operand.tmp 34)) (y := (Go.Operand.tmp 36)) (t := 22) (e := 3) (d := some 37) (n' := c.length) (z := 1) (m := ([n] : List Int).length) (bytes := 8) (xs' := g2) (news := ([vI n])) (zv := vI 0) 3 ⟨by kernel_rfl⟩ rfl rfl Try.underlying22 (by kernel_rfl) (by rfl) rfl (fun s i => i.srcO 1 rfl) C.len C.one od (by have z_ := congrArg List.length jd; rw [List.length_append] at z_; exact z_.symm) le (fun _ _ _ _ A h' => (by exact h'.sub (.cons _ (.cons _ (.cons _ (.cons _ (.cons _ (.cons_cons _ (.refl _))))))))) ?_
           rintro ⟨du, et⟩
           obtain ⟨je, oe⟩ := app_some u
           obtain ⟨g3, lf⟩ : ∃ y_, k ++ ([vI v]) = y_ := ⟨_, rfl⟩
           have qm : RepL (Rep.int .i64) F W a g3 := by rw [je, ← lf]; exact RepL.app p V
           refine ops_appendO (x := (Go.Operand.tmp 41)) (y := (Go.Operand.tmp 43)) (t := 22) (e := 3) (d := some 44) (n' := a.length) (z := 1) (m := ([v] : List Int).length) (bytes := 8) (xs' := g3) (news := ([vI v])) (zv := vI 0) 4 ⟨by kernel_rfl⟩ rfl rfl Try.underlying22 (by kernel_rfl) (by rfl) rfl (fun s i => i.srcO 0 rfl) V.len V.one oe (by have z_ := congrArg List.length je; rw [List.length_append] at z_; exact z_.symm) lf (fun _ _ _ _ A h' => (by exact h'.sub (.cons _ (.cons _ (.cons _ (.cons _ (.cons _ (.cons_cons _ (.refl _))))))))) ?_
           rintro ⟨bo, cq⟩
           refine oq [oT 16, oT 17] [(46, vP g 0), (44, sl bo a cq), (37, sl du c et), (30, vP g 0)] ?_
           refine oSS 2 0 [sl du c et] (fun w' h' => (by exact h'.sub (.cons _ (.cons _ (.cons _ (.cons _ (.cons _ (.cons_cons _ (.refl _))))))))) ?_
           refine oq [oT 19, oT 20] [(48, vP g 1), (44, sl bo a cq)] ?_
           refine oSS 2 1 [sl bo a cq] (fun w' h' => (by exact h'.sub (.cons _ (.cons _ (.cons _ (.cons _ (.cons _ (.cons_cons _ (.refl _))))))))) ?_
           refine ops_nil ?_
           exact fj E (du, et, c, g2, bo, cq, a, g3) ⟨D, ql, qm⟩ 6 [2, 3, 4, 5]
         ·
          refine tree_leaf ?_
          refine oM 41 2 1 ?_
          refine oM 34 2 0 ?_
          obtain ⟨jf, og⟩ := app_some B
          obtain ⟨g4, lg⟩ : ∃ y_, o ++ ([vI n]) = y_ := ⟨_, rfl⟩
          have qn : RepL (Rep.int .i64) F W c g4 := by rw [jf, ← lg]; exact RepL.app q C
          refine ops_appendO (x := (Go.Operand.tmp 34)) (y := (Go.Operand.tmp 36)) (t := 22) (e := 3) (d := some 37) (n' := c.length) (z := 1) (m := ([n] : List Int).length) (bytes := 8) (xs' := g4) (news := ([vI n])) (zv := vI 0) 3 ⟨by kernel_rfl⟩ rfl rfl Try.underlying22 (by kernel_rfl) (by rfl) rfl (fun s i => i.srcO 1 rfl) C.len C.one og (by have z_ := congrArg List.length jf; rw [List.length_append] at z_; exact z_.symm) lg (fun _ _ _ _ A h' => (by exact h'.sub (.cons _ (.cons _ (.cons _ (.cons _ (.cons _ (.cons_cons _ (.refl _))))))))) ?_
          rintro ⟨dv, eu⟩
          obtain ⟨jg, oh⟩ := app_some u
          obtain ⟨g5, lh⟩ : ∃ y_, k ++ ([vI v]) = y_ := ⟨_, rfl⟩
          have qo : RepL (Rep.int .i64) F W a g5 := by rw [jg, ← lh]; exact RepL.app p V
          refine ops_appendO (x := (Go.Operand.tmp 41)) (y := (Go.Operand.tmp 43)) (t := 22) (e := 3) (d := some 44) (n' := a.length) (z := 1) (m := ([v] : List Int).length) (bytes := 8) (xs' := g5) (news := ([vI v])) (zv := vI 0) 4 ⟨by kernel_rfl⟩ rfl rfl Try.underlying22 (by kernel_rfl) (by rfl) rfl (fun s i => i.srcO 0 rfl) V.len V.one oh (by have z_ := congrArg List.length jg; rw [List.length_append] at z_; exact z_.symm) lh (fun _ _ _ _ A h' => (by exact h'.sub (.cons _ (.cons _ (.cons _ (.cons _ (.cons _ (.cons_cons _ (.refl _))))))))) ?_
          rintro ⟨bp, cr⟩
          refine oq [oT 16, oT 17] [(46, vP g 0), (44, sl bp a cr), (37, sl dv c eu), (30, vP g 0)] ?_
          refine oSS 2 0 [sl dv c eu] (fun w' h' => (by exact h'.sub (.cons _ (.cons _ (.cons _ (.cons _ (.cons _ (.cons_cons _ (.refl _))))))))) ?_
          refine oq [oT 19, oT 20] [(48, vP g 1), (44, sl bp a cr)] ?_
          refine oSS 2 1 [sl bp a cr] (fun w' h' => (by exact h'.sub (.cons _ (.cons _ (.cons _ (.cons _ (.cons _ (.cons_cons _ (.refl _))))))))) ?_
          refine ops_nil ?_
          exact fj E (dv, eu, c, g4, bp, cr, a, g5) ⟨D, qn, qo⟩ 6 [2, 3, 4, 5]
      ·
       refine tree_ways ?_ ?_
       ·
        refine tree_node ?_
        refine oM 41 0 1 ?_
        refine ops_nil ?_
        refine tree_both ?_ ?_
        ·
         refine tree_node ?_
         refine oM 34 0 0 ?_
         refine ops_nil ?_
         refine tree_both ?_ ?_
         ·
          refine tree_node ?_
          have ai : RepL (Rep.int .i64) F W ([n] : List Int) ([vI n]) := (RepL.cons (R := (Rep.int .i64)) (F := F) (w := W) (vs := [vI n]) (ys := []) rfl RepL.nil)
          refine oBS 36 [vI n] 3 1 1 (fun ss => ?_)
          refine ops_nil ?_
          refine tree_both ?_ ?_
          ·
           refine tree_leaf ?_
           obtain ⟨jh, oi⟩ := app_some B
           obtain ⟨g6, li⟩ : ∃ y_, o ++ ([vI n]) = y_ := ⟨_, rfl⟩
           have qp : RepL (Rep.int .i64) F W c g6 := by rw [jh, ← li]; exact RepL.app q ai
           refine ops_appendO (x := (Go.Operand.tmp 34)) (y := (Go.Operand.tmp 36)) (t := 22) (e := 3) (d := some 37) (n' := c.length) (z := 1) (m := ([n] : List Int).length) (bytes := 8) (xs' := g6) (news := ([vI n])) (zv := vI 0) 2 ⟨by kernel_rfl⟩ rfl rfl Try.underlying22 (by kernel_rfl) (by rfl) rfl (fun s i => i.srcO 0 rfl) ai.len ai.one oi (by have z_ := congrArg List.length jh; rw [List.length_append] at z_; exact z_.symm) li (fun _ _ _ _ A h' => (by exact h'.sub (.cons _ (.cons _ (.cons _ (.cons _ (.cons_cons _ (.refl _)))))))) ?_
           rintro ⟨dw, ev⟩
           have fo : RepL (Rep.int .i64) F W ([v] : List Int) ([vI v]) := (RepL.cons (R := (Rep.int .i64)) (F := F) (w := W) (vs := [vI v]) (ys := []) rfl RepL.nil)
           refine oBS 43 [vI v] 3 1 1 (fun st => ?_)
           obtain ⟨ji, oj⟩ := app_some u
           obtain ⟨g7, lj⟩ : ∃ y_, k ++ ([vI v]) = y_ := ⟨_, rfl⟩
           have qq : RepL (Rep.int .i64) F W a g7 := by rw [ji, ← lj]; exact RepL.app p fo
           refine ops_appendO (x := (Go.Operand.tmp 41)) (y := (Go.Operand.tmp 43)) (t := 22) (e := 3) (d := some 44) (n' := a.length) (z := 1) (m := ([v] : List Int).length) (bytes := 8) (xs' := g7) (news := ([vI v])) (zv := vI 0) 4 ⟨by kernel_rfl⟩ rfl rfl Try.underlying22 (by kernel_rfl) (by rfl) rfl (fun s i => i.srcO 0 rfl) fo.len fo.one oj (by have z_ := congrArg List.length ji; rw [List.length_append] at z_; exact z_.symm) lj (fun _ _ _ _ A h' => (by exact h'.sub (.cons _ (.cons _ (.cons _ (.cons _ (.cons _ (.cons_cons _ (.refl _))))))))) ?_
           rintro ⟨bq, ct⟩
           refine oq [oT 16, oT 17] [(46, vP g 0), (44, sl bq a ct), (37, sl dw c ev), (30, vP g 0)] ?_
           refine oSS 2 0 [sl dw c ev] (fun w' h' => (by exact h'.sub (.cons _ (.cons _ (.cons _ (.cons _ (.cons _ (.cons_cons _ (.refl _))))))))) ?_
           refine oq [oT 19, oT 20] [(48, vP g 1), (44, sl bq a ct)] ?_
           refine oSS 2 1 [sl bq a ct] (fun w' h' => (by exact h'.sub (.cons _ (.cons _ (.cons _ (.cons _ (.cons _ (.cons_cons _ (.refl _))))))))) ?_
           refine ops_nil ?_
           exact fj E (dw, ev, c, g6, bq, ct, a, g7) ⟨D, qp, qq⟩ 6 [2, 3, 4, 5]
          ·
           refine tree_leaf ?_
           have fp : RepL (Rep.int .i64) F W ([v] : List Int) ([vI v]) := (RepL.cons (R := (Rep.int .i64)) (F := F) (w := W) (vs := [vI v]) (ys := []) rfl RepL.nil)
           refine oBS 43 [vI v] 3 1 1 (fun su => ?_)
           obtain ⟨jj, ok⟩ := app_some B
           obtain ⟨g8, lk⟩ : ∃ y_, o ++ ([vI n]) = y_ := ⟨_, rfl⟩
           have qr : RepL (Rep.int .i64) F W c g8 := by rw [jj, ← lk]; exact RepL.app q ai
           refine ops_appendO (x := (Go.Operand.tmp 34)) (y := (Go.Operand.tmp 36)) (t := 22) (e := 3) (d := some 37) (n' := c.length) (z := 1) (m := ([n] : List Int).length) (bytes := 8) (xs' := g8) (news := ([vI n])) (zv := vI 0) 3 ⟨by kernel_rfl⟩ rfl rfl Try.underlying22 (by kernel_rfl) (by rfl) rfl (fun s i => i.srcO 1 rfl) ai.len ai.one ok (by have z_ := congrArg List.length jj; rw [List.length_append] at z_; exact z_.symm) lk (fun _ _ _ _ A h' => (by exact h'.sub (.cons _ (.cons _ (.cons _ (.cons _ (.cons _ (.cons_cons _ (.refl _))))))))) ?_
           rintro ⟨dx, ew⟩
           obtain ⟨jk, ol⟩ := app_some u
           obtain ⟨g9, ll⟩ : ∃ y_, k ++ ([vI v]) = y_ := ⟨_, rfl⟩
           have qs : RepL (Rep.int .i64) F W a g9 := by rw [jk, ← ll]; exact RepL.app p fp
           refine ops_appendO (x := (Go.Operand.tmp 41)) (y := (Go.Operand.tmp 43)) (t := 22) (e := 3) (d := some 44) (n' := a.length) (z := 1) (m := ([v] : List Int).length) (bytes := 8) (xs' := g9) (news := ([vI v])) (zv := vI 0) 4 ⟨by kernel_rfl⟩ rfl rfl Try.underlying22 (by kernel_rfl) (by rfl) rfl (fun s i => i.srcO 0 rfl) fp.len fp.one ol (by have z_ := congrArg List.length jk; rw [List.length_append] at z_; exact z_.symm) ll (fun _ _ _ _ A h' => (by exact h'.sub (.cons _ (.cons _ (.cons _ (.cons _ (.cons _ (.cons_cons _ (.refl _))))))))) ?_
           rintro ⟨br, cu⟩
           refine oq [oT 16, oT 17] [(46, vP g 0), (44, sl br a cu), (37, sl dx c ew), (30, vP g 0)] ?_
           refine oSS 2 0 [sl dx c ew] (fun w' h' => (by exact h'.sub (.cons _ (.cons _ (.cons _ (.cons _ (.cons _ (.cons_cons _ (.refl _))))))))) ?_
           refine oq [oT 19, oT 20] [(48, vP g 1), (44, sl br a cu)] ?_
           refine oSS 2 1 [sl br a cu] (fun w' h' => (by exact h'.sub (.cons _ (.cons _ (.cons _ (.cons _ (.cons _ (.cons_cons _ (.refl _))))))))) ?_
           refine ops_nil ?_
           exact fj E (dx, ew, c, g8, br, cu, a, g9) ⟨D, qr, qs⟩ 6 [2, 3, 4, 5]
         ·
          refine tree_leaf ?_
          have fq : RepL (Rep.int .i64) F W ([v] : List Int) ([vI v]) := (RepL.cons (R := (Rep.int .i64)) (F := F) (w := W) (vs := [vI v]) (ys := []) rfl RepL.nil)
          refine oBS 43 [vI v] 3 1 1 (fun sv => ?_)
          have fs : RepL (Rep.int .i64) F W ([n] : List Int) ([vI n]) := (RepL.cons (R := (Rep.int .i64)) (F := F) (w := W) (vs := [vI n]) (ys := []) rfl RepL.nil)
          refine oBS 36 [vI n] 3 1 1 (fun sw => ?_)
          obtain ⟨jl, om⟩ := app_some B
          obtain ⟨ha, lm⟩ : ∃ y_, o ++ ([vI n]) = y_ := ⟨_, rfl⟩
          have qt : RepL (Rep.int .i64) F W c ha := by rw [jl, ← lm]; exact RepL.app q fs
          refine ops_appendO (x := (Go.Operand.tmp 34)) (y := (Go.Operand.tmp 36)) (t := 22) (e := 3) (d := some 37) (n' := c.length) (z := 1) (m := ([n] : List Int).length) (bytes := 8) (xs' := ha) (news := ([vI n])) (zv := vI 0) 3 ⟨by kernel_rfl⟩ rfl rfl Try.underlying22 (by kernel_rfl) (by rfl) rfl (fun s i => i.srcO 0 rfl) fs.len fs.one om (by have z_ := congrArg List.length jl; rw [List.length_append] at z_; exact z_.symm) lm (fun _ _ _ _ A h' => (by exact h'.sub (.cons _ (.cons _ (.cons _ (.cons _ (.cons _ (.cons_cons _ (.refl _))))))))) ?_
          rintro ⟨dy, ex⟩
          obtain ⟨jm, on⟩ := app_some u
          obtain ⟨hb, ln⟩ : ∃ y_, k ++ ([vI v]) = y_ := ⟨_, rfl⟩
          have qu : RepL (Rep.int .i64) F W a hb := by rw [jm, ← ln]; exact RepL.app p fq
          refine ops_appendO (x := (Go.Operand.tmp 41)) (y := (Go.Operand.tmp 43)) (t := 22) (e := 3) (d := some 44) (n' := a.length) (z := 1) (m := ([v] : List Int).length) (bytes := 8) (xs' := hb) (news := ([vI v])) (zv := vI 0) 4 ⟨by kernel_rfl⟩ rfl rfl Try.underlying22 (by kernel_rfl) (by rfl) rfl (fun s i => i.srcO 1 rfl) fq.len fq.one on (by have z_ := congrArg List.length jm; rw [List.length_append] at z_; exact z_.symm) ln (fun _ _ _ _ A h' => (by exact h'.sub (.cons _ (.cons _ (.cons _ (.cons _ (.cons _ (.cons_cons _ (.refl _))))))))) ?_
          rintro ⟨bs, cv⟩
          refine oq [oT 16, oT 17] [(46, vP g 0), (44, sl bs a cv), (37, sl dy c ex), (30, vP g 0)] ?_
          refine oSS 2 0 [sl dy c ex] (fun w' h' => (by exact h'.sub (.cons _ (.cons _ (.cons _ (.cons _ (.cons _ (.cons_cons _ (.refl _))))))))) ?_
          refine oq [oT 19, oT 20] [(48, vP g 1), (44, sl bs a cv)] ?_
          refine oSS 2 1 [sl bs a cv] (fun w' h' => (by exact h'.sub (.cons _ (.cons _ (.cons _ (.cons _ (.cons _ (.cons_cons _ (.refl _))))))))) ?_
          refine ops_nil ?_
          exact fj E (dy, ex, c, ha, bs, cv, a, hb) ⟨D, qt, qu⟩ 6 [2, 3, 4, 5]
        ·
         refine tree_ways ?_ ?_
         ·
          refine tree_node ?_
          have X : RepL (Rep.int .i64) F W ([n] : List Int) ([vI n]) := (RepL.cons (R := (Rep.int .i64)) (F := F) (w := W) (vs := [vI n]) (ys := []) rfl RepL.nil)
          refine oBS 36 [vI n] 3 1 1 (fun sx => ?_)
          refine ops_nil ?_
          refine tree_both ?_ ?_
          ·
           refine tree_node ?_
           refine oM 34 1 0 ?_
           refine ops_nil ?_
           refine tree_both ?_ ?_
           ·
            refine tree_leaf ?_
            obtain ⟨jn, oo⟩ := app_some B
            obtain ⟨hc, lo⟩ : ∃ y_, o ++ ([vI n]) = y_ := ⟨_, rfl⟩
            have qv : RepL (Rep.int .i64) F W c hc := by rw [jn, ← lo]; exact RepL.app q X
            refine ops_appendO (x := (Go.Operand.tmp 34)) (y := (Go.Operand.tmp 36)) (t := 22) (e := 3) (d := some 37) (n' := c.length) (z := 1) (m := ([n] : List Int).length) (bytes := 8) (xs' := hc) (news := ([vI n])) (zv := vI 0) 2 ⟨by kernel_rfl⟩ rfl rfl Try.underlying22 (by kernel_rfl) (by rfl) rfl (fun s i => i.srcO 0 rfl) X.len X.one oo (by have z_ := congrArg List.length jn; rw [List.length_append] at z_; exact z_.symm) lo (fun _ _ _ _ A h' => (by exact h'.sub (.cons _ (.cons _ (.cons _ (.cons _ (.cons_cons _ (.refl _)))))))) ?_
            rintro ⟨dz, ey⟩
            have ft : RepL (Rep.int .i64) F W ([v] : List Int) ([vI v]) := (RepL.cons (R := (Rep.int .i64)) (F := F) (w := W) (vs := [vI v]) (ys := []) rfl RepL.nil)
            refine oBS 43 [vI v] 3 1 1 (fun sy => ?_)
            obtain ⟨jo, os⟩ := app_some u
            obtain ⟨hd, lp⟩ : ∃ y_, k ++ ([vI v]) = y_ := ⟨_, rfl⟩
            have qw : RepL (Rep.int .i64) F W a hd := by rw [jo, ← lp]; exact RepL.app p ft
            refine ops_appendO (x := (Go.Operand.tmp 41)) (y := (Go.Operand.tmp 43)) (t := 22) (e := 3) (d := some 44) (n' := a.length) (z := 1) (m := ([v] : List Int).length) (bytes := 8) (xs' := hd) (news := ([vI v])) (zv := vI 0) 4 ⟨by kernel_rfl⟩ rfl rfl Try.underlying22 (by kernel_rfl) (by rfl) rfl (fun s i => i.srcO 0 rfl) ft.len ft.one os (by have z_ := congrArg List.length jo; rw [List.length_append] at z_; exact z_.symm) lp (fun _ _ _ _ A h' => (by exact h'.sub (.cons _ (.cons _ (.cons _ (.cons _ (.cons _ (.cons_cons _ (.refl _))))))))) ?_
            rintro ⟨bt, cw⟩
            refine oq [oT 16, oT 17] [(46, vP g 0), (44, sl bt a cw), (37, sl dz c ey), (30, vP g 0)] ?_
            refine oSS 2 0 [sl dz c ey] (fun w' h' => (by exact h'.sub (.cons _ (.cons _ (.cons _ (.cons _ (.cons _ (.cons_cons _ (.refl _))))))))) ?_
            refine oq [oT 19, oT 20] [(48, vP g 1), (44, sl bt a cw)] ?_
            refine oSS 2 1 [sl bt a cw] (fun w' h' => (by exact h'.sub (.cons _ (.cons _ (.cons _ (.cons _ (.cons _ (.cons_cons _ (.refl _))))))))) ?_
            refine ops_nil ?_
            exact fj E (dz, ey, c, hc, bt, cw, a, hd) ⟨D, qv, qw⟩ 6 [2, 3, 4, 5]
           ·
            refine tree_leaf ?_
            have fu : RepL (Rep.int .i64) F W ([v] : List Int) ([vI v]) := (RepL.cons (R := (Rep.int .i64)) (F := F) (w := W) (vs := [vI v]) (ys := []) rfl RepL.nil)
            refine oBS 43 [vI v] 3 1 1 (fun sz => ?_)
            obtain ⟨jp, ot⟩ := app_some B
            obtain ⟨hf, lq⟩ : ∃ y_, o ++ ([vI n]) = y_ := ⟨_, rfl⟩
            have qx : RepL (Rep.int .i64) F W c hf := by rw [jp, ← lq]; exact RepL.app q X
            refine ops_appendO (x := (Go.Operand.tmp 34)) (y := (Go.Operand.tmp 36)) (t := 22) (e := 3) (d := some 37) (n' := c.length) (z := 1) (m := ([n] : List Int).length) (bytes := 8) (xs' := hf) (news := ([vI n])) (zv := vI 0) 3 ⟨by kernel_rfl⟩ rfl rfl Try.underlying22 (by kernel_rfl) (by rfl) rfl (fun s i => i.srcO 1 rfl) X.len X.one ot (by have z_ := congrArg List.length jp; rw [List.length_append] at z_; exact z_.symm) lq (fun _ _ _ _ A h' => (by exact h'.sub (.cons _ (.cons _ (.cons _ (.cons _ (.cons _ (.cons_cons _ (.refl _))))))))) ?_
            rintro ⟨d0, ez⟩
            obtain ⟨jq, ou⟩ := app_some u
            obtain ⟨hg, lr⟩ : ∃ y_, k ++ ([vI v]) = y_ := ⟨_, rfl⟩
            have qy : RepL (Rep.int .i64) F W a hg := by rw [jq, ← lr]; exact RepL.app p fu
            refine ops_appendO (x := (Go.Operand.tmp 41)) (y := (Go.Operand.tmp 43)) (t := 22) (e := 3) (d := some 44) (n' := a.length) (z := 1) (m := ([v] : List Int).length) (bytes := 8) (xs' := hg) (news := ([vI v])) (zv := vI 0) 4 ⟨by kernel_rfl⟩ rfl rfl Try.underlying22 (by kernel_rfl) (by rfl) rfl (fun s i => i.srcO 0 rfl) fu.len fu.one ou (by have z_ := congrArg List.length jq; rw [List.length_append] at z_; exact z_.symm) lr (fun _ _ _ _ A h' => (by exact h'.sub (.cons _ (.cons _ (.cons _ (.cons _ (.cons _ (.cons_cons _ (.refl _))))))))) ?_
            rintro ⟨bu, cx⟩
            refine oq [oT 16, oT 17] [(46, vP g 0), (44, sl bu a cx), (37, sl d0 c ez), (30, vP g 0)] ?_
            refine oSS 2 0 [sl d0 c ez] (fun w' h' => (by exact h'.sub (.cons _ (.cons _ (.cons _ (.cons _ (.cons _ (.cons_cons _ (.refl _))))))))) ?_
            refine oq [oT 19, oT 20] [(48, vP g 1), (44, sl bu a cx)] ?_
            refine oSS 2 1 [sl bu a cx] (fun w' h' => (by exact h'.sub (.cons _ (.cons _ (.cons _ (.cons _ (.cons _ (.cons_cons _ (.refl _))))))))) ?_
            refine ops_nil ?_
            exact fj E (d0, ez, c, hf, bu, cx, a, hg) ⟨D, qx, qy⟩ 6 [2, 3, 4, 5]
          ·
           refine tree_leaf ?_
           have fv : RepL (Rep.int .i64) F W ([v] : List Int) ([vI v]) := (RepL.cons (R := (Rep.int .i64)) (F := F) (w := W) (vs := [vI v]) (ys := []) rfl RepL.nil)
           refine oBS 43 [vI v] 3 1 1 (fun s0 => ?_)
           refine oM 34 2 0 ?_
           obtain ⟨jr, ov⟩ := app_some B
           obtain ⟨hh, ls⟩ : ∃ y_, o ++ ([vI n]) = y_ := ⟨_, rfl⟩
           have qz : RepL (Rep.int .i64) F W c hh := by rw [jr, ← ls]; exact RepL.app q X
           refine ops_appendO (x := (Go.Operand.tmp 34)) (y := (Go.Operand.tmp 36)) (t := 22) (e := 3) (d := some 37) (n' := c.length) (z := 1) (m := ([n] : List Int).length) (bytes := 8) (xs' := hh) (news := ([vI n])) (zv := vI 0) 3 ⟨by kernel_rfl⟩ rfl rfl Try.underlying22 (by kernel_rfl) (by rfl) rfl (fun s i => i.srcO 1 rfl) X.len X.one ov (by have z_ := congrArg List.length jr; rw [List.length_append] at z_; exact z_.symm) ls (fun _ _ _ _ A h' => (by exact h'.sub (.cons _ (.cons _ (.cons _ (.cons _ (.cons _ (.cons_cons _ (.refl _))))))))) ?_
           rintro ⟨d1, e0⟩
           obtain ⟨js, ox⟩ := app_some u
           obtain ⟨hi, lt⟩ : ∃ y_, k ++ ([vI v]) = y_ := ⟨_, rfl⟩
           have q0 : RepL (Rep.int .i64) F W a hi := by rw [js, ← lt]; exact RepL.app p fv
           refine ops_appendO (x := (Go.Operand.tmp 41)) (y := (Go.Operand.tmp 43)) (t := 22) (e := 3) (d := some 44) (n' := a.length) (z := 1) (m := ([v] : List Int).length) (bytes := 8) (xs' := hi) (news := ([vI v])) (zv := vI 0) 4 ⟨by kernel_rfl⟩ rfl rfl Try.underlying22 (by kernel_rfl) (by rfl) rfl (fun s i => i.srcO 0 rfl) fv.len fv.one ox (by have z_ := congrArg List.length js; rw [List.length_append] at z_; exact z_.symm) lt (fun _ _ _ _ A h' => (by exact h'.sub (.cons _ (.cons _ (.cons _ (.cons _ (.cons _ (.cons_cons _ (.refl _))))))))) ?_
           rintro ⟨bv, cy⟩
           refine oq [oT 16, oT 17] [(46, vP g 0), (44, sl bv a cy), (37, sl d1 c e0), (30, vP g 0)] ?_
           refine oSS 2 0 [sl d1 c e0] (fun w' h' => (by exact h'.sub (.cons _ (.cons _ (.cons _ (.cons _ (.cons _ (.cons_cons _ (.refl _))))))))) ?_
           refine oq [oT 19, oT 20] [(48, vP g 1), (44, sl bv a cy)] ?_
           refine oSS 2 1 [sl bv a cy] (fun w' h' => (by exact h'.sub (.cons _ (.cons _ (.cons _ (.cons _ (.cons _ (.cons_cons _ (.refl _))))))))) ?_
           refine ops_nil ?_
           exact fj E (d1, e0, c, hh, bv, cy, a, hi) ⟨D, qz, q0⟩ 6 [2, 3, 4, 5]
         ·
          refine tree_node ?_
          have aj : RepL (Rep.int .i64) F W ([v] : List Int) ([vI v]) := (RepL.cons (R := (Rep.int .i64)) (F := F) (w := W) (vs := [vI v]) (ys := []) rfl RepL.nil)
          refine oBS 43 [vI v] 3 1 1 (fun s1 => ?_)
          refine ops_nil ?_
          refine tree_both ?_ ?_
          ·
           refine tree_leaf ?_
           refine oM 34 1 0 ?_
           have fw : RepL (Rep.int .i64) F W ([n] : List Int) ([vI n]) := (RepL.cons (R := (Rep.int .i64)) (F := F) (w := W) (vs := [vI n]) (ys := []) rfl RepL.nil)
           refine oBS 36 [vI n] 3 1 1 (fun s2 => ?_)
           obtain ⟨jt, oy⟩ := app_some B
           obtain ⟨hj, lu⟩ : ∃ y_, o ++ ([vI n]) = y_ := ⟨_, rfl⟩
           have q1 : RepL (Rep.int .i64) F W c hj := by rw [jt, ← lu]; exact RepL.app q fw
           refine ops_appendO (x := (Go.Operand.tmp 34)) (y := (Go.Operand.tmp 36)) (t := 22) (e := 3) (d := some 37) (n' := c.length) (z := 1) (m := ([n] : List Int).length) (bytes := 8) (xs' := hj) (news := ([vI n])) (zv := vI 0) 3 ⟨by kernel_rfl⟩ rfl rfl Try.underlying22 (by kernel_rfl) (by rfl) rfl (fun s i => i.srcO 0 rfl) fw.len fw.one oy (by have z_ := congrArg List.length jt; rw [List.length_append] at z_; exact z_.symm) lu (fun _ _ _ _ A h' => (by exact h'.sub (.cons _ (.cons _ (.cons _ (.cons _ (.cons _ (.cons_cons _ (.refl _))))))))) ?_
           rintro ⟨d2, e1⟩
           obtain ⟨ju, oz⟩ := app_some u
           obtain ⟨hk, lv⟩ : ∃ y_, k ++ ([vI v]) = y_ := ⟨_, rfl⟩
           have q2 : RepL (Rep.int .i64) F W a hk := by rw [ju, ← lv]; exact RepL.app p aj
           refine ops_appendO (x := (Go.Operand.tmp 41)) (y := (Go.Operand.tmp 43)) (t := 22) (e := 3) (d := some 44) (n' := a.length) (z := 1) (m := ([v] : List Int).length) (bytes := 8) (xs' := hk) (news := ([vI v])) (zv := vI 0) 4 ⟨by kernel_rfl⟩ rfl rfl Try.underlying22 (by kernel_rfl) (by rfl) rfl (fun s i => i.srcO 1 rfl) aj.len aj.one oz (by have z_ := congrArg List.length ju; rw [List.length_append] at z_; exact z_.symm) lv (fun _ _ _ _ A h' => (by exact h'.sub (.cons _ (.cons _ (.cons _ (.cons _ (.cons _ (.cons_cons _ (.refl _))))))))) ?_
           rintro ⟨bw, cz⟩
           refine oq [oT 16, oT 17] [(46, vP g 0), (44, sl bw a cz), (37, sl d2 c e1), (30, vP g 0)] ?_
           refine oSS 2 0 [sl d2 c e1] (fun w' h' => (by exact h'.sub (.cons _ (.cons _ (.cons _ (.cons _ (.cons _ (.cons_cons _ (.refl _))))))))) ?_
           refine oq [oT 19, oT 20] [(48, vP g 1), (44, sl bw a cz)] ?_
           refine oSS 2 1 [sl bw a cz] (fun w' h' => (by exact h'.sub (.cons _ (.cons _ (.cons _ (.cons _ (.cons _ (.cons_cons _ (.refl _))))))))) ?_
           refine ops_nil ?_
           exact fj E (d2, e1, c, hj, bw, cz, a, hk) ⟨D, q1, q2⟩ 6 [2, 3, 4, 5]
          ·
           refine tree_leaf ?_
           have fx : RepL (Rep.int .i64) F W ([n] : List Int) ([vI n]) := (RepL.cons (R := (Rep.int .i64)) (F := F) (w := W) (vs := [vI n]) (ys := []) rfl RepL.nil)
           refine oBS 36 [vI n] 3 1 1 (fun s3 => ?_)
           refine oM 34 2 0 ?_
           obtain ⟨jv, o0⟩ := app_some B
           obtain ⟨hl, lw⟩ : ∃ y_, o ++ ([vI n]) = y_ := ⟨_, rfl⟩
           have q3 : RepL (Rep.int .i64) F W c hl := by rw [jv, ← lw]; exact RepL.app q fx
           refine ops_appendO (x := (Go.Operand.tmp 34)) (y := (Go.Operand.tmp 36)) (t := 22) (e := 3) (d := some 37) (n' := c.length) (z := 1) (m := ([n] : List Int).length) (bytes := 8) (xs' := hl) (news := ([vI n])) (zv := vI 0) 3 ⟨by kernel_rfl⟩ rfl rfl Try.underlying22 (by kernel_rfl) (by rfl) rfl (fun s i => i.srcO 0 rfl) fx.len fx.one o0 (by have z_ := congrArg List.length jv; rw [List.length_append] at z_; exact z_.symm) lw (fun _ _ _ _ A h' => (by exact h'.sub (.cons _ (.cons _ (.cons _ (.cons _ (.cons _ (.cons_cons _ (.refl _))))))))) ?_
           rintro ⟨d3, e2⟩
           obtain ⟨jw, o1⟩ := app_some u
           obtain ⟨hm, lx⟩ : ∃ y_, k ++ ([vI v]) = y_ := ⟨_, rfl⟩
           have q4 : RepL (Rep.int .i64) F W a hm := by rw [jw, ← lx]; exact RepL.app p aj
           refine ops_appendO (x := (Go.Operand.tmp 41)) (y := (Go.Operand.tmp 43)) (t := 22) (e := 3) (d := some 44) (n' := a.length) (z := 1) (m := ([v] : List Int).length) (bytes := 8) (xs' := hm) (news := ([vI v])) (zv := vI 0) 4 ⟨by kernel_rfl⟩ rfl rfl Try.underlying22 (by kernel_rfl) (by rfl) rfl (fun s i => i.srcO 1 rfl) aj.len aj.one o1 (by have z_ := congrArg List.length jw; rw [List.length_append] at z_; exact z_.symm) lx (fun _ _ _ _ A h' => (by exact h'.sub (.cons _ (.cons _ (.cons _ (.cons _ (.cons _ (.cons_cons _ (.refl _))))))))) ?_
           rintro ⟨bx, c0⟩
           refine oq [oT 16, oT 17] [(46, vP g 0), (44, sl bx a c0), (37, sl d3 c e2), (30, vP g 0)] ?_
           refine oSS 2 0 [sl d3 c e2] (fun w' h' => (by exact h'.sub (.cons _ (.cons _ (.cons _ (.cons _ (.cons _ (.cons_cons _ (.refl _))))))))) ?_
           refine oq [oT 19, oT 20] [(48, vP g 1), (44, sl bx a c0)] ?_
           refine oSS 2 1 [sl bx a c0] (fun w' h' => (by exact h'.sub (.cons _ (.cons _ (.cons _ (.cons _ (.cons _ (.cons_cons _ (.refl _))))))))) ?_
           refine ops_nil ?_
           exact fj E (d3, e2, c, hl, bx, c0, a, hm) ⟨D, q3, q4⟩ 6 [2, 3, 4, 5]
       ·
        refine tree_node ?_
        have G : RepL (Rep.int .i64) F W ([v] : List Int) ([vI v]) := (RepL.cons (R := (Rep.int .i64)) (F := F) (w := W) (vs := [vI v]) (ys := []) rfl RepL.nil)
        refine oBS 43 [vI v] 3 1 1 (fun s4 => ?_)
        refine ops_nil ?_
        refine tree_both ?_ ?_
        ·
         refine tree_node ?_
         refine oM 34 1 0 ?_
         refine ops_nil ?_
         refine tree_both ?_ ?_
         ·
          refine tree_node ?_
          have ak : RepL (Rep.int .i64) F W ([n] : List Int) ([vI n]) := (RepL.cons (R := (Rep.int .i64)) (F := F) (w := W) (vs := [vI n]) (ys := []) rfl RepL.nil)
          refine oBS 36 [vI n] 3 1 1 (fun s5 => ?_)
          refine ops_nil ?_
          refine tree_both ?_ ?_
          ·
           refine tree_leaf ?_
           obtain ⟨jx, o2⟩ := app_some B
           obtain ⟨hn, ly⟩ : ∃ y_, o ++ ([vI n]) = y_ := ⟨_, rfl⟩
           have q5 : RepL (Rep.int .i64) F W c hn := by rw [jx, ← ly]; exact RepL.app q ak
           refine ops_appendO (x := (Go.Operand.tmp 34)) (y := (Go.Operand.tmp 36)) (t := 22) (e := 3) (d := some 37) (n' := c.length) (z := 1) (m := ([n] : List Int).length) (bytes := 8) (xs' := hn) (news := ([vI n])) (zv := vI 0) 3 ⟨by kernel_rfl⟩ rfl rfl Try.underlying22 (by kernel_rfl) (by rfl) rfl (fun s i => i.srcO 0 rfl) ak.len ak.one o2 (by have z_ := congrArg List.length jx; rw [List.length_append] at z_; exact z_.symm) ly (fun _ _ _ _ A h' => (by exact h'.sub (.cons _ (.cons _ (.cons _ (.cons _ (.cons _ (.cons_cons _ (.refl _))))))))) ?_
           rintro ⟨d4, e3⟩
           refine oM 41 2 1 ?_
           obtain ⟨jy, o3⟩ := app_some u
           obtain ⟨ho, lz⟩ : ∃ y_, k ++ ([vI v]) = y_ := ⟨_, rfl⟩
           have q6 : RepL (Rep.int .i64) F W a ho := by rw [jy, ← lz]; exact RepL.app p G
           refine ops_appendO (x := (Go.Operand.tmp 41)) (y := (Go.Operand.tmp 43)) (t := 22) (e := 3) (d := some 44) (n' := a.length) (z := 1) (m := ([v] : List Int).length) (bytes := 8) (xs' := ho) (news := ([vI v])) (zv := vI 0) 4 ⟨by kernel_rfl⟩ rfl rfl Try.underlying22 (by kernel_rfl) (by rfl) rfl (fun s i => i.srcO 1 rfl) G.len G.one o3 (by have z_ := congrArg List.length jy; rw [List.length_append] at z_; exact z_.symm) lz (fun _ _ _ _ A h' => (by exact h'.sub (.cons _ (.cons _ (.cons _ (.cons _ (.cons _ (.cons_cons _ (.refl _))))))))) ?_
           rintro ⟨bz, c1⟩
           refine oq [oT 16, oT 17] [(46, vP g 0), (44, sl bz a c1), (37, sl d4 c e3), (30, vP g 0)] ?_
           refine oSS 2 0 [sl d4 c e3] (fun w' h' => (by exact h'.sub (.cons _ (.cons _ (.cons _ (.cons _ (.cons _ (.cons_cons _ (.refl _))))))))) ?_
           refine oq [oT 19, oT 20] [(48, vP g 1), (44, sl bz a c1)] ?_
           refine oSS 2 1 [sl bz a c1] (fun w' h' => (by exact h'.sub (.cons _ (.cons _ (.cons _ (.cons _ (.cons _ (.cons_cons _ (.refl _))))))))) ?_
           refine ops_nil ?_
           exact fj E (d4, e3, c, hn, bz, c1, a, ho) ⟨D, q5, q6⟩ 6 [2, 3, 4, 5]
          ·
           refine tree_leaf ?_
           refine oM 41 2 1 ?_
           obtain ⟨jz, o4⟩ := app_some B
           obtain ⟨hq, l0⟩ : ∃ y_, o ++ ([vI n]) = y_ := ⟨_, rfl⟩
           have q7 : RepL (Rep.int .i64) F W c hq := by rw [jz, ← l0]; exact RepL.app q ak
           refine ops_appendO (x := (Go.Operand.tmp 34)) (y := (Go.Operand.tmp 36)) (t := 22) (e := 3) (d := some 37) (n' := c.length) (z := 1) (m := ([n] : List Int).length) (bytes := 8) (xs' := hq) (news := ([vI n])) (zv := vI 0) 3 ⟨by kernel_rfl⟩ rfl rfl Try.underlying22 (by kernel_rfl) (by rfl) rfl (fun s i => i.srcO 0 rfl) ak.len ak.one o4 (by have z_ := congrArg List.length jz; rw [List.length_append] at z_; exact z_.symm) l0 (fun _ _ _ _ A h' => (by exact h'.sub (.cons _ (.cons _ (.cons _ (.cons _ (.cons _ (.cons_cons _ (.refl _))))))))) ?_
           rintro ⟨d5, e4⟩
           obtain ⟨j0, o5⟩ := app_some u
           obtain ⟨hr, l1⟩ : ∃ y_, k ++ ([vI v]) = y_ := ⟨_, rfl⟩
           have q8 : RepL (Rep.int .i64) F W a hr := by rw [j0, ← l1]; exact RepL.app p G
           refine ops_appendO (x := (Go.Operand.tmp 41)) (y := (Go.Operand.tmp 43)) (t := 22) (e := 3) (d := some 44) (n' := a.length) (z := 1) (m := ([v] : List Int).length) (bytes := 8) (xs' := hr) (news := ([vI v])) (zv := vI 0) 4 ⟨by kernel_rfl⟩ rfl rfl Try.underlying22 (by kernel_rfl) (by rfl) rfl (fun s i => i.srcO 1 rfl) G.len G.one o5 (by have z_ := congrArg List.length j0; rw [List.length_append] at z_; exact z_.symm) l1 (fun _ _ _ _ A h' => (by exact h'.sub (.cons _ (.cons _ (.cons _ (.cons _ (.cons _ (.cons_cons _ (.refl _))))))))) ?_
           rintro ⟨b0, c2⟩
           refine oq [oT 16, oT 17] [(46, vP g 0), (44, sl b0 a c2), (37, sl d5 c e4), (30, vP g 0)] ?_
           refine oSS 2 0 [sl d5 c e4] (fun w' h' => (by exact h'.sub (.cons _ (.cons _ (.cons _ (.cons _ (.cons _ (.cons_cons _ (.refl _))))))))) ?_
           refine oq [oT 19, oT 20] [(48, vP g 1), (44, sl b0 a c2)] ?_
           refine oSS 2 1 [sl b0 a c2] (fun w' h' => (by exact h'.sub (.cons _ (.cons _ (.cons _ (.cons _ (.cons _ (.cons_cons _ (.refl _))))))))) ?_
           refine ops_nil ?_
           exact fj E (d5, e4, c, hq, b0, c2, a, hr) ⟨D, q7, q8⟩ 6 [2, 3, 4, 5]
         ·
          refine tree_leaf ?_
          refine oM 41 1 1 ?_
          have fy : RepL (Rep.int .i64) F W ([n] : List Int) ([vI n]) := (RepL.cons (R := (Rep.int .i64)) (F := F) (w := W) (vs := [vI n]) (ys := []) rfl RepL.nil)
          refine oBS 36 [vI n] 3 1 1 (fun s6 => ?_)
          obtain ⟨j1, o6⟩ := app_some B
          obtain ⟨hs, l2⟩ : ∃ y_, o ++ ([vI n]) = y_ := ⟨_, rfl⟩
          have q9 : RepL (Rep.int .i64) F W c hs := by rw [j1, ← l2]; exact RepL.app q fy
          refine ops_appendO (x := (Go.Operand.tmp 34)) (y := (Go.Operand.tmp 36)) (t := 22) (e := 3) (d := some 37) (n' := c.length) (z := 1) (m := ([n] : List Int).length) (bytes := 8) (xs' := hs) (news := ([vI n])) (zv := vI 0) 3 ⟨by kernel_rfl⟩ rfl rfl Try.underlying22 (by kernel_rfl) (by rfl) rfl (fun s i => i.srcO 0 rfl) fy.len fy.one o6 (by have z_ := congrArg List.length j1; rw [List.length_append] at z_; exact z_.symm) l2 (fun _ _ _ _ A h' => (by exact h'.sub (.cons _ (.cons _ (.cons _ (.cons _ (.cons _ (.cons_cons _ (.refl _))))))))) ?_
          rintro ⟨d6, e5⟩
          obtain ⟨j2, o7⟩ := app_some u
          obtain ⟨ht, l3⟩ : ∃ y_, k ++ ([vI v]) = y_ := ⟨_, rfl⟩
          have ra : RepL (Rep.int .i64) F W a ht := by rw [j2, ← l3]; exact RepL.app p G
          refine ops_appendO (x := (Go.Operand.tmp 41)) (y := (Go.Operand.tmp 43)) (t := 22) (e := 3) (d := some 44) (n' := a.length) (z := 1) (m := ([v] : List Int).length) (bytes := 8) (xs' := ht) (news := ([vI v])) (zv := vI 0) 4 ⟨by kernel_rfl⟩ rfl rfl Try.underlying22 (by kernel_rfl) (by rfl) rfl (fun s i => i.srcO 1 rfl) G.len G.one o7 (by have z_ := congrArg List.length j2; rw [List.length_append] at z_; exact z_.symm) l3 (fun _ _ _ _ A h' => (by exact h'.sub (.cons _ (.cons _ (.cons _ (.cons _ (.cons _ (.cons_cons _ (.refl _))))))))) ?_
          rintro ⟨b1, c3⟩
          refine oq [oT 16, oT 17] [(46, vP g 0), (44, sl b1 a c3), (37, sl d6 c e5), (30, vP g 0)] ?_
          refine oSS 2 0 [sl d6 c e5] (fun w' h' => (by exact h'.sub (.cons _ (.cons _ (.cons _ (.cons _ (.cons _ (.cons_cons _ (.refl _))))))))) ?_
          refine oq [oT 19, oT 20] [(48, vP g 1), (44, sl b1 a c3)] ?_
          refine oSS 2 1 [sl b1 a c3] (fun w' h' => (by exact h'.sub (.cons _ (.cons _ (.cons _ (.cons _ (.cons _ (.cons_cons _ (.refl _))))))))) ?_
          refine ops_nil ?_
          exact fj E (d6, e5, c, hs, b1, c3, a, ht) ⟨D, q9, ra⟩ 6 [2, 3, 4, 5]
        ·
         refine tree_ways ?_ ?_
         ·
          refine tree_node ?_
          have Y : RepL (Rep.int .i64) F W ([n] : List Int) ([vI n]) := (RepL.cons (R := (Rep.int .i64)) (F := F) (w := W) (vs := [vI n]) (ys := []) rfl RepL.nil)
          refine oBS 36 [vI n] 3 1 1 (fun s7 => ?_)
          refine ops_nil ?_
          refine tree_both ?_ ?_
          ·
           refine tree_node ?_
           refine oM 34 2 0 ?_
           refine ops_nil ?_
           refine tree_both ?_ ?_
           ·
            refine tree_leaf ?_
            obtain ⟨j3, o8⟩ := app_some B
            obtain ⟨hu, l4⟩ : ∃ y_, o ++ ([vI n]) = y_ := ⟨_, rfl⟩
            have rb : RepL (Rep.int .i64) F W c hu := by rw [j3, ← l4]; exact RepL.app q Y
            refine ops_appendO (x := (Go.Operand.tmp 34)) (y := (Go.Operand.tmp 36)) (t := 22) (e := 3) (d := some 37) (n' := c.length) (z := 1) (m := ([n] : List Int).length) (bytes := 8) (xs' := hu) (news := ([vI n])) (zv := vI 0) 3 ⟨by kernel_rfl⟩ rfl rfl Try.underlying22 (by kernel_rfl) (by rfl) rfl (fun s i => i.srcO 0 rfl) Y.len Y.one o8 (by have z_ := congrArg List.length j3; rw [List.length_append] at z_; exact z_.symm) l4 (fun _ _ _ _ A h' => (by exact h'.sub (.cons _ (.cons _ (.cons _ (.cons _ (.cons _ (.cons_cons _ (.refl _))))))))) ?_
            rintro ⟨d7, e6⟩
            refine oM 41 2 1 ?_
            obtain ⟨j4, o9⟩ := app_some u
            obtain ⟨hv, l5⟩ : ∃ y_, k ++ ([vI v]) = y_ := ⟨_, rfl⟩
            have rc : RepL (Rep.int .i64) F W a hv := by rw [j4, ← l5]; exact RepL.app p G
            refine ops_appendO (x := (Go.Operand.tmp 41)) (y := (Go.Operand.tmp 43)) (t := 22) (e := 3) (d := some 44) (n' := a.length) (z := 1) (m := ([v] : List Int).length) (bytes := 8) (xs' := hv) (news := ([vI v])) (zv := vI 0) 4 ⟨by kernel_rfl⟩ rfl rfl Try.underlying22 (by kernel_rfl) (by rfl) rfl (fun s i => i.srcO 1 rfl) G.len G.one o9 (by have z_ := congrArg List.length j4; rw [List.length_append] at z_; exact z_.symm) l5 (fun _ _ _ _ A h' => (by exact h'.sub (.cons _ (.cons _ (.cons _ (.cons _ (.cons _ (.cons_cons _ (.refl _))))))))) ?_
            rintro ⟨b2, c4⟩
            refine oq [oT 16, oT 17] [(46, vP g 0), (44, sl b2 a c4), (37, sl d7 c e6), (30, vP g 0)] ?_
            refine oSS 2 0 [sl d7 c e6] (fun w' h' => (by exact h'.sub (.cons _ (.cons _ (.cons _ (.cons _ (.cons _ (.cons_cons _ (.refl _))))))))) ?_
            refine oq [oT 19, oT 20] [(48, vP g 1), (44, sl b2 a c4)] ?_
            refine oSS 2 1 [sl b2 a c4] (fun w' h' => (by exact h'.sub (.cons _ (.cons _ (.cons _ (.cons _ (.cons _ (.cons_cons _ (.refl _))))))))) ?_
            refine ops_nil ?_
            exact fj E (d7, e6, c, hu, b2, c4, a, hv) ⟨D, rb, rc⟩ 6 [2, 3, 4, 5]
           ·
            refine tree_leaf ?_
            refine oM 41 2 1 ?_
            obtain ⟨j5, pa⟩ := app_some B
            obtain ⟨hw, l6⟩ : ∃ y_, o ++ ([vI n]) = y_ := ⟨_, rfl⟩
            have rd : RepL (Rep.int .i64) F W c hw := by rw [j5, ← l6]; exact RepL.app q Y
            refine ops_appendO (x := (Go.Operand.tmp 34)) (y := (Go.Operand.tmp 36)) (t := 22) (e := 3) (d := some 37) (n' := c.length) (z := 1) (m := ([n] : List Int).length) (bytes := 8) (xs' := hw) (news := ([vI n])) (zv := vI 0) 3 ⟨by kernel_rfl⟩ rfl rfl Try.underlying22 (by kernel_rfl) (by rfl) rfl (fun s i => i.srcO 0 rfl) Y.len Y.one pa (by have z_ := congrArg List.length j5; rw [List.length_append] at z_; exact z_.symm) l6 (fun _ _ _ _ A h' => (by exact h'.sub (.cons _ (.cons _ (.cons _ (.cons _ (.cons _ (.cons_cons _ (.refl _))))))))) ?_
            rintro ⟨d8, e7⟩
            obtain ⟨j6, pb⟩ := app_some u
            obtain ⟨hx, l7⟩ : ∃ y_, k ++ ([vI v]) = y_ := ⟨_, rfl⟩
            have re : RepL (Rep.int .i64) F W a hx := by rw [j6, ← l7]; exact RepL.app p G
            refine ops_appendO (x := (Go.Operand.tmp 41)) (y := (Go.Operand.tmp 43)) (t := 22) (e := 3) (d := some 44) (n' := a.length) (z := 1) (m := ([v] : List Int).length) (bytes := 8) (xs' := hx) (news := ([vI v])) (zv := vI 0) 4 ⟨by kernel_rfl⟩ rfl rfl Try.underlying22 (by kernel_rfl) (by rfl) rfl (fun s i => i.srcO 1 rfl) G.len G.one pb (by have z_ := congrArg List.length j6; rw [List.length_append] at z_; exact z_.symm) l7 (fun _ _ _ _ A h' => (by exact h'.sub (.cons _ (.cons _ (.cons _ (.cons _ (.cons _ (.cons_cons _ (.refl _))))))))) ?_
            rintro ⟨b3, c5⟩
            refine oq [oT 16, oT 17] [(46, vP g 0), (44, sl b3 a c5), (37, sl d8 c e7), (30, vP g 0)] ?_
            refine oSS 2 0 [sl d8 c e7] (fun w' h' => (by exact h'.sub (.cons _ (.cons _ (.cons _ (.cons _ (.cons _ (.cons_cons _ (.refl _))))))))) ?_
            refine oq [oT 19, oT 20] [(48, vP g 1), (44, sl b3 a c5)] ?_
            refine oSS 2 1 [sl b3 a c5] (fun w' h' => (by exact h'.sub (.cons _ (.cons _ (.cons _ (.cons _ (.cons _ (.cons_cons _ (.refl _))))))))) ?_
            refine ops_nil ?_
            exact fj E (d8, e7, c, hw, b3, c5, a, hx) ⟨D, rd, re⟩ 6 [2, 3, 4, 5]
          ·
           refine tree_leaf ?_
           refine oM 41 2 1 ?_
           refine oM 34 2 0 ?_
           obtain ⟨j7, pc⟩ := app_some B
           obtain ⟨hy, l8⟩ : ∃ y_, o ++ ([vI n]) = y_ := ⟨_, rfl⟩
           have rf : RepL (Rep.int .i64) F W c hy := by rw [j7, ← l8]; exact RepL.app q Y
           refine ops_appendO (x := (Go.Operand.tmp 34)) (y := (Go.Operand.tmp 36)) (t := 22) (e := 3) (d := some 37) (n' := c.length) (z := 1) (m := ([n] : List Int).length) (bytes := 8) (xs' := hy) (news := ([vI n])) (zv := vI 0) 3 ⟨by kernel_rfl⟩ rfl rfl Try.underlying22 (by kernel_rfl) (by rfl) rfl (fun s i => i.srcO 0 rfl) Y.len Y.one pc (by have z_ := congrArg List.length j7; rw [List.length_append] at z_; exact z_.symm) l8 (fun _ _ _ _ A h' => (by exact h'.sub (.cons _ (.cons _ (.cons _ (.cons _ (.cons _ (.cons_cons _ (.refl _))))))))) ?_
           rintro ⟨d9, e8⟩
           obtain ⟨j8, pd⟩ := app_some u
           obtain ⟨hz, l9⟩ : ∃ y_, k ++ ([vI v]) = y_ := ⟨_, rfl⟩
           have rg : RepL (Rep.int .i64) F W a hz := by rw [j8, ← l9]; exact RepL.app p G
           refine ops_appendO (x := (Go.Operand.tmp 41)) (y := (Go.Operand.tmp 43)) (t := 22) (e := 3) (d := some 44) (n' := a.length) (z := 1) (m := ([v] : List Int).length) (bytes := 8) (xs' := hz) (news := ([vI v])) (zv := vI 0) 4 ⟨by kernel_rfl⟩ rfl rfl Try.underlying22 (by kernel_rfl) (by rfl) rfl (fun s i => i.srcO 1 rfl) G.len G.one pd (by have z_ := congrArg List.length j8; rw [List.length_append] at z_; exact z_.symm) l9 (fun _ _ _ _ A h' => (by exact h'.sub (.cons _ (.cons _ (.cons _ (.cons _ (.cons _ (.cons_cons _ (.refl _))))))))) ?_
           rintro ⟨b4, c6⟩
           refine oq [oT 16, oT 17] [(46, vP g 0), (44, sl b4 a c6), (37, sl d9 c e8), (30, vP g 0)] ?_
           refine oSS 2 0 [sl d9 c e8] (fun w' h' => (by exact h'.sub (.cons _ (.cons _ (.cons _ (.cons _ (.cons _ (.cons_cons _ (.refl _))))))))) ?_
           refine oq [oT 19, oT 20] [(48, vP g 1), (44, sl b4 a c6)] ?_
           refine oSS 2 1 [sl b4 a c6] (fun w' h' => (by exact h'.sub (.cons _ (.cons _ (.cons _ (.cons _ (.cons _ (.cons_cons _ (.refl _))))))))) ?_
           refine ops_nil ?_
           exact fj E (d9, e8, c, hy, b4, c6, a, hz) ⟨D, rf, rg⟩ 6 [2, 3, 4, 5]
         ·
          refine tree_node ?_
          refine oM 41 1 1 ?_
          refine ops_nil ?_
          refine tree_both ?_ ?_
          ·
           refine tree_leaf ?_
           refine oM 34 1 0 ?_
           have fz : RepL (Rep.int .i64) F W ([n] : List Int) ([vI n]) := (RepL.cons (R := (Rep.int .i64)) (F := F) (w := W) (vs := [vI n]) (ys := []) rfl RepL.nil)
           refine oBS 36 [vI n] 3 1 1 (fun s8 => ?_)
           obtain ⟨j9, pe⟩ := app_some B
           obtain ⟨h0, ma⟩ : ∃ y_, o ++ ([vI n]) = y_ := ⟨_, rfl⟩
           have rh : RepL (Rep.int .i64) F W c h0 := by rw [j9, ← ma]; exact RepL.app q fz
           refine ops_appendO (x := (Go.Operand.tmp 34)) (y := (Go.Operand.tmp 36)) (t := 22) (e := 3) (d := some 37) (n' := c.length) (z := 1) (m := ([n] : List Int).length) (bytes := 8) (xs' := h0) (news := ([vI n])) (zv := vI 0) 3 ⟨by kernel_rfl⟩ rfl rfl Try.underlying22 (by kernel_rfl) (by rfl) rfl (fun s i => i.srcO 0 rfl) fz.len fz.one pe (by have z_ := congrArg List.length j9; rw [List.length_append] at z_; exact z_.symm) ma (fun _ _ _ _ A h' => (by exact h'.sub (.cons _ (.cons _ (.cons _ (.cons _ (.cons _ (.cons_cons _ (.refl _))))))))) ?_
           rintro ⟨ea, e9⟩
           obtain ⟨ka, pf⟩ := app_some u
           obtain ⟨h1, mb⟩ : ∃ y_, k ++ ([vI v]) = y_ := ⟨_, rfl⟩
           have ri : RepL (Rep.int .i64) F W a h1 := by rw [ka, ← mb]; exact RepL.app p G
           refine ops_appendO (x := (Go.Operand.tmp 41)) (y := (Go.Operand.tmp 43)) (t := 22) (e := 3) (d := some 44) (n' := a.length) (z := 1) (m := ([v] : List Int).length) (bytes := 8) (xs' := h1) (news := ([vI v])) (zv := vI 0) 4 ⟨by kernel_rfl⟩ rfl rfl Try.underlying22 (by kernel_rfl) (by rfl) rfl (fun s i => i.srcO 1 rfl) G.len G.one pf (by have z_ := congrArg List.length ka; rw [List.length_append] at z_; exact z_.symm) mb (fun _ _ _ _ A h' => (by exact h'.sub (.cons _ (.cons _ (.cons _ (.cons _ (.cons _ (.cons_cons _ (.refl _))))))))) ?_
           rintro ⟨b5, c7⟩
           refine oq [oT 16, oT 17] [(46, vP g 0), (44, sl b5 a c7), (37, sl ea c e9), (30, vP g 0)] ?_
           refine oSS 2 0 [sl ea c e9] (fun w' h' => (by exact h'.sub (.cons _ (.cons _ (.cons _ (.cons _ (.cons _ (.cons_cons _ (.refl _))))))))) ?_
           refine oq [oT 19, oT 20] [(48, vP g 1), (44, sl b5 a c7)] ?_
           refine oSS 2 1 [sl b5 a c7] (fun w' h' => (by exact h'.sub (.cons _ (.cons _ (.cons _ (.cons _ (.cons _ (.cons_cons _ (.refl _))))))))) ?_
           refine ops_nil ?_
           exact fj E (ea, e9, c, h0, b5, c7, a, h1) ⟨D, rh, ri⟩ 6 [2, 3, 4, 5]
          ·
           refine tree_leaf ?_
           have f0 : RepL (Rep.int .i64) F W ([n] : List Int) ([vI n]) := (RepL.cons (R := (Rep.int .i64)) (F := F) (w := W) (vs := [vI n]) (ys := []) rfl RepL.nil)
           refine oBS 36 [vI n] 3 1 1 (fun s9 => ?_)
           refine oM 34 2 0 ?_
           obtain ⟨kb, pg⟩ := app_some B
           obtain ⟨h2, mc⟩ : ∃ y_, o ++ ([vI n]) = y_ := ⟨_, rfl⟩
           have rj : RepL (Rep.int .i64) F W c h2 := by rw [kb, ← mc]; exact RepL.app q f0
           refine ops_appendO (x := (Go.Operand.tmp 34)) (y := (Go.Operand.tmp 36)) (t := 22) (e := 3) (d := some 37) (n' := c.length) (z := 1) (m := ([n] : List Int).length) (bytes := 8) (xs' := h2) (news := ([vI n])) (zv := vI 0) 3 ⟨by kernel_rfl⟩ rfl rfl Try.underlying22 (by kernel_rfl) (by rfl) rfl (fun s i => i.srcO 0 rfl) f0.len f0.one pg (by have z_ := congrArg List.length kb; rw [List.length_append] at z_; exact z_.symm) mc (fun _ _ _ _ A h' => (by exact h'.sub (.cons _ (.cons _ (.cons _ (.cons _ (.cons _ (.cons_cons _ (.refl _))))))))) ?_
           rintro ⟨eb, fa⟩
           obtain ⟨kc, ph⟩ := app_some u
           obtain ⟨h3, md⟩ : ∃ y_, k ++ ([vI v]) = y_ := ⟨_, rfl⟩
           have rk : RepL (Rep.int .i64) F W a h3 := by rw [kc, ← md]; exact RepL.app p G
           refine ops_appendO (x := (Go.Operand.tmp 41)) (y := (Go.Operand.tmp 43)) (t := 22) (e := 3) (d := some 44) (n' := a.length) (z := 1) (m := ([v] : List Int).length) (bytes := 8) (xs' := h3) (news := ([vI v])) (zv := vI 0) 4 ⟨by kernel_rfl⟩ rfl rfl Try.underlying22 (by kernel_rfl) (by rfl) rfl (fun s i => i.srcO 1 rfl) G.len G.one ph (by have z_ := congrArg List.length kc; rw [List.length_append] at z_; exact z_.symm) md (fun _ _ _ _ A h' => (by exact h'.sub (.cons _ (.cons _ (.cons _ (.cons _ (.cons _ (.cons_cons _ (.refl _))))))))) ?_
           rintro ⟨b6, c8⟩
           refine oq [oT 16, oT 17] [(46, vP g 0), (44, sl b6 a c8), (37, sl eb c fa), (30, vP g 0)] ?_
           refine oSS 2 0 [sl eb c fa] (fun w' h' => (by exact h'.sub (.cons _ (.cons _ (.cons _ (.cons _ (.cons _ (.cons_cons _ (.refl _))))))))) ?_
           refine oq [oT 19, oT 20] [(48, vP g 1), (44, sl b6 a c8)] ?_
           refine oSS 2 1 [sl b6 a c8] (fun w' h' => (by exact h'.sub (.cons _ (.cons _ (.cons _ (.cons _ (.cons _ (.cons_cons _ (.refl _))))))))) ?_
           refine ops_nil ?_
           exact fj E (eb, fa, c, h2, b6, c8, a, h3) ⟨D, rj, rk⟩ 6 [2, 3, 4, 5]
end Go.Proofs.Ytbfndcookgijfaa.P
