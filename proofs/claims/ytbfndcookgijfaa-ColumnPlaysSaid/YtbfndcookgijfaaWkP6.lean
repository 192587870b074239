/- The Go functions come to what the plain functions tell. No condition. -/
import Derived.Test.YtbfndcookgijfaaProg
import Derived.Test.YtbfndcookgijfaaFnP
import Derived.Test.YtbfndcookgijfaaExSq
import Derived.Test.YtbfndcookgijfaaExMap
namespace Go.Proofs.Ytbfndcookgijfaa.P
open Go Go.RowKit Go.Proofs.Ytbfndcookgijfaa.Sx
set_option linter.unusedVariables false
set_option maxHeartbeats 4000000
set_option maxRecDepth 100000
variable {w0 w : World} {cs : List Chunk} {F : Nat → Prop} {W : World}
def column_Store_string_Put__t0 : List Row := [⟨0, 4398046511104, 1⟩, ⟨0, 8796093022208, 1⟩, ⟨0, 17592186044416, 1⟩, ⟨4, 35184372088832, 17592186044416⟩, ⟨8, 70368744177664, 35184372088832⟩, ⟨16, 140737488355328, 70368744177664⟩, ⟨0, 281474976710656, 2⟩, ⟨64, 562949953421312, 281474976710656⟩, ⟨160, 1125899906842624, 703687441776640⟩, ⟨0, 2251799813685248, 1⟩, ⟨512, 4503599627370496, 2251799813685248⟩, ⟨1024, 9007199254740992, 4503599627370496⟩, ⟨2048, 18014398509481984, 9007199254740992⟩, ⟨0, 36028797018963968, 4⟩, ⟨8192, 72057594037927936, 36028797018963968⟩, ⟨20736, 144115188075855872, 90071992547409920⟩, ⟨37373, 288230376151711744, 4398046511104⟩, ⟨102909, 576460752303423488, 288230376151711744⟩, ⟨168445, 0, 577586652210266112⟩, ⟨524287, 1152921504606846976, 8796093022208⟩, ⟨1048575, 2305843009213693952, 1152921504606846976⟩, ⟨1572863, 0, 2449958197289549824⟩]
theorem column_Store_string_Put_ok {c : Nat} {K : Option Addr} {G : Nat} {O : List ByteArray} {g : List Value} {H : Option Addr} {J : Nat} {M : List Int} {j : List Value} {D : Nat} {U : Array MapEntry} {T : Nat} {dm : List (Int × Int)} {n : Int} {v : ByteArray} (sb : Mem w0 (.blk c [sl K O G, sl H M J, .map (some D)] 62 :: ow K O G 9 1 g :: ow H M J 3 1 j :: .obj D (.map U T) :: Fz F W :: cs) w) (k : RepL Rep.str F W O g) (o : RepL (Rep.int .i64) F W M j) (ad : MapOK (fun x_ : Int => Value.int .i64 x_) (Rep.int .i64) false F W dm U T) {di : Int} {ae : List ByteArray} {af : List Int} {dj : List (Int × Int)} (A : column_Store_string_Put O M dm n v = some (di, ae, af, dj)) : Calls Try.prog 28 #[vP c 0, vI n, .string v] w (Post w0 (fun ((ar, av, ax, au, aw, ay, ac, ab) : (Option Addr) × Nat × (List Value) × (Option Addr) × Nat × (List Value) × (Array MapEntry) × Nat) => (RepL Rep.str F W ae ax) ∧ (RepL (Rep.int .i64) F W af ay) ∧ (MapOK (fun x_ : Int => Value.int .i64 x_) (Rep.int .i64) false F W dj ac ab)) (fun (ar, av, ax, au, aw, ay, ac, ab) => vI di) (fun (ar, av, ax, au, aw, ay, ac, ab) => .blk c [sl ar ae av, sl au af aw, .map (some D)] 62 :: ow ar ae av 9 1 ax :: ow au af aw 3 1 ay :: .obj D (.map ac ab) :: Fz F W :: cs)) := by
 unfold column_Store_string_Put at A
 refine sx_calls Try.func28 rfl (n := 62) (by kernel_rfl) (l := [(0, vP c 0), (1, vI n), (2, .string v)]) rfl (by rfl) sb ?_
 refine st_seq (st_region [oF 0] (by rfl) ?_)
 refine oq [oF 0] [(0, vP c 0), (1, vI n), (2, .string v)] ?_
 refine ops_nil (fin_then (st_seq (st_seq ?_)))
 refine st_region (oFs 0 6) (by rfl) ?_
 refine oq (oFs 0 3) [(11, .bool (decide (n < 0))), (0, vP c 0), (1, vI n), (2, .string v)] ?_
 refine ob A [11] (fun sc A => ?_) (fun sc A => ?_)
 ·
  refine oq (oFs 3 3) [(14, .bool true), (0, vP c 0), (1, vI n), (2, .string v)] ?_
  refine ops_nil (fin_then (st_true rfl (st_seq (st_region [oF 0] (by rfl) ?_))))
  refine oq [oF 0] [(6, vI 1)] ?_
  refine ops_nil (fin_then (st_ret (fin_ret_then ?_)))
  obtain ⟨rfl, rfl, rfl, rfl⟩ := si4 A
  exact fr [6] (K, G, g, H, J, j, U, T) ⟨k, o, ad⟩ 0 []
 ·
  refine oq (oFs 3 3) [(14, .bool (decide (256 ≤ n))), (0, vP c 0), (1, vI n), (2, .string v)] ?_
  refine ops_nil (fin_then ?_)
  refine sif A (fun sd A => ?_) (fun sd A => ?_)
  ·
   refine st_seq (st_region [oF 0] (by rfl) ?_)
   refine oq [oF 0] [(6, vI 1)] ?_
   refine ops_nil (fin_then (st_ret (fin_ret_then ?_)))
   obtain ⟨rfl, rfl, rfl, rfl⟩ := si4 A
   exact fr [6] (K, G, g, H, J, j, U, T) ⟨k, o, ad⟩ 0 []
  ·
   refine st_skip (fin_then (st_seq (st_seq ?_)))
   refine st_region (oFs 0 11) (by rfl) ?_
   refine oq (oFs 0 3) [(18, vP c 2), (0, vP c 0), (1, vI n), (2, .string v)] ?_
   refine oM 19 0 2 ?_
   refine oq [oF 4] [(20, vI n), (19, .map (some D)), (0, vP c 0), (1, vI n), (2, .string v)] ?_
   obtain ⟨x3, sf, A⟩ := obind A
   obtain ⟨si, hr6, hrun7⟩ := ad.get (KeyLaw.int Try.underlying3) Try.underlying42 n 0 (rfl) (fun u_ => Try.zeroValue3 u_)
   have hr6 : (Rep.int .i64).rd F W x3 si := by rw [← Option.some.inj sf]; exact hr6
   obtain rfl := hr6
   refine ops_law (op := (.lookup 42 (.tmp 19) (.tmp 20) true)) (d := some 21) (σ := Unit) (v := fun _ => .tuple #[vI x3, .bool ((mget dm n).isSome)]) (M' := fun _ => Mem w0 (.blk c [sl K O G, sl H M J, .map (some D)] 62 :: ow K O G 9 1 g :: ow H M J 3 1 j :: .obj D (.map U T) :: Fz F W :: cs)) ⟨by kernel_rfl⟩ (fun o_ q ho_ f s => ⟨(), q, run_lookupV rfl rfl (hrun7 true D q (f.mapAt 3 rfl)) o_ ho_, f, trivial⟩) (fun _ => ?_)
   refine oq (oFs 6 5) [(8, .bool ((mget dm n).isSome)), (7, vI x3), (0, vP c 0), (1, vI n), (2, .string v)] ?_
   refine ops_nil (fin_then (st_seq (st_region [oF 0] (by rfl) ?_)))
   refine oq [oF 0] [(24, .bool ((mget dm n).isSome)), (7, vI x3), (0, vP c 0), (1, vI n), (2, .string v)] ?_
   refine ops_nil (fin_then ?_)
   refine sif A (fun se A => ?_) (fun se A => ?_)
   ·
    refine st_seq ?_
    refine st_region (oFs 0 8) (by rfl) ?_
    refine oq (oFs 0 3) [(27, vP c 0), (7, vI x3), (2, .string v)] ?_
    refine oM 28 0 0 ?_
    refine oq [oF 4, oF 5] [(30, .string v), (29, vI x3), (28, sl K O G)] ?_
    obtain ⟨x9, r1, A⟩ := obind A
    obtain ⟨ag, m7, m8⟩ := idx_some r1
    have m5 := (List.getElem?_eq_some_iff.1 m8).1
    refine ops_fact (fun q f => f.orowSome 1 rfl (Nat.lt_of_le_of_lt (Nat.zero_le _) m5)) ?_
    rintro ⟨a1, rfl, -⟩
    obtain ⟨tp, hr15, tn⟩ := k.at_ ag x9 m8
    obtain rfl := hr15
    refine ops_val (op := (.indexAddr 60 (.tmp 28) (.tmp 29))) (d := some 31) (v := vP a1 (ag * 1)) ⟨by kernel_rfl⟩ (run_indexRow Try.underlying60 (z := 1) (by kernel_rfl) rfl rfl m7 m5 rfl) ?_
    refine oq [] [(31, vP a1 (ag * 1)), (30, .string v)] ?_
    obtain ⟨mq, r2, A⟩ := obind A
    obtain ⟨sh, tm, m6, mz⟩ := upd_some r2
    obtain rfl : ag = sh := by have := m7; omega
    have gd : O.length = mq.length := by rw [mz, List.length_set]
    obtain ⟨ne, m9⟩ : ∃ y_, setAll g (ag * 1 + 0) [.string v] = y_ := ⟨_, rfl⟩
    have r4 : RepL Rep.str F W mq ne := by rw [mz, ← m9]; exact RepL.set k (List.getElem?_eq_getElem m6) (fun vs_ hr_ _ => by obtain rfl := hr_; exact ⟨rfl, Nat.le_of_ble_eq_true rfl⟩)
    refine ops_store (an := []) (evs := [.store ⟨a1, ag * 1, none⟩ (.string v)]) ⟨by kernel_rfl⟩ (fun q f s => let ⟨w', he, h'⟩ := f.ostore' 1 rfl (ag * 1 + 0) [.string v] (by have z_ : g.length = O.length * 1 := k.len; have y_ : (ag + 1) * 1 ≤ O.length * 1 := Nat.mul_le_mul_right _ m6; rw [Nat.add_mul] at y_; simp only [List.length_cons, List.length_nil]; omega) gd m9; ⟨w', he, h', trivial⟩) ?_
    refine ops_conv (l' := [(31, vP a1 (ag * 1)), (30, .string v)]) (M' := Mem w0 (.blk c [sl (sa a1) mq G, sl H M J, .map (some D)] 62 :: ow (sa a1) mq G 9 1 ne :: ow H M J 3 1 j :: .obj D (.map U T) :: Fz F W :: cs)) (by first | rfl | ((try dsimp only [sl, ow]); rw [gd])) (fun q f => by first | exact f | ((try dsimp only [sl, ow] at f ⊢); rw [gd] at f; exact f)) ?_
    refine ops_nil (fin_then (st_seq (st_region [oF 0] (by rfl) ?_)))
    refine oq [oF 0] [(6, vI 0)] ?_
    refine ops_nil (fin_then (st_ret (fin_ret_then ?_)))
    obtain ⟨rfl, rfl, rfl, rfl⟩ := si4 A
    exact fr [6] ((sa a1), G, ne, H, J, j, U, T) ⟨r4, o, ad⟩ 0 []
   ·
    refine st_skip (fin_then (st_seq ?_))
    refine st_region_draw [oT 0, oT 1, oT 2, oT 3, oT 4, oT 5, oT 6, oT 7, oT 8, oT 9, oF 10] (Mem w0 (.blk c [sl K O G, sl H M J, .map (some D)] 62 :: ow K O G 9 1 g :: ow H M J 3 1 j :: Fz F W :: cs)) (by kernel_rfl) (by kernel_rfl) (by kernel_rfl) (fun _ d _ _ _ h => by cases d <;> exact h) (M' := Mem w0 (.blk c [sl K O G, sl H M J, .map (some D)] 62 :: ow K O G 9 1 g :: ow H M J 3 1 j :: .obj D (.map U T) :: Fz F W :: cs)) (fun q f => ⟨f.drew, f.drew.sub (.cons_cons _ (.cons_cons _ (.cons_cons _ (.cons _ (.cons_cons _ (.refl _))))))⟩) ?_
    refine oq (oTs 0 3) [(34, vP c 2), (0, vP c 0), (1, vI n), (2, .string v)] ?_
    refine oL 35 0 2 ?_
    refine oq (oTs 4 4) [(39, vP c 1), (36, vI n), (35, .map (some D)), (0, vP c 0), (1, vI n), (2, .string v)] ?_
    refine oL 40 0 1 ?_
    refine oq [oT 9] [(41, vI (M.length : Int)), (36, vI n), (35, .map (some D)), (0, vP c 0), (1, vI n), (2, .string v)] ?_
    obtain ⟨sg, r3, A⟩ := obind A
    obtain ⟨a0, az, ps, hrun35⟩ := MapOK.update ad (KeyLaw.int Try.underlying3) Try.underlying42 n (v := (M.length : Int)) (vs := [vI (M.length : Int)]) (rfl)
    rw [Option.some.inj r3] at ps
    refine ops_unit (op := (.mapUpdate 42 (.tmp 35) (.tmp 36) (.tmp 41))) (σ := Unit) (M' := fun _ => Mem w0 (.blk c [sl K O G, sl H M J, .map (some D)] 62 :: ow K O G 9 1 g :: ow H M J 3 1 j :: .obj D (.map a0 az) :: Fz F W :: cs)) ⟨by kernel_rfl⟩ (fun o_ q ho_ f s => have h' := f.setObj 3 rfl _; ⟨(), _, run_updateV rfl rfl rfl (hrun35 D q (f.mapAt 3 rfl)) o_ ho_, h', (by exact h'.sub (.cons_cons _ (.cons_cons _ (.cons_cons _ (.cons _ (.cons_cons _ (.refl _)))))))⟩) (fun _ => ?_)
    refine ops_nil (fin_then ?_)
    refine st_join1 (σ := (Option Addr) × Nat × (List ByteArray) × (List Value) × (Option Addr) × Nat × (List Int) × (List Value)) (L := fun x_ => match x_ with | (a4, a7, a2, ba, a5, a8, a3, bb) => []) (N := fun x_ => match x_ with | (a4, a7, a2, ba, a5, a8, a3, bb) => Mem w0 (.blk c [sl a4 a2 a7, sl a5 a3 a8, .map (some D)] 62 :: ow a4 a2 a7 9 1 ba :: ow a5 a3 a8 3 1 bb :: .obj D (.map a0 az) :: Fz F W :: cs)) (I := fun x_ => match x_ with | (a4, a7, a2, ba, a5, a8, a3, bb) => ((column_Store_string_Put_j1 sg) a2 a3 = some (di, ae, af, dj)) ∧ (RepL Rep.str F W a2 ba) ∧ (RepL (Rep.int .i64) F W a3 bb)) ?_ ?_
    ·
     rintro ⟨a4, a7, a2, ba, a5, a8, a3, bb⟩ ⟨A, r5, r6⟩
     unfold column_Store_string_Put_j1 at A
     refine st_seq (st_region [oF 0] (by rfl) ?_)
     refine oq [oF 0] [(6, vI 0)] ?_
     refine ops_nil (fin_then (st_ret ?_))
     obtain ⟨rfl, rfl, rfl, rfl⟩ := si4 A
     exact fr [6] (a4, a7, ba, a5, a8, bb, a0, az) ⟨r5, r6, ps⟩ 0 []
    ·
     intro C
     refine st_seq ?_
     obtain ⟨b, u, A⟩ := obind A
     obtain ⟨a, r, A⟩ := obind A
     refine st_region_treeF column_Store_string_Put__t0 22 (.node [oT 0, oT 1, oT 2, oT 3, oT 4, oT 6, oT 9, oT 10, oT 11, oT 13] (.node [oF 5] (.node [oF 7] (.node [oF 8] (.leaf [oF 12, oF 14, oF 15, oT 16, oT 17, oF 18, oT 19, oT 20, oF 21]) (.leaf [oF 14, oF 12, oF 15, oT 16, oT 17, oF 18, oT 19, oT 20, oF 21])) (.node [] (.node [oF 12] (.leaf [oF 8, oF 14, oF 15, oT 16, oT 17, oF 18, oT 19, oT 20, oF 21]) (.leaf [oF 14, oF 8, oF 15, oT 16, oT 17, oF 18, oT 19, oT 20, oF 21])) (.node [oF 14] (.leaf [oF 8, oF 12, oF 15, oT 16, oT 17, oF 18, oT 19, oT 20, oF 21]) (.leaf [oF 12, oF 8, oF 15, oT 16, oT 17, oF 18, oT 19, oT 20, oF 21])))) (.node [] (.node [oF 12] (.node [oF 7] (.leaf [oF 8, oF 14, oF 15, oT 16, oT 17, oF 18, oT 19, oT 20, oF 21]) (.leaf [oF 14, oF 8, oF 15, oT 16, oT 17, oF 18, oT 19, oT 20, oF 21])) (.leaf [oF 14, oF 7, oF 8, oF 15, oT 16, oT 17, oF 18, oT 19, oT 20, oF 21])) (.node [oF 14] (.node [oF 7] (.leaf [oF 8, oF 12, oF 15, oT 16, oT 17, oF 18, oT 19, oT 20, oF 21]) (.leaf [oF 12, oF 8, oF 15, oT 16, oT 17, oF 18, oT 19, oT 20, oF 21])) (.leaf [oF 12, oF 7, oF 8, oF 15, oT 16, oT 17, oF 18, oT 19, oT 20, oF 21])))) (.node [] (.node [oF 7] (.node [oF 5] (.node [oF 8] (.leaf [oF 12, oF 14, oF 15, oT 16, oT 17, oF 18, oT 19, oT 20, oF 21]) (.leaf [oF 14, oF 12, oF 15, oT 16, oT 17, oF 18, oT 19, oT 20, oF 21])) (.node [] (.node [oF 12] (.leaf [oF 8, oF 14, oF 15, oT 16, oT 17, oF 18, oT 19, oT 20, oF 21]) (.leaf [oF 14, oF 8, oF 15, oT 16, oT 17, oF 18, oT 19, oT 20, oF 21])) (.node [oF 14] (.leaf [oF 8, oF 12, oF 15, oT 16, oT 17, oF 18, oT 19, oT 20, oF 21]) (.leaf [oF 12, oF 8, oF 15, oT 16, oT 17, oF 18, oT 19, oT 20, oF 21])))) (.node [] (.node [oF 12] (.node [oF 5] (.leaf [oF 8, oF 14, oF 15, oT 16, oT 17, oF 18, oT 19, oT 20, oF 21]) (.leaf [oF 14, oF 8, oF 15, oT 16, oT 17, oF 18, oT 19, oT 20, oF 21])) (.leaf [oF 14, oF 5, oF 8, oF 15, oT 16, oT 17, oF 18, oT 19, oT 20, oF 21])) (.node [oF 14] (.node [oF 5] (.leaf [oF 8, oF 12, oF 15, oT 16, oT 17, oF 18, oT 19, oT 20, oF 21]) (.leaf [oF 12, oF 8, oF 15, oT 16, oT 17, oF 18, oT 19, oT 20, oF 21])) (.leaf [oF 12, oF 5, oF 8, oF 15, oT 16, oT 17, oF 18, oT 19, oT 20, oF 21])))) (.node [] (.node [oF 12] (.node [oF 5] (.node [oF 7] (.leaf [oF 8, oF 14, oF 15, oT 16, oT 17, oF 18, oT 19, oT 20, oF 21]) (.leaf [oF 14, oF 8, oF 15, oT 16, oT 17, oF 18, oT 19, oT 20, oF 21])) (.leaf [oF 14, oF 7, oF 8, oF 15, oT 16, oT 17, oF 18, oT 19, oT 20, oF 21])) (.node [] (.node [oF 7] (.node [oF 5] (.leaf [oF 8, oF 14, oF 15, oT 16, oT 17, oF 18, oT 19, oT 20, oF 21]) (.leaf [oF 14, oF 8, oF 15, oT 16, oT 17, oF 18, oT 19, oT 20, oF 21])) (.leaf [oF 14, oF 5, oF 8, oF 15, oT 16, oT 17, oF 18, oT 19, oT 20, oF 21])) (.node [oF 14] (.leaf [oF 5, oF 7, oF 8, oF 15, oT 16, oT 17, oF 18, oT 19, oT 20, oF 21]) (.leaf [oF 7, oF 5, oF 8, oF 15, oT 16, oT 17, oF 18, oT 19, oT 20, oF 21])))) (.node [oF 14] (.node [oF 5] (.node [oF 7] (.leaf [oF 8, oF 12, oF 15, oT 16, oT 17, oF 18, oT 19, oT 20, oF 21]) (.leaf [oF 12, oF 8, oF 15, oT 16, oT 17, oF 18, oT 19, oT 20, oF 21])) (.leaf [oF 12, oF 7, oF 8, oF 15, oT 16, oT 17, oF 18, oT 19, oT 20, oF 21])) (.node [] (.node [oF 7] (.node [oF 5] (.leaf [oF 8, oF 12, oF 15, oT 16, oT 17, oF 18, oT 19, oT 20, oF 21]) (.leaf [oF 12, oF 8, oF 15, oT 16, oT 17, oF 18, oT 19, oT 20, oF 21])) (.leaf [oF 12, oF 5, oF 8, oF 15, oT 16, oT 17, oF 18, oT 19, oT 20, oF 21])) (.node [oF 12] (.leaf [oF 5, oF 7, oF 8, oF 15, oT 16, oT 17, oF 18, oT 19, oT 20, oF 21]) (.leaf [oF 7, oF 5, oF 8, oF 15, oT 16, oT 17, oF 18, oT 19, oT 20, oF 21]))))))) (Mem w0 (.obj D (.map a0 az) :: Fz F W :: cs)) (by kernel_rfl) (by kernel_rfl) (by kernel_rfl) (by kernel_rfl) (by kernel_rfl) (fun _ d _ _ _ h => by cases d <;> exact h) (M' := Mem w0 (.blk c [sl K O G, sl H M J, .map (some D)] 62 :: ow K O G 9 1 g :: ow H M J 3 1 j :: .obj D (.map a0 az) :: Fz F W :: cs)) (fun q f => ⟨f.drew, f.drew.sub (.cons _ (.cons _ (.cons _ (.cons_cons _ (.cons_cons _ (.refl _))))))⟩) ?_
     refine tree_node ?_
     refine oq [oT 0, oT 1, oT 2, oT 3, oT 4, oT 6, oT 9, oT 10, oT 11, oT 13] [(55, .string v), (53, vP c 0), (48, vI n), (46, vP c 1), (43, vP c 0), (42, vP c 0)] ?_
     refine ops_nil ?_
     refine tree_both ?_ ?_
     ·
      refine tree_node ?_
      refine oM 47 0 1 ?_
      refine ops_nil ?_
      refine tree_both ?_ ?_
      ·
       refine tree_node ?_
       have V : RepL (Rep.int .i64) F W ([n] : List Int) ([vI n]) := (RepL.cons (R := (Rep.int .i64)) (F := F) (w := W) (vs := [vI n]) (ys := []) rfl RepL.nil)
       refine oBS 49 [vI n] 3 1 1 (fun tr => ?_)
       refine ops_nil ?_
       refine tree_both ?_ ?_
       ·
        refine tree_node ?_
        obtain ⟨m0, rv⟩ := app_some u
        obtain ⟨mr, na⟩ : ∃ y_, j ++ ([vI n]) = y_ := ⟨_, rfl⟩
        have pt : RepL (Rep.int .i64) F W b mr := by rw [m0, ← na]; exact RepL.app o V
        refine ops_appendO (x := (Go.Operand.tmp 47)) (y := (Go.Operand.tmp 49)) (t := 22) (e := 3) (d := some 50) (n' := b.length) (z := 1) (m := ([n] : List Int).length) (bytes := 8) (xs' := mr) (news := ([vI n])) (zv := vI 0) 3 ⟨by kernel_rfl⟩ rfl rfl Try.underlying22 (by kernel_rfl) (by rfl) rfl (fun q f => f.srcO 0 rfl) V.len V.one rv (by have z_ := congrArg List.length m0; rw [List.length_append] at z_; exact z_.symm) na (fun _ _ _ _ s h' => (by exact h'.sub (.cons _ (.cons _ (.cons _ (.cons _ (.cons_cons _ (.cons_cons _ (.refl _))))))))) ?_
        rintro ⟨a6, a9⟩
        refine ops_nil ?_
        refine tree_both ?_ ?_
        ·
         refine tree_leaf ?_
         refine oM 54 1 0 ?_
         have mw : RepL Rep.str F W ([v] : List ByteArray) ([.string v]) := (RepL.cons (R := Rep.str) (F := F) (w := W) (vs := [.string v]) (ys := []) rfl RepL.nil)
         refine oBS 56 [.string v] 9 1 1 (fun ts => ?_)
         obtain ⟨m1, rx⟩ := app_some r
         obtain ⟨nf, nb⟩ : ∃ y_, g ++ ([.string v]) = y_ := ⟨_, rfl⟩
         have r7 : RepL Rep.str F W a nf := by rw [m1, ← nb]; exact RepL.app k mw
         refine ops_appendO (x := (Go.Operand.tmp 54)) (y := (Go.Operand.tmp 56)) (t := 60) (e := 9) (d := some 57) (n' := a.length) (z := 1) (m := ([v] : List ByteArray).length) (bytes := 16) (xs' := nf) (news := ([.string v])) (zv := .string ByteArray.empty) 3 ⟨by kernel_rfl⟩ rfl rfl Try.underlying60 (by kernel_rfl) (by rfl) rfl (fun q f => f.srcO 0 rfl) mw.len mw.one rx (by have z_ := congrArg List.length m1; rw [List.length_append] at z_; exact z_.symm) nb (fun _ _ _ _ s h' => (by exact h'.sub (.cons _ (.cons _ (.cons _ (.cons _ (.cons _ (.cons_cons _ (.cons_cons _ (.refl _)))))))))) ?_
         rintro ⟨ih, ij⟩
         refine oq [oT 16, oT 17] [(59, vP c 1), (57, sl ih a ij), (50, sl a6 b a9), (43, vP c 0)] ?_
         refine oSS 2 1 [sl a6 b a9] (fun w' h' => (by exact h'.sub (.cons _ (.cons _ (.cons _ (.cons _ (.cons _ (.cons_cons _ (.cons_cons _ (.refl _)))))))))) ?_
         refine oq [oT 19, oT 20] [(61, vP c 0), (57, sl ih a ij)] ?_
         refine oSS 2 0 [sl ih a ij] (fun w' h' => (by exact h'.sub (.cons _ (.cons _ (.cons _ (.cons _ (.cons _ (.cons_cons _ (.cons_cons _ (.refl _)))))))))) ?_
         refine ops_nil ?_
         exact fj C (ih, ij, a, nf, a6, a9, b, mr) ⟨A, r7, pt⟩ 7 [2, 3, 4, 5, 6]
        ·
         refine tree_leaf ?_
         have mx : RepL Rep.str F W ([v] : List ByteArray) ([.string v]) := (RepL.cons (R := Rep.str) (F := F) (w := W) (vs := [.string v]) (ys := []) rfl RepL.nil)
         refine oBS 56 [.string v] 9 1 1 (fun tt => ?_)
         refine oM 54 2 0 ?_
         obtain ⟨m2, ry⟩ := app_some r
         obtain ⟨ng, nc⟩ : ∃ y_, g ++ ([.string v]) = y_ := ⟨_, rfl⟩
         have r8 : RepL Rep.str F W a ng := by rw [m2, ← nc]; exact RepL.app k mx
         refine ops_appendO (x := (Go.Operand.tmp 54)) (y := (Go.Operand.tmp 56)) (t := 60) (e := 9) (d := some 57) (n' := a.length) (z := 1) (m := ([v] : List ByteArray).length) (bytes := 16) (xs' := ng) (news := ([.string v])) (zv := .string ByteArray.empty) 3 ⟨by kernel_rfl⟩ rfl rfl Try.underlying60 (by kernel_rfl) (by rfl) rfl (fun q f => f.srcO 0 rfl) mx.len mx.one ry (by have z_ := congrArg List.length m2; rw [List.length_append] at z_; exact z_.symm) nc (fun _ _ _ _ s h' => (by exact h'.sub (.cons _ (.cons _ (.cons _ (.cons _ (.cons _ (.cons_cons _ (.cons_cons _ (.refl _)))))))))) ?_
         rintro ⟨ii, ik⟩
         refine oq [oT 16, oT 17] [(59, vP c 1), (57, sl ii a ik), (50, sl a6 b a9), (43, vP c 0)] ?_
         refine oSS 2 1 [sl a6 b a9] (fun w' h' => (by exact h'.sub (.cons _ (.cons _ (.cons _ (.cons _ (.cons _ (.cons_cons _ (.cons_cons _ (.refl _)))))))))) ?_
         refine oq [oT 19, oT 20] [(61, vP c 0), (57, sl ii a ik)] ?_
         refine oSS 2 0 [sl ii a ik] (fun w' h' => (by exact h'.sub (.cons _ (.cons _ (.cons _ (.cons _ (.cons _ (.cons_cons _ (.cons_cons _ (.refl _)))))))))) ?_
         refine ops_nil ?_
         exact fj C (ii, ik, a, ng, a6, a9, b, mr) ⟨A, r8, pt⟩ 7 [2, 3, 4, 5, 6]
       ·
        refine tree_ways ?_ ?_
        ·
         refine tree_node ?_
         refine oM 54 1 0 ?_
         refine ops_nil ?_
         refine tree_both ?_ ?_
         ·
          refine tree_leaf ?_
          obtain ⟨m3, rz⟩ := app_some u
          obtain ⟨nh, nd⟩ : ∃ y_, j ++ ([vI n]) = y_ := ⟨_, rfl⟩
          have r9 : RepL (Rep.int .i64) F W b nh := by rw [m3, ← nd]; exact RepL.app o V
          refine ops_appendO (x := (Go.Operand.tmp 47)) (y := (Go.Operand.tmp 49)) (t := 22) (e := 3) (d := some 50) (n' := b.length) (z := 1) (m := ([n] : List Int).length) (bytes := 8) (xs' := nh) (news := ([vI n])) (zv := vI 0) 3 ⟨by kernel_rfl⟩ rfl rfl Try.underlying22 (by kernel_rfl) (by rfl) rfl (fun q f => f.srcO 0 rfl) V.len V.one rz (by have z_ := congrArg List.length m3; rw [List.length_append] at z_; exact z_.symm) nd (fun _ _ _ _ s h' => (by exact h'.sub (.cons _ (.cons _ (.cons _ (.cons _ (.cons_cons _ (.cons_cons _ (.refl _))))))))) ?_
          rintro ⟨mt, mu⟩
          have my : RepL Rep.str F W ([v] : List ByteArray) ([.string v]) := (RepL.cons (R := Rep.str) (F := F) (w := W) (vs := [.string v]) (ys := []) rfl RepL.nil)
          refine oBS 56 [.string v] 9 1 1 (fun tu => ?_)
          obtain ⟨m4, r0⟩ := app_some r
          obtain ⟨ni, ko⟩ : ∃ y_, g ++ ([.string v]) = y_ := ⟨_, rfl⟩
          have pu : RepL Rep.str F W a ni := by rw [m4, ← ko]; exact RepL.app k my
          refine ops_appendO (x := (Go.Operand.tmp 54)) (y := (Go.Operand.tmp 56)) (t := 60) (e := 9) (d := some 57) (n' := a.length) (z := 1) (m := ([v] : List ByteArray).length) (bytes := 16) (xs' := ni) (news := ([.string v])) (zv := .string ByteArray.empty) 3 ⟨by kernel_rfl⟩ rfl rfl Try.underlying60 (by kernel_rfl) (by rfl) rfl (fun q f => f.srcO 0 rfl) my.len my.one r0 (by have z_ := congrArg List.length m4; rw [List.length_append] at z_; exact z_.symm) ko (fun _ _ _ _ s h' => (by exact h'.sub (.cons _ (.cons _ (.cons _ (.cons _ (.cons _ (.cons_cons _ (.cons_cons _ (.refl _)))))))))) ?_
          rintro ⟨bc, cf⟩
          refine oq [oT 16, oT 17] [(59, vP c 1), (57, sl bc a cf), (50, sl mt b mu), (43, vP c 0)] ?_
          refine oSS 2 1 [sl mt b mu] (fun w' h' => (by exact h'.sub (.cons _ (.cons _ (.cons _ (.cons _ (.cons _ (.cons_cons _ (.cons_cons _ (.refl _)))))))))) ?_
          refine oq [oT 19, oT 20] [(61, vP c 0), (57, sl bc a cf)] ?_
          refine oSS 2 0 [sl bc a cf] (fun w' h' => (by exact h'.sub (.cons _ (.cons _ (.cons _ (.cons _ (.cons _ (.cons_cons _ (.cons_cons _ (.refl _)))))))))) ?_
          refine ops_nil ?_
          exact fj C (bc, cf, a, ni, mt, mu, b, nh) ⟨A, pu, r9⟩ 7 [2, 3, 4, 5, 6]
         ·
          refine tree_leaf ?_
          have fn : RepL Rep.str F W ([v] : List ByteArray) ([.string v]) := (RepL.cons (R := Rep.str) (F := F) (w := W) (vs := [.string v]) (ys := []) rfl RepL.nil)
          refine oBS 56 [.string v] 9 1 1 (fun sj => ?_)
          obtain ⟨il, nj⟩ := app_some u
          obtain ⟨ge, kp⟩ : ∃ y_, j ++ ([vI n]) = y_ := ⟨_, rfl⟩
          have pv : RepL (Rep.int .i64) F W b ge := by rw [il, ← kp]; exact RepL.app o V
          refine ops_appendO (x := (Go.Operand.tmp 47)) (y := (Go.Operand.tmp 49)) (t := 22) (e := 3) (d := some 50) (n' := b.length) (z := 1) (m := ([n] : List Int).length) (bytes := 8) (xs' := ge) (news := ([vI n])) (zv := vI 0) 4 ⟨by kernel_rfl⟩ rfl rfl Try.underlying22 (by kernel_rfl) (by rfl) rfl (fun q f => f.srcO 1 rfl) V.len V.one nj (by have z_ := congrArg List.length il; rw [List.length_append] at z_; exact z_.symm) kp (fun _ _ _ _ s h' => (by exact h'.sub (.cons _ (.cons _ (.cons _ (.cons _ (.cons _ (.cons_cons _ (.cons_cons _ (.refl _)))))))))) ?_
          rintro ⟨dn, en⟩
          obtain ⟨im, nk⟩ := app_some r
          obtain ⟨gf, kq⟩ : ∃ y_, g ++ ([.string v]) = y_ := ⟨_, rfl⟩
          have pw : RepL Rep.str F W a gf := by rw [im, ← kq]; exact RepL.app k fn
          refine ops_appendO (x := (Go.Operand.tmp 54)) (y := (Go.Operand.tmp 56)) (t := 60) (e := 9) (d := some 57) (n' := a.length) (z := 1) (m := ([v] : List ByteArray).length) (bytes := 16) (xs' := gf) (news := ([.string v])) (zv := .string ByteArray.empty) 3 ⟨by kernel_rfl⟩ rfl rfl Try.underlying60 (by kernel_rfl) (by rfl) rfl (fun q f => f.srcO 0 rfl) fn.len fn.one nk (by have z_ := congrArg List.length im; rw [List.length_append] at z_; exact z_.symm) kq (fun _ _ _ _ s h' => (by exact h'.sub (.cons _ (.cons _ (.cons _ (.cons _ (.cons _ (.cons_cons _ (.cons_cons _ (.refl _)))))))))) ?_
          rintro ⟨bd, cg⟩
          refine oq [oT 16, oT 17] [(59, vP c 1), (57, sl bd a cg), (50, sl dn b en), (43, vP c 0)] ?_
          refine oSS 2 1 [sl dn b en] (fun w' h' => (by exact h'.sub (.cons _ (.cons _ (.cons _ (.cons _ (.cons _ (.cons_cons _ (.cons_cons _ (.refl _)))))))))) ?_
          refine oq [oT 19, oT 20] [(61, vP c 0), (57, sl bd a cg)] ?_
          refine oSS 2 0 [sl bd a cg] (fun w' h' => (by exact h'.sub (.cons _ (.cons _ (.cons _ (.cons _ (.cons _ (.cons_cons _ (.cons_cons _ (.refl _)))))))))) ?_
          refine ops_nil ?_
          exact fj C (bd, cg, a, gf, dn, en, b, ge) ⟨A, pw, pv⟩ 7 [2, 3, 4, 5, 6]
        ·
         refine tree_node ?_
         have aj : RepL Rep.str F W ([v] : List ByteArray) ([.string v]) := (RepL.cons (R := Rep.str) (F := F) (w := W) (vs := [.string v]) (ys := []) rfl RepL.nil)
         refine oBS 56 [.string v] 9 1 1 (fun sk => ?_)
         refine ops_nil ?_
         refine tree_both ?_ ?_
         ·
          refine tree_leaf ?_
          obtain ⟨io, nl⟩ := app_some u
          obtain ⟨gg, kr⟩ : ∃ y_, j ++ ([vI n]) = y_ := ⟨_, rfl⟩
          have px : RepL (Rep.int .i64) F W b gg := by rw [io, ← kr]; exact RepL.app o V
          refine ops_appendO (x := (Go.Operand.tmp 47)) (y := (Go.Operand.tmp 49)) (t := 22) (e := 3) (d := some 50) (n' := b.length) (z := 1) (m := ([n] : List Int).length) (bytes := 8) (xs' := gg) (news := ([vI n])) (zv := vI 0) 4 ⟨by kernel_rfl⟩ rfl rfl Try.underlying22 (by kernel_rfl) (by rfl) rfl (fun q f => f.srcO 1 rfl) V.len V.one nl (by have z_ := congrArg List.length io; rw [List.length_append] at z_; exact z_.symm) kr (fun _ _ _ _ s h' => (by exact h'.sub (.cons _ (.cons _ (.cons _ (.cons _ (.cons _ (.cons_cons _ (.cons_cons _ (.refl _)))))))))) ?_
          rintro ⟨dp, eo⟩
          refine oM 54 2 0 ?_
          obtain ⟨ip, nm⟩ := app_some r
          obtain ⟨gh, ks⟩ : ∃ y_, g ++ ([.string v]) = y_ := ⟨_, rfl⟩
          have py : RepL Rep.str F W a gh := by rw [ip, ← ks]; exact RepL.app k aj
          refine ops_appendO (x := (Go.Operand.tmp 54)) (y := (Go.Operand.tmp 56)) (t := 60) (e := 9) (d := some 57) (n' := a.length) (z := 1) (m := ([v] : List ByteArray).length) (bytes := 16) (xs' := gh) (news := ([.string v])) (zv := .string ByteArray.empty) 3 ⟨by kernel_rfl⟩ rfl rfl Try.underlying60 (by kernel_rfl) (by rfl) rfl (fun q f => f.srcO 0 rfl) aj.len aj.one nm (by have z_ := congrArg List.length ip; rw [List.length_append] at z_; exact z_.symm) ks (fun _ _ _ _ s h' => (by exact h'.sub (.cons _ (.cons _ (.cons _ (.cons _ (.cons _ (.cons_cons _ (.cons_cons _ (.refl _)))))))))) ?_
          rintro ⟨be, ch⟩
          refine oq [oT 16, oT 17] [(59, vP c 1), (57, sl be a ch), (50, sl dp b eo), (43, vP c 0)] ?_
          refine oSS 2 1 [sl dp b eo] (fun w' h' => (by exact h'.sub (.cons _ (.cons _ (.cons _ (.cons _ (.cons _ (.cons_cons _ (.cons_cons _ (.refl _)))))))))) ?_
          refine oq [oT 19, oT 20] [(61, vP c 0), (57, sl be a ch)] ?_
          refine oSS 2 0 [sl be a ch] (fun w' h' => (by exact h'.sub (.cons _ (.cons _ (.cons _ (.cons _ (.cons _ (.cons_cons _ (.cons_cons _ (.refl _)))))))))) ?_
          refine ops_nil ?_
          exact fj C (be, ch, a, gh, dp, eo, b, gg) ⟨A, py, px⟩ 7 [2, 3, 4, 5, 6]
         ·
          refine tree_leaf ?_
          refine oM 54 2 0 ?_
          obtain ⟨iq, nn⟩ := app_some u
          obtain ⟨gi, kt⟩ : ∃ y_, j ++ ([vI n]) = y_ := ⟨_, rfl⟩
          have pz : RepL (Rep.int .i64) F W b gi := by rw [iq, ← kt]; exact RepL.app o V
          refine ops_appendO (x := (Go.Operand.tmp 47)) (y := (Go.Operand.tmp 49)) (t := 22) (e := 3) (d := some 50) (n' := b.length) (z := 1) (m := ([n] : List Int).length) (bytes := 8) (xs' := gi) (news := ([vI n])) (zv := vI 0) 4 ⟨by kernel_rfl⟩ rfl rfl Try.underlying22 (by kernel_rfl) (by rfl) rfl (fun q f => f.srcO 1 rfl) V.len V.one nn (by have z_ := congrArg List.length iq; rw [List.length_append] at z_; exact z_.symm) kt (fun _ _ _ _ s h' => (by exact h'.sub (.cons _ (.cons _ (.cons _ (.cons _ (.cons _ (.cons_cons _ (.cons_cons _ (.refl _)))))))))) ?_
          rintro ⟨dq, ep⟩
          obtain ⟨ir, np⟩ := app_some r
          obtain ⟨gj, ku⟩ : ∃ y_, g ++ ([.string v]) = y_ := ⟨_, rfl⟩
          have p0 : RepL Rep.str F W a gj := by rw [ir, ← ku]; exact RepL.app k aj
          refine ops_appendO (x := (Go.Operand.tmp 54)) (y := (Go.Operand.tmp 56)) (t := 60) (e := 9) (d := some 57) (n' := a.length) (z := 1) (m := ([v] : List ByteArray).length) (bytes := 16) (xs' := gj) (news := ([.string v])) (zv := .string ByteArray.empty) 3 ⟨by kernel_rfl⟩ rfl rfl Try.underlying60 (by kernel_rfl) (by rfl) rfl (fun q f => f.srcO 0 rfl) aj.len aj.one np (by have z_ := congrArg List.length ir; rw [List.length_append] at z_; exact z_.symm) ku (fun _ _ _ _ s h' => (by exact h'.sub (.cons _ (.cons _ (.cons _ (.cons _ (.cons _ (.cons_cons _ (.cons_cons _ (.refl _)))))))))) ?_
          rintro ⟨bf, ci⟩
          refine oq [oT 16, oT 17] [(59, vP c 1), (57, sl bf a ci), (50, sl dq b ep), (43, vP c 0)] ?_
          refine oSS 2 1 [sl dq b ep] (fun w' h' => (by exact h'.sub (.cons _ (.cons _ (.cons _ (.cons _ (.cons _ (.cons_cons _ (.cons_cons _ (.refl _)))))))))) ?_
          refine oq [oT 19, oT 20] [(61, vP c 0), (57, sl bf a ci)] ?_
          refine oSS 2 0 [sl bf a ci] (fun w' h' => (by exact h'.sub (.cons _ (.cons _ (.cons _ (.cons _ (.cons _ (.cons_cons _ (.cons_cons _ (.refl _)))))))))) ?_
          refine ops_nil ?_
          exact fj C (bf, ci, a, gj, dq, ep, b, gi) ⟨A, p0, pz⟩ 7 [2, 3, 4, 5, 6]
      ·
       refine tree_ways ?_ ?_
       ·
        refine tree_node ?_
        refine oM 54 0 0 ?_
        refine ops_nil ?_
        refine tree_both ?_ ?_
        ·
         refine tree_node ?_
         have ak : RepL (Rep.int .i64) F W ([n] : List Int) ([vI n]) := (RepL.cons (R := (Rep.int .i64)) (F := F) (w := W) (vs := [vI n]) (ys := []) rfl RepL.nil)
         refine oBS 49 [vI n] 3 1 1 (fun sm => ?_)
         refine ops_nil ?_
         refine tree_both ?_ ?_
         ·
          refine tree_leaf ?_
          obtain ⟨it, nq⟩ := app_some u
          obtain ⟨gk, kv⟩ : ∃ y_, j ++ ([vI n]) = y_ := ⟨_, rfl⟩
          have p1 : RepL (Rep.int .i64) F W b gk := by rw [it, ← kv]; exact RepL.app o ak
          refine ops_appendO (x := (Go.Operand.tmp 47)) (y := (Go.Operand.tmp 49)) (t := 22) (e := 3) (d := some 50) (n' := b.length) (z := 1) (m := ([n] : List Int).length) (bytes := 8) (xs' := gk) (news := ([vI n])) (zv := vI 0) 3 ⟨by kernel_rfl⟩ rfl rfl Try.underlying22 (by kernel_rfl) (by rfl) rfl (fun q f => f.srcO 0 rfl) ak.len ak.one nq (by have z_ := congrArg List.length it; rw [List.length_append] at z_; exact z_.symm) kv (fun _ _ _ _ s h' => (by exact h'.sub (.cons _ (.cons _ (.cons _ (.cons _ (.cons_cons _ (.cons_cons _ (.refl _))))))))) ?_
          rintro ⟨dr, eq⟩
          have fo : RepL Rep.str F W ([v] : List ByteArray) ([.string v]) := (RepL.cons (R := Rep.str) (F := F) (w := W) (vs := [.string v]) (ys := []) rfl RepL.nil)
          refine oBS 56 [.string v] 9 1 1 (fun sn => ?_)
          obtain ⟨iu, nr⟩ := app_some r
          obtain ⟨gl, kw⟩ : ∃ y_, g ++ ([.string v]) = y_ := ⟨_, rfl⟩
          have p2 : RepL Rep.str F W a gl := by rw [iu, ← kw]; exact RepL.app k fo
          refine ops_appendO (x := (Go.Operand.tmp 54)) (y := (Go.Operand.tmp 56)) (t := 60) (e := 9) (d := some 57) (n' := a.length) (z := 1) (m := ([v] : List ByteArray).length) (bytes := 16) (xs' := gl) (news := ([.string v])) (zv := .string ByteArray.empty) 3 ⟨by kernel_rfl⟩ rfl rfl Try.underlying60 (by kernel_rfl) (by rfl) rfl (fun q f => f.srcO 0 rfl) fo.len fo.one nr (by have z_ := congrArg List.length iu; rw [List.length_append] at z_; exact z_.symm) kw (fun _ _ _ _ s h' => (by exact h'.sub (.cons _ (.cons _ (.cons _ (.cons _ (.cons _ (.cons_cons _ (.cons_cons _ (.refl _)))))))))) ?_
          rintro ⟨bg, cj⟩
          refine oq [oT 16, oT 17] [(59, vP c 1), (57, sl bg a cj), (50, sl dr b eq), (43, vP c 0)] ?_
          refine oSS 2 1 [sl dr b eq] (fun w' h' => (by exact h'.sub (.cons _ (.cons _ (.cons _ (.cons _ (.cons _ (.cons_cons _ (.cons_cons _ (.refl _)))))))))) ?_
          refine oq [oT 19, oT 20] [(61, vP c 0), (57, sl bg a cj)] ?_
          refine oSS 2 0 [sl bg a cj] (fun w' h' => (by exact h'.sub (.cons _ (.cons _ (.cons _ (.cons _ (.cons _ (.cons_cons _ (.cons_cons _ (.refl _)))))))))) ?_
          refine ops_nil ?_
          exact fj C (bg, cj, a, gl, dr, eq, b, gk) ⟨A, p2, p1⟩ 7 [2, 3, 4, 5, 6]
         ·
          refine tree_leaf ?_
          have fp : RepL Rep.str F W ([v] : List ByteArray) ([.string v]) := (RepL.cons (R := Rep.str) (F := F) (w := W) (vs := [.string v]) (ys := []) rfl RepL.nil)
          refine oBS 56 [.string v] 9 1 1 (fun so => ?_)
          obtain ⟨iv, ns⟩ := app_some u
          obtain ⟨gm, kx⟩ : ∃ y_, j ++ ([vI n]) = y_ := ⟨_, rfl⟩
          have p3 : RepL (Rep.int .i64) F W b gm := by rw [iv, ← kx]; exact RepL.app o ak
          refine ops_appendO (x := (Go.Operand.tmp 47)) (y := (Go.Operand.tmp 49)) (t := 22) (e := 3) (d := some 50) (n' := b.length) (z := 1) (m := ([n] : List Int).length) (bytes := 8) (xs' := gm) (news := ([vI n])) (zv := vI 0) 4 ⟨by kernel_rfl⟩ rfl rfl Try.underlying22 (by kernel_rfl) (by rfl) rfl (fun q f => f.srcO 1 rfl) ak.len ak.one ns (by have z_ := congrArg List.length iv; rw [List.length_append] at z_; exact z_.symm) kx (fun _ _ _ _ s h' => (by exact h'.sub (.cons _ (.cons _ (.cons _ (.cons _ (.cons _ (.cons_cons _ (.cons_cons _ (.refl _)))))))))) ?_
          rintro ⟨ds, er⟩
          obtain ⟨iw, nt⟩ := app_some r
          obtain ⟨gn, ky⟩ : ∃ y_, g ++ ([.string v]) = y_ := ⟨_, rfl⟩
          have p4 : RepL Rep.str F W a gn := by rw [iw, ← ky]; exact RepL.app k fp
          refine ops_appendO (x := (Go.Operand.tmp 54)) (y := (Go.Operand.tmp 56)) (t := 60) (e := 9) (d := some 57) (n' := a.length) (z := 1) (m := ([v] : List ByteArray).length) (bytes := 16) (xs' := gn) (news := ([.string v])) (zv := .string ByteArray.empty) 3 ⟨by kernel_rfl⟩ rfl rfl Try.underlying60 (by kernel_rfl) (by rfl) rfl (fun q f => f.srcO 0 rfl) fp.len fp.one nt (by have z_ := congrArg List.length iw; rw [List.length_append] at z_; exact z_.symm) ky (fun _ _ _ _ s h' => (by exact h'.sub (.cons _ (.cons _ (.cons _ (.cons _ (.cons _ (.cons_cons _ (.cons_cons _ (.refl _)))))))))) ?_
          rintro ⟨bh, ck⟩
          refine oq [oT 16, oT 17] [(59, vP c 1), (57, sl bh a ck), (50, sl ds b er), (43, vP c 0)] ?_
          refine oSS 2 1 [sl ds b er] (fun w' h' => (by exact h'.sub (.cons _ (.cons _ (.cons _ (.cons _ (.cons _ (.cons_cons _ (.cons_cons _ (.refl _)))))))))) ?_
          refine oq [oT 19, oT 20] [(61, vP c 0), (57, sl bh a ck)] ?_
          refine oSS 2 0 [sl bh a ck] (fun w' h' => (by exact h'.sub (.cons _ (.cons _ (.cons _ (.cons _ (.cons _ (.cons_cons _ (.cons_cons _ (.refl _)))))))))) ?_
          refine ops_nil ?_
          exact fj C (bh, ck, a, gn, ds, er, b, gm) ⟨A, p4, p3⟩ 7 [2, 3, 4, 5, 6]
        ·
         refine tree_leaf ?_
         have fq : RepL Rep.str F W ([v] : List ByteArray) ([.string v]) := (RepL.cons (R := Rep.str) (F := F) (w := W) (vs := [.string v]) (ys := []) rfl RepL.nil)
         refine oBS 56 [.string v] 9 1 1 (fun sp => ?_)
         have fs : RepL (Rep.int .i64) F W ([n] : List Int) ([vI n]) := (RepL.cons (R := (Rep.int .i64)) (F := F) (w := W) (vs := [vI n]) (ys := []) rfl RepL.nil)
         refine oBS 49 [vI n] 3 1 1 (fun sq => ?_)
         obtain ⟨ix, nu⟩ := app_some u
         obtain ⟨go, kz⟩ : ∃ y_, j ++ ([vI n]) = y_ := ⟨_, rfl⟩
         have p5 : RepL (Rep.int .i64) F W b go := by rw [ix, ← kz]; exact RepL.app o fs
         refine ops_appendO (x := (Go.Operand.tmp 47)) (y := (Go.Operand.tmp 49)) (t := 22) (e := 3) (d := some 50) (n' := b.length) (z := 1) (m := ([n] : List Int).length) (bytes := 8) (xs' := go) (news := ([vI n])) (zv := vI 0) 4 ⟨by kernel_rfl⟩ rfl rfl Try.underlying22 (by kernel_rfl) (by rfl) rfl (fun q f => f.srcO 0 rfl) fs.len fs.one nu (by have z_ := congrArg List.length ix; rw [List.length_append] at z_; exact z_.symm) kz (fun _ _ _ _ s h' => (by exact h'.sub (.cons _ (.cons _ (.cons _ (.cons _ (.cons _ (.cons_cons _ (.cons_cons _ (.refl _)))))))))) ?_
         rintro ⟨dt, es⟩
         obtain ⟨iy, nv⟩ := app_some r
         obtain ⟨gp, k0⟩ : ∃ y_, g ++ ([.string v]) = y_ := ⟨_, rfl⟩
         have p6 : RepL Rep.str F W a gp := by rw [iy, ← k0]; exact RepL.app k fq
         refine ops_appendO (x := (Go.Operand.tmp 54)) (y := (Go.Operand.tmp 56)) (t := 60) (e := 9) (d := some 57) (n' := a.length) (z := 1) (m := ([v] : List ByteArray).length) (bytes := 16) (xs' := gp) (news := ([.string v])) (zv := .string ByteArray.empty) 3 ⟨by kernel_rfl⟩ rfl rfl Try.underlying60 (by kernel_rfl) (by rfl) rfl (fun q f => f.srcO 1 rfl) fq.len fq.one nv (by have z_ := congrArg List.length iy; rw [List.length_append] at z_; exact z_.symm) k0 (fun _ _ _ _ s h' => (by exact h'.sub (.cons _ (.cons _ (.cons _ (.cons _ (.cons _ (.cons_cons _ (.cons_cons _ (.refl _)))))))))) ?_
         rintro ⟨bi, cl⟩
         refine oq [oT 16, oT 17] [(59, vP c 1), (57, sl bi a cl), (50, sl dt b es), (43, vP c 0)] ?_
         refine oSS 2 1 [sl dt b es] (fun w' h' => (by exact h'.sub (.cons _ (.cons _ (.cons _ (.cons _ (.cons _ (.cons_cons _ (.cons_cons _ (.refl _)))))))))) ?_
         refine oq [oT 19, oT 20] [(61, vP c 0), (57, sl bi a cl)] ?_
         refine oSS 2 0 [sl bi a cl] (fun w' h' => (by exact h'.sub (.cons _ (.cons _ (.cons _ (.cons _ (.cons _ (.cons_cons _ (.cons_cons _ (.refl _)))))))))) ?_
         refine ops_nil ?_
         exact fj C (bi, cl, a, gp, dt, es, b, go) ⟨A, p6, p5⟩ 7 [2, 3, 4, 5, 6]
       ·
        refine tree_node ?_
        have X : RepL Rep.str F W ([v] : List ByteArray) ([.string v]) := (RepL.cons (R := Rep.str) (F := F) (w := W) (vs := [.string v]) (ys := []) rfl RepL.nil)
        refine oBS 56 [.string v] 9 1 1 (fun sr => ?_)
        refine ops_nil ?_
        refine tree_both ?_ ?_
        ·
         refine tree_node ?_
         have al : RepL (Rep.int .i64) F W ([n] : List Int) ([vI n]) := (RepL.cons (R := (Rep.int .i64)) (F := F) (w := W) (vs := [vI n]) (ys := []) rfl RepL.nil)
         refine oBS 49 [vI n] 3 1 1 (fun ss => ?_)
         refine ops_nil ?_
         refine tree_both ?_ ?_
         ·
          refine tree_leaf ?_
          obtain ⟨iz, nw⟩ := app_some u
          obtain ⟨gq, k1⟩ : ∃ y_, j ++ ([vI n]) = y_ := ⟨_, rfl⟩
          have p7 : RepL (Rep.int .i64) F W b gq := by rw [iz, ← k1]; exact RepL.app o al
          refine ops_appendO (x := (Go.Operand.tmp 47)) (y := (Go.Operand.tmp 49)) (t := 22) (e := 3) (d := some 50) (n' := b.length) (z := 1) (m := ([n] : List Int).length) (bytes := 8) (xs' := gq) (news := ([vI n])) (zv := vI 0) 4 ⟨by kernel_rfl⟩ rfl rfl Try.underlying22 (by kernel_rfl) (by rfl) rfl (fun q f => f.srcO 0 rfl) al.len al.one nw (by have z_ := congrArg List.length iz; rw [List.length_append] at z_; exact z_.symm) k1 (fun _ _ _ _ s h' => (by exact h'.sub (.cons _ (.cons _ (.cons _ (.cons _ (.cons _ (.cons_cons _ (.cons_cons _ (.refl _)))))))))) ?_
          rintro ⟨du, et⟩
          refine oM 54 2 0 ?_
          obtain ⟨i0, nx⟩ := app_some r
          obtain ⟨gr, k2⟩ : ∃ y_, g ++ ([.string v]) = y_ := ⟨_, rfl⟩
          have p8 : RepL Rep.str F W a gr := by rw [i0, ← k2]; exact RepL.app k X
          refine ops_appendO (x := (Go.Operand.tmp 54)) (y := (Go.Operand.tmp 56)) (t := 60) (e := 9) (d := some 57) (n' := a.length) (z := 1) (m := ([v] : List ByteArray).length) (bytes := 16) (xs' := gr) (news := ([.string v])) (zv := .string ByteArray.empty) 3 ⟨by kernel_rfl⟩ rfl rfl Try.underlying60 (by kernel_rfl) (by rfl) rfl (fun q f => f.srcO 1 rfl) X.len X.one nx (by have z_ := congrArg List.length i0; rw [List.length_append] at z_; exact z_.symm) k2 (fun _ _ _ _ s h' => (by exact h'.sub (.cons _ (.cons _ (.cons _ (.cons _ (.cons _ (.cons_cons _ (.cons_cons _ (.refl _)))))))))) ?_
          rintro ⟨bj, cm⟩
          refine oq [oT 16, oT 17] [(59, vP c 1), (57, sl bj a cm), (50, sl du b et), (43, vP c 0)] ?_
          refine oSS 2 1 [sl du b et] (fun w' h' => (by exact h'.sub (.cons _ (.cons _ (.cons _ (.cons _ (.cons _ (.cons_cons _ (.cons_cons _ (.refl _)))))))))) ?_
          refine oq [oT 19, oT 20] [(61, vP c 0), (57, sl bj a cm)] ?_
          refine oSS 2 0 [sl bj a cm] (fun w' h' => (by exact h'.sub (.cons _ (.cons _ (.cons _ (.cons _ (.cons _ (.cons_cons _ (.cons_cons _ (.refl _)))))))))) ?_
          refine ops_nil ?_
          exact fj C (bj, cm, a, gr, du, et, b, gq) ⟨A, p8, p7⟩ 7 [2, 3, 4, 5, 6]
         ·
          refine tree_leaf ?_
          refine oM 54 2 0 ?_
          obtain ⟨i1, ny⟩ := app_some u
          obtain ⟨gs, k3⟩ : ∃ y_, j ++ ([vI n]) = y_ := ⟨_, rfl⟩
          have p9 : RepL (Rep.int .i64) F W b gs := by rw [i1, ← k3]; exact RepL.app o al
          refine ops_appendO (x := (Go.Operand.tmp 47)) (y := (Go.Operand.tmp 49)) (t := 22) (e := 3) (d := some 50) (n' := b.length) (z := 1) (m := ([n] : List Int).length) (bytes := 8) (xs' := gs) (news := ([vI n])) (zv := vI 0) 4 ⟨by kernel_rfl⟩ rfl rfl Try.underlying22 (by kernel_rfl) (by rfl) rfl (fun q f => f.srcO 0 rfl) al.len al.one ny (by have z_ := congrArg List.length i1; rw [List.length_append] at z_; exact z_.symm) k3 (fun _ _ _ _ s h' => (by exact h'.sub (.cons _ (.cons _ (.cons _ (.cons _ (.cons _ (.cons_cons _ (.cons_cons _ (.refl _)))))))))) ?_
          rintro ⟨dv, eu⟩
          obtain ⟨i2, nz⟩ := app_some r
          obtain ⟨gt, k4⟩ : ∃ y_, g ++ ([.string v]) = y_ := ⟨_, rfl⟩
          have qa : RepL Rep.str F W a gt := by rw [i2, ← k4]; exact RepL.app k X
          refine ops_appendO (x := (Go.Operand.tmp 54)) (y := (Go.Operand.tmp 56)) (t := 60) (e := 9) (d := some 57) (n' := a.length) (z := 1) (m := ([v] : List ByteArray).length) (bytes := 16) (xs' := gt) (news := ([.string v])) (zv := .string ByteArray.empty) 3 ⟨by kernel_rfl⟩ rfl rfl Try.underlying60 (by kernel_rfl) (by rfl) rfl (fun q f => f.srcO 1 rfl) X.len X.one nz (by have z_ := congrArg List.length i2; rw [List.length_append] at z_; exact z_.symm) k4 (fun _ _ _ _ s h' => (by exact h'.sub (.cons _ (.cons _ (.cons _ (.cons _ (.cons _ (.cons_cons _ (.cons_cons _ (.refl _)))))))))) ?_
          rintro ⟨bk, cn⟩
          refine oq [oT 16, oT 17] [(59, vP c 1), (57, sl bk a cn), (50, sl dv b eu), (43, vP c 0)] ?_
          refine oSS 2 1 [sl dv b eu] (fun w' h' => (by exact h'.sub (.cons _ (.cons _ (.cons _ (.cons _ (.cons _ (.cons_cons _ (.cons_cons _ (.refl _)))))))))) ?_
          refine oq [oT 19, oT 20] [(61, vP c 0), (57, sl bk a cn)] ?_
          refine oSS 2 0 [sl bk a cn] (fun w' h' => (by exact h'.sub (.cons _ (.cons _ (.cons _ (.cons _ (.cons _ (.cons_cons _ (.cons_cons _ (.refl _)))))))))) ?_
          refine ops_nil ?_
          exact fj C (bk, cn, a, gt, dv, eu, b, gs) ⟨A, qa, p9⟩ 7 [2, 3, 4, 5, 6]
        ·
         refine tree_leaf ?_
         refine oM 54 1 0 ?_
         have ft : RepL (Rep.int .i64) F W ([n] : List Int) ([vI n]) := (RepL.cons (R := (Rep.int .i64)) (F := F) (w := W) (vs := [vI n]) (ys := []) rfl RepL.nil)
         refine oBS 49 [vI n] 3 1 1 (fun st => ?_)
         obtain ⟨i3, n0⟩ := app_some u
         obtain ⟨gu, k5⟩ : ∃ y_, j ++ ([vI n]) = y_ := ⟨_, rfl⟩
         have qb : RepL (Rep.int .i64) F W b gu := by rw [i3, ← k5]; exact RepL.app o ft
         refine ops_appendO (x := (Go.Operand.tmp 47)) (y := (Go.Operand.tmp 49)) (t := 22) (e := 3) (d := some 50) (n' := b.length) (z := 1) (m := ([n] : List Int).length) (bytes := 8) (xs' := gu) (news := ([vI n])) (zv := vI 0) 4 ⟨by kernel_rfl⟩ rfl rfl Try.underlying22 (by kernel_rfl) (by rfl) rfl (fun q f => f.srcO 0 rfl) ft.len ft.one n0 (by have z_ := congrArg List.length i3; rw [List.length_append] at z_; exact z_.symm) k5 (fun _ _ _ _ s h' => (by exact h'.sub (.cons _ (.cons _ (.cons _ (.cons _ (.cons _ (.cons_cons _ (.cons_cons _ (.refl _)))))))))) ?_
         rintro ⟨dw, ev⟩
         obtain ⟨i4, n1⟩ := app_some r
         obtain ⟨gv, k6⟩ : ∃ y_, g ++ ([.string v]) = y_ := ⟨_, rfl⟩
         have qc : RepL Rep.str F W a gv := by rw [i4, ← k6]; exact RepL.app k X
         refine ops_appendO (x := (Go.Operand.tmp 54)) (y := (Go.Operand.tmp 56)) (t := 60) (e := 9) (d := some 57) (n' := a.length) (z := 1) (m := ([v] : List ByteArray).length) (bytes := 16) (xs' := gv) (news := ([.string v])) (zv := .string ByteArray.empty) 3 ⟨by kernel_rfl⟩ rfl rfl Try.underlying60 (by kernel_rfl) (by rfl) rfl (fun q f => f.srcO 1 rfl) X.len X.one n1 (by have z_ := congrArg List.length i4; rw [List.length_append] at z_; exact z_.symm) k6 (fun _ _ _ _ s h' => (by exact h'.sub (.cons _ (.cons _ (.cons _ (.cons _ (.cons _ (.cons_cons _ (.cons_cons _ (.refl _)))))))))) ?_
         rintro ⟨bl, co⟩
         refine oq [oT 16, oT 17] [(59, vP c 1), (57, sl bl a co), (50, sl dw b ev), (43, vP c 0)] ?_
         refine oSS 2 1 [sl dw b ev] (fun w' h' => (by exact h'.sub (.cons _ (.cons _ (.cons _ (.cons _ (.cons _ (.cons_cons _ (.cons_cons _ (.refl _)))))))))) ?_
         refine oq [oT 19, oT 20] [(61, vP c 0), (57, sl bl a co)] ?_
         refine oSS 2 0 [sl bl a co] (fun w' h' => (by exact h'.sub (.cons _ (.cons _ (.cons _ (.cons _ (.cons _ (.cons_cons _ (.cons_cons _ (.refl _)))))))))) ?_
         refine ops_nil ?_
         exact fj C (bl, co, a, gv, dw, ev, b, gu) ⟨A, qc, qb⟩ 7 [2, 3, 4, 5, 6]
     ·
      refine tree_ways ?_ ?_
      ·
       refine tree_node ?_
       have B : RepL (Rep.int .i64) F W ([n] : List Int) ([vI n]) := (RepL.cons (R := (Rep.int .i64)) (F := F) (w := W) (vs := [vI n]) (ys := []) rfl RepL.nil)
       refine oBS 49 [vI n] 3 1 1 (fun su => ?_)
       refine ops_nil ?_
       refine tree_both ?_ ?_
       ·
        refine tree_node ?_
        refine oM 47 1 1 ?_
        refine ops_nil ?_
        refine tree_both ?_ ?_
        ·
         refine tree_node ?_
         obtain ⟨i5, n2⟩ := app_some u
         obtain ⟨dl, k7⟩ : ∃ y_, j ++ ([vI n]) = y_ := ⟨_, rfl⟩
         have mv : RepL (Rep.int .i64) F W b dl := by rw [i5, ← k7]; exact RepL.app o B
         refine ops_appendO (x := (Go.Operand.tmp 47)) (y := (Go.Operand.tmp 49)) (t := 22) (e := 3) (d := some 50) (n' := b.length) (z := 1) (m := ([n] : List Int).length) (bytes := 8) (xs' := dl) (news := ([vI n])) (zv := vI 0) 3 ⟨by kernel_rfl⟩ rfl rfl Try.underlying22 (by kernel_rfl) (by rfl) rfl (fun q f => f.srcO 0 rfl) B.len B.one n2 (by have z_ := congrArg List.length i5; rw [List.length_append] at z_; exact z_.symm) k7 (fun _ _ _ _ s h' => (by exact h'.sub (.cons _ (.cons _ (.cons _ (.cons _ (.cons_cons _ (.cons_cons _ (.refl _))))))))) ?_
         rintro ⟨ah, ai⟩
         refine ops_nil ?_
         refine tree_both ?_ ?_
         ·
          refine tree_leaf ?_
          refine oM 54 1 0 ?_
          have fu : RepL Rep.str F W ([v] : List ByteArray) ([.string v]) := (RepL.cons (R := Rep.str) (F := F) (w := W) (vs := [.string v]) (ys := []) rfl RepL.nil)
          refine oBS 56 [.string v] 9 1 1 (fun sv => ?_)
          obtain ⟨i6, n3⟩ := app_some r
          obtain ⟨gw, k8⟩ : ∃ y_, g ++ ([.string v]) = y_ := ⟨_, rfl⟩
          have qd : RepL Rep.str F W a gw := by rw [i6, ← k8]; exact RepL.app k fu
          refine ops_appendO (x := (Go.Operand.tmp 54)) (y := (Go.Operand.tmp 56)) (t := 60) (e := 9) (d := some 57) (n' := a.length) (z := 1) (m := ([v] : List ByteArray).length) (bytes := 16) (xs' := gw) (news := ([.string v])) (zv := .string ByteArray.empty) 3 ⟨by kernel_rfl⟩ rfl rfl Try.underlying60 (by kernel_rfl) (by rfl) rfl (fun q f => f.srcO 0 rfl) fu.len fu.one n3 (by have z_ := congrArg List.length i6; rw [List.length_append] at z_; exact z_.symm) k8 (fun _ _ _ _ s h' => (by exact h'.sub (.cons _ (.cons _ (.cons _ (.cons _ (.cons _ (.cons_cons _ (.cons_cons _ (.refl _)))))))))) ?_
          rintro ⟨bm, cp⟩
          refine oq [oT 16, oT 17] [(59, vP c 1), (57, sl bm a cp), (50, sl ah b ai), (43, vP c 0)] ?_
          refine oSS 2 1 [sl ah b ai] (fun w' h' => (by exact h'.sub (.cons _ (.cons _ (.cons _ (.cons _ (.cons _ (.cons_cons _ (.cons_cons _ (.refl _)))))))))) ?_
          refine oq [oT 19, oT 20] [(61, vP c 0), (57, sl bm a cp)] ?_
          refine oSS 2 0 [sl bm a cp] (fun w' h' => (by exact h'.sub (.cons _ (.cons _ (.cons _ (.cons _ (.cons _ (.cons_cons _ (.cons_cons _ (.refl _)))))))))) ?_
          refine ops_nil ?_
          exact fj C (bm, cp, a, gw, ah, ai, b, dl) ⟨A, qd, mv⟩ 7 [2, 3, 4, 5, 6]
         ·
          refine tree_leaf ?_
          have fv : RepL Rep.str F W ([v] : List ByteArray) ([.string v]) := (RepL.cons (R := Rep.str) (F := F) (w := W) (vs := [.string v]) (ys := []) rfl RepL.nil)
          refine oBS 56 [.string v] 9 1 1 (fun sw => ?_)
          refine oM 54 2 0 ?_
          obtain ⟨i7, n4⟩ := app_some r
          obtain ⟨gx, k9⟩ : ∃ y_, g ++ ([.string v]) = y_ := ⟨_, rfl⟩
          have qe : RepL Rep.str F W a gx := by rw [i7, ← k9]; exact RepL.app k fv
          refine ops_appendO (x := (Go.Operand.tmp 54)) (y := (Go.Operand.tmp 56)) (t := 60) (e := 9) (d := some 57) (n' := a.length) (z := 1) (m := ([v] : List ByteArray).length) (bytes := 16) (xs' := gx) (news := ([.string v])) (zv := .string ByteArray.empty) 3 ⟨by kernel_rfl⟩ rfl rfl Try.underlying60 (by kernel_rfl) (by rfl) rfl (fun q f => f.srcO 0 rfl) fv.len fv.one n4 (by have z_ := congrArg List.length i7; rw [List.length_append] at z_; exact z_.symm) k9 (fun _ _ _ _ s h' => (by exact h'.sub (.cons _ (.cons _ (.cons _ (.cons _ (.cons _ (.cons_cons _ (.cons_cons _ (.refl _)))))))))) ?_
          rintro ⟨bn, cq⟩
          refine oq [oT 16, oT 17] [(59, vP c 1), (57, sl bn a cq), (50, sl ah b ai), (43, vP c 0)] ?_
          refine oSS 2 1 [sl ah b ai] (fun w' h' => (by exact h'.sub (.cons _ (.cons _ (.cons _ (.cons _ (.cons _ (.cons_cons _ (.cons_cons _ (.refl _)))))))))) ?_
          refine oq [oT 19, oT 20] [(61, vP c 0), (57, sl bn a cq)] ?_
          refine oSS 2 0 [sl bn a cq] (fun w' h' => (by exact h'.sub (.cons _ (.cons _ (.cons _ (.cons _ (.cons _ (.cons_cons _ (.cons_cons _ (.refl _)))))))))) ?_
          refine ops_nil ?_
          exact fj C (bn, cq, a, gx, ah, ai, b, dl) ⟨A, qe, mv⟩ 7 [2, 3, 4, 5, 6]
        ·
         refine tree_ways ?_ ?_
         ·
          refine tree_node ?_
          refine oM 54 1 0 ?_
          refine ops_nil ?_
          refine tree_both ?_ ?_
          ·
           refine tree_leaf ?_
           obtain ⟨i8, n5⟩ := app_some u
           obtain ⟨gy, la⟩ : ∃ y_, j ++ ([vI n]) = y_ := ⟨_, rfl⟩
           have qf : RepL (Rep.int .i64) F W b gy := by rw [i8, ← la]; exact RepL.app o B
           refine ops_appendO (x := (Go.Operand.tmp 47)) (y := (Go.Operand.tmp 49)) (t := 22) (e := 3) (d := some 50) (n' := b.length) (z := 1) (m := ([n] : List Int).length) (bytes := 8) (xs' := gy) (news := ([vI n])) (zv := vI 0) 3 ⟨by kernel_rfl⟩ rfl rfl Try.underlying22 (by kernel_rfl) (by rfl) rfl (fun q f => f.srcO 0 rfl) B.len B.one n5 (by have z_ := congrArg List.length i8; rw [List.length_append] at z_; exact z_.symm) la (fun _ _ _ _ s h' => (by exact h'.sub (.cons _ (.cons _ (.cons _ (.cons _ (.cons_cons _ (.cons_cons _ (.refl _))))))))) ?_
           rintro ⟨dx, ew⟩
           have fw : RepL Rep.str F W ([v] : List ByteArray) ([.string v]) := (RepL.cons (R := Rep.str) (F := F) (w := W) (vs := [.string v]) (ys := []) rfl RepL.nil)
           refine oBS 56 [.string v] 9 1 1 (fun sx => ?_)
           obtain ⟨i9, n6⟩ := app_some r
           obtain ⟨gz, lb⟩ : ∃ y_, g ++ ([.string v]) = y_ := ⟨_, rfl⟩
           have qg : RepL Rep.str F W a gz := by rw [i9, ← lb]; exact RepL.app k fw
           refine ops_appendO (x := (Go.Operand.tmp 54)) (y := (Go.Operand.tmp 56)) (t := 60) (e := 9) (d := some 57) (n' := a.length) (z := 1) (m := ([v] : List ByteArray).length) (bytes := 16) (xs' := gz) (news := ([.string v])) (zv := .string ByteArray.empty) 3 ⟨by kernel_rfl⟩ rfl rfl Try.underlying60 (by kernel_rfl) (by rfl) rfl (fun q f => f.srcO 0 rfl) fw.len fw.one n6 (by have z_ := congrArg List.length i9; rw [List.length_append] at z_; exact z_.symm) lb (fun _ _ _ _ s h' => (by exact h'.sub (.cons _ (.cons _ (.cons _ (.cons _ (.cons _ (.cons_cons _ (.cons_cons _ (.refl _)))))))))) ?_
           rintro ⟨bo, cr⟩
           refine oq [oT 16, oT 17] [(59, vP c 1), (57, sl bo a cr), (50, sl dx b ew), (43, vP c 0)] ?_
           refine oSS 2 1 [sl dx b ew] (fun w' h' => (by exact h'.sub (.cons _ (.cons _ (.cons _ (.cons _ (.cons _ (.cons_cons _ (.cons_cons _ (.refl _)))))))))) ?_
           refine oq [oT 19, oT 20] [(61, vP c 0), (57, sl bo a cr)] ?_
           refine oSS 2 0 [sl bo a cr] (fun w' h' => (by exact h'.sub (.cons _ (.cons _ (.cons _ (.cons _ (.cons _ (.cons_cons _ (.cons_cons _ (.refl _)))))))))) ?_
           refine ops_nil ?_
           exact fj C (bo, cr, a, gz, dx, ew, b, gy) ⟨A, qg, qf⟩ 7 [2, 3, 4, 5, 6]
          ·
           refine tree_leaf ?_
           have fx : RepL Rep.str F W ([v] : List ByteArray) ([.string v]) := (RepL.cons (R := Rep.str) (F := F) (w := W) (vs := [.string v]) (ys := []) rfl RepL.nil)
           refine oBS 56 [.string v] 9 1 1 (fun sy => ?_)
           obtain ⟨ja, n7⟩ := app_some u
           obtain ⟨g0, lc⟩ : ∃ y_, j ++ ([vI n]) = y_ := ⟨_, rfl⟩
           have qh : RepL (Rep.int .i64) F W b g0 := by rw [ja, ← lc]; exact RepL.app o B
           refine ops_appendO (x := (Go.Operand.tmp 47)) (y := (Go.Operand.tmp 49)) (t := 22) (e := 3) (d := some 50) (n' := b.length) (z := 1) (m := ([n] : List Int).length) (bytes := 8) (xs' := g0) (news := ([vI n])) (zv := vI 0) 4 ⟨by kernel_rfl⟩ rfl rfl Try.underlying22 (by kernel_rfl) (by rfl) rfl (fun q f => f.srcO 1 rfl) B.len B.one n7 (by have z_ := congrArg List.length ja; rw [List.length_append] at z_; exact z_.symm) lc (fun _ _ _ _ s h' => (by exact h'.sub (.cons _ (.cons _ (.cons _ (.cons _ (.cons _ (.cons_cons _ (.cons_cons _ (.refl _)))))))))) ?_
           rintro ⟨dy, ex⟩
           obtain ⟨jb, n8⟩ := app_some r
           obtain ⟨g1, ld⟩ : ∃ y_, g ++ ([.string v]) = y_ := ⟨_, rfl⟩
           have qi : RepL Rep.str F W a g1 := by rw [jb, ← ld]; exact RepL.app k fx
           refine ops_appendO (x := (Go.Operand.tmp 54)) (y := (Go.Operand.tmp 56)) (t := 60) (e := 9) (d := some 57) (n' := a.length) (z := 1) (m := ([v] : List ByteArray).length) (bytes := 16) (xs' := g1) (news := ([.string v])) (zv := .string ByteArray.empty) 3 ⟨by kernel_rfl⟩ rfl rfl Try.underlying60 (by kernel_rfl) (by rfl) rfl (fun q f => f.srcO 0 rfl) fx.len fx.one n8 (by have z_ := congrArg List.length jb; rw [List.length_append] at z_; exact z_.symm) ld (fun _ _ _ _ s h' => (by exact h'.sub (.cons _ (.cons _ (.cons _ (.cons _ (.cons _ (.cons_cons _ (.cons_cons _ (.refl _)))))))))) ?_
           rintro ⟨bp, ct⟩
           refine oq [oT 16, oT 17] [(59, vP c 1), (57, sl bp a ct), (50, sl dy b ex), (43, vP c 0)] ?_
           refine oSS 2 1 [sl dy b ex] (fun w' h' => (by exact h'.sub (.cons _ (.cons _ (.cons _ (.cons _ (.cons _ (.cons_cons _ (.cons_cons _ (.refl _)))))))))) ?_
           refine oq [oT 19, oT 20] [(61, vP c 0), (57, sl bp a ct)] ?_
           refine oSS 2 0 [sl bp a ct] (fun w' h' => (by exact h'.sub (.cons _ (.cons _ (.cons _ (.cons _ (.cons _ (.cons_cons _ (.cons_cons _ (.refl _)))))))))) ?_
           refine ops_nil ?_
           exact fj C (bp, ct, a, g1, dy, ex, b, g0) ⟨A, qi, qh⟩ 7 [2, 3, 4, 5, 6]
         ·
          refine tree_node ?_
          have am : RepL Rep.str F W ([v] : List ByteArray) ([.string v]) := (RepL.cons (R := Rep.str) (F := F) (w := W) (vs := [.string v]) (ys := []) rfl RepL.nil)
          refine oBS 56 [.string v] 9 1 1 (fun sz => ?_)
          refine ops_nil ?_
          refine tree_both ?_ ?_
          ·
           refine tree_leaf ?_
           obtain ⟨jc, n9⟩ := app_some u
           obtain ⟨g2, le⟩ : ∃ y_, j ++ ([vI n]) = y_ := ⟨_, rfl⟩
           have qj : RepL (Rep.int .i64) F W b g2 := by rw [jc, ← le]; exact RepL.app o B
           refine ops_appendO (x := (Go.Operand.tmp 47)) (y := (Go.Operand.tmp 49)) (t := 22) (e := 3) (d := some 50) (n' := b.length) (z := 1) (m := ([n] : List Int).length) (bytes := 8) (xs' := g2) (news := ([vI n])) (zv := vI 0) 4 ⟨by kernel_rfl⟩ rfl rfl Try.underlying22 (by kernel_rfl) (by rfl) rfl (fun q f => f.srcO 1 rfl) B.len B.one n9 (by have z_ := congrArg List.length jc; rw [List.length_append] at z_; exact z_.symm) le (fun _ _ _ _ s h' => (by exact h'.sub (.cons _ (.cons _ (.cons _ (.cons _ (.cons _ (.cons_cons _ (.cons_cons _ (.refl _)))))))))) ?_
           rintro ⟨dz, ey⟩
           refine oM 54 2 0 ?_
           obtain ⟨jd, oa⟩ := app_some r
           obtain ⟨g3, lf⟩ : ∃ y_, g ++ ([.string v]) = y_ := ⟨_, rfl⟩
           have qk : RepL Rep.str F W a g3 := by rw [jd, ← lf]; exact RepL.app k am
           refine ops_appendO (x := (Go.Operand.tmp 54)) (y := (Go.Operand.tmp 56)) (t := 60) (e := 9) (d := some 57) (n' := a.length) (z := 1) (m := ([v] : List ByteArray).length) (bytes := 16) (xs' := g3) (news := ([.string v])) (zv := .string ByteArray.empty) 3 ⟨by kernel_rfl⟩ rfl rfl Try.underlying60 (by kernel_rfl) (by rfl) rfl (fun q f => f.srcO 0 rfl) am.len am.one oa (by have z_ := congrArg List.length jd; rw [List.length_append] at z_; exact z_.symm) lf (fun _ _ _ _ s h' => (by exact h'.sub (.cons _ (.cons _ (.cons _ (.cons _ (.cons _ (.cons_cons _ (.cons_cons _ (.refl _)))))))))) ?_
           rintro ⟨bq, cu⟩
           refine oq [oT 16, oT 17] [(59, vP c 1), (57, sl bq a cu), (50, sl dz b ey), (43, vP c 0)] ?_
           refine oSS 2 1 [sl dz b ey] (fun w' h' => (by exact h'.sub (.cons _ (.cons _ (.cons _ (.cons _ (.cons _ (.cons_cons _ (.cons_cons _ (.refl _)))))))))) ?_
           refine oq [oT 19, oT 20] [(61, vP c 0), (57, sl bq a cu)] ?_
           refine oSS 2 0 [sl bq a cu] (fun w' h' => (by exact h'.sub (.cons _ (.cons _ (.cons _ (.cons _ (.cons _ (.cons_cons _ (.cons_cons _ (.refl _)))))))))) ?_
           refine ops_nil ?_
           exact fj C (bq, cu, a, g3, dz, ey, b, g2) ⟨A, qk, qj⟩ 7 [2, 3, 4, 5, 6]
          ·
           refine tree_leaf ?_
           refine oM 54 2 0 ?_
           obtain ⟨je, oc⟩ := app_some u
           obtain ⟨g4, lg⟩ : ∃ y_, j ++ ([vI n]) = y_ := ⟨_, rfl⟩
           have ql : RepL (Rep.int .i64) F W b g4 := by rw [je, ← lg]; exact RepL.app o B
           refine ops_appendO (x := (Go.Operand.tmp 47)) (y := (Go.Operand.tmp 49)) (t := 22) (e := 3) (d := some 50) (n' := b.length) (z := 1) (m := ([n] : List Int).length) (bytes := 8) (xs' := g4) (news := ([vI n])) (zv := vI 0) 4 ⟨by kernel_rfl⟩ rfl rfl Try.underlying22 (by kernel_rfl) (by rfl) rfl (fun q f => f.srcO 1 rfl) B.len B.one oc (by have z_ := congrArg List.length je; rw [List.length_append] at z_; exact z_.symm) lg (fun _ _ _ _ s h' => (by exact h'.sub (.cons _ (.cons _ (.cons _ (.cons _ (.cons _ (.cons_cons _ (.cons_cons _ (.refl _)))))))))) ?_
           rintro ⟨d0, ez⟩
           obtain ⟨jf, od⟩ := app_some r
           obtain ⟨g5, lh⟩ : ∃ y_, g ++ ([.string v]) = y_ := ⟨_, rfl⟩
           have qm : RepL Rep.str F W a g5 := by rw [jf, ← lh]; exact RepL.app k am
           refine ops_appendO (x := (Go.Operand.tmp 54)) (y := (Go.Operand.tmp 56)) (t := 60) (e := 9) (d := some 57) (n' := a.length) (z := 1) (m := ([v] : List ByteArray).length) (bytes := 16) (xs' := g5) (news := ([.string v])) (zv := .string ByteArray.empty) 3 ⟨by kernel_rfl⟩ rfl rfl Try.underlying60 (by kernel_rfl) (by rfl) rfl (fun q f => f.srcO 0 rfl) am.len am.one od (by have z_ := congrArg List.length jf; rw [List.length_append] at z_; exact z_.symm) lh (fun _ _ _ _ s h' => (by exact h'.sub (.cons _ (.cons _ (.cons _ (.cons _ (.cons _ (.cons_cons _ (.cons_cons _ (.refl _)))))))))) ?_
           rintro ⟨br, cv⟩
           refine oq [oT 16, oT 17] [(59, vP c 1), (57, sl br a cv), (50, sl d0 b ez), (43, vP c 0)] ?_
           refine oSS 2 1 [sl d0 b ez] (fun w' h' => (by exact h'.sub (.cons _ (.cons _ (.cons _ (.cons _ (.cons _ (.cons_cons _ (.cons_cons _ (.refl _)))))))))) ?_
           refine oq [oT 19, oT 20] [(61, vP c 0), (57, sl br a cv)] ?_
           refine oSS 2 0 [sl br a cv] (fun w' h' => (by exact h'.sub (.cons _ (.cons _ (.cons _ (.cons _ (.cons _ (.cons_cons _ (.cons_cons _ (.refl _)))))))))) ?_
           refine ops_nil ?_
           exact fj C (br, cv, a, g5, d0, ez, b, g4) ⟨A, qm, ql⟩ 7 [2, 3, 4, 5, 6]
       ·
        refine tree_ways ?_ ?_
        ·
         refine tree_node ?_
         refine oM 54 1 0 ?_
         refine ops_nil ?_
         refine tree_both ?_ ?_
         ·
          refine tree_node ?_
          refine oM 47 1 1 ?_
          refine ops_nil ?_
          refine tree_both ?_ ?_
          ·
           refine tree_leaf ?_
           obtain ⟨jg, oe⟩ := app_some u
           obtain ⟨g6, li⟩ : ∃ y_, j ++ ([vI n]) = y_ := ⟨_, rfl⟩
           have qn : RepL (Rep.int .i64) F W b g6 := by rw [jg, ← li]; exact RepL.app o B
           refine ops_appendO (x := (Go.Operand.tmp 47)) (y := (Go.Operand.tmp 49)) (t := 22) (e := 3) (d := some 50) (n' := b.length) (z := 1) (m := ([n] : List Int).length) (bytes := 8) (xs' := g6) (news := ([vI n])) (zv := vI 0) 3 ⟨by kernel_rfl⟩ rfl rfl Try.underlying22 (by kernel_rfl) (by rfl) rfl (fun q f => f.srcO 0 rfl) B.len B.one oe (by have z_ := congrArg List.length jg; rw [List.length_append] at z_; exact z_.symm) li (fun _ _ _ _ s h' => (by exact h'.sub (.cons _ (.cons _ (.cons _ (.cons _ (.cons_cons _ (.cons_cons _ (.refl _))))))))) ?_
           rintro ⟨d1, e0⟩
           have fy : RepL Rep.str F W ([v] : List ByteArray) ([.string v]) := (RepL.cons (R := Rep.str) (F := F) (w := W) (vs := [.string v]) (ys := []) rfl RepL.nil)
           refine oBS 56 [.string v] 9 1 1 (fun s0 => ?_)
           obtain ⟨jh, og⟩ := app_some r
           obtain ⟨g7, lj⟩ : ∃ y_, g ++ ([.string v]) = y_ := ⟨_, rfl⟩
           have qo : RepL Rep.str F W a g7 := by rw [jh, ← lj]; exact RepL.app k fy
           refine ops_appendO (x := (Go.Operand.tmp 54)) (y := (Go.Operand.tmp 56)) (t := 60) (e := 9) (d := some 57) (n' := a.length) (z := 1) (m := ([v] : List ByteArray).length) (bytes := 16) (xs' := g7) (news := ([.string v])) (zv := .string ByteArray.empty) 3 ⟨by kernel_rfl⟩ rfl rfl Try.underlying60 (by kernel_rfl) (by rfl) rfl (fun q f => f.srcO 0 rfl) fy.len fy.one og (by have z_ := congrArg List.length jh; rw [List.length_append] at z_; exact z_.symm) lj (fun _ _ _ _ s h' => (by exact h'.sub (.cons _ (.cons _ (.cons _ (.cons _ (.cons _ (.cons_cons _ (.cons_cons _ (.refl _)))))))))) ?_
           rintro ⟨bs, cw⟩
           refine oq [oT 16, oT 17] [(59, vP c 1), (57, sl bs a cw), (50, sl d1 b e0), (43, vP c 0)] ?_
           refine oSS 2 1 [sl d1 b e0] (fun w' h' => (by exact h'.sub (.cons _ (.cons _ (.cons _ (.cons _ (.cons _ (.cons_cons _ (.cons_cons _ (.refl _)))))))))) ?_
           refine oq [oT 19, oT 20] [(61, vP c 0), (57, sl bs a cw)] ?_
           refine oSS 2 0 [sl bs a cw] (fun w' h' => (by exact h'.sub (.cons _ (.cons _ (.cons _ (.cons _ (.cons _ (.cons_cons _ (.cons_cons _ (.refl _)))))))))) ?_
           refine ops_nil ?_
           exact fj C (bs, cw, a, g7, d1, e0, b, g6) ⟨A, qo, qn⟩ 7 [2, 3, 4, 5, 6]
          ·
           refine tree_leaf ?_
           have fz : RepL Rep.str F W ([v] : List ByteArray) ([.string v]) := (RepL.cons (R := Rep.str) (F := F) (w := W) (vs := [.string v]) (ys := []) rfl RepL.nil)
           refine oBS 56 [.string v] 9 1 1 (fun s1 => ?_)
           obtain ⟨ji, oh⟩ := app_some u
           obtain ⟨g8, lk⟩ : ∃ y_, j ++ ([vI n]) = y_ := ⟨_, rfl⟩
           have qp : RepL (Rep.int .i64) F W b g8 := by rw [ji, ← lk]; exact RepL.app o B
           refine ops_appendO (x := (Go.Operand.tmp 47)) (y := (Go.Operand.tmp 49)) (t := 22) (e := 3) (d := some 50) (n' := b.length) (z := 1) (m := ([n] : List Int).length) (bytes := 8) (xs' := g8) (news := ([vI n])) (zv := vI 0) 4 ⟨by kernel_rfl⟩ rfl rfl Try.underlying22 (by kernel_rfl) (by rfl) rfl (fun q f => f.srcO 1 rfl) B.len B.one oh (by have z_ := congrArg List.length ji; rw [List.length_append] at z_; exact z_.symm) lk (fun _ _ _ _ s h' => (by exact h'.sub (.cons _ (.cons _ (.cons _ (.cons _ (.cons _ (.cons_cons _ (.cons_cons _ (.refl _)))))))))) ?_
           rintro ⟨d2, e1⟩
           obtain ⟨jj, oi⟩ := app_some r
           obtain ⟨g9, ll⟩ : ∃ y_, g ++ ([.string v]) = y_ := ⟨_, rfl⟩
           have qq : RepL Rep.str F W a g9 := by rw [jj, ← ll]; exact RepL.app k fz
           refine ops_appendO (x := (Go.Operand.tmp 54)) (y := (Go.Operand.tmp 56)) (t := 60) (e := 9) (d := some 57) (n' := a.length) (z := 1) (m := ([v] : List ByteArray).length) (bytes := 16) (xs' := g9) (news := ([.string v])) (zv := .string ByteArray.empty) 3 ⟨by kernel_rfl⟩ rfl rfl Try.underlying60 (by kernel_rfl) (by rfl) rfl (fun q f => f.srcO 0 rfl) fz.len fz.one oi (by have z_ := congrArg List.length jj; rw [List.length_append] at z_; exact z_.symm) ll (fun _ _ _ _ s h' => (by exact h'.sub (.cons _ (.cons _ (.cons _ (.cons _ (.cons _ (.cons_cons _ (.cons_cons _ (.refl _)))))))))) ?_
           rintro ⟨bt, cx⟩
           refine oq [oT 16, oT 17] [(59, vP c 1), (57, sl bt a cx), (50, sl d2 b e1), (43, vP c 0)] ?_
           refine oSS 2 1 [sl d2 b e1] (fun w' h' => (by exact h'.sub (.cons _ (.cons _ (.cons _ (.cons _ (.cons _ (.cons_cons _ (.cons_cons _ (.refl _)))))))))) ?_
           refine oq [oT 19, oT 20] [(61, vP c 0), (57, sl bt a cx)] ?_
           refine oSS 2 0 [sl bt a cx] (fun w' h' => (by exact h'.sub (.cons _ (.cons _ (.cons _ (.cons _ (.cons _ (.cons_cons _ (.cons_cons _ (.refl _)))))))))) ?_
           refine ops_nil ?_
           exact fj C (bt, cx, a, g9, d2, e1, b, g8) ⟨A, qq, qp⟩ 7 [2, 3, 4, 5, 6]
         ·
          refine tree_leaf ?_
          have f0 : RepL Rep.str F W ([v] : List ByteArray) ([.string v]) := (RepL.cons (R := Rep.str) (F := F) (w := W) (vs := [.string v]) (ys := []) rfl RepL.nil)
          refine oBS 56 [.string v] 9 1 1 (fun s2 => ?_)
          refine oM 47 2 1 ?_
          obtain ⟨jk, oj⟩ := app_some u
          obtain ⟨ha, lm⟩ : ∃ y_, j ++ ([vI n]) = y_ := ⟨_, rfl⟩
          have qr : RepL (Rep.int .i64) F W b ha := by rw [jk, ← lm]; exact RepL.app o B
          refine ops_appendO (x := (Go.Operand.tmp 47)) (y := (Go.Operand.tmp 49)) (t := 22) (e := 3) (d := some 50) (n' := b.length) (z := 1) (m := ([n] : List Int).length) (bytes := 8) (xs' := ha) (news := ([vI n])) (zv := vI 0) 4 ⟨by kernel_rfl⟩ rfl rfl Try.underlying22 (by kernel_rfl) (by rfl) rfl (fun q f => f.srcO 1 rfl) B.len B.one oj (by have z_ := congrArg List.length jk; rw [List.length_append] at z_; exact z_.symm) lm (fun _ _ _ _ s h' => (by exact h'.sub (.cons _ (.cons _ (.cons _ (.cons _ (.cons _ (.cons_cons _ (.cons_cons _ (.refl _)))))))))) ?_
          rintro ⟨d3, e2⟩
          obtain ⟨jl, ok⟩ := app_some r
          obtain ⟨hb, ln⟩ : ∃ y_, g ++ ([.string v]) = y_ := ⟨_, rfl⟩
          have qs : RepL Rep.str F W a hb := by rw [jl, ← ln]; exact RepL.app k f0
          refine ops_appendO (x := (Go.Operand.tmp 54)) (y := (Go.Operand.tmp 56)) (t := 60) (e := 9) (d := some 57) (n' := a.length) (z := 1) (m := ([v] : List ByteArray).length) (bytes := 16) (xs' := hb) (news := ([.string v])) (zv := .string ByteArray.empty) 3 ⟨by kernel_rfl⟩ rfl rfl Try.underlying60 (by kernel_rfl) (by rfl) rfl (fun q f => f.srcO 0 rfl) f0.len f0.one ok (by have z_ := congrArg List.length jl; rw [List.length_append] at z_; exact z_.symm) ln (fun _ _ _ _ s h' => (by exact h'.sub (.cons _ (.cons _ (.cons _ (.cons _ (.cons _ (.cons_cons _ (.cons_cons _ (.refl _)))))))))) ?_
          rintro ⟨bu, cy⟩
          refine oq [oT 16, oT 17] [(59, vP c 1), (57, sl bu a cy), (50, sl d3 b e2), (43, vP c 0)] ?_
          refine oSS 2 1 [sl d3 b e2] (fun w' h' => (by exact h'.sub (.cons _ (.cons _ (.cons _ (.cons _ (.cons _ (.cons_cons _ (.cons_cons _ (.refl _)))))))))) ?_
          refine oq [oT 19, oT 20] [(61, vP c 0), (57, sl bu a cy)] ?_
          refine oSS 2 0 [sl bu a cy] (fun w' h' => (by exact h'.sub (.cons _ (.cons _ (.cons _ (.cons _ (.cons _ (.cons_cons _ (.cons_cons _ (.refl _)))))))))) ?_
          refine ops_nil ?_
          exact fj C (bu, cy, a, hb, d3, e2, b, ha) ⟨A, qs, qr⟩ 7 [2, 3, 4, 5, 6]
        ·
         refine tree_node ?_
         have Y : RepL Rep.str F W ([v] : List ByteArray) ([.string v]) := (RepL.cons (R := Rep.str) (F := F) (w := W) (vs := [.string v]) (ys := []) rfl RepL.nil)
         refine oBS 56 [.string v] 9 1 1 (fun s3 => ?_)
         refine ops_nil ?_
         refine tree_both ?_ ?_
         ·
          refine tree_node ?_
          refine oM 47 2 1 ?_
          refine ops_nil ?_
          refine tree_both ?_ ?_
          ·
           refine tree_leaf ?_
           obtain ⟨jm, ol⟩ := app_some u
           obtain ⟨hc, lo⟩ : ∃ y_, j ++ ([vI n]) = y_ := ⟨_, rfl⟩
           have qt : RepL (Rep.int .i64) F W b hc := by rw [jm, ← lo]; exact RepL.app o B
           refine ops_appendO (x := (Go.Operand.tmp 47)) (y := (Go.Operand.tmp 49)) (t := 22) (e := 3) (d := some 50) (n' := b.length) (z := 1) (m := ([n] : List Int).length) (bytes := 8) (xs' := hc) (news := ([vI n])) (zv := vI 0) 4 ⟨by kernel_rfl⟩ rfl rfl Try.underlying22 (by kernel_rfl) (by rfl) rfl (fun q f => f.srcO 1 rfl) B.len B.one ol (by have z_ := congrArg List.length jm; rw [List.length_append] at z_; exact z_.symm) lo (fun _ _ _ _ s h' => (by exact h'.sub (.cons _ (.cons _ (.cons _ (.cons _ (.cons _ (.cons_cons _ (.cons_cons _ (.refl _)))))))))) ?_
           rintro ⟨d4, e3⟩
           refine oM 54 2 0 ?_
           obtain ⟨jn, om⟩ := app_some r
           obtain ⟨hd, lp⟩ : ∃ y_, g ++ ([.string v]) = y_ := ⟨_, rfl⟩
           have qu : RepL Rep.str F W a hd := by rw [jn, ← lp]; exact RepL.app k Y
           refine ops_appendO (x := (Go.Operand.tmp 54)) (y := (Go.Operand.tmp 56)) (t := 60) (e := 9) (d := some 57) (n' := a.length) (z := 1) (m := ([v] : List ByteArray).length) (bytes := 16) (xs' := hd) (news := ([.string v])) (zv := .string ByteArray.empty) 3 ⟨by kernel_rfl⟩ rfl rfl Try.underlying60 (by kernel_rfl) (by rfl) rfl (fun q f => f.srcO 0 rfl) Y.len Y.one om (by have z_ := congrArg List.length jn; rw [List.length_append] at z_; exact z_.symm) lp (fun _ _ _ _ s h' => (by exact h'.sub (.cons _ (.cons _ (.cons _ (.cons _ (.cons _ (.cons_cons _ (.cons_cons _ (.refl _)))))))))) ?_
           rintro ⟨bv, cz⟩
           refine oq [oT 16, oT 17] [(59, vP c 1), (57, sl bv a cz), (50, sl d4 b e3), (43, vP c 0)] ?_
           refine oSS 2 1 [sl d4 b e3] (fun w' h' => (by exact h'.sub (.cons _ (.cons _ (.cons _ (.cons _ (.cons _ (.cons_cons _ (.cons_cons _ (.refl _)))))))))) ?_
           refine oq [oT 19, oT 20] [(61, vP c 0), (57, sl bv a cz)] ?_
           refine oSS 2 0 [sl bv a cz] (fun w' h' => (by exact h'.sub (.cons _ (.cons _ (.cons _ (.cons _ (.cons _ (.cons_cons _ (.cons_cons _ (.refl _)))))))))) ?_
           refine ops_nil ?_
           exact fj C (bv, cz, a, hd, d4, e3, b, hc) ⟨A, qu, qt⟩ 7 [2, 3, 4, 5, 6]
          ·
           refine tree_leaf ?_
           refine oM 54 2 0 ?_
           obtain ⟨jo, on⟩ := app_some u
           obtain ⟨hf, lq⟩ : ∃ y_, j ++ ([vI n]) = y_ := ⟨_, rfl⟩
           have qv : RepL (Rep.int .i64) F W b hf := by rw [jo, ← lq]; exact RepL.app o B
           refine ops_appendO (x := (Go.Operand.tmp 47)) (y := (Go.Operand.tmp 49)) (t := 22) (e := 3) (d := some 50) (n' := b.length) (z := 1) (m := ([n] : List Int).length) (bytes := 8) (xs' := hf) (news := ([vI n])) (zv := vI 0) 4 ⟨by kernel_rfl⟩ rfl rfl Try.underlying22 (by kernel_rfl) (by rfl) rfl (fun q f => f.srcO 1 rfl) B.len B.one on (by have z_ := congrArg List.length jo; rw [List.length_append] at z_; exact z_.symm) lq (fun _ _ _ _ s h' => (by exact h'.sub (.cons _ (.cons _ (.cons _ (.cons _ (.cons _ (.cons_cons _ (.cons_cons _ (.refl _)))))))))) ?_
           rintro ⟨d5, e4⟩
           obtain ⟨jp, oo⟩ := app_some r
           obtain ⟨hg, lr⟩ : ∃ y_, g ++ ([.string v]) = y_ := ⟨_, rfl⟩
           have qw : RepL Rep.str F W a hg := by rw [jp, ← lr]; exact RepL.app k Y
           refine ops_appendO (x := (Go.Operand.tmp 54)) (y := (Go.Operand.tmp 56)) (t := 60) (e := 9) (d := some 57) (n' := a.length) (z := 1) (m := ([v] : List ByteArray).length) (bytes := 16) (xs' := hg) (news := ([.string v])) (zv := .string ByteArray.empty) 3 ⟨by kernel_rfl⟩ rfl rfl Try.underlying60 (by kernel_rfl) (by rfl) rfl (fun q f => f.srcO 0 rfl) Y.len Y.one oo (by have z_ := congrArg List.length jp; rw [List.length_append] at z_; exact z_.symm) lr (fun _ _ _ _ s h' => (by exact h'.sub (.cons _ (.cons _ (.cons _ (.cons _ (.cons _ (.cons_cons _ (.cons_cons _ (.refl _)))))))))) ?_
           rintro ⟨bw, c0⟩
           refine oq [oT 16, oT 17] [(59, vP c 1), (57, sl bw a c0), (50, sl d5 b e4), (43, vP c 0)] ?_
           refine oSS 2 1 [sl d5 b e4] (fun w' h' => (by exact h'.sub (.cons _ (.cons _ (.cons _ (.cons _ (.cons _ (.cons_cons _ (.cons_cons _ (.refl _)))))))))) ?_
           refine oq [oT 19, oT 20] [(61, vP c 0), (57, sl bw a c0)] ?_
           refine oSS 2 0 [sl bw a c0] (fun w' h' => (by exact h'.sub (.cons _ (.cons _ (.cons _ (.cons _ (.cons _ (.cons_cons _ (.cons_cons _ (.refl _)))))))))) ?_
           refine ops_nil ?_
           exact fj C (bw, c0, a, hg, d5, e4, b, hf) ⟨A, qw, qv⟩ 7 [2, 3, 4, 5, 6]
         ·
          refine tree_leaf ?_
          refine oM 54 2 0 ?_
          refine oM 47 2 1 ?_
          obtain ⟨jq, os⟩ := app_some u
          obtain ⟨hh, ls⟩ : ∃ y_, j ++ ([vI n]) = y_ := ⟨_, rfl⟩
          have qx : RepL (Rep.int .i64) F W b hh := by rw [jq, ← ls]; exact RepL.app o B
          refine ops_appendO (x := (Go.Operand.tmp 47)) (y := (Go.Operand.tmp 49)) (t := 22) (e := 3) (d := some 50) (n' := b.length) (z := 1) (m := ([n] : List Int).length) (bytes := 8) (xs' := hh) (news := ([vI n])) (zv := vI 0) 4 ⟨by kernel_rfl⟩ rfl rfl Try.underlying22 (by kernel_rfl) (by rfl) rfl (fun q f => f.srcO 1 rfl) B.len B.one os (by have z_ := congrArg List.length jq; rw [List.length_append] at z_; exact z_.symm) ls (fun _ _ _ _ s h' => (by exact h'.sub (.cons _ (.cons _ (.cons _ (.cons _ (.cons _ (.cons_cons _ (.cons_cons _ (.refl _)))))))))) ?_
          rintro ⟨d6, e5⟩
          obtain ⟨jr, ot⟩ := app_some r
          obtain ⟨hi, lt⟩ : ∃ y_, g ++ ([.string v]) = y_ := ⟨_, rfl⟩
          have qy : RepL Rep.str F W a hi := by rw [jr, ← lt]; exact RepL.app k Y
          refine ops_appendO (x := (Go.Operand.tmp 54)) (y := (Go.Operand.tmp 56)) (t := 60) (e := 9) (d := some 57) (n' := a.length) (z := 1) (m := ([v] : List ByteArray).length) (bytes := 16) (xs' := hi) (news := ([.string v])) (zv := .string ByteArray.empty) 3 ⟨by kernel_rfl⟩ rfl rfl Try.underlying60 (by kernel_rfl) (by rfl) rfl (fun q f => f.srcO 0 rfl) Y.len Y.one ot (by have z_ := congrArg List.length jr; rw [List.length_append] at z_; exact z_.symm) lt (fun _ _ _ _ s h' => (by exact h'.sub (.cons _ (.cons _ (.cons _ (.cons _ (.cons _ (.cons_cons _ (.cons_cons _ (.refl _)))))))))) ?_
          rintro ⟨bx, c1⟩
          refine oq [oT 16, oT 17] [(59, vP c 1), (57, sl bx a c1), (50, sl d6 b e5), (43, vP c 0)] ?_
          refine oSS 2 1 [sl d6 b e5] (fun w' h' => (by exact h'.sub (.cons _ (.cons _ (.cons _ (.cons _ (.cons _ (.cons_cons _ (.cons_cons _ (.refl _)))))))))) ?_
          refine oq [oT 19, oT 20] [(61, vP c 0), (57, sl bx a c1)] ?_
          refine oSS 2 0 [sl bx a c1] (fun w' h' => (by exact h'.sub (.cons _ (.cons _ (.cons _ (.cons _ (.cons _ (.cons_cons _ (.cons_cons _ (.refl _)))))))))) ?_
          refine ops_nil ?_
          exact fj C (bx, c1, a, hi, d6, e5, b, hh) ⟨A, qy, qx⟩ 7 [2, 3, 4, 5, 6]
      ·
       refine tree_ways ?_ ?_
       ·
        refine tree_node ?_
        refine oM 54 0 0 ?_
        refine ops_nil ?_
        refine tree_both ?_ ?_
        ·
         refine tree_node ?_
         refine oM 47 0 1 ?_
         refine ops_nil ?_
         refine tree_both ?_ ?_
         ·
          refine tree_node ?_
          have ao : RepL (Rep.int .i64) F W ([n] : List Int) ([vI n]) := (RepL.cons (R := (Rep.int .i64)) (F := F) (w := W) (vs := [vI n]) (ys := []) rfl RepL.nil)
          refine oBS 49 [vI n] 3 1 1 (fun s4 => ?_)
          refine ops_nil ?_
          refine tree_both ?_ ?_
          ·
           refine tree_leaf ?_
           obtain ⟨js, ou⟩ := app_some u
           obtain ⟨hj, lu⟩ : ∃ y_, j ++ ([vI n]) = y_ := ⟨_, rfl⟩
           have qz : RepL (Rep.int .i64) F W b hj := by rw [js, ← lu]; exact RepL.app o ao
           refine ops_appendO (x := (Go.Operand.tmp 47)) (y := (Go.Operand.tmp 49)) (t := 22) (e := 3) (d := some 50) (n' := b.length) (z := 1) (m := ([n] : List Int).length) (bytes := 8) (xs' := hj) (news := ([vI n])) (zv := vI 0) 3 ⟨by kernel_rfl⟩ rfl rfl Try.underlying22 (by kernel_rfl) (by rfl) rfl (fun q f => f.srcO 0 rfl) ao.len ao.one ou (by have z_ := congrArg List.length js; rw [List.length_append] at z_; exact z_.symm) lu (fun _ _ _ _ s h' => (by exact h'.sub (.cons _ (.cons _ (.cons _ (.cons _ (.cons_cons _ (.cons_cons _ (.refl _))))))))) ?_
           rintro ⟨d7, e6⟩
           have f1 : RepL Rep.str F W ([v] : List ByteArray) ([.string v]) := (RepL.cons (R := Rep.str) (F := F) (w := W) (vs := [.string v]) (ys := []) rfl RepL.nil)
           refine oBS 56 [.string v] 9 1 1 (fun s5 => ?_)
           obtain ⟨jt, ov⟩ := app_some r
           obtain ⟨hk, lv⟩ : ∃ y_, g ++ ([.string v]) = y_ := ⟨_, rfl⟩
           have q0 : RepL Rep.str F W a hk := by rw [jt, ← lv]; exact RepL.app k f1
           refine ops_appendO (x := (Go.Operand.tmp 54)) (y := (Go.Operand.tmp 56)) (t := 60) (e := 9) (d := some 57) (n' := a.length) (z := 1) (m := ([v] : List ByteArray).length) (bytes := 16) (xs' := hk) (news := ([.string v])) (zv := .string ByteArray.empty) 3 ⟨by kernel_rfl⟩ rfl rfl Try.underlying60 (by kernel_rfl) (by rfl) rfl (fun q f => f.srcO 0 rfl) f1.len f1.one ov (by have z_ := congrArg List.length jt; rw [List.length_append] at z_; exact z_.symm) lv (fun _ _ _ _ s h' => (by exact h'.sub (.cons _ (.cons _ (.cons _ (.cons _ (.cons _ (.cons_cons _ (.cons_cons _ (.refl _)))))))))) ?_
           rintro ⟨bz, c2⟩
           refine oq [oT 16, oT 17] [(59, vP c 1), (57, sl bz a c2), (50, sl d7 b e6), (43, vP c 0)] ?_
           refine oSS 2 1 [sl d7 b e6] (fun w' h' => (by exact h'.sub (.cons _ (.cons _ (.cons _ (.cons _ (.cons _ (.cons_cons _ (.cons_cons _ (.refl _)))))))))) ?_
           refine oq [oT 19, oT 20] [(61, vP c 0), (57, sl bz a c2)] ?_
           refine oSS 2 0 [sl bz a c2] (fun w' h' => (by exact h'.sub (.cons _ (.cons _ (.cons _ (.cons _ (.cons _ (.cons_cons _ (.cons_cons _ (.refl _)))))))))) ?_
           refine ops_nil ?_
           exact fj C (bz, c2, a, hk, d7, e6, b, hj) ⟨A, q0, qz⟩ 7 [2, 3, 4, 5, 6]
          ·
           refine tree_leaf ?_
           have f2 : RepL Rep.str F W ([v] : List ByteArray) ([.string v]) := (RepL.cons (R := Rep.str) (F := F) (w := W) (vs := [.string v]) (ys := []) rfl RepL.nil)
           refine oBS 56 [.string v] 9 1 1 (fun s6 => ?_)
           obtain ⟨ju, ox⟩ := app_some u
           obtain ⟨hl, lw⟩ : ∃ y_, j ++ ([vI n]) = y_ := ⟨_, rfl⟩
           have q1 : RepL (Rep.int .i64) F W b hl := by rw [ju, ← lw]; exact RepL.app o ao
           refine ops_appendO (x := (Go.Operand.tmp 47)) (y := (Go.Operand.tmp 49)) (t := 22) (e := 3) (d := some 50) (n' := b.length) (z := 1) (m := ([n] : List Int).length) (bytes := 8) (xs' := hl) (news := ([vI n])) (zv := vI 0) 4 ⟨by kernel_rfl⟩ rfl rfl Try.underlying22 (by kernel_rfl) (by rfl) rfl (fun q f => f.srcO 1 rfl) ao.len ao.one ox (by have z_ := congrArg List.length ju; rw [List.length_append] at z_; exact z_.symm) lw (fun _ _ _ _ s h' => (by exact h'.sub (.cons _ (.cons _ (.cons _ (.cons _ (.cons _ (.cons_cons _ (.cons_cons _ (.refl _)))))))))) ?_
           rintro ⟨d8, e7⟩
           obtain ⟨jv, oy⟩ := app_some r
           obtain ⟨hm, lx⟩ : ∃ y_, g ++ ([.string v]) = y_ := ⟨_, rfl⟩
           have q2 : RepL Rep.str F W a hm := by rw [jv, ← lx]; exact RepL.app k f2
           refine ops_appendO (x := (Go.Operand.tmp 54)) (y := (Go.Operand.tmp 56)) (t := 60) (e := 9) (d := some 57) (n' := a.length) (z := 1) (m := ([v] : List ByteArray).length) (bytes := 16) (xs' := hm) (news := ([.string v])) (zv := .string ByteArray.empty) 3 ⟨by kernel_rfl⟩ rfl rfl Try.underlying60 (by kernel_rfl) (by rfl) rfl (fun q f => f.srcO 0 rfl) f2.len f2.one oy (by have z_ := congrArg List.length jv; rw [List.length_append] at z_; exact z_.symm) lx (fun _ _ _ _ s h' => (by exact h'.sub (.cons _ (.cons _ (.cons _ (.cons _ (.cons _ (.cons_cons _ (.cons_cons _ (.refl _)))))))))) ?_
           rintro ⟨b0, c3⟩
           refine oq [oT 16, oT 17] [(59, vP c 1), (57, sl b0 a c3), (50, sl d8 b e7), (43, vP c 0)] ?_
           refine oSS 2 1 [sl d8 b e7] (fun w' h' => (by exact h'.sub (.cons _ (.cons _ (.cons _ (.cons _ (.cons _ (.cons_cons _ (.cons_cons _ (.refl _)))))))))) ?_
           refine oq [oT 19, oT 20] [(61, vP c 0), (57, sl b0 a c3)] ?_
           refine oSS 2 0 [sl b0 a c3] (fun w' h' => (by exact h'.sub (.cons _ (.cons _ (.cons _ (.cons _ (.cons _ (.cons_cons _ (.cons_cons _ (.refl _)))))))))) ?_
           refine ops_nil ?_
           exact fj C (b0, c3, a, hm, d8, e7, b, hl) ⟨A, q2, q1⟩ 7 [2, 3, 4, 5, 6]
         ·
          refine tree_leaf ?_
          have f3 : RepL Rep.str F W ([v] : List ByteArray) ([.string v]) := (RepL.cons (R := Rep.str) (F := F) (w := W) (vs := [.string v]) (ys := []) rfl RepL.nil)
          refine oBS 56 [.string v] 9 1 1 (fun s7 => ?_)
          have f4 : RepL (Rep.int .i64) F W ([n] : List Int) ([vI n]) := (RepL.cons (R := (Rep.int .i64)) (F := F) (w := W) (vs := [vI n]) (ys := []) rfl RepL.nil)
          refine oBS 49 [vI n] 3 1 1 (fun s8 => ?_)
          obtain ⟨jw, oz⟩ := app_some u
          obtain ⟨hn, ly⟩ : ∃ y_, j ++ ([vI n]) = y_ := ⟨_, rfl⟩
          have q3 : RepL (Rep.int .i64) F W b hn := by rw [jw, ← ly]; exact RepL.app o f4
          refine ops_appendO (x := (Go.Operand.tmp 47)) (y := (Go.Operand.tmp 49)) (t := 22) (e := 3) (d := some 50) (n' := b.length) (z := 1) (m := ([n] : List Int).length) (bytes := 8) (xs' := hn) (news := ([vI n])) (zv := vI 0) 4 ⟨by kernel_rfl⟩ rfl rfl Try.underlying22 (by kernel_rfl) (by rfl) rfl (fun q f => f.srcO 0 rfl) f4.len f4.one oz (by have z_ := congrArg List.length jw; rw [List.length_append] at z_; exact z_.symm) ly (fun _ _ _ _ s h' => (by exact h'.sub (.cons _ (.cons _ (.cons _ (.cons _ (.cons _ (.cons_cons _ (.cons_cons _ (.refl _)))))))))) ?_
          rintro ⟨d9, e8⟩
          obtain ⟨jx, o0⟩ := app_some r
          obtain ⟨ho, lz⟩ : ∃ y_, g ++ ([.string v]) = y_ := ⟨_, rfl⟩
          have q4 : RepL Rep.str F W a ho := by rw [jx, ← lz]; exact RepL.app k f3
          refine ops_appendO (x := (Go.Operand.tmp 54)) (y := (Go.Operand.tmp 56)) (t := 60) (e := 9) (d := some 57) (n' := a.length) (z := 1) (m := ([v] : List ByteArray).length) (bytes := 16) (xs' := ho) (news := ([.string v])) (zv := .string ByteArray.empty) 3 ⟨by kernel_rfl⟩ rfl rfl Try.underlying60 (by kernel_rfl) (by rfl) rfl (fun q f => f.srcO 1 rfl) f3.len f3.one o0 (by have z_ := congrArg List.length jx; rw [List.length_append] at z_; exact z_.symm) lz (fun _ _ _ _ s h' => (by exact h'.sub (.cons _ (.cons _ (.cons _ (.cons _ (.cons _ (.cons_cons _ (.cons_cons _ (.refl _)))))))))) ?_
          rintro ⟨b1, c4⟩
          refine oq [oT 16, oT 17] [(59, vP c 1), (57, sl b1 a c4), (50, sl d9 b e8), (43, vP c 0)] ?_
          refine oSS 2 1 [sl d9 b e8] (fun w' h' => (by exact h'.sub (.cons _ (.cons _ (.cons _ (.cons _ (.cons _ (.cons_cons _ (.cons_cons _ (.refl _)))))))))) ?_
          refine oq [oT 19, oT 20] [(61, vP c 0), (57, sl b1 a c4)] ?_
          refine oSS 2 0 [sl b1 a c4] (fun w' h' => (by exact h'.sub (.cons _ (.cons _ (.cons _ (.cons _ (.cons _ (.cons_cons _ (.cons_cons _ (.refl _)))))))))) ?_
          refine ops_nil ?_
          exact fj C (b1, c4, a, ho, d9, e8, b, hn) ⟨A, q4, q3⟩ 7 [2, 3, 4, 5, 6]
        ·
         refine tree_ways ?_ ?_
         ·
          refine tree_node ?_
          have Z : RepL (Rep.int .i64) F W ([n] : List Int) ([vI n]) := (RepL.cons (R := (Rep.int .i64)) (F := F) (w := W) (vs := [vI n]) (ys := []) rfl RepL.nil)
          refine oBS 49 [vI n] 3 1 1 (fun s9 => ?_)
          refine ops_nil ?_
          refine tree_both ?_ ?_
          ·
           refine tree_node ?_
           refine oM 47 1 1 ?_
           refine ops_nil ?_
           refine tree_both ?_ ?_
           ·
            refine tree_leaf ?_
            obtain ⟨jy, o1⟩ := app_some u
            obtain ⟨hq, l0⟩ : ∃ y_, j ++ ([vI n]) = y_ := ⟨_, rfl⟩
            have q5 : RepL (Rep.int .i64) F W b hq := by rw [jy, ← l0]; exact RepL.app o Z
            refine ops_appendO (x := (Go.Operand.tmp 47)) (y := (Go.Operand.tmp 49)) (t := 22) (e := 3) (d := some 50) (n' := b.length) (z := 1) (m := ([n] : List Int).length) (bytes := 8) (xs' := hq) (news := ([vI n])) (zv := vI 0) 3 ⟨by kernel_rfl⟩ rfl rfl Try.underlying22 (by kernel_rfl) (by rfl) rfl (fun q f => f.srcO 0 rfl) Z.len Z.one o1 (by have z_ := congrArg List.length jy; rw [List.length_append] at z_; exact z_.symm) l0 (fun _ _ _ _ s h' => (by exact h'.sub (.cons _ (.cons _ (.cons _ (.cons _ (.cons_cons _ (.cons_cons _ (.refl _))))))))) ?_
            rintro ⟨ea, e9⟩
            have f5 : RepL Rep.str F W ([v] : List ByteArray) ([.string v]) := (RepL.cons (R := Rep.str) (F := F) (w := W) (vs := [.string v]) (ys := []) rfl RepL.nil)
            refine oBS 56 [.string v] 9 1 1 (fun ta => ?_)
            obtain ⟨jz, o2⟩ := app_some r
            obtain ⟨hr, l1⟩ : ∃ y_, g ++ ([.string v]) = y_ := ⟨_, rfl⟩
            have q6 : RepL Rep.str F W a hr := by rw [jz, ← l1]; exact RepL.app k f5
            refine ops_appendO (x := (Go.Operand.tmp 54)) (y := (Go.Operand.tmp 56)) (t := 60) (e := 9) (d := some 57) (n' := a.length) (z := 1) (m := ([v] : List ByteArray).length) (bytes := 16) (xs' := hr) (news := ([.string v])) (zv := .string ByteArray.empty) 3 ⟨by kernel_rfl⟩ rfl rfl Try.underlying60 (by kernel_rfl) (by rfl) rfl (fun q f => f.srcO 0 rfl) f5.len f5.one o2 (by have z_ := congrArg List.length jz; rw [List.length_append] at z_; exact z_.symm) l1 (fun _ _ _ _ s h' => (by exact h'.sub (.cons _ (.cons _ (.cons _ (.cons _ (.cons _ (.cons_cons _ (.cons_cons _ (.refl _)))))))))) ?_
            rintro ⟨b2, c5⟩
            refine oq [oT 16, oT 17] [(59, vP c 1), (57, sl b2 a c5), (50, sl ea b e9), (43, vP c 0)] ?_
            refine oSS 2 1 [sl ea b e9] (fun w' h' => (by exact h'.sub (.cons _ (.cons _ (.cons _ (.cons _ (.cons _ (.cons_cons _ (.cons_cons _ (.refl _)))))))))) ?_
            refine oq [oT 19, oT 20] [(61, vP c 0), (57, sl b2 a c5)] ?_
            refine oSS 2 0 [sl b2 a c5] (fun w' h' => (by exact h'.sub (.cons _ (.cons _ (.cons _ (.cons _ (.cons _ (.cons_cons _ (.cons_cons _ (.refl _)))))))))) ?_
            refine ops_nil ?_
            exact fj C (b2, c5, a, hr, ea, e9, b, hq) ⟨A, q6, q5⟩ 7 [2, 3, 4, 5, 6]
           ·
            refine tree_leaf ?_
            have f6 : RepL Rep.str F W ([v] : List ByteArray) ([.string v]) := (RepL.cons (R := Rep.str) (F := F) (w := W) (vs := [.string v]) (ys := []) rfl RepL.nil)
            refine oBS 56 [.string v] 9 1 1 (fun tb => ?_)
            obtain ⟨j0, o3⟩ := app_some u
            obtain ⟨hs, l2⟩ : ∃ y_, j ++ ([vI n]) = y_ := ⟨_, rfl⟩
            have q7 : RepL (Rep.int .i64) F W b hs := by rw [j0, ← l2]; exact RepL.app o Z
            refine ops_appendO (x := (Go.Operand.tmp 47)) (y := (Go.Operand.tmp 49)) (t := 22) (e := 3) (d := some 50) (n' := b.length) (z := 1) (m := ([n] : List Int).length) (bytes := 8) (xs' := hs) (news := ([vI n])) (zv := vI 0) 4 ⟨by kernel_rfl⟩ rfl rfl Try.underlying22 (by kernel_rfl) (by rfl) rfl (fun q f => f.srcO 1 rfl) Z.len Z.one o3 (by have z_ := congrArg List.length j0; rw [List.length_append] at z_; exact z_.symm) l2 (fun _ _ _ _ s h' => (by exact h'.sub (.cons _ (.cons _ (.cons _ (.cons _ (.cons _ (.cons_cons _ (.cons_cons _ (.refl _)))))))))) ?_
            rintro ⟨eb, fa⟩
            obtain ⟨j1, o4⟩ := app_some r
            obtain ⟨ht, l3⟩ : ∃ y_, g ++ ([.string v]) = y_ := ⟨_, rfl⟩
            have q8 : RepL Rep.str F W a ht := by rw [j1, ← l3]; exact RepL.app k f6
            refine ops_appendO (x := (Go.Operand.tmp 54)) (y := (Go.Operand.tmp 56)) (t := 60) (e := 9) (d := some 57) (n' := a.length) (z := 1) (m := ([v] : List ByteArray).length) (bytes := 16) (xs' := ht) (news := ([.string v])) (zv := .string ByteArray.empty) 3 ⟨by kernel_rfl⟩ rfl rfl Try.underlying60 (by kernel_rfl) (by rfl) rfl (fun q f => f.srcO 0 rfl) f6.len f6.one o4 (by have z_ := congrArg List.length j1; rw [List.length_append] at z_; exact z_.symm) l3 (fun _ _ _ _ s h' => (by exact h'.sub (.cons _ (.cons _ (.cons _ (.cons _ (.cons _ (.cons_cons _ (.cons_cons _ (.refl _)))))))))) ?_
            rintro ⟨b3, c6⟩
            refine oq [oT 16, oT 17] [(59, vP c 1), (57, sl b3 a c6), (50, sl eb b fa), (43, vP c 0)] ?_
            refine oSS 2 1 [sl eb b fa] (fun w' h' => (by exact h'.sub (.cons _ (.cons _ (.cons _ (.cons _ (.cons _ (.cons_cons _ (.cons_cons _ (.refl _)))))))))) ?_
            refine oq [oT 19, oT 20] [(61, vP c 0), (57, sl b3 a c6)] ?_
            refine oSS 2 0 [sl b3 a c6] (fun w' h' => (by exact h'.sub (.cons _ (.cons _ (.cons _ (.cons _ (.cons _ (.cons_cons _ (.cons_cons _ (.refl _)))))))))) ?_
            refine ops_nil ?_
            exact fj C (b3, c6, a, ht, eb, fa, b, hs) ⟨A, q8, q7⟩ 7 [2, 3, 4, 5, 6]
          ·
           refine tree_leaf ?_
           have f7 : RepL Rep.str F W ([v] : List ByteArray) ([.string v]) := (RepL.cons (R := Rep.str) (F := F) (w := W) (vs := [.string v]) (ys := []) rfl RepL.nil)
           refine oBS 56 [.string v] 9 1 1 (fun tc => ?_)
           refine oM 47 2 1 ?_
           obtain ⟨j2, o5⟩ := app_some u
           obtain ⟨hu, l4⟩ : ∃ y_, j ++ ([vI n]) = y_ := ⟨_, rfl⟩
           have q9 : RepL (Rep.int .i64) F W b hu := by rw [j2, ← l4]; exact RepL.app o Z
           refine ops_appendO (x := (Go.Operand.tmp 47)) (y := (Go.Operand.tmp 49)) (t := 22) (e := 3) (d := some 50) (n' := b.length) (z := 1) (m := ([n] : List Int).length) (bytes := 8) (xs' := hu) (news := ([vI n])) (zv := vI 0) 4 ⟨by kernel_rfl⟩ rfl rfl Try.underlying22 (by kernel_rfl) (by rfl) rfl (fun q f => f.srcO 1 rfl) Z.len Z.one o5 (by have z_ := congrArg List.length j2; rw [List.length_append] at z_; exact z_.symm) l4 (fun _ _ _ _ s h' => (by exact h'.sub (.cons _ (.cons _ (.cons _ (.cons _ (.cons _ (.cons_cons _ (.cons_cons _ (.refl _)))))))))) ?_
           rintro ⟨ec, fb⟩
           obtain ⟨j3, o6⟩ := app_some r
           obtain ⟨hv, l5⟩ : ∃ y_, g ++ ([.string v]) = y_ := ⟨_, rfl⟩
           have ra : RepL Rep.str F W a hv := by rw [j3, ← l5]; exact RepL.app k f7
           refine ops_appendO (x := (Go.Operand.tmp 54)) (y := (Go.Operand.tmp 56)) (t := 60) (e := 9) (d := some 57) (n' := a.length) (z := 1) (m := ([v] : List ByteArray).length) (bytes := 16) (xs' := hv) (news := ([.string v])) (zv := .string ByteArray.empty) 3 ⟨by kernel_rfl⟩ rfl rfl Try.underlying60 (by kernel_rfl) (by rfl) rfl (fun q f => f.srcO 0 rfl) f7.len f7.one o6 (by have z_ := congrArg List.length j3; rw [List.length_append] at z_; exact z_.symm) l5 (fun _ _ _ _ s h' => (by exact h'.sub (.cons _ (.cons _ (.cons _ (.cons _ (.cons _ (.cons_cons _ (.cons_cons _ (.refl _)))))))))) ?_
           rintro ⟨b4, c7⟩
           refine oq [oT 16, oT 17] [(59, vP c 1), (57, sl b4 a c7), (50, sl ec b fb), (43, vP c 0)] ?_
           refine oSS 2 1 [sl ec b fb] (fun w' h' => (by exact h'.sub (.cons _ (.cons _ (.cons _ (.cons _ (.cons _ (.cons_cons _ (.cons_cons _ (.refl _)))))))))) ?_
           refine oq [oT 19, oT 20] [(61, vP c 0), (57, sl b4 a c7)] ?_
           refine oSS 2 0 [sl b4 a c7] (fun w' h' => (by exact h'.sub (.cons _ (.cons _ (.cons _ (.cons _ (.cons _ (.cons_cons _ (.cons_cons _ (.refl _)))))))))) ?_
           refine ops_nil ?_
           exact fj C (b4, c7, a, hv, ec, fb, b, hu) ⟨A, ra, q9⟩ 7 [2, 3, 4, 5, 6]
         ·
          refine tree_node ?_
          have ap : RepL Rep.str F W ([v] : List ByteArray) ([.string v]) := (RepL.cons (R := Rep.str) (F := F) (w := W) (vs := [.string v]) (ys := []) rfl RepL.nil)
          refine oBS 56 [.string v] 9 1 1 (fun td => ?_)
          refine ops_nil ?_
          refine tree_both ?_ ?_
          ·
           refine tree_leaf ?_
           refine oM 47 1 1 ?_
           have f8 : RepL (Rep.int .i64) F W ([n] : List Int) ([vI n]) := (RepL.cons (R := (Rep.int .i64)) (F := F) (w := W) (vs := [vI n]) (ys := []) rfl RepL.nil)
           refine oBS 49 [vI n] 3 1 1 (fun te => ?_)
           obtain ⟨j4, o7⟩ := app_some u
           obtain ⟨hw, l6⟩ : ∃ y_, j ++ ([vI n]) = y_ := ⟨_, rfl⟩
           have rb : RepL (Rep.int .i64) F W b hw := by rw [j4, ← l6]; exact RepL.app o f8
           refine ops_appendO (x := (Go.Operand.tmp 47)) (y := (Go.Operand.tmp 49)) (t := 22) (e := 3) (d := some 50) (n' := b.length) (z := 1) (m := ([n] : List Int).length) (bytes := 8) (xs' := hw) (news := ([vI n])) (zv := vI 0) 4 ⟨by kernel_rfl⟩ rfl rfl Try.underlying22 (by kernel_rfl) (by rfl) rfl (fun q f => f.srcO 0 rfl) f8.len f8.one o7 (by have z_ := congrArg List.length j4; rw [List.length_append] at z_; exact z_.symm) l6 (fun _ _ _ _ s h' => (by exact h'.sub (.cons _ (.cons _ (.cons _ (.cons _ (.cons _ (.cons_cons _ (.cons_cons _ (.refl _)))))))))) ?_
           rintro ⟨ed, fc⟩
           obtain ⟨j5, o8⟩ := app_some r
           obtain ⟨hx, l7⟩ : ∃ y_, g ++ ([.string v]) = y_ := ⟨_, rfl⟩
           have rc : RepL Rep.str F W a hx := by rw [j5, ← l7]; exact RepL.app k ap
           refine ops_appendO (x := (Go.Operand.tmp 54)) (y := (Go.Operand.tmp 56)) (t := 60) (e := 9) (d := some 57) (n' := a.length) (z := 1) (m := ([v] : List ByteArray).length) (bytes := 16) (xs' := hx) (news := ([.string v])) (zv := .string ByteArray.empty) 3 ⟨by kernel_rfl⟩ rfl rfl Try.underlying60 (by kernel_rfl) (by rfl) rfl (fun q f => f.srcO 1 rfl) ap.len ap.one o8 (by have z_ := congrArg List.length j5; rw [List.length_append] at z_; exact z_.symm) l7 (fun _ _ _ _ s h' => (by exact h'.sub (.cons _ (.cons _ (.cons _ (.cons _ (.cons _ (.cons_cons _ (.cons_cons _ (.refl _)))))))))) ?_
           rintro ⟨b5, c8⟩
           refine oq [oT 16, oT 17] [(59, vP c 1), (57, sl b5 a c8), (50, sl ed b fc), (43, vP c 0)] ?_
           refine oSS 2 1 [sl ed b fc] (fun w' h' => (by exact h'.sub (.cons _ (.cons _ (.cons _ (.cons _ (.cons _ (.cons_cons _ (.cons_cons _ (.refl _)))))))))) ?_
           refine oq [oT 19, oT 20] [(61, vP c 0), (57, sl b5 a c8)] ?_
           refine oSS 2 0 [sl b5 a c8] (fun w' h' => (by exact h'.sub (.cons _ (.cons _ (.cons _ (.cons _ (.cons _ (.cons_cons _ (.cons_cons _ (.refl _)))))))))) ?_
           refine ops_nil ?_
           exact fj C (b5, c8, a, hx, ed, fc, b, hw) ⟨A, rc, rb⟩ 7 [2, 3, 4, 5, 6]
          ·
           refine tree_leaf ?_
           have f9 : RepL (Rep.int .i64) F W ([n] : List Int) ([vI n]) := (RepL.cons (R := (Rep.int .i64)) (F := F) (w := W) (vs := [vI n]) (ys := []) rfl RepL.nil)
           refine oBS 49 [vI n] 3 1 1 (fun tf => ?_)
           refine oM 47 2 1 ?_
           obtain ⟨j6, o9⟩ := app_some u
           obtain ⟨hy, l8⟩ : ∃ y_, j ++ ([vI n]) = y_ := ⟨_, rfl⟩
           have rd : RepL (Rep.int .i64) F W b hy := by rw [j6, ← l8]; exact RepL.app o f9
           refine ops_appendO (x := (Go.Operand.tmp 47)) (y := (Go.Operand.tmp 49)) (t := 22) (e := 3) (d := some 50) (n' := b.length) (z := 1) (m := ([n] : List Int).length) (bytes := 8) (xs' := hy) (news := ([vI n])) (zv := vI 0) 4 ⟨by kernel_rfl⟩ rfl rfl Try.underlying22 (by kernel_rfl) (by rfl) rfl (fun q f => f.srcO 0 rfl) f9.len f9.one o9 (by have z_ := congrArg List.length j6; rw [List.length_append] at z_; exact z_.symm) l8 (fun _ _ _ _ s h' => (by exact h'.sub (.cons _ (.cons _ (.cons _ (.cons _ (.cons _ (.cons_cons _ (.cons_cons _ (.refl _)))))))))) ?_
           rintro ⟨ee, fd⟩
           obtain ⟨j7, pa⟩ := app_some r
           obtain ⟨hz, l9⟩ : ∃ y_, g ++ ([.string v]) = y_ := ⟨_, rfl⟩
           have re : RepL Rep.str F W a hz := by rw [j7, ← l9]; exact RepL.app k ap
           refine ops_appendO (x := (Go.Operand.tmp 54)) (y := (Go.Operand.tmp 56)) (t := 60) (e := 9) (d := some 57) (n' := a.length) (z := 1) (m := ([v] : List ByteArray).length) (bytes := 16) (xs' := hz) (news := ([.string v])) (zv := .string ByteArray.empty) 3 ⟨by kernel_rfl⟩ rfl rfl Try.underlying60 (by kernel_rfl) (by rfl) rfl (fun q f => f.srcO 1 rfl) ap.len ap.one pa (by have z_ := congrArg List.length j7; rw [List.length_append] at z_; exact z_.symm) l9 (fun _ _ _ _ s h' => (by exact h'.sub (.cons _ (.cons _ (.cons _ (.cons _ (.cons _ (.cons_cons _ (.cons_cons _ (.refl _)))))))))) ?_
           rintro ⟨b6, c9⟩
           refine oq [oT 16, oT 17] [(59, vP c 1), (57, sl b6 a c9), (50, sl ee b fd), (43, vP c 0)] ?_
           refine oSS 2 1 [sl ee b fd] (fun w' h' => (by exact h'.sub (.cons _ (.cons _ (.cons _ (.cons _ (.cons _ (.cons_cons _ (.cons_cons _ (.refl _)))))))))) ?_
           refine oq [oT 19, oT 20] [(61, vP c 0), (57, sl b6 a c9)] ?_
           refine oSS 2 0 [sl b6 a c9] (fun w' h' => (by exact h'.sub (.cons _ (.cons _ (.cons _ (.cons _ (.cons _ (.cons_cons _ (.cons_cons _ (.refl _)))))))))) ?_
           refine ops_nil ?_
           exact fj C (b6, c9, a, hz, ee, fd, b, hy) ⟨A, re, rd⟩ 7 [2, 3, 4, 5, 6]
       ·
        refine tree_node ?_
        have E : RepL Rep.str F W ([v] : List ByteArray) ([.string v]) := (RepL.cons (R := Rep.str) (F := F) (w := W) (vs := [.string v]) (ys := []) rfl RepL.nil)
        refine oBS 56 [.string v] 9 1 1 (fun tg => ?_)
        refine ops_nil ?_
        refine tree_both ?_ ?_
        ·
         refine tree_node ?_
         refine oM 47 1 1 ?_
         refine ops_nil ?_
         refine tree_both ?_ ?_
         ·
          refine tree_node ?_
          have aq : RepL (Rep.int .i64) F W ([n] : List Int) ([vI n]) := (RepL.cons (R := (Rep.int .i64)) (F := F) (w := W) (vs := [vI n]) (ys := []) rfl RepL.nil)
          refine oBS 49 [vI n] 3 1 1 (fun th => ?_)
          refine ops_nil ?_
          refine tree_both ?_ ?_
          ·
           refine tree_leaf ?_
           obtain ⟨j8, pb⟩ := app_some u
           obtain ⟨h0, ma⟩ : ∃ y_, j ++ ([vI n]) = y_ := ⟨_, rfl⟩
           have rf : RepL (Rep.int .i64) F W b h0 := by rw [j8, ← ma]; exact RepL.app o aq
           refine ops_appendO (x := (Go.Operand.tmp 47)) (y := (Go.Operand.tmp 49)) (t := 22) (e := 3) (d := some 50) (n' := b.length) (z := 1) (m := ([n] : List Int).length) (bytes := 8) (xs' := h0) (news := ([vI n])) (zv := vI 0) 4 ⟨by kernel_rfl⟩ rfl rfl Try.underlying22 (by kernel_rfl) (by rfl) rfl (fun q f => f.srcO 0 rfl) aq.len aq.one pb (by have z_ := congrArg List.length j8; rw [List.length_append] at z_; exact z_.symm) ma (fun _ _ _ _ s h' => (by exact h'.sub (.cons _ (.cons _ (.cons _ (.cons _ (.cons _ (.cons_cons _ (.cons_cons _ (.refl _)))))))))) ?_
           rintro ⟨ef, fe⟩
           refine oM 54 2 0 ?_
           obtain ⟨j9, pc⟩ := app_some r
           obtain ⟨h1, mb⟩ : ∃ y_, g ++ ([.string v]) = y_ := ⟨_, rfl⟩
           have rg : RepL Rep.str F W a h1 := by rw [j9, ← mb]; exact RepL.app k E
           refine ops_appendO (x := (Go.Operand.tmp 54)) (y := (Go.Operand.tmp 56)) (t := 60) (e := 9) (d := some 57) (n' := a.length) (z := 1) (m := ([v] : List ByteArray).length) (bytes := 16) (xs' := h1) (news := ([.string v])) (zv := .string ByteArray.empty) 3 ⟨by kernel_rfl⟩ rfl rfl Try.underlying60 (by kernel_rfl) (by rfl) rfl (fun q f => f.srcO 1 rfl) E.len E.one pc (by have z_ := congrArg List.length j9; rw [List.length_append] at z_; exact z_.symm) mb (fun _ _ _ _ s h' => (by exact h'.sub (.cons _ (.cons _ (.cons _ (.cons _ (.cons _ (.cons_cons _ (.cons_cons _ (.refl _)))))))))) ?_
           rintro ⟨b7, da⟩
           refine oq [oT 16, oT 17] [(59, vP c 1), (57, sl b7 a da), (50, sl ef b fe), (43, vP c 0)] ?_
           refine oSS 2 1 [sl ef b fe] (fun w' h' => (by exact h'.sub (.cons _ (.cons _ (.cons _ (.cons _ (.cons _ (.cons_cons _ (.cons_cons _ (.refl _)))))))))) ?_
           refine oq [oT 19, oT 20] [(61, vP c 0), (57, sl b7 a da)] ?_
           refine oSS 2 0 [sl b7 a da] (fun w' h' => (by exact h'.sub (.cons _ (.cons _ (.cons _ (.cons _ (.cons _ (.cons_cons _ (.cons_cons _ (.refl _)))))))))) ?_
           refine ops_nil ?_
           exact fj C (b7, da, a, h1, ef, fe, b, h0) ⟨A, rg, rf⟩ 7 [2, 3, 4, 5, 6]
          ·
           refine tree_leaf ?_
           refine oM 54 2 0 ?_
           obtain ⟨ka, pd⟩ := app_some u
           obtain ⟨h2, mc⟩ : ∃ y_, j ++ ([vI n]) = y_ := ⟨_, rfl⟩
           have rh : RepL (Rep.int .i64) F W b h2 := by rw [ka, ← mc]; exact RepL.app o aq
           refine ops_appendO (x := (Go.Operand.tmp 47)) (y := (Go.Operand.tmp 49)) (t := 22) (e := 3) (d := some 50) (n' := b.length) (z := 1) (m := ([n] : List Int).length) (bytes := 8) (xs' := h2) (news := ([vI n])) (zv := vI 0) 4 ⟨by kernel_rfl⟩ rfl rfl Try.underlying22 (by kernel_rfl) (by rfl) rfl (fun q f => f.srcO 0 rfl) aq.len aq.one pd (by have z_ := congrArg List.length ka; rw [List.length_append] at z_; exact z_.symm) mc (fun _ _ _ _ s h' => (by exact h'.sub (.cons _ (.cons _ (.cons _ (.cons _ (.cons _ (.cons_cons _ (.cons_cons _ (.refl _)))))))))) ?_
           rintro ⟨eg, ff⟩
           obtain ⟨kb, pe⟩ := app_some r
           obtain ⟨h3, md⟩ : ∃ y_, g ++ ([.string v]) = y_ := ⟨_, rfl⟩
           have ri : RepL Rep.str F W a h3 := by rw [kb, ← md]; exact RepL.app k E
           refine ops_appendO (x := (Go.Operand.tmp 54)) (y := (Go.Operand.tmp 56)) (t := 60) (e := 9) (d := some 57) (n' := a.length) (z := 1) (m := ([v] : List ByteArray).length) (bytes := 16) (xs' := h3) (news := ([.string v])) (zv := .string ByteArray.empty) 3 ⟨by kernel_rfl⟩ rfl rfl Try.underlying60 (by kernel_rfl) (by rfl) rfl (fun q f => f.srcO 1 rfl) E.len E.one pe (by have z_ := congrArg List.length kb; rw [List.length_append] at z_; exact z_.symm) md (fun _ _ _ _ s h' => (by exact h'.sub (.cons _ (.cons _ (.cons _ (.cons _ (.cons _ (.cons_cons _ (.cons_cons _ (.refl _)))))))))) ?_
           rintro ⟨b8, db⟩
           refine oq [oT 16, oT 17] [(59, vP c 1), (57, sl b8 a db), (50, sl eg b ff), (43, vP c 0)] ?_
           refine oSS 2 1 [sl eg b ff] (fun w' h' => (by exact h'.sub (.cons _ (.cons _ (.cons _ (.cons _ (.cons _ (.cons_cons _ (.cons_cons _ (.refl _)))))))))) ?_
           refine oq [oT 19, oT 20] [(61, vP c 0), (57, sl b8 a db)] ?_
           refine oSS 2 0 [sl b8 a db] (fun w' h' => (by exact h'.sub (.cons _ (.cons _ (.cons _ (.cons _ (.cons _ (.cons_cons _ (.cons_cons _ (.refl _)))))))))) ?_
           refine ops_nil ?_
           exact fj C (b8, db, a, h3, eg, ff, b, h2) ⟨A, ri, rh⟩ 7 [2, 3, 4, 5, 6]
         ·
          refine tree_leaf ?_
          refine oM 54 1 0 ?_
          have ga : RepL (Rep.int .i64) F W ([n] : List Int) ([vI n]) := (RepL.cons (R := (Rep.int .i64)) (F := F) (w := W) (vs := [vI n]) (ys := []) rfl RepL.nil)
          refine oBS 49 [vI n] 3 1 1 (fun ti => ?_)
          obtain ⟨kc, pf⟩ := app_some u
          obtain ⟨h4, me⟩ : ∃ y_, j ++ ([vI n]) = y_ := ⟨_, rfl⟩
          have rj : RepL (Rep.int .i64) F W b h4 := by rw [kc, ← me]; exact RepL.app o ga
          refine ops_appendO (x := (Go.Operand.tmp 47)) (y := (Go.Operand.tmp 49)) (t := 22) (e := 3) (d := some 50) (n' := b.length) (z := 1) (m := ([n] : List Int).length) (bytes := 8) (xs' := h4) (news := ([vI n])) (zv := vI 0) 4 ⟨by kernel_rfl⟩ rfl rfl Try.underlying22 (by kernel_rfl) (by rfl) rfl (fun q f => f.srcO 0 rfl) ga.len ga.one pf (by have z_ := congrArg List.length kc; rw [List.length_append] at z_; exact z_.symm) me (fun _ _ _ _ s h' => (by exact h'.sub (.cons _ (.cons _ (.cons _ (.cons _ (.cons _ (.cons_cons _ (.cons_cons _ (.refl _)))))))))) ?_
          rintro ⟨eh, fg⟩
          obtain ⟨kd, pg⟩ := app_some r
          obtain ⟨h5, mf⟩ : ∃ y_, g ++ ([.string v]) = y_ := ⟨_, rfl⟩
          have rk : RepL Rep.str F W a h5 := by rw [kd, ← mf]; exact RepL.app k E
          refine ops_appendO (x := (Go.Operand.tmp 54)) (y := (Go.Operand.tmp 56)) (t := 60) (e := 9) (d := some 57) (n' := a.length) (z := 1) (m := ([v] : List ByteArray).length) (bytes := 16) (xs' := h5) (news := ([.string v])) (zv := .string ByteArray.empty) 3 ⟨by kernel_rfl⟩ rfl rfl Try.underlying60 (by kernel_rfl) (by rfl) rfl (fun q f => f.srcO 1 rfl) E.len E.one pg (by have z_ := congrArg List.length kd; rw [List.length_append] at z_; exact z_.symm) mf (fun _ _ _ _ s h' => (by exact h'.sub (.cons _ (.cons _ (.cons _ (.cons _ (.cons _ (.cons_cons _ (.cons_cons _ (.refl _)))))))))) ?_
          rintro ⟨b9, dc⟩
          refine oq [oT 16, oT 17] [(59, vP c 1), (57, sl b9 a dc), (50, sl eh b fg), (43, vP c 0)] ?_
          refine oSS 2 1 [sl eh b fg] (fun w' h' => (by exact h'.sub (.cons _ (.cons _ (.cons _ (.cons _ (.cons _ (.cons_cons _ (.cons_cons _ (.refl _)))))))))) ?_
          refine oq [oT 19, oT 20] [(61, vP c 0), (57, sl b9 a dc)] ?_
          refine oSS 2 0 [sl b9 a dc] (fun w' h' => (by exact h'.sub (.cons _ (.cons _ (.cons _ (.cons _ (.cons _ (.cons_cons _ (.cons_cons _ (.refl _)))))))))) ?_
          refine ops_nil ?_
          exact fj C (b9, dc, a, h5, eh, fg, b, h4) ⟨A, rk, rj⟩ 7 [2, 3, 4, 5, 6]
        ·
         refine tree_ways ?_ ?_
         ·
          refine tree_node ?_
          have aa : RepL (Rep.int .i64) F W ([n] : List Int) ([vI n]) := (RepL.cons (R := (Rep.int .i64)) (F := F) (w := W) (vs := [vI n]) (ys := []) rfl RepL.nil)
          refine oBS 49 [vI n] 3 1 1 (fun tj => ?_)
          refine ops_nil ?_
          refine tree_both ?_ ?_
          ·
           refine tree_node ?_
           refine oM 47 2 1 ?_
           refine ops_nil ?_
           refine tree_both ?_ ?_
           ·
            refine tree_leaf ?_
            obtain ⟨ke, ph⟩ := app_some u
            obtain ⟨h6, mg⟩ : ∃ y_, j ++ ([vI n]) = y_ := ⟨_, rfl⟩
            have rl : RepL (Rep.int .i64) F W b h6 := by rw [ke, ← mg]; exact RepL.app o aa
            refine ops_appendO (x := (Go.Operand.tmp 47)) (y := (Go.Operand.tmp 49)) (t := 22) (e := 3) (d := some 50) (n' := b.length) (z := 1) (m := ([n] : List Int).length) (bytes := 8) (xs' := h6) (news := ([vI n])) (zv := vI 0) 4 ⟨by kernel_rfl⟩ rfl rfl Try.underlying22 (by kernel_rfl) (by rfl) rfl (fun q f => f.srcO 0 rfl) aa.len aa.one ph (by have z_ := congrArg List.length ke; rw [List.length_append] at z_; exact z_.symm) mg (fun _ _ _ _ s h' => (by exact h'.sub (.cons _ (.cons _ (.cons _ (.cons _ (.cons _ (.cons_cons _ (.cons_cons _ (.refl _)))))))))) ?_
            rintro ⟨ei, fh⟩
            refine oM 54 2 0 ?_
            obtain ⟨kf, pj⟩ := app_some r
            obtain ⟨h7, mh⟩ : ∃ y_, g ++ ([.string v]) = y_ := ⟨_, rfl⟩
            have rm : RepL Rep.str F W a h7 := by rw [kf, ← mh]; exact RepL.app k E
            refine ops_appendO (x := (Go.Operand.tmp 54)) (y := (Go.Operand.tmp 56)) (t := 60) (e := 9) (d := some 57) (n' := a.length) (z := 1) (m := ([v] : List ByteArray).length) (bytes := 16) (xs' := h7) (news := ([.string v])) (zv := .string ByteArray.empty) 3 ⟨by kernel_rfl⟩ rfl rfl Try.underlying60 (by kernel_rfl) (by rfl) rfl (fun q f => f.srcO 1 rfl) E.len E.one pj (by have z_ := congrArg List.length kf; rw [List.length_append] at z_; exact z_.symm) mh (fun _ _ _ _ s h' => (by exact h'.sub (.cons _ (.cons _ (.cons _ (.cons _ (.cons _ (.cons_cons _ (.cons_cons _ (.refl _)))))))))) ?_
            rintro ⟨ca, dd⟩
            refine oq [oT 16, oT 17] [(59, vP c 1), (57, sl ca a dd), (50, sl ei b fh), (43, vP c 0)] ?_
            refine oSS 2 1 [sl ei b fh] (fun w' h' => (by exact h'.sub (.cons _ (.cons _ (.cons _ (.cons _ (.cons _ (.cons_cons _ (.cons_cons _ (.refl _)))))))))) ?_
            refine oq [oT 19, oT 20] [(61, vP c 0), (57, sl ca a dd)] ?_
            refine oSS 2 0 [sl ca a dd] (fun w' h' => (by exact h'.sub (.cons _ (.cons _ (.cons _ (.cons _ (.cons _ (.cons_cons _ (.cons_cons _ (.refl _)))))))))) ?_
            refine ops_nil ?_
            exact fj C (ca, dd, a, h7, ei, fh, b, h6) ⟨A, rm, rl⟩ 7 [2, 3, 4, 5, 6]
           ·
            refine tree_leaf ?_
            refine oM 54 2 0 ?_
            obtain ⟨kg, pk⟩ := app_some u
            obtain ⟨h8, mi⟩ : ∃ y_, j ++ ([vI n]) = y_ := ⟨_, rfl⟩
            have rn : RepL (Rep.int .i64) F W b h8 := by rw [kg, ← mi]; exact RepL.app o aa
            refine ops_appendO (x := (Go.Operand.tmp 47)) (y := (Go.Operand.tmp 49)) (t := 22) (e := 3) (d := some 50) (n' := b.length) (z := 1) (m := ([n] : List Int).length) (bytes := 8) (xs' := h8) (news := ([vI n])) (zv := vI 0) 4 ⟨by kernel_rfl⟩ rfl rfl Try.underlying22 (by kernel_rfl) (by rfl) rfl (fun q f => f.srcO 0 rfl) aa.len aa.one pk (by have z_ := congrArg List.length kg; rw [List.length_append] at z_; exact z_.symm) mi (fun _ _ _ _ s h' => (by exact h'.sub (.cons _ (.cons _ (.cons _ (.cons _ (.cons _ (.cons_cons _ (.cons_cons _ (.refl _)))))))))) ?_
            rintro ⟨ej, fi⟩
            obtain ⟨kh, pl⟩ := app_some r
            obtain ⟨h9, mj⟩ : ∃ y_, g ++ ([.string v]) = y_ := ⟨_, rfl⟩
            have ro : RepL Rep.str F W a h9 := by rw [kh, ← mj]; exact RepL.app k E
            refine ops_appendO (x := (Go.Operand.tmp 54)) (y := (Go.Operand.tmp 56)) (t := 60) (e := 9) (d := some 57) (n' := a.length) (z := 1) (m := ([v] : List ByteArray).length) (bytes := 16) (xs' := h9) (news := ([.string v])) (zv := .string ByteArray.empty) 3 ⟨by kernel_rfl⟩ rfl rfl Try.underlying60 (by kernel_rfl) (by rfl) rfl (fun q f => f.srcO 1 rfl) E.len E.one pl (by have z_ := congrArg List.length kh; rw [List.length_append] at z_; exact z_.symm) mj (fun _ _ _ _ s h' => (by exact h'.sub (.cons _ (.cons _ (.cons _ (.cons _ (.cons _ (.cons_cons _ (.cons_cons _ (.refl _)))))))))) ?_
            rintro ⟨cb, de⟩
            refine oq [oT 16, oT 17] [(59, vP c 1), (57, sl cb a de), (50, sl ej b fi), (43, vP c 0)] ?_
            refine oSS 2 1 [sl ej b fi] (fun w' h' => (by exact h'.sub (.cons _ (.cons _ (.cons _ (.cons _ (.cons _ (.cons_cons _ (.cons_cons _ (.refl _)))))))))) ?_
            refine oq [oT 19, oT 20] [(61, vP c 0), (57, sl cb a de)] ?_
            refine oSS 2 0 [sl cb a de] (fun w' h' => (by exact h'.sub (.cons _ (.cons _ (.cons _ (.cons _ (.cons _ (.cons_cons _ (.cons_cons _ (.refl _)))))))))) ?_
            refine ops_nil ?_
            exact fj C (cb, de, a, h9, ej, fi, b, h8) ⟨A, ro, rn⟩ 7 [2, 3, 4, 5, 6]
          ·
           refine tree_leaf ?_
           refine oM 54 2 0 ?_
           refine oM 47 2 1 ?_
           obtain ⟨ki, pm⟩ := app_some u
           obtain ⟨ia, mk⟩ : ∃ y_, j ++ ([vI n]) = y_ := ⟨_, rfl⟩
           have rp : RepL (Rep.int .i64) F W b ia := by rw [ki, ← mk]; exact RepL.app o aa
           refine ops_appendO (x := (Go.Operand.tmp 47)) (y := (Go.Operand.tmp 49)) (t := 22) (e := 3) (d := some 50) (n' := b.length) (z := 1) (m := ([n] : List Int).length) (bytes := 8) (xs' := ia) (news := ([vI n])) (zv := vI 0) 4 ⟨by kernel_rfl⟩ rfl rfl Try.underlying22 (by kernel_rfl) (by rfl) rfl (fun q f => f.srcO 0 rfl) aa.len aa.one pm (by have z_ := congrArg List.length ki; rw [List.length_append] at z_; exact z_.symm) mk (fun _ _ _ _ s h' => (by exact h'.sub (.cons _ (.cons _ (.cons _ (.cons _ (.cons _ (.cons_cons _ (.cons_cons _ (.refl _)))))))))) ?_
           rintro ⟨ek, fk⟩
           obtain ⟨kj, pn⟩ := app_some r
           obtain ⟨ib, ml⟩ : ∃ y_, g ++ ([.string v]) = y_ := ⟨_, rfl⟩
           have rq : RepL Rep.str F W a ib := by rw [kj, ← ml]; exact RepL.app k E
           refine ops_appendO (x := (Go.Operand.tmp 54)) (y := (Go.Operand.tmp 56)) (t := 60) (e := 9) (d := some 57) (n' := a.length) (z := 1) (m := ([v] : List ByteArray).length) (bytes := 16) (xs' := ib) (news := ([.string v])) (zv := .string ByteArray.empty) 3 ⟨by kernel_rfl⟩ rfl rfl Try.underlying60 (by kernel_rfl) (by rfl) rfl (fun q f => f.srcO 1 rfl) E.len E.one pn (by have z_ := congrArg List.length kj; rw [List.length_append] at z_; exact z_.symm) ml (fun _ _ _ _ s h' => (by exact h'.sub (.cons _ (.cons _ (.cons _ (.cons _ (.cons _ (.cons_cons _ (.cons_cons _ (.refl _)))))))))) ?_
           rintro ⟨cc, df⟩
           refine oq [oT 16, oT 17] [(59, vP c 1), (57, sl cc a df), (50, sl ek b fk), (43, vP c 0)] ?_
           refine oSS 2 1 [sl ek b fk] (fun w' h' => (by exact h'.sub (.cons _ (.cons _ (.cons _ (.cons _ (.cons _ (.cons_cons _ (.cons_cons _ (.refl _)))))))))) ?_
           refine oq [oT 19, oT 20] [(61, vP c 0), (57, sl cc a df)] ?_
           refine oSS 2 0 [sl cc a df] (fun w' h' => (by exact h'.sub (.cons _ (.cons _ (.cons _ (.cons _ (.cons _ (.cons_cons _ (.cons_cons _ (.refl _)))))))))) ?_
           refine ops_nil ?_
           exact fj C (cc, df, a, ib, ek, fk, b, ia) ⟨A, rq, rp⟩ 7 [2, 3, 4, 5, 6]
         ·
          refine tree_node ?_
          refine oM 54 1 0 ?_
          refine ops_nil ?_
          refine tree_both ?_ ?_
          ·
           refine tree_leaf ?_
           refine oM 47 1 1 ?_
           have gb : RepL (Rep.int .i64) F W ([n] : List Int) ([vI n]) := (RepL.cons (R := (Rep.int .i64)) (F := F) (w := W) (vs := [vI n]) (ys := []) rfl RepL.nil)
           refine oBS 49 [vI n] 3 1 1 (fun tk => ?_)
           obtain ⟨kk, po⟩ := app_some u
           obtain ⟨ic, mm⟩ : ∃ y_, j ++ ([vI n]) = y_ := ⟨_, rfl⟩
           have rr : RepL (Rep.int .i64) F W b ic := by rw [kk, ← mm]; exact RepL.app o gb
           refine ops_appendO (x := (Go.Operand.tmp 47)) (y := (Go.Operand.tmp 49)) (t := 22) (e := 3) (d := some 50) (n' := b.length) (z := 1) (m := ([n] : List Int).length) (bytes := 8) (xs' := ic) (news := ([vI n])) (zv := vI 0) 4 ⟨by kernel_rfl⟩ rfl rfl Try.underlying22 (by kernel_rfl) (by rfl) rfl (fun q f => f.srcO 0 rfl) gb.len gb.one po (by have z_ := congrArg List.length kk; rw [List.length_append] at z_; exact z_.symm) mm (fun _ _ _ _ s h' => (by exact h'.sub (.cons _ (.cons _ (.cons _ (.cons _ (.cons _ (.cons_cons _ (.cons_cons _ (.refl _)))))))))) ?_
           rintro ⟨el, fl⟩
           obtain ⟨kl, pp⟩ := app_some r
           obtain ⟨id, mn⟩ : ∃ y_, g ++ ([.string v]) = y_ := ⟨_, rfl⟩
           have rs : RepL Rep.str F W a id := by rw [kl, ← mn]; exact RepL.app k E
           refine ops_appendO (x := (Go.Operand.tmp 54)) (y := (Go.Operand.tmp 56)) (t := 60) (e := 9) (d := some 57) (n' := a.length) (z := 1) (m := ([v] : List ByteArray).length) (bytes := 16) (xs' := id) (news := ([.string v])) (zv := .string ByteArray.empty) 3 ⟨by kernel_rfl⟩ rfl rfl Try.underlying60 (by kernel_rfl) (by rfl) rfl (fun q f => f.srcO 1 rfl) E.len E.one pp (by have z_ := congrArg List.length kl; rw [List.length_append] at z_; exact z_.symm) mn (fun _ _ _ _ s h' => (by exact h'.sub (.cons _ (.cons _ (.cons _ (.cons _ (.cons _ (.cons_cons _ (.cons_cons _ (.refl _)))))))))) ?_
           rintro ⟨cd, dg⟩
           refine oq [oT 16, oT 17] [(59, vP c 1), (57, sl cd a dg), (50, sl el b fl), (43, vP c 0)] ?_
           refine oSS 2 1 [sl el b fl] (fun w' h' => (by exact h'.sub (.cons _ (.cons _ (.cons _ (.cons _ (.cons _ (.cons_cons _ (.cons_cons _ (.refl _)))))))))) ?_
           refine oq [oT 19, oT 20] [(61, vP c 0), (57, sl cd a dg)] ?_
           refine oSS 2 0 [sl cd a dg] (fun w' h' => (by exact h'.sub (.cons _ (.cons _ (.cons _ (.cons _ (.cons _ (.cons_cons _ (.cons_cons _ (.refl _)))))))))) ?_
           refine ops_nil ?_
           exact fj C (cd, dg, a, id, el, fl, b, ic) ⟨A, rs, rr⟩ 7 [2, 3, 4, 5, 6]
          ·
           refine tree_leaf ?_
           have gc : RepL (Rep.int .i64) F W ([n] : List Int) ([vI n]) := (RepL.cons (R := (Rep.int .i64)) (F := F) (w := W) (vs := [vI n]) (ys := []) rfl RepL.nil)
           refine oBS 49 [vI n] 3 1 1 (fun tl => ?_)
           refine oM 47 2 1 ?_
           obtain ⟨km, pq⟩ := app_some u
           obtain ⟨ie, mo⟩ : ∃ y_, j ++ ([vI n]) = y_ := ⟨_, rfl⟩
           have rt : RepL (Rep.int .i64) F W b ie := by rw [km, ← mo]; exact RepL.app o gc
           refine ops_appendO (x := (Go.Operand.tmp 47)) (y := (Go.Operand.tmp 49)) (t := 22) (e := 3) (d := some 50) (n' := b.length) (z := 1) (m := ([n] : List Int).length) (bytes := 8) (xs' := ie) (news := ([vI n])) (zv := vI 0) 4 ⟨by kernel_rfl⟩ rfl rfl Try.underlying22 (by kernel_rfl) (by rfl) rfl (fun q f => f.srcO 0 rfl) gc.len gc.one pq (by have z_ := congrArg List.length km; rw [List.length_append] at z_; exact z_.symm) mo (fun _ _ _ _ s h' => (by exact h'.sub (.cons _ (.cons _ (.cons _ (.cons _ (.cons _ (.cons_cons _ (.cons_cons _ (.refl _)))))))))) ?_
           rintro ⟨em, fm⟩
           obtain ⟨kn, pr⟩ := app_some r
           obtain ⟨ig, mp⟩ : ∃ y_, g ++ ([.string v]) = y_ := ⟨_, rfl⟩
           have ru : RepL Rep.str F W a ig := by rw [kn, ← mp]; exact RepL.app k E
           refine ops_appendO (x := (Go.Operand.tmp 54)) (y := (Go.Operand.tmp 56)) (t := 60) (e := 9) (d := some 57) (n' := a.length) (z := 1) (m := ([v] : List ByteArray).length) (bytes := 16) (xs' := ig) (news := ([.string v])) (zv := .string ByteArray.empty) 3 ⟨by kernel_rfl⟩ rfl rfl Try.underlying60 (by kernel_rfl) (by rfl) rfl (fun q f => f.srcO 1 rfl) E.len E.one pr (by have z_ := congrArg List.length kn; rw [List.length_append] at z_; exact z_.symm) mp (fun _ _ _ _ s h' => (by exact h'.sub (.cons _ (.cons _ (.cons _ (.cons _ (.cons _ (.cons_cons _ (.cons_cons _ (.refl _)))))))))) ?_
           rintro ⟨ce, dh⟩
           refine oq [oT 16, oT 17] [(59, vP c 1), (57, sl ce a dh), (50, sl em b fm), (43, vP c 0)] ?_
           refine oSS 2 1 [sl em b fm] (fun w' h' => (by exact h'.sub (.cons _ (.cons _ (.cons _ (.cons _ (.cons _ (.cons_cons _ (.cons_cons _ (.refl _)))))))))) ?_
           refine oq [oT 19, oT 20] [(61, vP c 0), (57, sl ce a dh)] ?_
           refine oSS 2 0 [sl ce a dh] (fun w' h' => (by exact h'.sub (.cons _ (.cons _ (.cons _ (.cons _ (.cons _ (.cons_cons _ (.cons_cons _ (.refl _)))))))))) ?_
           refine ops_nil ?_
           exact fj C (ce, dh, a, ig, em, fm, b, ie) ⟨A, ru, rt⟩ 7 [2, 3, 4, 5, 6]
end Go.Proofs.Ytbfndcookgijfaa.P
