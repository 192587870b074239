/- The Go functions come to what the plain functions tell. No condition. -/
import Derived.Test.YtbfndcookgijfaaProg
import Derived.Test.YtbfndcookgijfaaFnP
import Derived.Test.YtbfndcookgijfaaExSq
import Derived.Test.YtbfndcookgijfaaExRf
import Derived.Test.YtbfndcookgijfaaWkP0
import Derived.Test.YtbfndcookgijfaaWkP1
import Derived.Test.YtbfndcookgijfaaWkP2
import Derived.Test.YtbfndcookgijfaaWkP3
import Derived.Test.YtbfndcookgijfaaWkP4
import Derived.Test.YtbfndcookgijfaaWkP5
import Derived.Test.YtbfndcookgijfaaWkP6
import Derived.Test.YtbfndcookgijfaaExMap
namespace Go.Proofs.Ytbfndcookgijfaa.P
open Go Go.RowKit Go.Proofs.Ytbfndcookgijfaa.Sx
set_option linter.unusedVariables false
set_option maxHeartbeats 4000000
set_option maxRecDepth 100000
variable {w0 w : World} {cs : List Chunk} {F : Nat → Prop} {W : World}
theorem column_Map_int_string_ok {G : Nat} {a : Option Addr} {g : Nat} {k : List Int} {b8 : List Value} {b : Option Addr} {i : Nat} {m : List Int} {b9 : List Value} {c : Nat} {b0 : Array MapEntry} {bz : Nat} {b7 : List (Int × Int)} (dm : Mem w0 (.blk G [sl a k g, sl b m i, .map (some c)] 44 :: ow a k g 3 1 b8 :: ow b m i 3 1 b9 :: .obj c (.map b0 bz) :: Fz F W :: cs) w) (ck : RepL (Rep.int .i64) F W k b8) (cl : RepL (Rep.int .i64) F W m b9) (cm : MapOK (fun H : Int => Value.int .i64 H) (Rep.int .i64) false F W b7 b0 bz) {ax : List ByteArray} {ay : List Int} {bp : List (Int × Int)} (T : column_Map_int_string k m b7 = some (ax, ay, bp)) : Calls Try.prog 13 #[vP G 0, .func (.func 14) #[] #[]] w (Post w0 (fun ((bl, bj, bn, bq, bk, bo, br, bm, bb, a9, bs, bt, bc, ba) : Nat × (Option Addr) × Nat × (List Value) × (Option Addr) × Nat × (List Value) × Nat × (Array MapEntry) × Nat × (List Value) × (List Value) × (Array MapEntry) × Nat) => (RepL Rep.str F W ax bq) ∧ (RepL (Rep.int .i64) F W ay br) ∧ (MapOK (fun H : Int => Value.int .i64 H) (Rep.int .i64) false F W bp bb a9) ∧ (RepL (Rep.int .i64) F W k bs) ∧ (RepL (Rep.int .i64) F W m bt) ∧ (MapOK (fun H : Int => Value.int .i64 H) (Rep.int .i64) false F W b7 bc ba)) (fun (bl, bj, bn, bq, bk, bo, br, bm, bb, a9, bs, bt, bc, ba) => vP bl 0) (fun (bl, bj, bn, bq, bk, bo, br, bm, bb, a9, bs, bt, bc, ba) => .blk bl [sl bj ax bn, sl bk ay bo, .map (some bm)] 62 :: ow bj ax bn 9 1 bq :: ow bk ay bo 3 1 br :: .obj bm (.map bb a9) :: .blk G [sl a k g, sl b m i, .map (some c)] 44 :: ow a k g 3 1 bs :: ow b m i 3 1 bt :: .obj c (.map bc ba) :: Fz F W :: cs)) := by
 unfold column_Map_int_string at T
 refine sx_callsM Try.func13 rfl (n := 21) (by kernel_rfl) (l := [(0, vP G 0), (1, .func (.func 14) #[] #[])]) rfl (by rfl) dm ?_
 refine st_seq (st_region [oF 0, oF 1] (by rfl) ?_)
 refine oN 3 [.func (.func 14) #[] #[]] 36 (fun b1 => ?_)
 refine oq [oF 1] [(4, .pointer none), (3, vP b1 0), (0, vP G 0)] ?_
 refine ops_nil (fin_then (st_seq ?_))
 refine st_region (oFs 0 3) (by rfl) ?_
 obtain ⟨x2, x3, x4, dr, T⟩ := obind3 T
 refine oV (some 8) 6 [5, 0, 1, 2, 3, 4] 10 [0, 1, 2, 3, 5, 6, 7, 8, 9, 4] (fun _ X => column_New_string_ok X dr) ?_
 rintro ⟨D, A7, c8, y9, ds, s, cu, ct⟩ ⟨c7, c9, da⟩
 refine oN 5 [.pointer none] 33 (fun E => ?_)
 refine oS 0 0 [vP D 0] ?_
 refine ops_nil (fin_then ?_)
 refine st_joinN1 (σ := (Option Addr) × Nat × (List ByteArray) × (List Value) × (Option Addr) × Nat × (List Int) × (List Value) × (Array MapEntry) × Nat × (List (Int × Int)) × (List Value) × (List Value) × (Array MapEntry) × Nat × Nat) (nn := fun H => match H with | (a5, a7, az, bf, a6, a8, a0, bg, ar, ap, bw, bh, bi, au, aq, bv) => ⟨21, [markOf bv]⟩) (L := fun H => match H with | (a5, a7, az, bf, a6, a8, a0, bg, ar, ap, bw, bh, bi, au, aq, bv) => [(5, vP E 0)]) (N := fun H => match H with | (a5, a7, az, bf, a6, a8, a0, bg, ar, ap, bw, bh, bi, au, aq, bv) => Mem w0 (.blk E [vP D 0] 33 :: .blk D [sl a5 az a7, sl a6 a0 a8, .map (some s)] 62 :: ow a5 az a7 9 1 bf :: ow a6 a0 a8 3 1 bg :: .obj s (.map ar ap) :: .blk G [sl a k g, sl b m i, .map (some c)] 44 :: ow a k g 3 1 bh :: ow b m i 3 1 bi :: .obj c (.map au aq) :: .obj bv (.deferred (some [])) :: Fz F W :: cs)) (I := fun H => match H with | (a5, a7, az, bf, a6, a8, a0, bg, ar, ap, bw, bh, bi, au, aq, bv) => (column_Map_int_string_j1 az a0 bw = some (ax, ay, bp)) ∧ (RepL Rep.str F W az bf) ∧ (RepL (Rep.int .i64) F W a0 bg) ∧ (MapOK (fun H : Int => Value.int .i64 H) (Rep.int .i64) false F W bw ar ap) ∧ (RepL (Rep.int .i64) F W k bh) ∧ (RepL (Rep.int .i64) F W m bi) ∧ (MapOK (fun H : Int => Value.int .i64 H) (Rep.int .i64) false F W b7 au aq)) ?_ ?_
 ·
  rintro ⟨a5, a7, az, bf, a6, a8, a0, bg, ar, ap, bw, bh, bi, au, aq, bv⟩ ⟨T, db, dc, dd, de, df, dg⟩
  unfold column_Map_int_string_j1 at T
  refine st_seq (st_region [oF 0, oF 1] (by rfl) ?_)
  refine oM 20 0 0 ?_
  refine oq [oF 1] [(4, vP D 0)] ?_
  refine ops_nil (fin_then (st_ret ?_))
  refine fin_outs rfl ?_
  refine outs_mark 9 rfl ?_
  refine outs_conv (M' := Mem w0 (.blk E [vP D 0] 33 :: .blk D [sl a5 az a7, sl a6 a0 a8, .map (some s)] 62 :: ow a5 az a7 9 1 bf :: ow a6 a0 a8 3 1 bg :: .obj s (.map ar ap) :: .blk G [sl a k g, sl b m i, .map (some c)] 44 :: ow a k g 3 1 bh :: ow b m i 3 1 bi :: .obj c (.map au aq) :: Fz F W :: cs)) (fun _ h => h) ?_
  obtain ⟨rfl, rfl, rfl⟩ := si3 T
  refine outs_nil [.tmp 4] [vP D 0] rfl (fun w_ X => (.tmp rfl .nil)) (fun w_ X => ?_)
  exact ⟨(D, a5, a7, bf, a6, a8, bg, s, ar, ap, bh, bi, au, aq), ⟨db, dc, dd, de, df, dg⟩, rfl, X.pick 10 [1, 2, 3, 4, 5, 6, 7, 8, 9] (by kernel_rfl) (by decide) rfl⟩
 ·
  intro c5
  refine st_seq (st_seq (st_region [oF 0, oF 1] (by rfl) ?_))
  refine oq [oF 0] [(9, vP G 0), (5, vP E 0), (4, .pointer none), (3, vP b1 0)] ?_
  obtain ⟨j, t, c1, T⟩ := obind2 T
  refine oV (some 10) 11 [6, 7, 8, 9, 10, 0, 1, 2, 3, 4, 5] 15 [0, 1, 2, 3, 9, 10, 11, 12, 13, 14, 4, 5, 6, 7, 8] (fun _ X => column_Store_int_All_ok X ck cl cm c1) ?_
  rintro ⟨ac, bu, o, a1, q, cb, u, a2, av, aw, ab, aa⟩ ⟨dh, di, dj, dk, dl⟩
  refine ops_nil (fin_then (st_block ?_))
  refine st_keep (l' := [(10, .func (.func 32) #[] #[vP ac 0, vP q 0]), (5, vP E 0), (4, .pointer none), (3, vP b1 0)]) [10, 5, 4, 3] (by kernel_rfl) ?_
  refine st_rangeFunc (tg := 10) (caps := #[vP ac 0, vP q 0]) (nf := 22) (lf := fun L_ => [(0, yv L_), (1, vP ac 0), (2, vP q 0)]) rfl Try.func32 rfl (by kernel_rfl) (by kernel_rfl) (fun L_ => by kernel_rfl) (fun _ => rfl) ?_
  intro g_ a_rf62 ao r rc_rf62 hrc_rf62 hk_rf62
  refine st_seq ?_
  refine st_region (oFs 0 3) (by rfl) ?_
  refine oM 6 2 0 ?_
  refine oq [oF 1, oF 2] [(8, vI 0), (7, vI (j.length : Int)), (6, sl bu j o), (0, yv r), (2, vP q 0)] ?_
  refine ops_nil (fin_then (st_block ?_))
  obtain ⟨r2, dq, dp⟩ := obind T
  refine lp (σ := Int × (List ByteArray) × (List Int) × (List (Int × Int))) (ρ := (List ByteArray) × (List Int) × (List (Int × Int))) (γ := (Option Addr) × Nat × (List Value) × (Option Addr) × Nat × (List Value) × (Array MapEntry) × Nat) dq (A7, c8, y9, A7, c8, ds, cu, ct) (fun s_ g_ => match s_, g_ with | (A, B, C, be), (J, M, ak, K, O, al, V, U) => [(0, yv r), (2, vP q 0), (6, sl bu j o), (7, vI (j.length : Int)), (8, vI A)]) (fun s_ g_ => match s_, g_ with | (A, B, C, be), (J, M, ak, K, O, al, V, U) => Mem w0 (.blk q [sl cb t u] 22 :: ow cb t u 3 1 a2 :: ow bu j o 3 1 a1 :: .blk G [sl a k g, sl b m i, .map (some c)] 44 :: ow a k g 3 1 av :: ow b m i 3 1 aw :: .obj c (.map ab aa) :: .blk ac [sl bu j o] 22 :: .blk E [vP D 0] 33 :: .blk D [sl J B M, sl K C O, .map (some s)] 62 :: ow J B M 9 1 ak :: ow K C O 3 1 al :: .obj s (.map V U) :: .blk b1 [.func (.func 14) #[] #[]] 36 :: .obj r (rc_rf62 .ready none) :: .obj ao (.deferred (some [])) :: Fz F W :: cs)) (fun s_ g_ => match s_, g_ with | (A, B, C, be), (J, M, ak, K, O, al, V, U) => (RepL Rep.str F W B ak) ∧ (RepL (Rep.int .i64) F W C al) ∧ (MapOK (fun H : Int => Value.int .i64 H) (Rep.int .i64) false F W be V U)) ⟨c7, c9, da⟩ 17 [4, 5, 3, 12, 13, 14, 15, 2, 6, 7, 8, 9, 10, 11, 0, 1, 16] ?_
  rintro ⟨A, B, C, be⟩ ⟨J, M, ak, K, O, al, V, U⟩ o2 ⟨cp, cq, cr⟩ hs_ dn
  have T : (column_Map_int_string_l2 j t) A B C be = some o2 := hs_
  clear hs_
  unfold column_Map_int_string_l2 at T
  refine st_seq (st_region [oF 0] (by rfl) ?_)
  refine oq [oF 0] [(9, .bool (decide (A < (j.length : Int)))), (0, yv r), (2, vP q 0), (6, sl bu j o), (7, vI (j.length : Int)), (8, vI A)] ?_
  refine ops_nil (fin_then (st_seq ?_))
  refine sif T (fun cw T => ?_) (fun cw T => ?_)
  ·
   refine st_skip (fin_then (st_seq (st_block (st_seq ?_))))
   refine st_region (oFs 0 5) (by rfl) ?_
   refine oq [oF 0] [(10, vI A), (0, yv r), (2, vP q 0), (6, sl bu j o), (7, vI (j.length : Int)), (8, vI A)] ?_
   obtain ⟨x, c2, T⟩ := obind T
   obtain ⟨cg, cx, ce⟩ := idx_some c2
   have cc := (List.getElem?_eq_some_iff.1 ce).1
   refine ops_fact (fun w_ X => X.orowSome 2 rfl (Nat.lt_of_le_of_lt (Nat.zero_le _) cc)) ?_
   rintro ⟨p, rfl, -⟩
   obtain ⟨du, hr85, cz⟩ := dh.at_ cg x ce
   obtain rfl := hr85
   refine ops_val (op := (.indexAddr 22 (.tmp 6) (.tmp 8))) (d := some 11) (v := vP p (cg * 1)) ⟨by kernel_rfl⟩ (run_indexRow Try.underlying22 (z := 1) (by kernel_rfl) rfl rfl cx cc rfl) ?_
   refine ops_mem (d := some 12) (an := [.v (vI x)]) (evs := [.load ⟨p, cg * 1, none⟩ (vI x)]) (v := vI x) ⟨by kernel_rfl⟩ (fun w_ X hS => ⟨w_, ⟨X.ocell 2 rfl (cz 0 _ rfl), rfl⟩, X, trivial⟩) ?_
   refine oq [oF 3, oF 4] [(5, vI x), (4, vI A), (0, yv r), (2, vP q 0), (6, sl (sa p) j o), (7, vI (j.length : Int)), (8, vI A)] ?_
   refine ops_nil (fin_then (st_seq ?_))
   refine st_region (oFs 0 8) (by rfl) ?_
   refine oq [oF 0, oF 1] [(14, vI x), (13, yv r), (4, vI A), (0, yv r), (2, vP q 0), (6, sl (sa p) j o), (7, vI (j.length : Int)), (8, vI A)] ?_
   refine oM 15 0 0 ?_
   refine oq [oF 3] [(16, vI A), (15, sl cb t u), (14, vI x), (13, yv r), (0, yv r), (2, vP q 0), (6, sl (sa p) j o), (7, vI (j.length : Int)), (8, vI A)] ?_
   obtain ⟨ad, c3, T⟩ := obind T
   obtain ⟨ch, cy, cf⟩ := idx_some c3
   have cd := (List.getElem?_eq_some_iff.1 cf).1
   refine ops_fact (fun w_ X => X.orowSome 1 rfl (Nat.lt_of_le_of_lt (Nat.zero_le _) cd)) ?_
   rintro ⟨y, rfl, -⟩
   obtain ⟨dv, hr95, c0⟩ := di.at_ ch ad cf
   obtain rfl := hr95
   refine ops_val (op := (.indexAddr 22 (.tmp 15) (.tmp 16))) (d := some 17) (v := vP y (ch * 1)) ⟨by kernel_rfl⟩ (run_indexRow Try.underlying22 (z := 1) (by kernel_rfl) rfl rfl cy cd rfl) ?_
   refine ops_mem (d := some 18) (an := [.v (vI ad)]) (evs := [.load ⟨y, ch * 1, none⟩ (vI ad)]) (v := vI ad) ⟨by kernel_rfl⟩ (fun w_ X hS => ⟨w_, ⟨X.ocell 1 rfl (c0 0 _ rfl), rfl⟩, X, trivial⟩) ?_
   refine oq [] [(18, vI ad), (14, vI x), (13, yv r), (0, yv r), (2, vP q 0), (6, sl (sa p) j o), (7, vI (j.length : Int)), (8, vI A)] ?_
   refine ops_yield (cs := (.blk q [sl (sa y) t u] 22 :: ow (sa y) t u 3 1 a2 :: ow (sa p) j o 3 1 a1 :: .blk G [sl a k g, sl b m i, .map (some c)] 44 :: ow a k g 3 1 av :: ow b m i 3 1 aw :: .obj c (.map ab aa) :: .blk ac [sl (sa p) j o] 22 :: .blk E [vP D 0] 33 :: .blk D [sl J B M, sl K C O, .map (some s)] 62 :: ow J B M 9 1 ak :: ow K C O 3 1 al :: .obj s (.map V U) :: .blk b1 [.func (.func 14) #[] #[]] 36 :: .obj r (rc_rf62 .ready none) :: .obj ao (.deferred (some [])) :: Fz F W :: cs)) (d := some 19) (args := #[vI x, vI ad]) (l := [(18, vI ad), (14, vI x), (13, yv r), (0, yv r), (2, vP q 0), (6, sl (sa p) j o), (7, vI (j.length : Int)), (8, vI A)]) (lr := [(12, vI ad), (11, vI x), (10, .func (.func 32) #[] #[vP ac 0, vP q 0]), (5, vP E 0), (4, .pointer none), (3, vP b1 0)]) 14 rfl hrc_rf62 ⟨by kernel_rfl⟩ hk_rf62 (by kernel_rfl) (by kernel_rfl) ?_
   intro a_rd99 hk_rd99
   refine st_seq (st_region [oF 0] (by rfl) ?_)
   refine oq [oF 0] [(6, vI x), (12, vI ad), (5, vP E 0), (3, vP b1 0)] ?_
   refine ops_nil (fin_then (st_region [oF 0] (by rfl) ?_))
   refine oq [oF 0] [(7, vI ad), (6, vI x), (5, vP E 0), (3, vP b1 0)] ?_
   refine ops_nil ?_
   refine fin_begin 14 rfl hrc_rf62 ?_
   refine st_block ?_
   refine st_region_draw [oT 0, oT 1, oT 2, oT 3, oT 4, oF 5, oF 6] (Mem w0 (.blk q [sl (sa y) t u] 22 :: ow (sa y) t u 3 1 a2 :: ow (sa p) j o 3 1 a1 :: .blk G [sl a k g, sl b m i, .map (some c)] 44 :: ow a k g 3 1 av :: ow b m i 3 1 aw :: .obj c (.map ab aa) :: .blk ac [sl (sa p) j o] 22 :: .blk E [vP D 0] 33 :: .blk b1 [.func (.func 14) #[] #[]] 36 :: .obj r (rc_rf62 .busy none) :: .obj ao (.deferred (some [])) :: Fz F W :: cs)) (by kernel_rfl) (by kernel_rfl) (by kernel_rfl) (fun _ d _ _ _ h => by cases d <;> exact h) (M' := Mem w0 (.blk q [sl (sa y) t u] 22 :: ow (sa y) t u 3 1 a2 :: ow (sa p) j o 3 1 a1 :: .blk G [sl a k g, sl b m i, .map (some c)] 44 :: ow a k g 3 1 av :: ow b m i 3 1 aw :: .obj c (.map ab aa) :: .blk ac [sl (sa p) j o] 22 :: .blk E [vP D 0] 33 :: .blk D [sl J B M, sl K C O, .map (some s)] 62 :: ow J B M 9 1 ak :: ow K C O 3 1 al :: .obj s (.map V U) :: .blk b1 [.func (.func 14) #[] #[]] 36 :: .obj r (rc_rf62 .busy none) :: .obj ao (.deferred (some [])) :: Fz F W :: cs)) (fun w_ X => ⟨X.drew, X.drew.sub (.cons_cons _ (.cons_cons _ (.cons_cons _ (.cons_cons _ (.cons_cons _ (.cons_cons _ (.cons_cons _ (.cons_cons _ (.cons_cons _ (.cons _ (.cons _ (.cons _ (.cons _ (.cons_cons _ (.cons_cons _ (.cons_cons _ (.cons_cons _ (.refl _))))))))))))))))))⟩) ?_
   refine oL 13 8 0 ?_
   refine oq [oT 1] [(14, vI x), (13, vP D 0), (7, vI ad), (6, vI x), (3, vP b1 0)] ?_
   refine oL 15 9 0 ?_
   refine oq [oT 3, oT 4] [(17, vI ad), (16, vI x), (15, .func (.func 14) #[] #[]), (14, vI x), (13, vP D 0)] ?_
   obtain ⟨bx, cn, T⟩ := obind T
   refine ops_callI (σ := Unit) (d := some 18) (f := 14) (args := #[vI x, vI ad]) (v := (fun _ => .string bx)) (I := (fun _ => True)) (M' := (fun _ => Mem w0 (.blk q [sl (sa y) t u] 22 :: ow (sa y) t u 3 1 a2 :: ow (sa p) j o 3 1 a1 :: .blk G [sl a k g, sl b m i, .map (some c)] 44 :: ow a k g 3 1 av :: ow b m i 3 1 aw :: .obj c (.map ab aa) :: .blk ac [sl (sa p) j o] 22 :: .blk E [vP D 0] 33 :: .blk D [sl J B M, sl K C O, .map (some s)] 62 :: ow J B M 9 1 ak :: ow K C O 3 1 al :: .obj s (.map V U) :: .blk b1 [.func (.func 14) #[] #[]] 36 :: .obj r (rc_rf62 .busy none) :: .obj ao (.deferred (some [])) :: Fz F W :: cs))) ⟨by kernel_rfl⟩ (fun w_ X hS => (@tourlaw3_ColumnPlays_1_ok w0 w_ (.blk q [sl (sa y) t u] 22 :: ow (sa y) t u 3 1 a2 :: ow (sa p) j o 3 1 a1 :: .blk G [sl a k g, sl b m i, .map (some c)] 44 :: ow a k g 3 1 av :: ow b m i 3 1 aw :: .obj c (.map ab aa) :: .blk ac [sl (sa p) j o] 22 :: .blk E [vP D 0] 33 :: .blk D [sl J B M, sl K C O, .map (some s)] 62 :: ow J B M 9 1 ak :: ow K C O 3 1 al :: .obj s (.map V U) :: .blk b1 [.func (.func 14) #[] #[]] 36 :: .obj r (rc_rf62 .busy none) :: .obj ao (.deferred (some [])) :: cs) F W x ad (X.pick 17 [16, 0, 1, 2, 3, 4, 5, 6, 7, 8, 9, 10, 11, 12, 13, 14, 15] (by kernel_rfl) (by decide) rfl)  bx cn).mono (by rintro e w' ⟨_, -, rfl, h'⟩; have h' : Mem w0 (.blk q [sl (sa y) t u] 22 :: ow (sa y) t u 3 1 a2 :: ow (sa p) j o 3 1 a1 :: .blk G [sl a k g, sl b m i, .map (some c)] 44 :: ow a k g 3 1 av :: ow b m i 3 1 aw :: .obj c (.map ab aa) :: .blk ac [sl (sa p) j o] 22 :: .blk E [vP D 0] 33 :: .blk D [sl J B M, sl K C O, .map (some s)] 62 :: ow J B M 9 1 ak :: ow K C O 3 1 al :: .obj s (.map V U) :: .blk b1 [.func (.func 14) #[] #[]] 36 :: .obj r (rc_rf62 .busy none) :: .obj ao (.deferred (some [])) :: Fz F W :: cs) w' := (h'.pick 17 [1, 2, 3, 4, 5, 6, 7, 8, 9, 10, 11, 12, 13, 14, 15, 16, 0] (by kernel_rfl) (by decide) rfl); exact ⟨(), trivial, rfl, h', (by exact h'.sub (.cons_cons _ (.cons_cons _ (.cons_cons _ (.cons_cons _ (.cons_cons _ (.cons_cons _ (.cons_cons _ (.cons_cons _ (.cons_cons _ (.cons _ (.cons _ (.cons _ (.cons _ (.cons_cons _ (.cons_cons _ (.cons_cons _ (.cons_cons _ (.refl _)))))))))))))))))))⟩)) ?_
   rintro _ -
   obtain ⟨cj, a3, a4, b5, co, T⟩ := obind4 T
   refine ops_callI (σ := (Option Addr) × Nat × (List Value) × (Option Addr) × Nat × (List Value) × (Array MapEntry) × Nat) (d := some 19) (f := 28) (args := #[vP D 0, vI x, .string bx]) (v := (fun H => match H with | (ae, ag, ai, af, ah, aj, Z, Y) => vI cj)) (I := (fun H => match H with | (ae, ag, ai, af, ah, aj, Z, Y) => (RepL Rep.str F W a3 ai) ∧ (RepL (Rep.int .i64) F W a4 aj) ∧ (MapOK (fun H : Int => Value.int .i64 H) (Rep.int .i64) false F W b5 Z Y))) (M' := (fun H => match H with | (ae, ag, ai, af, ah, aj, Z, Y) => Mem w0 (ow ae a3 ag 9 1 ai :: ow af a4 ah 3 1 aj :: .blk q [sl (sa y) t u] 22 :: ow (sa y) t u 3 1 a2 :: ow (sa p) j o 3 1 a1 :: .blk G [sl a k g, sl b m i, .map (some c)] 44 :: ow a k g 3 1 av :: ow b m i 3 1 aw :: .obj c (.map ab aa) :: .blk ac [sl (sa p) j o] 22 :: .blk E [vP D 0] 33 :: .blk D [sl ae a3 ag, sl af a4 ah, .map (some s)] 62 :: .obj s (.map Z Y) :: .blk b1 [.func (.func 14) #[] #[]] 36 :: .obj r (rc_rf62 .busy none) :: .obj ao (.deferred (some [])) :: Fz F W :: cs))) ⟨by kernel_rfl⟩ (fun w_ X hS => (@column_Store_string_Put_ok w0 w_ (.blk q [sl (sa y) t u] 22 :: ow (sa y) t u 3 1 a2 :: ow (sa p) j o 3 1 a1 :: .blk G [sl a k g, sl b m i, .map (some c)] 44 :: ow a k g 3 1 av :: ow b m i 3 1 aw :: .obj c (.map ab aa) :: .blk ac [sl (sa p) j o] 22 :: .blk E [vP D 0] 33 :: .blk b1 [.func (.func 14) #[] #[]] 36 :: .obj r (rc_rf62 .busy none) :: .obj ao (.deferred (some [])) :: cs) F W D J M B ak K O C al s V U be x bx (X.pick 17 [9, 10, 11, 12, 16, 0, 1, 2, 3, 4, 5, 6, 7, 8, 13, 14, 15] (by kernel_rfl) (by decide) rfl) cp cq cr cj a3 a4 b5 co).mono (by rintro e w' ⟨⟨ae, ag, ai, af, ah, aj, Z, Y⟩, ⟨b2, b3, b4⟩, rfl, h'⟩; have h' : Mem w0 (ow ae a3 ag 9 1 ai :: ow af a4 ah 3 1 aj :: .blk q [sl (sa y) t u] 22 :: ow (sa y) t u 3 1 a2 :: ow (sa p) j o 3 1 a1 :: .blk G [sl a k g, sl b m i, .map (some c)] 44 :: ow a k g 3 1 av :: ow b m i 3 1 aw :: .obj c (.map ab aa) :: .blk ac [sl (sa p) j o] 22 :: .blk E [vP D 0] 33 :: .blk D [sl ae a3 ag, sl af a4 ah, .map (some s)] 62 :: .obj s (.map Z Y) :: .blk b1 [.func (.func 14) #[] #[]] 36 :: .obj r (rc_rf62 .busy none) :: .obj ao (.deferred (some [])) :: Fz F W :: cs) w' := (h'.pick 17 [1, 2, 5, 6, 7, 8, 9, 10, 11, 12, 13, 0, 3, 14, 15, 16, 4] (by kernel_rfl) (by decide) rfl); exact ⟨(ae, ag, ai, af, ah, aj, Z, Y), ⟨b2, b3, b4⟩, rfl, h', (by exact h'.sub (.cons _ (.cons _ (.cons_cons _ (.cons_cons _ (.cons_cons _ (.cons_cons _ (.cons_cons _ (.cons_cons _ (.cons_cons _ (.cons_cons _ (.cons_cons _ (.cons _ (.cons _ (.cons_cons _ (.cons_cons _ (.cons_cons _ (.cons_cons _ (.refl _)))))))))))))))))))⟩)) ?_
   rintro ⟨ae, ag, ai, af, ah, aj, Z, Y⟩ ⟨b2, b3, b4⟩
   refine ops_nil (fin_block ?_)
   refine fin_round_on 14 rfl hrc_rf62 hk_rd99 (by intro t_ h_; cases h_; decide) (fun w_ h' => trivial) ?_
   refine oq [oF 7] [(20, .bool false), (0, yv r), (2, vP q 0), (6, sl (sa p) j o), (7, vI (j.length : Int)), (8, vI A)] ?_
   refine ops_nil (fin_then (st_false rfl (st_skip (fin_block (fin_then (st_region [oF 0, oF 1] (by rfl) ?_))))))
   refine oq [oF 0, oF 1] [(8, vI (IntKind.i64.wrap (A + 1))), (0, yv r), (2, vP q 0), (6, sl (sa p) j o), (7, vI (j.length : Int))] ?_
   refine ops_nil ?_
   exact fag (IntKind.i64.wrap (A + 1), a3, a4, b5) (ae, ag, ai, af, ah, aj, Z, Y) (Option.some.inj T).symm ⟨b2, b3, b4⟩ 17 [2, 3, 4, 5, 6, 7, 8, 9, 10, 11, 0, 1, 12, 13, 14, 15, 16]
  ·
   refine st_exit (fin_exit_then (fin_exit_then (fin_exit ?_)))
   refine fin_rf_on rfl rfl 14 rfl hrc_rf62 hk_rf62 ?_
   refine fin_block ?_
   obtain rfl := Option.some.inj T
   obtain rfl := dn _ rfl
   have T : column_Map_int_string_j1 B C be = some (ax, ay, bp) := dp
   exact fin_joinN c5 (J, M, B, ak, K, O, C, al, V, U, be, av, aw, ab, aa, ao) rfl ⟨T, cp, cq, cr, dj, dk, dl⟩ (look_has ⟨rfl, trivial⟩) (fun w_ X => X.pick 16 [8, 9, 10, 11, 12, 3, 4, 5, 6, 14, 15] (by kernel_rfl) (by decide) rfl)
theorem column_Store_string_Rows_ok {C : Nat} {i : Option Addr} {k : Nat} {r : List ByteArray} {A : List Value} {a : Option Addr} {c : Nat} {g : List Int} {B : List Value} {j : Nat} {q : Array MapEntry} {o : Nat} {M : List (Int × Int)} (X : Mem w0 (.blk C [sl i r k, sl a g c, .map (some j)] 62 :: ow i r k 9 1 A :: ow a g c 3 1 B :: .obj j (.map q o) :: Fz F W :: cs) w) (N : RepL Rep.str F W r A) (J : RepL (Rep.int .i64) F W g B) (O : MapOK (fun G : Int => Value.int .i64 G) (Rep.int .i64) false F W M q o) {u : List Int} (T : column_Store_string_Rows r g M = some u) : Calls Try.prog 16 #[vP C 0] w (Post w0 (fun ((s, t, x, y, z, p, m) : (Option Addr) × Nat × (List Value) × (List Value) × (List Value) × (Array MapEntry) × Nat) => (RepL (Rep.int .i64) F W u x) ∧ (RepL Rep.str F W r y) ∧ (RepL (Rep.int .i64) F W g z) ∧ (MapOK (fun G : Int => Value.int .i64 G) (Rep.int .i64) false F W M p m)) (fun (s, t, x, y, z, p, m) => sl s u t) (fun (s, t, x, y, z, p, m) => ow s u t 3 1 x :: .blk C [sl i r k, sl a g c, .map (some j)] 62 :: ow i r k 9 1 y :: ow a g c 3 1 z :: .obj j (.map p m) :: Fz F W :: cs)) := by
 unfold column_Store_string_Rows at T
 refine sx_calls Try.func16 rfl (n := 8) (by kernel_rfl) (l := [(0, vP C 0)]) rfl (by rfl) X ?_
 refine st_seq (st_region [oF 0] (by rfl) ?_)
 refine oq [oF 0] [(0, vP C 0)] ?_
 refine ops_nil (fin_then (st_seq ?_))
 refine st_region (oFs 0 6) (by rfl) ?_
 refine oq (oFs 0 3) [(5, vP C 1)] ?_
 refine oM 6 0 1 ?_
 obtain ⟨L, Y, T⟩ := obind T
 refine ops_callI (σ := (Option Addr) × Nat × (List Value)) (d := some 7) (f := 20) (args := #[sl a g c]) (v := (fun G => match G with | (D, E, H) => sl D L E)) (I := (fun G => match G with | (D, E, H) => (RepL (Rep.int .i64) F W L H))) (M' := (fun G => match G with | (D, E, H) => Mem w0 (ow D L E 3 1 H :: .blk C [sl i r k, sl a g c, .map (some j)] 62 :: ow i r k 9 1 A :: ow a g c 3 1 B :: .obj j (.map q o) :: Fz F W :: cs))) ⟨by kernel_rfl⟩ (fun K V Z => (@slices_Clone_int_int_ok K K [] (fun b => b < K.heap.size) K a c g (Mem.fz0 K) (V.ordS 2 4 rfl rfl J rfl rfl) L Y).mono (by rintro e w' ⟨⟨D, E, H⟩, U, rfl, h'⟩; have h' : Mem K [ow D L E 3 1 H] w' := h'.pick 2 [0] (by kernel_rfl) (by decide) rfl; exact ⟨(D, E, H), (RepL.move' (fun h => h) U), rfl, V.join h' rfl, trivial⟩)) ?_
 rintro ⟨D, E, H⟩ U
 refine oq [oF 5] [(2, sl D L E)] ?_
 refine ops_nil (fin_then (st_ret ?_))
 obtain rfl := Option.some.inj T
 exact fr [2] (D, E, H, A, B, q, o) ⟨U, N, J, O⟩ 0 []
theorem column_Store_string_Get_ok {f : Nat} {b : Option Addr} {c : Nat} {m : List ByteArray} {r : List Value} {j : Option Addr} {k : Nat} {q : List Int} {s : List Value} {a : Nat} {i : Array MapEntry} {g : Nat} {y : List (Int × Int)} {n : Int} (X : Mem w0 (.blk f [sl b m c, sl j q k, .map (some a)] 62 :: ow b m c 9 1 r :: ow j q k 3 1 s :: .obj a (.map i g) :: Fz F W :: cs) w) (A : RepL Rep.str F W m r) (D : RepL (Rep.int .i64) F W q s) (B : MapOK (fun V : Int => Value.int .i64 V) (Rep.int .i64) false F W y i g) {G : ByteArray} {E : Bool} (x : column_Store_string_Get m q y n = some (G, E)) : Calls Try.prog 17 #[vP f 0, vI n] w (Post w0 (fun ((t, u, p, o) : (List Value) × (List Value) × (Array MapEntry) × Nat) => (RepL Rep.str F W m t) ∧ (RepL (Rep.int .i64) F W q u) ∧ (MapOK (fun V : Int => Value.int .i64 V) (Rep.int .i64) false F W y p o)) (fun (t, u, p, o) => .tuple #[.string G, .bool E]) (fun (t, u, p, o) => .blk f [sl b m c, sl j q k, .map (some a)] 62 :: ow b m c 9 1 t :: ow j q k 3 1 u :: .obj a (.map p o) :: Fz F W :: cs)) := by
 unfold column_Store_string_Get at x
 refine sx_calls Try.func17 rfl (n := 28) (by kernel_rfl) (l := [(0, vP f 0), (1, vI n)]) rfl (by rfl) X ?_
 refine st_seq (st_region [oF 0, oF 1] (by rfl) ?_)
 refine oq [oF 0, oF 1] [(0, vP f 0), (1, vI n)] ?_
 refine ops_nil (fin_then (st_seq ?_))
 refine st_region (oFs 0 11) (by rfl) ?_
 refine oq (oFs 0 3) [(12, vP f 2), (0, vP f 0), (1, vI n)] ?_
 refine oM 13 0 2 ?_
 refine oq [oF 4] [(14, vI n), (13, .map (some a)), (0, vP f 0)] ?_
 obtain ⟨H, Z, x⟩ := obind x
 obtain ⟨ab, hr4, hrun5⟩ := B.get (KeyLaw.int Try.underlying3) Try.underlying42 n 0 (rfl) (fun u_ => Try.zeroValue3 u_)
 have hr4 : (Rep.int .i64).rd F W H ab := by rw [← Option.some.inj Z]; exact hr4
 obtain rfl := hr4
 refine ops_law (op := (.lookup 42 (.tmp 13) (.tmp 14) true)) (d := some 15) (σ := Unit) (v := fun _ => .tuple #[vI H, .bool ((mget y n).isSome)]) (M' := fun _ => Mem w0 (.blk f [sl b m c, sl j q k, .map (some a)] 62 :: ow b m c 9 1 r :: ow j q k 3 1 s :: .obj a (.map i g) :: Fz F W :: cs)) ⟨by kernel_rfl⟩ (fun o_ L ho_ C hS => ⟨(), L, run_lookupV rfl rfl (hrun5 true a L (C.mapAt 3 rfl)) o_ ho_, C, trivial⟩) (fun _ => ?_)
 refine oq (oFs 6 5) [(7, .bool ((mget y n).isSome)), (6, vI H), (0, vP f 0)] ?_
 refine ops_nil (fin_then (st_seq (st_seq (st_region [oF 0, oF 1] (by rfl) ?_))))
 refine oq [oF 0, oF 1] [(19, .bool (!((mget y n).isSome))), (6, vI H), (0, vP f 0)] ?_
 refine ops_nil (fin_then ?_)
 refine sif x (fun Y x => ?_) (fun Y x => ?_)
 ·
  refine st_seq (st_region [oF 0] (by rfl) ?_)
  refine oq [oF 0] [(8, .string (⟨#[]⟩))] ?_
  refine ops_nil (fin_then (st_seq ?_))
  refine st_region (oFs 0 3) (by rfl) ?_
  refine oq (oFs 0 3) [(5, .bool false), (4, .string (⟨#[]⟩))] ?_
  refine ops_nil (fin_then (st_ret (fin_ret_then ?_)))
  obtain ⟨rfl, rfl⟩ := si2 x
  exact fr [4, 5] (r, s, i, g) ⟨A, D, B⟩ 0 []
 ·
  refine st_skip (fin_then (st_seq ?_))
  refine st_region (oFs 0 9) (by rfl) ?_
  refine oq (oFs 0 3) [(23, vP f 0), (6, vI H)] ?_
  refine oM 24 0 0 ?_
  refine oq [oF 4] [(25, vI H), (24, sl b m c)] ?_
  obtain ⟨M, aa, x⟩ := obind x
  obtain ⟨U, O, J⟩ := idx_some aa
  have I := (List.getElem?_eq_some_iff.1 J).1
  refine ops_fact (fun L C => C.orowSome 1 rfl (Nat.lt_of_le_of_lt (Nat.zero_le _) I)) ?_
  rintro ⟨N, rfl, -⟩
  obtain ⟨ad, hr13, T⟩ := A.at_ U M J
  obtain rfl := hr13
  refine ops_val (op := (.indexAddr 60 (.tmp 24) (.tmp 25))) (d := some 26) (v := vP N (U * 1)) ⟨by kernel_rfl⟩ (run_indexRow Try.underlying60 (z := 1) (by kernel_rfl) rfl rfl O I rfl) ?_
  refine ops_mem (d := some 27) (an := [.v (.string M)]) (evs := [.load ⟨N, U * 1, none⟩ (.string M)]) (v := .string M) ⟨by kernel_rfl⟩ (fun L C hS => ⟨L, ⟨C.ocell 1 rfl (T 0 _ rfl), rfl⟩, C, trivial⟩) ?_
  refine oq [oF 7, oF 8] [(5, .bool true), (4, .string M)] ?_
  refine ops_nil (fin_then (st_ret ?_))
  obtain ⟨rfl, rfl⟩ := si2 x
  exact fr [4, 5] (r, s, i, g) ⟨A, D, B⟩ 0 []
theorem tourlaw3_ColumnPlays_ok {p : Option Addr} {r : Nat} {l : List Int} (ja : Mem w0 (Fz F W :: cs) w) (bm : RdS (Rep.int .i64) F W p r l) {ao : Bool} (a : tourlaw3_ColumnPlays l = some ao) : Calls Try.prog 3 #[sl p l r] w (Post w0 (fun ((c2, c3) : (Nat → Prop) × World) => (Ext w0 F W c2 c3)) (fun (c2, c3) => .bool ao) (fun (c2, c3) => Fz c2 c3 :: cs)) := by
 unfold tourlaw3_ColumnPlays at a
 refine sx_calls Try.func3 rfl (n := 123) (by kernel_rfl) (l := [(0, sl p l r)]) rfl (by rfl) ja ?_
 refine st_seq (st_region [oF 0] (by rfl) ?_)
 refine oq [oF 0] [(0, sl p l r)] ?_
 refine ops_nil (fin_then (st_seq (st_seq (st_region [oF 0, oF 1] (by rfl) ?_))))
 obtain ⟨x1, je, a⟩ := obind a
 refine oV (some 13) 0 [] 0 [] (fun _ y => tourlaw3_stored_ok y je) ?_
 rintro _ -
 refine oq [oF 1] [(14, .bool (!x1)), (0, sl p l r)] ?_
 refine ops_nil (fin_then ?_)
 refine sif a (fun jb a => ?_) (fun jb a => ?_)
 ·
  refine st_seq (st_region [oF 0] (by rfl) ?_)
  refine oq [oF 0] [(2, .bool false)] ?_
  refine ops_nil (fin_then (st_ret (fin_ret_then ?_)))
  obtain rfl := Option.some.inj a
  exact fr [2] (F, W) (Ext.refl _ _ _) 0 []
 ·
  refine st_skip (fin_then (st_seq ?_))
  refine st_region (oFs 0 5) (by rfl) ?_
  obtain ⟨x4, x5, jf, a⟩ := obind2 a
  refine oV (some 15) 0 [] 0 [] (fun _ y => column_New_int_ok y jf) ?_
  rintro ⟨j, A8, c9, jh, ji, s, gs, gr⟩ ⟨ix, iy, iz⟩
  refine oq [oF 1] [(16, .agg #[.slice none 0 0, .slice none 0 0]), (15, vP j 0), (0, sl p l r)] ?_
  refine oN 17 [.slice none 0 0, .slice none 0 0] 28 (fun g => ?_)
  refine oq [oF 3, oF 4] [(4, vP g 0), (3, vP j 0), (0, sl p l r)] ?_
  refine ops_nil (fin_then (st_seq (st_seq (st_region [oF 0, oF 1] (by rfl) ?_))))
  refine oq [oF 0, oF 1] [(19, .bool false), (4, vP g 0), (3, vP j 0), (0, sl p l r)] ?_
  refine ops_nil (fin_then (st_false rfl (st_skip (fin_then ?_))))
  refine st_join1 (σ := (Option Addr) × Nat × (List Int) × (List Value) × (Option Addr) × Nat × (List Int) × (List Value) × (Array MapEntry) × Nat × (List (Int × Int)) × (Option Addr) × Nat × (List Int) × (List Value) × (Option Addr) × Nat × (List Int) × (List Value) × (Nat → Prop) × World) (L := fun o => match o with | (ac, ah, M, dg, ad, ai, O, dh, c5, c4, c7, K, q, i, a3, aj, X, E, a4, u, x) => [(3, vP j 0), (4, vP g 0)]) (N := fun o => match o with | (ac, ah, M, dg, ad, ai, O, dh, c5, c4, c7, K, q, i, a3, aj, X, E, a4, u, x) => Mem w0 (.blk j [sl ac M ah, sl ad O ai, .map (some s)] 44 :: ow ac M ah 3 1 dg :: ow ad O ai 3 1 dh :: .obj s (.map c5 c4) :: .blk g [sl K i q, sl aj E X] 28 :: ow K i q 3 1 a3 :: ow aj E X 3 1 a4 :: Fz u x :: cs)) (I := fun o => match o with | (ac, ah, M, dg, ad, ai, O, dh, c5, c4, c7, K, q, i, a3, aj, X, E, a4, u, x) => (tourlaw3_ColumnPlays_j1 M O c7 i E = some ao) ∧ (RepL (Rep.int .i64) u x M dg) ∧ (RepL (Rep.int .i64) u x O dh) ∧ (MapOK (fun o : Int => Value.int .i64 o) (Rep.int .i64) false u x c7 c5 c4) ∧ (RepL (Rep.int .i64) u x i a3) ∧ (RepL (Rep.int .i64) u x E a4) ∧ (Ext w0 F W u x)) ?_ ?_
  ·
   rintro ⟨ac, ah, M, dg, ad, ai, O, dh, c5, c4, c7, K, q, i, a3, aj, X, E, a4, u, x⟩ ⟨a, i0, i1, i2, eh, f7, dz⟩
   unfold tourlaw3_ColumnPlays_j1 at a
   refine st_seq ?_
   refine st_region (oFs 0 3) (by rfl) ?_
   refine oq [oF 0] [(71, vP j 0), (3, vP j 0), (4, vP g 0)] ?_
   obtain ⟨au, av, d4, hn, a⟩ := obind3 a
   refine oV (some 72) 8 [0, 1, 2, 3, 7, 4, 5, 6] 12 [0, 1, 2, 3, 4, 5, 6, 7, 9, 10, 11, 8] (fun _ y => column_Map_int_string_ok y i0 i1 i2 hn) ?_
   rintro ⟨J, a9, bc, f9, ba, bd, ga, bb, eb, ea, ca, cb, bf, be⟩ ⟨i3, i4, i5, i6, i7, i8⟩
   refine oq [oF 2] [(8, vP J 0), (3, vP j 0), (4, vP g 0)] ?_
   refine ops_nil (fin_then (st_seq (st_seq ?_)))
   refine st_region_draw [oT 0, oT 1, oT 2, oT 3, oT 5, oT 6, oT 7, oT 8, oF 4, oF 9, oT 10, oT 11] (Mem w0 (.blk j [sl ac M ah, sl ad O ai, .map (some s)] 44 :: ow ac M ah 3 1 ca :: ow ad O ai 3 1 cb :: .obj s (.map bf be) :: .blk g [sl K i q, sl aj E X] 28 :: ow K i q 3 1 a3 :: ow aj E X 3 1 a4 :: Fz u x :: cs)) (by kernel_rfl) (by kernel_rfl) (by kernel_rfl) (fun _ d _ _ _ h => by cases d <;> exact h) (M' := Mem w0 (.blk J [sl a9 au bc, sl ba av bd, .map (some bb)] 62 :: ow a9 au bc 9 1 f9 :: ow ba av bd 3 1 ga :: .obj bb (.map eb ea) :: .blk j [sl ac M ah, sl ad O ai, .map (some s)] 44 :: ow ac M ah 3 1 ca :: ow ad O ai 3 1 cb :: .obj s (.map bf be) :: .blk g [sl K i q, sl aj E X] 28 :: ow K i q 3 1 a3 :: ow aj E X 3 1 a4 :: Fz u x :: cs)) (fun w_ y => ⟨y.drew, y.drew.sub (.cons _ (.cons _ (.cons _ (.cons _ (.cons_cons _ (.cons_cons _ (.cons_cons _ (.cons_cons _ (.cons_cons _ (.cons_cons _ (.cons_cons _ (.cons_cons _ (.refl _)))))))))))))⟩) ?_
   refine oq [oT 0, oT 1, oT 2, oT 3, oT 5, oT 6, oT 7] [(80, vP g 0), (76, vP J 0), (75, .bool false), (8, vP J 0), (3, vP j 0), (4, vP g 0)] ?_
   refine oL 81 4 0 ?_
   obtain ⟨c1, ho, a⟩ := obind a
   refine ops_callI (σ := (Option Addr) × Nat × (List Value) × (List Value) × (List Value) × (Array MapEntry) × Nat) (d := some 77) (f := 16) (args := #[vP J 0]) (v := (fun o => match o with | (bk, bl, cc, bv, bw, a6, a5) => sl bk c1 bl)) (I := (fun o => match o with | (bk, bl, cc, bv, bw, a6, a5) => (RepL (Rep.int .i64) u x c1 cc) ∧ (RepL Rep.str u x au bv) ∧ (RepL (Rep.int .i64) u x av bw) ∧ (MapOK (fun o : Int => Value.int .i64 o) (Rep.int .i64) false u x d4 a6 a5))) (M' := (fun o => match o with | (bk, bl, cc, bv, bw, a6, a5) => Mem w0 (ow bk c1 bl 3 1 cc :: .blk J [sl a9 au bc, sl ba av bd, .map (some bb)] 62 :: ow a9 au bc 9 1 bv :: ow ba av bd 3 1 bw :: .obj bb (.map a6 a5) :: .blk j [sl ac M ah, sl ad O ai, .map (some s)] 44 :: ow ac M ah 3 1 ca :: ow ad O ai 3 1 cb :: .obj s (.map bf be) :: .blk g [sl K i q, sl aj E X] 28 :: ow K i q 3 1 a3 :: ow aj E X 3 1 a4 :: Fz u x :: cs))) ⟨by kernel_rfl⟩ (fun w_ y hS => (@column_Store_string_Rows_ok w0 w_ (.blk j [sl ac M ah, sl ad O ai, .map (some s)] 44 :: ow ac M ah 3 1 ca :: ow ad O ai 3 1 cb :: .obj s (.map bf be) :: .blk g [sl K i q, sl aj E X] 28 :: ow K i q 3 1 a3 :: ow aj E X 3 1 a4 :: cs) u x J a9 bc au f9 ba bd av ga bb eb ea d4 (y.pick 12 [0, 1, 2, 3, 11, 4, 5, 6, 7, 8, 9, 10] (by kernel_rfl) (by decide) rfl) i3 i4 i5 c1 ho).mono (by rintro e w' ⟨⟨bk, bl, cc, bv, bw, a6, a5⟩, ⟨ei, ej, ek, el⟩, rfl, h'⟩; have h' : Mem w0 (ow bk c1 bl 3 1 cc :: .blk J [sl a9 au bc, sl ba av bd, .map (some bb)] 62 :: ow a9 au bc 9 1 bv :: ow ba av bd 3 1 bw :: .obj bb (.map a6 a5) :: .blk j [sl ac M ah, sl ad O ai, .map (some s)] 44 :: ow ac M ah 3 1 ca :: ow ad O ai 3 1 cb :: .obj s (.map bf be) :: .blk g [sl K i q, sl aj E X] 28 :: ow K i q 3 1 a3 :: ow aj E X 3 1 a4 :: Fz u x :: cs) w' := (h'.pick 13 [0, 1, 2, 3, 4, 6, 7, 8, 9, 10, 11, 12, 5] (by kernel_rfl) (by decide) rfl); exact ⟨(bk, bl, cc, bv, bw, a6, a5), ⟨ei, ej, ek, el⟩, rfl, h', (by exact h'.sub (.cons _ (.cons _ (.cons _ (.cons _ (.cons _ (.cons_cons _ (.cons_cons _ (.cons_cons _ (.cons_cons _ (.cons_cons _ (.cons_cons _ (.cons_cons _ (.cons_cons _ (.refl _)))))))))))))))⟩)) ?_
   rintro ⟨bk, bl, cc, bv, bw, a6, a5⟩ ⟨ei, ej, ek, el⟩
   obtain ⟨et, hq, a⟩ := obind a
   refine ops_callI (σ := Unit) (d := some 82) (f := 15) (args := #[sl bk c1 bl, sl K i q]) (v := (fun _ => .bool et)) (I := (fun _ => True)) (M' := (fun _ => Mem w0 (ow bk c1 bl 3 1 cc :: .blk J [sl a9 au bc, sl ba av bd, .map (some bb)] 62 :: ow a9 au bc 9 1 bv :: ow ba av bd 3 1 bw :: .obj bb (.map a6 a5) :: .blk j [sl ac M ah, sl ad O ai, .map (some s)] 44 :: ow ac M ah 3 1 ca :: ow ad O ai 3 1 cb :: .obj s (.map bf be) :: .blk g [sl K i q, sl aj E X] 28 :: ow K i q 3 1 a3 :: ow aj E X 3 1 a4 :: Fz u x :: cs))) ⟨by kernel_rfl⟩ (fun w_ y hS => (@slices_Equal_int_int_ok w_ w_ [] (fun b => b < w_.heap.size) w_ bk bl c1 K q i (Mem.fz0 w_) (y.ordS 0 12 rfl rfl ei rfl rfl) (y.ordS 10 12 rfl rfl eh rfl rfl) et hq).mono (by rintro e w' ⟨_, -, rfl, h'⟩; have h' : Mem w_ [] w' := h'.pick 1 [] (by kernel_rfl) (by decide) rfl; exact ⟨(), trivial, rfl, y.join h' rfl, (hS.step h'.below)⟩)) ?_
   rintro _ -
   refine oq [oT 10, oT 11] [(84, .bool (!et)), (8, vP J 0), (3, vP j 0), (4, vP g 0)] ?_
   refine ops_nil (fin_then ?_)
   refine sif a (fun hm a => ?_) (fun hm a => ?_)
   ·
    refine st_seq (st_region [oF 0] (by rfl) ?_)
    refine oq [oF 0] [(2, .bool false)] ?_
    refine ops_nil (fin_then (st_ret (fin_ret_then ?_)))
    obtain rfl := Option.some.inj a
    exact fr [2] (u, x) dz 13 [12]
   ·
    refine st_skip (fin_then ?_)
    refine st_join1 (σ := Unit) (L := fun _ => [(3, vP j 0), (4, vP g 0)]) (N := fun _ => Mem w0 (.blk j [sl ac M ah, sl ad O ai, .map (some s)] 44 :: ow ac M ah 3 1 ca :: ow ad O ai 3 1 cb :: .obj s (.map bf be) :: .blk g [sl K i q, sl aj E X] 28 :: ow K i q 3 1 a3 :: ow aj E X 3 1 a4 :: Fz u x :: cs)) (I := fun _ => ((tourlaw3_ColumnPlays_j2 M O c7 i E) = some ao)) ?_ ?_
    ·
     rintro _ a
     unfold tourlaw3_ColumnPlays_j2 at a
     refine st_seq ?_
     refine st_region (oFs 0 4) (by rfl) ?_
     refine oq [oF 0, oF 1] [(121, vP g 0), (120, vP j 0)] ?_
     obtain ⟨jg, hr, a⟩ := obind a
     refine oV (some 122) 0 [] 0 [] (fun _ y => tourlaw3_agrees_ok y i6 i7 i8 eh f7 hr) ?_
     rintro ⟨jv, jw, jn, jm, jx, jy⟩ ⟨jq, jr, js, jt, ju⟩
     refine oq [oF 3] [(2, .bool jg)] ?_
     refine ops_nil (fin_then (st_ret ?_))
     obtain rfl := Option.some.inj a
     exact fr [2] (u, x) dz 8 [7]
    ·
     intro iv
     refine st_seq (st_seq ?_)
     refine st_region (oFs 0 6) (by rfl) ?_
     refine oq (oFs 0 3) [(87, vP g 0), (8, vP J 0), (3, vP j 0), (4, vP g 0)] ?_
     refine oM 88 9 0 ?_
     refine oq [oF 4, oF 5] [(90, vI 0), (89, vI (i.length : Int)), (88, sl K i q), (8, vP J 0), (3, vP j 0), (4, vP g 0)] ?_
     refine ops_nil (fin_then (st_block ?_))
     obtain ⟨r3, jc, en⟩ := obind a
     refine lp (σ := Int) (ρ := (Bool ⊕ Unit)) (γ := (List Value) × (List Value) × (Array MapEntry) × Nat) jc (bv, bw, a6, a5) (fun s_ g_ => match s_, g_ with | t, (di, dc, b9, b8) => [(3, vP j 0), (4, vP g 0), (8, vP J 0), (88, sl K i q), (89, vI (i.length : Int)), (90, vI t)]) (fun s_ g_ => match s_, g_ with | t, (di, dc, b9, b8) => Mem w0 (.blk j [sl ac M ah, sl ad O ai, .map (some s)] 44 :: ow ac M ah 3 1 ca :: ow ad O ai 3 1 cb :: .obj s (.map bf be) :: .blk g [sl K i q, sl aj E X] 28 :: ow K i q 3 1 a3 :: ow aj E X 3 1 a4 :: .blk J [sl a9 au bc, sl ba av bd, .map (some bb)] 62 :: ow a9 au bc 9 1 di :: ow ba av bd 3 1 dc :: .obj bb (.map b9 b8) :: Fz u x :: cs)) (fun s_ g_ => match s_, g_ with | t, (di, dc, b9, b8) => (RepL Rep.str u x au di) ∧ (RepL (Rep.int .i64) u x av dc) ∧ (MapOK (fun o : Int => Value.int .i64 o) (Rep.int .i64) false u x d4 b9 b8)) ⟨ej, ek, el⟩ 13 [5, 6, 7, 8, 9, 10, 11, 1, 2, 3, 4, 12] ?_
     rintro t ⟨di, dc, b9, b8⟩ o3 ⟨i9, gu, gv⟩ hs_ em
     have a : (tourlaw3_ColumnPlays_l3 i au av d4 E) t = some o3 := hs_
     clear hs_
     unfold tourlaw3_ColumnPlays_l3 at a
     refine st_seq (st_region [oF 0] (by rfl) ?_)
     refine oq [oF 0] [(91, .bool (decide (t < (i.length : Int)))), (3, vP j 0), (4, vP g 0), (8, vP J 0), (88, sl K i q), (89, vI (i.length : Int)), (90, vI t)] ?_
     refine ops_nil (fin_then (st_seq ?_))
     refine sif a (fun e5 a => ?_) (fun e5 a => ?_)
     ·
      refine st_skip (fin_then (st_seq (st_block (st_seq ?_))))
      refine st_region (oFs 0 5) (by rfl) ?_
      refine oq [oF 0] [(92, vI t), (3, vP j 0), (4, vP g 0), (8, vP J 0), (88, sl K i q), (89, vI (i.length : Int)), (90, vI t)] ?_
      obtain ⟨V, fq, a⟩ := obind a
      obtain ⟨dq, fk, d0⟩ := idx_some fq
      have dx := (List.getElem?_eq_some_iff.1 d0).1
      refine ops_fact (fun w_ y => y.orowSome 5 rfl (Nat.lt_of_le_of_lt (Nat.zero_le _) dx)) ?_
      rintro ⟨am, rfl, -⟩
      obtain ⟨jj, hr113, fn⟩ := eh.at_ dq V d0
      obtain rfl := hr113
      refine ops_val (op := (.indexAddr 22 (.tmp 88) (.tmp 90))) (d := some 93) (v := vP am (dq * 1)) ⟨by kernel_rfl⟩ (run_indexRow Try.underlying22 (z := 1) (by kernel_rfl) rfl rfl fk dx rfl) ?_
      refine ops_mem (d := some 94) (an := [.v (vI V)]) (evs := [.load ⟨am, dq * 1, none⟩ (vI V)]) (v := vI V) ⟨by kernel_rfl⟩ (fun w_ y hS => ⟨w_, ⟨y.ocell 5 rfl (fn 0 _ rfl), rfl⟩, y, trivial⟩) ?_
      refine oq [oF 3, oF 4] [(10, vI V), (9, vI t), (3, vP j 0), (4, vP g 0), (8, vP J 0), (88, sl (sa am) i q), (89, vI (i.length : Int)), (90, vI t)] ?_
      refine ops_nil (fin_then (st_seq ?_))
      refine st_region (oFs 0 8) (by rfl) ?_
      refine oq [oF 0, oF 1] [(97, vI V), (96, vP J 0), (10, vI V), (9, vI t), (3, vP j 0), (4, vP g 0), (8, vP J 0), (88, sl (sa am) i q), (89, vI (i.length : Int)), (90, vI t)] ?_
      obtain ⟨cr, eq, fs, a⟩ := obind2 a
      refine oV (some 98) 12 [7, 8, 9, 10, 11, 0, 1, 2, 3, 4, 5, 6] 12 [5, 6, 7, 8, 9, 10, 11, 0, 1, 2, 3, 4] (fun _ y => column_Store_string_Get_ok y i9 gu gv fs) ?_
      rintro ⟨eu, ev, du, dt⟩ ⟨gw, gx, gy⟩
      refine oq (oFs 3 5) [(12, .bool eq), (11, .string cr), (10, vI V), (9, vI t), (3, vP j 0), (4, vP g 0), (8, vP J 0), (88, sl (sa am) i q), (89, vI (i.length : Int)), (90, vI t)] ?_
      refine ops_nil (fin_then (st_seq ?_))
      refine st_region (oFs 0 18) (by rfl) ?_
      refine oq (oFs 0 3) [(103, .bool (!eq)), (11, .string cr), (10, vI V), (9, vI t), (3, vP j 0), (4, vP g 0), (8, vP J 0), (88, sl (sa am) i q), (89, vI (i.length : Int)), (90, vI t)] ?_
      refine ob a [103] (fun e6 a => ?_) (fun e6 a => ?_)
      ·
       refine oq (oFs 3 15) [(118, .bool true), (3, vP j 0), (4, vP g 0), (8, vP J 0), (88, sl (sa am) i q), (89, vI (i.length : Int)), (90, vI t)] ?_
       refine ops_nil (fin_then (st_true rfl (st_seq (st_region [oF 0] (by rfl) ?_))))
       refine oq [oF 0] [(2, .bool false)] ?_
       refine ops_nil (fin_then (st_ret (fin_ret_block (fin_ret_then (fin_ret_then (fin_ret_block (fin_ret_then ?_)))))))
       obtain rfl := Option.some.inj a
       obtain rfl := em _ rfl
       have a : some false = some ao := en
       obtain rfl := Option.some.inj a
       exact fr [2] (u, x) dz 12 [11]
      ·
       refine oq (oFs 3 6) [(109, vP g 1), (106, .int .u8 (IntKind.u8.wrap V)), (104, .string cr), (103, .bool false), (9, vI t), (3, vP j 0), (4, vP g 0), (8, vP J 0), (88, sl (sa am) i q), (89, vI (i.length : Int)), (90, vI t)] ?_
       refine oM 110 4 1 ?_
       refine oq [oF 10] [(111, vI t), (110, sl aj E X), (106, .int .u8 (IntKind.u8.wrap V)), (104, .string cr), (103, .bool false), (3, vP j 0), (4, vP g 0), (8, vP J 0), (88, sl (sa am) i q), (89, vI (i.length : Int)), (90, vI t)] ?_
       obtain ⟨ar, ft, a⟩ := obind a
       obtain ⟨dr, fl, d1⟩ := idx_some ft
       have dy := (List.getElem?_eq_some_iff.1 d1).1
       refine ops_fact (fun w_ y => y.orowSome 6 rfl (Nat.lt_of_le_of_lt (Nat.zero_le _) dy)) ?_
       rintro ⟨de, rfl, -⟩
       obtain ⟨jk, hr134, fo⟩ := f7.at_ dr ar d1
       obtain rfl := hr134
       refine ops_val (op := (.indexAddr 22 (.tmp 110) (.tmp 111))) (d := some 112) (v := vP de (dr * 1)) ⟨by kernel_rfl⟩ (run_indexRow Try.underlying22 (z := 1) (by kernel_rfl) rfl rfl fl dy rfl) ?_
       refine ops_mem (d := some 113) (an := [.v (vI ar)]) (evs := [.load ⟨de, dr * 1, none⟩ (vI ar)]) (v := vI ar) ⟨by kernel_rfl⟩ (fun w_ y hS => ⟨w_, ⟨y.ocell 6 rfl (fo 0 _ rfl), rfl⟩, y, trivial⟩) ?_
       refine oq [oF 13] [(114, .int .u8 (IntKind.u8.wrap ar)), (106, .int .u8 (IntKind.u8.wrap V)), (104, .string cr), (103, .bool false), (3, vP j 0), (4, vP g 0), (8, vP J 0), (88, sl (sa am) i q), (89, vI (i.length : Int)), (90, vI t)] ?_
       have gz : RepL (Rep.int .u8) u x ([IntKind.u8.wrap V, IntKind.u8.wrap ar] : List Int) ([.int .u8 (IntKind.u8.wrap V), .int .u8 (IntKind.u8.wrap ar)]) := (RepL.cons (R := (Rep.int .u8)) (F := u) (w := x) (vs := [.int .u8 (IntKind.u8.wrap V)]) (ys := [.int .u8 (IntKind.u8.wrap ar)]) rfl (RepL.cons (R := (Rep.int .u8)) (F := u) (w := x) (vs := [.int .u8 (IntKind.u8.wrap ar)]) (ys := []) rfl RepL.nil))
       refine oB 115 [.int .u8 (IntKind.u8.wrap V), .int .u8 (IntKind.u8.wrap ar)] 5 2 1 (fun gt => ?_)
       obtain ⟨ep, fu, a⟩ := obind a
       refine ops_law (op := (.convert 35 9 (.tmp 115))) (d := some 116) (σ := Unit) (v := fun _ => .string ep) (M' := fun _ => Mem w0 (orow (sa gt) ([IntKind.u8.wrap V, IntKind.u8.wrap ar] : List Int).length 2 5 1 ([.int .u8 (IntKind.u8.wrap V), .int .u8 (IntKind.u8.wrap ar)]) :: .blk j [sl ac M ah, sl ad O ai, .map (some s)] 44 :: ow ac M ah 3 1 ca :: ow ad O ai 3 1 cb :: .obj s (.map bf be) :: .blk g [sl (sa am) i q, sl (sa de) E X] 28 :: ow (sa am) i q 3 1 a3 :: ow (sa de) E X 3 1 a4 :: .blk J [sl a9 au bc, sl ba av bd, .map (some bb)] 62 :: ow a9 au bc 9 1 eu :: ow ba av bd 3 1 ev :: .obj bb (.map du dt) :: Fz u x :: cs)) ⟨by kernel_rfl⟩ (fun o_ w_ ho_ y hS => ⟨(), w_, run_convV rfl (by rw [← Option.some.inj fu]; exact conv_str (F := fun b_ => b_ < w_.heap.size) (y.ordS 0 12 rfl rfl gz rfl rfl) Try.underlying35 Try.underlying5 Try.underlying9) o_ ho_, y, trivial⟩) (fun _ => ?_)
       refine oq [oF 16, oF 17] [(118, .bool (!(cr.toList == ep.toList))), (3, vP j 0), (4, vP g 0), (8, vP J 0), (88, sl (sa am) i q), (89, vI (i.length : Int)), (90, vI t)] ?_
       refine ops_nil (fin_then ?_)
       refine sif a (fun e7 a => ?_) (fun e7 a => ?_)
       ·
        refine st_seq (st_region [oF 0] (by rfl) ?_)
        refine oq [oF 0] [(2, .bool false)] ?_
        refine ops_nil (fin_then (st_ret (fin_ret_block (fin_ret_then (fin_ret_then (fin_ret_block (fin_ret_then ?_)))))))
        obtain rfl := Option.some.inj a
        obtain rfl := em _ rfl
        have a : some false = some ao := en
        obtain rfl := Option.some.inj a
        exact fr [2] (u, x) dz 13 [12]
       ·
        refine st_skip (fin_block (fin_then (st_region [oF 0, oF 1] (by rfl) ?_)))
        refine oq [oF 0, oF 1] [(90, vI (IntKind.i64.wrap (t + 1))), (3, vP j 0), (4, vP g 0), (8, vP J 0), (88, sl (sa am) i q), (89, vI (i.length : Int))] ?_
        refine ops_nil ?_
        exact fag (IntKind.i64.wrap (t + 1)) (eu, ev, du, dt) (Option.some.inj a).symm ⟨gw, gx, gy⟩ 13 [1, 2, 3, 4, 5, 6, 7, 8, 9, 10, 11, 12]
     ·
      refine st_exit (fin_exit_then (fin_exit_then (fin_exit ?_)))
      obtain rfl := Option.some.inj a
      obtain rfl := em _ rfl
      have a : (tourlaw3_ColumnPlays_j2 M O c7 i E) = some ao := en
      exact fj iv () a 12 [0, 1, 2, 3, 4, 5, 6, 11]
  ·
   intro iu
   refine st_seq (st_seq ?_)
   refine st_region (oFs 0 3) (by rfl) ?_
   refine oq (oFs 0 3) [(22, vI 0), (21, vI (l.length : Int)), (20, sl p l r), (4, vP g 0), (3, vP j 0)] ?_
   refine ops_nil (fin_then (st_block ?_))
   refine snil 3 1 ?_
   refine snil 3 1 ?_
   obtain ⟨r4, jd, dw⟩ := obind a
   refine lp (σ := (List Int) × (List Int) × (List (Int × Int)) × (List Int) × (List Int) × Int) (ρ := (Bool ⊕ (List Int) × (List Int) × (List (Int × Int)) × (List Int) × (List Int))) (γ := (Option Addr) × Nat × (List Value) × (Option Addr) × Nat × (List Value) × (Array MapEntry) × Nat × (Option Addr) × Nat × (List Value) × (Option Addr) × Nat × (List Value) × (Nat → Prop) × World) jd (A8, c9, jh, A8, c9, ji, gs, gr, none, 0, [], none, 0, [], F, W) (fun s_ g_ => match s_, g_ with | (B, A, a7, C, D, c), (Z, ae, az, T, U, a8, al, ak, aa, af, a0, ab, ag, a1, G, H) => [(3, vP j 0), (4, vP g 0), (20, sl p l r), (21, vI (l.length : Int)), (22, vI c)]) (fun s_ g_ => match s_, g_ with | (B, A, a7, C, D, c), (Z, ae, az, T, U, a8, al, ak, aa, af, a0, ab, ag, a1, G, H) => Mem w0 (.blk j [sl Z B ae, sl T A U, .map (some s)] 44 :: ow Z B ae 3 1 az :: ow T A U 3 1 a8 :: .obj s (.map al ak) :: .blk g [sl aa C af, sl ab D ag] 28 :: ow aa C af 3 1 a0 :: ow ab D ag 3 1 a1 :: Fz G H :: cs)) (fun s_ g_ => match s_, g_ with | (B, A, a7, C, D, c), (Z, ae, az, T, U, a8, al, ak, aa, af, a0, ab, ag, a1, G, H) => (RepL (Rep.int .i64) G H B az) ∧ (RepL (Rep.int .i64) G H A a8) ∧ (MapOK (fun o : Int => Value.int .i64 o) (Rep.int .i64) false G H a7 al ak) ∧ (RepL (Rep.int .i64) G H C a0) ∧ (RepL (Rep.int .i64) G H D a1) ∧ (Ext w0 F W G H)) ⟨ix, iy, iz, (RepL.nil (R := (Rep.int .i64))), (RepL.nil (R := (Rep.int .i64))), (Ext.refl _ _ _)⟩ 8 [3, 4, 5, 6, 2, 1, 0, 7] ?_
   rintro ⟨B, A, a7, C, D, c⟩ ⟨Z, ae, az, T, U, a8, al, ak, aa, af, a0, ab, ag, a1, G, H⟩ o4 ⟨cl, df, cm, cn, co, dd⟩ hs_ dv
   have a : (tourlaw3_ColumnPlays_l4 l) B A a7 C D c = some o4 := hs_
   clear hs_
   unfold tourlaw3_ColumnPlays_l4 at a
   have bm := bm.ext dd
   refine st_seq (st_region [oF 0] (by rfl) ?_)
   refine oq [oF 0] [(23, .bool (decide (c < (l.length : Int)))), (3, vP j 0), (4, vP g 0), (20, sl p l r), (21, vI (l.length : Int)), (22, vI c)] ?_
   refine ops_nil (fin_then (st_seq ?_))
   refine sif a (fun e8 a => ?_) (fun e8 a => ?_)
   ·
    refine st_skip (fin_then ?_)
    refine st_join1 (σ := (Option Addr) × Nat × (List Int) × (List Value) × (Option Addr) × Nat × (List Int) × (List Value) × (Array MapEntry) × Nat × (List (Int × Int)) × (Option Addr) × Nat × (List Int) × (List Value) × (Option Addr) × Nat × (List Int) × (List Value) × (Nat → Prop) × World) (L := fun o => match o with | (cd, ch, bn, ct, ce, ci, bo, cu, bt, br, cq, cf, cj, bp, cv, cg, ck, bq, cw, aw, ax) => [(3, vP j 0), (4, vP g 0), (20, sl p l r), (21, vI (l.length : Int)), (22, vI c)]) (N := fun o => match o with | (cd, ch, bn, ct, ce, ci, bo, cu, bt, br, cq, cf, cj, bp, cv, cg, ck, bq, cw, aw, ax) => Mem w0 (.blk j [sl cd bn ch, sl ce bo ci, .map (some s)] 44 :: ow cd bn ch 3 1 ct :: ow ce bo ci 3 1 cu :: .obj s (.map bt br) :: .blk g [sl cf bp cj, sl cg bq ck] 28 :: ow cf bp cj 3 1 cv :: ow cg bq ck 3 1 cw :: Fz aw ax :: cs)) (I := fun o => match o with | (cd, ch, bn, ct, ce, ci, bo, cu, bt, br, cq, cf, cj, bp, cv, cg, ck, bq, cw, aw, ax) => ((tourlaw3_ColumnPlays_j5 c) bn bo cq bp bq = some o4) ∧ (RepL (Rep.int .i64) aw ax bn ct) ∧ (RepL (Rep.int .i64) aw ax bo cu) ∧ (MapOK (fun o : Int => Value.int .i64 o) (Rep.int .i64) false aw ax cq bt br) ∧ (RepL (Rep.int .i64) aw ax bp cv) ∧ (RepL (Rep.int .i64) aw ax bq cw) ∧ (Ext w0 G H aw ax)) ?_ ?_
    ·
     rintro ⟨cd, ch, bn, ct, ce, ci, bo, cu, bt, br, cq, cf, cj, bp, cv, cg, ck, bq, cw, aw, ax⟩ ⟨a, g0, g1, g2, g3, g4, f8⟩
     have bm := bm.ext f8
     unfold tourlaw3_ColumnPlays_j5 at a
     refine st_region [oF 0, oF 1] (by rfl) ?_
     refine oq [oF 0, oF 1] [(22, vI (IntKind.i64.wrap (c + 1))), (3, vP j 0), (4, vP g 0), (20, sl p l r), (21, vI (l.length : Int))] ?_
     refine ops_nil ?_
     exact fag (bn, bo, cq, bp, bq, IntKind.i64.wrap (c + 1)) (cd, ch, ct, ce, ci, cu, bt, br, cf, cj, cv, cg, ck, cw, aw, ax) (Option.some.inj a).symm ⟨g0, g1, g2, g3, g4, (dd.trans f8)⟩ 0 []
    ·
     intro f3
     refine st_seq (st_block (st_seq ?_))
     refine st_region (oFs 0 5) (by rfl) ?_
     refine oq [oF 0] [(24, vI c), (3, vP j 0), (4, vP g 0), (20, sl p l r), (21, vI (l.length : Int)), (22, vI c)] ?_
     obtain ⟨k, fv, a⟩ := obind a
     obtain ⟨eo, fm, d2⟩ := idx_some fv
     have fi := (List.getElem?_eq_some_iff.1 d2).1
     obtain ⟨ds, jl, e4, hr209, fp⟩ := RdS.el bm d2
     obtain rfl := hr209
     refine ops_val (op := (.indexAddr 22 (.tmp 20) (.tmp 22))) (d := some 25) (v := .pointer (some (ds.add (eo * 1)))) ⟨by kernel_rfl⟩ (run_indexA e4 Try.underlying22 (z := 1) (by kernel_rfl) rfl rfl fm fi) ?_
     refine ops_mem (d := some 26) (an := [.v (vI k)]) (evs := [.load (ds.add (eo * 1)) (vI k)]) (v := vI k) ⟨by kernel_rfl⟩ (fun w_ y hS => ⟨w_, ⟨y.elcell 7 rfl fp 0 rfl, rfl⟩, y, trivial⟩) ?_
     refine oq [oF 3, oF 4] [(6, vI k), (5, vI c), (3, vP j 0), (4, vP g 0), (20, sl p l r), (21, vI (l.length : Int)), (22, vI c)] ?_
     refine ops_nil (fin_then (st_seq ?_))
     refine st_region (oFs 0 3) (by rfl) ?_
     refine oq (oFs 0 3) [(7, vI (Int.tmod k 7)), (6, vI k), (5, vI c), (3, vP j 0), (4, vP g 0), (20, sl p l r), (21, vI (l.length : Int)), (22, vI c)] ?_
     refine ops_nil (fin_then ?_)
     refine st_join1 (σ := Int) (L := fun o => match o with | m => [(3, vP j 0), (4, vP g 0), (5, vI c), (6, vI k), (7, vI m), (20, sl p l r), (21, vI (l.length : Int)), (22, vI c)]) (N := fun o => match o with | m => Mem w0 (.blk j [sl Z B ae, sl T A U, .map (some s)] 44 :: ow Z B ae 3 1 az :: ow T A U 3 1 a8 :: .obj s (.map al ak) :: .blk g [sl aa C af, sl ab D ag] 28 :: ow aa C af 3 1 a0 :: ow ab D ag 3 1 a1 :: Fz G H :: cs)) (I := fun o => match o with | m => ((tourlaw3_ColumnPlays_j6 k B A a7 C D c) m = some o4)) ?_ ?_
     ·
      rintro m a
      unfold tourlaw3_ColumnPlays_j6 at a
      refine st_join1 (σ := (Option Addr) × Nat × (List Int) × (List Value) × (Option Addr) × Nat × (List Int) × (List Value) × (Array MapEntry) × Nat × (List (Int × Int)) × (Option Addr) × Nat × (List Int) × (List Value) × (Option Addr) × Nat × (List Int) × (List Value) × (Nat → Prop) × World) (L := fun o => match o with | (bx, b2, bg, cx, bz, b3, bh, cy, bu, bs, b6, b0, b4, bi, cz, b1, b5, bj, c0, ap, aq) => [(3, vP j 0), (4, vP g 0), (5, vI c), (7, vI m), (20, sl p l r), (21, vI (l.length : Int)), (22, vI c)]) (N := fun o => match o with | (bx, b2, bg, cx, bz, b3, bh, cy, bu, bs, b6, b0, b4, bi, cz, b1, b5, bj, c0, ap, aq) => Mem w0 (.blk j [sl bx bg b2, sl bz bh b3, .map (some s)] 44 :: ow bx bg b2 3 1 cx :: ow bz bh b3 3 1 cy :: .obj s (.map bu bs) :: .blk g [sl b0 bi b4, sl b1 bj b5] 28 :: ow b0 bi b4 3 1 cz :: ow b1 bj b5 3 1 c0 :: Fz ap aq :: cs)) (I := fun o => match o with | (bx, b2, bg, cx, bz, b3, bh, cy, bu, bs, b6, b0, b4, bi, cz, b1, b5, bj, c0, ap, aq) => ((tourlaw3_ColumnPlays_j7 c m) bg bh b6 bi bj = some o4) ∧ (RepL (Rep.int .i64) ap aq bg cx) ∧ (RepL (Rep.int .i64) ap aq bh cy) ∧ (MapOK (fun o : Int => Value.int .i64 o) (Rep.int .i64) false ap aq b6 bu bs) ∧ (RepL (Rep.int .i64) ap aq bi cz) ∧ (RepL (Rep.int .i64) ap aq bj c0) ∧ (Ext w0 G H ap aq)) ?_ ?_
      ·
       rintro ⟨bx, b2, bg, cx, bz, b3, bh, cy, bu, bs, b6, b0, b4, bi, cz, b1, b5, bj, c0, ap, aq⟩ ⟨a, ec, ed, ee, ef, eg, d3⟩
       have bm := bm.ext d3
       unfold tourlaw3_ColumnPlays_j7 at a
       refine st_seq ?_
       refine st_region (oFs 0 10) (by rfl) ?_
       refine oq (oFs 0 4) [(63, .bool (Int.tmod c 3 == 0)), (3, vP j 0), (4, vP g 0), (7, vI m), (20, sl p l r), (21, vI (l.length : Int)), (22, vI c)] ?_
       refine ob a [63] (fun e9 a => ?_) (fun e9 a => ?_)
       ·
        refine oq (oFs 4 3) [(66, vI m), (65, vP g 0), (64, vP j 0), (63, .bool true), (3, vP j 0), (4, vP g 0), (20, sl p l r), (21, vI (l.length : Int)), (22, vI c)] ?_
        obtain ⟨hs, fw, a⟩ := obind a
        refine oV (some 67) 0 [] 0 [] (fun _ y => tourlaw3_agrees_ok y ec ed ee ef eg fw) ?_
        rintro ⟨ia, ib, e0, ew, ic, id⟩ ⟨g5, g6, g7, g8, g9⟩
        refine oq [oF 8, oF 9] [(69, .bool (!hs)), (3, vP j 0), (4, vP g 0), (20, sl p l r), (21, vI (l.length : Int)), (22, vI c)] ?_
        refine ops_nil (fin_then ?_)
        refine sif a (fun fa a => ?_) (fun fa a => ?_)
        ·
         refine st_seq (st_region [oF 0] (by rfl) ?_)
         refine oq [oF 0] [(2, .bool false)] ?_
         refine ops_nil (fin_then (st_ret (fin_ret_block (fin_ret_then (fin_ret_then (fin_ret_block (fin_ret_then ?_)))))))
         obtain rfl := Option.some.inj a
         obtain rfl := dv _ rfl
         have a : some false = some ao := dw
         obtain rfl := Option.some.inj a
         exact fr [2] (ap, aq) (dd.trans d3) 8 [7]
        ·
         refine st_skip (fin_block ?_)
         exact fj f3 (bx, b2, bg, ia, bz, b3, bh, ib, e0, ew, b6, b0, b4, bi, ic, b1, b5, bj, id, ap, aq) ⟨a, g5, g6, g7, g8, g9, d3⟩ 0 []
       ·
        refine oq (oFs 4 6) [(69, .bool false), (3, vP j 0), (4, vP g 0), (20, sl p l r), (21, vI (l.length : Int)), (22, vI c)] ?_
        refine ops_nil (fin_then (st_false rfl (st_skip (fin_block ?_))))
        exact fj f3 (bx, b2, bg, cx, bz, b3, bh, cy, bu, bs, b6, b0, b4, bi, cz, b1, b5, bj, c0, ap, aq) ⟨a, ec, ed, ee, ef, eg, d3⟩ 0 []
      ·
       intro d8
       refine st_seq (st_seq (st_region [oF 0, oF 1] (by rfl) ?_))
       refine oq [oF 0, oF 1] [(33, vI (Int.tmod k 5)), (3, vP j 0), (4, vP g 0), (5, vI c), (6, vI k), (7, vI m), (20, sl p l r), (21, vI (l.length : Int)), (22, vI c)] ?_
       refine ops_nil (fin_then (st_block ?_))
       refine st_join1 (σ := Bool) (L := fun o => match o with | da => [(3, vP j 0), (4, vP g 0), (5, vI c), (6, vI k), (7, vI m), (20, sl p l r), (21, vI (l.length : Int)), (22, vI c), (33, vI (Int.tmod k 5)), (38, .bool da)]) (N := fun o => match o with | da => Mem w0 (.blk j [sl Z B ae, sl T A U, .map (some s)] 44 :: ow Z B ae 3 1 az :: ow T A U 3 1 a8 :: .obj s (.map al ak) :: .blk g [sl aa C af, sl ab D ag] 28 :: ow aa C af 3 1 a0 :: ow ab D ag 3 1 a1 :: Fz G H :: cs)) (I := fun o => match o with | da => ((tourlaw3_ColumnPlays_j8 B A a7 m k C D c) da = some o4)) ?_ ?_
       ·
        rintro da a
        unfold tourlaw3_ColumnPlays_j8 at a
        refine sif a (fun fb a => ?_) (fun fb a => ?_)
        ·
         refine st_seq ?_
         refine st_region (oFs 0 9) (by rfl) ?_
         refine oq (oFs 0 3) [(43, vI k), (42, vI m), (41, vP j 0), (3, vP j 0), (4, vP g 0), (5, vI c), (6, vI k), (7, vI m), (20, sl p l r), (21, vI (l.length : Int)), (22, vI c)] ?_
         obtain ⟨er, ht, hu, hv, fx, a⟩ := obind4 a
         refine oV (some 44) 8 [0, 1, 2, 3, 7, 4, 5, 6] 8 [1, 2, 0, 3, 5, 6, 7, 4] (fun _ y => column_Store_int_Put_ok y cl df cm fx) ?_
         rintro ⟨gb, gj, ie, gc, gk, ig, e1, ex⟩ ⟨ha, hb, hc⟩
         refine oq (oFs 4 3) [(47, vI k), (46, vI m), (45, vP g 0), (44, vI er), (3, vP j 0), (4, vP g 0), (5, vI c), (7, vI m), (20, sl p l r), (21, vI (l.length : Int)), (22, vI c)] ?_
         obtain ⟨hw, hx, hy, fy, a⟩ := obind3 a
         refine oV (some 48) 8 [4, 5, 6, 7, 0, 1, 2, 3] 8 [1, 2, 4, 5, 6, 7, 0, 3] (fun _ y => tourref3_Model_Put_ok y cn co fy) ?_
         rintro ⟨gd, gl, ih, ge, gm, ii⟩ ⟨hd, he⟩
         refine oq [oF 8] [(49, .bool (!(er == hw))), (3, vP j 0), (4, vP g 0), (5, vI c), (7, vI m), (20, sl p l r), (21, vI (l.length : Int)), (22, vI c)] ?_
         refine ops_nil (fin_then ?_)
         refine sif a (fun fc a => ?_) (fun fc a => ?_)
         ·
          refine st_seq (st_region [oF 0] (by rfl) ?_)
          refine oq [oF 0] [(2, .bool false)] ?_
          refine ops_nil (fin_then (st_ret (fin_ret_block (fin_ret_then (fin_ret_block (fin_ret_then (fin_ret_then (fin_ret_block (fin_ret_then ?_)))))))))
          obtain rfl := Option.some.inj a
          obtain rfl := dv _ rfl
          have a : some false = some ao := dw
          obtain rfl := Option.some.inj a
          exact fr [2] (G, H) dd 8 [7]
         ·
          refine st_skip (fin_block ?_)
          exact fj d8 (gb, gj, ht, ie, gc, gk, hu, ig, e1, ex, hv, gd, gl, hx, ih, ge, gm, hy, ii, G, H) ⟨a, ha, hb, hc, hd, he, (Ext.refl _ _ _)⟩ 8 [4, 2, 3, 5, 6, 0, 1, 7]
        ·
         refine st_join1 (σ := Bool) (L := fun o => match o with | db => [(3, vP j 0), (4, vP g 0), (5, vI c), (7, vI m), (20, sl p l r), (21, vI (l.length : Int)), (22, vI c), (50, .bool db)]) (N := fun o => match o with | db => Mem w0 (.blk j [sl Z B ae, sl T A U, .map (some s)] 44 :: ow Z B ae 3 1 az :: ow T A U 3 1 a8 :: .obj s (.map al ak) :: .blk g [sl aa C af, sl ab D ag] 28 :: ow aa C af 3 1 a0 :: ow ab D ag 3 1 a1 :: Fz G H :: cs)) (I := fun o => match o with | db => ((tourlaw3_ColumnPlays_j9 B A a7 m C D c) db = some o4)) ?_ ?_
         ·
          rintro db a
          unfold tourlaw3_ColumnPlays_j9 at a
          refine sif a (fun fd a => ?_) (fun fd a => ?_)
          ·
           refine st_seq ?_
           refine st_region (oFs 0 7) (by rfl) ?_
           refine oq [oF 0, oF 1] [(54, vI m), (53, vP j 0), (3, vP j 0), (4, vP g 0), (5, vI c), (7, vI m), (20, sl p l r), (21, vI (l.length : Int)), (22, vI c)] ?_
           obtain ⟨es, hz, h0, h1, fz, a⟩ := obind4 a
           refine oV (some 55) 8 [0, 1, 2, 3, 7, 4, 5, 6] 8 [0, 1, 2, 3, 5, 6, 7, 4] (fun _ y => column_Store_int_Drop_ok y cl df cm fz) ?_
           rintro ⟨ij, ik, e2, ey⟩ ⟨dl, dm, dn⟩
           refine oq [oF 3, oF 4] [(57, vI m), (56, vP g 0), (55, vI es), (3, vP j 0), (4, vP g 0), (5, vI c), (7, vI m), (20, sl p l r), (21, vI (l.length : Int)), (22, vI c)] ?_
           obtain ⟨h2, h3, h4, f0, a⟩ := obind3 a
           refine oV (some 58) 8 [4, 5, 6, 7, 0, 1, 2, 3] 8 [1, 2, 4, 5, 6, 7, 0, 3] (fun _ y => tourref3_Model_Drop_ok y cn co f0) ?_
           rintro ⟨gf, gn, il, gg, go, im, d7, d9⟩ ⟨hf, hg, cp⟩
           have bm := bm.ext cp
           have dl := dl.ext cp
           have dm := dm.ext cp
           have dn := dn.ext cp
           refine oq [oF 6] [(59, .bool (!(es == h2))), (3, vP j 0), (4, vP g 0), (5, vI c), (7, vI m), (20, sl p l r), (21, vI (l.length : Int)), (22, vI c)] ?_
           refine ops_nil (fin_then ?_)
           refine sif a (fun fe a => ?_) (fun fe a => ?_)
           ·
            refine st_seq (st_region [oF 0] (by rfl) ?_)
            refine oq [oF 0] [(2, .bool false)] ?_
            refine ops_nil (fin_then (st_ret (fin_ret_block (fin_ret_then (fin_ret_block (fin_ret_then (fin_ret_then (fin_ret_block (fin_ret_then ?_)))))))))
            obtain rfl := Option.some.inj a
            obtain rfl := dv _ rfl
            have a : some false = some ao := dw
            obtain rfl := Option.some.inj a
            exact fr [2] (d7, d9) (dd.trans cp) 8 [7]
           ·
            refine st_skip (fin_block ?_)
            exact fj d8 (Z, ae, hz, ij, T, U, h0, ik, e2, ey, h1, gf, gn, h3, il, gg, go, h4, im, d7, d9) ⟨a, dl, dm, dn, hf, hg, cp⟩ 8 [2, 3, 4, 5, 6, 0, 1, 7]
          ·
           refine st_seq (st_region [oF 0, oF 1] (by rfl) ?_)
           refine oq [oF 0] [(34, vP j 0), (3, vP j 0), (4, vP g 0), (5, vI c), (7, vI m), (20, sl p l r), (21, vI (l.length : Int)), (22, vI c)] ?_
           refine ops_ex (σ := (Nat → Prop) × World) (I := fun o => Ext w0 G H o.1 o.2 ∧ RdS (Rep.int .i64) o.1 o.2 T U A) (M' := fun o => Mem w0 (.blk j [sl Z B ae, sl T A U, .map (some s)] 44 :: ow Z B ae 3 1 az :: .obj s (.map al ak) :: .blk g [sl aa C af, sl ab D ag] 28 :: ow aa C af 3 1 a0 :: ow ab D ag 3 1 a1 :: Fz o.1 o.2 :: cs)) (fun w_ y => ?_) ?_
           · obtain ⟨F_, h1_, h2_, h3_⟩ := (y.pick 8 [2, 7, 0, 1, 3, 4, 5, 6] (by kernel_rfl) (by decide) rfl : Mem w0 (ow T A U 3 1 a8 :: Fz G H :: .blk j [sl Z B ae, sl T A U, .map (some s)] 44 :: ow Z B ae 3 1 az :: .obj s (.map al ak) :: .blk g [sl aa C af, sl ab D ag] 28 :: ow aa C af 3 1 a0 :: ow ab D ag 3 1 a1 :: cs) w_).freeze (z := 1) df rfl rfl
             exact ⟨(F_, w_), ⟨h1_, h2_⟩, h3_.pick 7 [1, 2, 3, 4, 5, 6, 0] (by kernel_rfl) (by decide) rfl⟩
           rintro ⟨dj, dk⟩ ⟨a2, dp⟩
           have a2 : Ext w0 G H dj dk := a2
           have dp : RdS (Rep.int .i64) dj dk T U A := dp
           have bm := bm.ext a2
           have cl := cl.ext a2
           have cm := cm.ext a2
           have cn := cn.ext a2
           have co := co.ext a2
           obtain ⟨h5, h6, h7, f1, a⟩ := obind3 a
           refine oV (some 35) 7 [0, 1, 2, 6, 3, 4, 5] 8 [1, 2, 0, 3, 5, 6, 7, 4] (fun _ y => column_Store_int_Sort_ok y cl dp cm f1) ?_
           rintro ⟨gh, gp, io, gi, gq, ip, e3, ez⟩ ⟨hh, hi, hj⟩
           refine ops_nil (fin_then (st_region [oF 0, oF 1] (by rfl) ?_))
           refine oq [oF 0] [(36, vP g 0), (3, vP j 0), (4, vP g 0), (5, vI c), (7, vI m), (20, sl p l r), (21, vI (l.length : Int)), (22, vI c)] ?_
           obtain ⟨h8, h9, f2, a⟩ := obind2 a
           refine oV (some 37) 8 [4, 5, 6, 7, 0, 1, 2, 3] 8 [4, 5, 6, 7, 0, 1, 2, 3] (fun _ y => tourref3_Model_Sort_ok y cn co f2) ?_
           rintro ⟨iq, ir⟩ ⟨hk, hl⟩
           refine ops_nil (fin_block ?_)
           exact fj d8 (gh, gp, h5, io, gi, gq, h6, ip, e3, ez, h7, aa, af, h8, iq, ab, ag, h9, ir, dj, dk) ⟨a, hh, hi, hj, hk, hl, a2⟩ 8 [2, 0, 1, 3, 4, 5, 6, 7]
         ·
          intro f6
          refine st_seq (st_seq (st_region [oF 0, oF 1] (by rfl) ?_))
          refine oq [oF 0, oF 1] [(50, .bool (Int.tmod k 5 == 2)), (3, vP j 0), (4, vP g 0), (5, vI c), (7, vI m), (20, sl p l r), (21, vI (l.length : Int)), (22, vI c), (33, vI (Int.tmod k 5))] ?_
          refine ops_nil (fin_then ?_)
          refine sif a (fun ff a => ?_) (fun ff a => ?_)
          ·
           refine st_skip ?_
           exact fj f6 (Int.tmod k 5 == 2) a 0 []
          ·
           refine st_region [oF 0, oF 1] (by rfl) ?_
           refine oq [oF 0, oF 1] [(50, .bool (Int.tmod k 5 == 3)), (3, vP j 0), (4, vP g 0), (5, vI c), (7, vI m), (20, sl p l r), (21, vI (l.length : Int)), (22, vI c)] ?_
           refine ops_nil ?_
           exact fj f6 (Int.tmod k 5 == 3) a 0 []
       ·
        intro f5
        refine st_seq (st_seq (st_region [oF 0, oF 1] (by rfl) ?_))
        refine oq [oF 0, oF 1] [(38, .bool (Int.tmod k 5 == 0)), (33, vI (Int.tmod k 5)), (3, vP j 0), (4, vP g 0), (5, vI c), (6, vI k), (7, vI m), (20, sl p l r), (21, vI (l.length : Int)), (22, vI c)] ?_
        refine ops_nil (fin_then ?_)
        refine sif a (fun fg a => ?_) (fun fg a => ?_)
        ·
         refine st_skip ?_
         exact fj f5 (Int.tmod k 5 == 0) a 0 []
        ·
         refine st_region [oF 0, oF 1] (by rfl) ?_
         refine oq [oF 0, oF 1] [(38, .bool (Int.tmod k 5 == 1)), (33, vI (Int.tmod k 5)), (3, vP j 0), (4, vP g 0), (5, vI c), (6, vI k), (7, vI m), (20, sl p l r), (21, vI (l.length : Int)), (22, vI c)] ?_
         refine ops_nil ?_
         exact fj f5 (Int.tmod k 5 == 1) a 0 []
     ·
      intro f4
      refine st_seq (st_seq ?_)
      refine st_region (oFs 0 3) (by rfl) ?_
      refine oq (oFs 0 3) [(31, .bool (Int.tmod k 31 == 0)), (7, vI (Int.tmod k 7)), (6, vI k), (5, vI c), (3, vP j 0), (4, vP g 0), (20, sl p l r), (21, vI (l.length : Int)), (22, vI c)] ?_
      refine ops_nil (fin_then ?_)
      refine sif a (fun fh a => ?_) (fun fh a => ?_)
      ·
       refine st_region [oF 0] (by rfl) ?_
       refine oq [oF 0] [(7, vI 300), (6, vI k), (5, vI c), (3, vP j 0), (4, vP g 0), (20, sl p l r), (21, vI (l.length : Int)), (22, vI c)] ?_
       refine ops_nil ?_
       exact fj f4 300 a 0 []
      ·
       refine st_skip ?_
       exact fj f4 (Int.tmod k 7) a 0 []
   ·
    refine st_exit (fin_exit_then (fin_exit_then (fin_exit ?_)))
    obtain rfl := Option.some.inj a
    obtain rfl := dv _ rfl
    have a : tourlaw3_ColumnPlays_j1 B A a7 C D = some ao := dw
    exact fj iu (Z, ae, B, az, T, U, A, a8, al, ak, a7, aa, af, C, a0, ab, ag, D, a1, G, H) ⟨a, cl, df, cm, cn, co, dd⟩ 0 []
end Go.Proofs.Ytbfndcookgijfaa.P
