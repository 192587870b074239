/- The Go functions come to what the plain functions tell. No condition. -/
import Derived.Test.YtbfndcookgijfaaProg
import Derived.Test.YtbfndcookgijfaaFnP
import Derived.Test.YtbfndcookgijfaaExSq
import Derived.Test.YtbfndcookgijfaaWkP1
import Derived.Test.YtbfndcookgijfaaExMap
import Derived.Test.YtbfndcookgijfaaSxDag
namespace Go.Proofs.Ytbfndcookgijfaa.P
open Go Go.RowKit Go.Proofs.Ytbfndcookgijfaa.Sx
set_option linter.unusedVariables false
set_option maxHeartbeats 4000000
set_option maxRecDepth 100000
variable {w0 w : World} {cs : List Chunk} {F : Nat → Prop} {W : World}
def tourref3_Model_Sort__t0 : List Row := [⟨0, 65536, 1⟩, ⟨1, 131072, 65536⟩, ⟨2, 262144, 131072⟩, ⟨4, 524288, 262144⟩, ⟨0, 1048576, 8⟩, ⟨24, 2097152, 1572864⟩, ⟨32, 4194304, 2097152⟩, ⟨0, 8388608, 1⟩, ⟨128, 16777216, 8388608⟩, ⟨256, 33554432, 16777216⟩, ⟨512, 67108864, 33554432⟩, ⟨0, 134217728, 4⟩, ⟨3072, 268435456, 201326592⟩, ⟨4096, 536870912, 268435456⟩, ⟨8256, 1073741824, 541065216⟩]
def tourref3_Model_Sort__t1 : List Row := [⟨0, 2147483648, 1⟩, ⟨1, 4294967296, 2147483648⟩, ⟨2, 8589934592, 4294967296⟩, ⟨4, 17179869184, 8589934592⟩, ⟨0, 34359738368, 4⟩, ⟨0, 68719476736, 1⟩, ⟨32, 137438953472, 68719476736⟩, ⟨64, 274877906944, 137438953472⟩, ⟨128, 549755813888, 274877906944⟩, ⟨0, 1099511627776, 8⟩, ⟨0, 2199023255552, 1⟩, ⟨1024, 4398046511104, 2199023255552⟩, ⟨2048, 8796093022208, 4398046511104⟩, ⟨4096, 17592186044416, 8796093022208⟩, ⟨0, 35184372088832, 8⟩, ⟨24576, 70368744177664, 52776558133248⟩, ⟨32768, 140737488355328, 70368744177664⟩, ⟨0, 281474976710656, 1⟩, ⟨131072, 562949953421312, 281474976710656⟩, ⟨262144, 1125899906842624, 562949953421312⟩, ⟨524288, 2251799813685248, 1125899906842624⟩, ⟨0, 4503599627370496, 4⟩, ⟨3145728, 9007199254740992, 6755399441055744⟩, ⟨4194304, 18014398509481984, 9007199254740992⟩, ⟨9567519, 36028797018963968, 51539607552⟩, ⟨26344735, 0, 36169534507319296⟩, ⟨67108863, 72057594037927936, 1649267441664⟩, ⟨134217727, 0, 90071992547409920⟩]
def tourref3_Model_Sort__t2 : List Row := [⟨0, 144115188075855872, 1⟩, ⟨1, 288230376151711744, 144115188075855872⟩, ⟨2, 576460752303423488, 288230376151711744⟩, ⟨4, 1152921504606846976, 576460752303423488⟩, ⟨0, 2305843009213693952, 4⟩, ⟨0, 4611686018427387904, 1⟩, ⟨32, 9223372036854775808, 4611686018427387904⟩, ⟨64, 18446744073709551616, 9223372036854775808⟩, ⟨128, 36893488147419103232, 18446744073709551616⟩, ⟨0, 73786976294838206464, 8⟩, ⟨0, 147573952589676412928, 1⟩, ⟨1024, 295147905179352825856, 147573952589676412928⟩, ⟨2048, 590295810358705651712, 295147905179352825856⟩, ⟨4096, 1180591620717411303424, 590295810358705651712⟩, ⟨0, 2361183241434822606848, 8⟩, ⟨24576, 4722366482869645213696, 3541774862152233910272⟩, ⟨32768, 9444732965739290427392, 4722366482869645213696⟩, ⟨0, 18889465931478580854784, 1⟩, ⟨131072, 37778931862957161709568, 18889465931478580854784⟩, ⟨262144, 75557863725914323419136, 37778931862957161709568⟩, ⟨524288, 151115727451828646838272, 75557863725914323419136⟩, ⟨0, 302231454903657293676544, 4⟩, ⟨3145728, 604462909807314587353088, 453347182355485940514816⟩, ⟨4194304, 1208925819614629174706176, 604462909807314587353088⟩, ⟨9567519, 2417851639229258349412352, 3458764513820540928⟩, ⟨26344735, 0, 2427296372194997639839744⟩, ⟨67108863, 4835703278458516698824704, 110680464442257309696⟩, ⟨134217727, 0, 6044629098073145873530880⟩]
theorem tourref3_Model_Sort_ok {g : Nat} {s : Option Addr} {b : Nat} {o : List Int} {bc : List Value} {j : Option Addr} {c : Nat} {db : List Int} {bd : List Value} (fb : Mem w0 (.blk g [sl s o b, sl j db c] 28 :: ow s o b 3 1 bc :: ow j db c 3 1 bd :: Fz F W :: cs) w) (dn : RepL (Rep.int .i64) F W o bc) (dp : RepL (Rep.int .i64) F W db bd) {ak : List Int} {al : List Int} (q : tourref3_Model_Sort o db = some (ak, al)) : Calls Try.prog 11 #[vP g 0] w (Post w0 (fun ((ax, ay) : (List Value) × (List Value)) => (RepL (Rep.int .i64) F W ak ax) ∧ (RepL (Rep.int .i64) F W al ay)) (fun (ax, ay) => .tuple #[]) (fun (ax, ay) => .blk g [sl s ak b, sl j al c] 28 :: ow s ak b 3 1 ax :: ow j al c 3 1 ay :: Fz F W :: cs)) := by
 unfold tourref3_Model_Sort at q
 refine sx_calls Try.func11 rfl (n := 85) (by kernel_rfl) (l := [(0, vP g 0)]) rfl (by rfl) fb ?_
 refine st_seq ?_
 refine st_region (oFs 0 6) (by rfl) ?_
 refine oq (oFs 0 3) [(6, vP g 0), (0, vP g 0)] ?_
 refine oM 7 0 0 ?_
 refine oq [oF 4, oF 5] [(9, vI 0), (8, vI (o.length : Int)), (0, vP g 0)] ?_
 refine ops_nil (fin_then (st_block ?_))
 obtain ⟨r1, fh, ff⟩ := obind q
 refine lp (σ := (List Int) × (List Int) × Int) (ρ := (List Int) × (List Int)) (γ := (List Value) × (List Value)) fh (bc, bd) (fun s_ g_ => match s_, g_ with | (l2, l5, a), (y3, y6) => [(0, vP g 0), (8, vI (o.length : Int)), (9, vI a)]) (fun s_ g_ => match s_, g_ with | (l2, l5, a), (y3, y6) => Mem w0 (.blk g [sl s l2 b, sl j l5 c] 28 :: ow s l2 b 3 1 y3 :: ow j l5 c 3 1 y6 :: Fz F W :: cs)) (fun s_ g_ => match s_, g_ with | (l2, l5, a), (y3, y6) => (RepL (Rep.int .i64) F W l2 y3) ∧ (RepL (Rep.int .i64) F W l5 y6)) ⟨dn, dp⟩ 0 [] ?_
 rintro ⟨l2, l5, a⟩ ⟨y3, y6⟩ o1 ⟨h4, h7⟩ hs_ fd
 have q : (tourref3_Model_Sort_l1 o) l2 l5 a = some o1 := hs_
 clear hs_
 unfold tourref3_Model_Sort_l1 at q
 refine st_seq (st_region [oF 0] (by rfl) ?_)
 refine oq [oF 0] [(10, .bool (decide (a < (o.length : Int)))), (0, vP g 0), (8, vI (o.length : Int)), (9, vI a)] ?_
 refine ops_nil (fin_then (st_seq ?_))
 refine sif q (fun fc q => ?_) (fun fc q => ?_)
 ·
  refine st_skip (fin_then ?_)
  refine st_join1 (σ := (List Int) × (List Value) × (List Int) × (List Value)) (L := fun x_ => match x_ with | (ap, a2, aq, a3) => [(0, vP g 0), (8, vI (o.length : Int)), (9, vI a)]) (N := fun x_ => match x_ with | (ap, a2, aq, a3) => Mem w0 (.blk g [sl s ap b, sl j aq c] 28 :: ow s ap b 3 1 a2 :: ow j aq c 3 1 a3 :: Fz F W :: cs)) (I := fun x_ => match x_ with | (ap, a2, aq, a3) => ((tourref3_Model_Sort_j2 a) ap aq = some o1) ∧ (RepL (Rep.int .i64) F W ap a2) ∧ (RepL (Rep.int .i64) F W aq a3)) ?_ ?_
  ·
   rintro ⟨ap, a2, aq, a3⟩ ⟨q, e5, e6⟩
   unfold tourref3_Model_Sort_j2 at q
   refine st_region [oF 0, oF 1] (by rfl) ?_
   refine oq [oF 0, oF 1] [(9, vI (IntKind.i64.wrap (a + 1))), (0, vP g 0), (8, vI (o.length : Int))] ?_
   refine ops_nil ?_
   exact fag (ap, aq, IntKind.i64.wrap (a + 1)) (a2, a3) (Option.some.inj q).symm ⟨e5, e6⟩ 0 []
  ·
   intro e4
   refine st_seq (st_block (st_seq (st_region [oF 0, oF 1] (by rfl) ?_)))
   refine oq [oF 0, oF 1] [(2, vI a), (0, vP g 0), (8, vI (o.length : Int)), (9, vI a)] ?_
   refine ops_nil (fin_then (st_seq (st_region [oF 0, oF 1] (by rfl) ?_)))
   refine oq [oF 0, oF 1] [(13, vI 0), (12, vI a), (2, vI a), (0, vP g 0), (8, vI (o.length : Int)), (9, vI a)] ?_
   refine ops_nil (fin_then (st_block ?_))
   obtain ⟨r3, fi, fg⟩ := obind q
   refine lp (σ := (List Int) × (List Int) × Int) (ρ := (List Int) × (List Int)) (γ := (List Value) × (List Value)) fi (y3, y6) (fun s_ g_ => match s_, g_ with | (r, p, f), (H, C) => [(0, vP g 0), (2, vI a), (8, vI (o.length : Int)), (9, vI a), (12, vI a), (13, vI f)]) (fun s_ g_ => match s_, g_ with | (r, p, f), (H, C) => Mem w0 (.blk g [sl s r b, sl j p c] 28 :: ow s r b 3 1 H :: ow j p c 3 1 C :: Fz F W :: cs)) (fun s_ g_ => match s_, g_ with | (r, p, f), (H, C) => (RepL (Rep.int .i64) F W r H) ∧ (RepL (Rep.int .i64) F W p C)) ⟨h4, h7⟩ 0 [] ?_
   rintro ⟨r, p, f⟩ ⟨H, C⟩ o3 ⟨ab, ad⟩ hs_ fe
   have q : (tourref3_Model_Sort_l3 a) r p f = some o3 := hs_
   clear hs_
   unfold tourref3_Model_Sort_l3 at q
   refine st_seq (st_region [oF 0] (by rfl) ?_)
   refine oq [oF 0] [(14, .bool (decide (f < a))), (0, vP g 0), (2, vI a), (8, vI (o.length : Int)), (9, vI a), (12, vI a), (13, vI f)] ?_
   refine ops_nil (fin_then (st_seq ?_))
   refine sif q (fun ei q => ?_) (fun ei q => ?_)
   ·
    refine st_skip (fin_then ?_)
    refine st_join1 (σ := (List Int) × (List Value) × (List Int) × (List Value)) (L := fun x_ => match x_ with | (ar, a4, au, a5) => [(0, vP g 0), (2, vI a), (8, vI (o.length : Int)), (9, vI a), (12, vI a), (13, vI f)]) (N := fun x_ => match x_ with | (ar, a4, au, a5) => Mem w0 (.blk g [sl s ar b, sl j au c] 28 :: ow s ar b 3 1 a4 :: ow j au c 3 1 a5 :: Fz F W :: cs)) (I := fun x_ => match x_ with | (ar, a4, au, a5) => ((tourref3_Model_Sort_j4 f) ar au = some o3) ∧ (RepL (Rep.int .i64) F W ar a4) ∧ (RepL (Rep.int .i64) F W au a5)) ?_ ?_
    ·
     rintro ⟨ar, a4, au, a5⟩ ⟨q, e7, e8⟩
     unfold tourref3_Model_Sort_j4 at q
     refine st_region [oF 0, oF 1] (by rfl) ?_
     refine oq [oF 0, oF 1] [(13, vI (IntKind.i64.wrap (f + 1))), (0, vP g 0), (2, vI a), (8, vI (o.length : Int)), (9, vI a), (12, vI a)] ?_
     refine ops_nil ?_
     exact fag (ar, au, IntKind.i64.wrap (f + 1)) (a4, a5) (Option.some.inj q).symm ⟨e7, e8⟩ 0 []
    ·
     intro dc
     refine st_seq (st_block (st_seq (st_region [oF 0, oF 1] (by rfl) ?_)))
     refine oq [oF 0, oF 1] [(3, vI f), (0, vP g 0), (2, vI a), (8, vI (o.length : Int)), (9, vI a), (12, vI a), (13, vI f)] ?_
     refine ops_nil (fin_then (st_seq ?_))
     refine st_region_fast tourref3_Model_Sort__t0 (oTs 0 15) (Mem w0 (.blk g [sl s r b, sl j p c] 28 :: ow s r b 3 1 H :: ow j p c 3 1 C :: Fz F W :: cs)) (by kernel_rfl) (by kernel_rfl) (by kernel_rfl) (by kernel_rfl) (by kernel_rfl) (fun _ d _ _ _ h => by cases d <;> exact h) (M' := Mem w0 (.blk g [sl s r b, sl j p c] 28 :: ow s r b 3 1 H :: ow j p c 3 1 C :: Fz F W :: cs)) (fun u k => ⟨k.drew, k.drew.sub (.cons_cons _ (.cons_cons _ (.cons_cons _ (.cons_cons _ (.refl _)))))⟩) ?_
     refine oq (oTs 0 3) [(18, vP g 0), (3, vI f), (0, vP g 0), (2, vI a), (8, vI (o.length : Int)), (9, vI a), (12, vI a), (13, vI f)] ?_
     refine oL 19 0 0 ?_
     refine oq [oT 4] [(20, vI f), (19, sl s r b), (3, vI f), (0, vP g 0), (2, vI a), (8, vI (o.length : Int)), (9, vI a), (12, vI a), (13, vI f)] ?_
     obtain ⟨a1, eq, q⟩ := obind q
     obtain ⟨dj, em, dh⟩ := idx_some eq
     have dd := (List.getElem?_eq_some_iff.1 dh).1
     refine ops_fact (fun u k => k.orowSome 1 rfl (Nat.lt_of_le_of_lt (Nat.zero_le _) dd)) ?_
     rintro ⟨i, rfl, -⟩
     obtain ⟨gf, hr36, eo⟩ := ab.at_ dj a1 dh
     obtain rfl := hr36
     refine ops_val (op := (.indexAddr 22 (.tmp 19) (.tmp 20))) (d := some 21) (v := vP i (dj * 1)) ⟨by kernel_rfl⟩ (run_indexRow Try.underlying22 (z := 1) (by kernel_rfl) rfl rfl em dd rfl) ?_
     refine ops_load (d := some 22) (an := [.v (vI a1)]) (evs := [.load ⟨i, dj * 1, none⟩ (vI a1)]) (v := vI a1) ⟨by kernel_rfl⟩ (fun u k => ⟨k.ocell 1 rfl (eo 0 _ rfl), rfl⟩) ?_
     refine oq (oTs 7 3) [(25, vP g 0), (22, vI a1), (3, vI f), (0, vP g 0), (2, vI a), (8, vI (o.length : Int)), (9, vI a), (12, vI a), (13, vI f)] ?_
     refine oL 26 0 0 ?_
     refine oq [oT 11] [(27, vI a), (26, sl (sa i) r b), (22, vI a1), (3, vI f), (0, vP g 0), (2, vI a), (8, vI (o.length : Int)), (9, vI a), (12, vI a), (13, vI f)] ?_
     obtain ⟨bg, er, q⟩ := obind q
     obtain ⟨dk, en, di⟩ := idx_some er
     have ek := (List.getElem?_eq_some_iff.1 di).1
     obtain ⟨gg, hr46, ep⟩ := ab.at_ dk bg di
     obtain rfl := hr46
     refine ops_val (op := (.indexAddr 22 (.tmp 26) (.tmp 27))) (d := some 28) (v := vP i (dk * 1)) ⟨by kernel_rfl⟩ (run_indexRow Try.underlying22 (z := 1) (by kernel_rfl) rfl rfl en ek rfl) ?_
     refine ops_load (d := some 29) (an := [.v (vI bg)]) (evs := [.load ⟨i, dk * 1, none⟩ (vI bg)]) (v := vI bg) ⟨by kernel_rfl⟩ (fun u k => ⟨k.ocell 1 rfl (ep 0 _ rfl), rfl⟩) ?_
     refine oq [oT 14] [(30, .bool (decide (bg < a1))), (3, vI f), (0, vP g 0), (2, vI a), (8, vI (o.length : Int)), (9, vI a), (12, vI a), (13, vI f)] ?_
     refine ops_nil (fin_then ?_)
     refine sif q (fun ej q => ?_) (fun ej q => ?_)
     ·
      refine st_join1 (σ := (List Int) × (List Value)) (L := fun x_ => match x_ with | (A, M) => [(0, vP g 0), (2, vI a), (3, vI f), (8, vI (o.length : Int)), (9, vI a), (12, vI a), (13, vI f)]) (N := fun x_ => match x_ with | (A, M) => Mem w0 (.blk g [sl (sa i) A b, sl j p c] 28 :: ow (sa i) A b 3 1 M :: ow j p c 3 1 C :: Fz F W :: cs)) (I := fun x_ => match x_ with | (A, M) => ((tourref3_Model_Sort_j5 p f a) A = some o3) ∧ (RepL (Rep.int .i64) F W A M)) ?_ ?_
      ·
       rintro ⟨A, M⟩ ⟨q, eb⟩
       unfold tourref3_Model_Sort_j5 at q
       obtain ⟨D, es, q⟩ := obind q
       obtain ⟨B, et, q⟩ := obind q
       obtain ⟨ec, de, q⟩ := obind q
       obtain ⟨E, df, q⟩ := obind q
       obtain ⟨ed, dg, q⟩ := obind q
       obtain ⟨J, cl, q⟩ := obind q
       refine st_region_treeF tourref3_Model_Sort__t2 28 (.node [oT 0, oT 1, oT 2, oT 3, oT 4, oT 5, oT 6, oT 7, oT 8, oT 9, oT 10, oT 11, oT 12, oT 13, oT 14, oT 15, oT 17, oT 18, oT 19, oT 20, oT 21, oT 22] (.leaf [oF 16, oF 23, oT 24, oF 25, oT 26, oF 27]) (.leaf [oF 23, oF 16, oT 24, oF 25, oT 26, oF 27])) (Mem w0 (.blk g [sl (sa i) A b, sl j p c] 28 :: ow (sa i) A b 3 1 M :: Fz F W :: cs)) (by kernel_rfl) (by kernel_rfl) (by kernel_rfl) (by kernel_rfl) (by kernel_rfl) (fun _ d _ _ _ h => by cases d <;> exact h) (M' := Mem w0 (.blk g [sl (sa i) A b, sl j p c] 28 :: ow (sa i) A b 3 1 M :: ow j p c 3 1 C :: Fz F W :: cs)) (fun u k => ⟨k.drew, k.drew.sub (.cons_cons _ (.cons_cons _ (.cons _ (.cons_cons _ (.refl _)))))⟩) ?_
       refine tree_node ?_
       refine oq (oTs 0 3) [(59, vP g 1), (0, vP g 0), (2, vI a), (3, vI f), (8, vI (o.length : Int)), (9, vI a), (12, vI a), (13, vI f)] ?_
       refine oL 60 0 1 ?_
       refine oq (oTs 4 4) [(64, vP g 1), (61, vI a), (60, sl j p c), (0, vP g 0), (2, vI a), (3, vI f), (8, vI (o.length : Int)), (9, vI a), (12, vI a), (13, vI f)] ?_
       refine oL 65 0 1 ?_
       refine oq (oTs 9 4) [(69, vP g 1), (66, vI f), (65, sl j p c), (61, vI a), (60, sl j p c), (0, vP g 0), (2, vI a), (3, vI f), (8, vI (o.length : Int)), (9, vI a), (12, vI a), (13, vI f)] ?_
       refine oL 70 0 1 ?_
       refine oq [oT 14] [(71, vI f), (70, sl j p c), (66, vI f), (65, sl j p c), (61, vI a), (60, sl j p c), (0, vP g 0), (2, vI a), (8, vI (o.length : Int)), (9, vI a), (12, vI a), (13, vI f)] ?_
       obtain ⟨am, d4, cq⟩ := idx_some es
       have b0 := (List.getElem?_eq_some_iff.1 cq).1
       refine ops_fact (fun u k => k.orowSome 2 rfl (Nat.lt_of_le_of_lt (Nat.zero_le _) b0)) ?_
       rintro ⟨m, rfl, -⟩
       obtain ⟨f3, hr107, ch⟩ := ad.at_ am D cq
       obtain rfl := hr107
       refine ops_val (op := (.indexAddr 22 (.tmp 70) (.tmp 71))) (d := some 72) (v := vP m (am * 1)) ⟨by kernel_rfl⟩ (run_indexRow Try.underlying22 (z := 1) (by kernel_rfl) rfl rfl d4 b0 rfl) ?_
       refine oq (oTs 17 3) [(76, vP g 1), (72, vP m (am * 1)), (66, vI f), (65, sl (sa m) p c), (61, vI a), (60, sl (sa m) p c), (0, vP g 0), (2, vI a), (8, vI (o.length : Int)), (9, vI a), (12, vI a), (13, vI f)] ?_
       refine oL 77 0 1 ?_
       refine oq [oT 21] [(78, vI a), (77, sl (sa m) p c), (72, vP m (am * 1)), (66, vI f), (65, sl (sa m) p c), (61, vI a), (60, sl (sa m) p c), (0, vP g 0), (2, vI a), (8, vI (o.length : Int)), (9, vI a), (12, vI a), (13, vI f)] ?_
       obtain ⟨a6, d5, cr⟩ := idx_some et
       have dr := (List.getElem?_eq_some_iff.1 cr).1
       obtain ⟨f4, hr115, ci⟩ := ad.at_ a6 B cr
       obtain rfl := hr115
       refine ops_val (op := (.indexAddr 22 (.tmp 77) (.tmp 78))) (d := some 79) (v := vP m (a6 * 1)) ⟨by kernel_rfl⟩ (run_indexRow Try.underlying22 (z := 1) (by kernel_rfl) rfl rfl d5 dr rfl) ?_
       refine ops_nil ?_
       refine tree_both ?_ ?_
       ·
        refine tree_leaf ?_
        refine ops_mem (d := some 73) (an := [.v (vI D)]) (evs := [.load ⟨m, am * 1, none⟩ (vI D)]) (v := vI D) ⟨by kernel_rfl⟩ (fun u k G => ⟨u, ⟨k.ocell 2 rfl (ch 0 _ rfl), rfl⟩, k, G⟩) ?_
        refine ops_mem (d := some 80) (an := [.v (vI B)]) (evs := [.load ⟨m, a6 * 1, none⟩ (vI B)]) (v := vI B) ⟨by kernel_rfl⟩ (fun u k G => ⟨u, ⟨k.ocell 2 rfl (ci 0 _ rfl), rfl⟩, k, G⟩) ?_
        obtain ⟨O, b9, ct⟩ := idx_some de
        have ds := (List.getElem?_eq_some_iff.1 ct).1
        obtain ⟨f5, hr122, fv⟩ := ad.at_ O ec ct
        obtain rfl := hr122
        refine ops_val (op := (.indexAddr 22 (.tmp 60) (.tmp 61))) (d := some 81) (v := vP m (O * 1)) ⟨by kernel_rfl⟩ (run_indexRow Try.underlying22 (z := 1) (by kernel_rfl) rfl rfl b9 ds rfl) ?_
        refine oq [] [(81, vP m (O * 1)), (80, vI B), (73, vI D), (66, vI f), (65, sl (sa m) p c), (0, vP g 0), (2, vI a), (8, vI (o.length : Int)), (9, vI a), (12, vI a), (13, vI f)] ?_
        obtain ⟨eu, fm, b1, br⟩ := upd_some df
        obtain rfl : O = eu := by have := b9; omega
        have ae : p.length = E.length := by rw [br, List.length_set]
        obtain ⟨a8, c3⟩ : ∃ y_, setAll C (O * 1 + 0) [vI D] = y_ := ⟨_, rfl⟩
        have bh : RepL (Rep.int .i64) F W E a8 := by rw [br, ← c3]; exact RepL.set ad (List.getElem?_eq_getElem b1) (fun vs_ hr_ _ => by obtain rfl := hr_; exact ⟨rfl, Nat.le_of_ble_eq_true rfl⟩)
        refine ops_store (an := []) (evs := [.store ⟨m, O * 1, none⟩ (vI D)]) ⟨by kernel_rfl⟩ (fun u k G => let ⟨w', he, h'⟩ := k.ostore' 2 rfl (O * 1 + 0) [vI D] (by have z_ : C.length = p.length * 1 := ad.len; have y_ : (O + 1) * 1 ≤ p.length * 1 := Nat.mul_le_mul_right _ b1; rw [Nat.add_mul] at y_; simp only [List.length_cons, List.length_nil]; omega) ae c3; ⟨w', he, h', (by exact h'.sub (.cons_cons _ (.cons_cons _ (.cons _ (.cons_cons _ (.refl _))))))⟩) ?_
        refine ops_conv (l' := [(81, vP m (O * 1)), (80, vI B), (73, vI D), (66, vI f), (65, sl (sa m) E c), (0, vP g 0), (2, vI a), (8, vI (o.length : Int)), (9, vI a), (12, vI a), (13, vI f)]) (M' := Mem w0 (.blk g [sl (sa i) A b, sl (sa m) E c] 28 :: ow (sa i) A b 3 1 M :: ow (sa m) E c 3 1 a8 :: Fz F W :: cs)) (by first | rfl | ((try dsimp only [sl, ow]); rw [ae])) (fun u k => by first | exact k | ((try dsimp only [sl, ow] at k ⊢); rw [ae] at k; exact k)) ?_
        obtain ⟨T, ca, cu⟩ := idx_some dg
        have dt := (List.getElem?_eq_some_iff.1 cu).1
        obtain ⟨f6, hr138, fw⟩ := bh.at_ T ed cu
        obtain rfl := hr138
        refine ops_val (op := (.indexAddr 22 (.tmp 65) (.tmp 66))) (d := some 82) (v := vP m (T * 1)) ⟨by kernel_rfl⟩ (run_indexRow Try.underlying22 (z := 1) (by kernel_rfl) rfl rfl ca dt rfl) ?_
        refine oq [] [(82, vP m (T * 1)), (80, vI B), (0, vP g 0), (2, vI a), (8, vI (o.length : Int)), (9, vI a), (12, vI a), (13, vI f)] ?_
        obtain ⟨ev, fn, b2, bs⟩ := upd_some cl
        obtain rfl : T = ev := by have := ca; omega
        have af : E.length = J.length := by rw [bs, List.length_set]
        obtain ⟨bl, c4⟩ : ∃ y_, setAll a8 (T * 1 + 0) [vI B] = y_ := ⟨_, rfl⟩
        have ee : RepL (Rep.int .i64) F W J bl := by rw [bs, ← c4]; exact RepL.set bh (List.getElem?_eq_getElem b2) (fun vs_ hr_ _ => by obtain rfl := hr_; exact ⟨rfl, Nat.le_of_ble_eq_true rfl⟩)
        refine ops_store (an := []) (evs := [.store ⟨m, T * 1, none⟩ (vI B)]) ⟨by kernel_rfl⟩ (fun u k G => let ⟨w', he, h'⟩ := k.ostore' 2 rfl (T * 1 + 0) [vI B] (by have z_ : a8.length = E.length * 1 := bh.len; have y_ : (T + 1) * 1 ≤ E.length * 1 := Nat.mul_le_mul_right _ b2; rw [Nat.add_mul] at y_; simp only [List.length_cons, List.length_nil]; omega) af c4; ⟨w', he, h', (by first | (refine h'.sub ?_; simp; done) | ((try dsimp only [sl, ow, sa] at h' ⊢); (try simp only [← af] at h' ⊢); (try simp only [← ae] at h' ⊢); (try simp only [← dq] at h' ⊢); (try simp only [← el] at h' ⊢); (try simp only [← fl] at h' ⊢); (try simp only [← fk] at h' ⊢); exact h'.sub (by simp)))⟩) ?_
        refine ops_conv (l' := [(82, vP m (T * 1)), (80, vI B), (0, vP g 0), (2, vI a), (8, vI (o.length : Int)), (9, vI a), (12, vI a), (13, vI f)]) (M' := Mem w0 (.blk g [sl (sa i) A b, sl (sa m) J c] 28 :: ow (sa i) A b 3 1 M :: ow (sa m) J c 3 1 bl :: Fz F W :: cs)) (by first | rfl | ((try dsimp only [sl, ow]); rw [af])) (fun u k => by first | exact k | ((try dsimp only [sl, ow] at k ⊢); rw [af] at k; exact k)) ?_
        refine ops_nil (fin_block ?_)
        exact fj dc (A, M, J, bl) ⟨q, eb, ee⟩ 0 []
       ·
        refine tree_leaf ?_
        refine ops_mem (d := some 80) (an := [.v (vI B)]) (evs := [.load ⟨m, a6 * 1, none⟩ (vI B)]) (v := vI B) ⟨by kernel_rfl⟩ (fun u k G => ⟨u, ⟨k.ocell 2 rfl (ci 0 _ rfl), rfl⟩, k, G⟩) ?_
        refine ops_mem (d := some 73) (an := [.v (vI D)]) (evs := [.load ⟨m, am * 1, none⟩ (vI D)]) (v := vI D) ⟨by kernel_rfl⟩ (fun u k G => ⟨u, ⟨k.ocell 2 rfl (ch 0 _ rfl), rfl⟩, k, G⟩) ?_
        obtain ⟨U, cb, cv⟩ := idx_some de
        have du := (List.getElem?_eq_some_iff.1 cv).1
        obtain ⟨f7, hr154, fx⟩ := ad.at_ U ec cv
        obtain rfl := hr154
        refine ops_val (op := (.indexAddr 22 (.tmp 60) (.tmp 61))) (d := some 81) (v := vP m (U * 1)) ⟨by kernel_rfl⟩ (run_indexRow Try.underlying22 (z := 1) (by kernel_rfl) rfl rfl cb du rfl) ?_
        refine oq [] [(81, vP m (U * 1)), (73, vI D), (80, vI B), (66, vI f), (65, sl (sa m) p c), (0, vP g 0), (2, vI a), (8, vI (o.length : Int)), (9, vI a), (12, vI a), (13, vI f)] ?_
        obtain ⟨ew, fo, b3, bt⟩ := upd_some df
        obtain rfl : U = ew := by have := cb; omega
        have ag : p.length = E.length := by rw [bt, List.length_set]
        obtain ⟨a9, c5⟩ : ∃ y_, setAll C (U * 1 + 0) [vI D] = y_ := ⟨_, rfl⟩
        have bi : RepL (Rep.int .i64) F W E a9 := by rw [bt, ← c5]; exact RepL.set ad (List.getElem?_eq_getElem b3) (fun vs_ hr_ _ => by obtain rfl := hr_; exact ⟨rfl, Nat.le_of_ble_eq_true rfl⟩)
        refine ops_store (an := []) (evs := [.store ⟨m, U * 1, none⟩ (vI D)]) ⟨by kernel_rfl⟩ (fun u k G => let ⟨w', he, h'⟩ := k.ostore' 2 rfl (U * 1 + 0) [vI D] (by have z_ : C.length = p.length * 1 := ad.len; have y_ : (U + 1) * 1 ≤ p.length * 1 := Nat.mul_le_mul_right _ b3; rw [Nat.add_mul] at y_; simp only [List.length_cons, List.length_nil]; omega) ag c5; ⟨w', he, h', (by exact h'.sub (.cons_cons _ (.cons_cons _ (.cons _ (.cons_cons _ (.refl _))))))⟩) ?_
        refine ops_conv (l' := [(81, vP m (U * 1)), (73, vI D), (80, vI B), (66, vI f), (65, sl (sa m) E c), (0, vP g 0), (2, vI a), (8, vI (o.length : Int)), (9, vI a), (12, vI a), (13, vI f)]) (M' := Mem w0 (.blk g [sl (sa i) A b, sl (sa m) E c] 28 :: ow (sa i) A b 3 1 M :: ow (sa m) E c 3 1 a9 :: Fz F W :: cs)) (by first | rfl | ((try dsimp only [sl, ow]); rw [ag])) (fun u k => by first | exact k | ((try dsimp only [sl, ow] at k ⊢); rw [ag] at k; exact k)) ?_
        obtain ⟨V, cc, cw⟩ := idx_some dg
        have dv := (List.getElem?_eq_some_iff.1 cw).1
        obtain ⟨f8, hr170, fy⟩ := bi.at_ V ed cw
        obtain rfl := hr170
        refine ops_val (op := (.indexAddr 22 (.tmp 65) (.tmp 66))) (d := some 82) (v := vP m (V * 1)) ⟨by kernel_rfl⟩ (run_indexRow Try.underlying22 (z := 1) (by kernel_rfl) rfl rfl cc dv rfl) ?_
        refine oq [] [(82, vP m (V * 1)), (80, vI B), (0, vP g 0), (2, vI a), (8, vI (o.length : Int)), (9, vI a), (12, vI a), (13, vI f)] ?_
        obtain ⟨ex, fp, b4, bu⟩ := upd_some cl
        obtain rfl : V = ex := by have := cc; omega
        have ah : E.length = J.length := by rw [bu, List.length_set]
        obtain ⟨bm, c6⟩ : ∃ y_, setAll a9 (V * 1 + 0) [vI B] = y_ := ⟨_, rfl⟩
        have ef : RepL (Rep.int .i64) F W J bm := by rw [bu, ← c6]; exact RepL.set bi (List.getElem?_eq_getElem b4) (fun vs_ hr_ _ => by obtain rfl := hr_; exact ⟨rfl, Nat.le_of_ble_eq_true rfl⟩)
        refine ops_store (an := []) (evs := [.store ⟨m, V * 1, none⟩ (vI B)]) ⟨by kernel_rfl⟩ (fun u k G => let ⟨w', he, h'⟩ := k.ostore' 2 rfl (V * 1 + 0) [vI B] (by have z_ : a9.length = E.length * 1 := bi.len; have y_ : (V + 1) * 1 ≤ E.length * 1 := Nat.mul_le_mul_right _ b4; rw [Nat.add_mul] at y_; simp only [List.length_cons, List.length_nil]; omega) ah c6; ⟨w', he, h', (by first | (refine h'.sub ?_; simp; done) | ((try dsimp only [sl, ow, sa] at h' ⊢); (try simp only [← ah] at h' ⊢); (try simp only [← ag] at h' ⊢); (try simp only [← af] at h' ⊢); (try simp only [← ae] at h' ⊢); (try simp only [← dq] at h' ⊢); (try simp only [← el] at h' ⊢); exact h'.sub (by simp)))⟩) ?_
        refine ops_conv (l' := [(82, vP m (V * 1)), (80, vI B), (0, vP g 0), (2, vI a), (8, vI (o.length : Int)), (9, vI a), (12, vI a), (13, vI f)]) (M' := Mem w0 (.blk g [sl (sa i) A b, sl (sa m) J c] 28 :: ow (sa i) A b 3 1 M :: ow (sa m) J c 3 1 bm :: Fz F W :: cs)) (by first | rfl | ((try dsimp only [sl, ow]); rw [ah])) (fun u k => by first | exact k | ((try dsimp only [sl, ow] at k ⊢); rw [ah] at k; exact k)) ?_
        refine ops_nil (fin_block ?_)
        exact fj dc (A, M, J, bm) ⟨q, eb, ef⟩ 0 []
      ·
       intro ea
       refine st_seq ?_
       obtain ⟨x, d8, q⟩ := obind q
       obtain ⟨t, d9, q⟩ := obind q
       obtain ⟨dl, cm, q⟩ := obind q
       obtain ⟨y, cn, q⟩ := obind q
       obtain ⟨dm, co, q⟩ := obind q
       obtain ⟨K, cp, q⟩ := obind q
       refine st_region_treeF tourref3_Model_Sort__t1 28 (.node [oT 0, oT 1, oT 2, oT 3, oT 4, oT 5, oT 6, oT 7, oT 8, oT 9, oT 10, oT 11, oT 12, oT 13, oT 14, oT 15, oT 17, oT 18, oT 19, oT 20, oT 21, oT 22] (.leaf [oF 16, oF 23, oT 24, oF 25, oT 26, oF 27]) (.leaf [oF 23, oF 16, oT 24, oF 25, oT 26, oF 27])) (Mem w0 (.blk g [sl (sa i) r b, sl j p c] 28 :: ow j p c 3 1 C :: Fz F W :: cs)) (by kernel_rfl) (by kernel_rfl) (by kernel_rfl) (by kernel_rfl) (by kernel_rfl) (fun _ d _ _ _ h => by cases d <;> exact h) (M' := Mem w0 (.blk g [sl (sa i) r b, sl j p c] 28 :: ow (sa i) r b 3 1 H :: ow j p c 3 1 C :: Fz F W :: cs)) (fun u k => ⟨k.drew, k.drew.sub (.cons_cons _ (.cons _ (.cons_cons _ (.cons_cons _ (.refl _)))))⟩) ?_
       refine tree_node ?_
       refine oq (oTs 0 3) [(33, vP g 0), (3, vI f), (0, vP g 0), (2, vI a), (8, vI (o.length : Int)), (9, vI a), (12, vI a), (13, vI f)] ?_
       refine oL 34 0 0 ?_
       refine oq (oTs 4 4) [(38, vP g 0), (35, vI a), (34, sl (sa i) r b), (3, vI f), (0, vP g 0), (2, vI a), (8, vI (o.length : Int)), (9, vI a), (12, vI a), (13, vI f)] ?_
       refine oL 39 0 0 ?_
       refine oq (oTs 9 4) [(43, vP g 0), (40, vI f), (39, sl (sa i) r b), (35, vI a), (34, sl (sa i) r b), (3, vI f), (0, vP g 0), (2, vI a), (8, vI (o.length : Int)), (9, vI a), (12, vI a), (13, vI f)] ?_
       refine oL 44 0 0 ?_
       refine oq [oT 14] [(45, vI f), (44, sl (sa i) r b), (40, vI f), (39, sl (sa i) r b), (35, vI a), (34, sl (sa i) r b), (3, vI f), (0, vP g 0), (2, vI a), (8, vI (o.length : Int)), (9, vI a), (12, vI a), (13, vI f)] ?_
       obtain ⟨ao, d6, cx⟩ := idx_some d8
       have dy := (List.getElem?_eq_some_iff.1 cx).1
       obtain ⟨f9, hr235, cj⟩ := ab.at_ ao x cx
       obtain rfl := hr235
       refine ops_val (op := (.indexAddr 22 (.tmp 44) (.tmp 45))) (d := some 46) (v := vP i (ao * 1)) ⟨by kernel_rfl⟩ (run_indexRow Try.underlying22 (z := 1) (by kernel_rfl) rfl rfl d6 dy rfl) ?_
       refine oq (oTs 17 3) [(50, vP g 0), (46, vP i (ao * 1)), (40, vI f), (39, sl (sa i) r b), (35, vI a), (34, sl (sa i) r b), (3, vI f), (0, vP g 0), (2, vI a), (8, vI (o.length : Int)), (9, vI a), (12, vI a), (13, vI f)] ?_
       refine oL 51 0 0 ?_
       refine oq [oT 21] [(52, vI a), (51, sl (sa i) r b), (46, vP i (ao * 1)), (40, vI f), (39, sl (sa i) r b), (35, vI a), (34, sl (sa i) r b), (3, vI f), (0, vP g 0), (2, vI a), (8, vI (o.length : Int)), (9, vI a), (12, vI a), (13, vI f)] ?_
       obtain ⟨a7, d7, cy⟩ := idx_some d9
       have dz := (List.getElem?_eq_some_iff.1 cy).1
       obtain ⟨ga, hr242, ck⟩ := ab.at_ a7 t cy
       obtain rfl := hr242
       refine ops_val (op := (.indexAddr 22 (.tmp 51) (.tmp 52))) (d := some 53) (v := vP i (a7 * 1)) ⟨by kernel_rfl⟩ (run_indexRow Try.underlying22 (z := 1) (by kernel_rfl) rfl rfl d7 dz rfl) ?_
       refine ops_nil ?_
       refine tree_both ?_ ?_
       ·
        refine tree_leaf ?_
        refine ops_mem (d := some 47) (an := [.v (vI x)]) (evs := [.load ⟨i, ao * 1, none⟩ (vI x)]) (v := vI x) ⟨by kernel_rfl⟩ (fun u k G => ⟨u, ⟨k.ocell 1 rfl (cj 0 _ rfl), rfl⟩, k, G⟩) ?_
        refine ops_mem (d := some 54) (an := [.v (vI t)]) (evs := [.load ⟨i, a7 * 1, none⟩ (vI t)]) (v := vI t) ⟨by kernel_rfl⟩ (fun u k G => ⟨u, ⟨k.ocell 1 rfl (ck 0 _ rfl), rfl⟩, k, G⟩) ?_
        obtain ⟨X, cd, cz⟩ := idx_some cm
        have d0 := (List.getElem?_eq_some_iff.1 cz).1
        obtain ⟨gb, hr249, fz⟩ := ab.at_ X dl cz
        obtain rfl := hr249
        refine ops_val (op := (.indexAddr 22 (.tmp 34) (.tmp 35))) (d := some 55) (v := vP i (X * 1)) ⟨by kernel_rfl⟩ (run_indexRow Try.underlying22 (z := 1) (by kernel_rfl) rfl rfl cd d0 rfl) ?_
        refine oq [] [(55, vP i (X * 1)), (54, vI t), (47, vI x), (40, vI f), (39, sl (sa i) r b), (3, vI f), (0, vP g 0), (2, vI a), (8, vI (o.length : Int)), (9, vI a), (12, vI a), (13, vI f)] ?_
        obtain ⟨ey, fq, b5, bv⟩ := upd_some cn
        obtain rfl : X = ey := by have := cd; omega
        have ai : r.length = y.length := by rw [bv, List.length_set]
        obtain ⟨ba, c7⟩ : ∃ y_, setAll H (X * 1 + 0) [vI x] = y_ := ⟨_, rfl⟩
        have bj : RepL (Rep.int .i64) F W y ba := by rw [bv, ← c7]; exact RepL.set ab (List.getElem?_eq_getElem b5) (fun vs_ hr_ _ => by obtain rfl := hr_; exact ⟨rfl, Nat.le_of_ble_eq_true rfl⟩)
        refine ops_store (an := []) (evs := [.store ⟨i, X * 1, none⟩ (vI x)]) ⟨by kernel_rfl⟩ (fun u k G => let ⟨w', he, h'⟩ := k.ostore' 1 rfl (X * 1 + 0) [vI x] (by have z_ : H.length = r.length * 1 := ab.len; have y_ : (X + 1) * 1 ≤ r.length * 1 := Nat.mul_le_mul_right _ b5; rw [Nat.add_mul] at y_; simp only [List.length_cons, List.length_nil]; omega) ai c7; ⟨w', he, h', (by exact h'.sub (.cons_cons _ (.cons _ (.cons_cons _ (.cons_cons _ (.refl _))))))⟩) ?_
        refine ops_conv (l' := [(55, vP i (X * 1)), (54, vI t), (47, vI x), (40, vI f), (39, sl (sa i) y b), (3, vI f), (0, vP g 0), (2, vI a), (8, vI (o.length : Int)), (9, vI a), (12, vI a), (13, vI f)]) (M' := Mem w0 (.blk g [sl (sa i) y b, sl j p c] 28 :: ow (sa i) y b 3 1 ba :: ow j p c 3 1 C :: Fz F W :: cs)) (by first | rfl | ((try dsimp only [sl, ow]); rw [ai])) (fun u k => by first | exact k | ((try dsimp only [sl, ow] at k ⊢); rw [ai] at k; exact k)) ?_
        obtain ⟨Y, ce, c0⟩ := idx_some co
        have d1 := (List.getElem?_eq_some_iff.1 c0).1
        obtain ⟨gc, hr265, f0⟩ := bj.at_ Y dm c0
        obtain rfl := hr265
        refine ops_val (op := (.indexAddr 22 (.tmp 39) (.tmp 40))) (d := some 56) (v := vP i (Y * 1)) ⟨by kernel_rfl⟩ (run_indexRow Try.underlying22 (z := 1) (by kernel_rfl) rfl rfl ce d1 rfl) ?_
        refine oq [] [(56, vP i (Y * 1)), (54, vI t), (3, vI f), (0, vP g 0), (2, vI a), (8, vI (o.length : Int)), (9, vI a), (12, vI a), (13, vI f)] ?_
        obtain ⟨ez, fs, b6, bw⟩ := upd_some cp
        obtain rfl : Y = ez := by have := ce; omega
        have aj : y.length = K.length := by rw [bw, List.length_set]
        obtain ⟨bn, c8⟩ : ∃ y_, setAll ba (Y * 1 + 0) [vI t] = y_ := ⟨_, rfl⟩
        have eg : RepL (Rep.int .i64) F W K bn := by rw [bw, ← c8]; exact RepL.set bj (List.getElem?_eq_getElem b6) (fun vs_ hr_ _ => by obtain rfl := hr_; exact ⟨rfl, Nat.le_of_ble_eq_true rfl⟩)
        refine ops_store (an := []) (evs := [.store ⟨i, Y * 1, none⟩ (vI t)]) ⟨by kernel_rfl⟩ (fun u k G => let ⟨w', he, h'⟩ := k.ostore' 1 rfl (Y * 1 + 0) [vI t] (by have z_ : ba.length = y.length * 1 := bj.len; have y_ : (Y + 1) * 1 ≤ y.length * 1 := Nat.mul_le_mul_right _ b6; rw [Nat.add_mul] at y_; simp only [List.length_cons, List.length_nil]; omega) aj c8; ⟨w', he, h', (by first | (refine h'.sub ?_; simp; done) | ((try dsimp only [sl, ow, sa] at h' ⊢); (try simp only [← aj] at h' ⊢); (try simp only [← ai] at h' ⊢); (try simp only [← dx] at h' ⊢); (try simp only [← dw] at h' ⊢); (try simp only [← ah] at h' ⊢); (try simp only [← ag] at h' ⊢); exact h'.sub (by simp)))⟩) ?_
        refine ops_conv (l' := [(56, vP i (Y * 1)), (54, vI t), (3, vI f), (0, vP g 0), (2, vI a), (8, vI (o.length : Int)), (9, vI a), (12, vI a), (13, vI f)]) (M' := Mem w0 (.blk g [sl (sa i) K b, sl j p c] 28 :: ow (sa i) K b 3 1 bn :: ow j p c 3 1 C :: Fz F W :: cs)) (by first | rfl | ((try dsimp only [sl, ow]); rw [aj])) (fun u k => by first | exact k | ((try dsimp only [sl, ow] at k ⊢); rw [aj] at k; exact k)) ?_
        refine ops_nil ?_
        exact fj ea (K, bn) ⟨q, eg⟩ 0 []
       ·
        refine tree_leaf ?_
        refine ops_mem (d := some 54) (an := [.v (vI t)]) (evs := [.load ⟨i, a7 * 1, none⟩ (vI t)]) (v := vI t) ⟨by kernel_rfl⟩ (fun u k G => ⟨u, ⟨k.ocell 1 rfl (ck 0 _ rfl), rfl⟩, k, G⟩) ?_
        refine ops_mem (d := some 47) (an := [.v (vI x)]) (evs := [.load ⟨i, ao * 1, none⟩ (vI x)]) (v := vI x) ⟨by kernel_rfl⟩ (fun u k G => ⟨u, ⟨k.ocell 1 rfl (cj 0 _ rfl), rfl⟩, k, G⟩) ?_
        obtain ⟨Z, cf, c1⟩ := idx_some cm
        have d2 := (List.getElem?_eq_some_iff.1 c1).1
        obtain ⟨gd, hr281, f1⟩ := ab.at_ Z dl c1
        obtain rfl := hr281
        refine ops_val (op := (.indexAddr 22 (.tmp 34) (.tmp 35))) (d := some 55) (v := vP i (Z * 1)) ⟨by kernel_rfl⟩ (run_indexRow Try.underlying22 (z := 1) (by kernel_rfl) rfl rfl cf d2 rfl) ?_
        refine oq [] [(55, vP i (Z * 1)), (47, vI x), (54, vI t), (40, vI f), (39, sl (sa i) r b), (3, vI f), (0, vP g 0), (2, vI a), (8, vI (o.length : Int)), (9, vI a), (12, vI a), (13, vI f)] ?_
        obtain ⟨e0, ft, b7, bx⟩ := upd_some cn
        obtain rfl : Z = e0 := by have := cf; omega
        have av : r.length = y.length := by rw [bx, List.length_set]
        obtain ⟨bb, c9⟩ : ∃ y_, setAll H (Z * 1 + 0) [vI x] = y_ := ⟨_, rfl⟩
        have bk : RepL (Rep.int .i64) F W y bb := by rw [bx, ← c9]; exact RepL.set ab (List.getElem?_eq_getElem b7) (fun vs_ hr_ _ => by obtain rfl := hr_; exact ⟨rfl, Nat.le_of_ble_eq_true rfl⟩)
        refine ops_store (an := []) (evs := [.store ⟨i, Z * 1, none⟩ (vI x)]) ⟨by kernel_rfl⟩ (fun u k G => let ⟨w', he, h'⟩ := k.ostore' 1 rfl (Z * 1 + 0) [vI x] (by have z_ : H.length = r.length * 1 := ab.len; have y_ : (Z + 1) * 1 ≤ r.length * 1 := Nat.mul_le_mul_right _ b7; rw [Nat.add_mul] at y_; simp only [List.length_cons, List.length_nil]; omega) av c9; ⟨w', he, h', (by exact h'.sub (.cons_cons _ (.cons _ (.cons_cons _ (.cons_cons _ (.refl _))))))⟩) ?_
        refine ops_conv (l' := [(55, vP i (Z * 1)), (47, vI x), (54, vI t), (40, vI f), (39, sl (sa i) y b), (3, vI f), (0, vP g 0), (2, vI a), (8, vI (o.length : Int)), (9, vI a), (12, vI a), (13, vI f)]) (M' := Mem w0 (.blk g [sl (sa i) y b, sl j p c] 28 :: ow (sa i) y b 3 1 bb :: ow j p c 3 1 C :: Fz F W :: cs)) (by first | rfl | ((try dsimp only [sl, ow]); rw [av])) (fun u k => by first | exact k | ((try dsimp only [sl, ow] at k ⊢); rw [av] at k; exact k)) ?_
        obtain ⟨aa, cg, c2⟩ := idx_some co
        have d3 := (List.getElem?_eq_some_iff.1 c2).1
        obtain ⟨ge, hr297, f2⟩ := bk.at_ aa dm c2
        obtain rfl := hr297
        refine ops_val (op := (.indexAddr 22 (.tmp 39) (.tmp 40))) (d := some 56) (v := vP i (aa * 1)) ⟨by kernel_rfl⟩ (run_indexRow Try.underlying22 (z := 1) (by kernel_rfl) rfl rfl cg d3 rfl) ?_
        refine oq [] [(56, vP i (aa * 1)), (54, vI t), (3, vI f), (0, vP g 0), (2, vI a), (8, vI (o.length : Int)), (9, vI a), (12, vI a), (13, vI f)] ?_
        obtain ⟨e1, fu, b8, bz⟩ := upd_some cp
        obtain rfl : aa = e1 := by have := cg; omega
        have aw : y.length = K.length := by rw [bz, List.length_set]
        obtain ⟨bp, da⟩ : ∃ y_, setAll bb (aa * 1 + 0) [vI t] = y_ := ⟨_, rfl⟩
        have eh : RepL (Rep.int .i64) F W K bp := by rw [bz, ← da]; exact RepL.set bk (List.getElem?_eq_getElem b8) (fun vs_ hr_ _ => by obtain rfl := hr_; exact ⟨rfl, Nat.le_of_ble_eq_true rfl⟩)
        refine ops_store (an := []) (evs := [.store ⟨i, aa * 1, none⟩ (vI t)]) ⟨by kernel_rfl⟩ (fun u k G => let ⟨w', he, h'⟩ := k.ostore' 1 rfl (aa * 1 + 0) [vI t] (by have z_ : bb.length = y.length * 1 := bk.len; have y_ : (aa + 1) * 1 ≤ y.length * 1 := Nat.mul_le_mul_right _ b8; rw [Nat.add_mul] at y_; simp only [List.length_cons, List.length_nil]; omega) aw da; ⟨w', he, h', (by first | (refine h'.sub ?_; simp; done) | ((try dsimp only [sl, ow, sa] at h' ⊢); (try simp only [← aw] at h' ⊢); (try simp only [← av] at h' ⊢); (try simp only [← aj] at h' ⊢); (try simp only [← ai] at h' ⊢); (try simp only [← dx] at h' ⊢); (try simp only [← dw] at h' ⊢); exact h'.sub (by simp)))⟩) ?_
        refine ops_conv (l' := [(56, vP i (aa * 1)), (54, vI t), (3, vI f), (0, vP g 0), (2, vI a), (8, vI (o.length : Int)), (9, vI a), (12, vI a), (13, vI f)]) (M' := Mem w0 (.blk g [sl (sa i) K b, sl j p c] 28 :: ow (sa i) K b 3 1 bp :: ow j p c 3 1 C :: Fz F W :: cs)) (by first | rfl | ((try dsimp only [sl, ow]); rw [aw])) (fun u k => by first | exact k | ((try dsimp only [sl, ow] at k ⊢); rw [aw] at k; exact k)) ?_
        refine ops_nil ?_
        exact fj ea (K, bp) ⟨q, eh⟩ 0 []
     ·
      refine st_skip (fin_block ?_)
      exact fj dc (r, H, p, C) ⟨q, ab, ad⟩ 0 []
   ·
    refine st_exit (fin_exit_then (fin_exit_then (fin_exit (fin_block ?_))))
    obtain rfl := Option.some.inj q
    obtain rfl := fe _ rfl
    have q : (tourref3_Model_Sort_j2 a) r p = some o1 := fg
    exact fj e4 (r, H, p, C) ⟨q, ab, ad⟩ 0 []
 ·
  refine st_exit (fin_exit_then (fin_exit_then (fin_exit ?_)))
  obtain rfl := Option.some.inj q
  obtain rfl := fd _ rfl
  have q : some (l2, l5) = some (ak, al) := ff
  obtain ⟨rfl, rfl⟩ := si2 q
  exact fr [] (y3, y6) ⟨h4, h7⟩ 0 []
theorem column_Store_int_Len_ok {r : Nat} {d : Option Addr} {i : Nat} {q : List Int} {s : List Value} {f : Option Addr} {j : Nat} {c : List Int} {t : List Value} {g : Nat} {p : Array MapEntry} {o : Nat} {v : List (Int × Int)} (B : Mem w0 (.blk r [sl d q i, sl f c j, .map (some g)] 44 :: ow d q i 3 1 s :: ow f c j 3 1 t :: .obj g (.map p o) :: Fz F W :: cs) w) (x : RepL (Rep.int .i64) F W q s) (y : RepL (Rep.int .i64) F W c t) (z : MapOK (fun A : Int => Value.int .i64 A) (Rep.int .i64) false F W v p o) {u : Int} (C : column_Store_int_Len q c v = some u) : Calls Try.prog 23 #[vP r 0] w (Post w0 (fun ((k, m, b, a) : (List Value) × (List Value) × (Array MapEntry) × Nat) => (RepL (Rep.int .i64) F W q k) ∧ (RepL (Rep.int .i64) F W c m) ∧ (MapOK (fun A : Int => Value.int .i64 A) (Rep.int .i64) false F W v b a)) (fun (k, m, b, a) => vI u) (fun (k, m, b, a) => .blk r [sl d q i, sl f c j, .map (some g)] 44 :: ow d q i 3 1 k :: ow f c j 3 1 m :: .obj g (.map b a) :: Fz F W :: cs)) := by
 unfold column_Store_int_Len at C
 refine sx_calls Try.func23 rfl (n := 8) (by kernel_rfl) (l := [(0, vP r 0)]) rfl (by rfl) B ?_
 refine st_seq (st_region [oF 0] (by rfl) ?_)
 refine oq [oF 0] [(0, vP r 0)] ?_
 refine ops_nil (fin_then (st_seq ?_))
 refine st_region (oFs 0 6) (by rfl) ?_
 refine oq (oFs 0 3) [(5, vP r 1)] ?_
 refine oM 6 0 1 ?_
 refine oq [oF 4, oF 5] [(2, vI (c.length : Int))] ?_
 refine ops_nil (fin_then (st_ret ?_))
 obtain rfl := Option.some.inj C
 exact fr [2] (s, t, p, o) ⟨x, y, z⟩ 0 []
theorem column_Store_int_Row_ok {u : Nat} {f : Option Addr} {i : Nat} {o : List Int} {q : List Value} {g : Option Addr} {j : Nat} {p : List Int} {r : List Value} {a : Nat} {c : Array MapEntry} {b : Nat} {x : List (Int × Int)} {n : Int} (I : Mem w0 (.blk u [sl f o i, sl g p j, .map (some a)] 44 :: ow f o i 3 1 q :: ow g p j 3 1 r :: .obj a (.map c b) :: Fz F W :: cs) w) (A : RepL (Rep.int .i64) F W o q) (B : RepL (Rep.int .i64) F W p r) (y : MapOK (fun G : Int => Value.int .i64 G) (Rep.int .i64) false F W x c b) {C : Int} (z : column_Store_int_Row o p x n = some C) : Calls Try.prog 24 #[vP u 0, vI n] w (Post w0 (fun ((s, t, m, k) : (List Value) × (List Value) × (Array MapEntry) × Nat) => (RepL (Rep.int .i64) F W o s) ∧ (RepL (Rep.int .i64) F W p t) ∧ (MapOK (fun G : Int => Value.int .i64 G) (Rep.int .i64) false F W x m k)) (fun (s, t, m, k) => vI C) (fun (s, t, m, k) => .blk u [sl f o i, sl g p j, .map (some a)] 44 :: ow f o i 3 1 s :: ow g p j 3 1 t :: .obj a (.map m k) :: Fz F W :: cs)) := by
 unfold column_Store_int_Row at z
 refine sx_calls Try.func24 rfl (n := 18) (by kernel_rfl) (l := [(0, vP u 0), (1, vI n)]) rfl (by rfl) I ?_
 refine st_seq (st_region [oF 0] (by rfl) ?_)
 refine oq [oF 0] [(0, vP u 0), (1, vI n)] ?_
 refine ops_nil (fin_then (st_seq (st_seq ?_)))
 refine st_region (oFs 0 11) (by rfl) ?_
 refine oq (oFs 0 3) [(10, vP u 2), (1, vI n)] ?_
 refine oM 11 0 2 ?_
 refine oq [oF 4] [(12, vI n), (11, .map (some a))] ?_
 obtain ⟨E, K, z⟩ := obind z
 obtain ⟨L, hr4, hrun5⟩ := y.get (KeyLaw.int Try.underlying3) Try.underlying42 n 0 (rfl) (fun u_ => Try.zeroValue3 u_)
 have hr4 : (Rep.int .i64).rd F W E L := by rw [← Option.some.inj K]; exact hr4
 obtain rfl := hr4
 refine ops_law (op := (.lookup 42 (.tmp 11) (.tmp 12) true)) (d := some 13) (σ := Unit) (v := fun _ => .tuple #[vI E, .bool ((mget x n).isSome)]) (M' := fun _ => Mem w0 (.blk u [sl f o i, sl g p j, .map (some a)] 44 :: ow f o i 3 1 q :: ow g p j 3 1 r :: .obj a (.map c b) :: Fz F W :: cs)) ⟨by kernel_rfl⟩ (fun o_ M ho_ H N => ⟨(), M, run_lookupV rfl rfl (hrun5 true a M (H.mapAt 3 rfl)) o_ ho_, H, trivial⟩) (fun _ => ?_)
 refine oq (oFs 6 5) [(6, .bool ((mget x n).isSome)), (5, vI E)] ?_
 refine ops_nil (fin_then (st_seq (st_region [oF 0] (by rfl) ?_)))
 refine oq [oF 0] [(16, .bool ((mget x n).isSome)), (5, vI E)] ?_
 refine ops_nil (fin_then ?_)
 refine sif z (fun J z => ?_) (fun J z => ?_)
 ·
  refine st_seq (st_region [oF 0, oF 1] (by rfl) ?_)
  refine oq [oF 0, oF 1] [(4, vI E)] ?_
  refine ops_nil (fin_then (st_ret (fin_ret_then ?_)))
  obtain rfl := Option.some.inj z
  exact fr [4] (q, r, c, b) ⟨A, B, y⟩ 0 []
 ·
  refine st_skip (fin_then (st_seq (st_region [oF 0] (by rfl) ?_)))
  refine oq [oF 0] [(4, vI (-1))] ?_
  refine ops_nil (fin_then (st_ret ?_))
  obtain rfl := Option.some.inj z
  exact fr [4] (q, r, c, b) ⟨A, B, y⟩ 0 []
theorem column_Store_int_Get_ok {f : Nat} {b : Option Addr} {c : Nat} {m : List Int} {r : List Value} {j : Option Addr} {k : Nat} {q : List Int} {s : List Value} {a : Nat} {i : Array MapEntry} {g : Nat} {y : List (Int × Int)} {n : Int} (X : Mem w0 (.blk f [sl b m c, sl j q k, .map (some a)] 44 :: ow b m c 3 1 r :: ow j q k 3 1 s :: .obj a (.map i g) :: Fz F W :: cs) w) (A : RepL (Rep.int .i64) F W m r) (D : RepL (Rep.int .i64) F W q s) (B : MapOK (fun V : Int => Value.int .i64 V) (Rep.int .i64) false F W y i g) {E : Int} {G : Bool} (x : column_Store_int_Get m q y n = some (E, G)) : Calls Try.prog 25 #[vP f 0, vI n] w (Post w0 (fun ((t, u, p, o) : (List Value) × (List Value) × (Array MapEntry) × Nat) => (RepL (Rep.int .i64) F W m t) ∧ (RepL (Rep.int .i64) F W q u) ∧ (MapOK (fun V : Int => Value.int .i64 V) (Rep.int .i64) false F W y p o)) (fun (t, u, p, o) => .tuple #[vI E, .bool G]) (fun (t, u, p, o) => .blk f [sl b m c, sl j q k, .map (some a)] 44 :: ow b m c 3 1 t :: ow j q k 3 1 u :: .obj a (.map p o) :: Fz F W :: cs)) := by
 unfold column_Store_int_Get at x
 refine sx_calls Try.func25 rfl (n := 28) (by kernel_rfl) (l := [(0, vP f 0), (1, vI n)]) rfl (by rfl) X ?_
 refine st_seq (st_region [oF 0, oF 1] (by rfl) ?_)
 refine oq [oF 0, oF 1] [(0, vP f 0), (1, vI n)] ?_
 refine ops_nil (fin_then (st_seq ?_))
 refine st_region (oFs 0 11) (by rfl) ?_
 refine oq (oFs 0 3) [(12, vP f 2), (0, vP f 0), (1, vI n)] ?_
 refine oM 13 0 2 ?_
 refine oq [oF 4] [(14, vI n), (13, .map (some a)), (0, vP f 0)] ?_
 obtain ⟨H, Z, x⟩ := obind x
 obtain ⟨ab, hr4, hrun5⟩ := B.get (KeyLaw.int Try.underlying3) Try.underlying42 n 0 (rfl) (fun u_ => Try.zeroValue3 u_)
 have hr4 : (Rep.int .i64).rd F W H ab := by rw [← Option.some.inj Z]; exact hr4
 obtain rfl := hr4
 refine ops_law (op := (.lookup 42 (.tmp 13) (.tmp 14) true)) (d := some 15) (σ := Unit) (v := fun _ => .tuple #[vI H, .bool ((mget y n).isSome)]) (M' := fun _ => Mem w0 (.blk f [sl b m c, sl j q k, .map (some a)] 44 :: ow b m c 3 1 r :: ow j q k 3 1 s :: .obj a (.map i g) :: Fz F W :: cs)) ⟨by kernel_rfl⟩ (fun o_ L ho_ C hS => ⟨(), L, run_lookupV rfl rfl (hrun5 true a L (C.mapAt 3 rfl)) o_ ho_, C, trivial⟩) (fun _ => ?_)
 refine oq (oFs 6 5) [(7, .bool ((mget y n).isSome)), (6, vI H), (0, vP f 0)] ?_
 refine ops_nil (fin_then (st_seq (st_seq (st_region [oF 0, oF 1] (by rfl) ?_))))
 refine oq [oF 0, oF 1] [(19, .bool (!((mget y n).isSome))), (6, vI H), (0, vP f 0)] ?_
 refine ops_nil (fin_then ?_)
 refine sif x (fun Y x => ?_) (fun Y x => ?_)
 ·
  refine st_seq (st_region [oF 0] (by rfl) ?_)
  refine oq [oF 0] [(8, vI 0)] ?_
  refine ops_nil (fin_then (st_seq ?_))
  refine st_region (oFs 0 3) (by rfl) ?_
  refine oq (oFs 0 3) [(5, .bool false), (4, vI 0)] ?_
  refine ops_nil (fin_then (st_ret (fin_ret_then ?_)))
  obtain ⟨rfl, rfl⟩ := si2 x
  exact fr [4, 5] (r, s, i, g) ⟨A, D, B⟩ 0 []
 ·
  refine st_skip (fin_then (st_seq ?_))
  refine st_region (oFs 0 9) (by rfl) ?_
  refine oq (oFs 0 3) [(23, vP f 0), (6, vI H)] ?_
  refine oM 24 0 0 ?_
  refine oq [oF 4] [(25, vI H), (24, sl b m c)] ?_
  obtain ⟨M, aa, x⟩ := obind x
  obtain ⟨U, O, J⟩ := idx_some aa
  have I := (List.getElem?_eq_some_iff.1 J).1
  refine ops_fact (fun L C => C.orowSome 1 rfl (Nat.lt_of_le_of_lt (Nat.zero_le _) I)) ?_
  rintro ⟨N, rfl, -⟩
  obtain ⟨ad, hr13, T⟩ := A.at_ U M J
  obtain rfl := hr13
  refine ops_val (op := (.indexAddr 22 (.tmp 24) (.tmp 25))) (d := some 26) (v := vP N (U * 1)) ⟨by kernel_rfl⟩ (run_indexRow Try.underlying22 (z := 1) (by kernel_rfl) rfl rfl O I rfl) ?_
  refine ops_mem (d := some 27) (an := [.v (vI M)]) (evs := [.load ⟨N, U * 1, none⟩ (vI M)]) (v := vI M) ⟨by kernel_rfl⟩ (fun L C hS => ⟨L, ⟨C.ocell 1 rfl (T 0 _ rfl), rfl⟩, C, trivial⟩) ?_
  refine oq [oF 7, oF 8] [(5, .bool true), (4, vI M)] ?_
  refine ops_nil (fin_then (st_ret ?_))
  obtain ⟨rfl, rfl⟩ := si2 x
  exact fr [4, 5] (r, s, i, g) ⟨A, D, B⟩ 0 []
def column_Store_int_All__t0 : List Row := [⟨0, 32, 1⟩, ⟨1, 64, 32⟩, ⟨2, 128, 64⟩, ⟨4, 256, 128⟩, ⟨8, 512, 256⟩, ⟨0, 1024, 1⟩, ⟨32, 2048, 1024⟩, ⟨64, 4096, 2048⟩, ⟨128, 8192, 4096⟩, ⟨272, 16384, 8192⟩, ⟨0, 8, 0⟩, ⟨0, 16, 0⟩, ⟨3615, 0, 520⟩, ⟨8191, 0, 16400⟩]
theorem column_Store_int_All_ok {z : Nat} {a : Option Addr} {c : Nat} {k : List Int} {s : List Value} {g : Option Addr} {i : Nat} {m : List Int} {t : List Value} {j : Nat} {q : Array MapEntry} {p : Nat} {em : List (Int × Int)} (fx : Mem w0 (.blk z [sl a k c, sl g m i, .map (some j)] 44 :: ow a k c 3 1 s :: ow g m i 3 1 t :: .obj j (.map q p) :: Fz F W :: cs) w) (cj : RepL (Rep.int .i64) F W k s) (ck : RepL (Rep.int .i64) F W m t) (et : MapOK (fun o : Int => Value.int .i64 o) (Rep.int .i64) false F W em q p) {cl : List Int} {cm : List Int} (hp : column_Store_int_All k m em = some (cl, cm)) : Calls Try.prog 26 #[vP z 0] w (Post w0 (fun ((dg, de, di, dk, dh, df, dj, dl, dm, dn, ci, ch) : Nat × (Option Addr) × Nat × (List Value) × Nat × (Option Addr) × Nat × (List Value) × (List Value) × (List Value) × (Array MapEntry) × Nat) => (RepL (Rep.int .i64) F W cl dk) ∧ (RepL (Rep.int .i64) F W cm dl) ∧ (RepL (Rep.int .i64) F W k dm) ∧ (RepL (Rep.int .i64) F W m dn) ∧ (MapOK (fun o : Int => Value.int .i64 o) (Rep.int .i64) false F W em ci ch)) (fun (dg, de, di, dk, dh, df, dj, dl, dm, dn, ci, ch) => .func (.func 32) #[] #[vP dg 0, vP dh 0]) (fun (dg, de, di, dk, dh, df, dj, dl, dm, dn, ci, ch) => .blk dg [sl de cl di] 22 :: ow de cl di 3 1 dk :: .blk dh [sl df cm dj] 22 :: ow df cm dj 3 1 dl :: .blk z [sl a k c, sl g m i, .map (some j)] 44 :: ow a k c 3 1 dm :: ow g m i 3 1 dn :: .obj j (.map ci ch) :: Fz F W :: cs)) := by
 unfold column_Store_int_All at hp
 refine sx_calls Try.func26 rfl (n := 16) (by kernel_rfl) (l := [(0, vP z 0)]) rfl (by rfl) fx ?_
 refine st_seq (st_region [oF 0] (by rfl) ?_)
 refine oq [oF 0] [(0, vP z 0)] ?_
 refine ops_nil (fin_then ?_)
 refine st_join1 (σ := Nat × (Option Addr) × Nat × (List Int) × (List Value) × Nat × (Option Addr) × Nat × (List Int) × (List Value)) (L := fun o => match o with | (b1, A2, c3, l4, y5, b7, A8, c9, dp, du) => [(3, vP b1 0), (4, vP b7 0)]) (N := fun o => match o with | (b1, A2, c3, l4, y5, b7, A8, c9, dp, du) => Mem w0 (.blk b1 [sl A2 l4 c3] 22 :: ow A2 l4 c3 3 1 y5 :: .blk b7 [sl A8 dp c9] 22 :: ow A8 dp c9 3 1 du :: .blk z [sl a k c, sl g m i, .map (some j)] 44 :: ow a k c 3 1 s :: ow g m i 3 1 t :: .obj j (.map q p) :: Fz F W :: cs)) (I := fun o => match o with | (b1, A2, c3, l4, y5, b7, A8, c9, dp, du) => (column_Store_int_All_j1 l4 dp = some (cl, cm)) ∧ (RepL (Rep.int .i64) F W l4 y5) ∧ (RepL (Rep.int .i64) F W dp du)) ?_ ?_
 ·
  rintro ⟨b1, A2, c3, l4, y5, b7, A8, c9, dp, du⟩ ⟨hp, h6, fp⟩
  unfold column_Store_int_All_j1 at hp
  refine st_seq (st_region [oF 0, oF 1] (by rfl) ?_)
  refine oq [oF 0, oF 1] [(2, .func (.func 32) #[] #[vP b1 0, vP b7 0])] ?_
  refine ops_nil (fin_then (st_ret ?_))
  obtain ⟨rfl, rfl⟩ := si2 hp
  exact fr [2] (b1, A2, c3, y5, b7, A8, c9, du, s, t, q, p) ⟨h6, fp, cj, ck, et⟩ 0 []
 ·
  intro fo
  refine st_seq ?_
  obtain ⟨r, dy, hp⟩ := obind hp
  obtain ⟨x, dz, hp⟩ := obind hp
  refine st_region_dagF (Mem w0 (.blk z [sl a k c, sl g m i, .map (some j)] 44 :: ow a k c 3 1 s :: ow g m i 3 1 t :: .obj j (.map q p) :: Fz F W :: cs)) column_Store_int_All__t0 (f := 14) (by kernel_rfl) (by kernel_rfl) (by kernel_rfl) (M' := Mem w0 (.blk z [sl a k c, sl g m i, .map (some j)] 44 :: ow a k c 3 1 s :: ow g m i 3 1 t :: .obj j (.map q p) :: Fz F W :: cs)) (fun u y => ⟨y.drew, y.drew.sub (.cons_cons _ (.cons_cons _ (.cons_cons _ (.cons_cons _ (.cons_cons _ (.refl _))))))⟩) (fun A B => ?_)
  refine dagF_have (f := 0) (L := 16383) (σ := Nat × (Option Addr) × Nat × (List Value) × Nat × (Option Addr) × Nat × (List Value)) (Lx := fun o => match o with | (a7, ay, ba, b9, a8, az, bb, ca) => [(4, vP a7 0), (3, vP a8 0)]) (N := fun o => match o with | (a7, ay, ba, b9, a8, az, bb, ca) => Mem w0 (.blk a7 [sl ay x ba] 22 :: ow ay x ba 3 1 b9 :: .blk a8 [sl az r bb] 22 :: ow az r bb 3 1 ca :: .blk z [sl a k c, sl g m i, .map (some j)] 44 :: ow a k c 3 1 s :: ow g m i 3 1 t :: .obj j (.map q p) :: Fz F W :: cs)) (I := fun o => match o with | (a7, ay, ba, b9, a8, az, bb, ca) => (RepL (Rep.int .i64) F W x b9) ∧ (RepL (Rep.int .i64) F W r ca)) ?_ (fun es => ?_)
  ·
   rintro ⟨a7, ay, ba, b9, a8, az, bb, ca⟩ ⟨fm, fn⟩
   refine dagF_conv (l' := [(4, vP a7 0), (3, vP a8 0)]) (M' := Mem w0 (.blk a7 [sl ay x ba] 22 :: ow ay x ba 3 1 b9 :: .blk a8 [sl az r bb] 22 :: ow az r bb 3 1 ca :: .blk z [sl a k c, sl g m i, .map (some j)] 44 :: ow a k c 3 1 s :: ow g m i 3 1 t :: .obj j (.map q p) :: Fz F W :: cs)) rfl (fun _ h => h) ?_
   refine dagF_end A (by kernel_rfl) ?_
   exact fj fo (a8, az, bb, r, ca, a7, ay, ba, x, b9) ⟨hp, fn, fm⟩ 9 [2, 3, 0, 1, 4, 5, 6, 7, 8]
  refine dagF_have (f := 2) (L := 4095) (σ := Nat × (Option Addr) × Nat × (List Value) × Nat × (Option Addr) × Nat × (List Value) × (Option Addr) × Nat × (List Value) × (Option Addr) × Nat × (List Value)) (Lx := fun o => match o with | (a5, bx, b0, cu, a6, bz, b2, cv, J, ad, b6, K, ae, b8) => [(4, vP a5 0), (3, vP a6 0), (14, sl J x ad), (9, sl K r ae)]) (N := fun o => match o with | (a5, bx, b0, cu, a6, bz, b2, cv, J, ad, b6, K, ae, b8) => Mem w0 (.blk a5 [sl bx ([] : List Int) b0] 22 :: ow bx ([] : List Int) b0 3 1 cu :: .blk a6 [sl bz ([] : List Int) b2] 22 :: ow bz ([] : List Int) b2 3 1 cv :: ow J x ad 3 1 b6 :: ow K r ae 3 1 b8 :: .blk z [sl a k c, sl g m i, .map (some j)] 44 :: ow a k c 3 1 s :: ow g m i 3 1 t :: .obj j (.map q p) :: Fz F W :: cs)) (I := fun o => match o with | (a5, bx, b0, cu, a6, bz, b2, cv, J, ad, b6, K, ae, b8) => (RepL (Rep.int .i64) F W ([] : List Int) cu) ∧ (RepL (Rep.int .i64) F W ([] : List Int) cv) ∧ (RepL (Rep.int .i64) F W x b6) ∧ (RepL (Rep.int .i64) F W r b8)) ?_ (fun dw => ?_)
  ·
   rintro ⟨a5, bx, b0, cu, a6, bz, b2, cv, J, ad, b6, K, ae, b8⟩ ⟨fy, fz, fk, fl⟩
   refine dagF_conv (l' := [(4, vP a5 0), (3, vP a6 0), (14, sl J x ad), (9, sl K r ae)]) (M' := Mem w0 (.blk a5 [sl bx ([] : List Int) b0] 22 :: ow bx ([] : List Int) b0 3 1 cu :: .blk a6 [sl bz ([] : List Int) b2] 22 :: ow bz ([] : List Int) b2 3 1 cv :: ow J x ad 3 1 b6 :: ow K r ae 3 1 b8 :: .blk z [sl a k c, sl g m i, .map (some j)] 44 :: ow a k c 3 1 s :: ow g m i 3 1 t :: .obj j (.map q p) :: Fz F W :: cs)) rfl (fun _ h => h) ?_
   refine dagF_ways [(12, [oF 13], 0)] A B (fun _ d _ _ _ h => by cases d <;> exact h) (by kernel_rfl) rfl ⟨by kernel_rfl, ?_, trivial⟩
   ·
    refine oSS 2 0 [sl K r ae] (fun w' h' => (by exact h'.sub (.cons _ (.cons _ (.cons _ (.cons _ (.cons _ (.cons _ (.cons_cons _ (.cons_cons _ (.cons_cons _ (.cons_cons _ (.cons_cons _ (.refl _)))))))))))))) ?_
    refine oSS 0 0 [sl J x ad] (fun w' h' => (by exact h'.sub (.cons _ (.cons _ (.cons _ (.cons _ (.cons _ (.cons _ (.cons_cons _ (.cons_cons _ (.cons_cons _ (.cons_cons _ (.cons_cons _ (.refl _)))))))))))))) ?_
    refine ops_nil ?_
    exact to_dagF es (a5, J, ad, b6, a6, K, ae, b8) ⟨fk, fl⟩ (by kernel_rfl) (look_has ⟨rfl, rfl, trivial⟩) (fun u y => y.pick 11 [0, 4, 2, 5, 6, 7, 8, 9, 10] (by kernel_rfl) (by decide) rfl)
  refine dagF_have (f := 3) (L := 3583) (σ := Nat × (Option Addr) × Nat × (List Value) × Nat × (Option Addr) × Nat × (List Value) × (Option Addr) × Nat × (List Value)) (Lx := fun o => match o with | (aa, C, E, bh, ab, D, G, bi, H, ac, bj) => [(4, vP aa 0), (3, vP ab 0), (9, sl H r ac), (13, sl a k c)]) (N := fun o => match o with | (aa, C, E, bh, ab, D, G, bi, H, ac, bj) => Mem w0 (.blk aa [sl C ([] : List Int) E] 22 :: ow C ([] : List Int) E 3 1 bh :: .blk ab [sl D ([] : List Int) G] 22 :: ow D ([] : List Int) G 3 1 bi :: ow H r ac 3 1 bj :: .blk z [sl a k c, sl g m i, .map (some j)] 44 :: ow a k c 3 1 s :: ow g m i 3 1 t :: .obj j (.map q p) :: Fz F W :: cs)) (I := fun o => match o with | (aa, C, E, bh, ab, D, G, bi, H, ac, bj) => (RepL (Rep.int .i64) F W ([] : List Int) bh) ∧ (RepL (Rep.int .i64) F W ([] : List Int) bi) ∧ (RepL (Rep.int .i64) F W r bj)) ?_ (fun dv => ?_)
  ·
   rintro ⟨aa, C, E, bh, ab, D, G, bi, H, ac, bj⟩ ⟨fg, fh, fi⟩
   refine dagF_conv (l' := [(4, vP aa 0), (3, vP ab 0), (9, sl H r ac), (13, sl a k c)]) (M' := Mem w0 (.blk aa [sl C ([] : List Int) E] 22 :: ow C ([] : List Int) E 3 1 bh :: .blk ab [sl D ([] : List Int) G] 22 :: ow D ([] : List Int) G 3 1 bi :: ow H r ac 3 1 bj :: .blk z [sl a k c, sl g m i, .map (some j)] 44 :: ow a k c 3 1 s :: ow g m i 3 1 t :: .obj j (.map q p) :: Fz F W :: cs)) rfl (fun _ h => h) ?_
   refine dagF_ways [(9, [], 2)] A B (fun _ d _ _ _ h => by cases d <;> exact h) (by kernel_rfl) rfl ⟨by kernel_rfl, ?_, trivial⟩
   ·
    refine ops_callI (σ := (Option Addr) × Nat × (List Value)) (d := some 14) (f := 20) (args := #[sl a k c]) (v := (fun o => match o with | (M, af, an) => sl M x af)) (I := (fun o => match o with | (M, af, an) => (RepL (Rep.int .i64) F W x an))) (M' := (fun o => match o with | (M, af, an) => Mem w0 (ow M x af 3 1 an :: .blk aa [sl C ([] : List Int) E] 22 :: ow C ([] : List Int) E 3 1 bh :: .blk ab [sl D ([] : List Int) G] 22 :: ow D ([] : List Int) G 3 1 bi :: ow H r ac 3 1 bj :: .blk z [sl a k c, sl g m i, .map (some j)] 44 :: ow a k c 3 1 s :: ow g m i 3 1 t :: .obj j (.map q p) :: Fz F W :: cs))) ⟨by kernel_rfl⟩ (fun u y hS => (@slices_Clone_int_int_ok u u [] (fun b => b < u.heap.size) u a c k (Mem.fz0 u) (y.ordS 6 9 rfl rfl cj rfl rfl) x dz).mono (by rintro e w' ⟨⟨M, af, an⟩, d2, rfl, h'⟩; have h' : Mem u [ow M x af 3 1 an] w' := h'.pick 2 [0] (by kernel_rfl) (by decide) rfl; exact ⟨(M, af, an), (RepL.move' (fun h => h) d2), rfl, y.join h' rfl, (hS.step h'.below)⟩)) ?_
    rintro ⟨M, af, an⟩ d2
    refine ops_nil ?_
    exact to_dagF dw (aa, C, E, bh, ab, D, G, bi, M, af, an, H, ac, bj) ⟨fg, fh, d2, fi⟩ (by kernel_rfl) (look_has ⟨rfl, rfl, rfl, rfl, trivial⟩) (fun u y => y.pick 11 [1, 2, 3, 4, 0, 5, 6, 7, 8, 9, 10] (by kernel_rfl) (by decide) rfl)
  refine dagF_have (f := 3) (L := 3071) (σ := Nat × (Option Addr) × Nat × (List Value) × (Option Addr) × Nat × (List Value) × (Option Addr) × Nat × (List Value)) (Lx := fun o => match o with | (c2, cz, c7, dt, c0, c8, b4, ax, a9, b5) => [(4, vP c2 0), (14, sl c0 x c8), (9, sl ax r a9)]) (N := fun o => match o with | (c2, cz, c7, dt, c0, c8, b4, ax, a9, b5) => Mem w0 (.blk c2 [sl cz ([] : List Int) c7] 22 :: ow cz ([] : List Int) c7 3 1 dt :: ow c0 x c8 3 1 b4 :: ow ax r a9 3 1 b5 :: .blk z [sl a k c, sl g m i, .map (some j)] 44 :: ow a k c 3 1 s :: ow g m i 3 1 t :: .obj j (.map q p) :: Fz F W :: cs)) (I := fun o => match o with | (c2, cz, c7, dt, c0, c8, b4, ax, a9, b5) => (RepL (Rep.int .i64) F W ([] : List Int) dt) ∧ (RepL (Rep.int .i64) F W x b4) ∧ (RepL (Rep.int .i64) F W r b5)) ?_ (fun ef => ?_)
  ·
   rintro ⟨c2, cz, c7, dt, c0, c8, b4, ax, a9, b5⟩ ⟨fw, fe, ff⟩
   refine dagF_conv (l' := [(4, vP c2 0), (14, sl c0 x c8), (9, sl ax r a9)]) (M' := Mem w0 (.blk c2 [sl cz ([] : List Int) c7] 22 :: ow cz ([] : List Int) c7 3 1 dt :: ow c0 x c8 3 1 b4 :: ow ax r a9 3 1 b5 :: .blk z [sl a k c, sl g m i, .map (some j)] 44 :: ow a k c 3 1 s :: ow g m i 3 1 t :: .obj j (.map q p) :: Fz F W :: cs)) rfl (fun _ h => h) ?_
   refine dagF_ways [(10, [], 2)] A B (fun _ d _ _ _ h => by cases d <;> exact h) (by kernel_rfl) rfl ⟨by kernel_rfl, ?_, trivial⟩
   ·
    refine oNS 3 [.slice none 0 0] 22 (fun e2 => ?_)
    refine ops_nil ?_
    refine fnil 3 1 ?_
    exact to_dagF dw (c2, cz, c7, dt, e2, none, 0, [], c0, c8, b4, ax, a9, b5) ⟨fw, (RepL.nil (R := (Rep.int .i64))), fe, ff⟩ (by kernel_rfl) (look_has ⟨rfl, rfl, rfl, rfl, trivial⟩) (fun u y => y.pick 11 [2, 3, 1, 0, 4, 5, 6, 7, 8, 9, 10] (by kernel_rfl) (by decide) rfl)
  refine dagF_have (f := 3) (L := 2047) (σ := Nat × (Option Addr) × Nat × (List Value) × (Option Addr) × Nat × (List Value) × (Option Addr) × Nat × (List Value)) (Lx := fun o => match o with | (c1, cw, c4, dq, cx, c5, dr, cy, c6, ds) => [(3, vP c1 0), (14, sl cx x c5), (9, sl cy r c6)]) (N := fun o => match o with | (c1, cw, c4, dq, cx, c5, dr, cy, c6, ds) => Mem w0 (.blk c1 [sl cw ([] : List Int) c4] 22 :: ow cw ([] : List Int) c4 3 1 dq :: ow cx x c5 3 1 dr :: ow cy r c6 3 1 ds :: .blk z [sl a k c, sl g m i, .map (some j)] 44 :: ow a k c 3 1 s :: ow g m i 3 1 t :: .obj j (.map q p) :: Fz F W :: cs)) (I := fun o => match o with | (c1, cw, c4, dq, cx, c5, dr, cy, c6, ds) => (RepL (Rep.int .i64) F W ([] : List Int) dq) ∧ (RepL (Rep.int .i64) F W x dr) ∧ (RepL (Rep.int .i64) F W r ds)) ?_ (fun ee => ?_)
  ·
   rintro ⟨c1, cw, c4, dq, cx, c5, dr, cy, c6, ds⟩ ⟨ft, fu, fv⟩
   refine dagF_conv (l' := [(3, vP c1 0), (14, sl cx x c5), (9, sl cy r c6)]) (M' := Mem w0 (.blk c1 [sl cw ([] : List Int) c4] 22 :: ow cw ([] : List Int) c4 3 1 dq :: ow cx x c5 3 1 dr :: ow cy r c6 3 1 ds :: .blk z [sl a k c, sl g m i, .map (some j)] 44 :: ow a k c 3 1 s :: ow g m i 3 1 t :: .obj j (.map q p) :: Fz F W :: cs)) rfl (fun _ h => h) ?_
   refine dagF_ways [(11, [], 2)] A B (fun _ d _ _ _ h => by cases d <;> exact h) (by kernel_rfl) rfl ⟨by kernel_rfl, ?_, trivial⟩
   ·
    refine oNS 4 [.slice none 0 0] 22 (fun e3 => ?_)
    refine ops_nil ?_
    refine fnil 3 1 ?_
    exact to_dagF dw (e3, none, 0, [], c1, cw, c4, dq, cx, c5, dr, cy, c6, ds) ⟨(RepL.nil (R := (Rep.int .i64))), ft, fu, fv⟩ (by kernel_rfl) (look_has ⟨rfl, rfl, rfl, rfl, trivial⟩) (fun u y => y.pick 11 [1, 0, 2, 3, 4, 5, 6, 7, 8, 9, 10] (by kernel_rfl) (by decide) rfl)
  refine dagF_have (f := 4) (L := 3567) (σ := Nat × (Option Addr) × Nat × (List Value) × Nat × (Option Addr) × Nat × (List Value)) (Lx := fun o => match o with | (cd, bm, bu, dc, ce, bn, bv, dd) => [(4, vP cd 0), (3, vP ce 0), (13, sl a k c), (8, sl g m i)]) (N := fun o => match o with | (cd, bm, bu, dc, ce, bn, bv, dd) => Mem w0 (.blk cd [sl bm ([] : List Int) bu] 22 :: ow bm ([] : List Int) bu 3 1 dc :: .blk ce [sl bn ([] : List Int) bv] 22 :: ow bn ([] : List Int) bv 3 1 dd :: .blk z [sl a k c, sl g m i, .map (some j)] 44 :: ow a k c 3 1 s :: ow g m i 3 1 t :: .obj j (.map q p) :: Fz F W :: cs)) (I := fun o => match o with | (cd, bm, bu, dc, ce, bn, bv, dd) => (RepL (Rep.int .i64) F W ([] : List Int) dc) ∧ (RepL (Rep.int .i64) F W ([] : List Int) dd)) ?_ (fun ed => ?_)
  ·
   rintro ⟨cd, bm, bu, dc, ce, bn, bv, dd⟩ ⟨fq, fs⟩
   refine dagF_conv (l' := [(4, vP cd 0), (3, vP ce 0), (13, sl a k c), (8, sl g m i)]) (M' := Mem w0 (.blk cd [sl bm ([] : List Int) bu] 22 :: ow bm ([] : List Int) bu 3 1 dc :: .blk ce [sl bn ([] : List Int) bv] 22 :: ow bn ([] : List Int) bv 3 1 dd :: .blk z [sl a k c, sl g m i, .map (some j)] 44 :: ow a k c 3 1 s :: ow g m i 3 1 t :: .obj j (.map q p) :: Fz F W :: cs)) rfl (fun _ h => h) ?_
   refine dagF_ways [(4, [], 3)] A B (fun _ d _ _ _ h => by cases d <;> exact h) (by kernel_rfl) rfl ⟨by kernel_rfl, ?_, trivial⟩
   ·
    refine ops_callI (σ := (Option Addr) × Nat × (List Value)) (d := some 9) (f := 20) (args := #[sl g m i]) (v := (fun o => match o with | (O, ag, ao) => sl O r ag)) (I := (fun o => match o with | (O, ag, ao) => (RepL (Rep.int .i64) F W r ao))) (M' := (fun o => match o with | (O, ag, ao) => Mem w0 (ow O r ag 3 1 ao :: .blk cd [sl bm ([] : List Int) bu] 22 :: ow bm ([] : List Int) bu 3 1 dc :: .blk ce [sl bn ([] : List Int) bv] 22 :: ow bn ([] : List Int) bv 3 1 dd :: .blk z [sl a k c, sl g m i, .map (some j)] 44 :: ow a k c 3 1 s :: ow g m i 3 1 t :: .obj j (.map q p) :: Fz F W :: cs))) ⟨by kernel_rfl⟩ (fun u y hS => (@slices_Clone_int_int_ok u u [] (fun b => b < u.heap.size) u g i m (Mem.fz0 u) (y.ordS 6 8 rfl rfl ck rfl rfl) r dy).mono (by rintro e w' ⟨⟨O, ag, ao⟩, d3, rfl, h'⟩; have h' : Mem u [ow O r ag 3 1 ao] w' := h'.pick 2 [0] (by kernel_rfl) (by decide) rfl; exact ⟨(O, ag, ao), (RepL.move' (fun h => h) d3), rfl, y.join h' rfl, (hS.step h'.below)⟩)) ?_
    rintro ⟨O, ag, ao⟩ d3
    refine ops_nil ?_
    exact to_dagF dv (cd, bm, bu, dc, ce, bn, bv, dd, O, ag, ao) ⟨fq, fs, d3⟩ (by kernel_rfl) (look_has ⟨rfl, rfl, rfl, rfl, trivial⟩) (fun u y => y.pick 10 [1, 2, 3, 4, 0, 5, 6, 7, 8, 9] (by kernel_rfl) (by decide) rfl)
  refine dagF_have (f := 4) (L := 2559) (σ := Nat × (Option Addr) × Nat × (List Value) × (Option Addr) × Nat × (List Value)) (Lx := fun o => match o with | (br, a4, bg, cr, bl, bt, ct) => [(4, vP br 0), (9, sl bl r bt), (13, sl a k c)]) (N := fun o => match o with | (br, a4, bg, cr, bl, bt, ct) => Mem w0 (.blk br [sl a4 ([] : List Int) bg] 22 :: ow a4 ([] : List Int) bg 3 1 cr :: ow bl r bt 3 1 ct :: .blk z [sl a k c, sl g m i, .map (some j)] 44 :: ow a k c 3 1 s :: ow g m i 3 1 t :: .obj j (.map q p) :: Fz F W :: cs)) (I := fun o => match o with | (br, a4, bg, cr, bl, bt, ct) => (RepL (Rep.int .i64) F W ([] : List Int) cr) ∧ (RepL (Rep.int .i64) F W r ct)) ?_ (fun ec => ?_)
  ·
   rintro ⟨br, a4, bg, cr, bl, bt, ct⟩ ⟨e0, e1⟩
   refine dagF_conv (l' := [(4, vP br 0), (9, sl bl r bt), (13, sl a k c)]) (M' := Mem w0 (.blk br [sl a4 ([] : List Int) bg] 22 :: ow a4 ([] : List Int) bg 3 1 cr :: ow bl r bt 3 1 ct :: .blk z [sl a k c, sl g m i, .map (some j)] 44 :: ow a k c 3 1 s :: ow g m i 3 1 t :: .obj j (.map q p) :: Fz F W :: cs)) rfl (fun _ h => h) ?_
   refine dagF_ways [(9, [], 3), (10, [], 3)] A B (fun _ d _ _ _ h => by cases d <;> exact h) (by kernel_rfl) rfl ⟨by kernel_rfl, ?_, by kernel_rfl, ?_, trivial⟩
   ·
    refine ops_callI (σ := (Option Addr) × Nat × (List Value)) (d := some 14) (f := 20) (args := #[sl a k c]) (v := (fun o => match o with | (T, ah, ap) => sl T x ah)) (I := (fun o => match o with | (T, ah, ap) => (RepL (Rep.int .i64) F W x ap))) (M' := (fun o => match o with | (T, ah, ap) => Mem w0 (ow T x ah 3 1 ap :: .blk br [sl a4 ([] : List Int) bg] 22 :: ow a4 ([] : List Int) bg 3 1 cr :: ow bl r bt 3 1 ct :: .blk z [sl a k c, sl g m i, .map (some j)] 44 :: ow a k c 3 1 s :: ow g m i 3 1 t :: .obj j (.map q p) :: Fz F W :: cs))) ⟨by kernel_rfl⟩ (fun u y hS => (@slices_Clone_int_int_ok u u [] (fun b => b < u.heap.size) u a c k (Mem.fz0 u) (y.ordS 4 7 rfl rfl cj rfl rfl) x dz).mono (by rintro e w' ⟨⟨T, ah, ap⟩, d4, rfl, h'⟩; have h' : Mem u [ow T x ah 3 1 ap] w' := h'.pick 2 [0] (by kernel_rfl) (by decide) rfl; exact ⟨(T, ah, ap), (RepL.move' (fun h => h) d4), rfl, y.join h' rfl, (hS.step h'.below)⟩)) ?_
    rintro ⟨T, ah, ap⟩ d4
    refine ops_nil ?_
    exact to_dagF ef (br, a4, bg, cr, T, ah, ap, bl, bt, ct) ⟨e0, d4, e1⟩ (by kernel_rfl) (look_has ⟨rfl, rfl, rfl, trivial⟩) (fun u y => y.pick 9 [1, 2, 0, 3, 4, 5, 6, 7, 8] (by kernel_rfl) (by decide) rfl)
   ·
    refine oNS 3 [.slice none 0 0] 22 (fun e4 => ?_)
    refine ops_nil ?_
    refine fnil 3 1 ?_
    exact to_dagF dv (br, a4, bg, cr, e4, none, 0, [], bl, bt, ct) ⟨e0, (RepL.nil (R := (Rep.int .i64))), e1⟩ (by kernel_rfl) (look_has ⟨rfl, rfl, rfl, rfl, trivial⟩) (fun u y => y.pick 10 [2, 3, 1, 0, 4, 5, 6, 7, 8, 9] (by kernel_rfl) (by decide) rfl)
  refine dagF_have (f := 4) (L := 1535) (σ := Nat × (Option Addr) × Nat × (List Value) × (Option Addr) × Nat × (List Value)) (Lx := fun o => match o with | (bq, a3, bf, cp, bk, bs, cq) => [(3, vP bq 0), (9, sl bk r bs), (13, sl a k c)]) (N := fun o => match o with | (bq, a3, bf, cp, bk, bs, cq) => Mem w0 (.blk bq [sl a3 ([] : List Int) bf] 22 :: ow a3 ([] : List Int) bf 3 1 cp :: ow bk r bs 3 1 cq :: .blk z [sl a k c, sl g m i, .map (some j)] 44 :: ow a k c 3 1 s :: ow g m i 3 1 t :: .obj j (.map q p) :: Fz F W :: cs)) (I := fun o => match o with | (bq, a3, bf, cp, bk, bs, cq) => (RepL (Rep.int .i64) F W ([] : List Int) cp) ∧ (RepL (Rep.int .i64) F W r cq)) ?_ (fun eb => ?_)
  ·
   rintro ⟨bq, a3, bf, cp, bk, bs, cq⟩ ⟨ey, ez⟩
   refine dagF_conv (l' := [(3, vP bq 0), (9, sl bk r bs), (13, sl a k c)]) (M' := Mem w0 (.blk bq [sl a3 ([] : List Int) bf] 22 :: ow a3 ([] : List Int) bf 3 1 cp :: ow bk r bs 3 1 cq :: .blk z [sl a k c, sl g m i, .map (some j)] 44 :: ow a k c 3 1 s :: ow g m i 3 1 t :: .obj j (.map q p) :: Fz F W :: cs)) rfl (fun _ h => h) ?_
   refine dagF_ways [(9, [], 3), (11, [], 3)] A B (fun _ d _ _ _ h => by cases d <;> exact h) (by kernel_rfl) rfl ⟨by kernel_rfl, ?_, by kernel_rfl, ?_, trivial⟩
   ·
    refine ops_callI (σ := (Option Addr) × Nat × (List Value)) (d := some 14) (f := 20) (args := #[sl a k c]) (v := (fun o => match o with | (U, ai, aq) => sl U x ai)) (I := (fun o => match o with | (U, ai, aq) => (RepL (Rep.int .i64) F W x aq))) (M' := (fun o => match o with | (U, ai, aq) => Mem w0 (ow U x ai 3 1 aq :: .blk bq [sl a3 ([] : List Int) bf] 22 :: ow a3 ([] : List Int) bf 3 1 cp :: ow bk r bs 3 1 cq :: .blk z [sl a k c, sl g m i, .map (some j)] 44 :: ow a k c 3 1 s :: ow g m i 3 1 t :: .obj j (.map q p) :: Fz F W :: cs))) ⟨by kernel_rfl⟩ (fun u y hS => (@slices_Clone_int_int_ok u u [] (fun b => b < u.heap.size) u a c k (Mem.fz0 u) (y.ordS 4 7 rfl rfl cj rfl rfl) x dz).mono (by rintro e w' ⟨⟨U, ai, aq⟩, d5, rfl, h'⟩; have h' : Mem u [ow U x ai 3 1 aq] w' := h'.pick 2 [0] (by kernel_rfl) (by decide) rfl; exact ⟨(U, ai, aq), (RepL.move' (fun h => h) d5), rfl, y.join h' rfl, (hS.step h'.below)⟩)) ?_
    rintro ⟨U, ai, aq⟩ d5
    refine ops_nil ?_
    exact to_dagF ee (bq, a3, bf, cp, U, ai, aq, bk, bs, cq) ⟨ey, d5, ez⟩ (by kernel_rfl) (look_has ⟨rfl, rfl, rfl, trivial⟩) (fun u y => y.pick 9 [1, 2, 0, 3, 4, 5, 6, 7, 8] (by kernel_rfl) (by decide) rfl)
   ·
    refine oNS 4 [.slice none 0 0] 22 (fun e5 => ?_)
    refine ops_nil ?_
    refine fnil 3 1 ?_
    exact to_dagF dv (e5, none, 0, [], bq, a3, bf, cp, bk, bs, cq) ⟨(RepL.nil (R := (Rep.int .i64))), ey, ez⟩ (by kernel_rfl) (look_has ⟨rfl, rfl, rfl, rfl, trivial⟩) (fun u y => y.pick 10 [1, 0, 2, 3, 4, 5, 6, 7, 8, 9] (by kernel_rfl) (by decide) rfl)
  refine dagF_have (f := 4) (L := 1023) (σ := (Option Addr) × Nat × (List Value) × (Option Addr) × Nat × (List Value)) (Lx := fun o => match o with | (cb, cf, da, cc, cg, db) => [(14, sl cb x cf), (9, sl cc r cg)]) (N := fun o => match o with | (cb, cf, da, cc, cg, db) => Mem w0 (ow cb x cf 3 1 da :: ow cc r cg 3 1 db :: .blk z [sl a k c, sl g m i, .map (some j)] 44 :: ow a k c 3 1 s :: ow g m i 3 1 t :: .obj j (.map q p) :: Fz F W :: cs)) (I := fun o => match o with | (cb, cf, da, cc, cg, db) => (RepL (Rep.int .i64) F W x da) ∧ (RepL (Rep.int .i64) F W r db)) ?_ (fun er => ?_)
  ·
   rintro ⟨cb, cf, da, cc, cg, db⟩ ⟨ew, ex⟩
   refine dagF_conv (l' := [(14, sl cb x cf), (9, sl cc r cg)]) (M' := Mem w0 (ow cb x cf 3 1 da :: ow cc r cg 3 1 db :: .blk z [sl a k c, sl g m i, .map (some j)] 44 :: ow a k c 3 1 s :: ow g m i 3 1 t :: .obj j (.map q p) :: Fz F W :: cs)) rfl (fun _ h => h) ?_
   refine dagF_ways [(10, [], 3), (11, [], 3)] A B (fun _ d _ _ _ h => by cases d <;> exact h) (by kernel_rfl) rfl ⟨by kernel_rfl, ?_, by kernel_rfl, ?_, trivial⟩
   ·
    refine oNS 3 [.slice none 0 0] 22 (fun e6 => ?_)
    refine ops_nil ?_
    refine fnil 3 1 ?_
    exact to_dagF ee (e6, none, 0, [], cb, cf, da, cc, cg, db) ⟨(RepL.nil (R := (Rep.int .i64))), ew, ex⟩ (by kernel_rfl) (look_has ⟨rfl, rfl, rfl, trivial⟩) (fun u y => y.pick 9 [1, 0, 2, 3, 4, 5, 6, 7, 8] (by kernel_rfl) (by decide) rfl)
   ·
    refine oNS 4 [.slice none 0 0] 22 (fun e7 => ?_)
    refine ops_nil ?_
    refine fnil 3 1 ?_
    exact to_dagF ef (e7, none, 0, [], cb, cf, da, cc, cg, db) ⟨(RepL.nil (R := (Rep.int .i64))), ew, ex⟩ (by kernel_rfl) (look_has ⟨rfl, rfl, rfl, trivial⟩) (fun u y => y.pick 9 [1, 0, 2, 3, 4, 5, 6, 7, 8] (by kernel_rfl) (by decide) rfl)
  refine dagF_have (f := 5) (L := 2543) (σ := Nat × (Option Addr) × Nat × (List Value)) (Lx := fun o => match o with | (bp, a2, be, co) => [(4, vP bp 0), (13, sl a k c), (8, sl g m i)]) (N := fun o => match o with | (bp, a2, be, co) => Mem w0 (.blk bp [sl a2 ([] : List Int) be] 22 :: ow a2 ([] : List Int) be 3 1 co :: .blk z [sl a k c, sl g m i, .map (some j)] 44 :: ow a k c 3 1 s :: ow g m i 3 1 t :: .obj j (.map q p) :: Fz F W :: cs)) (I := fun o => match o with | (bp, a2, be, co) => (RepL (Rep.int .i64) F W ([] : List Int) co)) ?_ (fun eq => ?_)
  ·
   rintro ⟨bp, a2, be, co⟩ ev
   refine dagF_conv (l' := [(4, vP bp 0), (13, sl a k c), (8, sl g m i)]) (M' := Mem w0 (.blk bp [sl a2 ([] : List Int) be] 22 :: ow a2 ([] : List Int) be 3 1 co :: .blk z [sl a k c, sl g m i, .map (some j)] 44 :: ow a k c 3 1 s :: ow g m i 3 1 t :: .obj j (.map q p) :: Fz F W :: cs)) rfl (fun _ h => h) ?_
   refine dagF_ways [(4, [], 4), (10, [], 4)] A B (fun _ d _ _ _ h => by cases d <;> exact h) (by kernel_rfl) rfl ⟨by kernel_rfl, ?_, by kernel_rfl, ?_, trivial⟩
   ·
    refine ops_callI (σ := (Option Addr) × Nat × (List Value)) (d := some 9) (f := 20) (args := #[sl g m i]) (v := (fun o => match o with | (V, aj, ar) => sl V r aj)) (I := (fun o => match o with | (V, aj, ar) => (RepL (Rep.int .i64) F W r ar))) (M' := (fun o => match o with | (V, aj, ar) => Mem w0 (ow V r aj 3 1 ar :: .blk bp [sl a2 ([] : List Int) be] 22 :: ow a2 ([] : List Int) be 3 1 co :: .blk z [sl a k c, sl g m i, .map (some j)] 44 :: ow a k c 3 1 s :: ow g m i 3 1 t :: .obj j (.map q p) :: Fz F W :: cs))) ⟨by kernel_rfl⟩ (fun u y hS => (@slices_Clone_int_int_ok u u [] (fun b => b < u.heap.size) u g i m (Mem.fz0 u) (y.ordS 4 6 rfl rfl ck rfl rfl) r dy).mono (by rintro e w' ⟨⟨V, aj, ar⟩, d6, rfl, h'⟩; have h' : Mem u [ow V r aj 3 1 ar] w' := h'.pick 2 [0] (by kernel_rfl) (by decide) rfl; exact ⟨(V, aj, ar), (RepL.move' (fun h => h) d6), rfl, y.join h' rfl, (hS.step h'.below)⟩)) ?_
    rintro ⟨V, aj, ar⟩ d6
    refine ops_nil ?_
    exact to_dagF ec (bp, a2, be, co, V, aj, ar) ⟨ev, d6⟩ (by kernel_rfl) (look_has ⟨rfl, rfl, rfl, trivial⟩) (fun u y => y.pick 8 [1, 2, 0, 3, 4, 5, 6, 7] (by kernel_rfl) (by decide) rfl)
   ·
    refine oNS 3 [.slice none 0 0] 22 (fun e8 => ?_)
    refine ops_nil ?_
    refine fnil 3 1 ?_
    exact to_dagF ed (bp, a2, be, co, e8, none, 0, []) ⟨ev, (RepL.nil (R := (Rep.int .i64)))⟩ (by kernel_rfl) (look_has ⟨rfl, rfl, rfl, rfl, trivial⟩) (fun u y => y.pick 9 [2, 3, 1, 0, 4, 5, 6, 7, 8] (by kernel_rfl) (by decide) rfl)
  refine dagF_have (f := 5) (L := 1519) (σ := Nat × (Option Addr) × Nat × (List Value)) (Lx := fun o => match o with | (bo, a1, bd, cn) => [(3, vP bo 0), (13, sl a k c), (8, sl g m i)]) (N := fun o => match o with | (bo, a1, bd, cn) => Mem w0 (.blk bo [sl a1 ([] : List Int) bd] 22 :: ow a1 ([] : List Int) bd 3 1 cn :: .blk z [sl a k c, sl g m i, .map (some j)] 44 :: ow a k c 3 1 s :: ow g m i 3 1 t :: .obj j (.map q p) :: Fz F W :: cs)) (I := fun o => match o with | (bo, a1, bd, cn) => (RepL (Rep.int .i64) F W ([] : List Int) cn)) ?_ (fun ep => ?_)
  ·
   rintro ⟨bo, a1, bd, cn⟩ eu
   refine dagF_conv (l' := [(3, vP bo 0), (13, sl a k c), (8, sl g m i)]) (M' := Mem w0 (.blk bo [sl a1 ([] : List Int) bd] 22 :: ow a1 ([] : List Int) bd 3 1 cn :: .blk z [sl a k c, sl g m i, .map (some j)] 44 :: ow a k c 3 1 s :: ow g m i 3 1 t :: .obj j (.map q p) :: Fz F W :: cs)) rfl (fun _ h => h) ?_
   refine dagF_ways [(4, [], 4), (11, [], 4)] A B (fun _ d _ _ _ h => by cases d <;> exact h) (by kernel_rfl) rfl ⟨by kernel_rfl, ?_, by kernel_rfl, ?_, trivial⟩
   ·
    refine ops_callI (σ := (Option Addr) × Nat × (List Value)) (d := some 9) (f := 20) (args := #[sl g m i]) (v := (fun o => match o with | (X, ak, au) => sl X r ak)) (I := (fun o => match o with | (X, ak, au) => (RepL (Rep.int .i64) F W r au))) (M' := (fun o => match o with | (X, ak, au) => Mem w0 (ow X r ak 3 1 au :: .blk bo [sl a1 ([] : List Int) bd] 22 :: ow a1 ([] : List Int) bd 3 1 cn :: .blk z [sl a k c, sl g m i, .map (some j)] 44 :: ow a k c 3 1 s :: ow g m i 3 1 t :: .obj j (.map q p) :: Fz F W :: cs))) ⟨by kernel_rfl⟩ (fun u y hS => (@slices_Clone_int_int_ok u u [] (fun b => b < u.heap.size) u g i m (Mem.fz0 u) (y.ordS 4 6 rfl rfl ck rfl rfl) r dy).mono (by rintro e w' ⟨⟨X, ak, au⟩, d7, rfl, h'⟩; have h' : Mem u [ow X r ak 3 1 au] w' := h'.pick 2 [0] (by kernel_rfl) (by decide) rfl; exact ⟨(X, ak, au), (RepL.move' (fun h => h) d7), rfl, y.join h' rfl, (hS.step h'.below)⟩)) ?_
    rintro ⟨X, ak, au⟩ d7
    refine ops_nil ?_
    exact to_dagF eb (bo, a1, bd, cn, X, ak, au) ⟨eu, d7⟩ (by kernel_rfl) (look_has ⟨rfl, rfl, rfl, trivial⟩) (fun u y => y.pick 8 [1, 2, 0, 3, 4, 5, 6, 7] (by kernel_rfl) (by decide) rfl)
   ·
    refine oNS 4 [.slice none 0 0] 22 (fun e9 => ?_)
    refine ops_nil ?_
    refine fnil 3 1 ?_
    exact to_dagF ed (e9, none, 0, [], bo, a1, bd, cn) ⟨(RepL.nil (R := (Rep.int .i64))), eu⟩ (by kernel_rfl) (look_has ⟨rfl, rfl, rfl, rfl, trivial⟩) (fun u y => y.pick 9 [1, 0, 2, 3, 4, 5, 6, 7, 8] (by kernel_rfl) (by decide) rfl)
  refine dagF_have (f := 5) (L := 511) (σ := (Option Addr) × Nat × (List Value)) (Lx := fun o => match o with | (a0, bc, bw) => [(9, sl a0 r bc), (13, sl a k c)]) (N := fun o => match o with | (a0, bc, bw) => Mem w0 (ow a0 r bc 3 1 bw :: .blk z [sl a k c, sl g m i, .map (some j)] 44 :: ow a k c 3 1 s :: ow g m i 3 1 t :: .obj j (.map q p) :: Fz F W :: cs)) (I := fun o => match o with | (a0, bc, bw) => (RepL (Rep.int .i64) F W r bw)) ?_ (fun eo => ?_)
  ·
   rintro ⟨a0, bc, bw⟩ el
   refine dagF_conv (l' := [(9, sl a0 r bc), (13, sl a k c)]) (M' := Mem w0 (ow a0 r bc 3 1 bw :: .blk z [sl a k c, sl g m i, .map (some j)] 44 :: ow a k c 3 1 s :: ow g m i 3 1 t :: .obj j (.map q p) :: Fz F W :: cs)) rfl (fun _ h => h) ?_
   refine dagF_ways [(9, [], 4), (10, [], 4), (11, [], 4)] A B (fun _ d _ _ _ h => by cases d <;> exact h) (by kernel_rfl) rfl ⟨by kernel_rfl, ?_, by kernel_rfl, ?_, by kernel_rfl, ?_, trivial⟩
   ·
    refine ops_callI (σ := (Option Addr) × Nat × (List Value)) (d := some 14) (f := 20) (args := #[sl a k c]) (v := (fun o => match o with | (Y, al, av) => sl Y x al)) (I := (fun o => match o with | (Y, al, av) => (RepL (Rep.int .i64) F W x av))) (M' := (fun o => match o with | (Y, al, av) => Mem w0 (ow Y x al 3 1 av :: ow a0 r bc 3 1 bw :: .blk z [sl a k c, sl g m i, .map (some j)] 44 :: ow a k c 3 1 s :: ow g m i 3 1 t :: .obj j (.map q p) :: Fz F W :: cs))) ⟨by kernel_rfl⟩ (fun u y hS => (@slices_Clone_int_int_ok u u [] (fun b => b < u.heap.size) u a c k (Mem.fz0 u) (y.ordS 2 5 rfl rfl cj rfl rfl) x dz).mono (by rintro e w' ⟨⟨Y, al, av⟩, d8, rfl, h'⟩; have h' : Mem u [ow Y x al 3 1 av] w' := h'.pick 2 [0] (by kernel_rfl) (by decide) rfl; exact ⟨(Y, al, av), (RepL.move' (fun h => h) d8), rfl, y.join h' rfl, (hS.step h'.below)⟩)) ?_
    rintro ⟨Y, al, av⟩ d8
    refine ops_nil ?_
    exact to_dagF er (Y, al, av, a0, bc, bw) ⟨d8, el⟩ (by kernel_rfl) (look_has ⟨rfl, rfl, trivial⟩) (fun u y => y)
   ·
    refine oNS 3 [.slice none 0 0] 22 (fun fa => ?_)
    refine ops_nil ?_
    refine fnil 3 1 ?_
    exact to_dagF eb (fa, none, 0, [], a0, bc, bw) ⟨(RepL.nil (R := (Rep.int .i64))), el⟩ (by kernel_rfl) (look_has ⟨rfl, rfl, rfl, trivial⟩) (fun u y => y.pick 8 [1, 0, 2, 3, 4, 5, 6, 7] (by kernel_rfl) (by decide) rfl)
   ·
    refine oNS 4 [.slice none 0 0] 22 (fun fb => ?_)
    refine ops_nil ?_
    refine fnil 3 1 ?_
    exact to_dagF ec (fb, none, 0, [], a0, bc, bw) ⟨(RepL.nil (R := (Rep.int .i64))), el⟩ (by kernel_rfl) (look_has ⟨rfl, rfl, rfl, trivial⟩) (fun u y => y.pick 8 [1, 0, 2, 3, 4, 5, 6, 7] (by kernel_rfl) (by decide) rfl)
  refine dagF_have (f := 6) (L := 495) (σ := Unit) (Lx := fun _ => [(13, sl a k c), (8, sl g m i)]) (N := fun _ => Mem w0 (.blk z [sl a k c, sl g m i, .map (some j)] 44 :: ow a k c 3 1 s :: ow g m i 3 1 t :: .obj j (.map q p) :: Fz F W :: cs)) (I := fun _ => True) ?_ (fun en => ?_)
  ·
   rintro _ -
   refine dagF_conv (l' := [(13, sl a k c), (8, sl g m i)]) (M' := Mem w0 (.blk z [sl a k c, sl g m i, .map (some j)] 44 :: ow a k c 3 1 s :: ow g m i 3 1 t :: .obj j (.map q p) :: Fz F W :: cs)) rfl (fun _ h => h) ?_
   refine dagF_ways [(4, [], 5), (10, [], 5), (11, [], 5)] A B (fun _ d _ _ _ h => by cases d <;> exact h) (by kernel_rfl) rfl ⟨by kernel_rfl, ?_, by kernel_rfl, ?_, by kernel_rfl, ?_, trivial⟩
   ·
    refine ops_callI (σ := (Option Addr) × Nat × (List Value)) (d := some 9) (f := 20) (args := #[sl g m i]) (v := (fun o => match o with | (Z, am, aw) => sl Z r am)) (I := (fun o => match o with | (Z, am, aw) => (RepL (Rep.int .i64) F W r aw))) (M' := (fun o => match o with | (Z, am, aw) => Mem w0 (ow Z r am 3 1 aw :: .blk z [sl a k c, sl g m i, .map (some j)] 44 :: ow a k c 3 1 s :: ow g m i 3 1 t :: .obj j (.map q p) :: Fz F W :: cs))) ⟨by kernel_rfl⟩ (fun u y hS => (@slices_Clone_int_int_ok u u [] (fun b => b < u.heap.size) u g i m (Mem.fz0 u) (y.ordS 2 4 rfl rfl ck rfl rfl) r dy).mono (by rintro e w' ⟨⟨Z, am, aw⟩, d9, rfl, h'⟩; have h' : Mem u [ow Z r am 3 1 aw] w' := h'.pick 2 [0] (by kernel_rfl) (by decide) rfl; exact ⟨(Z, am, aw), (RepL.move' (fun h => h) d9), rfl, y.join h' rfl, (hS.step h'.below)⟩)) ?_
    rintro ⟨Z, am, aw⟩ d9
    refine ops_nil ?_
    exact to_dagF eo (Z, am, aw) d9 (by kernel_rfl) (look_has ⟨rfl, rfl, trivial⟩) (fun u y => y)
   ·
    refine oNS 3 [.slice none 0 0] 22 (fun fc => ?_)
    refine ops_nil ?_
    refine fnil 3 1 ?_
    exact to_dagF ep (fc, none, 0, []) (RepL.nil (R := (Rep.int .i64))) (by kernel_rfl) (look_has ⟨rfl, rfl, rfl, trivial⟩) (fun u y => y.pick 7 [1, 0, 2, 3, 4, 5, 6] (by kernel_rfl) (by decide) rfl)
   ·
    refine oNS 4 [.slice none 0 0] 22 (fun fd => ?_)
    refine ops_nil ?_
    refine fnil 3 1 ?_
    exact to_dagF eq (fd, none, 0, []) (RepL.nil (R := (Rep.int .i64))) (by kernel_rfl) (look_has ⟨rfl, rfl, rfl, trivial⟩) (fun u y => y.pick 7 [1, 0, 2, 3, 4, 5, 6] (by kernel_rfl) (by decide) rfl)
  refine dagF_takes [oT 0, oT 1, oT 2, oT 3, oT 5, oT 6, oT 7, oT 8] (f := 6) A B (fun _ d _ _ _ h => by cases d <;> exact h) (by kernel_rfl) ?_
  refine oq (oTs 0 3) [(7, vP z 1), (0, vP z 0)] ?_
  refine oL 8 0 1 ?_
  refine oq (oTs 5 3) [(12, vP z 0), (8, sl g m i)] ?_
  refine oL 13 0 0 ?_
  refine ops_nil ?_
  exact to_dagF en () trivial (by kernel_rfl) (look_has ⟨rfl, rfl, trivial⟩) (fun u y => y)
end Go.Proofs.Ytbfndcookgijfaa.P
