/- The Go functions come to what the plain functions tell. No condition. -/
import Derived.Test.YtbfndcookgijfaaGreatDoorProg
import Derived.Test.YtbfndcookgijfaaGreatDoorFnC
import Derived.Test.YtbfndcookgijfaaGreatDoorExSq
import Derived.Test.YtbfndcookgijfaaGreatDoorWkC6
import Derived.Test.YtbfndcookgijfaaGreatDoorWkC7
import Derived.Test.YtbfndcookgijfaaGreatDoorEqC
import Derived.Test.YtbfndcookgijfaaGreatDoorExMap
import Derived.Test.YtbfndcookgijfaaGreatDoorExOwnM
namespace Go.Proofs.YtbfndcookgijfaaGreatDoor.C
open Go Go.RowKit Go.Proofs.YtbfndcookgijfaaGreatDoor.Sx
set_option linter.unusedVariables false
set_option maxHeartbeats 4000000
set_option maxRecDepth 100000
variable {w0 w : World} {cs : List Chunk} {F : Nat → Prop} {W : World}
theorem tourref3_Flat_Close_ok {r : Nat} {p : Option Addr} {q : Nat} {D : List api_Kind} {s : Option Addr} {a : Nat} {k : List Int} {B : List Value} {i : Nat} {ae : Array MapEntry} {ad : Nat} {dg : List (Int × (Option (List (Int × (List Int)))))} {av : Chunk} (hs : Mem w0 (.blk r [sl p D q, sl s k a, .map (some i)] 96 :: ow s k a 3 1 B :: .obj i (.map ae ad) :: av :: Fz F W :: cs) w) (Y : RdS R_api_Kind F W p q D) (X : RepL (Rep.int .i64) F W k B) (bu : MapW (fun A : Int => Value.int .i64 A) (Own.mr (fun A : Int => Value.int .i64 A) (Rep.sl (Rep.int .i64)) false) false F W dg ae ad av) {ch : List api_Kind} {ci : List Int} {cj : List api_Item} (hp : tourref3_Flat_Close D k dg = some (ch, ci, cj)) : Calls Tryz.prog 52 #[vP r 0] w (Post w0 (fun ((d4, d8, eb, d5, d9, ec, d6, ea, ed, ee, df, de, d7, b9, ca) : (Option Addr) × Nat × (List Value) × (Option Addr) × Nat × (List Value) × (Option Addr) × Nat × (List Value) × (List Value) × (Array MapEntry) × Nat × Chunk × (Nat → Prop) × World) => (RepL R_api_Kind b9 ca ch eb) ∧ (RepL (Rep.int .i64) b9 ca ci ec) ∧ (RepL R_api_Item b9 ca cj ed) ∧ (RdS R_api_Kind b9 ca p q D) ∧ (RepL (Rep.int .i64) b9 ca k ee) ∧ (MapW (fun A : Int => Value.int .i64 A) (Own.mr (fun A : Int => Value.int .i64 A) (Rep.sl (Rep.int .i64)) false) false b9 ca dg df de d7) ∧ (Ext w0 F W b9 ca)) (fun (d4, d8, eb, d5, d9, ec, d6, ea, ed, ee, df, de, d7, b9, ca) => .agg #[sl d4 ch d8, sl d5 ci d9, sl d6 cj ea]) (fun (d4, d8, eb, d5, d9, ec, d6, ea, ed, ee, df, de, d7, b9, ca) => ow d4 ch d8 86 2 eb :: ow d5 ci d9 3 1 ec :: ow d6 cj ea 61 3 ed :: .blk r [sl p D q, sl s k a, .map (some i)] 96 :: ow s k a 3 1 ee :: .obj i (.map df de) :: d7 :: Fz b9 ca :: cs)) := by
 unfold tourref3_Flat_Close at hp
 refine sx_calls Tryz.func52 rfl (n := 67) (by kernel_rfl) (l := [(0, vP r 0)]) rfl (by rfl) hs ?_
 refine st_seq (st_region [oF 0] (by rfl) ?_)
 refine oN 2 [.slice none 0 0, .slice none 0 0, .slice none 0 0] 26 (fun O => ?_)
 refine ops_nil (fin_then (st_seq ?_))
 refine st_region (oFs 0 8) (by rfl) ?_
 refine oq (oFs 0 3) [(11, vP r 1), (2, vP O 0), (0, vP r 0)] ?_
 refine oM 12 1 1 ?_
 obtain ⟨H, hz, hp⟩ := obind hp
 refine ops_callI (σ := (Option Addr) × Nat × (List Value)) (d := some 13) (f := 49) (args := #[sl s k a]) (v := (fun A => match A with | (E, G, y6) => sl E H G)) (I := (fun A => match A with | (E, G, y6) => (RepL (Rep.int .i64) F W H y6))) (M' := (fun A => match A with | (E, G, y6) => Mem w0 (ow E H G 3 1 y6 :: .blk O [.slice none 0 0, .slice none 0 0, .slice none 0 0] 26 :: .blk r [sl p D q, sl s k a, .map (some i)] 96 :: ow s k a 3 1 B :: .obj i (.map ae ad) :: av :: Fz F W :: cs))) ⟨by kernel_rfl⟩ (fun w_ hM hS => (@slices_Clone_int_int_ok w_ w_ [] (fun b => b < w_.heap.size) w_ s a k (Mem.fz0 w_) (hM.ordS 2 5 rfl rfl X rfl rfl) H hz).mono (by rintro e w' ⟨⟨E, G, y6⟩, h7, rfl, h'⟩; have h' : Mem w_ [ow E H G 3 1 y6] w' := h'.pick 2 [0] (by kernel_rfl) (by decide) rfl; exact ⟨(E, G, y6), (RepL.move' (fun h => h) h7), rfl, hM.join h' rfl, trivial⟩)) ?_
 rintro ⟨E, G, y6⟩ h7
 refine oq [oF 5] [(14, .agg #[.slice none 0 0, sl E H G, .slice none 0 0]), (2, vP O 0), (0, vP r 0)] ?_
 refine oN 3 [.slice none 0 0, .slice none 0 0, .slice none 0 0] 26 (fun K => ?_)
 refine oS 0 0 [.slice none 0 0, sl E H G, .slice none 0 0] ?_
 refine ops_nil (fin_then ?_)
 refine st_join1 (σ := (Option Addr) × Nat × (List Value) × (List Value) × (List Value) × (Option Addr) × Nat × (List api_Kind) × (List Value) × (List Value) × (Nat → Prop) × World) (L := fun A => match A with | (o, j, bg, bh, bi, U, V, M, bd, et, cr, ct) => [(0, vP r 0), (2, vP O 0), (3, vP K 0)]) (N := fun A => match A with | (o, j, bg, bh, bi, U, V, M, bd, et, cr, ct) => Mem w0 (.blk r [sl p D q, sl s k a, .map (some i)] 96 :: ow s k a 3 1 B :: .obj i (.map ae ad) :: av :: .blk O [sl o ([] : List api_Kind) j, sl o ([] : List Int) j, sl o ([] : List api_Item) j] 26 :: ow o ([] : List api_Kind) j 86 2 bg :: ow o ([] : List Int) j 3 1 bh :: ow o ([] : List api_Item) j 61 3 bi :: .blk K [sl U M V, sl E H G, sl o ([] : List api_Item) j] 26 :: ow U M V 86 2 bd :: ow E H G 3 1 y6 :: ow o ([] : List api_Item) j 61 3 et :: Fz cr ct :: cs)) (I := fun A => match A with | (o, j, bg, bh, bi, U, V, M, bd, et, cr, ct) => ((tourref3_Flat_Close_j1 k dg H) M = some (ch, ci, cj)) ∧ (RepL R_api_Kind cr ct ([] : List api_Kind) bg) ∧ (RepL (Rep.int .i64) cr ct ([] : List Int) bh) ∧ (RepL R_api_Item cr ct ([] : List api_Item) bi) ∧ (RepL R_api_Kind cr ct M bd) ∧ (RepL R_api_Item cr ct ([] : List api_Item) et) ∧ (Ext w0 F W cr ct)) ?_ ?_
 ·
  rintro ⟨o, j, bg, bh, bi, U, V, M, bd, et, cr, ct⟩ ⟨hp, cc, cd, ce, cb, hm, cu⟩
  have Y := Y.ext cu
  have X := X.ext cu
  have bu := bu.ext cu
  have h7 := h7.ext cu
  unfold tourref3_Flat_Close_j1 at hp
  refine st_join1 (σ := (Option Addr) × Nat × (List api_Item) × (List Value) × (Array MapEntry) × Nat × Chunk × (Nat → Prop) × World) (L := fun A => match A with | (cz, c0, cy, eu, du, ds, eq, dx, dz) => [(2, vP O 0), (3, vP K 0)]) (N := fun A => match A with | (cz, c0, cy, eu, du, ds, eq, dx, dz) => Mem w0 (.blk O [sl o ([] : List api_Kind) j, sl o ([] : List Int) j, sl o ([] : List api_Item) j] 26 :: ow o ([] : List api_Kind) j 86 2 bg :: ow o ([] : List Int) j 3 1 bh :: ow o ([] : List api_Item) j 61 3 bi :: .blk K [sl U M V, sl E H G, sl cz cy c0] 26 :: ow U M V 86 2 bd :: ow E H G 3 1 y6 :: ow cz cy c0 61 3 eu :: .blk r [sl p D q, sl s k a, .map (some i)] 96 :: ow s k a 3 1 B :: .obj i (.map du ds) :: eq :: Fz dx dz :: cs)) (I := fun A => match A with | (cz, c0, cy, eu, du, ds, eq, dx, dz) => ((tourref3_Flat_Close_j2 M H) cy = some (ch, ci, cj)) ∧ (RepL R_api_Item dx dz cy eu) ∧ (MapW (fun A : Int => Value.int .i64 A) (Own.mr (fun A : Int => Value.int .i64 A) (Rep.sl (Rep.int .i64)) false) false dx dz dg du ds eq) ∧ (Ext w0 cr ct dx dz)) ?_ ?_
  ·
   rintro ⟨cz, c0, cy, eu, du, ds, eq, dx, dz⟩ ⟨hp, hn, ho, d1⟩
   have cc := cc.ext d1
   have cd := cd.ext d1
   have ce := ce.ext d1
   have cb := cb.ext d1
   have h7 := h7.ext d1
   have Y := Y.ext d1
   have X := X.ext d1
   unfold tourref3_Flat_Close_j2 at hp
   refine st_seq (st_region [oF 0, oF 1] (by rfl) ?_)
   refine oMA 66 4 0 3 ?_
   refine oS 0 0 [sl U M V, sl E H G, sl cz cy c0] ?_
   refine ops_nil (fin_then (st_ret ?_))
   obtain ⟨rfl, rfl, rfl⟩ := si3 hp
   refine fin_ret [.cell 2 26] [.agg #[sl U M V, sl E H G, sl cz cy c0]] rfl rfl (fun w_ hM => (.cell rfl (tr_run _ [.v (sl U M V), .v (sl E H G), .v (sl cz cy c0)] [ld O 0 (sl U M V), ld O 1 (sl E H G), ld O 2 (sl cz cy c0)] (.agg #[sl U M V, sl E H G, sl cz cy c0] : Value) _ _ (by kernel_rfl) ⟨hM.cell 0 rfl rfl, hM.cell 0 rfl rfl, hM.cell 0 rfl rfl, rfl⟩) .nil)) (fun w_ hM => ?_)
   exact ⟨(U, V, bd, E, G, y6, cz, c0, eu, B, du, ds, eq, dx, dz), ⟨cb, h7, hn, Y, X, ho, (cu.trans d1)⟩, rfl, hM.pick 13 [5, 6, 7, 8, 9, 10, 11, 12] (by kernel_rfl) (by decide) rfl⟩
  ·
   intro hl
   refine st_seq (st_seq ?_)
   refine st_region (oFs 0 6) (by rfl) ?_
   refine oq (oFs 0 3) [(38, vP r 1), (0, vP r 0), (2, vP O 0), (3, vP K 0)] ?_
   refine oM 39 0 1 ?_
   refine oq [oF 4, oF 5] [(41, vI 0), (40, vI (k.length : Int)), (39, sl s k a), (0, vP r 0), (2, vP O 0), (3, vP K 0)] ?_
   refine ops_nil (fin_then (st_block ?_))
   obtain ⟨r3, hx, hv⟩ := obind hp
   refine lp (σ := (List api_Item) × Int) (ρ := (List api_Item)) (γ := (Array MapEntry) × Nat × Chunk × (Option Addr) × Nat × (List Value) × (Nat → Prop) × World) hx (ae, ad, av, o, j, et, cr, ct) (fun s_ g_ => match s_, g_ with | (af, C), (ak, aj, dd, am, ao, bj, b0, b2) => [(0, vP r 0), (2, vP O 0), (3, vP K 0), (39, sl s k a), (40, vI (k.length : Int)), (41, vI C)]) (fun s_ g_ => match s_, g_ with | (af, C), (ak, aj, dd, am, ao, bj, b0, b2) => Mem w0 (.blk r [sl p D q, sl s k a, .map (some i)] 96 :: ow s k a 3 1 B :: .obj i (.map ak aj) :: dd :: .blk O [sl o ([] : List api_Kind) j, sl o ([] : List Int) j, sl o ([] : List api_Item) j] 26 :: ow o ([] : List api_Kind) j 86 2 bg :: ow o ([] : List Int) j 3 1 bh :: ow o ([] : List api_Item) j 61 3 bi :: .blk K [sl U M V, sl E H G, sl am af ao] 26 :: ow U M V 86 2 bd :: ow E H G 3 1 y6 :: ow am af ao 61 3 bj :: Fz b0 b2 :: cs)) (fun s_ g_ => match s_, g_ with | (af, C), (ak, aj, dd, am, ao, bj, b0, b2) => (MapW (fun A : Int => Value.int .i64 A) (Own.mr (fun A : Int => Value.int .i64 A) (Rep.sl (Rep.int .i64)) false) false b0 b2 dg ak aj dd) ∧ (RepL R_api_Item b0 b2 af bj) ∧ (Ext w0 cr ct b0 b2)) ⟨bu, hm, (Ext.refl _ _ _)⟩ 0 [] ?_
   rintro ⟨af, C⟩ ⟨ak, aj, dd, am, ao, bj, b0, b2⟩ o3 ⟨fy, cg, bk⟩ hs_ ht
   have hp : (tourref3_Flat_Close_l3 k dg) af C = some o3 := hs_
   clear hs_
   unfold tourref3_Flat_Close_l3 at hp
   have Y := Y.ext bk
   have X := X.ext bk
   have cc := cc.ext bk
   have cd := cd.ext bk
   have ce := ce.ext bk
   have cb := cb.ext bk
   have h7 := h7.ext bk
   refine st_seq (st_region [oF 0] (by rfl) ?_)
   refine oq [oF 0] [(42, .bool (decide (C < (k.length : Int)))), (0, vP r 0), (2, vP O 0), (3, vP K 0), (39, sl s k a), (40, vI (k.length : Int)), (41, vI C)] ?_
   refine ops_nil (fin_then (st_seq ?_))
   refine sif hp (fun hf hp => ?_) (fun hf hp => ?_)
   ·
    refine st_skip (fin_then ?_)
    refine st_join1 (σ := (Array MapEntry) × Nat × Chunk × (Option Addr) × Nat × (List api_Item) × (List Value) × (Nat → Prop) × World) (L := fun A => match A with | (dv, dt, er, ep, es, d3, ev, dy, d0) => [(0, vP r 0), (2, vP O 0), (3, vP K 0), (39, sl s k a), (40, vI (k.length : Int)), (41, vI C)]) (N := fun A => match A with | (dv, dt, er, ep, es, d3, ev, dy, d0) => Mem w0 (.blk r [sl p D q, sl s k a, .map (some i)] 96 :: ow s k a 3 1 B :: .obj i (.map dv dt) :: er :: .blk O [sl o ([] : List api_Kind) j, sl o ([] : List Int) j, sl o ([] : List api_Item) j] 26 :: ow o ([] : List api_Kind) j 86 2 bg :: ow o ([] : List Int) j 3 1 bh :: ow o ([] : List api_Item) j 61 3 bi :: .blk K [sl U M V, sl E H G, sl ep d3 es] 26 :: ow U M V 86 2 bd :: ow E H G 3 1 y6 :: ow ep d3 es 61 3 ev :: Fz dy d0 :: cs)) (I := fun A => match A with | (dv, dt, er, ep, es, d3, ev, dy, d0) => ((tourref3_Flat_Close_j4 C) d3 = some o3) ∧ (MapW (fun A : Int => Value.int .i64 A) (Own.mr (fun A : Int => Value.int .i64 A) (Rep.sl (Rep.int .i64)) false) false dy d0 dg dv dt er) ∧ (RepL R_api_Item dy d0 d3 ev) ∧ (Ext w0 b0 b2 dy d0)) ?_ ?_
    ·
     rintro ⟨dv, dt, er, ep, es, d3, ev, dy, d0⟩ ⟨hp, hq, hr, d2⟩
     have Y := Y.ext d2
     have X := X.ext d2
     have cc := cc.ext d2
     have cd := cd.ext d2
     have ce := ce.ext d2
     have cb := cb.ext d2
     have h7 := h7.ext d2
     unfold tourref3_Flat_Close_j4 at hp
     refine st_region [oF 0, oF 1] (by rfl) ?_
     refine oq [oF 0, oF 1] [(41, vI (IntKind.i64.wrap (C + 1))), (0, vP r 0), (2, vP O 0), (3, vP K 0), (39, sl s k a), (40, vI (k.length : Int))] ?_
     refine ops_nil ?_
     exact fag (d3, IntKind.i64.wrap (C + 1)) (dv, dt, er, ep, es, ev, dy, d0) (Option.some.inj hp).symm ⟨hq, hr, (bk.trans d2)⟩ 0 []
    ·
     intro fx
     refine st_seq (st_block (st_seq ?_))
     refine st_region (oFs 0 5) (by rfl) ?_
     refine oq [oF 0] [(43, vI C), (0, vP r 0), (2, vP O 0), (3, vP K 0), (39, sl s k a), (40, vI (k.length : Int)), (41, vI C)] ?_
     obtain ⟨ag, hj, hp⟩ := obind hp
     obtain ⟨go, hg, gn⟩ := idx_some hj
     have gl := (List.getElem?_eq_some_iff.1 gn).1
     refine ops_fact (fun w_ hM => hM.orowSome 1 rfl (Nat.lt_of_le_of_lt (Nat.zero_le _) gl)) ?_
     rintro ⟨J, rfl, -⟩
     obtain ⟨h8, hr67, hi⟩ := X.at_ go ag gn
     obtain rfl := hr67
     refine ops_val (op := (.indexAddr 23 (.tmp 39) (.tmp 41))) (d := some 44) (v := vP J (go * 1)) ⟨by kernel_rfl⟩ (run_indexRow Tryz.underlying23 (z := 1) (by kernel_rfl) rfl rfl hg gl rfl) ?_
     refine ops_mem (d := some 45) (an := [.v (vI ag)]) (evs := [.load ⟨J, go * 1, none⟩ (vI ag)]) (v := vI ag) ⟨by kernel_rfl⟩ (fun w_ hM hS => ⟨w_, ⟨hM.ocell 1 rfl (hi 0 _ rfl), rfl⟩, hM, trivial⟩) ?_
     refine oq [oF 3, oF 4] [(7, vI ag), (6, vI C), (0, vP r 0), (2, vP O 0), (3, vP K 0), (39, sl (sa J) k a), (40, vI (k.length : Int)), (41, vI C)] ?_
     refine ops_nil (fin_then (st_seq ?_))
     refine st_region (oFs 0 7) (by rfl) ?_
     refine oq (oFs 0 3) [(48, vP r 2), (7, vI ag), (6, vI C), (0, vP r 0), (2, vP O 0), (3, vP K 0), (39, sl (sa J) k a), (40, vI (k.length : Int)), (41, vI C)] ?_
     refine oM 49 0 2 ?_
     refine oq [oF 4] [(50, vI C), (49, .map (some i)), (7, vI ag), (6, vI C), (0, vP r 0), (2, vP O 0), (3, vP K 0), (39, sl (sa J) k a), (40, vI (k.length : Int)), (41, vI C)] ?_
     rcases oel_some hp with ⟨fs, hp⟩ | ⟨en, fs, hp⟩
     ·
      refine ops_law (op := (.lookup 94 (.tmp 49) (.tmp 50) false)) (d := some 51) (σ := Unit) (v := fun _ => .map none) (M' := fun _ => Mem w0 (.blk r [sl p D q, sl (sa J) k a, .map (some i)] 96 :: ow (sa J) k a 3 1 B :: .obj i (.map ak aj) :: dd :: .blk O [sl o ([] : List api_Kind) j, sl o ([] : List Int) j, sl o ([] : List api_Item) j] 26 :: ow o ([] : List api_Kind) j 86 2 bg :: ow o ([] : List Int) j 3 1 bh :: ow o ([] : List api_Item) j 61 3 bi :: .blk K [sl U M V, sl E H G, sl am af ao] 26 :: ow U M V 86 2 bd :: ow E H G 3 1 y6 :: ow am af ao 61 3 bj :: Fz b0 b2 :: cs)) ⟨by kernel_rfl⟩ (fun o_ w_ ho_ hM hS => ⟨(), w_, run_lookupV rfl rfl (MapW.lookNil (by exact fun h_ => h_.1) fy (KeyLaw.int Tryz.underlying3) Tryz.underlying94 fs (fun u_ => Tryz.zeroValue37 u_) false i w_ (hM.mapAt 2 rfl)) o_ ho_, hM, trivial⟩) (fun _ => ?_)
      refine oq [oF 6] [(8, .map none), (7, vI ag), (6, vI C), (0, vP r 0), (2, vP O 0), (3, vP K 0), (39, sl (sa J) k a), (40, vI (k.length : Int)), (41, vI C)] ?_
      refine ops_nil (fin_then (st_seq (st_region [oF 0, oF 1] (by rfl) ?_)))
      refine oq [oF 0, oF 1] [(53, .bool false), (8, .map none), (7, vI ag), (6, vI C), (0, vP r 0), (2, vP O 0), (3, vP K 0), (39, sl (sa J) k a), (40, vI (k.length : Int)), (41, vI C)] ?_
      refine ops_nil (fin_then (st_false rfl (st_skip (fin_block ?_))))
      exact fj fx (ak, aj, dd, am, ao, af, bj, b0, b2) ⟨hp, fy, cg, (Ext.refl _ _ _)⟩ 0 []
     ·
      have e1 := getD_some_some fs
      obtain ⟨h9, h3, cf, b7, he, hh, hr80⟩ := MapW.look fy (KeyLaw.int Tryz.underlying3) Tryz.underlying94 e1
      obtain ⟨bo, ey, ex, rfl, rfl, g3⟩ := he
      refine ops_law (op := (.lookup 94 (.tmp 49) (.tmp 50) false)) (d := some 51) (σ := Unit) (v := fun _ => .map (some bo)) (M' := fun _ => Mem w0 (.blk r [sl p D q, sl (sa J) k a, .map (some i)] 96 :: ow (sa J) k a 3 1 B :: .obj i (.map ak aj) :: dd :: .blk O [sl o ([] : List api_Kind) j, sl o ([] : List Int) j, sl o ([] : List api_Item) j] 26 :: ow o ([] : List api_Kind) j 86 2 bg :: ow o ([] : List Int) j 3 1 bh :: ow o ([] : List api_Item) j 61 3 bi :: .blk K [sl U M V, sl E H G, sl am af ao] 26 :: ow U M V 86 2 bd :: ow E H G 3 1 y6 :: ow am af ao 61 3 bj :: Fz b0 b2 :: cs)) ⟨by kernel_rfl⟩ (fun o_ w_ ho_ hM hS => ⟨(), w_, run_lookupV rfl rfl (hr80 false i w_ (hM.mapAt 2 rfl)) o_ ho_, hM, trivial⟩) (fun _ => ?_)
      refine ops_conv (l' := [(51, .map (some bo)), (50, vI C), (49, .map (some i)), (7, vI ag), (6, vI C), (0, vP r 0), (2, vP O 0), (3, vP K 0), (39, sl (sa J) k a), (40, vI (k.length : Int)), (41, vI C)]) (M' := Mem w0 (.obj bo (.map ey ex) :: .blk r [sl p D q, sl (sa J) k a, .map (some i)] 96 :: ow (sa J) k a 3 1 B :: .obj i (.map ak aj) :: cf :: .blk O [sl o ([] : List api_Kind) j, sl o ([] : List Int) j, sl o ([] : List api_Item) j] 26 :: ow o ([] : List api_Kind) j 86 2 bg :: ow o ([] : List Int) j 3 1 bh :: ow o ([] : List api_Item) j 61 3 bi :: .blk K [sl U M V, sl E H G, sl am af ao] 26 :: ow U M V 86 2 bd :: ow E H G 3 1 y6 :: ow am af ao 61 3 bj :: Fz b0 b2 :: cs)) rfl (fun w_ h => (hh (h.pick 13 [3, 0, 1, 2, 4, 5, 6, 7, 8, 9, 10, 11, 12] (by kernel_rfl) (by decide) rfl)).pick 14 [1, 2, 3, 4, 0, 5, 6, 7, 8, 9, 10, 11, 12, 13] (by kernel_rfl) (by decide) rfl) ?_
      refine oq [oF 6] [(8, .map (some bo)), (7, vI ag), (6, vI C), (0, vP r 0), (2, vP O 0), (3, vP K 0), (39, sl (sa J) k a), (40, vI (k.length : Int)), (41, vI C)] ?_
      refine ops_nil (fin_then (st_seq (st_region [oF 0, oF 1] (by rfl) ?_)))
      refine oq [oF 0, oF 1] [(53, .bool true), (8, .map (some bo)), (7, vI ag), (6, vI C), (0, vP r 0), (2, vP O 0), (3, vP K 0), (39, sl (sa J) k a), (40, vI (k.length : Int)), (41, vI C)] ?_
      refine ops_nil (fin_then (st_true rfl ?_))
      obtain ⟨aa, gm, hp⟩ := obind hp
      obtain ⟨bf, e2, hp⟩ := obind hp
      refine st_region_tree (.node [oT 0, oT 2, oT 3, oT 4, oT 5] (.leaf [oF 1, oF 6, oT 7, oF 8, oF 9, oT 10, oF 11]) (.node [oF 6, oT 7] (.leaf [oF 1, oF 8, oF 9, oT 10, oF 11]) (.leaf [oF 8, oF 1, oF 9, oT 10, oF 11]))) (Mem w0 (.blk r [sl p D q, sl (sa J) k a, .map (some i)] 96 :: ow (sa J) k a 3 1 B :: .obj i (.map ak aj) :: cf :: .blk O [sl o ([] : List api_Kind) j, sl o ([] : List Int) j, sl o ([] : List api_Item) j] 26 :: ow o ([] : List api_Kind) j 86 2 bg :: ow o ([] : List Int) j 3 1 bh :: ow o ([] : List api_Item) j 61 3 bi :: ow U M V 86 2 bd :: ow E H G 3 1 y6 :: Fz b0 b2 :: cs)) (by kernel_rfl) (by kernel_rfl) (by kernel_rfl) (fun _ d _ _ _ h => by cases d <;> exact h) (M' := Mem w0 (.obj bo (.map ey ex) :: .blk r [sl p D q, sl (sa J) k a, .map (some i)] 96 :: ow (sa J) k a 3 1 B :: .obj i (.map ak aj) :: cf :: .blk O [sl o ([] : List api_Kind) j, sl o ([] : List Int) j, sl o ([] : List api_Item) j] 26 :: ow o ([] : List api_Kind) j 86 2 bg :: ow o ([] : List Int) j 3 1 bh :: ow o ([] : List api_Item) j 61 3 bi :: .blk K [sl U M V, sl E H G, sl am af ao] 26 :: ow U M V 86 2 bd :: ow E H G 3 1 y6 :: ow am af ao 61 3 bj :: Fz b0 b2 :: cs)) (fun w_ hM => ⟨hM.drew, hM.drew.sub (.cons _ (.cons_cons _ (.cons_cons _ (.cons_cons _ (.cons_cons _ (.cons_cons _ (.cons_cons _ (.cons_cons _ (.cons_cons _ (.cons _ (.cons_cons _ (.cons_cons _ (.cons _ (.cons_cons _ (.refl _)))))))))))))))⟩) ?_
      refine tree_node ?_
      refine oq [oT 0, oT 2, oT 3, oT 4, oT 5] [(59, .map (some bo)), (58, .agg #[vI C, vI ag]), (54, vP K 2), (0, vP r 0), (2, vP O 0), (3, vP K 0), (39, sl (sa J) k a), (40, vI (k.length : Int)), (41, vI C)] ?_
      refine ops_nil ?_
      refine tree_both ?_ ?_
      ·
       refine tree_leaf ?_
       refine oM 55 9 2 ?_
       refine ops_callI (σ := (Option Addr) × Nat × (List Value) × (Array MapEntry) × Nat × (Nat → Prop) × World) (d := some 60) (f := 11) (args := #[.map (some bo)]) (v := (fun A => match A with | (bl, bm, cv, b4, b3, b5, b6) => sl bl aa bm)) (I := (fun A => match A with | (bl, bm, cv, b4, b3, b5, b6) => (RepL R_api_Comp b5 b6 aa cv) ∧ (MapOK (fun A : Int => Value.int .i64 A) (Rep.sl (Rep.int .i64)) false b5 b6 en b4 b3) ∧ (Ext w0 b0 b2 b5 b6))) (M' := (fun A => match A with | (bl, bm, cv, b4, b3, b5, b6) => Mem w0 (ow bl aa bm 42 2 cv :: .obj bo (.map b4 b3) :: .blk r [sl p D q, sl (sa J) k a, .map (some i)] 96 :: ow (sa J) k a 3 1 B :: .obj i (.map ak aj) :: cf :: .blk O [sl o ([] : List api_Kind) j, sl o ([] : List Int) j, sl o ([] : List api_Item) j] 26 :: ow o ([] : List api_Kind) j 86 2 bg :: ow o ([] : List Int) j 3 1 bh :: ow o ([] : List api_Item) j 61 3 bi :: .blk K [sl U M V, sl E H G, sl am af ao] 26 :: ow U M V 86 2 bd :: ow E H G 3 1 y6 :: ow am af ao 61 3 bj :: Fz b5 b6 :: cs))) ⟨by kernel_rfl⟩ (fun w_ hM hS => (@tourref3_Listed_ok w0 w_ (.blk r [sl p D q, sl (sa J) k a, .map (some i)] 96 :: ow (sa J) k a 3 1 B :: .obj i (.map ak aj) :: cf :: .blk O [sl o ([] : List api_Kind) j, sl o ([] : List Int) j, sl o ([] : List api_Item) j] 26 :: ow o ([] : List api_Kind) j 86 2 bg :: ow o ([] : List Int) j 3 1 bh :: ow o ([] : List api_Item) j 61 3 bi :: .blk K [sl U M V, sl E H G, sl am af ao] 26 :: ow U M V 86 2 bd :: ow E H G 3 1 y6 :: ow am af ao 61 3 bj :: cs) b0 b2 bo ey ex en (hM.pick 14 [0, 13, 1, 2, 3, 4, 5, 6, 7, 8, 9, 10, 11, 12] (by kernel_rfl) (by decide) rfl) g3 aa gm).mono (by rintro e w' ⟨⟨bl, bm, cv, b4, b3, b5, b6⟩, ⟨fd, em, be⟩, rfl, h'⟩; have h' : Mem w0 (ow bl aa bm 42 2 cv :: .obj bo (.map b4 b3) :: .blk r [sl p D q, sl (sa J) k a, .map (some i)] 96 :: ow (sa J) k a 3 1 B :: .obj i (.map ak aj) :: cf :: .blk O [sl o ([] : List api_Kind) j, sl o ([] : List Int) j, sl o ([] : List api_Item) j] 26 :: ow o ([] : List api_Kind) j 86 2 bg :: ow o ([] : List Int) j 3 1 bh :: ow o ([] : List api_Item) j 61 3 bi :: .blk K [sl U M V, sl E H G, sl am af ao] 26 :: ow U M V 86 2 bd :: ow E H G 3 1 y6 :: ow am af ao 61 3 bj :: Fz b5 b6 :: cs) w' := (h'.pick 15 [0, 1, 3, 4, 5, 6, 7, 8, 9, 10, 11, 12, 13, 14, 2] (by kernel_rfl) (by decide) rfl); exact ⟨(bl, bm, cv, b4, b3, b5, b6), ⟨fd, em, be⟩, rfl, h', (by first | exact (Mem.fzback h' 14 rfl be).sub (.cons _ (.cons _ (.cons_cons _ (.cons_cons _ (.cons_cons _ (.cons_cons _ (.cons_cons _ (.cons_cons _ (.cons_cons _ (.cons_cons _ (.cons _ (.cons_cons _ (.cons_cons _ (.cons _ (.cons_cons _ (.refl _)))))))))))))))) | exact (Mem.fzback h' 14 rfl (bk.trans be)).sub (.cons _ (.cons _ (.cons_cons _ (.cons_cons _ (.cons_cons _ (.cons_cons _ (.cons_cons _ (.cons_cons _ (.cons_cons _ (.cons_cons _ (.cons _ (.cons_cons _ (.cons_cons _ (.cons _ (.cons_cons _ (.refl _)))))))))))))))) | exact (Mem.fzback h' 14 rfl ((cu.trans bk).trans be)).sub (.cons _ (.cons _ (.cons_cons _ (.cons_cons _ (.cons_cons _ (.cons_cons _ (.cons_cons _ (.cons_cons _ (.cons_cons _ (.cons_cons _ (.cons _ (.cons_cons _ (.cons_cons _ (.cons _ (.cons_cons _ (.refl _)))))))))))))))))⟩)) ?_
       rintro ⟨bl, bm, cv, b4, b3, b5, b6⟩ ⟨fd, em, be⟩
       have Y := Y.ext be
       have X := X.ext be
       have b7 := b7.ext be
       have cc := cc.ext be
       have cd := cd.ext be
       have ce := ce.ext be
       have cb := cb.ext be
       have h7 := h7.ext be
       have cg := cg.ext be
       refine oq [oT 7] [(61, .agg #[vI C, vI ag, sl bl aa bm]), (55, sl am af ao), (0, vP r 0), (2, vP O 0), (3, vP K 0), (39, sl (sa J) k a), (40, vI (k.length : Int)), (41, vI C)] ?_
       refine ops_ex (σ := (Nat → Prop) × World) (I := fun A => Ext w0 b5 b6 A.1 A.2 ∧ RdS R_api_Comp A.1 A.2 bl bm aa) (M' := fun A => Mem w0 (.obj bo (.map b4 b3) :: .blk r [sl p D q, sl (sa J) k a, .map (some i)] 96 :: ow (sa J) k a 3 1 B :: .obj i (.map ak aj) :: cf :: .blk O [sl o ([] : List api_Kind) j, sl o ([] : List Int) j, sl o ([] : List api_Item) j] 26 :: ow o ([] : List api_Kind) j 86 2 bg :: ow o ([] : List Int) j 3 1 bh :: ow o ([] : List api_Item) j 61 3 bi :: .blk K [sl U M V, sl E H G, sl am af ao] 26 :: ow U M V 86 2 bd :: ow E H G 3 1 y6 :: ow am af ao 61 3 bj :: Fz A.1 A.2 :: cs)) (fun w_ hM => ?_) ?_
       · obtain ⟨F_, h1_, h2_, h3_⟩ := (hM.pick 15 [0, 14, 1, 2, 3, 4, 5, 6, 7, 8, 9, 10, 11, 12, 13] (by kernel_rfl) (by decide) rfl : Mem w0 (ow bl aa bm 42 2 cv :: Fz b5 b6 :: .obj bo (.map b4 b3) :: .blk r [sl p D q, sl (sa J) k a, .map (some i)] 96 :: ow (sa J) k a 3 1 B :: .obj i (.map ak aj) :: cf :: .blk O [sl o ([] : List api_Kind) j, sl o ([] : List Int) j, sl o ([] : List api_Item) j] 26 :: ow o ([] : List api_Kind) j 86 2 bg :: ow o ([] : List Int) j 3 1 bh :: ow o ([] : List api_Item) j 61 3 bi :: .blk K [sl U M V, sl E H G, sl am af ao] 26 :: ow U M V 86 2 bd :: ow E H G 3 1 y6 :: ow am af ao 61 3 bj :: cs) w_).freeze (z := 2) fd rfl rfl
         exact ⟨(F_, w_), ⟨h1_, h2_⟩, h3_.pick 14 [1, 2, 3, 4, 5, 6, 7, 8, 9, 10, 11, 12, 13, 0] (by kernel_rfl) (by decide) rfl⟩
       rintro ⟨c4, c9⟩ ⟨ax, fe⟩
       have ax : Ext w0 b5 b6 c4 c9 := ax
       have fe : RdS R_api_Comp c4 c9 bl bm aa := fe
       have em := em.ext ax
       have Y := Y.ext ax
       have X := X.ext ax
       have b7 := b7.ext ax
       have cc := cc.ext ax
       have cd := cd.ext ax
       have ce := ce.ext ax
       have cb := cb.ext ax
       have h7 := h7.ext ax
       have cg := cg.ext ax
       have ff : RepL R_api_Item c4 c9 ([(api_Item.mk (api_Ent.mk C ag) aa)] : List api_Item) ([vI C, vI ag, sl bl aa bm]) := (RepL.cons (R := R_api_Item) (F := c4) (w := c9) (vs := [vI C, vI ag, sl bl aa bm]) (ys := []) (enc_api_Item fe) RepL.nil)
       refine oBS 62 [vI C, vI ag, sl bl aa bm] 61 1 3 (fun g4 => ?_)
       obtain ⟨fz, gq⟩ := app_some e2
       obtain ⟨e4, f8⟩ : ∃ y_, bj ++ ([vI C, vI ag, sl bl aa bm]) = y_ := ⟨_, rfl⟩
       have g7 : RepL R_api_Item c4 c9 bf e4 := by rw [fz, ← f8]; exact RepL.app cg ff
       refine ops_appendO (x := (Go.Operand.tmp 55)) (y := (Go.Operand.tmp 62)) (t := 24) (e := 61) (d := some 63) (n' := bf.length) (z := 3) (m := ([(api_Item.mk (api_Ent.mk C ag) aa)] : List api_Item).length) (bytes := 40) (xs' := e4) (news := ([vI C, vI ag, sl bl aa bm])) (zv := .agg #[vI 0, vI 0, .slice none 0 0]) 13 ⟨by kernel_rfl⟩ rfl rfl Tryz.underlying24 (by kernel_rfl) (by rfl) rfl (fun w_ hM => hM.srcO 0 rfl) ff.len ff.one gq (by have z_ := congrArg List.length fz; rw [List.length_append] at z_; exact z_.symm) f8 (fun _ _ _ _ hS h' => (by first | exact (Mem.fzback h' 14 rfl ax).sub (.cons _ (.cons _ (.cons_cons _ (.cons_cons _ (.cons_cons _ (.cons_cons _ (.cons_cons _ (.cons_cons _ (.cons_cons _ (.cons_cons _ (.cons _ (.cons_cons _ (.cons_cons _ (.cons _ (.cons_cons _ (.refl _)))))))))))))))) | exact (Mem.fzback h' 14 rfl (be.trans ax)).sub (.cons _ (.cons _ (.cons_cons _ (.cons_cons _ (.cons_cons _ (.cons_cons _ (.cons_cons _ (.cons_cons _ (.cons_cons _ (.cons_cons _ (.cons _ (.cons_cons _ (.cons_cons _ (.cons _ (.cons_cons _ (.refl _)))))))))))))))) | exact (Mem.fzback h' 14 rfl ((bk.trans be).trans ax)).sub (.cons _ (.cons _ (.cons_cons _ (.cons_cons _ (.cons_cons _ (.cons_cons _ (.cons_cons _ (.cons_cons _ (.cons_cons _ (.cons_cons _ (.cons _ (.cons_cons _ (.cons_cons _ (.cons _ (.cons_cons _ (.refl _)))))))))))))))) | exact (Mem.fzback h' 14 rfl (((cu.trans bk).trans be).trans ax)).sub (.cons _ (.cons _ (.cons_cons _ (.cons_cons _ (.cons_cons _ (.cons_cons _ (.cons_cons _ (.cons_cons _ (.cons_cons _ (.cons_cons _ (.cons _ (.cons_cons _ (.cons_cons _ (.cons _ (.cons_cons _ (.refl _)))))))))))))))))) ?_
       rintro ⟨ef, ei⟩
       refine oq [oT 10] [(64, vP K 2), (63, sl ef bf ei), (0, vP r 0), (2, vP O 0), (3, vP K 0), (39, sl (sa J) k a), (40, vI (k.length : Int)), (41, vI C)] ?_
       refine oSS 10 2 [sl ef bf ei] (fun w' h' => (by first | exact (Mem.fzback h' 14 rfl ax).sub (.cons _ (.cons _ (.cons_cons _ (.cons_cons _ (.cons_cons _ (.cons_cons _ (.cons_cons _ (.cons_cons _ (.cons_cons _ (.cons_cons _ (.cons _ (.cons_cons _ (.cons_cons _ (.cons _ (.cons_cons _ (.refl _)))))))))))))))) | exact (Mem.fzback h' 14 rfl (be.trans ax)).sub (.cons _ (.cons _ (.cons_cons _ (.cons_cons _ (.cons_cons _ (.cons_cons _ (.cons_cons _ (.cons_cons _ (.cons_cons _ (.cons_cons _ (.cons _ (.cons_cons _ (.cons_cons _ (.cons _ (.cons_cons _ (.refl _)))))))))))))))) | exact (Mem.fzback h' 14 rfl ((bk.trans be).trans ax)).sub (.cons _ (.cons _ (.cons_cons _ (.cons_cons _ (.cons_cons _ (.cons_cons _ (.cons_cons _ (.cons_cons _ (.cons_cons _ (.cons_cons _ (.cons _ (.cons_cons _ (.cons_cons _ (.cons _ (.cons_cons _ (.refl _)))))))))))))))) | exact (Mem.fzback h' 14 rfl (((cu.trans bk).trans be).trans ax)).sub (.cons _ (.cons _ (.cons_cons _ (.cons_cons _ (.cons_cons _ (.cons_cons _ (.cons_cons _ (.cons_cons _ (.cons_cons _ (.cons_cons _ (.cons _ (.cons_cons _ (.cons_cons _ (.cons _ (.cons_cons _ (.refl _)))))))))))))))))) ?_
       refine oq [] [(0, vP r 0), (2, vP O 0), (3, vP K 0), (39, sl (sa J) k a), (40, vI (k.length : Int)), (41, vI C)] ?_
       refine ops_nil (fin_block ?_)
       obtain ⟨gf, gi, gy⟩ := MapH.close (x := (some en)) (Kx := [.obj bo (.map b4 b3)]) b7 (⟨_, _, _, rfl, rfl, em⟩)
       rw [mput_same e1] at gi
       refine fin_conv (l' := [(0, vP r 0), (2, vP O 0), (3, vP K 0), (39, sl (sa J) k a), (40, vI (k.length : Int)), (41, vI C)]) (M' := Mem w0 (orow (sa g4) ([(api_Item.mk (api_Ent.mk C ag) aa)] : List api_Item).length 1 61 3 ([vI C, vI ag, sl bl aa bm]) :: .blk r [sl p D q, sl (sa J) k a, .map (some i)] 96 :: ow (sa J) k a 3 1 B :: .obj i (.map ak aj) :: gf :: .blk O [sl o ([] : List api_Kind) j, sl o ([] : List Int) j, sl o ([] : List api_Item) j] 26 :: ow o ([] : List api_Kind) j 86 2 bg :: ow o ([] : List Int) j 3 1 bh :: ow o ([] : List api_Item) j 61 3 bi :: .blk K [sl U M V, sl E H G, sl ef bf ei] 26 :: ow U M V 86 2 bd :: ow E H G 3 1 y6 :: ow ef bf ei 61 3 e4 :: Fz c4 c9 :: cs)) rfl (fun w_ h => (gy (h.pick 15 [5, 1, 0, 2, 3, 4, 6, 7, 8, 9, 10, 11, 12, 13, 14] (by kernel_rfl) (by decide) rfl)).pick 14 [1, 2, 3, 4, 0, 5, 6, 7, 8, 9, 10, 11, 12, 13] (by kernel_rfl) (by decide) rfl) ?_
       exact fj fx (ak, aj, gf, ef, ei, bf, e4, c4, c9) ⟨hp, gi, g7, (be.trans ax)⟩ 14 [1, 2, 3, 4, 5, 6, 7, 8, 9, 10, 11, 12, 13]
      ·
       refine tree_node ?_
       refine ops_callI (σ := (Option Addr) × Nat × (List Value) × (Array MapEntry) × Nat × (Nat → Prop) × World) (d := some 60) (f := 11) (args := #[.map (some bo)]) (v := (fun A => match A with | (ar, au, cp, bq, bp, bv, bw) => sl ar aa au)) (I := (fun A => match A with | (ar, au, cp, bq, bp, bv, bw) => (RepL R_api_Comp bv bw aa cp) ∧ (MapOK (fun A : Int => Value.int .i64 A) (Rep.sl (Rep.int .i64)) false bv bw en bq bp) ∧ (Ext w0 b0 b2 bv bw))) (M' := (fun A => match A with | (ar, au, cp, bq, bp, bv, bw) => Mem w0 (ow ar aa au 42 2 cp :: .obj bo (.map bq bp) :: .blk r [sl p D q, sl (sa J) k a, .map (some i)] 96 :: ow (sa J) k a 3 1 B :: .obj i (.map ak aj) :: cf :: .blk O [sl o ([] : List api_Kind) j, sl o ([] : List Int) j, sl o ([] : List api_Item) j] 26 :: ow o ([] : List api_Kind) j 86 2 bg :: ow o ([] : List Int) j 3 1 bh :: ow o ([] : List api_Item) j 61 3 bi :: .blk K [sl U M V, sl E H G, sl am af ao] 26 :: ow U M V 86 2 bd :: ow E H G 3 1 y6 :: ow am af ao 61 3 bj :: Fz bv bw :: cs))) ⟨by kernel_rfl⟩ (fun w_ hM hS => (@tourref3_Listed_ok w0 w_ (.blk r [sl p D q, sl (sa J) k a, .map (some i)] 96 :: ow (sa J) k a 3 1 B :: .obj i (.map ak aj) :: cf :: .blk O [sl o ([] : List api_Kind) j, sl o ([] : List Int) j, sl o ([] : List api_Item) j] 26 :: ow o ([] : List api_Kind) j 86 2 bg :: ow o ([] : List Int) j 3 1 bh :: ow o ([] : List api_Item) j 61 3 bi :: .blk K [sl U M V, sl E H G, sl am af ao] 26 :: ow U M V 86 2 bd :: ow E H G 3 1 y6 :: ow am af ao 61 3 bj :: cs) b0 b2 bo ey ex en (hM.pick 14 [0, 13, 1, 2, 3, 4, 5, 6, 7, 8, 9, 10, 11, 12] (by kernel_rfl) (by decide) rfl) g3 aa gm).mono (by rintro e w' ⟨⟨ar, au, cp, bq, bp, bv, bw⟩, ⟨ez, c1, ap⟩, rfl, h'⟩; have h' : Mem w0 (ow ar aa au 42 2 cp :: .obj bo (.map bq bp) :: .blk r [sl p D q, sl (sa J) k a, .map (some i)] 96 :: ow (sa J) k a 3 1 B :: .obj i (.map ak aj) :: cf :: .blk O [sl o ([] : List api_Kind) j, sl o ([] : List Int) j, sl o ([] : List api_Item) j] 26 :: ow o ([] : List api_Kind) j 86 2 bg :: ow o ([] : List Int) j 3 1 bh :: ow o ([] : List api_Item) j 61 3 bi :: .blk K [sl U M V, sl E H G, sl am af ao] 26 :: ow U M V 86 2 bd :: ow E H G 3 1 y6 :: ow am af ao 61 3 bj :: Fz bv bw :: cs) w' := (h'.pick 15 [0, 1, 3, 4, 5, 6, 7, 8, 9, 10, 11, 12, 13, 14, 2] (by kernel_rfl) (by decide) rfl); exact ⟨(ar, au, cp, bq, bp, bv, bw), ⟨ez, c1, ap⟩, rfl, h', (by first | exact (Mem.fzback h' 14 rfl ap).sub (.cons _ (.cons _ (.cons_cons _ (.cons_cons _ (.cons_cons _ (.cons_cons _ (.cons_cons _ (.cons_cons _ (.cons_cons _ (.cons_cons _ (.cons _ (.cons_cons _ (.cons_cons _ (.cons _ (.cons_cons _ (.refl _)))))))))))))))) | exact (Mem.fzback h' 14 rfl (bk.trans ap)).sub (.cons _ (.cons _ (.cons_cons _ (.cons_cons _ (.cons_cons _ (.cons_cons _ (.cons_cons _ (.cons_cons _ (.cons_cons _ (.cons_cons _ (.cons _ (.cons_cons _ (.cons_cons _ (.cons _ (.cons_cons _ (.refl _)))))))))))))))) | exact (Mem.fzback h' 14 rfl ((cu.trans bk).trans ap)).sub (.cons _ (.cons _ (.cons_cons _ (.cons_cons _ (.cons_cons _ (.cons_cons _ (.cons_cons _ (.cons_cons _ (.cons_cons _ (.cons_cons _ (.cons _ (.cons_cons _ (.cons_cons _ (.cons _ (.cons_cons _ (.refl _)))))))))))))))))⟩)) ?_
       rintro ⟨ar, au, cp, bq, bp, bv, bw⟩ ⟨ez, c1, ap⟩
       have Y := Y.ext ap
       have X := X.ext ap
       have b7 := b7.ext ap
       have cc := cc.ext ap
       have cd := cd.ext ap
       have ce := ce.ext ap
       have cb := cb.ext ap
       have h7 := h7.ext ap
       have cg := cg.ext ap
       refine oq [oT 7] [(61, .agg #[vI C, vI ag, sl ar aa au]), (54, vP K 2), (0, vP r 0), (2, vP O 0), (3, vP K 0), (39, sl (sa J) k a), (40, vI (k.length : Int)), (41, vI C)] ?_
       refine ops_nil ?_
       refine tree_both ?_ ?_
       ·
        refine tree_leaf ?_
        refine oM 55 10 2 ?_
        refine ops_ex (σ := (Nat → Prop) × World) (I := fun A => Ext w0 bv bw A.1 A.2 ∧ RdS R_api_Comp A.1 A.2 ar au aa) (M' := fun A => Mem w0 (.obj bo (.map bq bp) :: .blk r [sl p D q, sl (sa J) k a, .map (some i)] 96 :: ow (sa J) k a 3 1 B :: .obj i (.map ak aj) :: cf :: .blk O [sl o ([] : List api_Kind) j, sl o ([] : List Int) j, sl o ([] : List api_Item) j] 26 :: ow o ([] : List api_Kind) j 86 2 bg :: ow o ([] : List Int) j 3 1 bh :: ow o ([] : List api_Item) j 61 3 bi :: .blk K [sl U M V, sl E H G, sl am af ao] 26 :: ow U M V 86 2 bd :: ow E H G 3 1 y6 :: ow am af ao 61 3 bj :: Fz A.1 A.2 :: cs)) (fun w_ hM => ?_) ?_
        · obtain ⟨F_, h1_, h2_, h3_⟩ := (hM.pick 15 [0, 14, 1, 2, 3, 4, 5, 6, 7, 8, 9, 10, 11, 12, 13] (by kernel_rfl) (by decide) rfl : Mem w0 (ow ar aa au 42 2 cp :: Fz bv bw :: .obj bo (.map bq bp) :: .blk r [sl p D q, sl (sa J) k a, .map (some i)] 96 :: ow (sa J) k a 3 1 B :: .obj i (.map ak aj) :: cf :: .blk O [sl o ([] : List api_Kind) j, sl o ([] : List Int) j, sl o ([] : List api_Item) j] 26 :: ow o ([] : List api_Kind) j 86 2 bg :: ow o ([] : List Int) j 3 1 bh :: ow o ([] : List api_Item) j 61 3 bi :: .blk K [sl U M V, sl E H G, sl am af ao] 26 :: ow U M V 86 2 bd :: ow E H G 3 1 y6 :: ow am af ao 61 3 bj :: cs) w_).freeze (z := 2) ez rfl rfl
          exact ⟨(F_, w_), ⟨h1_, h2_⟩, h3_.pick 14 [1, 2, 3, 4, 5, 6, 7, 8, 9, 10, 11, 12, 13, 0] (by kernel_rfl) (by decide) rfl⟩
        rintro ⟨c6, da⟩ ⟨ay, fg⟩
        have ay : Ext w0 bv bw c6 da := ay
        have fg : RdS R_api_Comp c6 da ar au aa := fg
        have c1 := c1.ext ay
        have Y := Y.ext ay
        have X := X.ext ay
        have b7 := b7.ext ay
        have cc := cc.ext ay
        have cd := cd.ext ay
        have ce := ce.ext ay
        have cb := cb.ext ay
        have h7 := h7.ext ay
        have cg := cg.ext ay
        have fh : RepL R_api_Item c6 da ([(api_Item.mk (api_Ent.mk C ag) aa)] : List api_Item) ([vI C, vI ag, sl ar aa au]) := (RepL.cons (R := R_api_Item) (F := c6) (w := da) (vs := [vI C, vI ag, sl ar aa au]) (ys := []) (enc_api_Item fg) RepL.nil)
        refine oBS 62 [vI C, vI ag, sl ar aa au] 61 1 3 (fun g5 => ?_)
        obtain ⟨f0, gr⟩ := app_some e2
        obtain ⟨e5, f9⟩ : ∃ y_, bj ++ ([vI C, vI ag, sl ar aa au]) = y_ := ⟨_, rfl⟩
        have g8 : RepL R_api_Item c6 da bf e5 := by rw [f0, ← f9]; exact RepL.app cg fh
        refine ops_appendO (x := (Go.Operand.tmp 55)) (y := (Go.Operand.tmp 62)) (t := 24) (e := 61) (d := some 63) (n' := bf.length) (z := 3) (m := ([(api_Item.mk (api_Ent.mk C ag) aa)] : List api_Item).length) (bytes := 40) (xs' := e5) (news := ([vI C, vI ag, sl ar aa au])) (zv := .agg #[vI 0, vI 0, .slice none 0 0]) 13 ⟨by kernel_rfl⟩ rfl rfl Tryz.underlying24 (by kernel_rfl) (by rfl) rfl (fun w_ hM => hM.srcO 0 rfl) fh.len fh.one gr (by have z_ := congrArg List.length f0; rw [List.length_append] at z_; exact z_.symm) f9 (fun _ _ _ _ hS h' => (by first | exact (Mem.fzback h' 14 rfl ay).sub (.cons _ (.cons _ (.cons_cons _ (.cons_cons _ (.cons_cons _ (.cons_cons _ (.cons_cons _ (.cons_cons _ (.cons_cons _ (.cons_cons _ (.cons _ (.cons_cons _ (.cons_cons _ (.cons _ (.cons_cons _ (.refl _)))))))))))))))) | exact (Mem.fzback h' 14 rfl (ap.trans ay)).sub (.cons _ (.cons _ (.cons_cons _ (.cons_cons _ (.cons_cons _ (.cons_cons _ (.cons_cons _ (.cons_cons _ (.cons_cons _ (.cons_cons _ (.cons _ (.cons_cons _ (.cons_cons _ (.cons _ (.cons_cons _ (.refl _)))))))))))))))) | exact (Mem.fzback h' 14 rfl ((bk.trans ap).trans ay)).sub (.cons _ (.cons _ (.cons_cons _ (.cons_cons _ (.cons_cons _ (.cons_cons _ (.cons_cons _ (.cons_cons _ (.cons_cons _ (.cons_cons _ (.cons _ (.cons_cons _ (.cons_cons _ (.cons _ (.cons_cons _ (.refl _)))))))))))))))) | exact (Mem.fzback h' 14 rfl (((cu.trans bk).trans ap).trans ay)).sub (.cons _ (.cons _ (.cons_cons _ (.cons_cons _ (.cons_cons _ (.cons_cons _ (.cons_cons _ (.cons_cons _ (.cons_cons _ (.cons_cons _ (.cons _ (.cons_cons _ (.cons_cons _ (.cons _ (.cons_cons _ (.refl _)))))))))))))))))) ?_
        rintro ⟨eg, ej⟩
        refine oq [oT 10] [(64, vP K 2), (63, sl eg bf ej), (0, vP r 0), (2, vP O 0), (3, vP K 0), (39, sl (sa J) k a), (40, vI (k.length : Int)), (41, vI C)] ?_
        refine oSS 10 2 [sl eg bf ej] (fun w' h' => (by first | exact (Mem.fzback h' 14 rfl ay).sub (.cons _ (.cons _ (.cons_cons _ (.cons_cons _ (.cons_cons _ (.cons_cons _ (.cons_cons _ (.cons_cons _ (.cons_cons _ (.cons_cons _ (.cons _ (.cons_cons _ (.cons_cons _ (.cons _ (.cons_cons _ (.refl _)))))))))))))))) | exact (Mem.fzback h' 14 rfl (ap.trans ay)).sub (.cons _ (.cons _ (.cons_cons _ (.cons_cons _ (.cons_cons _ (.cons_cons _ (.cons_cons _ (.cons_cons _ (.cons_cons _ (.cons_cons _ (.cons _ (.cons_cons _ (.cons_cons _ (.cons _ (.cons_cons _ (.refl _)))))))))))))))) | exact (Mem.fzback h' 14 rfl ((bk.trans ap).trans ay)).sub (.cons _ (.cons _ (.cons_cons _ (.cons_cons _ (.cons_cons _ (.cons_cons _ (.cons_cons _ (.cons_cons _ (.cons_cons _ (.cons_cons _ (.cons _ (.cons_cons _ (.cons_cons _ (.cons _ (.cons_cons _ (.refl _)))))))))))))))) | exact (Mem.fzback h' 14 rfl (((cu.trans bk).trans ap).trans ay)).sub (.cons _ (.cons _ (.cons_cons _ (.cons_cons _ (.cons_cons _ (.cons_cons _ (.cons_cons _ (.cons_cons _ (.cons_cons _ (.cons_cons _ (.cons _ (.cons_cons _ (.cons_cons _ (.cons _ (.cons_cons _ (.refl _)))))))))))))))))) ?_
        refine oq [] [(0, vP r 0), (2, vP O 0), (3, vP K 0), (39, sl (sa J) k a), (40, vI (k.length : Int)), (41, vI C)] ?_
        refine ops_nil (fin_block ?_)
        obtain ⟨gg, gj, gz⟩ := MapH.close (x := (some en)) (Kx := [.obj bo (.map bq bp)]) b7 (⟨_, _, _, rfl, rfl, c1⟩)
        rw [mput_same e1] at gj
        refine fin_conv (l' := [(0, vP r 0), (2, vP O 0), (3, vP K 0), (39, sl (sa J) k a), (40, vI (k.length : Int)), (41, vI C)]) (M' := Mem w0 (orow (sa g5) ([(api_Item.mk (api_Ent.mk C ag) aa)] : List api_Item).length 1 61 3 ([vI C, vI ag, sl ar aa au]) :: .blk r [sl p D q, sl (sa J) k a, .map (some i)] 96 :: ow (sa J) k a 3 1 B :: .obj i (.map ak aj) :: gg :: .blk O [sl o ([] : List api_Kind) j, sl o ([] : List Int) j, sl o ([] : List api_Item) j] 26 :: ow o ([] : List api_Kind) j 86 2 bg :: ow o ([] : List Int) j 3 1 bh :: ow o ([] : List api_Item) j 61 3 bi :: .blk K [sl U M V, sl E H G, sl eg bf ej] 26 :: ow U M V 86 2 bd :: ow E H G 3 1 y6 :: ow eg bf ej 61 3 e5 :: Fz c6 da :: cs)) rfl (fun w_ h => (gz (h.pick 15 [5, 1, 0, 2, 3, 4, 6, 7, 8, 9, 10, 11, 12, 13, 14] (by kernel_rfl) (by decide) rfl)).pick 14 [1, 2, 3, 4, 0, 5, 6, 7, 8, 9, 10, 11, 12, 13] (by kernel_rfl) (by decide) rfl) ?_
        exact fj fx (ak, aj, gg, eg, ej, bf, e5, c6, da) ⟨hp, gj, g8, (ap.trans ay)⟩ 14 [1, 2, 3, 4, 5, 6, 7, 8, 9, 10, 11, 12, 13]
       ·
        refine tree_leaf ?_
        refine ops_ex (σ := (Nat → Prop) × World) (I := fun A => Ext w0 bv bw A.1 A.2 ∧ RdS R_api_Comp A.1 A.2 ar au aa) (M' := fun A => Mem w0 (.obj bo (.map bq bp) :: .blk r [sl p D q, sl (sa J) k a, .map (some i)] 96 :: ow (sa J) k a 3 1 B :: .obj i (.map ak aj) :: cf :: .blk O [sl o ([] : List api_Kind) j, sl o ([] : List Int) j, sl o ([] : List api_Item) j] 26 :: ow o ([] : List api_Kind) j 86 2 bg :: ow o ([] : List Int) j 3 1 bh :: ow o ([] : List api_Item) j 61 3 bi :: .blk K [sl U M V, sl E H G, sl am af ao] 26 :: ow U M V 86 2 bd :: ow E H G 3 1 y6 :: ow am af ao 61 3 bj :: Fz A.1 A.2 :: cs)) (fun w_ hM => ?_) ?_
        · obtain ⟨F_, h1_, h2_, h3_⟩ := (hM.pick 15 [0, 14, 1, 2, 3, 4, 5, 6, 7, 8, 9, 10, 11, 12, 13] (by kernel_rfl) (by decide) rfl : Mem w0 (ow ar aa au 42 2 cp :: Fz bv bw :: .obj bo (.map bq bp) :: .blk r [sl p D q, sl (sa J) k a, .map (some i)] 96 :: ow (sa J) k a 3 1 B :: .obj i (.map ak aj) :: cf :: .blk O [sl o ([] : List api_Kind) j, sl o ([] : List Int) j, sl o ([] : List api_Item) j] 26 :: ow o ([] : List api_Kind) j 86 2 bg :: ow o ([] : List Int) j 3 1 bh :: ow o ([] : List api_Item) j 61 3 bi :: .blk K [sl U M V, sl E H G, sl am af ao] 26 :: ow U M V 86 2 bd :: ow E H G 3 1 y6 :: ow am af ao 61 3 bj :: cs) w_).freeze (z := 2) ez rfl rfl
          exact ⟨(F_, w_), ⟨h1_, h2_⟩, h3_.pick 14 [1, 2, 3, 4, 5, 6, 7, 8, 9, 10, 11, 12, 13, 0] (by kernel_rfl) (by decide) rfl⟩
        rintro ⟨c7, db⟩ ⟨az, fi⟩
        have az : Ext w0 bv bw c7 db := az
        have fi : RdS R_api_Comp c7 db ar au aa := fi
        have c1 := c1.ext az
        have Y := Y.ext az
        have X := X.ext az
        have b7 := b7.ext az
        have cc := cc.ext az
        have cd := cd.ext az
        have ce := ce.ext az
        have cb := cb.ext az
        have h7 := h7.ext az
        have cg := cg.ext az
        have fk : RepL R_api_Item c7 db ([(api_Item.mk (api_Ent.mk C ag) aa)] : List api_Item) ([vI C, vI ag, sl ar aa au]) := (RepL.cons (R := R_api_Item) (F := c7) (w := db) (vs := [vI C, vI ag, sl ar aa au]) (ys := []) (enc_api_Item fi) RepL.nil)
        refine oBS 62 [vI C, vI ag, sl ar aa au] 61 1 3 (fun g6 => ?_)
        refine oM 55 10 2 ?_
        obtain ⟨f1, gs⟩ := app_some e2
        obtain ⟨e6, ga⟩ : ∃ y_, bj ++ ([vI C, vI ag, sl ar aa au]) = y_ := ⟨_, rfl⟩
        have g9 : RepL R_api_Item c7 db bf e6 := by rw [f1, ← ga]; exact RepL.app cg fk
        refine ops_appendO (x := (Go.Operand.tmp 55)) (y := (Go.Operand.tmp 62)) (t := 24) (e := 61) (d := some 63) (n' := bf.length) (z := 3) (m := ([(api_Item.mk (api_Ent.mk C ag) aa)] : List api_Item).length) (bytes := 40) (xs' := e6) (news := ([vI C, vI ag, sl ar aa au])) (zv := .agg #[vI 0, vI 0, .slice none 0 0]) 13 ⟨by kernel_rfl⟩ rfl rfl Tryz.underlying24 (by kernel_rfl) (by rfl) rfl (fun w_ hM => hM.srcO 0 rfl) fk.len fk.one gs (by have z_ := congrArg List.length f1; rw [List.length_append] at z_; exact z_.symm) ga (fun _ _ _ _ hS h' => (by first | exact (Mem.fzback h' 14 rfl az).sub (.cons _ (.cons _ (.cons_cons _ (.cons_cons _ (.cons_cons _ (.cons_cons _ (.cons_cons _ (.cons_cons _ (.cons_cons _ (.cons_cons _ (.cons _ (.cons_cons _ (.cons_cons _ (.cons _ (.cons_cons _ (.refl _)))))))))))))))) | exact (Mem.fzback h' 14 rfl (ap.trans az)).sub (.cons _ (.cons _ (.cons_cons _ (.cons_cons _ (.cons_cons _ (.cons_cons _ (.cons_cons _ (.cons_cons _ (.cons_cons _ (.cons_cons _ (.cons _ (.cons_cons _ (.cons_cons _ (.cons _ (.cons_cons _ (.refl _)))))))))))))))) | exact (Mem.fzback h' 14 rfl ((bk.trans ap).trans az)).sub (.cons _ (.cons _ (.cons_cons _ (.cons_cons _ (.cons_cons _ (.cons_cons _ (.cons_cons _ (.cons_cons _ (.cons_cons _ (.cons_cons _ (.cons _ (.cons_cons _ (.cons_cons _ (.cons _ (.cons_cons _ (.refl _)))))))))))))))) | exact (Mem.fzback h' 14 rfl (((cu.trans bk).trans ap).trans az)).sub (.cons _ (.cons _ (.cons_cons _ (.cons_cons _ (.cons_cons _ (.cons_cons _ (.cons_cons _ (.cons_cons _ (.cons_cons _ (.cons_cons _ (.cons _ (.cons_cons _ (.cons_cons _ (.cons _ (.cons_cons _ (.refl _)))))))))))))))))) ?_
        rintro ⟨eh, ek⟩
        refine oq [oT 10] [(64, vP K 2), (63, sl eh bf ek), (0, vP r 0), (2, vP O 0), (3, vP K 0), (39, sl (sa J) k a), (40, vI (k.length : Int)), (41, vI C)] ?_
        refine oSS 10 2 [sl eh bf ek] (fun w' h' => (by first | exact (Mem.fzback h' 14 rfl az).sub (.cons _ (.cons _ (.cons_cons _ (.cons_cons _ (.cons_cons _ (.cons_cons _ (.cons_cons _ (.cons_cons _ (.cons_cons _ (.cons_cons _ (.cons _ (.cons_cons _ (.cons_cons _ (.cons _ (.cons_cons _ (.refl _)))))))))))))))) | exact (Mem.fzback h' 14 rfl (ap.trans az)).sub (.cons _ (.cons _ (.cons_cons _ (.cons_cons _ (.cons_cons _ (.cons_cons _ (.cons_cons _ (.cons_cons _ (.cons_cons _ (.cons_cons _ (.cons _ (.cons_cons _ (.cons_cons _ (.cons _ (.cons_cons _ (.refl _)))))))))))))))) | exact (Mem.fzback h' 14 rfl ((bk.trans ap).trans az)).sub (.cons _ (.cons _ (.cons_cons _ (.cons_cons _ (.cons_cons _ (.cons_cons _ (.cons_cons _ (.cons_cons _ (.cons_cons _ (.cons_cons _ (.cons _ (.cons_cons _ (.cons_cons _ (.cons _ (.cons_cons _ (.refl _)))))))))))))))) | exact (Mem.fzback h' 14 rfl (((cu.trans bk).trans ap).trans az)).sub (.cons _ (.cons _ (.cons_cons _ (.cons_cons _ (.cons_cons _ (.cons_cons _ (.cons_cons _ (.cons_cons _ (.cons_cons _ (.cons_cons _ (.cons _ (.cons_cons _ (.cons_cons _ (.cons _ (.cons_cons _ (.refl _)))))))))))))))))) ?_
        refine oq [] [(0, vP r 0), (2, vP O 0), (3, vP K 0), (39, sl (sa J) k a), (40, vI (k.length : Int)), (41, vI C)] ?_
        refine ops_nil (fin_block ?_)
        obtain ⟨gh, gk, g0⟩ := MapH.close (x := (some en)) (Kx := [.obj bo (.map bq bp)]) b7 (⟨_, _, _, rfl, rfl, c1⟩)
        rw [mput_same e1] at gk
        refine fin_conv (l' := [(0, vP r 0), (2, vP O 0), (3, vP K 0), (39, sl (sa J) k a), (40, vI (k.length : Int)), (41, vI C)]) (M' := Mem w0 (orow (sa g6) ([(api_Item.mk (api_Ent.mk C ag) aa)] : List api_Item).length 1 61 3 ([vI C, vI ag, sl ar aa au]) :: .blk r [sl p D q, sl (sa J) k a, .map (some i)] 96 :: ow (sa J) k a 3 1 B :: .obj i (.map ak aj) :: gh :: .blk O [sl o ([] : List api_Kind) j, sl o ([] : List Int) j, sl o ([] : List api_Item) j] 26 :: ow o ([] : List api_Kind) j 86 2 bg :: ow o ([] : List Int) j 3 1 bh :: ow o ([] : List api_Item) j 61 3 bi :: .blk K [sl U M V, sl E H G, sl eh bf ek] 26 :: ow U M V 86 2 bd :: ow E H G 3 1 y6 :: ow eh bf ek 61 3 e6 :: Fz c7 db :: cs)) rfl (fun w_ h => (g0 (h.pick 15 [5, 1, 0, 2, 3, 4, 6, 7, 8, 9, 10, 11, 12, 13, 14] (by kernel_rfl) (by decide) rfl)).pick 14 [1, 2, 3, 4, 0, 5, 6, 7, 8, 9, 10, 11, 12, 13] (by kernel_rfl) (by decide) rfl) ?_
        exact fj fx (ak, aj, gh, eh, ek, bf, e6, c7, db) ⟨hp, gk, g9, (ap.trans az)⟩ 14 [1, 2, 3, 4, 5, 6, 7, 8, 9, 10, 11, 12, 13]
   ·
    refine st_exit (fin_exit_then (fin_exit_then (fin_exit ?_)))
    obtain rfl := Option.some.inj hp
    obtain rfl := ht _ rfl
    have hp : (tourref3_Flat_Close_j2 M H) af = some (ch, ci, cj) := hv
    exact fj hl (am, ao, af, bj, ak, aj, dd, b0, b2) ⟨hp, cg, fy, bk⟩ 13 [4, 5, 6, 7, 8, 9, 10, 11, 0, 1, 2, 3, 12]
 ·
  intro hk
  refine st_seq (st_seq ?_)
  refine st_region (oFs 0 6) (by rfl) ?_
  refine oq (oFs 0 3) [(17, vP r 0), (3, vP K 0), (2, vP O 0), (0, vP r 0)] ?_
  refine oM 18 3 0 ?_
  refine oq [oF 4, oF 5] [(20, vI 0), (19, vI (D.length : Int)), (18, sl p D q), (3, vP K 0), (2, vP O 0), (0, vP r 0)] ?_
  refine ops_nil (fin_then (st_block ?_))
  refine snil 86 2 ?_
  refine snil 3 1 ?_
  refine snil 61 3 ?_
  refine snil 86 2 ?_
  refine snil 61 3 ?_
  obtain ⟨r5, hy, hw⟩ := obind hp
  refine lp (σ := (List api_Kind) × Int) (ρ := (List api_Kind)) (γ := (Option Addr) × Nat × (List Value) × (List Value) × (List Value) × (Option Addr) × Nat × (List Value) × (List Value) × (Nat → Prop) × World) hy (none, 0, [], [], [], none, 0, [], [], F, W) (fun s_ g_ => match s_, g_ with | (Z, bn), (c, g, a5, a6, a7, ab, ac, a8, a9, ah, ai) => [(0, vP r 0), (2, vP O 0), (3, vP K 0), (18, sl p D q), (19, vI (D.length : Int)), (20, vI bn)]) (fun s_ g_ => match s_, g_ with | (Z, bn), (c, g, a5, a6, a7, ab, ac, a8, a9, ah, ai) => Mem w0 (.blk r [sl p D q, sl s k a, .map (some i)] 96 :: ow s k a 3 1 B :: .obj i (.map ae ad) :: av :: .blk O [sl c ([] : List api_Kind) g, sl c ([] : List Int) g, sl c ([] : List api_Item) g] 26 :: ow c ([] : List api_Kind) g 86 2 a5 :: ow c ([] : List Int) g 3 1 a6 :: ow c ([] : List api_Item) g 61 3 a7 :: .blk K [sl ab Z ac, sl E H G, sl c ([] : List api_Item) g] 26 :: ow ab Z ac 86 2 a8 :: ow E H G 3 1 y6 :: ow c ([] : List api_Item) g 61 3 a9 :: Fz ah ai :: cs)) (fun s_ g_ => match s_, g_ with | (Z, bn), (c, g, a5, a6, a7, ab, ac, a8, a9, ah, ai) => (RepL R_api_Kind ah ai ([] : List api_Kind) a5) ∧ (RepL (Rep.int .i64) ah ai ([] : List Int) a6) ∧ (RepL R_api_Item ah ai ([] : List api_Item) a7) ∧ (RepL R_api_Kind ah ai Z a8) ∧ (RepL R_api_Item ah ai ([] : List api_Item) a9) ∧ (Ext w0 F W ah ai)) ⟨(RepL.nil (R := R_api_Kind)), (RepL.nil (R := (Rep.int .i64))), (RepL.nil (R := R_api_Item)), (RepL.nil (R := R_api_Kind)), (RepL.nil (R := R_api_Item)), (Ext.refl _ _ _)⟩ 13 [8, 9, 10, 11, 7, 4, 3, 2, 5, 1, 6, 0, 12] ?_
  rintro ⟨Z, bn⟩ ⟨c, g, a5, a6, a7, ab, ac, a8, a9, ah, ai⟩ o5 ⟨ck, cl, cm, cn, co, cx⟩ hs_ hu
  have hp : (tourref3_Flat_Close_l5 D) Z bn = some o5 := hs_
  clear hs_
  unfold tourref3_Flat_Close_l5 at hp
  have Y := Y.ext cx
  have X := X.ext cx
  have bu := bu.ext cx
  have h7 := h7.ext cx
  refine st_seq (st_region [oF 0] (by rfl) ?_)
  refine oq [oF 0] [(21, .bool (decide (bn < (D.length : Int)))), (0, vP r 0), (2, vP O 0), (3, vP K 0), (18, sl p D q), (19, vI (D.length : Int)), (20, vI bn)] ?_
  refine ops_nil (fin_then (st_seq ?_))
  refine sif hp (fun gw hp => ?_) (fun gw hp => ?_)
  ·
   refine st_skip (fin_then ?_)
   refine st_join1 (σ := (Option Addr) × Nat × (List api_Kind) × (List Value) × (Nat → Prop) × World) (L := fun A => match A with | (dj, dr, c3, dw, c8, dc) => [(0, vP r 0), (2, vP O 0), (3, vP K 0), (18, sl p D q), (19, vI (D.length : Int)), (20, vI bn)]) (N := fun A => match A with | (dj, dr, c3, dw, c8, dc) => Mem w0 (.blk r [sl p D q, sl s k a, .map (some i)] 96 :: ow s k a 3 1 B :: .obj i (.map ae ad) :: av :: .blk O [sl c ([] : List api_Kind) g, sl c ([] : List Int) g, sl c ([] : List api_Item) g] 26 :: ow c ([] : List api_Kind) g 86 2 a5 :: ow c ([] : List Int) g 3 1 a6 :: ow c ([] : List api_Item) g 61 3 a7 :: .blk K [sl dj c3 dr, sl E H G, sl c ([] : List api_Item) g] 26 :: ow dj c3 dr 86 2 dw :: ow E H G 3 1 y6 :: ow c ([] : List api_Item) g 61 3 a9 :: Fz c8 dc :: cs)) (I := fun A => match A with | (dj, dr, c3, dw, c8, dc) => ((tourref3_Flat_Close_j6 bn) c3 = some o5) ∧ (RepL R_api_Kind c8 dc c3 dw) ∧ (Ext w0 ah ai c8 dc)) ?_ ?_
   ·
    rintro ⟨dj, dr, c3, dw, c8, dc⟩ ⟨hp, ha, di⟩
    have Y := Y.ext di
    have X := X.ext di
    have bu := bu.ext di
    have ck := ck.ext di
    have cl := cl.ext di
    have cm := cm.ext di
    have h7 := h7.ext di
    have co := co.ext di
    unfold tourref3_Flat_Close_j6 at hp
    refine st_region [oF 0, oF 1] (by rfl) ?_
    refine oq [oF 0, oF 1] [(20, vI (IntKind.i64.wrap (bn + 1))), (0, vP r 0), (2, vP O 0), (3, vP K 0), (18, sl p D q), (19, vI (D.length : Int))] ?_
    refine ops_nil ?_
    exact fag (c3, IntKind.i64.wrap (bn + 1)) (c, g, a5, a6, a7, dj, dr, dw, a9, c8, dc) (Option.some.inj hp).symm ⟨ck, cl, cm, ha, co, (cx.trans di)⟩ 0 []
   ·
    intro ge
    refine st_seq (st_block (st_seq ?_))
    refine st_region (oFs 0 4) (by rfl) ?_
    obtain ⟨u, g2, hp⟩ := obind hp
    obtain ⟨ft, g1, f7⟩ := idx_some g2
    have gx := (List.getElem?_eq_some_iff.1 f7).1
    obtain ⟨ew, h2, gp, hr218, f5⟩ := RdS.el Y f7
    obtain ⟨a3, a4, rfl, c2⟩ := dec_api_Kind hr218
    refine ops_val (op := (.indexAddr 22 (.tmp 18) (.tmp 20))) (d := some 22) (v := .pointer (some (ew.add (ft * 2)))) ⟨by kernel_rfl⟩ (run_indexA gp Tryz.underlying22 (z := 2) (by kernel_rfl) rfl rfl g1 gx) ?_
    refine ops_mem (d := some 23) (an := [.v (.string u.Name), .v (sl a3 u.Fields a4)]) (evs := [.load (ew.add (ft * 2)) (.string u.Name), .load ((ew.add (ft * 2)).add 1) (sl a3 u.Fields a4)]) (v := .agg #[.string u.Name, sl a3 u.Fields a4]) ⟨by kernel_rfl⟩ (fun w_ hM hS => ⟨w_, ⟨hM.elcell 12 rfl f5 0 rfl, hM.elcell 12 rfl f5 1 rfl, rfl⟩, hM, trivial⟩) ?_
    refine oN 5 [.string ByteArray.empty, .slice none 0 0] 86 (fun bs => ?_)
    refine oS 0 0 [.string u.Name, sl a3 u.Fields a4] ?_
    refine ops_nil (fin_then ?_)
    obtain ⟨T, f6, hp⟩ := obind hp
    obtain ⟨bz, e3, hp⟩ := obind hp
    refine st_region_tree (.node [oT 0, oT 2, oT 3, oT 4, oT 5] (.leaf [oF 1, oF 6, oT 7, oF 8, oF 9, oT 10, oF 11]) (.node [oF 6, oT 7] (.leaf [oF 1, oF 8, oF 9, oT 10, oF 11]) (.leaf [oF 8, oF 1, oF 9, oT 10, oF 11]))) (Mem w0 (.blk bs [.string u.Name, sl a3 u.Fields a4] 86 :: .blk r [sl p D q, sl s k a, .map (some i)] 96 :: ow s k a 3 1 B :: .obj i (.map ae ad) :: av :: .blk O [sl c ([] : List api_Kind) g, sl c ([] : List Int) g, sl c ([] : List api_Item) g] 26 :: ow c ([] : List api_Kind) g 86 2 a5 :: ow c ([] : List Int) g 3 1 a6 :: ow c ([] : List api_Item) g 61 3 a7 :: ow E H G 3 1 y6 :: ow c ([] : List api_Item) g 61 3 a9 :: Fz ah ai :: cs)) (by kernel_rfl) (by kernel_rfl) (by kernel_rfl) (fun _ d _ _ _ h => by cases d <;> exact h) (M' := Mem w0 (.blk bs [.string u.Name, sl a3 u.Fields a4] 86 :: .blk r [sl p D q, sl s k a, .map (some i)] 96 :: ow s k a 3 1 B :: .obj i (.map ae ad) :: av :: .blk O [sl c ([] : List api_Kind) g, sl c ([] : List Int) g, sl c ([] : List api_Item) g] 26 :: ow c ([] : List api_Kind) g 86 2 a5 :: ow c ([] : List Int) g 3 1 a6 :: ow c ([] : List api_Item) g 61 3 a7 :: .blk K [sl ab Z ac, sl E H G, sl c ([] : List api_Item) g] 26 :: ow ab Z ac 86 2 a8 :: ow E H G 3 1 y6 :: ow c ([] : List api_Item) g 61 3 a9 :: Fz ah ai :: cs)) (fun w_ hM => ⟨hM.drew, hM.drew.sub (.cons_cons _ (.cons_cons _ (.cons_cons _ (.cons_cons _ (.cons_cons _ (.cons_cons _ (.cons_cons _ (.cons_cons _ (.cons_cons _ (.cons _ (.cons _ (.cons_cons _ (.cons_cons _ (.cons_cons _ (.refl _)))))))))))))))⟩) ?_
    refine tree_node ?_
    refine oq [oT 0, oT 2] [(26, vP bs 0), (24, vP K 0), (5, vP bs 0), (0, vP r 0), (2, vP O 0), (3, vP K 0), (18, sl p D q), (19, vI (D.length : Int)), (20, vI bn)] ?_
    refine oL 27 0 0 ?_
    refine oq [oT 4] [(28, vP bs 1), (27, .string u.Name), (24, vP K 0), (0, vP r 0), (2, vP O 0), (3, vP K 0), (18, sl p D q), (19, vI (D.length : Int)), (20, vI bn)] ?_
    refine oL 29 0 1 ?_
    refine ops_nil ?_
    refine tree_both ?_ ?_
    ·
     refine tree_leaf ?_
     refine oM 25 9 0 ?_
     refine ops_callI (σ := (Option Addr) × Nat × (List Value)) (d := some 30) (f := 50) (args := #[sl a3 u.Fields a4]) (v := (fun A => match A with | (br, bt, cw) => sl br T bt)) (I := (fun A => match A with | (br, bt, cw) => (RepL R_api_Field ah ai T cw))) (M' := (fun A => match A with | (br, bt, cw) => Mem w0 (ow br T bt 99 3 cw :: .blk bs [.string u.Name, sl a3 u.Fields a4] 86 :: .blk r [sl p D q, sl s k a, .map (some i)] 96 :: ow s k a 3 1 B :: .obj i (.map ae ad) :: av :: .blk O [sl c ([] : List api_Kind) g, sl c ([] : List Int) g, sl c ([] : List api_Item) g] 26 :: ow c ([] : List api_Kind) g 86 2 a5 :: ow c ([] : List Int) g 3 1 a6 :: ow c ([] : List api_Item) g 61 3 a7 :: .blk K [sl ab Z ac, sl E H G, sl c ([] : List api_Item) g] 26 :: ow ab Z ac 86 2 a8 :: ow E H G 3 1 y6 :: ow c ([] : List api_Item) g 61 3 a9 :: Fz ah ai :: cs))) ⟨by kernel_rfl⟩ (fun w_ hM hS => (@slices_Clone_api_Field_api_Field_ok w0 w_ (.blk bs [.string u.Name, sl a3 u.Fields a4] 86 :: .blk r [sl p D q, sl s k a, .map (some i)] 96 :: ow s k a 3 1 B :: .obj i (.map ae ad) :: av :: .blk O [sl c ([] : List api_Kind) g, sl c ([] : List Int) g, sl c ([] : List api_Item) g] 26 :: ow c ([] : List api_Kind) g 86 2 a5 :: ow c ([] : List Int) g 3 1 a6 :: ow c ([] : List api_Item) g 61 3 a7 :: .blk K [sl ab Z ac, sl E H G, sl c ([] : List api_Item) g] 26 :: ow ab Z ac 86 2 a8 :: ow E H G 3 1 y6 :: ow c ([] : List api_Item) g 61 3 a9 :: cs) ah ai a3 a4 u.Fields (hM.pick 14 [13, 0, 1, 2, 3, 4, 5, 6, 7, 8, 9, 10, 11, 12] (by kernel_rfl) (by decide) rfl) c2 T f6).mono (by rintro e w' ⟨⟨br, bt, cw⟩, fl, rfl, h'⟩; have h' : Mem w0 (ow br T bt 99 3 cw :: .blk bs [.string u.Name, sl a3 u.Fields a4] 86 :: .blk r [sl p D q, sl s k a, .map (some i)] 96 :: ow s k a 3 1 B :: .obj i (.map ae ad) :: av :: .blk O [sl c ([] : List api_Kind) g, sl c ([] : List Int) g, sl c ([] : List api_Item) g] 26 :: ow c ([] : List api_Kind) g 86 2 a5 :: ow c ([] : List Int) g 3 1 a6 :: ow c ([] : List api_Item) g 61 3 a7 :: .blk K [sl ab Z ac, sl E H G, sl c ([] : List api_Item) g] 26 :: ow ab Z ac 86 2 a8 :: ow E H G 3 1 y6 :: ow c ([] : List api_Item) g 61 3 a9 :: Fz ah ai :: cs) w' := (h'.pick 15 [0, 2, 3, 4, 5, 6, 7, 8, 9, 10, 11, 12, 13, 14, 1] (by kernel_rfl) (by decide) rfl); exact ⟨(br, bt, cw), fl, rfl, h', (by exact h'.sub (.cons _ (.cons_cons _ (.cons_cons _ (.cons_cons _ (.cons_cons _ (.cons_cons _ (.cons_cons _ (.cons_cons _ (.cons_cons _ (.cons_cons _ (.cons _ (.cons _ (.cons_cons _ (.cons_cons _ (.cons_cons _ (.refl _)))))))))))))))))⟩)) ?_
     rintro ⟨br, bt, cw⟩ fl
     refine oq [oT 7] [(31, .agg #[.string u.Name, sl br T bt]), (25, sl ab Z ac), (0, vP r 0), (2, vP O 0), (3, vP K 0), (18, sl p D q), (19, vI (D.length : Int)), (20, vI bn)] ?_
     refine ops_ex (σ := (Nat → Prop) × World) (I := fun A => Ext w0 ah ai A.1 A.2 ∧ RdS R_api_Field A.1 A.2 br bt T) (M' := fun A => Mem w0 (.blk bs [.string u.Name, sl a3 u.Fields a4] 86 :: .blk r [sl p D q, sl s k a, .map (some i)] 96 :: ow s k a 3 1 B :: .obj i (.map ae ad) :: av :: .blk O [sl c ([] : List api_Kind) g, sl c ([] : List Int) g, sl c ([] : List api_Item) g] 26 :: ow c ([] : List api_Kind) g 86 2 a5 :: ow c ([] : List Int) g 3 1 a6 :: ow c ([] : List api_Item) g 61 3 a7 :: .blk K [sl ab Z ac, sl E H G, sl c ([] : List api_Item) g] 26 :: ow ab Z ac 86 2 a8 :: ow E H G 3 1 y6 :: ow c ([] : List api_Item) g 61 3 a9 :: Fz A.1 A.2 :: cs)) (fun w_ hM => ?_) ?_
     · obtain ⟨F_, h1_, h2_, h3_⟩ := (hM.pick 15 [0, 14, 1, 2, 3, 4, 5, 6, 7, 8, 9, 10, 11, 12, 13] (by kernel_rfl) (by decide) rfl : Mem w0 (ow br T bt 99 3 cw :: Fz ah ai :: .blk bs [.string u.Name, sl a3 u.Fields a4] 86 :: .blk r [sl p D q, sl s k a, .map (some i)] 96 :: ow s k a 3 1 B :: .obj i (.map ae ad) :: av :: .blk O [sl c ([] : List api_Kind) g, sl c ([] : List Int) g, sl c ([] : List api_Item) g] 26 :: ow c ([] : List api_Kind) g 86 2 a5 :: ow c ([] : List Int) g 3 1 a6 :: ow c ([] : List api_Item) g 61 3 a7 :: .blk K [sl ab Z ac, sl E H G, sl c ([] : List api_Item) g] 26 :: ow ab Z ac 86 2 a8 :: ow E H G 3 1 y6 :: ow c ([] : List api_Item) g 61 3 a9 :: cs) w_).freeze (z := 3) fl rfl rfl
       exact ⟨(F_, w_), ⟨h1_, h2_⟩, h3_.pick 14 [1, 2, 3, 4, 5, 6, 7, 8, 9, 10, 11, 12, 13, 0] (by kernel_rfl) (by decide) rfl⟩
     rintro ⟨dk, dn⟩ ⟨ba, fm⟩
     have ba : Ext w0 ah ai dk dn := ba
     have fm : RdS R_api_Field dk dn br bt T := fm
     have Y := Y.ext ba
     have c2 := c2.ext ba
     have X := X.ext ba
     have bu := bu.ext ba
     have ck := ck.ext ba
     have cl := cl.ext ba
     have cm := cm.ext ba
     have cn := cn.ext ba
     have h7 := h7.ext ba
     have co := co.ext ba
     have fn : RepL R_api_Kind dk dn ([(api_Kind.mk u.Name T)] : List api_Kind) ([.string u.Name, sl br T bt]) := (RepL.cons (R := R_api_Kind) (F := dk) (w := dn) (vs := [.string u.Name, sl br T bt]) (ys := []) (enc_api_Kind fm) RepL.nil)
     refine oBS 32 [.string u.Name, sl br T bt] 86 1 2 (fun h4 => ?_)
     obtain ⟨f2, gt⟩ := app_some e3
     obtain ⟨fu, gb⟩ : ∃ y_, a8 ++ ([.string u.Name, sl br T bt]) = y_ := ⟨_, rfl⟩
     have hb : RepL R_api_Kind dk dn bz fu := by rw [f2, ← gb]; exact RepL.app cn fn
     refine ops_appendO (x := (Go.Operand.tmp 25)) (y := (Go.Operand.tmp 32)) (t := 22) (e := 86) (d := some 33) (n' := bz.length) (z := 2) (m := ([(api_Kind.mk u.Name T)] : List api_Kind).length) (bytes := 40) (xs' := fu) (news := ([.string u.Name, sl br T bt])) (zv := .agg #[.string ByteArray.empty, .slice none 0 0]) 11 ⟨by kernel_rfl⟩ rfl rfl Tryz.underlying22 (by kernel_rfl) (by rfl) rfl (fun w_ hM => hM.srcO 0 rfl) fn.len fn.one gt (by have z_ := congrArg List.length f2; rw [List.length_append] at z_; exact z_.symm) gb (fun _ _ _ _ hS h' => (by first | exact (Mem.fzback h' 14 rfl ba).sub (.cons _ (.cons_cons _ (.cons_cons _ (.cons_cons _ (.cons_cons _ (.cons_cons _ (.cons_cons _ (.cons_cons _ (.cons_cons _ (.cons_cons _ (.cons _ (.cons _ (.cons_cons _ (.cons_cons _ (.cons_cons _ (.refl _)))))))))))))))) | exact (Mem.fzback h' 14 rfl (cx.trans ba)).sub (.cons _ (.cons_cons _ (.cons_cons _ (.cons_cons _ (.cons_cons _ (.cons_cons _ (.cons_cons _ (.cons_cons _ (.cons_cons _ (.cons_cons _ (.cons _ (.cons _ (.cons_cons _ (.cons_cons _ (.cons_cons _ (.refl _)))))))))))))))))) ?_
     rintro ⟨e7, fa⟩
     refine oq [oT 10] [(34, vP K 0), (33, sl e7 bz fa), (0, vP r 0), (2, vP O 0), (3, vP K 0), (18, sl p D q), (19, vI (D.length : Int)), (20, vI bn)] ?_
     refine oSS 10 0 [sl e7 bz fa] (fun w' h' => (by first | exact (Mem.fzback h' 14 rfl ba).sub (.cons _ (.cons_cons _ (.cons_cons _ (.cons_cons _ (.cons_cons _ (.cons_cons _ (.cons_cons _ (.cons_cons _ (.cons_cons _ (.cons_cons _ (.cons _ (.cons _ (.cons_cons _ (.cons_cons _ (.cons_cons _ (.refl _)))))))))))))))) | exact (Mem.fzback h' 14 rfl (cx.trans ba)).sub (.cons _ (.cons_cons _ (.cons_cons _ (.cons_cons _ (.cons_cons _ (.cons_cons _ (.cons_cons _ (.cons_cons _ (.cons_cons _ (.cons_cons _ (.cons _ (.cons _ (.cons_cons _ (.cons_cons _ (.cons_cons _ (.refl _)))))))))))))))))) ?_
     refine ops_nil (fin_block ?_)
     exact fj ge (e7, fa, bz, fu, dk, dn) ⟨hp, hb, ba⟩ 15 [2, 3, 4, 5, 6, 7, 8, 9, 10, 11, 12, 13, 14]
    ·
     refine tree_node ?_
     refine ops_callI (σ := (Option Addr) × Nat × (List Value)) (d := some 30) (f := 50) (args := #[sl a3 u.Fields a4]) (v := (fun A => match A with | (a0, a1, cq) => sl a0 T a1)) (I := (fun A => match A with | (a0, a1, cq) => (RepL R_api_Field ah ai T cq))) (M' := (fun A => match A with | (a0, a1, cq) => Mem w0 (ow a0 T a1 99 3 cq :: .blk bs [.string u.Name, sl a3 u.Fields a4] 86 :: .blk r [sl p D q, sl s k a, .map (some i)] 96 :: ow s k a 3 1 B :: .obj i (.map ae ad) :: av :: .blk O [sl c ([] : List api_Kind) g, sl c ([] : List Int) g, sl c ([] : List api_Item) g] 26 :: ow c ([] : List api_Kind) g 86 2 a5 :: ow c ([] : List Int) g 3 1 a6 :: ow c ([] : List api_Item) g 61 3 a7 :: .blk K [sl ab Z ac, sl E H G, sl c ([] : List api_Item) g] 26 :: ow ab Z ac 86 2 a8 :: ow E H G 3 1 y6 :: ow c ([] : List api_Item) g 61 3 a9 :: Fz ah ai :: cs))) ⟨by kernel_rfl⟩ (fun w_ hM hS => (@slices_Clone_api_Field_api_Field_ok w0 w_ (.blk bs [.string u.Name, sl a3 u.Fields a4] 86 :: .blk r [sl p D q, sl s k a, .map (some i)] 96 :: ow s k a 3 1 B :: .obj i (.map ae ad) :: av :: .blk O [sl c ([] : List api_Kind) g, sl c ([] : List Int) g, sl c ([] : List api_Item) g] 26 :: ow c ([] : List api_Kind) g 86 2 a5 :: ow c ([] : List Int) g 3 1 a6 :: ow c ([] : List api_Item) g 61 3 a7 :: .blk K [sl ab Z ac, sl E H G, sl c ([] : List api_Item) g] 26 :: ow ab Z ac 86 2 a8 :: ow E H G 3 1 y6 :: ow c ([] : List api_Item) g 61 3 a9 :: cs) ah ai a3 a4 u.Fields (hM.pick 14 [13, 0, 1, 2, 3, 4, 5, 6, 7, 8, 9, 10, 11, 12] (by kernel_rfl) (by decide) rfl) c2 T f6).mono (by rintro e w' ⟨⟨a0, a1, cq⟩, e0, rfl, h'⟩; have h' : Mem w0 (ow a0 T a1 99 3 cq :: .blk bs [.string u.Name, sl a3 u.Fields a4] 86 :: .blk r [sl p D q, sl s k a, .map (some i)] 96 :: ow s k a 3 1 B :: .obj i (.map ae ad) :: av :: .blk O [sl c ([] : List api_Kind) g, sl c ([] : List Int) g, sl c ([] : List api_Item) g] 26 :: ow c ([] : List api_Kind) g 86 2 a5 :: ow c ([] : List Int) g 3 1 a6 :: ow c ([] : List api_Item) g 61 3 a7 :: .blk K [sl ab Z ac, sl E H G, sl c ([] : List api_Item) g] 26 :: ow ab Z ac 86 2 a8 :: ow E H G 3 1 y6 :: ow c ([] : List api_Item) g 61 3 a9 :: Fz ah ai :: cs) w' := (h'.pick 15 [0, 2, 3, 4, 5, 6, 7, 8, 9, 10, 11, 12, 13, 14, 1] (by kernel_rfl) (by decide) rfl); exact ⟨(a0, a1, cq), e0, rfl, h', (by exact h'.sub (.cons _ (.cons_cons _ (.cons_cons _ (.cons_cons _ (.cons_cons _ (.cons_cons _ (.cons_cons _ (.cons_cons _ (.cons_cons _ (.cons_cons _ (.cons _ (.cons _ (.cons_cons _ (.cons_cons _ (.cons_cons _ (.refl _)))))))))))))))))⟩)) ?_
     rintro ⟨a0, a1, cq⟩ e0
     refine oq [oT 7] [(31, .agg #[.string u.Name, sl a0 T a1]), (24, vP K 0), (0, vP r 0), (2, vP O 0), (3, vP K 0), (18, sl p D q), (19, vI (D.length : Int)), (20, vI bn)] ?_
     refine ops_nil ?_
     refine tree_both ?_ ?_
     ·
      refine tree_leaf ?_
      refine oM 25 10 0 ?_
      refine ops_ex (σ := (Nat → Prop) × World) (I := fun A => Ext w0 ah ai A.1 A.2 ∧ RdS R_api_Field A.1 A.2 a0 a1 T) (M' := fun A => Mem w0 (.blk bs [.string u.Name, sl a3 u.Fields a4] 86 :: .blk r [sl p D q, sl s k a, .map (some i)] 96 :: ow s k a 3 1 B :: .obj i (.map ae ad) :: av :: .blk O [sl c ([] : List api_Kind) g, sl c ([] : List Int) g, sl c ([] : List api_Item) g] 26 :: ow c ([] : List api_Kind) g 86 2 a5 :: ow c ([] : List Int) g 3 1 a6 :: ow c ([] : List api_Item) g 61 3 a7 :: .blk K [sl ab Z ac, sl E H G, sl c ([] : List api_Item) g] 26 :: ow ab Z ac 86 2 a8 :: ow E H G 3 1 y6 :: ow c ([] : List api_Item) g 61 3 a9 :: Fz A.1 A.2 :: cs)) (fun w_ hM => ?_) ?_
      · obtain ⟨F_, h1_, h2_, h3_⟩ := (hM.pick 15 [0, 14, 1, 2, 3, 4, 5, 6, 7, 8, 9, 10, 11, 12, 13] (by kernel_rfl) (by decide) rfl : Mem w0 (ow a0 T a1 99 3 cq :: Fz ah ai :: .blk bs [.string u.Name, sl a3 u.Fields a4] 86 :: .blk r [sl p D q, sl s k a, .map (some i)] 96 :: ow s k a 3 1 B :: .obj i (.map ae ad) :: av :: .blk O [sl c ([] : List api_Kind) g, sl c ([] : List Int) g, sl c ([] : List api_Item) g] 26 :: ow c ([] : List api_Kind) g 86 2 a5 :: ow c ([] : List Int) g 3 1 a6 :: ow c ([] : List api_Item) g 61 3 a7 :: .blk K [sl ab Z ac, sl E H G, sl c ([] : List api_Item) g] 26 :: ow ab Z ac 86 2 a8 :: ow E H G 3 1 y6 :: ow c ([] : List api_Item) g 61 3 a9 :: cs) w_).freeze (z := 3) e0 rfl rfl
        exact ⟨(F_, w_), ⟨h1_, h2_⟩, h3_.pick 14 [1, 2, 3, 4, 5, 6, 7, 8, 9, 10, 11, 12, 13, 0] (by kernel_rfl) (by decide) rfl⟩
      rintro ⟨dl, dp⟩ ⟨bb, fo⟩
      have bb : Ext w0 ah ai dl dp := bb
      have fo : RdS R_api_Field dl dp a0 a1 T := fo
      have Y := Y.ext bb
      have c2 := c2.ext bb
      have X := X.ext bb
      have bu := bu.ext bb
      have ck := ck.ext bb
      have cl := cl.ext bb
      have cm := cm.ext bb
      have cn := cn.ext bb
      have h7 := h7.ext bb
      have co := co.ext bb
      have fp : RepL R_api_Kind dl dp ([(api_Kind.mk u.Name T)] : List api_Kind) ([.string u.Name, sl a0 T a1]) := (RepL.cons (R := R_api_Kind) (F := dl) (w := dp) (vs := [.string u.Name, sl a0 T a1]) (ys := []) (enc_api_Kind fo) RepL.nil)
      refine oBS 32 [.string u.Name, sl a0 T a1] 86 1 2 (fun h5 => ?_)
      obtain ⟨f3, gu⟩ := app_some e3
      obtain ⟨fv, gc⟩ : ∃ y_, a8 ++ ([.string u.Name, sl a0 T a1]) = y_ := ⟨_, rfl⟩
      have hc : RepL R_api_Kind dl dp bz fv := by rw [f3, ← gc]; exact RepL.app cn fp
      refine ops_appendO (x := (Go.Operand.tmp 25)) (y := (Go.Operand.tmp 32)) (t := 22) (e := 86) (d := some 33) (n' := bz.length) (z := 2) (m := ([(api_Kind.mk u.Name T)] : List api_Kind).length) (bytes := 40) (xs' := fv) (news := ([.string u.Name, sl a0 T a1])) (zv := .agg #[.string ByteArray.empty, .slice none 0 0]) 11 ⟨by kernel_rfl⟩ rfl rfl Tryz.underlying22 (by kernel_rfl) (by rfl) rfl (fun w_ hM => hM.srcO 0 rfl) fp.len fp.one gu (by have z_ := congrArg List.length f3; rw [List.length_append] at z_; exact z_.symm) gc (fun _ _ _ _ hS h' => (by first | exact (Mem.fzback h' 14 rfl bb).sub (.cons _ (.cons_cons _ (.cons_cons _ (.cons_cons _ (.cons_cons _ (.cons_cons _ (.cons_cons _ (.cons_cons _ (.cons_cons _ (.cons_cons _ (.cons _ (.cons _ (.cons_cons _ (.cons_cons _ (.cons_cons _ (.refl _)))))))))))))))) | exact (Mem.fzback h' 14 rfl (cx.trans bb)).sub (.cons _ (.cons_cons _ (.cons_cons _ (.cons_cons _ (.cons_cons _ (.cons_cons _ (.cons_cons _ (.cons_cons _ (.cons_cons _ (.cons_cons _ (.cons _ (.cons _ (.cons_cons _ (.cons_cons _ (.cons_cons _ (.refl _)))))))))))))))))) ?_
      rintro ⟨e8, fb⟩
      refine oq [oT 10] [(34, vP K 0), (33, sl e8 bz fb), (0, vP r 0), (2, vP O 0), (3, vP K 0), (18, sl p D q), (19, vI (D.length : Int)), (20, vI bn)] ?_
      refine oSS 10 0 [sl e8 bz fb] (fun w' h' => (by first | exact (Mem.fzback h' 14 rfl bb).sub (.cons _ (.cons_cons _ (.cons_cons _ (.cons_cons _ (.cons_cons _ (.cons_cons _ (.cons_cons _ (.cons_cons _ (.cons_cons _ (.cons_cons _ (.cons _ (.cons _ (.cons_cons _ (.cons_cons _ (.cons_cons _ (.refl _)))))))))))))))) | exact (Mem.fzback h' 14 rfl (cx.trans bb)).sub (.cons _ (.cons_cons _ (.cons_cons _ (.cons_cons _ (.cons_cons _ (.cons_cons _ (.cons_cons _ (.cons_cons _ (.cons_cons _ (.cons_cons _ (.cons _ (.cons _ (.cons_cons _ (.cons_cons _ (.cons_cons _ (.refl _)))))))))))))))))) ?_
      refine ops_nil (fin_block ?_)
      exact fj ge (e8, fb, bz, fv, dl, dp) ⟨hp, hc, bb⟩ 15 [2, 3, 4, 5, 6, 7, 8, 9, 10, 11, 12, 13, 14]
     ·
      refine tree_leaf ?_
      refine ops_ex (σ := (Nat → Prop) × World) (I := fun A => Ext w0 ah ai A.1 A.2 ∧ RdS R_api_Field A.1 A.2 a0 a1 T) (M' := fun A => Mem w0 (.blk bs [.string u.Name, sl a3 u.Fields a4] 86 :: .blk r [sl p D q, sl s k a, .map (some i)] 96 :: ow s k a 3 1 B :: .obj i (.map ae ad) :: av :: .blk O [sl c ([] : List api_Kind) g, sl c ([] : List Int) g, sl c ([] : List api_Item) g] 26 :: ow c ([] : List api_Kind) g 86 2 a5 :: ow c ([] : List Int) g 3 1 a6 :: ow c ([] : List api_Item) g 61 3 a7 :: .blk K [sl ab Z ac, sl E H G, sl c ([] : List api_Item) g] 26 :: ow ab Z ac 86 2 a8 :: ow E H G 3 1 y6 :: ow c ([] : List api_Item) g 61 3 a9 :: Fz A.1 A.2 :: cs)) (fun w_ hM => ?_) ?_
      · obtain ⟨F_, h1_, h2_, h3_⟩ := (hM.pick 15 [0, 14, 1, 2, 3, 4, 5, 6, 7, 8, 9, 10, 11, 12, 13] (by kernel_rfl) (by decide) rfl : Mem w0 (ow a0 T a1 99 3 cq :: Fz ah ai :: .blk bs [.string u.Name, sl a3 u.Fields a4] 86 :: .blk r [sl p D q, sl s k a, .map (some i)] 96 :: ow s k a 3 1 B :: .obj i (.map ae ad) :: av :: .blk O [sl c ([] : List api_Kind) g, sl c ([] : List Int) g, sl c ([] : List api_Item) g] 26 :: ow c ([] : List api_Kind) g 86 2 a5 :: ow c ([] : List Int) g 3 1 a6 :: ow c ([] : List api_Item) g 61 3 a7 :: .blk K [sl ab Z ac, sl E H G, sl c ([] : List api_Item) g] 26 :: ow ab Z ac 86 2 a8 :: ow E H G 3 1 y6 :: ow c ([] : List api_Item) g 61 3 a9 :: cs) w_).freeze (z := 3) e0 rfl rfl
        exact ⟨(F_, w_), ⟨h1_, h2_⟩, h3_.pick 14 [1, 2, 3, 4, 5, 6, 7, 8, 9, 10, 11, 12, 13, 0] (by kernel_rfl) (by decide) rfl⟩
      rintro ⟨dm, dq⟩ ⟨bc, fq⟩
      have bc : Ext w0 ah ai dm dq := bc
      have fq : RdS R_api_Field dm dq a0 a1 T := fq
      have Y := Y.ext bc
      have c2 := c2.ext bc
      have X := X.ext bc
      have bu := bu.ext bc
      have ck := ck.ext bc
      have cl := cl.ext bc
      have cm := cm.ext bc
      have cn := cn.ext bc
      have h7 := h7.ext bc
      have co := co.ext bc
      have fr : RepL R_api_Kind dm dq ([(api_Kind.mk u.Name T)] : List api_Kind) ([.string u.Name, sl a0 T a1]) := (RepL.cons (R := R_api_Kind) (F := dm) (w := dq) (vs := [.string u.Name, sl a0 T a1]) (ys := []) (enc_api_Kind fq) RepL.nil)
      refine oBS 32 [.string u.Name, sl a0 T a1] 86 1 2 (fun h6 => ?_)
      refine oM 25 10 0 ?_
      obtain ⟨f4, gv⟩ := app_some e3
      obtain ⟨fw, gd⟩ : ∃ y_, a8 ++ ([.string u.Name, sl a0 T a1]) = y_ := ⟨_, rfl⟩
      have hd : RepL R_api_Kind dm dq bz fw := by rw [f4, ← gd]; exact RepL.app cn fr
      refine ops_appendO (x := (Go.Operand.tmp 25)) (y := (Go.Operand.tmp 32)) (t := 22) (e := 86) (d := some 33) (n' := bz.length) (z := 2) (m := ([(api_Kind.mk u.Name T)] : List api_Kind).length) (bytes := 40) (xs' := fw) (news := ([.string u.Name, sl a0 T a1])) (zv := .agg #[.string ByteArray.empty, .slice none 0 0]) 11 ⟨by kernel_rfl⟩ rfl rfl Tryz.underlying22 (by kernel_rfl) (by rfl) rfl (fun w_ hM => hM.srcO 0 rfl) fr.len fr.one gv (by have z_ := congrArg List.length f4; rw [List.length_append] at z_; exact z_.symm) gd (fun _ _ _ _ hS h' => (by first | exact (Mem.fzback h' 14 rfl bc).sub (.cons _ (.cons_cons _ (.cons_cons _ (.cons_cons _ (.cons_cons _ (.cons_cons _ (.cons_cons _ (.cons_cons _ (.cons_cons _ (.cons_cons _ (.cons _ (.cons _ (.cons_cons _ (.cons_cons _ (.cons_cons _ (.refl _)))))))))))))))) | exact (Mem.fzback h' 14 rfl (cx.trans bc)).sub (.cons _ (.cons_cons _ (.cons_cons _ (.cons_cons _ (.cons_cons _ (.cons_cons _ (.cons_cons _ (.cons_cons _ (.cons_cons _ (.cons_cons _ (.cons _ (.cons _ (.cons_cons _ (.cons_cons _ (.cons_cons _ (.refl _)))))))))))))))))) ?_
      rintro ⟨e9, fc⟩
      refine oq [oT 10] [(34, vP K 0), (33, sl e9 bz fc), (0, vP r 0), (2, vP O 0), (3, vP K 0), (18, sl p D q), (19, vI (D.length : Int)), (20, vI bn)] ?_
      refine oSS 10 0 [sl e9 bz fc] (fun w' h' => (by first | exact (Mem.fzback h' 14 rfl bc).sub (.cons _ (.cons_cons _ (.cons_cons _ (.cons_cons _ (.cons_cons _ (.cons_cons _ (.cons_cons _ (.cons_cons _ (.cons_cons _ (.cons_cons _ (.cons _ (.cons _ (.cons_cons _ (.cons_cons _ (.cons_cons _ (.refl _)))))))))))))))) | exact (Mem.fzback h' 14 rfl (cx.trans bc)).sub (.cons _ (.cons_cons _ (.cons_cons _ (.cons_cons _ (.cons_cons _ (.cons_cons _ (.cons_cons _ (.cons_cons _ (.cons_cons _ (.cons_cons _ (.cons _ (.cons _ (.cons_cons _ (.cons_cons _ (.cons_cons _ (.refl _)))))))))))))))))) ?_
      refine ops_nil (fin_block ?_)
      exact fj ge (e9, fc, bz, fw, dm, dq) ⟨hp, hd, bc⟩ 15 [2, 3, 4, 5, 6, 7, 8, 9, 10, 11, 12, 13, 14]
  ·
   refine st_exit (fin_exit_then (fin_exit_then (fin_exit ?_)))
   obtain rfl := Option.some.inj hp
   obtain rfl := hu _ rfl
   have hp : (tourref3_Flat_Close_j1 k dg H) Z = some (ch, ci, cj) := hw
   exact fj hk (c, g, a5, a6, a7, ab, ac, Z, a8, a9, ah, ai) ⟨hp, ck, cl, cm, cn, co, cx⟩ 0 []
theorem slices_Equal_api_Field_api_Field_ok {i : Option Addr} {k : Nat} {a : List api_Field} {j : Option Addr} {m : Nat} {c : List api_Field} (ab : Mem w0 (Fz F W :: cs) w) (O : RdS R_api_Field F W i k a) (T : RdS R_api_Field F W j m c) {q : Bool} (f : slices_Equal_api_Field_api_Field a c = some q) : Calls Tryz.prog 102 #[sl i a k, sl j c m] w (Post w0 (fun (_ : Unit) => True) (fun _ => .bool q) (fun _ => Fz F W :: cs)) := by
 unfold slices_Equal_api_Field_api_Field at f
 refine sx_calls Tryz.func102 rfl (n := 26) (by kernel_rfl) (l := [(0, sl i a k), (1, sl j c m)]) rfl (by rfl) ab ?_
 refine st_seq (st_region [oF 0] (by rfl) ?_)
 refine oq [oF 0] [(0, sl i a k), (1, sl j c m)] ?_
 refine ops_nil (fin_then (st_seq (st_seq ?_)))
 refine st_region (oFs 0 5) (by rfl) ?_
 refine oq (oFs 0 5) [(10, .bool (!((a.length : Int) == (c.length : Int)))), (0, sl i a k), (1, sl j c m)] ?_
 refine ops_nil (fin_then ?_)
 refine sif f (fun ac f => ?_) (fun ac f => ?_)
 ·
  refine st_seq (st_region [oF 0] (by rfl) ?_)
  refine oq [oF 0] [(4, .bool false)] ?_
  refine ops_nil (fin_then (st_ret (fin_ret_then ?_)))
  obtain rfl := Option.some.inj f
  exact fr [4] () trivial 0 []
 ·
  refine st_skip (fin_then ?_)
  refine st_join1 (σ := Unit) (L := fun _ => []) (N := fun _ => Mem w0 (Fz F W :: cs)) (I := fun _ => (slices_Equal_api_Field_api_Field_j1 = some q)) ?_ ?_
  ·
   rintro _ f
   unfold slices_Equal_api_Field_api_Field_j1 at f
   refine st_seq (st_region [oF 0] (by rfl) ?_)
   refine oq [oF 0] [(4, .bool true)] ?_
   refine ops_nil (fin_then (st_ret ?_))
   obtain rfl := Option.some.inj f
   exact fr [4] () trivial 0 []
  ·
   intro aa
   refine st_seq (st_seq ?_)
   refine st_region (oFs 0 3) (by rfl) ?_
   refine oq (oFs 0 3) [(13, vI 0), (12, vI (a.length : Int)), (0, sl i a k), (1, sl j c m)] ?_
   refine ops_nil (fin_then (st_block ?_))
   obtain ⟨r2, ae, H⟩ := obind f
   refine lp (σ := Int) (ρ := (Bool ⊕ Unit)) (γ := Unit) ae () (fun D B => match D, B with | p, _ => [(0, sl i a k), (1, sl j c m), (12, vI (a.length : Int)), (13, vI p)]) (fun D B => match D, B with | p, _ => Mem w0 (Fz F W :: cs)) (fun D B => match D, B with | p, _ => True) trivial 0 [] ?_
   rintro p _ o2 - hs_ G
   have f : (slices_Equal_api_Field_api_Field_l2 a c) p = some o2 := hs_
   clear hs_
   unfold slices_Equal_api_Field_api_Field_l2 at f
   refine st_seq (st_region [oF 0] (by rfl) ?_)
   refine oq [oF 0] [(14, .bool (decide (p < (a.length : Int)))), (0, sl i a k), (1, sl j c m), (12, vI (a.length : Int)), (13, vI p)] ?_
   refine ops_nil (fin_then (st_seq ?_))
   refine sif f (fun ad f => ?_) (fun ad f => ?_)
   ·
    refine st_skip (fin_then (st_seq (st_block (st_seq (st_region [oF 0, oF 1] (by rfl) ?_)))))
    refine oq [oF 0, oF 1] [(5, vI p), (0, sl i a k), (1, sl j c m), (12, vI (a.length : Int)), (13, vI p)] ?_
    refine ops_nil (fin_then (st_seq ?_))
    refine st_region_draw (oTs 0 9) (Mem w0 (Fz F W :: cs)) (by kernel_rfl) (by kernel_rfl) (by kernel_rfl) (fun _ d _ _ _ h => by cases d <;> exact h) (M' := Mem w0 (Fz F W :: cs)) (fun w_ s => ⟨s.drew, s.drew.sub (.cons_cons _ (.refl _))⟩) ?_
    refine oq [oT 0, oT 1] [(17, vI p), (16, sl i a k), (5, vI p), (0, sl i a k), (1, sl j c m), (12, vI (a.length : Int)), (13, vI p)] ?_
    obtain ⟨o, ag, f⟩ := obind f
    obtain ⟨E, af, J⟩ := idx_some ag
    have V := (List.getElem?_eq_some_iff.1 J).1
    obtain ⟨t, ak, K, hr10, x⟩ := RdS.el O J
    obtain rfl := dec_api_Field hr10
    refine ops_val (op := (.indexAddr 84 (.tmp 16) (.tmp 17))) (d := some 18) (v := .pointer (some (t.add (E * 3)))) ⟨by kernel_rfl⟩ (run_indexA K Tryz.underlying84 (z := 3) (by kernel_rfl) rfl rfl af V) ?_
    refine ops_load (d := some 19) (an := [.v (.string o.Name), .v (vI o.Bits), .v (vI o.Low)]) (evs := [.load (t.add (E * 3)) (.string o.Name), .load ((t.add (E * 3)).add 1) (vI o.Bits), .load ((t.add (E * 3)).add 2) (vI o.Low)]) (v := .agg #[.string o.Name, vI o.Bits, vI o.Low]) ⟨by kernel_rfl⟩ (fun w_ s => ⟨s.elcell 0 rfl x 0 rfl, s.elcell 0 rfl x 1 rfl, s.elcell 0 rfl x 2 rfl, rfl⟩) ?_
    refine oq [oT 4, oT 5] [(21, vI p), (20, sl j c m), (19, .agg #[.string o.Name, vI o.Bits, vI o.Low]), (0, sl i a k), (1, sl j c m), (12, vI (a.length : Int)), (13, vI p)] ?_
    obtain ⟨g, Z, f⟩ := obind f
    obtain ⟨A, Y, C⟩ := idx_some Z
    have X := (List.getElem?_eq_some_iff.1 C).1
    obtain ⟨u, aj, M, hr21, y⟩ := RdS.el T C
    obtain rfl := dec_api_Field hr21
    refine ops_val (op := (.indexAddr 84 (.tmp 20) (.tmp 21))) (d := some 22) (v := .pointer (some (u.add (A * 3)))) ⟨by kernel_rfl⟩ (run_indexA M Tryz.underlying84 (z := 3) (by kernel_rfl) rfl rfl Y X) ?_
    refine ops_load (d := some 23) (an := [.v (.string g.Name), .v (vI g.Bits), .v (vI g.Low)]) (evs := [.load (u.add (A * 3)) (.string g.Name), .load ((u.add (A * 3)).add 1) (vI g.Bits), .load ((u.add (A * 3)).add 2) (vI g.Low)]) (v := .agg #[.string g.Name, vI g.Bits, vI g.Low]) ⟨by kernel_rfl⟩ (fun w_ s => ⟨s.elcell 0 rfl y 0 rfl, s.elcell 0 rfl y 1 rfl, s.elcell 0 rfl y 2 rfl, rfl⟩) ?_
    refine ops_val (op := (.binOp Go.BinOp.neq 99 (.tmp 19) (.tmp 23) 99)) (d := some 24) (v := .bool (!(o.Name.toList == g.Name.toList && (o.Bits == g.Bits && (o.Low == g.Low))))) ⟨by kernel_rfl⟩ (run_neq_agg (r := o.Name.toList == g.Name.toList && (o.Bits == g.Bits && (o.Low == g.Low))) rfl rfl (by kernel_rfl) (fun w => eqA99 9998 w o.Name g.Name o.Bits g.Bits o.Low g.Low)) ?_
    refine ops_nil (fin_then ?_)
    refine sif f (fun U f => ?_) (fun U f => ?_)
    ·
     refine st_seq (st_region [oF 0] (by rfl) ?_)
     refine oq [oF 0] [(4, .bool false)] ?_
     refine ops_nil (fin_then (st_ret (fin_ret_block (fin_ret_then (fin_ret_then (fin_ret_block (fin_ret_then ?_)))))))
     obtain rfl := Option.some.inj f
     obtain rfl := G _ rfl
     have f : some false = some q := H
     obtain rfl := Option.some.inj f
     exact fr [4] () trivial 0 []
    ·
     refine st_skip (fin_block (fin_then (st_region [oF 0, oF 1] (by rfl) ?_)))
     refine oq [oF 0, oF 1] [(13, vI (IntKind.i64.wrap (p + 1))), (0, sl i a k), (1, sl j c m), (12, vI (a.length : Int))] ?_
     refine ops_nil ?_
     exact fag (IntKind.i64.wrap (p + 1)) () (Option.some.inj f).symm trivial 0 []
   ·
    refine st_exit (fin_exit_then (fin_exit_then (fin_exit ?_)))
    obtain rfl := Option.some.inj f
    obtain rfl := G _ rfl
    have f : slices_Equal_api_Field_api_Field_j1 = some q := H
    exact fj aa () f 0 []
theorem tourref3_SameKind_ok {i : ByteArray} {b : Option Addr} {c : Nat} {j : List api_Field} {m : ByteArray} {d : Option Addr} {f : Nat} {o : List api_Field} (x : Mem w0 (Fz F W :: cs) w) (t : RdS R_api_Field F W b c j) (u : RdS R_api_Field F W d f o) {k : Bool} (g : tourref3_SameKind i j m o = some k) : Calls Tryz.prog 77 #[.agg #[.string i, sl b j c], .agg #[.string m, sl d o f]] w (Post w0 (fun (_ : Unit) => True) (fun _ => .bool k) (fun _ => Fz F W :: cs)) := by
 unfold tourref3_SameKind at g
 refine sx_calls Tryz.func77 rfl (n := 17) (by kernel_rfl) (l := [(0, .agg #[.string i, sl b j c]), (1, .agg #[.string m, sl d o f])]) rfl (by rfl) x ?_
 refine st_seq ?_
 refine st_region (oFs 0 3) (by rfl) ?_
 refine oN 2 [.string i, sl b j c] 86 (fun q => ?_)
 refine oN 3 [.string m, sl d o f] 86 (fun p => ?_)
 refine oq [oF 2] [(3, vP p 0), (2, vP q 0)] ?_
 refine ops_nil (fin_then ?_)
 refine st_join1 (σ := Bool) (L := fun s => match s with | r => [(4, .bool r)]) (N := fun s => match s with | r => Mem w0 (Fz F W :: cs)) (I := fun s => match s with | r => (tourref3_SameKind_j1 r = some k)) ?_ ?_
 ·
  rintro r g
  unfold tourref3_SameKind_j1 at g
  refine st_ret ?_
  obtain rfl := Option.some.inj g
  exact fr [4] () trivial 0 []
 ·
  intro v
  refine st_seq ?_
  refine st_region (oFs 0 13) (by rfl) ?_
  refine oq [oF 0] [(5, vP q 0), (3, vP p 0), (2, vP q 0)] ?_
  refine oM 6 1 0 ?_
  refine oq [oF 2] [(7, vP p 0), (6, .string i), (3, vP p 0), (2, vP q 0)] ?_
  refine oM 8 0 0 ?_
  refine oq [oF 4, oF 5] [(10, .bool (i.toList == m.toList)), (3, vP p 0), (2, vP q 0)] ?_
  refine ob g [10] (fun y g => ?_) (fun y g => ?_)
  ·
   refine oq [oF 6] [(11, vP q 1), (10, .bool true), (3, vP p 0)] ?_
   refine oM 12 1 1 ?_
   refine oq [oF 8] [(13, vP p 1), (12, sl b j c), (10, .bool true)] ?_
   refine oM 14 0 1 ?_
   obtain ⟨A, z, g⟩ := obind g
   refine oV (some 15) 3 [2, 0, 1] 3 [1, 2, 0] (fun _ B => slices_Equal_api_Field_api_Field_ok B t u z) ?_
   rintro _ -
   refine oq [oF 11, oF 12] [(4, .bool A)] ?_
   refine ops_nil ?_
   exact fj v A g 3 [2]
  ·
   refine oq (oFs 6 7) [(4, .bool false)] ?_
   refine ops_nil ?_
   exact fj v false g 3 [2]
theorem slices_EqualFunc_api_Kind_api_Kind_api_Kind_api_Kind_ok {j : Option Addr} {k : Nat} {a : List api_Kind} {f : Option Addr} {g : Nat} {b : List api_Kind} (ak : Mem w0 (Fz F W :: cs) w) (V : RdS R_api_Kind F W j k a) (X : RdS R_api_Kind F W f g b) {o : Bool} (i : slices_EqualFunc_api_Kind_api_Kind_api_Kind_api_Kind a b = some o) : Calls Tryz.prog 76 #[sl j a k, sl f b g, .func (.func 77) #[] #[]] w (Post w0 (fun (_ : Unit) => True) (fun _ => .bool o) (fun _ => Fz F W :: cs)) := by
 unfold slices_EqualFunc_api_Kind_api_Kind_api_Kind_api_Kind at i
 refine sx_calls Tryz.func76 rfl (n := 32) (by kernel_rfl) (l := [(0, sl j a k), (1, sl f b g), (2, .func (.func 77) #[] #[])]) rfl (by rfl) ak ?_
 refine st_seq (st_region [oF 0] (by rfl) ?_)
 refine oq [oF 0] [(0, sl j a k), (1, sl f b g), (2, .func (.func 77) #[] #[])] ?_
 refine ops_nil (fin_then (st_seq (st_seq ?_)))
 refine st_region (oFs 0 5) (by rfl) ?_
 refine oq (oFs 0 5) [(14, .bool (!((a.length : Int) == (b.length : Int)))), (0, sl j a k), (1, sl f b g), (2, .func (.func 77) #[] #[])] ?_
 refine ops_nil (fin_then ?_)
 refine sif i (fun al i => ?_) (fun al i => ?_)
 ·
  refine st_seq (st_region [oF 0] (by rfl) ?_)
  refine oq [oF 0] [(6, .bool false)] ?_
  refine ops_nil (fin_then (st_ret (fin_ret_then ?_)))
  obtain rfl := Option.some.inj i
  exact fr [6] () trivial 0 []
 ·
  refine st_skip (fin_then ?_)
  refine st_join1 (σ := Unit) (L := fun _ => []) (N := fun _ => Mem w0 (Fz F W :: cs)) (I := fun _ => (slices_EqualFunc_api_Kind_api_Kind_api_Kind_api_Kind_j1 = some o)) ?_ ?_
  ·
   rintro _ i
   unfold slices_EqualFunc_api_Kind_api_Kind_api_Kind_api_Kind_j1 at i
   refine st_seq (st_region [oF 0] (by rfl) ?_)
   refine oq [oF 0] [(6, .bool true)] ?_
   refine ops_nil (fin_then (st_ret ?_))
   obtain rfl := Option.some.inj i
   exact fr [6] () trivial 0 []
  ·
   intro ag
   refine st_seq (st_seq ?_)
   refine st_region (oFs 0 3) (by rfl) ?_
   refine oq (oFs 0 3) [(17, vI 0), (16, vI (a.length : Int)), (15, sl j a k), (1, sl f b g), (2, .func (.func 77) #[] #[])] ?_
   refine ops_nil (fin_then (st_block ?_))
   obtain ⟨r2, ao, M⟩ := obind i
   refine lp (σ := Int) (ρ := (Bool ⊕ Unit)) (γ := Unit) ao () (fun J C => match J, C with | m, _ => [(1, sl f b g), (2, .func (.func 77) #[] #[]), (15, sl j a k), (16, vI (a.length : Int)), (17, vI m)]) (fun J C => match J, C with | m, _ => Mem w0 (Fz F W :: cs)) (fun J C => match J, C with | m, _ => True) trivial 0 [] ?_
   rintro m _ o2 - hs_ K
   have i : (slices_EqualFunc_api_Kind_api_Kind_api_Kind_api_Kind_l2 a b) m = some o2 := hs_
   clear hs_
   unfold slices_EqualFunc_api_Kind_api_Kind_api_Kind_api_Kind_l2 at i
   refine st_seq (st_region [oF 0] (by rfl) ?_)
   refine oq [oF 0] [(18, .bool (decide (m < (a.length : Int)))), (1, sl f b g), (2, .func (.func 77) #[] #[]), (15, sl j a k), (16, vI (a.length : Int)), (17, vI m)] ?_
   refine ops_nil (fin_then (st_seq ?_))
   refine sif i (fun am i => ?_) (fun am i => ?_)
   ·
    refine st_skip (fin_then (st_seq (st_block (st_seq ?_))))
    refine st_region (oFs 0 6) (by rfl) ?_
    refine oq [oF 0] [(19, vI m), (1, sl f b g), (2, .func (.func 77) #[] #[]), (15, sl j a k), (16, vI (a.length : Int)), (17, vI m)] ?_
    obtain ⟨q, aq, i⟩ := obind i
    obtain ⟨m6, ap, O⟩ := idx_some aq
    have Z := (List.getElem?_eq_some_iff.1 O).1
    obtain ⟨u, ax, T, hr10, D⟩ := RdS.el V O
    obtain ⟨s, t, rfl, ai⟩ := dec_api_Kind hr10
    refine ops_val (op := (.indexAddr 22 (.tmp 15) (.tmp 17))) (d := some 20) (v := .pointer (some (u.add (m6 * 2)))) ⟨by kernel_rfl⟩ (run_indexA T Tryz.underlying22 (z := 2) (by kernel_rfl) rfl rfl ap Z) ?_
    refine ops_mem (d := some 21) (an := [.v (.string q.Name), .v (sl s q.Fields t)]) (evs := [.load (u.add (m6 * 2)) (.string q.Name), .load ((u.add (m6 * 2)).add 1) (sl s q.Fields t)]) (v := .agg #[.string q.Name, sl s q.Fields t]) ⟨by kernel_rfl⟩ (fun w_ r hS => ⟨w_, ⟨r.elcell 0 rfl D 0 rfl, r.elcell 0 rfl D 1 rfl, rfl⟩, r, trivial⟩) ?_
    refine oN 8 [.string ByteArray.empty, .slice none 0 0] 86 (fun B => ?_)
    refine oq [oF 4] [(7, vI m), (8, vP B 0), (21, .agg #[.string q.Name, sl s q.Fields t]), (1, sl f b g), (2, .func (.func 77) #[] #[]), (15, sl j a k), (16, vI (a.length : Int)), (17, vI m)] ?_
    refine oS 0 0 [.string q.Name, sl s q.Fields t] ?_
    refine ops_nil (fin_then (st_seq ?_))
    refine st_region (oFs 0 6) (by rfl) ?_
    refine oq [oF 0, oF 1] [(23, vI m), (22, sl f b g), (8, vP B 0), (1, sl f b g), (2, .func (.func 77) #[] #[]), (15, sl j a k), (16, vI (a.length : Int)), (17, vI m)] ?_
    obtain ⟨p, ac, i⟩ := obind i
    obtain ⟨H, ab, G⟩ := idx_some ac
    have aa := (List.getElem?_eq_some_iff.1 G).1
    obtain ⟨x, aw, U, hr25, E⟩ := RdS.el X G
    obtain ⟨y, A, rfl, aj⟩ := dec_api_Kind hr25
    refine ops_val (op := (.indexAddr 22 (.tmp 22) (.tmp 23))) (d := some 24) (v := .pointer (some (x.add (H * 2)))) ⟨by kernel_rfl⟩ (run_indexA U Tryz.underlying22 (z := 2) (by kernel_rfl) rfl rfl ab aa) ?_
    refine ops_mem (d := some 25) (an := [.v (.string p.Name), .v (sl y p.Fields A)]) (evs := [.load (x.add (H * 2)) (.string p.Name), .load ((x.add (H * 2)).add 1) (sl y p.Fields A)]) (v := .agg #[.string p.Name, sl y p.Fields A]) ⟨by kernel_rfl⟩ (fun w_ r hS => ⟨w_, ⟨r.elcell 1 rfl E 0 rfl, r.elcell 1 rfl E 1 rfl, rfl⟩, r, trivial⟩) ?_
    refine oN 9 [.string ByteArray.empty, .slice none 0 0] 86 (fun ah => ?_)
    refine oS 0 0 [.string p.Name, sl y p.Fields A] ?_
    refine ops_nil (fin_then (st_seq ?_))
    refine st_region (oFs 0 5) (by rfl) ?_
    refine oq [oF 0] [(26, .func (.func 77) #[] #[]), (9, vP ah 0), (8, vP B 0), (1, sl f b g), (2, .func (.func 77) #[] #[]), (15, sl j a k), (16, vI (a.length : Int)), (17, vI m)] ?_
    refine oMA 27 1 0 2 ?_
    refine oMA 28 0 0 2 ?_
    obtain ⟨ar, ad, i⟩ := obind i
    refine oV (some 29) 3 [2, 0, 1] 3 [1, 2, 0] (fun _ r => tourref3_SameKind_ok r ai aj ad) ?_
    rintro _ -
    refine oq [oF 4] [(30, .bool (!ar)), (1, sl f b g), (2, .func (.func 77) #[] #[]), (15, sl j a k), (16, vI (a.length : Int)), (17, vI m)] ?_
    refine ops_nil (fin_then ?_)
    refine sif i (fun Y i => ?_) (fun Y i => ?_)
    ·
     refine st_seq (st_region [oF 0] (by rfl) ?_)
     refine oq [oF 0] [(6, .bool false)] ?_
     refine ops_nil (fin_then (st_ret (fin_ret_block (fin_ret_then (fin_ret_then (fin_ret_block (fin_ret_then ?_)))))))
     obtain rfl := Option.some.inj i
     obtain rfl := K _ rfl
     have i : some false = some o := M
     obtain rfl := Option.some.inj i
     exact fr [6] () trivial 3 [2]
    ·
     refine st_skip (fin_block (fin_then (st_region [oF 0, oF 1] (by rfl) ?_)))
     refine oq [oF 0, oF 1] [(17, vI (IntKind.i64.wrap (m + 1))), (1, sl f b g), (2, .func (.func 77) #[] #[]), (15, sl j a k), (16, vI (a.length : Int))] ?_
     refine ops_nil ?_
     exact fag (IntKind.i64.wrap (m + 1)) () (Option.some.inj i).symm trivial 3 [2]
   ·
    refine st_exit (fin_exit_then (fin_exit_then (fin_exit ?_)))
    obtain rfl := Option.some.inj i
    obtain rfl := K _ rfl
    have i : slices_EqualFunc_api_Kind_api_Kind_api_Kind_api_Kind_j1 = some o := M
    exact fj ag () i 0 []
theorem tourref3_SameComp_ok {i : Int} {b : Option Addr} {c : Nat} {j : List Int} {m : Int} {d : Option Addr} {f : Nat} {o : List Int} (x : Mem w0 (Fz F W :: cs) w) (t : RdS (Rep.int .i64) F W b c j) (u : RdS (Rep.int .i64) F W d f o) {k : Bool} (g : tourref3_SameComp i j m o = some k) : Calls Tryz.prog 12 #[.agg #[vI i, sl b j c], .agg #[vI m, sl d o f]] w (Post w0 (fun (_ : Unit) => True) (fun _ => .bool k) (fun _ => Fz F W :: cs)) := by
 unfold tourref3_SameComp at g
 refine sx_calls Tryz.func12 rfl (n := 17) (by kernel_rfl) (l := [(0, .agg #[vI i, sl b j c]), (1, .agg #[vI m, sl d o f])]) rfl (by rfl) x ?_
 refine st_seq ?_
 refine st_region (oFs 0 3) (by rfl) ?_
 refine oN 2 [vI i, sl b j c] 42 (fun q => ?_)
 refine oN 3 [vI m, sl d o f] 42 (fun p => ?_)
 refine oq [oF 2] [(3, vP p 0), (2, vP q 0)] ?_
 refine ops_nil (fin_then ?_)
 refine st_join1 (σ := Bool) (L := fun s => match s with | r => [(4, .bool r)]) (N := fun s => match s with | r => Mem w0 (Fz F W :: cs)) (I := fun s => match s with | r => (tourref3_SameComp_j1 r = some k)) ?_ ?_
 ·
  rintro r g
  unfold tourref3_SameComp_j1 at g
  refine st_ret ?_
  obtain rfl := Option.some.inj g
  exact fr [4] () trivial 0 []
 ·
  intro v
  refine st_seq ?_
  refine st_region (oFs 0 13) (by rfl) ?_
  refine oq [oF 0] [(5, vP q 0), (3, vP p 0), (2, vP q 0)] ?_
  refine oM 6 1 0 ?_
  refine oq [oF 2] [(7, vP p 0), (6, vI i), (3, vP p 0), (2, vP q 0)] ?_
  refine oM 8 0 0 ?_
  refine oq [oF 4, oF 5] [(10, .bool (i == m)), (3, vP p 0), (2, vP q 0)] ?_
  refine ob g [10] (fun y g => ?_) (fun y g => ?_)
  ·
   refine oq [oF 6] [(11, vP q 1), (10, .bool true), (3, vP p 0)] ?_
   refine oM 12 1 1 ?_
   refine oq [oF 8] [(13, vP p 1), (12, sl b j c), (10, .bool true)] ?_
   refine oM 14 0 1 ?_
   obtain ⟨A, z, g⟩ := obind g
   refine oV (some 15) 3 [2, 0, 1] 3 [1, 2, 0] (fun _ B => slices_Equal_int_int_ok B t u z) ?_
   rintro _ -
   refine oq [oF 11, oF 12] [(4, .bool A)] ?_
   refine ops_nil ?_
   exact fj v A g 3 [2]
  ·
   refine oq (oFs 6 7) [(4, .bool false)] ?_
   refine ops_nil ?_
   exact fj v false g 3 [2]
theorem slices_EqualFunc_api_Comp_api_Comp_api_Comp_api_Comp_ok {j : Option Addr} {k : Nat} {a : List api_Comp} {f : Option Addr} {g : Nat} {b : List api_Comp} (ak : Mem w0 (Fz F W :: cs) w) (V : RdS R_api_Comp F W j k a) (X : RdS R_api_Comp F W f g b) {o : Bool} (i : slices_EqualFunc_api_Comp_api_Comp_api_Comp_api_Comp a b = some o) : Calls Tryz.prog 10 #[sl j a k, sl f b g, .func (.func 12) #[] #[]] w (Post w0 (fun (_ : Unit) => True) (fun _ => .bool o) (fun _ => Fz F W :: cs)) := by
 unfold slices_EqualFunc_api_Comp_api_Comp_api_Comp_api_Comp at i
 refine sx_calls Tryz.func10 rfl (n := 32) (by kernel_rfl) (l := [(0, sl j a k), (1, sl f b g), (2, .func (.func 12) #[] #[])]) rfl (by rfl) ak ?_
 refine st_seq (st_region [oF 0] (by rfl) ?_)
 refine oq [oF 0] [(0, sl j a k), (1, sl f b g), (2, .func (.func 12) #[] #[])] ?_
 refine ops_nil (fin_then (st_seq (st_seq ?_)))
 refine st_region (oFs 0 5) (by rfl) ?_
 refine oq (oFs 0 5) [(14, .bool (!((a.length : Int) == (b.length : Int)))), (0, sl j a k), (1, sl f b g), (2, .func (.func 12) #[] #[])] ?_
 refine ops_nil (fin_then ?_)
 refine sif i (fun al i => ?_) (fun al i => ?_)
 ·
  refine st_seq (st_region [oF 0] (by rfl) ?_)
  refine oq [oF 0] [(6, .bool false)] ?_
  refine ops_nil (fin_then (st_ret (fin_ret_then ?_)))
  obtain rfl := Option.some.inj i
  exact fr [6] () trivial 0 []
 ·
  refine st_skip (fin_then ?_)
  refine st_join1 (σ := Unit) (L := fun _ => []) (N := fun _ => Mem w0 (Fz F W :: cs)) (I := fun _ => (slices_EqualFunc_api_Comp_api_Comp_api_Comp_api_Comp_j1 = some o)) ?_ ?_
  ·
   rintro _ i
   unfold slices_EqualFunc_api_Comp_api_Comp_api_Comp_api_Comp_j1 at i
   refine st_seq (st_region [oF 0] (by rfl) ?_)
   refine oq [oF 0] [(6, .bool true)] ?_
   refine ops_nil (fin_then (st_ret ?_))
   obtain rfl := Option.some.inj i
   exact fr [6] () trivial 0 []
  ·
   intro ag
   refine st_seq (st_seq ?_)
   refine st_region (oFs 0 3) (by rfl) ?_
   refine oq (oFs 0 3) [(17, vI 0), (16, vI (a.length : Int)), (15, sl j a k), (1, sl f b g), (2, .func (.func 12) #[] #[])] ?_
   refine ops_nil (fin_then (st_block ?_))
   obtain ⟨r2, ao, M⟩ := obind i
   refine lp (σ := Int) (ρ := (Bool ⊕ Unit)) (γ := Unit) ao () (fun J C => match J, C with | m, _ => [(1, sl f b g), (2, .func (.func 12) #[] #[]), (15, sl j a k), (16, vI (a.length : Int)), (17, vI m)]) (fun J C => match J, C with | m, _ => Mem w0 (Fz F W :: cs)) (fun J C => match J, C with | m, _ => True) trivial 0 [] ?_
   rintro m _ o2 - hs_ K
   have i : (slices_EqualFunc_api_Comp_api_Comp_api_Comp_api_Comp_l2 a b) m = some o2 := hs_
   clear hs_
   unfold slices_EqualFunc_api_Comp_api_Comp_api_Comp_api_Comp_l2 at i
   refine st_seq (st_region [oF 0] (by rfl) ?_)
   refine oq [oF 0] [(18, .bool (decide (m < (a.length : Int)))), (1, sl f b g), (2, .func (.func 12) #[] #[]), (15, sl j a k), (16, vI (a.length : Int)), (17, vI m)] ?_
   refine ops_nil (fin_then (st_seq ?_))
   refine sif i (fun am i => ?_) (fun am i => ?_)
   ·
    refine st_skip (fin_then (st_seq (st_block (st_seq ?_))))
    refine st_region (oFs 0 6) (by rfl) ?_
    refine oq [oF 0] [(19, vI m), (1, sl f b g), (2, .func (.func 12) #[] #[]), (15, sl j a k), (16, vI (a.length : Int)), (17, vI m)] ?_
    obtain ⟨q, aq, i⟩ := obind i
    obtain ⟨m6, ap, O⟩ := idx_some aq
    have Z := (List.getElem?_eq_some_iff.1 O).1
    obtain ⟨u, ax, T, hr10, D⟩ := RdS.el V O
    obtain ⟨s, t, rfl, ai⟩ := dec_api_Comp hr10
    refine ops_val (op := (.indexAddr 27 (.tmp 15) (.tmp 17))) (d := some 20) (v := .pointer (some (u.add (m6 * 2)))) ⟨by kernel_rfl⟩ (run_indexA T Tryz.underlying27 (z := 2) (by kernel_rfl) rfl rfl ap Z) ?_
    refine ops_mem (d := some 21) (an := [.v (vI q.Kind), .v (sl s q.Vals t)]) (evs := [.load (u.add (m6 * 2)) (vI q.Kind), .load ((u.add (m6 * 2)).add 1) (sl s q.Vals t)]) (v := .agg #[vI q.Kind, sl s q.Vals t]) ⟨by kernel_rfl⟩ (fun w_ r hS => ⟨w_, ⟨r.elcell 0 rfl D 0 rfl, r.elcell 0 rfl D 1 rfl, rfl⟩, r, trivial⟩) ?_
    refine oN 8 [vI 0, .slice none 0 0] 42 (fun B => ?_)
    refine oq [oF 4] [(7, vI m), (8, vP B 0), (21, .agg #[vI q.Kind, sl s q.Vals t]), (1, sl f b g), (2, .func (.func 12) #[] #[]), (15, sl j a k), (16, vI (a.length : Int)), (17, vI m)] ?_
    refine oS 0 0 [vI q.Kind, sl s q.Vals t] ?_
    refine ops_nil (fin_then (st_seq ?_))
    refine st_region (oFs 0 6) (by rfl) ?_
    refine oq [oF 0, oF 1] [(23, vI m), (22, sl f b g), (8, vP B 0), (1, sl f b g), (2, .func (.func 12) #[] #[]), (15, sl j a k), (16, vI (a.length : Int)), (17, vI m)] ?_
    obtain ⟨p, ac, i⟩ := obind i
    obtain ⟨H, ab, G⟩ := idx_some ac
    have aa := (List.getElem?_eq_some_iff.1 G).1
    obtain ⟨x, aw, U, hr25, E⟩ := RdS.el X G
    obtain ⟨y, A, rfl, aj⟩ := dec_api_Comp hr25
    refine ops_val (op := (.indexAddr 27 (.tmp 22) (.tmp 23))) (d := some 24) (v := .pointer (some (x.add (H * 2)))) ⟨by kernel_rfl⟩ (run_indexA U Tryz.underlying27 (z := 2) (by kernel_rfl) rfl rfl ab aa) ?_
    refine ops_mem (d := some 25) (an := [.v (vI p.Kind), .v (sl y p.Vals A)]) (evs := [.load (x.add (H * 2)) (vI p.Kind), .load ((x.add (H * 2)).add 1) (sl y p.Vals A)]) (v := .agg #[vI p.Kind, sl y p.Vals A]) ⟨by kernel_rfl⟩ (fun w_ r hS => ⟨w_, ⟨r.elcell 1 rfl E 0 rfl, r.elcell 1 rfl E 1 rfl, rfl⟩, r, trivial⟩) ?_
    refine oN 9 [vI 0, .slice none 0 0] 42 (fun ah => ?_)
    refine oS 0 0 [vI p.Kind, sl y p.Vals A] ?_
    refine ops_nil (fin_then (st_seq ?_))
    refine st_region (oFs 0 5) (by rfl) ?_
    refine oq [oF 0] [(26, .func (.func 12) #[] #[]), (9, vP ah 0), (8, vP B 0), (1, sl f b g), (2, .func (.func 12) #[] #[]), (15, sl j a k), (16, vI (a.length : Int)), (17, vI m)] ?_
    refine oMA 27 1 0 2 ?_
    refine oMA 28 0 0 2 ?_
    obtain ⟨ar, ad, i⟩ := obind i
    refine oV (some 29) 3 [2, 0, 1] 3 [1, 2, 0] (fun _ r => tourref3_SameComp_ok r ai aj ad) ?_
    rintro _ -
    refine oq [oF 4] [(30, .bool (!ar)), (1, sl f b g), (2, .func (.func 12) #[] #[]), (15, sl j a k), (16, vI (a.length : Int)), (17, vI m)] ?_
    refine ops_nil (fin_then ?_)
    refine sif i (fun Y i => ?_) (fun Y i => ?_)
    ·
     refine st_seq (st_region [oF 0] (by rfl) ?_)
     refine oq [oF 0] [(6, .bool false)] ?_
     refine ops_nil (fin_then (st_ret (fin_ret_block (fin_ret_then (fin_ret_then (fin_ret_block (fin_ret_then ?_)))))))
     obtain rfl := Option.some.inj i
     obtain rfl := K _ rfl
     have i : some false = some o := M
     obtain rfl := Option.some.inj i
     exact fr [6] () trivial 3 [2]
    ·
     refine st_skip (fin_block (fin_then (st_region [oF 0, oF 1] (by rfl) ?_)))
     refine oq [oF 0, oF 1] [(17, vI (IntKind.i64.wrap (m + 1))), (1, sl f b g), (2, .func (.func 12) #[] #[]), (15, sl j a k), (16, vI (a.length : Int))] ?_
     refine ops_nil ?_
     exact fag (IntKind.i64.wrap (m + 1)) () (Option.some.inj i).symm trivial 3 [2]
   ·
    refine st_exit (fin_exit_then (fin_exit_then (fin_exit ?_)))
    obtain rfl := Option.some.inj i
    obtain rfl := K _ rfl
    have i : slices_EqualFunc_api_Comp_api_Comp_api_Comp_api_Comp_j1 = some o := M
    exact fj ag () i 0 []
theorem tourref3_SameItem_ok {c : Int} {f : Int} {b : Option Addr} {g : Nat} {p : List api_Comp} {i : Int} {j : Int} {k : Option Addr} {m : Nat} {s : List api_Comp} (C : Mem w0 (Fz F W :: cs) w) (z : RdS R_api_Comp F W b g p) (A : RdS R_api_Comp F W k m s) {q : Bool} (o : tourref3_SameItem c f p i j s = some q) : Calls Tryz.prog 79 #[.agg #[vI c, vI f, sl b p g], .agg #[vI i, vI j, sl k s m]] w (Post w0 (fun (_ : Unit) => True) (fun _ => .bool q) (fun _ => Fz F W :: cs)) := by
 unfold tourref3_SameItem at o
 refine sx_calls Tryz.func79 rfl (n := 17) (by kernel_rfl) (l := [(0, .agg #[vI c, vI f, sl b p g]), (1, .agg #[vI i, vI j, sl k s m])]) rfl (by rfl) C ?_
 refine st_seq ?_
 refine st_region (oFs 0 3) (by rfl) ?_
 refine oN 2 [vI c, vI f, sl b p g] 61 (fun u => ?_)
 refine oN 3 [vI i, vI j, sl k s m] 61 (fun t => ?_)
 refine oq [oF 2] [(3, vP t 0), (2, vP u 0)] ?_
 refine ops_nil (fin_then ?_)
 refine st_join1 (σ := Bool) (L := fun y => match y with | x => [(4, .bool x)]) (N := fun y => match y with | x => Mem w0 (Fz F W :: cs)) (I := fun y => match y with | x => (tourref3_SameItem_j1 x = some q)) ?_ ?_
 ·
  rintro x o
  unfold tourref3_SameItem_j1 at o
  refine st_ret ?_
  obtain rfl := Option.some.inj o
  exact fr [4] () trivial 0 []
 ·
  intro B
  refine st_seq ?_
  refine st_region (oFs 0 13) (by rfl) ?_
  refine oq [oF 0] [(5, vP u 0), (3, vP t 0), (2, vP u 0)] ?_
  refine oMA 6 1 0 2 ?_
  refine oq [oF 2] [(7, vP t 0), (6, .agg #[vI c, vI f]), (3, vP t 0), (2, vP u 0)] ?_
  refine oMA 8 0 0 2 ?_
  refine ops_val (op := (.binOp Go.BinOp.eql 29 (.tmp 6) (.tmp 8) 29)) (d := some 9) (v := .bool (c == i && (f == j))) ⟨by kernel_rfl⟩ (run_eql_agg (r := c == i && (f == j)) rfl rfl (by kernel_rfl) (fun w => eqA29 9998 w c i f j)) ?_
  refine oq [oF 5] [(10, .bool (c == i && (f == j))), (3, vP t 0), (2, vP u 0)] ?_
  refine ob o [10] (fun D o => ?_) (fun D o => ?_)
  ·
   refine oq [oF 6] [(11, vP u 2), (10, .bool true), (3, vP t 0)] ?_
   refine oM 12 1 2 ?_
   refine oq [oF 8] [(13, vP t 2), (12, sl b p g), (10, .bool true)] ?_
   refine oM 14 0 2 ?_
   obtain ⟨G, E, o⟩ := obind o
   refine oV (some 15) 3 [2, 0, 1] 3 [1, 2, 0] (fun _ H => slices_EqualFunc_api_Comp_api_Comp_api_Comp_api_Comp_ok H z A E) ?_
   rintro _ -
   refine oq [oF 11, oF 12] [(4, .bool G)] ?_
   refine ops_nil ?_
   exact fj B G o 3 [2]
  ·
   refine oq (oFs 6 7) [(4, .bool false)] ?_
   refine ops_nil ?_
   exact fj B false o 3 [2]
theorem slices_EqualFunc_api_Item_api_Item_api_Item_api_Item_ok {j : Option Addr} {k : Nat} {a : List api_Item} {f : Option Addr} {g : Nat} {b : List api_Item} (ak : Mem w0 (Fz F W :: cs) w) (X : RdS R_api_Item F W j k a) (Y : RdS R_api_Item F W f g b) {q : Bool} (i : slices_EqualFunc_api_Item_api_Item_api_Item_api_Item a b = some q) : Calls Tryz.prog 78 #[sl j a k, sl f b g, .func (.func 79) #[] #[]] w (Post w0 (fun (_ : Unit) => True) (fun _ => .bool q) (fun _ => Fz F W :: cs)) := by
 unfold slices_EqualFunc_api_Item_api_Item_api_Item_api_Item at i
 refine sx_calls Tryz.func78 rfl (n := 32) (by kernel_rfl) (l := [(0, sl j a k), (1, sl f b g), (2, .func (.func 79) #[] #[])]) rfl (by rfl) ak ?_
 refine st_seq (st_region [oF 0] (by rfl) ?_)
 refine oq [oF 0] [(0, sl j a k), (1, sl f b g), (2, .func (.func 79) #[] #[])] ?_
 refine ops_nil (fin_then (st_seq (st_seq ?_)))
 refine st_region (oFs 0 5) (by rfl) ?_
 refine oq (oFs 0 5) [(14, .bool (!((a.length : Int) == (b.length : Int)))), (0, sl j a k), (1, sl f b g), (2, .func (.func 79) #[] #[])] ?_
 refine ops_nil (fin_then ?_)
 refine sif i (fun al i => ?_) (fun al i => ?_)
 ·
  refine st_seq (st_region [oF 0] (by rfl) ?_)
  refine oq [oF 0] [(6, .bool false)] ?_
  refine ops_nil (fin_then (st_ret (fin_ret_then ?_)))
  obtain rfl := Option.some.inj i
  exact fr [6] () trivial 0 []
 ·
  refine st_skip (fin_then ?_)
  refine st_join1 (σ := Unit) (L := fun _ => []) (N := fun _ => Mem w0 (Fz F W :: cs)) (I := fun _ => (slices_EqualFunc_api_Item_api_Item_api_Item_api_Item_j1 = some q)) ?_ ?_
  ·
   rintro _ i
   unfold slices_EqualFunc_api_Item_api_Item_api_Item_api_Item_j1 at i
   refine st_seq (st_region [oF 0] (by rfl) ?_)
   refine oq [oF 0] [(6, .bool true)] ?_
   refine ops_nil (fin_then (st_ret ?_))
   obtain rfl := Option.some.inj i
   exact fr [6] () trivial 0 []
  ·
   intro ag
   refine st_seq (st_seq ?_)
   refine st_region (oFs 0 3) (by rfl) ?_
   refine oq (oFs 0 3) [(17, vI 0), (16, vI (a.length : Int)), (15, sl j a k), (1, sl f b g), (2, .func (.func 79) #[] #[])] ?_
   refine ops_nil (fin_then (st_block ?_))
   obtain ⟨r2, ao, O⟩ := obind i
   refine lp (σ := Int) (ρ := (Bool ⊕ Unit)) (γ := Unit) ao () (fun J G => match J, G with | o, _ => [(1, sl f b g), (2, .func (.func 79) #[] #[]), (15, sl j a k), (16, vI (a.length : Int)), (17, vI o)]) (fun J G => match J, G with | o, _ => Mem w0 (Fz F W :: cs)) (fun J G => match J, G with | o, _ => True) trivial 0 [] ?_
   rintro o _ o2 - hs_ M
   have i : (slices_EqualFunc_api_Item_api_Item_api_Item_api_Item_l2 a b) o = some o2 := hs_
   clear hs_
   unfold slices_EqualFunc_api_Item_api_Item_api_Item_api_Item_l2 at i
   refine st_seq (st_region [oF 0] (by rfl) ?_)
   refine oq [oF 0] [(18, .bool (decide (o < (a.length : Int)))), (1, sl f b g), (2, .func (.func 79) #[] #[]), (15, sl j a k), (16, vI (a.length : Int)), (17, vI o)] ?_
   refine ops_nil (fin_then (st_seq ?_))
   refine sif i (fun am i => ?_) (fun am i => ?_)
   ·
    refine st_skip (fin_then (st_seq (st_block (st_seq ?_))))
    refine st_region (oFs 0 6) (by rfl) ?_
    refine oq [oF 0] [(19, vI o), (1, sl f b g), (2, .func (.func 79) #[] #[]), (15, sl j a k), (16, vI (a.length : Int)), (17, vI o)] ?_
    obtain ⟨p, aq, i⟩ := obind i
    obtain ⟨K, ap, T⟩ := idx_some aq
    have aa := (List.getElem?_eq_some_iff.1 T).1
    obtain ⟨s, ax, U, hr10, y⟩ := RdS.el X T
    obtain ⟨u, x, rfl, ai⟩ := dec_api_Item hr10
    refine ops_val (op := (.indexAddr 24 (.tmp 15) (.tmp 17))) (d := some 20) (v := .pointer (some (s.add (K * 3)))) ⟨by kernel_rfl⟩ (run_indexA U Tryz.underlying24 (z := 3) (by kernel_rfl) rfl rfl ap aa) ?_
    refine ops_mem (d := some 21) (an := [.v (vI p.Ent.N), .v (vI p.Ent.Gen), .v (sl u p.Comps x)]) (evs := [.load (s.add (K * 3)) (vI p.Ent.N), .load ((s.add (K * 3)).add 1) (vI p.Ent.Gen), .load ((s.add (K * 3)).add 2) (sl u p.Comps x)]) (v := .agg #[vI p.Ent.N, vI p.Ent.Gen, sl u p.Comps x]) ⟨by kernel_rfl⟩ (fun w_ r hS => ⟨w_, ⟨r.elcell 0 rfl y 0 rfl, r.elcell 0 rfl y 1 rfl, r.elcell 0 rfl y 2 rfl, rfl⟩, r, trivial⟩) ?_
    refine oN 8 [vI 0, vI 0, .slice none 0 0] 61 (fun E => ?_)
    refine oq [oF 4] [(7, vI o), (8, vP E 0), (21, .agg #[vI p.Ent.N, vI p.Ent.Gen, sl u p.Comps x]), (1, sl f b g), (2, .func (.func 79) #[] #[]), (15, sl j a k), (16, vI (a.length : Int)), (17, vI o)] ?_
    refine oS 0 0 [vI p.Ent.N, vI p.Ent.Gen, sl u p.Comps x] ?_
    refine ops_nil (fin_then (st_seq ?_))
    refine st_region (oFs 0 6) (by rfl) ?_
    refine oq [oF 0, oF 1] [(23, vI o), (22, sl f b g), (8, vP E 0), (1, sl f b g), (2, .func (.func 79) #[] #[]), (15, sl j a k), (16, vI (a.length : Int)), (17, vI o)] ?_
    obtain ⟨m, ad, i⟩ := obind i
    obtain ⟨D, ac, H⟩ := idx_some ad
    have ab := (List.getElem?_eq_some_iff.1 H).1
    obtain ⟨t, aw, V, hr25, A⟩ := RdS.el Y H
    obtain ⟨B, C, rfl, aj⟩ := dec_api_Item hr25
    refine ops_val (op := (.indexAddr 24 (.tmp 22) (.tmp 23))) (d := some 24) (v := .pointer (some (t.add (D * 3)))) ⟨by kernel_rfl⟩ (run_indexA V Tryz.underlying24 (z := 3) (by kernel_rfl) rfl rfl ac ab) ?_
    refine ops_mem (d := some 25) (an := [.v (vI m.Ent.N), .v (vI m.Ent.Gen), .v (sl B m.Comps C)]) (evs := [.load (t.add (D * 3)) (vI m.Ent.N), .load ((t.add (D * 3)).add 1) (vI m.Ent.Gen), .load ((t.add (D * 3)).add 2) (sl B m.Comps C)]) (v := .agg #[vI m.Ent.N, vI m.Ent.Gen, sl B m.Comps C]) ⟨by kernel_rfl⟩ (fun w_ r hS => ⟨w_, ⟨r.elcell 1 rfl A 0 rfl, r.elcell 1 rfl A 1 rfl, r.elcell 1 rfl A 2 rfl, rfl⟩, r, trivial⟩) ?_
    refine oN 9 [vI 0, vI 0, .slice none 0 0] 61 (fun ah => ?_)
    refine oS 0 0 [vI m.Ent.N, vI m.Ent.Gen, sl B m.Comps C] ?_
    refine ops_nil (fin_then (st_seq ?_))
    refine st_region (oFs 0 5) (by rfl) ?_
    refine oq [oF 0] [(26, .func (.func 79) #[] #[]), (9, vP ah 0), (8, vP E 0), (1, sl f b g), (2, .func (.func 79) #[] #[]), (15, sl j a k), (16, vI (a.length : Int)), (17, vI o)] ?_
    refine oMA 27 1 0 3 ?_
    refine oMA 28 0 0 3 ?_
    obtain ⟨ar, ae, i⟩ := obind i
    refine oV (some 29) 3 [2, 0, 1] 3 [1, 2, 0] (fun _ r => tourref3_SameItem_ok r ai aj ae) ?_
    rintro _ -
    refine oq [oF 4] [(30, .bool (!ar)), (1, sl f b g), (2, .func (.func 79) #[] #[]), (15, sl j a k), (16, vI (a.length : Int)), (17, vI o)] ?_
    refine ops_nil (fin_then ?_)
    refine sif i (fun Z i => ?_) (fun Z i => ?_)
    ·
     refine st_seq (st_region [oF 0] (by rfl) ?_)
     refine oq [oF 0] [(6, .bool false)] ?_
     refine ops_nil (fin_then (st_ret (fin_ret_block (fin_ret_then (fin_ret_then (fin_ret_block (fin_ret_then ?_)))))))
     obtain rfl := Option.some.inj i
     obtain rfl := M _ rfl
     have i : some false = some q := O
     obtain rfl := Option.some.inj i
     exact fr [6] () trivial 3 [2]
    ·
     refine st_skip (fin_block (fin_then (st_region [oF 0, oF 1] (by rfl) ?_)))
     refine oq [oF 0, oF 1] [(17, vI (IntKind.i64.wrap (o + 1))), (1, sl f b g), (2, .func (.func 79) #[] #[]), (15, sl j a k), (16, vI (a.length : Int))] ?_
     refine ops_nil ?_
     exact fag (IntKind.i64.wrap (o + 1)) () (Option.some.inj i).symm trivial 3 [2]
   ·
    refine st_exit (fin_exit_then (fin_exit_then (fin_exit ?_)))
    obtain rfl := Option.some.inj i
    obtain rfl := M _ rfl
    have i : slices_EqualFunc_api_Item_api_Item_api_Item_api_Item_j1 = some q := O
    exact fj ag () i 0 []
theorem tourref3_SameWorld_ok {c : Option Addr} {g : Nat} {u : List api_Kind} {d : Option Addr} {i : Nat} {v : List Int} {f : Option Addr} {j : Nat} {x : List api_Item} {k : Option Addr} {p : Nat} {z : List api_Kind} {m : Option Addr} {q : Nat} {A : List Int} {o : Option Addr} {r : Nat} {B : List api_Item} (X : Mem w0 (Fz F W :: cs) w) (H : RdS R_api_Kind F W c g u) (J : RdS (Rep.int .i64) F W d i v) (K : RdS R_api_Item F W f j x) (M : RdS R_api_Kind F W k p z) (O : RdS (Rep.int .i64) F W m q A) (T : RdS R_api_Item F W o r B) {y : Bool} (b : tourref3_SameWorld u v x z A B = some y) : Calls Tryz.prog 51 #[.agg #[sl c u g, sl d v i, sl f x j], .agg #[sl k z p, sl m A q, sl o B r]] w (Post w0 (fun (_ : Unit) => True) (fun _ => .bool y) (fun _ => Fz F W :: cs)) := by
 unfold tourref3_SameWorld at b
 refine sx_calls Tryz.func51 rfl (n := 24) (by kernel_rfl) (l := [(0, .agg #[sl c u g, sl d v i, sl f x j]), (1, .agg #[sl k z p, sl m A q, sl o B r])]) rfl (by rfl) X ?_
 refine st_seq ?_
 refine st_region (oFs 0 3) (by rfl) ?_
 refine oN 2 [sl c u g, sl d v i, sl f x j] 26 (fun t => ?_)
 refine oN 3 [sl k z p, sl m A q, sl o B r] 26 (fun s => ?_)
 refine oq [oF 2] [(3, vP s 0), (2, vP t 0)] ?_
 refine ops_nil (fin_then ?_)
 refine st_join1 (σ := Bool) (L := fun G => match G with | E => [(4, .bool E)]) (N := fun G => match G with | E => Mem w0 (Fz F W :: cs)) (I := fun G => match G with | E => (tourref3_SameWorld_j1 E = some y)) ?_ ?_
 ·
  rintro E b
  unfold tourref3_SameWorld_j1 at b
  refine st_ret ?_
  obtain rfl := Option.some.inj b
  exact fr [4] () trivial 0 []
 ·
  intro C
  refine st_seq ?_
  refine st_region (oFs 0 20) (by rfl) ?_
  refine oq [oF 0] [(5, vP t 0), (3, vP s 0), (2, vP t 0)] ?_
  refine oM 6 1 0 ?_
  refine oq [oF 2] [(7, vP s 0), (6, sl c u g), (3, vP s 0), (2, vP t 0)] ?_
  refine oM 8 0 0 ?_
  obtain ⟨x4, aa, b⟩ := obind b
  refine oV (some 9) 3 [2, 0, 1] 3 [1, 2, 0] (fun _ D => slices_EqualFunc_api_Kind_api_Kind_api_Kind_api_Kind_ok D H M aa) ?_
  rintro _ -
  refine oq [oF 5] [(10, .bool x4), (3, vP s 0), (2, vP t 0)] ?_
  refine ob b [10] (fun Y b => ?_) (fun Y b => ?_)
  ·
   refine oq [oF 6] [(11, vP t 1), (10, .bool true), (3, vP s 0), (2, vP t 0)] ?_
   refine oM 12 1 1 ?_
   refine oq [oF 8] [(13, vP s 1), (12, sl d v i), (10, .bool true), (3, vP s 0), (2, vP t 0)] ?_
   refine oM 14 0 1 ?_
   obtain ⟨x7, ab, b⟩ := obind b
   refine oV (some 15) 3 [2, 0, 1] 3 [1, 2, 0] (fun _ D => slices_Equal_int_int_ok D J O ab) ?_
   rintro _ -
   refine oq [oF 11, oF 12] [(17, .bool x7), (3, vP s 0), (2, vP t 0)] ?_
   refine ob b [17] (fun Z b => ?_) (fun Z b => ?_)
   ·
    refine oq [oF 13] [(18, vP t 2), (17, .bool true), (3, vP s 0)] ?_
    refine oM 19 1 2 ?_
    refine oq [oF 15] [(20, vP s 2), (19, sl f x j), (17, .bool true)] ?_
    refine oM 21 0 2 ?_
    obtain ⟨U, V, b⟩ := obind b
    refine oV (some 22) 3 [2, 0, 1] 3 [1, 2, 0] (fun _ D => slices_EqualFunc_api_Item_api_Item_api_Item_api_Item_ok D K T V) ?_
    rintro _ -
    refine oq [oF 18, oF 19] [(4, .bool U)] ?_
    refine ops_nil ?_
    exact fj C U b 3 [2]
   ·
    refine oq (oFs 13 7) [(4, .bool false)] ?_
    refine ops_nil ?_
    exact fj C false b 3 [2]
  ·
   refine oq (oFs 6 14) [(4, .bool false)] ?_
   refine ops_nil ?_
   exact fj C false b 3 [2]
end Go.Proofs.YtbfndcookgijfaaGreatDoor.C
