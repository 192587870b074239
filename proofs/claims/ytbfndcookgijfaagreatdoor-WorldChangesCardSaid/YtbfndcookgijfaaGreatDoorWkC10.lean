/- The Go functions come to what the plain functions tell. No condition. -/
import Derived.Test.YtbfndcookgijfaaGreatDoorProg
import Derived.Test.YtbfndcookgijfaaGreatDoorFnC
import Derived.Test.YtbfndcookgijfaaGreatDoorExSq
import Derived.Test.YtbfndcookgijfaaGreatDoorWkC2
import Derived.Test.YtbfndcookgijfaaGreatDoorWkC3
import Derived.Test.YtbfndcookgijfaaGreatDoorWkC4
import Derived.Test.YtbfndcookgijfaaGreatDoorWkC5
import Derived.Test.YtbfndcookgijfaaGreatDoorWkC6
import Derived.Test.YtbfndcookgijfaaGreatDoorWkC7
import Derived.Test.YtbfndcookgijfaaGreatDoorWkC9
import Derived.Test.YtbfndcookgijfaaGreatDoorExMap
import Derived.Test.YtbfndcookgijfaaGreatDoorExOwnM
namespace Go.Proofs.YtbfndcookgijfaaGreatDoor.C
open Go Go.RowKit Go.Proofs.YtbfndcookgijfaaGreatDoor.Sx
set_option linter.unusedVariables false
set_option maxHeartbeats 4000000
set_option maxRecDepth 100000
variable {w0 w : World} {cs : List Chunk} {F : Nat → Prop} {W : World}
theorem world_Fit_ok {q : Option Addr} {r : Nat} {k : List api_Kind} {a : Option Addr} {b : Nat} {l : List api_Comp} (cj : Mem w0 (Fz F W :: cs) w) (aw : RdS R_api_Kind F W q r k) (am : RdS R_api_Comp F W a b l) {G : List api_Comp} {M : Int} (c : world_Fit k l = some (G, M)) : Calls Tryz.prog 7 #[sl q k r, sl a l b] w (Post w0 (fun ((aj, ak, al, ac, ad) : (Option Addr) × Nat × (List Value) × (Nat → Prop) × World) => (RepL R_api_Comp ac ad G al) ∧ (Ext w0 F W ac ad)) (fun (aj, ak, al, ac, ad) => .tuple #[sl aj G ak, vI M]) (fun (aj, ak, al, ac, ad) => ow aj G ak 42 2 al :: Fz ac ad :: cs)) := by
 unfold world_Fit at c
 refine sx_calls Tryz.func7 rfl (n := 64) (by kernel_rfl) (l := [(0, sl q k r), (1, sl a l b)]) rfl (by rfl) cj ?_
 refine st_seq (st_region [oF 0, oF 1] (by rfl) ?_)
 refine oq [oF 0, oF 1] [(0, sl q k r), (1, sl a l b)] ?_
 refine ops_nil (fin_then (st_seq (st_seq ?_)))
 refine st_region (oFs 0 3) (by rfl) ?_
 refine oq [oF 0] [(12, sl q k r), (0, sl q k r), (1, sl a l b)] ?_
 obtain ⟨x1, cm, c⟩ := obind c
 refine oV (some 13) 0 [] 0 [] (fun _ T => kind_Check_ok T aw cm) ?_
 rintro _ -
 refine oq [oF 2] [(6, vI x1), (0, sl q k r), (1, sl a l b)] ?_
 refine ops_nil (fin_then (st_seq (st_region [oF 0, oF 1] (by rfl) ?_)))
 refine oq [oF 0, oF 1] [(15, .bool (!(x1 == 0))), (6, vI x1), (0, sl q k r), (1, sl a l b)] ?_
 refine ops_nil (fin_then ?_)
 refine sif c (fun ck c => ?_) (fun ck c => ?_)
 ·
  refine st_seq ?_
  refine st_region (oFs 0 3) (by rfl) ?_
  refine oq (oFs 0 3) [(5, vI x1), (4, .slice none 0 0)] ?_
  refine ops_nil (fin_then (st_ret (fin_ret_then ?_)))
  refine fnil 42 2 ?_
  obtain ⟨rfl, rfl⟩ := si2 c
  exact fr [4, 5] (none, 0, [], F, W) ⟨(RepL.nil (R := R_api_Comp)), (Ext.refl _ _ _)⟩ 0 []
 ·
  refine st_skip (fin_then (st_seq (st_region [oF 0] (by rfl) ?_)))
  refine oq [oF 0] [(7, .slice none 0 0), (0, sl q k r), (1, sl a l b)] ?_
  refine ops_nil (fin_then ?_)
  refine st_join1 (σ := (Option Addr) × Nat × (List api_Comp) × (List Value) × (Nat → Prop) × World) (L := fun H => match H with | (X, Y, l6, y7, F9, U) => [(7, sl X l6 Y)]) (N := fun H => match H with | (X, Y, l6, y7, F9, U) => Mem w0 (ow X l6 Y 42 2 y7 :: Fz F9 U :: cs)) (I := fun H => match H with | (X, Y, l6, y7, F9, U) => (world_Fit_j1 l6 = some (G, M)) ∧ (RepL R_api_Comp F9 U l6 y7) ∧ (Ext w0 F W F9 U)) ?_ ?_
  ·
   rintro ⟨X, Y, l6, y7, F9, U⟩ ⟨c, h8, cn⟩
   unfold world_Fit_j1 at c
   refine st_seq (st_region [oF 0, oF 1] (by rfl) ?_)
   refine oq [oF 0] [(61, sl X l6 Y), (7, sl X l6 Y)] ?_
   obtain ⟨ae, b7, c⟩ := obind c
   refine ops_callI (σ := (List Value)) (d := some 62) (f := 44) (args := #[sl X l6 Y, .func (.func 45) #[] #[]]) (v := (fun H => match H with | aa => .tuple #[])) (I := (fun H => match H with | aa => (RepL R_api_Comp F9 U ae aa) ∧ (ae.length = l6.length))) (M' := (fun H => match H with | aa => Mem w0 (ow X ae Y 42 2 aa :: Fz F9 U :: cs))) ⟨by kernel_rfl⟩ (fun w_ T hS => (slices_SortFunc_api_Comp_api_Comp_ok w0 w_ (cs) F9 U X Y l6 y7 T h8 ae b7).mono (by rintro e w' ⟨aa, ⟨a8, a2⟩, rfl, h'⟩; have h' : Mem w0 (ow X ae Y 42 2 aa :: Fz F9 U :: cs) w' := h'; exact ⟨aa, ⟨a8, a2⟩, rfl, h', trivial⟩)) ?_
   rintro aa ⟨a8, a2⟩
   refine ops_conv (l' := [(62, .tuple #[]), (61, sl X ae Y), (7, sl X ae Y)]) (M' := Mem w0 (ow X ae Y 42 2 aa :: Fz F9 U :: cs)) (by first | rfl | ((try dsimp only [sl, ow]); rw [a2]; done) | ((try dsimp only [sl, ow]); rw [a2]; rfl)) (fun _ h => h) ?_
   refine ops_nil (fin_then (st_seq ?_))
   refine st_region (oFs 0 3) (by rfl) ?_
   refine oq (oFs 0 3) [(5, vI 0), (4, sl X ae Y)] ?_
   refine ops_nil (fin_then (st_ret ?_))
   obtain ⟨rfl, rfl⟩ := si2 c
   exact fr [4, 5] (X, Y, aa, F9, U) ⟨a8, cn⟩ 0 []
  ·
   intro ce
   refine st_seq (st_seq ?_)
   refine st_region (oFs 0 3) (by rfl) ?_
   refine oq (oFs 0 3) [(19, vI 0), (18, vI (l.length : Int)), (17, sl a l b), (7, .slice none 0 0), (0, sl q k r), (1, sl a l b)] ?_
   refine ops_nil (fin_then (st_block ?_))
   refine snil 42 2 ?_
   obtain ⟨r2, cl, ay⟩ := obind c
   refine lp (σ := (List api_Comp) × Int) (ρ := (((List api_Comp) × Int) ⊕ (List api_Comp))) (γ := (Option Addr) × Nat × (List Value) × (Nat → Prop) × World) cl (none, 0, [], F, W) (fun s_ g_ => match s_, g_ with | (i, j), (o, p, O, A, B) => [(0, sl q k r), (1, sl a l b), (7, sl o i p), (17, sl a l b), (18, vI (l.length : Int)), (19, vI j)]) (fun s_ g_ => match s_, g_ with | (i, j), (o, p, O, A, B) => Mem w0 (ow o i p 42 2 O :: Fz A B :: cs)) (fun s_ g_ => match s_, g_ with | (i, j), (o, p, O, A, B) => (RepL R_api_Comp A B i O) ∧ (Ext w0 F W A B)) ⟨(RepL.nil (R := R_api_Comp)), (Ext.refl _ _ _)⟩ 0 [] ?_
   rintro ⟨i, j⟩ ⟨o, p, O, A, B⟩ o2 ⟨a3, ag⟩ hs_ ax
   have c : (world_Fit_l2 l k) i j = some o2 := hs_
   clear hs_
   unfold world_Fit_l2 at c
   have aw := aw.ext ag
   have am := am.ext ag
   refine st_seq (st_region [oF 0] (by rfl) ?_)
   refine oq [oF 0] [(20, .bool (decide (j < (l.length : Int)))), (0, sl q k r), (1, sl a l b), (7, sl o i p), (17, sl a l b), (18, vI (l.length : Int)), (19, vI j)] ?_
   refine ops_nil (fin_then (st_seq ?_))
   refine sif c (fun bw c => ?_) (fun bw c => ?_)
   ·
    refine st_skip (fin_then (st_seq (st_block (st_seq ?_))))
    refine st_region (oFs 0 6) (by rfl) ?_
    refine oq [oF 0] [(21, vI j), (0, sl q k r), (1, sl a l b), (7, sl o i p), (17, sl a l b), (18, vI (l.length : Int)), (19, vI j)] ?_
    obtain ⟨g, b8, c⟩ := obind c
    obtain ⟨bm, b4, bi⟩ := idx_some b8
    have b2 := (List.getElem?_eq_some_iff.1 bi).1
    obtain ⟨a0, cu, bs, hr31, bg⟩ := RdS.el am bi
    obtain ⟨J, K, rfl, cf⟩ := dec_api_Comp hr31
    refine ops_val (op := (.indexAddr 27 (.tmp 17) (.tmp 19))) (d := some 22) (v := .pointer (some (a0.add (bm * 2)))) ⟨by kernel_rfl⟩ (run_indexA bs Tryz.underlying27 (z := 2) (by kernel_rfl) rfl rfl b4 b2) ?_
    refine ops_mem (d := some 23) (an := [.v (vI g.Kind), .v (sl J g.Vals K)]) (evs := [.load (a0.add (bm * 2)) (vI g.Kind), .load ((a0.add (bm * 2)).add 1) (sl J g.Vals K)]) (v := .agg #[vI g.Kind, sl J g.Vals K]) ⟨by kernel_rfl⟩ (fun w_ T hS => ⟨w_, ⟨T.elcell 1 rfl bg 0 rfl, T.elcell 1 rfl bg 1 rfl, rfl⟩, T, trivial⟩) ?_
    refine oN 9 [vI 0, .slice none 0 0] 42 (fun s => ?_)
    refine oq [oF 4] [(8, vI j), (9, vP s 0), (23, .agg #[vI g.Kind, sl J g.Vals K]), (0, sl q k r), (1, sl a l b), (7, sl o i p), (17, sl a l b), (18, vI (l.length : Int)), (19, vI j)] ?_
    refine oS 0 0 [vI g.Kind, sl J g.Vals K] ?_
    refine ops_nil (fin_then (st_seq (st_seq ?_)))
    refine st_region (oFs 0 10) (by rfl) ?_
    refine oq [oF 0] [(24, vP s 0), (8, vI j), (9, vP s 0), (0, sl q k r), (1, sl a l b), (7, sl o i p), (17, sl a l b), (18, vI (l.length : Int)), (19, vI j)] ?_
    refine oM 25 0 0 ?_
    refine oq [oF 2, oF 3] [(27, .bool (decide (g.Kind < 0))), (8, vI j), (9, vP s 0), (0, sl q k r), (1, sl a l b), (7, sl o i p), (17, sl a l b), (18, vI (l.length : Int)), (19, vI j)] ?_
    refine ob c [27] (fun bx c => ?_) (fun bx c => ?_)
    ·
     refine oq (oFs 4 6) [(33, .bool true), (8, vI j), (9, vP s 0), (0, sl q k r), (1, sl a l b), (7, sl o i p), (17, sl a l b), (18, vI (l.length : Int)), (19, vI j)] ?_
     refine ops_nil (fin_then (st_true rfl (st_seq (st_region [oF 0, oF 1] (by rfl) ?_))))
     refine oq [oF 0, oF 1] [(5, vI 1), (4, .slice none 0 0)] ?_
     refine ops_nil (fin_then (st_ret (fin_ret_then (fin_ret_block (fin_ret_then (fin_ret_then (fin_ret_block (fin_ret_then ?_))))))))
     refine fnil 42 2 ?_
     obtain rfl := Option.some.inj c
     obtain rfl := ax _ rfl
     have c : some (([] : List api_Comp), 1) = some (G, M) := ay
     obtain ⟨rfl, rfl⟩ := si2 c
     exact fr [4, 5] (none, 0, [], A, B) ⟨(RepL.nil (R := R_api_Comp)), ag⟩ 4 [0, 3]
    ·
     refine oq [oF 4] [(28, vP s 0), (27, .bool false), (8, vI j), (9, vP s 0), (0, sl q k r), (1, sl a l b), (7, sl o i p), (17, sl a l b), (18, vI (l.length : Int)), (19, vI j)] ?_
     refine oM 29 0 0 ?_
     refine oq (oFs 6 4) [(33, .bool (decide ((k.length : Int) ≤ g.Kind))), (8, vI j), (9, vP s 0), (0, sl q k r), (1, sl a l b), (7, sl o i p), (17, sl a l b), (18, vI (l.length : Int)), (19, vI j)] ?_
     refine ops_nil (fin_then ?_)
     refine sif c (fun bz c => ?_) (fun bz c => ?_)
     ·
      refine st_seq (st_region [oF 0, oF 1] (by rfl) ?_)
      refine oq [oF 0, oF 1] [(5, vI 1), (4, .slice none 0 0)] ?_
      refine ops_nil (fin_then (st_ret (fin_ret_then (fin_ret_block (fin_ret_then (fin_ret_then (fin_ret_block (fin_ret_then ?_))))))))
      refine fnil 42 2 ?_
      obtain rfl := Option.some.inj c
      obtain rfl := ax _ rfl
      have c : some (([] : List api_Comp), 1) = some (G, M) := ay
      obtain ⟨rfl, rfl⟩ := si2 c
      exact fr [4, 5] (none, 0, [], A, B) ⟨(RepL.nil (R := R_api_Comp)), ag⟩ 4 [0, 3]
     ·
      refine st_skip (fin_then (st_seq (st_seq ?_)))
      refine st_region (oFs 0 5) (by rfl) ?_
      refine oq [oF 0, oF 1] [(35, vI j), (34, sl a l b), (9, vP s 0), (0, sl q k r), (1, sl a l b), (7, sl o i p), (17, sl a l b), (18, vI (l.length : Int)), (19, vI j)] ?_
      obtain ⟨bl, b9, c⟩ := obind c
      obtain ⟨co, cx, cr, b6, br, a9, be⟩ := cut_some b9
      have cq := cut_len be br a9
      have cg : RdS R_api_Comp A B a b bl := by have h_ := am.cut br a9; rw [← be] at h_; rw [show co = 0 by omega, cutA_zero, Nat.sub_zero] at h_; exact h_
      refine ops_val (op := (.slice 27 (.tmp 34) none (some (.tmp 35)) none)) (d := some 36) (v := sl a bl b) ⟨by kernel_rfl⟩ (run_cutH0 (by kernel_rfl) (z := 2) (by kernel_rfl) rfl rfl b6 (Nat.le_trans a9 am.cap) (by omega)) ?_
      refine oq [oF 3] [(37, .func (.func 42) #[] #[vP s 0]), (36, sl a bl b), (9, vP s 0), (0, sl q k r), (1, sl a l b), (7, sl o i p), (17, sl a l b), (18, vI (l.length : Int)), (19, vI j)] ?_
      obtain ⟨cy, ca, c⟩ := obind c
      refine oV (some 38) 3 [0, 2, 1] 3 [0, 2, 1] (fun _ T => slices_ContainsFunc_api_Comp_api_Comp_ok T cg cf ca) ?_
      rintro _ ba
      refine ops_nil (fin_then ?_)
      refine sif c (fun b0 c => ?_) (fun b0 c => ?_)
      ·
       refine st_seq (st_region [oF 0, oF 1] (by rfl) ?_)
       refine oq [oF 0, oF 1] [(5, vI 5), (4, .slice none 0 0)] ?_
       refine ops_nil (fin_then (st_ret (fin_ret_then (fin_ret_block (fin_ret_then (fin_ret_then (fin_ret_block (fin_ret_then ?_))))))))
       refine fnil 42 2 ?_
       obtain rfl := Option.some.inj c
       obtain rfl := ax _ rfl
       have c : some (([] : List api_Comp), 5) = some (G, M) := ay
       obtain ⟨rfl, rfl⟩ := si2 c
       exact fr [4, 5] (none, 0, [], A, B) ⟨(RepL.nil (R := R_api_Comp)), ag⟩ 4 [0, 3]
      ·
       refine st_skip (fin_then (st_seq ?_))
       refine st_region_draw [oT 0, oT 1, oT 2, oT 3, oT 4, oT 5, oT 6, oF 7, oT 8, oT 9, oT 10, oT 11, oT 12] (Mem w0 (.blk s [vI g.Kind, sl J g.Vals K] 42 :: ow o i p 42 2 O :: Fz A B :: cs)) (by kernel_rfl) (by kernel_rfl) (by kernel_rfl) (fun _ d _ _ _ h => by cases d <;> exact h) (M' := Mem w0 (.blk s [vI g.Kind, sl J g.Vals K] 42 :: ow o i p 42 2 O :: Fz A B :: cs)) (fun w_ T => ⟨T.drew, T.drew.sub (.cons_cons _ (.cons_cons _ (.cons_cons _ (.refl _))))⟩) ?_
       refine oq [oT 0, oT 1] [(41, vP s 0), (40, sl q k r), (9, vP s 0), (0, sl q k r), (1, sl a l b), (7, sl o i p), (17, sl a l b), (18, vI (l.length : Int)), (19, vI j)] ?_
       refine oL 42 0 0 ?_
       obtain ⟨V, cb, c⟩ := obind c
       obtain ⟨bn, b5, bj⟩ := idx_some cb
       have b3 := (List.getElem?_eq_some_iff.1 bj).1
       obtain ⟨a1, cv, bt, hr63, bh⟩ := RdS.el aw bj
       obtain ⟨aq, av, rfl, ch⟩ := dec_api_Kind hr63
       refine ops_val (op := (.indexAddr 22 (.tmp 40) (.tmp 42))) (d := some 43) (v := .pointer (some (a1.add (bn * 2)))) ⟨by kernel_rfl⟩ (run_indexA bt Tryz.underlying22 (z := 2) (by kernel_rfl) rfl rfl b5 b3) ?_
       refine ops_load (d := some 44) (an := [.v (.string V.Name), .v (sl aq V.Fields av)]) (evs := [.load (a1.add (bn * 2)) (.string V.Name), .load ((a1.add (bn * 2)).add 1) (sl aq V.Fields av)]) (v := .agg #[.string V.Name, sl aq V.Fields av]) ⟨by kernel_rfl⟩ (fun w_ T => ⟨T.elcell 2 rfl bh 0 rfl, T.elcell 2 rfl bh 1 rfl, rfl⟩) ?_
       refine oq [oT 5] [(45, vP s 1), (44, .agg #[.string V.Name, sl aq V.Fields av]), (9, vP s 0), (0, sl q k r), (1, sl a l b), (7, sl o i p), (17, sl a l b), (18, vI (l.length : Int)), (19, vI j)] ?_
       refine oL 46 0 1 ?_
       obtain ⟨E, ap, cc, c⟩ := obind2 c
       refine ops_callI (σ := (Option Addr) × Nat × (List Value)) (d := some 47) (f := 43) (args := #[.agg #[.string V.Name, sl aq V.Fields av], sl J g.Vals K]) (v := (fun H => match H with | (C, D, af) => .tuple #[sl C E D, vI ap])) (I := (fun H => match H with | (C, D, af) => (RepL (Rep.int .i64) A B E af))) (M' := (fun H => match H with | (C, D, af) => Mem w0 (ow C E D 3 1 af :: .blk s [vI g.Kind, sl J g.Vals K] 42 :: ow o i p 42 2 O :: Fz A B :: cs))) ⟨by kernel_rfl⟩ (fun w_ T hS => (@kind_Fit_ok w0 w_ (.blk s [vI g.Kind, sl J g.Vals K] 42 :: ow o i p 42 2 O :: cs) A B V.Name aq av V.Fields J K g.Vals (T.pick 3 [2, 0, 1] (by kernel_rfl) (by decide) rfl) ch ba E ap cc).mono (by rintro e w' ⟨⟨C, D, af⟩, bb, rfl, h'⟩; have h' : Mem w0 (ow C E D 3 1 af :: .blk s [vI g.Kind, sl J g.Vals K] 42 :: ow o i p 42 2 O :: Fz A B :: cs) w' := (h'.pick 4 [0, 2, 3, 1] (by kernel_rfl) (by decide) rfl); exact ⟨(C, D, af), bb, rfl, h', (by exact h'.sub (.cons _ (.cons_cons _ (.cons_cons _ (.cons_cons _ (.refl _))))))⟩)) ?_
       rintro ⟨C, D, af⟩ bb
       refine oq (oTs 8 5) [(11, vI ap), (10, sl C E D), (9, vP s 0), (0, sl q k r), (1, sl a l b), (7, sl o i p), (17, sl a l b), (18, vI (l.length : Int)), (19, vI j)] ?_
       refine ops_nil (fin_then (st_seq (st_seq (st_region [oF 0, oF 1] (by rfl) ?_))))
       refine oq [oF 0, oF 1] [(51, .bool (!(ap == 0))), (11, vI ap), (10, sl C E D), (9, vP s 0), (0, sl q k r), (1, sl a l b), (7, sl o i p), (17, sl a l b), (18, vI (l.length : Int)), (19, vI j)] ?_
       refine ops_nil (fin_then ?_)
       refine sif c (fun b1 c => ?_) (fun b1 c => ?_)
       ·
        refine st_seq ?_
        refine st_region (oFs 0 3) (by rfl) ?_
        refine oq (oFs 0 3) [(5, vI ap), (4, .slice none 0 0)] ?_
        refine ops_nil (fin_then (st_ret (fin_ret_then (fin_ret_block (fin_ret_then (fin_ret_then (fin_ret_block (fin_ret_then ?_))))))))
        refine fnil 42 2 ?_
        obtain rfl := Option.some.inj c
        obtain rfl := ax _ rfl
        have c : some (([] : List api_Comp), ap) = some (G, M) := ay
        obtain ⟨rfl, rfl⟩ := si2 c
        exact fr [4, 5] (none, 0, [], A, B) ⟨(RepL.nil (R := R_api_Comp)), ag⟩ 5 [0, 4]
       ·
        refine st_skip (fin_then ?_)
        refine st_region (oFs 0 8) (by rfl) ?_
        refine oq [oF 0, oF 1] [(54, vP s 0), (53, sl o i p), (10, sl C E D), (0, sl q k r), (1, sl a l b), (7, sl o i p), (17, sl a l b), (18, vI (l.length : Int)), (19, vI j)] ?_
        refine oM 55 1 0 ?_
        refine oq [oF 3, oF 4] [(57, .agg #[vI g.Kind, sl C E D]), (53, sl o i p), (0, sl q k r), (1, sl a l b), (7, sl o i p), (17, sl a l b), (18, vI (l.length : Int)), (19, vI j)] ?_
        refine ops_ex (σ := (Nat → Prop) × World) (I := fun H => Ext w0 A B H.1 H.2 ∧ RdS (Rep.int .i64) H.1 H.2 C D E) (M' := fun H => Mem w0 (.blk s [vI g.Kind, sl J g.Vals K] 42 :: ow o i p 42 2 O :: Fz H.1 H.2 :: cs)) (fun w_ T => ?_) ?_
        · obtain ⟨F_, h1_, h2_, h3_⟩ := (T.pick 4 [0, 3, 1, 2] (by kernel_rfl) (by decide) rfl : Mem w0 (ow C E D 3 1 af :: Fz A B :: .blk s [vI g.Kind, sl J g.Vals K] 42 :: ow o i p 42 2 O :: cs) w_).freeze (z := 1) bb rfl rfl
          exact ⟨(F_, w_), ⟨h1_, h2_⟩, h3_.pick 3 [1, 2, 0] (by kernel_rfl) (by decide) rfl⟩
        rintro ⟨ar, au⟩ ⟨ab, bc⟩
        have ab : Ext w0 A B ar au := ab
        have bc : RdS (Rep.int .i64) ar au C D E := bc
        have aw := aw.ext ab
        have am := am.ext ab
        have ba := ba.ext ab
        have a3 := a3.ext ab
        have bd : RepL R_api_Comp ar au ([(api_Comp.mk g.Kind E)] : List api_Comp) ([vI g.Kind, sl C E D]) := (RepL.cons (R := R_api_Comp) (F := ar) (w := au) (vs := [vI g.Kind, sl C E D]) (ys := []) (enc_api_Comp bc) RepL.nil)
        refine oB 58 [vI g.Kind, sl C E D] 42 1 2 (fun cw => ?_)
        obtain ⟨az, cd, c⟩ := obind c
        obtain ⟨bf, bv⟩ := app_some cd
        obtain ⟨bp, bk⟩ : ∃ y_, O ++ ([vI g.Kind, sl C E D]) = y_ := ⟨_, rfl⟩
        have ci : RepL R_api_Comp ar au az bp := by rw [bf, ← bk]; exact RepL.app a3 bd
        refine ops_appendO (x := (Go.Operand.tmp 53)) (y := (Go.Operand.tmp 58)) (t := 27) (e := 42) (d := some 59) (n' := az.length) (z := 2) (m := ([(api_Comp.mk g.Kind E)] : List api_Comp).length) (bytes := 32) (xs' := bp) (news := ([vI g.Kind, sl C E D])) (zv := .agg #[vI 0, .slice none 0 0]) 2 ⟨by kernel_rfl⟩ rfl rfl Tryz.underlying27 (by kernel_rfl) (by rfl) rfl (fun w_ T => T.srcO 0 rfl) bd.len bd.one bv (by have z_ := congrArg List.length bf; rw [List.length_append] at z_; exact z_.symm) bk (fun _ _ _ _ hS h' => trivial) ?_
        rintro ⟨a5, a6⟩
        refine oq [oF 7] [(7, sl a5 az a6), (0, sl q k r), (1, sl a l b), (17, sl a l b), (18, vI (l.length : Int)), (19, vI j)] ?_
        refine ops_nil (fin_block (fin_then (st_region [oF 0, oF 1] (by rfl) ?_)))
        refine oq [oF 0, oF 1] [(19, vI (IntKind.i64.wrap (j + 1))), (7, sl a5 az a6), (0, sl q k r), (1, sl a l b), (17, sl a l b), (18, vI (l.length : Int))] ?_
        refine ops_nil ?_
        exact fag (az, IntKind.i64.wrap (j + 1)) (a5, a6, bp, ar, au) (Option.some.inj c).symm ⟨ci, (ag.trans ab)⟩ 4 [2, 3]
   ·
    refine st_exit (fin_exit_then (fin_exit_then (fin_exit ?_)))
    obtain rfl := Option.some.inj c
    obtain rfl := ax _ rfl
    have c : world_Fit_j1 i = some (G, M) := ay
    exact fj ce (o, p, i, O, A, B) ⟨c, a3, ag⟩ 0 []
def world_Put__t0 : List Row := [⟨0, 2305843009213693952, 2048⟩, ⟨0, 4611686018427387904, 2048⟩, ⟨2, 9223372036854775808, 4611686018427387904⟩, ⟨4, 18446744073709551616, 9223372036854775808⟩, ⟨8, 36893488147419103232, 18446744073709551616⟩, ⟨0, 73786976294838206464, 4096⟩, ⟨0, 147573952589676412928, 1024⟩, ⟨64, 295147905179352825856, 147573952589676412928⟩, ⟨128, 590295810358705651712, 295147905179352825856⟩, ⟨256, 1180591620717411303424, 590295810358705651712⟩, ⟨560, 2361183241434822606848, 1291272085159668613120⟩, ⟨2047, 4722366482869645213696, 2305843009213693952⟩, ⟨4095, 9444732965739290427392, 4722366482869645213696⟩, ⟨6143, 0, 11805916207174113034240⟩]
theorem world_Put_ok {bk : Option Addr} {br : Nat} {cz : List api_Kind} {bl : Option Addr} {bs : Nat} {c0 : List Int} {bm : Option Addr} {bt : Nat} {c1 : List api_Item} {X : Int} {Y : Int} {s : Int} {k : Option Addr} {m : Nat} {t : List Int} (fb : Mem w0 (Fz F W :: cs) w) (ch : RdS R_api_Kind F W bk br cz) (ci : RdS (Rep.int .i64) F W bl bs c0) (cj : RdS R_api_Item F W bm bt c1) (ar : RdS (Rep.int .i64) F W k m t) {bu : List api_Kind} {ba : List Int} {bb : List api_Item} {cm : Int} (hp : world_Put cz c0 c1 X Y s t = some (bu, ba, bb, cm)) : Calls Tryz.prog 30 #[.agg #[sl bk cz br, sl bl c0 bs, sl bm c1 bt], .agg #[vI X, vI Y], .agg #[vI s, sl k t m]] w (Post w0 (fun ((bh, bo, bi, bp, bv, bj, bq, bw, bn, ay, az) : (Option Addr) × Nat × (Option Addr) × Nat × (List Value) × (Option Addr) × Nat × (List Value) × Chunk × (Nat → Prop) × World) => (RdS R_api_Kind ay az bh bo bu) ∧ (RepL (Rep.int .i64) ay az ba bv) ∧ (OwL O_api_Item_rrw ay az bb bw bn) ∧ (Ext w0 F W ay az)) (fun (bh, bo, bi, bp, bv, bj, bq, bw, bn, ay, az) => .tuple #[.agg #[sl bh bu bo, sl bi ba bp, sl bj bb bq], vI cm]) (fun (bh, bo, bi, bp, bv, bj, bq, bw, bn, ay, az) => ow bi ba bp 3 1 bv :: ow bj bb bq 61 3 bw :: bn :: Fz ay az :: cs)) := by
 unfold world_Put at hp
 refine sx_calls Tryz.func30 rfl (n := 75) (by kernel_rfl) (l := [(0, .agg #[sl bk cz br, sl bl c0 bs, sl bm c1 bt]), (1, .agg #[vI X, vI Y]), (2, .agg #[vI s, sl k t m])]) rfl (by rfl) fb ?_
 refine st_seq ?_
 refine st_region (oFs 0 5) (by rfl) ?_
 refine oN 3 [sl bk cz br, sl bl c0 bs, sl bm c1 bt] 26 (fun y => ?_)
 refine oN 4 [vI X, vI Y] 29 (fun b2 => ?_)
 refine oN 5 [vI s, sl k t m] 42 (fun b3 => ?_)
 refine oN 6 [.slice none 0 0, .slice none 0 0, .slice none 0 0] 26 (fun r => ?_)
 refine oq [oF 4] [(6, vP r 0), (5, vP b3 0), (4, vP b2 0), (3, vP y 0)] ?_
 refine ops_nil (fin_then (st_seq ?_))
 refine st_region (oFs 0 10) (by rfl) ?_
 refine oMA 15 3 0 3 ?_
 refine oMA 16 2 0 2 ?_
 obtain ⟨x5, A, E, x8, x9, ey, hp⟩ := obind5 hp
 refine oV (some 17) 5 [4, 0, 1, 2, 3] 9 [0, 1, 2, 3, 5, 6, 7, 8, 4] (fun _ p => world_found_ok p ch ci cj ey) ?_
 rintro ⟨B, C, eo, g, j, ab, av, c, aa, cc, bx, bz⟩ ⟨e8, b0, b5, b6⟩
 have ch := ch.ext b6
 have ci := ci.ext b6
 have cj := cj.ext b6
 have ar := ar.ext b6
 refine oq (oFs 3 4) [(20, vI x9), (19, vI x8), (18, .agg #[sl B x5 C, sl g A j, sl av E c]), (6, vP r 0), (5, vP b3 0), (3, vP y 0)] ?_
 refine oS 7 0 [sl B x5 C, sl g A j, sl av E c] ?_
 refine oq [oF 8, oF 9] [(9, vI x9), (8, vI x8), (6, vP r 0), (5, vP b3 0), (3, vP y 0)] ?_
 refine ops_nil (fin_then (st_seq (st_seq (st_region [oF 0, oF 1] (by rfl) ?_))))
 refine oq [oF 0, oF 1] [(22, .bool (!(x9 == 0))), (9, vI x9), (8, vI x8), (6, vP r 0), (5, vP b3 0), (3, vP y 0)] ?_
 refine ops_nil (fin_then ?_)
 refine sif hp (fun et hp => ?_) (fun et hp => ?_)
 ·
  refine st_seq ?_
  refine st_region (oFs 0 4) (by rfl) ?_
  refine oq [oF 0, oF 1] [(24, vI x9), (23, .agg #[.slice none 0 0, .slice none 0 0, .slice none 0 0]), (6, vP r 0)] ?_
  refine oS 4 0 [.slice none 0 0, .slice none 0 0, .slice none 0 0] ?_
  refine oq [oF 3] [(7, vI x9), (6, vP r 0)] ?_
  refine ops_nil (fin_then (st_ret (fin_ret_then ?_)))
  refine fnil 3 1 ?_
  refine fin_conv (l' := [(7, vI x9), (6, vP r 0)]) (M' := Mem w0 (ow none ([] : List api_Item) 0 61 3 [] :: (Sx.bundle []) :: ow none ([] : List Int) 0 3 1 [] :: ow B x5 C 86 2 eo :: ow g A j 3 1 ab :: ow av E c 61 3 aa :: cc :: .blk r [.slice none 0 0, .slice none 0 0, .slice none 0 0] 26 :: .blk b3 [vI s, sl k t m] 42 :: .blk b2 [vI X, vI Y] 29 :: .blk y [sl B x5 C, sl g A j, sl av E c] 26 :: Fz bx bz :: cs)) rfl (fun U h => h.bnil.onil none 61 3) ?_
  obtain ⟨rfl, rfl, rfl, rfl⟩ := si4 hp
  refine fin_ret [.cell 6 26, .tmp 7] [.agg #[.slice none 0 0, sl none ([] : List Int) 0, sl none ([] : List api_Item) 0], vI x9] rfl rfl (fun U p => (.cell rfl (tr_run _ [.v (.slice none 0 0), .v (.slice none 0 0), .v (.slice none 0 0)] [ld r 0 (.slice none 0 0), ld r 1 (.slice none 0 0), ld r 2 (.slice none 0 0)] (.agg #[.slice none 0 0, .slice none 0 0, .slice none 0 0] : Value) _ _ (by kernel_rfl) ⟨p.cell 7 rfl rfl, p.cell 7 rfl rfl, p.cell 7 rfl rfl, rfl⟩) (.tmp rfl .nil))) (fun U p => ?_)
  exact ⟨(none, 0, none, 0, [], none, 0, [], (Sx.bundle []), bx, bz), ⟨(RdS.empty _), (RepL.nil (R := (Rep.int .i64))), (OwL.nil (O := O_api_Item_rrw)), b6⟩, rfl, p.pick 12 [2, 0, 1, 11] (by kernel_rfl) (by decide) rfl⟩
 ·
  refine st_skip (fin_then (st_seq ?_))
  refine st_region (oFs 0 10) (by rfl) ?_
  refine oq [oF 0] [(26, vP y 0), (9, vI x9), (8, vI x8), (6, vP r 0), (5, vP b3 0), (3, vP y 0)] ?_
  refine oM 27 7 0 ?_
  refine oMA 28 5 0 2 ?_
  have d4 : RepL R_api_Comp bx bz ([(api_Comp.mk s t)] : List api_Comp) ([vI s, sl k t m]) := (RepL.cons (R := R_api_Comp) (F := bx) (w := bz) (vs := [vI s, sl k t m]) (ys := []) (enc_api_Comp ar) RepL.nil)
  refine oB 29 [vI s, sl k t m] 42 1 2 (fun cw => ?_)
  refine ops_ex (σ := (Nat → Prop) × World) (I := fun x_ => Ext w0 bx bz x_.1 x_.2 ∧ RdS R_api_Kind x_.1 x_.2 B C x5) (M' := fun x_ => Mem w0 (orow (sa cw) ([(api_Comp.mk s t)] : List api_Comp).length 1 42 2 ([vI s, sl k t m]) :: ow g A j 3 1 ab :: ow av E c 61 3 aa :: cc :: .blk r [.slice none 0 0, .slice none 0 0, .slice none 0 0] 26 :: .blk b3 [vI s, sl k t m] 42 :: .blk b2 [vI X, vI Y] 29 :: .blk y [sl B x5 C, sl g A j, sl av E c] 26 :: Fz x_.1 x_.2 :: cs)) (fun U p => ?_) ?_
  · obtain ⟨F_, h1_, h2_, h3_⟩ := (p.pick 10 [1, 9, 0, 2, 3, 4, 5, 6, 7, 8] (by kernel_rfl) (by decide) rfl : Mem w0 (ow B x5 C 86 2 eo :: Fz bx bz :: orow (sa cw) ([(api_Comp.mk s t)] : List api_Comp).length 1 42 2 ([vI s, sl k t m]) :: ow g A j 3 1 ab :: ow av E c 61 3 aa :: cc :: .blk r [.slice none 0 0, .slice none 0 0, .slice none 0 0] 26 :: .blk b3 [vI s, sl k t m] 42 :: .blk b2 [vI X, vI Y] 29 :: .blk y [sl B x5 C, sl g A j, sl av E c] 26 :: cs) U).freeze (z := 2) e8 rfl rfl
    exact ⟨(F_, U), ⟨h1_, h2_⟩, h3_.pick 9 [1, 2, 3, 4, 5, 6, 7, 8, 0] (by kernel_rfl) (by decide) rfl⟩
  rintro ⟨cu, cv⟩ ⟨a4, bg⟩
  have a4 : Ext w0 bx bz cu cv := a4
  have bg : RdS R_api_Kind cu cv B C x5 := bg
  have d4 := d4.ext a4
  have b0 := b0.ext a4
  have b5 := b5.ext a4
  have ar := ar.ext a4
  refine ops_ex (σ := (Nat → Prop) × World) (I := fun x_ => Ext w0 cu cv x_.1 x_.2 ∧ RdS R_api_Comp x_.1 x_.2 (sa cw) 1 ([(api_Comp.mk s t)] : List api_Comp)) (M' := fun x_ => Mem w0 (ow g A j 3 1 ab :: ow av E c 61 3 aa :: cc :: .blk r [.slice none 0 0, .slice none 0 0, .slice none 0 0] 26 :: .blk b3 [vI s, sl k t m] 42 :: .blk b2 [vI X, vI Y] 29 :: .blk y [sl B x5 C, sl g A j, sl av E c] 26 :: Fz x_.1 x_.2 :: cs)) (fun U p => ?_) ?_
  · obtain ⟨F_, h1_, h2_, h3_⟩ := (p.pick 9 [0, 8, 1, 2, 3, 4, 5, 6, 7] (by kernel_rfl) (by decide) rfl : Mem w0 (orow (sa cw) ([(api_Comp.mk s t)] : List api_Comp).length 1 42 2 ([vI s, sl k t m]) :: Fz cu cv :: ow g A j 3 1 ab :: ow av E c 61 3 aa :: cc :: .blk r [.slice none 0 0, .slice none 0 0, .slice none 0 0] 26 :: .blk b3 [vI s, sl k t m] 42 :: .blk b2 [vI X, vI Y] 29 :: .blk y [sl B x5 C, sl g A j, sl av E c] 26 :: cs) U).freeze (z := 2) d4 rfl rfl
    exact ⟨(F_, U), ⟨h1_, h2_⟩, h3_.pick 8 [1, 2, 3, 4, 5, 6, 7, 0] (by kernel_rfl) (by decide) rfl⟩
  rintro ⟨el, em⟩ ⟨a5, cx⟩
  have a5 : Ext w0 cu cv el em := a5
  have cx : RdS R_api_Comp el em (sa cw) 1 ([(api_Comp.mk s t)] : List api_Comp) := cx
  have bg := bg.ext a5
  have b0 := b0.ext a5
  have b5 := b5.ext a5
  have ar := ar.ext a5
  obtain ⟨T, b8, ez, hp⟩ := obind2 hp
  refine oV (some 30) 8 [7, 0, 1, 2, 3, 4, 5, 6] 9 [0, 2, 3, 4, 5, 6, 7, 8, 1] (fun _ p => world_Fit_ok p bg cx ez) ?_
  rintro ⟨af, M, al, G, H⟩ ⟨en, b7⟩
  have cx := cx.ext b7
  have bg := bg.ext b7
  have b0 := b0.ext b7
  have b5 := b5.ext b7
  have ar := ar.ext b7
  refine oq (oFs 5 5) [(9, vI b8), (10, sl af T M), (8, vI x8), (6, vP r 0), (5, vP b3 0), (3, vP y 0)] ?_
  refine ops_nil (fin_then (st_seq (st_seq (st_region [oF 0, oF 1] (by rfl) ?_))))
  refine oq [oF 0, oF 1] [(34, .bool (!(b8 == 0))), (9, vI b8), (10, sl af T M), (8, vI x8), (6, vP r 0), (5, vP b3 0), (3, vP y 0)] ?_
  refine ops_nil (fin_then ?_)
  refine sif hp (fun eu hp => ?_) (fun eu hp => ?_)
  ·
   refine st_seq ?_
   refine st_region (oFs 0 4) (by rfl) ?_
   refine oq [oF 0, oF 1] [(36, vI b8), (35, .agg #[.slice none 0 0, .slice none 0 0, .slice none 0 0]), (6, vP r 0)] ?_
   refine oS 4 0 [.slice none 0 0, .slice none 0 0, .slice none 0 0] ?_
   refine oq [oF 3] [(7, vI b8), (6, vP r 0)] ?_
   refine ops_nil (fin_then (st_ret (fin_ret_then ?_)))
   refine fnil 3 1 ?_
   refine fin_conv (l' := [(7, vI b8), (6, vP r 0)]) (M' := Mem w0 (ow none ([] : List api_Item) 0 61 3 [] :: (Sx.bundle []) :: ow none ([] : List Int) 0 3 1 [] :: ow af T M 42 2 al :: ow g A j 3 1 ab :: ow av E c 61 3 aa :: cc :: .blk r [.slice none 0 0, .slice none 0 0, .slice none 0 0] 26 :: .blk b3 [vI s, sl k t m] 42 :: .blk b2 [vI X, vI Y] 29 :: .blk y [sl B x5 C, sl g A j, sl av E c] 26 :: Fz G H :: cs)) rfl (fun U h => h.bnil.onil none 61 3) ?_
   obtain ⟨rfl, rfl, rfl, rfl⟩ := si4 hp
   refine fin_ret [.cell 6 26, .tmp 7] [.agg #[.slice none 0 0, sl none ([] : List Int) 0, sl none ([] : List api_Item) 0], vI b8] rfl rfl (fun U p => (.cell rfl (tr_run _ [.v (.slice none 0 0), .v (.slice none 0 0), .v (.slice none 0 0)] [ld r 0 (.slice none 0 0), ld r 1 (.slice none 0 0), ld r 2 (.slice none 0 0)] (.agg #[.slice none 0 0, .slice none 0 0, .slice none 0 0] : Value) _ _ (by kernel_rfl) ⟨p.cell 7 rfl rfl, p.cell 7 rfl rfl, p.cell 7 rfl rfl, rfl⟩) (.tmp rfl .nil))) (fun U p => ?_)
   exact ⟨(none, 0, none, 0, [], none, 0, [], (Sx.bundle []), G, H), ⟨(RdS.empty _), (RepL.nil (R := (Rep.int .i64))), (OwL.nil (O := O_api_Item_rrw)), (((b6.trans a4).trans a5).trans b7)⟩, rfl, p.pick 12 [2, 0, 1, 11] (by kernel_rfl) (by decide) rfl⟩
  ·
   refine st_skip (fin_then (st_seq ?_))
   refine st_region (oFs 0 5) (by rfl) ?_
   refine oq [oF 0] [(37, vP y 2), (10, sl af T M), (8, vI x8), (6, vP r 0), (5, vP b3 0), (3, vP y 0)] ?_
   refine oM 38 7 2 ?_
   refine oq [oF 2] [(39, vI x8), (38, sl av E c), (10, sl af T M), (6, vP r 0), (5, vP b3 0), (3, vP y 0)] ?_
   obtain ⟨q, e0, hp⟩ := obind hp
   obtain ⟨K, ck, d9⟩ := idx_some e0
   have d5 := (List.getElem?_eq_some_iff.1 d9).1
   refine ops_fact (fun U p => p.orowSome 2 rfl (Nat.lt_of_le_of_lt (Nat.zero_le _) d5)) ?_
   rintro ⟨a, rfl, -⟩
   obtain ⟨fy, ft, ap, a0, es, ew⟩ := OwL.open_ b5 d9
   obtain ⟨Z, V, a6, rfl, rfl, cf⟩ := odec_api_Item_rrw es
   have cl : ∀ (i : Nat) (u : Value), [vI q.Ent.N, vI q.Ent.Gen, sl Z q.Comps V][i]? = some u → aa[K * 3 + i]? = some u := fun i u hi => OwO.cell a0 hi
   refine ops_val (op := (.indexAddr 24 (.tmp 38) (.tmp 39))) (d := some 40) (v := vP a (K * 3)) ⟨by kernel_rfl⟩ (run_indexRow Tryz.underlying24 (z := 3) (by kernel_rfl) rfl rfl ck d5 rfl) ?_
   refine ops_conv (l' := [(40, vP a (K * 3)), (39, vI x8), (38, sl (sa a) E c), (10, sl af T M), (6, vP r 0), (5, vP b3 0), (3, vP y 0)]) (M' := Mem w0 (ow Z q.Comps V 42 2 a6 :: ow af T M 42 2 al :: ow g A j 3 1 ab :: ow (sa a) E c 61 3 aa :: ap :: .blk r [.slice none 0 0, .slice none 0 0, .slice none 0 0] 26 :: .blk b3 [vI s, sl k t m] 42 :: .blk b2 [vI X, vI Y] 29 :: .blk y [sl B x5 C, sl g A j, sl (sa a) E c] 26 :: Fz G H :: cs)) rfl (fun U h => (ew (h.pick 9 [3, 0, 1, 2, 4, 5, 6, 7, 8] (by kernel_rfl) (by decide) rfl)).pick 10 [1, 2, 3, 4, 0, 5, 6, 7, 8, 9] (by kernel_rfl) (by decide) rfl) ?_
   refine oq [oF 4] [(11, vP a (K * 3)), (10, sl af T M), (6, vP r 0), (5, vP b3 0), (3, vP y 0)] ?_
   refine ops_nil (fin_then (st_seq ?_))
   refine st_region_draw [oT 0, oT 1, oT 2, oT 3, oT 4, oT 5, oF 6, oT 7, oT 8, oT 9, oT 10, oT 11] (Mem w0 (ow Z q.Comps V 42 2 a6 :: ow af T M 42 2 al :: ow g A j 3 1 ab :: ow (sa a) E c 61 3 aa :: ap :: .blk r [.slice none 0 0, .slice none 0 0, .slice none 0 0] 26 :: .blk b3 [vI s, sl k t m] 42 :: .blk b2 [vI X, vI Y] 29 :: .blk y [sl B x5 C, sl g A j, sl (sa a) E c] 26 :: Fz G H :: cs)) (by kernel_rfl) (by kernel_rfl) (by kernel_rfl) (fun _ d _ _ _ h => by cases d <;> exact h) (M' := Mem w0 (ow Z q.Comps V 42 2 a6 :: ow af T M 42 2 al :: ow g A j 3 1 ab :: ow (sa a) E c 61 3 aa :: ap :: .blk r [.slice none 0 0, .slice none 0 0, .slice none 0 0] 26 :: .blk b3 [vI s, sl k t m] 42 :: .blk b2 [vI X, vI Y] 29 :: .blk y [sl B x5 C, sl g A j, sl (sa a) E c] 26 :: Fz G H :: cs)) (fun U p => ⟨p.drew, p.drew.sub (.cons_cons _ (.cons_cons _ (.cons_cons _ (.cons_cons _ (.cons_cons _ (.cons_cons _ (.cons_cons _ (.cons_cons _ (.cons_cons _ (.cons_cons _ (.refl _)))))))))))⟩) ?_
   refine oq (oTs 0 3) [(44, vP a (K * 3 + 2)), (11, vP a (K * 3)), (10, sl af T M), (6, vP r 0), (5, vP b3 0), (3, vP y 0)] ?_
   refine ops_load (d := some 45) (an := [.v (sl Z q.Comps V)]) (evs := [.load ⟨a, K * 3 + 2, none⟩ (sl Z q.Comps V)]) (v := sl Z q.Comps V) ⟨by kernel_rfl⟩ (fun U p => ⟨p.ocell 3 rfl (cl 2 _ rfl), rfl⟩) ?_
   refine oq [oT 4] [(46, vP b3 0), (45, sl Z q.Comps V), (11, vP a (K * 3)), (10, sl af T M), (6, vP r 0), (3, vP y 0)] ?_
   refine oL 47 6 0 ?_
   obtain ⟨ax, dw, e1, hp⟩ := obind2 hp
   refine ops_callI (σ := Unit) (d := some 48) (f := 53) (args := #[sl Z q.Comps V, vI s]) (v := (fun _ => .tuple #[vI ax, .bool dw])) (I := (fun _ => True)) (M' := (fun _ => Mem w0 (ow Z q.Comps V 42 2 a6 :: ow af T M 42 2 al :: ow g A j 3 1 ab :: ow (sa a) E c 61 3 aa :: ap :: .blk r [.slice none 0 0, .slice none 0 0, .slice none 0 0] 26 :: .blk b3 [vI s, sl k t m] 42 :: .blk b2 [vI X, vI Y] 29 :: .blk y [sl B x5 C, sl g A j, sl (sa a) E c] 26 :: Fz G H :: cs))) ⟨by kernel_rfl⟩ (fun U p hS => (@world_at_ok U U [] (fun b => b < U.heap.size) U Z V q.Comps s (Mem.fz0 U) (p.ordS 0 9 rfl rfl cf rfl rfl) ax dw e1).mono (by rintro e w' ⟨_, -, rfl, h'⟩; have h' : Mem U [] w' := h'.pick 1 [] (by kernel_rfl) (by decide) rfl; exact ⟨(), trivial, rfl, p.join h' rfl, (hS.step h'.below)⟩)) ?_
   rintro _ -
   refine oq (oTs 7 5) [(13, .bool dw), (12, vI ax), (11, vP a (K * 3)), (10, sl af T M), (6, vP r 0), (3, vP y 0)] ?_
   refine ops_nil (fin_then ?_)
   refine st_join1 (σ := (List api_Item) × (List Value) × Chunk × (Option Addr) × Nat × (List Value) × (List Value) × (List Value)) (L := fun x_ => match x_ with | (a3, cg, cd, a8, a9, c2, c3, c4) => [(3, vP y 0), (6, vP r 0)]) (N := fun x_ => match x_ with | (a3, cg, cd, a8, a9, c2, c3, c4) => Mem w0 (.blk y [sl B x5 C, sl g A j, sl (sa a) a3 c] 26 :: ow g A j 3 1 ab :: ow (sa a) a3 c 61 3 cg :: cd :: .blk r [sl a8 ([] : List api_Kind) a9, sl a8 ([] : List Int) a9, sl a8 ([] : List api_Item) a9] 26 :: ow a8 ([] : List api_Kind) a9 86 2 c2 :: ow a8 ([] : List Int) a9 3 1 c3 :: ow a8 ([] : List api_Item) a9 61 3 c4 :: Fz G H :: cs)) (I := fun x_ => match x_ with | (a3, cg, cd, a8, a9, c2, c3, c4) => ((world_Put_j1 x5 A) a3 = some (bu, ba, bb, cm)) ∧ (OwL O_api_Item_rrw G H a3 cg cd) ∧ (RepL R_api_Kind G H ([] : List api_Kind) c2) ∧ (RepL (Rep.int .i64) G H ([] : List Int) c3) ∧ (RepL R_api_Item G H ([] : List api_Item) c4)) ?_ ?_
   ·
    rintro ⟨a3, cg, cd, a8, a9, c2, c3, c4⟩ ⟨hp, e9, f0, f1, f2⟩
    unfold world_Put_j1 at hp
    refine st_seq ?_
    refine st_region (oFs 0 3) (by rfl) ?_
    refine oMA 74 0 0 3 ?_
    refine oS 4 0 [sl B x5 C, sl g A j, sl (sa a) a3 c] ?_
    refine oq [oF 2] [(7, vI 0), (6, vP r 0)] ?_
    refine ops_nil (fin_then (st_ret ?_))
    obtain ⟨rfl, rfl, rfl, rfl⟩ := si4 hp
    refine fin_ret [.cell 6 26, .tmp 7] [.agg #[sl B x5 C, sl g A j, sl (sa a) a3 c], vI 0] rfl rfl (fun U p => (.cell rfl (tr_run _ [.v (sl B x5 C), .v (sl g A j), .v (sl (sa a) a3 c)] [ld r 0 (sl B x5 C), ld r 1 (sl g A j), ld r 2 (sl (sa a) a3 c)] (.agg #[sl B x5 C, sl g A j, sl (sa a) a3 c] : Value) _ _ (by kernel_rfl) ⟨p.cell 4 rfl rfl, p.cell 4 rfl rfl, p.cell 4 rfl rfl, rfl⟩) (.tmp rfl .nil))) (fun U p => ?_)
    exact ⟨(B, C, g, j, ab, (sa a), c, cg, cd, G, H), ⟨bg, b0, e9, (((b6.trans a4).trans a5).trans b7)⟩, rfl, p.pick 9 [1, 2, 3, 8] (by kernel_rfl) (by decide) rfl⟩
   ·
    intro dx
    refine st_seq (st_seq (st_region [oF 0] (by rfl) ?_))
    refine oq [oF 0] [(51, .bool dw), (12, vI ax), (11, vP a (K * 3)), (10, sl af T M), (6, vP r 0), (3, vP y 0)] ?_
    refine ops_nil (fin_then ?_)
    refine sif hp (fun ev hp => ?_) (fun ev hp => ?_)
    ·
     refine st_region_draw [oT 0, oT 1, oT 2, oT 3, oT 4, oT 5, oT 6, oT 7, oT 8, oF 9] (Mem w0 (ow af T M 42 2 al :: ow g A j 3 1 ab :: ow (sa a) E c 61 3 aa :: ap :: .blk r [.slice none 0 0, .slice none 0 0, .slice none 0 0] 26 :: .blk b3 [vI s, sl k t m] 42 :: .blk b2 [vI X, vI Y] 29 :: .blk y [sl B x5 C, sl g A j, sl (sa a) E c] 26 :: Fz G H :: cs)) (by kernel_rfl) (by kernel_rfl) (by kernel_rfl) (fun _ d _ _ _ h => by cases d <;> exact h) (M' := Mem w0 (ow Z q.Comps V 42 2 a6 :: ow af T M 42 2 al :: ow g A j 3 1 ab :: ow (sa a) E c 61 3 aa :: ap :: .blk r [.slice none 0 0, .slice none 0 0, .slice none 0 0] 26 :: .blk b3 [vI s, sl k t m] 42 :: .blk b2 [vI X, vI Y] 29 :: .blk y [sl B x5 C, sl g A j, sl (sa a) E c] 26 :: Fz G H :: cs)) (fun U p => ⟨p.drew, p.drew.sub (.cons _ (.cons_cons _ (.cons_cons _ (.cons_cons _ (.cons_cons _ (.cons_cons _ (.cons_cons _ (.cons_cons _ (.cons_cons _ (.cons_cons _ (.refl _)))))))))))⟩) ?_
     refine oq (oTs 0 3) [(54, vP a (K * 3 + 2)), (12, vI ax), (10, sl af T M), (6, vP r 0), (3, vP y 0)] ?_
     refine ops_load (d := some 55) (an := [.v (sl Z q.Comps V)]) (evs := [.load ⟨a, K * 3 + 2, none⟩ (sl Z q.Comps V)]) (v := sl Z q.Comps V) ⟨by kernel_rfl⟩ (fun U p => ⟨p.ocell 2 rfl (cl 2 _ rfl), rfl⟩) ?_
     refine oq [oT 4, oT 5] [(57, sl af T M), (56, vI ax), (55, sl Z q.Comps V), (6, vP r 0), (3, vP y 0)] ?_
     obtain ⟨aq, e2, hp⟩ := obind hp
     obtain ⟨cy, ex, ea⟩ := idx_some e2
     have d6 := (List.getElem?_eq_some_iff.1 ea).1
     refine ops_fact (fun U p => p.orowSome 1 rfl (Nat.lt_of_le_of_lt (Nat.zero_le _) d6)) ?_
     rintro ⟨ce, rfl, -⟩
     obtain ⟨fz, hr89, d8⟩ := en.at_ cy aq ea
     obtain ⟨be, bf, rfl, fa⟩ := dec_api_Comp hr89
     refine ops_val (op := (.indexAddr 27 (.tmp 57) (.const (Go.Value.int Go.IntKind.i64 0)))) (d := some 58) (v := vP ce (cy * 2)) ⟨by kernel_rfl⟩ (run_indexRow Tryz.underlying27 (z := 2) (by kernel_rfl) rfl rfl ex d6 rfl) ?_
     refine oq [] [(58, vP ce (cy * 2)), (56, vI ax), (55, sl Z q.Comps V), (6, vP r 0), (3, vP y 0)] ?_
     refine ops_load (d := some 59) (an := [.v (vI aq.Kind), .v (sl be aq.Vals bf)]) (evs := [.load ⟨ce, cy * 2, none⟩ (vI aq.Kind), .load ⟨ce, cy * 2 + 1, none⟩ (sl be aq.Vals bf)]) (v := .agg #[vI aq.Kind, sl be aq.Vals bf]) ⟨by kernel_rfl⟩ (fun U p => ⟨p.ocell 0 rfl (d8 0 _ rfl), p.ocell 0 rfl (d8 1 _ rfl), rfl⟩) ?_
     refine oq [] [(59, .agg #[vI aq.Kind, sl be aq.Vals bf]), (56, vI ax), (55, sl Z q.Comps V), (6, vP r 0), (3, vP y 0)] ?_
     obtain ⟨fc, e3, hp⟩ := obind hp
     obtain ⟨bc, d7, dr⟩ := idx_some e3
     have de := (List.getElem?_eq_some_iff.1 dr).1
     refine ops_fact (fun U p => p.orowSome 0 rfl (Nat.lt_of_le_of_lt (Nat.zero_le _) de)) ?_
     rintro ⟨a7, rfl, -⟩
     obtain ⟨fp, hr102, fl⟩ := cf.at_ bc fc dr
     obtain ⟨fr, fu, rfl, fw⟩ := dec_api_Comp hr102
     refine ops_val (op := (.indexAddr 27 (.tmp 55) (.tmp 56))) (d := some 60) (v := vP a7 (bc * 2)) ⟨by kernel_rfl⟩ (run_indexRow Tryz.underlying27 (z := 2) (by kernel_rfl) rfl rfl d7 de rfl) ?_
     refine oq [] [(60, vP a7 (bc * 2)), (59, .agg #[vI aq.Kind, sl be aq.Vals bf]), (6, vP r 0), (3, vP y 0)] ?_
     obtain ⟨bd, eg, hp⟩ := obind hp
     obtain ⟨e4, fg, df, da⟩ := upd_some eg
     obtain rfl : bc = e4 := by have := d7; omega
     have dg : q.Comps.length = bd.length := by rw [da, List.length_set]
     obtain ⟨eb, dt⟩ : ∃ y_, setAll a6 (bc * 2 + 0) [vI aq.Kind, sl be aq.Vals bf] = y_ := ⟨_, rfl⟩
     have ep : RepL R_api_Comp G H bd eb := by rw [da, ← dt]; exact RepL.set cf (List.getElem?_eq_getElem df) (fun vs_ hr_ _ => by obtain ⟨fs, fv, rfl, fx⟩ := dec_api_Comp hr_; exact ⟨(enc_api_Comp fa), Nat.le_of_ble_eq_true rfl⟩)
     refine ops_store (an := []) (evs := [.store ⟨a7, bc * 2, none⟩ (vI aq.Kind), .store ⟨a7, bc * 2 + 1, none⟩ (sl be aq.Vals bf)]) ⟨by kernel_rfl⟩ (fun U p hS => let ⟨w', he, h'⟩ := p.ostore' 0 rfl (bc * 2 + 0) [vI aq.Kind, sl be aq.Vals bf] (by have z_ : a6.length = q.Comps.length * 2 := cf.len; have y_ : (bc + 1) * 2 ≤ q.Comps.length * 2 := Nat.mul_le_mul_right _ df; rw [Nat.add_mul] at y_; simp only [List.length_cons, List.length_nil]; omega) dg dt; ⟨w', he, h', (by exact h'.sub (.cons _ (.cons_cons _ (.cons_cons _ (.cons_cons _ (.cons_cons _ (.cons_cons _ (.cons_cons _ (.cons_cons _ (.cons_cons _ (.cons_cons _ (.refl _))))))))))))⟩) ?_
     have dl : OwO O_api_Item_rrw G H E K aa [vI q.Ent.N, vI q.Ent.Gen, sl (sa a7) bd V] ap := by first | exact a0 | ((try dsimp only [sl, ow]); rw [← dg]; exact a0)
     have fm : ∀ (i : Nat) (u : Value), [vI q.Ent.N, vI q.Ent.Gen, sl (sa a7) bd V][i]? = some u → aa[K * 3 + i]? = some u := fun i u hi => OwO.cell dl hi
     refine oq [] [(6, vP r 0), (3, vP y 0)] ?_
     refine ops_nil ?_
     obtain ⟨cn, eh, hp⟩ := obind hp
     obtain ⟨e5, fh, fd, db⟩ := upd_some eh
     obtain rfl : K = e5 := by have := ck; omega
     have dh : E.length = cn.length := by rw [db, List.length_set]
     obtain ⟨c5, d0, ec⟩ := OwO.close (x := (api_Item.mk (api_Ent.mk q.Ent.N q.Ent.Gen) bd)) (Kx := [ow (sa a7) bd V 42 2 eb]) dl (oenc_api_Item_rrw ep)
     rw [← db] at d0
     refine fin_conv (l' := [(6, vP r 0), (3, vP y 0)]) (M' := Mem w0 (ow (sa ce) T M 42 2 al :: ow g A j 3 1 ab :: ow (sa a) E c 61 3 aa :: c5 :: .blk r [.slice none 0 0, .slice none 0 0, .slice none 0 0] 26 :: .blk b3 [vI s, sl k t m] 42 :: .blk b2 [vI X, vI Y] 29 :: .blk y [sl B x5 C, sl g A j, sl (sa a) E c] 26 :: Fz G H :: cs)) rfl (fun U h => (ec (h.pick 10 [4, 0, 1, 2, 3, 5, 6, 7, 8, 9] (by kernel_rfl) (by decide) rfl)).pick 9 [1, 2, 3, 0, 4, 5, 6, 7, 8] (by kernel_rfl) (by decide) rfl) ?_
     refine fin_conv (l' := [(6, vP r 0), (3, vP y 0)]) (M' := Mem w0 (ow (sa ce) T M 42 2 al :: ow g A j 3 1 ab :: ow (sa a) cn c 61 3 aa :: c5 :: .blk r [.slice none 0 0, .slice none 0 0, .slice none 0 0] 26 :: .blk b3 [vI s, sl k t m] 42 :: .blk b2 [vI X, vI Y] 29 :: .blk y [sl B x5 C, sl g A j, sl (sa a) cn c] 26 :: Fz G H :: cs)) (by first | rfl | ((try dsimp only [sl, ow]); rw [dh])) (fun U p => by first | exact p | ((try dsimp only [sl, ow] at p ⊢); rw [dh] at p; exact p)) ?_
     refine fnil 86 2 ?_
     refine fnil 3 1 ?_
     refine fnil 61 3 ?_
     exact fj dx (cn, aa, c5, none, 0, [], [], []) ⟨hp, d0, (RepL.nil (R := R_api_Kind)), (RepL.nil (R := (Rep.int .i64))), (RepL.nil (R := R_api_Item))⟩ 12 [10, 4, 5, 6, 7, 2, 1, 0, 11]
    ·
     obtain ⟨D, ei, hp⟩ := obind hp
     obtain ⟨J, dq, hp⟩ := obind hp
     refine st_region_treeF world_Put__t0 14 (.node [oT 0, oT 1, oT 2, oT 3, oT 5, oT 6, oT 7, oT 8] (.leaf [oF 4, oF 9, oF 10, oT 11, oT 12, oF 13]) (.leaf [oF 9, oF 4, oF 10, oT 11, oT 12, oF 13])) (Mem w0 (ow af T M 42 2 al :: ow g A j 3 1 ab :: ap :: .blk r [.slice none 0 0, .slice none 0 0, .slice none 0 0] 26 :: .blk b3 [vI s, sl k t m] 42 :: .blk b2 [vI X, vI Y] 29 :: .blk y [sl B x5 C, sl g A j, sl (sa a) E c] 26 :: Fz G H :: cs)) (by kernel_rfl) (by kernel_rfl) (by kernel_rfl) (by kernel_rfl) (by kernel_rfl) (fun _ d _ _ _ h => by cases d <;> exact h) (M' := Mem w0 (ow Z q.Comps V 42 2 a6 :: ow af T M 42 2 al :: ow g A j 3 1 ab :: ow (sa a) E c 61 3 aa :: ap :: .blk r [.slice none 0 0, .slice none 0 0, .slice none 0 0] 26 :: .blk b3 [vI s, sl k t m] 42 :: .blk b2 [vI X, vI Y] 29 :: .blk y [sl B x5 C, sl g A j, sl (sa a) E c] 26 :: Fz G H :: cs)) (fun U p => ⟨p.drew, p.drew.sub (.cons _ (.cons_cons _ (.cons_cons _ (.cons _ (.cons_cons _ (.cons_cons _ (.cons_cons _ (.cons_cons _ (.cons_cons _ (.cons_cons _ (.refl _)))))))))))⟩) ?_
     refine tree_node ?_
     refine oq [oT 0, oT 1, oT 2, oT 3, oT 5, oT 6] [(67, sl af T M), (66, vI ax), (64, vP a (K * 3 + 2)), (61, vP a (K * 3)), (6, vP r 0), (3, vP y 0)] ?_
     obtain ⟨cq, ed, ds⟩ := idx_some ei
     have di := (List.getElem?_eq_some_iff.1 ds).1
     refine ops_fact (fun U p => p.orowSome 1 rfl (Nat.lt_of_le_of_lt (Nat.zero_le _) di)) ?_
     rintro ⟨ao, rfl, -⟩
     obtain ⟨fq, hr156, dp⟩ := en.at_ cq D ds
     obtain ⟨au, aw, rfl, d1⟩ := dec_api_Comp hr156
     refine ops_val (op := (.indexAddr 27 (.tmp 67) (.const (Go.Value.int Go.IntKind.i64 0)))) (d := some 68) (v := vP ao (cq * 2)) ⟨by kernel_rfl⟩ (run_indexRow Tryz.underlying27 (z := 2) (by kernel_rfl) rfl rfl ed di rfl) ?_
     refine ops_load (d := some 69) (an := [.v (vI D.Kind), .v (sl au D.Vals aw)]) (evs := [.load ⟨ao, cq * 2, none⟩ (vI D.Kind), .load ⟨ao, cq * 2 + 1, none⟩ (sl au D.Vals aw)]) (v := .agg #[vI D.Kind, sl au D.Vals aw]) ⟨by kernel_rfl⟩ (fun U p => ⟨p.ocell 0 rfl (dp 0 _ rfl), p.ocell 0 rfl (dp 1 _ rfl), rfl⟩) ?_
     refine ops_nil ?_
     refine tree_both ?_ ?_
     ·
      refine tree_leaf ?_
      refine ops_mem (d := some 65) (an := [.v (sl Z q.Comps V)]) (evs := [.load ⟨a, K * 3 + 2, none⟩ (sl Z q.Comps V)]) (v := sl Z q.Comps V) ⟨by kernel_rfl⟩ (fun U p hS => ⟨U, ⟨p.ocell 3 rfl (cl 2 _ rfl), rfl⟩, p, hS⟩) ?_
      have eq : RepL R_api_Comp G H ([D] : List api_Comp) ([vI D.Kind, sl au D.Vals aw]) := (RepL.cons (R := R_api_Comp) (F := G) (w := H) (vs := [vI D.Kind, sl au D.Vals aw]) (ys := []) (enc_api_Comp d1) RepL.nil)
      refine oBS 70 [vI D.Kind, sl au D.Vals aw] 42 1 2 (fun dy => ?_)
      refine ops_callI (σ := (Option Addr) × Nat × (List Value)) (d := some 71) (f := 58) (args := #[sl Z q.Comps V, vI ax, .slice (sa dy) ([D] : List api_Comp).length 1]) (v := (fun x_ => match x_ with | (ag, ai, a1) => sl ag J ai)) (I := (fun x_ => match x_ with | (ag, ai, a1) => (RepL R_api_Comp G H J a1))) (M' := (fun x_ => match x_ with | (ag, ai, a1) => Mem w0 (ow ag J ai 42 2 a1 :: ow (sa ao) T M 42 2 al :: ow g A j 3 1 ab :: ow (sa a) E c 61 3 aa :: ap :: .blk r [.slice none 0 0, .slice none 0 0, .slice none 0 0] 26 :: .blk b3 [vI s, sl k t m] 42 :: .blk b2 [vI X, vI Y] 29 :: .blk y [sl B x5 C, sl g A j, sl (sa a) E c] 26 :: Fz G H :: cs))) ⟨by kernel_rfl⟩ (fun U p hS => (slices_Insert_api_Comp_api_Comp_ok w0 U (ow (sa ao) T M 42 2 al :: ow g A j 3 1 ab :: ow (sa a) E c 61 3 aa :: ap :: .blk r [.slice none 0 0, .slice none 0 0, .slice none 0 0] 26 :: .blk b3 [vI s, sl k t m] 42 :: .blk b2 [vI X, vI Y] 29 :: .blk y [sl B x5 C, sl g A j, sl (sa a) E c] 26 :: cs) G H Z V q.Comps a6 ax (sa dy) 1 ([D] : List api_Comp) ([vI D.Kind, sl au D.Vals aw]) (p.pick 11 [1, 0, 10, 2, 3, 4, 5, 6, 7, 8, 9] (by kernel_rfl) (by decide) rfl) cf eq J dq).mono (by rintro e w' ⟨ag, ai, a1, c8, rfl, h'⟩; have h' : Mem w0 (ow ag J ai 42 2 a1 :: ow (sa ao) T M 42 2 al :: ow g A j 3 1 ab :: ow (sa a) E c 61 3 aa :: ap :: .blk r [.slice none 0 0, .slice none 0 0, .slice none 0 0] 26 :: .blk b3 [vI s, sl k t m] 42 :: .blk b2 [vI X, vI Y] 29 :: .blk y [sl B x5 C, sl g A j, sl (sa a) E c] 26 :: Fz G H :: cs) w' := (h'.pick 10 [0, 2, 3, 4, 5, 6, 7, 8, 9, 1] (by kernel_rfl) (by decide) rfl); exact ⟨(ag, ai, a1), c8, rfl, h', (by exact h'.sub (.cons _ (.cons_cons _ (.cons_cons _ (.cons _ (.cons_cons _ (.cons_cons _ (.cons_cons _ (.cons_cons _ (.cons_cons _ (.cons_cons _ (.refl _))))))))))))⟩)) ?_
      rintro ⟨ag, ai, a1⟩ c8
      refine oq [oT 11, oT 12] [(73, vP a (K * 3 + 2)), (71, sl ag J ai), (6, vP r 0), (3, vP y 0)] ?_
      obtain ⟨b9, du⟩ : ∃ y_, setAll aa (K * 3 + 2) [sl ag J ai] = y_ := ⟨_, rfl⟩
      have dm : OwO O_api_Item_rrw G H E K b9 [vI q.Ent.N, vI q.Ent.Gen, sl ag J ai] ap := by rw [← du]; exact OwO.put (us := [sl ag J ai]) (o := 2) a0 (Nat.le_of_ble_eq_true rfl)
      have fn : ∀ (i : Nat) (u : Value), [vI q.Ent.N, vI q.Ent.Gen, sl ag J ai][i]? = some u → b9[K * 3 + i]? = some u := fun i u hi => OwO.cell dm hi
      refine ops_store (an := []) (evs := [.store ⟨a, K * 3 + 2, none⟩ (sl ag J ai)]) ⟨by kernel_rfl⟩ (fun U p hS => let ⟨w', he, h'⟩ := p.ostore' 3 rfl (K * 3 + 2) [sl ag J ai] (by have z_ : aa.length = E.length * 3 := OwO.len a0; have y_ : (K + 1) * 3 ≤ E.length * 3 := Nat.mul_le_mul_right _ (OwO.lt a0); rw [Nat.add_mul] at y_; simp only [List.length_cons, List.length_nil]; omega) rfl du; ⟨w', he, h', (by exact h'.sub (.cons _ (.cons_cons _ (.cons_cons _ (.cons _ (.cons_cons _ (.cons_cons _ (.cons_cons _ (.cons_cons _ (.cons_cons _ (.cons_cons _ (.refl _))))))))))))⟩) ?_
      refine oq [] [(6, vP r 0), (3, vP y 0)] ?_
      refine ops_nil ?_
      obtain ⟨co, ej, hp⟩ := obind hp
      obtain ⟨e6, fi, fe, dc⟩ := upd_some ej
      obtain rfl : K = e6 := by have := ck; omega
      have dj : E.length = co.length := by rw [dc, List.length_set]
      obtain ⟨c6, d2, ee⟩ := OwO.close (x := (api_Item.mk (api_Ent.mk q.Ent.N q.Ent.Gen) J)) (Kx := [ow ag J ai 42 2 a1]) dm (oenc_api_Item_rrw c8)
      rw [← dc] at d2
      refine fin_conv (l' := [(6, vP r 0), (3, vP y 0)]) (M' := Mem w0 (ow (sa ao) T M 42 2 al :: ow g A j 3 1 ab :: ow (sa a) E c 61 3 b9 :: c6 :: .blk r [.slice none 0 0, .slice none 0 0, .slice none 0 0] 26 :: .blk b3 [vI s, sl k t m] 42 :: .blk b2 [vI X, vI Y] 29 :: .blk y [sl B x5 C, sl g A j, sl (sa a) E c] 26 :: Fz G H :: cs)) rfl (fun U h => (ee (h.pick 10 [4, 0, 1, 2, 3, 5, 6, 7, 8, 9] (by kernel_rfl) (by decide) rfl)).pick 9 [1, 2, 3, 0, 4, 5, 6, 7, 8] (by kernel_rfl) (by decide) rfl) ?_
      refine fin_conv (l' := [(6, vP r 0), (3, vP y 0)]) (M' := Mem w0 (ow (sa ao) T M 42 2 al :: ow g A j 3 1 ab :: ow (sa a) co c 61 3 b9 :: c6 :: .blk r [.slice none 0 0, .slice none 0 0, .slice none 0 0] 26 :: .blk b3 [vI s, sl k t m] 42 :: .blk b2 [vI X, vI Y] 29 :: .blk y [sl B x5 C, sl g A j, sl (sa a) co c] 26 :: Fz G H :: cs)) (by first | rfl | ((try dsimp only [sl, ow]); rw [dj])) (fun U p => by first | exact p | ((try dsimp only [sl, ow] at p ⊢); rw [dj] at p; exact p)) ?_
      refine fnil 86 2 ?_
      refine fnil 3 1 ?_
      refine fnil 61 3 ?_
      exact fj dx (co, b9, c6, none, 0, [], [], []) ⟨hp, d2, (RepL.nil (R := R_api_Kind)), (RepL.nil (R := (Rep.int .i64))), (RepL.nil (R := R_api_Item))⟩ 12 [10, 4, 5, 6, 7, 2, 1, 0, 11]
     ·
      refine tree_leaf ?_
      have er : RepL R_api_Comp G H ([D] : List api_Comp) ([vI D.Kind, sl au D.Vals aw]) := (RepL.cons (R := R_api_Comp) (F := G) (w := H) (vs := [vI D.Kind, sl au D.Vals aw]) (ys := []) (enc_api_Comp d1) RepL.nil)
      refine oBS 70 [vI D.Kind, sl au D.Vals aw] 42 1 2 (fun dz => ?_)
      refine ops_mem (d := some 65) (an := [.v (sl Z q.Comps V)]) (evs := [.load ⟨a, K * 3 + 2, none⟩ (sl Z q.Comps V)]) (v := sl Z q.Comps V) ⟨by kernel_rfl⟩ (fun U p hS => ⟨U, ⟨p.ocell 4 rfl (cl 2 _ rfl), rfl⟩, p, hS⟩) ?_
      refine ops_callI (σ := (Option Addr) × Nat × (List Value)) (d := some 71) (f := 58) (args := #[sl Z q.Comps V, vI ax, .slice (sa dz) ([D] : List api_Comp).length 1]) (v := (fun x_ => match x_ with | (ah, aj, a2) => sl ah J aj)) (I := (fun x_ => match x_ with | (ah, aj, a2) => (RepL R_api_Comp G H J a2))) (M' := (fun x_ => match x_ with | (ah, aj, a2) => Mem w0 (ow ah J aj 42 2 a2 :: ow (sa ao) T M 42 2 al :: ow g A j 3 1 ab :: ow (sa a) E c 61 3 aa :: ap :: .blk r [.slice none 0 0, .slice none 0 0, .slice none 0 0] 26 :: .blk b3 [vI s, sl k t m] 42 :: .blk b2 [vI X, vI Y] 29 :: .blk y [sl B x5 C, sl g A j, sl (sa a) E c] 26 :: Fz G H :: cs))) ⟨by kernel_rfl⟩ (fun U p hS => (slices_Insert_api_Comp_api_Comp_ok w0 U (ow (sa ao) T M 42 2 al :: ow g A j 3 1 ab :: ow (sa a) E c 61 3 aa :: ap :: .blk r [.slice none 0 0, .slice none 0 0, .slice none 0 0] 26 :: .blk b3 [vI s, sl k t m] 42 :: .blk b2 [vI X, vI Y] 29 :: .blk y [sl B x5 C, sl g A j, sl (sa a) E c] 26 :: cs) G H Z V q.Comps a6 ax (sa dz) 1 ([D] : List api_Comp) ([vI D.Kind, sl au D.Vals aw]) (p.pick 11 [1, 0, 10, 2, 3, 4, 5, 6, 7, 8, 9] (by kernel_rfl) (by decide) rfl) cf er J dq).mono (by rintro e w' ⟨ah, aj, a2, c9, rfl, h'⟩; have h' : Mem w0 (ow ah J aj 42 2 a2 :: ow (sa ao) T M 42 2 al :: ow g A j 3 1 ab :: ow (sa a) E c 61 3 aa :: ap :: .blk r [.slice none 0 0, .slice none 0 0, .slice none 0 0] 26 :: .blk b3 [vI s, sl k t m] 42 :: .blk b2 [vI X, vI Y] 29 :: .blk y [sl B x5 C, sl g A j, sl (sa a) E c] 26 :: Fz G H :: cs) w' := (h'.pick 10 [0, 2, 3, 4, 5, 6, 7, 8, 9, 1] (by kernel_rfl) (by decide) rfl); exact ⟨(ah, aj, a2), c9, rfl, h', (by exact h'.sub (.cons _ (.cons_cons _ (.cons_cons _ (.cons _ (.cons_cons _ (.cons_cons _ (.cons_cons _ (.cons_cons _ (.cons_cons _ (.cons_cons _ (.refl _))))))))))))⟩)) ?_
      rintro ⟨ah, aj, a2⟩ c9
      refine oq [oT 11, oT 12] [(73, vP a (K * 3 + 2)), (71, sl ah J aj), (6, vP r 0), (3, vP y 0)] ?_
      obtain ⟨ca, dv⟩ : ∃ y_, setAll aa (K * 3 + 2) [sl ah J aj] = y_ := ⟨_, rfl⟩
      have dn : OwO O_api_Item_rrw G H E K ca [vI q.Ent.N, vI q.Ent.Gen, sl ah J aj] ap := by rw [← dv]; exact OwO.put (us := [sl ah J aj]) (o := 2) a0 (Nat.le_of_ble_eq_true rfl)
      have fo : ∀ (i : Nat) (u : Value), [vI q.Ent.N, vI q.Ent.Gen, sl ah J aj][i]? = some u → ca[K * 3 + i]? = some u := fun i u hi => OwO.cell dn hi
      refine ops_store (an := []) (evs := [.store ⟨a, K * 3 + 2, none⟩ (sl ah J aj)]) ⟨by kernel_rfl⟩ (fun U p hS => let ⟨w', he, h'⟩ := p.ostore' 3 rfl (K * 3 + 2) [sl ah J aj] (by have z_ : aa.length = E.length * 3 := OwO.len a0; have y_ : (K + 1) * 3 ≤ E.length * 3 := Nat.mul_le_mul_right _ (OwO.lt a0); rw [Nat.add_mul] at y_; simp only [List.length_cons, List.length_nil]; omega) rfl dv; ⟨w', he, h', (by exact h'.sub (.cons _ (.cons_cons _ (.cons_cons _ (.cons _ (.cons_cons _ (.cons_cons _ (.cons_cons _ (.cons_cons _ (.cons_cons _ (.cons_cons _ (.refl _))))))))))))⟩) ?_
      refine oq [] [(6, vP r 0), (3, vP y 0)] ?_
      refine ops_nil ?_
      obtain ⟨cp, ek, hp⟩ := obind hp
      obtain ⟨e7, fk, ff, dd⟩ := upd_some ek
      obtain rfl : K = e7 := by have := ck; omega
      have dk : E.length = cp.length := by rw [dd, List.length_set]
      obtain ⟨c7, d3, ef⟩ := OwO.close (x := (api_Item.mk (api_Ent.mk q.Ent.N q.Ent.Gen) J)) (Kx := [ow ah J aj 42 2 a2]) dn (oenc_api_Item_rrw c9)
      rw [← dd] at d3
      refine fin_conv (l' := [(6, vP r 0), (3, vP y 0)]) (M' := Mem w0 (ow (sa ao) T M 42 2 al :: ow g A j 3 1 ab :: ow (sa a) E c 61 3 ca :: c7 :: .blk r [.slice none 0 0, .slice none 0 0, .slice none 0 0] 26 :: .blk b3 [vI s, sl k t m] 42 :: .blk b2 [vI X, vI Y] 29 :: .blk y [sl B x5 C, sl g A j, sl (sa a) E c] 26 :: Fz G H :: cs)) rfl (fun U h => (ef (h.pick 10 [4, 0, 1, 2, 3, 5, 6, 7, 8, 9] (by kernel_rfl) (by decide) rfl)).pick 9 [1, 2, 3, 0, 4, 5, 6, 7, 8] (by kernel_rfl) (by decide) rfl) ?_
      refine fin_conv (l' := [(6, vP r 0), (3, vP y 0)]) (M' := Mem w0 (ow (sa ao) T M 42 2 al :: ow g A j 3 1 ab :: ow (sa a) cp c 61 3 ca :: c7 :: .blk r [.slice none 0 0, .slice none 0 0, .slice none 0 0] 26 :: .blk b3 [vI s, sl k t m] 42 :: .blk b2 [vI X, vI Y] 29 :: .blk y [sl B x5 C, sl g A j, sl (sa a) cp c] 26 :: Fz G H :: cs)) (by first | rfl | ((try dsimp only [sl, ow]); rw [dk])) (fun U p => by first | exact p | ((try dsimp only [sl, ow] at p ⊢); rw [dk] at p; exact p)) ?_
      refine fnil 86 2 ?_
      refine fnil 3 1 ?_
      refine fnil 61 3 ?_
      exact fj dx (cp, ca, c7, none, 0, [], [], []) ⟨hp, d3, (RepL.nil (R := R_api_Kind)), (RepL.nil (R := (Rep.int .i64))), (RepL.nil (R := R_api_Item))⟩ 12 [10, 4, 5, 6, 7, 2, 1, 0, 11]
theorem tourref3_Flat_Put_ok {g : Int} {i : Int} {f : Int} {a : Option Addr} {b : Nat} {d : List Int} (o : Mem w0 (Fz F W :: cs) w) (q : RdS (Rep.int .i64) F W a b d) (m : tourref3_Flat_Put g i f d = some ()) : Calls Tryz.prog 26 #[.pointer none, .agg #[vI g, vI i], .agg #[vI f, sl a d b]] w (Post w0 (fun (_ : Unit) => True) (fun _ => vI 4) (fun _ => Fz F W :: cs)) := by
 unfold tourref3_Flat_Put at m
 refine sx_calls Tryz.func26 rfl (n := 39) (by kernel_rfl) (l := [(0, .pointer none), (1, .agg #[vI g, vI i]), (2, .agg #[vI f, sl a d b])]) rfl (by rfl) o ?_
 refine st_seq ?_
 refine st_region (oFs 0 3) (by rfl) ?_
 refine oN 4 [vI g, vI i] 29 (fun j => ?_)
 refine oN 5 [vI f, sl a d b] 42 (fun k => ?_)
 refine oq [oF 2] [(5, vP k 0), (4, vP j 0), (0, .pointer none)] ?_
 refine ops_nil (fin_then (st_seq (st_seq ?_)))
 refine st_region (oFs 0 4) (by rfl) ?_
 refine oq [oF 0] [(9, .pointer none), (5, vP k 0), (4, vP j 0), (0, .pointer none)] ?_
 refine oMA 10 1 0 2 ?_
 obtain ⟨_, p, m⟩ := obind m
 refine oV (some 11) 3 [2, 0, 1] 3 [1, 2, 0] (fun _ r => tourref3_Flat_Has_ok r p) ?_
 rintro _ -
 refine oq [oF 3] [(12, .bool true), (5, vP k 0), (4, vP j 0), (0, .pointer none)] ?_
 refine ops_nil (fin_then (st_true rfl (st_seq (st_region [oF 0] (by rfl) ?_))))
 refine oq [oF 0] [(6, vI 4)] ?_
 refine ops_nil (fin_then (st_ret (fin_ret_then ?_)))
 exact fr [6] () trivial 3 [2]
theorem tourlaw3_WorldChanges_3_ok {c : Nat} {j : Int} {k : Int} {d : Nat} {m : Int} {a : Option Addr} {b : Nat} {f : List Int} (p : Mem w0 (.blk c [vI j, vI k] 29 :: .blk d [vI m, sl a f b] 42 :: Fz F W :: cs) w) (g : RdS (Rep.int .i64) F W a b f) (o : tourlaw3_WorldChanges_3 j k m f = some ()) : Calls Tryz.prog 25 #[.pointer none, vP c 0, vP d 0] w (Post w0 (fun (_ : Unit) => (RdS (Rep.int .i64) F W a b f)) (fun _ => vI 4) (fun _ => .blk c [vI j, vI k] 29 :: .blk d [vI m, sl a f b] 42 :: Fz F W :: cs)) := by
 unfold tourlaw3_WorldChanges_3 at o
 refine sx_calls Tryz.func25 rfl (n := 9) (by kernel_rfl) (l := [(0, .pointer none), (1, vP c 0), (2, vP d 0)]) rfl (by rfl) p ?_
 refine st_seq (st_region [oF 0] (by rfl) ?_)
 refine oq [oF 0] [(0, .pointer none), (1, vP c 0), (2, vP d 0)] ?_
 refine ops_nil (fin_then (st_seq ?_))
 refine st_region (oFs 0 5) (by rfl) ?_
 refine oq [oF 0] [(5, .pointer none), (1, vP c 0), (2, vP d 0)] ?_
 refine oMA 6 0 0 2 ?_
 refine oMA 7 1 0 2 ?_
 obtain ⟨_, q, o⟩ := obind o
 refine oV (some 8) 3 [2, 0, 1] 3 [1, 2, 0] (fun _ r => tourref3_Flat_Put_ok r g q) ?_
 rintro _ -
 refine oq [oF 4] [(4, vI 4)] ?_
 refine ops_nil (fin_then (st_ret ?_))
 exact fr [4] () g 0 []
def tourref3_Flat_Put_v2__t0 : List Row := [⟨0, 67108864, 1⟩, ⟨1, 134217728, 67108864⟩, ⟨2, 268435456, 134217728⟩, ⟨4, 536870912, 268435456⟩, ⟨0, 1073741824, 16⟩, ⟨16, 2147483648, 1073741824⟩, ⟨40, 4294967296, 2684354560⟩, ⟨0, 8589934592, 32⟩, ⟨128, 17179869184, 8589934592⟩, ⟨0, 34359738368, 128⟩, ⟨0, 68719476736, 32⟩, ⟨1024, 137438953472, 68719476736⟩, ⟨2560, 274877906944, 171798691840⟩, ⟨8191, 0, 296352743424⟩]
theorem tourref3_Flat_Put_v2_ok {q : Nat} {j : Option Addr} {m : Nat} {s : List api_Kind} {b : Option Addr} {c : Nat} {g : List Int} {a6 : List Value} {a : Nat} {av : Array MapEntry} {au : Nat} {bm : List (Int × (Option (List (Int × (List Int)))))} {a1 : Chunk} {r : Int} {t : Int} {o : Int} {i : Option Addr} {k : Nat} {p : List Int} (cm : Mem w0 (.blk q [sl j s m, sl b g c, .map (some a)] 96 :: ow b g c 3 1 a6 :: .obj a (.map av au) :: a1 :: Fz F W :: cs) w) (bd : RdS R_api_Kind F W j m s) (be : RepL (Rep.int .i64) F W g a6) (bf : MapW (fun K : Int => Value.int .i64 K) (Own.mr (fun K : Int => Value.int .i64 K) (Rep.sl (Rep.int .i64)) false) false F W bm av au a1) (Y : RdS (Rep.int .i64) F W i k p) {a4 : Int} {a5 : List (Int × (Option (List (Int × (List Int)))))} (B : tourref3_Flat_Put_v2 s g bm r t o p = some (a4, a5)) : Calls Tryz.prog 26 #[vP q 0, .agg #[vI r, vI t], .agg #[vI o, sl i p k]] w (Post w0 (fun ((aj, af, ae, ai, V, X) : (List Value) × (Array MapEntry) × Nat × Chunk × (Nat → Prop) × World) => (RdS R_api_Kind V X j m s) ∧ (RepL (Rep.int .i64) V X g aj) ∧ (MapW (fun K : Int => Value.int .i64 K) (Own.mr (fun K : Int => Value.int .i64 K) (Rep.sl (Rep.int .i64)) false) false V X a5 af ae ai) ∧ (Ext w0 F W V X)) (fun (aj, af, ae, ai, V, X) => vI a4) (fun (aj, af, ae, ai, V, X) => .blk q [sl j s m, sl b g c, .map (some a)] 96 :: ow b g c 3 1 aj :: .obj a (.map af ae) :: ai :: Fz V X :: cs)) := by
 unfold tourref3_Flat_Put_v2 at B
 refine sx_calls Tryz.func26 rfl (n := 39) (by kernel_rfl) (l := [(0, vP q 0), (1, .agg #[vI r, vI t]), (2, .agg #[vI o, sl i p k])]) rfl (by rfl) cm ?_
 refine st_seq ?_
 refine st_region (oFs 0 3) (by rfl) ?_
 refine oN 4 [vI r, vI t] 29 (fun D => ?_)
 refine oN 5 [vI o, sl i p k] 42 (fun u => ?_)
 refine oq [oF 2] [(5, vP u 0), (4, vP D 0), (0, vP q 0)] ?_
 refine ops_nil (fin_then (st_seq (st_seq ?_)))
 refine st_region (oFs 0 4) (by rfl) ?_
 refine oq [oF 0] [(9, vP q 0), (5, vP u 0), (4, vP D 0), (0, vP q 0)] ?_
 refine oMA 10 1 0 2 ?_
 obtain ⟨x3, cn, B⟩ := obind B
 refine oV (some 11) 7 [2, 3, 4, 5, 6, 0, 1] 7 [5, 6, 0, 1, 2, 3, 4] (fun _ C => tourref3_Flat_Has_v2_ok C bd be bf cn) ?_
 rintro ⟨N, A, y, K8⟩ ⟨h9, ac, Z⟩
 refine oq [oF 3] [(12, .bool (!x3)), (5, vP u 0), (4, vP D 0), (0, vP q 0)] ?_
 refine ops_nil (fin_then ?_)
 refine sif B (fun bx B => ?_) (fun bx B => ?_)
 ·
  refine st_seq (st_region [oF 0] (by rfl) ?_)
  refine oq [oF 0] [(6, vI 4)] ?_
  refine ops_nil (fin_then (st_ret (fin_ret_then ?_)))
  obtain ⟨rfl, rfl⟩ := si2 B
  exact fr [6] (N, A, y, K8, F, W) ⟨h9, ac, Z, (Ext.refl _ _ _)⟩ 7 [2, 3, 4, 5, 6]
 ·
  refine st_skip (fin_then (st_seq ?_))
  refine st_region_draw [oT 0, oT 1, oT 2, oT 3, oT 4, oF 5, oF 6, oT 7, oT 8, oT 9, oT 10, oT 11] (Mem w0 (.blk u [vI o, sl i p k] 42 :: .blk D [vI r, vI t] 29 :: .blk q [sl j s m, sl b g c, .map (some a)] 96 :: ow b g c 3 1 N :: .obj a (.map A y) :: K8 :: Fz F W :: cs)) (by kernel_rfl) (by kernel_rfl) (by kernel_rfl) (fun _ d _ _ _ h => by cases d <;> exact h) (M' := Mem w0 (.blk u [vI o, sl i p k] 42 :: .blk D [vI r, vI t] 29 :: .blk q [sl j s m, sl b g c, .map (some a)] 96 :: ow b g c 3 1 N :: .obj a (.map A y) :: K8 :: Fz F W :: cs)) (fun G C => ⟨C.drew, C.drew.sub (.cons_cons _ (.cons_cons _ (.cons_cons _ (.cons_cons _ (.cons_cons _ (.cons_cons _ (.cons_cons _ (.refl _))))))))⟩) ?_
  refine oq (oTs 0 3) [(16, vP q 0), (5, vP u 0), (4, vP D 0), (0, vP q 0)] ?_
  refine oL 17 2 0 ?_
  refine oLA 18 0 0 2 ?_
  have cg : RepL R_api_Comp F W ([(api_Comp.mk o p)] : List api_Comp) ([vI o, sl i p k]) := (RepL.cons (R := R_api_Comp) (F := F) (w := W) (vs := [vI o, sl i p k]) (ys := []) (enc_api_Comp Y) RepL.nil)
  refine oBS 19 [vI o, sl i p k] 42 1 2 (fun ak => ?_)
  refine ops_ex (σ := (Nat → Prop) × World) (I := fun K => Ext w0 F W K.1 K.2 ∧ RdS R_api_Comp K.1 K.2 (sa ak) 1 ([(api_Comp.mk o p)] : List api_Comp)) (M' := fun K => Mem w0 (.blk u [vI o, sl i p k] 42 :: .blk D [vI r, vI t] 29 :: .blk q [sl j s m, sl b g c, .map (some a)] 96 :: ow b g c 3 1 N :: .obj a (.map A y) :: K8 :: Fz K.1 K.2 :: cs)) (fun G C => ?_) ?_
  · obtain ⟨F_, h1_, h2_, h3_⟩ := (C.pick 8 [0, 7, 1, 2, 3, 4, 5, 6] (by kernel_rfl) (by decide) rfl : Mem w0 (orow (sa ak) ([(api_Comp.mk o p)] : List api_Comp).length 1 42 2 ([vI o, sl i p k]) :: Fz F W :: .blk u [vI o, sl i p k] 42 :: .blk D [vI r, vI t] 29 :: .blk q [sl j s m, sl b g c, .map (some a)] 96 :: ow b g c 3 1 N :: .obj a (.map A y) :: K8 :: cs) G).freeze (z := 2) cg rfl rfl
    exact ⟨(F_, G), ⟨h1_, h2_⟩, h3_.pick 7 [1, 2, 3, 4, 5, 6, 0] (by kernel_rfl) (by decide) rfl⟩
  rintro ⟨am, an⟩ ⟨U, ag⟩
  have U : Ext w0 F W am an := U
  have ag : RdS R_api_Comp am an (sa ak) 1 ([(api_Comp.mk o p)] : List api_Comp) := ag
  have h9 := h9.ext U
  have Y := Y.ext U
  have ac := ac.ext U
  have Z := Z.ext U
  obtain ⟨cq, bc, B⟩ := obind B
  rcases cq with cr | aw
  ·
   have B := (sel_l B)
   refine ops_callI (σ := Nat × (Array MapEntry) × Nat × (Nat → Prop) × World) (d := some 20) (f := 9) (args := #[sl j s m, .slice (sa ak) ([(api_Comp.mk o p)] : List api_Comp).length 1]) (v := (fun K => match K with | (E, J, H, O, T) => .tuple #[.map (some E), vI 0])) (I := (fun K => match K with | (E, J, H, O, T) => (MapOK (fun K : Int => Value.int .i64 K) (Rep.sl (Rep.int .i64)) false O T cr J H) ∧ (Ext w0 am an O T))) (M' := (fun K => match K with | (E, J, H, O, T) => Mem w0 (.obj E (.map J H) :: .blk u [vI o, sl i p k] 42 :: .blk D [vI r, vI t] 29 :: .blk q [sl j s m, sl b g c, .map (some a)] 96 :: ow b g c 3 1 N :: .obj a (.map A y) :: K8 :: Fz O T :: cs))) ⟨by kernel_rfl⟩ (fun G C hS => (tourref3_FittedAll_ok w0 G (.blk u [vI o, sl i p k] 42 :: .blk D [vI r, vI t] 29 :: .blk q [sl j s m, sl b g c, .map (some a)] 96 :: ow b g c 3 1 N :: .obj a (.map A y) :: K8 :: cs) am an j m s (sa ak) 1 ([(api_Comp.mk o p)] : List api_Comp) (C.pick 7 [6, 0, 1, 2, 3, 4, 5] (by kernel_rfl) (by decide) rfl) h9 ag _ bc).mono (by intro e w' hq_; obtain ⟨E, J, H, O, T, ⟨bb, ad⟩, rfl, h'⟩ := (psel_l hq_); have h' : Mem w0 (.obj E (.map J H) :: .blk u [vI o, sl i p k] 42 :: .blk D [vI r, vI t] 29 :: .blk q [sl j s m, sl b g c, .map (some a)] 96 :: ow b g c 3 1 N :: .obj a (.map A y) :: K8 :: Fz O T :: cs) w' := (h'.pick 8 [0, 2, 3, 4, 5, 6, 7, 1] (by kernel_rfl) (by decide) rfl); exact ⟨(E, J, H, O, T), ⟨bb, ad⟩, rfl, h', (by first | exact (Mem.fzback h' 7 rfl ad).sub (.cons _ (.cons_cons _ (.cons_cons _ (.cons_cons _ (.cons_cons _ (.cons_cons _ (.cons_cons _ (.cons_cons _ (.refl _))))))))) | exact (Mem.fzback h' 7 rfl (U.trans ad)).sub (.cons _ (.cons_cons _ (.cons_cons _ (.cons_cons _ (.cons_cons _ (.cons_cons _ (.cons_cons _ (.cons_cons _ (.refl _))))))))))⟩)) ?_
   rintro ⟨E, J, H, O, T⟩ ⟨bb, ad⟩
   have ag := ag.ext ad
   have h9 := h9.ext ad
   have Y := Y.ext ad
   have ac := ac.ext ad
   have Z := Z.ext ad
   refine oq (oTs 7 5) [(8, vI 0), (7, .map (some E)), (5, vP u 0), (4, vP D 0), (0, vP q 0)] ?_
   refine ops_nil (fin_then (st_seq (st_seq (st_region [oF 0, oF 1] (by rfl) ?_))))
   refine oq [oF 0, oF 1] [(24, .bool false), (8, vI 0), (7, .map (some E)), (5, vP u 0), (4, vP D 0), (0, vP q 0)] ?_
   refine ops_nil (fin_then (st_false rfl (st_skip (fin_then (st_seq ?_)))))
   refine st_region_fast tourref3_Flat_Put_v2__t0 [oT 0, oT 1, oT 2, oT 3, oT 4, oT 5, oT 7, oT 8, oT 9, oT 10, oT 11, oT 12, oF 6, oF 13] (Mem w0 (.obj E (.map J H) :: .blk u [vI o, sl i p k] 42 :: .blk D [vI r, vI t] 29 :: .blk q [sl j s m, sl b g c, .map (some a)] 96 :: ow b g c 3 1 N :: Fz O T :: cs)) (by kernel_rfl) (by kernel_rfl) (by kernel_rfl) (by kernel_rfl) (by kernel_rfl) (fun _ d _ _ _ h => by cases d <;> exact h) (M' := Mem w0 (.obj E (.map J H) :: .blk u [vI o, sl i p k] 42 :: .blk D [vI r, vI t] 29 :: .blk q [sl j s m, sl b g c, .map (some a)] 96 :: ow b g c 3 1 N :: .obj a (.map A y) :: K8 :: Fz O T :: cs)) (fun G C => ⟨C.drew, C.drew.sub (.cons_cons _ (.cons_cons _ (.cons_cons _ (.cons_cons _ (.cons_cons _ (.cons _ (.cons _ (.cons_cons _ (.refl _)))))))))⟩) ?_
   refine oq (oTs 0 3) [(28, vP q 2), (7, .map (some E)), (5, vP u 0), (4, vP D 0)] ?_
   refine oL 29 3 2 ?_
   refine oq [oT 4] [(30, vP D 0), (29, .map (some a)), (7, .map (some E)), (5, vP u 0)] ?_
   refine oL 31 2 0 ?_
   refine oq [oT 7] [(33, vP u 0), (31, vI r), (29, .map (some a)), (7, .map (some E)), (5, vP u 0)] ?_
   refine oL 34 1 0 ?_
   refine oq [oT 9, oT 10] [(36, vP u 0), (35, .map (some E)), (34, vI o), (31, vI r), (29, .map (some a))] ?_
   refine oL 37 1 0 ?_
   obtain ⟨aq, b9, B⟩ := obind B
   obtain ⟨ce, hr33, hrun34⟩ := bb.get (KeyLaw.int Tryz.underlying3) Tryz.underlying37 o ([] : List Int) ((slrd (RdS.empty _))) (fun u_ => Tryz.zeroValue23 u_)
   have hr33 : (Rep.sl (Rep.int .i64)).rd O T aq ce := by rw [← Option.some.inj b9]; exact hr33
   obtain ⟨az, a2, rfl, ch⟩ := hr33
   refine ops_valS (op := (.lookup 37 (.tmp 35) (.tmp 37) false)) (d := some 38) (v := sl az aq a2) ⟨by kernel_rfl⟩ (fun o_ G C ho_ => run_lookupV rfl rfl (hrun34 false E G (C.mapAt 0 rfl)) o_ ho_) ?_
   refine oq [] [(38, sl az aq a2), (34, vI o), (31, vI r), (29, .map (some a))] ?_
   rcases oel_some B with ⟨ax, B⟩ | ⟨cz, ax, B⟩
   ·
    refine ops_law (op := (.lookup 94 (.tmp 29) (.tmp 31) false)) (d := some 32) (σ := Unit) (v := fun _ => .map none) (M' := fun _ => Mem w0 (.obj E (.map J H) :: .blk u [vI o, sl i p k] 42 :: .blk D [vI r, vI t] 29 :: .blk q [sl j s m, sl b g c, .map (some a)] 96 :: ow b g c 3 1 N :: .obj a (.map A y) :: K8 :: Fz O T :: cs)) ⟨by kernel_rfl⟩ (fun o_ G ho_ C hS => ⟨(), G, run_lookupV rfl rfl (MapW.lookNil (by exact fun h_ => h_.1) Z (KeyLaw.int Tryz.underlying3) Tryz.underlying94 ax (fun u_ => Tryz.zeroValue37 u_) false a G (C.mapAt 5 rfl)) o_ ho_, C, hS⟩) (fun _ => ?_)
    cases B
   ·
    have b0 := getD_some_some ax
    obtain ⟨cw, ct, bi, b7, bv, b4, hr47⟩ := MapW.look Z (KeyLaw.int Tryz.underlying3) Tryz.underlying94 b0
    obtain ⟨ao, bt, br, rfl, rfl, ci⟩ := bv
    refine ops_law (op := (.lookup 94 (.tmp 29) (.tmp 31) false)) (d := some 32) (σ := Unit) (v := fun _ => .map (some ao)) (M' := fun _ => Mem w0 (.obj E (.map J H) :: .blk u [vI o, sl i p k] 42 :: .blk D [vI r, vI t] 29 :: .blk q [sl j s m, sl b g c, .map (some a)] 96 :: ow b g c 3 1 N :: .obj a (.map A y) :: K8 :: Fz O T :: cs)) ⟨by kernel_rfl⟩ (fun o_ G ho_ C hS => ⟨(), G, run_lookupV rfl rfl (hr47 false a G (C.mapAt 5 rfl)) o_ ho_, C, hS⟩) (fun _ => ?_)
    refine ops_conv (l' := [(32, .map (some ao)), (38, sl az aq a2), (34, vI o), (31, vI r), (29, .map (some a))]) (M' := Mem w0 (.obj ao (.map bt br) :: .obj E (.map J H) :: .blk u [vI o, sl i p k] 42 :: .blk D [vI r, vI t] 29 :: .blk q [sl j s m, sl b g c, .map (some a)] 96 :: ow b g c 3 1 N :: .obj a (.map A y) :: bi :: Fz O T :: cs)) rfl (fun G h => (b4 (h.pick 8 [6, 0, 1, 2, 3, 4, 5, 7] (by kernel_rfl) (by decide) rfl)).pick 9 [1, 2, 3, 4, 5, 6, 7, 0, 8] (by kernel_rfl) (by decide) rfl) ?_
    obtain ⟨co, ca, B⟩ := obind B
    obtain ⟨a9, a7, bn, hrun58⟩ := MapOK.update ci (KeyLaw.int Tryz.underlying3) Tryz.underlying37 o (v := aq) (vs := [sl az aq a2]) ((slrd ch))
    rw [Option.some.inj ca] at bn
    refine ops_unit (op := (.mapUpdate 37 (.tmp 32) (.tmp 34) (.tmp 38))) (σ := Unit) (M' := fun _ => Mem w0 (.obj ao (.map a9 a7) :: .obj E (.map J H) :: .blk u [vI o, sl i p k] 42 :: .blk D [vI r, vI t] 29 :: .blk q [sl j s m, sl b g c, .map (some a)] 96 :: ow b g c 3 1 N :: .obj a (.map A y) :: bi :: Fz O T :: cs)) ⟨by kernel_rfl⟩ (fun o_ G ho_ C hS => have h' := C.setObj 0 rfl _; ⟨(), _, run_updateV rfl rfl rfl (hrun58 ao G (C.mapAt 0 rfl)) o_ ho_, h', (by exact h'.sub (.cons _ (.cons_cons _ (.cons_cons _ (.cons_cons _ (.cons_cons _ (.cons_cons _ (.cons _ (.cons _ (.cons_cons _ (.refl _)))))))))))⟩) (fun _ => ?_)
    refine ops_nil (fin_then (st_seq (st_region [oF 0] (by rfl) ?_)))
    refine oq [oF 0] [(6, vI 0)] ?_
    refine ops_nil (fin_then (st_ret ?_))
    obtain ⟨c0, cb, B⟩ := obind B
    obtain ⟨bj, bo, b5⟩ := MapH.close (x := (some co)) (Kx := [.obj ao (.map a9 a7)]) b7 (⟨_, _, _, rfl, rfl, bn⟩)
    rw [Option.some.inj cb] at bo
    refine fin_conv (l' := [(6, vI 0)]) (M' := Mem w0 (.obj E (.map J H) :: .blk u [vI o, sl i p k] 42 :: .blk D [vI r, vI t] 29 :: .blk q [sl j s m, sl b g c, .map (some a)] 96 :: ow b g c 3 1 N :: .obj a (.map A y) :: bj :: Fz O T :: cs)) rfl (fun G h => (b5 (h.pick 9 [7, 0, 1, 2, 3, 4, 5, 6, 8] (by kernel_rfl) (by decide) rfl)).pick 8 [1, 2, 3, 4, 5, 6, 0, 7] (by kernel_rfl) (by decide) rfl) ?_
    obtain ⟨rfl, rfl⟩ := si2 B
    exact fr [6] (N, A, y, bj, O, T) ⟨h9, ac, bo, (U.trans ad)⟩ 8 [3, 4, 5, 6, 7]
  ·
   have B := (sel_r B)
   refine ops_callI (σ := (Nat → Prop) × World) (d := some 20) (f := 9) (args := #[sl j s m, .slice (sa ak) ([(api_Comp.mk o p)] : List api_Comp).length 1]) (v := (fun K => match K with | (L, M) => .tuple #[.map none, vI aw])) (I := (fun K => match K with | (L, M) => (Ext w0 am an L M))) (M' := (fun K => match K with | (L, M) => Mem w0 (.blk u [vI o, sl i p k] 42 :: .blk D [vI r, vI t] 29 :: .blk q [sl j s m, sl b g c, .map (some a)] 96 :: ow b g c 3 1 N :: .obj a (.map A y) :: K8 :: Fz L M :: cs))) ⟨by kernel_rfl⟩ (fun G C hS => (tourref3_FittedAll_ok w0 G (.blk u [vI o, sl i p k] 42 :: .blk D [vI r, vI t] 29 :: .blk q [sl j s m, sl b g c, .map (some a)] 96 :: ow b g c 3 1 N :: .obj a (.map A y) :: K8 :: cs) am an j m s (sa ak) 1 ([(api_Comp.mk o p)] : List api_Comp) (C.pick 7 [6, 0, 1, 2, 3, 4, 5] (by kernel_rfl) (by decide) rfl) h9 ag _ bc).mono (by intro e w' hq_; obtain ⟨L, M, ab, rfl, h'⟩ := (psel_r hq_); have h' : Mem w0 (.blk u [vI o, sl i p k] 42 :: .blk D [vI r, vI t] 29 :: .blk q [sl j s m, sl b g c, .map (some a)] 96 :: ow b g c 3 1 N :: .obj a (.map A y) :: K8 :: Fz L M :: cs) w' := (h'.pick 7 [1, 2, 3, 4, 5, 6, 0] (by kernel_rfl) (by decide) rfl); exact ⟨(L, M), ab, rfl, h', (by first | exact (Mem.fzback h' 6 rfl ab).sub (.cons_cons _ (.cons_cons _ (.cons_cons _ (.cons_cons _ (.cons_cons _ (.cons_cons _ (.cons_cons _ (.refl _)))))))) | exact (Mem.fzback h' 6 rfl (U.trans ab)).sub (.cons_cons _ (.cons_cons _ (.cons_cons _ (.cons_cons _ (.cons_cons _ (.cons_cons _ (.cons_cons _ (.refl _)))))))))⟩)) ?_
   rintro ⟨L, M⟩ ab
   have ag := ag.ext ab
   have h9 := h9.ext ab
   have Y := Y.ext ab
   have ac := ac.ext ab
   have Z := Z.ext ab
   refine oq (oTs 7 5) [(8, vI aw), (7, .map none), (5, vP u 0), (4, vP D 0), (0, vP q 0)] ?_
   refine ops_nil (fin_then (st_seq (st_seq (st_region [oF 0, oF 1] (by rfl) ?_))))
   refine oq [oF 0, oF 1] [(24, .bool (!(aw == 0))), (8, vI aw), (7, .map none), (5, vP u 0), (4, vP D 0), (0, vP q 0)] ?_
   refine ops_nil (fin_then ?_)
   refine sif B (fun bz B => ?_) (fun bz B => ?_)
   ·
    refine st_seq (st_region [oF 0, oF 1] (by rfl) ?_)
    refine oq [oF 0, oF 1] [(6, vI aw)] ?_
    refine ops_nil (fin_then (st_ret (fin_ret_then ?_)))
    obtain ⟨rfl, rfl⟩ := si2 B
    exact fr [6] (N, A, y, K8, L, M) ⟨h9, ac, Z, (U.trans ab)⟩ 7 [2, 3, 4, 5, 6]
   ·
    refine st_skip (fin_then (st_seq ?_))
    refine st_region_fast tourref3_Flat_Put_v2__t0 [oT 0, oT 1, oT 2, oT 3, oT 4, oT 5, oT 7, oT 8, oT 9, oT 10, oT 11, oT 12, oF 6, oF 13] (Mem w0 (.blk u [vI o, sl i p k] 42 :: .blk D [vI r, vI t] 29 :: .blk q [sl j s m, sl b g c, .map (some a)] 96 :: ow b g c 3 1 N :: Fz L M :: cs)) (by kernel_rfl) (by kernel_rfl) (by kernel_rfl) (by kernel_rfl) (by kernel_rfl) (fun _ d _ _ _ h => by cases d <;> exact h) (M' := Mem w0 (.blk u [vI o, sl i p k] 42 :: .blk D [vI r, vI t] 29 :: .blk q [sl j s m, sl b g c, .map (some a)] 96 :: ow b g c 3 1 N :: .obj a (.map A y) :: K8 :: Fz L M :: cs)) (fun G C => ⟨C.drew, C.drew.sub (.cons_cons _ (.cons_cons _ (.cons_cons _ (.cons_cons _ (.cons _ (.cons _ (.cons_cons _ (.refl _))))))))⟩) ?_
    refine oq (oTs 0 3) [(28, vP q 2), (7, .map none), (5, vP u 0), (4, vP D 0)] ?_
    refine oL 29 2 2 ?_
    refine oq [oT 4] [(30, vP D 0), (29, .map (some a)), (7, .map none), (5, vP u 0)] ?_
    refine oL 31 1 0 ?_
    refine oq [oT 7] [(33, vP u 0), (31, vI r), (29, .map (some a)), (7, .map none), (5, vP u 0)] ?_
    refine oL 34 0 0 ?_
    refine oq [oT 9, oT 10] [(36, vP u 0), (35, .map none), (34, vI o), (31, vI r), (29, .map (some a))] ?_
    refine oL 37 0 0 ?_
    have cj : RdM (fun K : Int => Value.int .i64 K) (Rep.sl (Rep.int .i64)) false L M none none := rfl
    obtain ⟨ar, cc, B⟩ := obind B
    obtain ⟨cf, hr72, hrun73⟩ := cj.get (KeyLaw.int Tryz.underlying3) Tryz.underlying37 o ([] : List Int) ((slrd (RdS.empty _))) (fun u_ => Tryz.zeroValue23 u_)
    have hr72 : (Rep.sl (Rep.int .i64)).rd L M ar cf := by rw [← Option.some.inj cc]; exact hr72
    obtain ⟨a0, a3, rfl, ck⟩ := hr72
    refine ops_valS (op := (.lookup 37 (.tmp 35) (.tmp 37) false)) (d := some 38) (v := sl a0 ar a3) ⟨by kernel_rfl⟩ (fun o_ G C ho_ => run_lookupV rfl rfl (hrun73 false G (C.fz 4 rfl)) o_ ho_) ?_
    refine oq [] [(38, sl a0 ar a3), (34, vI o), (31, vI r), (29, .map (some a))] ?_
    rcases oel_some B with ⟨ay, B⟩ | ⟨c1, ay, B⟩
    ·
     refine ops_law (op := (.lookup 94 (.tmp 29) (.tmp 31) false)) (d := some 32) (σ := Unit) (v := fun _ => .map none) (M' := fun _ => Mem w0 (.blk u [vI o, sl i p k] 42 :: .blk D [vI r, vI t] 29 :: .blk q [sl j s m, sl b g c, .map (some a)] 96 :: ow b g c 3 1 N :: .obj a (.map A y) :: K8 :: Fz L M :: cs)) ⟨by kernel_rfl⟩ (fun o_ G ho_ C hS => ⟨(), G, run_lookupV rfl rfl (MapW.lookNil (by exact fun h_ => h_.1) Z (KeyLaw.int Tryz.underlying3) Tryz.underlying94 ay (fun u_ => Tryz.zeroValue37 u_) false a G (C.mapAt 4 rfl)) o_ ho_, C, hS⟩) (fun _ => ?_)
     cases B
    ·
     have b3 := getD_some_some ay
     obtain ⟨cx, cu, bk, b8, bw, b6, hr86⟩ := MapW.look Z (KeyLaw.int Tryz.underlying3) Tryz.underlying94 b3
     obtain ⟨ap, bu, bs, rfl, rfl, cl⟩ := bw
     refine ops_law (op := (.lookup 94 (.tmp 29) (.tmp 31) false)) (d := some 32) (σ := Unit) (v := fun _ => .map (some ap)) (M' := fun _ => Mem w0 (.blk u [vI o, sl i p k] 42 :: .blk D [vI r, vI t] 29 :: .blk q [sl j s m, sl b g c, .map (some a)] 96 :: ow b g c 3 1 N :: .obj a (.map A y) :: K8 :: Fz L M :: cs)) ⟨by kernel_rfl⟩ (fun o_ G ho_ C hS => ⟨(), G, run_lookupV rfl rfl (hr86 false a G (C.mapAt 4 rfl)) o_ ho_, C, hS⟩) (fun _ => ?_)
     refine ops_conv (l' := [(32, .map (some ap)), (38, sl a0 ar a3), (34, vI o), (31, vI r), (29, .map (some a))]) (M' := Mem w0 (.obj ap (.map bu bs) :: .blk u [vI o, sl i p k] 42 :: .blk D [vI r, vI t] 29 :: .blk q [sl j s m, sl b g c, .map (some a)] 96 :: ow b g c 3 1 N :: .obj a (.map A y) :: bk :: Fz L M :: cs)) rfl (fun G h => (b6 (h.pick 7 [5, 0, 1, 2, 3, 4, 6] (by kernel_rfl) (by decide) rfl)).pick 8 [1, 2, 3, 4, 5, 6, 0, 7] (by kernel_rfl) (by decide) rfl) ?_
     obtain ⟨cp, cd, B⟩ := obind B
     obtain ⟨ba, a8, bp, hrun97⟩ := MapOK.update cl (KeyLaw.int Tryz.underlying3) Tryz.underlying37 o (v := ar) (vs := [sl a0 ar a3]) ((slrd ck))
     rw [Option.some.inj cd] at bp
     refine ops_unit (op := (.mapUpdate 37 (.tmp 32) (.tmp 34) (.tmp 38))) (σ := Unit) (M' := fun _ => Mem w0 (.obj ap (.map ba a8) :: .blk u [vI o, sl i p k] 42 :: .blk D [vI r, vI t] 29 :: .blk q [sl j s m, sl b g c, .map (some a)] 96 :: ow b g c 3 1 N :: .obj a (.map A y) :: bk :: Fz L M :: cs)) ⟨by kernel_rfl⟩ (fun o_ G ho_ C hS => have h' := C.setObj 0 rfl _; ⟨(), _, run_updateV rfl rfl rfl (hrun97 ap G (C.mapAt 0 rfl)) o_ ho_, h', (by exact h'.sub (.cons _ (.cons_cons _ (.cons_cons _ (.cons_cons _ (.cons_cons _ (.cons _ (.cons _ (.cons_cons _ (.refl _))))))))))⟩) (fun _ => ?_)
     refine ops_nil (fin_then (st_seq (st_region [oF 0] (by rfl) ?_)))
     refine oq [oF 0] [(6, vI 0)] ?_
     refine ops_nil (fin_then (st_ret ?_))
     obtain ⟨cv, bh, B⟩ := obind B
     obtain ⟨bl, bq, bg⟩ := MapH.close (x := (some cp)) (Kx := [.obj ap (.map ba a8)]) b8 (⟨_, _, _, rfl, rfl, bp⟩)
     rw [Option.some.inj bh] at bq
     refine fin_conv (l' := [(6, vI 0)]) (M' := Mem w0 (.blk u [vI o, sl i p k] 42 :: .blk D [vI r, vI t] 29 :: .blk q [sl j s m, sl b g c, .map (some a)] 96 :: ow b g c 3 1 N :: .obj a (.map A y) :: bl :: Fz L M :: cs)) rfl (fun G h => (bg (h.pick 8 [6, 0, 1, 2, 3, 4, 5, 7] (by kernel_rfl) (by decide) rfl)).pick 7 [1, 2, 3, 4, 5, 0, 6] (by kernel_rfl) (by decide) rfl) ?_
     obtain ⟨rfl, rfl⟩ := si2 B
     exact fr [6] (N, A, y, bl, L, M) ⟨h9, ac, bq, (U.trans ab)⟩ 7 [2, 3, 4, 5, 6]
theorem tourlaw3_WorldChanges_3_v2_ok {x : Nat} {m : Option Addr} {r : Nat} {A : List api_Kind} {o : Option Addr} {s : Nat} {v : List Int} {J : List Value} {q : Nat} {z : Array MapEntry} {y : Nat} {T : List (Int × (Option (List (Int × (List Int)))))} {G : Chunk} {j : Nat} {B : Int} {C : Int} {k : Nat} {D : Int} {c : Option Addr} {d : Nat} {u : List Int} (aa : Mem w0 (.blk x [sl m A r, sl o v s, .map (some q)] 96 :: ow o v s 3 1 J :: .obj q (.map z y) :: G :: .blk j [vI B, vI C] 29 :: .blk k [vI D, sl c u d] 42 :: Fz F W :: cs) w) (K : RdS R_api_Kind F W m r A) (L : RepL (Rep.int .i64) F W v J) (M : MapW (fun E : Int => Value.int .i64 E) (Own.mr (fun E : Int => Value.int .i64 E) (Rep.sl (Rep.int .i64)) false) false F W T z y G) (i : RdS (Rep.int .i64) F W c d u) {H : Int} {I : List (Int × (Option (List (Int × (List Int)))))} (N : tourlaw3_WorldChanges_3_v2 A v T B C D u = some (H, I)) : Calls Tryz.prog 25 #[vP x 0, vP j 0, vP k 0] w (Post w0 (fun ((t, g, f, p, a, b) : (List Value) × (Array MapEntry) × Nat × Chunk × (Nat → Prop) × World) => (RdS R_api_Kind a b m r A) ∧ (RepL (Rep.int .i64) a b v t) ∧ (MapW (fun E : Int => Value.int .i64 E) (Own.mr (fun E : Int => Value.int .i64 E) (Rep.sl (Rep.int .i64)) false) false a b I g f p) ∧ (RdS (Rep.int .i64) a b c d u) ∧ (Ext w0 F W a b)) (fun (t, g, f, p, a, b) => vI H) (fun (t, g, f, p, a, b) => .blk x [sl m A r, sl o v s, .map (some q)] 96 :: ow o v s 3 1 t :: .obj q (.map g f) :: p :: .blk j [vI B, vI C] 29 :: .blk k [vI D, sl c u d] 42 :: Fz a b :: cs)) := by
 unfold tourlaw3_WorldChanges_3_v2 at N
 refine sx_calls Tryz.func25 rfl (n := 9) (by kernel_rfl) (l := [(0, vP x 0), (1, vP j 0), (2, vP k 0)]) rfl (by rfl) aa ?_
 refine st_seq (st_region [oF 0] (by rfl) ?_)
 refine oq [oF 0] [(0, vP x 0), (1, vP j 0), (2, vP k 0)] ?_
 refine ops_nil (fin_then (st_seq ?_))
 refine st_region (oFs 0 5) (by rfl) ?_
 refine oq [oF 0] [(5, vP x 0), (1, vP j 0), (2, vP k 0)] ?_
 refine oMA 6 4 0 2 ?_
 refine oMA 7 5 0 2 ?_
 obtain ⟨x1, x2, ab, N⟩ := obind2 N
 refine oV (some 8) 7 [0, 1, 2, 3, 6, 4, 5] 7 [0, 1, 2, 3, 5, 6, 4] (fun _ hM => tourref3_Flat_Put_v2_ok hM K L M i ab) ?_
 rintro ⟨y4, V, U, K7, F8, W9⟩ ⟨X, Y, Z, O⟩
 have i := i.ext O
 refine oq [oF 4] [(4, vI x1)] ?_
 refine ops_nil (fin_then (st_ret ?_))
 obtain ⟨rfl, rfl⟩ := si2 N
 exact fr [4] (y4, V, U, K7, F8, W9) ⟨X, Y, Z, i, O⟩ 0 []
theorem world_Drop_ok {ag : Option Addr} {ao : Nat} {a7 : List api_Kind} {ah : Option Addr} {ap : Nat} {a8 : List Int} {ai : Option Addr} {aq : Nat} {a9 : List api_Item} {K : Int} {L : Int} {k : Int} (ci : Mem w0 (Fz F W :: cs) w) (a2 : RdS R_api_Kind F W ag ao a7) (a3 : RdS (Rep.int .i64) F W ah ap a8) (a4 : RdS R_api_Item F W ai aq a9) {ar : List api_Kind} {au : List Int} {av : List api_Item} {be : Int} (M : world_Drop a7 a8 a9 K L k = some (ar, au, av, be)) : Calls Tryz.prog 31 #[.agg #[sl ag a7 ao, sl ah a8 ap, sl ai a9 aq], .agg #[vI K, vI L], vI k] w (Post w0 (fun ((ad, ak, aw, ae, al, ax, af, am, ay, aj, T, U) : (Option Addr) × Nat × (List Value) × (Option Addr) × Nat × (List Value) × (Option Addr) × Nat × (List Value) × Chunk × (Nat → Prop) × World) => (RepL R_api_Kind T U ar aw) ∧ (RepL (Rep.int .i64) T U au ax) ∧ (OwL O_api_Item_rrw T U av ay aj) ∧ (Ext w0 F W T U)) (fun (ad, ak, aw, ae, al, ax, af, am, ay, aj, T, U) => .tuple #[.agg #[sl ad ar ak, sl ae au al, sl af av am], vI be]) (fun (ad, ak, aw, ae, al, ax, af, am, ay, aj, T, U) => ow ad ar ak 86 2 aw :: ow ae au al 3 1 ax :: ow af av am 61 3 ay :: aj :: Fz T U :: cs)) := by
 unfold world_Drop at M
 refine sx_calls Tryz.func31 rfl (n := 52) (by kernel_rfl) (l := [(0, .agg #[sl ag a7 ao, sl ah a8 ap, sl ai a9 aq]), (1, .agg #[vI K, vI L]), (2, vI k)]) rfl (by rfl) ci ?_
 refine st_seq ?_
 refine st_region (oFs 0 4) (by rfl) ?_
 refine oN 3 [sl ag a7 ao, sl ah a8 ap, sl ai a9 aq] 26 (fun D => ?_)
 refine oN 4 [vI K, vI L] 29 (fun b2 => ?_)
 refine oN 6 [.slice none 0 0, .slice none 0 0, .slice none 0 0] 26 (fun q => ?_)
 refine oq [oF 3] [(6, vP q 0), (4, vP b2 0), (3, vP D 0), (2, vI k)] ?_
 refine ops_nil (fin_then (st_seq ?_))
 refine st_region (oFs 0 10) (by rfl) ?_
 refine oMA 14 2 0 3 ?_
 refine oMA 15 1 0 2 ?_
 obtain ⟨B, C, G, x7, x8, cj, M⟩ := obind5 M
 refine oV (some 16) 4 [3, 0, 1, 2] 8 [0, 1, 2, 3, 5, 6, 7, 4] (fun _ r => world_found_ok r a2 a3 a4 cj) ?_
 rintro ⟨g, m, V, j, p, X, a5, c, Y, cd, H, J⟩ ⟨ce, cf, cg, a1⟩
 have a2 := a2.ext a1
 have a3 := a3.ext a1
 have a4 := a4.ext a1
 refine oq (oFs 3 4) [(19, vI x8), (18, vI x7), (17, .agg #[sl g B m, sl j C p, sl a5 G c]), (6, vP q 0), (3, vP D 0), (2, vI k)] ?_
 refine oS 6 0 [sl g B m, sl j C p, sl a5 G c] ?_
 refine oq [oF 8, oF 9] [(9, vI x8), (8, vI x7), (6, vP q 0), (3, vP D 0), (2, vI k)] ?_
 refine ops_nil (fin_then (st_seq (st_seq (st_region [oF 0, oF 1] (by rfl) ?_))))
 refine oq [oF 0, oF 1] [(21, .bool (!(x8 == 0))), (9, vI x8), (8, vI x7), (6, vP q 0), (3, vP D 0), (2, vI k)] ?_
 refine ops_nil (fin_then ?_)
 refine sif M (fun b0 M => ?_) (fun b0 M => ?_)
 ·
  refine st_seq ?_
  refine st_region (oFs 0 4) (by rfl) ?_
  refine oq [oF 0, oF 1] [(23, vI x8), (22, .agg #[.slice none 0 0, .slice none 0 0, .slice none 0 0]), (6, vP q 0)] ?_
  refine oS 4 0 [.slice none 0 0, .slice none 0 0, .slice none 0 0] ?_
  refine oq [oF 3] [(7, vI x8), (6, vP q 0)] ?_
  refine ops_nil (fin_then (st_ret (fin_ret_then ?_)))
  refine fnil 86 2 ?_
  refine fnil 3 1 ?_
  refine fin_conv (l' := [(7, vI x8), (6, vP q 0)]) (M' := Mem w0 (ow none ([] : List api_Item) 0 61 3 [] :: (Sx.bundle []) :: ow none ([] : List Int) 0 3 1 [] :: ow none ([] : List api_Kind) 0 86 2 [] :: ow g B m 86 2 V :: ow j C p 3 1 X :: ow a5 G c 61 3 Y :: cd :: .blk q [.slice none 0 0, .slice none 0 0, .slice none 0 0] 26 :: .blk b2 [vI K, vI L] 29 :: .blk D [sl g B m, sl j C p, sl a5 G c] 26 :: Fz H J :: cs)) rfl (fun E h => h.bnil.onil none 61 3) ?_
  obtain ⟨rfl, rfl, rfl, rfl⟩ := si4 M
  refine fin_ret [.cell 6 26, .tmp 7] [.agg #[sl none ([] : List api_Kind) 0, sl none ([] : List Int) 0, sl none ([] : List api_Item) 0], vI x8] rfl rfl (fun E r => (.cell rfl (tr_run _ [.v (.slice none 0 0), .v (.slice none 0 0), .v (.slice none 0 0)] [ld q 0 (.slice none 0 0), ld q 1 (.slice none 0 0), ld q 2 (.slice none 0 0)] (.agg #[.slice none 0 0, .slice none 0 0, .slice none 0 0] : Value) _ _ (by kernel_rfl) ⟨r.cell 8 rfl rfl, r.cell 8 rfl rfl, r.cell 8 rfl rfl, rfl⟩) (.tmp rfl .nil))) (fun E r => ?_)
  exact ⟨(none, 0, [], none, 0, [], none, 0, [], (Sx.bundle []), H, J), ⟨(RepL.nil (R := R_api_Kind)), (RepL.nil (R := (Rep.int .i64))), (OwL.nil (O := O_api_Item_rrw)), a1⟩, rfl, r.pick 12 [3, 2, 0, 1, 11] (by kernel_rfl) (by decide) rfl⟩
 ·
  refine st_skip (fin_then (st_seq ?_))
  refine st_region (oFs 0 5) (by rfl) ?_
  refine oq [oF 0] [(24, vP D 2), (8, vI x7), (6, vP q 0), (3, vP D 0), (2, vI k)] ?_
  refine oM 25 6 2 ?_
  refine oq [oF 2] [(26, vI x7), (25, sl a5 G c), (6, vP q 0), (3, vP D 0), (2, vI k)] ?_
  obtain ⟨y, b8, M⟩ := obind M
  obtain ⟨A, bc, bt⟩ := idx_some b8
  have bo := (List.getElem?_eq_some_iff.1 bt).1
  refine ops_fact (fun E r => r.orowSome 2 rfl (Nat.lt_of_le_of_lt (Nat.zero_le _) bo)) ?_
  rintro ⟨a, rfl, -⟩
  obtain ⟨ct, cm, a0, az, bz, b5⟩ := OwL.open_ cg bt
  obtain ⟨s, t, bg, rfl, rfl, bk⟩ := odec_api_Item_rrw bz
  have bs : ∀ (i : Nat) (u : Value), [vI y.Ent.N, vI y.Ent.Gen, sl s y.Comps t][i]? = some u → Y[A * 3 + i]? = some u := fun i u hi => OwO.cell az hi
  refine ops_val (op := (.indexAddr 24 (.tmp 25) (.tmp 26))) (d := some 27) (v := vP a (A * 3)) ⟨by kernel_rfl⟩ (run_indexRow Tryz.underlying24 (z := 3) (by kernel_rfl) rfl rfl bc bo rfl) ?_
  refine ops_conv (l' := [(27, vP a (A * 3)), (26, vI x7), (25, sl (sa a) G c), (6, vP q 0), (3, vP D 0), (2, vI k)]) (M' := Mem w0 (ow s y.Comps t 42 2 bg :: ow g B m 86 2 V :: ow j C p 3 1 X :: ow (sa a) G c 61 3 Y :: a0 :: .blk q [.slice none 0 0, .slice none 0 0, .slice none 0 0] 26 :: .blk b2 [vI K, vI L] 29 :: .blk D [sl g B m, sl j C p, sl (sa a) G c] 26 :: Fz H J :: cs)) rfl (fun E h => (b5 (h.pick 8 [3, 0, 1, 2, 4, 5, 6, 7] (by kernel_rfl) (by decide) rfl)).pick 9 [1, 2, 3, 4, 0, 5, 6, 7, 8] (by kernel_rfl) (by decide) rfl) ?_
  refine oq [oF 4] [(10, vP a (A * 3)), (6, vP q 0), (3, vP D 0), (2, vI k)] ?_
  refine ops_nil (fin_then (st_seq ?_))
  refine st_region (oFs 0 11) (by rfl) ?_
  refine oq (oFs 0 3) [(31, vP a (A * 3 + 2)), (10, vP a (A * 3)), (6, vP q 0), (3, vP D 0), (2, vI k)] ?_
  refine ops_mem (d := some 32) (an := [.v (sl s y.Comps t)]) (evs := [.load ⟨a, A * 3 + 2, none⟩ (sl s y.Comps t)]) (v := sl s y.Comps t) ⟨by kernel_rfl⟩ (fun E r hS => ⟨E, ⟨r.ocell 3 rfl (bs 2 _ rfl), rfl⟩, r, trivial⟩) ?_
  refine oq [oF 4] [(33, vI k), (32, sl s y.Comps t), (10, vP a (A * 3)), (6, vP q 0), (3, vP D 0)] ?_
  obtain ⟨Z, bf, b9, M⟩ := obind2 M
  refine ops_callI (σ := Unit) (d := some 34) (f := 53) (args := #[sl s y.Comps t, vI k]) (v := (fun _ => .tuple #[vI Z, .bool bf])) (I := (fun _ => True)) (M' := (fun _ => Mem w0 (ow s y.Comps t 42 2 bg :: ow g B m 86 2 V :: ow j C p 3 1 X :: ow (sa a) G c 61 3 Y :: a0 :: .blk q [.slice none 0 0, .slice none 0 0, .slice none 0 0] 26 :: .blk b2 [vI K, vI L] 29 :: .blk D [sl g B m, sl j C p, sl (sa a) G c] 26 :: Fz H J :: cs))) ⟨by kernel_rfl⟩ (fun E r hS => (@world_at_ok E E [] (fun b => b < E.heap.size) E s t y.Comps k (Mem.fz0 E) (r.ordS 0 8 rfl rfl bk rfl rfl) Z bf b9).mono (by rintro e w' ⟨_, -, rfl, h'⟩; have h' : Mem E [] w' := h'.pick 1 [] (by kernel_rfl) (by decide) rfl; exact ⟨(), trivial, rfl, r.join h' rfl, trivial⟩)) ?_
  rintro _ -
  refine oq (oFs 6 5) [(12, .bool bf), (11, vI Z), (10, vP a (A * 3)), (6, vP q 0), (3, vP D 0)] ?_
  refine ops_nil (fin_then (st_seq (st_seq (st_region [oF 0, oF 1] (by rfl) ?_))))
  refine oq [oF 0, oF 1] [(38, .bool (!bf)), (11, vI Z), (10, vP a (A * 3)), (6, vP q 0), (3, vP D 0)] ?_
  refine ops_nil (fin_then ?_)
  refine sif M (fun b4 M => ?_) (fun b4 M => ?_)
  ·
   refine st_seq ?_
   refine st_region (oFs 0 3) (by rfl) ?_
   refine oq [oF 0] [(39, .agg #[.slice none 0 0, .slice none 0 0, .slice none 0 0]), (6, vP q 0)] ?_
   refine oS 5 0 [.slice none 0 0, .slice none 0 0, .slice none 0 0] ?_
   refine oq [oF 2] [(7, vI 4), (6, vP q 0)] ?_
   refine ops_nil (fin_then (st_ret (fin_ret_then ?_)))
   obtain ⟨a6, ca, M⟩ := obind M
   obtain ⟨ck, cp, cn, bm⟩ := upd_some ca
   obtain rfl : A = ck := by have := bc; omega
   have bp : G.length = a6.length := by rw [bm, List.length_set]
   obtain ⟨bi, ch, b6⟩ := OwO.close (x := (api_Item.mk (api_Ent.mk y.Ent.N y.Ent.Gen) y.Comps)) (Kx := [ow s y.Comps t 42 2 bg]) az (oenc_api_Item_rrw bk)
   rw [← bm] at ch
   refine fin_conv (l' := [(7, vI 4), (6, vP q 0)]) (M' := Mem w0 (ow g B m 86 2 V :: ow j C p 3 1 X :: ow (sa a) G c 61 3 Y :: bi :: .blk q [.slice none 0 0, .slice none 0 0, .slice none 0 0] 26 :: .blk b2 [vI K, vI L] 29 :: .blk D [sl g B m, sl j C p, sl (sa a) G c] 26 :: Fz H J :: cs)) rfl (fun E h => (b6 (h.pick 9 [4, 0, 1, 2, 3, 5, 6, 7, 8] (by kernel_rfl) (by decide) rfl)).pick 8 [1, 2, 3, 0, 4, 5, 6, 7] (by kernel_rfl) (by decide) rfl) ?_
   refine fin_conv (l' := [(7, vI 4), (6, vP q 0)]) (M' := Mem w0 (ow g B m 86 2 V :: ow j C p 3 1 X :: ow (sa a) a6 c 61 3 Y :: bi :: .blk q [.slice none 0 0, .slice none 0 0, .slice none 0 0] 26 :: .blk b2 [vI K, vI L] 29 :: .blk D [sl g B m, sl j C p, sl (sa a) a6 c] 26 :: Fz H J :: cs)) (by first | rfl | ((try dsimp only [sl, ow]); rw [bp])) (fun E r => by first | exact r | ((try dsimp only [sl, ow] at r ⊢); rw [bp] at r; exact r)) ?_
   refine fnil 86 2 ?_
   refine fnil 3 1 ?_
   refine fin_conv (l' := [(7, vI 4), (6, vP q 0)]) (M' := Mem w0 (ow none ([] : List api_Item) 0 61 3 [] :: (Sx.bundle []) :: ow none ([] : List Int) 0 3 1 [] :: ow none ([] : List api_Kind) 0 86 2 [] :: ow g B m 86 2 V :: ow j C p 3 1 X :: ow (sa a) a6 c 61 3 Y :: bi :: .blk q [.slice none 0 0, .slice none 0 0, .slice none 0 0] 26 :: .blk b2 [vI K, vI L] 29 :: .blk D [sl g B m, sl j C p, sl (sa a) a6 c] 26 :: Fz H J :: cs)) rfl (fun E h => h.bnil.onil none 61 3) ?_
   obtain ⟨rfl, rfl, rfl, rfl⟩ := si4 M
   refine fin_ret [.cell 6 26, .tmp 7] [.agg #[sl none ([] : List api_Kind) 0, sl none ([] : List Int) 0, sl none ([] : List api_Item) 0], vI 4] rfl rfl (fun E r => (.cell rfl (tr_run _ [.v (.slice none 0 0), .v (.slice none 0 0), .v (.slice none 0 0)] [ld q 0 (.slice none 0 0), ld q 1 (.slice none 0 0), ld q 2 (.slice none 0 0)] (.agg #[.slice none 0 0, .slice none 0 0, .slice none 0 0] : Value) _ _ (by kernel_rfl) ⟨r.cell 8 rfl rfl, r.cell 8 rfl rfl, r.cell 8 rfl rfl, rfl⟩) (.tmp rfl .nil))) (fun E r => ?_)
   exact ⟨(none, 0, [], none, 0, [], none, 0, [], (Sx.bundle []), H, J), ⟨(RepL.nil (R := R_api_Kind)), (RepL.nil (R := (Rep.int .i64))), (OwL.nil (O := O_api_Item_rrw)), a1⟩, rfl, r.pick 12 [3, 2, 0, 1, 11] (by kernel_rfl) (by decide) rfl⟩
  ·
   refine st_skip (fin_then (st_seq ?_))
   refine st_region (oFs 0 12) (by rfl) ?_
   refine oq (oFs 0 4) [(43, vP a (A * 3 + 2)), (40, vP a (A * 3)), (11, vI Z), (6, vP q 0), (3, vP D 0)] ?_
   refine ops_mem (d := some 44) (an := [.v (sl s y.Comps t)]) (evs := [.load ⟨a, A * 3 + 2, none⟩ (sl s y.Comps t)]) (v := sl s y.Comps t) ⟨by kernel_rfl⟩ (fun E r hS => ⟨E, ⟨r.ocell 3 rfl (bs 2 _ rfl), rfl⟩, r, trivial⟩) ?_
   refine oq (oFs 5 3) [(47, vI (IntKind.i64.wrap (Z + 1))), (45, vI Z), (44, sl s y.Comps t), (40, vP a (A * 3)), (6, vP q 0), (3, vP D 0)] ?_
   obtain ⟨N, cb, M⟩ := obind M
   refine ops_callI (σ := (List Value)) (d := some 48) (f := 59) (args := #[sl s y.Comps t, vI Z, vI (IntKind.i64.wrap (Z + 1))]) (v := (fun x_ => match x_ with | ab => sl s N t)) (I := (fun x_ => match x_ with | ab => (RepL R_api_Comp H J N ab))) (M' := (fun x_ => match x_ with | ab => Mem w0 (ow s N t 42 2 ab :: ow g B m 86 2 V :: ow j C p 3 1 X :: ow (sa a) G c 61 3 Y :: a0 :: .blk q [.slice none 0 0, .slice none 0 0, .slice none 0 0] 26 :: .blk b2 [vI K, vI L] 29 :: .blk D [sl g B m, sl j C p, sl (sa a) G c] 26 :: Fz H J :: cs))) ⟨by kernel_rfl⟩ (fun E r hS => (slices_Delete_api_Comp_api_Comp_ok w0 E (ow g B m 86 2 V :: ow j C p 3 1 X :: ow (sa a) G c 61 3 Y :: a0 :: .blk q [.slice none 0 0, .slice none 0 0, .slice none 0 0] 26 :: .blk b2 [vI K, vI L] 29 :: .blk D [sl g B m, sl j C p, sl (sa a) G c] 26 :: cs) H J s t y.Comps bg Z (IntKind.i64.wrap (Z + 1)) (r.pick 9 [0, 8, 1, 2, 3, 4, 5, 6, 7] (by kernel_rfl) (by decide) rfl) bk N cb).mono (by rintro e w' ⟨ab, bl, rfl, h'⟩; have h' : Mem w0 (ow s N t 42 2 ab :: ow g B m 86 2 V :: ow j C p 3 1 X :: ow (sa a) G c 61 3 Y :: a0 :: .blk q [.slice none 0 0, .slice none 0 0, .slice none 0 0] 26 :: .blk b2 [vI K, vI L] 29 :: .blk D [sl g B m, sl j C p, sl (sa a) G c] 26 :: Fz H J :: cs) w' := (h'.pick 9 [0, 2, 3, 4, 5, 6, 7, 8, 1] (by kernel_rfl) (by decide) rfl); exact ⟨ab, bl, rfl, h', trivial⟩)) ?_
   rintro ab bl
   refine oq [oF 9, oF 10] [(50, vP a (A * 3 + 2)), (48, sl s N t), (6, vP q 0), (3, vP D 0)] ?_
   obtain ⟨bb, bu⟩ : ∃ y_, setAll Y (A * 3 + 2) [sl s N t] = y_ := ⟨_, rfl⟩
   have br : OwO O_api_Item_rrw H J G A bb [vI y.Ent.N, vI y.Ent.Gen, sl s N t] a0 := by rw [← bu]; exact OwO.put (us := [sl s N t]) (o := 2) az (Nat.le_of_ble_eq_true rfl)
   have cr : ∀ (i : Nat) (u : Value), [vI y.Ent.N, vI y.Ent.Gen, sl s N t][i]? = some u → bb[A * 3 + i]? = some u := fun i u hi => OwO.cell br hi
   refine ops_store (an := []) (evs := [.store ⟨a, A * 3 + 2, none⟩ (sl s N t)]) ⟨by kernel_rfl⟩ (fun E r hS => let ⟨w', he, h'⟩ := r.ostore' 3 rfl (A * 3 + 2) [sl s N t] (by have z_ : Y.length = G.length * 3 := OwO.len az; have y_ : (A + 1) * 3 ≤ G.length * 3 := Nat.mul_le_mul_right _ (OwO.lt az); rw [Nat.add_mul] at y_; simp only [List.length_cons, List.length_nil]; omega) rfl bu; ⟨w', he, h', trivial⟩) ?_
   refine ops_nil (fin_then (st_seq ?_))
   refine st_region (oFs 0 3) (by rfl) ?_
   refine oMA 51 7 0 3 ?_
   refine oq [] [(51, .agg #[sl g B m, sl j C p, sl (sa a) G c]), (6, vP q 0)] ?_
   obtain ⟨aa, cc, M⟩ := obind M
   obtain ⟨cl, cq, co, bn⟩ := upd_some cc
   obtain rfl : A = cl := by have := bc; omega
   have bq : G.length = aa.length := by rw [bn, List.length_set]
   obtain ⟨bj, bx, b7⟩ := OwO.close (x := (api_Item.mk (api_Ent.mk y.Ent.N y.Ent.Gen) N)) (Kx := [ow s N t 42 2 ab]) br (oenc_api_Item_rrw bl)
   rw [← bn] at bx
   refine ops_conv (l' := [(51, .agg #[sl g B m, sl j C p, sl (sa a) G c]), (6, vP q 0)]) (M' := Mem w0 (ow g B m 86 2 V :: ow j C p 3 1 X :: ow (sa a) G c 61 3 bb :: bj :: .blk q [.slice none 0 0, .slice none 0 0, .slice none 0 0] 26 :: .blk b2 [vI K, vI L] 29 :: .blk D [sl g B m, sl j C p, sl (sa a) G c] 26 :: Fz H J :: cs)) rfl (fun E h => (b7 (h.pick 9 [4, 0, 1, 2, 3, 5, 6, 7, 8] (by kernel_rfl) (by decide) rfl)).pick 8 [1, 2, 3, 0, 4, 5, 6, 7] (by kernel_rfl) (by decide) rfl) ?_
   refine ops_conv (l' := [(51, .agg #[sl g B m, sl j C p, sl (sa a) aa c]), (6, vP q 0)]) (M' := Mem w0 (ow g B m 86 2 V :: ow j C p 3 1 X :: ow (sa a) aa c 61 3 bb :: bj :: .blk q [.slice none 0 0, .slice none 0 0, .slice none 0 0] 26 :: .blk b2 [vI K, vI L] 29 :: .blk D [sl g B m, sl j C p, sl (sa a) aa c] 26 :: Fz H J :: cs)) (by first | rfl | ((try dsimp only [sl, ow]); rw [bq])) (fun E r => by first | exact r | ((try dsimp only [sl, ow] at r ⊢); rw [bq] at r; exact r)) ?_
   refine oS 4 0 [sl g B m, sl j C p, sl (sa a) aa c] ?_
   refine oq [oF 2] [(7, vI 0), (6, vP q 0)] ?_
   refine ops_nil (fin_then (st_ret ?_))
   obtain ⟨rfl, rfl, rfl, rfl⟩ := si4 M
   refine fin_ret [.cell 6 26, .tmp 7] [.agg #[sl g B m, sl j C p, sl (sa a) aa c], vI 0] rfl rfl (fun E r => (.cell rfl (tr_run _ [.v (sl g B m), .v (sl j C p), .v (sl (sa a) aa c)] [ld q 0 (sl g B m), ld q 1 (sl j C p), ld q 2 (sl (sa a) aa c)] (.agg #[sl g B m, sl j C p, sl (sa a) aa c] : Value) _ _ (by kernel_rfl) ⟨r.cell 4 rfl rfl, r.cell 4 rfl rfl, r.cell 4 rfl rfl, rfl⟩) (.tmp rfl .nil))) (fun E r => ?_)
   exact ⟨(g, m, V, j, p, X, (sa a), c, bb, bj, H, J), ⟨ce, cf, bx, a1⟩, rfl, r.pick 8 [0, 1, 2, 3, 7] (by kernel_rfl) (by decide) rfl⟩
theorem tourref3_Flat_Get_ok {b : Int} {c : Int} {k : Int} (i : Mem w0 (Fz F W :: cs) w) (f : tourref3_Flat_Get b c k = some ()) : Calls Tryz.prog 32 #[.pointer none, .agg #[vI b, vI c], vI k] w (Post w0 (fun (_ : Unit) => True) (fun _ => .tuple #[.slice none 0 0, vI 4]) (fun _ => Fz F W :: cs)) := by
 unfold tourref3_Flat_Get at f
 refine sx_calls Tryz.func32 rfl (n := 30) (by kernel_rfl) (l := [(0, .pointer none), (1, .agg #[vI b, vI c]), (2, vI k)]) rfl (by rfl) i ?_
 refine st_seq ?_
 refine st_region (oFs 0 3) (by rfl) ?_
 refine oN 4 [vI b, vI c] 29 (fun d => ?_)
 refine oq [oF 1, oF 2] [(4, vP d 0), (0, .pointer none), (2, vI k)] ?_
 refine ops_nil (fin_then (st_seq (st_seq ?_)))
 refine st_region (oFs 0 4) (by rfl) ?_
 refine oq [oF 0] [(10, .pointer none), (4, vP d 0), (0, .pointer none), (2, vI k)] ?_
 refine oMA 11 0 0 2 ?_
 obtain ⟨_, j, f⟩ := obind f
 refine oV (some 12) 2 [1, 0] 2 [1, 0] (fun _ m => tourref3_Flat_Has_ok m j) ?_
 rintro _ -
 refine oq [oF 3] [(13, .bool true), (4, vP d 0), (0, .pointer none), (2, vI k)] ?_
 refine ops_nil (fin_then (st_true rfl (st_seq (st_region [oF 0, oF 1] (by rfl) ?_))))
 refine oq [oF 0, oF 1] [(7, vI 4), (6, .slice none 0 0)] ?_
 refine ops_nil (fin_then (st_ret (fin_ret_then ?_)))
 exact fr [6, 7] () trivial 2 [1]
theorem tourref3_Flat_Drop_ok {b : Int} {c : Int} {k : Int} (i : Mem w0 (Fz F W :: cs) w) (g : tourref3_Flat_Drop b c k = some ()) : Calls Tryz.prog 28 #[.pointer none, .agg #[vI b, vI c], vI k] w (Post w0 (fun (_ : Unit) => True) (fun _ => vI 4) (fun _ => Fz F W :: cs)) := by
 unfold tourref3_Flat_Drop at g
 refine sx_calls Tryz.func28 rfl (n := 27) (by kernel_rfl) (l := [(0, .pointer none), (1, .agg #[vI b, vI c]), (2, vI k)]) rfl (by rfl) i ?_
 refine st_seq (st_region [oF 0, oF 1] (by rfl) ?_)
 refine oN 4 [vI b, vI c] 29 (fun d => ?_)
 refine oq [oF 1] [(4, vP d 0), (0, .pointer none), (2, vI k)] ?_
 refine ops_nil (fin_then (st_seq (st_seq ?_)))
 refine st_region (oFs 0 9) (by rfl) ?_
 refine oq [oF 0] [(10, .pointer none), (4, vP d 0), (0, .pointer none), (2, vI k)] ?_
 refine oMA 11 0 0 2 ?_
 refine oq [oF 2] [(12, vI k), (11, .agg #[vI b, vI c]), (10, .pointer none), (4, vP d 0), (0, .pointer none), (2, vI k)] ?_
 obtain ⟨_, j, g⟩ := obind g
 refine oV (some 13) 2 [1, 0] 2 [1, 0] (fun _ m => tourref3_Flat_Get_ok m j) ?_
 rintro _ -
 refine oq (oFs 4 5) [(8, vI 4), (4, vP d 0), (0, .pointer none), (2, vI k)] ?_
 refine ops_nil (fin_then (st_seq (st_region [oF 0, oF 1] (by rfl) ?_)))
 refine oq [oF 0, oF 1] [(17, .bool true), (8, vI 4), (4, vP d 0), (0, .pointer none), (2, vI k)] ?_
 refine ops_nil (fin_then (st_true rfl (st_seq (st_region [oF 0, oF 1] (by rfl) ?_))))
 refine oq [oF 0, oF 1] [(6, vI 4)] ?_
 refine ops_nil (fin_then (st_ret (fin_ret_then ?_)))
 exact fr [6] () trivial 2 [1]
theorem tourlaw3_WorldChanges_4_ok {a : Nat} {d : Int} {f : Int} {b : Nat} {g : Int} (j : Mem w0 (.blk a [vI d, vI f] 29 :: .blk b [vI g] 3 :: Fz F W :: cs) w) (i : tourlaw3_WorldChanges_4 d f g = some ()) : Calls Tryz.prog 27 #[.pointer none, vP a 0, vP b 0] w (Post w0 (fun (_ : Unit) => True) (fun _ => vI 4) (fun _ => .blk a [vI d, vI f] 29 :: .blk b [vI g] 3 :: Fz F W :: cs)) := by
 unfold tourlaw3_WorldChanges_4 at i
 refine sx_calls Tryz.func27 rfl (n := 9) (by kernel_rfl) (l := [(0, .pointer none), (1, vP a 0), (2, vP b 0)]) rfl (by rfl) j ?_
 refine st_seq (st_region [oF 0] (by rfl) ?_)
 refine oq [oF 0] [(0, .pointer none), (1, vP a 0), (2, vP b 0)] ?_
 refine ops_nil (fin_then (st_seq ?_))
 refine st_region (oFs 0 5) (by rfl) ?_
 refine oq [oF 0] [(5, .pointer none), (1, vP a 0), (2, vP b 0)] ?_
 refine oMA 6 0 0 2 ?_
 refine oM 7 1 0 ?_
 obtain ⟨_, k, i⟩ := obind i
 refine oV (some 8) 3 [2, 0, 1] 3 [1, 2, 0] (fun _ m => tourref3_Flat_Drop_ok m k) ?_
 rintro _ -
 refine oq [oF 4] [(4, vI 4)] ?_
 refine ops_nil (fin_then (st_ret ?_))
 exact fr [4] () trivial 0 []
def tourref3_Flat_Get_v2__t0 : List Row := [⟨0, 32768, 1⟩, ⟨1, 65536, 32768⟩, ⟨2, 131072, 65536⟩, ⟨4, 262144, 131072⟩, ⟨0, 524288, 16⟩, ⟨16, 1048576, 524288⟩, ⟨40, 2097152, 1310720⟩, ⟨0, 4194304, 4⟩, ⟨192, 8388608, 6291456⟩, ⟨256, 16384, 8388608⟩, ⟨512, 16777216, 16384⟩, ⟨512, 33554432, 16384⟩, ⟨2047, 256, 16777216⟩, ⟨8191, 512, 33554432⟩]
theorem tourref3_Flat_Get_v2_ok {m : Nat} {g : Option Addr} {i : Nat} {p : List api_Kind} {b : Option Addr} {c : Nat} {f : List Int} {al : List Value} {a : Nat} {T : Array MapEntry} {O : Nat} {am : List (Int × (Option (List (Int × (List Int)))))} {ag : Chunk} {o : Int} {r : Int} {k : Int} (bn : Mem w0 (.blk m [sl g p i, sl b f c, .map (some a)] 96 :: ow b f c 3 1 al :: .obj a (.map T O) :: ag :: Fz F W :: cs) w) (au : RdS R_api_Kind F W g i p) (av : RepL (Rep.int .i64) F W f al) (aw : MapW (fun M : Int => Value.int .i64 M) (Own.mr (fun M : Int => Value.int .i64 M) (Rep.sl (Rep.int .i64)) false) false F W am T O ag) {G : List Int} {ak : Int} (j : tourref3_Flat_Get_v2 p f am o r k = some (G, ak)) : Calls Tryz.prog 32 #[vP m 0, .agg #[vI o, vI r], vI k] w (Post w0 (fun ((C, E, H, I, A, z, D) : (Option Addr) × Nat × (List Value) × (List Value) × (Array MapEntry) × Nat × Chunk) => (RepL (Rep.int .i64) F W G H) ∧ (RdS R_api_Kind F W g i p) ∧ (RepL (Rep.int .i64) F W f I) ∧ (MapW (fun M : Int => Value.int .i64 M) (Own.mr (fun M : Int => Value.int .i64 M) (Rep.sl (Rep.int .i64)) false) false F W am A z D)) (fun (C, E, H, I, A, z, D) => .tuple #[sl C G E, vI ak]) (fun (C, E, H, I, A, z, D) => ow C G E 3 1 H :: .blk m [sl g p i, sl b f c, .map (some a)] 96 :: ow b f c 3 1 I :: .obj a (.map A z) :: D :: Fz F W :: cs)) := by
 unfold tourref3_Flat_Get_v2 at j
 refine sx_calls Tryz.func32 rfl (n := 30) (by kernel_rfl) (l := [(0, vP m 0), (1, .agg #[vI o, vI r]), (2, vI k)]) rfl (by rfl) bn ?_
 refine st_seq ?_
 refine st_region (oFs 0 3) (by rfl) ?_
 refine oN 4 [vI o, vI r] 29 (fun y => ?_)
 refine oq [oF 1, oF 2] [(4, vP y 0), (0, vP m 0), (2, vI k)] ?_
 refine ops_nil (fin_then (st_seq (st_seq ?_)))
 refine st_region (oFs 0 4) (by rfl) ?_
 refine oq [oF 0] [(10, vP m 0), (4, vP y 0), (0, vP m 0), (2, vI k)] ?_
 refine oMA 11 0 0 2 ?_
 obtain ⟨x2, bo, j⟩ := obind j
 refine oV (some 12) 6 [1, 2, 3, 4, 5, 0] 6 [5, 0, 1, 2, 3, 4] (fun _ t => tourref3_Flat_Has_v2_ok t au av aw bo) ?_
 rintro ⟨B, s, q, Z⟩ ⟨h8, h9, U⟩
 refine oq [oF 3] [(13, .bool (!x2)), (4, vP y 0), (0, vP m 0), (2, vI k)] ?_
 refine ops_nil (fin_then ?_)
 refine sif j (fun a6 j => ?_) (fun a6 j => ?_)
 ·
  refine st_seq (st_region [oF 0, oF 1] (by rfl) ?_)
  refine oq [oF 0, oF 1] [(7, vI 4), (6, .slice none 0 0)] ?_
  refine ops_nil (fin_then (st_ret (fin_ret_then ?_)))
  refine fnil 3 1 ?_
  obtain ⟨rfl, rfl⟩ := si2 j
  exact fr [6, 7] (none, 0, [], B, s, q, Z) ⟨(RepL.nil (R := (Rep.int .i64))), h8, h9, U⟩ 7 [0, 2, 3, 4, 5, 6]
 ·
  refine st_skip (fin_then (st_seq ?_))
  refine st_region_fast tourref3_Flat_Get_v2__t0 [oT 0, oT 1, oT 2, oT 3, oT 4, oT 5, oT 7, oF 6, oF 8, oT 9, oT 10, oT 11, oT 12, oT 13] (Mem w0 (.blk y [vI o, vI r] 29 :: .blk m [sl g p i, sl b f c, .map (some a)] 96 :: ow b f c 3 1 B :: Fz F W :: cs)) (by kernel_rfl) (by kernel_rfl) (by kernel_rfl) (by kernel_rfl) (by kernel_rfl) (fun _ d _ _ _ h => by cases d <;> exact h) (M' := Mem w0 (.blk y [vI o, vI r] 29 :: .blk m [sl g p i, sl b f c, .map (some a)] 96 :: ow b f c 3 1 B :: .obj a (.map s q) :: Z :: Fz F W :: cs)) (fun u t => ⟨t.drew, t.drew.sub (.cons_cons _ (.cons_cons _ (.cons_cons _ (.cons _ (.cons _ (.cons_cons _ (.refl _)))))))⟩) ?_
  refine oq (oTs 0 3) [(17, vP m 2), (4, vP y 0), (2, vI k)] ?_
  refine oL 18 1 2 ?_
  refine oq [oT 4] [(19, vP y 0), (18, .map (some a)), (2, vI k)] ?_
  refine oL 20 0 0 ?_
  refine oq [oT 7] [(22, vI k), (20, vI o), (18, .map (some a))] ?_
  rcases oel_some j with ⟨ab, j⟩ | ⟨V, ab, j⟩
  ·
   refine ops_law (op := (.lookup 94 (.tmp 18) (.tmp 20) false)) (d := some 21) (σ := Unit) (v := fun _ => .map none) (M' := fun _ => Mem w0 (.blk y [vI o, vI r] 29 :: .blk m [sl g p i, sl b f c, .map (some a)] 96 :: ow b f c 3 1 B :: .obj a (.map s q) :: Z :: Fz F W :: cs)) ⟨by kernel_rfl⟩ (fun o_ u ho_ t hS => ⟨(), u, run_lookupV rfl rfl (MapW.lookNil (by exact fun h_ => h_.1) U (KeyLaw.int Tryz.underlying3) Tryz.underlying94 ab (fun u_ => Tryz.zeroValue37 u_) false a u (t.mapAt 3 rfl)) o_ ho_, t, hS⟩) (fun _ => ?_)
   have bi : RdM (fun M : Int => Value.int .i64 M) (Rep.sl (Rep.int .i64)) false F W none none := rfl
   obtain ⟨X, bc, j⟩ := obind j
   obtain ⟨bg, hr18, hrun19⟩ := bi.get (KeyLaw.int Tryz.underlying3) Tryz.underlying37 k ([] : List Int) ((slrd (RdS.empty _))) (fun u_ => Tryz.zeroValue23 u_)
   have hr18 : (Rep.sl (Rep.int .i64)).rd F W X bg := by rw [← Option.some.inj bc]; exact hr18
   obtain ⟨ad, ah, rfl, bj⟩ := hr18
   refine ops_law (op := (.lookup 37 (.tmp 21) (.tmp 22) true)) (d := some 23) (σ := Unit) (v := fun _ => .tuple #[sl ad X ah, .bool ((mget ((none : Option (List (Int × (List Int)))).getD []) k).isSome)]) (M' := fun _ => Mem w0 (.blk y [vI o, vI r] 29 :: .blk m [sl g p i, sl b f c, .map (some a)] 96 :: ow b f c 3 1 B :: .obj a (.map s q) :: Z :: Fz F W :: cs)) ⟨by kernel_rfl⟩ (fun o_ u ho_ t hS => ⟨(), u, run_lookupV rfl rfl (hrun19 true u (t.fz 5 rfl)) o_ ho_, t, hS⟩) (fun _ => ?_)
   refine oq (oTs 9 5) [(9, .bool ((mget ((none : Option (List (Int × (List Int)))).getD []) k).isSome)), (8, sl ad X ah)] ?_
   refine ops_nil (fin_then (st_seq (st_seq (st_region [oF 0, oF 1] (by rfl) ?_))))
   refine oq [oF 0, oF 1] [(27, .bool (!((mget ((none : Option (List (Int × (List Int)))).getD []) k).isSome))), (8, sl ad X ah)] ?_
   refine ops_nil (fin_then ?_)
   refine sif j (fun a7 j => ?_) (fun a7 j => ?_)
   ·
    refine st_seq (st_region [oF 0, oF 1] (by rfl) ?_)
    refine oq [oF 0, oF 1] [(7, vI 4), (6, .slice none 0 0)] ?_
    refine ops_nil (fin_then (st_ret (fin_ret_then ?_)))
    refine fnil 3 1 ?_
    obtain ⟨rfl, rfl⟩ := si2 j
    exact fr [6, 7] (none, 0, [], B, s, q, Z) ⟨(RepL.nil (R := (Rep.int .i64))), h8, h9, U⟩ 7 [0, 2, 3, 4, 5, 6]
   ·
    refine st_skip (fin_then (st_seq ?_))
    refine st_region (oFs 0 4) (by rfl) ?_
    refine oq [oF 0] [(28, sl ad X ah)] ?_
    obtain ⟨bp, bd, j⟩ := obind j
    refine oV (some 29) 6 [5, 0, 1, 2, 3, 4] 7 [0, 2, 3, 4, 5, 6, 1] (fun _ t => slices_Clone_int_int_ok t bj bd) ?_
    rintro ⟨ax, a1, bq⟩ bk
    refine oq [oF 2, oF 3] [(7, vI 0), (6, sl ax bp a1)] ?_
    refine ops_nil (fin_then (st_ret ?_))
    obtain ⟨rfl, rfl⟩ := si2 j
    exact fr [6, 7] (ax, a1, bq, B, s, q, Z) ⟨bk, h8, h9, U⟩ 7 [0, 2, 3, 4, 5, 6]
  ·
   have ac := getD_some_some ab
   obtain ⟨bs, br, ay, aq, a5, a9, hr37⟩ := MapW.look U (KeyLaw.int Tryz.underlying3) Tryz.underlying94 ac
   obtain ⟨J, L, K, rfl, rfl, an⟩ := a5
   refine ops_law (op := (.lookup 94 (.tmp 18) (.tmp 20) false)) (d := some 21) (σ := Unit) (v := fun _ => .map (some J)) (M' := fun _ => Mem w0 (.blk y [vI o, vI r] 29 :: .blk m [sl g p i, sl b f c, .map (some a)] 96 :: ow b f c 3 1 B :: .obj a (.map s q) :: Z :: Fz F W :: cs)) ⟨by kernel_rfl⟩ (fun o_ u ho_ t hS => ⟨(), u, run_lookupV rfl rfl (hr37 false a u (t.mapAt 3 rfl)) o_ ho_, t, hS⟩) (fun _ => ?_)
   refine ops_conv (l' := [(21, .map (some J)), (22, vI k), (20, vI o), (18, .map (some a))]) (M' := Mem w0 (.obj J (.map L K) :: .blk y [vI o, vI r] 29 :: .blk m [sl g p i, sl b f c, .map (some a)] 96 :: ow b f c 3 1 B :: .obj a (.map s q) :: ay :: Fz F W :: cs)) rfl (fun u h => (a9 (h.pick 6 [4, 0, 1, 2, 3, 5] (by kernel_rfl) (by decide) rfl)).pick 7 [1, 2, 3, 4, 5, 0, 6] (by kernel_rfl) (by decide) rfl) ?_
   obtain ⟨Y, be, j⟩ := obind j
   obtain ⟨bh, hr46, hrun47⟩ := an.get (KeyLaw.int Tryz.underlying3) Tryz.underlying37 k ([] : List Int) ((slrd (RdS.empty _))) (fun u_ => Tryz.zeroValue23 u_)
   have hr46 : (Rep.sl (Rep.int .i64)).rd F W Y bh := by rw [← Option.some.inj be]; exact hr46
   obtain ⟨ae, ai, rfl, bl⟩ := hr46
   refine ops_law (op := (.lookup 37 (.tmp 21) (.tmp 22) true)) (d := some 23) (σ := Unit) (v := fun _ => .tuple #[sl ae Y ai, .bool ((mget V k).isSome)]) (M' := fun _ => Mem w0 (.obj J (.map L K) :: .blk y [vI o, vI r] 29 :: .blk m [sl g p i, sl b f c, .map (some a)] 96 :: ow b f c 3 1 B :: .obj a (.map s q) :: ay :: Fz F W :: cs)) ⟨by kernel_rfl⟩ (fun o_ u ho_ t hS => ⟨(), u, run_lookupV rfl rfl (hrun47 true J u (t.mapAt 0 rfl)) o_ ho_, t, hS⟩) (fun _ => ?_)
   refine oq (oTs 9 5) [(9, .bool ((mget V k).isSome)), (8, sl ae Y ai)] ?_
   refine ops_nil (fin_then (st_seq (st_seq (st_region [oF 0, oF 1] (by rfl) ?_))))
   refine oq [oF 0, oF 1] [(27, .bool (!((mget V k).isSome))), (8, sl ae Y ai)] ?_
   refine ops_nil (fin_then ?_)
   refine sif j (fun a8 j => ?_) (fun a8 j => ?_)
   ·
    refine st_seq (st_region [oF 0, oF 1] (by rfl) ?_)
    refine oq [oF 0, oF 1] [(7, vI 4), (6, .slice none 0 0)] ?_
    refine ops_nil (fin_then (st_ret (fin_ret_then ?_)))
    obtain ⟨az, a2, ba⟩ := MapH.close (x := (some V)) (Kx := [.obj J (.map L K)]) aq (⟨_, _, _, rfl, rfl, an⟩)
    rw [mput_same ac] at a2
    refine fin_conv (l' := [(7, vI 4), (6, .slice none 0 0)]) (M' := Mem w0 (.blk y [vI o, vI r] 29 :: .blk m [sl g p i, sl b f c, .map (some a)] 96 :: ow b f c 3 1 B :: .obj a (.map s q) :: az :: Fz F W :: cs)) rfl (fun u h => (ba (h.pick 7 [5, 0, 1, 2, 3, 4, 6] (by kernel_rfl) (by decide) rfl)).pick 6 [1, 2, 3, 4, 0, 5] (by kernel_rfl) (by decide) rfl) ?_
    refine fnil 3 1 ?_
    obtain ⟨rfl, rfl⟩ := si2 j
    exact fr [6, 7] (none, 0, [], B, s, q, az) ⟨(RepL.nil (R := (Rep.int .i64))), h8, h9, a2⟩ 7 [0, 2, 3, 4, 5, 6]
   ·
    refine st_skip (fin_then (st_seq ?_))
    refine st_region (oFs 0 4) (by rfl) ?_
    refine oq [oF 0] [(28, sl ae Y ai)] ?_
    obtain ⟨ar, bf, j⟩ := obind j
    refine oV (some 29) 7 [6, 0, 1, 2, 3, 4, 5] 8 [0, 2, 3, 4, 5, 6, 7, 1] (fun _ t => slices_Clone_int_int_ok t bl bf) ?_
    rintro ⟨af, aj, a4⟩ bm
    refine oq [oF 2, oF 3] [(7, vI 0), (6, sl af ar aj)] ?_
    refine ops_nil (fin_then (st_ret ?_))
    obtain ⟨a0, a3, bb⟩ := MapH.close (x := (some V)) (Kx := [.obj J (.map L K)]) aq (⟨_, _, _, rfl, rfl, an⟩)
    rw [mput_same ac] at a3
    refine fin_conv (l' := [(7, vI 0), (6, sl af ar aj)]) (M' := Mem w0 (ow af ar aj 3 1 a4 :: .blk y [vI o, vI r] 29 :: .blk m [sl g p i, sl b f c, .map (some a)] 96 :: ow b f c 3 1 B :: .obj a (.map s q) :: a0 :: Fz F W :: cs)) rfl (fun u h => (bb (h.pick 8 [6, 1, 0, 2, 3, 4, 5, 7] (by kernel_rfl) (by decide) rfl)).pick 7 [1, 2, 3, 4, 5, 0, 6] (by kernel_rfl) (by decide) rfl) ?_
    obtain ⟨rfl, rfl⟩ := si2 j
    exact fr [6, 7] (af, aj, a4, B, s, q, a0) ⟨bm, h8, h9, a3⟩ 7 [0, 2, 3, 4, 5, 6]
theorem tourref3_Flat_Drop_v2_ok {i : Nat} {g : Option Addr} {j : Nat} {q : List api_Kind} {b : Option Addr} {c : Nat} {f : List Int} {Z : List Value} {a : Nat} {I : Array MapEntry} {H : Nat} {al : List (Int × (Option (List (Int × (List Int)))))} {U : Chunk} {m : Int} {p : Int} {k : Int} (a1 : Mem w0 (.blk i [sl g q j, sl b f c, .map (some a)] 96 :: ow b f c 3 1 Z :: .obj a (.map I H) :: U :: Fz F W :: cs) w) (af : RdS R_api_Kind F W g j q) (ag : RepL (Rep.int .i64) F W f Z) (ah : MapW (fun O : Int => Value.int .i64 O) (Own.mr (fun O : Int => Value.int .i64 O) (Rep.sl (Rep.int .i64)) false) false F W al I H U) {X : Int} {Y : List (Int × (Option (List (Int × (List Int)))))} (r : tourref3_Flat_Drop_v2 q f al m p k = some (X, Y)) : Calls Tryz.prog 28 #[vP i 0, .agg #[vI m, vI p], vI k] w (Post w0 (fun ((C, y, t, B) : (List Value) × (Array MapEntry) × Nat × Chunk) => (RdS R_api_Kind F W g j q) ∧ (RepL (Rep.int .i64) F W f C) ∧ (MapW (fun O : Int => Value.int .i64 O) (Own.mr (fun O : Int => Value.int .i64 O) (Rep.sl (Rep.int .i64)) false) false F W Y y t B)) (fun (C, y, t, B) => vI X) (fun (C, y, t, B) => .blk i [sl g q j, sl b f c, .map (some a)] 96 :: ow b f c 3 1 C :: .obj a (.map y t) :: B :: Fz F W :: cs)) := by
 unfold tourref3_Flat_Drop_v2 at r
 refine sx_calls Tryz.func28 rfl (n := 27) (by kernel_rfl) (l := [(0, vP i 0), (1, .agg #[vI m, vI p]), (2, vI k)]) rfl (by rfl) a1 ?_
 refine st_seq (st_region [oF 0, oF 1] (by rfl) ?_)
 refine oN 4 [vI m, vI p] 29 (fun s => ?_)
 refine oq [oF 1] [(4, vP s 0), (0, vP i 0), (2, vI k)] ?_
 refine ops_nil (fin_then (st_seq (st_seq ?_)))
 refine st_region (oFs 0 9) (by rfl) ?_
 refine oq [oF 0] [(10, vP i 0), (4, vP s 0), (0, vP i 0), (2, vI k)] ?_
 refine oMA 11 0 0 2 ?_
 refine oq [oF 2] [(12, vI k), (11, .agg #[vI m, vI p]), (10, vP i 0), (4, vP s 0), (0, vP i 0), (2, vI k)] ?_
 obtain ⟨N, x3, a2, r⟩ := obind2 r
 refine oV (some 13) 6 [1, 2, 3, 4, 5, 0] 7 [0, 6, 1, 2, 3, 4, 5] (fun _ z => tourref3_Flat_Get_v2_ok z af ag ah a2) ?_
 rintro ⟨J, K, T, D, u, o, G⟩ ⟨a6, ac, ad, V⟩
 refine oq (oFs 4 5) [(8, vI x3), (4, vP s 0), (0, vP i 0), (2, vI k)] ?_
 refine ops_nil (fin_then (st_seq (st_region [oF 0, oF 1] (by rfl) ?_)))
 refine oq [oF 0, oF 1] [(17, .bool (!(x3 == 0))), (8, vI x3), (4, vP s 0), (0, vP i 0), (2, vI k)] ?_
 refine ops_nil (fin_then ?_)
 refine sif r (fun ar r => ?_) (fun ar r => ?_)
 ·
  refine st_seq (st_region [oF 0, oF 1] (by rfl) ?_)
  refine oq [oF 0, oF 1] [(6, vI x3)] ?_
  refine ops_nil (fin_then (st_ret (fin_ret_then ?_)))
  obtain ⟨rfl, rfl⟩ := si2 r
  exact fr [6] (D, u, o, G) ⟨ac, ad, V⟩ 7 [2, 3, 4, 5, 6]
 ·
  refine st_skip (fin_then (st_seq ?_))
  refine st_region_draw [oT 0, oT 1, oT 2, oT 3, oT 4, oT 5, oT 7, oF 6, oF 8] (Mem w0 (ow J N K 3 1 T :: .blk s [vI m, vI p] 29 :: .blk i [sl g q j, sl b f c, .map (some a)] 96 :: ow b f c 3 1 D :: Fz F W :: cs)) (by kernel_rfl) (by kernel_rfl) (by kernel_rfl) (fun _ d _ _ _ h => by cases d <;> exact h) (M' := Mem w0 (ow J N K 3 1 T :: .blk s [vI m, vI p] 29 :: .blk i [sl g q j, sl b f c, .map (some a)] 96 :: ow b f c 3 1 D :: .obj a (.map u o) :: G :: Fz F W :: cs)) (fun A z => ⟨z.drew, z.drew.sub (.cons_cons _ (.cons_cons _ (.cons_cons _ (.cons_cons _ (.cons _ (.cons _ (.cons_cons _ (.refl _))))))))⟩) ?_
  refine oq (oTs 0 3) [(21, vP i 2), (4, vP s 0), (2, vI k)] ?_
  refine oL 22 2 2 ?_
  refine oq [oT 4] [(23, vP s 0), (22, .map (some a)), (2, vI k)] ?_
  refine oL 24 1 0 ?_
  refine oq [oT 7] [(26, vI k), (24, vI m), (22, .map (some a))] ?_
  rcases oel_some r with ⟨L, r⟩ | ⟨a7, L, r⟩
  ·
   refine ops_law (op := (.lookup 94 (.tmp 22) (.tmp 24) false)) (d := some 25) (σ := Unit) (v := fun _ => .map none) (M' := fun _ => Mem w0 (ow J N K 3 1 T :: .blk s [vI m, vI p] 29 :: .blk i [sl g q j, sl b f c, .map (some a)] 96 :: ow b f c 3 1 D :: .obj a (.map u o) :: G :: Fz F W :: cs)) ⟨by kernel_rfl⟩ (fun o_ A ho_ z hS => ⟨(), A, run_lookupV rfl rfl (MapW.lookNil (by exact fun h_ => h_.1) V (KeyLaw.int Tryz.underlying3) Tryz.underlying94 L (fun u_ => Tryz.zeroValue37 u_) false a A (z.mapAt 4 rfl)) o_ ho_, z, hS⟩) (fun _ => ?_)
   refine ops_val (op := (.call { callee := (Go.Callee.builtin Go.Builtin.delete), args := #[(.tmp 25), (.tmp 26)], argTypes := #[37, 3] })) (d := none) (v := .tuple #[]) ⟨by kernel_rfl⟩ (fun o_ A ho_ => run_deleteV rfl rfl (fun ty_ => delete_nil (KeyLaw.int Tryz.underlying3) Tryz.underlying37 k _ ty_ A) o_ ho_) ?_
   refine ops_nil (fin_then (st_seq (st_region [oF 0] (by rfl) ?_)))
   refine oq [oF 0] [(6, vI 0)] ?_
   refine ops_nil (fin_then (st_ret ?_))
   obtain ⟨rfl, rfl⟩ := si2 r
   exact fr [6] (D, u, o, G) ⟨ac, ad, V⟩ 7 [2, 3, 4, 5, 6]
  ·
   have au := getD_some_some L
   obtain ⟨a5, a4, aj, ax, aq, av, hr26⟩ := MapW.look V (KeyLaw.int Tryz.underlying3) Tryz.underlying94 au
   obtain ⟨E, ap, ao, rfl, rfl, a0⟩ := aq
   refine ops_law (op := (.lookup 94 (.tmp 22) (.tmp 24) false)) (d := some 25) (σ := Unit) (v := fun _ => .map (some E)) (M' := fun _ => Mem w0 (ow J N K 3 1 T :: .blk s [vI m, vI p] 29 :: .blk i [sl g q j, sl b f c, .map (some a)] 96 :: ow b f c 3 1 D :: .obj a (.map u o) :: G :: Fz F W :: cs)) ⟨by kernel_rfl⟩ (fun o_ A ho_ z hS => ⟨(), A, run_lookupV rfl rfl (hr26 false a A (z.mapAt 4 rfl)) o_ ho_, z, hS⟩) (fun _ => ?_)
   refine ops_conv (l' := [(25, .map (some E)), (26, vI k), (24, vI m), (22, .map (some a))]) (M' := Mem w0 (.obj E (.map ap ao) :: ow J N K 3 1 T :: .blk s [vI m, vI p] 29 :: .blk i [sl g q j, sl b f c, .map (some a)] 96 :: ow b f c 3 1 D :: .obj a (.map u o) :: aj :: Fz F W :: cs)) rfl (fun A h => (av (h.pick 7 [5, 0, 1, 2, 3, 4, 6] (by kernel_rfl) (by decide) rfl)).pick 8 [1, 2, 3, 4, 5, 6, 0, 7] (by kernel_rfl) (by decide) rfl) ?_
   obtain ⟨a3, ay, r⟩ := obind r
   obtain ⟨ab, aa, am, hrun37⟩ := MapOK.delete a0 (KeyLaw.int Tryz.underlying3) Tryz.underlying37 k
   rw [Option.some.inj ay] at am
   refine ops_law (op := (.call { callee := (Go.Callee.builtin Go.Builtin.delete), args := #[(.tmp 25), (.tmp 26)], argTypes := #[37, 3] })) (d := none) (σ := Unit) (v := fun _ => .tuple #[]) (M' := fun _ => Mem w0 (.obj E (.map ab aa) :: ow J N K 3 1 T :: .blk s [vI m, vI p] 29 :: .blk i [sl g q j, sl b f c, .map (some a)] 96 :: ow b f c 3 1 D :: .obj a (.map u o) :: aj :: Fz F W :: cs)) ⟨by kernel_rfl⟩ (fun o_ A ho_ z hS => have h' := z.setObj 0 rfl _; ⟨(), _, run_deleteV rfl rfl (fun ty_ => hrun37 E _ ty_ A (z.mapAt 0 rfl)) o_ ho_, h', (by exact h'.sub (.cons _ (.cons_cons _ (.cons_cons _ (.cons_cons _ (.cons_cons _ (.cons _ (.cons _ (.cons_cons _ (.refl _))))))))))⟩) (fun _ => ?_)
   refine ops_nil (fin_then (st_seq (st_region [oF 0] (by rfl) ?_)))
   refine oq [oF 0] [(6, vI 0)] ?_
   refine ops_nil (fin_then (st_ret ?_))
   obtain ⟨a8, az, r⟩ := obind r
   obtain ⟨ak, an, aw⟩ := MapH.close (x := (some a3)) (Kx := [.obj E (.map ab aa)]) ax (⟨_, _, _, rfl, rfl, am⟩)
   rw [Option.some.inj az] at an
   refine fin_conv (l' := [(6, vI 0)]) (M' := Mem w0 (ow J N K 3 1 T :: .blk s [vI m, vI p] 29 :: .blk i [sl g q j, sl b f c, .map (some a)] 96 :: ow b f c 3 1 D :: .obj a (.map u o) :: ak :: Fz F W :: cs)) rfl (fun A h => (aw (h.pick 8 [6, 0, 1, 2, 3, 4, 5, 7] (by kernel_rfl) (by decide) rfl)).pick 7 [1, 2, 3, 4, 5, 0, 6] (by kernel_rfl) (by decide) rfl) ?_
   obtain ⟨rfl, rfl⟩ := si2 r
   exact fr [6] (D, u, o, ak) ⟨ac, ad, an⟩ 7 [2, 3, 4, 5, 6]
theorem tourlaw3_WorldChanges_4_v2_ok {q : Nat} {f : Option Addr} {k : Nat} {t : List api_Kind} {g : Option Addr} {m : Nat} {p : List Int} {C : List Value} {j : Nat} {s : Array MapEntry} {r : Nat} {I : List (Int × (Option (List (Int × (List Int)))))} {z : Chunk} {c : Nat} {u : Int} {v : Int} {d : Nat} {x : Int} (M : Mem w0 (.blk q [sl f t k, sl g p m, .map (some j)] 96 :: ow g p m 3 1 C :: .obj j (.map s r) :: z :: .blk c [vI u, vI v] 29 :: .blk d [vI x] 3 :: Fz F W :: cs) w) (D : RdS R_api_Kind F W f k t) (E : RepL (Rep.int .i64) F W p C) (G : MapW (fun y : Int => Value.int .i64 y) (Own.mr (fun y : Int => Value.int .i64 y) (Rep.sl (Rep.int .i64)) false) false F W I s r z) {A : Int} {B : List (Int × (Option (List (Int × (List Int)))))} (H : tourlaw3_WorldChanges_4_v2 t p I u v x = some (A, B)) : Calls Tryz.prog 27 #[vP q 0, vP c 0, vP d 0] w (Post w0 (fun ((o, b, a, i) : (List Value) × (Array MapEntry) × Nat × Chunk) => (RdS R_api_Kind F W f k t) ∧ (RepL (Rep.int .i64) F W p o) ∧ (MapW (fun y : Int => Value.int .i64 y) (Own.mr (fun y : Int => Value.int .i64 y) (Rep.sl (Rep.int .i64)) false) false F W B b a i)) (fun (o, b, a, i) => vI A) (fun (o, b, a, i) => .blk q [sl f t k, sl g p m, .map (some j)] 96 :: ow g p m 3 1 o :: .obj j (.map b a) :: i :: .blk c [vI u, vI v] 29 :: .blk d [vI x] 3 :: Fz F W :: cs)) := by
 unfold tourlaw3_WorldChanges_4_v2 at H
 refine sx_calls Tryz.func27 rfl (n := 9) (by kernel_rfl) (l := [(0, vP q 0), (1, vP c 0), (2, vP d 0)]) rfl (by rfl) M ?_
 refine st_seq (st_region [oF 0] (by rfl) ?_)
 refine oq [oF 0] [(0, vP q 0), (1, vP c 0), (2, vP d 0)] ?_
 refine ops_nil (fin_then (st_seq ?_))
 refine st_region (oFs 0 5) (by rfl) ?_
 refine oq [oF 0] [(5, vP q 0), (1, vP c 0), (2, vP d 0)] ?_
 refine oMA 6 4 0 2 ?_
 refine oM 7 5 0 ?_
 obtain ⟨X, Z, N, H⟩ := obind2 H
 refine oV (some 8) 7 [0, 1, 2, 3, 6, 4, 5] 7 [0, 1, 2, 3, 5, 6, 4] (fun _ V => tourref3_Flat_Drop_v2_ok V D E G N) ?_
 rintro ⟨Y, K, J, O⟩ ⟨T, U, L⟩
 refine oq [oF 4] [(4, vI X)] ?_
 refine ops_nil (fin_then (st_ret ?_))
 obtain ⟨rfl, rfl⟩ := si2 H
 exact fr [4] (Y, K, J, O) ⟨T, U, L⟩ 0 []
end Go.Proofs.YtbfndcookgijfaaGreatDoor.C
