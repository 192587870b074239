/- The Go functions come to what the plain functions tell. No condition. -/
import Derived.Test.YtbfndcookgijfaaGreatDoorProg
import Derived.Test.YtbfndcookgijfaaGreatDoorFnC
import Derived.Test.YtbfndcookgijfaaGreatDoorExSq
import Derived.Test.YtbfndcookgijfaaGreatDoorExUnr
import Derived.Test.YtbfndcookgijfaaGreatDoorWkC5
import Derived.Test.YtbfndcookgijfaaGreatDoorWkC6
import Derived.Test.YtbfndcookgijfaaGreatDoorWkC7
import Derived.Test.YtbfndcookgijfaaGreatDoorWkC9
import Derived.Test.YtbfndcookgijfaaGreatDoorWkC10
import Derived.Test.YtbfndcookgijfaaGreatDoorExOwnM
namespace Go.Proofs.YtbfndcookgijfaaGreatDoor.C
open Go Go.RowKit Go.Proofs.YtbfndcookgijfaaGreatDoor.Sx
set_option linter.unusedVariables false
set_option maxHeartbeats 4000000
set_option maxRecDepth 100000
variable {w0 w : World} {cs : List Chunk} {F : Nat → Prop} {W : World}
theorem tourlaw3_WorldChanges_ok {p : Option Addr} {r : Nat} {G : List api_Kind} {q : Option Addr} {s : Nat} {H : List Int} {i : Option Addr} {j : Nat} {E : List api_Item} {J : Int} {K : Int} {T : Int} {y : Option Addr} {A : Nat} {M : List Int} {k : Int} (kh : Mem w0 (Fz F W :: cs) w) (B : RdS R_api_Kind F W p r G) (C : RdS (Rep.int .i64) F W q s H) (x : RdS R_api_Item F W i j E) (ac : RdS (Rep.int .i64) F W y A M) {cv : Bool} (t : tourlaw3_WorldChanges G H E J K T M k = some cv) : Calls Tryz.prog 4 #[.agg #[sl p G r, sl q H s, sl i E j], .agg #[vI J, vI K], .agg #[vI T, sl y M A], vI k] w (Post w0 (fun ((f1, f2) : (Nat → Prop) × World) => (Ext w0 F W f1 f2)) (fun (f1, f2) => .bool cv) (fun (f1, f2) => Fz f1 f2 :: cs)) := by
 unfold tourlaw3_WorldChanges at t
 refine sx_calls Tryz.func4 rfl (n := 131) (by kernel_rfl) (l := [(0, .agg #[sl p G r, sl q H s, sl i E j]), (1, .agg #[vI J, vI K]), (2, .agg #[vI T, sl y M A]), (3, vI k)]) rfl (by rfl) kh ?_
 refine st_seq ?_
 refine st_region (oFs 0 5) (by rfl) ?_
 refine oN 4 [sl p G r, sl q H s, sl i E j] 26 (fun D => ?_)
 refine oN 5 [vI J, vI K] 29 (fun a => ?_)
 refine oN 6 [vI T, sl y M A] 42 (fun g => ?_)
 refine oN 7 [vI k] 3 (fun c => ?_)
 refine oq [oF 4] [(7, vP c 0), (6, vP g 0), (5, vP a 0), (4, vP D 0)] ?_
 refine ops_nil (fin_then (st_seq (st_seq ?_)))
 refine st_region (oFs 0 8) (by rfl) ?_
 obtain ⟨x5, x6, x7, ki, t⟩ := obind3 t
 refine oV (some 24) 5 [4, 0, 1, 2, 3] 8 [0, 1, 2, 4, 5, 6, 7, 3] (fun _ O => tourlaw3_pair_ok O ki) ?_
 rintro ⟨A9, bw, bi, bx, bj, bz, c1, c2⟩ ⟨dk, dl, dm, b9⟩
 have ac := ac.ext b9
 have B := B.ext b9
 have C := C.ext b9
 have x := x.ext b9
 refine oq [oF 1] [(25, .agg #[vI 0, vI 0]), (24, .agg #[sl A9 x5 2, sl bi x6 2, sl bj x7 2]), (7, vP c 0), (6, vP g 0), (5, vP a 0), (4, vP D 0)] ?_
 obtain ⟨a2, hu, jy, t⟩ := obind2 t
 refine ops_callI (σ := (Option Addr) × Nat × (List Value)) (d := some 26) (f := 18) (args := #[.agg #[sl A9 x5 2, sl bi x6 2, sl bj x7 2], .agg #[vI 0, vI 0], vI 1]) (v := (fun u => match u with | (a0, a1, a7) => .tuple #[sl a0 a2 a1, vI hu])) (I := (fun u => match u with | (a0, a1, a7) => (RepL (Rep.int .i64) c1 c2 a2 a7))) (M' := (fun u => match u with | (a0, a1, a7) => Mem w0 (ow a0 a2 a1 3 1 a7 :: ow A9 x5 2 86 2 bw :: ow bi x6 2 3 1 bx :: ow bj x7 2 61 3 bz :: .blk c [vI k] 3 :: .blk g [vI T, sl y M A] 42 :: .blk a [vI J, vI K] 29 :: .blk D [sl p G r, sl q H s, sl i E j] 26 :: Fz c1 c2 :: cs))) ⟨by kernel_rfl⟩ (fun U O hS => (@world_Get_ok U U [] (fun b => b < U.heap.size) U A9 2 x5 bi 2 x6 bj 2 x7 0 0 1 (Mem.fz0 U) (O.ordS 0 7 rfl rfl dk rfl rfl) (O.ordS 1 7 rfl rfl dl rfl rfl) (O.ordS 2 7 rfl rfl dm rfl rfl) a2 hu jy).mono (by rintro e w' ⟨⟨a0, a1, a7⟩, c5, rfl, h'⟩; have h' : Mem U [ow a0 a2 a1 3 1 a7] w' := h'.pick 2 [0] (by kernel_rfl) (by decide) rfl; exact ⟨(a0, a1, a7), (RepL.move' (fun h => h) c5), rfl, O.join h' rfl, trivial⟩)) ?_
 rintro ⟨a0, a1, a7⟩ c5
 refine oq (oFs 3 5) [(10, vI hu), (9, sl a0 a2 a1), (7, vP c 0), (6, vP g 0), (5, vP a 0), (4, vP D 0)] ?_
 refine ops_nil (fin_then (st_seq ?_))
 refine st_region (oFs 0 8) (by rfl) ?_
 refine oq (oFs 0 3) [(31, .bool (!(hu == 0))), (9, sl a0 a2 a1), (7, vP c 0), (6, vP g 0), (5, vP a 0), (4, vP D 0)] ?_
 refine ob t [31] (fun jt t => ?_) (fun jt t => ?_)
 ·
  refine oq (oFs 3 5) [(36, .bool true), (7, vP c 0), (6, vP g 0), (5, vP a 0), (4, vP D 0)] ?_
  refine ops_nil (fin_then (st_true rfl (st_seq (st_region [oF 0] (by rfl) ?_))))
  refine oq [oF 0] [(8, .bool false)] ?_
  refine ops_nil (fin_then (st_ret (fin_ret_then ?_)))
  obtain rfl := Option.some.inj t
  exact fr [8] (c1, c2) b9 9 [8]
 ·
  refine oq [oF 3] [(32, sl a0 a2 a1), (31, .bool false), (7, vP c 0), (6, vP g 0), (5, vP a 0), (4, vP D 0)] ?_
  have dn : RepL (Rep.int .i64) c1 c2 ([9] : List Int) ([vI 9]) := (RepL.cons (R := (Rep.int .i64)) (F := c1) (w := c2) (vs := [vI 9]) (ys := []) rfl RepL.nil)
  refine oB 33 [vI 9] 3 1 1 (fun bo => ?_)
  obtain ⟨id, jz, t⟩ := obind t
  refine ops_callI (σ := Unit) (d := some 34) (f := 19) (args := #[sl a0 a2 a1, .slice (sa bo) ([9] : List Int).length 1]) (v := (fun _ => .bool id)) (I := (fun _ => True)) (M' := (fun _ => Mem w0 (orow (sa bo) ([9] : List Int).length 1 3 1 ([vI 9]) :: ow a0 a2 a1 3 1 a7 :: ow A9 x5 2 86 2 bw :: ow bi x6 2 3 1 bx :: ow bj x7 2 61 3 bz :: .blk c [vI k] 3 :: .blk g [vI T, sl y M A] 42 :: .blk a [vI J, vI K] 29 :: .blk D [sl p G r, sl q H s, sl i E j] 26 :: Fz c1 c2 :: cs))) ⟨by kernel_rfl⟩ (fun U O hS => (@slices_Equal_int_int_ok U U [] (fun b => b < U.heap.size) U a0 a1 a2 (sa bo) 1 ([9] : List Int) (Mem.fz0 U) (O.ordS 1 9 rfl rfl c5 rfl rfl) (O.ordS 0 9 rfl rfl dn rfl rfl) id jz).mono (by rintro e w' ⟨_, -, rfl, h'⟩; have h' : Mem U [] w' := h'.pick 1 [] (by kernel_rfl) (by decide) rfl; exact ⟨(), trivial, rfl, O.join h' rfl, trivial⟩)) ?_
  rintro _ -
  refine oq [oF 6, oF 7] [(36, .bool (!id)), (7, vP c 0), (6, vP g 0), (5, vP a 0), (4, vP D 0)] ?_
  refine ops_nil (fin_then ?_)
  refine sif t (fun ju t => ?_) (fun ju t => ?_)
  ·
   refine st_seq (st_region [oF 0] (by rfl) ?_)
   refine oq [oF 0] [(8, .bool false)] ?_
   refine ops_nil (fin_then (st_ret (fin_ret_then ?_)))
   obtain rfl := Option.some.inj t
   exact fr [8] (c1, c2) b9 10 [9]
  ·
   refine st_skip (fin_then (st_seq (st_seq ?_)))
   refine st_region_draw [oT 0, oT 1, oT 3, oT 4, oT 5, oF 2, oF 6, oT 7] (Mem w0 (orow (sa bo) ([9] : List Int).length 1 3 1 ([vI 9]) :: ow a0 a2 a1 3 1 a7 :: ow A9 x5 2 86 2 bw :: ow bi x6 2 3 1 bx :: ow bj x7 2 61 3 bz :: .blk c [vI k] 3 :: .blk g [vI T, sl y M A] 42 :: .blk a [vI J, vI K] 29 :: .blk D [sl p G r, sl q H s, sl i E j] 26 :: Fz c1 c2 :: cs)) (by kernel_rfl) (by kernel_rfl) (by kernel_rfl) (fun _ d _ _ _ h => by cases d <;> exact h) (M' := Mem w0 (orow (sa bo) ([9] : List Int).length 1 3 1 ([vI 9]) :: ow a0 a2 a1 3 1 a7 :: ow A9 x5 2 86 2 bw :: ow bi x6 2 3 1 bx :: ow bj x7 2 61 3 bz :: .blk c [vI k] 3 :: .blk g [vI T, sl y M A] 42 :: .blk a [vI J, vI K] 29 :: .blk D [sl p G r, sl q H s, sl i E j] 26 :: Fz c1 c2 :: cs)) (fun U O => ⟨O.drew, O.drew.sub (.cons_cons _ (.cons_cons _ (.cons_cons _ (.cons_cons _ (.cons_cons _ (.cons_cons _ (.cons_cons _ (.cons_cons _ (.cons_cons _ (.cons_cons _ (.refl _)))))))))))⟩) ?_
   refine oLA 37 8 0 3 ?_
   refine oLA 38 7 0 2 ?_
   refine oq [oT 3] [(40, vP D 2), (38, .agg #[vI J, vI K]), (37, .agg #[sl p G r, sl q H s, sl i E j]), (7, vP c 0), (6, vP g 0), (5, vP a 0), (4, vP D 0)] ?_
   refine oL 41 8 2 ?_
   refine oq [oT 5] [(42, .func (.func 22) #[] #[vP a 0]), (41, sl i E j), (38, .agg #[vI J, vI K]), (37, .agg #[sl p G r, sl q H s, sl i E j]), (7, vP c 0), (6, vP g 0), (5, vP a 0), (4, vP D 0)] ?_
   obtain ⟨ie, j0, t⟩ := obind t
   refine ops_callI (σ := Unit) (d := some 39) (f := 20) (args := #[.agg #[sl p G r, sl q H s, sl i E j], .agg #[vI J, vI K]]) (v := (fun _ => vI ie)) (I := (fun _ => True)) (M' := (fun _ => Mem w0 (orow (sa bo) ([9] : List Int).length 1 3 1 ([vI 9]) :: ow a0 a2 a1 3 1 a7 :: ow A9 x5 2 86 2 bw :: ow bi x6 2 3 1 bx :: ow bj x7 2 61 3 bz :: .blk c [vI k] 3 :: .blk g [vI T, sl y M A] 42 :: .blk a [vI J, vI K] 29 :: .blk D [sl p G r, sl q H s, sl i E j] 26 :: Fz c1 c2 :: cs))) ⟨by kernel_rfl⟩ (fun U O hS => (@world_Find_ok w0 U (orow (sa bo) ([9] : List Int).length 1 3 1 ([vI 9]) :: ow a0 a2 a1 3 1 a7 :: ow A9 x5 2 86 2 bw :: ow bi x6 2 3 1 bx :: ow bj x7 2 61 3 bz :: .blk c [vI k] 3 :: .blk g [vI T, sl y M A] 42 :: .blk a [vI J, vI K] 29 :: .blk D [sl p G r, sl q H s, sl i E j] 26 :: cs) c1 c2 p r G q s H i j E J K (O.pick 10 [9, 0, 1, 2, 3, 4, 5, 6, 7, 8] (by kernel_rfl) (by decide) rfl) B C x ie j0).mono (by rintro e w' ⟨_, -, rfl, h'⟩; have h' : Mem w0 (orow (sa bo) ([9] : List Int).length 1 3 1 ([vI 9]) :: ow a0 a2 a1 3 1 a7 :: ow A9 x5 2 86 2 bw :: ow bi x6 2 3 1 bx :: ow bj x7 2 61 3 bz :: .blk c [vI k] 3 :: .blk g [vI T, sl y M A] 42 :: .blk a [vI J, vI K] 29 :: .blk D [sl p G r, sl q H s, sl i E j] 26 :: Fz c1 c2 :: cs) w' := (h'.pick 10 [1, 2, 3, 4, 5, 6, 7, 8, 9, 0] (by kernel_rfl) (by decide) rfl); exact ⟨(), trivial, rfl, h', (by exact h'.sub (.cons_cons _ (.cons_cons _ (.cons_cons _ (.cons_cons _ (.cons_cons _ (.cons_cons _ (.cons_cons _ (.cons_cons _ (.cons_cons _ (.cons_cons _ (.refl _))))))))))))⟩)) ?_
   rintro _ -
   obtain ⟨ig, j1, t⟩ := obind t
   refine ops_callI (σ := Unit) (d := some 43) (f := 21) (args := #[sl i E j, .func (.func 22) #[] #[vP a 0]]) (v := (fun _ => vI ig)) (I := (fun _ => True)) (M' := (fun _ => Mem w0 (orow (sa bo) ([9] : List Int).length 1 3 1 ([vI 9]) :: ow a0 a2 a1 3 1 a7 :: ow A9 x5 2 86 2 bw :: ow bi x6 2 3 1 bx :: ow bj x7 2 61 3 bz :: .blk c [vI k] 3 :: .blk g [vI T, sl y M A] 42 :: .blk a [vI J, vI K] 29 :: .blk D [sl p G r, sl q H s, sl i E j] 26 :: Fz c1 c2 :: cs))) ⟨by kernel_rfl⟩ (fun U O hS => (@slices_IndexFunc_api_Item_api_Item_v2_ok w0 U (orow (sa bo) ([9] : List Int).length 1 3 1 ([vI 9]) :: ow a0 a2 a1 3 1 a7 :: ow A9 x5 2 86 2 bw :: ow bi x6 2 3 1 bx :: ow bj x7 2 61 3 bz :: .blk c [vI k] 3 :: .blk g [vI T, sl y M A] 42 :: .blk D [sl p G r, sl q H s, sl i E j] 26 :: cs) c1 c2 i j E a J K (O.pick 10 [7, 9, 0, 1, 2, 3, 4, 5, 6, 8] (by kernel_rfl) (by decide) rfl) x ig j1).mono (by rintro e w' ⟨_, -, rfl, h'⟩; have h' : Mem w0 (orow (sa bo) ([9] : List Int).length 1 3 1 ([vI 9]) :: ow a0 a2 a1 3 1 a7 :: ow A9 x5 2 86 2 bw :: ow bi x6 2 3 1 bx :: ow bj x7 2 61 3 bz :: .blk c [vI k] 3 :: .blk g [vI T, sl y M A] 42 :: .blk a [vI J, vI K] 29 :: .blk D [sl p G r, sl q H s, sl i E j] 26 :: Fz c1 c2 :: cs) w' := (h'.pick 10 [2, 3, 4, 5, 6, 7, 8, 0, 9, 1] (by kernel_rfl) (by decide) rfl); exact ⟨(), trivial, rfl, h', (by exact h'.sub (.cons_cons _ (.cons_cons _ (.cons_cons _ (.cons_cons _ (.cons_cons _ (.cons_cons _ (.cons_cons _ (.cons_cons _ (.cons_cons _ (.cons_cons _ (.refl _))))))))))))⟩)) ?_
   rintro _ -
   refine oq [oT 7] [(44, .bool (!(ie == ig))), (7, vP c 0), (6, vP g 0), (5, vP a 0), (4, vP D 0)] ?_
   refine ops_nil (fin_then ?_)
   refine sif t (fun jv t => ?_) (fun jv t => ?_)
   ·
    refine st_seq (st_region [oF 0] (by rfl) ?_)
    refine oq [oF 0] [(8, .bool false)] ?_
    refine ops_nil (fin_then (st_ret (fin_ret_then ?_)))
    obtain rfl := Option.some.inj t
    exact fr [8] (c1, c2) b9 10 [9]
   ·
    refine st_skip (fin_then (st_seq ?_))
    refine st_region (oFs 0 5) (by rfl) ?_
    refine oq (oFs 0 3) [(47, .func (.func 27) #[] #[vP a 0, vP c 0]), (46, .func (.func 25) #[] #[vP a 0, vP g 0]), (45, .func (.func 23) #[] #[vP a 0]), (7, vP c 0), (6, vP g 0), (5, vP a 0), (4, vP D 0)] ?_
    refine ops_new (d := some 48) (o := .cells #[.func (.func 23) #[] #[vP a 0], .func (.func 25) #[] #[vP a 0, vP g 0], .func (.func 27) #[] #[vP a 0, vP c 0]] 64) (v := fun m => .slice (sa m) 3 3) (M' := fun m => Mem w0 (.blk m [.func (.func 23) #[] #[vP a 0], .func (.func 25) #[] #[vP a 0, vP g 0], .func (.func 27) #[] #[vP a 0, vP c 0]] 64 :: orow (sa bo) ([9] : List Int).length 1 3 1 ([vI 9]) :: ow a0 a2 a1 3 1 a7 :: ow A9 x5 2 86 2 bw :: ow bi x6 2 3 1 bx :: ow bj x7 2 61 3 bz :: .blk c [vI k] 3 :: .blk g [vI T, sl y M A] 42 :: .blk a [vI J, vI K] 29 :: .blk D [sl p G r, sl q H s, sl i E j] 26 :: Fz c1 c2 :: cs)) (fun m => ⟨by kernel_rfl⟩) (fun U O hS => ⟨O.blk [.func (.func 23) #[] #[vP a 0], .func (.func 25) #[] #[vP a 0, vP g 0], .func (.func 27) #[] #[vP a 0, vP c 0]] 64, trivial⟩) (fun m => ?_)
    refine oq [oF 4] [(11, .slice (sa m) 3 3), (7, vP c 0), (6, vP g 0), (5, vP a 0), (4, vP D 0)] ?_
    refine ops_nil (fin_then (st_seq (st_seq ?_)))
    refine st_region (oFs 0 3) (by rfl) ?_
    refine oq (oFs 0 3) [(51, vI 0), (50, vI 3), (49, .slice (sa m) 3 3), (7, vP c 0), (6, vP g 0), (5, vP a 0), (4, vP D 0)] ?_
    refine ops_nil (fin_then (st_block ?_))
    refine st_unroll ?_
    refine st_seq (st_region [oF 0] (by rfl) ?_)
    refine oq [oF 0] [(52, .bool true), (51, vI 0), (50, vI 3), (49, .slice (sa m) 3 3), (7, vP c 0), (6, vP g 0), (5, vP a 0), (4, vP D 0)] ?_
    refine ops_nil (fin_then (st_seq (st_true rfl (st_skip (fin_then ?_)))))
    refine st_join1 (σ := (Nat → Prop) × World) (L := fun u => match u with | (gs, gt) => [(4, vP D 0), (5, vP a 0), (6, vP g 0), (7, vP c 0), (49, .slice (sa m) 3 3), (50, vI 3), (51, vI 0)]) (N := fun u => match u with | (gs, gt) => Mem w0 (.blk D [sl p G r, sl q H s, sl i E j] 26 :: .blk a [vI J, vI K] 29 :: .blk g [vI T, sl y M A] 42 :: .blk c [vI k] 3 :: .blk m [.func (.func 23) #[] #[vP a 0], .func (.func 25) #[] #[vP a 0, vP g 0], .func (.func 27) #[] #[vP a 0, vP c 0]] 64 :: Fz gs gt :: cs)) (I := fun u => match u with | (gs, gt) => ((tourlaw3_WorldChanges_j1 G H E J K T M k) = some cv) ∧ (Ext w0 c1 c2 gs gt)) ?_ ?_
    ·
     rintro ⟨gs, gt⟩ ⟨t, d0⟩
     have B := B.ext d0
     have C := C.ext d0
     have x := x.ext d0
     have ac := ac.ext d0
     unfold tourlaw3_WorldChanges_j1 at t
     refine st_region [oF 0, oF 1] (by rfl) ?_
     refine oq [oF 0, oF 1] [(51, vI 1), (4, vP D 0), (5, vP a 0), (6, vP g 0), (7, vP c 0), (49, .slice (sa m) 3 3), (50, vI 3)] ?_
     refine ops_nil ?_
     refine fin_head ?_
     refine st_seq (st_region [oF 0] (by rfl) ?_)
     refine oq [oF 0] [(52, .bool true), (51, vI 1), (4, vP D 0), (5, vP a 0), (6, vP g 0), (7, vP c 0), (49, .slice (sa m) 3 3), (50, vI 3)] ?_
     refine ops_nil (fin_then (st_seq (st_true rfl (st_skip (fin_then ?_)))))
     refine st_join1 (σ := (Nat → Prop) × World) (L := fun u => match u with | (ga, gg) => [(4, vP D 0), (5, vP a 0), (6, vP g 0), (7, vP c 0), (49, .slice (sa m) 3 3), (50, vI 3), (51, vI 1)]) (N := fun u => match u with | (ga, gg) => Mem w0 (.blk D [sl p G r, sl q H s, sl i E j] 26 :: .blk a [vI J, vI K] 29 :: .blk g [vI T, sl y M A] 42 :: .blk c [vI k] 3 :: .blk m [.func (.func 23) #[] #[vP a 0], .func (.func 25) #[] #[vP a 0, vP g 0], .func (.func 27) #[] #[vP a 0, vP c 0]] 64 :: Fz ga gg :: cs)) (I := fun u => match u with | (ga, gg) => ((tourlaw3_WorldChanges_j2 G H E J K k) = some cv) ∧ (RdS (Rep.int .i64) ga gg y A M) ∧ (Ext w0 gs gt ga gg)) ?_ ?_
     ·
      rintro ⟨ga, gg⟩ ⟨t, ch, fl⟩
      have B := B.ext fl
      have C := C.ext fl
      have x := x.ext fl
      unfold tourlaw3_WorldChanges_j2 at t
      refine st_region [oF 0, oF 1] (by rfl) ?_
      refine oq [oF 0, oF 1] [(51, vI 2), (4, vP D 0), (5, vP a 0), (6, vP g 0), (7, vP c 0), (49, .slice (sa m) 3 3), (50, vI 3)] ?_
      refine ops_nil ?_
      refine fin_head ?_
      refine st_seq (st_region [oF 0] (by rfl) ?_)
      refine oq [oF 0] [(52, .bool true), (51, vI 2), (4, vP D 0), (5, vP a 0), (6, vP g 0), (7, vP c 0), (49, .slice (sa m) 3 3), (50, vI 3)] ?_
      refine ops_nil (fin_then (st_seq (st_true rfl (st_skip (fin_then ?_)))))
      refine st_join1 (σ := (Nat → Prop) × World) (L := fun u => match u with | (fh, fi) => [(4, vP D 0), (5, vP a 0), (6, vP g 0), (7, vP c 0), (49, .slice (sa m) 3 3), (50, vI 3), (51, vI 2)]) (N := fun u => match u with | (fh, fi) => Mem w0 (.blk D [sl p G r, sl q H s, sl i E j] 26 :: .blk a [vI J, vI K] 29 :: .blk g [vI T, sl y M A] 42 :: .blk c [vI k] 3 :: .blk m [.func (.func 23) #[] #[vP a 0], .func (.func 25) #[] #[vP a 0, vP g 0], .func (.func 27) #[] #[vP a 0, vP c 0]] 64 :: Fz fh fi :: cs)) (I := fun u => match u with | (fh, fi) => ((tourlaw3_WorldChanges_j3 G H E J K k) = some cv) ∧ (Ext w0 ga gg fh fi)) ?_ ?_
      ·
       rintro ⟨fh, fi⟩ ⟨t, gw⟩
       have B := B.ext gw
       have C := C.ext gw
       have x := x.ext gw
       have ch := ch.ext gw
       unfold tourlaw3_WorldChanges_j3 at t
       refine st_region [oF 0, oF 1] (by rfl) ?_
       refine oq [oF 0, oF 1] [(51, vI 3), (4, vP D 0), (5, vP a 0), (6, vP g 0), (7, vP c 0), (49, .slice (sa m) 3 3), (50, vI 3)] ?_
       refine ops_nil ?_
       refine fin_head ?_
       refine st_seq (st_region [oF 0] (by rfl) ?_)
       refine oq [oF 0] [(52, .bool false), (51, vI 3), (4, vP D 0), (5, vP a 0), (6, vP g 0), (7, vP c 0), (49, .slice (sa m) 3 3)] ?_
       refine ops_nil (fin_then (st_seq (st_false rfl (st_exit (fin_exit_then (fin_exit_then (fin_exit (fin_then (st_seq ?_)))))))))
       refine st_region (oFs 0 9) (by rfl) ?_
       refine oMA 103 0 0 3 ?_
       refine oMA 104 1 0 2 ?_
       refine oM 105 3 0 ?_
       obtain ⟨a6, dp, j2, t⟩ := obind2 t
       refine oV (some 106) 6 [5, 0, 1, 2, 3, 4] 7 [0, 2, 3, 4, 5, 6, 1] (fun _ O => world_Get_ok O B C x j2) ?_
       rintro ⟨a8, a9, fm⟩ gv
       refine oq (oFs 4 5) [(19, vI dp), (18, sl a8 a6 a9), (4, vP D 0), (5, vP a 0), (7, vP c 0)] ?_
       refine ops_nil (fin_then (st_seq ?_))
       refine st_region (oFs 0 7) (by rfl) ?_
       refine oMA 110 1 0 3 ?_
       obtain ⟨kj, ic, t⟩ := obind t
       rcases kj with gp | ⟨hv, gq, kk⟩
       ·
        have t := (sel_l t)
        refine ops_callI (σ := (Nat → Prop) × World) (d := some 111) (f := 13) (args := #[.agg #[sl p G r, sl q H s, sl i E j]]) (v := (fun u => match u with | (ek, el) => .tuple #[.pointer none, vI gp])) (I := (fun u => match u with | (ek, el) => (Ext w0 fh fi ek el))) (M' := (fun u => match u with | (ek, el) => Mem w0 (ow a8 a6 a9 3 1 fm :: .blk D [sl p G r, sl q H s, sl i E j] 26 :: .blk a [vI J, vI K] 29 :: .blk g [vI T, sl y M A] 42 :: .blk c [vI k] 3 :: .blk m [.func (.func 23) #[] #[vP a 0], .func (.func 25) #[] #[vP a 0, vP g 0], .func (.func 27) #[] #[vP a 0, vP c 0]] 64 :: Fz ek el :: cs))) ⟨by kernel_rfl⟩ (fun U O hS => (tourref3_Open_ok w0 U (ow a8 a6 a9 3 1 fm :: .blk D [sl p G r, sl q H s, sl i E j] 26 :: .blk a [vI J, vI K] 29 :: .blk g [vI T, sl y M A] 42 :: .blk c [vI k] 3 :: .blk m [.func (.func 23) #[] #[vP a 0], .func (.func 25) #[] #[vP a 0, vP g 0], .func (.func 27) #[] #[vP a 0, vP c 0]] 64 :: cs) fh fi p r G q s H i j E (O.pick 7 [6, 0, 1, 2, 3, 4, 5] (by kernel_rfl) (by decide) rfl) B C x _ ic).mono (by intro e w' hq_; obtain ⟨ek, el, fy, rfl, h'⟩ := (psel_l hq_); have h' : Mem w0 (ow a8 a6 a9 3 1 fm :: .blk D [sl p G r, sl q H s, sl i E j] 26 :: .blk a [vI J, vI K] 29 :: .blk g [vI T, sl y M A] 42 :: .blk c [vI k] 3 :: .blk m [.func (.func 23) #[] #[vP a 0], .func (.func 25) #[] #[vP a 0, vP g 0], .func (.func 27) #[] #[vP a 0, vP c 0]] 64 :: Fz ek el :: cs) w' := (h'.pick 7 [1, 2, 3, 4, 5, 6, 0] (by kernel_rfl) (by decide) rfl); exact ⟨(ek, el), fy, rfl, h', trivial⟩)) ?_
        rintro ⟨ek, el⟩ fy
        have B := B.ext fy
        have C := C.ext fy
        have x := x.ext fy
        have gv := gv.ext fy
        have ch := ch.ext fy
        refine oq (oFs 2 5) [(21, vI gp), (20, .pointer none), (19, vI dp), (18, sl a8 a6 a9), (5, vP a 0), (7, vP c 0)] ?_
        refine ops_nil (fin_then (st_seq (st_region [oF 0] (by rfl) ?_)))
        refine oq [oF 0] [(22, .slice none 0 0), (21, vI gp), (20, .pointer none), (19, vI dp), (18, sl a8 a6 a9), (5, vP a 0), (7, vP c 0)] ?_
        refine ops_nil (fin_then ?_)
        refine st_join1 (σ := Int) (L := fun u => match u with | gx => [(18, sl a8 a6 a9), (19, vI dp), (21, vI gx), (22, .slice none 0 0)]) (N := fun u => match u with | gx => Mem w0 (ow a8 a6 a9 3 1 fm :: Fz ek el :: cs)) (I := fun u => match u with | gx => ((tourlaw3_WorldChanges_j4 dp a6) gx = some cv)) ?_ ?_
        ·
         rintro gx t
         unfold tourlaw3_WorldChanges_j4 at t
         refine st_join1 (σ := Bool) (L := fun u => match u with | hd => [(8, .bool hd)]) (N := fun u => match u with | hd => Mem w0 (Fz ek el :: cs)) (I := fun u => match u with | hd => (tourlaw3_WorldChanges_j5 hd = some cv)) ?_ ?_
         ·
          rintro hd t
          unfold tourlaw3_WorldChanges_j5 at t
          refine st_ret ?_
          obtain rfl := Option.some.inj t
          exact fr [8] (ek, el) ((((b9.trans d0).trans fl).trans gw).trans fy) 0 []
         ·
          intro jj
          refine st_seq ?_
          refine st_region (oFs 0 9) (by rfl) ?_
          refine oq (oFs 0 4) [(126, .bool (dp == gx)), (18, sl a8 a6 a9), (22, .slice none 0 0)] ?_
          refine ob t [126] (fun jw t => ?_) (fun jw t => ?_)
          ·
           refine oq [oF 4, oF 5] [(128, .slice none 0 0), (127, sl a8 a6 a9), (126, .bool true)] ?_
           obtain ⟨hw, j3, t⟩ := obind t
           refine ops_callI (σ := Unit) (d := some 129) (f := 19) (args := #[sl a8 a6 a9, .slice none 0 0]) (v := (fun _ => .bool hw)) (I := (fun _ => True)) (M' := (fun _ => Mem w0 (ow a8 a6 a9 3 1 fm :: Fz ek el :: cs))) ⟨by kernel_rfl⟩ (fun U O hS => (@slices_Equal_int_int_ok U U [] (fun b => b < U.heap.size) U a8 a9 a6 none 0 [] (Mem.fz0 U) (O.ordS 0 1 rfl rfl gv rfl rfl) (RdS.empty _) hw j3).mono (by rintro e w' ⟨_, -, rfl, h'⟩; have h' : Mem U [] w' := h'.pick 1 [] (by kernel_rfl) (by decide) rfl; exact ⟨(), trivial, rfl, O.join h' rfl, trivial⟩)) ?_
           rintro _ -
           refine oq [oF 7, oF 8] [(8, .bool hw)] ?_
           refine ops_nil ?_
           exact fj jj hw t 2 [1]
          ·
           refine oq (oFs 4 5) [(8, .bool false)] ?_
           refine ops_nil ?_
           exact fj jj false t 2 [1]
        ·
         intro ji
         refine st_seq (st_seq (st_region [oF 0, oF 1] (by rfl) ?_))
         refine oq [oF 0, oF 1] [(115, .bool (gp == 0)), (22, .slice none 0 0), (21, vI gp), (20, .pointer none), (19, vI dp), (18, sl a8 a6 a9), (5, vP a 0), (7, vP c 0)] ?_
         refine ops_nil (fin_then ?_)
         refine sif t (fun jx t => ?_) (fun jx t => ?_)
         ·
          refine st_region (oFs 0 9) (by rfl) ?_
          refine oq [oF 0] [(117, .pointer none), (22, .slice none 0 0), (21, vI gp), (19, vI dp), (18, sl a8 a6 a9), (5, vP a 0), (7, vP c 0)] ?_
          refine oMA 118 2 0 2 ?_
          refine oM 119 4 0 ?_
          obtain ⟨_, j4, t⟩ := obind t
          refine oV (some 120) 7 [6, 0, 1, 2, 3, 4, 5] 7 [1, 2, 3, 4, 5, 6, 0] (fun _ O => tourref3_Flat_Get_ok O j4) ?_
          rintro _ -
          refine oq (oFs 4 5) [(21, vI 4), (22, .slice none 0 0), (19, vI dp), (18, sl a8 a6 a9)] ?_
          refine ops_nil ?_
          exact fj ji 4 t 7 [0, 6]
         ·
          refine st_skip ?_
          exact fj ji gp t 7 [0, 6]
       ·
        have t := (un3_at (sel_r t))
        refine ops_callI (σ := Nat × (Option Addr) × Nat × (Option Addr) × Nat × (List Value) × Nat × (Array MapEntry) × Nat × Chunk × (Nat → Prop) × World) (d := some 111) (f := 13) (args := #[.agg #[sl p G r, sl q H s, sl i E j]]) (v := (fun u => match u with | (d9, fg, fk, em, er, f0, eq, et, es, fx, ds, dt) => .tuple #[vP d9 0, vI 0])) (I := (fun u => match u with | (d9, fg, fk, em, er, f0, eq, et, es, fx, ds, dt) => (RdS R_api_Kind ds dt fg fk hv) ∧ (RepL (Rep.int .i64) ds dt gq f0) ∧ (MapW (fun u : Int => Value.int .i64 u) (Own.mr (fun u : Int => Value.int .i64 u) (Rep.sl (Rep.int .i64)) false) false ds dt kk et es fx) ∧ (Ext w0 fh fi ds dt))) (M' := (fun u => match u with | (d9, fg, fk, em, er, f0, eq, et, es, fx, ds, dt) => Mem w0 (.blk d9 [sl fg hv fk, sl em gq er, .map (some eq)] 96 :: ow em gq er 3 1 f0 :: .obj eq (.map et es) :: fx :: ow a8 a6 a9 3 1 fm :: .blk D [sl p G r, sl q H s, sl i E j] 26 :: .blk a [vI J, vI K] 29 :: .blk g [vI T, sl y M A] 42 :: .blk c [vI k] 3 :: .blk m [.func (.func 23) #[] #[vP a 0], .func (.func 25) #[] #[vP a 0, vP g 0], .func (.func 27) #[] #[vP a 0, vP c 0]] 64 :: Fz ds dt :: cs))) ⟨by kernel_rfl⟩ (fun U O hS => (tourref3_Open_ok w0 U (ow a8 a6 a9 3 1 fm :: .blk D [sl p G r, sl q H s, sl i E j] 26 :: .blk a [vI J, vI K] 29 :: .blk g [vI T, sl y M A] 42 :: .blk c [vI k] 3 :: .blk m [.func (.func 23) #[] #[vP a 0], .func (.func 25) #[] #[vP a 0, vP g 0], .func (.func 27) #[] #[vP a 0, vP c 0]] 64 :: cs) fh fi p r G q s H i j E (O.pick 7 [6, 0, 1, 2, 3, 4, 5] (by kernel_rfl) (by decide) rfl) B C x _ ic).mono (by intro e w' hq_; obtain ⟨d9, fg, fk, em, er, f0, eq, et, es, fx, ds, dt, ⟨h9, ia, ib, fz⟩, rfl, h'⟩ := (pun3_at (psel_r hq_)); have h' : Mem w0 (.blk d9 [sl fg hv fk, sl em gq er, .map (some eq)] 96 :: ow em gq er 3 1 f0 :: .obj eq (.map et es) :: fx :: ow a8 a6 a9 3 1 fm :: .blk D [sl p G r, sl q H s, sl i E j] 26 :: .blk a [vI J, vI K] 29 :: .blk g [vI T, sl y M A] 42 :: .blk c [vI k] 3 :: .blk m [.func (.func 23) #[] #[vP a 0], .func (.func 25) #[] #[vP a 0, vP g 0], .func (.func 27) #[] #[vP a 0, vP c 0]] 64 :: Fz ds dt :: cs) w' := (h'.pick 11 [0, 1, 2, 3, 5, 6, 7, 8, 9, 10, 4] (by kernel_rfl) (by decide) rfl); exact ⟨(d9, fg, fk, em, er, f0, eq, et, es, fx, ds, dt), ⟨h9, ia, ib, fz⟩, rfl, h', trivial⟩)) ?_
        rintro ⟨d9, fg, fk, em, er, f0, eq, et, es, fx, ds, dt⟩ ⟨h9, ia, ib, fz⟩
        have B := B.ext fz
        have C := C.ext fz
        have x := x.ext fz
        have gv := gv.ext fz
        have ch := ch.ext fz
        refine oq (oFs 2 5) [(21, vI 0), (20, vP d9 0), (19, vI dp), (18, sl a8 a6 a9), (5, vP a 0), (7, vP c 0)] ?_
        refine ops_nil (fin_then (st_seq (st_region [oF 0] (by rfl) ?_)))
        refine oq [oF 0] [(22, .slice none 0 0), (21, vI 0), (20, vP d9 0), (19, vI dp), (18, sl a8 a6 a9), (5, vP a 0), (7, vP c 0)] ?_
        refine ops_nil (fin_then (st_seq (st_seq (st_region [oF 0, oF 1] (by rfl) ?_))))
        refine oq [oF 0, oF 1] [(115, .bool true), (22, .slice none 0 0), (21, vI 0), (20, vP d9 0), (19, vI dp), (18, sl a8 a6 a9), (5, vP a 0), (7, vP c 0)] ?_
        refine ops_nil (fin_then (st_true rfl ?_))
        refine st_region (oFs 0 9) (by rfl) ?_
        refine oq [oF 0] [(117, vP d9 0), (22, .slice none 0 0), (21, vI 0), (19, vI dp), (18, sl a8 a6 a9), (5, vP a 0), (7, vP c 0)] ?_
        refine oMA 118 6 0 2 ?_
        refine oM 119 8 0 ?_
        obtain ⟨gy, jo, j5, t⟩ := obind2 t
        refine oV (some 120) 11 [0, 1, 2, 3, 10, 4, 5, 6, 7, 8, 9] 12 [0, 1, 2, 3, 4, 6, 7, 8, 9, 10, 11, 5] (fun _ O => tourref3_Flat_Get_v2_ok O h9 ia ib j5) ?_
        rintro ⟨gr, gu, kl, km, jq, jp, kf⟩ ⟨kg, lb, lc, ld⟩
        refine oq (oFs 4 5) [(21, vI jo), (22, sl gr gy gu), (19, vI dp), (18, sl a8 a6 a9)] ?_
        refine ops_nil (fin_then ?_)
        refine st_join1 (σ := Bool) (L := fun u => match u with | gn => [(8, .bool gn)]) (N := fun u => match u with | gn => Mem w0 (Fz ds dt :: cs)) (I := fun u => match u with | gn => (tourlaw3_WorldChanges_j6 gn = some cv)) ?_ ?_
        ·
         rintro gn t
         unfold tourlaw3_WorldChanges_j6 at t
         refine st_ret ?_
         obtain rfl := Option.some.inj t
         exact fr [8] (ds, dt) ((((b9.trans d0).trans fl).trans gw).trans fz) 0 []
        ·
         intro jk
         refine st_seq ?_
         refine st_region (oFs 0 9) (by rfl) ?_
         refine oq (oFs 0 4) [(126, .bool (dp == jo)), (22, sl gr gy gu), (18, sl a8 a6 a9)] ?_
         refine ob t [126] (fun ih t => ?_) (fun ih t => ?_)
         ·
          refine oq [oF 4, oF 5] [(128, sl gr gy gu), (127, sl a8 a6 a9), (126, .bool true)] ?_
          obtain ⟨g8, iz, t⟩ := obind t
          refine ops_callI (σ := Unit) (d := some 129) (f := 19) (args := #[sl a8 a6 a9, sl gr gy gu]) (v := (fun _ => .bool g8)) (I := (fun _ => True)) (M' := (fun _ => Mem w0 (ow gr gy gu 3 1 kl :: .blk d9 [sl fg hv fk, sl em gq er, .map (some eq)] 96 :: ow em gq er 3 1 km :: .obj eq (.map jq jp) :: kf :: ow a8 a6 a9 3 1 fm :: .blk D [sl p G r, sl q H s, sl i E j] 26 :: .blk a [vI J, vI K] 29 :: .blk g [vI T, sl y M A] 42 :: .blk c [vI k] 3 :: .blk m [.func (.func 23) #[] #[vP a 0], .func (.func 25) #[] #[vP a 0, vP g 0], .func (.func 27) #[] #[vP a 0, vP c 0]] 64 :: Fz ds dt :: cs))) ⟨by kernel_rfl⟩ (fun U O hS => (@slices_Equal_int_int_ok U U [] (fun b => b < U.heap.size) U a8 a9 a6 gr gu gy (Mem.fz0 U) (O.ordS 5 11 rfl rfl gv rfl rfl) (O.ordS 0 11 rfl rfl kg rfl rfl) g8 iz).mono (by rintro e w' ⟨_, -, rfl, h'⟩; have h' : Mem U [] w' := h'.pick 1 [] (by kernel_rfl) (by decide) rfl; exact ⟨(), trivial, rfl, O.join h' rfl, trivial⟩)) ?_
          rintro _ -
          refine oq [oF 7, oF 8] [(8, .bool g8)] ?_
          refine ops_nil ?_
          exact fj jk g8 t 12 [11]
         ·
          refine oq (oFs 4 5) [(8, .bool false)] ?_
          refine ops_nil ?_
          exact fj jk false t 12 [11]
      ·
       intro jh
       refine st_seq (st_block (st_seq ?_))
       refine st_region (oFs 0 5) (by rfl) ?_
       refine oq [oF 0, oF 1] [(54, vP m 2), (53, vI 2), (51, vI 2), (4, vP D 0), (5, vP a 0), (6, vP g 0), (7, vP c 0), (49, .slice (sa m) 3 3), (50, vI 3)] ?_
       refine oM 55 4 2 ?_
       refine oq [oF 3, oF 4] [(13, .func (.func 27) #[] #[vP a 0, vP c 0]), (12, vI 2), (51, vI 2), (4, vP D 0), (5, vP a 0), (6, vP g 0), (7, vP c 0), (49, .slice (sa m) 3 3), (50, vI 3)] ?_
       refine ops_nil (fin_then (st_seq (st_region [oF 0] (by rfl) ?_)))
       refine oN 14 [.slice none 0 0, .slice none 0 0, .slice none 0 0] 26 (fun aq => ?_)
       refine ops_nil (fin_then (st_seq (st_region [oF 0] (by rfl) ?_)))
       refine oq [oF 0] [(14, vP aq 0), (13, .func (.func 27) #[] #[vP a 0, vP c 0]), (12, vI 2), (51, vI 2), (4, vP D 0), (5, vP a 0), (6, vP g 0), (7, vP c 0), (49, .slice (sa m) 3 3), (50, vI 3)] ?_
       refine ops_nil (fin_then (st_seq (st_seq (st_region [oF 0] (by rfl) ?_))))
       refine oq [oF 0] [(56, vI 2), (14, vP aq 0), (13, .func (.func 27) #[] #[vP a 0, vP c 0]), (51, vI 2), (4, vP D 0), (5, vP a 0), (6, vP g 0), (7, vP c 0), (49, .slice (sa m) 3 3), (50, vI 3)] ?_
       refine ops_nil (fin_then (st_block (st_seq (st_region [oF 0, oF 1] (by rfl) ?_))))
       refine oq [oF 0, oF 1] [(64, .bool false), (56, vI 2), (14, vP aq 0), (13, .func (.func 27) #[] #[vP a 0, vP c 0]), (51, vI 2), (4, vP D 0), (5, vP a 0), (6, vP g 0), (7, vP c 0), (49, .slice (sa m) 3 3), (50, vI 3)] ?_
       refine ops_nil (fin_then (st_false rfl (st_seq (st_region [oF 0, oF 1] (by rfl) ?_))))
       refine oq [oF 0, oF 1] [(72, .bool false), (14, vP aq 0), (13, .func (.func 27) #[] #[vP a 0, vP c 0]), (51, vI 2), (4, vP D 0), (5, vP a 0), (6, vP g 0), (7, vP c 0), (49, .slice (sa m) 3 3), (50, vI 3)] ?_
       refine ops_nil (fin_then (st_false rfl ?_))
       refine st_region (oFs 0 9) (by rfl) ?_
       refine oMA 58 1 0 3 ?_
       refine oMA 59 2 0 2 ?_
       refine oM 60 4 0 ?_
       obtain ⟨am, ad, V, cw, i0, t⟩ := obind4 t
       refine oV (some 61) 7 [6, 0, 1, 2, 3, 4, 5] 11 [0, 1, 2, 3, 5, 6, 7, 8, 9, 10, 4] (fun _ O => world_Drop_ok O B C x i0) ?_
       rintro ⟨ao, ar, eh, af, ah, dq, Y, aa, cz, cm, gz, g4⟩ ⟨fp, eu, d1, d2⟩
       have B := B.ext d2
       have C := C.ext d2
       have x := x.ext d2
       have ch := ch.ext d2
       refine oq (oFs 4 3) [(63, vI cw), (62, .agg #[sl ao am ar, sl af ad ah, sl Y V aa]), (14, vP aq 0), (13, .func (.func 27) #[] #[vP a 0, vP c 0]), (51, vI 2), (4, vP D 0), (5, vP a 0), (6, vP g 0), (7, vP c 0), (49, .slice (sa m) 3 3), (50, vI 3)] ?_
       refine oS 4 0 [sl ao am ar, sl af ad ah, sl Y V aa] ?_
       refine oq [oF 8] [(15, vI cw), (14, vP aq 0), (13, .func (.func 27) #[] #[vP a 0, vP c 0]), (51, vI 2), (4, vP D 0), (5, vP a 0), (6, vP g 0), (7, vP c 0), (49, .slice (sa m) 3 3), (50, vI 3)] ?_
       refine ops_nil (fin_block (fin_then (st_seq ?_)))
       refine st_region (oFs 0 7) (by rfl) ?_
       refine oMA 82 5 0 3 ?_
       obtain ⟨j6, hr, t⟩ := obind t
       rcases j6 with fs | ⟨ef, bv, j9⟩
       ·
        have t := (sel_l t)
        refine ops_callI (σ := (Nat → Prop) × World) (d := some 83) (f := 13) (args := #[.agg #[sl p G r, sl q H s, sl i E j]]) (v := (fun u => match u with | (ck, co) => .tuple #[.pointer none, vI fs])) (I := (fun u => match u with | (ck, co) => (Ext w0 gz g4 ck co))) (M' := (fun u => match u with | (ck, co) => Mem w0 (ow ao am ar 86 2 eh :: ow af ad ah 3 1 dq :: ow Y V aa 61 3 cz :: cm :: .blk aq [sl ao am ar, sl af ad ah, sl Y V aa] 26 :: .blk D [sl p G r, sl q H s, sl i E j] 26 :: .blk a [vI J, vI K] 29 :: .blk g [vI T, sl y M A] 42 :: .blk c [vI k] 3 :: .blk m [.func (.func 23) #[] #[vP a 0], .func (.func 25) #[] #[vP a 0, vP g 0], .func (.func 27) #[] #[vP a 0, vP c 0]] 64 :: Fz ck co :: cs))) ⟨by kernel_rfl⟩ (fun U O hS => (tourref3_Open_ok w0 U (ow ao am ar 86 2 eh :: ow af ad ah 3 1 dq :: ow Y V aa 61 3 cz :: cm :: .blk aq [sl ao am ar, sl af ad ah, sl Y V aa] 26 :: .blk D [sl p G r, sl q H s, sl i E j] 26 :: .blk a [vI J, vI K] 29 :: .blk g [vI T, sl y M A] 42 :: .blk c [vI k] 3 :: .blk m [.func (.func 23) #[] #[vP a 0], .func (.func 25) #[] #[vP a 0, vP g 0], .func (.func 27) #[] #[vP a 0, vP c 0]] 64 :: cs) gz g4 p r G q s H i j E (O.pick 11 [10, 0, 1, 2, 3, 4, 5, 6, 7, 8, 9] (by kernel_rfl) (by decide) rfl) B C x _ hr).mono (by intro e w' hq_; obtain ⟨ck, co, dc, rfl, h'⟩ := (psel_l hq_); have h' : Mem w0 (ow ao am ar 86 2 eh :: ow af ad ah 3 1 dq :: ow Y V aa 61 3 cz :: cm :: .blk aq [sl ao am ar, sl af ad ah, sl Y V aa] 26 :: .blk D [sl p G r, sl q H s, sl i E j] 26 :: .blk a [vI J, vI K] 29 :: .blk g [vI T, sl y M A] 42 :: .blk c [vI k] 3 :: .blk m [.func (.func 23) #[] #[vP a 0], .func (.func 25) #[] #[vP a 0, vP g 0], .func (.func 27) #[] #[vP a 0, vP c 0]] 64 :: Fz ck co :: cs) w' := (h'.pick 11 [1, 2, 3, 4, 5, 6, 7, 8, 9, 10, 0] (by kernel_rfl) (by decide) rfl); exact ⟨(ck, co), dc, rfl, h', trivial⟩)) ?_
        rintro ⟨ck, co⟩ dc
        have B := B.ext dc
        have C := C.ext dc
        have x := x.ext dc
        have fp := fp.ext dc
        have eu := eu.ext dc
        have d1 := d1.ext dc
        have ch := ch.ext dc
        refine oq (oFs 2 5) [(17, vI fs), (16, .pointer none), (15, vI cw), (14, vP aq 0), (13, .func (.func 27) #[] #[vP a 0, vP c 0]), (51, vI 2), (4, vP D 0), (5, vP a 0), (6, vP g 0), (7, vP c 0), (49, .slice (sa m) 3 3), (50, vI 3)] ?_
        refine ops_nil (fin_then ?_)
        refine st_join1 (σ := Int) (L := fun u => match u with | d6 => [(4, vP D 0), (5, vP a 0), (6, vP g 0), (7, vP c 0), (14, vP aq 0), (15, vI cw), (16, .pointer none), (17, vI d6), (49, .slice (sa m) 3 3), (50, vI 3), (51, vI 2)]) (N := fun u => match u with | d6 => Mem w0 (.blk D [sl p G r, sl q H s, sl i E j] 26 :: .blk a [vI J, vI K] 29 :: .blk g [vI T, sl y M A] 42 :: .blk c [vI k] 3 :: .blk aq [sl ao am ar, sl af ad ah, sl Y V aa] 26 :: ow ao am ar 86 2 eh :: ow af ad ah 3 1 dq :: ow Y V aa 61 3 cz :: cm :: .blk m [.func (.func 23) #[] #[vP a 0], .func (.func 25) #[] #[vP a 0, vP g 0], .func (.func 27) #[] #[vP a 0, vP c 0]] 64 :: Fz ck co :: cs)) (I := fun u => match u with | d6 => ((tourlaw3_WorldChanges_j7 cw am ad V G H E J K k) d6 = some cv)) ?_ ?_
        ·
         rintro d6 t
         unfold tourlaw3_WorldChanges_j7 at t
         refine st_seq ?_
         refine st_region (oFs 0 10) (by rfl) ?_
         refine oq (oFs 0 4) [(94, .bool (!(cw == d6))), (4, vP D 0), (5, vP a 0), (6, vP g 0), (7, vP c 0), (14, vP aq 0), (16, .pointer none), (17, vI d6), (49, .slice (sa m) 3 3), (50, vI 3), (51, vI 2)] ?_
         refine ob t [94] (fun ii t => ?_) (fun ii t => ?_)
         ·
          refine oq (oFs 4 6) [(100, .bool true), (4, vP D 0), (5, vP a 0), (6, vP g 0), (7, vP c 0), (49, .slice (sa m) 3 3), (50, vI 3), (51, vI 2)] ?_
          refine ops_nil (fin_then (st_true rfl (st_seq (st_region [oF 0] (by rfl) ?_))))
          refine oq [oF 0] [(8, .bool false)] ?_
          refine ops_nil (fin_then (st_ret (fin_ret_block (fin_ret_then (fin_ret_then (fin_ret_block (fin_ret_then ?_)))))))
          obtain rfl := Option.some.inj t
          exact fr [8] (ck, co) ((((b9.trans d0).trans fl).trans d2).trans dc) 11 [10]
         ·
          refine oMA 95 4 0 3 ?_
          refine oq [oF 5, oF 6] [(97, vI d6), (96, .pointer none), (95, .agg #[sl ao am ar, sl af ad ah, sl Y V aa]), (94, .bool false), (4, vP D 0), (5, vP a 0), (6, vP g 0), (7, vP c 0), (49, .slice (sa m) 3 3), (50, vI 3), (51, vI 2)] ?_
          obtain ⟨hn, i1, t⟩ := obind t
          refine ops_callI (σ := Unit) (d := some 98) (f := 14) (args := #[.agg #[sl ao am ar, sl af ad ah, sl Y V aa], .pointer none, vI d6]) (v := (fun _ => .bool hn)) (I := (fun _ => True)) (M' := (fun _ => Mem w0 (.blk D [sl p G r, sl q H s, sl i E j] 26 :: .blk a [vI J, vI K] 29 :: .blk g [vI T, sl y M A] 42 :: .blk c [vI k] 3 :: .blk aq [sl ao am ar, sl af ad ah, sl Y V aa] 26 :: ow ao am ar 86 2 eh :: ow af ad ah 3 1 dq :: ow Y V aa 61 3 cz :: cm :: .blk m [.func (.func 23) #[] #[vP a 0], .func (.func 25) #[] #[vP a 0, vP g 0], .func (.func 27) #[] #[vP a 0, vP c 0]] 64 :: Fz ck co :: cs))) ⟨by kernel_rfl⟩ (fun U O hS => (@tourlaw3_same_ok U U [] (fun b => b < U.heap.size) U ao ar am af ah ad Y aa V d6 (Mem.fz0 U) (O.ordS 5 10 rfl rfl fp rfl rfl) (O.ordS 6 10 rfl rfl eu rfl rfl) ((O.pick 11 [7, 8, 10] (by kernel_rfl) (by decide) rfl : Mem w0 (ow Y V aa 61 3 cz :: cm :: Fz ck co :: cs) U).ownS d1 rfl rfl) hn i1).mono (by rintro e w' ⟨_, -, rfl, h'⟩; have h' : Mem U [] w' := h'.pick 1 [] (by kernel_rfl) (by decide) rfl; exact ⟨(), trivial, rfl, O.join h' rfl, trivial⟩)) ?_
          rintro _ -
          refine oq [oF 8, oF 9] [(100, .bool (!hn)), (4, vP D 0), (5, vP a 0), (6, vP g 0), (7, vP c 0), (49, .slice (sa m) 3 3), (50, vI 3), (51, vI 2)] ?_
          refine ops_nil (fin_then ?_)
          refine sif t (fun ij t => ?_) (fun ij t => ?_)
          ·
           refine st_seq (st_region [oF 0] (by rfl) ?_)
           refine oq [oF 0] [(8, .bool false)] ?_
           refine ops_nil (fin_then (st_ret (fin_ret_block (fin_ret_then (fin_ret_then (fin_ret_block (fin_ret_then ?_)))))))
           obtain rfl := Option.some.inj t
           exact fr [8] (ck, co) ((((b9.trans d0).trans fl).trans d2).trans dc) 11 [10]
          ·
           refine st_skip (fin_block ?_)
           exact fj jh (ck, co) ⟨t, (d2.trans dc)⟩ 11 [0, 1, 2, 3, 9, 10]
        ·
         intro jl
         refine st_seq (st_seq (st_region [oF 0, oF 1] (by rfl) ?_))
         refine oq [oF 0, oF 1] [(87, .bool (fs == 0)), (17, vI fs), (16, .pointer none), (15, vI cw), (14, vP aq 0), (13, .func (.func 27) #[] #[vP a 0, vP c 0]), (51, vI 2), (4, vP D 0), (5, vP a 0), (6, vP g 0), (7, vP c 0), (49, .slice (sa m) 3 3), (50, vI 3)] ?_
         refine ops_nil (fin_then ?_)
         refine sif t (fun ik t => ?_) (fun ik t => ?_)
         ·
          refine st_region (oFs 0 4) (by rfl) ?_
          refine oq [oF 0, oF 1] [(89, .pointer none), (88, .func (.func 27) #[] #[vP a 0, vP c 0]), (17, vI fs), (16, .pointer none), (15, vI cw), (14, vP aq 0), (51, vI 2), (4, vP D 0), (5, vP a 0), (6, vP g 0), (7, vP c 0), (49, .slice (sa m) 3 3), (50, vI 3)] ?_
          obtain ⟨_, i2, t⟩ := obind t
          refine oV (some 90) 11 [6, 8, 10, 0, 1, 2, 3, 4, 5, 7, 9] 11 [3, 4, 5, 6, 7, 8, 0, 9, 1, 10, 2] (fun _ O => tourlaw3_WorldChanges_4_ok O i2) ?_
          rintro _ -
          refine oq [oF 3] [(17, vI 4), (16, .pointer none), (15, vI cw), (14, vP aq 0), (51, vI 2), (4, vP D 0), (5, vP a 0), (6, vP g 0), (7, vP c 0), (49, .slice (sa m) 3 3), (50, vI 3)] ?_
          refine ops_nil ?_
          exact fj jl 4 t 11 [5, 6, 7, 8, 4, 0, 1, 2, 3, 9, 10]
         ·
          refine st_skip ?_
          exact fj jl fs t 11 [5, 6, 7, 8, 4, 0, 1, 2, 3, 9, 10]
       ·
        have t := (un3_at (sel_r t))
        refine ops_callI (σ := Nat × (Option Addr) × Nat × (Option Addr) × Nat × (List Value) × Nat × (Array MapEntry) × Nat × Chunk × (Nat → Prop) × World) (d := some 83) (f := 13) (args := #[.agg #[sl p G r, sl q H s, sl i E j]]) (v := (fun u => match u with | (bc, ci, cq, ba, bg, ey, bd, dx, du, en, ca, cd) => .tuple #[vP bc 0, vI 0])) (I := (fun u => match u with | (bc, ci, cq, ba, bg, ey, bd, dx, du, en, ca, cd) => (RdS R_api_Kind ca cd ci cq ef) ∧ (RepL (Rep.int .i64) ca cd bv ey) ∧ (MapW (fun u : Int => Value.int .i64 u) (Own.mr (fun u : Int => Value.int .i64 u) (Rep.sl (Rep.int .i64)) false) false ca cd j9 dx du en) ∧ (Ext w0 gz g4 ca cd))) (M' := (fun u => match u with | (bc, ci, cq, ba, bg, ey, bd, dx, du, en, ca, cd) => Mem w0 (.blk bc [sl ci ef cq, sl ba bv bg, .map (some bd)] 96 :: ow ba bv bg 3 1 ey :: .obj bd (.map dx du) :: en :: ow ao am ar 86 2 eh :: ow af ad ah 3 1 dq :: ow Y V aa 61 3 cz :: cm :: .blk aq [sl ao am ar, sl af ad ah, sl Y V aa] 26 :: .blk D [sl p G r, sl q H s, sl i E j] 26 :: .blk a [vI J, vI K] 29 :: .blk g [vI T, sl y M A] 42 :: .blk c [vI k] 3 :: .blk m [.func (.func 23) #[] #[vP a 0], .func (.func 25) #[] #[vP a 0, vP g 0], .func (.func 27) #[] #[vP a 0, vP c 0]] 64 :: Fz ca cd :: cs))) ⟨by kernel_rfl⟩ (fun U O hS => (tourref3_Open_ok w0 U (ow ao am ar 86 2 eh :: ow af ad ah 3 1 dq :: ow Y V aa 61 3 cz :: cm :: .blk aq [sl ao am ar, sl af ad ah, sl Y V aa] 26 :: .blk D [sl p G r, sl q H s, sl i E j] 26 :: .blk a [vI J, vI K] 29 :: .blk g [vI T, sl y M A] 42 :: .blk c [vI k] 3 :: .blk m [.func (.func 23) #[] #[vP a 0], .func (.func 25) #[] #[vP a 0, vP g 0], .func (.func 27) #[] #[vP a 0, vP c 0]] 64 :: cs) gz g4 p r G q s H i j E (O.pick 11 [10, 0, 1, 2, 3, 4, 5, 6, 7, 8, 9] (by kernel_rfl) (by decide) rfl) B C x _ hr).mono (by intro e w' hq_; obtain ⟨bc, ci, cq, ba, bg, ey, bd, dx, du, en, ca, cd, ⟨he, hf, hg, dd⟩, rfl, h'⟩ := (pun3_at (psel_r hq_)); have h' : Mem w0 (.blk bc [sl ci ef cq, sl ba bv bg, .map (some bd)] 96 :: ow ba bv bg 3 1 ey :: .obj bd (.map dx du) :: en :: ow ao am ar 86 2 eh :: ow af ad ah 3 1 dq :: ow Y V aa 61 3 cz :: cm :: .blk aq [sl ao am ar, sl af ad ah, sl Y V aa] 26 :: .blk D [sl p G r, sl q H s, sl i E j] 26 :: .blk a [vI J, vI K] 29 :: .blk g [vI T, sl y M A] 42 :: .blk c [vI k] 3 :: .blk m [.func (.func 23) #[] #[vP a 0], .func (.func 25) #[] #[vP a 0, vP g 0], .func (.func 27) #[] #[vP a 0, vP c 0]] 64 :: Fz ca cd :: cs) w' := (h'.pick 15 [0, 1, 2, 3, 5, 6, 7, 8, 9, 10, 11, 12, 13, 14, 4] (by kernel_rfl) (by decide) rfl); exact ⟨(bc, ci, cq, ba, bg, ey, bd, dx, du, en, ca, cd), ⟨he, hf, hg, dd⟩, rfl, h', trivial⟩)) ?_
        rintro ⟨bc, ci, cq, ba, bg, ey, bd, dx, du, en, ca, cd⟩ ⟨he, hf, hg, dd⟩
        have B := B.ext dd
        have C := C.ext dd
        have x := x.ext dd
        have fp := fp.ext dd
        have eu := eu.ext dd
        have d1 := d1.ext dd
        have ch := ch.ext dd
        refine oq (oFs 2 5) [(17, vI 0), (16, vP bc 0), (15, vI cw), (14, vP aq 0), (13, .func (.func 27) #[] #[vP a 0, vP c 0]), (51, vI 2), (4, vP D 0), (5, vP a 0), (6, vP g 0), (7, vP c 0), (49, .slice (sa m) 3 3), (50, vI 3)] ?_
        refine ops_nil (fin_then (st_seq (st_seq (st_region [oF 0, oF 1] (by rfl) ?_))))
        refine oq [oF 0, oF 1] [(87, .bool true), (17, vI 0), (16, vP bc 0), (15, vI cw), (14, vP aq 0), (13, .func (.func 27) #[] #[vP a 0, vP c 0]), (51, vI 2), (4, vP D 0), (5, vP a 0), (6, vP g 0), (7, vP c 0), (49, .slice (sa m) 3 3), (50, vI 3)] ?_
        refine ops_nil (fin_then (st_true rfl ?_))
        refine st_region (oFs 0 4) (by rfl) ?_
        refine oq [oF 0, oF 1] [(89, vP bc 0), (88, .func (.func 27) #[] #[vP a 0, vP c 0]), (17, vI 0), (16, vP bc 0), (15, vI cw), (14, vP aq 0), (51, vI 2), (4, vP D 0), (5, vP a 0), (6, vP g 0), (7, vP c 0), (49, .slice (sa m) 3 3), (50, vI 3)] ?_
        obtain ⟨g9, k5, i3, t⟩ := obind2 t
        refine oV (some 90) 15 [0, 1, 2, 3, 10, 12, 14, 4, 5, 6, 7, 8, 9, 11, 13] 15 [0, 1, 2, 3, 7, 8, 9, 10, 11, 12, 4, 13, 5, 14, 6] (fun _ O => tourlaw3_WorldChanges_4_v2_ok O he hf hg i3) ?_
        rintro ⟨fv, e3, e1, fn⟩ ⟨e5, e6, e7⟩
        refine oq [oF 3] [(17, vI g9), (16, vP bc 0), (15, vI cw), (14, vP aq 0), (51, vI 2), (4, vP D 0), (5, vP a 0), (6, vP g 0), (7, vP c 0), (49, .slice (sa m) 3 3), (50, vI 3)] ?_
        refine ops_nil (fin_then (st_seq ?_))
        refine st_region (oFs 0 10) (by rfl) ?_
        refine oq (oFs 0 4) [(94, .bool (!(cw == g9))), (17, vI g9), (16, vP bc 0), (14, vP aq 0), (51, vI 2), (4, vP D 0), (5, vP a 0), (6, vP g 0), (7, vP c 0), (49, .slice (sa m) 3 3), (50, vI 3)] ?_
        refine ob t [94] (fun il t => ?_) (fun il t => ?_)
        ·
         refine oq (oFs 4 6) [(100, .bool true), (51, vI 2), (4, vP D 0), (5, vP a 0), (6, vP g 0), (7, vP c 0), (49, .slice (sa m) 3 3), (50, vI 3)] ?_
         refine ops_nil (fin_then (st_true rfl (st_seq (st_region [oF 0] (by rfl) ?_))))
         refine oq [oF 0] [(8, .bool false)] ?_
         refine ops_nil (fin_then (st_ret (fin_ret_block (fin_ret_then (fin_ret_then (fin_ret_block (fin_ret_then ?_)))))))
         obtain rfl := Option.some.inj t
         exact fr [8] (ca, cd) ((((b9.trans d0).trans fl).trans d2).trans dd) 15 [14]
        ·
         refine oMA 95 8 0 3 ?_
         refine oq [oF 5, oF 6] [(97, vI g9), (96, vP bc 0), (95, .agg #[sl ao am ar, sl af ad ah, sl Y V aa]), (94, .bool false), (51, vI 2), (4, vP D 0), (5, vP a 0), (6, vP g 0), (7, vP c 0), (49, .slice (sa m) 3 3), (50, vI 3)] ?_
         refine ops_ex (σ := (Nat → Prop) × World) (I := fun u => Ext w0 ca cd u.1 u.2 ∧ RdS R_api_Kind u.1 u.2 ao ar am) (M' := fun u => Mem w0 (.blk bc [sl ci ef cq, sl ba bv bg, .map (some bd)] 96 :: ow ba bv bg 3 1 fv :: .obj bd (.map e3 e1) :: fn :: ow af ad ah 3 1 dq :: ow Y V aa 61 3 cz :: cm :: .blk aq [sl ao am ar, sl af ad ah, sl Y V aa] 26 :: .blk D [sl p G r, sl q H s, sl i E j] 26 :: .blk a [vI J, vI K] 29 :: .blk g [vI T, sl y M A] 42 :: .blk c [vI k] 3 :: .blk m [.func (.func 23) #[] #[vP a 0], .func (.func 25) #[] #[vP a 0, vP g 0], .func (.func 27) #[] #[vP a 0, vP c 0]] 64 :: Fz u.1 u.2 :: cs)) (fun U O => ?_) ?_
         · obtain ⟨F_, h1_, h2_, h3_⟩ := (O.pick 15 [4, 14, 0, 1, 2, 3, 5, 6, 7, 8, 9, 10, 11, 12, 13] (by kernel_rfl) (by decide) rfl : Mem w0 (ow ao am ar 86 2 eh :: Fz ca cd :: .blk bc [sl ci ef cq, sl ba bv bg, .map (some bd)] 96 :: ow ba bv bg 3 1 fv :: .obj bd (.map e3 e1) :: fn :: ow af ad ah 3 1 dq :: ow Y V aa 61 3 cz :: cm :: .blk aq [sl ao am ar, sl af ad ah, sl Y V aa] 26 :: .blk D [sl p G r, sl q H s, sl i E j] 26 :: .blk a [vI J, vI K] 29 :: .blk g [vI T, sl y M A] 42 :: .blk c [vI k] 3 :: .blk m [.func (.func 23) #[] #[vP a 0], .func (.func 25) #[] #[vP a 0, vP g 0], .func (.func 27) #[] #[vP a 0, vP c 0]] 64 :: cs) U).freeze (z := 2) fp rfl rfl
           exact ⟨(F_, U), ⟨h1_, h2_⟩, h3_.pick 14 [1, 2, 3, 4, 5, 6, 7, 8, 9, 10, 11, 12, 13, 0] (by kernel_rfl) (by decide) rfl⟩
         rintro ⟨f5, gb⟩ ⟨b0, ea⟩
         have b0 : Ext w0 ca cd f5 gb := b0
         have ea : RdS R_api_Kind f5 gb ao ar am := ea
         have e5 := e5.ext b0
         have e6 := e6.ext b0
         have e7 := e7.ext b0
         have eu := eu.ext b0
         have d1 := d1.ext b0
         have B := B.ext b0
         have C := C.ext b0
         have x := x.ext b0
         have ch := ch.ext b0
         refine ops_ex (σ := (Nat → Prop) × World) (I := fun u => Ext w0 f5 gb u.1 u.2 ∧ RdS (Rep.int .i64) u.1 u.2 af ah ad) (M' := fun u => Mem w0 (.blk bc [sl ci ef cq, sl ba bv bg, .map (some bd)] 96 :: ow ba bv bg 3 1 fv :: .obj bd (.map e3 e1) :: fn :: ow Y V aa 61 3 cz :: cm :: .blk aq [sl ao am ar, sl af ad ah, sl Y V aa] 26 :: .blk D [sl p G r, sl q H s, sl i E j] 26 :: .blk a [vI J, vI K] 29 :: .blk g [vI T, sl y M A] 42 :: .blk c [vI k] 3 :: .blk m [.func (.func 23) #[] #[vP a 0], .func (.func 25) #[] #[vP a 0, vP g 0], .func (.func 27) #[] #[vP a 0, vP c 0]] 64 :: Fz u.1 u.2 :: cs)) (fun U O => ?_) ?_
         · obtain ⟨F_, h1_, h2_, h3_⟩ := (O.pick 14 [4, 13, 0, 1, 2, 3, 5, 6, 7, 8, 9, 10, 11, 12] (by kernel_rfl) (by decide) rfl : Mem w0 (ow af ad ah 3 1 dq :: Fz f5 gb :: .blk bc [sl ci ef cq, sl ba bv bg, .map (some bd)] 96 :: ow ba bv bg 3 1 fv :: .obj bd (.map e3 e1) :: fn :: ow Y V aa 61 3 cz :: cm :: .blk aq [sl ao am ar, sl af ad ah, sl Y V aa] 26 :: .blk D [sl p G r, sl q H s, sl i E j] 26 :: .blk a [vI J, vI K] 29 :: .blk g [vI T, sl y M A] 42 :: .blk c [vI k] 3 :: .blk m [.func (.func 23) #[] #[vP a 0], .func (.func 25) #[] #[vP a 0, vP g 0], .func (.func 27) #[] #[vP a 0, vP c 0]] 64 :: cs) U).freeze (z := 1) eu rfl rfl
           exact ⟨(F_, U), ⟨h1_, h2_⟩, h3_.pick 13 [1, 2, 3, 4, 5, 6, 7, 8, 9, 10, 11, 12, 0] (by kernel_rfl) (by decide) rfl⟩
         rintro ⟨f6, gc⟩ ⟨b5, e8⟩
         have b5 : Ext w0 f5 gb f6 gc := b5
         have e8 : RdS (Rep.int .i64) f6 gc af ah ad := e8
         have ea := ea.ext b5
         have e5 := e5.ext b5
         have e6 := e6.ext b5
         have e7 := e7.ext b5
         have d1 := d1.ext b5
         have B := B.ext b5
         have C := C.ext b5
         have x := x.ext b5
         have ch := ch.ext b5
         refine ops_ex (σ := (Nat → Prop) × World) (I := fun u => Ext w0 f6 gc u.1 u.2 ∧ RdS R_api_Item u.1 u.2 Y aa V) (M' := fun u => Mem w0 (.blk bc [sl ci ef cq, sl ba bv bg, .map (some bd)] 96 :: ow ba bv bg 3 1 fv :: .obj bd (.map e3 e1) :: fn :: .blk aq [sl ao am ar, sl af ad ah, sl Y V aa] 26 :: .blk D [sl p G r, sl q H s, sl i E j] 26 :: .blk a [vI J, vI K] 29 :: .blk g [vI T, sl y M A] 42 :: .blk c [vI k] 3 :: .blk m [.func (.func 23) #[] #[vP a 0], .func (.func 25) #[] #[vP a 0, vP g 0], .func (.func 27) #[] #[vP a 0, vP c 0]] 64 :: Fz u.1 u.2 :: cs)) (fun U O => ?_) ?_
         · obtain ⟨F_, h1_, h2_, h3_⟩ := (O.pick 13 [4, 5, 12, 0, 1, 2, 3, 6, 7, 8, 9, 10, 11] (by kernel_rfl) (by decide) rfl : Mem w0 (ow Y V aa 61 3 cz :: cm :: Fz f6 gc :: .blk bc [sl ci ef cq, sl ba bv bg, .map (some bd)] 96 :: ow ba bv bg 3 1 fv :: .obj bd (.map e3 e1) :: fn :: .blk aq [sl ao am ar, sl af ad ah, sl Y V aa] 26 :: .blk D [sl p G r, sl q H s, sl i E j] 26 :: .blk a [vI J, vI K] 29 :: .blk g [vI T, sl y M A] 42 :: .blk c [vI k] 3 :: .blk m [.func (.func 23) #[] #[vP a 0], .func (.func 25) #[] #[vP a 0, vP g 0], .func (.func 27) #[] #[vP a 0, vP c 0]] 64 :: cs) U).freezeOwn (z := 3) d1 rfl rfl
           exact ⟨(F_, U), ⟨h1_, h2_⟩, h3_.pick 11 [1, 2, 3, 4, 5, 6, 7, 8, 9, 10, 0] (by kernel_rfl) (by decide) rfl⟩
         rintro ⟨hx, h3⟩ ⟨b6, gh⟩
         have b6 : Ext w0 f6 gc hx h3 := b6
         have gh : RdS R_api_Item hx h3 Y aa V := gh
         have ea := ea.ext b6
         have e8 := e8.ext b6
         have e5 := e5.ext b6
         have e6 := e6.ext b6
         have e7 := e7.ext b6
         have B := B.ext b6
         have C := C.ext b6
         have x := x.ext b6
         have ch := ch.ext b6
         obtain ⟨ka, i4, t⟩ := obind t
         refine oV (some 98) 11 [0, 1, 2, 3, 10, 4, 5, 6, 7, 8, 9] 11 [0, 1, 2, 3, 5, 6, 7, 8, 9, 10, 4] (fun _ O => tourlaw3_same_v2_ok O ea e8 gh e5 e6 e7 i4) ?_
         rintro ⟨k8, kq, kn, kt, hy, h4⟩ ⟨kw, kx, ky, eb⟩
         have ea := ea.ext eb
         have e8 := e8.ext eb
         have gh := gh.ext eb
         have B := B.ext eb
         have C := C.ext eb
         have x := x.ext eb
         have ch := ch.ext eb
         refine oq [oF 8, oF 9] [(100, .bool (!ka)), (51, vI 2), (4, vP D 0), (5, vP a 0), (6, vP g 0), (7, vP c 0), (49, .slice (sa m) 3 3), (50, vI 3)] ?_
         refine ops_nil (fin_then ?_)
         refine sif t (fun im t => ?_) (fun im t => ?_)
         ·
          refine st_seq (st_region [oF 0] (by rfl) ?_)
          refine oq [oF 0] [(8, .bool false)] ?_
          refine ops_nil (fin_then (st_ret (fin_ret_block (fin_ret_then (fin_ret_then (fin_ret_block (fin_ret_then ?_)))))))
          obtain rfl := Option.some.inj t
          exact fr [8] (hy, h4) ((((((((b9.trans d0).trans fl).trans d2).trans dd).trans b0).trans b5).trans b6).trans eb) 11 [10]
         ·
          refine st_skip (fin_block ?_)
          exact fj jh (hy, h4) ⟨t, (((((d2.trans dd).trans b0).trans b5).trans b6).trans eb)⟩ 11 [5, 6, 7, 8, 9, 10]
     ·
      intro jg
      refine st_seq (st_block (st_seq ?_))
      refine st_region (oFs 0 5) (by rfl) ?_
      refine oq [oF 0, oF 1] [(54, vP m 1), (53, vI 1), (51, vI 1), (4, vP D 0), (5, vP a 0), (6, vP g 0), (7, vP c 0), (49, .slice (sa m) 3 3), (50, vI 3)] ?_
      refine oM 55 4 1 ?_
      refine oq [oF 3, oF 4] [(13, .func (.func 25) #[] #[vP a 0, vP g 0]), (12, vI 1), (51, vI 1), (4, vP D 0), (5, vP a 0), (6, vP g 0), (7, vP c 0), (49, .slice (sa m) 3 3), (50, vI 3)] ?_
      refine ops_nil (fin_then (st_seq (st_region [oF 0] (by rfl) ?_)))
      refine oN 14 [.slice none 0 0, .slice none 0 0, .slice none 0 0] 26 (fun ay => ?_)
      refine ops_nil (fin_then (st_seq (st_region [oF 0] (by rfl) ?_)))
      refine oq [oF 0] [(14, vP ay 0), (13, .func (.func 25) #[] #[vP a 0, vP g 0]), (12, vI 1), (51, vI 1), (4, vP D 0), (5, vP a 0), (6, vP g 0), (7, vP c 0), (49, .slice (sa m) 3 3), (50, vI 3)] ?_
      refine ops_nil (fin_then (st_seq (st_seq (st_region [oF 0] (by rfl) ?_))))
      refine oq [oF 0] [(56, vI 1), (14, vP ay 0), (13, .func (.func 25) #[] #[vP a 0, vP g 0]), (51, vI 1), (4, vP D 0), (5, vP a 0), (6, vP g 0), (7, vP c 0), (49, .slice (sa m) 3 3), (50, vI 3)] ?_
      refine ops_nil (fin_then (st_block (st_seq (st_region [oF 0, oF 1] (by rfl) ?_))))
      refine oq [oF 0, oF 1] [(64, .bool false), (56, vI 1), (14, vP ay 0), (13, .func (.func 25) #[] #[vP a 0, vP g 0]), (51, vI 1), (4, vP D 0), (5, vP a 0), (6, vP g 0), (7, vP c 0), (49, .slice (sa m) 3 3), (50, vI 3)] ?_
      refine ops_nil (fin_then (st_false rfl (st_seq (st_region [oF 0, oF 1] (by rfl) ?_))))
      refine oq [oF 0, oF 1] [(72, .bool true), (14, vP ay 0), (13, .func (.func 25) #[] #[vP a 0, vP g 0]), (51, vI 1), (4, vP D 0), (5, vP a 0), (6, vP g 0), (7, vP c 0), (49, .slice (sa m) 3 3), (50, vI 3)] ?_
      refine ops_nil (fin_then (st_true rfl ?_))
      refine st_region (oFs 0 9) (by rfl) ?_
      refine oMA 75 1 0 3 ?_
      refine oMA 76 2 0 2 ?_
      refine oMA 77 3 0 2 ?_
      obtain ⟨bl, aw, aj, cx, i5, t⟩ := obind4 t
      refine oV (some 78) 7 [6, 0, 1, 2, 3, 4, 5] 10 [0, 1, 2, 4, 5, 6, 7, 8, 9, 3] (fun _ O => world_Put_ok O B C x ac i5) ?_
      rintro ⟨bm, bn, ax, az, ei, ak, al, dh, da, g0, g5⟩ ⟨ct, ev, d3, d4⟩
      have ac := ac.ext d4
      have B := B.ext d4
      have C := C.ext d4
      have x := x.ext d4
      refine oq (oFs 4 3) [(80, vI cx), (79, .agg #[sl bm bl bn, sl ax aw az, sl ak aj al]), (14, vP ay 0), (13, .func (.func 25) #[] #[vP a 0, vP g 0]), (51, vI 1), (4, vP D 0), (5, vP a 0), (6, vP g 0), (7, vP c 0), (49, .slice (sa m) 3 3), (50, vI 3)] ?_
      refine oS 3 0 [sl bm bl bn, sl ax aw az, sl ak aj al] ?_
      refine oq [oF 8] [(15, vI cx), (14, vP ay 0), (13, .func (.func 25) #[] #[vP a 0, vP g 0]), (51, vI 1), (4, vP D 0), (5, vP a 0), (6, vP g 0), (7, vP c 0), (49, .slice (sa m) 3 3), (50, vI 3)] ?_
      refine ops_nil (fin_block (fin_then (st_seq ?_)))
      refine st_region (oFs 0 7) (by rfl) ?_
      refine oMA 82 4 0 3 ?_
      obtain ⟨j7, hs, t⟩ := obind t
      rcases j7 with ft | ⟨ff, c3, kb⟩
      ·
       have t := (sel_l t)
       refine ops_callI (σ := (Nat → Prop) × World) (d := some 83) (f := 13) (args := #[.agg #[sl p G r, sl q H s, sl i E j]]) (v := (fun u => match u with | (cb, ce) => .tuple #[.pointer none, vI ft])) (I := (fun u => match u with | (cb, ce) => (Ext w0 g0 g5 cb ce))) (M' := (fun u => match u with | (cb, ce) => Mem w0 (ow ax aw az 3 1 ei :: ow ak aj al 61 3 dh :: da :: .blk ay [sl bm bl bn, sl ax aw az, sl ak aj al] 26 :: .blk D [sl p G r, sl q H s, sl i E j] 26 :: .blk a [vI J, vI K] 29 :: .blk g [vI T, sl y M A] 42 :: .blk c [vI k] 3 :: .blk m [.func (.func 23) #[] #[vP a 0], .func (.func 25) #[] #[vP a 0, vP g 0], .func (.func 27) #[] #[vP a 0, vP c 0]] 64 :: Fz cb ce :: cs))) ⟨by kernel_rfl⟩ (fun U O hS => (tourref3_Open_ok w0 U (ow ax aw az 3 1 ei :: ow ak aj al 61 3 dh :: da :: .blk ay [sl bm bl bn, sl ax aw az, sl ak aj al] 26 :: .blk D [sl p G r, sl q H s, sl i E j] 26 :: .blk a [vI J, vI K] 29 :: .blk g [vI T, sl y M A] 42 :: .blk c [vI k] 3 :: .blk m [.func (.func 23) #[] #[vP a 0], .func (.func 25) #[] #[vP a 0, vP g 0], .func (.func 27) #[] #[vP a 0, vP c 0]] 64 :: cs) g0 g5 p r G q s H i j E (O.pick 10 [9, 0, 1, 2, 3, 4, 5, 6, 7, 8] (by kernel_rfl) (by decide) rfl) B C x _ hs).mono (by intro e w' hq_; obtain ⟨cb, ce, de, rfl, h'⟩ := (psel_l hq_); have h' : Mem w0 (ow ax aw az 3 1 ei :: ow ak aj al 61 3 dh :: da :: .blk ay [sl bm bl bn, sl ax aw az, sl ak aj al] 26 :: .blk D [sl p G r, sl q H s, sl i E j] 26 :: .blk a [vI J, vI K] 29 :: .blk g [vI T, sl y M A] 42 :: .blk c [vI k] 3 :: .blk m [.func (.func 23) #[] #[vP a 0], .func (.func 25) #[] #[vP a 0, vP g 0], .func (.func 27) #[] #[vP a 0, vP c 0]] 64 :: Fz cb ce :: cs) w' := (h'.pick 10 [1, 2, 3, 4, 5, 6, 7, 8, 9, 0] (by kernel_rfl) (by decide) rfl); exact ⟨(cb, ce), de, rfl, h', trivial⟩)) ?_
       rintro ⟨cb, ce⟩ de
       have B := B.ext de
       have C := C.ext de
       have x := x.ext de
       have ev := ev.ext de
       have d3 := d3.ext de
       have ct := ct.ext de
       have ac := ac.ext de
       refine oq (oFs 2 5) [(17, vI ft), (16, .pointer none), (15, vI cx), (14, vP ay 0), (13, .func (.func 25) #[] #[vP a 0, vP g 0]), (51, vI 1), (4, vP D 0), (5, vP a 0), (6, vP g 0), (7, vP c 0), (49, .slice (sa m) 3 3), (50, vI 3)] ?_
       refine ops_nil (fin_then ?_)
       refine st_join1 (σ := Int) (L := fun u => match u with | d7 => [(4, vP D 0), (5, vP a 0), (6, vP g 0), (7, vP c 0), (14, vP ay 0), (15, vI cx), (16, .pointer none), (17, vI d7), (49, .slice (sa m) 3 3), (50, vI 3), (51, vI 1)]) (N := fun u => match u with | d7 => Mem w0 (.blk D [sl p G r, sl q H s, sl i E j] 26 :: .blk a [vI J, vI K] 29 :: .blk g [vI T, sl y M A] 42 :: .blk c [vI k] 3 :: .blk ay [sl bm bl bn, sl ax aw az, sl ak aj al] 26 :: ow ax aw az 3 1 ei :: ow ak aj al 61 3 dh :: da :: .blk m [.func (.func 23) #[] #[vP a 0], .func (.func 25) #[] #[vP a 0, vP g 0], .func (.func 27) #[] #[vP a 0, vP c 0]] 64 :: Fz cb ce :: cs)) (I := fun u => match u with | d7 => ((tourlaw3_WorldChanges_j8 cx bl aw aj G H E J K k) d7 = some cv) ∧ (RdS (Rep.int .i64) cb ce y A M)) ?_ ?_
       ·
        rintro d7 ⟨t, jr⟩
        unfold tourlaw3_WorldChanges_j8 at t
        refine st_seq ?_
        refine st_region (oFs 0 10) (by rfl) ?_
        refine oq (oFs 0 4) [(94, .bool (!(cx == d7))), (4, vP D 0), (5, vP a 0), (6, vP g 0), (7, vP c 0), (14, vP ay 0), (16, .pointer none), (17, vI d7), (49, .slice (sa m) 3 3), (50, vI 3), (51, vI 1)] ?_
        refine ob t [94] (fun io t => ?_) (fun io t => ?_)
        ·
         refine oq (oFs 4 6) [(100, .bool true), (4, vP D 0), (5, vP a 0), (6, vP g 0), (7, vP c 0), (49, .slice (sa m) 3 3), (50, vI 3), (51, vI 1)] ?_
         refine ops_nil (fin_then (st_true rfl (st_seq (st_region [oF 0] (by rfl) ?_))))
         refine oq [oF 0] [(8, .bool false)] ?_
         refine ops_nil (fin_then (st_ret (fin_ret_block (fin_ret_then (fin_ret_then (fin_ret_block (fin_ret_then ?_)))))))
         obtain rfl := Option.some.inj t
         exact fr [8] (cb, ce) (((b9.trans d0).trans d4).trans de) 10 [9]
        ·
         refine oMA 95 4 0 3 ?_
         refine oq [oF 5, oF 6] [(97, vI d7), (96, .pointer none), (95, .agg #[sl bm bl bn, sl ax aw az, sl ak aj al]), (94, .bool false), (4, vP D 0), (5, vP a 0), (6, vP g 0), (7, vP c 0), (49, .slice (sa m) 3 3), (50, vI 3), (51, vI 1)] ?_
         obtain ⟨ho, i6, t⟩ := obind t
         refine ops_callI (σ := Unit) (d := some 98) (f := 14) (args := #[.agg #[sl bm bl bn, sl ax aw az, sl ak aj al], .pointer none, vI d7]) (v := (fun _ => .bool ho)) (I := (fun _ => True)) (M' := (fun _ => Mem w0 (.blk D [sl p G r, sl q H s, sl i E j] 26 :: .blk a [vI J, vI K] 29 :: .blk g [vI T, sl y M A] 42 :: .blk c [vI k] 3 :: .blk ay [sl bm bl bn, sl ax aw az, sl ak aj al] 26 :: ow ax aw az 3 1 ei :: ow ak aj al 61 3 dh :: da :: .blk m [.func (.func 23) #[] #[vP a 0], .func (.func 25) #[] #[vP a 0, vP g 0], .func (.func 27) #[] #[vP a 0, vP c 0]] 64 :: Fz cb ce :: cs))) ⟨by kernel_rfl⟩ (fun U O hS => (@tourlaw3_same_ok U U [] (fun b => b < U.heap.size) U bm bn bl ax az aw ak al aj d7 (Mem.fz0 U) (O.now 9 rfl ct) (O.ordS 5 9 rfl rfl ev rfl rfl) ((O.pick 10 [6, 7, 9] (by kernel_rfl) (by decide) rfl : Mem w0 (ow ak aj al 61 3 dh :: da :: Fz cb ce :: cs) U).ownS d3 rfl rfl) ho i6).mono (by rintro e w' ⟨_, -, rfl, h'⟩; have h' : Mem U [] w' := h'.pick 1 [] (by kernel_rfl) (by decide) rfl; exact ⟨(), trivial, rfl, O.join h' rfl, trivial⟩)) ?_
         rintro _ -
         refine oq [oF 8, oF 9] [(100, .bool (!ho)), (4, vP D 0), (5, vP a 0), (6, vP g 0), (7, vP c 0), (49, .slice (sa m) 3 3), (50, vI 3), (51, vI 1)] ?_
         refine ops_nil (fin_then ?_)
         refine sif t (fun ip t => ?_) (fun ip t => ?_)
         ·
          refine st_seq (st_region [oF 0] (by rfl) ?_)
          refine oq [oF 0] [(8, .bool false)] ?_
          refine ops_nil (fin_then (st_ret (fin_ret_block (fin_ret_then (fin_ret_then (fin_ret_block (fin_ret_then ?_)))))))
          obtain rfl := Option.some.inj t
          exact fr [8] (cb, ce) (((b9.trans d0).trans d4).trans de) 10 [9]
         ·
          refine st_skip (fin_block ?_)
          exact fj jg (cb, ce) ⟨t, jr, (d4.trans de)⟩ 10 [0, 1, 2, 3, 8, 9]
       ·
        intro jm
        refine st_seq (st_seq (st_region [oF 0, oF 1] (by rfl) ?_))
        refine oq [oF 0, oF 1] [(87, .bool (ft == 0)), (17, vI ft), (16, .pointer none), (15, vI cx), (14, vP ay 0), (13, .func (.func 25) #[] #[vP a 0, vP g 0]), (51, vI 1), (4, vP D 0), (5, vP a 0), (6, vP g 0), (7, vP c 0), (49, .slice (sa m) 3 3), (50, vI 3)] ?_
        refine ops_nil (fin_then ?_)
        refine sif t (fun iq t => ?_) (fun iq t => ?_)
        ·
         refine st_region (oFs 0 4) (by rfl) ?_
         refine oq [oF 0, oF 1] [(89, .pointer none), (88, .func (.func 25) #[] #[vP a 0, vP g 0]), (17, vI ft), (16, .pointer none), (15, vI cx), (14, vP ay 0), (51, vI 1), (4, vP D 0), (5, vP a 0), (6, vP g 0), (7, vP c 0), (49, .slice (sa m) 3 3), (50, vI 3)] ?_
         obtain ⟨_, i7, t⟩ := obind t
         refine oV (some 90) 10 [5, 6, 9, 0, 1, 2, 3, 4, 7, 8] 10 [3, 4, 5, 6, 7, 0, 1, 8, 9, 2] (fun _ O => tourlaw3_WorldChanges_3_ok O ac i7) ?_
         rintro _ js
         refine oq [oF 3] [(17, vI 4), (16, .pointer none), (15, vI cx), (14, vP ay 0), (51, vI 1), (4, vP D 0), (5, vP a 0), (6, vP g 0), (7, vP c 0), (49, .slice (sa m) 3 3), (50, vI 3)] ?_
         refine ops_nil ?_
         exact fj jm 4 ⟨t, js⟩ 10 [4, 5, 6, 7, 3, 0, 1, 2, 8, 9]
        ·
         refine st_skip ?_
         exact fj jm ft ⟨t, ac⟩ 10 [4, 5, 6, 7, 3, 0, 1, 2, 8, 9]
      ·
       have t := (un3_at (sel_r t))
       refine ops_callI (σ := Nat × (Option Addr) × Nat × (Option Addr) × Nat × (List Value) × Nat × (Array MapEntry) × Nat × Chunk × (Nat → Prop) × World) (d := some 83) (f := 13) (args := #[.agg #[sl p G r, sl q H s, sl i E j]]) (v := (fun u => match u with | (bk, c9, db, bp, br, ez, bq, dy, dv, eo, di, dj) => .tuple #[vP bk 0, vI 0])) (I := (fun u => match u with | (bk, c9, db, bp, br, ez, bq, dy, dv, eo, di, dj) => (RdS R_api_Kind di dj c9 db ff) ∧ (RepL (Rep.int .i64) di dj c3 ez) ∧ (MapW (fun u : Int => Value.int .i64 u) (Own.mr (fun u : Int => Value.int .i64 u) (Rep.sl (Rep.int .i64)) false) false di dj kb dy dv eo) ∧ (Ext w0 g0 g5 di dj))) (M' := (fun u => match u with | (bk, c9, db, bp, br, ez, bq, dy, dv, eo, di, dj) => Mem w0 (.blk bk [sl c9 ff db, sl bp c3 br, .map (some bq)] 96 :: ow bp c3 br 3 1 ez :: .obj bq (.map dy dv) :: eo :: ow ax aw az 3 1 ei :: ow ak aj al 61 3 dh :: da :: .blk ay [sl bm bl bn, sl ax aw az, sl ak aj al] 26 :: .blk D [sl p G r, sl q H s, sl i E j] 26 :: .blk a [vI J, vI K] 29 :: .blk g [vI T, sl y M A] 42 :: .blk c [vI k] 3 :: .blk m [.func (.func 23) #[] #[vP a 0], .func (.func 25) #[] #[vP a 0, vP g 0], .func (.func 27) #[] #[vP a 0, vP c 0]] 64 :: Fz di dj :: cs))) ⟨by kernel_rfl⟩ (fun U O hS => (tourref3_Open_ok w0 U (ow ax aw az 3 1 ei :: ow ak aj al 61 3 dh :: da :: .blk ay [sl bm bl bn, sl ax aw az, sl ak aj al] 26 :: .blk D [sl p G r, sl q H s, sl i E j] 26 :: .blk a [vI J, vI K] 29 :: .blk g [vI T, sl y M A] 42 :: .blk c [vI k] 3 :: .blk m [.func (.func 23) #[] #[vP a 0], .func (.func 25) #[] #[vP a 0, vP g 0], .func (.func 27) #[] #[vP a 0, vP c 0]] 64 :: cs) g0 g5 p r G q s H i j E (O.pick 10 [9, 0, 1, 2, 3, 4, 5, 6, 7, 8] (by kernel_rfl) (by decide) rfl) B C x _ hs).mono (by intro e w' hq_; obtain ⟨bk, c9, db, bp, br, ez, bq, dy, dv, eo, di, dj, ⟨hh, hi, hj, df⟩, rfl, h'⟩ := (pun3_at (psel_r hq_)); have h' : Mem w0 (.blk bk [sl c9 ff db, sl bp c3 br, .map (some bq)] 96 :: ow bp c3 br 3 1 ez :: .obj bq (.map dy dv) :: eo :: ow ax aw az 3 1 ei :: ow ak aj al 61 3 dh :: da :: .blk ay [sl bm bl bn, sl ax aw az, sl ak aj al] 26 :: .blk D [sl p G r, sl q H s, sl i E j] 26 :: .blk a [vI J, vI K] 29 :: .blk g [vI T, sl y M A] 42 :: .blk c [vI k] 3 :: .blk m [.func (.func 23) #[] #[vP a 0], .func (.func 25) #[] #[vP a 0, vP g 0], .func (.func 27) #[] #[vP a 0, vP c 0]] 64 :: Fz di dj :: cs) w' := (h'.pick 14 [0, 1, 2, 3, 5, 6, 7, 8, 9, 10, 11, 12, 13, 4] (by kernel_rfl) (by decide) rfl); exact ⟨(bk, c9, db, bp, br, ez, bq, dy, dv, eo, di, dj), ⟨hh, hi, hj, df⟩, rfl, h', trivial⟩)) ?_
       rintro ⟨bk, c9, db, bp, br, ez, bq, dy, dv, eo, di, dj⟩ ⟨hh, hi, hj, df⟩
       have B := B.ext df
       have C := C.ext df
       have x := x.ext df
       have ev := ev.ext df
       have d3 := d3.ext df
       have ct := ct.ext df
       have ac := ac.ext df
       refine oq (oFs 2 5) [(17, vI 0), (16, vP bk 0), (15, vI cx), (14, vP ay 0), (13, .func (.func 25) #[] #[vP a 0, vP g 0]), (51, vI 1), (4, vP D 0), (5, vP a 0), (6, vP g 0), (7, vP c 0), (49, .slice (sa m) 3 3), (50, vI 3)] ?_
       refine ops_nil (fin_then (st_seq (st_seq (st_region [oF 0, oF 1] (by rfl) ?_))))
       refine oq [oF 0, oF 1] [(87, .bool true), (17, vI 0), (16, vP bk 0), (15, vI cx), (14, vP ay 0), (13, .func (.func 25) #[] #[vP a 0, vP g 0]), (51, vI 1), (4, vP D 0), (5, vP a 0), (6, vP g 0), (7, vP c 0), (49, .slice (sa m) 3 3), (50, vI 3)] ?_
       refine ops_nil (fin_then (st_true rfl ?_))
       refine st_region (oFs 0 4) (by rfl) ?_
       refine oq [oF 0, oF 1] [(89, vP bk 0), (88, .func (.func 25) #[] #[vP a 0, vP g 0]), (17, vI 0), (16, vP bk 0), (15, vI cx), (14, vP ay 0), (51, vI 1), (4, vP D 0), (5, vP a 0), (6, vP g 0), (7, vP c 0), (49, .slice (sa m) 3 3), (50, vI 3)] ?_
       obtain ⟨ha, k6, i8, t⟩ := obind2 t
       refine oV (some 90) 14 [0, 1, 2, 3, 9, 10, 13, 4, 5, 6, 7, 8, 11, 12] 14 [0, 1, 2, 3, 7, 8, 9, 10, 11, 4, 5, 12, 13, 6] (fun _ O => tourlaw3_WorldChanges_3_v2_ok O hh hi hj ac i8) ?_
       rintro ⟨hc, f4, f3, g3, g1, g6⟩ ⟨gi, gj, gk, e9, ec⟩
       have ev := ev.ext ec
       have d3 := d3.ext ec
       have ct := ct.ext ec
       have B := B.ext ec
       have C := C.ext ec
       have x := x.ext ec
       refine oq [oF 3] [(17, vI ha), (16, vP bk 0), (15, vI cx), (14, vP ay 0), (51, vI 1), (4, vP D 0), (5, vP a 0), (6, vP g 0), (7, vP c 0), (49, .slice (sa m) 3 3), (50, vI 3)] ?_
       refine ops_nil (fin_then (st_seq ?_))
       refine st_region (oFs 0 10) (by rfl) ?_
       refine oq (oFs 0 4) [(94, .bool (!(cx == ha))), (17, vI ha), (16, vP bk 0), (14, vP ay 0), (51, vI 1), (4, vP D 0), (5, vP a 0), (6, vP g 0), (7, vP c 0), (49, .slice (sa m) 3 3), (50, vI 3)] ?_
       refine ob t [94] (fun ir t => ?_) (fun ir t => ?_)
       ·
        refine oq (oFs 4 6) [(100, .bool true), (51, vI 1), (4, vP D 0), (5, vP a 0), (6, vP g 0), (7, vP c 0), (49, .slice (sa m) 3 3), (50, vI 3)] ?_
        refine ops_nil (fin_then (st_true rfl (st_seq (st_region [oF 0] (by rfl) ?_))))
        refine oq [oF 0] [(8, .bool false)] ?_
        refine ops_nil (fin_then (st_ret (fin_ret_block (fin_ret_then (fin_ret_then (fin_ret_block (fin_ret_then ?_)))))))
        obtain rfl := Option.some.inj t
        exact fr [8] (g1, g6) ((((b9.trans d0).trans d4).trans df).trans ec) 14 [13]
       ·
        refine oMA 95 7 0 3 ?_
        refine oq [oF 5, oF 6] [(97, vI ha), (96, vP bk 0), (95, .agg #[sl bm bl bn, sl ax aw az, sl ak aj al]), (94, .bool false), (51, vI 1), (4, vP D 0), (5, vP a 0), (6, vP g 0), (7, vP c 0), (49, .slice (sa m) 3 3), (50, vI 3)] ?_
        refine ops_ex (σ := (Nat → Prop) × World) (I := fun u => Ext w0 g1 g6 u.1 u.2 ∧ RdS (Rep.int .i64) u.1 u.2 ax az aw) (M' := fun u => Mem w0 (.blk bk [sl c9 ff db, sl bp c3 br, .map (some bq)] 96 :: ow bp c3 br 3 1 hc :: .obj bq (.map f4 f3) :: g3 :: ow ak aj al 61 3 dh :: da :: .blk ay [sl bm bl bn, sl ax aw az, sl ak aj al] 26 :: .blk D [sl p G r, sl q H s, sl i E j] 26 :: .blk a [vI J, vI K] 29 :: .blk g [vI T, sl y M A] 42 :: .blk c [vI k] 3 :: .blk m [.func (.func 23) #[] #[vP a 0], .func (.func 25) #[] #[vP a 0, vP g 0], .func (.func 27) #[] #[vP a 0, vP c 0]] 64 :: Fz u.1 u.2 :: cs)) (fun U O => ?_) ?_
        · obtain ⟨F_, h1_, h2_, h3_⟩ := (O.pick 14 [4, 13, 0, 1, 2, 3, 5, 6, 7, 8, 9, 10, 11, 12] (by kernel_rfl) (by decide) rfl : Mem w0 (ow ax aw az 3 1 ei :: Fz g1 g6 :: .blk bk [sl c9 ff db, sl bp c3 br, .map (some bq)] 96 :: ow bp c3 br 3 1 hc :: .obj bq (.map f4 f3) :: g3 :: ow ak aj al 61 3 dh :: da :: .blk ay [sl bm bl bn, sl ax aw az, sl ak aj al] 26 :: .blk D [sl p G r, sl q H s, sl i E j] 26 :: .blk a [vI J, vI K] 29 :: .blk g [vI T, sl y M A] 42 :: .blk c [vI k] 3 :: .blk m [.func (.func 23) #[] #[vP a 0], .func (.func 25) #[] #[vP a 0, vP g 0], .func (.func 27) #[] #[vP a 0, vP c 0]] 64 :: cs) U).freeze (z := 1) ev rfl rfl
          exact ⟨(F_, U), ⟨h1_, h2_⟩, h3_.pick 13 [1, 2, 3, 4, 5, 6, 7, 8, 9, 10, 11, 12, 0] (by kernel_rfl) (by decide) rfl⟩
        rintro ⟨f7, gd⟩ ⟨b7, fa⟩
        have b7 : Ext w0 g1 g6 f7 gd := b7
        have fa : RdS (Rep.int .i64) f7 gd ax az aw := fa
        have ct := ct.ext b7
        have gi := gi.ext b7
        have gj := gj.ext b7
        have gk := gk.ext b7
        have d3 := d3.ext b7
        have B := B.ext b7
        have C := C.ext b7
        have x := x.ext b7
        have e9 := e9.ext b7
        refine ops_ex (σ := (Nat → Prop) × World) (I := fun u => Ext w0 f7 gd u.1 u.2 ∧ RdS R_api_Item u.1 u.2 ak al aj) (M' := fun u => Mem w0 (.blk bk [sl c9 ff db, sl bp c3 br, .map (some bq)] 96 :: ow bp c3 br 3 1 hc :: .obj bq (.map f4 f3) :: g3 :: .blk ay [sl bm bl bn, sl ax aw az, sl ak aj al] 26 :: .blk D [sl p G r, sl q H s, sl i E j] 26 :: .blk a [vI J, vI K] 29 :: .blk g [vI T, sl y M A] 42 :: .blk c [vI k] 3 :: .blk m [.func (.func 23) #[] #[vP a 0], .func (.func 25) #[] #[vP a 0, vP g 0], .func (.func 27) #[] #[vP a 0, vP c 0]] 64 :: Fz u.1 u.2 :: cs)) (fun U O => ?_) ?_
        · obtain ⟨F_, h1_, h2_, h3_⟩ := (O.pick 13 [4, 5, 12, 0, 1, 2, 3, 6, 7, 8, 9, 10, 11] (by kernel_rfl) (by decide) rfl : Mem w0 (ow ak aj al 61 3 dh :: da :: Fz f7 gd :: .blk bk [sl c9 ff db, sl bp c3 br, .map (some bq)] 96 :: ow bp c3 br 3 1 hc :: .obj bq (.map f4 f3) :: g3 :: .blk ay [sl bm bl bn, sl ax aw az, sl ak aj al] 26 :: .blk D [sl p G r, sl q H s, sl i E j] 26 :: .blk a [vI J, vI K] 29 :: .blk g [vI T, sl y M A] 42 :: .blk c [vI k] 3 :: .blk m [.func (.func 23) #[] #[vP a 0], .func (.func 25) #[] #[vP a 0, vP g 0], .func (.func 27) #[] #[vP a 0, vP c 0]] 64 :: cs) U).freezeOwn (z := 3) d3 rfl rfl
          exact ⟨(F_, U), ⟨h1_, h2_⟩, h3_.pick 11 [1, 2, 3, 4, 5, 6, 7, 8, 9, 10, 0] (by kernel_rfl) (by decide) rfl⟩
        rintro ⟨hz, h5⟩ ⟨b8, gl⟩
        have b8 : Ext w0 f7 gd hz h5 := b8
        have gl : RdS R_api_Item hz h5 ak al aj := gl
        have ct := ct.ext b8
        have fa := fa.ext b8
        have gi := gi.ext b8
        have gj := gj.ext b8
        have gk := gk.ext b8
        have B := B.ext b8
        have C := C.ext b8
        have x := x.ext b8
        have e9 := e9.ext b8
        obtain ⟨kc, i9, t⟩ := obind t
        refine oV (some 98) 11 [0, 1, 2, 3, 10, 4, 5, 6, 7, 8, 9] 11 [0, 1, 2, 3, 5, 6, 7, 8, 9, 10, 4] (fun _ O => tourlaw3_same_v2_ok O ct fa gl gi gj gk i9) ?_
        rintro ⟨k9, kr, ko, ku, h0, h6⟩ ⟨kz, k0, k1, ed⟩
        have ct := ct.ext ed
        have fa := fa.ext ed
        have gl := gl.ext ed
        have B := B.ext ed
        have C := C.ext ed
        have x := x.ext ed
        have e9 := e9.ext ed
        refine oq [oF 8, oF 9] [(100, .bool (!kc)), (51, vI 1), (4, vP D 0), (5, vP a 0), (6, vP g 0), (7, vP c 0), (49, .slice (sa m) 3 3), (50, vI 3)] ?_
        refine ops_nil (fin_then ?_)
        refine sif t (fun it t => ?_) (fun it t => ?_)
        ·
         refine st_seq (st_region [oF 0] (by rfl) ?_)
         refine oq [oF 0] [(8, .bool false)] ?_
         refine ops_nil (fin_then (st_ret (fin_ret_block (fin_ret_then (fin_ret_then (fin_ret_block (fin_ret_then ?_)))))))
         obtain rfl := Option.some.inj t
         exact fr [8] (h0, h6) (((((((b9.trans d0).trans d4).trans df).trans ec).trans b7).trans b8).trans ed) 11 [10]
        ·
         refine st_skip (fin_block ?_)
         exact fj jg (h0, h6) ⟨t, e9, (((((d4.trans df).trans ec).trans b7).trans b8).trans ed)⟩ 11 [5, 6, 7, 8, 9, 10]
    ·
     intro jf
     refine st_seq (st_block (st_seq ?_))
     refine st_region (oFs 0 5) (by rfl) ?_
     refine oq [oF 0, oF 1] [(54, vP m 0), (53, vI 0), (51, vI 0), (50, vI 3), (49, .slice (sa m) 3 3), (7, vP c 0), (6, vP g 0), (5, vP a 0), (4, vP D 0)] ?_
     refine oM 55 0 0 ?_
     refine oq [oF 3, oF 4] [(13, .func (.func 23) #[] #[vP a 0]), (12, vI 0), (51, vI 0), (50, vI 3), (49, .slice (sa m) 3 3), (7, vP c 0), (6, vP g 0), (5, vP a 0), (4, vP D 0)] ?_
     refine ops_nil (fin_then (st_seq (st_region [oF 0] (by rfl) ?_)))
     refine oN 14 [.slice none 0 0, .slice none 0 0, .slice none 0 0] 26 (fun av => ?_)
     refine ops_nil (fin_then (st_seq (st_region [oF 0] (by rfl) ?_)))
     refine oq [oF 0] [(14, vP av 0), (13, .func (.func 23) #[] #[vP a 0]), (12, vI 0), (51, vI 0), (50, vI 3), (49, .slice (sa m) 3 3), (7, vP c 0), (6, vP g 0), (5, vP a 0), (4, vP D 0)] ?_
     refine ops_nil (fin_then (st_seq (st_seq (st_region [oF 0] (by rfl) ?_))))
     refine oq [oF 0] [(56, vI 0), (14, vP av 0), (13, .func (.func 23) #[] #[vP a 0]), (51, vI 0), (50, vI 3), (49, .slice (sa m) 3 3), (7, vP c 0), (6, vP g 0), (5, vP a 0), (4, vP D 0)] ?_
     refine ops_nil (fin_then (st_block (st_seq (st_region [oF 0, oF 1] (by rfl) ?_))))
     refine oq [oF 0, oF 1] [(64, .bool true), (56, vI 0), (14, vP av 0), (13, .func (.func 23) #[] #[vP a 0]), (51, vI 0), (50, vI 3), (49, .slice (sa m) 3 3), (7, vP c 0), (6, vP g 0), (5, vP a 0), (4, vP D 0)] ?_
     refine ops_nil (fin_then (st_true rfl ?_))
     refine st_region (oFs 0 8) (by rfl) ?_
     refine oMA 67 10 0 3 ?_
     refine oMA 68 9 0 2 ?_
     obtain ⟨an, ae, X, cy, ja, t⟩ := obind4 t
     refine oV (some 69) 12 [11, 0, 1, 2, 3, 4, 5, 6, 7, 8, 9, 10] 16 [0, 1, 2, 3, 5, 6, 7, 8, 9, 10, 11, 12, 13, 14, 15, 4] (fun _ O => world_Kill_ok O B C x ja) ?_
     rintro ⟨ap, au, ej, ag, ai, dr, Z, ab, c0, cn, g2, g7⟩ ⟨fq, ew, d5, cg⟩
     have B := B.ext cg
     have C := C.ext cg
     have x := x.ext cg
     have dn := dn.ext cg
     have c5 := c5.ext cg
     have dk := dk.ext cg
     have dl := dl.ext cg
     have dm := dm.ext cg
     have ac := ac.ext cg
     refine oq (oFs 3 3) [(71, vI cy), (70, .agg #[sl ap an au, sl ag ae ai, sl Z X ab]), (14, vP av 0), (13, .func (.func 23) #[] #[vP a 0]), (51, vI 0), (50, vI 3), (49, .slice (sa m) 3 3), (7, vP c 0), (6, vP g 0), (5, vP a 0), (4, vP D 0)] ?_
     refine oS 4 0 [sl ap an au, sl ag ae ai, sl Z X ab] ?_
     refine oq [oF 7] [(15, vI cy), (14, vP av 0), (13, .func (.func 23) #[] #[vP a 0]), (51, vI 0), (50, vI 3), (49, .slice (sa m) 3 3), (7, vP c 0), (6, vP g 0), (5, vP a 0), (4, vP D 0)] ?_
     refine ops_nil (fin_block (fin_then (st_seq ?_)))
     refine st_region (oFs 0 7) (by rfl) ?_
     refine oMA 82 14 0 3 ?_
     obtain ⟨j8, ht, t⟩ := obind t
     rcases j8 with fu | ⟨eg, go, kd⟩
     ·
      have t := (sel_l t)
      refine ops_callI (σ := (Nat → Prop) × World) (d := some 83) (f := 13) (args := #[.agg #[sl p G r, sl q H s, sl i E j]]) (v := (fun u => match u with | (cl, cp) => .tuple #[.pointer none, vI fu])) (I := (fun u => match u with | (cl, cp) => (Ext w0 g2 g7 cl cp))) (M' := (fun u => match u with | (cl, cp) => Mem w0 (ow ap an au 86 2 ej :: ow ag ae ai 3 1 dr :: ow Z X ab 61 3 c0 :: cn :: .blk av [sl ap an au, sl ag ae ai, sl Z X ab] 26 :: .blk m [.func (.func 23) #[] #[vP a 0], .func (.func 25) #[] #[vP a 0, vP g 0], .func (.func 27) #[] #[vP a 0, vP c 0]] 64 :: orow (sa bo) ([9] : List Int).length 1 3 1 ([vI 9]) :: ow a0 a2 a1 3 1 a7 :: ow A9 x5 2 86 2 bw :: ow bi x6 2 3 1 bx :: ow bj x7 2 61 3 bz :: .blk c [vI k] 3 :: .blk g [vI T, sl y M A] 42 :: .blk a [vI J, vI K] 29 :: .blk D [sl p G r, sl q H s, sl i E j] 26 :: Fz cl cp :: cs))) ⟨by kernel_rfl⟩ (fun U O hS => (tourref3_Open_ok w0 U (ow ap an au 86 2 ej :: ow ag ae ai 3 1 dr :: ow Z X ab 61 3 c0 :: cn :: .blk av [sl ap an au, sl ag ae ai, sl Z X ab] 26 :: .blk m [.func (.func 23) #[] #[vP a 0], .func (.func 25) #[] #[vP a 0, vP g 0], .func (.func 27) #[] #[vP a 0, vP c 0]] 64 :: orow (sa bo) ([9] : List Int).length 1 3 1 ([vI 9]) :: ow a0 a2 a1 3 1 a7 :: ow A9 x5 2 86 2 bw :: ow bi x6 2 3 1 bx :: ow bj x7 2 61 3 bz :: .blk c [vI k] 3 :: .blk g [vI T, sl y M A] 42 :: .blk a [vI J, vI K] 29 :: .blk D [sl p G r, sl q H s, sl i E j] 26 :: cs) g2 g7 p r G q s H i j E (O.pick 16 [15, 0, 1, 2, 3, 4, 5, 6, 7, 8, 9, 10, 11, 12, 13, 14] (by kernel_rfl) (by decide) rfl) B C x _ ht).mono (by intro e w' hq_; obtain ⟨cl, cp, bs, rfl, h'⟩ := (psel_l hq_); have h' : Mem w0 (ow ap an au 86 2 ej :: ow ag ae ai 3 1 dr :: ow Z X ab 61 3 c0 :: cn :: .blk av [sl ap an au, sl ag ae ai, sl Z X ab] 26 :: .blk m [.func (.func 23) #[] #[vP a 0], .func (.func 25) #[] #[vP a 0, vP g 0], .func (.func 27) #[] #[vP a 0, vP c 0]] 64 :: orow (sa bo) ([9] : List Int).length 1 3 1 ([vI 9]) :: ow a0 a2 a1 3 1 a7 :: ow A9 x5 2 86 2 bw :: ow bi x6 2 3 1 bx :: ow bj x7 2 61 3 bz :: .blk c [vI k] 3 :: .blk g [vI T, sl y M A] 42 :: .blk a [vI J, vI K] 29 :: .blk D [sl p G r, sl q H s, sl i E j] 26 :: Fz cl cp :: cs) w' := (h'.pick 16 [1, 2, 3, 4, 5, 6, 7, 8, 9, 10, 11, 12, 13, 14, 15, 0] (by kernel_rfl) (by decide) rfl); exact ⟨(cl, cp), bs, rfl, h', trivial⟩)) ?_
      rintro ⟨cl, cp⟩ bs
      have B := B.ext bs
      have C := C.ext bs
      have x := x.ext bs
      have fq := fq.ext bs
      have ew := ew.ext bs
      have d5 := d5.ext bs
      have dn := dn.ext bs
      have c5 := c5.ext bs
      have dk := dk.ext bs
      have dl := dl.ext bs
      have dm := dm.ext bs
      have ac := ac.ext bs
      refine oq (oFs 2 5) [(17, vI fu), (16, .pointer none), (15, vI cy), (14, vP av 0), (13, .func (.func 23) #[] #[vP a 0]), (51, vI 0), (50, vI 3), (49, .slice (sa m) 3 3), (7, vP c 0), (6, vP g 0), (5, vP a 0), (4, vP D 0)] ?_
      refine ops_nil (fin_then ?_)
      refine st_join1 (σ := Int) (L := fun u => match u with | d8 => [(4, vP D 0), (5, vP a 0), (6, vP g 0), (7, vP c 0), (14, vP av 0), (15, vI cy), (16, .pointer none), (17, vI d8), (49, .slice (sa m) 3 3), (50, vI 3), (51, vI 0)]) (N := fun u => match u with | d8 => Mem w0 (.blk D [sl p G r, sl q H s, sl i E j] 26 :: .blk a [vI J, vI K] 29 :: .blk g [vI T, sl y M A] 42 :: .blk c [vI k] 3 :: .blk av [sl ap an au, sl ag ae ai, sl Z X ab] 26 :: ow ap an au 86 2 ej :: ow ag ae ai 3 1 dr :: ow Z X ab 61 3 c0 :: cn :: .blk m [.func (.func 23) #[] #[vP a 0], .func (.func 25) #[] #[vP a 0, vP g 0], .func (.func 27) #[] #[vP a 0, vP c 0]] 64 :: Fz cl cp :: cs)) (I := fun u => match u with | d8 => ((tourlaw3_WorldChanges_j9 cy an ae X G H E J K T M k) d8 = some cv)) ?_ ?_
      ·
       rintro d8 t
       unfold tourlaw3_WorldChanges_j9 at t
       refine st_seq ?_
       refine st_region (oFs 0 10) (by rfl) ?_
       refine oq (oFs 0 4) [(94, .bool (!(cy == d8))), (4, vP D 0), (5, vP a 0), (6, vP g 0), (7, vP c 0), (14, vP av 0), (16, .pointer none), (17, vI d8), (49, .slice (sa m) 3 3), (50, vI 3), (51, vI 0)] ?_
       refine ob t [94] (fun iu t => ?_) (fun iu t => ?_)
       ·
        refine oq (oFs 4 6) [(100, .bool true), (4, vP D 0), (5, vP a 0), (6, vP g 0), (7, vP c 0), (49, .slice (sa m) 3 3), (50, vI 3), (51, vI 0)] ?_
        refine ops_nil (fin_then (st_true rfl (st_seq (st_region [oF 0] (by rfl) ?_))))
        refine oq [oF 0] [(8, .bool false)] ?_
        refine ops_nil (fin_then (st_ret (fin_ret_block (fin_ret_then (fin_ret_then (fin_ret_block (fin_ret_then ?_)))))))
        obtain rfl := Option.some.inj t
        exact fr [8] (cl, cp) ((b9.trans cg).trans bs) 11 [10]
       ·
        refine oMA 95 4 0 3 ?_
        refine oq [oF 5, oF 6] [(97, vI d8), (96, .pointer none), (95, .agg #[sl ap an au, sl ag ae ai, sl Z X ab]), (94, .bool false), (4, vP D 0), (5, vP a 0), (6, vP g 0), (7, vP c 0), (49, .slice (sa m) 3 3), (50, vI 3), (51, vI 0)] ?_
        obtain ⟨hq, jb, t⟩ := obind t
        refine ops_callI (σ := Unit) (d := some 98) (f := 14) (args := #[.agg #[sl ap an au, sl ag ae ai, sl Z X ab], .pointer none, vI d8]) (v := (fun _ => .bool hq)) (I := (fun _ => True)) (M' := (fun _ => Mem w0 (.blk D [sl p G r, sl q H s, sl i E j] 26 :: .blk a [vI J, vI K] 29 :: .blk g [vI T, sl y M A] 42 :: .blk c [vI k] 3 :: .blk av [sl ap an au, sl ag ae ai, sl Z X ab] 26 :: ow ap an au 86 2 ej :: ow ag ae ai 3 1 dr :: ow Z X ab 61 3 c0 :: cn :: .blk m [.func (.func 23) #[] #[vP a 0], .func (.func 25) #[] #[vP a 0, vP g 0], .func (.func 27) #[] #[vP a 0, vP c 0]] 64 :: Fz cl cp :: cs))) ⟨by kernel_rfl⟩ (fun U O hS => (@tourlaw3_same_ok U U [] (fun b => b < U.heap.size) U ap au an ag ai ae Z ab X d8 (Mem.fz0 U) (O.ordS 5 10 rfl rfl fq rfl rfl) (O.ordS 6 10 rfl rfl ew rfl rfl) ((O.pick 11 [7, 8, 10] (by kernel_rfl) (by decide) rfl : Mem w0 (ow Z X ab 61 3 c0 :: cn :: Fz cl cp :: cs) U).ownS d5 rfl rfl) hq jb).mono (by rintro e w' ⟨_, -, rfl, h'⟩; have h' : Mem U [] w' := h'.pick 1 [] (by kernel_rfl) (by decide) rfl; exact ⟨(), trivial, rfl, O.join h' rfl, trivial⟩)) ?_
        rintro _ -
        refine oq [oF 8, oF 9] [(100, .bool (!hq)), (4, vP D 0), (5, vP a 0), (6, vP g 0), (7, vP c 0), (49, .slice (sa m) 3 3), (50, vI 3), (51, vI 0)] ?_
        refine ops_nil (fin_then ?_)
        refine sif t (fun iv t => ?_) (fun iv t => ?_)
        ·
         refine st_seq (st_region [oF 0] (by rfl) ?_)
         refine oq [oF 0] [(8, .bool false)] ?_
         refine ops_nil (fin_then (st_ret (fin_ret_block (fin_ret_then (fin_ret_then (fin_ret_block (fin_ret_then ?_)))))))
         obtain rfl := Option.some.inj t
         exact fr [8] (cl, cp) ((b9.trans cg).trans bs) 11 [10]
        ·
         refine st_skip (fin_block ?_)
         exact fj jf (cl, cp) ⟨t, (cg.trans bs)⟩ 11 [0, 1, 2, 3, 9, 10]
      ·
       intro jn
       refine st_seq (st_seq (st_region [oF 0, oF 1] (by rfl) ?_))
       refine oq [oF 0, oF 1] [(87, .bool (fu == 0)), (17, vI fu), (16, .pointer none), (15, vI cy), (14, vP av 0), (13, .func (.func 23) #[] #[vP a 0]), (51, vI 0), (50, vI 3), (49, .slice (sa m) 3 3), (7, vP c 0), (6, vP g 0), (5, vP a 0), (4, vP D 0)] ?_
       refine ops_nil (fin_then ?_)
       refine sif t (fun iw t => ?_) (fun iw t => ?_)
       ·
        refine st_region (oFs 0 4) (by rfl) ?_
        refine oq [oF 0, oF 1] [(89, .pointer none), (88, .func (.func 23) #[] #[vP a 0]), (17, vI fu), (16, .pointer none), (15, vI cy), (14, vP av 0), (51, vI 0), (50, vI 3), (49, .slice (sa m) 3 3), (7, vP c 0), (6, vP g 0), (5, vP a 0), (4, vP D 0)] ?_
        obtain ⟨_, jc, t⟩ := obind t
        refine oV (some 90) 16 [13, 15, 0, 1, 2, 3, 4, 5, 6, 7, 8, 9, 10, 11, 12, 14] 16 [2, 3, 4, 5, 6, 7, 8, 9, 10, 11, 12, 13, 14, 0, 15, 1] (fun _ O => tourlaw3_WorldChanges_2_ok O jc) ?_
        rintro _ -
        refine oq [oF 3] [(17, vI 4), (16, .pointer none), (15, vI cy), (14, vP av 0), (51, vI 0), (50, vI 3), (49, .slice (sa m) 3 3), (7, vP c 0), (6, vP g 0), (5, vP a 0), (4, vP D 0)] ?_
        refine ops_nil ?_
        exact fj jn 4 t 16 [14, 13, 12, 11, 4, 0, 1, 2, 3, 5, 15]
       ·
        refine st_skip ?_
        exact fj jn fu t 16 [14, 13, 12, 11, 4, 0, 1, 2, 3, 5, 15]
     ·
      have t := (un3_at (sel_r t))
      refine ops_callI (σ := Nat × (Option Addr) × Nat × (Option Addr) × Nat × (List Value) × Nat × (Array MapEntry) × Nat × Chunk × (Nat → Prop) × World) (d := some 83) (f := 13) (args := #[.agg #[sl p G r, sl q H s, sl i E j]]) (v := (fun u => match u with | (be, cj, cr, bb, bh, e0, bf, dz, dw, ep, cc, cf) => .tuple #[vP be 0, vI 0])) (I := (fun u => match u with | (be, cj, cr, bb, bh, e0, bf, dz, dw, ep, cc, cf) => (RdS R_api_Kind cc cf cj cr eg) ∧ (RepL (Rep.int .i64) cc cf go e0) ∧ (MapW (fun u : Int => Value.int .i64 u) (Own.mr (fun u : Int => Value.int .i64 u) (Rep.sl (Rep.int .i64)) false) false cc cf kd dz dw ep) ∧ (Ext w0 g2 g7 cc cf))) (M' := (fun u => match u with | (be, cj, cr, bb, bh, e0, bf, dz, dw, ep, cc, cf) => Mem w0 (.blk be [sl cj eg cr, sl bb go bh, .map (some bf)] 96 :: ow bb go bh 3 1 e0 :: .obj bf (.map dz dw) :: ep :: ow ap an au 86 2 ej :: ow ag ae ai 3 1 dr :: ow Z X ab 61 3 c0 :: cn :: .blk av [sl ap an au, sl ag ae ai, sl Z X ab] 26 :: .blk m [.func (.func 23) #[] #[vP a 0], .func (.func 25) #[] #[vP a 0, vP g 0], .func (.func 27) #[] #[vP a 0, vP c 0]] 64 :: orow (sa bo) ([9] : List Int).length 1 3 1 ([vI 9]) :: ow a0 a2 a1 3 1 a7 :: ow A9 x5 2 86 2 bw :: ow bi x6 2 3 1 bx :: ow bj x7 2 61 3 bz :: .blk c [vI k] 3 :: .blk g [vI T, sl y M A] 42 :: .blk a [vI J, vI K] 29 :: .blk D [sl p G r, sl q H s, sl i E j] 26 :: Fz cc cf :: cs))) ⟨by kernel_rfl⟩ (fun U O hS => (tourref3_Open_ok w0 U (ow ap an au 86 2 ej :: ow ag ae ai 3 1 dr :: ow Z X ab 61 3 c0 :: cn :: .blk av [sl ap an au, sl ag ae ai, sl Z X ab] 26 :: .blk m [.func (.func 23) #[] #[vP a 0], .func (.func 25) #[] #[vP a 0, vP g 0], .func (.func 27) #[] #[vP a 0, vP c 0]] 64 :: orow (sa bo) ([9] : List Int).length 1 3 1 ([vI 9]) :: ow a0 a2 a1 3 1 a7 :: ow A9 x5 2 86 2 bw :: ow bi x6 2 3 1 bx :: ow bj x7 2 61 3 bz :: .blk c [vI k] 3 :: .blk g [vI T, sl y M A] 42 :: .blk a [vI J, vI K] 29 :: .blk D [sl p G r, sl q H s, sl i E j] 26 :: cs) g2 g7 p r G q s H i j E (O.pick 16 [15, 0, 1, 2, 3, 4, 5, 6, 7, 8, 9, 10, 11, 12, 13, 14] (by kernel_rfl) (by decide) rfl) B C x _ ht).mono (by intro e w' hq_; obtain ⟨be, cj, cr, bb, bh, e0, bf, dz, dw, ep, cc, cf, ⟨hk, hl, hm, bt⟩, rfl, h'⟩ := (pun3_at (psel_r hq_)); have h' : Mem w0 (.blk be [sl cj eg cr, sl bb go bh, .map (some bf)] 96 :: ow bb go bh 3 1 e0 :: .obj bf (.map dz dw) :: ep :: ow ap an au 86 2 ej :: ow ag ae ai 3 1 dr :: ow Z X ab 61 3 c0 :: cn :: .blk av [sl ap an au, sl ag ae ai, sl Z X ab] 26 :: .blk m [.func (.func 23) #[] #[vP a 0], .func (.func 25) #[] #[vP a 0, vP g 0], .func (.func 27) #[] #[vP a 0, vP c 0]] 64 :: orow (sa bo) ([9] : List Int).length 1 3 1 ([vI 9]) :: ow a0 a2 a1 3 1 a7 :: ow A9 x5 2 86 2 bw :: ow bi x6 2 3 1 bx :: ow bj x7 2 61 3 bz :: .blk c [vI k] 3 :: .blk g [vI T, sl y M A] 42 :: .blk a [vI J, vI K] 29 :: .blk D [sl p G r, sl q H s, sl i E j] 26 :: Fz cc cf :: cs) w' := (h'.pick 20 [0, 1, 2, 3, 5, 6, 7, 8, 9, 10, 11, 12, 13, 14, 15, 16, 17, 18, 19, 4] (by kernel_rfl) (by decide) rfl); exact ⟨(be, cj, cr, bb, bh, e0, bf, dz, dw, ep, cc, cf), ⟨hk, hl, hm, bt⟩, rfl, h', trivial⟩)) ?_
      rintro ⟨be, cj, cr, bb, bh, e0, bf, dz, dw, ep, cc, cf⟩ ⟨hk, hl, hm, bt⟩
      have B := B.ext bt
      have C := C.ext bt
      have x := x.ext bt
      have fq := fq.ext bt
      have ew := ew.ext bt
      have d5 := d5.ext bt
      have dn := dn.ext bt
      have c5 := c5.ext bt
      have dk := dk.ext bt
      have dl := dl.ext bt
      have dm := dm.ext bt
      have ac := ac.ext bt
      refine oq (oFs 2 5) [(17, vI 0), (16, vP be 0), (15, vI cy), (14, vP av 0), (13, .func (.func 23) #[] #[vP a 0]), (51, vI 0), (50, vI 3), (49, .slice (sa m) 3 3), (7, vP c 0), (6, vP g 0), (5, vP a 0), (4, vP D 0)] ?_
      refine ops_nil (fin_then (st_seq (st_seq (st_region [oF 0, oF 1] (by rfl) ?_))))
      refine oq [oF 0, oF 1] [(87, .bool true), (17, vI 0), (16, vP be 0), (15, vI cy), (14, vP av 0), (13, .func (.func 23) #[] #[vP a 0]), (51, vI 0), (50, vI 3), (49, .slice (sa m) 3 3), (7, vP c 0), (6, vP g 0), (5, vP a 0), (4, vP D 0)] ?_
      refine ops_nil (fin_then (st_true rfl ?_))
      refine st_region (oFs 0 4) (by rfl) ?_
      refine oq [oF 0, oF 1] [(89, vP be 0), (88, .func (.func 23) #[] #[vP a 0]), (17, vI 0), (16, vP be 0), (15, vI cy), (14, vP av 0), (51, vI 0), (50, vI 3), (49, .slice (sa m) 3 3), (7, vP c 0), (6, vP g 0), (5, vP a 0), (4, vP D 0)] ?_
      obtain ⟨hb, dg, k7, jd, t⟩ := obind3 t
      refine oV (some 90) 20 [0, 1, 2, 3, 17, 19, 4, 5, 6, 7, 8, 9, 10, 11, 12, 13, 14, 15, 16, 18] 20 [0, 1, 2, 3, 6, 7, 8, 9, 10, 11, 12, 13, 14, 15, 16, 17, 18, 4, 19, 5] (fun _ O => tourlaw3_WorldChanges_2_v2_ok O hk hl hm jd) ?_
      rintro ⟨fw, e4, e2, fo⟩ ⟨fb, fc, fd⟩
      refine oq [oF 3] [(17, vI hb), (16, vP be 0), (15, vI cy), (14, vP av 0), (51, vI 0), (50, vI 3), (49, .slice (sa m) 3 3), (7, vP c 0), (6, vP g 0), (5, vP a 0), (4, vP D 0)] ?_
      refine ops_nil (fin_then (st_seq ?_))
      refine st_region (oFs 0 10) (by rfl) ?_
      refine oq (oFs 0 4) [(94, .bool (!(cy == hb))), (17, vI hb), (16, vP be 0), (14, vP av 0), (51, vI 0), (50, vI 3), (49, .slice (sa m) 3 3), (7, vP c 0), (6, vP g 0), (5, vP a 0), (4, vP D 0)] ?_
      refine ob t [94] (fun ix t => ?_) (fun ix t => ?_)
      ·
       refine oq (oFs 4 6) [(100, .bool true), (51, vI 0), (50, vI 3), (49, .slice (sa m) 3 3), (7, vP c 0), (6, vP g 0), (5, vP a 0), (4, vP D 0)] ?_
       refine ops_nil (fin_then (st_true rfl (st_seq (st_region [oF 0] (by rfl) ?_))))
       refine oq [oF 0] [(8, .bool false)] ?_
       refine ops_nil (fin_then (st_ret (fin_ret_block (fin_ret_then (fin_ret_then (fin_ret_block (fin_ret_then ?_)))))))
       obtain rfl := Option.some.inj t
       exact fr [8] (cc, cf) ((b9.trans cg).trans bt) 20 [19]
      ·
       refine oMA 95 8 0 3 ?_
       refine oq [oF 5, oF 6] [(97, vI hb), (96, vP be 0), (95, .agg #[sl ap an au, sl ag ae ai, sl Z X ab]), (94, .bool false), (51, vI 0), (50, vI 3), (49, .slice (sa m) 3 3), (7, vP c 0), (6, vP g 0), (5, vP a 0), (4, vP D 0)] ?_
       refine ops_ex (σ := (Nat → Prop) × World) (I := fun u => Ext w0 cc cf u.1 u.2 ∧ RdS R_api_Kind u.1 u.2 ap au an) (M' := fun u => Mem w0 (.blk be [sl cj eg cr, sl bb dg bh, .map (some bf)] 96 :: ow bb dg bh 3 1 fw :: .obj bf (.map e4 e2) :: fo :: ow ag ae ai 3 1 dr :: ow Z X ab 61 3 c0 :: cn :: .blk av [sl ap an au, sl ag ae ai, sl Z X ab] 26 :: .blk m [.func (.func 23) #[] #[vP a 0], .func (.func 25) #[] #[vP a 0, vP g 0], .func (.func 27) #[] #[vP a 0, vP c 0]] 64 :: orow (sa bo) ([9] : List Int).length 1 3 1 ([vI 9]) :: ow a0 a2 a1 3 1 a7 :: ow A9 x5 2 86 2 bw :: ow bi x6 2 3 1 bx :: ow bj x7 2 61 3 bz :: .blk c [vI k] 3 :: .blk g [vI T, sl y M A] 42 :: .blk a [vI J, vI K] 29 :: .blk D [sl p G r, sl q H s, sl i E j] 26 :: Fz u.1 u.2 :: cs)) (fun U O => ?_) ?_
       · obtain ⟨F_, h1_, h2_, h3_⟩ := (O.pick 20 [4, 19, 0, 1, 2, 3, 5, 6, 7, 8, 9, 10, 11, 12, 13, 14, 15, 16, 17, 18] (by kernel_rfl) (by decide) rfl : Mem w0 (ow ap an au 86 2 ej :: Fz cc cf :: .blk be [sl cj eg cr, sl bb dg bh, .map (some bf)] 96 :: ow bb dg bh 3 1 fw :: .obj bf (.map e4 e2) :: fo :: ow ag ae ai 3 1 dr :: ow Z X ab 61 3 c0 :: cn :: .blk av [sl ap an au, sl ag ae ai, sl Z X ab] 26 :: .blk m [.func (.func 23) #[] #[vP a 0], .func (.func 25) #[] #[vP a 0, vP g 0], .func (.func 27) #[] #[vP a 0, vP c 0]] 64 :: orow (sa bo) ([9] : List Int).length 1 3 1 ([vI 9]) :: ow a0 a2 a1 3 1 a7 :: ow A9 x5 2 86 2 bw :: ow bi x6 2 3 1 bx :: ow bj x7 2 61 3 bz :: .blk c [vI k] 3 :: .blk g [vI T, sl y M A] 42 :: .blk a [vI J, vI K] 29 :: .blk D [sl p G r, sl q H s, sl i E j] 26 :: cs) U).freeze (z := 2) fq rfl rfl
         exact ⟨(F_, U), ⟨h1_, h2_⟩, h3_.pick 19 [1, 2, 3, 4, 5, 6, 7, 8, 9, 10, 11, 12, 13, 14, 15, 16, 17, 18, 0] (by kernel_rfl) (by decide) rfl⟩
       rintro ⟨f8, ge⟩ ⟨a3, ee⟩
       have a3 : Ext w0 cc cf f8 ge := a3
       have ee : RdS R_api_Kind f8 ge ap au an := ee
       have fb := fb.ext a3
       have fc := fc.ext a3
       have fd := fd.ext a3
       have ew := ew.ext a3
       have d5 := d5.ext a3
       have dn := dn.ext a3
       have c5 := c5.ext a3
       have dk := dk.ext a3
       have dl := dl.ext a3
       have dm := dm.ext a3
       have ac := ac.ext a3
       have B := B.ext a3
       have C := C.ext a3
       have x := x.ext a3
       refine ops_ex (σ := (Nat → Prop) × World) (I := fun u => Ext w0 f8 ge u.1 u.2 ∧ RdS (Rep.int .i64) u.1 u.2 ag ai ae) (M' := fun u => Mem w0 (.blk be [sl cj eg cr, sl bb dg bh, .map (some bf)] 96 :: ow bb dg bh 3 1 fw :: .obj bf (.map e4 e2) :: fo :: ow Z X ab 61 3 c0 :: cn :: .blk av [sl ap an au, sl ag ae ai, sl Z X ab] 26 :: .blk m [.func (.func 23) #[] #[vP a 0], .func (.func 25) #[] #[vP a 0, vP g 0], .func (.func 27) #[] #[vP a 0, vP c 0]] 64 :: orow (sa bo) ([9] : List Int).length 1 3 1 ([vI 9]) :: ow a0 a2 a1 3 1 a7 :: ow A9 x5 2 86 2 bw :: ow bi x6 2 3 1 bx :: ow bj x7 2 61 3 bz :: .blk c [vI k] 3 :: .blk g [vI T, sl y M A] 42 :: .blk a [vI J, vI K] 29 :: .blk D [sl p G r, sl q H s, sl i E j] 26 :: Fz u.1 u.2 :: cs)) (fun U O => ?_) ?_
       · obtain ⟨F_, h1_, h2_, h3_⟩ := (O.pick 19 [4, 18, 0, 1, 2, 3, 5, 6, 7, 8, 9, 10, 11, 12, 13, 14, 15, 16, 17] (by kernel_rfl) (by decide) rfl : Mem w0 (ow ag ae ai 3 1 dr :: Fz f8 ge :: .blk be [sl cj eg cr, sl bb dg bh, .map (some bf)] 96 :: ow bb dg bh 3 1 fw :: .obj bf (.map e4 e2) :: fo :: ow Z X ab 61 3 c0 :: cn :: .blk av [sl ap an au, sl ag ae ai, sl Z X ab] 26 :: .blk m [.func (.func 23) #[] #[vP a 0], .func (.func 25) #[] #[vP a 0, vP g 0], .func (.func 27) #[] #[vP a 0, vP c 0]] 64 :: orow (sa bo) ([9] : List Int).length 1 3 1 ([vI 9]) :: ow a0 a2 a1 3 1 a7 :: ow A9 x5 2 86 2 bw :: ow bi x6 2 3 1 bx :: ow bj x7 2 61 3 bz :: .blk c [vI k] 3 :: .blk g [vI T, sl y M A] 42 :: .blk a [vI J, vI K] 29 :: .blk D [sl p G r, sl q H s, sl i E j] 26 :: cs) U).freeze (z := 1) ew rfl rfl
         exact ⟨(F_, U), ⟨h1_, h2_⟩, h3_.pick 18 [1, 2, 3, 4, 5, 6, 7, 8, 9, 10, 11, 12, 13, 14, 15, 16, 17, 0] (by kernel_rfl) (by decide) rfl⟩
       rintro ⟨f9, gf⟩ ⟨a4, fe⟩
       have a4 : Ext w0 f8 ge f9 gf := a4
       have fe : RdS (Rep.int .i64) f9 gf ag ai ae := fe
       have ee := ee.ext a4
       have fb := fb.ext a4
       have fc := fc.ext a4
       have fd := fd.ext a4
       have d5 := d5.ext a4
       have dn := dn.ext a4
       have c5 := c5.ext a4
       have dk := dk.ext a4
       have dl := dl.ext a4
       have dm := dm.ext a4
       have ac := ac.ext a4
       have B := B.ext a4
       have C := C.ext a4
       have x := x.ext a4
       refine ops_ex (σ := (Nat → Prop) × World) (I := fun u => Ext w0 f9 gf u.1 u.2 ∧ RdS R_api_Item u.1 u.2 Z ab X) (M' := fun u => Mem w0 (.blk be [sl cj eg cr, sl bb dg bh, .map (some bf)] 96 :: ow bb dg bh 3 1 fw :: .obj bf (.map e4 e2) :: fo :: .blk av [sl ap an au, sl ag ae ai, sl Z X ab] 26 :: .blk m [.func (.func 23) #[] #[vP a 0], .func (.func 25) #[] #[vP a 0, vP g 0], .func (.func 27) #[] #[vP a 0, vP c 0]] 64 :: orow (sa bo) ([9] : List Int).length 1 3 1 ([vI 9]) :: ow a0 a2 a1 3 1 a7 :: ow A9 x5 2 86 2 bw :: ow bi x6 2 3 1 bx :: ow bj x7 2 61 3 bz :: .blk c [vI k] 3 :: .blk g [vI T, sl y M A] 42 :: .blk a [vI J, vI K] 29 :: .blk D [sl p G r, sl q H s, sl i E j] 26 :: Fz u.1 u.2 :: cs)) (fun U O => ?_) ?_
       · obtain ⟨F_, h1_, h2_, h3_⟩ := (O.pick 18 [4, 5, 17, 0, 1, 2, 3, 6, 7, 8, 9, 10, 11, 12, 13, 14, 15, 16] (by kernel_rfl) (by decide) rfl : Mem w0 (ow Z X ab 61 3 c0 :: cn :: Fz f9 gf :: .blk be [sl cj eg cr, sl bb dg bh, .map (some bf)] 96 :: ow bb dg bh 3 1 fw :: .obj bf (.map e4 e2) :: fo :: .blk av [sl ap an au, sl ag ae ai, sl Z X ab] 26 :: .blk m [.func (.func 23) #[] #[vP a 0], .func (.func 25) #[] #[vP a 0, vP g 0], .func (.func 27) #[] #[vP a 0, vP c 0]] 64 :: orow (sa bo) ([9] : List Int).length 1 3 1 ([vI 9]) :: ow a0 a2 a1 3 1 a7 :: ow A9 x5 2 86 2 bw :: ow bi x6 2 3 1 bx :: ow bj x7 2 61 3 bz :: .blk c [vI k] 3 :: .blk g [vI T, sl y M A] 42 :: .blk a [vI J, vI K] 29 :: .blk D [sl p G r, sl q H s, sl i E j] 26 :: cs) U).freezeOwn (z := 3) d5 rfl rfl
         exact ⟨(F_, U), ⟨h1_, h2_⟩, h3_.pick 16 [1, 2, 3, 4, 5, 6, 7, 8, 9, 10, 11, 12, 13, 14, 15, 0] (by kernel_rfl) (by decide) rfl⟩
       rintro ⟨h1, h7⟩ ⟨a5, gm⟩
       have a5 : Ext w0 f9 gf h1 h7 := a5
       have gm : RdS R_api_Item h1 h7 Z ab X := gm
       have ee := ee.ext a5
       have fe := fe.ext a5
       have fb := fb.ext a5
       have fc := fc.ext a5
       have fd := fd.ext a5
       have dn := dn.ext a5
       have c5 := c5.ext a5
       have dk := dk.ext a5
       have dl := dl.ext a5
       have dm := dm.ext a5
       have ac := ac.ext a5
       have B := B.ext a5
       have C := C.ext a5
       have x := x.ext a5
       obtain ⟨ke, je, t⟩ := obind t
       refine oV (some 98) 16 [0, 1, 2, 3, 15, 4, 5, 6, 7, 8, 9, 10, 11, 12, 13, 14] 16 [0, 1, 2, 3, 5, 6, 7, 8, 9, 10, 11, 12, 13, 14, 15, 4] (fun _ O => tourlaw3_same_v2_ok O ee fe gm fb fc fd je) ?_
       rintro ⟨la, ks, kp, kv, h2, h8⟩ ⟨k2, k3, k4, cu⟩
       have ee := ee.ext cu
       have fe := fe.ext cu
       have gm := gm.ext cu
       have dn := dn.ext cu
       have c5 := c5.ext cu
       have dk := dk.ext cu
       have dl := dl.ext cu
       have dm := dm.ext cu
       have ac := ac.ext cu
       have B := B.ext cu
       have C := C.ext cu
       have x := x.ext cu
       refine oq [oF 8, oF 9] [(100, .bool (!ke)), (51, vI 0), (50, vI 3), (49, .slice (sa m) 3 3), (7, vP c 0), (6, vP g 0), (5, vP a 0), (4, vP D 0)] ?_
       refine ops_nil (fin_then ?_)
       refine sif t (fun iy t => ?_) (fun iy t => ?_)
       ·
        refine st_seq (st_region [oF 0] (by rfl) ?_)
        refine oq [oF 0] [(8, .bool false)] ?_
        refine ops_nil (fin_then (st_ret (fin_ret_block (fin_ret_then (fin_ret_then (fin_ret_block (fin_ret_then ?_)))))))
        obtain rfl := Option.some.inj t
        exact fr [8] (h2, h8) ((((((b9.trans cg).trans bt).trans a3).trans a4).trans a5).trans cu) 16 [15]
       ·
        refine st_skip (fin_block ?_)
        exact fj jf (h2, h8) ⟨t, (((((cg.trans bt).trans a3).trans a4).trans a5).trans cu)⟩ 16 [14, 13, 12, 11, 5, 15]
end Go.Proofs.YtbfndcookgijfaaGreatDoor.C
