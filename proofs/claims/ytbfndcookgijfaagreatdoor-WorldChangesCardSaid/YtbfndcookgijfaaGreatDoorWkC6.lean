/- The Go functions come to what the plain functions tell. No condition. -/
import Derived.Test.YtbfndcookgijfaaGreatDoorProg
import Derived.Test.YtbfndcookgijfaaGreatDoorFnC
import Derived.Test.YtbfndcookgijfaaGreatDoorExSq
import Derived.Test.YtbfndcookgijfaaGreatDoorWkC5
import Derived.Test.YtbfndcookgijfaaGreatDoorEqC
import Derived.Test.YtbfndcookgijfaaGreatDoorExOwnM
namespace Go.Proofs.YtbfndcookgijfaaGreatDoor.C
open Go Go.RowKit Go.Proofs.YtbfndcookgijfaaGreatDoor.Sx
set_option linter.unusedVariables false
set_option maxHeartbeats 4000000
set_option maxRecDepth 100000
variable {w0 w : World} {cs : List Chunk} {F : Nat → Prop} {W : World}
theorem slices_BinarySearchFunc_api_Comp_api_Comp_int_ok {f : Option Addr} {g : Nat} {x : List api_Comp} {a : Int} (aq : Mem w0 (Fz F W :: cs) w) (V : RdS R_api_Comp F W f g x) {o : Int} {p : Bool} (c : slices_BinarySearchFunc_api_Comp_api_Comp_int x a = some (o, p)) : Calls Tryz.prog 80 #[sl f x g, vI a, .func (.func 81) #[] #[]] w (Post w0 (fun (_ : Unit) => True) (fun _ => .tuple #[vI o, .bool p]) (fun _ => Fz F W :: cs)) := by
 unfold slices_BinarySearchFunc_api_Comp_api_Comp_int at c
 refine sx_calls Tryz.func80 rfl (n := 49) (by kernel_rfl) (l := [(0, sl f x g), (1, vI a), (2, .func (.func 81) #[] #[])]) rfl (by rfl) aq ?_
 refine st_seq (st_region [oF 0, oF 1] (by rfl) ?_)
 refine oq [oF 0, oF 1] [(0, sl f x g), (1, vI a), (2, .func (.func 81) #[] #[])] ?_
 refine ops_nil (fin_then (st_seq ?_))
 refine st_region (oFs 0 3) (by rfl) ?_
 refine oq (oFs 0 3) [(8, vI (x.length : Int)), (0, sl f x g), (1, vI a), (2, .func (.func 81) #[] #[])] ?_
 refine ops_nil (fin_then (st_seq ?_))
 refine st_region (oFs 0 3) (by rfl) ?_
 refine oq (oFs 0 3) [(10, vI (x.length : Int)), (9, vI 0), (8, vI (x.length : Int)), (0, sl f x g), (1, vI a), (2, .func (.func 81) #[] #[])] ?_
 refine ops_nil (fin_then ?_)
 refine st_join1 (σ := Int) (L := fun t => match t with | m => [(0, sl f x g), (1, vI a), (2, .func (.func 81) #[] #[]), (8, vI (x.length : Int)), (9, vI m)]) (N := fun t => match t with | m => Mem w0 (Fz F W :: cs)) (I := fun t => match t with | m => ((slices_BinarySearchFunc_api_Comp_api_Comp_int_j1 x a) m = some (o, p))) ?_ ?_
 ·
  rintro m c
  unfold slices_BinarySearchFunc_api_Comp_api_Comp_int_j1 at c
  refine st_join1 (σ := Bool) (L := fun t => match t with | T => [(6, vI m), (7, .bool T)]) (N := fun t => match t with | T => Mem w0 (Fz F W :: cs)) (I := fun t => match t with | T => ((slices_BinarySearchFunc_api_Comp_api_Comp_int_j2 m) T = some (o, p))) ?_ ?_
  ·
   rintro T c
   unfold slices_BinarySearchFunc_api_Comp_api_Comp_int_j2 at c
   refine st_ret ?_
   obtain ⟨rfl, rfl⟩ := si2 c
   exact fr [6, 7] () trivial 0 []
  ·
   intro U
   refine st_seq ?_
   refine st_region (oFs 0 16) (by rfl) ?_
   refine oq (oFs 0 5) [(39, .bool (decide (m < (x.length : Int)))), (35, vI m), (0, sl f x g), (1, vI a), (2, .func (.func 81) #[] #[]), (9, vI m)] ?_
   refine ob c [39] (fun ar c => ?_) (fun ar c => ?_)
   ·
    refine oq (oFs 5 3) [(42, vI m), (41, sl f x g), (40, .func (.func 81) #[] #[]), (39, .bool true), (35, vI m), (1, vI a)] ?_
    obtain ⟨u, ay, c⟩ := obind c
    obtain ⟨m6, ax, X⟩ := idx_some ay
    have ad := (List.getElem?_eq_some_iff.1 X).1
    obtain ⟨y, a3, Z, hr10, H⟩ := RdS.el V X
    obtain ⟨B, D, rfl, ao⟩ := dec_api_Comp hr10
    refine ops_val (op := (.indexAddr 27 (.tmp 41) (.tmp 42))) (d := some 43) (v := .pointer (some (y.add (m6 * 2)))) ⟨by kernel_rfl⟩ (run_indexA Z Tryz.underlying27 (z := 2) (by kernel_rfl) rfl rfl ax ad) ?_
    refine ops_mem (d := some 44) (an := [.v (vI u.Kind), .v (sl B u.Vals D)]) (evs := [.load (y.add (m6 * 2)) (vI u.Kind), .load ((y.add (m6 * 2)).add 1) (sl B u.Vals D)]) (v := .agg #[vI u.Kind, sl B u.Vals D]) ⟨by kernel_rfl⟩ (fun w_ s hS => ⟨w_, ⟨s.elcell 0 rfl H 0 rfl, s.elcell 0 rfl H 1 rfl, rfl⟩, s, trivial⟩) ?_
    refine oq [oF 10] [(45, vI a), (44, .agg #[vI u.Kind, sl B u.Vals D]), (40, .func (.func 81) #[] #[]), (39, .bool true), (35, vI m)] ?_
    obtain ⟨Y, ag, c⟩ := obind c
    refine oV (some 46) 0 [] 0 [] (fun _ s => world_at_1_ok s ao ag) ?_
    rintro _ -
    refine oq (oFs 12 4) [(7, .bool (Y == 0)), (6, vI m)] ?_
    refine ops_nil ?_
    exact fj U (Y == 0) c 0 []
   ·
    refine oq (oFs 5 11) [(7, .bool false), (6, vI m)] ?_
    refine ops_nil ?_
    exact fj U false c 0 []
 ·
  intro am
  refine st_seq (st_block ?_)
  obtain ⟨r3, aw, av⟩ := obind c
  refine lp (σ := Int × Int) (ρ := Int) (γ := Unit) aw () (fun O G => match O, G with | (i, j), _ => [(0, sl f x g), (1, vI a), (2, .func (.func 81) #[] #[]), (8, vI (x.length : Int)), (9, vI i), (10, vI j)]) (fun O G => match O, G with | (i, j), _ => Mem w0 (Fz F W :: cs)) (fun O G => match O, G with | (i, j), _ => True) trivial 0 [] ?_
  rintro ⟨i, j⟩ _ o3 - hs_ au
  have c : (slices_BinarySearchFunc_api_Comp_api_Comp_int_l3 x a) i j = some o3 := hs_
  clear hs_
  unfold slices_BinarySearchFunc_api_Comp_api_Comp_int_l3 at c
  refine st_seq (st_seq ?_)
  refine st_region (oFs 0 3) (by rfl) ?_
  refine oq (oFs 0 3) [(17, .bool (decide (i < j))), (0, sl f x g), (1, vI a), (2, .func (.func 81) #[] #[]), (8, vI (x.length : Int)), (9, vI i), (10, vI j)] ?_
  refine ops_nil (fin_then ?_)
  refine sif c (fun ab c => ?_) (fun ab c => ?_)
  ·
   refine st_skip (fin_then (st_block (st_seq ?_)))
   refine st_region (oFs 0 7) (by rfl) ?_
   refine oq (oFs 0 7) [(11, vI (IntKind.i64.wrap (Int.fdiv (IntKind.u64.wrap (IntKind.i64.wrap (i + j))) 2))), (0, sl f x g), (1, vI a), (2, .func (.func 81) #[] #[]), (8, vI (x.length : Int)), (9, vI i), (10, vI j)] ?_
   obtain ⟨q, ah, c⟩ := obind c
   refine ops_conv (l' := [(11, vI q), (0, sl f x g), (1, vI a), (2, .func (.func 81) #[] #[]), (8, vI (x.length : Int)), (9, vI i), (10, vI j)]) (by rw [← Option.some.inj ah]) (fun _ h => h) ?_
   refine ops_nil (fin_then (st_seq ?_))
   refine st_region (oFs 0 8) (by rfl) ?_
   refine oq (oFs 0 3) [(26, vI q), (25, sl f x g), (24, .func (.func 81) #[] #[]), (11, vI q), (0, sl f x g), (1, vI a), (2, .func (.func 81) #[] #[]), (8, vI (x.length : Int)), (9, vI i), (10, vI j)] ?_
   obtain ⟨r, ai, c⟩ := obind c
   obtain ⟨M, af, K⟩ := idx_some ai
   have ae := (List.getElem?_eq_some_iff.1 K).1
   obtain ⟨A, a2, aa, hr31, J⟩ := RdS.el V K
   obtain ⟨C, E, rfl, ap⟩ := dec_api_Comp hr31
   refine ops_val (op := (.indexAddr 27 (.tmp 25) (.tmp 26))) (d := some 27) (v := .pointer (some (A.add (M * 2)))) ⟨by kernel_rfl⟩ (run_indexA aa Tryz.underlying27 (z := 2) (by kernel_rfl) rfl rfl af ae) ?_
   refine ops_mem (d := some 28) (an := [.v (vI r.Kind), .v (sl C r.Vals E)]) (evs := [.load (A.add (M * 2)) (vI r.Kind), .load ((A.add (M * 2)).add 1) (sl C r.Vals E)]) (v := .agg #[vI r.Kind, sl C r.Vals E]) ⟨by kernel_rfl⟩ (fun w_ s hS => ⟨w_, ⟨s.elcell 0 rfl J 0 rfl, s.elcell 0 rfl J 1 rfl, rfl⟩, s, trivial⟩) ?_
   refine oq [oF 5] [(29, vI a), (28, .agg #[vI r.Kind, sl C r.Vals E]), (24, .func (.func 81) #[] #[]), (11, vI q), (0, sl f x g), (1, vI a), (2, .func (.func 81) #[] #[]), (8, vI (x.length : Int)), (9, vI i), (10, vI j)] ?_
   obtain ⟨az, aj, c⟩ := obind c
   refine oV (some 30) 0 [] 0 [] (fun _ s => world_at_1_ok s ap aj) ?_
   rintro _ -
   refine oq [oF 7] [(31, .bool (decide (az < 0))), (11, vI q), (0, sl f x g), (1, vI a), (2, .func (.func 81) #[] #[]), (8, vI (x.length : Int)), (9, vI i), (10, vI j)] ?_
   refine ops_nil (fin_then ?_)
   refine sif c (fun ac c => ?_) (fun ac c => ?_)
   ·
    refine st_region (oFs 0 3) (by rfl) ?_
    refine oq (oFs 0 3) [(9, vI (IntKind.i64.wrap (q + 1))), (0, sl f x g), (1, vI a), (2, .func (.func 81) #[] #[]), (8, vI (x.length : Int)), (10, vI j)] ?_
    refine ops_nil (fin_block ?_)
    exact fag (IntKind.i64.wrap (q + 1), j) () (Option.some.inj c).symm trivial 0 []
   ·
    refine st_region [oF 0, oF 1] (by rfl) ?_
    refine oq [oF 0, oF 1] [(10, vI q), (0, sl f x g), (1, vI a), (2, .func (.func 81) #[] #[]), (8, vI (x.length : Int)), (9, vI i)] ?_
    refine ops_nil (fin_block ?_)
    exact fag (i, q) () (Option.some.inj c).symm trivial 0 []
  ·
   refine st_exit (fin_exit_then (fin_exit_then (fin_exit ?_)))
   obtain rfl := Option.some.inj c
   obtain rfl := au _ rfl
   have c : (slices_BinarySearchFunc_api_Comp_api_Comp_int_j1 x a) i = some (o, p) := av
   exact fj am i c 0 []
theorem world_at_ok {a : Option Addr} {b : Nat} {l : List api_Comp} {k : Int} (j : Mem w0 (Fz F W :: cs) w) (m : RdS R_api_Comp F W a b l) {c : Int} {d : Bool} (g : world_at l k = some (c, d)) : Calls Tryz.prog 53 #[sl a l b, vI k] w (Post w0 (fun (_ : Unit) => True) (fun _ => .tuple #[vI c, .bool d]) (fun _ => Fz F W :: cs)) := by
 unfold world_at at g
 refine sx_calls Tryz.func53 rfl (n := 11) (by kernel_rfl) (l := [(0, sl a l b), (1, vI k)]) rfl (by rfl) j ?_
 refine st_seq (st_region [oF 0, oF 1] (by rfl) ?_)
 refine oq [oF 0, oF 1] [(0, sl a l b), (1, vI k)] ?_
 refine ops_nil (fin_then (st_seq ?_))
 refine st_region (oFs 0 7) (by rfl) ?_
 refine oq [oF 0, oF 1] [(7, vI k), (6, sl a l b)] ?_
 obtain ⟨r, s, o, g⟩ := obind2 g
 refine oV (some 8) 0 [] 0 [] (fun _ q => slices_BinarySearchFunc_api_Comp_api_Comp_int_ok q m o) ?_
 rintro _ -
 refine oq (oFs 3 4) [(5, .bool s), (4, vI r)] ?_
 refine ops_nil (fin_then (st_ret ?_))
 obtain ⟨rfl, rfl⟩ := si2 g
 exact fr [4, 5] () trivial 0 []
theorem slices_Clone_int_int_ok {i : Option Addr} {a : Nat} {s : List Int} (I : Mem w0 (Fz F W :: cs) w) (v : RdS (Rep.int .i64) F W i a s) {b : List Int} (j : slices_Clone_int_int s = some b) : Calls Tryz.prog 49 #[sl i s a] w (Post w0 (fun ((c, f, g) : (Option Addr) × Nat × (List Value)) => (RepL (Rep.int .i64) F W b g)) (fun (c, f, g) => sl c b f) (fun (c, f, g) => ow c b f 3 1 g :: Fz F W :: cs)) := by
 unfold slices_Clone_int_int at j
 refine sx_calls Tryz.func49 rfl (n := 8) (by kernel_rfl) (l := [(0, sl i s a)]) rfl (by rfl) I ?_
 refine st_seq (st_region [oF 0] (by rfl) ?_)
 refine oq [oF 0] [(0, sl i s a)] ?_
 refine ops_nil (fin_then (st_seq (st_seq (st_region [oF 0, oF 1] (by rfl) ?_))))
 refine oq [oF 0] [(3, sl i s a), (0, sl i s a)] ?_
 have B := fun e_ => RdS.len0 v e_
 rcases i with _ | p
 ·
  have j : some ([] : List Int) = some b := by rw [← j, B rfl]; simp [app]
  refine oq [oF 1] [(4, .bool true), (3, sl none s a), (0, sl none s a)] ?_
  refine ops_nil (fin_then (st_true rfl (st_seq (st_region [oF 0] (by rfl) ?_))))
  refine oq [oF 0] [(2, .slice none 0 0)] ?_
  refine ops_nil (fin_then (st_ret (fin_ret_then ?_)))
  refine fnil 3 1 ?_
  obtain rfl := Option.some.inj j
  exact fr [2] (none, 0, []) (RepL.nil (R := (Rep.int .i64))) 0 []
 ·
  clear B
  refine oq [oF 1] [(4, .bool false), (3, sl (some p) s a), (0, sl (some p) s a)] ?_
  refine ops_nil (fin_then (st_false rfl (st_skip (fin_then (st_seq ?_)))))
  refine st_region (oFs 0 4) (by rfl) ?_
  have M : RepL (Rep.int .i64) F W ([] : List Int) ([]) := RepL.nil
  refine oB 5 [] 3 0 1 (fun L => ?_)
  refine oq [oF 1] [(6, sl (some p) s a), (5, sl (sa L) ([] : List Int) 0)] ?_
  obtain ⟨E, K, j⟩ := obind j
  obtain ⟨A, J⟩ := app_some K
  obtain ⟨C, k, D⟩ := RdS.src v
  obtain ⟨G, q⟩ : ∃ y_, [] ++ C = y_ := ⟨_, rfl⟩
  have H : RepL (Rep.int .i64) F W E G := by rw [A, ← q]; exact RepL.app M k
  refine ops_appendO (x := (Go.Operand.tmp 5)) (y := (Go.Operand.tmp 6)) (t := 23) (e := 3) (d := some 7) (n' := E.length) (z := 1) (m := s.length) (bytes := 8) (xs' := G) (news := C) (zv := vI 0) 0 ⟨by kernel_rfl⟩ rfl rfl Tryz.underlying23 (by kernel_rfl) (by rfl) rfl (fun T N => N.srcS 1 rfl k D) k.len k.one J (by have z_ := congrArg List.length A; rw [List.length_append] at z_; exact z_.symm) q (fun _ _ _ _ O h' => trivial) ?_
  rintro ⟨r, u⟩
  refine oq [oF 3] [(2, sl r E u)] ?_
  refine ops_nil (fin_then (st_ret ?_))
  obtain rfl := Option.some.inj j
  exact fr [2] (r, u, G) H 0 []
theorem world_Get_ok {m : Option Addr} {q : Nat} {A : List api_Kind} {o : Option Addr} {r : Nat} {B : List Int} {b : Option Addr} {c : Nat} {x : List api_Item} {K : Int} {L : Int} {k : Int} (bb : Mem w0 (Fz F W :: cs) w) (M : RdS R_api_Kind F W m q A) (N : RdS (Rep.int .i64) F W o r B) (s : RdS R_api_Item F W b c x) {t : List Int} {O : Int} (a : world_Get A B x K L k = some (t, O)) : Calls Tryz.prog 18 #[.agg #[sl m A q, sl o B r, sl b x c], .agg #[vI K, vI L], vI k] w (Post w0 (fun ((j, p, u) : (Option Addr) × Nat × (List Value)) => (RepL (Rep.int .i64) F W t u)) (fun (j, p, u) => .tuple #[sl j t p, vI O]) (fun (j, p, u) => ow j t p 3 1 u :: Fz F W :: cs)) := by
 unfold world_Get at a
 refine sx_calls Tryz.func18 rfl (n := 46) (by kernel_rfl) (l := [(0, .agg #[sl m A q, sl o B r, sl b x c]), (1, .agg #[vI K, vI L]), (2, vI k)]) rfl (by rfl) bb ?_
 refine st_seq ?_
 refine st_region (oFs 0 4) (by rfl) ?_
 refine oN 3 [sl m A q, sl o B r, sl b x c] 26 (fun g => ?_)
 refine oN 4 [vI K, vI L] 29 (fun b2 => ?_)
 refine oq [oF 2, oF 3] [(4, vP b2 0), (3, vP g 0), (2, vI k)] ?_
 refine ops_nil (fin_then (st_seq (st_seq ?_)))
 refine st_region (oFs 0 3) (by rfl) ?_
 refine oMA 12 1 0 3 ?_
 obtain ⟨x3, bf, a⟩ := obind a
 refine oV (some 13) 3 [2, 0, 1] 3 [1, 2, 0] (fun _ f => world_Check_ok f M N s bf) ?_
 rintro _ -
 refine oq [oF 2] [(8, vI x3), (4, vP b2 0), (3, vP g 0), (2, vI k)] ?_
 refine ops_nil (fin_then (st_seq (st_region [oF 0, oF 1] (by rfl) ?_)))
 refine oq [oF 0, oF 1] [(15, .bool (!(x3 == 0))), (8, vI x3), (4, vP b2 0), (3, vP g 0), (2, vI k)] ?_
 refine ops_nil (fin_then ?_)
 refine sif a (fun bd a => ?_) (fun bd a => ?_)
 ·
  refine st_seq ?_
  refine st_region (oFs 0 3) (by rfl) ?_
  refine oq (oFs 0 3) [(7, vI x3), (6, .slice none 0 0)] ?_
  refine ops_nil (fin_then (st_ret (fin_ret_then ?_)))
  refine fnil 3 1 ?_
  obtain ⟨rfl, rfl⟩ := si2 a
  exact fr [6, 7] (none, 0, []) (RepL.nil (R := (Rep.int .i64))) 4 [0, 3]
 ·
  refine st_skip (fin_then (st_seq ?_))
  refine st_region (oFs 0 4) (by rfl) ?_
  refine oMA 17 1 0 3 ?_
  refine oMA 18 0 0 2 ?_
  obtain ⟨i, bg, a⟩ := obind a
  refine oV (some 19) 3 [2, 0, 1] 3 [1, 2, 0] (fun _ f => world_Find_ok f M N s bg) ?_
  rintro _ -
  refine oq [oF 3] [(9, vI i), (3, vP g 0), (2, vI k)] ?_
  refine ops_nil (fin_then (st_seq (st_seq (st_region [oF 0, oF 1] (by rfl) ?_))))
  refine oq [oF 0, oF 1] [(21, .bool (decide (i < 0))), (9, vI i), (3, vP g 0), (2, vI k)] ?_
  refine ops_nil (fin_then ?_)
  refine sif a (fun be a => ?_) (fun be a => ?_)
  ·
   refine st_seq (st_region [oF 0, oF 1] (by rfl) ?_)
   refine oq [oF 0, oF 1] [(7, vI 4), (6, .slice none 0 0)] ?_
   refine ops_nil (fin_then (st_ret (fin_ret_then ?_)))
   refine fnil 3 1 ?_
   obtain ⟨rfl, rfl⟩ := si2 a
   exact fr [6, 7] (none, 0, []) (RepL.nil (R := (Rep.int .i64))) 4 [0, 3]
  ·
   refine st_skip (fin_then (st_seq ?_))
   refine st_region (oFs 0 13) (by rfl) ?_
   refine oq [oF 0] [(23, vP g 2), (9, vI i), (3, vP g 0), (2, vI k)] ?_
   refine oM 24 1 2 ?_
   refine oq [oF 2] [(25, vI i), (24, sl b x c), (9, vI i), (3, vP g 0), (2, vI k)] ?_
   obtain ⟨x9, a2, a⟩ := obind a
   obtain ⟨ab, aw, Y⟩ := idx_some a2
   have ar := (List.getElem?_eq_some_iff.1 Y).1
   obtain ⟨C, bj, am, hr15, az⟩ := RdS.el s Y
   obtain ⟨G, I, rfl, a7⟩ := dec_api_Item hr15
   refine ops_val (op := (.indexAddr 24 (.tmp 24) (.tmp 25))) (d := some 26) (v := .pointer (some (C.add (ab * 3)))) ⟨by kernel_rfl⟩ (run_indexA am Tryz.underlying24 (z := 3) (by kernel_rfl) rfl rfl aw ar) ?_
   refine oq [oF 4] [(27, .pointer (some ((C.add (ab * 3)).add 2))), (9, vI i), (3, vP g 0), (2, vI k)] ?_
   refine ops_mem (d := some 28) (an := [.v (sl G x9.Comps I)]) (evs := [.load ((C.add (ab * 3)).add 2) (sl G x9.Comps I)]) (v := sl G x9.Comps I) ⟨by kernel_rfl⟩ (fun w_ f hS => ⟨w_, ⟨f.elcell 2 rfl az 2 rfl, rfl⟩, f, trivial⟩) ?_
   refine oq [oF 6] [(29, vI k), (28, sl G x9.Comps I), (9, vI i), (3, vP g 0)] ?_
   obtain ⟨y, ak, a3, a⟩ := obind2 a
   refine oV (some 30) 3 [2, 0, 1] 3 [1, 2, 0] (fun _ f => world_at_ok f a7 a3) ?_
   rintro _ -
   refine oq (oFs 8 5) [(11, .bool ak), (10, vI y), (9, vI i), (3, vP g 0)] ?_
   refine ops_nil (fin_then (st_seq (st_seq (st_region [oF 0, oF 1] (by rfl) ?_))))
   refine oq [oF 0, oF 1] [(34, .bool (!ak)), (10, vI y), (9, vI i), (3, vP g 0)] ?_
   refine ops_nil (fin_then ?_)
   refine sif a (fun aq a => ?_) (fun aq a => ?_)
   ·
    refine st_seq (st_region [oF 0, oF 1] (by rfl) ?_)
    refine oq [oF 0, oF 1] [(7, vI 4), (6, .slice none 0 0)] ?_
    refine ops_nil (fin_then (st_ret (fin_ret_then ?_)))
    refine fnil 3 1 ?_
    obtain ⟨rfl, rfl⟩ := si2 a
    exact fr [6, 7] (none, 0, []) (RepL.nil (R := (Rep.int .i64))) 4 [0, 3]
   ·
    refine st_skip (fin_then (st_seq ?_))
    refine st_region (oFs 0 13) (by rfl) ?_
    refine oq [oF 0] [(35, vP g 2), (10, vI y), (9, vI i)] ?_
    refine oM 36 1 2 ?_
    refine oq [oF 2] [(37, vI i), (36, sl b x c), (10, vI y)] ?_
    obtain ⟨T, a4, a⟩ := obind a
    obtain ⟨ac, ax, Z⟩ := idx_some a4
    have au := (List.getElem?_eq_some_iff.1 Z).1
    obtain ⟨D, bk, ao, hr33, a0⟩ := RdS.el s Z
    obtain ⟨H, J, rfl, a8⟩ := dec_api_Item hr33
    refine ops_val (op := (.indexAddr 24 (.tmp 36) (.tmp 37))) (d := some 38) (v := .pointer (some (D.add (ac * 3)))) ⟨by kernel_rfl⟩ (run_indexA ao Tryz.underlying24 (z := 3) (by kernel_rfl) rfl rfl ax au) ?_
    refine oq [oF 4] [(39, .pointer (some ((D.add (ac * 3)).add 2))), (10, vI y)] ?_
    refine ops_mem (d := some 40) (an := [.v (sl H T.Comps J)]) (evs := [.load ((D.add (ac * 3)).add 2) (sl H T.Comps J)]) (v := sl H T.Comps J) ⟨by kernel_rfl⟩ (fun w_ f hS => ⟨w_, ⟨f.elcell 2 rfl a0 2 rfl, rfl⟩, f, trivial⟩) ?_
    refine oq [oF 6] [(41, vI y), (40, sl H T.Comps J)] ?_
    obtain ⟨af, a5, a⟩ := obind a
    obtain ⟨ad, ay, aa⟩ := idx_some a5
    have av := (List.getElem?_eq_some_iff.1 aa).1
    obtain ⟨E, bl, ap, hr47, a1⟩ := RdS.el a8 aa
    obtain ⟨V, X, rfl, a9⟩ := dec_api_Comp hr47
    refine ops_val (op := (.indexAddr 27 (.tmp 40) (.tmp 41))) (d := some 42) (v := .pointer (some (E.add (ad * 2)))) ⟨by kernel_rfl⟩ (run_indexA ap Tryz.underlying27 (z := 2) (by kernel_rfl) rfl rfl ay av) ?_
    refine oq [oF 8] [(43, .pointer (some ((E.add (ad * 2)).add 1)))] ?_
    refine ops_mem (d := some 44) (an := [.v (sl V af.Vals X)]) (evs := [.load ((E.add (ad * 2)).add 1) (sl V af.Vals X)]) (v := sl V af.Vals X) ⟨by kernel_rfl⟩ (fun w_ f hS => ⟨w_, ⟨f.elcell 2 rfl a1 1 rfl, rfl⟩, f, trivial⟩) ?_
    obtain ⟨bh, a6, a⟩ := obind a
    refine oV (some 45) 3 [2, 0, 1] 4 [0, 2, 3, 1] (fun _ f => slices_Clone_int_int_ok f a9 a6) ?_
    rintro ⟨ai, aj, bi⟩ ba
    refine oq [oF 11, oF 12] [(7, vI 0), (6, sl ai bh aj)] ?_
    refine ops_nil (fin_then (st_ret ?_))
    obtain ⟨rfl, rfl⟩ := si2 a
    exact fr [6, 7] (ai, aj, bi) ba 4 [0, 3]
theorem slices_Equal_int_int_ok {f : Option Addr} {i : Nat} {a : List Int} {g : Option Addr} {j : Nat} {b : List Int} (Z : Mem w0 (Fz F W :: cs) w) (H : RdS (Rep.int .i64) F W f i a) (J : RdS (Rep.int .i64) F W g j b) {o : Bool} (k : slices_Equal_int_int a b = some o) : Calls Tryz.prog 19 #[sl f a i, sl g b j] w (Post w0 (fun (_ : Unit) => True) (fun _ => .bool o) (fun _ => Fz F W :: cs)) := by
 unfold slices_Equal_int_int at k
 refine sx_calls Tryz.func19 rfl (n := 26) (by kernel_rfl) (l := [(0, sl f a i), (1, sl g b j)]) rfl (by rfl) Z ?_
 refine st_seq (st_region [oF 0] (by rfl) ?_)
 refine oq [oF 0] [(0, sl f a i), (1, sl g b j)] ?_
 refine ops_nil (fin_then (st_seq (st_seq ?_)))
 refine st_region (oFs 0 5) (by rfl) ?_
 refine oq (oFs 0 5) [(10, .bool (!((a.length : Int) == (b.length : Int)))), (0, sl f a i), (1, sl g b j)] ?_
 refine ops_nil (fin_then ?_)
 refine sif k (fun aa k => ?_) (fun aa k => ?_)
 ·
  refine st_seq (st_region [oF 0] (by rfl) ?_)
  refine oq [oF 0] [(4, .bool false)] ?_
  refine ops_nil (fin_then (st_ret (fin_ret_then ?_)))
  obtain rfl := Option.some.inj k
  exact fr [4] () trivial 0 []
 ·
  refine st_skip (fin_then ?_)
  refine st_join1 (σ := Unit) (L := fun _ => []) (N := fun _ => Mem w0 (Fz F W :: cs)) (I := fun _ => (slices_Equal_int_int_j1 = some o)) ?_ ?_
  ·
   rintro _ k
   unfold slices_Equal_int_int_j1 at k
   refine st_seq (st_region [oF 0] (by rfl) ?_)
   refine oq [oF 0] [(4, .bool true)] ?_
   refine ops_nil (fin_then (st_ret ?_))
   obtain rfl := Option.some.inj k
   exact fr [4] () trivial 0 []
  ·
   intro Y
   refine st_seq (st_seq ?_)
   refine st_region (oFs 0 3) (by rfl) ?_
   refine oq (oFs 0 3) [(13, vI 0), (12, vI (a.length : Int)), (0, sl f a i), (1, sl g b j)] ?_
   refine ops_nil (fin_then (st_block ?_))
   obtain ⟨r2, ac, B⟩ := obind k
   refine lp (σ := Int) (ρ := (Bool ⊕ Unit)) (γ := Unit) ac () (fun x t => match x, t with | m, _ => [(0, sl f a i), (1, sl g b j), (12, vI (a.length : Int)), (13, vI m)]) (fun x t => match x, t with | m, _ => Mem w0 (Fz F W :: cs)) (fun x t => match x, t with | m, _ => True) trivial 0 [] ?_
   rintro m _ o2 - hs_ A
   have k : (slices_Equal_int_int_l2 a b) m = some o2 := hs_
   clear hs_
   unfold slices_Equal_int_int_l2 at k
   refine st_seq (st_region [oF 0] (by rfl) ?_)
   refine oq [oF 0] [(14, .bool (decide (m < (a.length : Int)))), (0, sl f a i), (1, sl g b j), (12, vI (a.length : Int)), (13, vI m)] ?_
   refine ops_nil (fin_then (st_seq ?_))
   refine sif k (fun ab k => ?_) (fun ab k => ?_)
   ·
    refine st_skip (fin_then (st_seq (st_block (st_seq (st_region [oF 0, oF 1] (by rfl) ?_)))))
    refine oq [oF 0, oF 1] [(5, vI m), (0, sl f a i), (1, sl g b j), (12, vI (a.length : Int)), (13, vI m)] ?_
    refine ops_nil (fin_then (st_seq ?_))
    refine st_region_draw (oTs 0 9) (Mem w0 (Fz F W :: cs)) (by kernel_rfl) (by kernel_rfl) (by kernel_rfl) (fun _ d _ _ _ h => by cases d <;> exact h) (M' := Mem w0 (Fz F W :: cs)) (fun w_ q => ⟨q.drew, q.drew.sub (.cons_cons _ (.refl _))⟩) ?_
    refine oq [oT 0, oT 1] [(17, vI m), (16, sl f a i), (5, vI m), (0, sl f a i), (1, sl g b j), (12, vI (a.length : Int)), (13, vI m)] ?_
    obtain ⟨y, ae, k⟩ := obind k
    obtain ⟨m6, ad, C⟩ := idx_some ae
    have M := (List.getElem?_eq_some_iff.1 C).1
    obtain ⟨r, aj, E, hr10, U⟩ := RdS.el H C
    obtain rfl := hr10
    refine ops_val (op := (.indexAddr 23 (.tmp 16) (.tmp 17))) (d := some 18) (v := .pointer (some (r.add (m6 * 1)))) ⟨by kernel_rfl⟩ (run_indexA E Tryz.underlying23 (z := 1) (by kernel_rfl) rfl rfl ad M) ?_
    refine ops_load (d := some 19) (an := [.v (vI y)]) (evs := [.load (r.add (m6 * 1)) (vI y)]) (v := vI y) ⟨by kernel_rfl⟩ (fun w_ q => ⟨q.elcell 0 rfl U 0 rfl, rfl⟩) ?_
    refine oq [oT 4, oT 5] [(21, vI m), (20, sl g b j), (19, vI y), (0, sl f a i), (1, sl g b j), (12, vI (a.length : Int)), (13, vI m)] ?_
    obtain ⟨p, X, k⟩ := obind k
    obtain ⟨D, T, u⟩ := idx_some X
    have O := (List.getElem?_eq_some_iff.1 u).1
    obtain ⟨s, ai, G, hr21, V⟩ := RdS.el J u
    obtain rfl := hr21
    refine ops_val (op := (.indexAddr 23 (.tmp 20) (.tmp 21))) (d := some 22) (v := .pointer (some (s.add (D * 1)))) ⟨by kernel_rfl⟩ (run_indexA G Tryz.underlying23 (z := 1) (by kernel_rfl) rfl rfl T O) ?_
    refine ops_load (d := some 23) (an := [.v (vI p)]) (evs := [.load (s.add (D * 1)) (vI p)]) (v := vI p) ⟨by kernel_rfl⟩ (fun w_ q => ⟨q.elcell 0 rfl V 0 rfl, rfl⟩) ?_
    refine oq [oT 8] [(24, .bool (!(y == p))), (0, sl f a i), (1, sl g b j), (12, vI (a.length : Int)), (13, vI m)] ?_
    refine ops_nil (fin_then ?_)
    refine sif k (fun K k => ?_) (fun K k => ?_)
    ·
     refine st_seq (st_region [oF 0] (by rfl) ?_)
     refine oq [oF 0] [(4, .bool false)] ?_
     refine ops_nil (fin_then (st_ret (fin_ret_block (fin_ret_then (fin_ret_then (fin_ret_block (fin_ret_then ?_)))))))
     obtain rfl := Option.some.inj k
     obtain rfl := A _ rfl
     have k : some false = some o := B
     obtain rfl := Option.some.inj k
     exact fr [4] () trivial 0 []
    ·
     refine st_skip (fin_block (fin_then (st_region [oF 0, oF 1] (by rfl) ?_)))
     refine oq [oF 0, oF 1] [(13, vI (IntKind.i64.wrap (m + 1))), (0, sl f a i), (1, sl g b j), (12, vI (a.length : Int))] ?_
     refine ops_nil ?_
     exact fag (IntKind.i64.wrap (m + 1)) () (Option.some.inj k).symm trivial 0 []
   ·
    refine st_exit (fin_exit_then (fin_exit_then (fin_exit ?_)))
    obtain rfl := Option.some.inj k
    obtain rfl := A _ rfl
    have k : slices_Equal_int_int_j1 = some o := B
    exact fj Y () k 0 []
theorem tourlaw3_WorldChanges_1_ok {a : Int} {b : Int} {g : Option Addr} {i : Nat} {k : List api_Comp} {j : Nat} {c : Int} {f : Int} (q : Mem w0 (.blk j [vI c, vI f] 29 :: Fz F W :: cs) w) (s : RdS R_api_Comp F W g i k) {o : Bool} (t : tourlaw3_WorldChanges_1 a b k c f = some o) : Calls Tryz.prog 22 #[.agg #[vI a, vI b, sl g k i], vP j 0] w (Post w0 (fun (_ : Unit) => True) (fun _ => .bool o) (fun _ => .blk j [vI c, vI f] 29 :: Fz F W :: cs)) := by
 unfold tourlaw3_WorldChanges_1 at t
 refine sx_calls Tryz.func22 rfl (n := 8) (by kernel_rfl) (l := [(0, .agg #[vI a, vI b, sl g k i]), (1, vP j 0)]) rfl (by rfl) q ?_
 refine st_seq (st_region [oF 0, oF 1] (by rfl) ?_)
 refine oN 2 [vI a, vI b, sl g k i] 61 (fun p => ?_)
 refine oq [oF 1] [(2, vP p 0), (1, vP j 0)] ?_
 refine ops_nil (fin_then (st_seq ?_))
 refine st_region (oFs 0 5) (by rfl) ?_
 refine oq [oF 0] [(4, vP p 0), (1, vP j 0)] ?_
 refine oMA 5 0 0 2 ?_
 refine oMA 6 1 0 2 ?_
 refine ops_val (op := (.binOp Go.BinOp.eql 29 (.tmp 5) (.tmp 6) 29)) (d := some 7) (v := .bool (a == c && (b == f))) ⟨by kernel_rfl⟩ (run_eql_agg (r := a == c && (b == f)) rfl rfl (by kernel_rfl) (fun w => eqA29 9998 w a c b f)) ?_
 refine oq [oF 4] [(3, .bool (a == c && (b == f)))] ?_
 refine ops_nil (fin_then (st_ret ?_))
 obtain rfl := Option.some.inj t
 exact fr [3] () trivial 3 [1, 2]
theorem slices_IndexFunc_api_Item_api_Item_v2_ok {i : Option Addr} {j : Nat} {s : List api_Item} {a : Nat} {f : Int} {g : Int} (T : Mem w0 (.blk a [vI f, vI g] 29 :: Fz F W :: cs) w) (U : RdS R_api_Item F W i j s) {m : Int} (c : slices_IndexFunc_api_Item_api_Item_v2 s f g = some m) : Calls Tryz.prog 21 #[sl i s j, .func (.func 22) #[] #[vP a 0]] w (Post w0 (fun (_ : Unit) => True) (fun _ => vI m) (fun _ => .blk a [vI f, vI g] 29 :: Fz F W :: cs)) := by
 unfold slices_IndexFunc_api_Item_api_Item_v2 at c
 refine sx_calls Tryz.func21 rfl (n := 19) (by kernel_rfl) (l := [(0, sl i s j), (1, .func (.func 22) #[] #[vP a 0])]) rfl (by rfl) T ?_
 refine st_seq (st_region [oF 0] (by rfl) ?_)
 refine oq [oF 0] [(0, sl i s j), (1, .func (.func 22) #[] #[vP a 0])] ?_
 refine ops_nil (fin_then ?_)
 refine st_join1 (σ := Unit) (L := fun _ => []) (N := fun _ => Mem w0 (.blk a [vI f, vI g] 29 :: Fz F W :: cs)) (I := fun _ => (slices_IndexFunc_api_Item_api_Item_v2_j1 = some m)) ?_ ?_
 ·
  rintro _ c
  unfold slices_IndexFunc_api_Item_api_Item_v2_j1 at c
  refine st_seq (st_region [oF 0] (by rfl) ?_)
  refine oq [oF 0] [(4, vI (-1))] ?_
  refine ops_nil (fin_then (st_ret ?_))
  obtain rfl := Option.some.inj c
  exact fr [4] () trivial 0 []
 ·
  intro M
  refine st_seq (st_seq ?_)
  refine st_region (oFs 0 3) (by rfl) ?_
  refine oq (oFs 0 3) [(8, vI 0), (7, vI (s.length : Int)), (0, sl i s j), (1, .func (.func 22) #[] #[vP a 0])] ?_
  refine ops_nil (fin_then (st_block ?_))
  obtain ⟨r2, X, D⟩ := obind c
  refine lp (σ := Int) (ρ := (Int ⊕ Unit)) (γ := Unit) X () (fun A y => match A, y with | k, _ => [(0, sl i s j), (1, .func (.func 22) #[] #[vP a 0]), (7, vI (s.length : Int)), (8, vI k)]) (fun A y => match A, y with | k, _ => Mem w0 (.blk a [vI f, vI g] 29 :: Fz F W :: cs)) (fun A y => match A, y with | k, _ => True) trivial 0 [] ?_
  rintro k _ o2 - hs_ C
  have c : (slices_IndexFunc_api_Item_api_Item_v2_l2 s f g) k = some o2 := hs_
  clear hs_
  unfold slices_IndexFunc_api_Item_api_Item_v2_l2 at c
  refine st_seq (st_region [oF 0] (by rfl) ?_)
  refine oq [oF 0] [(9, .bool (decide (k < (s.length : Int)))), (0, sl i s j), (1, .func (.func 22) #[] #[vP a 0]), (7, vI (s.length : Int)), (8, vI k)] ?_
  refine ops_nil (fin_then (st_seq ?_))
  refine sif c (fun V c => ?_) (fun V c => ?_)
  ·
   refine st_skip (fin_then (st_seq (st_block (st_seq (st_region [oF 0, oF 1] (by rfl) ?_)))))
   refine oq [oF 0, oF 1] [(5, vI k), (0, sl i s j), (1, .func (.func 22) #[] #[vP a 0]), (7, vI (s.length : Int)), (8, vI k)] ?_
   refine ops_nil (fin_then (st_seq ?_))
   refine st_region (oFs 0 6) (by rfl) ?_
   refine oq (oFs 0 3) [(13, vI k), (12, sl i s j), (11, .func (.func 22) #[] #[vP a 0]), (5, vI k), (0, sl i s j), (1, .func (.func 22) #[] #[vP a 0]), (7, vI (s.length : Int)), (8, vI k)] ?_
   obtain ⟨q, Z, c⟩ := obind c
   obtain ⟨B, Y, E⟩ := idx_some Z
   have J := (List.getElem?_eq_some_iff.1 E).1
   obtain ⟨p, ac, G, hr9, r⟩ := RdS.el U E
   obtain ⟨u, x, rfl, O⟩ := dec_api_Item hr9
   refine ops_val (op := (.indexAddr 24 (.tmp 12) (.tmp 13))) (d := some 14) (v := .pointer (some (p.add (B * 3)))) ⟨by kernel_rfl⟩ (run_indexA G Tryz.underlying24 (z := 3) (by kernel_rfl) rfl rfl Y J) ?_
   refine ops_mem (d := some 15) (an := [.v (vI q.Ent.N), .v (vI q.Ent.Gen), .v (sl u q.Comps x)]) (evs := [.load (p.add (B * 3)) (vI q.Ent.N), .load ((p.add (B * 3)).add 1) (vI q.Ent.Gen), .load ((p.add (B * 3)).add 2) (sl u q.Comps x)]) (v := .agg #[vI q.Ent.N, vI q.Ent.Gen, sl u q.Comps x]) ⟨by kernel_rfl⟩ (fun w_ t hS => ⟨w_, ⟨t.elcell 1 rfl r 0 rfl, t.elcell 1 rfl r 1 rfl, t.elcell 1 rfl r 2 rfl, rfl⟩, t, trivial⟩) ?_
   obtain ⟨ad, K, c⟩ := obind c
   refine oV (some 16) 0 [] 0 [] (fun _ t => tourlaw3_WorldChanges_1_ok t O K) ?_
   rintro _ -
   refine ops_nil (fin_then ?_)
   refine sif c (fun H c => ?_) (fun H c => ?_)
   ·
    refine st_seq (st_region [oF 0, oF 1] (by rfl) ?_)
    refine oq [oF 0, oF 1] [(4, vI k)] ?_
    refine ops_nil (fin_then (st_ret (fin_ret_block (fin_ret_then (fin_ret_then (fin_ret_block (fin_ret_then ?_)))))))
    obtain rfl := Option.some.inj c
    obtain rfl := C _ rfl
    have c : some k = some m := D
    obtain rfl := Option.some.inj c
    exact fr [4] () trivial 0 []
   ·
    refine st_skip (fin_block (fin_then (st_region [oF 0, oF 1] (by rfl) ?_)))
    refine oq [oF 0, oF 1] [(8, vI (IntKind.i64.wrap (k + 1))), (0, sl i s j), (1, .func (.func 22) #[] #[vP a 0]), (7, vI (s.length : Int))] ?_
    refine ops_nil ?_
    exact fag (IntKind.i64.wrap (k + 1)) () (Option.some.inj c).symm trivial 0 []
  ·
   refine st_exit (fin_exit_then (fin_exit_then (fin_exit ?_)))
   obtain rfl := Option.some.inj c
   obtain rfl := C _ rfl
   have c : slices_IndexFunc_api_Item_api_Item_v2_j1 = some m := D
   exact fj M () c 0 []
theorem kind_Copy_ok {i : Option Addr} {j : Nat} {l : List api_Kind} (br : Mem w0 (Fz F W :: cs) w) (af : RdS R_api_Kind F W i j l) {D : List api_Kind} (k : kind_Copy l = some D) : Calls Tryz.prog 61 #[sl i l j] w (Post w0 (fun ((U, V, X, H, J) : (Option Addr) × Nat × (List Value) × (Nat → Prop) × World) => (RepL R_api_Kind H J D X) ∧ (Ext w0 F W H J)) (fun (U, V, X, H, J) => sl U D V) (fun (U, V, X, H, J) => ow U D V 86 2 X :: Fz H J :: cs)) := by
 unfold kind_Copy at k
 refine sx_calls Tryz.func61 rfl (n := 27) (by kernel_rfl) (l := [(0, sl i l j)]) rfl (by rfl) br ?_
 refine st_seq (st_region [oF 0] (by rfl) ?_)
 refine oq [oF 0] [(0, sl i l j)] ?_
 refine ops_nil (fin_then (st_seq ?_))
 refine st_region (oFs 0 4) (by rfl) ?_
 refine oq [oF 0, oF 1] [(7, vI (l.length : Int)), (0, sl i l j)] ?_
 obtain ⟨g, bw, k⟩ := obind k
 obtain ⟨m3, a6, a5, bs⟩ := mk_some bw
 have ak : g.length = m3 := by rw [a5, List.length_replicate]
 obtain ⟨y8, a7⟩ : ∃ y_, (Sx.madeOf [.string ByteArray.empty, .slice none 0 0] (g.length * 2)).toList = y_ := ⟨_, rfl⟩
 have bn : RepL R_api_Kind F W g y8 := by rw [← a7, ak, a5]; exact RepL.made (enc_api_Kind (RdS.empty _)) (by decide) _
 refine ops_makeO (t := 22) (x := (Go.Operand.tmp 7)) (y := (Go.Operand.tmp 7)) (d := some 8) (nn := g.length) (z := 2) (bytes := 40) (xs := y8) (zv := .agg #[.string ByteArray.empty, .slice none 0 0]) ⟨by kernel_rfl⟩ rfl rfl (by rw [ak]; exact a6) (by rw [ak]; exact a6) Tryz.underlying22 (by kernel_rfl) (by rw [ak]; exact bs) (by rfl) a7 (fun _ _ _ hS h' => trivial) (fun a => ?_)
 refine oq [oF 3] [(3, sl (sa a) g g.length), (0, sl i l j)] ?_
 refine ops_nil (fin_then ?_)
 refine st_join1 (σ := (List api_Kind) × (List Value) × (Nat → Prop) × World) (L := fun O => match O with | (T, ac, Y, Z) => [(3, sl (sa a) T g.length)]) (N := fun O => match O with | (T, ac, Y, Z) => Mem w0 (ow (sa a) T g.length 86 2 ac :: Fz Y Z :: cs)) (I := fun O => match O with | (T, ac, Y, Z) => (kind_Copy_j1 T = some D) ∧ (RepL R_api_Kind Y Z T ac) ∧ (Ext w0 F W Y Z)) ?_ ?_
 ·
  rintro ⟨T, ac, Y, Z⟩ ⟨k, bo, bx⟩
  unfold kind_Copy_j1 at k
  refine st_seq (st_region [oF 0, oF 1] (by rfl) ?_)
  refine oq [oF 0, oF 1] [(2, sl (sa a) T g.length)] ?_
  refine ops_nil (fin_then (st_ret ?_))
  obtain rfl := Option.some.inj k
  exact fr [2] ((sa a), g.length, ac, Y, Z) ⟨bo, bx⟩ 0 []
 ·
  intro bm
  refine st_seq (st_seq ?_)
  refine st_region (oFs 0 3) (by rfl) ?_
  refine oq (oFs 0 3) [(11, vI 0), (10, vI (l.length : Int)), (9, sl i l j), (3, sl (sa a) g g.length)] ?_
  refine ops_nil (fin_then (st_block ?_))
  obtain ⟨r2, bv, bu⟩ := obind k
  refine lp (σ := (List api_Kind) × Int) (ρ := (List api_Kind)) (γ := (List Value) × (Nat → Prop) × World) bv (y8, F, W) (fun s_ g_ => match s_, g_ with | (c, f), (C, o, p) => [(3, sl (sa a) c g.length), (9, sl i l j), (10, vI (l.length : Int)), (11, vI f)]) (fun s_ g_ => match s_, g_ with | (c, f), (C, o, p) => Mem w0 (ow (sa a) c g.length 86 2 C :: Fz o p :: cs)) (fun s_ g_ => match s_, g_ with | (c, f), (C, o, p) => (RepL R_api_Kind o p c C) ∧ (Ext w0 F W o p)) ⟨bn, (Ext.refl _ _ _)⟩ 0 [] ?_
  rintro ⟨c, f⟩ ⟨C, o, p⟩ o2 ⟨aa, al⟩ hs_ bt
  have k : (kind_Copy_l2 l) c f = some o2 := hs_
  clear hs_
  unfold kind_Copy_l2 at k
  have af := af.ext al
  refine st_seq (st_region [oF 0] (by rfl) ?_)
  refine oq [oF 0] [(12, .bool (decide (f < (l.length : Int)))), (3, sl (sa a) c g.length), (9, sl i l j), (10, vI (l.length : Int)), (11, vI f)] ?_
  refine ops_nil (fin_then (st_seq ?_))
  refine sif k (fun bc k => ?_) (fun bc k => ?_)
  ·
   refine st_skip (fin_then (st_seq (st_block (st_seq ?_))))
   refine st_region (oFs 0 6) (by rfl) ?_
   refine oq [oF 0] [(13, vI f), (3, sl (sa a) c g.length), (9, sl i l j), (10, vI (l.length : Int)), (11, vI f)] ?_
   obtain ⟨b, bh, k⟩ := obind k
   obtain ⟨a1, bf, ax⟩ := idx_some bh
   have bd := (List.getElem?_eq_some_iff.1 ax).1
   obtain ⟨ah, b5, a9, hr30, aw⟩ := RdS.el af ax
   obtain ⟨q, r, rfl, ao⟩ := dec_api_Kind hr30
   refine ops_val (op := (.indexAddr 22 (.tmp 9) (.tmp 11))) (d := some 14) (v := .pointer (some (ah.add (a1 * 2)))) ⟨by kernel_rfl⟩ (run_indexA a9 Tryz.underlying22 (z := 2) (by kernel_rfl) rfl rfl bf bd) ?_
   refine ops_mem (d := some 15) (an := [.v (.string b.Name), .v (sl q b.Fields r)]) (evs := [.load (ah.add (a1 * 2)) (.string b.Name), .load ((ah.add (a1 * 2)).add 1) (sl q b.Fields r)]) (v := .agg #[.string b.Name, sl q b.Fields r]) ⟨by kernel_rfl⟩ (fun w_ s hS => ⟨w_, ⟨s.elcell 1 rfl aw 0 rfl, s.elcell 1 rfl aw 1 rfl, rfl⟩, s, trivial⟩) ?_
   refine oN 5 [.string ByteArray.empty, .slice none 0 0] 86 (fun K => ?_)
   refine oq [oF 4] [(4, vI f), (5, vP K 0), (15, .agg #[.string b.Name, sl q b.Fields r]), (3, sl (sa a) c g.length), (9, sl i l j), (10, vI (l.length : Int)), (11, vI f)] ?_
   refine oS 0 0 [.string b.Name, sl q b.Fields r] ?_
   refine ops_nil (fin_then ?_)
   refine st_region_draw [oT 0, oT 1, oT 2, oT 3, oT 4, oT 5, oF 6, oT 7, oT 8, oF 9] (Mem w0 (.blk K [.string b.Name, sl q b.Fields r] 86 :: Fz o p :: cs)) (by kernel_rfl) (by kernel_rfl) (by kernel_rfl) (fun _ d _ _ _ h => by cases d <;> exact h) (M' := Mem w0 (.blk K [.string b.Name, sl q b.Fields r] 86 :: ow (sa a) c g.length 86 2 C :: Fz o p :: cs)) (fun w_ s => ⟨s.drew, s.drew.sub (.cons_cons _ (.cons _ (.cons_cons _ (.refl _))))⟩) ?_
   refine oq (oTs 0 3) [(18, vP K 0), (17, vI f), (16, sl (sa a) c g.length), (5, vP K 0), (3, sl (sa a) c g.length), (9, sl i l j), (10, vI (l.length : Int)), (11, vI f)] ?_
   refine oL 19 0 0 ?_
   refine oq [oT 4] [(20, vP K 1), (19, .string b.Name), (17, vI f), (16, sl (sa a) c g.length), (3, sl (sa a) c g.length), (9, sl i l j), (10, vI (l.length : Int)), (11, vI f)] ?_
   refine oL 21 0 1 ?_
   refine oq [] [(21, sl q b.Fields r), (19, .string b.Name), (17, vI f), (16, sl (sa a) c g.length), (3, sl (sa a) c g.length), (9, sl i l j), (10, vI (l.length : Int)), (11, vI f)] ?_
   refine onilr 99 3 ?_
   obtain ⟨B, bi, k⟩ := obind k
   obtain ⟨aq, bb⟩ := app_some bi
   obtain ⟨a8, aj, bg⟩ := RdS.src ao
   obtain ⟨a3, az⟩ : ∃ y_, [] ++ a8 = y_ := ⟨_, rfl⟩
   have bp : RepL R_api_Field o p B a3 := by rw [aq, ← az]; exact RepL.app (RepL.nil (R := R_api_Field)) aj
   refine ops_appendO (x := (Go.Operand.const (Go.Value.slice none 0 0))) (y := (Go.Operand.tmp 21)) (t := 84) (e := 99) (d := some 22) (n' := B.length) (z := 3) (m := b.Fields.length) (bytes := 32) (xs' := a3) (news := a8) (zv := .agg #[.string ByteArray.empty, vI 0, vI 0]) 0 ⟨by kernel_rfl⟩ rfl rfl Tryz.underlying84 (by kernel_rfl) (by rfl) rfl (fun w_ s => s.srcS 3 rfl aj bg) aj.len aj.one bb (by have z_ := congrArg List.length aq; rw [List.length_append] at z_; exact z_.symm) az (fun _ _ _ _ hS h' => (by exact h'.sub (.cons _ (.cons_cons _ (.cons _ (.cons_cons _ (.refl _))))))) ?_
   rintro ⟨G, M⟩
   refine oq [oT 7] [(23, .agg #[.string b.Name, sl G B M]), (17, vI f), (16, sl (sa a) c g.length), (3, sl (sa a) c g.length), (9, sl i l j), (10, vI (l.length : Int)), (11, vI f)] ?_
   obtain ⟨b0, bj, k⟩ := obind k
   obtain ⟨E, av, ay⟩ := idx_some bj
   have be := (List.getElem?_eq_some_iff.1 ay).1
   obtain ⟨b6, hr57, b2⟩ := aa.at_ E b0 ay
   obtain ⟨b7, b9, rfl, cb⟩ := dec_api_Kind hr57
   refine ops_val (op := (.indexAddr 22 (.tmp 16) (.tmp 17))) (d := some 24) (v := vP a (E * 2)) ⟨by kernel_rfl⟩ (run_indexRow Tryz.underlying22 (z := 2) (by kernel_rfl) rfl rfl av be rfl) ?_
   refine oq [] [(24, vP a (E * 2)), (23, .agg #[.string b.Name, sl G B M]), (3, sl (sa a) c g.length), (9, sl i l j), (10, vI (l.length : Int)), (11, vI f)] ?_
   refine ops_ex (σ := (Nat → Prop) × World) (I := fun O => Ext w0 o p O.1 O.2 ∧ RdS R_api_Field O.1 O.2 G M B) (M' := fun O => Mem w0 (.blk K [.string b.Name, sl q b.Fields r] 86 :: ow (sa a) c g.length 86 2 C :: Fz O.1 O.2 :: cs)) (fun w_ s => ?_) ?_
   · obtain ⟨F_, h1_, h2_, h3_⟩ := (s.pick 4 [0, 3, 1, 2] (by kernel_rfl) (by decide) rfl : Mem w0 (ow G B M 99 3 a3 :: Fz o p :: .blk K [.string b.Name, sl q b.Fields r] 86 :: ow (sa a) c g.length 86 2 C :: cs) w_).freeze (z := 3) bp rfl rfl
     exact ⟨(F_, w_), ⟨h1_, h2_⟩, h3_.pick 3 [1, 2, 0] (by kernel_rfl) (by decide) rfl⟩
   rintro ⟨ad, ae⟩ ⟨u, ap⟩
   have u : Ext w0 o p ad ae := u
   have ap : RdS R_api_Field ad ae G M B := ap
   have af := af.ext u
   have ao := ao.ext u
   have aa := aa.ext u
   obtain ⟨ab, bk, k⟩ := obind k
   obtain ⟨bz, b1, au, ar⟩ := upd_some bk
   obtain rfl : E = bz := by have := av; omega
   have ai : c.length = ab.length := by rw [ar, List.length_set]
   obtain ⟨a4, a0⟩ : ∃ y_, setAll C (E * 2 + 0) [.string b.Name, sl G B M] = y_ := ⟨_, rfl⟩
   have bq : RepL R_api_Kind ad ae ab a4 := by rw [ar, ← a0]; exact RepL.set aa (List.getElem?_eq_getElem au) (fun vs_ hr_ _ => by obtain ⟨b8, ca, rfl, cc⟩ := dec_api_Kind hr_; exact ⟨(enc_api_Kind ap), Nat.le_of_ble_eq_true rfl⟩)
   refine ops_store (an := []) (evs := [.store ⟨a, E * 2, none⟩ (.string b.Name), .store ⟨a, E * 2 + 1, none⟩ (sl G B M)]) ⟨by kernel_rfl⟩ (fun w_ s hS => let ⟨w', he, h'⟩ := s.ostore' 1 rfl (E * 2 + 0) [.string b.Name, sl G B M] (by have z_ : C.length = c.length * 2 := aa.len; have y_ : (E + 1) * 2 ≤ c.length * 2 := Nat.mul_le_mul_right _ au; rw [Nat.add_mul] at y_; simp only [List.length_cons, List.length_nil]; omega) ai a0; ⟨w', he, h', (by first | exact (Mem.fzback h' 2 rfl u).sub (.cons_cons _ (.cons _ (.cons_cons _ (.refl _)))) | exact (Mem.fzback h' 2 rfl (al.trans u)).sub (.cons_cons _ (.cons _ (.cons_cons _ (.refl _)))))⟩) ?_
   refine ops_conv (l' := [(24, vP a (E * 2)), (23, .agg #[.string b.Name, sl G B M]), (3, sl (sa a) ab g.length), (9, sl i l j), (10, vI (l.length : Int)), (11, vI f)]) (M' := Mem w0 (.blk K [.string b.Name, sl q b.Fields r] 86 :: ow (sa a) ab g.length 86 2 a4 :: Fz ad ae :: cs)) (by first | rfl | ((try dsimp only [sl, ow]); rw [ai])) (fun w_ s => by first | exact s | ((try dsimp only [sl, ow] at s ⊢); rw [ai] at s; exact s)) ?_
   refine ops_nil (fin_block (fin_then (st_region [oF 0, oF 1] (by rfl) ?_)))
   refine oq [oF 0, oF 1] [(11, vI (IntKind.i64.wrap (f + 1))), (3, sl (sa a) ab g.length), (9, sl i l j), (10, vI (l.length : Int))] ?_
   refine ops_nil ?_
   exact fag (ab, IntKind.i64.wrap (f + 1)) (a4, ad, ae) (Option.some.inj k).symm ⟨bq, (al.trans u)⟩ 3 [1, 2]
  ·
   refine st_exit (fin_exit_then (fin_exit_then (fin_exit ?_)))
   obtain rfl := Option.some.inj k
   obtain rfl := bt _ rfl
   have k : kind_Copy_j1 c = some D := bu
   exact fj bm (c, C, o, p) ⟨k, aa, al⟩ 0 []
theorem world_CopyComps_ok {k : Option Addr} {o : Nat} {l : List api_Comp} (bl : Mem w0 (Fz F W :: cs) w) (ah : RdS R_api_Comp F W k o l) {H : List api_Comp} (r : world_CopyComps l = some H) : Calls Tryz.prog 62 #[sl k l o] w (Post w0 (fun ((V, X, Y, M, O) : (Option Addr) × Nat × (List Value) × (Nat → Prop) × World) => (RepL R_api_Comp M O H Y) ∧ (Ext w0 F W M O)) (fun (V, X, Y, M, O) => sl V H X) (fun (V, X, Y, M, O) => ow V H X 42 2 Y :: Fz M O :: cs)) := by
 unfold world_CopyComps at r
 refine sx_calls Tryz.func62 rfl (n := 27) (by kernel_rfl) (l := [(0, sl k l o)]) rfl (by rfl) bl ?_
 refine st_seq (st_region [oF 0] (by rfl) ?_)
 refine oq [oF 0] [(0, sl k l o)] ?_
 refine ops_nil (fin_then (st_seq ?_))
 refine st_region (oFs 0 4) (by rfl) ?_
 refine oq [oF 0, oF 1] [(7, vI (l.length : Int)), (0, sl k l o)] ?_
 obtain ⟨g, bq, r⟩ := obind r
 obtain ⟨m3, a4, a3, bm⟩ := mk_some bq
 have ak : g.length = m3 := by rw [a3, List.length_replicate]
 obtain ⟨y8, a5⟩ : ∃ y_, (Sx.madeOf [vI 0, .slice none 0 0] (g.length * 2)).toList = y_ := ⟨_, rfl⟩
 have bi : RepL R_api_Comp F W g y8 := by rw [← a5, ak, a3]; exact RepL.made (enc_api_Comp (RdS.empty _)) (by decide) _
 refine ops_makeO (t := 27) (x := (Go.Operand.tmp 7)) (y := (Go.Operand.tmp 7)) (d := some 8) (nn := g.length) (z := 2) (bytes := 32) (xs := y8) (zv := .agg #[vI 0, .slice none 0 0]) ⟨by kernel_rfl⟩ rfl rfl (by rw [ak]; exact a4) (by rw [ak]; exact a4) Tryz.underlying27 (by kernel_rfl) (by rw [ak]; exact bm) (by rfl) a5 (fun _ _ _ hS h' => trivial) (fun b => ?_)
 refine oq [oF 3] [(3, sl (sa b) g g.length), (0, sl k l o)] ?_
 refine ops_nil (fin_then ?_)
 refine st_join1 (σ := (List api_Comp) × (List Value) × (Nat → Prop) × World) (L := fun C => match C with | (U, ad, Z, aa) => [(3, sl (sa b) U g.length)]) (N := fun C => match C with | (U, ad, Z, aa) => Mem w0 (ow (sa b) U g.length 42 2 ad :: Fz Z aa :: cs)) (I := fun C => match C with | (U, ad, Z, aa) => (world_CopyComps_j1 U = some H) ∧ (RepL R_api_Comp Z aa U ad) ∧ (Ext w0 F W Z aa)) ?_ ?_
 ·
  rintro ⟨U, ad, Z, aa⟩ ⟨r, bj, br⟩
  unfold world_CopyComps_j1 at r
  refine st_seq (st_region [oF 0, oF 1] (by rfl) ?_)
  refine oq [oF 0, oF 1] [(2, sl (sa b) U g.length)] ?_
  refine ops_nil (fin_then (st_ret ?_))
  obtain rfl := Option.some.inj r
  exact fr [2] ((sa b), g.length, ad, Z, aa) ⟨bj, br⟩ 0 []
 ·
  intro bh
  refine st_seq (st_seq ?_)
  refine st_region (oFs 0 3) (by rfl) ?_
  refine oq (oFs 0 3) [(11, vI 0), (10, vI (l.length : Int)), (9, sl k l o), (3, sl (sa b) g g.length)] ?_
  refine ops_nil (fin_then (st_block ?_))
  obtain ⟨r2, bp, bo⟩ := obind r
  refine lp (σ := (List api_Comp) × Int) (ρ := (List api_Comp)) (γ := (List Value) × (Nat → Prop) × World) bp (y8, F, W) (fun s_ g_ => match s_, g_ with | (c, i), (B, p, q) => [(3, sl (sa b) c g.length), (9, sl k l o), (10, vI (l.length : Int)), (11, vI i)]) (fun s_ g_ => match s_, g_ with | (c, i), (B, p, q) => Mem w0 (ow (sa b) c g.length 42 2 B :: Fz p q :: cs)) (fun s_ g_ => match s_, g_ with | (c, i), (B, p, q) => (RepL R_api_Comp p q c B) ∧ (Ext w0 F W p q)) ⟨bi, (Ext.refl _ _ _)⟩ 0 [] ?_
  rintro ⟨c, i⟩ ⟨B, p, q⟩ o2 ⟨ab, al⟩ hs_ bn
  have r : (world_CopyComps_l2 l) c i = some o2 := hs_
  clear hs_
  unfold world_CopyComps_l2 at r
  have ah := ah.ext al
  refine st_seq (st_region [oF 0] (by rfl) ?_)
  refine oq [oF 0] [(12, .bool (decide (i < (l.length : Int)))), (3, sl (sa b) c g.length), (9, sl k l o), (10, vI (l.length : Int)), (11, vI i)] ?_
  refine ops_nil (fin_then (st_seq ?_))
  refine sif r (fun a8 r => ?_) (fun a8 r => ?_)
  ·
   refine st_skip (fin_then (st_seq (st_block (st_seq ?_))))
   refine st_region (oFs 0 6) (by rfl) ?_
   refine oq [oF 0] [(13, vI i), (3, sl (sa b) c g.length), (9, sl k l o), (10, vI (l.length : Int)), (11, vI i)] ?_
   obtain ⟨a, bc, r⟩ := obind r
   obtain ⟨a0, bb, ax⟩ := idx_some bc
   have a9 := (List.getElem?_eq_some_iff.1 ax).1
   obtain ⟨ai, bz, a6, hr30, aw⟩ := RdS.el ah ax
   obtain ⟨s, u, rfl, ao⟩ := dec_api_Comp hr30
   refine ops_val (op := (.indexAddr 27 (.tmp 9) (.tmp 11))) (d := some 14) (v := .pointer (some (ai.add (a0 * 2)))) ⟨by kernel_rfl⟩ (run_indexA a6 Tryz.underlying27 (z := 2) (by kernel_rfl) rfl rfl bb a9) ?_
   refine ops_mem (d := some 15) (an := [.v (vI a.Kind), .v (sl s a.Vals u)]) (evs := [.load (ai.add (a0 * 2)) (vI a.Kind), .load ((ai.add (a0 * 2)).add 1) (sl s a.Vals u)]) (v := .agg #[vI a.Kind, sl s a.Vals u]) ⟨by kernel_rfl⟩ (fun w_ E hS => ⟨w_, ⟨E.elcell 1 rfl aw 0 rfl, E.elcell 1 rfl aw 1 rfl, rfl⟩, E, trivial⟩) ?_
   refine oN 5 [vI 0, .slice none 0 0] 42 (fun D => ?_)
   refine oq [oF 4] [(4, vI i), (5, vP D 0), (15, .agg #[vI a.Kind, sl s a.Vals u]), (3, sl (sa b) c g.length), (9, sl k l o), (10, vI (l.length : Int)), (11, vI i)] ?_
   refine oS 0 0 [vI a.Kind, sl s a.Vals u] ?_
   refine ops_nil (fin_then ?_)
   refine st_region_draw [oT 0, oT 1, oT 2, oT 3, oT 4, oT 5, oF 6, oT 7, oT 8, oF 9] (Mem w0 (.blk D [vI a.Kind, sl s a.Vals u] 42 :: Fz p q :: cs)) (by kernel_rfl) (by kernel_rfl) (by kernel_rfl) (fun _ d _ _ _ h => by cases d <;> exact h) (M' := Mem w0 (.blk D [vI a.Kind, sl s a.Vals u] 42 :: ow (sa b) c g.length 42 2 B :: Fz p q :: cs)) (fun w_ E => ⟨E.drew, E.drew.sub (.cons_cons _ (.cons _ (.cons_cons _ (.refl _))))⟩) ?_
   refine oq (oTs 0 3) [(18, vP D 0), (17, vI i), (16, sl (sa b) c g.length), (5, vP D 0), (3, sl (sa b) c g.length), (9, sl k l o), (10, vI (l.length : Int)), (11, vI i)] ?_
   refine oL 19 0 0 ?_
   refine oq [oT 4] [(20, vP D 1), (19, vI a.Kind), (17, vI i), (16, sl (sa b) c g.length), (3, sl (sa b) c g.length), (9, sl k l o), (10, vI (l.length : Int)), (11, vI i)] ?_
   refine oL 21 0 1 ?_
   obtain ⟨A, bd, r⟩ := obind r
   refine ops_callI (σ := (Option Addr) × Nat × (List Value)) (d := some 22) (f := 49) (args := #[sl s a.Vals u]) (v := (fun C => match C with | (j, m, T) => sl j A m)) (I := (fun C => match C with | (j, m, T) => (RepL (Rep.int .i64) p q A T))) (M' := (fun C => match C with | (j, m, T) => Mem w0 (ow j A m 3 1 T :: .blk D [vI a.Kind, sl s a.Vals u] 42 :: ow (sa b) c g.length 42 2 B :: Fz p q :: cs))) ⟨by kernel_rfl⟩ (fun w_ E hS => (@slices_Clone_int_int_ok w0 w_ (.blk D [vI a.Kind, sl s a.Vals u] 42 :: ow (sa b) c g.length 42 2 B :: cs) p q s u a.Vals (E.pick 3 [2, 0, 1] (by kernel_rfl) (by decide) rfl) ao A bd).mono (by rintro e w' ⟨⟨j, m, T⟩, ap, rfl, h'⟩; have h' : Mem w0 (ow j A m 3 1 T :: .blk D [vI a.Kind, sl s a.Vals u] 42 :: ow (sa b) c g.length 42 2 B :: Fz p q :: cs) w' := (h'.pick 4 [0, 2, 3, 1] (by kernel_rfl) (by decide) rfl); exact ⟨(j, m, T), ap, rfl, h', (by exact h'.sub (.cons _ (.cons_cons _ (.cons _ (.cons_cons _ (.refl _))))))⟩)) ?_
   rintro ⟨j, m, T⟩ ap
   refine oq [oT 7] [(23, .agg #[vI a.Kind, sl j A m]), (17, vI i), (16, sl (sa b) c g.length), (3, sl (sa b) c g.length), (9, sl k l o), (10, vI (l.length : Int)), (11, vI i)] ?_
   obtain ⟨bt, be, r⟩ := obind r
   obtain ⟨K, av, ay⟩ := idx_some be
   have ba := (List.getElem?_eq_some_iff.1 ay).1
   obtain ⟨b0, hr51, bv⟩ := ab.at_ K bt ay
   obtain ⟨b1, b3, rfl, b5⟩ := dec_api_Comp hr51
   refine ops_val (op := (.indexAddr 27 (.tmp 16) (.tmp 17))) (d := some 24) (v := vP b (K * 2)) ⟨by kernel_rfl⟩ (run_indexRow Tryz.underlying27 (z := 2) (by kernel_rfl) rfl rfl av ba rfl) ?_
   refine oq [] [(24, vP b (K * 2)), (23, .agg #[vI a.Kind, sl j A m]), (3, sl (sa b) c g.length), (9, sl k l o), (10, vI (l.length : Int)), (11, vI i)] ?_
   refine ops_ex (σ := (Nat → Prop) × World) (I := fun C => Ext w0 p q C.1 C.2 ∧ RdS (Rep.int .i64) C.1 C.2 j m A) (M' := fun C => Mem w0 (.blk D [vI a.Kind, sl s a.Vals u] 42 :: ow (sa b) c g.length 42 2 B :: Fz C.1 C.2 :: cs)) (fun w_ E => ?_) ?_
   · obtain ⟨F_, h1_, h2_, h3_⟩ := (E.pick 4 [0, 3, 1, 2] (by kernel_rfl) (by decide) rfl : Mem w0 (ow j A m 3 1 T :: Fz p q :: .blk D [vI a.Kind, sl s a.Vals u] 42 :: ow (sa b) c g.length 42 2 B :: cs) w_).freeze (z := 1) ap rfl rfl
     exact ⟨(F_, w_), ⟨h1_, h2_⟩, h3_.pick 3 [1, 2, 0] (by kernel_rfl) (by decide) rfl⟩
   rintro ⟨af, ag⟩ ⟨G, aq⟩
   have G : Ext w0 p q af ag := G
   have aq : RdS (Rep.int .i64) af ag j m A := aq
   have ah := ah.ext G
   have ao := ao.ext G
   have ab := ab.ext G
   obtain ⟨ac, bf, r⟩ := obind r
   obtain ⟨bs, bu, au, ar⟩ := upd_some bf
   obtain rfl : K = bs := by have := av; omega
   have aj : c.length = ac.length := by rw [ar, List.length_set]
   obtain ⟨a2, az⟩ : ∃ y_, setAll B (K * 2 + 0) [vI a.Kind, sl j A m] = y_ := ⟨_, rfl⟩
   have bk : RepL R_api_Comp af ag ac a2 := by rw [ar, ← az]; exact RepL.set ab (List.getElem?_eq_getElem au) (fun vs_ hr_ _ => by obtain ⟨b2, b4, rfl, b6⟩ := dec_api_Comp hr_; exact ⟨(enc_api_Comp aq), Nat.le_of_ble_eq_true rfl⟩)
   refine ops_store (an := []) (evs := [.store ⟨b, K * 2, none⟩ (vI a.Kind), .store ⟨b, K * 2 + 1, none⟩ (sl j A m)]) ⟨by kernel_rfl⟩ (fun w_ E hS => let ⟨w', he, h'⟩ := E.ostore' 1 rfl (K * 2 + 0) [vI a.Kind, sl j A m] (by have z_ : B.length = c.length * 2 := ab.len; have y_ : (K + 1) * 2 ≤ c.length * 2 := Nat.mul_le_mul_right _ au; rw [Nat.add_mul] at y_; simp only [List.length_cons, List.length_nil]; omega) aj az; ⟨w', he, h', (by first | exact (Mem.fzback h' 2 rfl G).sub (.cons_cons _ (.cons _ (.cons_cons _ (.refl _)))) | exact (Mem.fzback h' 2 rfl (al.trans G)).sub (.cons_cons _ (.cons _ (.cons_cons _ (.refl _)))))⟩) ?_
   refine ops_conv (l' := [(24, vP b (K * 2)), (23, .agg #[vI a.Kind, sl j A m]), (3, sl (sa b) ac g.length), (9, sl k l o), (10, vI (l.length : Int)), (11, vI i)]) (M' := Mem w0 (.blk D [vI a.Kind, sl s a.Vals u] 42 :: ow (sa b) ac g.length 42 2 a2 :: Fz af ag :: cs)) (by first | rfl | ((try dsimp only [sl, ow]); rw [aj])) (fun w_ E => by first | exact E | ((try dsimp only [sl, ow] at E ⊢); rw [aj] at E; exact E)) ?_
   refine ops_nil (fin_block (fin_then (st_region [oF 0, oF 1] (by rfl) ?_)))
   refine oq [oF 0, oF 1] [(11, vI (IntKind.i64.wrap (i + 1))), (3, sl (sa b) ac g.length), (9, sl k l o), (10, vI (l.length : Int))] ?_
   refine ops_nil ?_
   exact fag (ac, IntKind.i64.wrap (i + 1)) (a2, af, ag) (Option.some.inj r).symm ⟨bk, (al.trans G)⟩ 3 [1, 2]
  ·
   refine st_exit (fin_exit_then (fin_exit_then (fin_exit ?_)))
   obtain rfl := Option.some.inj r
   obtain rfl := bn _ rfl
   have r : world_CopyComps_j1 c = some H := bo
   exact fj bh (c, B, p, q) ⟨r, ab, al⟩ 0 []
def world_Copy__t0 : List Row := [⟨0, 64, 2⟩, ⟨1, 128, 64⟩, ⟨2, 256, 128⟩, ⟨0, 512, 2⟩, ⟨8, 1024, 512⟩, ⟨20, 2048, 1024⟩, ⟨0, 4096, 2⟩, ⟨64, 8192, 4096⟩, ⟨128, 16384, 8192⟩, ⟨256, 32768, 16384⟩, ⟨548, 65536, 35072⟩, ⟨0, 8, 0⟩, ⟨4095, 0, 65544⟩]
theorem world_Copy_ok {k : Option Addr} {m : Nat} {B : List api_Kind} {c : Option Addr} {g : Nat} {s : List Int} {p : Option Addr} {q : Nat} {r : List api_Item} (iz : Mem w0 (Fz F W :: cs) w) (ay : RdS R_api_Kind F W k m B) (ac : RdS (Rep.int .i64) F W c g s) (az : RdS R_api_Item F W p q r) {de : List api_Kind} {df : List Int} {dg : List api_Item} (hp : world_Copy B s r = some (de, df, dg)) : Calls Tryz.prog 34 #[.agg #[sl k B m, sl c s g, sl p r q]] w (Post w0 (fun ((d5, d9, el, d6, ea, em, d7, eb, en, d8, db, dc) : (Option Addr) × Nat × (List Value) × (Option Addr) × Nat × (List Value) × (Option Addr) × Nat × (List Value) × Chunk × (Nat → Prop) × World) => (RepL R_api_Kind db dc de el) ∧ (RepL (Rep.int .i64) db dc df em) ∧ (OwL O_api_Item_rrw db dc dg en d8) ∧ (Ext w0 F W db dc)) (fun (d5, d9, el, d6, ea, em, d7, eb, en, d8, db, dc) => .agg #[sl d5 de d9, sl d6 df ea, sl d7 dg eb]) (fun (d5, d9, el, d6, ea, em, d7, eb, en, d8, db, dc) => ow d5 de d9 86 2 el :: ow d6 df ea 3 1 em :: ow d7 dg eb 61 3 en :: d8 :: Fz db dc :: cs)) := by
 unfold world_Copy at hp
 refine sx_calls Tryz.func34 rfl (n := 37) (by kernel_rfl) (l := [(0, .agg #[sl k B m, sl c s g, sl p r q])]) rfl (by rfl) iz ?_
 refine st_seq (st_region [oF 0, oF 1] (by rfl) ?_)
 refine oN 1 [sl k B m, sl c s g, sl p r q] 26 (fun E => ?_)
 refine oN 2 [.slice none 0 0, .slice none 0 0, .slice none 0 0] 26 (fun A => ?_)
 refine ops_nil (fin_then ?_)
 refine st_join1 (σ := (Option Addr) × Nat × (List Value) × (List Value) × (List Value) × Chunk × Nat × (Option Addr) × Nat × (List api_Kind) × (List Value) × (Option Addr) × Nat × (List Int) × (List Value) × (Option Addr) × Nat × (List api_Item) × (List Value) × Chunk × (Nat → Prop) × World) (L := fun J => match J with | (U, V, y5, y7, y9, cl, aq, am, au, ah, ch, ao, av, ai, ci, a4, ag, ex, e4, ey, cr, cu) => [(1, vP E 0), (2, vP A 0), (3, vP aq 0)]) (N := fun J => match J with | (U, V, y5, y7, y9, cl, aq, am, au, ah, ch, ao, av, ai, ci, a4, ag, ex, e4, ey, cr, cu) => Mem w0 (.blk E [sl k B m, sl c s g, sl p r q] 26 :: .blk A [sl U ([] : List api_Kind) V, sl U ([] : List Int) V, sl U ([] : List api_Item) V] 26 :: ow U ([] : List api_Kind) V 86 2 y5 :: ow U ([] : List Int) V 3 1 y7 :: ow U ([] : List api_Item) V 61 3 y9 :: cl :: .blk aq [sl am ah au, sl ao ai av, sl a4 ex ag] 26 :: ow am ah au 86 2 ch :: ow ao ai av 3 1 ci :: ow a4 ex ag 61 3 e4 :: ey :: Fz cr cu :: cs)) (I := fun J => match J with | (U, V, y5, y7, y9, cl, aq, am, au, ah, ch, ao, av, ai, ci, a4, ag, ex, e4, ey, cr, cu) => ((world_Copy_j1 r) ah ai ex = some (de, df, dg)) ∧ (RepL R_api_Kind cr cu ([] : List api_Kind) y5) ∧ (RepL (Rep.int .i64) cr cu ([] : List Int) y7) ∧ (OwL O_api_Item_rrw cr cu ([] : List api_Item) y9 cl) ∧ (RepL R_api_Kind cr cu ah ch) ∧ (RepL (Rep.int .i64) cr cu ai ci) ∧ (OwL O_api_Item_rrw cr cu ex e4 ey) ∧ (Ext w0 F W cr cu)) ?_ ?_
 ·
  rintro ⟨U, V, y5, y7, y9, cl, aq, am, au, ah, ch, ao, av, ai, ci, a4, ag, ex, e4, ey, cr, cu⟩ ⟨hp, h6, h8, e0, eu, ev, ix, e1⟩
  have ay := ay.ext e1
  have ac := ac.ext e1
  have az := az.ext e1
  unfold world_Copy_j1 at hp
  refine st_join1 (σ := (List api_Item) × (List Value) × Chunk × (Nat → Prop) × World) (L := fun J => match J with | (dk, e5, ez, eo, ep) => [(2, vP A 0), (3, vP aq 0)]) (N := fun J => match J with | (dk, e5, ez, eo, ep) => Mem w0 (.blk A [sl U ([] : List api_Kind) V, sl U ([] : List Int) V, sl U ([] : List api_Item) V] 26 :: ow U ([] : List api_Kind) V 86 2 y5 :: ow U ([] : List Int) V 3 1 y7 :: ow U ([] : List api_Item) V 61 3 y9 :: cl :: .blk aq [sl am ah au, sl ao ai av, sl a4 dk ag] 26 :: ow am ah au 86 2 ch :: ow ao ai av 3 1 ci :: ow a4 dk ag 61 3 e5 :: ez :: Fz eo ep :: cs)) (I := fun J => match J with | (dk, e5, ez, eo, ep) => ((world_Copy_j2 ah ai) dk = some (de, df, dg)) ∧ (OwL O_api_Item_rrw eo ep dk e5 ez) ∧ (Ext w0 cr cu eo ep)) ?_ ?_
  ·
   rintro ⟨dk, e5, ez, eo, ep⟩ ⟨hp, iy, e2⟩
   have h6 := h6.ext e2
   have h8 := h8.ext e2
   have e0 := e0.ext e2
   have eu := eu.ext e2
   have ev := ev.ext e2
   unfold world_Copy_j2 at hp
   refine st_seq (st_region [oF 0, oF 1] (by rfl) ?_)
   refine oMA 36 5 0 3 ?_
   refine oS 0 0 [sl am ah au, sl ao ai av, sl a4 dk ag] ?_
   refine ops_nil (fin_then (st_ret ?_))
   obtain ⟨rfl, rfl, rfl⟩ := si3 hp
   refine fin_ret [.cell 2 26] [.agg #[sl am ah au, sl ao ai av, sl a4 dk ag]] rfl rfl (fun X hM => (.cell rfl (tr_run _ [.v (sl am ah au), .v (sl ao ai av), .v (sl a4 dk ag)] [ld A 0 (sl am ah au), ld A 1 (sl ao ai av), ld A 2 (sl a4 dk ag)] (.agg #[sl am ah au, sl ao ai av, sl a4 dk ag] : Value) _ _ (by kernel_rfl) ⟨hM.cell 0 rfl rfl, hM.cell 0 rfl rfl, hM.cell 0 rfl rfl, rfl⟩) .nil)) (fun X hM => ?_)
   exact ⟨(am, au, ch, ao, av, ci, a4, ag, e5, ez, eo, ep), ⟨eu, ev, iy, (e1.trans e2)⟩, rfl, hM.pick 11 [6, 7, 8, 9, 10] (by kernel_rfl) (by decide) rfl⟩
  ·
   intro iw
   refine st_seq (st_seq ?_)
   refine st_region (oFs 0 4) (by rfl) ?_
   refine oq [oF 0] [(17, vP E 2), (2, vP A 0), (3, vP aq 0)] ?_
   refine oM 18 0 2 ?_
   refine oq [oF 2, oF 3] [(20, vI 0), (19, vI (r.length : Int)), (18, sl p r q), (2, vP A 0), (3, vP aq 0)] ?_
   refine ops_nil (fin_then (st_block ?_))
   obtain ⟨r3, i2, i1⟩ := obind hp
   refine lp (σ := (List api_Item) × Int) (ρ := (List api_Item)) (γ := (List Value) × Chunk × (Nat → Prop) × World) i2 (e4, ey, cr, cu) (fun s_ g_ => match s_, g_ with | (ax, a6), (cw, du, dm, dn) => [(2, vP A 0), (3, vP aq 0), (18, sl p r q), (19, vI (r.length : Int)), (20, vI a6)]) (fun s_ g_ => match s_, g_ with | (ax, a6), (cw, du, dm, dn) => Mem w0 (.blk A [sl U ([] : List api_Kind) V, sl U ([] : List Int) V, sl U ([] : List api_Item) V] 26 :: ow U ([] : List api_Kind) V 86 2 y5 :: ow U ([] : List Int) V 3 1 y7 :: ow U ([] : List api_Item) V 61 3 y9 :: cl :: .blk aq [sl am ah au, sl ao ai av, sl a4 ax ag] 26 :: ow am ah au 86 2 ch :: ow ao ai av 3 1 ci :: ow a4 ax ag 61 3 cw :: du :: Fz dm dn :: cs)) (fun s_ g_ => match s_, g_ with | (ax, a6), (cw, du, dm, dn) => (OwL O_api_Item_rrw dm dn ax cw du) ∧ (Ext w0 cr cu dm dn)) ⟨ix, (Ext.refl _ _ _)⟩ 12 [1, 2, 3, 4, 5, 6, 7, 8, 9, 10, 11] ?_
   rintro ⟨ax, a6⟩ ⟨cw, du, dm, dn⟩ o3 ⟨ga, dj⟩ hs_ i0
   have hp : (world_Copy_l3 r) ax a6 = some o3 := hs_
   clear hs_
   unfold world_Copy_l3 at hp
   have az := az.ext dj
   have h6 := h6.ext dj
   have h8 := h8.ext dj
   have e0 := e0.ext dj
   have eu := eu.ext dj
   have ev := ev.ext dj
   refine st_seq (st_region [oF 0] (by rfl) ?_)
   refine oq [oF 0] [(21, .bool (decide (a6 < (r.length : Int)))), (2, vP A 0), (3, vP aq 0), (18, sl p r q), (19, vI (r.length : Int)), (20, vI a6)] ?_
   refine ops_nil (fin_then (st_seq ?_))
   refine sif hp (fun ib hp => ?_) (fun ib hp => ?_)
   ·
    refine st_skip (fin_then (st_seq (st_block (st_seq ?_))))
    refine st_region (oFs 0 6) (by rfl) ?_
    refine oq [oF 0] [(22, vI a6), (2, vP A 0), (3, vP aq 0), (18, sl p r q), (19, vI (r.length : Int)), (20, vI a6)] ?_
    obtain ⟨K, ih, hp⟩ := obind hp
    obtain ⟨g4, id, hg⟩ := idx_some ih
    have ic := (List.getElem?_eq_some_iff.1 hg).1
    obtain ⟨fa, ja, h9, hr51, f7⟩ := RdS.el az hg
    obtain ⟨ck, cn, rfl, g9⟩ := dec_api_Item hr51
    refine ops_val (op := (.indexAddr 24 (.tmp 18) (.tmp 20))) (d := some 23) (v := .pointer (some (fa.add (g4 * 3)))) ⟨by kernel_rfl⟩ (run_indexA h9 Tryz.underlying24 (z := 3) (by kernel_rfl) rfl rfl id ic) ?_
    refine ops_mem (d := some 24) (an := [.v (vI K.Ent.N), .v (vI K.Ent.Gen), .v (sl ck K.Comps cn)]) (evs := [.load (fa.add (g4 * 3)) (vI K.Ent.N), .load ((fa.add (g4 * 3)).add 1) (vI K.Ent.Gen), .load ((fa.add (g4 * 3)).add 2) (sl ck K.Comps cn)]) (v := .agg #[vI K.Ent.N, vI K.Ent.Gen, sl ck K.Comps cn]) ⟨by kernel_rfl⟩ (fun X hM hS => ⟨X, ⟨hM.elcell 10 rfl f7 0 rfl, hM.elcell 10 rfl f7 1 rfl, hM.elcell 10 rfl f7 2 rfl, rfl⟩, hM, trivial⟩) ?_
    refine oN 5 [vI 0, vI 0, .slice none 0 0] 61 (fun da => ?_)
    refine oq [oF 4] [(4, vI a6), (5, vP da 0), (24, .agg #[vI K.Ent.N, vI K.Ent.Gen, sl ck K.Comps cn]), (2, vP A 0), (3, vP aq 0), (18, sl p r q), (19, vI (r.length : Int)), (20, vI a6)] ?_
    refine oS 0 0 [vI K.Ent.N, vI K.Ent.Gen, sl ck K.Comps cn] ?_
    refine ops_nil (fin_then ?_)
    refine st_region_draw [oT 0, oT 1, oT 2, oT 3, oT 4, oT 5, oT 6, oF 7, oT 8, oT 9, oF 10] (Mem w0 (.blk da [vI K.Ent.N, vI K.Ent.Gen, sl ck K.Comps cn] 61 :: .blk A [sl U ([] : List api_Kind) V, sl U ([] : List Int) V, sl U ([] : List api_Item) V] 26 :: ow U ([] : List api_Kind) V 86 2 y5 :: ow U ([] : List Int) V 3 1 y7 :: ow U ([] : List api_Item) V 61 3 y9 :: cl :: .blk aq [sl am ah au, sl ao ai av, sl a4 ax ag] 26 :: ow am ah au 86 2 ch :: ow ao ai av 3 1 ci :: Fz dm dn :: cs)) (by kernel_rfl) (by kernel_rfl) (by kernel_rfl) (fun _ d _ _ _ h => by cases d <;> exact h) (M' := Mem w0 (.blk da [vI K.Ent.N, vI K.Ent.Gen, sl ck K.Comps cn] 61 :: .blk A [sl U ([] : List api_Kind) V, sl U ([] : List Int) V, sl U ([] : List api_Item) V] 26 :: ow U ([] : List api_Kind) V 86 2 y5 :: ow U ([] : List Int) V 3 1 y7 :: ow U ([] : List api_Item) V 61 3 y9 :: cl :: .blk aq [sl am ah au, sl ao ai av, sl a4 ax ag] 26 :: ow am ah au 86 2 ch :: ow ao ai av 3 1 ci :: ow a4 ax ag 61 3 cw :: du :: Fz dm dn :: cs)) (fun X hM => ⟨hM.drew, hM.drew.sub (.cons_cons _ (.cons_cons _ (.cons_cons _ (.cons_cons _ (.cons_cons _ (.cons_cons _ (.cons_cons _ (.cons_cons _ (.cons_cons _ (.cons _ (.cons _ (.cons_cons _ (.refl _)))))))))))))⟩) ?_
    refine oq [oT 0] [(25, vP aq 2), (4, vI a6), (5, vP da 0), (2, vP A 0), (3, vP aq 0), (18, sl p r q), (19, vI (r.length : Int)), (20, vI a6)] ?_
    refine oL 26 6 2 ?_
    refine oq [oT 2, oT 3] [(28, vP da 0), (27, vI a6), (26, sl a4 ax ag), (5, vP da 0), (2, vP A 0), (3, vP aq 0), (18, sl p r q), (19, vI (r.length : Int)), (20, vI a6)] ?_
    refine oLA 29 0 0 2 ?_
    refine oq [oT 5] [(30, vP da 2), (29, .agg #[vI K.Ent.N, vI K.Ent.Gen]), (27, vI a6), (26, sl a4 ax ag), (2, vP A 0), (3, vP aq 0), (18, sl p r q), (19, vI (r.length : Int)), (20, vI a6)] ?_
    refine oL 31 0 2 ?_
    obtain ⟨cg, ii, hp⟩ := obind hp
    refine ops_callI (σ := (Option Addr) × Nat × (List Value) × (Nat → Prop) × World) (d := some 32) (f := 62) (args := #[sl ck K.Comps cn]) (v := (fun J => match J with | (bo, bp, dv, ct, cv) => sl bo cg bp)) (I := (fun J => match J with | (bo, bp, dv, ct, cv) => (RepL R_api_Comp ct cv cg dv) ∧ (Ext w0 dm dn ct cv))) (M' := (fun J => match J with | (bo, bp, dv, ct, cv) => Mem w0 (ow bo cg bp 42 2 dv :: .blk da [vI K.Ent.N, vI K.Ent.Gen, sl ck K.Comps cn] 61 :: .blk A [sl U ([] : List api_Kind) V, sl U ([] : List Int) V, sl U ([] : List api_Item) V] 26 :: ow U ([] : List api_Kind) V 86 2 y5 :: ow U ([] : List Int) V 3 1 y7 :: ow U ([] : List api_Item) V 61 3 y9 :: cl :: .blk aq [sl am ah au, sl ao ai av, sl a4 ax ag] 26 :: ow am ah au 86 2 ch :: ow ao ai av 3 1 ci :: ow a4 ax ag 61 3 cw :: du :: Fz ct cv :: cs))) ⟨by kernel_rfl⟩ (fun X hM hS => (@world_CopyComps_ok w0 X (.blk da [vI K.Ent.N, vI K.Ent.Gen, sl ck K.Comps cn] 61 :: .blk A [sl U ([] : List api_Kind) V, sl U ([] : List Int) V, sl U ([] : List api_Item) V] 26 :: ow U ([] : List api_Kind) V 86 2 y5 :: ow U ([] : List Int) V 3 1 y7 :: ow U ([] : List api_Item) V 61 3 y9 :: cl :: .blk aq [sl am ah au, sl ao ai av, sl a4 ax ag] 26 :: ow am ah au 86 2 ch :: ow ao ai av 3 1 ci :: ow a4 ax ag 61 3 cw :: du :: cs) dm dn ck cn K.Comps (hM.pick 12 [11, 0, 1, 2, 3, 4, 5, 6, 7, 8, 9, 10] (by kernel_rfl) (by decide) rfl) g9 cg ii).mono (by rintro e w' ⟨⟨bo, bp, dv, ct, cv⟩, ⟨ha, cd⟩, rfl, h'⟩; have h' : Mem w0 (ow bo cg bp 42 2 dv :: .blk da [vI K.Ent.N, vI K.Ent.Gen, sl ck K.Comps cn] 61 :: .blk A [sl U ([] : List api_Kind) V, sl U ([] : List Int) V, sl U ([] : List api_Item) V] 26 :: ow U ([] : List api_Kind) V 86 2 y5 :: ow U ([] : List Int) V 3 1 y7 :: ow U ([] : List api_Item) V 61 3 y9 :: cl :: .blk aq [sl am ah au, sl ao ai av, sl a4 ax ag] 26 :: ow am ah au 86 2 ch :: ow ao ai av 3 1 ci :: ow a4 ax ag 61 3 cw :: du :: Fz ct cv :: cs) w' := (h'.pick 13 [0, 2, 3, 4, 5, 6, 7, 8, 9, 10, 11, 12, 1] (by kernel_rfl) (by decide) rfl); exact ⟨(bo, bp, dv, ct, cv), ⟨ha, cd⟩, rfl, h', (by first | exact (Mem.fzback h' 12 rfl cd).sub (.cons _ (.cons_cons _ (.cons_cons _ (.cons_cons _ (.cons_cons _ (.cons_cons _ (.cons_cons _ (.cons_cons _ (.cons_cons _ (.cons_cons _ (.cons _ (.cons _ (.cons_cons _ (.refl _)))))))))))))) | exact (Mem.fzback h' 12 rfl (dj.trans cd)).sub (.cons _ (.cons_cons _ (.cons_cons _ (.cons_cons _ (.cons_cons _ (.cons_cons _ (.cons_cons _ (.cons_cons _ (.cons_cons _ (.cons_cons _ (.cons _ (.cons _ (.cons_cons _ (.refl _)))))))))))))) | exact (Mem.fzback h' 12 rfl ((e1.trans dj).trans cd)).sub (.cons _ (.cons_cons _ (.cons_cons _ (.cons_cons _ (.cons_cons _ (.cons_cons _ (.cons_cons _ (.cons_cons _ (.cons_cons _ (.cons_cons _ (.cons _ (.cons _ (.cons_cons _ (.refl _)))))))))))))))⟩)) ?_
    rintro ⟨bo, bp, dv, ct, cv⟩ ⟨ha, cd⟩
    have g9 := g9.ext cd
    have az := az.ext cd
    have h6 := h6.ext cd
    have h8 := h8.ext cd
    have e0 := e0.ext cd
    have eu := eu.ext cd
    have ev := ev.ext cd
    have ga := ga.ext cd
    refine oq [oT 8] [(33, .agg #[vI K.Ent.N, vI K.Ent.Gen, sl bo cg bp]), (27, vI a6), (26, sl a4 ax ag), (2, vP A 0), (3, vP aq 0), (18, sl p r q), (19, vI (r.length : Int)), (20, vI a6)] ?_
    obtain ⟨e3, ij, hp⟩ := obind hp
    obtain ⟨dl, hd, hh⟩ := idx_some ij
    have hc := (List.getElem?_eq_some_iff.1 hh).1
    refine ops_fact (fun X hM => hM.orowSome 10 rfl (Nat.lt_of_le_of_lt (Nat.zero_le _) hc)) ?_
    rintro ⟨di, rfl, -⟩
    obtain ⟨jb, i4, h5, fi, ia, ie⟩ := OwL.open_ ga hh
    obtain ⟨f8, f9, hl, rfl, rfl, jc⟩ := odec_api_Item_rrw ia
    have i7 : ∀ (i : Nat) (u : Value), [vI e3.Ent.N, vI e3.Ent.Gen, sl f8 e3.Comps f9][i]? = some u → cw[dl * 3 + i]? = some u := fun i u hi => OwO.cell fi hi
    refine ops_val (op := (.indexAddr 24 (.tmp 26) (.tmp 27))) (d := some 34) (v := vP di (dl * 3)) ⟨by kernel_rfl⟩ (run_indexRow Tryz.underlying24 (z := 3) (by kernel_rfl) rfl rfl hd hc rfl) ?_
    refine ops_conv (l' := [(34, vP di (dl * 3)), (33, .agg #[vI K.Ent.N, vI K.Ent.Gen, sl bo cg bp]), (27, vI a6), (26, sl (sa di) ax ag), (2, vP A 0), (3, vP aq 0), (18, sl p r q), (19, vI (r.length : Int)), (20, vI a6)]) (M' := Mem w0 (ow f8 e3.Comps f9 42 2 hl :: ow bo cg bp 42 2 dv :: .blk da [vI K.Ent.N, vI K.Ent.Gen, sl ck K.Comps cn] 61 :: .blk A [sl U ([] : List api_Kind) V, sl U ([] : List Int) V, sl U ([] : List api_Item) V] 26 :: ow U ([] : List api_Kind) V 86 2 y5 :: ow U ([] : List Int) V 3 1 y7 :: ow U ([] : List api_Item) V 61 3 y9 :: cl :: .blk aq [sl am ah au, sl ao ai av, sl (sa di) ax ag] 26 :: ow am ah au 86 2 ch :: ow ao ai av 3 1 ci :: ow (sa di) ax ag 61 3 cw :: h5 :: Fz ct cv :: cs)) rfl (fun X h => (ie (h.pick 13 [11, 0, 1, 2, 3, 4, 5, 6, 7, 8, 9, 10, 12] (by kernel_rfl) (by decide) rfl)).pick 14 [1, 2, 3, 4, 5, 6, 7, 8, 9, 10, 11, 12, 0, 13] (by kernel_rfl) (by decide) rfl) ?_
    obtain ⟨fo, hj⟩ : ∃ y_, setAll cw (dl * 3 + 0) [vI K.Ent.N, vI K.Ent.Gen, sl bo cg bp] = y_ := ⟨_, rfl⟩
    have hf : OwO O_api_Item_rrw ct cv ax dl fo [vI K.Ent.N, vI K.Ent.Gen, sl bo cg bp] h5 := by rw [← hj]; exact OwO.put (us := [vI K.Ent.N, vI K.Ent.Gen, sl bo cg bp]) (o := 0) fi (Nat.le_of_ble_eq_true rfl)
    have i8 : ∀ (i : Nat) (u : Value), [vI K.Ent.N, vI K.Ent.Gen, sl bo cg bp][i]? = some u → fo[dl * 3 + i]? = some u := fun i u hi => OwO.cell hf hi
    refine ops_store (an := []) (evs := [.store ⟨di, dl * 3, none⟩ (vI K.Ent.N), .store ⟨di, dl * 3 + 1, none⟩ (vI K.Ent.Gen), .store ⟨di, dl * 3 + 2, none⟩ (sl bo cg bp)]) ⟨by kernel_rfl⟩ (fun X hM hS => let ⟨w', he, h'⟩ := hM.ostore' 11 rfl (dl * 3 + 0) [vI K.Ent.N, vI K.Ent.Gen, sl bo cg bp] (by have z_ : cw.length = ax.length * 3 := OwO.len fi; have y_ : (dl + 1) * 3 ≤ ax.length * 3 := Nat.mul_le_mul_right _ (OwO.lt fi); rw [Nat.add_mul] at y_; simp only [List.length_cons, List.length_nil]; omega) rfl hj; ⟨w', he, h', (by first | exact (Mem.fzback h' 13 rfl cd).sub (.cons _ (.cons _ (.cons_cons _ (.cons_cons _ (.cons_cons _ (.cons_cons _ (.cons_cons _ (.cons_cons _ (.cons_cons _ (.cons_cons _ (.cons_cons _ (.cons _ (.cons _ (.cons_cons _ (.refl _))))))))))))))) | exact (Mem.fzback h' 13 rfl (dj.trans cd)).sub (.cons _ (.cons _ (.cons_cons _ (.cons_cons _ (.cons_cons _ (.cons_cons _ (.cons_cons _ (.cons_cons _ (.cons_cons _ (.cons_cons _ (.cons_cons _ (.cons _ (.cons _ (.cons_cons _ (.refl _))))))))))))))) | exact (Mem.fzback h' 13 rfl ((e1.trans dj).trans cd)).sub (.cons _ (.cons _ (.cons_cons _ (.cons_cons _ (.cons_cons _ (.cons_cons _ (.cons_cons _ (.cons_cons _ (.cons_cons _ (.cons_cons _ (.cons_cons _ (.cons _ (.cons _ (.cons_cons _ (.refl _))))))))))))))))⟩) ?_
    refine ops_nil (fin_block (fin_then (st_region [oF 0, oF 1] (by rfl) ?_)))
    refine oq [oF 0, oF 1] [(20, vI (IntKind.i64.wrap (a6 + 1))), (2, vP A 0), (3, vP aq 0), (18, sl p r q), (19, vI (r.length : Int))] ?_
    refine ops_nil ?_
    obtain ⟨g3, ik, hp⟩ := obind hp
    obtain ⟨i3, i6, i5, hb⟩ := upd_some ik
    obtain rfl : dl = i3 := by have := hd; omega
    have gk : ax.length = g3.length := by rw [hb, List.length_set]
    obtain ⟨g7, h7, ig⟩ := OwO.close (x := (api_Item.mk (api_Ent.mk K.Ent.N K.Ent.Gen) cg)) (Kx := [ow bo cg bp 42 2 dv]) hf (oenc_api_Item_rrw ha)
    rw [← hb] at h7
    refine fin_conv (l' := [(20, vI (IntKind.i64.wrap (a6 + 1))), (2, vP A 0), (3, vP aq 0), (18, sl p r q), (19, vI (r.length : Int))]) (M' := Mem w0 (ow f8 e3.Comps f9 42 2 hl :: .blk da [vI K.Ent.N, vI K.Ent.Gen, sl ck K.Comps cn] 61 :: .blk A [sl U ([] : List api_Kind) V, sl U ([] : List Int) V, sl U ([] : List api_Item) V] 26 :: ow U ([] : List api_Kind) V 86 2 y5 :: ow U ([] : List Int) V 3 1 y7 :: ow U ([] : List api_Item) V 61 3 y9 :: cl :: .blk aq [sl am ah au, sl ao ai av, sl (sa di) ax ag] 26 :: ow am ah au 86 2 ch :: ow ao ai av 3 1 ci :: ow (sa di) ax ag 61 3 fo :: g7 :: Fz ct cv :: cs)) rfl (fun X h => (ig (h.pick 14 [12, 1, 0, 2, 3, 4, 5, 6, 7, 8, 9, 10, 11, 13] (by kernel_rfl) (by decide) rfl)).pick 13 [1, 2, 3, 4, 5, 6, 7, 8, 9, 10, 11, 0, 12] (by kernel_rfl) (by decide) rfl) ?_
    refine fin_conv (l' := [(20, vI (IntKind.i64.wrap (a6 + 1))), (2, vP A 0), (3, vP aq 0), (18, sl p r q), (19, vI (r.length : Int))]) (M' := Mem w0 (ow f8 e3.Comps f9 42 2 hl :: .blk da [vI K.Ent.N, vI K.Ent.Gen, sl ck K.Comps cn] 61 :: .blk A [sl U ([] : List api_Kind) V, sl U ([] : List Int) V, sl U ([] : List api_Item) V] 26 :: ow U ([] : List api_Kind) V 86 2 y5 :: ow U ([] : List Int) V 3 1 y7 :: ow U ([] : List api_Item) V 61 3 y9 :: cl :: .blk aq [sl am ah au, sl ao ai av, sl (sa di) g3 ag] 26 :: ow am ah au 86 2 ch :: ow ao ai av 3 1 ci :: ow (sa di) g3 ag 61 3 fo :: g7 :: Fz ct cv :: cs)) (by first | rfl | ((try dsimp only [sl, ow]); rw [gk])) (fun X hM => by first | exact hM | ((try dsimp only [sl, ow] at hM ⊢); rw [gk] at hM; exact hM)) ?_
    exact fag (g3, IntKind.i64.wrap (a6 + 1)) (fo, g7, ct, cv) (Option.some.inj hp).symm ⟨h7, (dj.trans cd)⟩ 13 [2, 3, 4, 5, 6, 7, 8, 9, 10, 11, 12]
   ·
    refine st_exit (fin_exit_then (fin_exit_then (fin_exit ?_)))
    obtain rfl := Option.some.inj hp
    obtain rfl := i0 _ rfl
    have hp : (world_Copy_j2 ah ai) ax = some (de, df, dg) := i1
    exact fj iw (ax, cw, du, dm, dn) ⟨hp, ga, dj⟩ 0 []
 ·
  intro dh
  refine st_seq ?_
  obtain ⟨b, d4, hp⟩ := obind hp
  obtain ⟨j, bm, hp⟩ := obind hp
  obtain ⟨a, cj, hp⟩ := obind hp
  refine st_region_tree (.node [oT 0, oT 1, oT 3, oT 4, oT 6, oT 7, oT 8] (.node [oF 2] (.node [oF 5] (.leaf [oF 9, oT 10, oF 11, oF 12]) (.leaf [oF 11, oF 9, oT 10, oF 12])) (.node [] (.node [oF 9] (.leaf [oF 5, oT 10, oF 11, oF 12]) (.leaf [oF 11, oF 5, oT 10, oF 12])) (.node [oF 11] (.leaf [oF 5, oF 9, oT 10, oF 12]) (.leaf [oF 9, oF 5, oT 10, oF 12])))) (.node [] (.node [oF 9] (.node [oF 2] (.leaf [oF 5, oT 10, oF 11, oF 12]) (.leaf [oF 11, oF 5, oT 10, oF 12])) (.leaf [oF 11, oF 2, oF 5, oT 10, oF 12])) (.node [oF 11] (.node [oF 2] (.leaf [oF 5, oF 9, oT 10, oF 12]) (.leaf [oF 9, oF 5, oT 10, oF 12])) (.leaf [oF 9, oF 2, oF 5, oT 10, oF 12])))) (Mem w0 (.blk A [.slice none 0 0, .slice none 0 0, .slice none 0 0] 26 :: .blk E [sl k B m, sl c s g, sl p r q] 26 :: Fz F W :: cs)) (by kernel_rfl) (by kernel_rfl) (by kernel_rfl) (fun _ d _ _ _ h => by cases d <;> exact h) (M' := Mem w0 (.blk A [.slice none 0 0, .slice none 0 0, .slice none 0 0] 26 :: .blk E [sl k B m, sl c s g, sl p r q] 26 :: Fz F W :: cs)) (fun X hM => ⟨hM.drew, hM.drew.sub (.cons_cons _ (.cons_cons _ (.cons_cons _ (.refl _))))⟩) ?_
  refine tree_node ?_
  refine oq [oT 0] [(6, vP E 0), (2, vP A 0), (1, vP E 0)] ?_
  refine oL 7 1 0 ?_
  refine oq [oT 3] [(9, vP E 1), (7, sl k B m), (2, vP A 0), (1, vP E 0)] ?_
  refine oL 10 1 1 ?_
  refine oq [oT 6] [(12, vP E 2), (10, sl c s g), (7, sl k B m), (2, vP A 0), (1, vP E 0)] ?_
  refine oL 13 1 2 ?_
  refine oq [oT 8] [(14, vI (r.length : Int)), (10, sl c s g), (7, sl k B m), (2, vP A 0), (1, vP E 0)] ?_
  refine ops_nil ?_
  refine tree_both ?_ ?_
  ·
   refine tree_node ?_
   refine ops_callI (σ := (Option Addr) × Nat × (List Value) × (Nat → Prop) × World) (d := some 8) (f := 61) (args := #[sl k B m]) (v := (fun J => match J with | (C, D, M, G, H) => sl C b D)) (I := (fun J => match J with | (C, D, M, G, H) => (RepL R_api_Kind G H b M) ∧ (Ext w0 F W G H))) (M' := (fun J => match J with | (C, D, M, G, H) => Mem w0 (ow C b D 86 2 M :: .blk A [.slice none 0 0, .slice none 0 0, .slice none 0 0] 26 :: .blk E [sl k B m, sl c s g, sl p r q] 26 :: Fz G H :: cs))) ⟨by kernel_rfl⟩ (fun X hM hS => (@kind_Copy_ok w0 X (.blk A [.slice none 0 0, .slice none 0 0, .slice none 0 0] 26 :: .blk E [sl k B m, sl c s g, sl p r q] 26 :: cs) F W k m B (hM.pick 3 [2, 0, 1] (by kernel_rfl) (by decide) rfl) ay b d4).mono (by rintro e w' ⟨⟨C, D, M, G, H⟩, ⟨dt, ad⟩, rfl, h'⟩; have h' : Mem w0 (ow C b D 86 2 M :: .blk A [.slice none 0 0, .slice none 0 0, .slice none 0 0] 26 :: .blk E [sl k B m, sl c s g, sl p r q] 26 :: Fz G H :: cs) w' := (h'.pick 4 [0, 2, 3, 1] (by kernel_rfl) (by decide) rfl); exact ⟨(C, D, M, G, H), ⟨dt, ad⟩, rfl, h', (by first | exact (Mem.fzback h' 3 rfl ad).sub (.cons _ (.cons_cons _ (.cons_cons _ (.cons_cons _ (.refl _))))))⟩)) ?_
   rintro ⟨C, D, M, G, H⟩ ⟨dt, ad⟩
   have ac := ac.ext ad
   have ay := ay.ext ad
   have az := az.ext ad
   refine oq [] [(8, sl C b D), (14, vI (r.length : Int)), (10, sl c s g), (2, vP A 0), (1, vP E 0)] ?_
   refine ops_nil ?_
   refine tree_both ?_ ?_
   ·
    refine tree_node ?_
    refine ops_callI (σ := (Option Addr) × Nat × (List Value)) (d := some 11) (f := 49) (args := #[sl c s g]) (v := (fun J => match J with | (al, ar, bn) => sl al j ar)) (I := (fun J => match J with | (al, ar, bn) => (RepL (Rep.int .i64) G H j bn))) (M' := (fun J => match J with | (al, ar, bn) => Mem w0 (ow al j ar 3 1 bn :: ow C b D 86 2 M :: .blk A [.slice none 0 0, .slice none 0 0, .slice none 0 0] 26 :: .blk E [sl k B m, sl c s g, sl p r q] 26 :: Fz G H :: cs))) ⟨by kernel_rfl⟩ (fun X hM hS => (@slices_Clone_int_int_ok w0 X (ow C b D 86 2 M :: .blk A [.slice none 0 0, .slice none 0 0, .slice none 0 0] 26 :: .blk E [sl k B m, sl c s g, sl p r q] 26 :: cs) G H c g s (hM.pick 4 [3, 0, 1, 2] (by kernel_rfl) (by decide) rfl) ac j bm).mono (by rintro e w' ⟨⟨al, ar, bn⟩, fe, rfl, h'⟩; have h' : Mem w0 (ow al j ar 3 1 bn :: ow C b D 86 2 M :: .blk A [.slice none 0 0, .slice none 0 0, .slice none 0 0] 26 :: .blk E [sl k B m, sl c s g, sl p r q] 26 :: Fz G H :: cs) w' := (h'.pick 5 [0, 2, 3, 4, 1] (by kernel_rfl) (by decide) rfl); exact ⟨(al, ar, bn), fe, rfl, h', (by first | exact (Mem.fzback h' 4 rfl ad).sub (.cons _ (.cons _ (.cons_cons _ (.cons_cons _ (.cons_cons _ (.refl _)))))))⟩)) ?_
    rintro ⟨al, ar, bn⟩ fe
    refine oq [] [(11, sl al j ar), (8, sl C b D), (14, vI (r.length : Int)), (2, vP A 0), (1, vP E 0)] ?_
    refine ops_nil ?_
    refine tree_both ?_ ?_
    ·
     refine tree_leaf ?_
     obtain ⟨il, gl, gb, hm⟩ := mk_some cj
     have ec : a.length = il := by rw [gb, List.length_replicate]
     obtain ⟨fk, gu⟩ : ∃ y_, (Sx.madeOf [vI 0, vI 0, .slice none 0 0] (a.length * 3)).toList = y_ := ⟨_, rfl⟩
     obtain ⟨e6, fp, hw⟩ := OwL.madeOf (O := O_api_Item_rrw) (F := G) (w := H) (x := ((api_Item.mk (api_Ent.mk 0 0) []) : api_Item)) (vs := [vI 0, vI 0, .slice none 0 0]) (Kz := [orow none 0 0 42 2 []]) (oenc_api_Item_rrw RepL.nil) (fun hM_ => (hM_.onil none 42 2)) (by decide) a.length
     have fp : OwL O_api_Item_rrw G H a fk e6 := by have z_ := fp; have e_ : List.replicate a.length ((api_Item.mk (api_Ent.mk 0 0) []) : api_Item) = a := (by rw [ec]; exact gb.symm); rw [e_] at z_; rw [← gu]; exact z_
     refine ops_conv (l' := [(11, sl al j ar), (8, sl C b D), (14, vI (r.length : Int)), (2, vP A 0), (1, vP E 0)]) (M' := Mem w0 (e6 :: ow al j ar 3 1 bn :: ow C b D 86 2 M :: .blk A [.slice none 0 0, .slice none 0 0, .slice none 0 0] 26 :: .blk E [sl k B m, sl c s g, sl p r q] 26 :: Fz G H :: cs)) rfl (fun X h => hw h) ?_
     refine ops_makeO (t := 24) (x := (Go.Operand.tmp 14)) (y := (Go.Operand.tmp 14)) (d := some 15) (nn := a.length) (z := 3) (bytes := 40) (xs := fk) (zv := .agg #[vI 0, vI 0, .slice none 0 0]) ⟨by kernel_rfl⟩ rfl rfl (by rw [ec]; exact gl) (by rw [ec]; exact gl) Tryz.underlying24 (by kernel_rfl) (by rw [ec]; exact hm) (by rfl) gu (fun _ _ _ hS h' => (by first | exact (Mem.fzback h' 6 rfl ad).sub (.cons _ (.cons _ (.cons _ (.cons _ (.cons_cons _ (.cons_cons _ (.cons_cons _ (.refl _)))))))))) (fun eq => ?_)
     refine oq [oT 10] [(16, .agg #[sl C b D, sl al j ar, sl (sa eq) a a.length]), (2, vP A 0), (1, vP E 0)] ?_
     refine oNS 3 [.slice none 0 0, .slice none 0 0, .slice none 0 0] 26 (fun fb => ?_)
     refine oSS 0 0 [sl C b D, sl al j ar, sl (sa eq) a a.length] (fun w' h' => (by first | exact (Mem.fzback h' 7 rfl ad).sub (.cons _ (.cons _ (.cons _ (.cons _ (.cons _ (.cons_cons _ (.cons_cons _ (.cons_cons _ (.refl _))))))))))) ?_
     refine oq [] [(3, vP fb 0), (2, vP A 0), (1, vP E 0)] ?_
     refine ops_nil ?_
     refine fnil 86 2 ?_
     refine fnil 3 1 ?_
     refine fin_conv (l' := [(3, vP fb 0), (2, vP A 0), (1, vP E 0)]) (M' := Mem w0 (ow none ([] : List api_Item) 0 61 3 [] :: (Sx.bundle []) :: ow none ([] : List Int) 0 3 1 [] :: ow none ([] : List api_Kind) 0 86 2 [] :: .blk fb [sl C b D, sl al j ar, sl (sa eq) a a.length] 26 :: ow (sa eq) a a.length 61 3 fk :: e6 :: ow al j ar 3 1 bn :: ow C b D 86 2 M :: .blk A [.slice none 0 0, .slice none 0 0, .slice none 0 0] 26 :: .blk E [sl k B m, sl c s g, sl p r q] 26 :: Fz G H :: cs)) rfl (fun X h => h.bnil.onil none 61 3) ?_
     exact fj dh (none, 0, [], [], [], (Sx.bundle []), fb, C, D, b, M, al, ar, j, bn, (sa eq), a.length, a, fk, e6, G, H) ⟨hp, (RepL.nil (R := R_api_Kind)), (RepL.nil (R := (Rep.int .i64))), (OwL.nil (O := O_api_Item_rrw)), dt, fe, fp, ad⟩ 12 [10, 9, 3, 2, 0, 1, 4, 8, 7, 5, 6, 11]
    ·
     refine tree_leaf ?_
     refine oNS 3 [.slice none 0 0, .slice none 0 0, .slice none 0 0] 26 (fun dy => ?_)
     obtain ⟨im, gm, gc, hn⟩ := mk_some cj
     have ed : a.length = im := by rw [gc, List.length_replicate]
     obtain ⟨fl, gv⟩ : ∃ y_, (Sx.madeOf [vI 0, vI 0, .slice none 0 0] (a.length * 3)).toList = y_ := ⟨_, rfl⟩
     obtain ⟨e7, fq, hx⟩ := OwL.madeOf (O := O_api_Item_rrw) (F := G) (w := H) (x := ((api_Item.mk (api_Ent.mk 0 0) []) : api_Item)) (vs := [vI 0, vI 0, .slice none 0 0]) (Kz := [orow none 0 0 42 2 []]) (oenc_api_Item_rrw RepL.nil) (fun hM_ => (hM_.onil none 42 2)) (by decide) a.length
     have fq : OwL O_api_Item_rrw G H a fl e7 := by have z_ := fq; have e_ : List.replicate a.length ((api_Item.mk (api_Ent.mk 0 0) []) : api_Item) = a := (by rw [ed]; exact gc.symm); rw [e_] at z_; rw [← gv]; exact z_
     refine ops_conv (l' := [(3, vP dy 0), (11, sl al j ar), (8, sl C b D), (14, vI (r.length : Int)), (2, vP A 0), (1, vP E 0)]) (M' := Mem w0 (e7 :: .blk dy [.slice none 0 0, .slice none 0 0, .slice none 0 0] 26 :: ow al j ar 3 1 bn :: ow C b D 86 2 M :: .blk A [.slice none 0 0, .slice none 0 0, .slice none 0 0] 26 :: .blk E [sl k B m, sl c s g, sl p r q] 26 :: Fz G H :: cs)) rfl (fun X h => hx h) ?_
     refine ops_makeO (t := 24) (x := (Go.Operand.tmp 14)) (y := (Go.Operand.tmp 14)) (d := some 15) (nn := a.length) (z := 3) (bytes := 40) (xs := fl) (zv := .agg #[vI 0, vI 0, .slice none 0 0]) ⟨by kernel_rfl⟩ rfl rfl (by rw [ed]; exact gm) (by rw [ed]; exact gm) Tryz.underlying24 (by kernel_rfl) (by rw [ed]; exact hn) (by rfl) gv (fun _ _ _ hS h' => (by first | exact (Mem.fzback h' 7 rfl ad).sub (.cons _ (.cons _ (.cons _ (.cons _ (.cons _ (.cons_cons _ (.cons_cons _ (.cons_cons _ (.refl _))))))))))) (fun er => ?_)
     refine oq [oT 10] [(16, .agg #[sl C b D, sl al j ar, sl (sa er) a a.length]), (3, vP dy 0), (2, vP A 0), (1, vP E 0)] ?_
     refine oSS 2 0 [sl C b D, sl al j ar, sl (sa er) a a.length] (fun w' h' => (by first | exact (Mem.fzback h' 7 rfl ad).sub (.cons _ (.cons _ (.cons _ (.cons _ (.cons _ (.cons_cons _ (.cons_cons _ (.cons_cons _ (.refl _))))))))))) ?_
     refine oq [] [(3, vP dy 0), (2, vP A 0), (1, vP E 0)] ?_
     refine ops_nil ?_
     refine fnil 86 2 ?_
     refine fnil 3 1 ?_
     refine fin_conv (l' := [(3, vP dy 0), (2, vP A 0), (1, vP E 0)]) (M' := Mem w0 (ow none ([] : List api_Item) 0 61 3 [] :: (Sx.bundle []) :: ow none ([] : List Int) 0 3 1 [] :: ow none ([] : List api_Kind) 0 86 2 [] :: ow (sa er) a a.length 61 3 fl :: e7 :: .blk dy [sl C b D, sl al j ar, sl (sa er) a a.length] 26 :: ow al j ar 3 1 bn :: ow C b D 86 2 M :: .blk A [.slice none 0 0, .slice none 0 0, .slice none 0 0] 26 :: .blk E [sl k B m, sl c s g, sl p r q] 26 :: Fz G H :: cs)) rfl (fun X h => h.bnil.onil none 61 3) ?_
     exact fj dh (none, 0, [], [], [], (Sx.bundle []), dy, C, D, b, M, al, ar, j, bn, (sa er), a.length, a, fl, e7, G, H) ⟨hp, (RepL.nil (R := R_api_Kind)), (RepL.nil (R := (Rep.int .i64))), (OwL.nil (O := O_api_Item_rrw)), dt, fe, fq, ad⟩ 12 [10, 9, 3, 2, 0, 1, 6, 8, 7, 4, 5, 11]
   ·
    refine tree_ways ?_ ?_
    ·
     refine tree_node ?_
     obtain ⟨io, gn, gd, ho⟩ := mk_some cj
     have ee : a.length = io := by rw [gd, List.length_replicate]
     obtain ⟨cf, gw⟩ : ∃ y_, (Sx.madeOf [vI 0, vI 0, .slice none 0 0] (a.length * 3)).toList = y_ := ⟨_, rfl⟩
     obtain ⟨ce, ff, hy⟩ := OwL.madeOf (O := O_api_Item_rrw) (F := G) (w := H) (x := ((api_Item.mk (api_Ent.mk 0 0) []) : api_Item)) (vs := [vI 0, vI 0, .slice none 0 0]) (Kz := [orow none 0 0 42 2 []]) (oenc_api_Item_rrw RepL.nil) (fun hM_ => (hM_.onil none 42 2)) (by decide) a.length
     have ff : OwL O_api_Item_rrw G H a cf ce := by have z_ := ff; have e_ : List.replicate a.length ((api_Item.mk (api_Ent.mk 0 0) []) : api_Item) = a := (by rw [ee]; exact gd.symm); rw [e_] at z_; rw [← gw]; exact z_
     refine ops_conv (l' := [(8, sl C b D), (14, vI (r.length : Int)), (10, sl c s g), (2, vP A 0), (1, vP E 0)]) (M' := Mem w0 (ce :: ow C b D 86 2 M :: .blk A [.slice none 0 0, .slice none 0 0, .slice none 0 0] 26 :: .blk E [sl k B m, sl c s g, sl p r q] 26 :: Fz G H :: cs)) rfl (fun X h => hy h) ?_
     refine ops_makeO (t := 24) (x := (Go.Operand.tmp 14)) (y := (Go.Operand.tmp 14)) (d := some 15) (nn := a.length) (z := 3) (bytes := 40) (xs := cf) (zv := .agg #[vI 0, vI 0, .slice none 0 0]) ⟨by kernel_rfl⟩ rfl rfl (by rw [ee]; exact gn) (by rw [ee]; exact gn) Tryz.underlying24 (by kernel_rfl) (by rw [ee]; exact ho) (by rfl) gw (fun _ _ _ hS h' => (by first | exact (Mem.fzback h' 5 rfl ad).sub (.cons _ (.cons _ (.cons _ (.cons_cons _ (.cons_cons _ (.cons_cons _ (.refl _))))))))) (fun bg => ?_)
     refine ops_nil ?_
     refine tree_both ?_ ?_
     ·
      refine tree_leaf ?_
      refine ops_callI (σ := (Option Addr) × Nat × (List Value)) (d := some 11) (f := 49) (args := #[sl c s g]) (v := (fun J => match J with | (bq, bz, c0) => sl bq j bz)) (I := (fun J => match J with | (bq, bz, c0) => (RepL (Rep.int .i64) G H j c0))) (M' := (fun J => match J with | (bq, bz, c0) => Mem w0 (ow bq j bz 3 1 c0 :: ow (sa bg) a a.length 61 3 cf :: ce :: ow C b D 86 2 M :: .blk A [.slice none 0 0, .slice none 0 0, .slice none 0 0] 26 :: .blk E [sl k B m, sl c s g, sl p r q] 26 :: Fz G H :: cs))) ⟨by kernel_rfl⟩ (fun X hM hS => (@slices_Clone_int_int_ok w0 X (ow (sa bg) a a.length 61 3 cf :: ce :: ow C b D 86 2 M :: .blk A [.slice none 0 0, .slice none 0 0, .slice none 0 0] 26 :: .blk E [sl k B m, sl c s g, sl p r q] 26 :: cs) G H c g s (hM.pick 6 [5, 0, 1, 2, 3, 4] (by kernel_rfl) (by decide) rfl) ac j bm).mono (by rintro e w' ⟨⟨bq, bz, c0⟩, fr, rfl, h'⟩; have h' : Mem w0 (ow bq j bz 3 1 c0 :: ow (sa bg) a a.length 61 3 cf :: ce :: ow C b D 86 2 M :: .blk A [.slice none 0 0, .slice none 0 0, .slice none 0 0] 26 :: .blk E [sl k B m, sl c s g, sl p r q] 26 :: Fz G H :: cs) w' := (h'.pick 7 [0, 2, 3, 4, 5, 6, 1] (by kernel_rfl) (by decide) rfl); exact ⟨(bq, bz, c0), fr, rfl, h', (by first | exact (Mem.fzback h' 6 rfl ad).sub (.cons _ (.cons _ (.cons _ (.cons _ (.cons_cons _ (.cons_cons _ (.cons_cons _ (.refl _)))))))))⟩)) ?_
      rintro ⟨bq, bz, c0⟩ fr
      refine oq [oT 10] [(16, .agg #[sl C b D, sl bq j bz, sl (sa bg) a a.length]), (2, vP A 0), (1, vP E 0)] ?_
      refine oNS 3 [.slice none 0 0, .slice none 0 0, .slice none 0 0] 26 (fun fc => ?_)
      refine oSS 0 0 [sl C b D, sl bq j bz, sl (sa bg) a a.length] (fun w' h' => (by first | exact (Mem.fzback h' 7 rfl ad).sub (.cons _ (.cons _ (.cons _ (.cons _ (.cons _ (.cons_cons _ (.cons_cons _ (.cons_cons _ (.refl _))))))))))) ?_
      refine oq [] [(3, vP fc 0), (2, vP A 0), (1, vP E 0)] ?_
      refine ops_nil ?_
      refine fnil 86 2 ?_
      refine fnil 3 1 ?_
      refine fin_conv (l' := [(3, vP fc 0), (2, vP A 0), (1, vP E 0)]) (M' := Mem w0 (ow none ([] : List api_Item) 0 61 3 [] :: (Sx.bundle []) :: ow none ([] : List Int) 0 3 1 [] :: ow none ([] : List api_Kind) 0 86 2 [] :: .blk fc [sl C b D, sl bq j bz, sl (sa bg) a a.length] 26 :: ow bq j bz 3 1 c0 :: ow (sa bg) a a.length 61 3 cf :: ce :: ow C b D 86 2 M :: .blk A [.slice none 0 0, .slice none 0 0, .slice none 0 0] 26 :: .blk E [sl k B m, sl c s g, sl p r q] 26 :: Fz G H :: cs)) rfl (fun X h => h.bnil.onil none 61 3) ?_
      exact fj dh (none, 0, [], [], [], (Sx.bundle []), fc, C, D, b, M, bq, bz, j, c0, (sa bg), a.length, a, cf, ce, G, H) ⟨hp, (RepL.nil (R := R_api_Kind)), (RepL.nil (R := (Rep.int .i64))), (OwL.nil (O := O_api_Item_rrw)), dt, fr, ff, ad⟩ 12 [10, 9, 3, 2, 0, 1, 4, 8, 5, 6, 7, 11]
     ·
      refine tree_leaf ?_
      refine oNS 3 [.slice none 0 0, .slice none 0 0, .slice none 0 0] 26 (fun dp => ?_)
      refine ops_callI (σ := (Option Addr) × Nat × (List Value)) (d := some 11) (f := 49) (args := #[sl c s g]) (v := (fun J => match J with | (br, b0, c1) => sl br j b0)) (I := (fun J => match J with | (br, b0, c1) => (RepL (Rep.int .i64) G H j c1))) (M' := (fun J => match J with | (br, b0, c1) => Mem w0 (ow br j b0 3 1 c1 :: .blk dp [.slice none 0 0, .slice none 0 0, .slice none 0 0] 26 :: ow (sa bg) a a.length 61 3 cf :: ce :: ow C b D 86 2 M :: .blk A [.slice none 0 0, .slice none 0 0, .slice none 0 0] 26 :: .blk E [sl k B m, sl c s g, sl p r q] 26 :: Fz G H :: cs))) ⟨by kernel_rfl⟩ (fun X hM hS => (@slices_Clone_int_int_ok w0 X (.blk dp [.slice none 0 0, .slice none 0 0, .slice none 0 0] 26 :: ow (sa bg) a a.length 61 3 cf :: ce :: ow C b D 86 2 M :: .blk A [.slice none 0 0, .slice none 0 0, .slice none 0 0] 26 :: .blk E [sl k B m, sl c s g, sl p r q] 26 :: cs) G H c g s (hM.pick 7 [6, 0, 1, 2, 3, 4, 5] (by kernel_rfl) (by decide) rfl) ac j bm).mono (by rintro e w' ⟨⟨br, b0, c1⟩, fs, rfl, h'⟩; have h' : Mem w0 (ow br j b0 3 1 c1 :: .blk dp [.slice none 0 0, .slice none 0 0, .slice none 0 0] 26 :: ow (sa bg) a a.length 61 3 cf :: ce :: ow C b D 86 2 M :: .blk A [.slice none 0 0, .slice none 0 0, .slice none 0 0] 26 :: .blk E [sl k B m, sl c s g, sl p r q] 26 :: Fz G H :: cs) w' := (h'.pick 8 [0, 2, 3, 4, 5, 6, 7, 1] (by kernel_rfl) (by decide) rfl); exact ⟨(br, b0, c1), fs, rfl, h', (by first | exact (Mem.fzback h' 7 rfl ad).sub (.cons _ (.cons _ (.cons _ (.cons _ (.cons _ (.cons_cons _ (.cons_cons _ (.cons_cons _ (.refl _))))))))))⟩)) ?_
      rintro ⟨br, b0, c1⟩ fs
      refine oq [oT 10] [(16, .agg #[sl C b D, sl br j b0, sl (sa bg) a a.length]), (3, vP dp 0), (2, vP A 0), (1, vP E 0)] ?_
      refine oSS 1 0 [sl C b D, sl br j b0, sl (sa bg) a a.length] (fun w' h' => (by first | exact (Mem.fzback h' 7 rfl ad).sub (.cons _ (.cons _ (.cons _ (.cons _ (.cons _ (.cons_cons _ (.cons_cons _ (.cons_cons _ (.refl _))))))))))) ?_
      refine oq [] [(3, vP dp 0), (2, vP A 0), (1, vP E 0)] ?_
      refine ops_nil ?_
      refine fnil 86 2 ?_
      refine fnil 3 1 ?_
      refine fin_conv (l' := [(3, vP dp 0), (2, vP A 0), (1, vP E 0)]) (M' := Mem w0 (ow none ([] : List api_Item) 0 61 3 [] :: (Sx.bundle []) :: ow none ([] : List Int) 0 3 1 [] :: ow none ([] : List api_Kind) 0 86 2 [] :: ow br j b0 3 1 c1 :: .blk dp [sl C b D, sl br j b0, sl (sa bg) a a.length] 26 :: ow (sa bg) a a.length 61 3 cf :: ce :: ow C b D 86 2 M :: .blk A [.slice none 0 0, .slice none 0 0, .slice none 0 0] 26 :: .blk E [sl k B m, sl c s g, sl p r q] 26 :: Fz G H :: cs)) rfl (fun X h => h.bnil.onil none 61 3) ?_
      exact fj dh (none, 0, [], [], [], (Sx.bundle []), dp, C, D, b, M, br, b0, j, c1, (sa bg), a.length, a, cf, ce, G, H) ⟨hp, (RepL.nil (R := R_api_Kind)), (RepL.nil (R := (Rep.int .i64))), (OwL.nil (O := O_api_Item_rrw)), dt, fs, ff, ad⟩ 12 [10, 9, 3, 2, 0, 1, 5, 8, 4, 6, 7, 11]
    ·
     refine tree_node ?_
     refine oNS 3 [.slice none 0 0, .slice none 0 0, .slice none 0 0] 26 (fun a2 => ?_)
     refine ops_nil ?_
     refine tree_both ?_ ?_
     ·
      refine tree_leaf ?_
      refine ops_callI (σ := (Option Addr) × Nat × (List Value)) (d := some 11) (f := 49) (args := #[sl c s g]) (v := (fun J => match J with | (a8, bc, cp) => sl a8 j bc)) (I := (fun J => match J with | (a8, bc, cp) => (RepL (Rep.int .i64) G H j cp))) (M' := (fun J => match J with | (a8, bc, cp) => Mem w0 (ow a8 j bc 3 1 cp :: .blk a2 [.slice none 0 0, .slice none 0 0, .slice none 0 0] 26 :: ow C b D 86 2 M :: .blk A [.slice none 0 0, .slice none 0 0, .slice none 0 0] 26 :: .blk E [sl k B m, sl c s g, sl p r q] 26 :: Fz G H :: cs))) ⟨by kernel_rfl⟩ (fun X hM hS => (@slices_Clone_int_int_ok w0 X (.blk a2 [.slice none 0 0, .slice none 0 0, .slice none 0 0] 26 :: ow C b D 86 2 M :: .blk A [.slice none 0 0, .slice none 0 0, .slice none 0 0] 26 :: .blk E [sl k B m, sl c s g, sl p r q] 26 :: cs) G H c g s (hM.pick 5 [4, 0, 1, 2, 3] (by kernel_rfl) (by decide) rfl) ac j bm).mono (by rintro e w' ⟨⟨a8, bc, cp⟩, ft, rfl, h'⟩; have h' : Mem w0 (ow a8 j bc 3 1 cp :: .blk a2 [.slice none 0 0, .slice none 0 0, .slice none 0 0] 26 :: ow C b D 86 2 M :: .blk A [.slice none 0 0, .slice none 0 0, .slice none 0 0] 26 :: .blk E [sl k B m, sl c s g, sl p r q] 26 :: Fz G H :: cs) w' := (h'.pick 6 [0, 2, 3, 4, 5, 1] (by kernel_rfl) (by decide) rfl); exact ⟨(a8, bc, cp), ft, rfl, h', (by first | exact (Mem.fzback h' 5 rfl ad).sub (.cons _ (.cons _ (.cons _ (.cons_cons _ (.cons_cons _ (.cons_cons _ (.refl _))))))))⟩)) ?_
      rintro ⟨a8, bc, cp⟩ ft
      refine oq [] [(11, sl a8 j bc), (3, vP a2 0), (8, sl C b D), (14, vI (r.length : Int)), (2, vP A 0), (1, vP E 0)] ?_
      obtain ⟨ip, go, ge, hq⟩ := mk_some cj
      have ef : a.length = ip := by rw [ge, List.length_replicate]
      obtain ⟨fm, gx⟩ : ∃ y_, (Sx.madeOf [vI 0, vI 0, .slice none 0 0] (a.length * 3)).toList = y_ := ⟨_, rfl⟩
      obtain ⟨e8, fu, hz⟩ := OwL.madeOf (O := O_api_Item_rrw) (F := G) (w := H) (x := ((api_Item.mk (api_Ent.mk 0 0) []) : api_Item)) (vs := [vI 0, vI 0, .slice none 0 0]) (Kz := [orow none 0 0 42 2 []]) (oenc_api_Item_rrw RepL.nil) (fun hM_ => (hM_.onil none 42 2)) (by decide) a.length
      have fu : OwL O_api_Item_rrw G H a fm e8 := by have z_ := fu; have e_ : List.replicate a.length ((api_Item.mk (api_Ent.mk 0 0) []) : api_Item) = a := (by rw [ef]; exact ge.symm); rw [e_] at z_; rw [← gx]; exact z_
      refine ops_conv (l' := [(11, sl a8 j bc), (3, vP a2 0), (8, sl C b D), (14, vI (r.length : Int)), (2, vP A 0), (1, vP E 0)]) (M' := Mem w0 (e8 :: ow a8 j bc 3 1 cp :: .blk a2 [.slice none 0 0, .slice none 0 0, .slice none 0 0] 26 :: ow C b D 86 2 M :: .blk A [.slice none 0 0, .slice none 0 0, .slice none 0 0] 26 :: .blk E [sl k B m, sl c s g, sl p r q] 26 :: Fz G H :: cs)) rfl (fun X h => hz h) ?_
      refine ops_makeO (t := 24) (x := (Go.Operand.tmp 14)) (y := (Go.Operand.tmp 14)) (d := some 15) (nn := a.length) (z := 3) (bytes := 40) (xs := fm) (zv := .agg #[vI 0, vI 0, .slice none 0 0]) ⟨by kernel_rfl⟩ rfl rfl (by rw [ef]; exact go) (by rw [ef]; exact go) Tryz.underlying24 (by kernel_rfl) (by rw [ef]; exact hq) (by rfl) gx (fun _ _ _ hS h' => (by first | exact (Mem.fzback h' 7 rfl ad).sub (.cons _ (.cons _ (.cons _ (.cons _ (.cons _ (.cons_cons _ (.cons_cons _ (.cons_cons _ (.refl _))))))))))) (fun es => ?_)
      refine oq [oT 10] [(16, .agg #[sl C b D, sl a8 j bc, sl (sa es) a a.length]), (3, vP a2 0), (2, vP A 0), (1, vP E 0)] ?_
      refine oSS 3 0 [sl C b D, sl a8 j bc, sl (sa es) a a.length] (fun w' h' => (by first | exact (Mem.fzback h' 7 rfl ad).sub (.cons _ (.cons _ (.cons _ (.cons _ (.cons _ (.cons_cons _ (.cons_cons _ (.cons_cons _ (.refl _))))))))))) ?_
      refine oq [] [(3, vP a2 0), (2, vP A 0), (1, vP E 0)] ?_
      refine ops_nil ?_
      refine fnil 86 2 ?_
      refine fnil 3 1 ?_
      refine fin_conv (l' := [(3, vP a2 0), (2, vP A 0), (1, vP E 0)]) (M' := Mem w0 (ow none ([] : List api_Item) 0 61 3 [] :: (Sx.bundle []) :: ow none ([] : List Int) 0 3 1 [] :: ow none ([] : List api_Kind) 0 86 2 [] :: ow (sa es) a a.length 61 3 fm :: e8 :: ow a8 j bc 3 1 cp :: .blk a2 [sl C b D, sl a8 j bc, sl (sa es) a a.length] 26 :: ow C b D 86 2 M :: .blk A [.slice none 0 0, .slice none 0 0, .slice none 0 0] 26 :: .blk E [sl k B m, sl c s g, sl p r q] 26 :: Fz G H :: cs)) rfl (fun X h => h.bnil.onil none 61 3) ?_
      exact fj dh (none, 0, [], [], [], (Sx.bundle []), a2, C, D, b, M, a8, bc, j, cp, (sa es), a.length, a, fm, e8, G, H) ⟨hp, (RepL.nil (R := R_api_Kind)), (RepL.nil (R := (Rep.int .i64))), (OwL.nil (O := O_api_Item_rrw)), dt, ft, fu, ad⟩ 12 [10, 9, 3, 2, 0, 1, 7, 8, 6, 4, 5, 11]
     ·
      refine tree_leaf ?_
      obtain ⟨iq, gp, gf, hr⟩ := mk_some cj
      have eg : a.length = iq := by rw [gf, List.length_replicate]
      obtain ⟨dz, gy⟩ : ∃ y_, (Sx.madeOf [vI 0, vI 0, .slice none 0 0] (a.length * 3)).toList = y_ := ⟨_, rfl⟩
      obtain ⟨dw, fv, h0⟩ := OwL.madeOf (O := O_api_Item_rrw) (F := G) (w := H) (x := ((api_Item.mk (api_Ent.mk 0 0) []) : api_Item)) (vs := [vI 0, vI 0, .slice none 0 0]) (Kz := [orow none 0 0 42 2 []]) (oenc_api_Item_rrw RepL.nil) (fun hM_ => (hM_.onil none 42 2)) (by decide) a.length
      have fv : OwL O_api_Item_rrw G H a dz dw := by have z_ := fv; have e_ : List.replicate a.length ((api_Item.mk (api_Ent.mk 0 0) []) : api_Item) = a := (by rw [eg]; exact gf.symm); rw [e_] at z_; rw [← gy]; exact z_
      refine ops_conv (l' := [(3, vP a2 0), (8, sl C b D), (14, vI (r.length : Int)), (10, sl c s g), (2, vP A 0), (1, vP E 0)]) (M' := Mem w0 (dw :: .blk a2 [.slice none 0 0, .slice none 0 0, .slice none 0 0] 26 :: ow C b D 86 2 M :: .blk A [.slice none 0 0, .slice none 0 0, .slice none 0 0] 26 :: .blk E [sl k B m, sl c s g, sl p r q] 26 :: Fz G H :: cs)) rfl (fun X h => h0 h) ?_
      refine ops_makeO (t := 24) (x := (Go.Operand.tmp 14)) (y := (Go.Operand.tmp 14)) (d := some 15) (nn := a.length) (z := 3) (bytes := 40) (xs := dz) (zv := .agg #[vI 0, vI 0, .slice none 0 0]) ⟨by kernel_rfl⟩ rfl rfl (by rw [eg]; exact gp) (by rw [eg]; exact gp) Tryz.underlying24 (by kernel_rfl) (by rw [eg]; exact hr) (by rfl) gy (fun _ _ _ hS h' => (by first | exact (Mem.fzback h' 6 rfl ad).sub (.cons _ (.cons _ (.cons _ (.cons _ (.cons_cons _ (.cons_cons _ (.cons_cons _ (.refl _)))))))))) (fun dr => ?_)
      refine ops_callI (σ := (Option Addr) × Nat × (List Value)) (d := some 11) (f := 49) (args := #[sl c s g]) (v := (fun J => match J with | (bs, b3, c2) => sl bs j b3)) (I := (fun J => match J with | (bs, b3, c2) => (RepL (Rep.int .i64) G H j c2))) (M' := (fun J => match J with | (bs, b3, c2) => Mem w0 (ow bs j b3 3 1 c2 :: ow (sa dr) a a.length 61 3 dz :: dw :: .blk a2 [.slice none 0 0, .slice none 0 0, .slice none 0 0] 26 :: ow C b D 86 2 M :: .blk A [.slice none 0 0, .slice none 0 0, .slice none 0 0] 26 :: .blk E [sl k B m, sl c s g, sl p r q] 26 :: Fz G H :: cs))) ⟨by kernel_rfl⟩ (fun X hM hS => (@slices_Clone_int_int_ok w0 X (ow (sa dr) a a.length 61 3 dz :: dw :: .blk a2 [.slice none 0 0, .slice none 0 0, .slice none 0 0] 26 :: ow C b D 86 2 M :: .blk A [.slice none 0 0, .slice none 0 0, .slice none 0 0] 26 :: .blk E [sl k B m, sl c s g, sl p r q] 26 :: cs) G H c g s (hM.pick 7 [6, 0, 1, 2, 3, 4, 5] (by kernel_rfl) (by decide) rfl) ac j bm).mono (by rintro e w' ⟨⟨bs, b3, c2⟩, fw, rfl, h'⟩; have h' : Mem w0 (ow bs j b3 3 1 c2 :: ow (sa dr) a a.length 61 3 dz :: dw :: .blk a2 [.slice none 0 0, .slice none 0 0, .slice none 0 0] 26 :: ow C b D 86 2 M :: .blk A [.slice none 0 0, .slice none 0 0, .slice none 0 0] 26 :: .blk E [sl k B m, sl c s g, sl p r q] 26 :: Fz G H :: cs) w' := (h'.pick 8 [0, 2, 3, 4, 5, 6, 7, 1] (by kernel_rfl) (by decide) rfl); exact ⟨(bs, b3, c2), fw, rfl, h', (by first | exact (Mem.fzback h' 7 rfl ad).sub (.cons _ (.cons _ (.cons _ (.cons _ (.cons _ (.cons_cons _ (.cons_cons _ (.cons_cons _ (.refl _))))))))))⟩)) ?_
      rintro ⟨bs, b3, c2⟩ fw
      refine oq [oT 10] [(16, .agg #[sl C b D, sl bs j b3, sl (sa dr) a a.length]), (3, vP a2 0), (2, vP A 0), (1, vP E 0)] ?_
      refine oSS 3 0 [sl C b D, sl bs j b3, sl (sa dr) a a.length] (fun w' h' => (by first | exact (Mem.fzback h' 7 rfl ad).sub (.cons _ (.cons _ (.cons _ (.cons _ (.cons _ (.cons_cons _ (.cons_cons _ (.cons_cons _ (.refl _))))))))))) ?_
      refine oq [] [(3, vP a2 0), (2, vP A 0), (1, vP E 0)] ?_
      refine ops_nil ?_
      refine fnil 86 2 ?_
      refine fnil 3 1 ?_
      refine fin_conv (l' := [(3, vP a2 0), (2, vP A 0), (1, vP E 0)]) (M' := Mem w0 (ow none ([] : List api_Item) 0 61 3 [] :: (Sx.bundle []) :: ow none ([] : List Int) 0 3 1 [] :: ow none ([] : List api_Kind) 0 86 2 [] :: ow bs j b3 3 1 c2 :: ow (sa dr) a a.length 61 3 dz :: dw :: .blk a2 [sl C b D, sl bs j b3, sl (sa dr) a a.length] 26 :: ow C b D 86 2 M :: .blk A [.slice none 0 0, .slice none 0 0, .slice none 0 0] 26 :: .blk E [sl k B m, sl c s g, sl p r q] 26 :: Fz G H :: cs)) rfl (fun X h => h.bnil.onil none 61 3) ?_
      exact fj dh (none, 0, [], [], [], (Sx.bundle []), a2, C, D, b, M, bs, b3, j, c2, (sa dr), a.length, a, dz, dw, G, H) ⟨hp, (RepL.nil (R := R_api_Kind)), (RepL.nil (R := (Rep.int .i64))), (OwL.nil (O := O_api_Item_rrw)), dt, fw, fv, ad⟩ 12 [10, 9, 3, 2, 0, 1, 7, 8, 4, 5, 6, 11]
  ·
   refine tree_ways ?_ ?_
   ·
    refine tree_node ?_
    obtain ⟨ir, gq, gg, hs⟩ := mk_some cj
    have eh : a.length = ir := by rw [gg, List.length_replicate]
    obtain ⟨aw, gz⟩ : ∃ y_, (Sx.madeOf [vI 0, vI 0, .slice none 0 0] (a.length * 3)).toList = y_ := ⟨_, rfl⟩
    obtain ⟨ap, dd, h1⟩ := OwL.madeOf (O := O_api_Item_rrw) (F := F) (w := W) (x := ((api_Item.mk (api_Ent.mk 0 0) []) : api_Item)) (vs := [vI 0, vI 0, .slice none 0 0]) (Kz := [orow none 0 0 42 2 []]) (oenc_api_Item_rrw RepL.nil) (fun hM_ => (hM_.onil none 42 2)) (by decide) a.length
    have dd : OwL O_api_Item_rrw F W a aw ap := by have z_ := dd; have e_ : List.replicate a.length ((api_Item.mk (api_Ent.mk 0 0) []) : api_Item) = a := (by rw [eh]; exact gg.symm); rw [e_] at z_; rw [← gz]; exact z_
    refine ops_conv (l' := [(14, vI (r.length : Int)), (10, sl c s g), (7, sl k B m), (2, vP A 0), (1, vP E 0)]) (M' := Mem w0 (ap :: .blk A [.slice none 0 0, .slice none 0 0, .slice none 0 0] 26 :: .blk E [sl k B m, sl c s g, sl p r q] 26 :: Fz F W :: cs)) rfl (fun X h => h1 h) ?_
    refine ops_makeO (t := 24) (x := (Go.Operand.tmp 14)) (y := (Go.Operand.tmp 14)) (d := some 15) (nn := a.length) (z := 3) (bytes := 40) (xs := aw) (zv := .agg #[vI 0, vI 0, .slice none 0 0]) ⟨by kernel_rfl⟩ rfl rfl (by rw [eh]; exact gq) (by rw [eh]; exact gq) Tryz.underlying24 (by kernel_rfl) (by rw [eh]; exact hs) (by rfl) gz (fun _ _ _ hS h' => (by exact h'.sub (.cons _ (.cons _ (.cons_cons _ (.cons_cons _ (.cons_cons _ (.refl _)))))))) (fun aa => ?_)
    refine ops_nil ?_
    refine tree_both ?_ ?_
    ·
     refine tree_node ?_
     refine ops_callI (σ := (Option Addr) × Nat × (List Value) × (Nat → Prop) × World) (d := some 8) (f := 61) (args := #[sl k B m]) (v := (fun J => match J with | (aj, ak, a7, a0, a1) => sl aj b ak)) (I := (fun J => match J with | (aj, ak, a7, a0, a1) => (RepL R_api_Kind a0 a1 b a7) ∧ (Ext w0 F W a0 a1))) (M' := (fun J => match J with | (aj, ak, a7, a0, a1) => Mem w0 (ow aj b ak 86 2 a7 :: ow (sa aa) a a.length 61 3 aw :: ap :: .blk A [.slice none 0 0, .slice none 0 0, .slice none 0 0] 26 :: .blk E [sl k B m, sl c s g, sl p r q] 26 :: Fz a0 a1 :: cs))) ⟨by kernel_rfl⟩ (fun X hM hS => (@kind_Copy_ok w0 X (ow (sa aa) a a.length 61 3 aw :: ap :: .blk A [.slice none 0 0, .slice none 0 0, .slice none 0 0] 26 :: .blk E [sl k B m, sl c s g, sl p r q] 26 :: cs) F W k m B (hM.pick 5 [4, 0, 1, 2, 3] (by kernel_rfl) (by decide) rfl) ay b d4).mono (by rintro e w' ⟨⟨aj, ak, a7, a0, a1⟩, ⟨fg, b9⟩, rfl, h'⟩; have h' : Mem w0 (ow aj b ak 86 2 a7 :: ow (sa aa) a a.length 61 3 aw :: ap :: .blk A [.slice none 0 0, .slice none 0 0, .slice none 0 0] 26 :: .blk E [sl k B m, sl c s g, sl p r q] 26 :: Fz a0 a1 :: cs) w' := (h'.pick 6 [0, 2, 3, 4, 5, 1] (by kernel_rfl) (by decide) rfl); exact ⟨(aj, ak, a7, a0, a1), ⟨fg, b9⟩, rfl, h', (by first | exact (Mem.fzback h' 5 rfl b9).sub (.cons _ (.cons _ (.cons _ (.cons_cons _ (.cons_cons _ (.cons_cons _ (.refl _))))))))⟩)) ?_
     rintro ⟨aj, ak, a7, a0, a1⟩ ⟨fg, b9⟩
     have ac := ac.ext b9
     have ay := ay.ext b9
     have dd := dd.ext b9
     have az := az.ext b9
     refine ops_nil ?_
     refine tree_both ?_ ?_
     ·
      refine tree_leaf ?_
      refine ops_callI (σ := (Option Addr) × Nat × (List Value)) (d := some 11) (f := 49) (args := #[sl c s g]) (v := (fun J => match J with | (bt, b4, c3) => sl bt j b4)) (I := (fun J => match J with | (bt, b4, c3) => (RepL (Rep.int .i64) a0 a1 j c3))) (M' := (fun J => match J with | (bt, b4, c3) => Mem w0 (ow bt j b4 3 1 c3 :: ow aj b ak 86 2 a7 :: ow (sa aa) a a.length 61 3 aw :: ap :: .blk A [.slice none 0 0, .slice none 0 0, .slice none 0 0] 26 :: .blk E [sl k B m, sl c s g, sl p r q] 26 :: Fz a0 a1 :: cs))) ⟨by kernel_rfl⟩ (fun X hM hS => (@slices_Clone_int_int_ok w0 X (ow aj b ak 86 2 a7 :: ow (sa aa) a a.length 61 3 aw :: ap :: .blk A [.slice none 0 0, .slice none 0 0, .slice none 0 0] 26 :: .blk E [sl k B m, sl c s g, sl p r q] 26 :: cs) a0 a1 c g s (hM.pick 6 [5, 0, 1, 2, 3, 4] (by kernel_rfl) (by decide) rfl) ac j bm).mono (by rintro e w' ⟨⟨bt, b4, c3⟩, fx, rfl, h'⟩; have h' : Mem w0 (ow bt j b4 3 1 c3 :: ow aj b ak 86 2 a7 :: ow (sa aa) a a.length 61 3 aw :: ap :: .blk A [.slice none 0 0, .slice none 0 0, .slice none 0 0] 26 :: .blk E [sl k B m, sl c s g, sl p r q] 26 :: Fz a0 a1 :: cs) w' := (h'.pick 7 [0, 2, 3, 4, 5, 6, 1] (by kernel_rfl) (by decide) rfl); exact ⟨(bt, b4, c3), fx, rfl, h', (by first | exact (Mem.fzback h' 6 rfl b9).sub (.cons _ (.cons _ (.cons _ (.cons _ (.cons_cons _ (.cons_cons _ (.cons_cons _ (.refl _)))))))))⟩)) ?_
      rintro ⟨bt, b4, c3⟩ fx
      refine oq [oT 10] [(16, .agg #[sl aj b ak, sl bt j b4, sl (sa aa) a a.length]), (2, vP A 0), (1, vP E 0)] ?_
      refine oNS 3 [.slice none 0 0, .slice none 0 0, .slice none 0 0] 26 (fun fd => ?_)
      refine oSS 0 0 [sl aj b ak, sl bt j b4, sl (sa aa) a a.length] (fun w' h' => (by first | exact (Mem.fzback h' 7 rfl b9).sub (.cons _ (.cons _ (.cons _ (.cons _ (.cons _ (.cons_cons _ (.cons_cons _ (.cons_cons _ (.refl _))))))))))) ?_
      refine oq [] [(3, vP fd 0), (2, vP A 0), (1, vP E 0)] ?_
      refine ops_nil ?_
      refine fnil 86 2 ?_
      refine fnil 3 1 ?_
      refine fin_conv (l' := [(3, vP fd 0), (2, vP A 0), (1, vP E 0)]) (M' := Mem w0 (ow none ([] : List api_Item) 0 61 3 [] :: (Sx.bundle []) :: ow none ([] : List Int) 0 3 1 [] :: ow none ([] : List api_Kind) 0 86 2 [] :: .blk fd [sl aj b ak, sl bt j b4, sl (sa aa) a a.length] 26 :: ow bt j b4 3 1 c3 :: ow aj b ak 86 2 a7 :: ow (sa aa) a a.length 61 3 aw :: ap :: .blk A [.slice none 0 0, .slice none 0 0, .slice none 0 0] 26 :: .blk E [sl k B m, sl c s g, sl p r q] 26 :: Fz a0 a1 :: cs)) rfl (fun X h => h.bnil.onil none 61 3) ?_
      exact fj dh (none, 0, [], [], [], (Sx.bundle []), fd, aj, ak, b, a7, bt, b4, j, c3, (sa aa), a.length, a, aw, ap, a0, a1) ⟨hp, (RepL.nil (R := R_api_Kind)), (RepL.nil (R := (Rep.int .i64))), (OwL.nil (O := O_api_Item_rrw)), fg, fx, dd, b9⟩ 12 [10, 9, 3, 2, 0, 1, 4, 6, 5, 7, 8, 11]
     ·
      refine tree_leaf ?_
      refine oNS 3 [.slice none 0 0, .slice none 0 0, .slice none 0 0] 26 (fun dq => ?_)
      refine ops_callI (σ := (Option Addr) × Nat × (List Value)) (d := some 11) (f := 49) (args := #[sl c s g]) (v := (fun J => match J with | (bu, b5, c5) => sl bu j b5)) (I := (fun J => match J with | (bu, b5, c5) => (RepL (Rep.int .i64) a0 a1 j c5))) (M' := (fun J => match J with | (bu, b5, c5) => Mem w0 (ow bu j b5 3 1 c5 :: .blk dq [.slice none 0 0, .slice none 0 0, .slice none 0 0] 26 :: ow aj b ak 86 2 a7 :: ow (sa aa) a a.length 61 3 aw :: ap :: .blk A [.slice none 0 0, .slice none 0 0, .slice none 0 0] 26 :: .blk E [sl k B m, sl c s g, sl p r q] 26 :: Fz a0 a1 :: cs))) ⟨by kernel_rfl⟩ (fun X hM hS => (@slices_Clone_int_int_ok w0 X (.blk dq [.slice none 0 0, .slice none 0 0, .slice none 0 0] 26 :: ow aj b ak 86 2 a7 :: ow (sa aa) a a.length 61 3 aw :: ap :: .blk A [.slice none 0 0, .slice none 0 0, .slice none 0 0] 26 :: .blk E [sl k B m, sl c s g, sl p r q] 26 :: cs) a0 a1 c g s (hM.pick 7 [6, 0, 1, 2, 3, 4, 5] (by kernel_rfl) (by decide) rfl) ac j bm).mono (by rintro e w' ⟨⟨bu, b5, c5⟩, fy, rfl, h'⟩; have h' : Mem w0 (ow bu j b5 3 1 c5 :: .blk dq [.slice none 0 0, .slice none 0 0, .slice none 0 0] 26 :: ow aj b ak 86 2 a7 :: ow (sa aa) a a.length 61 3 aw :: ap :: .blk A [.slice none 0 0, .slice none 0 0, .slice none 0 0] 26 :: .blk E [sl k B m, sl c s g, sl p r q] 26 :: Fz a0 a1 :: cs) w' := (h'.pick 8 [0, 2, 3, 4, 5, 6, 7, 1] (by kernel_rfl) (by decide) rfl); exact ⟨(bu, b5, c5), fy, rfl, h', (by first | exact (Mem.fzback h' 7 rfl b9).sub (.cons _ (.cons _ (.cons _ (.cons _ (.cons _ (.cons_cons _ (.cons_cons _ (.cons_cons _ (.refl _))))))))))⟩)) ?_
      rintro ⟨bu, b5, c5⟩ fy
      refine oq [oT 10] [(16, .agg #[sl aj b ak, sl bu j b5, sl (sa aa) a a.length]), (3, vP dq 0), (2, vP A 0), (1, vP E 0)] ?_
      refine oSS 1 0 [sl aj b ak, sl bu j b5, sl (sa aa) a a.length] (fun w' h' => (by first | exact (Mem.fzback h' 7 rfl b9).sub (.cons _ (.cons _ (.cons _ (.cons _ (.cons _ (.cons_cons _ (.cons_cons _ (.cons_cons _ (.refl _))))))))))) ?_
      refine oq [] [(3, vP dq 0), (2, vP A 0), (1, vP E 0)] ?_
      refine ops_nil ?_
      refine fnil 86 2 ?_
      refine fnil 3 1 ?_
      refine fin_conv (l' := [(3, vP dq 0), (2, vP A 0), (1, vP E 0)]) (M' := Mem w0 (ow none ([] : List api_Item) 0 61 3 [] :: (Sx.bundle []) :: ow none ([] : List Int) 0 3 1 [] :: ow none ([] : List api_Kind) 0 86 2 [] :: ow bu j b5 3 1 c5 :: .blk dq [sl aj b ak, sl bu j b5, sl (sa aa) a a.length] 26 :: ow aj b ak 86 2 a7 :: ow (sa aa) a a.length 61 3 aw :: ap :: .blk A [.slice none 0 0, .slice none 0 0, .slice none 0 0] 26 :: .blk E [sl k B m, sl c s g, sl p r q] 26 :: Fz a0 a1 :: cs)) rfl (fun X h => h.bnil.onil none 61 3) ?_
      exact fj dh (none, 0, [], [], [], (Sx.bundle []), dq, aj, ak, b, a7, bu, b5, j, c5, (sa aa), a.length, a, aw, ap, a0, a1) ⟨hp, (RepL.nil (R := R_api_Kind)), (RepL.nil (R := (Rep.int .i64))), (OwL.nil (O := O_api_Item_rrw)), fg, fy, dd, b9⟩ 12 [10, 9, 3, 2, 0, 1, 5, 6, 4, 7, 8, 11]
    ·
     refine tree_leaf ?_
     refine oNS 3 [.slice none 0 0, .slice none 0 0, .slice none 0 0] 26 (fun cm => ?_)
     refine ops_callI (σ := (Option Addr) × Nat × (List Value) × (Nat → Prop) × World) (d := some 8) (f := 61) (args := #[sl k B m]) (v := (fun J => match J with | (a9, bd, cb, bh, bj) => sl a9 b bd)) (I := (fun J => match J with | (a9, bd, cb, bh, bj) => (RepL R_api_Kind bh bj b cb) ∧ (Ext w0 F W bh bj))) (M' := (fun J => match J with | (a9, bd, cb, bh, bj) => Mem w0 (ow a9 b bd 86 2 cb :: .blk cm [.slice none 0 0, .slice none 0 0, .slice none 0 0] 26 :: ow (sa aa) a a.length 61 3 aw :: ap :: .blk A [.slice none 0 0, .slice none 0 0, .slice none 0 0] 26 :: .blk E [sl k B m, sl c s g, sl p r q] 26 :: Fz bh bj :: cs))) ⟨by kernel_rfl⟩ (fun X hM hS => (@kind_Copy_ok w0 X (.blk cm [.slice none 0 0, .slice none 0 0, .slice none 0 0] 26 :: ow (sa aa) a a.length 61 3 aw :: ap :: .blk A [.slice none 0 0, .slice none 0 0, .slice none 0 0] 26 :: .blk E [sl k B m, sl c s g, sl p r q] 26 :: cs) F W k m B (hM.pick 6 [5, 0, 1, 2, 3, 4] (by kernel_rfl) (by decide) rfl) ay b d4).mono (by rintro e w' ⟨⟨a9, bd, cb, bh, bj⟩, ⟨fz, cy⟩, rfl, h'⟩; have h' : Mem w0 (ow a9 b bd 86 2 cb :: .blk cm [.slice none 0 0, .slice none 0 0, .slice none 0 0] 26 :: ow (sa aa) a a.length 61 3 aw :: ap :: .blk A [.slice none 0 0, .slice none 0 0, .slice none 0 0] 26 :: .blk E [sl k B m, sl c s g, sl p r q] 26 :: Fz bh bj :: cs) w' := (h'.pick 7 [0, 2, 3, 4, 5, 6, 1] (by kernel_rfl) (by decide) rfl); exact ⟨(a9, bd, cb, bh, bj), ⟨fz, cy⟩, rfl, h', (by first | exact (Mem.fzback h' 6 rfl cy).sub (.cons _ (.cons _ (.cons _ (.cons _ (.cons_cons _ (.cons_cons _ (.cons_cons _ (.refl _)))))))))⟩)) ?_
     rintro ⟨a9, bd, cb, bh, bj⟩ ⟨fz, cy⟩
     have ac := ac.ext cy
     have ay := ay.ext cy
     have dd := dd.ext cy
     have az := az.ext cy
     refine ops_callI (σ := (Option Addr) × Nat × (List Value)) (d := some 11) (f := 49) (args := #[sl c s g]) (v := (fun J => match J with | (bv, b6, c6) => sl bv j b6)) (I := (fun J => match J with | (bv, b6, c6) => (RepL (Rep.int .i64) bh bj j c6))) (M' := (fun J => match J with | (bv, b6, c6) => Mem w0 (ow bv j b6 3 1 c6 :: ow a9 b bd 86 2 cb :: .blk cm [.slice none 0 0, .slice none 0 0, .slice none 0 0] 26 :: ow (sa aa) a a.length 61 3 aw :: ap :: .blk A [.slice none 0 0, .slice none 0 0, .slice none 0 0] 26 :: .blk E [sl k B m, sl c s g, sl p r q] 26 :: Fz bh bj :: cs))) ⟨by kernel_rfl⟩ (fun X hM hS => (@slices_Clone_int_int_ok w0 X (ow a9 b bd 86 2 cb :: .blk cm [.slice none 0 0, .slice none 0 0, .slice none 0 0] 26 :: ow (sa aa) a a.length 61 3 aw :: ap :: .blk A [.slice none 0 0, .slice none 0 0, .slice none 0 0] 26 :: .blk E [sl k B m, sl c s g, sl p r q] 26 :: cs) bh bj c g s (hM.pick 7 [6, 0, 1, 2, 3, 4, 5] (by kernel_rfl) (by decide) rfl) ac j bm).mono (by rintro e w' ⟨⟨bv, b6, c6⟩, f0, rfl, h'⟩; have h' : Mem w0 (ow bv j b6 3 1 c6 :: ow a9 b bd 86 2 cb :: .blk cm [.slice none 0 0, .slice none 0 0, .slice none 0 0] 26 :: ow (sa aa) a a.length 61 3 aw :: ap :: .blk A [.slice none 0 0, .slice none 0 0, .slice none 0 0] 26 :: .blk E [sl k B m, sl c s g, sl p r q] 26 :: Fz bh bj :: cs) w' := (h'.pick 8 [0, 2, 3, 4, 5, 6, 7, 1] (by kernel_rfl) (by decide) rfl); exact ⟨(bv, b6, c6), f0, rfl, h', (by first | exact (Mem.fzback h' 7 rfl cy).sub (.cons _ (.cons _ (.cons _ (.cons _ (.cons _ (.cons_cons _ (.cons_cons _ (.cons_cons _ (.refl _))))))))))⟩)) ?_
     rintro ⟨bv, b6, c6⟩ f0
     refine oq [oT 10] [(16, .agg #[sl a9 b bd, sl bv j b6, sl (sa aa) a a.length]), (3, vP cm 0), (2, vP A 0), (1, vP E 0)] ?_
     refine oSS 2 0 [sl a9 b bd, sl bv j b6, sl (sa aa) a a.length] (fun w' h' => (by first | exact (Mem.fzback h' 7 rfl cy).sub (.cons _ (.cons _ (.cons _ (.cons _ (.cons _ (.cons_cons _ (.cons_cons _ (.cons_cons _ (.refl _))))))))))) ?_
     refine oq [] [(3, vP cm 0), (2, vP A 0), (1, vP E 0)] ?_
     refine ops_nil ?_
     refine fnil 86 2 ?_
     refine fnil 3 1 ?_
     refine fin_conv (l' := [(3, vP cm 0), (2, vP A 0), (1, vP E 0)]) (M' := Mem w0 (ow none ([] : List api_Item) 0 61 3 [] :: (Sx.bundle []) :: ow none ([] : List Int) 0 3 1 [] :: ow none ([] : List api_Kind) 0 86 2 [] :: ow bv j b6 3 1 c6 :: ow a9 b bd 86 2 cb :: .blk cm [sl a9 b bd, sl bv j b6, sl (sa aa) a a.length] 26 :: ow (sa aa) a a.length 61 3 aw :: ap :: .blk A [.slice none 0 0, .slice none 0 0, .slice none 0 0] 26 :: .blk E [sl k B m, sl c s g, sl p r q] 26 :: Fz bh bj :: cs)) rfl (fun X h => h.bnil.onil none 61 3) ?_
     exact fj dh (none, 0, [], [], [], (Sx.bundle []), cm, a9, bd, b, cb, bv, b6, j, c6, (sa aa), a.length, a, aw, ap, bh, bj) ⟨hp, (RepL.nil (R := R_api_Kind)), (RepL.nil (R := (Rep.int .i64))), (OwL.nil (O := O_api_Item_rrw)), fz, f0, dd, cy⟩ 12 [10, 9, 3, 2, 0, 1, 6, 5, 4, 7, 8, 11]
   ·
    refine tree_node ?_
    refine oNS 3 [.slice none 0 0, .slice none 0 0, .slice none 0 0] 26 (fun T => ?_)
    refine ops_nil ?_
    refine tree_both ?_ ?_
    ·
     refine tree_node ?_
     refine ops_callI (σ := (Option Addr) × Nat × (List Value) × (Nat → Prop) × World) (d := some 8) (f := 61) (args := #[sl k B m]) (v := (fun J => match J with | (Y, Z, a5, ae, af) => sl Y b Z)) (I := (fun J => match J with | (Y, Z, a5, ae, af) => (RepL R_api_Kind ae af b a5) ∧ (Ext w0 F W ae af))) (M' := (fun J => match J with | (Y, Z, a5, ae, af) => Mem w0 (ow Y b Z 86 2 a5 :: .blk T [.slice none 0 0, .slice none 0 0, .slice none 0 0] 26 :: .blk A [.slice none 0 0, .slice none 0 0, .slice none 0 0] 26 :: .blk E [sl k B m, sl c s g, sl p r q] 26 :: Fz ae af :: cs))) ⟨by kernel_rfl⟩ (fun X hM hS => (@kind_Copy_ok w0 X (.blk T [.slice none 0 0, .slice none 0 0, .slice none 0 0] 26 :: .blk A [.slice none 0 0, .slice none 0 0, .slice none 0 0] 26 :: .blk E [sl k B m, sl c s g, sl p r q] 26 :: cs) F W k m B (hM.pick 4 [3, 0, 1, 2] (by kernel_rfl) (by decide) rfl) ay b d4).mono (by rintro e w' ⟨⟨Y, Z, a5, ae, af⟩, ⟨fh, bl⟩, rfl, h'⟩; have h' : Mem w0 (ow Y b Z 86 2 a5 :: .blk T [.slice none 0 0, .slice none 0 0, .slice none 0 0] 26 :: .blk A [.slice none 0 0, .slice none 0 0, .slice none 0 0] 26 :: .blk E [sl k B m, sl c s g, sl p r q] 26 :: Fz ae af :: cs) w' := (h'.pick 5 [0, 2, 3, 4, 1] (by kernel_rfl) (by decide) rfl); exact ⟨(Y, Z, a5, ae, af), ⟨fh, bl⟩, rfl, h', (by first | exact (Mem.fzback h' 4 rfl bl).sub (.cons _ (.cons _ (.cons_cons _ (.cons_cons _ (.cons_cons _ (.refl _)))))))⟩)) ?_
     rintro ⟨Y, Z, a5, ae, af⟩ ⟨fh, bl⟩
     have ac := ac.ext bl
     have ay := ay.ext bl
     have az := az.ext bl
     refine oq [] [(8, sl Y b Z), (3, vP T 0), (14, vI (r.length : Int)), (10, sl c s g), (2, vP A 0), (1, vP E 0)] ?_
     refine ops_nil ?_
     refine tree_both ?_ ?_
     ·
      refine tree_leaf ?_
      refine ops_callI (σ := (Option Addr) × Nat × (List Value)) (d := some 11) (f := 49) (args := #[sl c s g]) (v := (fun J => match J with | (ba, be, cq) => sl ba j be)) (I := (fun J => match J with | (ba, be, cq) => (RepL (Rep.int .i64) ae af j cq))) (M' := (fun J => match J with | (ba, be, cq) => Mem w0 (ow ba j be 3 1 cq :: ow Y b Z 86 2 a5 :: .blk T [.slice none 0 0, .slice none 0 0, .slice none 0 0] 26 :: .blk A [.slice none 0 0, .slice none 0 0, .slice none 0 0] 26 :: .blk E [sl k B m, sl c s g, sl p r q] 26 :: Fz ae af :: cs))) ⟨by kernel_rfl⟩ (fun X hM hS => (@slices_Clone_int_int_ok w0 X (ow Y b Z 86 2 a5 :: .blk T [.slice none 0 0, .slice none 0 0, .slice none 0 0] 26 :: .blk A [.slice none 0 0, .slice none 0 0, .slice none 0 0] 26 :: .blk E [sl k B m, sl c s g, sl p r q] 26 :: cs) ae af c g s (hM.pick 5 [4, 0, 1, 2, 3] (by kernel_rfl) (by decide) rfl) ac j bm).mono (by rintro e w' ⟨⟨ba, be, cq⟩, f1, rfl, h'⟩; have h' : Mem w0 (ow ba j be 3 1 cq :: ow Y b Z 86 2 a5 :: .blk T [.slice none 0 0, .slice none 0 0, .slice none 0 0] 26 :: .blk A [.slice none 0 0, .slice none 0 0, .slice none 0 0] 26 :: .blk E [sl k B m, sl c s g, sl p r q] 26 :: Fz ae af :: cs) w' := (h'.pick 6 [0, 2, 3, 4, 5, 1] (by kernel_rfl) (by decide) rfl); exact ⟨(ba, be, cq), f1, rfl, h', (by first | exact (Mem.fzback h' 5 rfl bl).sub (.cons _ (.cons _ (.cons _ (.cons_cons _ (.cons_cons _ (.cons_cons _ (.refl _))))))))⟩)) ?_
      rintro ⟨ba, be, cq⟩ f1
      refine oq [] [(11, sl ba j be), (8, sl Y b Z), (3, vP T 0), (14, vI (r.length : Int)), (2, vP A 0), (1, vP E 0)] ?_
      obtain ⟨it, gr, gh, ht⟩ := mk_some cj
      have ei : a.length = it := by rw [gh, List.length_replicate]
      obtain ⟨fn, g0⟩ : ∃ y_, (Sx.madeOf [vI 0, vI 0, .slice none 0 0] (a.length * 3)).toList = y_ := ⟨_, rfl⟩
      obtain ⟨e9, f2, h2⟩ := OwL.madeOf (O := O_api_Item_rrw) (F := ae) (w := af) (x := ((api_Item.mk (api_Ent.mk 0 0) []) : api_Item)) (vs := [vI 0, vI 0, .slice none 0 0]) (Kz := [orow none 0 0 42 2 []]) (oenc_api_Item_rrw RepL.nil) (fun hM_ => (hM_.onil none 42 2)) (by decide) a.length
      have f2 : OwL O_api_Item_rrw ae af a fn e9 := by have z_ := f2; have e_ : List.replicate a.length ((api_Item.mk (api_Ent.mk 0 0) []) : api_Item) = a := (by rw [ei]; exact gh.symm); rw [e_] at z_; rw [← g0]; exact z_
      refine ops_conv (l' := [(11, sl ba j be), (8, sl Y b Z), (3, vP T 0), (14, vI (r.length : Int)), (2, vP A 0), (1, vP E 0)]) (M' := Mem w0 (e9 :: ow ba j be 3 1 cq :: ow Y b Z 86 2 a5 :: .blk T [.slice none 0 0, .slice none 0 0, .slice none 0 0] 26 :: .blk A [.slice none 0 0, .slice none 0 0, .slice none 0 0] 26 :: .blk E [sl k B m, sl c s g, sl p r q] 26 :: Fz ae af :: cs)) rfl (fun X h => h2 h) ?_
      refine ops_makeO (t := 24) (x := (Go.Operand.tmp 14)) (y := (Go.Operand.tmp 14)) (d := some 15) (nn := a.length) (z := 3) (bytes := 40) (xs := fn) (zv := .agg #[vI 0, vI 0, .slice none 0 0]) ⟨by kernel_rfl⟩ rfl rfl (by rw [ei]; exact gr) (by rw [ei]; exact gr) Tryz.underlying24 (by kernel_rfl) (by rw [ei]; exact ht) (by rfl) g0 (fun _ _ _ hS h' => (by first | exact (Mem.fzback h' 7 rfl bl).sub (.cons _ (.cons _ (.cons _ (.cons _ (.cons _ (.cons_cons _ (.cons_cons _ (.cons_cons _ (.refl _))))))))))) (fun et => ?_)
      refine oq [oT 10] [(16, .agg #[sl Y b Z, sl ba j be, sl (sa et) a a.length]), (3, vP T 0), (2, vP A 0), (1, vP E 0)] ?_
      refine oSS 4 0 [sl Y b Z, sl ba j be, sl (sa et) a a.length] (fun w' h' => (by first | exact (Mem.fzback h' 7 rfl bl).sub (.cons _ (.cons _ (.cons _ (.cons _ (.cons _ (.cons_cons _ (.cons_cons _ (.cons_cons _ (.refl _))))))))))) ?_
      refine oq [] [(3, vP T 0), (2, vP A 0), (1, vP E 0)] ?_
      refine ops_nil ?_
      refine fnil 86 2 ?_
      refine fnil 3 1 ?_
      refine fin_conv (l' := [(3, vP T 0), (2, vP A 0), (1, vP E 0)]) (M' := Mem w0 (ow none ([] : List api_Item) 0 61 3 [] :: (Sx.bundle []) :: ow none ([] : List Int) 0 3 1 [] :: ow none ([] : List api_Kind) 0 86 2 [] :: ow (sa et) a a.length 61 3 fn :: e9 :: ow ba j be 3 1 cq :: ow Y b Z 86 2 a5 :: .blk T [sl Y b Z, sl ba j be, sl (sa et) a a.length] 26 :: .blk A [.slice none 0 0, .slice none 0 0, .slice none 0 0] 26 :: .blk E [sl k B m, sl c s g, sl p r q] 26 :: Fz ae af :: cs)) rfl (fun X h => h.bnil.onil none 61 3) ?_
      exact fj dh (none, 0, [], [], [], (Sx.bundle []), T, Y, Z, b, a5, ba, be, j, cq, (sa et), a.length, a, fn, e9, ae, af) ⟨hp, (RepL.nil (R := R_api_Kind)), (RepL.nil (R := (Rep.int .i64))), (OwL.nil (O := O_api_Item_rrw)), fh, f1, f2, bl⟩ 12 [10, 9, 3, 2, 0, 1, 8, 7, 6, 4, 5, 11]
     ·
      refine tree_leaf ?_
      obtain ⟨iu, gs, gi, hu⟩ := mk_some cj
      have ej : a.length = iu := by rw [gi, List.length_replicate]
      obtain ⟨d0, g1⟩ : ∃ y_, (Sx.madeOf [vI 0, vI 0, .slice none 0 0] (a.length * 3)).toList = y_ := ⟨_, rfl⟩
      obtain ⟨dx, f3, h3⟩ := OwL.madeOf (O := O_api_Item_rrw) (F := ae) (w := af) (x := ((api_Item.mk (api_Ent.mk 0 0) []) : api_Item)) (vs := [vI 0, vI 0, .slice none 0 0]) (Kz := [orow none 0 0 42 2 []]) (oenc_api_Item_rrw RepL.nil) (fun hM_ => (hM_.onil none 42 2)) (by decide) a.length
      have f3 : OwL O_api_Item_rrw ae af a d0 dx := by have z_ := f3; have e_ : List.replicate a.length ((api_Item.mk (api_Ent.mk 0 0) []) : api_Item) = a := (by rw [ej]; exact gi.symm); rw [e_] at z_; rw [← g1]; exact z_
      refine ops_conv (l' := [(8, sl Y b Z), (3, vP T 0), (14, vI (r.length : Int)), (10, sl c s g), (2, vP A 0), (1, vP E 0)]) (M' := Mem w0 (dx :: ow Y b Z 86 2 a5 :: .blk T [.slice none 0 0, .slice none 0 0, .slice none 0 0] 26 :: .blk A [.slice none 0 0, .slice none 0 0, .slice none 0 0] 26 :: .blk E [sl k B m, sl c s g, sl p r q] 26 :: Fz ae af :: cs)) rfl (fun X h => h3 h) ?_
      refine ops_makeO (t := 24) (x := (Go.Operand.tmp 14)) (y := (Go.Operand.tmp 14)) (d := some 15) (nn := a.length) (z := 3) (bytes := 40) (xs := d0) (zv := .agg #[vI 0, vI 0, .slice none 0 0]) ⟨by kernel_rfl⟩ rfl rfl (by rw [ej]; exact gs) (by rw [ej]; exact gs) Tryz.underlying24 (by kernel_rfl) (by rw [ej]; exact hu) (by rfl) g1 (fun _ _ _ hS h' => (by first | exact (Mem.fzback h' 6 rfl bl).sub (.cons _ (.cons _ (.cons _ (.cons _ (.cons_cons _ (.cons_cons _ (.cons_cons _ (.refl _)))))))))) (fun ds => ?_)
      refine ops_callI (σ := (Option Addr) × Nat × (List Value)) (d := some 11) (f := 49) (args := #[sl c s g]) (v := (fun J => match J with | (bw, b7, c7) => sl bw j b7)) (I := (fun J => match J with | (bw, b7, c7) => (RepL (Rep.int .i64) ae af j c7))) (M' := (fun J => match J with | (bw, b7, c7) => Mem w0 (ow bw j b7 3 1 c7 :: ow (sa ds) a a.length 61 3 d0 :: dx :: ow Y b Z 86 2 a5 :: .blk T [.slice none 0 0, .slice none 0 0, .slice none 0 0] 26 :: .blk A [.slice none 0 0, .slice none 0 0, .slice none 0 0] 26 :: .blk E [sl k B m, sl c s g, sl p r q] 26 :: Fz ae af :: cs))) ⟨by kernel_rfl⟩ (fun X hM hS => (@slices_Clone_int_int_ok w0 X (ow (sa ds) a a.length 61 3 d0 :: dx :: ow Y b Z 86 2 a5 :: .blk T [.slice none 0 0, .slice none 0 0, .slice none 0 0] 26 :: .blk A [.slice none 0 0, .slice none 0 0, .slice none 0 0] 26 :: .blk E [sl k B m, sl c s g, sl p r q] 26 :: cs) ae af c g s (hM.pick 7 [6, 0, 1, 2, 3, 4, 5] (by kernel_rfl) (by decide) rfl) ac j bm).mono (by rintro e w' ⟨⟨bw, b7, c7⟩, f4, rfl, h'⟩; have h' : Mem w0 (ow bw j b7 3 1 c7 :: ow (sa ds) a a.length 61 3 d0 :: dx :: ow Y b Z 86 2 a5 :: .blk T [.slice none 0 0, .slice none 0 0, .slice none 0 0] 26 :: .blk A [.slice none 0 0, .slice none 0 0, .slice none 0 0] 26 :: .blk E [sl k B m, sl c s g, sl p r q] 26 :: Fz ae af :: cs) w' := (h'.pick 8 [0, 2, 3, 4, 5, 6, 7, 1] (by kernel_rfl) (by decide) rfl); exact ⟨(bw, b7, c7), f4, rfl, h', (by first | exact (Mem.fzback h' 7 rfl bl).sub (.cons _ (.cons _ (.cons _ (.cons _ (.cons _ (.cons_cons _ (.cons_cons _ (.cons_cons _ (.refl _))))))))))⟩)) ?_
      rintro ⟨bw, b7, c7⟩ f4
      refine oq [oT 10] [(16, .agg #[sl Y b Z, sl bw j b7, sl (sa ds) a a.length]), (3, vP T 0), (2, vP A 0), (1, vP E 0)] ?_
      refine oSS 4 0 [sl Y b Z, sl bw j b7, sl (sa ds) a a.length] (fun w' h' => (by first | exact (Mem.fzback h' 7 rfl bl).sub (.cons _ (.cons _ (.cons _ (.cons _ (.cons _ (.cons_cons _ (.cons_cons _ (.cons_cons _ (.refl _))))))))))) ?_
      refine oq [] [(3, vP T 0), (2, vP A 0), (1, vP E 0)] ?_
      refine ops_nil ?_
      refine fnil 86 2 ?_
      refine fnil 3 1 ?_
      refine fin_conv (l' := [(3, vP T 0), (2, vP A 0), (1, vP E 0)]) (M' := Mem w0 (ow none ([] : List api_Item) 0 61 3 [] :: (Sx.bundle []) :: ow none ([] : List Int) 0 3 1 [] :: ow none ([] : List api_Kind) 0 86 2 [] :: ow bw j b7 3 1 c7 :: ow (sa ds) a a.length 61 3 d0 :: dx :: ow Y b Z 86 2 a5 :: .blk T [sl Y b Z, sl bw j b7, sl (sa ds) a a.length] 26 :: .blk A [.slice none 0 0, .slice none 0 0, .slice none 0 0] 26 :: .blk E [sl k B m, sl c s g, sl p r q] 26 :: Fz ae af :: cs)) rfl (fun X h => h.bnil.onil none 61 3) ?_
      exact fj dh (none, 0, [], [], [], (Sx.bundle []), T, Y, Z, b, a5, bw, b7, j, c7, (sa ds), a.length, a, d0, dx, ae, af) ⟨hp, (RepL.nil (R := R_api_Kind)), (RepL.nil (R := (Rep.int .i64))), (OwL.nil (O := O_api_Item_rrw)), fh, f4, f3, bl⟩ 12 [10, 9, 3, 2, 0, 1, 8, 7, 4, 5, 6, 11]
    ·
     refine tree_leaf ?_
     obtain ⟨iv, gt, gj, hv⟩ := mk_some cj
     have ek : a.length = iv := by rw [gj, List.length_replicate]
     obtain ⟨c8, g2⟩ : ∃ y_, (Sx.madeOf [vI 0, vI 0, .slice none 0 0] (a.length * 3)).toList = y_ := ⟨_, rfl⟩
     obtain ⟨cx, ew, h4⟩ := OwL.madeOf (O := O_api_Item_rrw) (F := F) (w := W) (x := ((api_Item.mk (api_Ent.mk 0 0) []) : api_Item)) (vs := [vI 0, vI 0, .slice none 0 0]) (Kz := [orow none 0 0 42 2 []]) (oenc_api_Item_rrw RepL.nil) (fun hM_ => (hM_.onil none 42 2)) (by decide) a.length
     have ew : OwL O_api_Item_rrw F W a c8 cx := by have z_ := ew; have e_ : List.replicate a.length ((api_Item.mk (api_Ent.mk 0 0) []) : api_Item) = a := (by rw [ek]; exact gj.symm); rw [e_] at z_; rw [← g2]; exact z_
     refine ops_conv (l' := [(3, vP T 0), (14, vI (r.length : Int)), (10, sl c s g), (7, sl k B m), (2, vP A 0), (1, vP E 0)]) (M' := Mem w0 (cx :: .blk T [.slice none 0 0, .slice none 0 0, .slice none 0 0] 26 :: .blk A [.slice none 0 0, .slice none 0 0, .slice none 0 0] 26 :: .blk E [sl k B m, sl c s g, sl p r q] 26 :: Fz F W :: cs)) rfl (fun X h => h4 h) ?_
     refine ops_makeO (t := 24) (x := (Go.Operand.tmp 14)) (y := (Go.Operand.tmp 14)) (d := some 15) (nn := a.length) (z := 3) (bytes := 40) (xs := c8) (zv := .agg #[vI 0, vI 0, .slice none 0 0]) ⟨by kernel_rfl⟩ rfl rfl (by rw [ek]; exact gt) (by rw [ek]; exact gt) Tryz.underlying24 (by kernel_rfl) (by rw [ek]; exact hv) (by rfl) g2 (fun _ _ _ hS h' => (by exact h'.sub (.cons _ (.cons _ (.cons _ (.cons_cons _ (.cons_cons _ (.cons_cons _ (.refl _))))))))) (fun co => ?_)
     refine ops_callI (σ := (Option Addr) × Nat × (List Value) × (Nat → Prop) × World) (d := some 8) (f := 61) (args := #[sl k B m]) (v := (fun J => match J with | (bb, bf, cc, bi, bk) => sl bb b bf)) (I := (fun J => match J with | (bb, bf, cc, bi, bk) => (RepL R_api_Kind bi bk b cc) ∧ (Ext w0 F W bi bk))) (M' := (fun J => match J with | (bb, bf, cc, bi, bk) => Mem w0 (ow bb b bf 86 2 cc :: ow (sa co) a a.length 61 3 c8 :: cx :: .blk T [.slice none 0 0, .slice none 0 0, .slice none 0 0] 26 :: .blk A [.slice none 0 0, .slice none 0 0, .slice none 0 0] 26 :: .blk E [sl k B m, sl c s g, sl p r q] 26 :: Fz bi bk :: cs))) ⟨by kernel_rfl⟩ (fun X hM hS => (@kind_Copy_ok w0 X (ow (sa co) a a.length 61 3 c8 :: cx :: .blk T [.slice none 0 0, .slice none 0 0, .slice none 0 0] 26 :: .blk A [.slice none 0 0, .slice none 0 0, .slice none 0 0] 26 :: .blk E [sl k B m, sl c s g, sl p r q] 26 :: cs) F W k m B (hM.pick 6 [5, 0, 1, 2, 3, 4] (by kernel_rfl) (by decide) rfl) ay b d4).mono (by rintro e w' ⟨⟨bb, bf, cc, bi, bk⟩, ⟨f5, cz⟩, rfl, h'⟩; have h' : Mem w0 (ow bb b bf 86 2 cc :: ow (sa co) a a.length 61 3 c8 :: cx :: .blk T [.slice none 0 0, .slice none 0 0, .slice none 0 0] 26 :: .blk A [.slice none 0 0, .slice none 0 0, .slice none 0 0] 26 :: .blk E [sl k B m, sl c s g, sl p r q] 26 :: Fz bi bk :: cs) w' := (h'.pick 7 [0, 2, 3, 4, 5, 6, 1] (by kernel_rfl) (by decide) rfl); exact ⟨(bb, bf, cc, bi, bk), ⟨f5, cz⟩, rfl, h', (by first | exact (Mem.fzback h' 6 rfl cz).sub (.cons _ (.cons _ (.cons _ (.cons _ (.cons_cons _ (.cons_cons _ (.cons_cons _ (.refl _)))))))))⟩)) ?_
     rintro ⟨bb, bf, cc, bi, bk⟩ ⟨f5, cz⟩
     have ac := ac.ext cz
     have ay := ay.ext cz
     have ew := ew.ext cz
     have az := az.ext cz
     refine ops_callI (σ := (Option Addr) × Nat × (List Value)) (d := some 11) (f := 49) (args := #[sl c s g]) (v := (fun J => match J with | (bx, b8, c9) => sl bx j b8)) (I := (fun J => match J with | (bx, b8, c9) => (RepL (Rep.int .i64) bi bk j c9))) (M' := (fun J => match J with | (bx, b8, c9) => Mem w0 (ow bx j b8 3 1 c9 :: ow bb b bf 86 2 cc :: ow (sa co) a a.length 61 3 c8 :: cx :: .blk T [.slice none 0 0, .slice none 0 0, .slice none 0 0] 26 :: .blk A [.slice none 0 0, .slice none 0 0, .slice none 0 0] 26 :: .blk E [sl k B m, sl c s g, sl p r q] 26 :: Fz bi bk :: cs))) ⟨by kernel_rfl⟩ (fun X hM hS => (@slices_Clone_int_int_ok w0 X (ow bb b bf 86 2 cc :: ow (sa co) a a.length 61 3 c8 :: cx :: .blk T [.slice none 0 0, .slice none 0 0, .slice none 0 0] 26 :: .blk A [.slice none 0 0, .slice none 0 0, .slice none 0 0] 26 :: .blk E [sl k B m, sl c s g, sl p r q] 26 :: cs) bi bk c g s (hM.pick 7 [6, 0, 1, 2, 3, 4, 5] (by kernel_rfl) (by decide) rfl) ac j bm).mono (by rintro e w' ⟨⟨bx, b8, c9⟩, f6, rfl, h'⟩; have h' : Mem w0 (ow bx j b8 3 1 c9 :: ow bb b bf 86 2 cc :: ow (sa co) a a.length 61 3 c8 :: cx :: .blk T [.slice none 0 0, .slice none 0 0, .slice none 0 0] 26 :: .blk A [.slice none 0 0, .slice none 0 0, .slice none 0 0] 26 :: .blk E [sl k B m, sl c s g, sl p r q] 26 :: Fz bi bk :: cs) w' := (h'.pick 8 [0, 2, 3, 4, 5, 6, 7, 1] (by kernel_rfl) (by decide) rfl); exact ⟨(bx, b8, c9), f6, rfl, h', (by first | exact (Mem.fzback h' 7 rfl cz).sub (.cons _ (.cons _ (.cons _ (.cons _ (.cons _ (.cons_cons _ (.cons_cons _ (.cons_cons _ (.refl _))))))))))⟩)) ?_
     rintro ⟨bx, b8, c9⟩ f6
     refine oq [oT 10] [(16, .agg #[sl bb b bf, sl bx j b8, sl (sa co) a a.length]), (3, vP T 0), (2, vP A 0), (1, vP E 0)] ?_
     refine oSS 4 0 [sl bb b bf, sl bx j b8, sl (sa co) a a.length] (fun w' h' => (by first | exact (Mem.fzback h' 7 rfl cz).sub (.cons _ (.cons _ (.cons _ (.cons _ (.cons _ (.cons_cons _ (.cons_cons _ (.cons_cons _ (.refl _))))))))))) ?_
     refine oq [] [(3, vP T 0), (2, vP A 0), (1, vP E 0)] ?_
     refine ops_nil ?_
     refine fnil 86 2 ?_
     refine fnil 3 1 ?_
     refine fin_conv (l' := [(3, vP T 0), (2, vP A 0), (1, vP E 0)]) (M' := Mem w0 (ow none ([] : List api_Item) 0 61 3 [] :: (Sx.bundle []) :: ow none ([] : List Int) 0 3 1 [] :: ow none ([] : List api_Kind) 0 86 2 [] :: ow bx j b8 3 1 c9 :: ow bb b bf 86 2 cc :: ow (sa co) a a.length 61 3 c8 :: cx :: .blk T [sl bb b bf, sl bx j b8, sl (sa co) a a.length] 26 :: .blk A [.slice none 0 0, .slice none 0 0, .slice none 0 0] 26 :: .blk E [sl k B m, sl c s g, sl p r q] 26 :: Fz bi bk :: cs)) rfl (fun X h => h.bnil.onil none 61 3) ?_
     exact fj dh (none, 0, [], [], [], (Sx.bundle []), T, bb, bf, b, cc, bx, b8, j, c9, (sa co), a.length, a, c8, cx, bi, bk) ⟨hp, (RepL.nil (R := R_api_Kind)), (RepL.nil (R := (Rep.int .i64))), (OwL.nil (O := O_api_Item_rrw)), f5, f6, ew, cz⟩ 12 [10, 9, 3, 2, 0, 1, 8, 5, 4, 6, 7, 11]
end Go.Proofs.YtbfndcookgijfaaGreatDoor.C
