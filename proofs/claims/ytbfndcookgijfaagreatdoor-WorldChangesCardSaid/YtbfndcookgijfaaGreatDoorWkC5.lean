/- The Go functions come to what the plain functions tell. No condition. -/
import Derived.Test.YtbfndcookgijfaaGreatDoorProg
import Derived.Test.YtbfndcookgijfaaGreatDoorFnC
import Derived.Test.YtbfndcookgijfaaGreatDoorExSq
import Derived.Test.YtbfndcookgijfaaGreatDoorEqC
import Derived.Test.YtbfndcookgijfaaGreatDoorExOwnM
namespace Go.Proofs.YtbfndcookgijfaaGreatDoor.C
open Go Go.RowKit Go.Proofs.YtbfndcookgijfaaGreatDoor.Sx
set_option linter.unusedVariables false
set_option maxHeartbeats 4000000
set_option maxRecDepth 100000
variable {w0 w : World} {cs : List Chunk} {F : Nat → Prop} {W : World}
theorem tourlaw3_two_ok (B : Mem w0 (Fz F W :: cs) w) {f : List api_Kind} (C : tourlaw3_two = some f) : Calls Tryz.prog 39 #[] w (Post w0 (fun ((d, g, b, c) : (Option Addr) × (List Value) × (Nat → Prop) × World) => (RepL R_api_Kind b c f g) ∧ (Ext w0 F W b c)) (fun (d, g, b, c) => sl d f 2) (fun (d, g, b, c) => ow d f 2 86 2 g :: Fz b c :: cs)) := by
 unfold tourlaw3_two at C
 refine sx_calls Tryz.func39 rfl (n := 8) (by kernel_rfl) (l := []) rfl (by rfl) B ?_
 refine st_seq (st_region [oF 0] (by rfl) ?_)
 refine oq [oF 0] [] ?_
 refine ops_nil (fin_then (st_seq ?_))
 refine st_region (oFs 0 8) (by rfl) ?_
 refine oq [oF 0] [(1, .agg #[.string (⟨#[120]⟩), vI 3, vI (-2)])] ?_
 have D : RepL R_api_Field F W ([(api_Field.mk (⟨#[120]⟩) 3 (-2))] : List api_Field) ([.string (⟨#[120]⟩), vI 3, vI (-2)]) := (RepL.cons (R := R_api_Field) (F := F) (w := W) (vs := [.string (⟨#[120]⟩), vI 3, vI (-2)]) (ys := []) (enc_api_Field) RepL.nil)
 refine oB 2 [.string (⟨#[120]⟩), vI 3, vI (-2)] 99 1 3 (fun k => ?_)
 refine oq [oF 2, oF 3] [(4, .agg #[.string (⟨#[120]⟩), vI 8, vI 0]), (3, .agg #[.string (⟨#[112, 108, 97, 99, 101]⟩), .slice (sa k) ([(api_Field.mk (⟨#[120]⟩) 3 (-2))] : List api_Field).length 1])] ?_
 have x : RepL R_api_Field F W ([(api_Field.mk (⟨#[120]⟩) 8 0)] : List api_Field) ([.string (⟨#[120]⟩), vI 8, vI 0]) := (RepL.cons (R := R_api_Field) (F := F) (w := W) (vs := [.string (⟨#[120]⟩), vI 8, vI 0]) (ys := []) (enc_api_Field) RepL.nil)
 refine oB 5 [.string (⟨#[120]⟩), vI 8, vI 0] 99 1 3 (fun i => ?_)
 refine oq [oF 5] [(6, .agg #[.string (⟨#[108, 105, 102, 101]⟩), .slice (sa i) ([(api_Field.mk (⟨#[120]⟩) 8 0)] : List api_Field).length 1]), (3, .agg #[.string (⟨#[112, 108, 97, 99, 101]⟩), .slice (sa k) ([(api_Field.mk (⟨#[120]⟩) 3 (-2))] : List api_Field).length 1])] ?_
 refine ops_ex (σ := (Nat → Prop) × World) (I := fun a => Ext w0 F W a.1 a.2 ∧ RdS R_api_Field a.1 a.2 (sa k) 1 ([(api_Field.mk (⟨#[120]⟩) 3 (-2))] : List api_Field)) (M' := fun a => Mem w0 (orow (sa i) ([(api_Field.mk (⟨#[120]⟩) 8 0)] : List api_Field).length 1 99 3 ([.string (⟨#[120]⟩), vI 8, vI 0]) :: Fz a.1 a.2 :: cs)) (fun u y => ?_) ?_
 · obtain ⟨F_, h1_, h2_, h3_⟩ := (y.pick 3 [1, 2, 0] (by kernel_rfl) (by decide) rfl : Mem w0 (orow (sa k) ([(api_Field.mk (⟨#[120]⟩) 3 (-2))] : List api_Field).length 1 99 3 ([.string (⟨#[120]⟩), vI 3, vI (-2)]) :: Fz F W :: orow (sa i) ([(api_Field.mk (⟨#[120]⟩) 8 0)] : List api_Field).length 1 99 3 ([.string (⟨#[120]⟩), vI 8, vI 0]) :: cs) u).freeze (z := 3) D rfl rfl
   exact ⟨(F_, u), ⟨h1_, h2_⟩, h3_.pick 2 [1, 0] (by kernel_rfl) (by decide) rfl⟩
 rintro ⟨q, r⟩ ⟨o, t⟩
 have o : Ext w0 F W q r := o
 have t : RdS R_api_Field q r (sa k) 1 ([(api_Field.mk (⟨#[120]⟩) 3 (-2))] : List api_Field) := t
 have x := x.ext o
 refine ops_ex (σ := (Nat → Prop) × World) (I := fun a => Ext w0 q r a.1 a.2 ∧ RdS R_api_Field a.1 a.2 (sa i) 1 ([(api_Field.mk (⟨#[120]⟩) 8 0)] : List api_Field)) (M' := fun a => Mem w0 (Fz a.1 a.2 :: cs)) (fun u y => ?_) ?_
 · obtain ⟨F_, h1_, h2_, h3_⟩ := (y.pick 2 [0, 1] (by kernel_rfl) (by decide) rfl : Mem w0 (orow (sa i) ([(api_Field.mk (⟨#[120]⟩) 8 0)] : List api_Field).length 1 99 3 ([.string (⟨#[120]⟩), vI 8, vI 0]) :: Fz q r :: cs) u).freeze (z := 3) x rfl rfl
   exact ⟨(F_, u), ⟨h1_, h2_⟩, h3_.pick 1 [0] (by kernel_rfl) (by decide) rfl⟩
 rintro ⟨p, j⟩ ⟨m, s⟩
 have m : Ext w0 q r p j := m
 have s : RdS R_api_Field p j (sa i) 1 ([(api_Field.mk (⟨#[120]⟩) 8 0)] : List api_Field) := s
 have t := t.ext m
 have A : RepL R_api_Kind p j ([(api_Kind.mk (⟨#[112, 108, 97, 99, 101]⟩) ([(api_Field.mk (⟨#[120]⟩) 3 (-2))] : List api_Field)), (api_Kind.mk (⟨#[108, 105, 102, 101]⟩) ([(api_Field.mk (⟨#[120]⟩) 8 0)] : List api_Field))] : List api_Kind) ([.string (⟨#[112, 108, 97, 99, 101]⟩), .slice (sa k) ([(api_Field.mk (⟨#[120]⟩) 3 (-2))] : List api_Field).length 1, .string (⟨#[108, 105, 102, 101]⟩), .slice (sa i) ([(api_Field.mk (⟨#[120]⟩) 8 0)] : List api_Field).length 1]) := (RepL.cons (R := R_api_Kind) (F := p) (w := j) (vs := [.string (⟨#[112, 108, 97, 99, 101]⟩), .slice (sa k) ([(api_Field.mk (⟨#[120]⟩) 3 (-2))] : List api_Field).length 1]) (ys := [.string (⟨#[108, 105, 102, 101]⟩), .slice (sa i) ([(api_Field.mk (⟨#[120]⟩) 8 0)] : List api_Field).length 1]) (enc_api_Kind t) (RepL.cons (R := R_api_Kind) (F := p) (w := j) (vs := [.string (⟨#[108, 105, 102, 101]⟩), .slice (sa i) ([(api_Field.mk (⟨#[120]⟩) 8 0)] : List api_Field).length 1]) (ys := []) (enc_api_Kind s) RepL.nil))
 refine oB 7 [.string (⟨#[112, 108, 97, 99, 101]⟩), .slice (sa k) ([(api_Field.mk (⟨#[120]⟩) 3 (-2))] : List api_Field).length 1, .string (⟨#[108, 105, 102, 101]⟩), .slice (sa i) ([(api_Field.mk (⟨#[120]⟩) 8 0)] : List api_Field).length 1] 86 2 2 (fun v => ?_)
 refine oq [oF 7] [(0, .slice (sa v) ([(api_Kind.mk (⟨#[112, 108, 97, 99, 101]⟩) ([(api_Field.mk (⟨#[120]⟩) 3 (-2))] : List api_Field)), (api_Kind.mk (⟨#[108, 105, 102, 101]⟩) ([(api_Field.mk (⟨#[120]⟩) 8 0)] : List api_Field))] : List api_Kind).length 2)] ?_
 refine ops_nil (fin_then (st_ret ?_))
 obtain rfl := Option.some.inj C
 exact fr [0] ((sa v), [.string (⟨#[112, 108, 97, 99, 101]⟩), .slice (sa k) ([(api_Field.mk (⟨#[120]⟩) 3 (-2))] : List api_Field).length 1, .string (⟨#[108, 105, 102, 101]⟩), .slice (sa i) ([(api_Field.mk (⟨#[120]⟩) 8 0)] : List api_Field).length 1], p, j) ⟨A, (o.trans m)⟩ 0 []
theorem tourlaw3_pair_ok (ar : Mem w0 (Fz F W :: cs) w) {G : List api_Kind} {H : List Int} {J : List api_Item} (hp : tourlaw3_pair = some (G, H, J)) : Calls Tryz.prog 6 #[] w (Post w0 (fun ((C, K, D, L, E, M, g, i) : (Option Addr) × (List Value) × (Option Addr) × (List Value) × (Option Addr) × (List Value) × (Nat → Prop) × World) => (RepL R_api_Kind g i G K) ∧ (RepL (Rep.int .i64) g i H L) ∧ (RepL R_api_Item g i J M) ∧ (Ext w0 F W g i)) (fun (C, K, D, L, E, M, g, i) => .agg #[sl C G 2, sl D H 2, sl E J 2]) (fun (C, K, D, L, E, M, g, i) => ow C G 2 86 2 K :: ow D H 2 3 1 L :: ow E J 2 61 3 M :: Fz g i :: cs)) := by
 unfold tourlaw3_pair at hp
 refine sx_calls Tryz.func6 rfl (n := 16) (by kernel_rfl) (l := []) rfl (by rfl) ar ?_
 refine st_seq (st_region [oF 0] (by rfl) ?_)
 refine oN 0 [.slice none 0 0, .slice none 0 0, .slice none 0 0] 26 (fun j => ?_)
 refine ops_nil (fin_then (st_seq ?_))
 refine st_region (oFs 0 16) (by rfl) ?_
 obtain ⟨d, au, hp⟩ := obind hp
 refine oV (some 1) 2 [1, 0] 3 [0, 2, 1] (fun _ q => tourlaw3_two_ok q au) ?_
 rintro ⟨c, V, X, Y⟩ ⟨U, h9⟩
 have p : RepL (Rep.int .i64) X Y ([0, 2] : List Int) ([vI 0, vI 2]) := (RepL.cons (R := (Rep.int .i64)) (F := X) (w := Y) (vs := [vI 0]) (ys := [vI 2]) rfl (RepL.cons (R := (Rep.int .i64)) (F := X) (w := Y) (vs := [vI 2]) (ys := []) rfl RepL.nil))
 refine oB 2 [vI 0, vI 2] 3 2 1 (fun b => ?_)
 have ao : RepL (Rep.int .i64) X Y ([4] : List Int) ([vI 4]) := (RepL.cons (R := (Rep.int .i64)) (F := X) (w := Y) (vs := [vI 4]) (ys := []) rfl RepL.nil)
 refine oB 3 [vI 4] 3 1 1 (fun m => ?_)
 refine oq [oF 3] [(4, .agg #[vI 0, .slice (sa m) ([4] : List Int).length 1]), (2, .slice (sa b) ([0, 2] : List Int).length 2), (1, sl c d 2), (0, vP j 0)] ?_
 have ah : RepL (Rep.int .i64) X Y ([9] : List Int) ([vI 9]) := (RepL.cons (R := (Rep.int .i64)) (F := X) (w := Y) (vs := [vI 9]) (ys := []) rfl RepL.nil)
 refine oB 5 [vI 9] 3 1 1 (fun f => ?_)
 refine oq [oF 5] [(6, .agg #[vI 1, .slice (sa f) ([9] : List Int).length 1]), (4, .agg #[vI 0, .slice (sa m) ([4] : List Int).length 1]), (2, .slice (sa b) ([0, 2] : List Int).length 2), (1, sl c d 2), (0, vP j 0)] ?_
 refine ops_ex (σ := (Nat → Prop) × World) (I := fun a => Ext w0 X Y a.1 a.2 ∧ RdS (Rep.int .i64) a.1 a.2 (sa m) 1 ([4] : List Int)) (M' := fun a => Mem w0 (orow (sa f) ([9] : List Int).length 1 3 1 ([vI 9]) :: orow (sa b) ([0, 2] : List Int).length 2 3 1 ([vI 0, vI 2]) :: ow c d 2 86 2 V :: .blk j [.slice none 0 0, .slice none 0 0, .slice none 0 0] 26 :: Fz a.1 a.2 :: cs)) (fun r q => ?_) ?_
 · obtain ⟨F_, h1_, h2_, h3_⟩ := (q.pick 6 [1, 5, 0, 2, 3, 4] (by kernel_rfl) (by decide) rfl : Mem w0 (orow (sa m) ([4] : List Int).length 1 3 1 ([vI 4]) :: Fz X Y :: orow (sa f) ([9] : List Int).length 1 3 1 ([vI 9]) :: orow (sa b) ([0, 2] : List Int).length 2 3 1 ([vI 0, vI 2]) :: ow c d 2 86 2 V :: .blk j [.slice none 0 0, .slice none 0 0, .slice none 0 0] 26 :: cs) r).freeze (z := 1) ao rfl rfl
   exact ⟨(F_, r), ⟨h1_, h2_⟩, h3_.pick 5 [1, 2, 3, 4, 0] (by kernel_rfl) (by decide) rfl⟩
 rintro ⟨ab, ad⟩ ⟨v, af⟩
 have v : Ext w0 X Y ab ad := v
 have af : RdS (Rep.int .i64) ab ad (sa m) 1 ([4] : List Int) := af
 have ah := ah.ext v
 have p := p.ext v
 have U := U.ext v
 refine ops_ex (σ := (Nat → Prop) × World) (I := fun a => Ext w0 ab ad a.1 a.2 ∧ RdS (Rep.int .i64) a.1 a.2 (sa f) 1 ([9] : List Int)) (M' := fun a => Mem w0 (orow (sa b) ([0, 2] : List Int).length 2 3 1 ([vI 0, vI 2]) :: ow c d 2 86 2 V :: .blk j [.slice none 0 0, .slice none 0 0, .slice none 0 0] 26 :: Fz a.1 a.2 :: cs)) (fun r q => ?_) ?_
 · obtain ⟨F_, h1_, h2_, h3_⟩ := (q.pick 5 [0, 4, 1, 2, 3] (by kernel_rfl) (by decide) rfl : Mem w0 (orow (sa f) ([9] : List Int).length 1 3 1 ([vI 9]) :: Fz ab ad :: orow (sa b) ([0, 2] : List Int).length 2 3 1 ([vI 0, vI 2]) :: ow c d 2 86 2 V :: .blk j [.slice none 0 0, .slice none 0 0, .slice none 0 0] 26 :: cs) r).freeze (z := 1) ah rfl rfl
   exact ⟨(F_, r), ⟨h1_, h2_⟩, h3_.pick 4 [1, 2, 3, 0] (by kernel_rfl) (by decide) rfl⟩
 rintro ⟨s, t⟩ ⟨x, ai⟩
 have x : Ext w0 ab ad s t := x
 have ai : RdS (Rep.int .i64) s t (sa f) 1 ([9] : List Int) := ai
 have af := af.ext x
 have p := p.ext x
 have U := U.ext x
 have aj : RepL R_api_Comp s t ([(api_Comp.mk 0 ([4] : List Int)), (api_Comp.mk 1 ([9] : List Int))] : List api_Comp) ([vI 0, .slice (sa m) ([4] : List Int).length 1, vI 1, .slice (sa f) ([9] : List Int).length 1]) := (RepL.cons (R := R_api_Comp) (F := s) (w := t) (vs := [vI 0, .slice (sa m) ([4] : List Int).length 1]) (ys := [vI 1, .slice (sa f) ([9] : List Int).length 1]) (enc_api_Comp af) (RepL.cons (R := R_api_Comp) (F := s) (w := t) (vs := [vI 1, .slice (sa f) ([9] : List Int).length 1]) (ys := []) (enc_api_Comp ai) RepL.nil))
 refine oB 7 [vI 0, .slice (sa m) ([4] : List Int).length 1, vI 1, .slice (sa f) ([9] : List Int).length 1] 42 2 2 (fun k => ?_)
 refine oq [oF 7, oF 8] [(9, .agg #[vI 1, vI 2]), (8, .agg #[vI 0, vI 0, .slice (sa k) ([(api_Comp.mk 0 ([4] : List Int)), (api_Comp.mk 1 ([9] : List Int))] : List api_Comp).length 2]), (2, .slice (sa b) ([0, 2] : List Int).length 2), (1, sl c d 2), (0, vP j 0)] ?_
 have ap : RepL (Rep.int .i64) s t ([7] : List Int) ([vI 7]) := (RepL.cons (R := (Rep.int .i64)) (F := s) (w := t) (vs := [vI 7]) (ys := []) rfl RepL.nil)
 refine oB 10 [vI 7] 3 1 1 (fun u => ?_)
 refine oq [oF 10] [(11, .agg #[vI 1, .slice (sa u) ([7] : List Int).length 1]), (9, .agg #[vI 1, vI 2]), (8, .agg #[vI 0, vI 0, .slice (sa k) ([(api_Comp.mk 0 ([4] : List Int)), (api_Comp.mk 1 ([9] : List Int))] : List api_Comp).length 2]), (2, .slice (sa b) ([0, 2] : List Int).length 2), (1, sl c d 2), (0, vP j 0)] ?_
 refine ops_ex (σ := (Nat → Prop) × World) (I := fun a => Ext w0 s t a.1 a.2 ∧ RdS (Rep.int .i64) a.1 a.2 (sa u) 1 ([7] : List Int)) (M' := fun a => Mem w0 (orow (sa k) ([(api_Comp.mk 0 ([4] : List Int)), (api_Comp.mk 1 ([9] : List Int))] : List api_Comp).length 2 42 2 ([vI 0, .slice (sa m) ([4] : List Int).length 1, vI 1, .slice (sa f) ([9] : List Int).length 1]) :: orow (sa b) ([0, 2] : List Int).length 2 3 1 ([vI 0, vI 2]) :: ow c d 2 86 2 V :: .blk j [.slice none 0 0, .slice none 0 0, .slice none 0 0] 26 :: Fz a.1 a.2 :: cs)) (fun r q => ?_) ?_
 · obtain ⟨F_, h1_, h2_, h3_⟩ := (q.pick 6 [0, 5, 1, 2, 3, 4] (by kernel_rfl) (by decide) rfl : Mem w0 (orow (sa u) ([7] : List Int).length 1 3 1 ([vI 7]) :: Fz s t :: orow (sa k) ([(api_Comp.mk 0 ([4] : List Int)), (api_Comp.mk 1 ([9] : List Int))] : List api_Comp).length 2 42 2 ([vI 0, .slice (sa m) ([4] : List Int).length 1, vI 1, .slice (sa f) ([9] : List Int).length 1]) :: orow (sa b) ([0, 2] : List Int).length 2 3 1 ([vI 0, vI 2]) :: ow c d 2 86 2 V :: .blk j [.slice none 0 0, .slice none 0 0, .slice none 0 0] 26 :: cs) r).freeze (z := 1) ap rfl rfl
   exact ⟨(F_, r), ⟨h1_, h2_⟩, h3_.pick 5 [1, 2, 3, 4, 0] (by kernel_rfl) (by decide) rfl⟩
 rintro ⟨N, O⟩ ⟨y, ak⟩
 have y : Ext w0 s t N O := y
 have ak : RdS (Rep.int .i64) N O (sa u) 1 ([7] : List Int) := ak
 have aj := aj.ext y
 have p := p.ext y
 have U := U.ext y
 have al : RepL R_api_Comp N O ([(api_Comp.mk 1 ([7] : List Int))] : List api_Comp) ([vI 1, .slice (sa u) ([7] : List Int).length 1]) := (RepL.cons (R := R_api_Comp) (F := N) (w := O) (vs := [vI 1, .slice (sa u) ([7] : List Int).length 1]) (ys := []) (enc_api_Comp ak) RepL.nil)
 refine oB 12 [vI 1, .slice (sa u) ([7] : List Int).length 1] 42 1 2 (fun o => ?_)
 refine oq [oF 12] [(13, .agg #[vI 1, vI 2, .slice (sa o) ([(api_Comp.mk 1 ([7] : List Int))] : List api_Comp).length 1]), (8, .agg #[vI 0, vI 0, .slice (sa k) ([(api_Comp.mk 0 ([4] : List Int)), (api_Comp.mk 1 ([9] : List Int))] : List api_Comp).length 2]), (2, .slice (sa b) ([0, 2] : List Int).length 2), (1, sl c d 2), (0, vP j 0)] ?_
 refine ops_ex (σ := (Nat → Prop) × World) (I := fun a => Ext w0 N O a.1 a.2 ∧ RdS R_api_Comp a.1 a.2 (sa k) 2 ([(api_Comp.mk 0 ([4] : List Int)), (api_Comp.mk 1 ([9] : List Int))] : List api_Comp)) (M' := fun a => Mem w0 (orow (sa o) ([(api_Comp.mk 1 ([7] : List Int))] : List api_Comp).length 1 42 2 ([vI 1, .slice (sa u) ([7] : List Int).length 1]) :: orow (sa b) ([0, 2] : List Int).length 2 3 1 ([vI 0, vI 2]) :: ow c d 2 86 2 V :: .blk j [.slice none 0 0, .slice none 0 0, .slice none 0 0] 26 :: Fz a.1 a.2 :: cs)) (fun r q => ?_) ?_
 · obtain ⟨F_, h1_, h2_, h3_⟩ := (q.pick 6 [1, 5, 0, 2, 3, 4] (by kernel_rfl) (by decide) rfl : Mem w0 (orow (sa k) ([(api_Comp.mk 0 ([4] : List Int)), (api_Comp.mk 1 ([9] : List Int))] : List api_Comp).length 2 42 2 ([vI 0, .slice (sa m) ([4] : List Int).length 1, vI 1, .slice (sa f) ([9] : List Int).length 1]) :: Fz N O :: orow (sa o) ([(api_Comp.mk 1 ([7] : List Int))] : List api_Comp).length 1 42 2 ([vI 1, .slice (sa u) ([7] : List Int).length 1]) :: orow (sa b) ([0, 2] : List Int).length 2 3 1 ([vI 0, vI 2]) :: ow c d 2 86 2 V :: .blk j [.slice none 0 0, .slice none 0 0, .slice none 0 0] 26 :: cs) r).freeze (z := 2) aj rfl rfl
   exact ⟨(F_, r), ⟨h1_, h2_⟩, h3_.pick 5 [1, 2, 3, 4, 0] (by kernel_rfl) (by decide) rfl⟩
 rintro ⟨ac, ae⟩ ⟨A, ag⟩
 have A : Ext w0 N O ac ae := A
 have ag : RdS R_api_Comp ac ae (sa k) 2 ([(api_Comp.mk 0 ([4] : List Int)), (api_Comp.mk 1 ([9] : List Int))] : List api_Comp) := ag
 have al := al.ext A
 have p := p.ext A
 have U := U.ext A
 refine ops_ex (σ := (Nat → Prop) × World) (I := fun a => Ext w0 ac ae a.1 a.2 ∧ RdS R_api_Comp a.1 a.2 (sa o) 1 ([(api_Comp.mk 1 ([7] : List Int))] : List api_Comp)) (M' := fun a => Mem w0 (orow (sa b) ([0, 2] : List Int).length 2 3 1 ([vI 0, vI 2]) :: ow c d 2 86 2 V :: .blk j [.slice none 0 0, .slice none 0 0, .slice none 0 0] 26 :: Fz a.1 a.2 :: cs)) (fun r q => ?_) ?_
 · obtain ⟨F_, h1_, h2_, h3_⟩ := (q.pick 5 [0, 4, 1, 2, 3] (by kernel_rfl) (by decide) rfl : Mem w0 (orow (sa o) ([(api_Comp.mk 1 ([7] : List Int))] : List api_Comp).length 1 42 2 ([vI 1, .slice (sa u) ([7] : List Int).length 1]) :: Fz ac ae :: orow (sa b) ([0, 2] : List Int).length 2 3 1 ([vI 0, vI 2]) :: ow c d 2 86 2 V :: .blk j [.slice none 0 0, .slice none 0 0, .slice none 0 0] 26 :: cs) r).freeze (z := 2) al rfl rfl
   exact ⟨(F_, r), ⟨h1_, h2_⟩, h3_.pick 4 [1, 2, 3, 0] (by kernel_rfl) (by decide) rfl⟩
 rintro ⟨Z, aa⟩ ⟨B, am⟩
 have B : Ext w0 ac ae Z aa := B
 have am : RdS R_api_Comp Z aa (sa o) 1 ([(api_Comp.mk 1 ([7] : List Int))] : List api_Comp) := am
 have ag := ag.ext B
 have p := p.ext B
 have U := U.ext B
 have aq : RepL R_api_Item Z aa ([(api_Item.mk (api_Ent.mk 0 0) ([(api_Comp.mk 0 ([4] : List Int)), (api_Comp.mk 1 ([9] : List Int))] : List api_Comp)), (api_Item.mk (api_Ent.mk 1 2) ([(api_Comp.mk 1 ([7] : List Int))] : List api_Comp))] : List api_Item) ([vI 0, vI 0, .slice (sa k) ([(api_Comp.mk 0 ([4] : List Int)), (api_Comp.mk 1 ([9] : List Int))] : List api_Comp).length 2, vI 1, vI 2, .slice (sa o) ([(api_Comp.mk 1 ([7] : List Int))] : List api_Comp).length 1]) := (RepL.cons (R := R_api_Item) (F := Z) (w := aa) (vs := [vI 0, vI 0, .slice (sa k) ([(api_Comp.mk 0 ([4] : List Int)), (api_Comp.mk 1 ([9] : List Int))] : List api_Comp).length 2]) (ys := [vI 1, vI 2, .slice (sa o) ([(api_Comp.mk 1 ([7] : List Int))] : List api_Comp).length 1]) (enc_api_Item ag) (RepL.cons (R := R_api_Item) (F := Z) (w := aa) (vs := [vI 1, vI 2, .slice (sa o) ([(api_Comp.mk 1 ([7] : List Int))] : List api_Comp).length 1]) (ys := []) (enc_api_Item am) RepL.nil))
 refine oB 14 [vI 0, vI 0, .slice (sa k) ([(api_Comp.mk 0 ([4] : List Int)), (api_Comp.mk 1 ([9] : List Int))] : List api_Comp).length 2, vI 1, vI 2, .slice (sa o) ([(api_Comp.mk 1 ([7] : List Int))] : List api_Comp).length 1] 61 2 3 (fun T => ?_)
 refine oq [oF 14] [(15, .agg #[sl c d 2, .slice (sa b) ([0, 2] : List Int).length 2, .slice (sa T) ([(api_Item.mk (api_Ent.mk 0 0) ([(api_Comp.mk 0 ([4] : List Int)), (api_Comp.mk 1 ([9] : List Int))] : List api_Comp)), (api_Item.mk (api_Ent.mk 1 2) ([(api_Comp.mk 1 ([7] : List Int))] : List api_Comp))] : List api_Item).length 2]), (0, vP j 0)] ?_
 refine oS 3 0 [sl c d 2, .slice (sa b) ([0, 2] : List Int).length 2, .slice (sa T) ([(api_Item.mk (api_Ent.mk 0 0) ([(api_Comp.mk 0 ([4] : List Int)), (api_Comp.mk 1 ([9] : List Int))] : List api_Comp)), (api_Item.mk (api_Ent.mk 1 2) ([(api_Comp.mk 1 ([7] : List Int))] : List api_Comp))] : List api_Item).length 2] ?_
 refine ops_nil (fin_then (st_ret ?_))
 obtain ⟨rfl, rfl, rfl⟩ := si3 hp
 refine fin_ret [.cell 0 26] [.agg #[sl c d 2, .slice (sa b) ([0, 2] : List Int).length 2, .slice (sa T) ([(api_Item.mk (api_Ent.mk 0 0) ([(api_Comp.mk 0 ([4] : List Int)), (api_Comp.mk 1 ([9] : List Int))] : List api_Comp)), (api_Item.mk (api_Ent.mk 1 2) ([(api_Comp.mk 1 ([7] : List Int))] : List api_Comp))] : List api_Item).length 2]] rfl rfl (fun r q => (.cell rfl (tr_run _ [.v (sl c d 2), .v (.slice (sa b) ([0, 2] : List Int).length 2), .v (.slice (sa T) ([(api_Item.mk (api_Ent.mk 0 0) ([(api_Comp.mk 0 ([4] : List Int)), (api_Comp.mk 1 ([9] : List Int))] : List api_Comp)), (api_Item.mk (api_Ent.mk 1 2) ([(api_Comp.mk 1 ([7] : List Int))] : List api_Comp))] : List api_Item).length 2)] [ld j 0 (sl c d 2), ld j 1 (.slice (sa b) ([0, 2] : List Int).length 2), ld j 2 (.slice (sa T) ([(api_Item.mk (api_Ent.mk 0 0) ([(api_Comp.mk 0 ([4] : List Int)), (api_Comp.mk 1 ([9] : List Int))] : List api_Comp)), (api_Item.mk (api_Ent.mk 1 2) ([(api_Comp.mk 1 ([7] : List Int))] : List api_Comp))] : List api_Item).length 2)] (.agg #[sl c d 2, .slice (sa b) ([0, 2] : List Int).length 2, .slice (sa T) ([(api_Item.mk (api_Ent.mk 0 0) ([(api_Comp.mk 0 ([4] : List Int)), (api_Comp.mk 1 ([9] : List Int))] : List api_Comp)), (api_Item.mk (api_Ent.mk 1 2) ([(api_Comp.mk 1 ([7] : List Int))] : List api_Comp))] : List api_Item).length 2] : Value) _ _ (by kernel_rfl) ⟨q.cell 3 rfl rfl, q.cell 3 rfl rfl, q.cell 3 rfl rfl, rfl⟩) .nil)) (fun r q => ?_)
 exact ⟨(c, V, (sa b), [vI 0, vI 2], (sa T), [vI 0, vI 0, .slice (sa k) ([(api_Comp.mk 0 ([4] : List Int)), (api_Comp.mk 1 ([9] : List Int))] : List api_Comp).length 2, vI 1, vI 2, .slice (sa o) ([(api_Comp.mk 1 ([7] : List Int))] : List api_Comp).length 1], Z, aa), ⟨U, p, aq, (((((h9.trans v).trans x).trans y).trans A).trans B)⟩, rfl, q.pick 5 [2, 1, 0, 4] (by kernel_rfl) (by decide) rfl⟩
theorem kind_Name_ok {s : ByteArray} (z : Mem w0 (Fz F W :: cs) w) {g : Bool} (a : kind_Name s = some g) : Calls Tryz.prog 86 #[.string s] w (Post w0 (fun (_ : Unit) => True) (fun _ => .bool g) (fun _ => Fz F W :: cs)) := by
 unfold kind_Name at a
 refine sx_calls Tryz.func86 rfl (n := 41) (by kernel_rfl) (l := [(0, .string s)]) rfl (by rfl) z ?_
 refine st_seq (st_region [oF 0] (by rfl) ?_)
 refine oq [oF 0] [(0, .string s)] ?_
 refine ops_nil (fin_then (st_seq (st_seq ?_)))
 refine st_region (oFs 0 8) (by rfl) ?_
 refine oq (oFs 0 4) [(8, .bool ((s.size : Int) == 0)), (0, .string s)] ?_
 refine ob a [8] (fun A a => ?_) (fun A a => ?_)
 ·
  refine oq (oFs 4 4) [(12, .bool true), (0, .string s)] ?_
  refine ops_nil (fin_then (st_true rfl (st_seq (st_region [oF 0] (by rfl) ?_))))
  refine oq [oF 0] [(2, .bool false)] ?_
  refine ops_nil (fin_then (st_ret (fin_ret_then ?_)))
  obtain rfl := Option.some.inj a
  exact fr [2] () trivial 0 []
 ·
  refine oq (oFs 4 4) [(12, .bool (decide (16 < (s.size : Int)))), (0, .string s)] ?_
  refine ops_nil (fin_then ?_)
  refine sif a (fun B a => ?_) (fun B a => ?_)
  ·
   refine st_seq (st_region [oF 0] (by rfl) ?_)
   refine oq [oF 0] [(2, .bool false)] ?_
   refine ops_nil (fin_then (st_ret (fin_ret_then ?_)))
   obtain rfl := Option.some.inj a
   exact fr [2] () trivial 0 []
  ·
   refine st_skip (fin_then ?_)
   refine st_join1 (σ := Unit) (L := fun _ => []) (N := fun _ => Mem w0 (Fz F W :: cs)) (I := fun _ => (kind_Name_j1 = some g)) ?_ ?_
   ·
    rintro _ a
    unfold kind_Name_j1 at a
    refine st_seq (st_region [oF 0] (by rfl) ?_)
    refine oq [oF 0] [(2, .bool true)] ?_
    refine ops_nil (fin_then (st_ret ?_))
    obtain rfl := Option.some.inj a
    exact fr [2] () trivial 0 []
   ·
    intro y
    refine st_seq (st_seq ?_)
    refine st_region (oFs 0 3) (by rfl) ?_
    refine oq (oFs 0 3) [(15, vI 0), (14, vI (s.size : Int)), (0, .string s)] ?_
    refine ops_nil (fin_then (st_block ?_))
    obtain ⟨M, H, k⟩ := obind a
    refine lp (σ := Int) (ρ := (Bool ⊕ Unit)) (γ := Unit) H () (fun p o => match p, o with | c, _ => [(0, .string s), (14, vI (s.size : Int)), (15, vI c)]) (fun p o => match p, o with | c, _ => Mem w0 (Fz F W :: cs)) (fun p o => match p, o with | c, _ => True) trivial 0 [] ?_
    rintro c _ K - hs_ j
    have a : (kind_Name_l2 s) c = some K := hs_
    clear hs_
    unfold kind_Name_l2 at a
    refine st_seq (st_region [oF 0] (by rfl) ?_)
    refine oq [oF 0] [(16, .bool (decide (c < (s.size : Int)))), (0, .string s), (14, vI (s.size : Int)), (15, vI c)] ?_
    refine ops_nil (fin_then (st_seq ?_))
    refine sif a (fun C a => ?_) (fun C a => ?_)
    ·
     refine st_skip (fin_then ?_)
     refine st_join1 (σ := Unit) (L := fun _ => [(0, .string s), (14, vI (s.size : Int)), (15, vI c)]) (N := fun _ => Mem w0 (Fz F W :: cs)) (I := fun _ => ((kind_Name_j3 c) = some K)) ?_ ?_
     ·
      rintro _ a
      unfold kind_Name_j3 at a
      refine st_region [oF 0, oF 1] (by rfl) ?_
      refine oq [oF 0, oF 1] [(15, vI (IntKind.i64.wrap (c + 1))), (0, .string s), (14, vI (s.size : Int))] ?_
      refine ops_nil ?_
      exact fag (IntKind.i64.wrap (c + 1)) () (Option.some.inj a).symm trivial 0 []
     ·
      intro m
      refine st_seq (st_block (st_seq (st_region [oF 0, oF 1] (by rfl) ?_)))
      refine oq [oF 0, oF 1] [(3, vI c), (0, .string s), (14, vI (s.size : Int)), (15, vI c)] ?_
      refine ops_nil (fin_then (st_seq ?_))
      refine st_region (oFs 0 4) (by rfl) ?_
      refine oq [oF 0, oF 1] [(19, vI c), (18, .string s), (3, vI c), (0, .string s), (14, vI (s.size : Int)), (15, vI c)] ?_
      obtain ⟨i, J, a⟩ := obind a
      refine ops_val (op := (.index 9 (.tmp 18) (.tmp 19))) (d := some 20) (v := .int .u8 i) ⟨by kernel_rfl⟩ (run_strIdx Tryz.underlying9 rfl rfl J) ?_
      refine oq [oF 3] [(4, .int .u8 i), (3, vI c), (0, .string s), (14, vI (s.size : Int)), (15, vI c)] ?_
      refine ops_nil (fin_then (st_seq ?_))
      refine st_region (oFs 0 19) (by rfl) ?_
      refine oq (oFs 0 3) [(23, .bool (decide (97 ≤ i))), (4, .int .u8 i), (3, vI c), (0, .string s), (14, vI (s.size : Int)), (15, vI c)] ?_
      refine ob a [23] (fun D a => ?_) (fun D a => ?_)
      ·
       refine oq (oFs 3 4) [(27, .bool (decide (i ≤ 122))), (4, .int .u8 i), (3, vI c), (0, .string s), (14, vI (s.size : Int)), (15, vI c)] ?_
       refine ob a [27] (fun E a => ?_) (fun E a => ?_)
       ·
        refine oq (oFs 7 12) [(39, .bool false), (0, .string s), (14, vI (s.size : Int)), (15, vI c)] ?_
        refine ops_nil (fin_then (st_false rfl (st_skip (fin_block ?_))))
        exact fj m () a 0 []
       ·
        refine oq (oFs 7 3) [(30, .bool (decide (0 < c))), (27, .bool false), (4, .int .u8 i), (0, .string s), (14, vI (s.size : Int)), (15, vI c)] ?_
        refine ob a [30] (fun G a => ?_) (fun G a => ?_)
        ·
         refine oq (oFs 10 4) [(34, .bool (decide (48 ≤ i))), (27, .bool false), (4, .int .u8 i), (0, .string s), (14, vI (s.size : Int)), (15, vI c)] ?_
         refine ob a [34] (fun q a => ?_) (fun q a => ?_)
         ·
          refine oq (oFs 14 5) [(39, .bool (!(decide (i ≤ 57)))), (0, .string s), (14, vI (s.size : Int)), (15, vI c)] ?_
          refine ops_nil (fin_then ?_)
          refine sif a (fun r a => ?_) (fun r a => ?_)
          ·
           refine st_seq (st_region [oF 0] (by rfl) ?_)
           refine oq [oF 0] [(2, .bool false)] ?_
           refine ops_nil (fin_then (st_ret (fin_ret_block (fin_ret_then (fin_ret_then (fin_ret_block (fin_ret_then ?_)))))))
           obtain rfl := Option.some.inj a
           obtain rfl := j _ rfl
           have a : some false = some g := k
           obtain rfl := Option.some.inj a
           exact fr [2] () trivial 0 []
          ·
           refine st_skip (fin_block ?_)
           exact fj m () a 0 []
         ·
          refine oq (oFs 14 5) [(39, .bool true), (0, .string s), (14, vI (s.size : Int)), (15, vI c)] ?_
          refine ops_nil (fin_then (st_true rfl (st_seq (st_region [oF 0] (by rfl) ?_))))
          refine oq [oF 0] [(2, .bool false)] ?_
          refine ops_nil (fin_then (st_ret (fin_ret_block (fin_ret_then (fin_ret_then (fin_ret_block (fin_ret_then ?_)))))))
          obtain rfl := Option.some.inj a
          obtain rfl := j _ rfl
          have a : some false = some g := k
          obtain rfl := Option.some.inj a
          exact fr [2] () trivial 0 []
        ·
         refine oq (oFs 10 9) [(39, .bool true), (0, .string s), (14, vI (s.size : Int)), (15, vI c)] ?_
         refine ops_nil (fin_then (st_true rfl (st_seq (st_region [oF 0] (by rfl) ?_))))
         refine oq [oF 0] [(2, .bool false)] ?_
         refine ops_nil (fin_then (st_ret (fin_ret_block (fin_ret_then (fin_ret_then (fin_ret_block (fin_ret_then ?_)))))))
         obtain rfl := Option.some.inj a
         obtain rfl := j _ rfl
         have a : some false = some g := k
         obtain rfl := Option.some.inj a
         exact fr [2] () trivial 0 []
      ·
       refine oq (oFs 3 7) [(30, .bool (decide (0 < c))), (27, .bool false), (4, .int .u8 i), (0, .string s), (14, vI (s.size : Int)), (15, vI c)] ?_
       refine ob a [30] (fun t a => ?_) (fun t a => ?_)
       ·
        refine oq (oFs 10 4) [(34, .bool (decide (48 ≤ i))), (27, .bool false), (4, .int .u8 i), (0, .string s), (14, vI (s.size : Int)), (15, vI c)] ?_
        refine ob a [34] (fun u a => ?_) (fun u a => ?_)
        ·
         refine oq (oFs 14 5) [(39, .bool (!(decide (i ≤ 57)))), (0, .string s), (14, vI (s.size : Int)), (15, vI c)] ?_
         refine ops_nil (fin_then ?_)
         refine sif a (fun x a => ?_) (fun x a => ?_)
         ·
          refine st_seq (st_region [oF 0] (by rfl) ?_)
          refine oq [oF 0] [(2, .bool false)] ?_
          refine ops_nil (fin_then (st_ret (fin_ret_block (fin_ret_then (fin_ret_then (fin_ret_block (fin_ret_then ?_)))))))
          obtain rfl := Option.some.inj a
          obtain rfl := j _ rfl
          have a : some false = some g := k
          obtain rfl := Option.some.inj a
          exact fr [2] () trivial 0 []
         ·
          refine st_skip (fin_block ?_)
          exact fj m () a 0 []
        ·
         refine oq (oFs 14 5) [(39, .bool true), (0, .string s), (14, vI (s.size : Int)), (15, vI c)] ?_
         refine ops_nil (fin_then (st_true rfl (st_seq (st_region [oF 0] (by rfl) ?_))))
         refine oq [oF 0] [(2, .bool false)] ?_
         refine ops_nil (fin_then (st_ret (fin_ret_block (fin_ret_then (fin_ret_then (fin_ret_block (fin_ret_then ?_)))))))
         obtain rfl := Option.some.inj a
         obtain rfl := j _ rfl
         have a : some false = some g := k
         obtain rfl := Option.some.inj a
         exact fr [2] () trivial 0 []
       ·
        refine oq (oFs 10 9) [(39, .bool true), (0, .string s), (14, vI (s.size : Int)), (15, vI c)] ?_
        refine ops_nil (fin_then (st_true rfl (st_seq (st_region [oF 0] (by rfl) ?_))))
        refine oq [oF 0] [(2, .bool false)] ?_
        refine ops_nil (fin_then (st_ret (fin_ret_block (fin_ret_then (fin_ret_then (fin_ret_block (fin_ret_then ?_)))))))
        obtain rfl := Option.some.inj a
        obtain rfl := j _ rfl
        have a : some false = some g := k
        obtain rfl := Option.some.inj a
        exact fr [2] () trivial 0 []
    ·
     refine st_exit (fin_exit_then (fin_exit_then (fin_exit ?_)))
     obtain rfl := Option.some.inj a
     obtain rfl := j _ rfl
     have a : kind_Name_j1 = some g := k
     exact fj y () a 0 []
theorem kind_field_ok {g : ByteArray} {d : Int} {f : Int} (j : Mem w0 (Fz F W :: cs) w) {i : Int} (b : kind_field g d f = some i) : Calls Tryz.prog 87 #[.agg #[.string g, vI d, vI f]] w (Post w0 (fun (_ : Unit) => True) (fun _ => vI i) (fun _ => Fz F W :: cs)) := by
 unfold kind_field at b
 refine sx_calls Tryz.func87 rfl (n := 27) (by kernel_rfl) (l := [(0, .agg #[.string g, vI d, vI f])]) rfl (by rfl) j ?_
 refine st_seq (st_region [oF 0, oF 1] (by rfl) ?_)
 refine oN 1 [.string g, vI d, vI f] 99 (fun c => ?_)
 refine oq [oF 1] [(1, vP c 0)] ?_
 refine ops_nil (fin_then (st_seq (st_seq ?_)))
 refine st_region (oFs 0 24) (by rfl) ?_
 refine oq [oF 0] [(3, vP c 0), (1, vP c 0)] ?_
 refine oM 4 0 0 ?_
 obtain ⟨t, r, b⟩ := obind b
 refine oV (some 5) 2 [1, 0] 2 [1, 0] (fun _ s => kind_Name_ok s r) ?_
 rintro _ -
 refine oq [oF 3, oF 4] [(7, .bool (!t)), (1, vP c 0)] ?_
 refine ob b [7] (fun k b => ?_) (fun k b => ?_)
 ·
  refine oq (oFs 5 19) [(26, .bool true)] ?_
  refine ops_nil (fin_then (st_true rfl (st_seq (st_region [oF 0] (by rfl) ?_))))
  refine oq [oF 0] [(2, vI 3)] ?_
  refine ops_nil (fin_then (st_ret (fin_ret_then ?_)))
  obtain rfl := Option.some.inj b
  exact fr [2] () trivial 2 [1]
 ·
  refine oq [oF 5] [(8, vP c 1), (7, .bool false), (1, vP c 0)] ?_
  refine oM 9 0 1 ?_
  refine oq (oFs 7 3) [(12, .bool (decide (d < 1))), (1, vP c 0)] ?_
  refine ob b [12] (fun m b => ?_) (fun m b => ?_)
  ·
   refine oq (oFs 10 14) [(26, .bool true)] ?_
   refine ops_nil (fin_then (st_true rfl (st_seq (st_region [oF 0] (by rfl) ?_))))
   refine oq [oF 0] [(2, vI 3)] ?_
   refine ops_nil (fin_then (st_ret (fin_ret_then ?_)))
   obtain rfl := Option.some.inj b
   exact fr [2] () trivial 2 [1]
  ·
   refine oq [oF 10] [(13, vP c 1), (12, .bool false), (1, vP c 0)] ?_
   refine oM 14 0 1 ?_
   refine oq (oFs 12 3) [(17, .bool (decide (32 < d))), (1, vP c 0)] ?_
   refine ob b [17] (fun o b => ?_) (fun o b => ?_)
   ·
    refine oq (oFs 15 9) [(26, .bool true)] ?_
    refine ops_nil (fin_then (st_true rfl (st_seq (st_region [oF 0] (by rfl) ?_))))
    refine oq [oF 0] [(2, vI 3)] ?_
    refine ops_nil (fin_then (st_ret (fin_ret_then ?_)))
    obtain rfl := Option.some.inj b
    exact fr [2] () trivial 2 [1]
   ·
    refine oq [oF 15] [(18, vP c 2), (17, .bool false), (1, vP c 0)] ?_
    refine oM 19 0 2 ?_
    refine oq (oFs 17 3) [(22, .bool (decide (f < (-4294967296)))), (1, vP c 0)] ?_
    refine ob b [22] (fun p b => ?_) (fun p b => ?_)
    ·
     refine oq (oFs 20 4) [(26, .bool true)] ?_
     refine ops_nil (fin_then (st_true rfl (st_seq (st_region [oF 0] (by rfl) ?_))))
     refine oq [oF 0] [(2, vI 3)] ?_
     refine ops_nil (fin_then (st_ret (fin_ret_then ?_)))
     obtain rfl := Option.some.inj b
     exact fr [2] () trivial 2 [1]
    ·
     refine oq [oF 20] [(23, vP c 2), (22, .bool false)] ?_
     refine oM 24 0 2 ?_
     refine oq [oF 22, oF 23] [(26, .bool (decide (4294967296 < f)))] ?_
     refine ops_nil (fin_then ?_)
     refine sif b (fun q b => ?_) (fun q b => ?_)
     ·
      refine st_seq (st_region [oF 0] (by rfl) ?_)
      refine oq [oF 0] [(2, vI 3)] ?_
      refine ops_nil (fin_then (st_ret (fin_ret_then ?_)))
      obtain rfl := Option.some.inj b
      exact fr [2] () trivial 2 [1]
     ·
      refine st_skip (fin_then (st_seq (st_region [oF 0] (by rfl) ?_)))
      refine oq [oF 0] [(2, vI 0)] ?_
      refine ops_nil (fin_then (st_ret ?_))
      obtain rfl := Option.some.inj b
      exact fr [2] () trivial 2 [1]
theorem kind_One_ok {u : ByteArray} {a : Option Addr} {b : Nat} {c : List api_Field} (av : Mem w0 (Fz F W :: cs) w) (B : RdS R_api_Field F W a b c) {r : Int} (g : kind_One u c = some r) : Calls Tryz.prog 66 #[.agg #[.string u, sl a c b]] w (Post w0 (fun (_ : Unit) => True) (fun _ => vI r) (fun _ => Fz F W :: cs)) := by
 unfold kind_One at g
 refine sx_calls Tryz.func66 rfl (n := 45) (by kernel_rfl) (l := [(0, .agg #[.string u, sl a c b])]) rfl (by rfl) av ?_
 refine st_seq (st_region [oF 0, oF 1] (by rfl) ?_)
 refine oN 1 [.string u, sl a c b] 86 (fun i => ?_)
 refine oq [oF 1] [(1, vP i 0)] ?_
 refine ops_nil (fin_then (st_seq (st_seq ?_)))
 refine st_region (oFs 0 4) (by rfl) ?_
 refine oq [oF 0] [(8, vP i 0), (1, vP i 0)] ?_
 refine oM 9 0 0 ?_
 obtain ⟨x2, a1, g⟩ := obind g
 refine oV (some 10) 2 [1, 0] 2 [1, 0] (fun _ s => kind_Name_ok s a1) ?_
 rintro _ -
 refine oq [oF 3] [(11, .bool (!x2)), (1, vP i 0)] ?_
 refine ops_nil (fin_then ?_)
 refine sif g (fun aw g => ?_) (fun aw g => ?_)
 ·
  refine st_seq (st_region [oF 0] (by rfl) ?_)
  refine oq [oF 0] [(2, vI 3)] ?_
  refine ops_nil (fin_then (st_ret (fin_ret_then ?_)))
  obtain rfl := Option.some.inj g
  exact fr [2] () trivial 2 [1]
 ·
  refine st_skip (fin_then (st_seq (st_seq ?_)))
  refine st_region (oFs 0 4) (by rfl) ?_
  refine oq [oF 0] [(12, vP i 1), (1, vP i 0)] ?_
  refine oM 13 0 1 ?_
  refine oq [oF 2, oF 3] [(15, .bool (decide (8 < (c.length : Int)))), (1, vP i 0)] ?_
  refine ops_nil (fin_then ?_)
  refine sif g (fun ax g => ?_) (fun ax g => ?_)
  ·
   refine st_seq (st_region [oF 0] (by rfl) ?_)
   refine oq [oF 0] [(2, vI 2)] ?_
   refine ops_nil (fin_then (st_ret (fin_ret_then ?_)))
   obtain rfl := Option.some.inj g
   exact fr [2] () trivial 2 [1]
  ·
   refine st_skip (fin_then ?_)
   refine st_join1 (σ := Unit) (L := fun _ => []) (N := fun _ => Mem w0 (Fz F W :: cs)) (I := fun _ => (kind_One_j1 = some r)) ?_ ?_
   ·
    rintro _ g
    unfold kind_One_j1 at g
    refine st_seq (st_region [oF 0] (by rfl) ?_)
    refine oq [oF 0] [(2, vI 0)] ?_
    refine ops_nil (fin_then (st_ret ?_))
    obtain rfl := Option.some.inj g
    exact fr [2] () trivial 0 []
   ·
    intro ap
    refine st_seq (st_seq ?_)
    refine st_region (oFs 0 4) (by rfl) ?_
    refine oq [oF 0] [(16, vP i 1), (1, vP i 0)] ?_
    refine oM 17 0 1 ?_
    refine oq [oF 2, oF 3] [(19, vI 0), (18, vI (c.length : Int)), (17, sl a c b), (1, vP i 0)] ?_
    refine ops_nil (fin_then (st_block ?_))
    obtain ⟨r2, az, O⟩ := obind g
    refine lp (σ := Int) (ρ := (Int ⊕ Unit)) (γ := Unit) az () (fun x t => match x, t with | j, _ => [(1, vP i 0), (17, sl a c b), (18, vI (c.length : Int)), (19, vI j)]) (fun x t => match x, t with | j, _ => Mem w0 (.blk i [.string u, sl a c b] 86 :: Fz F W :: cs)) (fun x t => match x, t with | j, _ => True) trivial 0 [] ?_
    rintro j _ V - hs_ K
    have g : (kind_One_l2 c) j = some V := hs_
    clear hs_
    unfold kind_One_l2 at g
    refine st_seq (st_region [oF 0] (by rfl) ?_)
    refine oq [oF 0] [(20, .bool (decide (j < (c.length : Int)))), (1, vP i 0), (17, sl a c b), (18, vI (c.length : Int)), (19, vI j)] ?_
    refine ops_nil (fin_then (st_seq ?_))
    refine sif g (fun ay g => ?_) (fun ay g => ?_)
    ·
     refine st_skip (fin_then ?_)
     refine st_join1 (σ := Unit) (L := fun _ => [(1, vP i 0), (17, sl a c b), (18, vI (c.length : Int)), (19, vI j)]) (N := fun _ => Mem w0 (.blk i [.string u, sl a c b] 86 :: Fz F W :: cs)) (I := fun _ => ((kind_One_j3 j) = some V)) ?_ ?_
     ·
      rintro _ g
      unfold kind_One_j3 at g
      refine st_region [oF 0, oF 1] (by rfl) ?_
      refine oq [oF 0, oF 1] [(19, vI (IntKind.i64.wrap (j + 1))), (1, vP i 0), (17, sl a c b), (18, vI (c.length : Int))] ?_
      refine ops_nil ?_
      exact fag (IntKind.i64.wrap (j + 1)) () (Option.some.inj g).symm trivial 0 []
     ·
      intro aq
      refine st_seq (st_block (st_seq ?_))
      refine st_region (oFs 0 6) (by rfl) ?_
      refine oq [oF 0] [(21, vI j), (1, vP i 0), (17, sl a c b), (18, vI (c.length : Int)), (19, vI j)] ?_
      obtain ⟨p, a2, g⟩ := obind g
      obtain ⟨G, ah, T⟩ := idx_some a2
      have af := (List.getElem?_eq_some_iff.1 T).1
      obtain ⟨y, a8, aa, hr14, D⟩ := RdS.el B T
      obtain rfl := dec_api_Field hr14
      refine ops_val (op := (.indexAddr 84 (.tmp 17) (.tmp 19))) (d := some 22) (v := .pointer (some (y.add (G * 3)))) ⟨by kernel_rfl⟩ (run_indexA aa Tryz.underlying84 (z := 3) (by kernel_rfl) rfl rfl ah af) ?_
      refine ops_mem (d := some 23) (an := [.v (.string p.Name), .v (vI p.Bits), .v (vI p.Low)]) (evs := [.load (y.add (G * 3)) (.string p.Name), .load ((y.add (G * 3)).add 1) (vI p.Bits), .load ((y.add (G * 3)).add 2) (vI p.Low)]) (v := .agg #[.string p.Name, vI p.Bits, vI p.Low]) ⟨by kernel_rfl⟩ (fun w_ s hS => ⟨w_, ⟨s.elcell 1 rfl D 0 rfl, s.elcell 1 rfl D 1 rfl, s.elcell 1 rfl D 2 rfl, rfl⟩, s, trivial⟩) ?_
      refine oN 4 [.string ByteArray.empty, vI 0, vI 0] 99 (fun m => ?_)
      refine oq [oF 4] [(3, vI j), (4, vP m 0), (23, .agg #[.string p.Name, vI p.Bits, vI p.Low]), (1, vP i 0), (17, sl a c b), (18, vI (c.length : Int)), (19, vI j)] ?_
      refine oS 0 0 [.string p.Name, vI p.Bits, vI p.Low] ?_
      refine ops_nil (fin_then (st_seq (st_seq ?_)))
      refine st_region (oFs 0 3) (by rfl) ?_
      refine oMA 24 0 0 3 ?_
      obtain ⟨C, ak, g⟩ := obind g
      refine oV (some 25) 3 [2, 0, 1] 3 [1, 2, 0] (fun _ s => kind_field_ok s ak) ?_
      rintro _ -
      refine oq [oF 2] [(5, vI C), (3, vI j), (4, vP m 0), (1, vP i 0), (17, sl a c b), (18, vI (c.length : Int)), (19, vI j)] ?_
      refine ops_nil (fin_then (st_seq (st_region [oF 0, oF 1] (by rfl) ?_)))
      refine oq [oF 0, oF 1] [(27, .bool (!(C == 0))), (5, vI C), (3, vI j), (4, vP m 0), (1, vP i 0), (17, sl a c b), (18, vI (c.length : Int)), (19, vI j)] ?_
      refine ops_nil (fin_then ?_)
      refine sif g (fun ac g => ?_) (fun ac g => ?_)
      ·
       refine st_seq (st_region [oF 0, oF 1] (by rfl) ?_)
       refine oq [oF 0, oF 1] [(2, vI C)] ?_
       refine ops_nil (fin_then (st_ret (fin_ret_then (fin_ret_block (fin_ret_then (fin_ret_then (fin_ret_block (fin_ret_then ?_))))))))
       obtain rfl := Option.some.inj g
       obtain rfl := K _ rfl
       have g : some C = some r := O
       obtain rfl := Option.some.inj g
       exact fr [2] () trivial 3 [2]
      ·
       refine st_skip (fin_then (st_seq ?_))
       refine st_region (oFs 0 6) (by rfl) ?_
       refine oq [oF 0] [(29, vP i 1), (3, vI j), (4, vP m 0), (1, vP i 0), (17, sl a c b), (18, vI (c.length : Int)), (19, vI j)] ?_
       refine oM 30 1 1 ?_
       refine oq [oF 2] [(31, vI j), (30, sl a c b), (4, vP m 0), (1, vP i 0), (17, sl a c b), (18, vI (c.length : Int)), (19, vI j)] ?_
       obtain ⟨k, al, g⟩ := obind g
       obtain ⟨a3, bb, a6, aj, X, J, M⟩ := cut_some al
       have a5 := cut_len M X J
       have au : RdS R_api_Field F W a b k := by have h_ := B.cut X J; rw [← M] at h_; rw [show a3 = 0 by omega, cutA_zero, Nat.sub_zero] at h_; exact h_
       refine ops_val (op := (.slice 84 (.tmp 30) none (some (.tmp 31)) none)) (d := some 32) (v := sl a k b) ⟨by kernel_rfl⟩ (run_cutH0 (by kernel_rfl) (z := 3) (by kernel_rfl) rfl rfl aj (Nat.le_trans J B.cap) (by omega)) ?_
       refine oq [oF 4, oF 5] [(34, vI 0), (33, vI (k.length : Int)), (32, sl a k b), (4, vP m 0), (1, vP i 0), (17, sl a c b), (18, vI (c.length : Int)), (19, vI j)] ?_
       refine ops_nil (fin_then (st_block ?_))
       obtain ⟨r4, a0, Z⟩ := obind g
       refine lp (σ := Int) (ρ := (Int ⊕ Unit)) (γ := Unit) a0 () (fun x t => match x, t with | q, _ => [(1, vP i 0), (4, vP m 0), (17, sl a c b), (18, vI (c.length : Int)), (19, vI j), (32, sl a k b), (33, vI (k.length : Int)), (34, vI q)]) (fun x t => match x, t with | q, _ => Mem w0 (.blk i [.string u, sl a c b] 86 :: .blk m [.string p.Name, vI p.Bits, vI p.Low] 99 :: Fz F W :: cs)) (fun x t => match x, t with | q, _ => True) trivial 3 [1, 0, 2] ?_
       rintro q _ o4 - hs_ Y
       have g : (kind_One_l4 k p) q = some o4 := hs_
       clear hs_
       unfold kind_One_l4 at g
       refine st_seq (st_region [oF 0] (by rfl) ?_)
       refine oq [oF 0] [(35, .bool (decide (q < (k.length : Int)))), (1, vP i 0), (4, vP m 0), (17, sl a c b), (18, vI (c.length : Int)), (19, vI j), (32, sl a k b), (33, vI (k.length : Int)), (34, vI q)] ?_
       refine ops_nil (fin_then (st_seq ?_))
       refine sif g (fun ad g => ?_) (fun ad g => ?_)
       ·
        refine st_skip (fin_then (st_seq (st_block (st_seq ?_))))
        refine st_region (oFs 0 4) (by rfl) ?_
        obtain ⟨o, am, g⟩ := obind g
        obtain ⟨H, ai, U⟩ := idx_some am
        have ag := (List.getElem?_eq_some_iff.1 U).1
        obtain ⟨A, a9, ab, hr42, E⟩ := RdS.el au U
        obtain rfl := dec_api_Field hr42
        refine ops_val (op := (.indexAddr 84 (.tmp 32) (.tmp 34))) (d := some 36) (v := .pointer (some (A.add (H * 3)))) ⟨by kernel_rfl⟩ (run_indexA ab Tryz.underlying84 (z := 3) (by kernel_rfl) rfl rfl ai ag) ?_
        refine ops_mem (d := some 37) (an := [.v (.string o.Name), .v (vI o.Bits), .v (vI o.Low)]) (evs := [.load (A.add (H * 3)) (.string o.Name), .load ((A.add (H * 3)).add 1) (vI o.Bits), .load ((A.add (H * 3)).add 2) (vI o.Low)]) (v := .agg #[.string o.Name, vI o.Bits, vI o.Low]) ⟨by kernel_rfl⟩ (fun w_ s hS => ⟨w_, ⟨s.elcell 2 rfl E 0 rfl, s.elcell 2 rfl E 1 rfl, s.elcell 2 rfl E 2 rfl, rfl⟩, s, trivial⟩) ?_
        refine oN 7 [.string ByteArray.empty, vI 0, vI 0] 99 (fun ar => ?_)
        refine oS 0 0 [.string o.Name, vI o.Bits, vI o.Low] ?_
        refine ops_nil (fin_then (st_seq ?_))
        refine st_region (oFs 0 5) (by rfl) ?_
        refine oq [oF 0] [(38, vP ar 0), (1, vP i 0), (4, vP m 0), (17, sl a c b), (18, vI (c.length : Int)), (19, vI j), (32, sl a k b), (33, vI (k.length : Int)), (34, vI q)] ?_
        refine oM 39 0 0 ?_
        refine oq [oF 2] [(40, vP m 0), (39, .string o.Name), (1, vP i 0), (4, vP m 0), (17, sl a c b), (18, vI (c.length : Int)), (19, vI j), (32, sl a k b), (33, vI (k.length : Int)), (34, vI q)] ?_
        refine oM 41 2 0 ?_
        refine oq [oF 4] [(42, .bool (o.Name.toList == p.Name.toList)), (1, vP i 0), (4, vP m 0), (17, sl a c b), (18, vI (c.length : Int)), (19, vI j), (32, sl a k b), (33, vI (k.length : Int)), (34, vI q)] ?_
        refine ops_nil (fin_then ?_)
        refine sif g (fun ae g => ?_) (fun ae g => ?_)
        ·
         refine st_seq (st_region [oF 0] (by rfl) ?_)
         refine oq [oF 0] [(2, vI 5)] ?_
         refine ops_nil (fin_then (st_ret (fin_ret_block (fin_ret_then (fin_ret_then (fin_ret_block (fin_ret_block (fin_ret_then (fin_ret_then (fin_ret_block (fin_ret_then ?_)))))))))))
         obtain rfl := Option.some.inj g
         obtain rfl := Y _ rfl
         have g : some (.inr (.inl 5)) = some V := Z
         obtain rfl := Option.some.inj g
         obtain rfl := K _ rfl
         have g : some 5 = some r := O
         obtain rfl := Option.some.inj g
         exact fr [2] () trivial 4 [3]
        ·
         refine st_skip (fin_block (fin_then (st_region [oF 0, oF 1] (by rfl) ?_)))
         refine oq [oF 0, oF 1] [(34, vI (IntKind.i64.wrap (q + 1))), (1, vP i 0), (4, vP m 0), (17, sl a c b), (18, vI (c.length : Int)), (19, vI j), (32, sl a k b), (33, vI (k.length : Int))] ?_
         refine ops_nil ?_
         exact fag (IntKind.i64.wrap (q + 1)) () (Option.some.inj g).symm trivial 4 [1, 2, 3]
       ·
        refine st_exit (fin_exit_then (fin_exit_then (fin_exit (fin_block ?_))))
        obtain rfl := Option.some.inj g
        obtain rfl := Y _ rfl
        have g : (kind_One_j3 j) = some V := Z
        exact fj aq () g 3 [0, 2]
    ·
     refine st_exit (fin_exit_then (fin_exit_then (fin_exit ?_)))
     obtain rfl := Option.some.inj g
     obtain rfl := K _ rfl
     have g : kind_One_j1 = some r := O
     exact fj ap () g 2 [1]
theorem kind_Find_ok {g : Option Addr} {i : Nat} {l : List api_Kind} {a : ByteArray} (J : Mem w0 (Fz F W :: cs) w) (K : RdS R_api_Kind F W g i l) {j : Int} (c : kind_Find l a = some j) : Calls Tryz.prog 67 #[sl g l i, .string a] w (Post w0 (fun (_ : Unit) => True) (fun _ => vI j) (fun _ => Fz F W :: cs)) := by
 unfold kind_Find at c
 refine sx_calls Tryz.func67 rfl (n := 20) (by kernel_rfl) (l := [(0, sl g l i), (1, .string a)]) rfl (by rfl) J ?_
 refine st_seq (st_region [oF 0] (by rfl) ?_)
 refine oq [oF 0] [(0, sl g l i), (1, .string a)] ?_
 refine ops_nil (fin_then ?_)
 refine st_join1 (σ := Unit) (L := fun _ => []) (N := fun _ => Mem w0 (Fz F W :: cs)) (I := fun _ => (kind_Find_j1 = some j)) ?_ ?_
 ·
  rintro _ c
  unfold kind_Find_j1 at c
  refine st_seq (st_region [oF 0] (by rfl) ?_)
  refine oq [oF 0] [(4, vI (-1))] ?_
  refine ops_nil (fin_then (st_ret ?_))
  obtain rfl := Option.some.inj c
  exact fr [4] () trivial 0 []
 ·
  intro H
  refine st_seq (st_seq ?_)
  refine st_region (oFs 0 3) (by rfl) ?_
  refine oq (oFs 0 3) [(9, vI 0), (8, vI (l.length : Int)), (7, sl g l i), (1, .string a)] ?_
  refine ops_nil (fin_then (st_block ?_))
  obtain ⟨r2, O, y⟩ := obind c
  refine lp (σ := Int) (ρ := (Int ⊕ Unit)) (γ := Unit) O () (fun t r => match t, r with | f, _ => [(1, .string a), (7, sl g l i), (8, vI (l.length : Int)), (9, vI f)]) (fun t r => match t, r with | f, _ => Mem w0 (Fz F W :: cs)) (fun t r => match t, r with | f, _ => True) trivial 0 [] ?_
  rintro f _ V - hs_ x
  have c : (kind_Find_l2 l a) f = some V := hs_
  clear hs_
  unfold kind_Find_l2 at c
  refine st_seq (st_region [oF 0] (by rfl) ?_)
  refine oq [oF 0] [(10, .bool (decide (f < (l.length : Int)))), (1, .string a), (7, sl g l i), (8, vI (l.length : Int)), (9, vI f)] ?_
  refine ops_nil (fin_then (st_seq ?_))
  refine sif c (fun M c => ?_) (fun M c => ?_)
  ·
   refine st_skip (fin_then (st_seq (st_block (st_seq ?_))))
   refine st_region (oFs 0 6) (by rfl) ?_
   refine oq [oF 0] [(11, vI f), (1, .string a), (7, sl g l i), (8, vI (l.length : Int)), (9, vI f)] ?_
   obtain ⟨m, U, c⟩ := obind c
   obtain ⟨G, T, A⟩ := idx_some U
   have E := (List.getElem?_eq_some_iff.1 A).1
   obtain ⟨q, Z, B, hr9, s⟩ := RdS.el K A
   obtain ⟨o, p, rfl, Y⟩ := dec_api_Kind hr9
   refine ops_val (op := (.indexAddr 22 (.tmp 7) (.tmp 9))) (d := some 12) (v := .pointer (some (q.add (G * 2)))) ⟨by kernel_rfl⟩ (run_indexA B Tryz.underlying22 (z := 2) (by kernel_rfl) rfl rfl T E) ?_
   refine ops_mem (d := some 13) (an := [.v (.string m.Name), .v (sl o m.Fields p)]) (evs := [.load (q.add (G * 2)) (.string m.Name), .load ((q.add (G * 2)).add 1) (sl o m.Fields p)]) (v := .agg #[.string m.Name, sl o m.Fields p]) ⟨by kernel_rfl⟩ (fun X C hS => ⟨X, ⟨C.elcell 0 rfl s 0 rfl, C.elcell 0 rfl s 1 rfl, rfl⟩, C, trivial⟩) ?_
   refine oN 6 [.string ByteArray.empty, .slice none 0 0] 86 (fun u => ?_)
   refine oq [oF 4] [(5, vI f), (6, vP u 0), (13, .agg #[.string m.Name, sl o m.Fields p]), (1, .string a), (7, sl g l i), (8, vI (l.length : Int)), (9, vI f)] ?_
   refine oS 0 0 [.string m.Name, sl o m.Fields p] ?_
   refine ops_nil (fin_then (st_seq ?_))
   refine st_region (oFs 0 4) (by rfl) ?_
   refine oq [oF 0] [(14, vP u 0), (5, vI f), (1, .string a), (7, sl g l i), (8, vI (l.length : Int)), (9, vI f)] ?_
   refine oM 15 0 0 ?_
   refine oq [oF 2, oF 3] [(17, .bool (m.Name.toList == a.toList)), (5, vI f), (1, .string a), (7, sl g l i), (8, vI (l.length : Int)), (9, vI f)] ?_
   refine ops_nil (fin_then ?_)
   refine sif c (fun D c => ?_) (fun D c => ?_)
   ·
    refine st_seq (st_region [oF 0, oF 1] (by rfl) ?_)
    refine oq [oF 0, oF 1] [(4, vI f)] ?_
    refine ops_nil (fin_then (st_ret (fin_ret_block (fin_ret_then (fin_ret_then (fin_ret_block (fin_ret_then ?_)))))))
    obtain rfl := Option.some.inj c
    obtain rfl := x _ rfl
    have c : some f = some j := y
    obtain rfl := Option.some.inj c
    exact fr [4] () trivial 2 [1]
   ·
    refine st_skip (fin_block (fin_then (st_region [oF 0, oF 1] (by rfl) ?_)))
    refine oq [oF 0, oF 1] [(9, vI (IntKind.i64.wrap (f + 1))), (1, .string a), (7, sl g l i), (8, vI (l.length : Int))] ?_
    refine ops_nil ?_
    exact fag (IntKind.i64.wrap (f + 1)) () (Option.some.inj c).symm trivial 2 [1]
  ·
   refine st_exit (fin_exit_then (fin_exit_then (fin_exit ?_)))
   obtain rfl := Option.some.inj c
   obtain rfl := x _ rfl
   have c : kind_Find_j1 = some j := y
   exact fj H () c 0 []
theorem kind_Check_ok {b : Option Addr} {c : Nat} {l : List api_Kind} (af : Mem w0 (Fz F W :: cs) w) (A : RdS R_api_Kind F W b c l) {m : Int} (g : kind_Check l = some m) : Calls Tryz.prog 40 #[sl b l c] w (Post w0 (fun (_ : Unit) => True) (fun _ => vI m) (fun _ => Fz F W :: cs)) := by
 unfold kind_Check at g
 refine sx_calls Tryz.func40 rfl (n := 29) (by kernel_rfl) (l := [(0, sl b l c)]) rfl (by rfl) af ?_
 refine st_seq (st_region [oF 0] (by rfl) ?_)
 refine oq [oF 0] [(0, sl b l c)] ?_
 refine ops_nil (fin_then (st_seq (st_seq ?_)))
 refine st_region (oFs 0 3) (by rfl) ?_
 refine oq (oFs 0 3) [(8, .bool (decide (16 < (l.length : Int)))), (0, sl b l c)] ?_
 refine ops_nil (fin_then ?_)
 refine sif g (fun ag g => ?_) (fun ag g => ?_)
 ·
  refine st_seq (st_region [oF 0] (by rfl) ?_)
  refine oq [oF 0] [(2, vI 2)] ?_
  refine ops_nil (fin_then (st_ret (fin_ret_then ?_)))
  obtain rfl := Option.some.inj g
  exact fr [2] () trivial 0 []
 ·
  refine st_skip (fin_then ?_)
  refine st_join1 (σ := Unit) (L := fun _ => []) (N := fun _ => Mem w0 (Fz F W :: cs)) (I := fun _ => (kind_Check_j1 = some m)) ?_ ?_
  ·
   rintro _ g
   unfold kind_Check_j1 at g
   refine st_seq (st_region [oF 0] (by rfl) ?_)
   refine oq [oF 0] [(2, vI 0)] ?_
   refine ops_nil (fin_then (st_ret ?_))
   obtain rfl := Option.some.inj g
   exact fr [2] () trivial 0 []
  ·
   intro ac
   refine st_seq (st_seq ?_)
   refine st_region (oFs 0 3) (by rfl) ?_
   refine oq (oFs 0 3) [(11, vI 0), (10, vI (l.length : Int)), (9, sl b l c), (0, sl b l c)] ?_
   refine ops_nil (fin_then (st_block ?_))
   obtain ⟨r2, ai, D⟩ := obind g
   refine lp (σ := Int) (ρ := (Int ⊕ Unit)) (γ := Unit) ai () (fun G x => match G, x with | j, _ => [(0, sl b l c), (9, sl b l c), (10, vI (l.length : Int)), (11, vI j)]) (fun G x => match G, x with | j, _ => Mem w0 (Fz F W :: cs)) (fun G x => match G, x with | j, _ => True) trivial 0 [] ?_
   rintro j _ o2 - hs_ B
   have g : (kind_Check_l2 l) j = some o2 := hs_
   clear hs_
   unfold kind_Check_l2 at g
   refine st_seq (st_region [oF 0] (by rfl) ?_)
   refine oq [oF 0] [(12, .bool (decide (j < (l.length : Int)))), (0, sl b l c), (9, sl b l c), (10, vI (l.length : Int)), (11, vI j)] ?_
   refine ops_nil (fin_then (st_seq ?_))
   refine sif g (fun ah g => ?_) (fun ah g => ?_)
   ·
    refine st_skip (fin_then (st_seq (st_block (st_seq ?_))))
    refine st_region (oFs 0 6) (by rfl) ?_
    refine oq [oF 0] [(13, vI j), (0, sl b l c), (9, sl b l c), (10, vI (l.length : Int)), (11, vI j)] ?_
    obtain ⟨i, ak, g⟩ := obind g
    obtain ⟨m6, aj, M⟩ := idx_some ak
    have V := (List.getElem?_eq_some_iff.1 M).1
    obtain ⟨t, au, O, hr10, E⟩ := RdS.el A M
    obtain ⟨o, p, rfl, ad⟩ := dec_api_Kind hr10
    refine ops_val (op := (.indexAddr 22 (.tmp 9) (.tmp 11))) (d := some 14) (v := .pointer (some (t.add (m6 * 2)))) ⟨by kernel_rfl⟩ (run_indexA O Tryz.underlying22 (z := 2) (by kernel_rfl) rfl rfl aj V) ?_
    refine ops_mem (d := some 15) (an := [.v (.string i.Name), .v (sl o i.Fields p)]) (evs := [.load (t.add (m6 * 2)) (.string i.Name), .load ((t.add (m6 * 2)).add 1) (sl o i.Fields p)]) (v := .agg #[.string i.Name, sl o i.Fields p]) ⟨by kernel_rfl⟩ (fun J r hS => ⟨J, ⟨r.elcell 0 rfl E 0 rfl, r.elcell 0 rfl E 1 rfl, rfl⟩, r, trivial⟩) ?_
    refine oN 4 [.string ByteArray.empty, .slice none 0 0] 86 (fun q => ?_)
    refine oq [oF 4] [(3, vI j), (4, vP q 0), (15, .agg #[.string i.Name, sl o i.Fields p]), (0, sl b l c), (9, sl b l c), (10, vI (l.length : Int)), (11, vI j)] ?_
    refine oS 0 0 [.string i.Name, sl o i.Fields p] ?_
    refine ops_nil (fin_then (st_seq (st_seq ?_)))
    refine st_region (oFs 0 3) (by rfl) ?_
    refine oMA 16 0 0 2 ?_
    obtain ⟨s, Y, g⟩ := obind g
    refine oV (some 17) 2 [1, 0] 2 [1, 0] (fun _ r => kind_One_ok r ad Y) ?_
    rintro _ -
    refine oq [oF 2] [(5, vI s), (3, vI j), (4, vP q 0), (0, sl b l c), (9, sl b l c), (10, vI (l.length : Int)), (11, vI j)] ?_
    refine ops_nil (fin_then (st_seq (st_region [oF 0, oF 1] (by rfl) ?_)))
    refine oq [oF 0, oF 1] [(19, .bool (!(s == 0))), (5, vI s), (3, vI j), (4, vP q 0), (0, sl b l c), (9, sl b l c), (10, vI (l.length : Int)), (11, vI j)] ?_
    refine ops_nil (fin_then ?_)
    refine sif g (fun T g => ?_) (fun T g => ?_)
    ·
     refine st_seq (st_region [oF 0, oF 1] (by rfl) ?_)
     refine oq [oF 0, oF 1] [(2, vI s)] ?_
     refine ops_nil (fin_then (st_ret (fin_ret_then (fin_ret_block (fin_ret_then (fin_ret_then (fin_ret_block (fin_ret_then ?_))))))))
     obtain rfl := Option.some.inj g
     obtain rfl := B _ rfl
     have g : some s = some m := D
     obtain rfl := Option.some.inj g
     exact fr [2] () trivial 2 [1]
    ·
     refine st_skip (fin_then (st_seq ?_))
     refine st_region_draw [oT 0, oT 1, oT 3, oT 4, oF 2, oF 5, oT 6] (Mem w0 (.blk q [.string i.Name, sl o i.Fields p] 86 :: Fz F W :: cs)) (by kernel_rfl) (by kernel_rfl) (by kernel_rfl) (fun _ d _ _ _ h => by cases d <;> exact h) (M' := Mem w0 (.blk q [.string i.Name, sl o i.Fields p] 86 :: Fz F W :: cs)) (fun J r => ⟨r.drew, r.drew.sub (.cons_cons _ (.cons_cons _ (.refl _)))⟩) ?_
     refine oq [oT 0, oT 1, oT 3] [(24, vP q 0), (22, vI j), (21, sl b l c), (0, sl b l c), (9, sl b l c), (10, vI (l.length : Int)), (11, vI j)] ?_
     refine oL 25 0 0 ?_
     obtain ⟨u, Z, g⟩ := obind g
     obtain ⟨al, ar, ap, X, K, y, C⟩ := cut_some Z
     have ao := cut_len C K y
     have ae : RdS R_api_Kind F W b c u := by have h_ := A.cut K y; rw [← C] at h_; rw [show al = 0 by omega, cutA_zero, Nat.sub_zero] at h_; exact h_
     refine ops_val (op := (.slice 22 (.tmp 21) none (some (.tmp 22)) none)) (d := some 23) (v := sl b u c) ⟨by kernel_rfl⟩ (run_cutH0 (by kernel_rfl) (z := 2) (by kernel_rfl) rfl rfl X (Nat.le_trans y A.cap) (by omega)) ?_
     obtain ⟨H, aa, g⟩ := obind g
     refine ops_callI (σ := Unit) (d := some 26) (f := 67) (args := #[sl b u c, .string i.Name]) (v := (fun _ => vI H)) (I := (fun _ => True)) (M' := (fun _ => Mem w0 (.blk q [.string i.Name, sl o i.Fields p] 86 :: Fz F W :: cs))) ⟨by kernel_rfl⟩ (fun J r hS => (@kind_Find_ok w0 J (.blk q [.string i.Name, sl o i.Fields p] 86 :: cs) F W b c u i.Name (r.pick 2 [1, 0] (by kernel_rfl) (by decide) rfl) ae H aa).mono (by rintro e w' ⟨_, -, rfl, h'⟩; have h' : Mem w0 (.blk q [.string i.Name, sl o i.Fields p] 86 :: Fz F W :: cs) w' := (h'.pick 2 [1, 0] (by kernel_rfl) (by decide) rfl); exact ⟨(), trivial, rfl, h', (by exact h'.sub (.cons_cons _ (.cons_cons _ (.refl _))))⟩)) ?_
     rintro _ -
     refine oq [oT 6] [(27, .bool (decide (0 ≤ H))), (0, sl b l c), (9, sl b l c), (10, vI (l.length : Int)), (11, vI j)] ?_
     refine ops_nil (fin_then ?_)
     refine sif g (fun U g => ?_) (fun U g => ?_)
     ·
      refine st_seq (st_region [oF 0] (by rfl) ?_)
      refine oq [oF 0] [(2, vI 5)] ?_
      refine ops_nil (fin_then (st_ret (fin_ret_block (fin_ret_then (fin_ret_then (fin_ret_block (fin_ret_then ?_)))))))
      obtain rfl := Option.some.inj g
      obtain rfl := B _ rfl
      have g : some 5 = some m := D
      obtain rfl := Option.some.inj g
      exact fr [2] () trivial 2 [1]
     ·
      refine st_skip (fin_block (fin_then (st_region [oF 0, oF 1] (by rfl) ?_)))
      refine oq [oF 0, oF 1] [(11, vI (IntKind.i64.wrap (j + 1))), (0, sl b l c), (9, sl b l c), (10, vI (l.length : Int))] ?_
      refine ops_nil ?_
      exact fag (IntKind.i64.wrap (j + 1)) () (Option.some.inj g).symm trivial 2 [1]
   ·
    refine st_exit (fin_exit_then (fin_exit_then (fin_exit ?_)))
    obtain rfl := Option.some.inj g
    obtain rfl := B _ rfl
    have g : kind_Check_j1 = some m := D
    exact fj ac () g 0 []
theorem kind_High_ok {f : ByteArray} {g : Int} {b : Int} (m : Mem w0 (Fz F W :: cs) w) {j : Int} (c : kind_High f g b = some j) : Calls Tryz.prog 88 #[.agg #[.string f, vI g, vI b]] w (Post w0 (fun (_ : Unit) => True) (fun _ => vI j) (fun _ => Fz F W :: cs)) := by
 unfold kind_High at c
 refine sx_calls Tryz.func88 rfl (n := 13) (by kernel_rfl) (l := [(0, .agg #[.string f, vI g, vI b])]) rfl (by rfl) m ?_
 refine st_seq (st_region [oF 0, oF 1] (by rfl) ?_)
 refine oN 1 [.string f, vI g, vI b] 99 (fun i => ?_)
 refine oq [oF 1] [(1, vP i 0)] ?_
 refine ops_nil (fin_then (st_seq (st_seq ?_)))
 refine st_region (oFs 0 3) (by rfl) ?_
 refine oMA 3 0 0 3 ?_
 obtain ⟨u, r, c⟩ := obind c
 refine oV (some 4) 2 [1, 0] 2 [1, 0] (fun _ k => kind_field_ok k r) ?_
 rintro _ -
 refine oq [oF 2] [(5, .bool (!(u == 0))), (1, vP i 0)] ?_
 refine ops_nil (fin_then ?_)
 refine sif c (fun p c => ?_) (fun p c => ?_)
 ·
  refine st_seq (st_region [oF 0] (by rfl) ?_)
  refine oq [oF 0] [(2, vI 0)] ?_
  refine ops_nil (fin_then (st_ret (fin_ret_then ?_)))
  obtain rfl := Option.some.inj c
  exact fr [2] () trivial 2 [1]
 ·
  refine st_skip (fin_then (st_seq ?_))
  refine st_region_draw (oTs 0 8) (Mem w0 (.blk i [.string f, vI g, vI b] 99 :: Fz F W :: cs)) (by kernel_rfl) (by kernel_rfl) (by kernel_rfl) (fun _ d _ _ _ h => by cases d <;> exact h) (M' := Mem w0 (.blk i [.string f, vI g, vI b] 99 :: Fz F W :: cs)) (fun x k => ⟨k.drew, k.drew.sub (.cons_cons _ (.cons_cons _ (.refl _)))⟩) ?_
  refine oq [oT 0] [(6, vP i 2), (1, vP i 0)] ?_
  refine oL 7 0 2 ?_
  refine oq [oT 2] [(8, vP i 1), (7, vI b)] ?_
  refine oL 9 0 1 ?_
  obtain ⟨t, s, c⟩ := obind c
  obtain ⟨o, q⟩ := shl_some s
  refine ops_val (op := (.binOp Go.BinOp.shl 3 (.const (Go.Value.int Go.IntKind.i64 1)) (.tmp 9) 3)) (d := some 10) (v := vI t) ⟨by kernel_rfl⟩ (by rw [q]; exact run_shl rfl rfl o) ?_
  refine oq (oTs 5 3) [(2, vI (IntKind.i64.wrap (b + IntKind.i64.wrap (t - 1))))] ?_
  refine ops_nil (fin_then (st_ret ?_))
  obtain rfl := Option.some.inj c
  exact fr [2] () trivial 2 [1]
theorem kind_Near_ok {c : ByteArray} {g : Int} {b : Int} {v : Int} (q : Mem w0 (Fz F W :: cs) w) {k : Int} (j : kind_Near c g b v = some k) : Calls Tryz.prog 69 #[.agg #[.string c, vI g, vI b], vI v] w (Post w0 (fun (_ : Unit) => True) (fun _ => vI k) (fun _ => Fz F W :: cs)) := by
 unfold kind_Near at j
 refine sx_calls Tryz.func69 rfl (n := 15) (by kernel_rfl) (l := [(0, .agg #[.string c, vI g, vI b]), (1, vI v)]) rfl (by rfl) q ?_
 refine st_seq (st_region [oF 0, oF 1] (by rfl) ?_)
 refine oN 2 [.string c, vI g, vI b] 99 (fun i => ?_)
 refine oq [oF 1] [(2, vP i 0), (1, vI v)] ?_
 refine ops_nil (fin_then (st_seq (st_seq ?_)))
 refine st_region (oFs 0 3) (by rfl) ?_
 refine oMA 5 0 0 3 ?_
 obtain ⟨x, s, j⟩ := obind j
 refine oV (some 6) 2 [1, 0] 2 [1, 0] (fun _ m => kind_field_ok m s) ?_
 rintro _ -
 refine oq [oF 2] [(7, .bool (!(x == 0))), (2, vP i 0), (1, vI v)] ?_
 refine ops_nil (fin_then ?_)
 refine sif j (fun r j => ?_) (fun r j => ?_)
 ·
  refine st_seq (st_region [oF 0] (by rfl) ?_)
  refine oq [oF 0] [(4, vI 0)] ?_
  refine ops_nil (fin_then (st_ret (fin_ret_then ?_)))
  obtain rfl := Option.some.inj j
  exact fr [4] () trivial 2 [1]
 ·
  refine st_skip (fin_then (st_seq ?_))
  refine st_region_draw [oT 0, oT 1, oT 2, oT 3, oF 4, oT 5, oT 6, oT 7] (Mem w0 (.blk i [.string c, vI g, vI b] 99 :: Fz F W :: cs)) (by kernel_rfl) (by kernel_rfl) (by kernel_rfl) (fun _ d _ _ _ h => by cases d <;> exact h) (M' := Mem w0 (.blk i [.string c, vI g, vI b] 99 :: Fz F W :: cs)) (fun u m => ⟨m.drew, m.drew.sub (.cons_cons _ (.cons_cons _ (.refl _)))⟩) ?_
  refine oq [oT 0] [(8, vP i 2), (2, vP i 0), (1, vI v)] ?_
  refine oL 9 0 2 ?_
  refine oq [oT 2] [(10, vI v), (9, vI b), (2, vP i 0)] ?_
  refine oLA 11 0 0 3 ?_
  obtain ⟨p, t, j⟩ := obind j
  refine ops_callI (σ := Unit) (d := some 12) (f := 88) (args := #[.agg #[.string c, vI g, vI b]]) (v := (fun _ => vI p)) (I := (fun _ => True)) (M' := (fun _ => Mem w0 (.blk i [.string c, vI g, vI b] 99 :: Fz F W :: cs))) ⟨by kernel_rfl⟩ (fun u m y => (@kind_High_ok w0 u (.blk i [.string c, vI g, vI b] 99 :: cs) F W c g b (m.pick 2 [1, 0] (by kernel_rfl) (by decide) rfl)  p t).mono (by rintro e w' ⟨_, -, rfl, h'⟩; have h' : Mem w0 (.blk i [.string c, vI g, vI b] 99 :: Fz F W :: cs) w' := (h'.pick 2 [1, 0] (by kernel_rfl) (by decide) rfl); exact ⟨(), trivial, rfl, h', (by exact h'.sub (.cons_cons _ (.cons_cons _ (.refl _))))⟩)) ?_
  rintro _ -
  refine ops_val (op := (.call { callee := (Go.Callee.builtin Go.Builtin.min), args := #[(.tmp 10), (.tmp 12)], argTypes := #[3, 3] })) (d := some 13) (v := vI (min v p)) ⟨by kernel_rfl⟩ (run_min rfl rfl) ?_
  refine ops_val (op := (.call { callee := (Go.Callee.builtin Go.Builtin.max), args := #[(.tmp 9), (.tmp 13)], argTypes := #[3, 3] })) (d := some 14) (v := vI (max b (min v p))) ⟨by kernel_rfl⟩ (run_max rfl rfl) ?_
  refine oq [oT 7] [(4, vI (max b (min v p)))] ?_
  refine ops_nil (fin_then (st_ret ?_))
  obtain rfl := Option.some.inj j
  exact fr [4] () trivial 2 [1]
theorem kind_Fit_ok {ad : ByteArray} {k : Option Addr} {m : Nat} {j : List api_Field} {a : Option Addr} {b : Nat} {g : List Int} (bl : Mem w0 (Fz F W :: cs) w) (ac : RdS R_api_Field F W k m j) (ah : RdS (Rep.int .i64) F W a b g) {A : List Int} {H : Int} (p : kind_Fit ad j g = some (A, H)) : Calls Tryz.prog 43 #[.agg #[.string ad, sl k j m], sl a g b] w (Post w0 (fun ((E, G, J) : (Option Addr) × Nat × (List Value)) => (RepL (Rep.int .i64) F W A J)) (fun (E, G, J) => .tuple #[sl E A G, vI H]) (fun (E, G, J) => ow E A G 3 1 J :: Fz F W :: cs)) := by
 unfold kind_Fit at p
 refine sx_calls Tryz.func43 rfl (n := 43) (by kernel_rfl) (l := [(0, .agg #[.string ad, sl k j m]), (1, sl a g b)]) rfl (by rfl) bl ?_
 refine st_seq ?_
 refine st_region (oFs 0 3) (by rfl) ?_
 refine oN 2 [.string ad, sl k j m] 86 (fun U => ?_)
 refine oq [oF 1, oF 2] [(2, vP U 0), (1, sl a g b)] ?_
 refine ops_nil (fin_then (st_seq (st_seq ?_)))
 refine st_region (oFs 0 3) (by rfl) ?_
 refine oMA 10 0 0 2 ?_
 obtain ⟨x2, br, p⟩ := obind p
 refine oV (some 11) 2 [1, 0] 2 [1, 0] (fun _ s => kind_One_ok s ac br) ?_
 rintro _ -
 refine oq [oF 2] [(6, vI x2), (2, vP U 0), (1, sl a g b)] ?_
 refine ops_nil (fin_then (st_seq (st_region [oF 0, oF 1] (by rfl) ?_)))
 refine oq [oF 0, oF 1] [(13, .bool (!(x2 == 0))), (6, vI x2), (2, vP U 0), (1, sl a g b)] ?_
 refine ops_nil (fin_then ?_)
 refine sif p (fun bm p => ?_) (fun bm p => ?_)
 ·
  refine st_seq ?_
  refine st_region (oFs 0 3) (by rfl) ?_
  refine oq (oFs 0 3) [(5, vI x2), (4, .slice none 0 0)] ?_
  refine ops_nil (fin_then (st_ret (fin_ret_then ?_)))
  refine fnil 3 1 ?_
  obtain ⟨rfl, rfl⟩ := si2 p
  exact fr [4, 5] (none, 0, []) (RepL.nil (R := (Rep.int .i64))) 3 [0, 2]
 ·
  refine st_skip (fin_then (st_seq (st_seq ?_)))
  refine st_region (oFs 0 6) (by rfl) ?_
  refine oq (oFs 0 3) [(17, vP U 1), (16, vI (g.length : Int)), (2, vP U 0), (1, sl a g b)] ?_
  refine oM 18 0 1 ?_
  refine oq [oF 4, oF 5] [(20, .bool (!((g.length : Int) == (j.length : Int)))), (2, vP U 0), (1, sl a g b)] ?_
  refine ops_nil (fin_then ?_)
  refine sif p (fun bn p => ?_) (fun bn p => ?_)
  ·
   refine st_seq (st_region [oF 0, oF 1] (by rfl) ?_)
   refine oq [oF 0, oF 1] [(5, vI 1), (4, .slice none 0 0)] ?_
   refine ops_nil (fin_then (st_ret (fin_ret_then ?_)))
   refine fnil 3 1 ?_
   obtain ⟨rfl, rfl⟩ := si2 p
   exact fr [4, 5] (none, 0, []) (RepL.nil (R := (Rep.int .i64))) 3 [0, 2]
  ·
   refine st_skip (fin_then (st_seq ?_))
   refine st_region (oFs 0 4) (by rfl) ?_
   refine oq [oF 0, oF 1] [(22, vI (g.length : Int)), (2, vP U 0), (1, sl a g b)] ?_
   obtain ⟨r, bs, p⟩ := obind p
   obtain ⟨m8, az, ai, a4⟩ := mk_some bs
   have V : r.length = m8 := by rw [ai, List.length_replicate]
   obtain ⟨aw, aq⟩ : ∃ y_, (Sx.madeOf [vI 0] (r.length * 1)).toList = y_ := ⟨_, rfl⟩
   have bi : RepL (Rep.int .i64) F W r aw := by rw [← aq, V, ai]; exact RepL.made rfl (by decide) _
   refine ops_makeO (t := 23) (x := (Go.Operand.tmp 22)) (y := (Go.Operand.tmp 22)) (d := some 23) (nn := r.length) (z := 1) (bytes := 8) (xs := aw) (zv := vI 0) ⟨by kernel_rfl⟩ rfl rfl (by rw [V]; exact az) (by rw [V]; exact az) Tryz.underlying23 (by kernel_rfl) (by rw [V]; exact a4) (by rfl) aq (fun _ _ _ hS h' => trivial) (fun i => ?_)
   refine oq [oF 3] [(7, sl (sa i) r r.length), (2, vP U 0), (1, sl a g b)] ?_
   refine ops_nil (fin_then ?_)
   refine st_join1 (σ := (List Int) × (List Value)) (L := fun x_ => match x_ with | (D, O) => [(7, sl (sa i) D r.length)]) (N := fun x_ => match x_ with | (D, O) => Mem w0 (ow (sa i) D r.length 3 1 O :: Fz F W :: cs)) (I := fun x_ => match x_ with | (D, O) => (kind_Fit_j1 D = some (A, H)) ∧ (RepL (Rep.int .i64) F W D O)) ?_ ?_
   ·
    rintro ⟨D, O⟩ ⟨p, bj⟩
    unfold kind_Fit_j1 at p
    refine st_seq ?_
    refine st_region (oFs 0 3) (by rfl) ?_
    refine oq (oFs 0 3) [(5, vI 0), (4, sl (sa i) D r.length)] ?_
    refine ops_nil (fin_then (st_ret ?_))
    obtain ⟨rfl, rfl⟩ := si2 p
    exact fr [4, 5] ((sa i), r.length, O) bj 0 []
   ·
    intro bh
    refine st_seq (st_seq ?_)
    refine st_region (oFs 0 4) (by rfl) ?_
    refine oq [oF 0] [(24, vP U 1), (7, sl (sa i) r r.length), (1, sl a g b)] ?_
    refine oM 25 1 1 ?_
    refine oq [oF 2, oF 3] [(27, vI 0), (26, vI (j.length : Int)), (25, sl k j m), (7, sl (sa i) r r.length), (1, sl a g b)] ?_
    refine ops_nil (fin_then (st_block ?_))
    obtain ⟨r2, bq, bp⟩ := obind p
    refine lp (σ := (List Int) × Int) (ρ := (List Int)) (γ := (List Value)) bq aw (fun s_ g_ => match s_, g_ with | (o, q), u => [(1, sl a g b), (7, sl (sa i) o r.length), (25, sl k j m), (26, vI (j.length : Int)), (27, vI q)]) (fun s_ g_ => match s_, g_ with | (o, q), u => Mem w0 (ow (sa i) o r.length 3 1 u :: Fz F W :: cs)) (fun s_ g_ => match s_, g_ with | (o, q), u => (RepL (Rep.int .i64) F W o u)) bi 3 [0, 2] ?_
    rintro ⟨o, q⟩ u o2 ab hs_ bo
    have p : (kind_Fit_l2 j g) o q = some o2 := hs_
    clear hs_
    unfold kind_Fit_l2 at p
    refine st_seq (st_region [oF 0] (by rfl) ?_)
    refine oq [oF 0] [(28, .bool (decide (q < (j.length : Int)))), (1, sl a g b), (7, sl (sa i) o r.length), (25, sl k j m), (26, vI (j.length : Int)), (27, vI q)] ?_
    refine ops_nil (fin_then (st_seq ?_))
    refine sif p (fun a5 p => ?_) (fun a5 p => ?_)
    ·
     refine st_skip (fin_then (st_seq (st_block (st_seq ?_))))
     refine st_region (oFs 0 6) (by rfl) ?_
     refine oq [oF 0] [(29, vI q), (1, sl a g b), (7, sl (sa i) o r.length), (25, sl k j m), (26, vI (j.length : Int)), (27, vI q)] ?_
     obtain ⟨c, bc, p⟩ := obind p
     obtain ⟨ae, a9, am⟩ := idx_some bc
     have a6 := (List.getElem?_eq_some_iff.1 am).1
     obtain ⟨T, b0, a1, hr31, Z⟩ := RdS.el ac am
     obtain rfl := dec_api_Field hr31
     refine ops_val (op := (.indexAddr 84 (.tmp 25) (.tmp 27))) (d := some 30) (v := .pointer (some (T.add (ae * 3)))) ⟨by kernel_rfl⟩ (run_indexA a1 Tryz.underlying84 (z := 3) (by kernel_rfl) rfl rfl a9 a6) ?_
     refine ops_mem (d := some 31) (an := [.v (.string c.Name), .v (vI c.Bits), .v (vI c.Low)]) (evs := [.load (T.add (ae * 3)) (.string c.Name), .load ((T.add (ae * 3)).add 1) (vI c.Bits), .load ((T.add (ae * 3)).add 2) (vI c.Low)]) (v := .agg #[.string c.Name, vI c.Bits, vI c.Low]) ⟨by kernel_rfl⟩ (fun w_ s hS => ⟨w_, ⟨s.elcell 1 rfl Z 0 rfl, s.elcell 1 rfl Z 1 rfl, s.elcell 1 rfl Z 2 rfl, rfl⟩, s, trivial⟩) ?_
     refine oN 9 [.string ByteArray.empty, vI 0, vI 0] 99 (fun C => ?_)
     refine oq [oF 4] [(8, vI q), (9, vP C 0), (31, .agg #[.string c.Name, vI c.Bits, vI c.Low]), (1, sl a g b), (7, sl (sa i) o r.length), (25, sl k j m), (26, vI (j.length : Int)), (27, vI q)] ?_
     refine oS 0 0 [.string c.Name, vI c.Bits, vI c.Low] ?_
     refine ops_nil (fin_then ?_)
     refine st_region_draw [oT 0, oT 1, oT 2, oT 3, oT 4, oT 5, oT 6, oF 7, oT 8, oF 9] (Mem w0 (.blk C [.string c.Name, vI c.Bits, vI c.Low] 99 :: Fz F W :: cs)) (by kernel_rfl) (by kernel_rfl) (by kernel_rfl) (fun _ d _ _ _ h => by cases d <;> exact h) (M' := Mem w0 (.blk C [.string c.Name, vI c.Bits, vI c.Low] 99 :: ow (sa i) o r.length 3 1 u :: Fz F W :: cs)) (fun w_ s => ⟨s.drew, s.drew.sub (.cons_cons _ (.cons _ (.cons_cons _ (.refl _))))⟩) ?_
     refine oq [oT 0, oT 1] [(33, vI q), (32, sl (sa i) o r.length), (8, vI q), (9, vP C 0), (1, sl a g b), (7, sl (sa i) o r.length), (25, sl k j m), (26, vI (j.length : Int)), (27, vI q)] ?_
     refine oLA 34 0 0 3 ?_
     refine oq [oT 3, oT 4] [(36, vI q), (35, sl a g b), (34, .agg #[.string c.Name, vI c.Bits, vI c.Low]), (33, vI q), (32, sl (sa i) o r.length), (1, sl a g b), (7, sl (sa i) o r.length), (25, sl k j m), (26, vI (j.length : Int)), (27, vI q)] ?_
     obtain ⟨X, bd, p⟩ := obind p
     obtain ⟨a0, ba, ao⟩ := idx_some bd
     have a7 := (List.getElem?_eq_some_iff.1 ao).1
     obtain ⟨af, b2, a2, hr43, bb⟩ := RdS.el ah ao
     obtain rfl := hr43
     refine ops_val (op := (.indexAddr 23 (.tmp 35) (.tmp 36))) (d := some 37) (v := .pointer (some (af.add (a0 * 1)))) ⟨by kernel_rfl⟩ (run_indexA a2 Tryz.underlying23 (z := 1) (by kernel_rfl) rfl rfl ba a7) ?_
     refine ops_load (d := some 38) (an := [.v (vI X)]) (evs := [.load (af.add (a0 * 1)) (vI X)]) (v := vI X) ⟨by kernel_rfl⟩ (fun w_ s => ⟨s.elcell 1 rfl bb 0 rfl, rfl⟩) ?_
     obtain ⟨K, be, p⟩ := obind p
     refine ops_callI (σ := Unit) (d := some 39) (f := 69) (args := #[.agg #[.string c.Name, vI c.Bits, vI c.Low], vI X]) (v := (fun _ => vI K)) (I := (fun _ => True)) (M' := (fun _ => Mem w0 (.blk C [.string c.Name, vI c.Bits, vI c.Low] 99 :: ow (sa i) o r.length 3 1 u :: Fz F W :: cs))) ⟨by kernel_rfl⟩ (fun w_ s hS => (@kind_Near_ok w0 w_ (.blk C [.string c.Name, vI c.Bits, vI c.Low] 99 :: ow (sa i) o r.length 3 1 u :: cs) F W c.Name c.Bits c.Low X (s.pick 3 [2, 0, 1] (by kernel_rfl) (by decide) rfl)  K be).mono (by rintro e w' ⟨_, -, rfl, h'⟩; have h' : Mem w0 (.blk C [.string c.Name, vI c.Bits, vI c.Low] 99 :: ow (sa i) o r.length 3 1 u :: Fz F W :: cs) w' := (h'.pick 3 [1, 2, 0] (by kernel_rfl) (by decide) rfl); exact ⟨(), trivial, rfl, h', (by exact h'.sub (.cons_cons _ (.cons _ (.cons_cons _ (.refl _)))))⟩)) ?_
     rintro _ -
     obtain ⟨bu, bf, p⟩ := obind p
     obtain ⟨B, al, ap⟩ := idx_some bf
     have a8 := (List.getElem?_eq_some_iff.1 ap).1
     obtain ⟨b3, hr56, bw⟩ := ab.at_ B bu ap
     obtain rfl := hr56
     refine ops_val (op := (.indexAddr 23 (.tmp 32) (.tmp 33))) (d := some 40) (v := vP i (B * 1)) ⟨by kernel_rfl⟩ (run_indexRow Tryz.underlying23 (z := 1) (by kernel_rfl) rfl rfl al a8 rfl) ?_
     refine oq [] [(40, vP i (B * 1)), (39, vI K), (1, sl a g b), (7, sl (sa i) o r.length), (25, sl k j m), (26, vI (j.length : Int)), (27, vI q)] ?_
     obtain ⟨M, bg, p⟩ := obind p
     obtain ⟨bt, bv, ak, aj⟩ := upd_some bg
     obtain rfl : B = bt := by have := al; omega
     have Y : o.length = M.length := by rw [aj, List.length_set]
     obtain ⟨ax, ar⟩ : ∃ y_, setAll u (B * 1 + 0) [vI K] = y_ := ⟨_, rfl⟩
     have bk : RepL (Rep.int .i64) F W M ax := by rw [aj, ← ar]; exact RepL.set ab (List.getElem?_eq_getElem ak) (fun vs_ hr_ _ => by obtain rfl := hr_; exact ⟨rfl, Nat.le_of_ble_eq_true rfl⟩)
     refine ops_store (an := []) (evs := [.store ⟨i, B * 1, none⟩ (vI K)]) ⟨by kernel_rfl⟩ (fun w_ s hS => let ⟨w', he, h'⟩ := s.ostore' 1 rfl (B * 1 + 0) [vI K] (by have z_ : u.length = o.length * 1 := ab.len; have y_ : (B + 1) * 1 ≤ o.length * 1 := Nat.mul_le_mul_right _ ak; rw [Nat.add_mul] at y_; simp only [List.length_cons, List.length_nil]; omega) Y ar; ⟨w', he, h', (by exact h'.sub (.cons_cons _ (.cons _ (.cons_cons _ (.refl _)))))⟩) ?_
     refine ops_conv (l' := [(40, vP i (B * 1)), (39, vI K), (1, sl a g b), (7, sl (sa i) M r.length), (25, sl k j m), (26, vI (j.length : Int)), (27, vI q)]) (M' := Mem w0 (.blk C [.string c.Name, vI c.Bits, vI c.Low] 99 :: ow (sa i) M r.length 3 1 ax :: Fz F W :: cs)) (by first | rfl | ((try dsimp only [sl, ow]); rw [Y])) (fun w_ s => by first | exact s | ((try dsimp only [sl, ow] at s ⊢); rw [Y] at s; exact s)) ?_
     refine ops_nil (fin_block (fin_then (st_region [oF 0, oF 1] (by rfl) ?_)))
     refine oq [oF 0, oF 1] [(27, vI (IntKind.i64.wrap (q + 1))), (1, sl a g b), (7, sl (sa i) M r.length), (25, sl k j m), (26, vI (j.length : Int))] ?_
     refine ops_nil ?_
     exact fag (M, IntKind.i64.wrap (q + 1)) ax (Option.some.inj p).symm bk 3 [1, 2]
    ·
     refine st_exit (fin_exit_then (fin_exit_then (fin_exit ?_)))
     obtain rfl := Option.some.inj p
     obtain rfl := bo _ rfl
     have p : kind_Fit_j1 o = some (A, H) := bp
     exact fj bh (o, u) ⟨p, ab⟩ 0 []
theorem kind_Holds_ok {y : ByteArray} {k : Option Addr} {o : Nat} {s : List api_Field} {a : Option Addr} {b : Nat} {c : List Int} (ai : Mem w0 (Fz F W :: cs) w) (K : RdS R_api_Field F W k o s) (x : RdS (Rep.int .i64) F W a b c) {p : Bool} (g : kind_Holds y s c = some p) : Calls Tryz.prog 84 #[.agg #[.string y, sl k s o], sl a c b] w (Post w0 (fun (_ : Unit) => True) (fun _ => .bool p) (fun _ => Fz F W :: cs)) := by
 unfold kind_Holds at g
 refine sx_calls Tryz.func84 rfl (n := 31) (by kernel_rfl) (l := [(0, .agg #[.string y, sl k s o]), (1, sl a c b)]) rfl (by rfl) ai ?_
 refine st_seq (st_region [oF 0, oF 1] (by rfl) ?_)
 refine oN 2 [.string y, sl k s o] 86 (fun b1 => ?_)
 refine oq [oF 1] [(2, vP b1 0), (1, sl a c b)] ?_
 refine ops_nil (fin_then (st_seq ?_))
 refine st_region (oFs 0 8) (by rfl) ?_
 refine oMA 9 0 0 2 ?_
 refine oq [oF 1] [(10, sl a c b), (9, .agg #[.string y, sl k s o]), (1, sl a c b)] ?_
 obtain ⟨j, x3, al, g⟩ := obind2 g
 refine oV (some 11) 2 [1, 0] 3 [0, 2, 1] (fun _ r => kind_Fit_ok r K x al) ?_
 rintro ⟨q, m, y7⟩ h8
 refine oq (oFs 3 5) [(6, vI x3), (5, sl q j m), (1, sl a c b)] ?_
 refine ops_nil (fin_then (st_seq (st_seq (st_region [oF 0, oF 1] (by rfl) ?_))))
 refine oq [oF 0, oF 1] [(15, .bool (!(x3 == 0))), (5, sl q j m), (1, sl a c b)] ?_
 refine ops_nil (fin_then ?_)
 refine sif g (fun aj g => ?_) (fun aj g => ?_)
 ·
  refine st_seq (st_region [oF 0] (by rfl) ?_)
  refine oq [oF 0] [(4, .bool false)] ?_
  refine ops_nil (fin_then (st_ret (fin_ret_then ?_)))
  obtain rfl := Option.some.inj g
  exact fr [4] () trivial 3 [2]
 ·
  refine st_skip (fin_then ?_)
  refine st_join1 (σ := Unit) (L := fun _ => []) (N := fun _ => Mem w0 (Fz F W :: cs)) (I := fun _ => (kind_Holds_j1 = some p)) ?_ ?_
  ·
   rintro _ g
   unfold kind_Holds_j1 at g
   refine st_seq (st_region [oF 0] (by rfl) ?_)
   refine oq [oF 0] [(4, .bool true)] ?_
   refine ops_nil (fin_then (st_ret ?_))
   obtain rfl := Option.some.inj g
   exact fr [4] () trivial 0 []
  ·
   intro ah
   refine st_seq (st_seq ?_)
   refine st_region (oFs 0 3) (by rfl) ?_
   refine oq (oFs 0 3) [(18, vI 0), (17, vI (j.length : Int)), (5, sl q j m), (1, sl a c b)] ?_
   refine ops_nil (fin_then (st_block ?_))
   obtain ⟨r2, ak, O⟩ := obind g
   refine lp (σ := Int) (ρ := (Bool ⊕ Unit)) (γ := Unit) ak () (fun J C => match J, C with | i, _ => [(1, sl a c b), (5, sl q j m), (17, vI (j.length : Int)), (18, vI i)]) (fun J C => match J, C with | i, _ => Mem w0 (ow q j m 3 1 y7 :: Fz F W :: cs)) (fun J C => match J, C with | i, _ => True) trivial 3 [0, 2] ?_
   rintro i _ o2 - hs_ M
   have g : (kind_Holds_l2 j c) i = some o2 := hs_
   clear hs_
   unfold kind_Holds_l2 at g
   refine st_seq (st_region [oF 0] (by rfl) ?_)
   refine oq [oF 0] [(19, .bool (decide (i < (j.length : Int)))), (1, sl a c b), (5, sl q j m), (17, vI (j.length : Int)), (18, vI i)] ?_
   refine ops_nil (fin_then (st_seq ?_))
   refine sif g (fun V g => ?_) (fun V g => ?_)
   ·
    refine st_skip (fin_then (st_seq (st_block (st_seq (st_region [oF 0, oF 1] (by rfl) ?_)))))
    refine oq [oF 0, oF 1] [(7, vI i), (1, sl a c b), (5, sl q j m), (17, vI (j.length : Int)), (18, vI i)] ?_
    refine ops_nil (fin_then (st_seq ?_))
    refine st_region_draw (oTs 0 9) (Mem w0 (ow q j m 3 1 y7 :: Fz F W :: cs)) (by kernel_rfl) (by kernel_rfl) (by kernel_rfl) (fun _ d _ _ _ h => by cases d <;> exact h) (M' := Mem w0 (ow q j m 3 1 y7 :: Fz F W :: cs)) (fun w_ r => ⟨r.drew, r.drew.sub (.cons_cons _ (.cons_cons _ (.refl _)))⟩) ?_
    refine oq [oT 0, oT 1] [(22, vI i), (21, sl q j m), (7, vI i), (1, sl a c b), (5, sl q j m), (17, vI (j.length : Int)), (18, vI i)] ?_
    obtain ⟨t, ad, g⟩ := obind g
    obtain ⟨H, Z, E⟩ := idx_some ad
    have D := (List.getElem?_eq_some_iff.1 E).1
    refine ops_fact (fun w_ r => r.orowSome 0 rfl (Nat.lt_of_le_of_lt (Nat.zero_le _) D)) ?_
    rintro ⟨u, rfl, -⟩
    obtain ⟨ar, hr18, ab⟩ := h8.at_ H t E
    obtain rfl := hr18
    refine ops_val (op := (.indexAddr 23 (.tmp 21) (.tmp 22))) (d := some 23) (v := vP u (H * 1)) ⟨by kernel_rfl⟩ (run_indexRow Tryz.underlying23 (z := 1) (by kernel_rfl) rfl rfl Z D rfl) ?_
    refine ops_load (d := some 24) (an := [.v (vI t)]) (evs := [.load ⟨u, H * 1, none⟩ (vI t)]) (v := vI t) ⟨by kernel_rfl⟩ (fun w_ r => ⟨r.ocell 0 rfl (ab 0 _ rfl), rfl⟩) ?_
    refine oq [oT 4, oT 5] [(26, vI i), (25, sl a c b), (24, vI t), (1, sl a c b), (5, sl (sa u) j m), (17, vI (j.length : Int)), (18, vI i)] ?_
    obtain ⟨A, ae, g⟩ := obind g
    obtain ⟨T, aa, G⟩ := idx_some ae
    have Y := (List.getElem?_eq_some_iff.1 G).1
    obtain ⟨B, au, U, hr28, ac⟩ := RdS.el x G
    obtain rfl := hr28
    refine ops_val (op := (.indexAddr 23 (.tmp 25) (.tmp 26))) (d := some 27) (v := .pointer (some (B.add (T * 1)))) ⟨by kernel_rfl⟩ (run_indexA U Tryz.underlying23 (z := 1) (by kernel_rfl) rfl rfl aa Y) ?_
    refine ops_load (d := some 28) (an := [.v (vI A)]) (evs := [.load (B.add (T * 1)) (vI A)]) (v := vI A) ⟨by kernel_rfl⟩ (fun w_ r => ⟨r.elcell 1 rfl ac 0 rfl, rfl⟩) ?_
    refine oq [oT 8] [(29, .bool (!(t == A))), (1, sl a c b), (5, sl (sa u) j m), (17, vI (j.length : Int)), (18, vI i)] ?_
    refine ops_nil (fin_then ?_)
    refine sif g (fun X g => ?_) (fun X g => ?_)
    ·
     refine st_seq (st_region [oF 0] (by rfl) ?_)
     refine oq [oF 0] [(4, .bool false)] ?_
     refine ops_nil (fin_then (st_ret (fin_ret_block (fin_ret_then (fin_ret_then (fin_ret_block (fin_ret_then ?_)))))))
     obtain rfl := Option.some.inj g
     obtain rfl := M _ rfl
     have g : some false = some p := O
     obtain rfl := Option.some.inj g
     exact fr [4] () trivial 2 [1]
    ·
     refine st_skip (fin_block (fin_then (st_region [oF 0, oF 1] (by rfl) ?_)))
     refine oq [oF 0, oF 1] [(18, vI (IntKind.i64.wrap (i + 1))), (1, sl a c b), (5, sl (sa u) j m), (17, vI (j.length : Int))] ?_
     refine ops_nil ?_
     exact fag (IntKind.i64.wrap (i + 1)) () (Option.some.inj g).symm trivial 0 []
   ·
    refine st_exit (fin_exit_then (fin_exit_then (fin_exit ?_)))
    obtain rfl := Option.some.inj g
    obtain rfl := M _ rfl
    have g : kind_Holds_j1 = some p := O
    exact fj ah () g 2 [1]
def world_held__t0 : List Row := [⟨0, 16384, 128⟩, ⟨1, 32768, 16384⟩, ⟨0, 65536, 32⟩, ⟨6, 131072, 98304⟩, ⟨8, 262144, 131072⟩, ⟨16, 524288, 262272⟩, ⟨48, 1048576, 786432⟩, ⟨16, 2097152, 262145⟩, ⟨144, 4194304, 2359296⟩, ⟨336, 8388608, 5505024⟩, ⟨528, 16777216, 8650752⟩, ⟨1040, 33554432, 16777216⟩, ⟨2048, 67108864, 33554433⟩, ⟨2048, 134217728, 33554560⟩, ⟨10240, 268435456, 167772160⟩, ⟨22528, 536870912, 369098752⟩, ⟨34816, 1073741824, 570425344⟩, ⟨2048, 2147483648, 33554560⟩, ⟨133120, 4294967296, 2181038080⟩, ⟨329728, 8589934592, 5402263552⟩, ⟨526336, 17179869184, 8623489024⟩, ⟨1050624, 34359738368, 17213423616⟩]
theorem world_held_ok {c : Option Addr} {g : Nat} {k : List api_Kind} {i : Option Addr} {j : Nat} {l : List api_Comp} (ao : Mem w0 (Fz F W :: cs) w) (ap : RdS R_api_Kind F W c g k) (aq : RdS R_api_Comp F W i j l) {r : Bool} (b : world_held k l = some r) : Calls Tryz.prog 60 #[sl c k g, sl i l j] w (Post w0 (fun (_ : Unit) => True) (fun _ => .bool r) (fun _ => Fz F W :: cs)) := by
 unfold world_held at b
 refine sx_calls Tryz.func60 rfl (n := 39) (by kernel_rfl) (l := [(0, sl c k g), (1, sl i l j)]) rfl (by rfl) ao ?_
 refine st_seq (st_region [oF 0] (by rfl) ?_)
 refine oq [oF 0] [(0, sl c k g), (1, sl i l j)] ?_
 refine ops_nil (fin_then (st_seq (st_region [oF 0] (by rfl) ?_)))
 refine oq [oF 0] [(5, vI (-1)), (0, sl c k g), (1, sl i l j)] ?_
 refine ops_nil (fin_then ?_)
 refine st_join1 (σ := Unit) (L := fun _ => []) (N := fun _ => Mem w0 (Fz F W :: cs)) (I := fun _ => (world_held_j1 = some r)) ?_ ?_
 ·
  rintro _ b
  unfold world_held_j1 at b
  refine st_seq (st_region [oF 0] (by rfl) ?_)
  refine oq [oF 0] [(4, .bool true)] ?_
  refine ops_nil (fin_then (st_ret ?_))
  obtain rfl := Option.some.inj b
  exact fr [4] () trivial 0 []
 ·
  intro ak
  refine st_seq (st_seq ?_)
  refine st_region (oFs 0 3) (by rfl) ?_
  refine oq (oFs 0 3) [(10, vI 0), (9, vI (l.length : Int)), (8, sl i l j), (5, vI (-1)), (0, sl c k g)] ?_
  refine ops_nil (fin_then (st_block ?_))
  obtain ⟨r2, au, H⟩ := obind b
  refine lp (σ := Int × Int) (ρ := (Bool ⊕ Unit)) (γ := Unit) au () (fun U J => match U, J with | (C, p), _ => [(0, sl c k g), (5, vI C), (8, sl i l j), (9, vI (l.length : Int)), (10, vI p)]) (fun U J => match U, J with | (C, p), _ => Mem w0 (Fz F W :: cs)) (fun U J => match U, J with | (C, p), _ => True) trivial 0 [] ?_
  rintro ⟨C, p⟩ _ o2 - hs_ G
  have b : (world_held_l2 l k) C p = some o2 := hs_
  clear hs_
  unfold world_held_l2 at b
  refine st_seq (st_region [oF 0] (by rfl) ?_)
  refine oq [oF 0] [(11, .bool (decide (p < (l.length : Int)))), (0, sl c k g), (5, vI C), (8, sl i l j), (9, vI (l.length : Int)), (10, vI p)] ?_
  refine ops_nil (fin_then (st_seq ?_))
  refine sif b (fun ar b => ?_) (fun ar b => ?_)
  ·
   refine st_skip (fin_then (st_seq (st_block (st_seq ?_))))
   refine st_region (oFs 0 4) (by rfl) ?_
   obtain ⟨o, aw, b⟩ := obind b
   obtain ⟨m6, av, Y⟩ := idx_some aw
   have ae := (List.getElem?_eq_some_iff.1 Y).1
   obtain ⟨D, a0, Z, hr10, K⟩ := RdS.el aq Y
   obtain ⟨t, u, rfl, al⟩ := dec_api_Comp hr10
   refine ops_val (op := (.indexAddr 27 (.tmp 8) (.tmp 10))) (d := some 12) (v := .pointer (some (D.add (m6 * 2)))) ⟨by kernel_rfl⟩ (run_indexA Z Tryz.underlying27 (z := 2) (by kernel_rfl) rfl rfl av ae) ?_
   refine ops_mem (d := some 13) (an := [.v (vI o.Kind), .v (sl t o.Vals u)]) (evs := [.load (D.add (m6 * 2)) (vI o.Kind), .load ((D.add (m6 * 2)).add 1) (sl t o.Vals u)]) (v := .agg #[vI o.Kind, sl t o.Vals u]) ⟨by kernel_rfl⟩ (fun V y hS => ⟨V, ⟨y.elcell 0 rfl K 0 rfl, y.elcell 0 rfl K 1 rfl, rfl⟩, y, trivial⟩) ?_
   refine oN 7 [vI 0, .slice none 0 0] 42 (fun m => ?_)
   refine oS 0 0 [vI o.Kind, sl t o.Vals u] ?_
   refine ops_nil (fin_then (st_seq (st_seq ?_)))
   refine st_region_fast world_held__t0 [oT 0, oT 1, oT 2, oT 3, oT 4, oT 5, oT 6, oT 7, oT 8, oT 9, oT 10, oT 11, oT 12, oT 13, oT 14, oT 15, oT 16, oT 17, oT 18, oF 19, oT 20, oT 21] (Mem w0 (.blk m [vI o.Kind, sl t o.Vals u] 42 :: Fz F W :: cs)) (by kernel_rfl) (by kernel_rfl) (by kernel_rfl) (by kernel_rfl) (by kernel_rfl) (fun _ d _ _ _ h => by cases d <;> exact h) (M' := Mem w0 (.blk m [vI o.Kind, sl t o.Vals u] 42 :: Fz F W :: cs)) (fun V y => ⟨y.drew, y.drew.sub (.cons_cons _ (.cons_cons _ (.refl _)))⟩) ?_
   refine oq [oT 0] [(14, vP m 0), (7, vP m 0), (0, sl c k g), (5, vI C), (8, sl i l j), (9, vI (l.length : Int)), (10, vI p)] ?_
   refine oL 15 0 0 ?_
   refine oq (oTs 2 3) [(18, .bool (decide (o.Kind ≤ C))), (7, vP m 0), (0, sl c k g), (8, sl i l j), (9, vI (l.length : Int)), (10, vI p)] ?_
   refine ob b [18] (fun ab b => ?_) (fun ab b => ?_)
   ·
    refine oq [oT 5, oT 6, oT 7, oT 8, oT 9, oT 10, oT 11, oT 12, oT 13, oT 14, oT 15, oT 16, oT 17, oT 18, oF 19, oT 20, oT 21] [(35, .bool true), (7, vP m 0), (0, sl c k g), (8, sl i l j), (9, vI (l.length : Int)), (10, vI p)] ?_
    refine ops_nil (fin_then (st_true rfl (st_seq (st_region [oF 0] (by rfl) ?_))))
    refine oq [oF 0] [(4, .bool false)] ?_
    refine ops_nil (fin_then (st_ret (fin_ret_then (fin_ret_block (fin_ret_then (fin_ret_then (fin_ret_block (fin_ret_then ?_))))))))
    obtain rfl := Option.some.inj b
    obtain rfl := G _ rfl
    have b : some false = some r := H
    obtain rfl := Option.some.inj b
    exact fr [4] () trivial 2 [1]
   ·
    refine oq [oT 5] [(19, vP m 0), (18, .bool false), (7, vP m 0), (0, sl c k g), (8, sl i l j), (9, vI (l.length : Int)), (10, vI p)] ?_
    refine oL 20 0 0 ?_
    refine oq (oTs 7 5) [(25, .bool (decide ((k.length : Int) ≤ o.Kind))), (7, vP m 0), (0, sl c k g), (8, sl i l j), (9, vI (l.length : Int)), (10, vI p)] ?_
    refine ob b [25] (fun ac b => ?_) (fun ac b => ?_)
    ·
     refine oq [oT 12, oT 13, oT 14, oT 15, oT 16, oT 17, oT 18, oF 19, oT 20, oT 21] [(35, .bool true), (7, vP m 0), (0, sl c k g), (8, sl i l j), (9, vI (l.length : Int)), (10, vI p)] ?_
     refine ops_nil (fin_then (st_true rfl (st_seq (st_region [oF 0] (by rfl) ?_))))
     refine oq [oF 0] [(4, .bool false)] ?_
     refine ops_nil (fin_then (st_ret (fin_ret_then (fin_ret_block (fin_ret_then (fin_ret_then (fin_ret_block (fin_ret_then ?_))))))))
     obtain rfl := Option.some.inj b
     obtain rfl := G _ rfl
     have b : some false = some r := H
     obtain rfl := Option.some.inj b
     exact fr [4] () trivial 2 [1]
    ·
     refine oq [oT 12, oT 13] [(27, vP m 0), (26, sl c k g), (25, .bool false), (7, vP m 0), (0, sl c k g), (8, sl i l j), (9, vI (l.length : Int)), (10, vI p)] ?_
     refine oL 28 0 0 ?_
     obtain ⟨s, ah, b⟩ := obind b
     obtain ⟨T, ag, O⟩ := idx_some ah
     have af := (List.getElem?_eq_some_iff.1 O).1
     obtain ⟨E, az, aa, hr27, M⟩ := RdS.el ap O
     obtain ⟨A, B, rfl, am⟩ := dec_api_Kind hr27
     refine ops_val (op := (.indexAddr 22 (.tmp 26) (.tmp 28))) (d := some 29) (v := .pointer (some (E.add (T * 2)))) ⟨by kernel_rfl⟩ (run_indexA aa Tryz.underlying22 (z := 2) (by kernel_rfl) rfl rfl ag af) ?_
     refine ops_load (d := some 30) (an := [.v (.string s.Name), .v (sl A s.Fields B)]) (evs := [.load (E.add (T * 2)) (.string s.Name), .load ((E.add (T * 2)).add 1) (sl A s.Fields B)]) (v := .agg #[.string s.Name, sl A s.Fields B]) ⟨by kernel_rfl⟩ (fun V y => ⟨y.elcell 1 rfl M 0 rfl, y.elcell 1 rfl M 1 rfl, rfl⟩) ?_
     refine oq [oT 17] [(31, vP m 1), (30, .agg #[.string s.Name, sl A s.Fields B]), (25, .bool false), (7, vP m 0), (0, sl c k g), (8, sl i l j), (9, vI (l.length : Int)), (10, vI p)] ?_
     refine oL 32 0 1 ?_
     obtain ⟨X, ai, b⟩ := obind b
     refine ops_callI (σ := Unit) (d := some 33) (f := 84) (args := #[.agg #[.string s.Name, sl A s.Fields B], sl t o.Vals u]) (v := (fun _ => .bool X)) (I := (fun _ => True)) (M' := (fun _ => Mem w0 (.blk m [vI o.Kind, sl t o.Vals u] 42 :: Fz F W :: cs))) ⟨by kernel_rfl⟩ (fun V y hS => (@kind_Holds_ok w0 V (.blk m [vI o.Kind, sl t o.Vals u] 42 :: cs) F W s.Name A B s.Fields t u o.Vals (y.pick 2 [1, 0] (by kernel_rfl) (by decide) rfl) am al X ai).mono (by rintro e w' ⟨_, -, rfl, h'⟩; have h' : Mem w0 (.blk m [vI o.Kind, sl t o.Vals u] 42 :: Fz F W :: cs) w' := (h'.pick 2 [1, 0] (by kernel_rfl) (by decide) rfl); exact ⟨(), trivial, rfl, h', (by exact h'.sub (.cons_cons _ (.cons_cons _ (.refl _))))⟩)) ?_
     rintro _ -
     refine oq [oT 20, oT 21] [(35, .bool (!X)), (7, vP m 0), (0, sl c k g), (8, sl i l j), (9, vI (l.length : Int)), (10, vI p)] ?_
     refine ops_nil (fin_then ?_)
     refine sif b (fun ad b => ?_) (fun ad b => ?_)
     ·
      refine st_seq (st_region [oF 0] (by rfl) ?_)
      refine oq [oF 0] [(4, .bool false)] ?_
      refine ops_nil (fin_then (st_ret (fin_ret_then (fin_ret_block (fin_ret_then (fin_ret_then (fin_ret_block (fin_ret_then ?_))))))))
      obtain rfl := Option.some.inj b
      obtain rfl := G _ rfl
      have b : some false = some r := H
      obtain rfl := Option.some.inj b
      exact fr [4] () trivial 2 [1]
     ·
      refine st_skip (fin_then ?_)
      refine st_region (oFs 0 3) (by rfl) ?_
      refine oq [oF 0] [(36, vP m 0), (0, sl c k g), (8, sl i l j), (9, vI (l.length : Int)), (10, vI p)] ?_
      refine oM 37 0 0 ?_
      refine oq [oF 2] [(5, vI o.Kind), (0, sl c k g), (8, sl i l j), (9, vI (l.length : Int)), (10, vI p)] ?_
      refine ops_nil (fin_block (fin_then (st_region [oF 0, oF 1] (by rfl) ?_)))
      refine oq [oF 0, oF 1] [(10, vI (IntKind.i64.wrap (p + 1))), (5, vI o.Kind), (0, sl c k g), (8, sl i l j), (9, vI (l.length : Int))] ?_
      refine ops_nil ?_
      exact fag (o.Kind, IntKind.i64.wrap (p + 1)) () (Option.some.inj b).symm trivial 2 [1]
  ·
   refine st_exit (fin_exit_then (fin_exit_then (fin_exit ?_)))
   obtain rfl := Option.some.inj b
   obtain rfl := G _ rfl
   have b : world_held_j1 = some r := H
   exact fj ak () b 0 []
def world_Check__t0 : List Row := [⟨0, 562949953421312, 256⟩, ⟨1, 1125899906842624, 562949953421312⟩, ⟨2, 2251799813685248, 1125899906842624⟩, ⟨0, 4503599627370496, 64⟩, ⟨12, 9007199254740992, 6755399441055744⟩, ⟨16, 18014398509481984, 9007199254740992⟩, ⟨32, 36028797018963968, 18014398509482240⟩, ⟨96, 72057594037927936, 54043195528445952⟩, ⟨160, 144115188075855872, 90071992547409920⟩, ⟨32, 288230376151711744, 18014398509481986⟩, ⟨544, 576460752303423488, 306244774661193728⟩, ⟨1056, 1152921504606846976, 594475150812905472⟩, ⟨2336, 2305843009213693952, 1315051091192184832⟩, ⟨4128, 4611686018427387904, 2323857407723175936⟩, ⟨8224, 9223372036854775808, 4611686018427387904⟩, ⟨16384, 18446744073709551616, 9223372036854776064⟩, ⟨49152, 36893488147419103232, 27670116110564327424⟩, ⟨81920, 73786976294838206464, 46116860184273879040⟩, ⟨16384, 147573952589676412928, 9223372036854775810⟩, ⟨278528, 295147905179352825856, 156797324626531188736⟩, ⟨16384, 590295810358705651712, 9223372036854776064⟩, ⟨1064960, 1180591620717411303424, 599519182395560427520⟩, ⟨2113536, 2361183241434822606848, 1189814992754266079232⟩, ⟨4734976, 4722366482869645213696, 2665554518651030208512⟩, ⟨8404992, 9444732965739290427392, 4731589854906499989504⟩, ⟨16924672, 18889465931478580854784, 9527743314070983409664⟩, ⟨33570816, 37778931862957161709568, 18898689303515435630592⟩, ⟨67125248, 75557863725914323419136, 37778931862957161709568⟩, ⟨134217728, 151115727451828646838272, 75557863725914323419392⟩, ⟨402653184, 302231454903657293676544, 226673591177742970257408⟩, ⟨671088640, 604462909807314587353088, 377789318629571617095680⟩, ⟨1207959552, 1208925819614629174706176, 680020773533228910772224⟩, ⟨2281701376, 2417851639229258349412352, 1284483683340543498125312⟩, ⟨4429185024, 4835703278458516698824704, 2417851639229258349412352⟩, ⟨8589934592, 9671406556917033397649408, 4835703278458516698824706⟩, ⟨25769803776, 19342813113834066795298816, 14507109835375550096474112⟩, ⟨8589934592, 38685626227668133590597632, 4835703278458516698824960⟩, ⟨77309411328, 77371252455336267181195264, 43521329506126650289422336⟩, ⟨180388626432, 154742504910672534362390528, 101549768847628850675318784⟩, ⟨283467841536, 309485009821345068724781056, 159578208189131051061215232⟩, ⟨558345748480, 618970019642690137449562112, 314320713099803585423605760⟩]
theorem world_Check_ok {r : Option Addr} {s : Nat} {x : List api_Kind} {o : Option Addr} {p : Nat} {m : List Int} {c : Option Addr} {g : Nat} {b : List api_Item} (be : Mem w0 (Fz F W :: cs) w) (U : RdS R_api_Kind F W r s x) (V : RdS (Rep.int .i64) F W o p m) (ah : RdS R_api_Item F W c g b) {t : Int} (i : world_Check x m b = some t) : Calls Tryz.prog 33 #[.agg #[sl r x s, sl o m p, sl c b g]] w (Post w0 (fun (_ : Unit) => True) (fun _ => vI t) (fun _ => Fz F W :: cs)) := by
 unfold world_Check at i
 refine sx_calls Tryz.func33 rfl (n := 94) (by kernel_rfl) (l := [(0, .agg #[sl r x s, sl o m p, sl c b g])]) rfl (by rfl) be ?_
 refine st_seq (st_region [oF 0, oF 1] (by rfl) ?_)
 refine oN 1 [sl r x s, sl o m p, sl c b g] 26 (fun j => ?_)
 refine oq [oF 1] [(1, vP j 0)] ?_
 refine ops_nil (fin_then (st_seq (st_seq ?_)))
 refine st_region (oFs 0 4) (by rfl) ?_
 refine oq [oF 0] [(9, vP j 0), (1, vP j 0)] ?_
 refine oM 10 0 0 ?_
 obtain ⟨x2, bm, i⟩ := obind i
 refine oV (some 11) 2 [1, 0] 2 [1, 0] (fun _ C => kind_Check_ok C U bm) ?_
 rintro _ -
 refine oq [oF 3] [(3, vI x2), (1, vP j 0)] ?_
 refine ops_nil (fin_then (st_seq (st_region [oF 0, oF 1] (by rfl) ?_)))
 refine oq [oF 0, oF 1] [(13, .bool (!(x2 == 0))), (3, vI x2), (1, vP j 0)] ?_
 refine ops_nil (fin_then ?_)
 refine sif i (fun bg i => ?_) (fun bg i => ?_)
 ·
  refine st_seq (st_region [oF 0, oF 1] (by rfl) ?_)
  refine oq [oF 0, oF 1] [(2, vI x2)] ?_
  refine ops_nil (fin_then (st_ret (fin_ret_then ?_)))
  obtain rfl := Option.some.inj i
  exact fr [2] () trivial 2 [1]
 ·
  refine st_skip (fin_then (st_seq (st_seq ?_)))
  refine st_region (oFs 0 13) (by rfl) ?_
  refine oq [oF 0] [(15, vP j 1), (1, vP j 0)] ?_
  refine oM 16 0 1 ?_
  refine oq (oFs 2 3) [(19, .bool (decide (256 < (m.length : Int)))), (1, vP j 0)] ?_
  refine ob i [19] (fun bh i => ?_) (fun bh i => ?_)
  ·
   refine oq (oFs 5 8) [(27, .bool true), (1, vP j 0)] ?_
   refine ops_nil (fin_then (st_true rfl (st_seq (st_region [oF 0] (by rfl) ?_))))
   refine oq [oF 0] [(2, vI 2)] ?_
   refine ops_nil (fin_then (st_ret (fin_ret_then ?_)))
   obtain rfl := Option.some.inj i
   exact fr [2] () trivial 2 [1]
  ·
   refine oq [oF 5] [(20, vP j 2), (19, .bool false), (1, vP j 0)] ?_
   refine oM 21 0 2 ?_
   refine oq [oF 7, oF 8] [(23, vP j 1), (22, vI (b.length : Int)), (19, .bool false), (1, vP j 0)] ?_
   refine oM 24 0 1 ?_
   refine oq (oFs 10 3) [(27, .bool (decide ((m.length : Int) < (b.length : Int)))), (1, vP j 0)] ?_
   refine ops_nil (fin_then ?_)
   refine sif i (fun bi i => ?_) (fun bi i => ?_)
   ·
    refine st_seq (st_region [oF 0] (by rfl) ?_)
    refine oq [oF 0] [(2, vI 2)] ?_
    refine ops_nil (fin_then (st_ret (fin_ret_then ?_)))
    obtain rfl := Option.some.inj i
    exact fr [2] () trivial 2 [1]
   ·
    refine st_skip (fin_then ?_)
    refine st_join1 (σ := Unit) (L := fun _ => [(1, vP j 0)]) (N := fun _ => Mem w0 (.blk j [sl r x s, sl o m p, sl c b g] 26 :: Fz F W :: cs)) (I := fun _ => ((world_Check_j1 b m x) = some t)) ?_ ?_
    ·
     rintro _ i
     unfold world_Check_j1 at i
     refine st_seq (st_region [oF 0] (by rfl) ?_)
     refine oq [oF 0] [(6, vI (-1)), (1, vP j 0)] ?_
     refine ops_nil (fin_then ?_)
     refine st_join1 (σ := Unit) (L := fun _ => []) (N := fun _ => Mem w0 (Fz F W :: cs)) (I := fun _ => (world_Check_j2 = some t)) ?_ ?_
     ·
      rintro _ i
      unfold world_Check_j2 at i
      refine st_seq (st_region [oF 0] (by rfl) ?_)
      refine oq [oF 0] [(2, vI 0)] ?_
      refine ops_nil (fin_then (st_ret ?_))
      obtain rfl := Option.some.inj i
      exact fr [2] () trivial 0 []
     ·
      intro bc
      refine st_seq (st_seq ?_)
      refine st_region (oFs 0 4) (by rfl) ?_
      refine oq [oF 0] [(42, vP j 2), (6, vI (-1)), (1, vP j 0)] ?_
      refine oM 43 0 2 ?_
      refine oq [oF 2, oF 3] [(45, vI 0), (44, vI (b.length : Int)), (43, sl c b g), (6, vI (-1)), (1, vP j 0)] ?_
      refine ops_nil (fin_then (st_block ?_))
      obtain ⟨r3, bk, J⟩ := obind i
      refine lp (σ := Int × Int) (ρ := (Int ⊕ Unit)) (γ := Unit) bk () (fun E D => match E, D with | (M, u), _ => [(1, vP j 0), (6, vI M), (43, sl c b g), (44, vI (b.length : Int)), (45, vI u)]) (fun E D => match E, D with | (M, u), _ => Mem w0 (.blk j [sl r x s, sl o m p, sl c b g] 26 :: Fz F W :: cs)) (fun E D => match E, D with | (M, u), _ => True) trivial 0 [] ?_
      rintro ⟨M, u⟩ _ o3 - hs_ H
      have i : (world_Check_l3 b m x) M u = some o3 := hs_
      clear hs_
      unfold world_Check_l3 at i
      refine st_seq (st_region [oF 0] (by rfl) ?_)
      refine oq [oF 0] [(46, .bool (decide (u < (b.length : Int)))), (1, vP j 0), (6, vI M), (43, sl c b g), (44, vI (b.length : Int)), (45, vI u)] ?_
      refine ops_nil (fin_then (st_seq ?_))
      refine sif i (fun bj i => ?_) (fun bj i => ?_)
      ·
       refine st_skip (fin_then (st_seq (st_block (st_seq ?_))))
       refine st_region (oFs 0 4) (by rfl) ?_
       obtain ⟨k, a7, i⟩ := obind i
       obtain ⟨X, a2, ad⟩ := idx_some a7
       have az := (List.getElem?_eq_some_iff.1 ad).1
       obtain ⟨K, bp, al, hr16, O⟩ := RdS.el ah ad
       obtain ⟨A, B, rfl, bd⟩ := dec_api_Item hr16
       refine ops_val (op := (.indexAddr 24 (.tmp 43) (.tmp 45))) (d := some 47) (v := .pointer (some (K.add (X * 3)))) ⟨by kernel_rfl⟩ (run_indexA al Tryz.underlying24 (z := 3) (by kernel_rfl) rfl rfl a2 az) ?_
       refine ops_mem (d := some 48) (an := [.v (vI k.Ent.N), .v (vI k.Ent.Gen), .v (sl A k.Comps B)]) (evs := [.load (K.add (X * 3)) (vI k.Ent.N), .load ((K.add (X * 3)).add 1) (vI k.Ent.Gen), .load ((K.add (X * 3)).add 2) (sl A k.Comps B)]) (v := .agg #[vI k.Ent.N, vI k.Ent.Gen, sl A k.Comps B]) ⟨by kernel_rfl⟩ (fun T C hS => ⟨T, ⟨C.elcell 1 rfl O 0 rfl, C.elcell 1 rfl O 1 rfl, C.elcell 1 rfl O 2 rfl, rfl⟩, C, trivial⟩) ?_
       refine oN 8 [vI 0, vI 0, .slice none 0 0] 61 (fun q => ?_)
       refine oS 0 0 [vI k.Ent.N, vI k.Ent.Gen, sl A k.Comps B] ?_
       refine ops_nil (fin_then (st_seq (st_seq ?_)))
       refine st_region_fast world_Check__t0 [oT 0, oT 1, oT 2, oT 3, oT 4, oT 5, oT 6, oT 7, oT 8, oT 9, oT 10, oT 11, oT 12, oT 13, oT 14, oT 15, oT 16, oT 17, oT 18, oT 19, oT 20, oT 21, oT 22, oT 23, oT 24, oT 25, oT 26, oT 27, oT 28, oT 29, oT 30, oT 31, oT 32, oT 33, oT 34, oT 35, oT 36, oT 37, oF 38, oT 39, oT 40] (Mem w0 (.blk q [vI k.Ent.N, vI k.Ent.Gen, sl A k.Comps B] 61 :: .blk j [sl r x s, sl o m p, sl c b g] 26 :: Fz F W :: cs)) (by kernel_rfl) (by kernel_rfl) (by kernel_rfl) (by kernel_rfl) (by kernel_rfl) (fun _ d _ _ _ h => by cases d <;> exact h) (M' := Mem w0 (.blk q [vI k.Ent.N, vI k.Ent.Gen, sl A k.Comps B] 61 :: .blk j [sl r x s, sl o m p, sl c b g] 26 :: Fz F W :: cs)) (fun T C => ⟨C.drew, C.drew.sub (.cons_cons _ (.cons_cons _ (.cons_cons _ (.refl _))))⟩) ?_
       refine oq [oT 0, oT 1] [(50, vP q 0), (8, vP q 0), (1, vP j 0), (6, vI M), (43, sl c b g), (44, vI (b.length : Int)), (45, vI u)] ?_
       refine oL 51 0 0 ?_
       refine oq (oTs 3 3) [(54, .bool (decide (k.Ent.N ≤ M))), (8, vP q 0), (1, vP j 0), (43, sl c b g), (44, vI (b.length : Int)), (45, vI u)] ?_
       refine ob i [54] (fun ap i => ?_) (fun ap i => ?_)
       ·
        refine oq [oT 6, oT 7, oT 8, oT 9, oT 10, oT 11, oT 12, oT 13, oT 14, oT 15, oT 16, oT 17, oT 18, oT 19, oT 20, oT 21, oT 22, oT 23, oT 24, oT 25, oT 26, oT 27, oT 28, oT 29, oT 30, oT 31, oT 32, oT 33, oT 34, oT 35, oT 36, oT 37, oF 38, oT 39, oT 40] [(89, .bool true), (8, vP q 0), (1, vP j 0), (43, sl c b g), (44, vI (b.length : Int)), (45, vI u)] ?_
        refine ops_nil (fin_then (st_true rfl (st_seq (st_region [oF 0] (by rfl) ?_))))
        refine oq [oF 0] [(2, vI 3)] ?_
        refine ops_nil (fin_then (st_ret (fin_ret_then (fin_ret_block (fin_ret_then (fin_ret_then (fin_ret_block (fin_ret_then ?_))))))))
        obtain rfl := Option.some.inj i
        obtain rfl := H _ rfl
        have i : some 3 = some t := J
        obtain rfl := Option.some.inj i
        exact fr [2] () trivial 3 [2]
       ·
        refine oq [oT 6, oT 7] [(56, vP q 0), (54, .bool false), (8, vP q 0), (1, vP j 0), (43, sl c b g), (44, vI (b.length : Int)), (45, vI u)] ?_
        refine oL 57 0 0 ?_
        refine oq [oT 9] [(58, vP j 1), (57, vI k.Ent.N), (54, .bool false), (8, vP q 0), (1, vP j 0), (43, sl c b g), (44, vI (b.length : Int)), (45, vI u)] ?_
        refine oL 59 1 1 ?_
        refine oq (oTs 11 4) [(63, .bool (decide ((m.length : Int) ≤ k.Ent.N))), (8, vP q 0), (1, vP j 0), (43, sl c b g), (44, vI (b.length : Int)), (45, vI u)] ?_
        refine ob i [63] (fun aq i => ?_) (fun aq i => ?_)
        ·
         refine oq [oT 15, oT 16, oT 17, oT 18, oT 19, oT 20, oT 21, oT 22, oT 23, oT 24, oT 25, oT 26, oT 27, oT 28, oT 29, oT 30, oT 31, oT 32, oT 33, oT 34, oT 35, oT 36, oT 37, oF 38, oT 39, oT 40] [(89, .bool true), (8, vP q 0), (1, vP j 0), (43, sl c b g), (44, vI (b.length : Int)), (45, vI u)] ?_
         refine ops_nil (fin_then (st_true rfl (st_seq (st_region [oF 0] (by rfl) ?_))))
         refine oq [oF 0] [(2, vI 3)] ?_
         refine ops_nil (fin_then (st_ret (fin_ret_then (fin_ret_block (fin_ret_then (fin_ret_then (fin_ret_block (fin_ret_then ?_))))))))
         obtain rfl := Option.some.inj i
         obtain rfl := H _ rfl
         have i : some 3 = some t := J
         obtain rfl := Option.some.inj i
         exact fr [2] () trivial 3 [2]
        ·
         refine oq [oT 15, oT 16] [(65, vP q 1), (63, .bool false), (8, vP q 0), (1, vP j 0), (43, sl c b g), (44, vI (b.length : Int)), (45, vI u)] ?_
         refine oL 66 0 1 ?_
         refine oq [oT 18] [(67, vP j 1), (66, vI k.Ent.Gen), (63, .bool false), (8, vP q 0), (1, vP j 0), (43, sl c b g), (44, vI (b.length : Int)), (45, vI u)] ?_
         refine oL 68 1 1 ?_
         refine oq [oT 20, oT 21] [(70, vP q 0), (68, sl o m p), (66, vI k.Ent.Gen), (63, .bool false), (8, vP q 0), (1, vP j 0), (43, sl c b g), (44, vI (b.length : Int)), (45, vI u)] ?_
         refine oL 71 0 0 ?_
         obtain ⟨Y, a8, i⟩ := obind i
         obtain ⟨aj, a3, ae⟩ := idx_some a8
         have a0 := (List.getElem?_eq_some_iff.1 ae).1
         obtain ⟨Z, bq, am, hr33, a5⟩ := RdS.el V ae
         obtain rfl := hr33
         refine ops_val (op := (.indexAddr 23 (.tmp 68) (.tmp 71))) (d := some 72) (v := .pointer (some (Z.add (aj * 1)))) ⟨by kernel_rfl⟩ (run_indexA am Tryz.underlying23 (z := 1) (by kernel_rfl) rfl rfl a3 a0) ?_
         refine ops_load (d := some 73) (an := [.v (vI Y)]) (evs := [.load (Z.add (aj * 1)) (vI Y)]) (v := vI Y) ⟨by kernel_rfl⟩ (fun T C => ⟨C.elcell 2 rfl a5 0 rfl, rfl⟩) ?_
         refine oq (oTs 25 3) [(76, .bool (!(k.Ent.Gen == Y))), (8, vP q 0), (1, vP j 0), (43, sl c b g), (44, vI (b.length : Int)), (45, vI u)] ?_
         refine ob i [76] (fun ar i => ?_) (fun ar i => ?_)
         ·
          refine oq [oT 28, oT 29, oT 30, oT 31, oT 32, oT 33, oT 34, oT 35, oT 36, oT 37, oF 38, oT 39, oT 40] [(89, .bool true), (8, vP q 0), (1, vP j 0), (43, sl c b g), (44, vI (b.length : Int)), (45, vI u)] ?_
          refine ops_nil (fin_then (st_true rfl (st_seq (st_region [oF 0] (by rfl) ?_))))
          refine oq [oF 0] [(2, vI 3)] ?_
          refine ops_nil (fin_then (st_ret (fin_ret_then (fin_ret_block (fin_ret_then (fin_ret_then (fin_ret_block (fin_ret_then ?_))))))))
          obtain rfl := Option.some.inj i
          obtain rfl := H _ rfl
          have i : some 3 = some t := J
          obtain rfl := Option.some.inj i
          exact fr [2] () trivial 3 [2]
         ·
          refine oq [oT 28, oT 29] [(78, vP q 1), (76, .bool false), (8, vP q 0), (1, vP j 0), (43, sl c b g), (44, vI (b.length : Int)), (45, vI u)] ?_
          refine oL 79 0 1 ?_
          refine oq (oTs 31 3) [(82, .bool (k.Ent.Gen == 1073741824)), (8, vP q 0), (1, vP j 0), (43, sl c b g), (44, vI (b.length : Int)), (45, vI u)] ?_
          refine ob i [82] (fun au i => ?_) (fun au i => ?_)
          ·
           refine oq [oT 34, oT 35, oT 36, oT 37, oF 38, oT 39, oT 40] [(89, .bool true), (8, vP q 0), (1, vP j 0), (43, sl c b g), (44, vI (b.length : Int)), (45, vI u)] ?_
           refine ops_nil (fin_then (st_true rfl (st_seq (st_region [oF 0] (by rfl) ?_))))
           refine oq [oF 0] [(2, vI 3)] ?_
           refine ops_nil (fin_then (st_ret (fin_ret_then (fin_ret_block (fin_ret_then (fin_ret_then (fin_ret_block (fin_ret_then ?_))))))))
           obtain rfl := Option.some.inj i
           obtain rfl := H _ rfl
           have i : some 3 = some t := J
           obtain rfl := Option.some.inj i
           exact fr [2] () trivial 3 [2]
          ·
           refine oq [oT 34] [(83, vP j 0), (82, .bool false), (8, vP q 0), (1, vP j 0), (43, sl c b g), (44, vI (b.length : Int)), (45, vI u)] ?_
           refine oL 84 1 0 ?_
           refine oq [oT 36] [(85, vP q 2), (84, sl r x s), (82, .bool false), (8, vP q 0), (1, vP j 0), (43, sl c b g), (44, vI (b.length : Int)), (45, vI u)] ?_
           refine oL 86 0 2 ?_
           obtain ⟨ag, a9, i⟩ := obind i
           refine ops_callI (σ := Unit) (d := some 87) (f := 60) (args := #[sl r x s, sl A k.Comps B]) (v := (fun _ => .bool ag)) (I := (fun _ => True)) (M' := (fun _ => Mem w0 (.blk q [vI k.Ent.N, vI k.Ent.Gen, sl A k.Comps B] 61 :: .blk j [sl r x s, sl o m p, sl c b g] 26 :: Fz F W :: cs))) ⟨by kernel_rfl⟩ (fun T C hS => (@world_held_ok w0 T (.blk q [vI k.Ent.N, vI k.Ent.Gen, sl A k.Comps B] 61 :: .blk j [sl r x s, sl o m p, sl c b g] 26 :: cs) F W r s x A B k.Comps (C.pick 3 [2, 0, 1] (by kernel_rfl) (by decide) rfl) U bd ag a9).mono (by rintro e w' ⟨_, -, rfl, h'⟩; have h' : Mem w0 (.blk q [vI k.Ent.N, vI k.Ent.Gen, sl A k.Comps B] 61 :: .blk j [sl r x s, sl o m p, sl c b g] 26 :: Fz F W :: cs) w' := (h'.pick 3 [1, 2, 0] (by kernel_rfl) (by decide) rfl); exact ⟨(), trivial, rfl, h', (by exact h'.sub (.cons_cons _ (.cons_cons _ (.cons_cons _ (.refl _)))))⟩)) ?_
           rintro _ -
           refine oq [oT 39, oT 40] [(89, .bool (!ag)), (8, vP q 0), (1, vP j 0), (43, sl c b g), (44, vI (b.length : Int)), (45, vI u)] ?_
           refine ops_nil (fin_then ?_)
           refine sif i (fun av i => ?_) (fun av i => ?_)
           ·
            refine st_seq (st_region [oF 0] (by rfl) ?_)
            refine oq [oF 0] [(2, vI 3)] ?_
            refine ops_nil (fin_then (st_ret (fin_ret_then (fin_ret_block (fin_ret_then (fin_ret_then (fin_ret_block (fin_ret_then ?_))))))))
            obtain rfl := Option.some.inj i
            obtain rfl := H _ rfl
            have i : some 3 = some t := J
            obtain rfl := Option.some.inj i
            exact fr [2] () trivial 3 [2]
           ·
            refine st_skip (fin_then ?_)
            refine st_region (oFs 0 4) (by rfl) ?_
            refine oq [oF 0, oF 1] [(91, vP q 0), (1, vP j 0), (43, sl c b g), (44, vI (b.length : Int)), (45, vI u)] ?_
            refine oM 92 0 0 ?_
            refine oq [oF 3] [(6, vI k.Ent.N), (1, vP j 0), (43, sl c b g), (44, vI (b.length : Int)), (45, vI u)] ?_
            refine ops_nil (fin_block (fin_then (st_region [oF 0, oF 1] (by rfl) ?_)))
            refine oq [oF 0, oF 1] [(45, vI (IntKind.i64.wrap (u + 1))), (6, vI k.Ent.N), (1, vP j 0), (43, sl c b g), (44, vI (b.length : Int))] ?_
            refine ops_nil ?_
            exact fag (k.Ent.N, IntKind.i64.wrap (u + 1)) () (Option.some.inj i).symm trivial 3 [1, 2]
      ·
       refine st_exit (fin_exit_then (fin_exit_then (fin_exit ?_)))
       obtain rfl := Option.some.inj i
       obtain rfl := H _ rfl
       have i : world_Check_j2 = some t := J
       exact fj bc () i 2 [1]
    ·
     intro bb
     refine st_seq (st_seq ?_)
     refine st_region (oFs 0 4) (by rfl) ?_
     refine oq [oF 0] [(28, vP j 1), (1, vP j 0)] ?_
     refine oM 29 0 1 ?_
     refine oq [oF 2, oF 3] [(31, vI 0), (30, vI (m.length : Int)), (29, sl o m p), (1, vP j 0)] ?_
     refine ops_nil (fin_then (st_block ?_))
     obtain ⟨r4, bl, ac⟩ := obind i
     refine lp (σ := Int) (ρ := (Int ⊕ Unit)) (γ := Unit) bl () (fun E D => match E, D with | y, _ => [(1, vP j 0), (29, sl o m p), (30, vI (m.length : Int)), (31, vI y)]) (fun E D => match E, D with | y, _ => Mem w0 (.blk j [sl r x s, sl o m p, sl c b g] 26 :: Fz F W :: cs)) (fun E D => match E, D with | y, _ => True) trivial 0 [] ?_
     rintro y _ o4 - hs_ ab
     have i : (world_Check_l4 m) y = some o4 := hs_
     clear hs_
     unfold world_Check_l4 at i
     refine st_seq (st_region [oF 0] (by rfl) ?_)
     refine oq [oF 0] [(32, .bool (decide (y < (m.length : Int)))), (1, vP j 0), (29, sl o m p), (30, vI (m.length : Int)), (31, vI y)] ?_
     refine ops_nil (fin_then (st_seq ?_))
     refine sif i (fun aw i => ?_) (fun aw i => ?_)
     ·
      refine st_skip (fin_then (st_seq (st_block (st_seq ?_))))
      refine st_region (oFs 0 3) (by rfl) ?_
      obtain ⟨G, ba, i⟩ := obind i
      obtain ⟨ak, a4, af⟩ := idx_some ba
      have a1 := (List.getElem?_eq_some_iff.1 af).1
      obtain ⟨aa, br, ao, hr51, a6⟩ := RdS.el V af
      obtain rfl := hr51
      refine ops_val (op := (.indexAddr 23 (.tmp 29) (.tmp 31))) (d := some 33) (v := .pointer (some (aa.add (ak * 1)))) ⟨by kernel_rfl⟩ (run_indexA ao Tryz.underlying23 (z := 1) (by kernel_rfl) rfl rfl a4 a1) ?_
      refine ops_mem (d := some 34) (an := [.v (vI G)]) (evs := [.load (aa.add (ak * 1)) (vI G)]) (v := vI G) ⟨by kernel_rfl⟩ (fun T C hS => ⟨T, ⟨C.elcell 1 rfl a6 0 rfl, rfl⟩, C, trivial⟩) ?_
      refine oq [oF 2] [(5, vI G), (1, vP j 0), (29, sl o m p), (30, vI (m.length : Int)), (31, vI y)] ?_
      refine ops_nil (fin_then (st_seq ?_))
      refine st_region (oFs 0 6) (by rfl) ?_
      refine oq (oFs 0 3) [(37, .bool (decide (G < 0))), (5, vI G), (1, vP j 0), (29, sl o m p), (30, vI (m.length : Int)), (31, vI y)] ?_
      refine ob i [37] (fun ax i => ?_) (fun ax i => ?_)
      ·
       refine oq (oFs 3 3) [(40, .bool true), (1, vP j 0), (29, sl o m p), (30, vI (m.length : Int)), (31, vI y)] ?_
       refine ops_nil (fin_then (st_true rfl (st_seq (st_region [oF 0] (by rfl) ?_))))
       refine oq [oF 0] [(2, vI 3)] ?_
       refine ops_nil (fin_then (st_ret (fin_ret_block (fin_ret_then (fin_ret_then (fin_ret_block (fin_ret_then ?_)))))))
       obtain rfl := Option.some.inj i
       obtain rfl := ab _ rfl
       have i : some 3 = some t := ac
       obtain rfl := Option.some.inj i
       exact fr [2] () trivial 2 [1]
      ·
       refine oq (oFs 3 3) [(40, .bool (decide (1073741824 < G))), (1, vP j 0), (29, sl o m p), (30, vI (m.length : Int)), (31, vI y)] ?_
       refine ops_nil (fin_then ?_)
       refine sif i (fun ay i => ?_) (fun ay i => ?_)
       ·
        refine st_seq (st_region [oF 0] (by rfl) ?_)
        refine oq [oF 0] [(2, vI 3)] ?_
        refine ops_nil (fin_then (st_ret (fin_ret_block (fin_ret_then (fin_ret_then (fin_ret_block (fin_ret_then ?_)))))))
        obtain rfl := Option.some.inj i
        obtain rfl := ab _ rfl
        have i : some 3 = some t := ac
        obtain rfl := Option.some.inj i
        exact fr [2] () trivial 2 [1]
       ·
        refine st_skip (fin_block (fin_then (st_region [oF 0, oF 1] (by rfl) ?_)))
        refine oq [oF 0, oF 1] [(31, vI (IntKind.i64.wrap (y + 1))), (1, vP j 0), (29, sl o m p), (30, vI (m.length : Int))] ?_
        refine ops_nil ?_
        exact fag (IntKind.i64.wrap (y + 1)) () (Option.some.inj i).symm trivial 0 []
     ·
      refine st_exit (fin_exit_then (fin_exit_then (fin_exit ?_)))
      obtain rfl := Option.some.inj i
      obtain rfl := ab _ rfl
      have i : (world_Check_j1 b m x) = some t := ac
      exact fj bb () i 0 []
theorem world_Find_1_ok {a : Int} {b : Int} {g : Option Addr} {i : Nat} {k : List api_Comp} {j : Nat} {c : Int} {f : Int} (q : Mem w0 (.blk j [vI c, vI f] 29 :: Fz F W :: cs) w) (s : RdS R_api_Comp F W g i k) {o : Bool} (t : world_Find_1 a b k c f = some o) : Calls Tryz.prog 54 #[.agg #[vI a, vI b, sl g k i], vP j 0] w (Post w0 (fun (_ : Unit) => True) (fun _ => .bool o) (fun _ => .blk j [vI c, vI f] 29 :: Fz F W :: cs)) := by
 unfold world_Find_1 at t
 refine sx_calls Tryz.func54 rfl (n := 8) (by kernel_rfl) (l := [(0, .agg #[vI a, vI b, sl g k i]), (1, vP j 0)]) rfl (by rfl) q ?_
 refine st_seq (st_region [oF 0, oF 1] (by rfl) ?_)
 refine oN 2 [vI a, vI b, sl g k i] 61 (fun p => ?_)
 refine oq [oF 1] [(2, vP p 0), (1, vP j 0)] ?_
 refine ops_nil (fin_then (st_seq ?_))
 refine st_region (oFs 0 5) (by rfl) ?_
 refine oq [oF 0] [(4, vP p 0), (1, vP j 0)] ?_
 refine oMA 5 0 0 2 ?_
 refine oMA 6 1 0 2 ?_
 refine ops_val (op := (.binOp Go.BinOp.eql 29 (.tmp 5) (.tmp 6) 29)) (d := some 7) (v := .bool (a == c && (b == f))) ⟨by kernel_rfl⟩ (run_eql_agg (r := a == c && (b == f)) rfl rfl (by kernel_rfl) (fun w => eqA29 9998 w a c b f)) ?_
 refine oq [oF 4] [(3, .bool (a == c && (b == f)))] ?_
 refine ops_nil (fin_then (st_ret ?_))
 obtain rfl := Option.some.inj t
 exact fr [3] () trivial 3 [1, 2]
theorem slices_IndexFunc_api_Item_api_Item_ok {i : Option Addr} {j : Nat} {s : List api_Item} {a : Nat} {f : Int} {g : Int} (T : Mem w0 (.blk a [vI f, vI g] 29 :: Fz F W :: cs) w) (U : RdS R_api_Item F W i j s) {m : Int} (c : slices_IndexFunc_api_Item_api_Item s f g = some m) : Calls Tryz.prog 21 #[sl i s j, .func (.func 54) #[] #[vP a 0]] w (Post w0 (fun (_ : Unit) => True) (fun _ => vI m) (fun _ => .blk a [vI f, vI g] 29 :: Fz F W :: cs)) := by
 unfold slices_IndexFunc_api_Item_api_Item at c
 refine sx_calls Tryz.func21 rfl (n := 19) (by kernel_rfl) (l := [(0, sl i s j), (1, .func (.func 54) #[] #[vP a 0])]) rfl (by rfl) T ?_
 refine st_seq (st_region [oF 0] (by rfl) ?_)
 refine oq [oF 0] [(0, sl i s j), (1, .func (.func 54) #[] #[vP a 0])] ?_
 refine ops_nil (fin_then ?_)
 refine st_join1 (σ := Unit) (L := fun _ => []) (N := fun _ => Mem w0 (.blk a [vI f, vI g] 29 :: Fz F W :: cs)) (I := fun _ => (slices_IndexFunc_api_Item_api_Item_j1 = some m)) ?_ ?_
 ·
  rintro _ c
  unfold slices_IndexFunc_api_Item_api_Item_j1 at c
  refine st_seq (st_region [oF 0] (by rfl) ?_)
  refine oq [oF 0] [(4, vI (-1))] ?_
  refine ops_nil (fin_then (st_ret ?_))
  obtain rfl := Option.some.inj c
  exact fr [4] () trivial 0 []
 ·
  intro M
  refine st_seq (st_seq ?_)
  refine st_region (oFs 0 3) (by rfl) ?_
  refine oq (oFs 0 3) [(8, vI 0), (7, vI (s.length : Int)), (0, sl i s j), (1, .func (.func 54) #[] #[vP a 0])] ?_
  refine ops_nil (fin_then (st_block ?_))
  obtain ⟨r2, X, D⟩ := obind c
  refine lp (σ := Int) (ρ := (Int ⊕ Unit)) (γ := Unit) X () (fun A y => match A, y with | k, _ => [(0, sl i s j), (1, .func (.func 54) #[] #[vP a 0]), (7, vI (s.length : Int)), (8, vI k)]) (fun A y => match A, y with | k, _ => Mem w0 (.blk a [vI f, vI g] 29 :: Fz F W :: cs)) (fun A y => match A, y with | k, _ => True) trivial 0 [] ?_
  rintro k _ o2 - hs_ C
  have c : (slices_IndexFunc_api_Item_api_Item_l2 s f g) k = some o2 := hs_
  clear hs_
  unfold slices_IndexFunc_api_Item_api_Item_l2 at c
  refine st_seq (st_region [oF 0] (by rfl) ?_)
  refine oq [oF 0] [(9, .bool (decide (k < (s.length : Int)))), (0, sl i s j), (1, .func (.func 54) #[] #[vP a 0]), (7, vI (s.length : Int)), (8, vI k)] ?_
  refine ops_nil (fin_then (st_seq ?_))
  refine sif c (fun V c => ?_) (fun V c => ?_)
  ·
   refine st_skip (fin_then (st_seq (st_block (st_seq (st_region [oF 0, oF 1] (by rfl) ?_)))))
   refine oq [oF 0, oF 1] [(5, vI k), (0, sl i s j), (1, .func (.func 54) #[] #[vP a 0]), (7, vI (s.length : Int)), (8, vI k)] ?_
   refine ops_nil (fin_then (st_seq ?_))
   refine st_region (oFs 0 6) (by rfl) ?_
   refine oq (oFs 0 3) [(13, vI k), (12, sl i s j), (11, .func (.func 54) #[] #[vP a 0]), (5, vI k), (0, sl i s j), (1, .func (.func 54) #[] #[vP a 0]), (7, vI (s.length : Int)), (8, vI k)] ?_
   obtain ⟨q, Z, c⟩ := obind c
   obtain ⟨B, Y, E⟩ := idx_some Z
   have J := (List.getElem?_eq_some_iff.1 E).1
   obtain ⟨p, ac, G, hr9, r⟩ := RdS.el U E
   obtain ⟨u, x, rfl, O⟩ := dec_api_Item hr9
   refine ops_val (op := (.indexAddr 24 (.tmp 12) (.tmp 13))) (d := some 14) (v := .pointer (some (p.add (B * 3)))) ⟨by kernel_rfl⟩ (run_indexA G Tryz.underlying24 (z := 3) (by kernel_rfl) rfl rfl Y J) ?_
   refine ops_mem (d := some 15) (an := [.v (vI q.Ent.N), .v (vI q.Ent.Gen), .v (sl u q.Comps x)]) (evs := [.load (p.add (B * 3)) (vI q.Ent.N), .load ((p.add (B * 3)).add 1) (vI q.Ent.Gen), .load ((p.add (B * 3)).add 2) (sl u q.Comps x)]) (v := .agg #[vI q.Ent.N, vI q.Ent.Gen, sl u q.Comps x]) ⟨by kernel_rfl⟩ (fun w_ t hS => ⟨w_, ⟨t.elcell 1 rfl r 0 rfl, t.elcell 1 rfl r 1 rfl, t.elcell 1 rfl r 2 rfl, rfl⟩, t, trivial⟩) ?_
   obtain ⟨ad, K, c⟩ := obind c
   refine oV (some 16) 0 [] 0 [] (fun _ t => world_Find_1_ok t O K) ?_
   rintro _ -
   refine ops_nil (fin_then ?_)
   refine sif c (fun H c => ?_) (fun H c => ?_)
   ·
    refine st_seq (st_region [oF 0, oF 1] (by rfl) ?_)
    refine oq [oF 0, oF 1] [(4, vI k)] ?_
    refine ops_nil (fin_then (st_ret (fin_ret_block (fin_ret_then (fin_ret_then (fin_ret_block (fin_ret_then ?_)))))))
    obtain rfl := Option.some.inj c
    obtain rfl := C _ rfl
    have c : some k = some m := D
    obtain rfl := Option.some.inj c
    exact fr [4] () trivial 0 []
   ·
    refine st_skip (fin_block (fin_then (st_region [oF 0, oF 1] (by rfl) ?_)))
    refine oq [oF 0, oF 1] [(8, vI (IntKind.i64.wrap (k + 1))), (0, sl i s j), (1, .func (.func 54) #[] #[vP a 0]), (7, vI (s.length : Int))] ?_
    refine ops_nil ?_
    exact fag (IntKind.i64.wrap (k + 1)) () (Option.some.inj c).symm trivial 0 []
  ·
   refine st_exit (fin_exit_then (fin_exit_then (fin_exit ?_)))
   obtain rfl := Option.some.inj c
   obtain rfl := C _ rfl
   have c : slices_IndexFunc_api_Item_api_Item_j1 = some m := D
   exact fj M () c 0 []
theorem world_Find_ok {c : Option Addr} {f : Nat} {k : List api_Kind} {d : Option Addr} {g : Nat} {m : List Int} {a : Option Addr} {b : Nat} {i : List api_Item} {o : Int} {p : Int} (v : Mem w0 (Fz F W :: cs) w) (y : RdS R_api_Kind F W c f k) (z : RdS (Rep.int .i64) F W d g m) (r : RdS R_api_Item F W a b i) {q : Int} (s : world_Find k m i o p = some q) : Calls Tryz.prog 20 #[.agg #[sl c k f, sl d m g, sl a i b], .agg #[vI o, vI p]] w (Post w0 (fun (_ : Unit) => True) (fun _ => vI q) (fun _ => Fz F W :: cs)) := by
 unfold world_Find at s
 refine sx_calls Tryz.func20 rfl (n := 9) (by kernel_rfl) (l := [(0, .agg #[sl c k f, sl d m g, sl a i b]), (1, .agg #[vI o, vI p])]) rfl (by rfl) v ?_
 refine st_seq ?_
 refine st_region (oFs 0 3) (by rfl) ?_
 refine oN 2 [sl c k f, sl d m g, sl a i b] 26 (fun u => ?_)
 refine oN 3 [vI o, vI p] 29 (fun t => ?_)
 refine oq [oF 2] [(3, vP t 0), (2, vP u 0)] ?_
 refine ops_nil (fin_then (st_seq ?_))
 refine st_region (oFs 0 5) (by rfl) ?_
 refine oq [oF 0] [(5, vP u 2), (3, vP t 0)] ?_
 refine oM 6 1 2 ?_
 refine oq [oF 2] [(7, .func (.func 54) #[] #[vP t 0]), (6, sl a i b)] ?_
 obtain ⟨B, x, s⟩ := obind s
 refine oV (some 8) 3 [0, 2, 1] 3 [0, 2, 1] (fun _ A => slices_IndexFunc_api_Item_api_Item_ok A r x) ?_
 rintro _ -
 refine oq [oF 4] [(4, vI B)] ?_
 refine ops_nil (fin_then (st_ret ?_))
 obtain rfl := Option.some.inj s
 exact fr [4] () trivial 3 [2]
theorem cmp_isNaN_int_ok {x : Int} (c : Mem w0 (Fz F W :: cs) w) (f : cmp_isNaN_int x = some ()) : Calls Tryz.prog 63 #[vI x] w (Post w0 (fun (_ : Unit) => True) (fun _ => .bool false) (fun _ => Fz F W :: cs)) := by
 unfold cmp_isNaN_int at f
 refine sx_calls Tryz.func63 rfl (n := 6) (by kernel_rfl) (l := [(0, vI x)]) rfl (by rfl) c ?_
 refine st_seq (st_region [oF 0] (by rfl) ?_)
 refine oq [oF 0] [(0, vI x)] ?_
 refine ops_nil (fin_then (st_seq ?_))
 refine st_region (oFs 0 4) (by rfl) ?_
 refine oq [oF 0, oF 1] [(4, vI x), (3, vI x)] ?_
 refine ops_val (op := (.binOp Go.BinOp.neq 3 (.tmp 3) (.tmp 4) 3)) (d := some 5) (v := .bool false) ⟨by kernel_rfl⟩ (run_neq_same rfl rfl) ?_
 refine oq [oF 3] [(2, .bool false)] ?_
 refine ops_nil (fin_then (st_ret ?_))
 exact fr [2] () trivial 0 []
theorem cmp_Compare_int_ok {x : Int} {y : Int} (i : Mem w0 (Fz F W :: cs) w) {c : Int} (b : cmp_Compare_int x y = some c) : Calls Tryz.prog 37 #[vI x, vI y] w (Post w0 (fun (_ : Unit) => True) (fun _ => vI c) (fun _ => Fz F W :: cs)) := by
 unfold cmp_Compare_int at b
 refine sx_calls Tryz.func37 rfl (n := 20) (by kernel_rfl) (l := [(0, vI x), (1, vI y)]) rfl (by rfl) i ?_
 refine st_seq (st_region [oF 0] (by rfl) ?_)
 refine oq [oF 0] [(0, vI x), (1, vI y)] ?_
 refine ops_nil (fin_then (st_seq ?_))
 refine st_region (oFs 0 3) (by rfl) ?_
 refine oq [oF 0] [(7, vI x), (0, vI x), (1, vI y)] ?_
 obtain ⟨_, m, b⟩ := obind b
 refine oV (some 8) 0 [] 0 [] (fun _ g => cmp_isNaN_int_ok g m) ?_
 rintro _ -
 refine oq [oF 2] [(5, .bool false), (0, vI x), (1, vI y)] ?_
 refine ops_nil (fin_then (st_seq ?_))
 refine st_region (oFs 0 3) (by rfl) ?_
 refine oq [oF 0] [(9, vI y), (5, .bool false), (0, vI x), (1, vI y)] ?_
 obtain ⟨_, o, b⟩ := obind b
 refine oV (some 10) 0 [] 0 [] (fun _ g => cmp_isNaN_int_ok g o) ?_
 rintro _ -
 refine oq [oF 2] [(6, .bool false), (5, .bool false), (0, vI x), (1, vI y)] ?_
 refine ops_nil (fin_then (st_seq (st_seq (st_region [oF 0] (by rfl) ?_))))
 refine oq [oF 0] [(11, .bool false), (6, .bool false), (0, vI x), (1, vI y)] ?_
 refine ops_nil (fin_then (st_false rfl (st_skip (fin_then (st_seq (st_seq (st_region [oF 0] (by rfl) ?_)))))))
 refine oq [oF 0] [(13, .bool false), (0, vI x), (1, vI y)] ?_
 refine ops_nil (fin_then (st_false rfl (st_skip (fin_then (st_seq (st_seq ?_))))))
 refine st_region (oFs 0 3) (by rfl) ?_
 refine oq (oFs 0 3) [(16, .bool (decide (x < y))), (0, vI x), (1, vI y)] ?_
 refine ops_nil (fin_then ?_)
 refine sif b (fun j b => ?_) (fun j b => ?_)
 ·
  refine st_seq (st_region [oF 0] (by rfl) ?_)
  refine oq [oF 0] [(4, vI (-1))] ?_
  refine ops_nil (fin_then (st_ret (fin_ret_then ?_)))
  obtain rfl := Option.some.inj b
  exact fr [4] () trivial 0 []
 ·
  refine st_skip (fin_then (st_seq (st_seq ?_)))
  refine st_region (oFs 0 3) (by rfl) ?_
  refine oq (oFs 0 3) [(19, .bool (decide (y < x)))] ?_
  refine ops_nil (fin_then ?_)
  refine sif b (fun k b => ?_) (fun k b => ?_)
  ·
   refine st_seq (st_region [oF 0] (by rfl) ?_)
   refine oq [oF 0] [(4, vI 1)] ?_
   refine ops_nil (fin_then (st_ret (fin_ret_then ?_)))
   obtain rfl := Option.some.inj b
   exact fr [4] () trivial 0 []
  ·
   refine st_skip (fin_then (st_seq (st_region [oF 0] (by rfl) ?_)))
   refine oq [oF 0] [(4, vI 0)] ?_
   refine ops_nil (fin_then (st_ret ?_))
   obtain rfl := Option.some.inj b
   exact fr [4] () trivial 0 []
theorem world_at_1_ok {c : Int} {a : Option Addr} {b : Nat} {d : List Int} {k : Int} (o : Mem w0 (Fz F W :: cs) w) (q : RdS (Rep.int .i64) F W a b d) {g : Int} (i : world_at_1 c d k = some g) : Calls Tryz.prog 81 #[.agg #[vI c, sl a d b], vI k] w (Post w0 (fun (_ : Unit) => True) (fun _ => vI g) (fun _ => Fz F W :: cs)) := by
 unfold world_at_1 at i
 refine sx_calls Tryz.func81 rfl (n := 9) (by kernel_rfl) (l := [(0, .agg #[vI c, sl a d b]), (1, vI k)]) rfl (by rfl) o ?_
 refine st_seq (st_region [oF 0, oF 1] (by rfl) ?_)
 refine oN 2 [vI c, sl a d b] 42 (fun m => ?_)
 refine oq [oF 1] [(2, vP m 0), (1, vI k)] ?_
 refine ops_nil (fin_then (st_seq ?_))
 refine st_region (oFs 0 5) (by rfl) ?_
 refine oq [oF 0] [(5, vP m 0), (1, vI k)] ?_
 refine oM 6 0 0 ?_
 refine oq [oF 2] [(7, vI k), (6, vI c)] ?_
 obtain ⟨s, p, i⟩ := obind i
 refine oV (some 8) 2 [1, 0] 2 [1, 0] (fun _ r => cmp_Compare_int_ok r p) ?_
 rintro _ -
 refine oq [oF 4] [(4, vI s)] ?_
 refine ops_nil (fin_then (st_ret ?_))
 obtain rfl := Option.some.inj i
 exact fr [4] () trivial 2 [1]
end Go.Proofs.YtbfndcookgijfaaGreatDoor.C
