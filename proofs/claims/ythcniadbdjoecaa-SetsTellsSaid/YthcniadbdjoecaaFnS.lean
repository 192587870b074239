/- The Go functions as plain functions over Option. No condition. -/
import Derived.Test.YthcniadbdjoecaaTyS
import Derived.Test.YthcniadbdjoecaaExMap
namespace Go.Proofs.Ythcniadbdjoecaa.S
open Go Go.RowKit Go.Proofs.Ythcniadbdjoecaa.Sx
set_option linter.unusedVariables false
noncomputable def sets_one (i : Int) : Option ((List Int)) :=
 cnd (decide (i < 0)) (some ([] : List Int)) (cnd (decide (4096 ≤ i)) (some ([] : List Int)) ((mk 8 (IntKind.i64.wrap (IntKind.i64.wrap (Int.tdiv i 64) + 1)) (0 : Int)).bind fun l3 =>
 (shl .u64 1 (Int.tmod i 64)).bind fun x14 =>
 (idx l3 (IntKind.i64.wrap (Int.tdiv i 64))).bind fun x18 =>
 (upd l3 (IntKind.i64.wrap (Int.tdiv i 64)) x14).bind fun l27 =>
 some l27))
noncomputable def sets_Set_word (s : List Int) (k : Int) : Option Int :=
 cnd (decide (k < min (s.length : Int) 64)) ((idx s k).bind fun x2 =>
 some x2) (some 0)
noncomputable def sets_Set_Either_1 (x : Int) (y : Int) : Option Int :=
 some (Go.bits .or .u64 x y)
noncomputable def sets_join_j2 (l6 : List Int) : Option ((List Int)) :=
 some l6
noncomputable def sets_join_l3 (l9 : List Int) : Option ((List Int) ⊕ (List Int)) :=
 cnd (decide (0 < (l9.length : Int))) ((idx l9 (IntKind.i64.wrap ((l9.length : Int) - 1))).bind fun x13 =>
 cnd (x13 == 0) ((cut l9 0 (IntKind.i64.wrap ((l9.length : Int) - 1))).bind fun l24 =>
 some (.inl l24)) (some (.inr l9))) (some (.inr l9))
noncomputable def sets_join_j1 (l3 : List Int) : Option ((List Int)) :=
 (loop (σ := (List Int)) (ρ := (List Int)) (fun s_ => sets_join_l3 s_) l3).bind (fun e_ => sets_join_j2 e_)
noncomputable def sets_join_l4 (a : List Int) (b : List Int) (l40 : List Int) (i43 : Int) : Option (((List Int) × Int) ⊕ (List Int)) :=
 cnd (decide (i43 < min (max (a.length : Int) (b.length : Int)) 64)) ((sets_Set_word a i43).bind fun x45 =>
 (sets_Set_word b i43).bind fun x47 =>
 (sets_Set_Either_1 x45 x47).bind fun x49 =>
 (app 8 l40 ([x49] : List Int)).bind fun l53 =>
 some (.inl (l53, IntKind.i64.wrap (i43 + 1)))) (some (.inr l40))
noncomputable def sets_join (a : List Int) (b : List Int) : Option ((List Int)) :=
 (loop (σ := (List Int) × Int) (ρ := (List Int)) (fun s_ => sets_join_l4 a b s_.1 s_.2) (([] : List Int), 0)).bind (fun e_ => sets_join_j1 e_)
noncomputable def sets_Set_Either (s : List Int) (o : List Int) : Option ((List Int)) :=
 (sets_join s o).bind fun x1 =>
 some x1
noncomputable def sets_Set_With (s : List Int) (i : Int) : Option ((List Int)) :=
 (sets_one i).bind fun x1 =>
 (sets_Set_Either s x1).bind fun x7 =>
 some x7
noncomputable def sets_Of_j1 (l3 : List Int) : Option ((List Int)) :=
 some l3
noncomputable def sets_Of_l2 (l : List Int) (l8 : List Int) (i11 : Int) : Option (((List Int) × Int) ⊕ (List Int)) :=
 cnd (decide (i11 < (l.length : Int))) ((idx l i11).bind fun x13 =>
 (sets_Set_With l8 x13).bind fun x24 =>
 some (.inl (x24, IntKind.i64.wrap (i11 + 1)))) (some (.inr l8))
noncomputable def sets_Of (l : List Int) : Option ((List Int)) :=
 (loop (σ := (List Int) × Int) (ρ := (List Int)) (fun s_ => sets_Of_l2 l s_.1 s_.2) (([] : List Int), 0)).bind (fun e_ => sets_Of_j1 e_)
noncomputable def slices_Equal_sets_Set_uint64_j1 : Option Bool :=
 some true
noncomputable def slices_Equal_sets_Set_uint64_l2 (s1_1 : List Int) (s2_1 : List Int) (i2 : Int) : Option (Int ⊕ (Bool ⊕ Unit)) :=
 cnd (decide (i2 < (s1_1.length : Int))) ((idx s1_1 i2).bind fun x4 =>
 (idx s2_1 i2).bind fun x15 =>
 cnd (!(x4 == x15)) (some (.inr (.inl false))) (some (.inl (IntKind.i64.wrap (i2 + 1))))) (some (.inr (.inr ())))
noncomputable def slices_Equal_sets_Set_uint64 (s1_1 : List Int) (s2_1 : List Int) : Option Bool :=
 cnd (!((s1_1.length : Int) == (s2_1.length : Int))) (some false) ((loop (σ := Int) (ρ := (Bool ⊕ Unit)) (fun s_ => slices_Equal_sets_Set_uint64_l2 s1_1 s2_1 s_) 0).bind (Sum.elim (fun e_ => some e_) (fun e_ => slices_Equal_sets_Set_uint64_j1)))
noncomputable def tourref1_Members_j1 (l3 : List Int) : Option ((List Int)) :=
 some l3
noncomputable def tourref1_Members_j3 (i11 : Int) (l15 : List Int) : Option (((List Int) × Int) ⊕ (List Int)) :=
 some (.inl (l15, IntKind.i64.wrap (i11 + 1)))
noncomputable def tourref1_Members_l2 (s : List Int) (l8 : List Int) (i11 : Int) : Option (((List Int) × Int) ⊕ (List Int)) :=
 cnd (decide (i11 < 4096)) (cnd (decide (IntKind.i64.wrap (Int.tdiv i11 64) < (s.length : Int))) ((idx s (IntKind.i64.wrap (Int.tdiv i11 64))).bind fun x19 =>
 (shl .u64 1 (Int.tmod i11 64)).bind fun x30 =>
 (quo .u64 x19 x30).bind fun x34 =>
 cnd (Int.tmod x34 2 == 1) ((app 8 l8 ([i11] : List Int)).bind fun l41 =>
 tourref1_Members_j3 i11 l41) (tourref1_Members_j3 i11 l8)) (tourref1_Members_j3 i11 l8)) (some (.inr l8))
noncomputable def tourref1_Members (s : List Int) : Option ((List Int)) :=
 (loop (σ := (List Int) × Int) (ρ := (List Int)) (fun s_ => tourref1_Members_l2 s s_.1 s_.2) (([] : List Int), 0)).bind (fun e_ => tourref1_Members_j1 e_)
noncomputable def sets_Set_All_1 (x : Int) (y : Int) : Option Unit :=
 some ()
noncomputable def sets_join_v2_j2 (l6 : List Int) : Option ((List Int)) :=
 some l6
noncomputable def sets_join_v2_l3 (l9 : List Int) : Option ((List Int) ⊕ (List Int)) :=
 cnd (decide (0 < (l9.length : Int))) ((idx l9 (IntKind.i64.wrap ((l9.length : Int) - 1))).bind fun x13 =>
 cnd (x13 == 0) ((cut l9 0 (IntKind.i64.wrap ((l9.length : Int) - 1))).bind fun l24 =>
 some (.inl l24)) (some (.inr l9))) (some (.inr l9))
noncomputable def sets_join_v2_j1 (l3 : List Int) : Option ((List Int)) :=
 (loop (σ := (List Int)) (ρ := (List Int)) (fun s_ => sets_join_v2_l3 s_) l3).bind (fun e_ => sets_join_v2_j2 e_)
noncomputable def sets_join_v2_l4 (a : List Int) (b : List Int) (l40 : List Int) (i43 : Int) : Option (((List Int) × Int) ⊕ (List Int)) :=
 cnd (decide (i43 < min (max (a.length : Int) (b.length : Int)) 64)) ((sets_Set_word a i43).bind fun x45 =>
 (sets_Set_word b i43).bind fun x47 =>
 (sets_Set_All_1 x45 x47).bind fun _ =>
 (app 8 l40 ([x45] : List Int)).bind fun l52 =>
 some (.inl (l52, IntKind.i64.wrap (i43 + 1)))) (some (.inr l40))
noncomputable def sets_join_v2 (a : List Int) (b : List Int) : Option ((List Int)) :=
 (loop (σ := (List Int) × Int) (ρ := (List Int)) (fun s_ => sets_join_v2_l4 a b s_.1 s_.2) (([] : List Int), 0)).bind (fun e_ => sets_join_v2_j1 e_)
noncomputable def sets_Set_All (s : List Int) : Option ((List Int)) :=
 (sets_join_v2 s []).bind fun x2 =>
 some x2
noncomputable def slices_Equal_int_int_j1 : Option Bool :=
 some true
noncomputable def slices_Equal_int_int_l2 (s1_1 : List Int) (s2_1 : List Int) (i2 : Int) : Option (Int ⊕ (Bool ⊕ Unit)) :=
 cnd (decide (i2 < (s1_1.length : Int))) ((idx s1_1 i2).bind fun x4 =>
 (idx s2_1 i2).bind fun x15 =>
 cnd (!(x4 == x15)) (some (.inr (.inl false))) (some (.inl (IntKind.i64.wrap (i2 + 1))))) (some (.inr (.inr ())))
noncomputable def slices_Equal_int_int (s1_1 : List Int) (s2_1 : List Int) : Option Bool :=
 cnd (!((s1_1.length : Int) == (s2_1.length : Int))) (some false) ((loop (σ := Int) (ρ := (Bool ⊕ Unit)) (fun s_ => slices_Equal_int_int_l2 s1_1 s2_1 s_) 0).bind (Sum.elim (fun e_ => some e_) (fun e_ => slices_Equal_int_int_j1)))
noncomputable def sets_Set_Len_j1 (i2 : Int) : Option Int :=
 some i2
noncomputable def sets_Set_Len_j3 (i14 : Int) (i17 : Int) : Option ((Int × Int) ⊕ Int) :=
 some (.inl (IntKind.i64.wrap (i14 + 1), i17))
noncomputable def sets_Set_Len_j5 (i28 : Int) (i29 : Int) (i32 : Int) : Option ((Int × Int × Int) ⊕ Int) :=
 some (.inl (Int.fdiv i28 2, IntKind.i64.wrap (i29 + 1), i32))
noncomputable def sets_Set_Len_l4 (i28 : Int) (i29 : Int) (i30 : Int) : Option ((Int × Int × Int) ⊕ Int) :=
 cnd (!(i28 == 0)) (cnd (Go.bits .and .u64 i28 1 == 1) (sets_Set_Len_j5 i28 i29 (IntKind.i64.wrap (i30 + 1))) (sets_Set_Len_j5 i28 i29 i30)) (some (.inr i30))
noncomputable def sets_Set_Len_l2 (x4 : List Int) (i14 : Int) (i15 : Int) : Option ((Int × Int) ⊕ Int) :=
 cnd (decide (i14 < (x4.length : Int))) ((idx x4 i14).bind fun x18 =>
 (loop (σ := Int × Int × Int) (ρ := Int) (fun s_ => sets_Set_Len_l4 s_.1 s_.2.1 s_.2.2) (x18, 0, i15)).bind (fun e_ => sets_Set_Len_j3 i14 e_)) (some (.inr i15))
noncomputable def sets_Set_Len (s : List Int) : Option Int :=
 (sets_Set_All s).bind fun x4 =>
 (loop (σ := Int × Int) (ρ := Int) (fun s_ => sets_Set_Len_l2 x4 s_.1 s_.2) (0, 0)).bind (fun e_ => sets_Set_Len_j1 e_)
noncomputable def sets_Set_Has_j1 (t1 : Bool) : Option Bool :=
 some t1
noncomputable def sets_Set_Has (s : List Int) (i : Int) : Option Bool :=
 cnd (decide (0 ≤ i)) ((sets_Set_word s (IntKind.i64.wrap (Int.tdiv i 64))).bind fun x3 =>
 (shr .u64 x3 (Int.tmod i 64)).bind fun x5 =>
 sets_Set_Has_j1 (Go.bits .and .u64 x5 1 == 1)) (sets_Set_Has_j1 false)
noncomputable def slices_Index_int_int_j1 : Option Int :=
 some (-1)
noncomputable def slices_Index_int_int_l2 (s : List Int) (v : Int) (i1 : Int) : Option (Int ⊕ (Int ⊕ Unit)) :=
 cnd (decide (i1 < (s.length : Int))) ((idx s i1).bind fun x3 =>
 cnd (v == x3) (some (.inr (.inl i1))) (some (.inl (IntKind.i64.wrap (i1 + 1))))) (some (.inr (.inr ())))
noncomputable def slices_Index_int_int (s : List Int) (v : Int) : Option Int :=
 (loop (σ := Int) (ρ := (Int ⊕ Unit)) (fun s_ => slices_Index_int_int_l2 s v s_) 0).bind (Sum.elim (fun e_ => some e_) (fun e_ => slices_Index_int_int_j1))
noncomputable def slices_Contains_int_int (s : List Int) (v : Int) : Option Bool :=
 (slices_Index_int_int s v).bind fun x1 =>
 some (decide (0 ≤ x1))
noncomputable def tourref1_SetOf_j1 (l3 : List Int) : Option ((List Int)) :=
 some l3
noncomputable def tourref1_SetOf_j3 (i11 : Int) (l15 : List Int) : Option (((List Int) × Int) ⊕ (List Int)) :=
 some (.inl (l15, IntKind.i64.wrap (i11 + 1)))
noncomputable def tourref1_SetOf_j4 (x18 : Int) (i11 : Int) (l33 : List Int) : Option (((List Int) × Int) ⊕ (List Int)) :=
 (idx l33 (IntKind.i64.wrap (Int.tdiv x18 64))).bind fun x36 =>
 (shl .u64 1 (Int.tmod x18 64)).bind fun x46 =>
 (quo .u64 x36 x46).bind fun x50 =>
 cnd (Int.tmod x50 2 == 0) ((idx l33 (IntKind.i64.wrap (Int.tdiv x18 64))).bind fun x55 =>
 (shl .u64 1 (Int.tmod x18 64)).bind fun x64 =>
 (idx l33 (IntKind.i64.wrap (Int.tdiv x18 64))).bind fun x68 =>
 (upd l33 (IntKind.i64.wrap (Int.tdiv x18 64)) (IntKind.u64.wrap (x55 + x64))).bind fun l77 =>
 tourref1_SetOf_j3 i11 l77) (tourref1_SetOf_j3 i11 l33)
noncomputable def tourref1_SetOf_l5 (x18 : Int) (l90 : List Int) : Option ((List Int) ⊕ (List Int)) :=
 cnd (decide ((l90.length : Int) ≤ IntKind.i64.wrap (Int.tdiv x18 64))) ((app 8 l90 ([0] : List Int)).bind fun l96 =>
 some (.inl l96)) (some (.inr l90))
noncomputable def tourref1_SetOf_l2 (l : List Int) (l8 : List Int) (i11 : Int) : Option (((List Int) × Int) ⊕ (List Int)) :=
 cnd (decide (i11 < (l.length : Int))) ((idx l i11).bind fun x18 =>
 cnd (decide (x18 < 0)) (tourref1_SetOf_j3 i11 l8) (cnd (decide (4096 ≤ x18)) (tourref1_SetOf_j3 i11 l8) ((loop (σ := (List Int)) (ρ := (List Int)) (fun s_ => tourref1_SetOf_l5 x18 s_) l8).bind (fun e_ => tourref1_SetOf_j4 x18 i11 e_)))) (some (.inr l8))
noncomputable def tourref1_SetOf (l : List Int) : Option ((List Int)) :=
 (loop (σ := (List Int) × Int) (ρ := (List Int)) (fun s_ => tourref1_SetOf_l2 l s_.1 s_.2) (([] : List Int), 0)).bind (fun e_ => tourref1_SetOf_j1 e_)
noncomputable def tourlaw1_SetsTells_4 (got : List Int) (want : List Int) : Option Bool :=
 (tourref1_SetOf want).bind fun x1 =>
 (slices_Equal_sets_Set_uint64 got x1).bind fun x7 =>
 some x7
noncomputable def slices_Clone_int_int (s : List Int) : Option ((List Int)) :=
 (app 8 ([] : List Int) s).bind fun l5 =>
 some l5
noncomputable def sets_Set_Minus_1 (x : Int) (y : Int) : Option Int :=
 some (Go.bits .andNot .u64 x y)
noncomputable def sets_join_v3_j2 (l6 : List Int) : Option ((List Int)) :=
 some l6
noncomputable def sets_join_v3_l3 (l9 : List Int) : Option ((List Int) ⊕ (List Int)) :=
 cnd (decide (0 < (l9.length : Int))) ((idx l9 (IntKind.i64.wrap ((l9.length : Int) - 1))).bind fun x13 =>
 cnd (x13 == 0) ((cut l9 0 (IntKind.i64.wrap ((l9.length : Int) - 1))).bind fun l24 =>
 some (.inl l24)) (some (.inr l9))) (some (.inr l9))
noncomputable def sets_join_v3_j1 (l3 : List Int) : Option ((List Int)) :=
 (loop (σ := (List Int)) (ρ := (List Int)) (fun s_ => sets_join_v3_l3 s_) l3).bind (fun e_ => sets_join_v3_j2 e_)
noncomputable def sets_join_v3_l4 (a : List Int) (b : List Int) (l40 : List Int) (i43 : Int) : Option (((List Int) × Int) ⊕ (List Int)) :=
 cnd (decide (i43 < min (max (a.length : Int) (b.length : Int)) 64)) ((sets_Set_word a i43).bind fun x45 =>
 (sets_Set_word b i43).bind fun x47 =>
 (sets_Set_Minus_1 x45 x47).bind fun x49 =>
 (app 8 l40 ([x49] : List Int)).bind fun l53 =>
 some (.inl (l53, IntKind.i64.wrap (i43 + 1)))) (some (.inr l40))
noncomputable def sets_join_v3 (a : List Int) (b : List Int) : Option ((List Int)) :=
 (loop (σ := (List Int) × Int) (ρ := (List Int)) (fun s_ => sets_join_v3_l4 a b s_.1 s_.2) (([] : List Int), 0)).bind (fun e_ => sets_join_v3_j1 e_)
noncomputable def sets_Set_Minus (s : List Int) (o : List Int) : Option ((List Int)) :=
 (sets_join_v3 s o).bind fun x1 =>
 some x1
noncomputable def sets_Set_Without (s : List Int) (i : Int) : Option ((List Int)) :=
 (sets_one i).bind fun x1 =>
 (sets_Set_Minus s x1).bind fun x7 =>
 some x7
noncomputable def tourlaw1_SetsTells_5 (n : Int) (p1_0 : Int) : Option Bool :=
 some (!(n == p1_0))
noncomputable def tourlaw1_SetsTells_3_j1 (l3 : List Int) : Option ((List Int)) :=
 some l3
noncomputable def tourlaw1_SetsTells_3_j3 (i11 : Int) (l15 : List Int) : Option (((List Int) × Int) ⊕ (List Int)) :=
 some (.inl (l15, IntKind.i64.wrap (i11 + 1)))
noncomputable def tourlaw1_SetsTells_3_l2 (l : List Int) (is_c0_0 : Int) (l8 : List Int) (i11 : Int) : Option (((List Int) × Int) ⊕ (List Int)) :=
 cnd (decide (i11 < (l.length : Int))) ((idx l i11).bind fun x18 =>
 (tourlaw1_SetsTells_5 x18 is_c0_0).bind fun x29 =>
 cnd x29 ((app 8 l8 ([x18] : List Int)).bind fun l34 =>
 tourlaw1_SetsTells_3_j3 i11 l34) (tourlaw1_SetsTells_3_j3 i11 l8)) (some (.inr l8))
noncomputable def tourlaw1_SetsTells_3 (l : List Int) (is_c0_0 : Int) : Option ((List Int)) :=
 (loop (σ := (List Int) × Int) (ρ := (List Int)) (fun s_ => tourlaw1_SetsTells_3_l2 l is_c0_0 s_.1 s_.2) (([] : List Int), 0)).bind (fun e_ => tourlaw1_SetsTells_3_j1 e_)
noncomputable def slices_Grow_int_int (n_ : Int) : Option (List Int) := grow 8 n_
noncomputable def slices_Concat_int_int_j2 (l10 : List Int) : Option ((List Int)) :=
 some l10
noncomputable def slices_Concat_int_int_l3 (slices : List (List Int)) (l15 : List Int) (i18 : Int) : Option (((List Int) × Int) ⊕ (List Int)) :=
 cnd (decide (i18 < (slices.length : Int))) ((idx slices i18).bind fun x20 =>
 (app 8 l15 x20).bind fun l34 =>
 some (.inl (l34, IntKind.i64.wrap (i18 + 1)))) (some (.inr l15))
noncomputable def slices_Concat_int_int_j1 (slices : List (List Int)) (i1 : Int) : Option ((List Int)) :=
 (slices_Grow_int_int i1).bind fun x2 =>
 (loop (σ := (List Int) × Int) (ρ := (List Int)) (fun s_ => slices_Concat_int_int_l3 slices s_.1 s_.2) (x2, 0)).bind (fun e_ => slices_Concat_int_int_j2 e_)
noncomputable def slices_Concat_int_int_l4 (slices : List (List Int)) (i46 : Int) (i47 : Int) : Option ((Int × Int) ⊕ Int) :=
 cnd (decide (i47 < (slices.length : Int))) ((idx slices i47).bind fun x49 =>
 cnd (decide (IntKind.i64.wrap (i46 + (x49.length : Int)) < 0)) (none) (some (.inl (IntKind.i64.wrap (i46 + (x49.length : Int)), IntKind.i64.wrap (i47 + 1))))) (some (.inr i46))
noncomputable def slices_Concat_int_int (slices : List (List Int)) : Option ((List Int)) :=
 (loop (σ := Int × Int) (ρ := Int) (fun s_ => slices_Concat_int_int_l4 slices s_.1 s_.2) (0, 0)).bind (fun e_ => slices_Concat_int_int_j1 slices e_)
noncomputable def sets_Set_Both_1 (x : Int) (y : Int) : Option Int :=
 some (Go.bits .and .u64 x y)
noncomputable def sets_join_v4_j2 (l6 : List Int) : Option ((List Int)) :=
 some l6
noncomputable def sets_join_v4_l3 (l9 : List Int) : Option ((List Int) ⊕ (List Int)) :=
 cnd (decide (0 < (l9.length : Int))) ((idx l9 (IntKind.i64.wrap ((l9.length : Int) - 1))).bind fun x13 =>
 cnd (x13 == 0) ((cut l9 0 (IntKind.i64.wrap ((l9.length : Int) - 1))).bind fun l24 =>
 some (.inl l24)) (some (.inr l9))) (some (.inr l9))
noncomputable def sets_join_v4_j1 (l3 : List Int) : Option ((List Int)) :=
 (loop (σ := (List Int)) (ρ := (List Int)) (fun s_ => sets_join_v4_l3 s_) l3).bind (fun e_ => sets_join_v4_j2 e_)
noncomputable def sets_join_v4_l4 (a : List Int) (b : List Int) (l40 : List Int) (i43 : Int) : Option (((List Int) × Int) ⊕ (List Int)) :=
 cnd (decide (i43 < min (max (a.length : Int) (b.length : Int)) 64)) ((sets_Set_word a i43).bind fun x45 =>
 (sets_Set_word b i43).bind fun x47 =>
 (sets_Set_Both_1 x45 x47).bind fun x49 =>
 (app 8 l40 ([x49] : List Int)).bind fun l53 =>
 some (.inl (l53, IntKind.i64.wrap (i43 + 1)))) (some (.inr l40))
noncomputable def sets_join_v4 (a : List Int) (b : List Int) : Option ((List Int)) :=
 (loop (σ := (List Int) × Int) (ρ := (List Int)) (fun s_ => sets_join_v4_l4 a b s_.1 s_.2) (([] : List Int), 0)).bind (fun e_ => sets_join_v4_j1 e_)
noncomputable def sets_Set_Both (s : List Int) (o : List Int) : Option ((List Int)) :=
 (sets_join_v4 s o).bind fun x1 =>
 some x1
noncomputable def tourlaw1_SetsTells_1 (l : List Int) : Option Unit :=
 some ()
noncomputable def tourlaw1_SetsTells_1_1 (n : Int) (p1_0 : List Int) : Option Bool :=
 (slices_Contains_int_int p1_0 n).bind fun x1 =>
 some x1
noncomputable def tourlaw1_SetsTells_3_v2_j1 (l3 : List Int) : Option ((List Int)) :=
 some l3
noncomputable def tourlaw1_SetsTells_3_v2_j3 (i13 : Int) (l18 : List Int) : Option (((List Int) × Int) ⊕ (List Int)) :=
 some (.inl (l18, IntKind.i64.wrap (i13 + 1)))
noncomputable def tourlaw1_SetsTells_3_v2_l2 (l : List Int) (is_c0_0 : List Int) (l10 : List Int) (i13 : Int) : Option (((List Int) × Int) ⊕ (List Int)) :=
 cnd (decide (i13 < (l.length : Int))) ((idx l i13).bind fun x21 =>
 (tourlaw1_SetsTells_1_1 x21 is_c0_0).bind fun x32 =>
 cnd x32 ((app 8 l10 ([x21] : List Int)).bind fun l38 =>
 tourlaw1_SetsTells_3_v2_j3 i13 l38) (tourlaw1_SetsTells_3_v2_j3 i13 l10)) (some (.inr l10))
noncomputable def tourlaw1_SetsTells_3_v2 (l : List Int) (is_c0_0 : List Int) : Option ((List Int)) :=
 (loop (σ := (List Int) × Int) (ρ := (List Int)) (fun s_ => tourlaw1_SetsTells_3_v2_l2 l is_c0_0 s_.1 s_.2) (([] : List Int), 0)).bind (fun e_ => tourlaw1_SetsTells_3_v2_j1 e_)
noncomputable def tourlaw1_SetsTells_2 (l : List Int) : Option Unit :=
 some ()
noncomputable def tourlaw1_SetsTells_2_1 (n : Int) (p1_0 : List Int) : Option Bool :=
 (slices_Contains_int_int p1_0 n).bind fun x1 =>
 some !x1
noncomputable def tourlaw1_SetsTells_3_v3_j1 (l3 : List Int) : Option ((List Int)) :=
 some l3
noncomputable def tourlaw1_SetsTells_3_v3_j3 (i13 : Int) (l18 : List Int) : Option (((List Int) × Int) ⊕ (List Int)) :=
 some (.inl (l18, IntKind.i64.wrap (i13 + 1)))
noncomputable def tourlaw1_SetsTells_3_v3_l2 (l : List Int) (is_c0_0 : List Int) (l10 : List Int) (i13 : Int) : Option (((List Int) × Int) ⊕ (List Int)) :=
 cnd (decide (i13 < (l.length : Int))) ((idx l i13).bind fun x21 =>
 (tourlaw1_SetsTells_2_1 x21 is_c0_0).bind fun x32 =>
 cnd x32 ((app 8 l10 ([x21] : List Int)).bind fun l38 =>
 tourlaw1_SetsTells_3_v3_j3 i13 l38) (tourlaw1_SetsTells_3_v3_j3 i13 l10)) (some (.inr l10))
noncomputable def tourlaw1_SetsTells_3_v3 (l : List Int) (is_c0_0 : List Int) : Option ((List Int)) :=
 (loop (σ := (List Int) × Int) (ρ := (List Int)) (fun s_ => tourlaw1_SetsTells_3_v3_l2 l is_c0_0 s_.1 s_.2) (([] : List Int), 0)).bind (fun e_ => tourlaw1_SetsTells_3_v3_j1 e_)
noncomputable def tourlaw1_SetsTells_j2 (t45 : Bool) : Option Bool :=
 some t45
noncomputable def tourlaw1_SetsTells_j1 (x15 : List Int) (a : List Int) (i : Int) (l : List Int) (b : List Int) (x21 : List Int) (l30 : List Int) : Option Bool :=
 (slices_Equal_int_int l30 x15).bind fun x34 =>
 cnd (!x34) (some false) ((sets_Set_Len a).bind fun x37 =>
 cnd (!(x37 == (x15.length : Int))) (some false) ((sets_Set_Has a i).bind fun x40 =>
 (slices_Contains_int_int x15 i).bind fun x42 =>
 cnd (!(x40 == x42)) (some false) ((sets_Of l).bind fun x48 =>
 (tourlaw1_SetsTells_4 x48 l).bind fun x54 =>
 cnd x54 ((sets_Set_With a i).bind fun x61 =>
 (slices_Clone_int_int x15).bind fun x67 =>
 (app 8 x67 ([i] : List Int)).bind fun l75 =>
 (tourlaw1_SetsTells_4 x61 l75).bind fun x84 =>
 cnd x84 ((sets_Set_Without a i).bind fun x108 =>
 (tourlaw1_SetsTells_3 x15 i).bind fun x118 =>
 (tourlaw1_SetsTells_4 x108 x118).bind fun x124 =>
 cnd x124 ((sets_Set_Either a b).bind fun x160 =>
 (slices_Concat_int_int ([x15, x21] : List (List Int))).bind fun x172 =>
 (tourlaw1_SetsTells_4 x160 x172).bind fun x178 =>
 cnd x178 ((sets_Set_Both a b).bind fun x228 =>
 (tourlaw1_SetsTells_1 x21).bind fun _ =>
 (tourlaw1_SetsTells_3_v2 x15 x21).bind fun x237 =>
 (tourlaw1_SetsTells_4 x228 x237).bind fun x244 =>
 cnd x244 ((sets_Set_Minus a b).bind fun x305 =>
 (tourlaw1_SetsTells_2 x21).bind fun _ =>
 (tourlaw1_SetsTells_3_v3 x15 x21).bind fun x314 =>
 (tourlaw1_SetsTells_4 x305 x314).bind fun x321 =>
 tourlaw1_SetsTells_j2 x321) (tourlaw1_SetsTells_j2 false)) (tourlaw1_SetsTells_j2 false)) (tourlaw1_SetsTells_j2 false)) (tourlaw1_SetsTells_j2 false)) (tourlaw1_SetsTells_j2 false))))
noncomputable def tourlaw1_SetsTells_j4 (i889 : Int) (l898 : List Int) : Option ((Int × (List Int)) ⊕ (List Int)) :=
 some (.inl (IntKind.i64.wrap (i889 + 1), l898))
noncomputable def tourlaw1_SetsTells_j6 (i911 : Int) (i912 : Int) (l921 : List Int) : Option ((Int × Int × (List Int)) ⊕ (List Int)) :=
 some (.inl (Int.fdiv i911 2, IntKind.i64.wrap (i912 + 1), l921))
noncomputable def tourlaw1_SetsTells_l5 (i889 : Int) (i911 : Int) (i912 : Int) (l915 : List Int) : Option ((Int × Int × (List Int)) ⊕ (List Int)) :=
 cnd (!(i911 == 0)) (cnd (Go.bits .and .u64 i911 1 == 1) ((app 8 l915 ([IntKind.i64.wrap (IntKind.i64.wrap (64 * i889) + i912)] : List Int)).bind fun l928 =>
 tourlaw1_SetsTells_j6 i911 i912 l928) (tourlaw1_SetsTells_j6 i911 i912 l915)) (some (.inr l915))
noncomputable def tourlaw1_SetsTells_l3 (x875 : List Int) (i889 : Int) (l892 : List Int) : Option ((Int × (List Int)) ⊕ (List Int)) :=
 cnd (decide (i889 < (x875.length : Int))) ((idx x875 i889).bind fun x901 =>
 (loop (σ := Int × Int × (List Int)) (ρ := (List Int)) (fun s_ => tourlaw1_SetsTells_l5 i889 s_.1 s_.2.1 s_.2.2) (x901, 0, l892)).bind (fun e_ => tourlaw1_SetsTells_j4 i889 e_)) (some (.inr l892))
noncomputable def tourlaw1_SetsTells (a : List Int) (b : List Int) (i : Int) (l : List Int) : Option Bool :=
 (sets_Of ([64, 1] : List Int)).bind fun x4 =>
 (slices_Equal_sets_Set_uint64 x4 ([2, 1] : List Int)).bind fun x12 =>
 cnd (!x12) (some false) ((tourref1_Members a).bind fun x15 =>
 (tourref1_Members b).bind fun x21 =>
 (sets_Set_All a).bind fun x875 =>
 (loop (σ := Int × (List Int)) (ρ := (List Int)) (fun s_ => tourlaw1_SetsTells_l3 x875 s_.1 s_.2) (0, ([] : List Int))).bind (fun e_ => tourlaw1_SetsTells_j1 x15 a i l b x21 e_))
end Go.Proofs.Ythcniadbdjoecaa.S
