/- The Go functions as plain functions over Option. No condition. -/
import Derived.Test.YtnnhijlgohlaeaaDoorTyD
import Derived.Test.YtnnhijlgohlaeaaDoorExMap
import Derived.Test.YtnnhijlgohlaeaaDoorExSortF
namespace Go.Proofs.YtnnhijlgohlaeaaDoor.D
open Go Go.RowKit Go.Proofs.YtnnhijlgohlaeaaDoor.Sx
set_option linter.unusedVariables false
noncomputable def tourlaw3_older : Option ((List Int) × (List api_Op)) :=
 some (([0] : List Int), ([(api_Op.mk 1 (api_Ref.mk 0 0) (api_Arg.mk true 0 (api_Ref.mk 0 0)) (api_Arg.mk false 1 (api_Ref.mk 0 0))), (api_Op.mk 12 (api_Ref.mk 0 0) (api_Arg.mk false 1 (api_Ref.mk 0 0)) (api_Arg.mk true 0 (api_Ref.mk 0 0)))] : List api_Op))
noncomputable def tourlaw3_two : Option ((List api_Kind)) :=
 some ([(api_Kind.mk (⟨#[112, 108, 97, 99, 101]⟩) ([(api_Field.mk (⟨#[120]⟩) 3 (-2))] : List api_Field)), (api_Kind.mk (⟨#[108, 105, 102, 101]⟩) ([(api_Field.mk (⟨#[120]⟩) 8 0)] : List api_Field))] : List api_Kind)
noncomputable def kind_Name_j1 : Option Bool :=
 some true
noncomputable def kind_Name_j3 (i3 : Int) : Option (Int ⊕ (Bool ⊕ Unit)) :=
 some (.inl (IntKind.i64.wrap (i3 + 1)))
noncomputable def kind_Name_l2 (s : ByteArray) (i3 : Int) : Option (Int ⊕ (Bool ⊕ Unit)) :=
 cnd (decide (i3 < (s.size : Int))) ((sidx s i3).bind fun x5 =>
 cnd (decide (97 ≤ x5)) (cnd (decide (x5 ≤ 122)) (kind_Name_j3 i3) (cnd (decide (0 < i3)) (cnd (decide (48 ≤ x5)) (cnd (!(decide (x5 ≤ 57))) (some (.inr (.inl false))) (kind_Name_j3 i3)) (some (.inr (.inl false)))) (some (.inr (.inl false))))) (cnd (decide (0 < i3)) (cnd (decide (48 ≤ x5)) (cnd (!(decide (x5 ≤ 57))) (some (.inr (.inl false))) (kind_Name_j3 i3)) (some (.inr (.inl false)))) (some (.inr (.inl false))))) (some (.inr (.inr ())))
noncomputable def kind_Name (s : ByteArray) : Option Bool :=
 cnd ((s.size : Int) == 0) (some false) (cnd (decide (16 < (s.size : Int))) (some false) ((loop (σ := Int) (ρ := (Bool ⊕ Unit)) (fun s_ => kind_Name_l2 s s_) 0).bind (Sum.elim (fun e_ => some e_) (fun e_ => kind_Name_j1))))
noncomputable def kind_field (f_0 : ByteArray) (f_1 : Int) (f_2 : Int) : Option Int :=
 (kind_Name f_0).bind fun x2 =>
 cnd (!x2) (some 3) (cnd (decide (f_1 < 1)) (some 3) (cnd (decide (32 < f_1)) (some 3) (cnd (decide (f_2 < (-4294967296))) (some 3) (cnd (decide (4294967296 < f_2)) (some 3) (some 0)))))
noncomputable def kind_One_j1 : Option Int :=
 some 0
noncomputable def kind_One_j3 (i6 : Int) : Option (Int ⊕ (Int ⊕ Unit)) :=
 some (.inl (IntKind.i64.wrap (i6 + 1)))
noncomputable def kind_One_l4 (l23 : List api_Field) (x8 : api_Field) (i34 : Int) : Option (Int ⊕ (Int ⊕ Unit)) :=
 cnd (decide (i34 < (l23.length : Int))) ((idx l23 i34).bind fun x36 =>
 cnd (x36.Name.toList == x8.Name.toList) (some (.inr (.inl 5))) (some (.inl (IntKind.i64.wrap (i34 + 1))))) (some (.inr (.inr ())))
noncomputable def kind_One_l2 (k_1 : List api_Field) (i6 : Int) : Option (Int ⊕ (Int ⊕ Unit)) :=
 cnd (decide (i6 < (k_1.length : Int))) ((idx k_1 i6).bind fun x8 =>
 (kind_field x8.Name x8.Bits x8.Low).bind fun x20 =>
 cnd (!(x20 == 0)) (some (.inr (.inl x20))) ((cut k_1 0 i6).bind fun l23 =>
 (loop (σ := Int) (ρ := (Int ⊕ Unit)) (fun s_ => kind_One_l4 l23 x8 s_) 0).bind (Sum.elim (fun e_ => some (.inr (.inl e_))) (fun e_ => kind_One_j3 i6)))) (some (.inr (.inr ())))
noncomputable def kind_One (k_0 : ByteArray) (k_1 : List api_Field) : Option Int :=
 (kind_Name k_0).bind fun x2 =>
 cnd (!x2) (some 3) (cnd (decide (8 < (k_1.length : Int))) (some 2) ((loop (σ := Int) (ρ := (Int ⊕ Unit)) (fun s_ => kind_One_l2 k_1 s_) 0).bind (Sum.elim (fun e_ => some e_) (fun e_ => kind_One_j1))))
noncomputable def kind_Find_j1 : Option Int :=
 some (-1)
noncomputable def kind_Find_l2 (l : List api_Kind) (name : ByteArray) (i1 : Int) : Option (Int ⊕ (Int ⊕ Unit)) :=
 cnd (decide (i1 < (l.length : Int))) ((idx l i1).bind fun x3 =>
 cnd (x3.Name.toList == name.toList) (some (.inr (.inl i1))) (some (.inl (IntKind.i64.wrap (i1 + 1))))) (some (.inr (.inr ())))
noncomputable def kind_Find (l : List api_Kind) (name : ByteArray) : Option Int :=
 (loop (σ := Int) (ρ := (Int ⊕ Unit)) (fun s_ => kind_Find_l2 l name s_) 0).bind (Sum.elim (fun e_ => some e_) (fun e_ => kind_Find_j1))
noncomputable def kind_Check_j1 : Option Int :=
 some 0
noncomputable def kind_Check_l2 (l : List api_Kind) (i2 : Int) : Option (Int ⊕ (Int ⊕ Unit)) :=
 cnd (decide (i2 < (l.length : Int))) ((idx l i2).bind fun x4 =>
 (kind_One x4.Name x4.Fields).bind fun x19 =>
 cnd (!(x19 == 0)) (some (.inr (.inl x19))) ((cut l 0 i2).bind fun l22 =>
 (kind_Find l22 x4.Name).bind fun x33 =>
 cnd (decide (0 ≤ x33)) (some (.inr (.inl 5))) (some (.inl (IntKind.i64.wrap (i2 + 1)))))) (some (.inr (.inr ())))
noncomputable def kind_Check (l : List api_Kind) : Option Int :=
 cnd (decide (16 < (l.length : Int))) (some 2) ((loop (σ := Int) (ρ := (Int ⊕ Unit)) (fun s_ => kind_Check_l2 l s_) 0).bind (Sum.elim (fun e_ => some e_) (fun e_ => kind_Check_j1)))
noncomputable def system_set_j1 : Option Int :=
 some 0
noncomputable def system_set_j3 (i1 : Int) : Option (Int ⊕ (Int ⊕ Unit)) :=
 some (.inl (IntKind.i64.wrap (i1 + 1)))
noncomputable def system_set_l2 (l : List Int) (k : List api_Kind) (i1 : Int) : Option (Int ⊕ (Int ⊕ Unit)) :=
 cnd (decide (i1 < (l.length : Int))) ((idx l i1).bind fun x3 =>
 cnd (decide (x3 < 0)) (some (.inr (.inl 1))) (cnd (decide ((k.length : Int) ≤ x3)) (some (.inr (.inl 1))) (cnd (decide (0 < i1)) ((idx l (IntKind.i64.wrap (i1 - 1))).bind fun x17 =>
 cnd (decide (x3 ≤ x17)) (some (.inr (.inl 9))) (system_set_j3 i1)) (system_set_j3 i1)))) (some (.inr (.inr ())))
noncomputable def system_set (k : List api_Kind) (l : List Int) : Option Int :=
 (loop (σ := Int) (ρ := (Int ⊕ Unit)) (fun s_ => system_set_l2 l k s_) 0).bind (Sum.elim (fun e_ => some e_) (fun e_ => system_set_j1))
noncomputable def slices_Index_int_int_j1 : Option Int :=
 some (-1)
noncomputable def slices_Index_int_int_l2 (s : List Int) (v : Int) (i1 : Int) : Option (Int ⊕ (Int ⊕ Unit)) :=
 cnd (decide (i1 < (s.length : Int))) ((idx s i1).bind fun x3 =>
 cnd (v == x3) (some (.inr (.inl i1))) (some (.inl (IntKind.i64.wrap (i1 + 1))))) (some (.inr (.inr ())))
noncomputable def slices_Index_int_int (s : List Int) (v : Int) : Option Int :=
 (loop (σ := Int) (ρ := (Int ⊕ Unit)) (fun s_ => slices_Index_int_int_l2 s v s_) 0).bind (Sum.elim (fun e_ => some e_) (fun e_ => slices_Index_int_int_j1))
noncomputable def slices_Contains_int_int (s : List Int) (v : Int) : Option Bool :=
 (slices_Index_int_int s v).bind fun x1 =>
 some (decide (0 ≤ x1))
noncomputable def system_Check_1 (x : Int) (p1_0 : ByteArray) (p1_1 : List Int) (p1_2 : List Int) (p1_3 : List Int) (p1_4 : List Int) (p1_5 : List api_Op) (p1_6 : List api_Comp) : Option Bool :=
 (slices_Contains_int_int p1_2 x).bind fun x1 =>
 some x1
noncomputable def slices_IndexFunc_int_int_j1 : Option Int :=
 some (-1)
noncomputable def slices_IndexFunc_int_int_l2 (s : List Int) (f_c0_0 : ByteArray) (f_c0_1 : List Int) (f_c0_2 : List Int) (f_c0_3 : List Int) (f_c0_4 : List Int) (f_c0_5 : List api_Op) (f_c0_6 : List api_Comp) (i13 : Int) : Option (Int ⊕ (Int ⊕ Unit)) :=
 cnd (decide (i13 < (s.length : Int))) ((idx s i13).bind fun x15 =>
 (system_Check_1 x15 f_c0_0 f_c0_1 f_c0_2 f_c0_3 f_c0_4 f_c0_5 f_c0_6).bind fun x26 =>
 cnd x26 (some (.inr (.inl i13))) (some (.inl (IntKind.i64.wrap (i13 + 1))))) (some (.inr (.inr ())))
noncomputable def slices_IndexFunc_int_int (s : List Int) (f_c0_0 : ByteArray) (f_c0_1 : List Int) (f_c0_2 : List Int) (f_c0_3 : List Int) (f_c0_4 : List Int) (f_c0_5 : List api_Op) (f_c0_6 : List api_Comp) : Option Int :=
 (loop (σ := Int) (ρ := (Int ⊕ Unit)) (fun s_ => slices_IndexFunc_int_int_l2 s f_c0_0 f_c0_1 f_c0_2 f_c0_3 f_c0_4 f_c0_5 f_c0_6 s_) 0).bind (Sum.elim (fun e_ => some e_) (fun e_ => slices_IndexFunc_int_int_j1))
noncomputable def slices_ContainsFunc_int_int (s : List Int) (f_c0_0 : ByteArray) (f_c0_1 : List Int) (f_c0_2 : List Int) (f_c0_3 : List Int) (f_c0_4 : List Int) (f_c0_5 : List api_Op) (f_c0_6 : List api_Comp) : Option Bool :=
 (slices_IndexFunc_int_int s f_c0_0 f_c0_1 f_c0_2 f_c0_3 f_c0_4 f_c0_5 f_c0_6).bind fun x1 =>
 some (decide (0 ≤ x1))
noncomputable def slices_Grow_int_int (n_ : Int) : Option (List Int) := grow 8 n_
noncomputable def slices_Concat_int_int_j2 (l10 : List Int) : Option ((List Int)) :=
 some l10
noncomputable def slices_Concat_int_int_l3 (slices : List (List Int)) (l15 : List Int) (i18 : Int) : Option (((List Int) × Int) ⊕ (List Int)) :=
 cnd (decide (i18 < (slices.length : Int))) ((idx slices i18).bind fun x20 =>
 (app 8 l15 x20).bind fun l34 =>
 some (.inl (l34, IntKind.i64.wrap (i18 + 1)))) (some (.inr l15))
noncomputable def slices_Concat_int_int_j1 (slices : List (List Int)) (i1 : Int) : Option ((List Int)) :=
 (slices_Grow_int_int i1).bind fun x2 =>
 (loop (σ := (List Int) × Int) (ρ := (List Int)) (fun s_ => slices_Concat_int_int_l3 slices s_.1 s_.2) (x2, 0)).bind (fun e_ => slices_Concat_int_int_j2 e_)
noncomputable def slices_Concat_int_int_l4 (slices : List (List Int)) (i46 : Int) (i47 : Int) : Option ((Int × Int) ⊕ Int) :=
 cnd (decide (i47 < (slices.length : Int))) ((idx slices i47).bind fun x49 =>
 cnd (decide (IntKind.i64.wrap (i46 + (x49.length : Int)) < 0)) (none) (some (.inl (IntKind.i64.wrap (i46 + (x49.length : Int)), IntKind.i64.wrap (i47 + 1))))) (some (.inr i46))
noncomputable def slices_Concat_int_int (slices : List (List Int)) : Option ((List Int)) :=
 (loop (σ := Int × Int) (ρ := Int) (fun s_ => slices_Concat_int_int_l4 slices s_.1 s_.2) (0, 0)).bind (fun e_ => slices_Concat_int_int_j1 slices e_)
noncomputable def system_Check_2 (x : Int) (p1_0 : ByteArray) (p1_1 : List Int) (p1_2 : List Int) (p1_3 : List Int) (p1_4 : List Int) (p1_5 : List api_Op) (p1_6 : List api_Comp) : Option Bool :=
 (slices_Contains_int_int p1_1 x).bind fun x1 =>
 some !x1
noncomputable def slices_IndexFunc_int_int_v2_j1 : Option Int :=
 some (-1)
noncomputable def slices_IndexFunc_int_int_v2_l2 (s : List Int) (f_c0_0 : ByteArray) (f_c0_1 : List Int) (f_c0_2 : List Int) (f_c0_3 : List Int) (f_c0_4 : List Int) (f_c0_5 : List api_Op) (f_c0_6 : List api_Comp) (i13 : Int) : Option (Int ⊕ (Int ⊕ Unit)) :=
 cnd (decide (i13 < (s.length : Int))) ((idx s i13).bind fun x15 =>
 (system_Check_2 x15 f_c0_0 f_c0_1 f_c0_2 f_c0_3 f_c0_4 f_c0_5 f_c0_6).bind fun x26 =>
 cnd x26 (some (.inr (.inl i13))) (some (.inl (IntKind.i64.wrap (i13 + 1))))) (some (.inr (.inr ())))
noncomputable def slices_IndexFunc_int_int_v2 (s : List Int) (f_c0_0 : ByteArray) (f_c0_1 : List Int) (f_c0_2 : List Int) (f_c0_3 : List Int) (f_c0_4 : List Int) (f_c0_5 : List api_Op) (f_c0_6 : List api_Comp) : Option Int :=
 (loop (σ := Int) (ρ := (Int ⊕ Unit)) (fun s_ => slices_IndexFunc_int_int_v2_l2 s f_c0_0 f_c0_1 f_c0_2 f_c0_3 f_c0_4 f_c0_5 f_c0_6 s_) 0).bind (Sum.elim (fun e_ => some e_) (fun e_ => slices_IndexFunc_int_int_v2_j1))
noncomputable def slices_ContainsFunc_int_int_v2 (s : List Int) (f_c0_0 : ByteArray) (f_c0_1 : List Int) (f_c0_2 : List Int) (f_c0_3 : List Int) (f_c0_4 : List Int) (f_c0_5 : List api_Op) (f_c0_6 : List api_Comp) : Option Bool :=
 (slices_IndexFunc_int_int_v2 s f_c0_0 f_c0_1 f_c0_2 f_c0_3 f_c0_4 f_c0_5 f_c0_6).bind fun x1 =>
 some (decide (0 ≤ x1))
noncomputable def world_Fit_1 (o_0 : Int) (o_1 : List Int) (p1_0 : Int) (p1_1 : List Int) : Option Bool :=
 some (o_0 == p1_0)
noncomputable def slices_IndexFunc_api_Comp_api_Comp_j1 : Option Int :=
 some (-1)
noncomputable def slices_IndexFunc_api_Comp_api_Comp_l2 (s : List api_Comp) (f_c0_0 : Int) (f_c0_1 : List Int) (i3 : Int) : Option (Int ⊕ (Int ⊕ Unit)) :=
 cnd (decide (i3 < (s.length : Int))) ((idx s i3).bind fun x5 =>
 (world_Fit_1 x5.Kind x5.Vals f_c0_0 f_c0_1).bind fun x19 =>
 cnd x19 (some (.inr (.inl i3))) (some (.inl (IntKind.i64.wrap (i3 + 1))))) (some (.inr (.inr ())))
noncomputable def slices_IndexFunc_api_Comp_api_Comp (s : List api_Comp) (f_c0_0 : Int) (f_c0_1 : List Int) : Option Int :=
 (loop (σ := Int) (ρ := (Int ⊕ Unit)) (fun s_ => slices_IndexFunc_api_Comp_api_Comp_l2 s f_c0_0 f_c0_1 s_) 0).bind (Sum.elim (fun e_ => some e_) (fun e_ => slices_IndexFunc_api_Comp_api_Comp_j1))
noncomputable def slices_ContainsFunc_api_Comp_api_Comp (s : List api_Comp) (f_c0_0 : Int) (f_c0_1 : List Int) : Option Bool :=
 (slices_IndexFunc_api_Comp_api_Comp s f_c0_0 f_c0_1).bind fun x1 =>
 some (decide (0 ≤ x1))
noncomputable def kind_High (f_0 : ByteArray) (f_1 : Int) (f_2 : Int) : Option Int :=
 (kind_field f_0 f_1 f_2).bind fun x2 =>
 cnd (!(x2 == 0)) (some 0) ((shl .i64 1 f_1).bind fun x5 =>
 some (IntKind.i64.wrap (f_2 + IntKind.i64.wrap (x5 - 1))))
noncomputable def kind_Near (f_0 : ByteArray) (f_1 : Int) (f_2 : Int) (v : Int) : Option Int :=
 (kind_field f_0 f_1 f_2).bind fun x2 =>
 cnd (!(x2 == 0)) (some 0) ((kind_High f_0 f_1 f_2).bind fun x5 =>
 some (max f_2 (min v x5)))
noncomputable def kind_Fit_j1 (l17 : List Int) : Option ((List Int) × Int) :=
 some (l17, 0)
noncomputable def kind_Fit_l2 (k_1 : List api_Field) (vals : List Int) (l20 : List Int) (i23 : Int) : Option (((List Int) × Int) ⊕ (List Int)) :=
 cnd (decide (i23 < (k_1.length : Int))) ((idx k_1 i23).bind fun x25 =>
 (idx vals i23).bind fun x37 =>
 (kind_Near x25.Name x25.Bits x25.Low x37).bind fun x48 =>
 (idx l20 i23).bind fun x50 =>
 (upd l20 i23 x48).bind fun l59 =>
 some (.inl (l59, IntKind.i64.wrap (i23 + 1)))) (some (.inr l20))
noncomputable def kind_Fit (k_0 : ByteArray) (k_1 : List api_Field) (vals : List Int) : Option ((List Int) × Int) :=
 (kind_One k_0 k_1).bind fun x2 =>
 cnd (!(x2 == 0)) (some (([] : List Int), x2)) (cnd (!((vals.length : Int) == (k_1.length : Int))) (some (([] : List Int), 1)) ((mk 8 (vals.length : Int) (0 : Int)).bind fun l6 =>
 (loop (σ := (List Int) × Int) (ρ := (List Int)) (fun s_ => kind_Fit_l2 k_1 vals s_.1 s_.2) (l6, 0)).bind (fun e_ => kind_Fit_j1 e_)))
noncomputable def slices_SortFunc_api_Comp_api_Comp (s_ : List api_Comp) : Option (List api_Comp) := sortBy (fun x => x.Kind) s_
noncomputable def world_Fit_j1 (l6 : List api_Comp) : Option ((List api_Comp) × Int) :=
 (slices_SortFunc_api_Comp_api_Comp l6).bind fun x11 =>
 some (x11, 0)
noncomputable def world_Fit_l2 (l : List api_Comp) (k : List api_Kind) (l18 : List api_Comp) (i21 : Int) : Option (((List api_Comp) × Int) ⊕ (((List api_Comp) × Int) ⊕ (List api_Comp))) :=
 cnd (decide (i21 < (l.length : Int))) ((idx l i21).bind fun x25 =>
 cnd (decide (x25.Kind < 0)) (some (.inr (.inl (([] : List api_Comp), 1)))) (cnd (decide ((k.length : Int) ≤ x25.Kind)) (some (.inr (.inl (([] : List api_Comp), 1)))) ((cut l 0 i21).bind fun l42 =>
 (slices_ContainsFunc_api_Comp_api_Comp l42 x25.Kind x25.Vals).bind fun x53 =>
 cnd x53 (some (.inr (.inl (([] : List api_Comp), 5)))) ((idx k x25.Kind).bind fun x57 =>
 bnd2 (kind_Fit x57.Name x57.Fields x25.Vals) fun x71 x72 =>
 cnd (!(x72 == 0)) (some (.inr (.inl (([] : List api_Comp), x72)))) ((app 32 l18 ([(api_Comp.mk x25.Kind x71)] : List api_Comp)).bind fun l85 =>
 some (.inl (l85, IntKind.i64.wrap (i21 + 1)))))))) (some (.inr (.inr l18)))
noncomputable def world_Fit (k : List api_Kind) (l : List api_Comp) : Option ((List api_Comp) × Int) :=
 (kind_Check k).bind fun x1 =>
 cnd (!(x1 == 0)) (some (([] : List api_Comp), x1)) ((loop (σ := (List api_Comp) × Int) (ρ := (((List api_Comp) × Int) ⊕ (List api_Comp))) (fun s_ => world_Fit_l2 l k s_.1 s_.2) (([] : List api_Comp), 0)).bind (Sum.elim (fun e_ => some (e_.1, e_.2)) (fun e_ => world_Fit_j1 e_)))
noncomputable def system_isField_j1 (t2 : Bool) : Option Bool :=
 some t2
noncomputable def system_isField (k : List api_Kind) (r_0 : Int) (r_1 : Int) : Option Bool :=
 cnd (decide (0 ≤ r_0)) (cnd (decide (r_0 < (k.length : Int))) (cnd (decide (0 ≤ r_1)) ((idx k r_0).bind fun x6 =>
 system_isField_j1 (decide (r_1 < (x6.Fields.length : Int)))) (system_isField_j1 false)) (system_isField_j1 false)) (system_isField_j1 false)
noncomputable def system_two_j1 (t1 : Bool) : Option Bool :=
 some t1
noncomputable def system_two (do_1 : Int) : Option Bool :=
 cnd (decide (1 ≤ do_1)) (cnd (decide (do_1 ≤ 6)) (system_two_j1 true) (system_two_j1 (do_1 == 12))) (system_two_j1 (do_1 == 12))
noncomputable def system_sets_j1 (t1 : Bool) : Option Bool :=
 some t1
noncomputable def system_sets (do_1 : Int) : Option Bool :=
 cnd (decide (0 ≤ do_1)) (system_sets_j1 (decide (do_1 ≤ 7))) (system_sets_j1 false)
noncomputable def system_op_j7 : Option Int :=
 some 0
noncomputable def system_op_j9 (i12 : Int) : Option (Int ⊕ (Int ⊕ Unit)) :=
 some (.inl (IntKind.i64.wrap (i12 + 1)))
noncomputable def system_op_l8 (x10 : Int) (o_3 : Bool) (o_4 : Int) (o_5 : Int) (o_6 : Int) (o_7 : Bool) (o_8 : Int) (o_9 : Int) (o_10 : Int) (s_3 : List Int) (s_4 : List Int) (i12 : Int) : Option (Int ⊕ (Int ⊕ Unit)) :=
 cnd (decide (i12 < x10)) ((idx ([(api_Arg.mk o_3 o_4 (api_Ref.mk o_5 o_6)), (api_Arg.mk o_7 o_8 (api_Ref.mk o_9 o_10))] : List api_Arg) i12).bind fun x14 =>
 cnd x14.Has ((slices_Contains_int_int s_3 x14.Ref.Kind).bind fun x25 =>
 cnd (!x25) ((slices_Contains_int_int s_4 x14.Ref.Kind).bind fun x28 =>
 cnd (!x28) (some (.inr (.inl 8))) (system_op_j9 i12)) (system_op_j9 i12)) (system_op_j9 i12)) (some (.inr (.inr ())))
noncomputable def system_op_j6 (o_3 : Bool) (o_4 : Int) (o_5 : Int) (o_6 : Int) (o_7 : Bool) (o_8 : Int) (o_9 : Int) (o_10 : Int) (s_3 : List Int) (s_4 : List Int) : Option Int :=
 (some (([(api_Arg.mk o_3 o_4 (api_Ref.mk o_5 o_6)), (api_Arg.mk o_7 o_8 (api_Ref.mk o_9 o_10))] : List api_Arg).length : Int)).bind fun x10 =>
 (loop (σ := Int) (ρ := (Int ⊕ Unit)) (fun s_ => system_op_l8 x10 o_3 o_4 o_5 o_6 o_7 o_8 o_9 o_10 s_3 s_4 s_) 0).bind (Sum.elim (fun e_ => some e_) (fun e_ => system_op_j7))
noncomputable def system_op_j5 (o_0 : Int) (s_4 : List Int) (o_1 : Int) (o_3 : Bool) (o_4 : Int) (o_5 : Int) (o_6 : Int) (o_7 : Bool) (o_8 : Int) (o_9 : Int) (o_10 : Int) (s_3 : List Int) : Option Int :=
 (system_sets o_0).bind fun x31 =>
 cnd x31 ((slices_Contains_int_int s_4 o_1).bind fun x34 =>
 cnd (!x34) (some 8) (system_op_j6 o_3 o_4 o_5 o_6 o_7 o_8 o_9 o_10 s_3 s_4)) (system_op_j6 o_3 o_4 o_5 o_6 o_7 o_8 o_9 o_10 s_3 s_4)
noncomputable def system_op_j4 (o_0 : Int) (k : List api_Kind) (o_1 : Int) (o_2 : Int) (s_4 : List Int) (o_3 : Bool) (o_4 : Int) (o_5 : Int) (o_6 : Int) (o_7 : Bool) (o_8 : Int) (o_9 : Int) (o_10 : Int) (s_3 : List Int) (t7 : Bool) : Option Int :=
 (system_sets o_0).bind fun x37 =>
 cnd x37 ((system_isField k o_1 o_2).bind fun x40 =>
 cnd (!x40) (some 1) (cnd t7 (cnd (decide (o_1 < 0)) (some 1) (cnd (decide ((k.length : Int) ≤ o_1)) (some 1) (system_op_j5 o_0 s_4 o_1 o_3 o_4 o_5 o_6 o_7 o_8 o_9 o_10 s_3))) (system_op_j5 o_0 s_4 o_1 o_3 o_4 o_5 o_6 o_7 o_8 o_9 o_10 s_3))) (cnd t7 (cnd (decide (o_1 < 0)) (some 1) (cnd (decide ((k.length : Int) ≤ o_1)) (some 1) (system_op_j5 o_0 s_4 o_1 o_3 o_4 o_5 o_6 o_7 o_8 o_9 o_10 s_3))) (system_op_j5 o_0 s_4 o_1 o_3 o_4 o_5 o_6 o_7 o_8 o_9 o_10 s_3))
noncomputable def system_op_j3 (o_0 : Int) (o_7 : Bool) (o_8 : Int) (o_9 : Int) (o_10 : Int) (o_1 : Int) (o_2 : Int) (k : List api_Kind) (s_4 : List Int) (o_3 : Bool) (o_4 : Int) (o_5 : Int) (o_6 : Int) (s_3 : List Int) (t6 : Bool) : Option Int :=
 (system_two o_0).bind fun x49 =>
 cnd (!x49) (cnd (!(o_7 == false && (o_8 == 0 && (o_9 == 0 && (o_10 == 0))))) (some 3) ((system_sets o_0).bind fun x53 =>
 cnd (!x53) (cnd (!t6) (cnd (!(o_1 == 0 && (o_2 == 0))) (some 3) (cnd t6 (cnd (!(o_2 == 0)) (some 3) (system_op_j4 o_0 k o_1 o_2 s_4 o_3 o_4 o_5 o_6 o_7 o_8 o_9 o_10 s_3 true)) (system_op_j4 o_0 k o_1 o_2 s_4 o_3 o_4 o_5 o_6 o_7 o_8 o_9 o_10 s_3 false))) (cnd t6 (cnd (!(o_2 == 0)) (some 3) (system_op_j4 o_0 k o_1 o_2 s_4 o_3 o_4 o_5 o_6 o_7 o_8 o_9 o_10 s_3 true)) (system_op_j4 o_0 k o_1 o_2 s_4 o_3 o_4 o_5 o_6 o_7 o_8 o_9 o_10 s_3 false))) (cnd t6 (cnd (!(o_2 == 0)) (some 3) (system_op_j4 o_0 k o_1 o_2 s_4 o_3 o_4 o_5 o_6 o_7 o_8 o_9 o_10 s_3 true)) (system_op_j4 o_0 k o_1 o_2 s_4 o_3 o_4 o_5 o_6 o_7 o_8 o_9 o_10 s_3 false)))) ((system_sets o_0).bind fun x64 =>
 cnd (!x64) (cnd (!t6) (cnd (!(o_1 == 0 && (o_2 == 0))) (some 3) (cnd t6 (cnd (!(o_2 == 0)) (some 3) (system_op_j4 o_0 k o_1 o_2 s_4 o_3 o_4 o_5 o_6 o_7 o_8 o_9 o_10 s_3 true)) (system_op_j4 o_0 k o_1 o_2 s_4 o_3 o_4 o_5 o_6 o_7 o_8 o_9 o_10 s_3 false))) (cnd t6 (cnd (!(o_2 == 0)) (some 3) (system_op_j4 o_0 k o_1 o_2 s_4 o_3 o_4 o_5 o_6 o_7 o_8 o_9 o_10 s_3 true)) (system_op_j4 o_0 k o_1 o_2 s_4 o_3 o_4 o_5 o_6 o_7 o_8 o_9 o_10 s_3 false))) (cnd t6 (cnd (!(o_2 == 0)) (some 3) (system_op_j4 o_0 k o_1 o_2 s_4 o_3 o_4 o_5 o_6 o_7 o_8 o_9 o_10 s_3 true)) (system_op_j4 o_0 k o_1 o_2 s_4 o_3 o_4 o_5 o_6 o_7 o_8 o_9 o_10 s_3 false)))
noncomputable def system_op_j2 (o_0 : Int) (o_7 : Bool) (o_8 : Int) (o_9 : Int) (o_10 : Int) (o_1 : Int) (o_2 : Int) (k : List api_Kind) (s_4 : List Int) (o_3 : Bool) (o_4 : Int) (o_5 : Int) (o_6 : Int) (s_3 : List Int) : Option Int :=
 cnd (o_0 == 8) (system_op_j3 o_0 o_7 o_8 o_9 o_10 o_1 o_2 k s_4 o_3 o_4 o_5 o_6 s_3 true) (system_op_j3 o_0 o_7 o_8 o_9 o_10 o_1 o_2 k s_4 o_3 o_4 o_5 o_6 s_3 (o_0 == 9))
noncomputable def system_op_j11 (i80 : Int) : Option (Int ⊕ (Int ⊕ Unit)) :=
 some (.inl (IntKind.i64.wrap (i80 + 1)))
noncomputable def system_op_l10 (x78 : Int) (o_3 : Bool) (o_4 : Int) (o_5 : Int) (o_6 : Int) (o_7 : Bool) (o_8 : Int) (o_9 : Int) (o_10 : Int) (i80 : Int) : Option (Int ⊕ (Int ⊕ Unit)) :=
 cnd (decide (i80 < x78)) ((idx ([(api_Arg.mk o_3 o_4 (api_Ref.mk o_5 o_6)), (api_Arg.mk o_7 o_8 (api_Ref.mk o_9 o_10))] : List api_Arg) i80).bind fun x82 =>
 cnd x82.Has (cnd (!(x82.N == 0)) (some (.inr (.inl 3))) (system_op_j11 i80)) (cnd (!(x82.Ref.Kind == 0 && (x82.Ref.Field == 0))) (some (.inr (.inl 3))) (system_op_j11 i80))) (some (.inr (.inr ())))
noncomputable def system_op_j1 (o_3 : Bool) (o_4 : Int) (o_5 : Int) (o_6 : Int) (o_7 : Bool) (o_8 : Int) (o_9 : Int) (o_10 : Int) (o_0 : Int) (o_1 : Int) (o_2 : Int) (k : List api_Kind) (s_4 : List Int) (s_3 : List Int) : Option Int :=
 (some (([(api_Arg.mk o_3 o_4 (api_Ref.mk o_5 o_6)), (api_Arg.mk o_7 o_8 (api_Ref.mk o_9 o_10))] : List api_Arg).length : Int)).bind fun x78 =>
 (loop (σ := Int) (ρ := (Int ⊕ Unit)) (fun s_ => system_op_l10 x78 o_3 o_4 o_5 o_6 o_7 o_8 o_9 o_10 s_) 0).bind (Sum.elim (fun e_ => some e_) (fun e_ => system_op_j2 o_0 o_7 o_8 o_9 o_10 o_1 o_2 k s_4 o_3 o_4 o_5 o_6 s_3))
noncomputable def system_op_j13 (i99 : Int) : Option (Int ⊕ (Int ⊕ Unit)) :=
 some (.inl (IntKind.i64.wrap (i99 + 1)))
noncomputable def system_op_l12 (x97 : Int) (o_3 : Bool) (o_4 : Int) (o_5 : Int) (o_6 : Int) (o_7 : Bool) (o_8 : Int) (o_9 : Int) (o_10 : Int) (k : List api_Kind) (i99 : Int) : Option (Int ⊕ (Int ⊕ Unit)) :=
 cnd (decide (i99 < x97)) ((idx ([(api_Arg.mk o_3 o_4 (api_Ref.mk o_5 o_6)), (api_Arg.mk o_7 o_8 (api_Ref.mk o_9 o_10))] : List api_Arg) i99).bind fun x101 =>
 cnd x101.Has ((system_isField k x101.Ref.Kind x101.Ref.Field).bind fun x112 =>
 cnd (!x112) (some (.inr (.inl 1))) (system_op_j13 i99)) (cnd (decide (x101.N < (-1099511627776))) (some (.inr (.inl 1))) (cnd (decide (1099511627776 < x101.N)) (some (.inr (.inl 1))) (system_op_j13 i99)))) (some (.inr (.inr ())))
noncomputable def system_op (k : List api_Kind) (s_0 : ByteArray) (s_1 : List Int) (s_2 : List Int) (s_3 : List Int) (s_4 : List Int) (s_5 : List api_Op) (s_6 : List api_Comp) (o_0 : Int) (o_1 : Int) (o_2 : Int) (o_3 : Bool) (o_4 : Int) (o_5 : Int) (o_6 : Int) (o_7 : Bool) (o_8 : Int) (o_9 : Int) (o_10 : Int) : Option Int :=
 cnd (decide (o_0 < 0)) (some 1) (cnd (decide (12 < o_0)) (some 1) ((some (([(api_Arg.mk o_3 o_4 (api_Ref.mk o_5 o_6)), (api_Arg.mk o_7 o_8 (api_Ref.mk o_9 o_10))] : List api_Arg).length : Int)).bind fun x97 =>
 (loop (σ := Int) (ρ := (Int ⊕ Unit)) (fun s_ => system_op_l12 x97 o_3 o_4 o_5 o_6 o_7 o_8 o_9 o_10 k s_) 0).bind (Sum.elim (fun e_ => some e_) (fun e_ => system_op_j1 o_3 o_4 o_5 o_6 o_7 o_8 o_9 o_10 o_0 o_1 o_2 k s_4 s_3))))
noncomputable def system_Check_j2 : Option Int :=
 some 0
noncomputable def system_Check_l3 (s_5 : List api_Op) (k : List api_Kind) (s_0 : ByteArray) (s_1 : List Int) (s_2 : List Int) (s_3 : List Int) (s_4 : List Int) (s_6 : List api_Comp) (i50 : Int) : Option (Int ⊕ (Int ⊕ Unit)) :=
 cnd (decide (i50 < (s_5.length : Int))) ((idx s_5 i50).bind fun x52 =>
 (system_op k s_0 s_1 s_2 s_3 s_4 s_5 s_6 x52.Do x52.To.Kind x52.To.Field x52.A.Has x52.A.N x52.A.Ref.Kind x52.A.Ref.Field x52.B.Has x52.B.N x52.B.Ref.Kind x52.B.Ref.Field).bind fun x64 =>
 cnd (!(x64 == 0)) (some (.inr (.inl x64))) (some (.inl (IntKind.i64.wrap (i50 + 1))))) (some (.inr (.inr ())))
noncomputable def system_Check_j1 (s_1 : List Int) (s_0 : ByteArray) (s_2 : List Int) (s_3 : List Int) (s_4 : List Int) (s_5 : List api_Op) (s_6 : List api_Comp) (k : List api_Kind) : Option Int :=
 (slices_ContainsFunc_int_int s_1 s_0 s_1 s_2 s_3 s_4 s_5 s_6).bind fun x9 =>
 cnd x9 (some 10) ((slices_Concat_int_int ([s_3, s_4] : List (List Int))).bind fun x20 =>
 (slices_ContainsFunc_int_int_v2 x20 s_0 s_1 s_2 s_3 s_4 s_5 s_6).bind fun x30 =>
 cnd x30 (some 8) (bnd2 (world_Fit k s_6) fun x39 x40 =>
 cnd (!(x40 == 0)) (some x40) ((loop (σ := Int) (ρ := (Int ⊕ Unit)) (fun s_ => system_Check_l3 s_5 k s_0 s_1 s_2 s_3 s_4 s_6 s_) 0).bind (Sum.elim (fun e_ => some e_) (fun e_ => system_Check_j2)))))
noncomputable def system_Check_l4 (s_1 : List Int) (s_2 : List Int) (s_3 : List Int) (s_4 : List Int) (k : List api_Kind) (i69 : Int) : Option (Int ⊕ (Int ⊕ Unit)) :=
 cnd (decide (i69 < (([s_1, s_2, s_3, s_4] : List (List Int)).length : Int))) ((idx ([s_1, s_2, s_3, s_4] : List (List Int)) i69).bind fun x71 =>
 (system_set k x71).bind fun x83 =>
 cnd (!(x83 == 0)) (some (.inr (.inl x83))) (some (.inl (IntKind.i64.wrap (i69 + 1))))) (some (.inr (.inr ())))
noncomputable def system_Check (k : List api_Kind) (s_0 : ByteArray) (s_1 : List Int) (s_2 : List Int) (s_3 : List Int) (s_4 : List Int) (s_5 : List api_Op) (s_6 : List api_Comp) : Option Int :=
 (kind_Check k).bind fun x2 =>
 cnd (!(x2 == 0)) (some x2) ((kind_Name s_0).bind fun x5 =>
 cnd (!x5) (some 3) (cnd (decide (20 < (s_5.length : Int))) (some 2) ((loop (σ := Int) (ρ := (Int ⊕ Unit)) (fun s_ => system_Check_l4 s_1 s_2 s_3 s_4 k s_) 0).bind (Sum.elim (fun e_ => some e_) (fun e_ => system_Check_j1 s_1 s_0 s_2 s_3 s_4 s_5 s_6 k)))))
noncomputable def strings_Trim (s_ : ByteArray) : Option ByteArray := trim s_ [97, 98, 99, 100, 101, 102, 103, 104, 105, 106, 107, 108, 109, 110, 111, 112, 113, 114, 115, 116, 117, 118, 119, 120, 121, 122, 48, 49, 50, 51, 52, 53, 54, 55, 56, 57]
noncomputable def tourref3_IsName_j1 (t1 : Bool) : Option Bool :=
 some t1
noncomputable def tourref3_IsName (s : ByteArray) : Option Bool :=
 cnd (!(s.toList == (⟨#[]⟩ : ByteArray).toList)) (cnd (decide ((s.size : Int) < 17)) ((strings_Trim s).bind fun x4 =>
 cnd (x4.toList == (⟨#[]⟩ : ByteArray).toList) ((sidx s 0).bind fun x7 =>
 tourref3_IsName_j1 (decide (57 < x7))) (tourref3_IsName_j1 false)) (tourref3_IsName_j1 false)) (tourref3_IsName_j1 false)
noncomputable def tourref3_FieldOK_j1 (t2 : Bool) : Option Bool :=
 some t2
noncomputable def tourref3_FieldOK (f_0 : ByteArray) (f_1 : Int) (f_2 : Int) : Option Bool :=
 (tourref3_IsName f_0).bind fun x3 =>
 cnd x3 (cnd (decide (0 < f_1)) (cnd (decide (f_1 < 33)) (cnd (decide ((-4294967296) ≤ f_2)) (tourref3_FieldOK_j1 (decide (f_2 ≤ 4294967296))) (tourref3_FieldOK_j1 false)) (tourref3_FieldOK_j1 false)) (tourref3_FieldOK_j1 false)) (tourref3_FieldOK_j1 false)
noncomputable def slices_Index_string_string_j1 : Option Int :=
 some (-1)
noncomputable def slices_Index_string_string_l2 (s : List ByteArray) (v : ByteArray) (i1 : Int) : Option (Int ⊕ (Int ⊕ Unit)) :=
 cnd (decide (i1 < (s.length : Int))) ((idx s i1).bind fun x3 =>
 cnd (v.toList == x3.toList) (some (.inr (.inl i1))) (some (.inl (IntKind.i64.wrap (i1 + 1))))) (some (.inr (.inr ())))
noncomputable def slices_Index_string_string (s : List ByteArray) (v : ByteArray) : Option Int :=
 (loop (σ := Int) (ρ := (Int ⊕ Unit)) (fun s_ => slices_Index_string_string_l2 s v s_) 0).bind (Sum.elim (fun e_ => some e_) (fun e_ => slices_Index_string_string_j1))
noncomputable def slices_Contains_string_string (s : List ByteArray) (v : ByteArray) : Option Bool :=
 (slices_Index_string_string s v).bind fun x1 =>
 some (decide (0 ≤ x1))
noncomputable def tourref3_twice (l : List ByteArray) (s : ByteArray) : Option Bool :=
 (slices_Contains_string_string l s).bind fun x1 =>
 some x1
noncomputable def tourref3_KindError_j1 : Option Int :=
 some 0
noncomputable def tourref3_KindError_l2 (k_1 : List api_Field) (l8 : List ByteArray) (i11 : Int) : Option (((List ByteArray) × Int) ⊕ (Int ⊕ Unit)) :=
 cnd (decide (i11 < (k_1.length : Int))) ((idx k_1 i11).bind fun x13 =>
 (tourref3_FieldOK x13.Name x13.Bits x13.Low).bind fun x25 =>
 cnd (!x25) (some (.inr (.inl 3))) ((tourref3_twice l8 x13.Name).bind fun x28 =>
 cnd x28 (some (.inr (.inl 5))) ((app 16 l8 ([x13.Name] : List ByteArray)).bind fun l33 =>
 some (.inl (l33, IntKind.i64.wrap (i11 + 1)))))) (some (.inr (.inr ())))
noncomputable def tourref3_KindError (k_0 : ByteArray) (k_1 : List api_Field) : Option Int :=
 (tourref3_IsName k_0).bind fun x2 =>
 cnd (!x2) (some 3) (cnd (decide (8 < (k_1.length : Int))) (some 2) ((loop (σ := (List ByteArray) × Int) (ρ := (Int ⊕ Unit)) (fun s_ => tourref3_KindError_l2 k_1 s_.1 s_.2) (([] : List ByteArray), 0)).bind (Sum.elim (fun e_ => some e_) (fun e_ => tourref3_KindError_j1))))
noncomputable def tourref3_KindsError_j1 : Option Int :=
 some 0
noncomputable def tourref3_KindsError_l2 (l : List api_Kind) (l4 : List ByteArray) (i7 : Int) : Option (((List ByteArray) × Int) ⊕ (Int ⊕ Unit)) :=
 cnd (decide (i7 < (l.length : Int))) ((idx l i7).bind fun x9 =>
 (tourref3_KindError x9.Name x9.Fields).bind fun x24 =>
 cnd (!(x24 == 0)) (some (.inr (.inl x24))) ((tourref3_twice l4 x9.Name).bind fun x27 =>
 cnd x27 (some (.inr (.inl 5))) ((app 16 l4 ([x9.Name] : List ByteArray)).bind fun l32 =>
 some (.inl (l32, IntKind.i64.wrap (i7 + 1)))))) (some (.inr (.inr ())))
noncomputable def tourref3_KindsError (l : List api_Kind) : Option Int :=
 cnd (decide (16 < (l.length : Int))) (some 2) ((loop (σ := (List ByteArray) × Int) (ρ := (Int ⊕ Unit)) (fun s_ => tourref3_KindsError_l2 l s_.1 s_.2) (([] : List ByteArray), 0)).bind (Sum.elim (fun e_ => some e_) (fun e_ => tourref3_KindsError_j1)))
noncomputable def tourref3_Top_j1 (f_2 : Int) (i2 : Int) : Option Int :=
 some (IntKind.i64.wrap (IntKind.i64.wrap (f_2 + i2) - 1))
noncomputable def tourref3_Top_l2 (f_1 : Int) (i3 : Int) (i4 : Int) : Option ((Int × Int) ⊕ Int) :=
 cnd (decide (i4 < f_1)) (some (.inl (IntKind.i64.wrap (i3 * 2), IntKind.i64.wrap (i4 + 1)))) (some (.inr i3))
noncomputable def tourref3_Top (f_0 : ByteArray) (f_1 : Int) (f_2 : Int) : Option Int :=
 (loop (σ := Int × Int) (ρ := Int) (fun s_ => tourref3_Top_l2 f_1 s_.1 s_.2) (1, 0)).bind (fun e_ => tourref3_Top_j1 f_2 e_)
noncomputable def tourref3_Nearest (f_0 : ByteArray) (f_1 : Int) (f_2 : Int) (v : Int) : Option Int :=
 (tourref3_FieldOK f_0 f_1 f_2).bind fun x2 =>
 cnd (!x2) (some 0) (cnd (decide (v < f_2)) (some f_2) ((tourref3_Top f_0 f_1 f_2).bind fun x6 =>
 cnd (decide (x6 < v)) ((tourref3_Top f_0 f_1 f_2).bind fun x9 =>
 some x9) (some v)))
noncomputable def tourref3_Fitted_j1 (l8 : List Int) : Option ((List Int) × Int) :=
 some (l8, 0)
noncomputable def tourref3_Fitted_l2 (vals : List Int) (k_1 : List api_Field) (l13 : List Int) (i16 : Int) : Option (((List Int) × Int) ⊕ (List Int)) :=
 cnd (decide (i16 < (vals.length : Int))) ((idx k_1 i16).bind fun x18 =>
 (idx vals i16).bind fun x29 =>
 (tourref3_Nearest x18.Name x18.Bits x18.Low x29).bind fun x40 =>
 (app 8 l13 ([x40] : List Int)).bind fun l44 =>
 some (.inl (l44, IntKind.i64.wrap (i16 + 1)))) (some (.inr l13))
noncomputable def tourref3_Fitted (k_0 : ByteArray) (k_1 : List api_Field) (vals : List Int) : Option ((List Int) × Int) :=
 (tourref3_KindError k_0 k_1).bind fun x2 =>
 cnd (!(x2 == 0)) (some (([] : List Int), x2)) (cnd (!((vals.length : Int) == (k_1.length : Int))) (some (([] : List Int), 1)) ((loop (σ := (List Int) × Int) (ρ := (List Int)) (fun s_ => tourref3_Fitted_l2 vals k_1 s_.1 s_.2) (([] : List Int), 0)).bind (fun e_ => tourref3_Fitted_j1 e_)))
noncomputable def tourref3_FittedAll_j1 (l5 : List (Int × (List Int))) : Option ((Option (List (Int × (List Int)))) × Int) :=
 some ((some l5), 0)
noncomputable def tourref3_FittedAll_l2 (l : List api_Comp) (k : List api_Kind) (l15 : List (Int × (List Int))) (i17 : Int) : Option (((List (Int × (List Int))) × Int) ⊕ (((Option (List (Int × (List Int)))) × Int) ⊕ (List (Int × (List Int))))) :=
 cnd (decide (i17 < (l.length : Int))) ((idx l i17).bind fun x21 =>
 cnd (decide (x21.Kind < 0)) (some (.inr (.inl (none, 1)))) (cnd (decide ((k.length : Int) ≤ x21.Kind)) (some (.inr (.inl (none, 1)))) ((some ((mget l15 x21.Kind).getD ([] : List Int))).bind fun x38 =>
 cnd ((mget l15 x21.Kind).isSome) (some (.inr (.inl (none, 5)))) ((idx k x21.Kind).bind fun x47 =>
 bnd2 (tourref3_Fitted x47.Name x47.Fields x21.Vals) fun x61 x62 =>
 cnd (!(x62 == 0)) (some (.inr (.inl (none, x62)))) ((some (mput l15 x21.Kind x61)).bind fun l73 =>
 some (.inl (l73, IntKind.i64.wrap (i17 + 1)))))))) (some (.inr (.inr l15)))
noncomputable def tourref3_FittedAll (k : List api_Kind) (l : List api_Comp) : Option ((Option (List (Int × (List Int)))) × Int) :=
 (loop (σ := (List (Int × (List Int))) × Int) (ρ := (((Option (List (Int × (List Int)))) × Int) ⊕ (List (Int × (List Int))))) (fun s_ => tourref3_FittedAll_l2 l k s_.1 s_.2) (([] : List (Int × (List Int))), 0)).bind (Sum.elim (fun e_ => some (e_.1, e_.2)) (fun e_ => tourref3_FittedAll_j1 e_))
noncomputable def tourref3_uses_j3 (do_1 : Int) (t5 : Bool) : Option (Bool × Bool × Bool) :=
 cnd t5 (some (false, true, false)) (cnd (do_1 == 12) (some (false, false, true)) (some (false, false, false)))
noncomputable def tourref3_uses_j2 (do_1 : Int) (t3 : Bool) : Option (Bool × Bool × Bool) :=
 cnd t3 (some (true, false, true)) (cnd (do_1 == 8) (tourref3_uses_j3 do_1 (do_1 == 8)) (tourref3_uses_j3 do_1 (do_1 == 9)))
noncomputable def tourref3_uses_j1 (do_1 : Int) (t1 : Bool) : Option (Bool × Bool × Bool) :=
 cnd t1 (some (true, false, false)) (cnd (do_1 == 1) (tourref3_uses_j2 do_1 (do_1 == 1)) (cnd (do_1 == 2) (tourref3_uses_j2 do_1 (do_1 == 2)) (cnd (do_1 == 3) (tourref3_uses_j2 do_1 (do_1 == 3)) (cnd (do_1 == 4) (tourref3_uses_j2 do_1 (do_1 == 4)) (cnd (do_1 == 5) (tourref3_uses_j2 do_1 (do_1 == 5)) (tourref3_uses_j2 do_1 (do_1 == 6)))))))
noncomputable def tourref3_uses (do_1 : Int) : Option (Bool × Bool × Bool) :=
 cnd (do_1 == 0) (tourref3_uses_j1 do_1 (do_1 == 0)) (tourref3_uses_j1 do_1 (do_1 == 7))
noncomputable def tourref3_opError_1_j1 (t2 : Bool) : Option Bool :=
 some t2
noncomputable def tourref3_opError_1 (r_0 : Int) (r_1 : Int) (p1_0 : List api_Kind) : Option Bool :=
 cnd (decide (0 ≤ r_0)) (cnd (decide (r_0 < (p1_0.length : Int))) (cnd (decide (0 ≤ r_1)) ((idx p1_0 r_0).bind fun x6 =>
 tourref3_opError_1_j1 (decide (r_1 < (x6.Fields.length : Int)))) (tourref3_opError_1_j1 false)) (tourref3_opError_1_j1 false)) (tourref3_opError_1_j1 false)
noncomputable def tourref3_opError_j6 : Option Int :=
 some 0
noncomputable def tourref3_opError_j8 (i17 : Int) : Option (Int ⊕ (Int ⊕ Unit)) :=
 some (.inl (IntKind.i64.wrap (i17 + 1)))
noncomputable def tourref3_opError_l7 (x15 : Int) (o_3 : Bool) (o_4 : Int) (o_5 : Int) (o_6 : Int) (o_7 : Bool) (o_8 : Int) (o_9 : Int) (o_10 : Int) (has : List (Int × Bool)) (i17 : Int) : Option (Int ⊕ (Int ⊕ Unit)) :=
 cnd (decide (i17 < x15)) ((idx ([(api_Arg.mk o_3 o_4 (api_Ref.mk o_5 o_6)), (api_Arg.mk o_7 o_8 (api_Ref.mk o_9 o_10))] : List api_Arg) i17).bind fun x19 =>
 cnd x19.Has ((some ((mget has (IntKind.i64.wrap (200 + x19.Ref.Kind))).getD false)).bind fun x30 =>
 cnd (!x30) ((some ((mget has (IntKind.i64.wrap (300 + x19.Ref.Kind))).getD false)).bind fun x36 =>
 cnd (!x36) (some (.inr (.inl 8))) (tourref3_opError_j8 i17)) (tourref3_opError_j8 i17)) (tourref3_opError_j8 i17)) (some (.inr (.inr ())))
noncomputable def tourref3_opError_j5 (o_3 : Bool) (o_4 : Int) (o_5 : Int) (o_6 : Int) (o_7 : Bool) (o_8 : Int) (o_9 : Int) (o_10 : Int) (has : List (Int × Bool)) : Option Int :=
 (some (([(api_Arg.mk o_3 o_4 (api_Ref.mk o_5 o_6)), (api_Arg.mk o_7 o_8 (api_Ref.mk o_9 o_10))] : List api_Arg).length : Int)).bind fun x15 =>
 (loop (σ := Int) (ρ := (Int ⊕ Unit)) (fun s_ => tourref3_opError_l7 x15 o_3 o_4 o_5 o_6 o_7 o_8 o_9 o_10 has s_) 0).bind (Sum.elim (fun e_ => some e_) (fun e_ => tourref3_opError_j6))
noncomputable def tourref3_opError_j4 (has : List (Int × Bool)) (o_1 : Int) (o_3 : Bool) (o_4 : Int) (o_5 : Int) (o_6 : Int) (o_7 : Bool) (o_8 : Int) (o_9 : Int) (o_10 : Int) (t14 : Bool) : Option Int :=
 cnd t14 ((some ((mget has (IntKind.i64.wrap (300 + o_1))).getD false)).bind fun x43 =>
 cnd (!x43) (some 8) (tourref3_opError_j5 o_3 o_4 o_5 o_6 o_7 o_8 o_9 o_10 has)) (tourref3_opError_j5 o_3 o_4 o_5 o_6 o_7 o_8 o_9 o_10 has)
noncomputable def tourref3_opError_j3 (x5 : Bool) (o_1 : Int) (o_2 : Int) (k : List api_Kind) (has : List (Int × Bool)) (o_3 : Bool) (o_4 : Int) (o_5 : Int) (o_6 : Int) (o_7 : Bool) (o_8 : Int) (o_9 : Int) (o_10 : Int) (t13 : Bool) : Option Int :=
 cnd x5 ((tourref3_opError_1 o_1 o_2 k).bind fun x50 =>
 cnd (!x50) (some 1) (cnd t13 (cnd (decide (o_1 < 0)) (some 1) (cnd (decide ((k.length : Int) ≤ o_1)) (some 1) (tourref3_opError_j4 has o_1 o_3 o_4 o_5 o_6 o_7 o_8 o_9 o_10 true))) (tourref3_opError_j4 has o_1 o_3 o_4 o_5 o_6 o_7 o_8 o_9 o_10 true))) (cnd t13 (cnd (decide (o_1 < 0)) (some 1) (cnd (decide ((k.length : Int) ≤ o_1)) (some 1) (tourref3_opError_j4 has o_1 o_3 o_4 o_5 o_6 o_7 o_8 o_9 o_10 false))) (tourref3_opError_j4 has o_1 o_3 o_4 o_5 o_6 o_7 o_8 o_9 o_10 false))
noncomputable def tourref3_opError_j2 (x7 : Bool) (o_7 : Bool) (o_8 : Int) (o_9 : Int) (o_10 : Int) (x5 : Bool) (x6 : Bool) (o_1 : Int) (o_2 : Int) (k : List api_Kind) (has : List (Int × Bool)) (o_3 : Bool) (o_4 : Int) (o_5 : Int) (o_6 : Int) : Option Int :=
 cnd (!x7) (cnd (!(o_7 == false && (o_8 == 0 && (o_9 == 0 && (o_10 == 0))))) (some 3) (cnd (!x5) (cnd (!x6) (cnd (!(o_1 == 0 && (o_2 == 0))) (some 3) (cnd x6 (cnd (!(o_2 == 0)) (some 3) (tourref3_opError_j3 x5 o_1 o_2 k has o_3 o_4 o_5 o_6 o_7 o_8 o_9 o_10 true)) (tourref3_opError_j3 x5 o_1 o_2 k has o_3 o_4 o_5 o_6 o_7 o_8 o_9 o_10 false))) (cnd x6 (cnd (!(o_2 == 0)) (some 3) (tourref3_opError_j3 x5 o_1 o_2 k has o_3 o_4 o_5 o_6 o_7 o_8 o_9 o_10 true)) (tourref3_opError_j3 x5 o_1 o_2 k has o_3 o_4 o_5 o_6 o_7 o_8 o_9 o_10 false))) (cnd x6 (cnd (!(o_2 == 0)) (some 3) (tourref3_opError_j3 x5 o_1 o_2 k has o_3 o_4 o_5 o_6 o_7 o_8 o_9 o_10 true)) (tourref3_opError_j3 x5 o_1 o_2 k has o_3 o_4 o_5 o_6 o_7 o_8 o_9 o_10 false)))) (cnd (!x5) (cnd (!x6) (cnd (!(o_1 == 0 && (o_2 == 0))) (some 3) (cnd x6 (cnd (!(o_2 == 0)) (some 3) (tourref3_opError_j3 x5 o_1 o_2 k has o_3 o_4 o_5 o_6 o_7 o_8 o_9 o_10 true)) (tourref3_opError_j3 x5 o_1 o_2 k has o_3 o_4 o_5 o_6 o_7 o_8 o_9 o_10 false))) (cnd x6 (cnd (!(o_2 == 0)) (some 3) (tourref3_opError_j3 x5 o_1 o_2 k has o_3 o_4 o_5 o_6 o_7 o_8 o_9 o_10 true)) (tourref3_opError_j3 x5 o_1 o_2 k has o_3 o_4 o_5 o_6 o_7 o_8 o_9 o_10 false))) (cnd x6 (cnd (!(o_2 == 0)) (some 3) (tourref3_opError_j3 x5 o_1 o_2 k has o_3 o_4 o_5 o_6 o_7 o_8 o_9 o_10 true)) (tourref3_opError_j3 x5 o_1 o_2 k has o_3 o_4 o_5 o_6 o_7 o_8 o_9 o_10 false)))
noncomputable def tourref3_opError_j10 (i82 : Int) : Option (Int ⊕ (Int ⊕ Unit)) :=
 some (.inl (IntKind.i64.wrap (i82 + 1)))
noncomputable def tourref3_opError_l9 (x80 : Int) (o_3 : Bool) (o_4 : Int) (o_5 : Int) (o_6 : Int) (o_7 : Bool) (o_8 : Int) (o_9 : Int) (o_10 : Int) (i82 : Int) : Option (Int ⊕ (Int ⊕ Unit)) :=
 cnd (decide (i82 < x80)) ((idx ([(api_Arg.mk o_3 o_4 (api_Ref.mk o_5 o_6)), (api_Arg.mk o_7 o_8 (api_Ref.mk o_9 o_10))] : List api_Arg) i82).bind fun x84 =>
 cnd x84.Has (cnd (!(x84.N == 0)) (some (.inr (.inl 3))) (tourref3_opError_j10 i82)) (cnd (!(x84.Ref.Kind == 0 && (x84.Ref.Field == 0))) (some (.inr (.inl 3))) (tourref3_opError_j10 i82))) (some (.inr (.inr ())))
noncomputable def tourref3_opError_j1 (o_3 : Bool) (o_4 : Int) (o_5 : Int) (o_6 : Int) (o_7 : Bool) (o_8 : Int) (o_9 : Int) (o_10 : Int) (x7 : Bool) (x5 : Bool) (x6 : Bool) (o_1 : Int) (o_2 : Int) (k : List api_Kind) (has : List (Int × Bool)) : Option Int :=
 (some (([(api_Arg.mk o_3 o_4 (api_Ref.mk o_5 o_6)), (api_Arg.mk o_7 o_8 (api_Ref.mk o_9 o_10))] : List api_Arg).length : Int)).bind fun x80 =>
 (loop (σ := Int) (ρ := (Int ⊕ Unit)) (fun s_ => tourref3_opError_l9 x80 o_3 o_4 o_5 o_6 o_7 o_8 o_9 o_10 s_) 0).bind (Sum.elim (fun e_ => some e_) (fun e_ => tourref3_opError_j2 x7 o_7 o_8 o_9 o_10 x5 x6 o_1 o_2 k has o_3 o_4 o_5 o_6))
noncomputable def tourref3_opError_j12 (i100 : Int) : Option (Int ⊕ (Int ⊕ Unit)) :=
 some (.inl (IntKind.i64.wrap (i100 + 1)))
noncomputable def tourref3_opError_j13 (x103 : api_Arg) (i100 : Int) : Option (Int ⊕ (Int ⊕ Unit)) :=
 cnd (!x103.Has) (cnd (decide (1099511627776 < x103.N)) (some (.inr (.inl 1))) (cnd (decide (x103.N < (-1099511627776))) (some (.inr (.inl 1))) (tourref3_opError_j12 i100))) (tourref3_opError_j12 i100)
noncomputable def tourref3_opError_l11 (x97 : Int) (o_3 : Bool) (o_4 : Int) (o_5 : Int) (o_6 : Int) (o_7 : Bool) (o_8 : Int) (o_9 : Int) (o_10 : Int) (k : List api_Kind) (i100 : Int) : Option (Int ⊕ (Int ⊕ Unit)) :=
 cnd (decide (i100 < x97)) ((idx ([(api_Arg.mk o_3 o_4 (api_Ref.mk o_5 o_6)), (api_Arg.mk o_7 o_8 (api_Ref.mk o_9 o_10))] : List api_Arg) i100).bind fun x103 =>
 cnd x103.Has ((tourref3_opError_1 x103.Ref.Kind x103.Ref.Field k).bind fun x118 =>
 cnd (!x118) (some (.inr (.inl 1))) (tourref3_opError_j13 x103 i100)) (tourref3_opError_j13 x103 i100)) (some (.inr (.inr ())))
noncomputable def tourref3_opError (k : List api_Kind) (has : List (Int × Bool)) (o_0 : Int) (o_1 : Int) (o_2 : Int) (o_3 : Bool) (o_4 : Int) (o_5 : Int) (o_6 : Int) (o_7 : Bool) (o_8 : Int) (o_9 : Int) (o_10 : Int) : Option Int :=
 cnd (decide (o_0 < 0)) (some 1) (cnd (decide (12 < o_0)) (some 1) (bnd3 (tourref3_uses o_0) fun x5 x6 x7 =>
 (some (([(api_Arg.mk o_3 o_4 (api_Ref.mk o_5 o_6)), (api_Arg.mk o_7 o_8 (api_Ref.mk o_9 o_10))] : List api_Arg).length : Int)).bind fun x97 =>
 (loop (σ := Int) (ρ := (Int ⊕ Unit)) (fun s_ => tourref3_opError_l11 x97 o_3 o_4 o_5 o_6 o_7 o_8 o_9 o_10 k s_) 0).bind (Sum.elim (fun e_ => some e_) (fun e_ => tourref3_opError_j1 o_3 o_4 o_5 o_6 o_7 o_8 o_9 o_10 x7 x5 x6 o_1 o_2 k has))))
noncomputable def tourref3_SystemError_j4 : Option Int :=
 some 0
noncomputable def tourref3_SystemError_l5 (s_5 : List api_Op) (k : List api_Kind) (l13 : List (Int × Bool)) (i27 : Int) : Option (Int ⊕ (Int ⊕ Unit)) :=
 cnd (decide (i27 < (s_5.length : Int))) ((idx s_5 i27).bind fun x29 =>
 (tourref3_opError k l13 x29.Do x29.To.Kind x29.To.Field x29.A.Has x29.A.N x29.A.Ref.Kind x29.A.Ref.Field x29.B.Has x29.B.N x29.B.Ref.Kind x29.B.Ref.Field).bind fun x41 =>
 cnd (!(x41 == 0)) (some (.inr (.inl x41))) (some (.inl (IntKind.i64.wrap (i27 + 1))))) (some (.inr (.inr ())))
noncomputable def tourref3_SystemError_j3 (k : List api_Kind) (s_6 : List api_Comp) (s_5 : List api_Op) (l13 : List (Int × Bool)) : Option Int :=
 bnd2 (tourref3_FittedAll k s_6) fun x15 x16 =>
 cnd (!(x16 == 0)) (some x16) ((loop (σ := Int) (ρ := (Int ⊕ Unit)) (fun s_ => tourref3_SystemError_l5 s_5 k l13 s_) 0).bind (Sum.elim (fun e_ => some e_) (fun e_ => tourref3_SystemError_j4)))
noncomputable def tourref3_SystemError_j7 (i47 : Int) : Option (Int ⊕ (Int ⊕ Unit)) :=
 some (.inl (IntKind.i64.wrap (i47 + 1)))
noncomputable def tourref3_SystemError_l6 (k : List api_Kind) (l13 : List (Int × Bool)) (i47 : Int) : Option (Int ⊕ (Int ⊕ Unit)) :=
 cnd (decide (i47 < (k.length : Int))) ((some ((mget l13 i47).getD false)).bind fun x49 =>
 cnd (!x49) ((some ((mget l13 (IntKind.i64.wrap (200 + i47))).getD false)).bind fun x55 =>
 cnd x55 (some (.inr (.inl 8))) ((some ((mget l13 (IntKind.i64.wrap (300 + i47))).getD false)).bind fun x61 =>
 cnd x61 (some (.inr (.inl 8))) (tourref3_SystemError_j7 i47))) (tourref3_SystemError_j7 i47)) (some (.inr (.inr ())))
noncomputable def tourref3_SystemError_j2 (k : List api_Kind) (l13 : List (Int × Bool)) (s_6 : List api_Comp) (s_5 : List api_Op) : Option Int :=
 (loop (σ := Int) (ρ := (Int ⊕ Unit)) (fun s_ => tourref3_SystemError_l6 k l13 s_) 0).bind (Sum.elim (fun e_ => some e_) (fun e_ => tourref3_SystemError_j3 k s_6 s_5 l13))
noncomputable def tourref3_SystemError_j9 (i67 : Int) : Option (Int ⊕ (Int ⊕ Unit)) :=
 some (.inl (IntKind.i64.wrap (i67 + 1)))
noncomputable def tourref3_SystemError_l8 (k : List api_Kind) (l13 : List (Int × Bool)) (i67 : Int) : Option (Int ⊕ (Int ⊕ Unit)) :=
 cnd (decide (i67 < (k.length : Int))) ((some ((mget l13 i67).getD false)).bind fun x69 =>
 cnd x69 ((some ((mget l13 (IntKind.i64.wrap (100 + i67))).getD false)).bind fun x75 =>
 cnd x75 (some (.inr (.inl 10))) (tourref3_SystemError_j9 i67)) (tourref3_SystemError_j9 i67)) (some (.inr (.inr ())))
noncomputable def tourref3_SystemError_j1 (k : List api_Kind) (s_6 : List api_Comp) (s_5 : List api_Op) (l13 : List (Int × Bool)) : Option Int :=
 (loop (σ := Int) (ρ := (Int ⊕ Unit)) (fun s_ => tourref3_SystemError_l8 k l13 s_) 0).bind (Sum.elim (fun e_ => some e_) (fun e_ => tourref3_SystemError_j2 k l13 s_6 s_5))
noncomputable def tourref3_SystemError_j11 (i87 : Int) (l91 : List (Int × Bool)) : Option (((List (Int × Bool)) × Int) ⊕ (Int ⊕ (List (Int × Bool)))) :=
 some (.inl (l91, IntKind.i64.wrap (i87 + 1)))
noncomputable def tourref3_SystemError_l12 (x93 : List Int) (k : List api_Kind) (i87 : Int) (l107 : List (Int × Bool)) (i109 : Int) (i110 : Int) : Option (((List (Int × Bool)) × Int × Int) ⊕ (Int ⊕ (List (Int × Bool)))) :=
 cnd (decide (i110 < (x93.length : Int))) ((idx x93 i110).bind fun x112 =>
 cnd (decide (x112 < 0)) (some (.inr (.inl 1))) (cnd (decide (IntKind.i64.wrap ((k.length : Int) - 1) < x112)) (some (.inr (.inl 1))) (cnd (decide (x112 ≤ i109)) (some (.inr (.inl 9))) ((some (mput l107 (IntKind.i64.wrap (IntKind.i64.wrap (100 * i87) + x112)) true)).bind fun l126 =>
 some (.inl (l126, x112, IntKind.i64.wrap (i110 + 1))))))) (some (.inr (.inr l107)))
noncomputable def tourref3_SystemError_l10 (s_1 : List Int) (s_2 : List Int) (s_3 : List Int) (s_4 : List Int) (k : List api_Kind) (l85 : List (Int × Bool)) (i87 : Int) : Option (((List (Int × Bool)) × Int) ⊕ (Int ⊕ (List (Int × Bool)))) :=
 cnd (decide (i87 < (([s_1, s_2, s_3, s_4] : List (List Int)).length : Int))) ((idx ([s_1, s_2, s_3, s_4] : List (List Int)) i87).bind fun x93 =>
 (loop (σ := (List (Int × Bool)) × Int × Int) (ρ := (Int ⊕ (List (Int × Bool)))) (fun s_ => tourref3_SystemError_l12 x93 k i87 s_.1 s_.2.1 s_.2.2) (l85, (-1), 0)).bind (Sum.elim (fun e_ => some (.inr (.inl e_))) (fun e_ => tourref3_SystemError_j11 i87 e_))) (some (.inr (.inr l85)))
noncomputable def tourref3_SystemError (k : List api_Kind) (s_0 : ByteArray) (s_1 : List Int) (s_2 : List Int) (s_3 : List Int) (s_4 : List Int) (s_5 : List api_Op) (s_6 : List api_Comp) : Option Int :=
 (tourref3_KindsError k).bind fun x2 =>
 cnd (!(x2 == 0)) (some x2) ((tourref3_IsName s_0).bind fun x5 =>
 cnd (!x5) (some 3) (cnd (decide (20 < (s_5.length : Int))) (some 2) ((loop (σ := (List (Int × Bool)) × Int) (ρ := (Int ⊕ (List (Int × Bool)))) (fun s_ => tourref3_SystemError_l10 s_1 s_2 s_3 s_4 k s_.1 s_.2) (([] : List (Int × Bool)), 0)).bind (Sum.elim (fun e_ => some e_) (fun e_ => tourref3_SystemError_j1 k s_6 s_5 e_)))))
noncomputable def tourlaw3_SystemChecks_j1 (t15 : Bool) : Option Bool :=
 some t15
noncomputable def tourlaw3_SystemChecks (k : List api_Kind) (s_0 : ByteArray) (s_1 : List Int) (s_2 : List Int) (s_3 : List Int) (s_4 : List Int) (s_5 : List api_Op) (s_6 : List api_Comp) : Option Bool :=
 bnd2 (tourlaw3_older) fun x2 x3 =>
 (tourlaw3_two).bind fun x18 =>
 (system_Check x18 (⟨#[111, 108, 100, 101, 114]⟩) x2 [] [] [] x3 []).bind fun x38 =>
 cnd (x38 == 8) ((tourlaw3_two).bind fun x44 =>
 bnd2 (tourlaw3_older) fun x52 x53 =>
 (system_Check x44 (⟨#[111, 108, 100, 101, 114]⟩) x52 [] [] x52 x53 []).bind fun x80 =>
 cnd (x80 == 0) ((system_Check k s_0 s_1 s_2 s_3 s_4 s_5 s_6).bind fun x86 =>
 (tourref3_SystemError k s_0 s_1 s_2 s_3 s_4 s_5 s_6).bind fun x91 =>
 tourlaw3_SystemChecks_j1 (x86 == x91)) (tourlaw3_SystemChecks_j1 false)) (tourlaw3_SystemChecks_j1 false)
end Go.Proofs.YtnnhijlgohlaeaaDoor.D
