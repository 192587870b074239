/- The Go functions as plain functions over Option. No condition. -/
import Derived.Test.YtbfndcookgijfaaGreatDoorTyC
import Derived.Test.YtbfndcookgijfaaGreatDoorExIns
import Derived.Test.YtbfndcookgijfaaGreatDoorExMap
import Derived.Test.YtbfndcookgijfaaGreatDoorExSortF
namespace Go.Proofs.YtbfndcookgijfaaGreatDoor.C
open Go Go.RowKit Go.Proofs.YtbfndcookgijfaaGreatDoor.Sx
set_option linter.unusedVariables false
noncomputable def tourlaw3_two : Option ((List api_Kind)) :=
 some ([(api_Kind.mk (⟨#[112, 108, 97, 99, 101]⟩) ([(api_Field.mk (⟨#[120]⟩) 3 (-2))] : List api_Field)), (api_Kind.mk (⟨#[108, 105, 102, 101]⟩) ([(api_Field.mk (⟨#[120]⟩) 8 0)] : List api_Field))] : List api_Kind)
noncomputable def tourlaw3_pair : Option ((List api_Kind) × (List Int) × (List api_Item)) :=
 (tourlaw3_two).bind fun x2 =>
 some (x2, ([0, 2] : List Int), ([(api_Item.mk (api_Ent.mk 0 0) ([(api_Comp.mk 0 ([4] : List Int)), (api_Comp.mk 1 ([9] : List Int))] : List api_Comp)), (api_Item.mk (api_Ent.mk 1 2) ([(api_Comp.mk 1 ([7] : List Int))] : List api_Comp))] : List api_Item))
noncomputable def kind_Name_j1 : Option Bool :=
 some true
noncomputable def kind_Name_j3 (i3 : Int) : Option (Int ⊕ (Bool ⊕ Unit)) :=
 some (.inl (IntKind.i64.wrap (i3 + 1)))
noncomputable def kind_Name_l2 (s : ByteArray) (i3 : Int) : Option (Int ⊕ (Bool ⊕ Unit)) :=
 cnd (decide (i3 < (s.size : Int))) ((sidx s i3).bind fun x5 =>
 cnd (decide (97 ≤ x5)) (cnd (decide (x5 ≤ 122)) (kind_Name_j3 i3) (cnd (decide (0 < i3)) (cnd (decide (48 ≤ x5)) (cnd (!(decide (x5 ≤ 57))) (some (.inr (.inl false))) (kind_Name_j3 i3)) (some (.inr (.inl false)))) (some (.inr (.inl false))))) (cnd (decide (0 < i3)) (cnd (decide (48 ≤ x5)) (cnd (!(decide (x5 ≤ 57))) (some (.inr (.inl false))) (kind_Name_j3 i3)) (some (.inr (.inl false)))) (some (.inr (.inl false))))) (some (.inr (.inr ())))
noncomputable def kind_Name (s : ByteArray) : Option Bool :=
 cnd ((s.size : Int) == 0) (some false) (cnd (decide (16 < (s.size : Int))) (some false) ((loop (σ := Int) (ρ := (Bool ⊕ Unit)) (fun s_ => kind_Name_l2 s s_) 0).bind (Sum.elim (fun e_ => some e_) (fun e_ => kind_Name_j1))))
noncomputable def kind_field (f_0 : ByteArray) (f_1 : Int) (f_2 : Int) : Option Int :=
 (kind_Name f_0).bind fun x2 =>
 cnd (!x2) (some 3) (cnd (decide (f_1 < 1)) (some 3) (cnd (decide (32 < f_1)) (some 3) (cnd (decide (f_2 < (-4294967296))) (some 3) (cnd (decide (4294967296 < f_2)) (some 3) (some 0)))))
noncomputable def kind_One_j1 : Option Int :=
 some 0
noncomputable def kind_One_j3 (i6 : Int) : Option (Int ⊕ (Int ⊕ Unit)) :=
 some (.inl (IntKind.i64.wrap (i6 + 1)))
noncomputable def kind_One_l4 (l23 : List api_Field) (x8 : api_Field) (i34 : Int) : Option (Int ⊕ (Int ⊕ Unit)) :=
 cnd (decide (i34 < (l23.length : Int))) ((idx l23 i34).bind fun x36 =>
 cnd (x36.Name.toList == x8.Name.toList) (some (.inr (.inl 5))) (some (.inl (IntKind.i64.wrap (i34 + 1))))) (some (.inr (.inr ())))
noncomputable def kind_One_l2 (k_1 : List api_Field) (i6 : Int) : Option (Int ⊕ (Int ⊕ Unit)) :=
 cnd (decide (i6 < (k_1.length : Int))) ((idx k_1 i6).bind fun x8 =>
 (kind_field x8.Name x8.Bits x8.Low).bind fun x20 =>
 cnd (!(x20 == 0)) (some (.inr (.inl x20))) ((cut k_1 0 i6).bind fun l23 =>
 (loop (σ := Int) (ρ := (Int ⊕ Unit)) (fun s_ => kind_One_l4 l23 x8 s_) 0).bind (Sum.elim (fun e_ => some (.inr (.inl e_))) (fun e_ => kind_One_j3 i6)))) (some (.inr (.inr ())))
noncomputable def kind_One (k_0 : ByteArray) (k_1 : List api_Field) : Option Int :=
 (kind_Name k_0).bind fun x2 =>
 cnd (!x2) (some 3) (cnd (decide (8 < (k_1.length : Int))) (some 2) ((loop (σ := Int) (ρ := (Int ⊕ Unit)) (fun s_ => kind_One_l2 k_1 s_) 0).bind (Sum.elim (fun e_ => some e_) (fun e_ => kind_One_j1))))
noncomputable def kind_Find_j1 : Option Int :=
 some (-1)
noncomputable def kind_Find_l2 (l : List api_Kind) (name : ByteArray) (i1 : Int) : Option (Int ⊕ (Int ⊕ Unit)) :=
 cnd (decide (i1 < (l.length : Int))) ((idx l i1).bind fun x3 =>
 cnd (x3.Name.toList == name.toList) (some (.inr (.inl i1))) (some (.inl (IntKind.i64.wrap (i1 + 1))))) (some (.inr (.inr ())))
noncomputable def kind_Find (l : List api_Kind) (name : ByteArray) : Option Int :=
 (loop (σ := Int) (ρ := (Int ⊕ Unit)) (fun s_ => kind_Find_l2 l name s_) 0).bind (Sum.elim (fun e_ => some e_) (fun e_ => kind_Find_j1))
noncomputable def kind_Check_j1 : Option Int :=
 some 0
noncomputable def kind_Check_l2 (l : List api_Kind) (i2 : Int) : Option (Int ⊕ (Int ⊕ Unit)) :=
 cnd (decide (i2 < (l.length : Int))) ((idx l i2).bind fun x4 =>
 (kind_One x4.Name x4.Fields).bind fun x19 =>
 cnd (!(x19 == 0)) (some (.inr (.inl x19))) ((cut l 0 i2).bind fun l22 =>
 (kind_Find l22 x4.Name).bind fun x33 =>
 cnd (decide (0 ≤ x33)) (some (.inr (.inl 5))) (some (.inl (IntKind.i64.wrap (i2 + 1)))))) (some (.inr (.inr ())))
noncomputable def kind_Check (l : List api_Kind) : Option Int :=
 cnd (decide (16 < (l.length : Int))) (some 2) ((loop (σ := Int) (ρ := (Int ⊕ Unit)) (fun s_ => kind_Check_l2 l s_) 0).bind (Sum.elim (fun e_ => some e_) (fun e_ => kind_Check_j1)))
noncomputable def kind_High (f_0 : ByteArray) (f_1 : Int) (f_2 : Int) : Option Int :=
 (kind_field f_0 f_1 f_2).bind fun x2 =>
 cnd (!(x2 == 0)) (some 0) ((shl .i64 1 f_1).bind fun x5 =>
 some (IntKind.i64.wrap (f_2 + IntKind.i64.wrap (x5 - 1))))
noncomputable def kind_Near (f_0 : ByteArray) (f_1 : Int) (f_2 : Int) (v : Int) : Option Int :=
 (kind_field f_0 f_1 f_2).bind fun x2 =>
 cnd (!(x2 == 0)) (some 0) ((kind_High f_0 f_1 f_2).bind fun x5 =>
 some (max f_2 (min v x5)))
noncomputable def kind_Fit_j1 (l17 : List Int) : Option ((List Int) × Int) :=
 some (l17, 0)
noncomputable def kind_Fit_l2 (k_1 : List api_Field) (vals : List Int) (l20 : List Int) (i23 : Int) : Option (((List Int) × Int) ⊕ (List Int)) :=
 cnd (decide (i23 < (k_1.length : Int))) ((idx k_1 i23).bind fun x25 =>
 (idx vals i23).bind fun x37 =>
 (kind_Near x25.Name x25.Bits x25.Low x37).bind fun x48 =>
 (idx l20 i23).bind fun x50 =>
 (upd l20 i23 x48).bind fun l59 =>
 some (.inl (l59, IntKind.i64.wrap (i23 + 1)))) (some (.inr l20))
noncomputable def kind_Fit (k_0 : ByteArray) (k_1 : List api_Field) (vals : List Int) : Option ((List Int) × Int) :=
 (kind_One k_0 k_1).bind fun x2 =>
 cnd (!(x2 == 0)) (some (([] : List Int), x2)) (cnd (!((vals.length : Int) == (k_1.length : Int))) (some (([] : List Int), 1)) ((mk 8 (vals.length : Int) (0 : Int)).bind fun l6 =>
 (loop (σ := (List Int) × Int) (ρ := (List Int)) (fun s_ => kind_Fit_l2 k_1 vals s_.1 s_.2) (l6, 0)).bind (fun e_ => kind_Fit_j1 e_)))
noncomputable def kind_Holds_j1 : Option Bool :=
 some true
noncomputable def kind_Holds_l2 (x2 : List Int) (vals : List Int) (i10 : Int) : Option (Int ⊕ (Bool ⊕ Unit)) :=
 cnd (decide (i10 < (x2.length : Int))) ((idx x2 i10).bind fun x12 =>
 (idx vals i10).bind fun x22 =>
 cnd (!(x12 == x22)) (some (.inr (.inl false))) (some (.inl (IntKind.i64.wrap (i10 + 1))))) (some (.inr (.inr ())))
noncomputable def kind_Holds (k_0 : ByteArray) (k_1 : List api_Field) (vals : List Int) : Option Bool :=
 bnd2 (kind_Fit k_0 k_1 vals) fun x2 x3 =>
 cnd (!(x3 == 0)) (some false) ((loop (σ := Int) (ρ := (Bool ⊕ Unit)) (fun s_ => kind_Holds_l2 x2 vals s_) 0).bind (Sum.elim (fun e_ => some e_) (fun e_ => kind_Holds_j1)))
noncomputable def world_held_j1 : Option Bool :=
 some true
noncomputable def world_held_l2 (l : List api_Comp) (k : List api_Kind) (i1 : Int) (i2 : Int) : Option ((Int × Int) ⊕ (Bool ⊕ Unit)) :=
 cnd (decide (i2 < (l.length : Int))) ((idx l i2).bind fun x4 =>
 cnd (decide (x4.Kind ≤ i1)) (some (.inr (.inl false))) (cnd (decide ((k.length : Int) ≤ x4.Kind)) (some (.inr (.inl false))) ((idx k x4.Kind).bind fun x21 =>
 (kind_Holds x21.Name x21.Fields x4.Vals).bind fun x35 =>
 cnd (!x35) (some (.inr (.inl false))) (some (.inl (x4.Kind, IntKind.i64.wrap (i2 + 1))))))) (some (.inr (.inr ())))
noncomputable def world_held (k : List api_Kind) (l : List api_Comp) : Option Bool :=
 (loop (σ := Int × Int) (ρ := (Bool ⊕ Unit)) (fun s_ => world_held_l2 l k s_.1 s_.2) ((-1), 0)).bind (Sum.elim (fun e_ => some e_) (fun e_ => world_held_j1))
noncomputable def world_Check_j2 : Option Int :=
 some 0
noncomputable def world_Check_l3 (w_2 : List api_Item) (w_1 : List Int) (w_0 : List api_Kind) (i7 : Int) (i8 : Int) : Option ((Int × Int) ⊕ (Int ⊕ Unit)) :=
 cnd (decide (i8 < (w_2.length : Int))) ((idx w_2 i8).bind fun x10 =>
 cnd (decide (x10.Ent.N ≤ i7)) (some (.inr (.inl 3))) (cnd (decide ((w_1.length : Int) ≤ x10.Ent.N)) (some (.inr (.inl 3))) ((idx w_1 x10.Ent.N).bind fun x27 =>
 cnd (!(x10.Ent.Gen == x27)) (some (.inr (.inl 3))) (cnd (x10.Ent.Gen == 1073741824) (some (.inr (.inl 3))) ((world_held w_0 x10.Comps).bind fun x40 =>
 cnd (!x40) (some (.inr (.inl 3))) (some (.inl (x10.Ent.N, IntKind.i64.wrap (i8 + 1))))))))) (some (.inr (.inr ())))
noncomputable def world_Check_j1 (w_2 : List api_Item) (w_1 : List Int) (w_0 : List api_Kind) : Option Int :=
 (loop (σ := Int × Int) (ρ := (Int ⊕ Unit)) (fun s_ => world_Check_l3 w_2 w_1 w_0 s_.1 s_.2) ((-1), 0)).bind (Sum.elim (fun e_ => some e_) (fun e_ => world_Check_j2))
noncomputable def world_Check_l4 (w_1 : List Int) (i43 : Int) : Option (Int ⊕ (Int ⊕ Unit)) :=
 cnd (decide (i43 < (w_1.length : Int))) ((idx w_1 i43).bind fun x45 =>
 cnd (decide (x45 < 0)) (some (.inr (.inl 3))) (cnd (decide (1073741824 < x45)) (some (.inr (.inl 3))) (some (.inl (IntKind.i64.wrap (i43 + 1)))))) (some (.inr (.inr ())))
noncomputable def world_Check (w_0 : List api_Kind) (w_1 : List Int) (w_2 : List api_Item) : Option Int :=
 (kind_Check w_0).bind fun x2 =>
 cnd (!(x2 == 0)) (some x2) (cnd (decide (256 < (w_1.length : Int))) (some 2) (cnd (decide ((w_1.length : Int) < (w_2.length : Int))) (some 2) ((loop (σ := Int) (ρ := (Int ⊕ Unit)) (fun s_ => world_Check_l4 w_1 s_) 0).bind (Sum.elim (fun e_ => some e_) (fun e_ => world_Check_j1 w_2 w_1 w_0)))))
noncomputable def world_Find_1 (it_0 : Int) (it_1 : Int) (it_2 : List api_Comp) (p1_0 : Int) (p1_1 : Int) : Option Bool :=
 some (it_0 == p1_0 && (it_1 == p1_1))
noncomputable def slices_IndexFunc_api_Item_api_Item_j1 : Option Int :=
 some (-1)
noncomputable def slices_IndexFunc_api_Item_api_Item_l2 (s : List api_Item) (f_c0_0 : Int) (f_c0_1 : Int) (i1 : Int) : Option (Int ⊕ (Int ⊕ Unit)) :=
 cnd (decide (i1 < (s.length : Int))) ((idx s i1).bind fun x3 =>
 (world_Find_1 x3.Ent.N x3.Ent.Gen x3.Comps f_c0_0 f_c0_1).bind fun x17 =>
 cnd x17 (some (.inr (.inl i1))) (some (.inl (IntKind.i64.wrap (i1 + 1))))) (some (.inr (.inr ())))
noncomputable def slices_IndexFunc_api_Item_api_Item (s : List api_Item) (f_c0_0 : Int) (f_c0_1 : Int) : Option Int :=
 (loop (σ := Int) (ρ := (Int ⊕ Unit)) (fun s_ => slices_IndexFunc_api_Item_api_Item_l2 s f_c0_0 f_c0_1 s_) 0).bind (Sum.elim (fun e_ => some e_) (fun e_ => slices_IndexFunc_api_Item_api_Item_j1))
noncomputable def world_Find (w_0 : List api_Kind) (w_1 : List Int) (w_2 : List api_Item) (e_0 : Int) (e_1 : Int) : Option Int :=
 (slices_IndexFunc_api_Item_api_Item w_2 e_0 e_1).bind fun x3 =>
 some x3
noncomputable def cmp_isNaN_int (x : Int) : Option Unit :=
 some ()
noncomputable def cmp_Compare_int (x : Int) (y : Int) : Option Int :=
 (cmp_isNaN_int x).bind fun _ =>
 (cmp_isNaN_int y).bind fun _ =>
 cnd (decide (x < y)) (some (-1)) (cnd (decide (y < x)) (some 1) (some 0))
noncomputable def world_at_1 (c_0 : Int) (c_1 : List Int) (k : Int) : Option Int :=
 (cmp_Compare_int c_0 k).bind fun x2 =>
 some x2
noncomputable def slices_BinarySearchFunc_api_Comp_api_Comp_int_j2 (i1 : Int) (t2 : Bool) : Option (Int × Bool) :=
 some (i1, t2)
noncomputable def slices_BinarySearchFunc_api_Comp_api_Comp_int_j1 (x : List api_Comp) (target : Int) (i1 : Int) : Option (Int × Bool) :=
 cnd (decide (i1 < (x.length : Int))) ((idx x i1).bind fun x4 =>
 (world_at_1 x4.Kind x4.Vals target).bind fun x18 =>
 slices_BinarySearchFunc_api_Comp_api_Comp_int_j2 i1 (x18 == 0)) (slices_BinarySearchFunc_api_Comp_api_Comp_int_j2 i1 false)
noncomputable def slices_BinarySearchFunc_api_Comp_api_Comp_int_l3 (x : List api_Comp) (target : Int) (i20 : Int) (i21 : Int) : Option ((Int × Int) ⊕ Int) :=
 cnd (decide (i20 < i21)) ((some (IntKind.i64.wrap (Int.fdiv (IntKind.u64.wrap (IntKind.i64.wrap (i20 + i21))) 2))).bind fun x23 =>
 (idx x x23).bind fun x25 =>
 (world_at_1 x25.Kind x25.Vals target).bind fun x39 =>
 cnd (decide (x39 < 0)) (some (.inl (IntKind.i64.wrap (x23 + 1), i21))) (some (.inl (i20, x23)))) (some (.inr i20))
noncomputable def slices_BinarySearchFunc_api_Comp_api_Comp_int (x : List api_Comp) (target : Int) : Option (Int × Bool) :=
 (loop (σ := Int × Int) (ρ := Int) (fun s_ => slices_BinarySearchFunc_api_Comp_api_Comp_int_l3 x target s_.1 s_.2) (0, (x.length : Int))).bind (fun e_ => slices_BinarySearchFunc_api_Comp_api_Comp_int_j1 x target e_)
noncomputable def world_at (l : List api_Comp) (k : Int) : Option (Int × Bool) :=
 bnd2 (slices_BinarySearchFunc_api_Comp_api_Comp_int l k) fun x1 x2 =>
 some (x1, x2)
noncomputable def slices_Clone_int_int (s : List Int) : Option ((List Int)) :=
 (app 8 ([] : List Int) s).bind fun l5 =>
 some l5
noncomputable def world_Get (w_0 : List api_Kind) (w_1 : List Int) (w_2 : List api_Item) (e_0 : Int) (e_1 : Int) (k : Int) : Option ((List Int) × Int) :=
 (world_Check w_0 w_1 w_2).bind fun x3 =>
 cnd (!(x3 == 0)) (some (([] : List Int), x3)) ((world_Find w_0 w_1 w_2 e_0 e_1).bind fun x6 =>
 cnd (decide (x6 < 0)) (some (([] : List Int), 4)) ((idx w_2 x6).bind fun x9 =>
 bnd2 (world_at x9.Comps k) fun x23 x24 =>
 cnd (!x24) (some (([] : List Int), 4)) ((idx w_2 x6).bind fun x27 =>
 (idx x27.Comps x23).bind fun x41 =>
 (slices_Clone_int_int x41.Vals).bind fun x55 =>
 some (x55, 0))))
noncomputable def slices_Equal_int_int_j1 : Option Bool :=
 some true
noncomputable def slices_Equal_int_int_l2 (s1_1 : List Int) (s2_1 : List Int) (i2 : Int) : Option (Int ⊕ (Bool ⊕ Unit)) :=
 cnd (decide (i2 < (s1_1.length : Int))) ((idx s1_1 i2).bind fun x4 =>
 (idx s2_1 i2).bind fun x15 =>
 cnd (!(x4 == x15)) (some (.inr (.inl false))) (some (.inl (IntKind.i64.wrap (i2 + 1))))) (some (.inr (.inr ())))
noncomputable def slices_Equal_int_int (s1_1 : List Int) (s2_1 : List Int) : Option Bool :=
 cnd (!((s1_1.length : Int) == (s2_1.length : Int))) (some false) ((loop (σ := Int) (ρ := (Bool ⊕ Unit)) (fun s_ => slices_Equal_int_int_l2 s1_1 s2_1 s_) 0).bind (Sum.elim (fun e_ => some e_) (fun e_ => slices_Equal_int_int_j1)))
noncomputable def tourlaw3_WorldChanges_1 (it_0 : Int) (it_1 : Int) (it_2 : List api_Comp) (p1_0 : Int) (p1_1 : Int) : Option Bool :=
 some (it_0 == p1_0 && (it_1 == p1_1))
noncomputable def slices_IndexFunc_api_Item_api_Item_v2_j1 : Option Int :=
 some (-1)
noncomputable def slices_IndexFunc_api_Item_api_Item_v2_l2 (s : List api_Item) (f_c0_0 : Int) (f_c0_1 : Int) (i1 : Int) : Option (Int ⊕ (Int ⊕ Unit)) :=
 cnd (decide (i1 < (s.length : Int))) ((idx s i1).bind fun x3 =>
 (tourlaw3_WorldChanges_1 x3.Ent.N x3.Ent.Gen x3.Comps f_c0_0 f_c0_1).bind fun x17 =>
 cnd x17 (some (.inr (.inl i1))) (some (.inl (IntKind.i64.wrap (i1 + 1))))) (some (.inr (.inr ())))
noncomputable def slices_IndexFunc_api_Item_api_Item_v2 (s : List api_Item) (f_c0_0 : Int) (f_c0_1 : Int) : Option Int :=
 (loop (σ := Int) (ρ := (Int ⊕ Unit)) (fun s_ => slices_IndexFunc_api_Item_api_Item_v2_l2 s f_c0_0 f_c0_1 s_) 0).bind (Sum.elim (fun e_ => some e_) (fun e_ => slices_IndexFunc_api_Item_api_Item_v2_j1))
noncomputable def kind_Copy_j1 (l12 : List api_Kind) : Option ((List api_Kind)) :=
 some l12
noncomputable def kind_Copy_l2 (l : List api_Kind) (l17 : List api_Kind) (i20 : Int) : Option (((List api_Kind) × Int) ⊕ (List api_Kind)) :=
 cnd (decide (i20 < (l.length : Int))) ((idx l i20).bind fun x24 =>
 (app 32 ([] : List api_Field) x24.Fields).bind fun l39 =>
 (idx l17 i20).bind fun x51 =>
 (upd l17 i20 (api_Kind.mk x24.Name l39)).bind fun l67 =>
 some (.inl (l67, IntKind.i64.wrap (i20 + 1)))) (some (.inr l17))
noncomputable def kind_Copy (l : List api_Kind) : Option ((List api_Kind)) :=
 (mk 40 (l.length : Int) ((api_Kind.mk ByteArray.empty []) : api_Kind)).bind fun l1 =>
 (loop (σ := (List api_Kind) × Int) (ρ := (List api_Kind)) (fun s_ => kind_Copy_l2 l s_.1 s_.2) (l1, 0)).bind (fun e_ => kind_Copy_j1 e_)
noncomputable def world_CopyComps_j1 (l12 : List api_Comp) : Option ((List api_Comp)) :=
 some l12
noncomputable def world_CopyComps_l2 (l : List api_Comp) (l17 : List api_Comp) (i20 : Int) : Option (((List api_Comp) × Int) ⊕ (List api_Comp)) :=
 cnd (decide (i20 < (l.length : Int))) ((idx l i20).bind fun x24 =>
 (slices_Clone_int_int x24.Vals).bind fun x39 =>
 (idx l17 i20).bind fun x45 =>
 (upd l17 i20 (api_Comp.mk x24.Kind x39)).bind fun l61 =>
 some (.inl (l61, IntKind.i64.wrap (i20 + 1)))) (some (.inr l17))
noncomputable def world_CopyComps (l : List api_Comp) : Option ((List api_Comp)) :=
 (mk 32 (l.length : Int) ((api_Comp.mk 0 []) : api_Comp)).bind fun l1 =>
 (loop (σ := (List api_Comp) × Int) (ρ := (List api_Comp)) (fun s_ => world_CopyComps_l2 l s_.1 s_.2) (l1, 0)).bind (fun e_ => world_CopyComps_j1 e_)
noncomputable def world_Copy_j2 (l15 : List api_Kind) (l20 : List Int) (l31 : List api_Item) : Option ((List api_Kind) × (List Int) × (List api_Item)) :=
 some (l15, l20, l31)
noncomputable def world_Copy_l3 (w_2 : List api_Item) (l37 : List api_Item) (i41 : Int) : Option (((List api_Item) × Int) ⊕ (List api_Item)) :=
 cnd (decide (i41 < (w_2.length : Int))) ((idx w_2 i41).bind fun x45 =>
 (world_CopyComps x45.Comps).bind fun x60 =>
 (idx l37 i41).bind fun x69 =>
 (upd l37 i41 (api_Item.mk (api_Ent.mk x45.Ent.N x45.Ent.Gen) x60)).bind fun l94 =>
 some (.inl (l94, IntKind.i64.wrap (i41 + 1)))) (some (.inr l37))
noncomputable def world_Copy_j1 (w_2 : List api_Item) (l15 : List api_Kind) (l20 : List Int) (l25 : List api_Item) : Option ((List api_Kind) × (List Int) × (List api_Item)) :=
 (loop (σ := (List api_Item) × Int) (ρ := (List api_Item)) (fun s_ => world_Copy_l3 w_2 s_.1 s_.2) (l25, 0)).bind (fun e_ => world_Copy_j2 l15 l20 e_)
noncomputable def world_Copy (w_0 : List api_Kind) (w_1 : List Int) (w_2 : List api_Item) : Option ((List api_Kind) × (List Int) × (List api_Item)) :=
 (kind_Copy w_0).bind fun x101 =>
 (slices_Clone_int_int w_1).bind fun x110 =>
 (mk 40 (w_2.length : Int) ((api_Item.mk (api_Ent.mk 0 0) []) : api_Item)).bind fun l116 =>
 world_Copy_j1 w_2 x101 x110 l116
noncomputable def world_found (w_0 : List api_Kind) (w_1 : List Int) (w_2 : List api_Item) (e_0 : Int) (e_1 : Int) : Option ((List api_Kind) × (List Int) × (List api_Item) × Int × Int) :=
 (world_Check w_0 w_1 w_2).bind fun x4 =>
 cnd (!(x4 == 0)) (some (([] : List api_Kind), ([] : List Int), ([] : List api_Item), 0, x4)) ((world_Find w_0 w_1 w_2 e_0 e_1).bind fun x7 =>
 cnd (decide (x7 < 0)) (some (([] : List api_Kind), ([] : List Int), ([] : List api_Item), 0, 4)) (bnd3 (world_Copy w_0 w_1 w_2) fun x10 x11 x12 =>
 some (x10, x11, x12, x7, 0)))
noncomputable def slices_Delete_api_Item_api_Item (s_ : List api_Item) (i_ : Int) (j_ : Int) : Option (List api_Item) := del s_ i_ j_
noncomputable def world_Kill (w_0 : List api_Kind) (w_1 : List Int) (w_2 : List api_Item) (e_0 : Int) (e_1 : Int) : Option ((List api_Kind) × (List Int) × (List api_Item) × Int) :=
 bnd5 (world_found w_0 w_1 w_2 e_0 e_1) fun x4 x5 x6 x7 x8 =>
 cnd (!(x8 == 0)) (some (([] : List api_Kind), ([] : List Int), ([] : List api_Item), x8)) ((idx x5 e_0).bind fun x27 =>
 (idx x5 e_0).bind fun x37 =>
 (upd x5 e_0 (IntKind.i64.wrap (x27 + 1))).bind fun l46 =>
 (slices_Delete_api_Item_api_Item x6 x7 (IntKind.i64.wrap (x7 + 1))).bind fun x57 =>
 some (x4, l46, x57, 0))
noncomputable def strings_Trim (s_ : ByteArray) : Option ByteArray := trim s_ [97, 98, 99, 100, 101, 102, 103, 104, 105, 106, 107, 108, 109, 110, 111, 112, 113, 114, 115, 116, 117, 118, 119, 120, 121, 122, 48, 49, 50, 51, 52, 53, 54, 55, 56, 57]
noncomputable def tourref3_IsName_j1 (t1 : Bool) : Option Bool :=
 some t1
noncomputable def tourref3_IsName (s : ByteArray) : Option Bool :=
 cnd (!(s.toList == (⟨#[]⟩ : ByteArray).toList)) (cnd (decide ((s.size : Int) < 17)) ((strings_Trim s).bind fun x4 =>
 cnd (x4.toList == (⟨#[]⟩ : ByteArray).toList) ((sidx s 0).bind fun x7 =>
 tourref3_IsName_j1 (decide (57 < x7))) (tourref3_IsName_j1 false)) (tourref3_IsName_j1 false)) (tourref3_IsName_j1 false)
noncomputable def tourref3_FieldOK_j1 (t2 : Bool) : Option Bool :=
 some t2
noncomputable def tourref3_FieldOK (f_0 : ByteArray) (f_1 : Int) (f_2 : Int) : Option Bool :=
 (tourref3_IsName f_0).bind fun x3 =>
 cnd x3 (cnd (decide (0 < f_1)) (cnd (decide (f_1 < 33)) (cnd (decide ((-4294967296) ≤ f_2)) (tourref3_FieldOK_j1 (decide (f_2 ≤ 4294967296))) (tourref3_FieldOK_j1 false)) (tourref3_FieldOK_j1 false)) (tourref3_FieldOK_j1 false)) (tourref3_FieldOK_j1 false)
noncomputable def slices_Index_string_string_j1 : Option Int :=
 some (-1)
noncomputable def slices_Index_string_string_l2 (s : List ByteArray) (v : ByteArray) (i1 : Int) : Option (Int ⊕ (Int ⊕ Unit)) :=
 cnd (decide (i1 < (s.length : Int))) ((idx s i1).bind fun x3 =>
 cnd (v.toList == x3.toList) (some (.inr (.inl i1))) (some (.inl (IntKind.i64.wrap (i1 + 1))))) (some (.inr (.inr ())))
noncomputable def slices_Index_string_string (s : List ByteArray) (v : ByteArray) : Option Int :=
 (loop (σ := Int) (ρ := (Int ⊕ Unit)) (fun s_ => slices_Index_string_string_l2 s v s_) 0).bind (Sum.elim (fun e_ => some e_) (fun e_ => slices_Index_string_string_j1))
noncomputable def slices_Contains_string_string (s : List ByteArray) (v : ByteArray) : Option Bool :=
 (slices_Index_string_string s v).bind fun x1 =>
 some (decide (0 ≤ x1))
noncomputable def tourref3_twice (l : List ByteArray) (s : ByteArray) : Option Bool :=
 (slices_Contains_string_string l s).bind fun x1 =>
 some x1
noncomputable def tourref3_KindError_j1 : Option Int :=
 some 0
noncomputable def tourref3_KindError_l2 (k_1 : List api_Field) (l8 : List ByteArray) (i11 : Int) : Option (((List ByteArray) × Int) ⊕ (Int ⊕ Unit)) :=
 cnd (decide (i11 < (k_1.length : Int))) ((idx k_1 i11).bind fun x13 =>
 (tourref3_FieldOK x13.Name x13.Bits x13.Low).bind fun x25 =>
 cnd (!x25) (some (.inr (.inl 3))) ((tourref3_twice l8 x13.Name).bind fun x28 =>
 cnd x28 (some (.inr (.inl 5))) ((app 16 l8 ([x13.Name] : List ByteArray)).bind fun l33 =>
 some (.inl (l33, IntKind.i64.wrap (i11 + 1)))))) (some (.inr (.inr ())))
noncomputable def tourref3_KindError (k_0 : ByteArray) (k_1 : List api_Field) : Option Int :=
 (tourref3_IsName k_0).bind fun x2 =>
 cnd (!x2) (some 3) (cnd (decide (8 < (k_1.length : Int))) (some 2) ((loop (σ := (List ByteArray) × Int) (ρ := (Int ⊕ Unit)) (fun s_ => tourref3_KindError_l2 k_1 s_.1 s_.2) (([] : List ByteArray), 0)).bind (Sum.elim (fun e_ => some e_) (fun e_ => tourref3_KindError_j1))))
noncomputable def tourref3_KindsError_j1 : Option Int :=
 some 0
noncomputable def tourref3_KindsError_l2 (l : List api_Kind) (l4 : List ByteArray) (i7 : Int) : Option (((List ByteArray) × Int) ⊕ (Int ⊕ Unit)) :=
 cnd (decide (i7 < (l.length : Int))) ((idx l i7).bind fun x9 =>
 (tourref3_KindError x9.Name x9.Fields).bind fun x24 =>
 cnd (!(x24 == 0)) (some (.inr (.inl x24))) ((tourref3_twice l4 x9.Name).bind fun x27 =>
 cnd x27 (some (.inr (.inl 5))) ((app 16 l4 ([x9.Name] : List ByteArray)).bind fun l32 =>
 some (.inl (l32, IntKind.i64.wrap (i7 + 1)))))) (some (.inr (.inr ())))
noncomputable def tourref3_KindsError (l : List api_Kind) : Option Int :=
 cnd (decide (16 < (l.length : Int))) (some 2) ((loop (σ := (List ByteArray) × Int) (ρ := (Int ⊕ Unit)) (fun s_ => tourref3_KindsError_l2 l s_.1 s_.2) (([] : List ByteArray), 0)).bind (Sum.elim (fun e_ => some e_) (fun e_ => tourref3_KindsError_j1)))
noncomputable def slices_Clone_api_Field_api_Field (s : List api_Field) : Option ((List api_Field)) :=
 (app 32 ([] : List api_Field) s).bind fun l5 =>
 some l5
noncomputable def tourref3_Top_j1 (f_2 : Int) (i2 : Int) : Option Int :=
 some (IntKind.i64.wrap (IntKind.i64.wrap (f_2 + i2) - 1))
noncomputable def tourref3_Top_l2 (f_1 : Int) (i3 : Int) (i4 : Int) : Option ((Int × Int) ⊕ Int) :=
 cnd (decide (i4 < f_1)) (some (.inl (IntKind.i64.wrap (i3 * 2), IntKind.i64.wrap (i4 + 1)))) (some (.inr i3))
noncomputable def tourref3_Top (f_0 : ByteArray) (f_1 : Int) (f_2 : Int) : Option Int :=
 (loop (σ := Int × Int) (ρ := Int) (fun s_ => tourref3_Top_l2 f_1 s_.1 s_.2) (1, 0)).bind (fun e_ => tourref3_Top_j1 f_2 e_)
noncomputable def tourref3_Nearest (f_0 : ByteArray) (f_1 : Int) (f_2 : Int) (v : Int) : Option Int :=
 (tourref3_FieldOK f_0 f_1 f_2).bind fun x2 =>
 cnd (!x2) (some 0) (cnd (decide (v < f_2)) (some f_2) ((tourref3_Top f_0 f_1 f_2).bind fun x6 =>
 cnd (decide (x6 < v)) ((tourref3_Top f_0 f_1 f_2).bind fun x9 =>
 some x9) (some v)))
noncomputable def tourref3_Fitted_j1 (l8 : List Int) : Option ((List Int) × Int) :=
 some (l8, 0)
noncomputable def tourref3_Fitted_l2 (vals : List Int) (k_1 : List api_Field) (l13 : List Int) (i16 : Int) : Option (((List Int) × Int) ⊕ (List Int)) :=
 cnd (decide (i16 < (vals.length : Int))) ((idx k_1 i16).bind fun x18 =>
 (idx vals i16).bind fun x29 =>
 (tourref3_Nearest x18.Name x18.Bits x18.Low x29).bind fun x40 =>
 (app 8 l13 ([x40] : List Int)).bind fun l44 =>
 some (.inl (l44, IntKind.i64.wrap (i16 + 1)))) (some (.inr l13))
noncomputable def tourref3_Fitted (k_0 : ByteArray) (k_1 : List api_Field) (vals : List Int) : Option ((List Int) × Int) :=
 (tourref3_KindError k_0 k_1).bind fun x2 =>
 cnd (!(x2 == 0)) (some (([] : List Int), x2)) (cnd (!((vals.length : Int) == (k_1.length : Int))) (some (([] : List Int), 1)) ((loop (σ := (List Int) × Int) (ρ := (List Int)) (fun s_ => tourref3_Fitted_l2 vals k_1 s_.1 s_.2) (([] : List Int), 0)).bind (fun e_ => tourref3_Fitted_j1 e_)))
noncomputable def tourref3_FittedAll_j1 (l5 : List (Int × (List Int))) : Option ((List (Int × (List Int))) ⊕ Int) :=
 some (.inl l5)
noncomputable def tourref3_FittedAll_l2 (l : List api_Comp) (k : List api_Kind) (l11 : List (Int × (List Int))) (i13 : Int) : Option (((List (Int × (List Int))) × Int) ⊕ (Int ⊕ (List (Int × (List Int))))) :=
 cnd (decide (i13 < (l.length : Int))) ((idx l i13).bind fun x17 =>
 cnd (decide (x17.Kind < 0)) (some (.inr (.inl 1))) (cnd (decide ((k.length : Int) ≤ x17.Kind)) (some (.inr (.inl 1))) ((some ((mget l11 x17.Kind).getD ([] : List Int))).bind fun x34 =>
 cnd ((mget l11 x17.Kind).isSome) (some (.inr (.inl 5))) ((idx k x17.Kind).bind fun x43 =>
 bnd2 (tourref3_Fitted x43.Name x43.Fields x17.Vals) fun x57 x58 =>
 cnd (!(x58 == 0)) (some (.inr (.inl x58))) ((some (mput l11 x17.Kind x57)).bind fun l69 =>
 some (.inl (l69, IntKind.i64.wrap (i13 + 1)))))))) (some (.inr (.inr l11)))
noncomputable def tourref3_FittedAll (k : List api_Kind) (l : List api_Comp) : Option ((List (Int × (List Int))) ⊕ Int) :=
 (loop (σ := (List (Int × (List Int))) × Int) (ρ := (Int ⊕ (List (Int × (List Int))))) (fun s_ => tourref3_FittedAll_l2 l k s_.1 s_.2) (([] : List (Int × (List Int))), 0)).bind (Sum.elim (fun e_ => some (.inr e_)) (fun e_ => tourref3_FittedAll_j1 e_))
noncomputable def tourref3_Listed_j1 (l3 : List api_Comp) : Option ((List api_Comp)) :=
 some l3
noncomputable def tourref3_Listed_j3 (i13 : Int) (l19 : List api_Comp) : Option (((List api_Comp) × Int) ⊕ (List api_Comp)) :=
 some (.inl (l19, IntKind.i64.wrap (i13 + 1)))
noncomputable def tourref3_Listed_l2 (m : List (Int × (List Int))) (l10 : List api_Comp) (i13 : Int) : Option (((List api_Comp) × Int) ⊕ (List api_Comp)) :=
 cnd (decide (i13 < 16)) ((some ((mget m i13).getD ([] : List Int))).bind fun x24 =>
 cnd ((mget m i13).isSome) ((slices_Clone_int_int x24).bind fun x33 =>
 (app 32 l10 ([(api_Comp.mk i13 x33)] : List api_Comp)).bind fun l45 =>
 tourref3_Listed_j3 i13 l45) (tourref3_Listed_j3 i13 l10)) (some (.inr l10))
noncomputable def tourref3_Listed (m : List (Int × (List Int))) : Option ((List api_Comp)) :=
 (loop (σ := (List api_Comp) × Int) (ρ := (List api_Comp)) (fun s_ => tourref3_Listed_l2 m s_.1 s_.2) (([] : List api_Comp), 0)).bind (fun e_ => tourref3_Listed_j1 e_)
noncomputable def tourref3_Flat_Close_j2 (l19 : List api_Kind) (x2 : List Int) (l28 : List api_Item) : Option ((List api_Kind) × (List Int) × (List api_Item)) :=
 some (l19, x2, l28)
noncomputable def tourref3_Flat_Close_j4 (i46 : Int) (l56 : List api_Item) : Option (((List api_Item) × Int) ⊕ (List api_Item)) :=
 some (.inl (l56, IntKind.i64.wrap (i46 + 1)))
noncomputable def tourref3_Flat_Close_l3 (f_1 : List Int) (f_2 : List (Int × (Option (List (Int × (List Int)))))) (l43 : List api_Item) (i46 : Int) : Option (((List api_Item) × Int) ⊕ (List api_Item)) :=
 cnd (decide (i46 < (f_1.length : Int))) ((idx f_1 i46).bind fun x61 =>
 oel ((mget f_2 i46).getD none) (tourref3_Flat_Close_j4 i46 l43) (fun l71 =>
 (tourref3_Listed l71).bind fun x86 =>
 (app 40 l43 ([(api_Item.mk (api_Ent.mk i46 x61) x86)] : List api_Item)).bind fun l104 =>
 tourref3_Flat_Close_j4 i46 l104)) (some (.inr l43))
noncomputable def tourref3_Flat_Close_j1 (f_1 : List Int) (f_2 : List (Int × (Option (List (Int × (List Int)))))) (x2 : List Int) (l19 : List api_Kind) : Option ((List api_Kind) × (List Int) × (List api_Item)) :=
 (loop (σ := (List api_Item) × Int) (ρ := (List api_Item)) (fun s_ => tourref3_Flat_Close_l3 f_1 f_2 s_.1 s_.2) (([] : List api_Item), 0)).bind (fun e_ => tourref3_Flat_Close_j2 l19 x2 e_)
noncomputable def tourref3_Flat_Close_j6 (i201 : Int) (l207 : List api_Kind) : Option (((List api_Kind) × Int) ⊕ (List api_Kind)) :=
 some (.inl (l207, IntKind.i64.wrap (i201 + 1)))
noncomputable def tourref3_Flat_Close_l5 (f_0 : List api_Kind) (l196 : List api_Kind) (i201 : Int) : Option (((List api_Kind) × Int) ⊕ (List api_Kind)) :=
 cnd (decide (i201 < (f_0.length : Int))) ((idx f_0 i201).bind fun x212 =>
 (slices_Clone_api_Field_api_Field x212.Fields).bind fun x227 =>
 (app 40 l196 ([(api_Kind.mk x212.Name x227)] : List api_Kind)).bind fun l239 =>
 tourref3_Flat_Close_j6 i201 l239) (some (.inr l196))
noncomputable def tourref3_Flat_Close (f_0 : List api_Kind) (f_1 : List Int) (f_2 : List (Int × (Option (List (Int × (List Int)))))) : Option ((List api_Kind) × (List Int) × (List api_Item)) :=
 (slices_Clone_int_int f_1).bind fun x2 =>
 (loop (σ := (List api_Kind) × Int) (ρ := (List api_Kind)) (fun s_ => tourref3_Flat_Close_l5 f_0 s_.1 s_.2) (([] : List api_Kind), 0)).bind (fun e_ => tourref3_Flat_Close_j1 f_1 f_2 x2 e_)
noncomputable def slices_Equal_api_Field_api_Field_j1 : Option Bool :=
 some true
noncomputable def slices_Equal_api_Field_api_Field_l2 (s1_1 : List api_Field) (s2_1 : List api_Field) (i2 : Int) : Option (Int ⊕ (Bool ⊕ Unit)) :=
 cnd (decide (i2 < (s1_1.length : Int))) ((idx s1_1 i2).bind fun x4 =>
 (idx s2_1 i2).bind fun x15 =>
 cnd (!(x4.Name.toList == x15.Name.toList && (x4.Bits == x15.Bits && (x4.Low == x15.Low)))) (some (.inr (.inl false))) (some (.inl (IntKind.i64.wrap (i2 + 1))))) (some (.inr (.inr ())))
noncomputable def slices_Equal_api_Field_api_Field (s1_1 : List api_Field) (s2_1 : List api_Field) : Option Bool :=
 cnd (!((s1_1.length : Int) == (s2_1.length : Int))) (some false) ((loop (σ := Int) (ρ := (Bool ⊕ Unit)) (fun s_ => slices_Equal_api_Field_api_Field_l2 s1_1 s2_1 s_) 0).bind (Sum.elim (fun e_ => some e_) (fun e_ => slices_Equal_api_Field_api_Field_j1)))
noncomputable def tourref3_SameKind_j1 (t3 : Bool) : Option Bool :=
 some t3
noncomputable def tourref3_SameKind (a_0 : ByteArray) (a_1 : List api_Field) (b_0 : ByteArray) (b_1 : List api_Field) : Option Bool :=
 cnd (a_0.toList == b_0.toList) ((slices_Equal_api_Field_api_Field a_1 b_1).bind fun x5 =>
 tourref3_SameKind_j1 x5) (tourref3_SameKind_j1 false)
noncomputable def slices_EqualFunc_api_Kind_api_Kind_api_Kind_api_Kind_j1 : Option Bool :=
 some true
noncomputable def slices_EqualFunc_api_Kind_api_Kind_api_Kind_api_Kind_l2 (s1_1 : List api_Kind) (s2_1 : List api_Kind) (i2 : Int) : Option (Int ⊕ (Bool ⊕ Unit)) :=
 cnd (decide (i2 < (s1_1.length : Int))) ((idx s1_1 i2).bind fun x4 =>
 (idx s2_1 i2).bind fun x19 =>
 (tourref3_SameKind x4.Name x4.Fields x19.Name x19.Fields).bind fun x34 =>
 cnd (!x34) (some (.inr (.inl false))) (some (.inl (IntKind.i64.wrap (i2 + 1))))) (some (.inr (.inr ())))
noncomputable def slices_EqualFunc_api_Kind_api_Kind_api_Kind_api_Kind (s1_1 : List api_Kind) (s2_1 : List api_Kind) : Option Bool :=
 cnd (!((s1_1.length : Int) == (s2_1.length : Int))) (some false) ((loop (σ := Int) (ρ := (Bool ⊕ Unit)) (fun s_ => slices_EqualFunc_api_Kind_api_Kind_api_Kind_api_Kind_l2 s1_1 s2_1 s_) 0).bind (Sum.elim (fun e_ => some e_) (fun e_ => slices_EqualFunc_api_Kind_api_Kind_api_Kind_api_Kind_j1)))
noncomputable def tourref3_SameComp_j1 (t3 : Bool) : Option Bool :=
 some t3
noncomputable def tourref3_SameComp (a_0 : Int) (a_1 : List Int) (b_0 : Int) (b_1 : List Int) : Option Bool :=
 cnd (a_0 == b_0) ((slices_Equal_int_int a_1 b_1).bind fun x5 =>
 tourref3_SameComp_j1 x5) (tourref3_SameComp_j1 false)
noncomputable def slices_EqualFunc_api_Comp_api_Comp_api_Comp_api_Comp_j1 : Option Bool :=
 some true
noncomputable def slices_EqualFunc_api_Comp_api_Comp_api_Comp_api_Comp_l2 (s1_1 : List api_Comp) (s2_1 : List api_Comp) (i2 : Int) : Option (Int ⊕ (Bool ⊕ Unit)) :=
 cnd (decide (i2 < (s1_1.length : Int))) ((idx s1_1 i2).bind fun x4 =>
 (idx s2_1 i2).bind fun x19 =>
 (tourref3_SameComp x4.Kind x4.Vals x19.Kind x19.Vals).bind fun x34 =>
 cnd (!x34) (some (.inr (.inl false))) (some (.inl (IntKind.i64.wrap (i2 + 1))))) (some (.inr (.inr ())))
noncomputable def slices_EqualFunc_api_Comp_api_Comp_api_Comp_api_Comp (s1_1 : List api_Comp) (s2_1 : List api_Comp) : Option Bool :=
 cnd (!((s1_1.length : Int) == (s2_1.length : Int))) (some false) ((loop (σ := Int) (ρ := (Bool ⊕ Unit)) (fun s_ => slices_EqualFunc_api_Comp_api_Comp_api_Comp_api_Comp_l2 s1_1 s2_1 s_) 0).bind (Sum.elim (fun e_ => some e_) (fun e_ => slices_EqualFunc_api_Comp_api_Comp_api_Comp_api_Comp_j1)))
noncomputable def tourref3_SameItem_j1 (t3 : Bool) : Option Bool :=
 some t3
noncomputable def tourref3_SameItem (a_0 : Int) (a_1 : Int) (a_2 : List api_Comp) (b_0 : Int) (b_1 : Int) (b_2 : List api_Comp) : Option Bool :=
 cnd (a_0 == b_0 && (a_1 == b_1)) ((slices_EqualFunc_api_Comp_api_Comp_api_Comp_api_Comp a_2 b_2).bind fun x5 =>
 tourref3_SameItem_j1 x5) (tourref3_SameItem_j1 false)
noncomputable def slices_EqualFunc_api_Item_api_Item_api_Item_api_Item_j1 : Option Bool :=
 some true
noncomputable def slices_EqualFunc_api_Item_api_Item_api_Item_api_Item_l2 (s1_1 : List api_Item) (s2_1 : List api_Item) (i2 : Int) : Option (Int ⊕ (Bool ⊕ Unit)) :=
 cnd (decide (i2 < (s1_1.length : Int))) ((idx s1_1 i2).bind fun x4 =>
 (idx s2_1 i2).bind fun x19 =>
 (tourref3_SameItem x4.Ent.N x4.Ent.Gen x4.Comps x19.Ent.N x19.Ent.Gen x19.Comps).bind fun x34 =>
 cnd (!x34) (some (.inr (.inl false))) (some (.inl (IntKind.i64.wrap (i2 + 1))))) (some (.inr (.inr ())))
noncomputable def slices_EqualFunc_api_Item_api_Item_api_Item_api_Item (s1_1 : List api_Item) (s2_1 : List api_Item) : Option Bool :=
 cnd (!((s1_1.length : Int) == (s2_1.length : Int))) (some false) ((loop (σ := Int) (ρ := (Bool ⊕ Unit)) (fun s_ => slices_EqualFunc_api_Item_api_Item_api_Item_api_Item_l2 s1_1 s2_1 s_) 0).bind (Sum.elim (fun e_ => some e_) (fun e_ => slices_EqualFunc_api_Item_api_Item_api_Item_api_Item_j1)))
noncomputable def tourref3_SameWorld_j1 (t3 : Bool) : Option Bool :=
 some t3
noncomputable def tourref3_SameWorld (a_0 : List api_Kind) (a_1 : List Int) (a_2 : List api_Item) (b_0 : List api_Kind) (b_1 : List Int) (b_2 : List api_Item) : Option Bool :=
 (slices_EqualFunc_api_Kind_api_Kind_api_Kind_api_Kind a_0 b_0).bind fun x4 =>
 cnd x4 ((slices_Equal_int_int a_1 b_1).bind fun x7 =>
 cnd x7 ((slices_EqualFunc_api_Item_api_Item_api_Item_api_Item a_2 b_2).bind fun x10 =>
 tourref3_SameWorld_j1 x10) (tourref3_SameWorld_j1 false)) (tourref3_SameWorld_j1 false)
noncomputable def tourref3_Open_j3 (l18 : List api_Kind) (x7 : List Int) (l25 : List (Int × (Option (List (Int × (List Int)))))) (w_0 : List api_Kind) (w_1 : List Int) (w_2 : List api_Item) : Option (Int ⊕ (List api_Kind) × (List Int) × (List (Int × (Option (List (Int × (List Int))))))) :=
 bnd3 (tourref3_Flat_Close l18 x7 l25) fun x34 x35 x36 =>
 (tourref3_SameWorld x34 x35 x36 w_0 w_1 w_2).bind fun x60 =>
 cnd (!x60) (some (.inl 3)) (some (.inr (l18, x7, l25)))
noncomputable def tourref3_Open_j5 (i63 : Int) : Option (Int ⊕ (Int ⊕ Unit)) :=
 some (.inl (IntKind.i64.wrap (i63 + 1)))
noncomputable def tourref3_Open_l4 (x7 : List Int) (l25 : List (Int × (Option (List (Int × (List Int)))))) (i63 : Int) : Option (Int ⊕ (Int ⊕ Unit)) :=
 cnd (decide (i63 < (x7.length : Int))) ((idx x7 i63).bind fun x65 =>
 cnd (decide (x65 < 0)) (some (.inr (.inl 3))) (cnd (decide (1073741824 < x65)) (some (.inr (.inl 3))) (cnd (x65 == 1073741824) (oel ((mget l25 i63).getD none) (tourref3_Open_j5 i63) (fun l78 =>
 some (.inr (.inl 3)))) (tourref3_Open_j5 i63)))) (some (.inr (.inr ())))
noncomputable def tourref3_Open_j2 (x7 : List Int) (l18 : List api_Kind) (w_0 : List api_Kind) (w_1 : List Int) (w_2 : List api_Item) (l25 : List (Int × (Option (List (Int × (List Int)))))) : Option (Int ⊕ (List api_Kind) × (List Int) × (List (Int × (Option (List (Int × (List Int))))))) :=
 (loop (σ := Int) (ρ := (Int ⊕ Unit)) (fun s_ => tourref3_Open_l4 x7 l25 s_) 0).bind (Sum.elim (fun e_ => some (.inl e_)) (fun e_ => tourref3_Open_j3 l18 x7 l25 w_0 w_1 w_2))
noncomputable def tourref3_Open_j7 (i101 : Int) (l107 : List (Int × (Option (List (Int × (List Int)))))) : Option (((List (Int × (Option (List (Int × (List Int)))))) × Int) ⊕ (Int ⊕ (List (Int × (Option (List (Int × (List Int)))))))) :=
 some (.inl (l107, IntKind.i64.wrap (i101 + 1)))
noncomputable def tourref3_Open_l6 (w_2 : List api_Item) (w_0 : List api_Kind) (x7 : List Int) (l98 : List (Int × (Option (List (Int × (List Int)))))) (i101 : Int) : Option (((List (Int × (Option (List (Int × (List Int)))))) × Int) ⊕ (Int ⊕ (List (Int × (Option (List (Int × (List Int)))))))) :=
 cnd (decide (i101 < (w_2.length : Int))) ((idx w_2 i101).bind fun x112 =>
 (tourref3_FittedAll w_0 x112.Comps).bind (Sum.elim (fun x129 =>
 cnd (decide (x112.Ent.N < 0)) (some (.inr (.inl 3))) (cnd (decide ((x7.length : Int) ≤ x112.Ent.N)) (some (.inr (.inl 3))) ((some (mput l98 x112.Ent.N (some x129))).bind fun l140 =>
 tourref3_Open_j7 i101 l140))) (fun x130 =>
 cnd (!(x130 == 0)) (some (.inr (.inl 3))) (cnd (decide (x112.Ent.N < 0)) (some (.inr (.inl 3))) (cnd (decide ((x7.length : Int) ≤ x112.Ent.N)) (some (.inr (.inl 3))) ((some (mput l98 x112.Ent.N none)).bind fun l154 =>
 tourref3_Open_j7 i101 l154)))))) (some (.inr (.inr l98)))
noncomputable def tourref3_Open_j1 (w_2 : List api_Item) (w_0 : List api_Kind) (x7 : List Int) (w_1 : List Int) (l18 : List api_Kind) : Option (Int ⊕ (List api_Kind) × (List Int) × (List (Int × (Option (List (Int × (List Int))))))) :=
 (loop (σ := (List (Int × (Option (List (Int × (List Int)))))) × Int) (ρ := (Int ⊕ (List (Int × (Option (List (Int × (List Int)))))))) (fun s_ => tourref3_Open_l6 w_2 w_0 x7 s_.1 s_.2) (([] : List (Int × (Option (List (Int × (List Int)))))), 0)).bind (Sum.elim (fun e_ => some (.inl e_)) (fun e_ => tourref3_Open_j2 x7 l18 w_0 w_1 w_2 e_))
noncomputable def tourref3_Open_j9 (i171 : Int) (l177 : List api_Kind) : Option (((List api_Kind) × Int) ⊕ (List api_Kind)) :=
 some (.inl (l177, IntKind.i64.wrap (i171 + 1)))
noncomputable def tourref3_Open_l8 (w_0 : List api_Kind) (l168 : List api_Kind) (i171 : Int) : Option (((List api_Kind) × Int) ⊕ (List api_Kind)) :=
 cnd (decide (i171 < (w_0.length : Int))) ((idx w_0 i171).bind fun x182 =>
 (slices_Clone_api_Field_api_Field x182.Fields).bind fun x197 =>
 (app 40 l168 ([(api_Kind.mk x182.Name x197)] : List api_Kind)).bind fun l209 =>
 tourref3_Open_j9 i171 l209) (some (.inr l168))
noncomputable def tourref3_Open (w_0 : List api_Kind) (w_1 : List Int) (w_2 : List api_Item) : Option (Int ⊕ (List api_Kind) × (List Int) × (List (Int × (Option (List (Int × (List Int))))))) :=
 (tourref3_KindsError w_0).bind fun x2 =>
 cnd (!(x2 == 0)) (some (.inl x2)) (cnd (decide (256 < (w_1.length : Int))) (some (.inl 2)) (cnd (decide ((w_1.length : Int) < (w_2.length : Int))) (some (.inl 2)) ((slices_Clone_int_int w_1).bind fun x7 =>
 (loop (σ := (List api_Kind) × Int) (ρ := (List api_Kind)) (fun s_ => tourref3_Open_l8 w_0 s_.1 s_.2) (([] : List api_Kind), 0)).bind (fun e_ => tourref3_Open_j1 w_2 w_0 x7 w_1 e_))))
noncomputable def tourref3_Flat_Has (e_0 : Int) (e_1 : Int) : Option Unit :=
 cnd (decide (0 ≤ e_0)) (none) (some ())
noncomputable def tourref3_Flat_Kill (e_0 : Int) (e_1 : Int) : Option Unit :=
 (tourref3_Flat_Has e_0 e_1).bind fun _ =>
 some ()
noncomputable def tourlaw3_WorldChanges_2 (p1_0 : Int) (p1_1 : Int) : Option Unit :=
 (tourref3_Flat_Kill p1_0 p1_1).bind fun _ =>
 some ()
noncomputable def tourlaw3_same (w_0 : List api_Kind) (w_1 : List Int) (w_2 : List api_Item) (e_1 : Int) : Option Bool :=
 cnd (!(e_1 == 0)) ((tourref3_SameWorld w_0 w_1 w_2 [] [] []).bind fun x3 =>
 some x3) (none)
noncomputable def tourref3_Flat_Has_v2_j1 (t2 : Bool) : Option Bool :=
 some t2
noncomputable def tourref3_Flat_Has_v2 (f_0 : List api_Kind) (f_1 : List Int) (f_2 : List (Int × (Option (List (Int × (List Int)))))) (e_0 : Int) (e_1 : Int) : Option Bool :=
 cnd (decide (0 ≤ e_0)) (cnd (decide (e_0 < (f_1.length : Int))) (oel ((mget f_2 e_0).getD none) (tourref3_Flat_Has_v2_j1 false) (fun l9 =>
 (idx f_1 e_0).bind fun x24 =>
 tourref3_Flat_Has_v2_j1 (x24 == e_1))) (tourref3_Flat_Has_v2_j1 false)) (tourref3_Flat_Has_v2_j1 false)
noncomputable def tourref3_Flat_Kill_v2 (f_0 : List api_Kind) (f_1 : List Int) (f_2 : List (Int × (Option (List (Int × (List Int)))))) (e_0 : Int) (e_1 : Int) : Option (Int × (List Int) × (List (Int × (Option (List (Int × (List Int))))))) :=
 (tourref3_Flat_Has_v2 f_0 f_1 f_2 e_0 e_1).bind fun x2 =>
 cnd (!x2) (some (4, f_1, f_2)) ((some (mdel f_2 e_0)).bind fun l12 =>
 (idx f_1 e_0).bind fun x20 =>
 (idx f_1 e_0).bind fun x30 =>
 (upd f_1 e_0 (IntKind.i64.wrap (x20 + 1))).bind fun l39 =>
 some (0, l39, l12))
noncomputable def tourlaw3_WorldChanges_2_v2 (p_0 : List api_Kind) (p_1 : List Int) (p_2 : List (Int × (Option (List (Int × (List Int)))))) (p1_0 : Int) (p1_1 : Int) : Option (Int × (List Int) × (List (Int × (Option (List (Int × (List Int))))))) :=
 bnd3 (tourref3_Flat_Kill_v2 p_0 p_1 p_2 p1_0 p1_1) fun x1 x2 x3 =>
 some (x1, x2, x3)
noncomputable def tourlaw3_same_v2 (w_0 : List api_Kind) (w_1 : List Int) (w_2 : List api_Item) (f_0 : List api_Kind) (f_1 : List Int) (f_2 : List (Int × (Option (List (Int × (List Int)))))) (e_1 : Int) : Option Bool :=
 cnd (!(e_1 == 0)) ((tourref3_SameWorld w_0 w_1 w_2 [] [] []).bind fun x3 =>
 some x3) (bnd3 (tourref3_Flat_Close f_0 f_1 f_2) fun x5 x6 x7 =>
 (tourref3_SameWorld w_0 w_1 w_2 x5 x6 x7).bind fun x31 =>
 some x31)
noncomputable def world_Fit_1 (o_0 : Int) (o_1 : List Int) (p1_0 : Int) (p1_1 : List Int) : Option Bool :=
 some (o_0 == p1_0)
noncomputable def slices_IndexFunc_api_Comp_api_Comp_j1 : Option Int :=
 some (-1)
noncomputable def slices_IndexFunc_api_Comp_api_Comp_l2 (s : List api_Comp) (f_c0_0 : Int) (f_c0_1 : List Int) (i3 : Int) : Option (Int ⊕ (Int ⊕ Unit)) :=
 cnd (decide (i3 < (s.length : Int))) ((idx s i3).bind fun x5 =>
 (world_Fit_1 x5.Kind x5.Vals f_c0_0 f_c0_1).bind fun x19 =>
 cnd x19 (some (.inr (.inl i3))) (some (.inl (IntKind.i64.wrap (i3 + 1))))) (some (.inr (.inr ())))
noncomputable def slices_IndexFunc_api_Comp_api_Comp (s : List api_Comp) (f_c0_0 : Int) (f_c0_1 : List Int) : Option Int :=
 (loop (σ := Int) (ρ := (Int ⊕ Unit)) (fun s_ => slices_IndexFunc_api_Comp_api_Comp_l2 s f_c0_0 f_c0_1 s_) 0).bind (Sum.elim (fun e_ => some e_) (fun e_ => slices_IndexFunc_api_Comp_api_Comp_j1))
noncomputable def slices_ContainsFunc_api_Comp_api_Comp (s : List api_Comp) (f_c0_0 : Int) (f_c0_1 : List Int) : Option Bool :=
 (slices_IndexFunc_api_Comp_api_Comp s f_c0_0 f_c0_1).bind fun x1 =>
 some (decide (0 ≤ x1))
noncomputable def slices_SortFunc_api_Comp_api_Comp (s_ : List api_Comp) : Option (List api_Comp) := sortBy (fun x => x.Kind) s_
noncomputable def world_Fit_j1 (l6 : List api_Comp) : Option ((List api_Comp) × Int) :=
 (slices_SortFunc_api_Comp_api_Comp l6).bind fun x11 =>
 some (x11, 0)
noncomputable def world_Fit_l2 (l : List api_Comp) (k : List api_Kind) (l18 : List api_Comp) (i21 : Int) : Option (((List api_Comp) × Int) ⊕ (((List api_Comp) × Int) ⊕ (List api_Comp))) :=
 cnd (decide (i21 < (l.length : Int))) ((idx l i21).bind fun x25 =>
 cnd (decide (x25.Kind < 0)) (some (.inr (.inl (([] : List api_Comp), 1)))) (cnd (decide ((k.length : Int) ≤ x25.Kind)) (some (.inr (.inl (([] : List api_Comp), 1)))) ((cut l 0 i21).bind fun l42 =>
 (slices_ContainsFunc_api_Comp_api_Comp l42 x25.Kind x25.Vals).bind fun x53 =>
 cnd x53 (some (.inr (.inl (([] : List api_Comp), 5)))) ((idx k x25.Kind).bind fun x57 =>
 bnd2 (kind_Fit x57.Name x57.Fields x25.Vals) fun x71 x72 =>
 cnd (!(x72 == 0)) (some (.inr (.inl (([] : List api_Comp), x72)))) ((app 32 l18 ([(api_Comp.mk x25.Kind x71)] : List api_Comp)).bind fun l85 =>
 some (.inl (l85, IntKind.i64.wrap (i21 + 1)))))))) (some (.inr (.inr l18)))
noncomputable def world_Fit (k : List api_Kind) (l : List api_Comp) : Option ((List api_Comp) × Int) :=
 (kind_Check k).bind fun x1 =>
 cnd (!(x1 == 0)) (some (([] : List api_Comp), x1)) ((loop (σ := (List api_Comp) × Int) (ρ := (((List api_Comp) × Int) ⊕ (List api_Comp))) (fun s_ => world_Fit_l2 l k s_.1 s_.2) (([] : List api_Comp), 0)).bind (Sum.elim (fun e_ => some (e_.1, e_.2)) (fun e_ => world_Fit_j1 e_)))
noncomputable def slices_Insert_api_Comp_api_Comp (s_ : List api_Comp) (i_ : Int) (v_ : List api_Comp) : Option (List api_Comp) := ins 32 s_ i_ v_
noncomputable def world_Put_j1 (x5 : List api_Kind) (x6 : List Int) (l70 : List api_Item) : Option ((List api_Kind) × (List Int) × (List api_Item) × Int) :=
 some (x5, x6, l70, 0)
noncomputable def world_Put (w_0 : List api_Kind) (w_1 : List Int) (w_2 : List api_Item) (e_0 : Int) (e_1 : Int) (c_0 : Int) (c_1 : List Int) : Option ((List api_Kind) × (List Int) × (List api_Item) × Int) :=
 bnd5 (world_found w_0 w_1 w_2 e_0 e_1) fun x5 x6 x7 x8 x9 =>
 cnd (!(x9 == 0)) (some ([], ([] : List Int), ([] : List api_Item), x9)) (bnd2 (world_Fit x5 ([(api_Comp.mk c_0 c_1)] : List api_Comp)) fun x38 x39 =>
 cnd (!(x39 == 0)) (some ([], ([] : List Int), ([] : List api_Item), x39)) ((idx x7 x8).bind fun x49 =>
 bnd2 (world_at x49.Comps c_0) fun x67 x68 =>
 cnd x68 ((idx x38 0).bind fun x83 =>
 (idx x49.Comps x67).bind fun x96 =>
 (upd x49.Comps x67 x83).bind fun l109 =>
 (upd x7 x8 (api_Item.mk (api_Ent.mk x49.Ent.N x49.Ent.Gen) l109)).bind fun l128 =>
 world_Put_j1 x5 x6 l128) ((idx x38 0).bind fun x135 =>
 (slices_Insert_api_Comp_api_Comp x49.Comps x67 ([x135] : List api_Comp)).bind fun x150 =>
 (upd x7 x8 (api_Item.mk (api_Ent.mk x49.Ent.N x49.Ent.Gen) x150)).bind fun l176 =>
 world_Put_j1 x5 x6 l176)))
noncomputable def tourref3_Flat_Put (e_0 : Int) (e_1 : Int) (c_0 : Int) (c_1 : List Int) : Option Unit :=
 (tourref3_Flat_Has e_0 e_1).bind fun _ =>
 some ()
noncomputable def tourlaw3_WorldChanges_3 (p1_0 : Int) (p1_1 : Int) (p2_0 : Int) (p2_1 : List Int) : Option Unit :=
 (tourref3_Flat_Put p1_0 p1_1 p2_0 p2_1).bind fun _ =>
 some ()
noncomputable def tourref3_Flat_Put_v2 (f_0 : List api_Kind) (f_1 : List Int) (f_2 : List (Int × (Option (List (Int × (List Int)))))) (e_0 : Int) (e_1 : Int) (c_0 : Int) (c_1 : List Int) : Option (Int × (List (Int × (Option (List (Int × (List Int))))))) :=
 (tourref3_Flat_Has_v2 f_0 f_1 f_2 e_0 e_1).bind fun x3 =>
 cnd (!x3) (some (4, f_2)) ((tourref3_FittedAll f_0 ([(api_Comp.mk c_0 c_1)] : List api_Comp)).bind (Sum.elim (fun x21 =>
 (some ((mget x21 c_0).getD ([] : List Int))).bind fun x30 =>
 oel ((mget f_2 e_0).getD none) (none) (fun l38 =>
 (some (mput l38 c_0 x30)).bind fun l53 =>
 (some (mput f_2 e_0 (some l53))).bind fun l62 =>
 some (0, l62))) (fun x22 =>
 cnd (!(x22 == 0)) (some (x22, f_2)) ((some ((mget ((none : Option (List (Int × (List Int)))).getD []) c_0).getD ([] : List Int))).bind fun x69 =>
 oel ((mget f_2 e_0).getD none) (none) (fun l77 =>
 (some (mput l77 c_0 x69)).bind fun l92 =>
 (some (mput f_2 e_0 (some l92))).bind fun l101 =>
 some (0, l101))))))
noncomputable def tourlaw3_WorldChanges_3_v2 (p_0 : List api_Kind) (p_1 : List Int) (p_2 : List (Int × (Option (List (Int × (List Int)))))) (p1_0 : Int) (p1_1 : Int) (p2_0 : Int) (p2_1 : List Int) : Option (Int × (List (Int × (Option (List (Int × (List Int))))))) :=
 bnd2 (tourref3_Flat_Put_v2 p_0 p_1 p_2 p1_0 p1_1 p2_0 p2_1) fun x1 x2 =>
 some (x1, x2)
noncomputable def slices_Delete_api_Comp_api_Comp (s_ : List api_Comp) (i_ : Int) (j_ : Int) : Option (List api_Comp) := del s_ i_ j_
noncomputable def world_Drop (w_0 : List api_Kind) (w_1 : List Int) (w_2 : List api_Item) (e_0 : Int) (e_1 : Int) (k : Int) : Option ((List api_Kind) × (List Int) × (List api_Item) × Int) :=
 bnd5 (world_found w_0 w_1 w_2 e_0 e_1) fun x4 x5 x6 x7 x8 =>
 cnd (!(x8 == 0)) (some (([] : List api_Kind), ([] : List Int), ([] : List api_Item), x8)) ((idx x6 x7).bind fun x27 =>
 bnd2 (world_at x27.Comps k) fun x45 x46 =>
 cnd (!x46) ((upd x6 x7 (api_Item.mk (api_Ent.mk x27.Ent.N x27.Ent.Gen) x27.Comps)).bind fun l52 =>
 some (([] : List api_Kind), ([] : List Int), ([] : List api_Item), 4)) ((slices_Delete_api_Comp_api_Comp x27.Comps x45 (IntKind.i64.wrap (x45 + 1))).bind fun x59 =>
 (upd x6 x7 (api_Item.mk (api_Ent.mk x27.Ent.N x27.Ent.Gen) x59)).bind fun l70 =>
 some (x4, x5, l70, 0)))
noncomputable def tourref3_Flat_Get (e_0 : Int) (e_1 : Int) (k : Int) : Option Unit :=
 (tourref3_Flat_Has e_0 e_1).bind fun _ =>
 some ()
noncomputable def tourref3_Flat_Drop (e_0 : Int) (e_1 : Int) (k : Int) : Option Unit :=
 (tourref3_Flat_Get e_0 e_1 k).bind fun _ =>
 some ()
noncomputable def tourlaw3_WorldChanges_4 (p1_0 : Int) (p1_1 : Int) (p2_0 : Int) : Option Unit :=
 (tourref3_Flat_Drop p1_0 p1_1 p2_0).bind fun _ =>
 some ()
noncomputable def tourref3_Flat_Get_v2 (f_0 : List api_Kind) (f_1 : List Int) (f_2 : List (Int × (Option (List (Int × (List Int)))))) (e_0 : Int) (e_1 : Int) (k : Int) : Option ((List Int) × Int) :=
 (tourref3_Flat_Has_v2 f_0 f_1 f_2 e_0 e_1).bind fun x2 =>
 cnd (!x2) (some (([] : List Int), 4)) (oel ((mget f_2 e_0).getD none) ((some ((mget ((none : Option (List (Int × (List Int)))).getD []) k).getD ([] : List Int))).bind fun x15 =>
 cnd (!((mget ((none : Option (List (Int × (List Int)))).getD []) k).isSome)) (some (([] : List Int), 4)) ((slices_Clone_int_int x15).bind fun x24 =>
 some (x24, 0))) (fun l12 =>
 (some ((mget l12 k).getD ([] : List Int))).bind fun x43 =>
 cnd (!((mget l12 k).isSome)) (some (([] : List Int), 4)) ((slices_Clone_int_int x43).bind fun x55 =>
 some (x55, 0))))
noncomputable def tourref3_Flat_Drop_v2 (f_0 : List api_Kind) (f_1 : List Int) (f_2 : List (Int × (Option (List (Int × (List Int)))))) (e_0 : Int) (e_1 : Int) (k : Int) : Option (Int × (List (Int × (Option (List (Int × (List Int))))))) :=
 bnd2 (tourref3_Flat_Get_v2 f_0 f_1 f_2 e_0 e_1 k) fun x2 x3 =>
 cnd (!(x3 == 0)) (some (x3, f_2)) (oel ((mget f_2 e_0).getD none) (some (0, f_2)) (fun l17 =>
 (some (mdel l17 k)).bind fun l32 =>
 (some (mput f_2 e_0 (some l32))).bind fun l41 =>
 some (0, l41)))
noncomputable def tourlaw3_WorldChanges_4_v2 (p_0 : List api_Kind) (p_1 : List Int) (p_2 : List (Int × (Option (List (Int × (List Int)))))) (p1_0 : Int) (p1_1 : Int) (p2_0 : Int) : Option (Int × (List (Int × (Option (List (Int × (List Int))))))) :=
 bnd2 (tourref3_Flat_Drop_v2 p_0 p_1 p_2 p1_0 p1_1 p2_0) fun x1 x2 =>
 some (x1, x2)
noncomputable def tourlaw3_WorldChanges_j5 (t64 : Bool) : Option Bool :=
 some t64
noncomputable def tourlaw3_WorldChanges_j4 (x48 : Int) (x47 : List Int) (i63 : Int) : Option Bool :=
 cnd (x48 == i63) ((slices_Equal_int_int x47 []).bind fun x66 =>
 tourlaw3_WorldChanges_j5 x66) (tourlaw3_WorldChanges_j5 false)
noncomputable def tourlaw3_WorldChanges_j6 (t100 : Bool) : Option Bool :=
 some t100
noncomputable def tourlaw3_WorldChanges_j3 (w_0 : List api_Kind) (w_1 : List Int) (w_2 : List api_Item) (e_0 : Int) (e_1 : Int) (k : Int) : Option Bool :=
 bnd2 (world_Get w_0 w_1 w_2 e_0 e_1 k) fun x47 x48 =>
 (tourref3_Open w_0 w_1 w_2).bind (Sum.elim (fun x56 =>
 cnd (x56 == 0) ((tourref3_Flat_Get e_0 e_1 k).bind fun _ =>
 tourlaw3_WorldChanges_j4 x48 x47 4) (tourlaw3_WorldChanges_j4 x48 x47 x56)) (un3 fun x57 x58 x59 =>
 bnd2 (tourref3_Flat_Get_v2 x57 x58 x59 e_0 e_1 k) fun x86 x87 =>
 cnd (x48 == x87) ((slices_Equal_int_int x47 x86).bind fun x102 =>
 tourlaw3_WorldChanges_j6 x102) (tourlaw3_WorldChanges_j6 false)))
noncomputable def tourlaw3_WorldChanges_j7 (x108 : Int) (x105 : List api_Kind) (x106 : List Int) (x107 : List api_Item) (w_0 : List api_Kind) (w_1 : List Int) (w_2 : List api_Item) (e_0 : Int) (e_1 : Int) (k : Int) (i135 : Int) : Option Bool :=
 cnd (!(x108 == i135)) (some false) ((tourlaw3_same x105 x106 x107 i135).bind fun x137 =>
 cnd (!x137) (some false) (tourlaw3_WorldChanges_j3 w_0 w_1 w_2 e_0 e_1 k))
noncomputable def tourlaw3_WorldChanges_j2 (w_0 : List api_Kind) (w_1 : List Int) (w_2 : List api_Item) (e_0 : Int) (e_1 : Int) (k : Int) : Option Bool :=
 bnd4 (world_Drop w_0 w_1 w_2 e_0 e_1 k) fun x105 x106 x107 x108 =>
 (tourref3_Open w_0 w_1 w_2).bind (Sum.elim (fun x128 =>
 cnd (x128 == 0) ((tourlaw3_WorldChanges_4 e_0 e_1 k).bind fun _ =>
 tourlaw3_WorldChanges_j7 x108 x105 x106 x107 w_0 w_1 w_2 e_0 e_1 k 4) (tourlaw3_WorldChanges_j7 x108 x105 x106 x107 w_0 w_1 w_2 e_0 e_1 k x128)) (un3 fun x129 x130 x131 =>
 bnd2 (tourlaw3_WorldChanges_4_v2 x129 x130 x131 e_0 e_1 k) fun x158 x159 =>
 cnd (!(x108 == x158)) (some false) ((tourlaw3_same_v2 x105 x106 x107 x129 x130 x159 x158).bind fun x181 =>
 cnd (!x181) (some false) (tourlaw3_WorldChanges_j3 w_0 w_1 w_2 e_0 e_1 k))))
noncomputable def tourlaw3_WorldChanges_j8 (x198 : Int) (x195 : List api_Kind) (x196 : List Int) (x197 : List api_Item) (w_0 : List api_Kind) (w_1 : List Int) (w_2 : List api_Item) (e_0 : Int) (e_1 : Int) (k : Int) (i225 : Int) : Option Bool :=
 cnd (!(x198 == i225)) (some false) ((tourlaw3_same x195 x196 x197 i225).bind fun x227 =>
 cnd (!x227) (some false) (tourlaw3_WorldChanges_j2 w_0 w_1 w_2 e_0 e_1 k))
noncomputable def tourlaw3_WorldChanges_j1 (w_0 : List api_Kind) (w_1 : List Int) (w_2 : List api_Item) (e_0 : Int) (e_1 : Int) (c_0 : Int) (c_1 : List Int) (k : Int) : Option Bool :=
 bnd4 (world_Put w_0 w_1 w_2 e_0 e_1 c_0 c_1) fun x195 x196 x197 x198 =>
 (tourref3_Open w_0 w_1 w_2).bind (Sum.elim (fun x217 =>
 cnd (x217 == 0) ((tourlaw3_WorldChanges_3 e_0 e_1 c_0 c_1).bind fun _ =>
 tourlaw3_WorldChanges_j8 x198 x195 x196 x197 w_0 w_1 w_2 e_0 e_1 k 4) (tourlaw3_WorldChanges_j8 x198 x195 x196 x197 w_0 w_1 w_2 e_0 e_1 k x217)) (un3 fun x218 x219 x220 =>
 bnd2 (tourlaw3_WorldChanges_3_v2 x218 x219 x220 e_0 e_1 c_0 c_1) fun x249 x250 =>
 cnd (!(x198 == x249)) (some false) ((tourlaw3_same_v2 x195 x196 x197 x218 x219 x250 x249).bind fun x272 =>
 cnd (!x272) (some false) (tourlaw3_WorldChanges_j2 w_0 w_1 w_2 e_0 e_1 k))))
noncomputable def tourlaw3_WorldChanges_j9 (x289 : Int) (x286 : List api_Kind) (x287 : List Int) (x288 : List api_Item) (w_0 : List api_Kind) (w_1 : List Int) (w_2 : List api_Item) (e_0 : Int) (e_1 : Int) (c_0 : Int) (c_1 : List Int) (k : Int) (i316 : Int) : Option Bool :=
 cnd (!(x289 == i316)) (some false) ((tourlaw3_same x286 x287 x288 i316).bind fun x318 =>
 cnd (!x318) (some false) (tourlaw3_WorldChanges_j1 w_0 w_1 w_2 e_0 e_1 c_0 c_1 k))
noncomputable def tourlaw3_WorldChanges (w_0 : List api_Kind) (w_1 : List Int) (w_2 : List api_Item) (e_0 : Int) (e_1 : Int) (c_0 : Int) (c_1 : List Int) (k : Int) : Option Bool :=
 bnd3 (tourlaw3_pair) fun x5 x6 x7 =>
 bnd2 (world_Get x5 x6 x7 0 0 1) fun x21 x22 =>
 cnd (!(x22 == 0)) (some false) ((slices_Equal_int_int x21 ([9] : List Int)).bind fun x31 =>
 cnd (!x31) (some false) ((world_Find w_0 w_1 w_2 e_0 e_1).bind fun x34 =>
 (slices_IndexFunc_api_Item_api_Item_v2 w_2 e_0 e_1).bind fun x36 =>
 cnd (!(x34 == x36)) (some false) (bnd4 (world_Kill w_0 w_1 w_2 e_0 e_1) fun x286 x287 x288 x289 =>
 (tourref3_Open w_0 w_1 w_2).bind (Sum.elim (fun x309 =>
 cnd (x309 == 0) ((tourlaw3_WorldChanges_2 e_0 e_1).bind fun _ =>
 tourlaw3_WorldChanges_j9 x289 x286 x287 x288 w_0 w_1 w_2 e_0 e_1 c_0 c_1 k 4) (tourlaw3_WorldChanges_j9 x289 x286 x287 x288 w_0 w_1 w_2 e_0 e_1 c_0 c_1 k x309)) (un3 fun x310 x311 x312 =>
 bnd3 (tourlaw3_WorldChanges_2_v2 x310 x311 x312 e_0 e_1) fun x339 x340 x341 =>
 cnd (!(x289 == x339)) (some false) ((tourlaw3_same_v2 x286 x287 x288 x310 x340 x341 x339).bind fun x363 =>
 cnd (!x363) (some false) (tourlaw3_WorldChanges_j1 w_0 w_1 w_2 e_0 e_1 c_0 c_1 k)))))))
end Go.Proofs.YtbfndcookgijfaaGreatDoor.C
