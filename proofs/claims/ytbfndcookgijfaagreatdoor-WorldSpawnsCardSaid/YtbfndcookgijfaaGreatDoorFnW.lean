/- The Go functions as plain functions over Option. No condition. -/
import Derived.Test.YtbfndcookgijfaaGreatDoorTyW
import Derived.Test.YtbfndcookgijfaaGreatDoorExIns
import Derived.Test.YtbfndcookgijfaaGreatDoorExMap
import Derived.Test.YtbfndcookgijfaaGreatDoorExSortF
namespace Go.Proofs.YtbfndcookgijfaaGreatDoor.W
open Go Go.RowKit Go.Proofs.YtbfndcookgijfaaGreatDoor.Sx
set_option linter.unusedVariables false
noncomputable def tourlaw3_two : Option ((List api_Kind)) :=
 some ([(api_Kind.mk (⟨#[112, 108, 97, 99, 101]⟩) ([(api_Field.mk (⟨#[120]⟩) 3 (-2))] : List api_Field)), (api_Kind.mk (⟨#[108, 105, 102, 101]⟩) ([(api_Field.mk (⟨#[120]⟩) 8 0)] : List api_Field))] : List api_Kind)
noncomputable def tourlaw3_pair : Option ((List api_Kind) × (List Int) × (List api_Item)) :=
 (tourlaw3_two).bind fun x2 =>
 some (x2, ([0, 2] : List Int), ([(api_Item.mk (api_Ent.mk 0 0) ([(api_Comp.mk 0 ([4] : List Int)), (api_Comp.mk 1 ([9] : List Int))] : List api_Comp)), (api_Item.mk (api_Ent.mk 1 2) ([(api_Comp.mk 1 ([7] : List Int))] : List api_Comp))] : List api_Item))
noncomputable def kind_Name_j1 : Option Bool :=
 some true
noncomputable def kind_Name_j3 (i3 : Int) : Option (Int ⊕ (Bool ⊕ Unit)) :=
 some (.inl (IntKind.i64.wrap (i3 + 1)))
noncomputable def kind_Name_l2 (s : ByteArray) (i3 : Int) : Option (Int ⊕ (Bool ⊕ Unit)) :=
 cnd (decide (i3 < (s.size : Int))) ((sidx s i3).bind fun x5 =>
 cnd (decide (97 ≤ x5)) (cnd (decide (x5 ≤ 122)) (kind_Name_j3 i3) (cnd (decide (0 < i3)) (cnd (decide (48 ≤ x5)) (cnd (!(decide (x5 ≤ 57))) (some (.inr (.inl false))) (kind_Name_j3 i3)) (some (.inr (.inl false)))) (some (.inr (.inl false))))) (cnd (decide (0 < i3)) (cnd (decide (48 ≤ x5)) (cnd (!(decide (x5 ≤ 57))) (some (.inr (.inl false))) (kind_Name_j3 i3)) (some (.inr (.inl false)))) (some (.inr (.inl false))))) (some (.inr (.inr ())))
noncomputable def kind_Name (s : ByteArray) : Option Bool :=
 cnd ((s.size : Int) == 0) (some false) (cnd (decide (16 < (s.size : Int))) (some false) ((loop (σ := Int) (ρ := (Bool ⊕ Unit)) (fun s_ => kind_Name_l2 s s_) 0).bind (Sum.elim (fun e_ => some e_) (fun e_ => kind_Name_j1))))
noncomputable def kind_field (f_0 : ByteArray) (f_1 : Int) (f_2 : Int) : Option Int :=
 (kind_Name f_0).bind fun x2 =>
 cnd (!x2) (some 3) (cnd (decide (f_1 < 1)) (some 3) (cnd (decide (32 < f_1)) (some 3) (cnd (decide (f_2 < (-4294967296))) (some 3) (cnd (decide (4294967296 < f_2)) (some 3) (some 0)))))
noncomputable def kind_One_j1 : Option Int :=
 some 0
noncomputable def kind_One_j3 (i6 : Int) : Option (Int ⊕ (Int ⊕ Unit)) :=
 some (.inl (IntKind.i64.wrap (i6 + 1)))
noncomputable def kind_One_l4 (l23 : List api_Field) (x8 : api_Field) (i34 : Int) : Option (Int ⊕ (Int ⊕ Unit)) :=
 cnd (decide (i34 < (l23.length : Int))) ((idx l23 i34).bind fun x36 =>
 cnd (x36.Name.toList == x8.Name.toList) (some (.inr (.inl 5))) (some (.inl (IntKind.i64.wrap (i34 + 1))))) (some (.inr (.inr ())))
noncomputable def kind_One_l2 (k_1 : List api_Field) (i6 : Int) : Option (Int ⊕ (Int ⊕ Unit)) :=
 cnd (decide (i6 < (k_1.length : Int))) ((idx k_1 i6).bind fun x8 =>
 (kind_field x8.Name x8.Bits x8.Low).bind fun x20 =>
 cnd (!(x20 == 0)) (some (.inr (.inl x20))) ((cut k_1 0 i6).bind fun l23 =>
 (loop (σ := Int) (ρ := (Int ⊕ Unit)) (fun s_ => kind_One_l4 l23 x8 s_) 0).bind (Sum.elim (fun e_ => some (.inr (.inl e_))) (fun e_ => kind_One_j3 i6)))) (some (.inr (.inr ())))
noncomputable def kind_One (k_0 : ByteArray) (k_1 : List api_Field) : Option Int :=
 (kind_Name k_0).bind fun x2 =>
 cnd (!x2) (some 3) (cnd (decide (8 < (k_1.length : Int))) (some 2) ((loop (σ := Int) (ρ := (Int ⊕ Unit)) (fun s_ => kind_One_l2 k_1 s_) 0).bind (Sum.elim (fun e_ => some e_) (fun e_ => kind_One_j1))))
noncomputable def kind_Find_j1 : Option Int :=
 some (-1)
noncomputable def kind_Find_l2 (l : List api_Kind) (name : ByteArray) (i1 : Int) : Option (Int ⊕ (Int ⊕ Unit)) :=
 cnd (decide (i1 < (l.length : Int))) ((idx l i1).bind fun x3 =>
 cnd (x3.Name.toList == name.toList) (some (.inr (.inl i1))) (some (.inl (IntKind.i64.wrap (i1 + 1))))) (some (.inr (.inr ())))
noncomputable def kind_Find (l : List api_Kind) (name : ByteArray) : Option Int :=
 (loop (σ := Int) (ρ := (Int ⊕ Unit)) (fun s_ => kind_Find_l2 l name s_) 0).bind (Sum.elim (fun e_ => some e_) (fun e_ => kind_Find_j1))
noncomputable def kind_Check_j1 : Option Int :=
 some 0
noncomputable def kind_Check_l2 (l : List api_Kind) (i2 : Int) : Option (Int ⊕ (Int ⊕ Unit)) :=
 cnd (decide (i2 < (l.length : Int))) ((idx l i2).bind fun x4 =>
 (kind_One x4.Name x4.Fields).bind fun x19 =>
 cnd (!(x19 == 0)) (some (.inr (.inl x19))) ((cut l 0 i2).bind fun l22 =>
 (kind_Find l22 x4.Name).bind fun x33 =>
 cnd (decide (0 ≤ x33)) (some (.inr (.inl 5))) (some (.inl (IntKind.i64.wrap (i2 + 1)))))) (some (.inr (.inr ())))
noncomputable def kind_Check (l : List api_Kind) : Option Int :=
 cnd (decide (16 < (l.length : Int))) (some 2) ((loop (σ := Int) (ρ := (Int ⊕ Unit)) (fun s_ => kind_Check_l2 l s_) 0).bind (Sum.elim (fun e_ => some e_) (fun e_ => kind_Check_j1)))
noncomputable def kind_High (f_0 : ByteArray) (f_1 : Int) (f_2 : Int) : Option Int :=
 (kind_field f_0 f_1 f_2).bind fun x2 =>
 cnd (!(x2 == 0)) (some 0) ((shl .i64 1 f_1).bind fun x5 =>
 some (IntKind.i64.wrap (f_2 + IntKind.i64.wrap (x5 - 1))))
noncomputable def kind_Near (f_0 : ByteArray) (f_1 : Int) (f_2 : Int) (v : Int) : Option Int :=
 (kind_field f_0 f_1 f_2).bind fun x2 =>
 cnd (!(x2 == 0)) (some 0) ((kind_High f_0 f_1 f_2).bind fun x5 =>
 some (max f_2 (min v x5)))
noncomputable def kind_Fit_j1 (l17 : List Int) : Option ((List Int) × Int) :=
 some (l17, 0)
noncomputable def kind_Fit_l2 (k_1 : List api_Field) (vals : List Int) (l20 : List Int) (i23 : Int) : Option (((List Int) × Int) ⊕ (List Int)) :=
 cnd (decide (i23 < (k_1.length : Int))) ((idx k_1 i23).bind fun x25 =>
 (idx vals i23).bind fun x37 =>
 (kind_Near x25.Name x25.Bits x25.Low x37).bind fun x48 =>
 (idx l20 i23).bind fun x50 =>
 (upd l20 i23 x48).bind fun l59 =>
 some (.inl (l59, IntKind.i64.wrap (i23 + 1)))) (some (.inr l20))
noncomputable def kind_Fit (k_0 : ByteArray) (k_1 : List api_Field) (vals : List Int) : Option ((List Int) × Int) :=
 (kind_One k_0 k_1).bind fun x2 =>
 cnd (!(x2 == 0)) (some (([] : List Int), x2)) (cnd (!((vals.length : Int) == (k_1.length : Int))) (some (([] : List Int), 1)) ((mk 8 (vals.length : Int) (0 : Int)).bind fun l6 =>
 (loop (σ := (List Int) × Int) (ρ := (List Int)) (fun s_ => kind_Fit_l2 k_1 vals s_.1 s_.2) (l6, 0)).bind (fun e_ => kind_Fit_j1 e_)))
noncomputable def kind_Holds_j1 : Option Bool :=
 some true
noncomputable def kind_Holds_l2 (x2 : List Int) (vals : List Int) (i10 : Int) : Option (Int ⊕ (Bool ⊕ Unit)) :=
 cnd (decide (i10 < (x2.length : Int))) ((idx x2 i10).bind fun x12 =>
 (idx vals i10).bind fun x22 =>
 cnd (!(x12 == x22)) (some (.inr (.inl false))) (some (.inl (IntKind.i64.wrap (i10 + 1))))) (some (.inr (.inr ())))
noncomputable def kind_Holds (k_0 : ByteArray) (k_1 : List api_Field) (vals : List Int) : Option Bool :=
 bnd2 (kind_Fit k_0 k_1 vals) fun x2 x3 =>
 cnd (!(x3 == 0)) (some false) ((loop (σ := Int) (ρ := (Bool ⊕ Unit)) (fun s_ => kind_Holds_l2 x2 vals s_) 0).bind (Sum.elim (fun e_ => some e_) (fun e_ => kind_Holds_j1)))
noncomputable def world_held_j1 : Option Bool :=
 some true
noncomputable def world_held_l2 (l : List api_Comp) (k : List api_Kind) (i1 : Int) (i2 : Int) : Option ((Int × Int) ⊕ (Bool ⊕ Unit)) :=
 cnd (decide (i2 < (l.length : Int))) ((idx l i2).bind fun x4 =>
 cnd (decide (x4.Kind ≤ i1)) (some (.inr (.inl false))) (cnd (decide ((k.length : Int) ≤ x4.Kind)) (some (.inr (.inl false))) ((idx k x4.Kind).bind fun x21 =>
 (kind_Holds x21.Name x21.Fields x4.Vals).bind fun x35 =>
 cnd (!x35) (some (.inr (.inl false))) (some (.inl (x4.Kind, IntKind.i64.wrap (i2 + 1))))))) (some (.inr (.inr ())))
noncomputable def world_held (k : List api_Kind) (l : List api_Comp) : Option Bool :=
 (loop (σ := Int × Int) (ρ := (Bool ⊕ Unit)) (fun s_ => world_held_l2 l k s_.1 s_.2) ((-1), 0)).bind (Sum.elim (fun e_ => some e_) (fun e_ => world_held_j1))
noncomputable def world_Check_j2 : Option Int :=
 some 0
noncomputable def world_Check_l3 (w_2 : List api_Item) (w_1 : List Int) (w_0 : List api_Kind) (i7 : Int) (i8 : Int) : Option ((Int × Int) ⊕ (Int ⊕ Unit)) :=
 cnd (decide (i8 < (w_2.length : Int))) ((idx w_2 i8).bind fun x10 =>
 cnd (decide (x10.Ent.N ≤ i7)) (some (.inr (.inl 3))) (cnd (decide ((w_1.length : Int) ≤ x10.Ent.N)) (some (.inr (.inl 3))) ((idx w_1 x10.Ent.N).bind fun x27 =>
 cnd (!(x10.Ent.Gen == x27)) (some (.inr (.inl 3))) (cnd (x10.Ent.Gen == 1073741824) (some (.inr (.inl 3))) ((world_held w_0 x10.Comps).bind fun x40 =>
 cnd (!x40) (some (.inr (.inl 3))) (some (.inl (x10.Ent.N, IntKind.i64.wrap (i8 + 1))))))))) (some (.inr (.inr ())))
noncomputable def world_Check_j1 (w_2 : List api_Item) (w_1 : List Int) (w_0 : List api_Kind) : Option Int :=
 (loop (σ := Int × Int) (ρ := (Int ⊕ Unit)) (fun s_ => world_Check_l3 w_2 w_1 w_0 s_.1 s_.2) ((-1), 0)).bind (Sum.elim (fun e_ => some e_) (fun e_ => world_Check_j2))
noncomputable def world_Check_l4 (w_1 : List Int) (i43 : Int) : Option (Int ⊕ (Int ⊕ Unit)) :=
 cnd (decide (i43 < (w_1.length : Int))) ((idx w_1 i43).bind fun x45 =>
 cnd (decide (x45 < 0)) (some (.inr (.inl 3))) (cnd (decide (1073741824 < x45)) (some (.inr (.inl 3))) (some (.inl (IntKind.i64.wrap (i43 + 1)))))) (some (.inr (.inr ())))
noncomputable def world_Check (w_0 : List api_Kind) (w_1 : List Int) (w_2 : List api_Item) : Option Int :=
 (kind_Check w_0).bind fun x2 =>
 cnd (!(x2 == 0)) (some x2) (cnd (decide (256 < (w_1.length : Int))) (some 2) (cnd (decide ((w_1.length : Int) < (w_2.length : Int))) (some 2) ((loop (σ := Int) (ρ := (Int ⊕ Unit)) (fun s_ => world_Check_l4 w_1 s_) 0).bind (Sum.elim (fun e_ => some e_) (fun e_ => world_Check_j1 w_2 w_1 w_0)))))
noncomputable def world_Fit_1 (o_0 : Int) (o_1 : List Int) (p1_0 : Int) (p1_1 : List Int) : Option Bool :=
 some (o_0 == p1_0)
noncomputable def slices_IndexFunc_api_Comp_api_Comp_j1 : Option Int :=
 some (-1)
noncomputable def slices_IndexFunc_api_Comp_api_Comp_l2 (s : List api_Comp) (f_c0_0 : Int) (f_c0_1 : List Int) (i3 : Int) : Option (Int ⊕ (Int ⊕ Unit)) :=
 cnd (decide (i3 < (s.length : Int))) ((idx s i3).bind fun x5 =>
 (world_Fit_1 x5.Kind x5.Vals f_c0_0 f_c0_1).bind fun x19 =>
 cnd x19 (some (.inr (.inl i3))) (some (.inl (IntKind.i64.wrap (i3 + 1))))) (some (.inr (.inr ())))
noncomputable def slices_IndexFunc_api_Comp_api_Comp (s : List api_Comp) (f_c0_0 : Int) (f_c0_1 : List Int) : Option Int :=
 (loop (σ := Int) (ρ := (Int ⊕ Unit)) (fun s_ => slices_IndexFunc_api_Comp_api_Comp_l2 s f_c0_0 f_c0_1 s_) 0).bind (Sum.elim (fun e_ => some e_) (fun e_ => slices_IndexFunc_api_Comp_api_Comp_j1))
noncomputable def slices_ContainsFunc_api_Comp_api_Comp (s : List api_Comp) (f_c0_0 : Int) (f_c0_1 : List Int) : Option Bool :=
 (slices_IndexFunc_api_Comp_api_Comp s f_c0_0 f_c0_1).bind fun x1 =>
 some (decide (0 ≤ x1))
noncomputable def slices_SortFunc_api_Comp_api_Comp (s_ : List api_Comp) : Option (List api_Comp) := sortBy (fun x => x.Kind) s_
noncomputable def world_Fit_j1 (l6 : List api_Comp) : Option ((List api_Comp) × Int) :=
 (slices_SortFunc_api_Comp_api_Comp l6).bind fun x11 =>
 some (x11, 0)
noncomputable def world_Fit_l2 (l : List api_Comp) (k : List api_Kind) (l18 : List api_Comp) (i21 : Int) : Option (((List api_Comp) × Int) ⊕ (((List api_Comp) × Int) ⊕ (List api_Comp))) :=
 cnd (decide (i21 < (l.length : Int))) ((idx l i21).bind fun x25 =>
 cnd (decide (x25.Kind < 0)) (some (.inr (.inl (([] : List api_Comp), 1)))) (cnd (decide ((k.length : Int) ≤ x25.Kind)) (some (.inr (.inl (([] : List api_Comp), 1)))) ((cut l 0 i21).bind fun l42 =>
 (slices_ContainsFunc_api_Comp_api_Comp l42 x25.Kind x25.Vals).bind fun x53 =>
 cnd x53 (some (.inr (.inl (([] : List api_Comp), 5)))) ((idx k x25.Kind).bind fun x57 =>
 bnd2 (kind_Fit x57.Name x57.Fields x25.Vals) fun x71 x72 =>
 cnd (!(x72 == 0)) (some (.inr (.inl (([] : List api_Comp), x72)))) ((app 32 l18 ([(api_Comp.mk x25.Kind x71)] : List api_Comp)).bind fun l85 =>
 some (.inl (l85, IntKind.i64.wrap (i21 + 1)))))))) (some (.inr (.inr l18)))
noncomputable def world_Fit (k : List api_Kind) (l : List api_Comp) : Option ((List api_Comp) × Int) :=
 (kind_Check k).bind fun x1 =>
 cnd (!(x1 == 0)) (some (([] : List api_Comp), x1)) ((loop (σ := (List api_Comp) × Int) (ρ := (((List api_Comp) × Int) ⊕ (List api_Comp))) (fun s_ => world_Fit_l2 l k s_.1 s_.2) (([] : List api_Comp), 0)).bind (Sum.elim (fun e_ => some (e_.1, e_.2)) (fun e_ => world_Fit_j1 e_)))
noncomputable def world_Free_j2 (w_1 : List Int) : Option (Int × Bool) :=
 some ((w_1.length : Int), decide ((w_1.length : Int) < 256))
noncomputable def world_Free_j4 (i16 : Int) : Option (Int ⊕ ((Int × Bool) ⊕ Unit)) :=
 some (.inl (IntKind.i64.wrap (i16 + 1)))
noncomputable def world_Free_l3 (w_1 : List Int) (l13 : List Bool) (i16 : Int) : Option (Int ⊕ ((Int × Bool) ⊕ Unit)) :=
 cnd (decide (i16 < (w_1.length : Int))) ((idx w_1 i16).bind fun x18 =>
 (idx l13 i16).bind fun x29 =>
 cnd (!x29) (cnd (decide (x18 < 1073741824)) (some (.inr (.inl (i16, true)))) (world_Free_j4 i16)) (world_Free_j4 i16)) (some (.inr (.inr ())))
noncomputable def world_Free_j1 (w_1 : List Int) (l13 : List Bool) : Option (Int × Bool) :=
 (loop (σ := Int) (ρ := ((Int × Bool) ⊕ Unit)) (fun s_ => world_Free_l3 w_1 l13 s_) 0).bind (Sum.elim (fun e_ => some (e_.1, e_.2)) (fun e_ => world_Free_j2 w_1))
noncomputable def world_Free_j6 (i43 : Int) (l45 : List Bool) : Option (((List Bool) × Int) ⊕ (List Bool)) :=
 some (.inl (l45, IntKind.i64.wrap (i43 + 1)))
noncomputable def world_Free_l5 (w_2 : List api_Item) (l40 : List Bool) (i43 : Int) : Option (((List Bool) × Int) ⊕ (List Bool)) :=
 cnd (decide (i43 < (w_2.length : Int))) ((idx w_2 i43).bind fun x48 =>
 cnd (decide (0 ≤ x48.Ent.N)) (cnd (decide (x48.Ent.N < (l40.length : Int))) ((idx l40 x48.Ent.N).bind fun x65 =>
 (upd l40 x48.Ent.N true).bind fun l74 =>
 world_Free_j6 i43 l74) (world_Free_j6 i43 l40)) (world_Free_j6 i43 l40)) (some (.inr l40))
noncomputable def world_Free (w_0 : List api_Kind) (w_1 : List Int) (w_2 : List api_Item) : Option (Int × Bool) :=
 (mk 1 (w_1.length : Int) (false : Bool)).bind fun l2 =>
 (loop (σ := (List Bool) × Int) (ρ := (List Bool)) (fun s_ => world_Free_l5 w_2 s_.1 s_.2) (l2, 0)).bind (fun e_ => world_Free_j1 w_1 e_)
noncomputable def kind_Copy_j1 (l12 : List api_Kind) : Option ((List api_Kind)) :=
 some l12
noncomputable def kind_Copy_l2 (l : List api_Kind) (l17 : List api_Kind) (i20 : Int) : Option (((List api_Kind) × Int) ⊕ (List api_Kind)) :=
 cnd (decide (i20 < (l.length : Int))) ((idx l i20).bind fun x24 =>
 (app 32 ([] : List api_Field) x24.Fields).bind fun l39 =>
 (idx l17 i20).bind fun x51 =>
 (upd l17 i20 (api_Kind.mk x24.Name l39)).bind fun l67 =>
 some (.inl (l67, IntKind.i64.wrap (i20 + 1)))) (some (.inr l17))
noncomputable def kind_Copy (l : List api_Kind) : Option ((List api_Kind)) :=
 (mk 40 (l.length : Int) ((api_Kind.mk ByteArray.empty []) : api_Kind)).bind fun l1 =>
 (loop (σ := (List api_Kind) × Int) (ρ := (List api_Kind)) (fun s_ => kind_Copy_l2 l s_.1 s_.2) (l1, 0)).bind (fun e_ => kind_Copy_j1 e_)
noncomputable def slices_Clone_int_int (s : List Int) : Option ((List Int)) :=
 (app 8 ([] : List Int) s).bind fun l5 =>
 some l5
noncomputable def world_CopyComps_j1 (l12 : List api_Comp) : Option ((List api_Comp)) :=
 some l12
noncomputable def world_CopyComps_l2 (l : List api_Comp) (l17 : List api_Comp) (i20 : Int) : Option (((List api_Comp) × Int) ⊕ (List api_Comp)) :=
 cnd (decide (i20 < (l.length : Int))) ((idx l i20).bind fun x24 =>
 (slices_Clone_int_int x24.Vals).bind fun x39 =>
 (idx l17 i20).bind fun x45 =>
 (upd l17 i20 (api_Comp.mk x24.Kind x39)).bind fun l61 =>
 some (.inl (l61, IntKind.i64.wrap (i20 + 1)))) (some (.inr l17))
noncomputable def world_CopyComps (l : List api_Comp) : Option ((List api_Comp)) :=
 (mk 32 (l.length : Int) ((api_Comp.mk 0 []) : api_Comp)).bind fun l1 =>
 (loop (σ := (List api_Comp) × Int) (ρ := (List api_Comp)) (fun s_ => world_CopyComps_l2 l s_.1 s_.2) (l1, 0)).bind (fun e_ => world_CopyComps_j1 e_)
noncomputable def world_Copy_j2 (l14 : List api_Kind) (l19 : List Int) (l29 : List api_Item) : Option ((List api_Kind) × (List Int) × (List api_Item)) :=
 some (l14, l19, l29)
noncomputable def world_Copy_l3 (w_2 : List api_Item) (l34 : List api_Item) (i37 : Int) : Option (((List api_Item) × Int) ⊕ (List api_Item)) :=
 cnd (decide (i37 < (w_2.length : Int))) ((idx w_2 i37).bind fun x41 =>
 (world_CopyComps x41.Comps).bind fun x56 =>
 (idx l34 i37).bind fun x65 =>
 (upd l34 i37 (api_Item.mk (api_Ent.mk x41.Ent.N x41.Ent.Gen) x56)).bind fun l82 =>
 some (.inl (l82, IntKind.i64.wrap (i37 + 1)))) (some (.inr l34))
noncomputable def world_Copy_j1 (w_2 : List api_Item) (l14 : List api_Kind) (l19 : List Int) (l24 : List api_Item) : Option ((List api_Kind) × (List Int) × (List api_Item)) :=
 (loop (σ := (List api_Item) × Int) (ρ := (List api_Item)) (fun s_ => world_Copy_l3 w_2 s_.1 s_.2) (l24, 0)).bind (fun e_ => world_Copy_j2 l14 l19 e_)
noncomputable def world_Copy (w_0 : List api_Kind) (w_1 : List Int) (w_2 : List api_Item) : Option ((List api_Kind) × (List Int) × (List api_Item)) :=
 (kind_Copy w_0).bind fun x96 =>
 (slices_Clone_int_int w_1).bind fun x105 =>
 (mk 40 (w_2.length : Int) ((api_Item.mk (api_Ent.mk 0 0) []) : api_Item)).bind fun l111 =>
 world_Copy_j1 w_2 x96 x105 l111
noncomputable def cmp_isNaN_int (x : Int) : Option Unit :=
 some ()
noncomputable def cmp_Compare_int (x : Int) (y : Int) : Option Int :=
 (cmp_isNaN_int x).bind fun _ =>
 (cmp_isNaN_int y).bind fun _ =>
 cnd (decide (x < y)) (some (-1)) (cnd (decide (y < x)) (some 1) (some 0))
noncomputable def world_Spawn_1 (it_0 : Int) (it_1 : Int) (it_2 : List api_Comp) (n : Int) : Option Int :=
 (cmp_Compare_int it_0 n).bind fun x2 =>
 some x2
noncomputable def slices_BinarySearchFunc_api_Item_api_Item_int_j2 (i1 : Int) (t2 : Bool) : Option (Int × Bool) :=
 some (i1, t2)
noncomputable def slices_BinarySearchFunc_api_Item_api_Item_int_j1 (x : List api_Item) (target : Int) (i1 : Int) : Option (Int × Bool) :=
 cnd (decide (i1 < (x.length : Int))) ((idx x i1).bind fun x4 =>
 (world_Spawn_1 x4.Ent.N x4.Ent.Gen x4.Comps target).bind fun x18 =>
 slices_BinarySearchFunc_api_Item_api_Item_int_j2 i1 (x18 == 0)) (slices_BinarySearchFunc_api_Item_api_Item_int_j2 i1 false)
noncomputable def slices_BinarySearchFunc_api_Item_api_Item_int_l3 (x : List api_Item) (target : Int) (i20 : Int) (i21 : Int) : Option ((Int × Int) ⊕ Int) :=
 cnd (decide (i20 < i21)) ((some (IntKind.i64.wrap (Int.fdiv (IntKind.u64.wrap (IntKind.i64.wrap (i20 + i21))) 2))).bind fun x23 =>
 (idx x x23).bind fun x25 =>
 (world_Spawn_1 x25.Ent.N x25.Ent.Gen x25.Comps target).bind fun x39 =>
 cnd (decide (x39 < 0)) (some (.inl (IntKind.i64.wrap (x23 + 1), i21))) (some (.inl (i20, x23)))) (some (.inr i20))
noncomputable def slices_BinarySearchFunc_api_Item_api_Item_int (x : List api_Item) (target : Int) : Option (Int × Bool) :=
 (loop (σ := Int × Int) (ρ := Int) (fun s_ => slices_BinarySearchFunc_api_Item_api_Item_int_l3 x target s_.1 s_.2) (0, (x.length : Int))).bind (fun e_ => slices_BinarySearchFunc_api_Item_api_Item_int_j1 x target e_)
noncomputable def slices_Insert_api_Item_api_Item (s_ : List api_Item) (i_ : Int) (v_ : List api_Item) : Option (List api_Item) := ins 40 s_ i_ v_
noncomputable def world_Spawn_j1 (x18 : Int) (x24 : List api_Item) (x7 : List api_Comp) (x22 : List api_Kind) (l43 : List Int) : Option ((List api_Kind) × (List Int) × (List api_Item) × Int × Int × Int) :=
 (idx l43 x18).bind fun x54 =>
 bnd2 (slices_BinarySearchFunc_api_Item_api_Item_int x24 x18) fun x65 x66 =>
 (slices_Insert_api_Item_api_Item x24 x65 ([(api_Item.mk (api_Ent.mk x18 x54) x7)] : List api_Item)).bind fun x74 =>
 some (x22, l43, x74, x18, x54, 0)
noncomputable def world_Spawn (w_0 : List api_Kind) (w_1 : List Int) (w_2 : List api_Item) (comps : List api_Comp) : Option ((List api_Kind) × (List Int) × (List api_Item) × Int × Int × Int) :=
 (world_Check w_0 w_1 w_2).bind fun x4 =>
 cnd (!(x4 == 0)) (some (([] : List api_Kind), ([] : List Int), ([] : List api_Item), 0, 0, x4)) (bnd2 (world_Fit w_0 comps) fun x7 x8 =>
 cnd (!(x8 == 0)) (some (([] : List api_Kind), ([] : List Int), ([] : List api_Item), 0, 0, x8)) (bnd2 (world_Free w_0 w_1 w_2) fun x18 x19 =>
 cnd (!x19) (some (([] : List api_Kind), ([] : List Int), ([] : List api_Item), 0, 0, 6)) (bnd3 (world_Copy w_0 w_1 w_2) fun x22 x23 x24 =>
 cnd (x18 == (x23.length : Int)) ((app 8 x23 ([0] : List Int)).bind fun l83 =>
 world_Spawn_j1 x18 x24 x7 x22 l83) (world_Spawn_j1 x18 x24 x7 x22 x23))))
noncomputable def strings_Trim (s_ : ByteArray) : Option ByteArray := trim s_ [97, 98, 99, 100, 101, 102, 103, 104, 105, 106, 107, 108, 109, 110, 111, 112, 113, 114, 115, 116, 117, 118, 119, 120, 121, 122, 48, 49, 50, 51, 52, 53, 54, 55, 56, 57]
noncomputable def tourref3_IsName_j1 (t1 : Bool) : Option Bool :=
 some t1
noncomputable def tourref3_IsName (s : ByteArray) : Option Bool :=
 cnd (!(s.toList == (⟨#[]⟩ : ByteArray).toList)) (cnd (decide ((s.size : Int) < 17)) ((strings_Trim s).bind fun x4 =>
 cnd (x4.toList == (⟨#[]⟩ : ByteArray).toList) ((sidx s 0).bind fun x7 =>
 tourref3_IsName_j1 (decide (57 < x7))) (tourref3_IsName_j1 false)) (tourref3_IsName_j1 false)) (tourref3_IsName_j1 false)
noncomputable def tourref3_FieldOK_j1 (t2 : Bool) : Option Bool :=
 some t2
noncomputable def tourref3_FieldOK (f_0 : ByteArray) (f_1 : Int) (f_2 : Int) : Option Bool :=
 (tourref3_IsName f_0).bind fun x3 =>
 cnd x3 (cnd (decide (0 < f_1)) (cnd (decide (f_1 < 33)) (cnd (decide ((-4294967296) ≤ f_2)) (tourref3_FieldOK_j1 (decide (f_2 ≤ 4294967296))) (tourref3_FieldOK_j1 false)) (tourref3_FieldOK_j1 false)) (tourref3_FieldOK_j1 false)) (tourref3_FieldOK_j1 false)
noncomputable def slices_Index_string_string_j1 : Option Int :=
 some (-1)
noncomputable def slices_Index_string_string_l2 (s : List ByteArray) (v : ByteArray) (i1 : Int) : Option (Int ⊕ (Int ⊕ Unit)) :=
 cnd (decide (i1 < (s.length : Int))) ((idx s i1).bind fun x3 =>
 cnd (v.toList == x3.toList) (some (.inr (.inl i1))) (some (.inl (IntKind.i64.wrap (i1 + 1))))) (some (.inr (.inr ())))
noncomputable def slices_Index_string_string (s : List ByteArray) (v : ByteArray) : Option Int :=
 (loop (σ := Int) (ρ := (Int ⊕ Unit)) (fun s_ => slices_Index_string_string_l2 s v s_) 0).bind (Sum.elim (fun e_ => some e_) (fun e_ => slices_Index_string_string_j1))
noncomputable def slices_Contains_string_string (s : List ByteArray) (v : ByteArray) : Option Bool :=
 (slices_Index_string_string s v).bind fun x1 =>
 some (decide (0 ≤ x1))
noncomputable def tourref3_twice (l : List ByteArray) (s : ByteArray) : Option Bool :=
 (slices_Contains_string_string l s).bind fun x1 =>
 some x1
noncomputable def tourref3_KindError_j1 : Option Int :=
 some 0
noncomputable def tourref3_KindError_l2 (k_1 : List api_Field) (l8 : List ByteArray) (i11 : Int) : Option (((List ByteArray) × Int) ⊕ (Int ⊕ Unit)) :=
 cnd (decide (i11 < (k_1.length : Int))) ((idx k_1 i11).bind fun x13 =>
 (tourref3_FieldOK x13.Name x13.Bits x13.Low).bind fun x25 =>
 cnd (!x25) (some (.inr (.inl 3))) ((tourref3_twice l8 x13.Name).bind fun x28 =>
 cnd x28 (some (.inr (.inl 5))) ((app 16 l8 ([x13.Name] : List ByteArray)).bind fun l33 =>
 some (.inl (l33, IntKind.i64.wrap (i11 + 1)))))) (some (.inr (.inr ())))
noncomputable def tourref3_KindError (k_0 : ByteArray) (k_1 : List api_Field) : Option Int :=
 (tourref3_IsName k_0).bind fun x2 =>
 cnd (!x2) (some 3) (cnd (decide (8 < (k_1.length : Int))) (some 2) ((loop (σ := (List ByteArray) × Int) (ρ := (Int ⊕ Unit)) (fun s_ => tourref3_KindError_l2 k_1 s_.1 s_.2) (([] : List ByteArray), 0)).bind (Sum.elim (fun e_ => some e_) (fun e_ => tourref3_KindError_j1))))
noncomputable def tourref3_KindsError_j1 : Option Int :=
 some 0
noncomputable def tourref3_KindsError_l2 (l : List api_Kind) (l4 : List ByteArray) (i7 : Int) : Option (((List ByteArray) × Int) ⊕ (Int ⊕ Unit)) :=
 cnd (decide (i7 < (l.length : Int))) ((idx l i7).bind fun x9 =>
 (tourref3_KindError x9.Name x9.Fields).bind fun x24 =>
 cnd (!(x24 == 0)) (some (.inr (.inl x24))) ((tourref3_twice l4 x9.Name).bind fun x27 =>
 cnd x27 (some (.inr (.inl 5))) ((app 16 l4 ([x9.Name] : List ByteArray)).bind fun l32 =>
 some (.inl (l32, IntKind.i64.wrap (i7 + 1)))))) (some (.inr (.inr ())))
noncomputable def tourref3_KindsError (l : List api_Kind) : Option Int :=
 cnd (decide (16 < (l.length : Int))) (some 2) ((loop (σ := (List ByteArray) × Int) (ρ := (Int ⊕ Unit)) (fun s_ => tourref3_KindsError_l2 l s_.1 s_.2) (([] : List ByteArray), 0)).bind (Sum.elim (fun e_ => some e_) (fun e_ => tourref3_KindsError_j1)))
noncomputable def tourref3_Top_j1 (f_2 : Int) (i2 : Int) : Option Int :=
 some (IntKind.i64.wrap (IntKind.i64.wrap (f_2 + i2) - 1))
noncomputable def tourref3_Top_l2 (f_1 : Int) (i3 : Int) (i4 : Int) : Option ((Int × Int) ⊕ Int) :=
 cnd (decide (i4 < f_1)) (some (.inl (IntKind.i64.wrap (i3 * 2), IntKind.i64.wrap (i4 + 1)))) (some (.inr i3))
noncomputable def tourref3_Top (f_0 : ByteArray) (f_1 : Int) (f_2 : Int) : Option Int :=
 (loop (σ := Int × Int) (ρ := Int) (fun s_ => tourref3_Top_l2 f_1 s_.1 s_.2) (1, 0)).bind (fun e_ => tourref3_Top_j1 f_2 e_)
noncomputable def tourref3_Nearest (f_0 : ByteArray) (f_1 : Int) (f_2 : Int) (v : Int) : Option Int :=
 (tourref3_FieldOK f_0 f_1 f_2).bind fun x2 =>
 cnd (!x2) (some 0) (cnd (decide (v < f_2)) (some f_2) ((tourref3_Top f_0 f_1 f_2).bind fun x6 =>
 cnd (decide (x6 < v)) ((tourref3_Top f_0 f_1 f_2).bind fun x9 =>
 some x9) (some v)))
noncomputable def tourref3_Fitted_j1 (l8 : List Int) : Option ((List Int) × Int) :=
 some (l8, 0)
noncomputable def tourref3_Fitted_l2 (vals : List Int) (k_1 : List api_Field) (l13 : List Int) (i16 : Int) : Option (((List Int) × Int) ⊕ (List Int)) :=
 cnd (decide (i16 < (vals.length : Int))) ((idx k_1 i16).bind fun x18 =>
 (idx vals i16).bind fun x29 =>
 (tourref3_Nearest x18.Name x18.Bits x18.Low x29).bind fun x40 =>
 (app 8 l13 ([x40] : List Int)).bind fun l44 =>
 some (.inl (l44, IntKind.i64.wrap (i16 + 1)))) (some (.inr l13))
noncomputable def tourref3_Fitted (k_0 : ByteArray) (k_1 : List api_Field) (vals : List Int) : Option ((List Int) × Int) :=
 (tourref3_KindError k_0 k_1).bind fun x2 =>
 cnd (!(x2 == 0)) (some (([] : List Int), x2)) (cnd (!((vals.length : Int) == (k_1.length : Int))) (some (([] : List Int), 1)) ((loop (σ := (List Int) × Int) (ρ := (List Int)) (fun s_ => tourref3_Fitted_l2 vals k_1 s_.1 s_.2) (([] : List Int), 0)).bind (fun e_ => tourref3_Fitted_j1 e_)))
noncomputable def tourref3_FittedAll_j1 (l5 : List (Int × (List Int))) : Option ((Option (List (Int × (List Int)))) × Int) :=
 some ((some l5), 0)
noncomputable def tourref3_FittedAll_l2 (l : List api_Comp) (k : List api_Kind) (l15 : List (Int × (List Int))) (i17 : Int) : Option (((List (Int × (List Int))) × Int) ⊕ (((Option (List (Int × (List Int)))) × Int) ⊕ (List (Int × (List Int))))) :=
 cnd (decide (i17 < (l.length : Int))) ((idx l i17).bind fun x21 =>
 cnd (decide (x21.Kind < 0)) (some (.inr (.inl (none, 1)))) (cnd (decide ((k.length : Int) ≤ x21.Kind)) (some (.inr (.inl (none, 1)))) ((some ((mget l15 x21.Kind).getD ([] : List Int))).bind fun x38 =>
 cnd ((mget l15 x21.Kind).isSome) (some (.inr (.inl (none, 5)))) ((idx k x21.Kind).bind fun x47 =>
 bnd2 (tourref3_Fitted x47.Name x47.Fields x21.Vals) fun x61 x62 =>
 cnd (!(x62 == 0)) (some (.inr (.inl (none, x62)))) ((some (mput l15 x21.Kind x61)).bind fun l73 =>
 some (.inl (l73, IntKind.i64.wrap (i17 + 1)))))))) (some (.inr (.inr l15)))
noncomputable def tourref3_FittedAll (k : List api_Kind) (l : List api_Comp) : Option ((Option (List (Int × (List Int)))) × Int) :=
 (loop (σ := (List (Int × (List Int))) × Int) (ρ := (((Option (List (Int × (List Int)))) × Int) ⊕ (List (Int × (List Int))))) (fun s_ => tourref3_FittedAll_l2 l k s_.1 s_.2) (([] : List (Int × (List Int))), 0)).bind (Sum.elim (fun e_ => some (e_.1, e_.2)) (fun e_ => tourref3_FittedAll_j1 e_))
noncomputable def tourref3_Listed_j1 (l3 : List api_Comp) : Option ((List api_Comp)) :=
 some l3
noncomputable def tourref3_Listed_j3 (i13 : Int) (l19 : List api_Comp) : Option (((List api_Comp) × Int) ⊕ (List api_Comp)) :=
 some (.inl (l19, IntKind.i64.wrap (i13 + 1)))
noncomputable def tourref3_Listed_l2 (m : Option (List (Int × (List Int)))) (l10 : List api_Comp) (i13 : Int) : Option (((List api_Comp) × Int) ⊕ (List api_Comp)) :=
 cnd (decide (i13 < 16)) ((some ((mget (m.getD []) i13).getD ([] : List Int))).bind fun x24 =>
 cnd ((mget (m.getD []) i13).isSome) ((slices_Clone_int_int x24).bind fun x33 =>
 (app 32 l10 ([(api_Comp.mk i13 x33)] : List api_Comp)).bind fun l45 =>
 tourref3_Listed_j3 i13 l45) (tourref3_Listed_j3 i13 l10)) (some (.inr l10))
noncomputable def tourref3_Listed (m : Option (List (Int × (List Int)))) : Option ((List api_Comp)) :=
 (loop (σ := (List api_Comp) × Int) (ρ := (List api_Comp)) (fun s_ => tourref3_Listed_l2 m s_.1 s_.2) (([] : List api_Comp), 0)).bind (fun e_ => tourref3_Listed_j1 e_)
noncomputable def slices_Equal_int_int_j1 : Option Bool :=
 some true
noncomputable def slices_Equal_int_int_l2 (s1_1 : List Int) (s2_1 : List Int) (i2 : Int) : Option (Int ⊕ (Bool ⊕ Unit)) :=
 cnd (decide (i2 < (s1_1.length : Int))) ((idx s1_1 i2).bind fun x4 =>
 (idx s2_1 i2).bind fun x15 =>
 cnd (!(x4 == x15)) (some (.inr (.inl false))) (some (.inl (IntKind.i64.wrap (i2 + 1))))) (some (.inr (.inr ())))
noncomputable def slices_Equal_int_int (s1_1 : List Int) (s2_1 : List Int) : Option Bool :=
 cnd (!((s1_1.length : Int) == (s2_1.length : Int))) (some false) ((loop (σ := Int) (ρ := (Bool ⊕ Unit)) (fun s_ => slices_Equal_int_int_l2 s1_1 s2_1 s_) 0).bind (Sum.elim (fun e_ => some e_) (fun e_ => slices_Equal_int_int_j1)))
noncomputable def tourref3_SameComp_j1 (t3 : Bool) : Option Bool :=
 some t3
noncomputable def tourref3_SameComp (a_0 : Int) (a_1 : List Int) (b_0 : Int) (b_1 : List Int) : Option Bool :=
 cnd (a_0 == b_0) ((slices_Equal_int_int a_1 b_1).bind fun x5 =>
 tourref3_SameComp_j1 x5) (tourref3_SameComp_j1 false)
noncomputable def slices_EqualFunc_api_Comp_api_Comp_api_Comp_api_Comp_j1 : Option Bool :=
 some true
noncomputable def slices_EqualFunc_api_Comp_api_Comp_api_Comp_api_Comp_l2 (s1_1 : List api_Comp) (s2_1 : List api_Comp) (i2 : Int) : Option (Int ⊕ (Bool ⊕ Unit)) :=
 cnd (decide (i2 < (s1_1.length : Int))) ((idx s1_1 i2).bind fun x4 =>
 (idx s2_1 i2).bind fun x19 =>
 (tourref3_SameComp x4.Kind x4.Vals x19.Kind x19.Vals).bind fun x34 =>
 cnd (!x34) (some (.inr (.inl false))) (some (.inl (IntKind.i64.wrap (i2 + 1))))) (some (.inr (.inr ())))
noncomputable def slices_EqualFunc_api_Comp_api_Comp_api_Comp_api_Comp (s1_1 : List api_Comp) (s2_1 : List api_Comp) : Option Bool :=
 cnd (!((s1_1.length : Int) == (s2_1.length : Int))) (some false) ((loop (σ := Int) (ρ := (Bool ⊕ Unit)) (fun s_ => slices_EqualFunc_api_Comp_api_Comp_api_Comp_api_Comp_l2 s1_1 s2_1 s_) 0).bind (Sum.elim (fun e_ => some e_) (fun e_ => slices_EqualFunc_api_Comp_api_Comp_api_Comp_api_Comp_j1)))
noncomputable def slices_Clone_api_Field_api_Field (s : List api_Field) : Option ((List api_Field)) :=
 (app 32 ([] : List api_Field) s).bind fun l5 =>
 some l5
noncomputable def tourref3_Flat_Close_j2 (l19 : List api_Kind) (x2 : List Int) (l28 : List api_Item) : Option ((List api_Kind) × (List Int) × (List api_Item)) :=
 some (l19, x2, l28)
noncomputable def tourref3_Flat_Close_j4 (i38 : Int) (l44 : List api_Item) : Option (((List api_Item) × Int) ⊕ (List api_Item)) :=
 some (.inl (l44, IntKind.i64.wrap (i38 + 1)))
noncomputable def tourref3_Flat_Close_l3 (f_1 : List Int) (f_2 : List (Int × (Option (List (Int × (List Int)))))) (l35 : List api_Item) (i38 : Int) : Option (((List api_Item) × Int) ⊕ (List api_Item)) :=
 cnd (decide (i38 < (f_1.length : Int))) ((idx f_1 i38).bind fun x49 =>
 (some ((mget f_2 i38).getD none)).bind fun x59 =>
 cnd (!x59.isNone) ((tourref3_Listed x59).bind fun x67 =>
 (app 40 l35 ([(api_Item.mk (api_Ent.mk i38 x49) x67)] : List api_Item)).bind fun l82 =>
 tourref3_Flat_Close_j4 i38 l82) (tourref3_Flat_Close_j4 i38 l35)) (some (.inr l35))
noncomputable def tourref3_Flat_Close_j1 (f_1 : List Int) (f_2 : List (Int × (Option (List (Int × (List Int)))))) (x2 : List Int) (l19 : List api_Kind) : Option ((List api_Kind) × (List Int) × (List api_Item)) :=
 (loop (σ := (List api_Item) × Int) (ρ := (List api_Item)) (fun s_ => tourref3_Flat_Close_l3 f_1 f_2 s_.1 s_.2) (([] : List api_Item), 0)).bind (fun e_ => tourref3_Flat_Close_j2 l19 x2 e_)
noncomputable def tourref3_Flat_Close_j6 (i164 : Int) (l170 : List api_Kind) : Option (((List api_Kind) × Int) ⊕ (List api_Kind)) :=
 some (.inl (l170, IntKind.i64.wrap (i164 + 1)))
noncomputable def tourref3_Flat_Close_l5 (f_0 : List api_Kind) (l159 : List api_Kind) (i164 : Int) : Option (((List api_Kind) × Int) ⊕ (List api_Kind)) :=
 cnd (decide (i164 < (f_0.length : Int))) ((idx f_0 i164).bind fun x175 =>
 (slices_Clone_api_Field_api_Field x175.Fields).bind fun x190 =>
 (app 40 l159 ([(api_Kind.mk x175.Name x190)] : List api_Kind)).bind fun l202 =>
 tourref3_Flat_Close_j6 i164 l202) (some (.inr l159))
noncomputable def tourref3_Flat_Close (f_0 : List api_Kind) (f_1 : List Int) (f_2 : List (Int × (Option (List (Int × (List Int)))))) : Option ((List api_Kind) × (List Int) × (List api_Item)) :=
 (slices_Clone_int_int f_1).bind fun x2 =>
 (loop (σ := (List api_Kind) × Int) (ρ := (List api_Kind)) (fun s_ => tourref3_Flat_Close_l5 f_0 s_.1 s_.2) (([] : List api_Kind), 0)).bind (fun e_ => tourref3_Flat_Close_j1 f_1 f_2 x2 e_)
noncomputable def slices_Equal_api_Field_api_Field_j1 : Option Bool :=
 some true
noncomputable def slices_Equal_api_Field_api_Field_l2 (s1_1 : List api_Field) (s2_1 : List api_Field) (i2 : Int) : Option (Int ⊕ (Bool ⊕ Unit)) :=
 cnd (decide (i2 < (s1_1.length : Int))) ((idx s1_1 i2).bind fun x4 =>
 (idx s2_1 i2).bind fun x15 =>
 cnd (!(x4.Name.toList == x15.Name.toList && (x4.Bits == x15.Bits && (x4.Low == x15.Low)))) (some (.inr (.inl false))) (some (.inl (IntKind.i64.wrap (i2 + 1))))) (some (.inr (.inr ())))
noncomputable def slices_Equal_api_Field_api_Field (s1_1 : List api_Field) (s2_1 : List api_Field) : Option Bool :=
 cnd (!((s1_1.length : Int) == (s2_1.length : Int))) (some false) ((loop (σ := Int) (ρ := (Bool ⊕ Unit)) (fun s_ => slices_Equal_api_Field_api_Field_l2 s1_1 s2_1 s_) 0).bind (Sum.elim (fun e_ => some e_) (fun e_ => slices_Equal_api_Field_api_Field_j1)))
noncomputable def tourref3_SameKind_j1 (t3 : Bool) : Option Bool :=
 some t3
noncomputable def tourref3_SameKind (a_0 : ByteArray) (a_1 : List api_Field) (b_0 : ByteArray) (b_1 : List api_Field) : Option Bool :=
 cnd (a_0.toList == b_0.toList) ((slices_Equal_api_Field_api_Field a_1 b_1).bind fun x5 =>
 tourref3_SameKind_j1 x5) (tourref3_SameKind_j1 false)
noncomputable def slices_EqualFunc_api_Kind_api_Kind_api_Kind_api_Kind_j1 : Option Bool :=
 some true
noncomputable def slices_EqualFunc_api_Kind_api_Kind_api_Kind_api_Kind_l2 (s1_1 : List api_Kind) (s2_1 : List api_Kind) (i2 : Int) : Option (Int ⊕ (Bool ⊕ Unit)) :=
 cnd (decide (i2 < (s1_1.length : Int))) ((idx s1_1 i2).bind fun x4 =>
 (idx s2_1 i2).bind fun x19 =>
 (tourref3_SameKind x4.Name x4.Fields x19.Name x19.Fields).bind fun x34 =>
 cnd (!x34) (some (.inr (.inl false))) (some (.inl (IntKind.i64.wrap (i2 + 1))))) (some (.inr (.inr ())))
noncomputable def slices_EqualFunc_api_Kind_api_Kind_api_Kind_api_Kind (s1_1 : List api_Kind) (s2_1 : List api_Kind) : Option Bool :=
 cnd (!((s1_1.length : Int) == (s2_1.length : Int))) (some false) ((loop (σ := Int) (ρ := (Bool ⊕ Unit)) (fun s_ => slices_EqualFunc_api_Kind_api_Kind_api_Kind_api_Kind_l2 s1_1 s2_1 s_) 0).bind (Sum.elim (fun e_ => some e_) (fun e_ => slices_EqualFunc_api_Kind_api_Kind_api_Kind_api_Kind_j1)))
noncomputable def tourref3_SameItem_j1 (t3 : Bool) : Option Bool :=
 some t3
noncomputable def tourref3_SameItem (a_0 : Int) (a_1 : Int) (a_2 : List api_Comp) (b_0 : Int) (b_1 : Int) (b_2 : List api_Comp) : Option Bool :=
 cnd (a_0 == b_0 && (a_1 == b_1)) ((slices_EqualFunc_api_Comp_api_Comp_api_Comp_api_Comp a_2 b_2).bind fun x5 =>
 tourref3_SameItem_j1 x5) (tourref3_SameItem_j1 false)
noncomputable def slices_EqualFunc_api_Item_api_Item_api_Item_api_Item_j1 : Option Bool :=
 some true
noncomputable def slices_EqualFunc_api_Item_api_Item_api_Item_api_Item_l2 (s1_1 : List api_Item) (s2_1 : List api_Item) (i2 : Int) : Option (Int ⊕ (Bool ⊕ Unit)) :=
 cnd (decide (i2 < (s1_1.length : Int))) ((idx s1_1 i2).bind fun x4 =>
 (idx s2_1 i2).bind fun x19 =>
 (tourref3_SameItem x4.Ent.N x4.Ent.Gen x4.Comps x19.Ent.N x19.Ent.Gen x19.Comps).bind fun x34 =>
 cnd (!x34) (some (.inr (.inl false))) (some (.inl (IntKind.i64.wrap (i2 + 1))))) (some (.inr (.inr ())))
noncomputable def slices_EqualFunc_api_Item_api_Item_api_Item_api_Item (s1_1 : List api_Item) (s2_1 : List api_Item) : Option Bool :=
 cnd (!((s1_1.length : Int) == (s2_1.length : Int))) (some false) ((loop (σ := Int) (ρ := (Bool ⊕ Unit)) (fun s_ => slices_EqualFunc_api_Item_api_Item_api_Item_api_Item_l2 s1_1 s2_1 s_) 0).bind (Sum.elim (fun e_ => some e_) (fun e_ => slices_EqualFunc_api_Item_api_Item_api_Item_api_Item_j1)))
noncomputable def tourref3_SameWorld_j1 (t3 : Bool) : Option Bool :=
 some t3
noncomputable def tourref3_SameWorld (a_0 : List api_Kind) (a_1 : List Int) (a_2 : List api_Item) (b_0 : List api_Kind) (b_1 : List Int) (b_2 : List api_Item) : Option Bool :=
 (slices_EqualFunc_api_Kind_api_Kind_api_Kind_api_Kind a_0 b_0).bind fun x4 =>
 cnd x4 ((slices_Equal_int_int a_1 b_1).bind fun x7 =>
 cnd x7 ((slices_EqualFunc_api_Item_api_Item_api_Item_api_Item a_2 b_2).bind fun x10 =>
 tourref3_SameWorld_j1 x10) (tourref3_SameWorld_j1 false)) (tourref3_SameWorld_j1 false)
noncomputable def tourref3_Open_j3 (l18 : List api_Kind) (x7 : List Int) (l25 : List (Int × (Option (List (Int × (List Int)))))) (w_0 : List api_Kind) (w_1 : List Int) (w_2 : List api_Item) : Option (Int ⊕ (List api_Kind) × (List Int) × (List (Int × (Option (List (Int × (List Int))))))) :=
 bnd3 (tourref3_Flat_Close l18 x7 l25) fun x33 x34 x35 =>
 (tourref3_SameWorld x33 x34 x35 w_0 w_1 w_2).bind fun x58 =>
 cnd (!x58) (some (.inl 3)) (some (.inr (l18, x7, l25)))
noncomputable def tourref3_Open_j5 (i61 : Int) : Option (Int ⊕ (Int ⊕ Unit)) :=
 some (.inl (IntKind.i64.wrap (i61 + 1)))
noncomputable def tourref3_Open_l4 (x7 : List Int) (l25 : List (Int × (Option (List (Int × (List Int)))))) (i61 : Int) : Option (Int ⊕ (Int ⊕ Unit)) :=
 cnd (decide (i61 < (x7.length : Int))) ((idx x7 i61).bind fun x63 =>
 cnd (decide (x63 < 0)) (some (.inr (.inl 3))) (cnd (decide (1073741824 < x63)) (some (.inr (.inl 3))) (cnd (x63 == 1073741824) ((some ((mget l25 i61).getD none)).bind fun x76 =>
 cnd (!x76.isNone) (some (.inr (.inl 3))) (tourref3_Open_j5 i61)) (tourref3_Open_j5 i61)))) (some (.inr (.inr ())))
noncomputable def tourref3_Open_j2 (x7 : List Int) (l18 : List api_Kind) (w_0 : List api_Kind) (w_1 : List Int) (w_2 : List api_Item) (l25 : List (Int × (Option (List (Int × (List Int)))))) : Option (Int ⊕ (List api_Kind) × (List Int) × (List (Int × (Option (List (Int × (List Int))))))) :=
 (loop (σ := Int) (ρ := (Int ⊕ Unit)) (fun s_ => tourref3_Open_l4 x7 l25 s_) 0).bind (Sum.elim (fun e_ => some (.inl e_)) (fun e_ => tourref3_Open_j3 l18 x7 l25 w_0 w_1 w_2))
noncomputable def tourref3_Open_l6 (w_2 : List api_Item) (w_0 : List api_Kind) (x7 : List Int) (l86 : List (Int × (Option (List (Int × (List Int)))))) (i88 : Int) : Option (((List (Int × (Option (List (Int × (List Int)))))) × Int) ⊕ (Int ⊕ (List (Int × (Option (List (Int × (List Int)))))))) :=
 cnd (decide (i88 < (w_2.length : Int))) ((idx w_2 i88).bind fun x92 =>
 bnd2 (tourref3_FittedAll w_0 x92.Comps) fun x107 x108 =>
 cnd (!(x108 == 0)) (some (.inr (.inl 3))) (cnd (decide (x92.Ent.N < 0)) (some (.inr (.inl 3))) (cnd (decide ((x7.length : Int) ≤ x92.Ent.N)) (some (.inr (.inl 3))) ((some (mput l86 x92.Ent.N x107)).bind fun l118 =>
 some (.inl (l118, IntKind.i64.wrap (i88 + 1))))))) (some (.inr (.inr l86)))
noncomputable def tourref3_Open_j1 (w_2 : List api_Item) (w_0 : List api_Kind) (x7 : List Int) (w_1 : List Int) (l18 : List api_Kind) : Option (Int ⊕ (List api_Kind) × (List Int) × (List (Int × (Option (List (Int × (List Int))))))) :=
 (loop (σ := (List (Int × (Option (List (Int × (List Int)))))) × Int) (ρ := (Int ⊕ (List (Int × (Option (List (Int × (List Int)))))))) (fun s_ => tourref3_Open_l6 w_2 w_0 x7 s_.1 s_.2) (([] : List (Int × (Option (List (Int × (List Int)))))), 0)).bind (Sum.elim (fun e_ => some (.inl e_)) (fun e_ => tourref3_Open_j2 x7 l18 w_0 w_1 w_2 e_))
noncomputable def tourref3_Open_j8 (i133 : Int) (l139 : List api_Kind) : Option (((List api_Kind) × Int) ⊕ (List api_Kind)) :=
 some (.inl (l139, IntKind.i64.wrap (i133 + 1)))
noncomputable def tourref3_Open_l7 (w_0 : List api_Kind) (l130 : List api_Kind) (i133 : Int) : Option (((List api_Kind) × Int) ⊕ (List api_Kind)) :=
 cnd (decide (i133 < (w_0.length : Int))) ((idx w_0 i133).bind fun x144 =>
 (slices_Clone_api_Field_api_Field x144.Fields).bind fun x159 =>
 (app 40 l130 ([(api_Kind.mk x144.Name x159)] : List api_Kind)).bind fun l171 =>
 tourref3_Open_j8 i133 l171) (some (.inr l130))
noncomputable def tourref3_Open (w_0 : List api_Kind) (w_1 : List Int) (w_2 : List api_Item) : Option (Int ⊕ (List api_Kind) × (List Int) × (List (Int × (Option (List (Int × (List Int))))))) :=
 (tourref3_KindsError w_0).bind fun x2 =>
 cnd (!(x2 == 0)) (some (.inl x2)) (cnd (decide (256 < (w_1.length : Int))) (some (.inl 2)) (cnd (decide ((w_1.length : Int) < (w_2.length : Int))) (some (.inl 2)) ((slices_Clone_int_int w_1).bind fun x7 =>
 (loop (σ := (List api_Kind) × Int) (ρ := (List api_Kind)) (fun s_ => tourref3_Open_l7 w_0 s_.1 s_.2) (([] : List api_Kind), 0)).bind (fun e_ => tourref3_Open_j1 w_2 w_0 x7 w_1 e_))))
noncomputable def tourlaw3_same (w_0 : List api_Kind) (w_1 : List Int) (w_2 : List api_Item) (e_1 : Int) : Option Bool :=
 cnd (!(e_1 == 0)) ((tourref3_SameWorld w_0 w_1 w_2 [] [] []).bind fun x3 =>
 some x3) (none)
noncomputable def tourref3_Flat_Room_j1 (f_1 : List Int) : Option (Int × Bool) :=
 some ((f_1.length : Int), false)
noncomputable def tourref3_Flat_Room_j3 (i1 : Int) : Option (Int ⊕ ((Int × Bool) ⊕ Unit)) :=
 some (.inl (IntKind.i64.wrap (i1 + 1)))
noncomputable def tourref3_Flat_Room_l2 (f_1 : List Int) (f_2 : List (Int × (Option (List (Int × (List Int)))))) (i1 : Int) : Option (Int ⊕ ((Int × Bool) ⊕ Unit)) :=
 cnd (decide (i1 < 256)) (cnd (decide ((f_1.length : Int) ≤ i1)) (some (.inr (.inl (i1, true)))) ((some ((mget f_2 i1).getD none)).bind fun x4 =>
 cnd x4.isNone ((idx f_1 i1).bind fun x12 =>
 cnd (decide (x12 < 1073741824)) (some (.inr (.inl (i1, true)))) (tourref3_Flat_Room_j3 i1)) (tourref3_Flat_Room_j3 i1))) (some (.inr (.inr ())))
noncomputable def tourref3_Flat_Room (f_0 : List api_Kind) (f_1 : List Int) (f_2 : List (Int × (Option (List (Int × (List Int)))))) : Option (Int × Bool) :=
 (loop (σ := Int) (ρ := ((Int × Bool) ⊕ Unit)) (fun s_ => tourref3_Flat_Room_l2 f_1 f_2 s_) 0).bind (Sum.elim (fun e_ => some (e_.1, e_.2)) (fun e_ => tourref3_Flat_Room_j1 f_1))
noncomputable def tourref3_Flat_Spawn_j1 (f_2 : List (Int × (Option (List (Int × (List Int)))))) (x11 : Int) (x2 : Option (List (Int × (List Int)))) (l23 : List Int) : Option (Int × Int × Int × (List Int) × (List (Int × (Option (List (Int × (List Int))))))) :=
 (some (mput f_2 x11 x2)).bind fun l26 =>
 (idx l23 x11).bind fun x32 =>
 some (x11, x32, 0, l23, l26)
noncomputable def tourref3_Flat_Spawn (f_0 : List api_Kind) (f_1 : List Int) (f_2 : List (Int × (Option (List (Int × (List Int)))))) (l : List api_Comp) : Option (Int × Int × Int × (List Int) × (List (Int × (Option (List (Int × (List Int))))))) :=
 bnd2 (tourref3_FittedAll f_0 l) fun x2 x3 =>
 cnd (!(x3 == 0)) (some (0, 0, x3, f_1, f_2)) (bnd2 (tourref3_Flat_Room f_0 f_1 f_2) fun x11 x12 =>
 cnd (!x12) (some (0, 0, 6, f_1, f_2)) (cnd (x11 == (f_1.length : Int)) ((app 8 f_1 ([0] : List Int)).bind fun l45 =>
 tourref3_Flat_Spawn_j1 f_2 x11 x2 l45) (tourref3_Flat_Spawn_j1 f_2 x11 x2 f_1)))
noncomputable def tourlaw3_same_v2 (w_0 : List api_Kind) (w_1 : List Int) (w_2 : List api_Item) (f_0 : List api_Kind) (f_1 : List Int) (f_2 : List (Int × (Option (List (Int × (List Int)))))) (e_1 : Int) : Option Bool :=
 cnd (!(e_1 == 0)) ((tourref3_SameWorld w_0 w_1 w_2 [] [] []).bind fun x3 =>
 some x3) (bnd3 (tourref3_Flat_Close f_0 f_1 f_2) fun x5 x6 x7 =>
 (tourref3_SameWorld w_0 w_1 w_2 x5 x6 x7).bind fun x30 =>
 some x30)
noncomputable def tourlaw3_WorldSpawns_j2 (t104 : Bool) : Option Bool :=
 some t104
noncomputable def tourlaw3_WorldSpawns_j3 (t159 : Bool) : Option Bool :=
 some t159
noncomputable def tourlaw3_WorldSpawns_j1 (w_0 : List api_Kind) (w_1 : List Int) (w_2 : List api_Item) (l : List api_Comp) : Option Bool :=
 bnd6 (world_Spawn w_0 w_1 w_2 l) fun x70 x71 x72 x73 x74 x75 =>
 (tourref3_Open w_0 w_1 w_2).bind (Sum.elim (fun x96 =>
 cnd (!(x96 == 0)) (cnd (x75 == x96) (cnd (x73 == 0 && (x74 == 0)) ((tourlaw3_same x70 x71 x72 x96).bind fun x107 =>
 tourlaw3_WorldSpawns_j2 x107) (tourlaw3_WorldSpawns_j2 false)) (tourlaw3_WorldSpawns_j2 false)) (bnd2 (world_Free w_0 w_1 w_2) fun x109 x110 =>
 none)) (un3 fun x97 x98 x99 =>
 bnd2 (world_Free w_0 w_1 w_2) fun x127 x128 =>
 bnd2 (tourref3_Flat_Room x97 x98 x99) fun x130 x131 =>
 cnd (!(x127 == x130)) (some false) (cnd (!(x128 == x131)) (some false) (bnd5 (tourref3_Flat_Spawn x97 x98 x99 l) fun x141 x142 x143 x144 x145 =>
 cnd (x75 == x143) (cnd (x73 == x141 && (x74 == x142)) ((tourlaw3_same_v2 x70 x71 x72 x97 x144 x145 x143).bind fun x176 =>
 tourlaw3_WorldSpawns_j3 x176) (tourlaw3_WorldSpawns_j3 false)) (tourlaw3_WorldSpawns_j3 false)))))
noncomputable def tourlaw3_WorldSpawns (w_0 : List api_Kind) (w_1 : List Int) (w_2 : List api_Item) (l : List api_Comp) : Option Bool :=
 bnd3 (tourlaw3_pair) fun x2 x3 x4 =>
 bnd6 (world_Spawn x2 x3 x4 []) fun x30 x31 x32 x33 x34 x35 =>
 cnd (!(x35 == 0)) (some false) (cnd (!(x33 == 2)) (some false) (bnd2 (world_Fit w_0 l) fun x56 x57 =>
 (tourref3_KindsError w_0).bind fun x66 =>
 cnd (x66 == 0) (bnd2 (tourref3_FittedAll w_0 l) fun x188 x189 =>
 cnd (!(x57 == x189)) (some false) (cnd (x189 == 0) ((tourref3_Listed x188).bind fun x198 =>
 (slices_EqualFunc_api_Comp_api_Comp_api_Comp_api_Comp x56 x198).bind fun x207 =>
 cnd (!x207) (some false) (tourlaw3_WorldSpawns_j1 w_0 w_1 w_2 l)) (cnd (decide (0 < (x56.length : Int))) (some false) (tourlaw3_WorldSpawns_j1 w_0 w_1 w_2 l)))) (cnd (!(x57 == x66)) (some false) (cnd (decide (0 < (x56.length : Int))) (some false) (tourlaw3_WorldSpawns_j1 w_0 w_1 w_2 l)))))
end Go.Proofs.YtbfndcookgijfaaGreatDoor.W
