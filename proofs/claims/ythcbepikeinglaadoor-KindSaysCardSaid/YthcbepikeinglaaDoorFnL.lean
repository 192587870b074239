/- The Go functions as plain functions over Option. No condition. -/
import Derived.Test.YthcbepikeinglaaDoorTyL
namespace Go.Proofs.YthcbepikeinglaaDoor.L
open Go Go.RowKit Go.Proofs.YthcbepikeinglaaDoor.Sx
set_option linter.unusedVariables false
noncomputable def tourlaw3_two : Option ((List api_Kind)) :=
 some ([(api_Kind.mk (⟨#[112, 108, 97, 99, 101]⟩) ([(api_Field.mk (⟨#[120]⟩) 3 (-2))] : List api_Field)), (api_Kind.mk (⟨#[108, 105, 102, 101]⟩) ([(api_Field.mk (⟨#[120]⟩) 8 0)] : List api_Field))] : List api_Kind)
noncomputable def kind_Name_j1 : Option Bool :=
 some true
noncomputable def kind_Name_j3 (i3 : Int) : Option (Int ⊕ (Bool ⊕ Unit)) :=
 some (.inl (IntKind.i64.wrap (i3 + 1)))
noncomputable def kind_Name_l2 (s : ByteArray) (i3 : Int) : Option (Int ⊕ (Bool ⊕ Unit)) :=
 cnd (decide (i3 < (s.size : Int))) ((sidx s i3).bind fun x5 =>
 cnd (decide (97 ≤ x5)) (cnd (decide (x5 ≤ 122)) (kind_Name_j3 i3) (cnd (decide (0 < i3)) (cnd (decide (48 ≤ x5)) (cnd (!(decide (x5 ≤ 57))) (some (.inr (.inl false))) (kind_Name_j3 i3)) (some (.inr (.inl false)))) (some (.inr (.inl false))))) (cnd (decide (0 < i3)) (cnd (decide (48 ≤ x5)) (cnd (!(decide (x5 ≤ 57))) (some (.inr (.inl false))) (kind_Name_j3 i3)) (some (.inr (.inl false)))) (some (.inr (.inl false))))) (some (.inr (.inr ())))
noncomputable def kind_Name (s : ByteArray) : Option Bool :=
 cnd ((s.size : Int) == 0) (some false) (cnd (decide (16 < (s.size : Int))) (some false) ((loop (σ := Int) (ρ := (Bool ⊕ Unit)) (fun s_ => kind_Name_l2 s s_) 0).bind (Sum.elim (fun e_ => some e_) (fun e_ => kind_Name_j1))))
noncomputable def kind_field (f_0 : ByteArray) (f_1 : Int) (f_2 : Int) : Option Int :=
 (kind_Name f_0).bind fun x2 =>
 cnd (!x2) (some 3) (cnd (decide (f_1 < 1)) (some 3) (cnd (decide (32 < f_1)) (some 3) (cnd (decide (f_2 < (-4294967296))) (some 3) (cnd (decide (4294967296 < f_2)) (some 3) (some 0)))))
noncomputable def kind_One_j1 : Option Int :=
 some 0
noncomputable def kind_One_j3 (i6 : Int) : Option (Int ⊕ (Int ⊕ Unit)) :=
 some (.inl (IntKind.i64.wrap (i6 + 1)))
noncomputable def kind_One_l4 (l23 : List api_Field) (x8 : api_Field) (i34 : Int) : Option (Int ⊕ (Int ⊕ Unit)) :=
 cnd (decide (i34 < (l23.length : Int))) ((idx l23 i34).bind fun x36 =>
 cnd (x36.Name.toList == x8.Name.toList) (some (.inr (.inl 5))) (some (.inl (IntKind.i64.wrap (i34 + 1))))) (some (.inr (.inr ())))
noncomputable def kind_One_l2 (k_1 : List api_Field) (i6 : Int) : Option (Int ⊕ (Int ⊕ Unit)) :=
 cnd (decide (i6 < (k_1.length : Int))) ((idx k_1 i6).bind fun x8 =>
 (kind_field x8.Name x8.Bits x8.Low).bind fun x20 =>
 cnd (!(x20 == 0)) (some (.inr (.inl x20))) ((cut k_1 0 i6).bind fun l23 =>
 (loop (σ := Int) (ρ := (Int ⊕ Unit)) (fun s_ => kind_One_l4 l23 x8 s_) 0).bind (Sum.elim (fun e_ => some (.inr (.inl e_))) (fun e_ => kind_One_j3 i6)))) (some (.inr (.inr ())))
noncomputable def kind_One (k_0 : ByteArray) (k_1 : List api_Field) : Option Int :=
 (kind_Name k_0).bind fun x2 =>
 cnd (!x2) (some 3) (cnd (decide (8 < (k_1.length : Int))) (some 2) ((loop (σ := Int) (ρ := (Int ⊕ Unit)) (fun s_ => kind_One_l2 k_1 s_) 0).bind (Sum.elim (fun e_ => some e_) (fun e_ => kind_One_j1))))
noncomputable def kind_High (f_0 : ByteArray) (f_1 : Int) (f_2 : Int) : Option Int :=
 (kind_field f_0 f_1 f_2).bind fun x2 =>
 cnd (!(x2 == 0)) (some 0) ((shl .i64 1 f_1).bind fun x5 =>
 some (IntKind.i64.wrap (f_2 + IntKind.i64.wrap (x5 - 1))))
noncomputable def kind_Near (f_0 : ByteArray) (f_1 : Int) (f_2 : Int) (v : Int) : Option Int :=
 (kind_field f_0 f_1 f_2).bind fun x2 =>
 cnd (!(x2 == 0)) (some 0) ((kind_High f_0 f_1 f_2).bind fun x5 =>
 some (max f_2 (min v x5)))
noncomputable def kind_Fit_j1 (l17 : List Int) : Option ((List Int) × Int) :=
 some (l17, 0)
noncomputable def kind_Fit_l2 (k_1 : List api_Field) (vals : List Int) (l20 : List Int) (i23 : Int) : Option (((List Int) × Int) ⊕ (List Int)) :=
 cnd (decide (i23 < (k_1.length : Int))) ((idx k_1 i23).bind fun x25 =>
 (idx vals i23).bind fun x37 =>
 (kind_Near x25.Name x25.Bits x25.Low x37).bind fun x48 =>
 (idx l20 i23).bind fun x50 =>
 (upd l20 i23 x48).bind fun l59 =>
 some (.inl (l59, IntKind.i64.wrap (i23 + 1)))) (some (.inr l20))
noncomputable def kind_Fit (k_0 : ByteArray) (k_1 : List api_Field) (vals : List Int) : Option ((List Int) × Int) :=
 (kind_One k_0 k_1).bind fun x2 =>
 cnd (!(x2 == 0)) (some (([] : List Int), x2)) (cnd (!((vals.length : Int) == (k_1.length : Int))) (some (([] : List Int), 1)) ((mk 8 (vals.length : Int) (0 : Int)).bind fun l6 =>
 (loop (σ := (List Int) × Int) (ρ := (List Int)) (fun s_ => kind_Fit_l2 k_1 vals s_.1 s_.2) (l6, 0)).bind (fun e_ => kind_Fit_j1 e_)))
noncomputable def slices_Equal_int_int_j1 : Option Bool :=
 some true
noncomputable def slices_Equal_int_int_l2 (s1_1 : List Int) (s2_1 : List Int) (i2 : Int) : Option (Int ⊕ (Bool ⊕ Unit)) :=
 cnd (decide (i2 < (s1_1.length : Int))) ((idx s1_1 i2).bind fun x4 =>
 (idx s2_1 i2).bind fun x15 =>
 cnd (!(x4 == x15)) (some (.inr (.inl false))) (some (.inl (IntKind.i64.wrap (i2 + 1))))) (some (.inr (.inr ())))
noncomputable def slices_Equal_int_int (s1_1 : List Int) (s2_1 : List Int) : Option Bool :=
 cnd (!((s1_1.length : Int) == (s2_1.length : Int))) (some false) ((loop (σ := Int) (ρ := (Bool ⊕ Unit)) (fun s_ => slices_Equal_int_int_l2 s1_1 s2_1 s_) 0).bind (Sum.elim (fun e_ => some e_) (fun e_ => slices_Equal_int_int_j1)))
noncomputable def strings_Trim (s_ : ByteArray) : Option ByteArray := trim s_ [97, 98, 99, 100, 101, 102, 103, 104, 105, 106, 107, 108, 109, 110, 111, 112, 113, 114, 115, 116, 117, 118, 119, 120, 121, 122, 48, 49, 50, 51, 52, 53, 54, 55, 56, 57]
noncomputable def tourref3_IsName_j1 (t1 : Bool) : Option Bool :=
 some t1
noncomputable def tourref3_IsName (s : ByteArray) : Option Bool :=
 cnd (!(s.toList == (⟨#[]⟩ : ByteArray).toList)) (cnd (decide ((s.size : Int) < 17)) ((strings_Trim s).bind fun x4 =>
 cnd (x4.toList == (⟨#[]⟩ : ByteArray).toList) ((sidx s 0).bind fun x7 =>
 tourref3_IsName_j1 (decide (57 < x7))) (tourref3_IsName_j1 false)) (tourref3_IsName_j1 false)) (tourref3_IsName_j1 false)
noncomputable def tourref3_FieldOK_j1 (t2 : Bool) : Option Bool :=
 some t2
noncomputable def tourref3_FieldOK (f_0 : ByteArray) (f_1 : Int) (f_2 : Int) : Option Bool :=
 (tourref3_IsName f_0).bind fun x3 =>
 cnd x3 (cnd (decide (0 < f_1)) (cnd (decide (f_1 < 33)) (cnd (decide ((-4294967296) ≤ f_2)) (tourref3_FieldOK_j1 (decide (f_2 ≤ 4294967296))) (tourref3_FieldOK_j1 false)) (tourref3_FieldOK_j1 false)) (tourref3_FieldOK_j1 false)) (tourref3_FieldOK_j1 false)
noncomputable def slices_Index_string_string_j1 : Option Int :=
 some (-1)
noncomputable def slices_Index_string_string_l2 (s : List ByteArray) (v : ByteArray) (i1 : Int) : Option (Int ⊕ (Int ⊕ Unit)) :=
 cnd (decide (i1 < (s.length : Int))) ((idx s i1).bind fun x3 =>
 cnd (v.toList == x3.toList) (some (.inr (.inl i1))) (some (.inl (IntKind.i64.wrap (i1 + 1))))) (some (.inr (.inr ())))
noncomputable def slices_Index_string_string (s : List ByteArray) (v : ByteArray) : Option Int :=
 (loop (σ := Int) (ρ := (Int ⊕ Unit)) (fun s_ => slices_Index_string_string_l2 s v s_) 0).bind (Sum.elim (fun e_ => some e_) (fun e_ => slices_Index_string_string_j1))
noncomputable def slices_Contains_string_string (s : List ByteArray) (v : ByteArray) : Option Bool :=
 (slices_Index_string_string s v).bind fun x1 =>
 some (decide (0 ≤ x1))
noncomputable def tourref3_twice (l : List ByteArray) (s : ByteArray) : Option Bool :=
 (slices_Contains_string_string l s).bind fun x1 =>
 some x1
noncomputable def tourref3_KindError_j1 : Option Int :=
 some 0
noncomputable def tourref3_KindError_l2 (k_1 : List api_Field) (l8 : List ByteArray) (i11 : Int) : Option (((List ByteArray) × Int) ⊕ (Int ⊕ Unit)) :=
 cnd (decide (i11 < (k_1.length : Int))) ((idx k_1 i11).bind fun x13 =>
 (tourref3_FieldOK x13.Name x13.Bits x13.Low).bind fun x25 =>
 cnd (!x25) (some (.inr (.inl 3))) ((tourref3_twice l8 x13.Name).bind fun x28 =>
 cnd x28 (some (.inr (.inl 5))) ((app 16 l8 ([x13.Name] : List ByteArray)).bind fun l33 =>
 some (.inl (l33, IntKind.i64.wrap (i11 + 1)))))) (some (.inr (.inr ())))
noncomputable def tourref3_KindError (k_0 : ByteArray) (k_1 : List api_Field) : Option Int :=
 (tourref3_IsName k_0).bind fun x2 =>
 cnd (!x2) (some 3) (cnd (decide (8 < (k_1.length : Int))) (some 2) ((loop (σ := (List ByteArray) × Int) (ρ := (Int ⊕ Unit)) (fun s_ => tourref3_KindError_l2 k_1 s_.1 s_.2) (([] : List ByteArray), 0)).bind (Sum.elim (fun e_ => some e_) (fun e_ => tourref3_KindError_j1))))
noncomputable def tourref3_Top_j1 (f_2 : Int) (i2 : Int) : Option Int :=
 some (IntKind.i64.wrap (IntKind.i64.wrap (f_2 + i2) - 1))
noncomputable def tourref3_Top_l2 (f_1 : Int) (i3 : Int) (i4 : Int) : Option ((Int × Int) ⊕ Int) :=
 cnd (decide (i4 < f_1)) (some (.inl (IntKind.i64.wrap (i3 * 2), IntKind.i64.wrap (i4 + 1)))) (some (.inr i3))
noncomputable def tourref3_Top (f_0 : ByteArray) (f_1 : Int) (f_2 : Int) : Option Int :=
 (loop (σ := Int × Int) (ρ := Int) (fun s_ => tourref3_Top_l2 f_1 s_.1 s_.2) (1, 0)).bind (fun e_ => tourref3_Top_j1 f_2 e_)
noncomputable def tourref3_Nearest (f_0 : ByteArray) (f_1 : Int) (f_2 : Int) (v : Int) : Option Int :=
 (tourref3_FieldOK f_0 f_1 f_2).bind fun x2 =>
 cnd (!x2) (some 0) (cnd (decide (v < f_2)) (some f_2) ((tourref3_Top f_0 f_1 f_2).bind fun x6 =>
 cnd (decide (x6 < v)) ((tourref3_Top f_0 f_1 f_2).bind fun x9 =>
 some x9) (some v)))
noncomputable def tourref3_Fitted_j1 (l8 : List Int) : Option ((List Int) × Int) :=
 some (l8, 0)
noncomputable def tourref3_Fitted_l2 (vals : List Int) (k_1 : List api_Field) (l13 : List Int) (i16 : Int) : Option (((List Int) × Int) ⊕ (List Int)) :=
 cnd (decide (i16 < (vals.length : Int))) ((idx k_1 i16).bind fun x18 =>
 (idx vals i16).bind fun x29 =>
 (tourref3_Nearest x18.Name x18.Bits x18.Low x29).bind fun x40 =>
 (app 8 l13 ([x40] : List Int)).bind fun l44 =>
 some (.inl (l44, IntKind.i64.wrap (i16 + 1)))) (some (.inr l13))
noncomputable def tourref3_Fitted (k_0 : ByteArray) (k_1 : List api_Field) (vals : List Int) : Option ((List Int) × Int) :=
 (tourref3_KindError k_0 k_1).bind fun x2 =>
 cnd (!(x2 == 0)) (some (([] : List Int), x2)) (cnd (!((vals.length : Int) == (k_1.length : Int))) (some (([] : List Int), 1)) ((loop (σ := (List Int) × Int) (ρ := (List Int)) (fun s_ => tourref3_Fitted_l2 vals k_1 s_.1 s_.2) (([] : List Int), 0)).bind (fun e_ => tourref3_Fitted_j1 e_)))
noncomputable def kind_Holds_j1 : Option Bool :=
 some true
noncomputable def kind_Holds_l2 (x2 : List Int) (vals : List Int) (i10 : Int) : Option (Int ⊕ (Bool ⊕ Unit)) :=
 cnd (decide (i10 < (x2.length : Int))) ((idx x2 i10).bind fun x12 =>
 (idx vals i10).bind fun x22 =>
 cnd (!(x12 == x22)) (some (.inr (.inl false))) (some (.inl (IntKind.i64.wrap (i10 + 1))))) (some (.inr (.inr ())))
noncomputable def kind_Holds (k_0 : ByteArray) (k_1 : List api_Field) (vals : List Int) : Option Bool :=
 bnd2 (kind_Fit k_0 k_1 vals) fun x2 x3 =>
 cnd (!(x3 == 0)) (some false) ((loop (σ := Int) (ρ := (Bool ⊕ Unit)) (fun s_ => kind_Holds_l2 x2 vals s_) 0).bind (Sum.elim (fun e_ => some e_) (fun e_ => kind_Holds_j1)))
noncomputable def kind_Find_j1 : Option Int :=
 some (-1)
noncomputable def kind_Find_l2 (l : List api_Kind) (name : ByteArray) (i1 : Int) : Option (Int ⊕ (Int ⊕ Unit)) :=
 cnd (decide (i1 < (l.length : Int))) ((idx l i1).bind fun x3 =>
 cnd (x3.Name.toList == name.toList) (some (.inr (.inl i1))) (some (.inl (IntKind.i64.wrap (i1 + 1))))) (some (.inr (.inr ())))
noncomputable def kind_Find (l : List api_Kind) (name : ByteArray) : Option Int :=
 (loop (σ := Int) (ρ := (Int ⊕ Unit)) (fun s_ => kind_Find_l2 l name s_) 0).bind (Sum.elim (fun e_ => some e_) (fun e_ => kind_Find_j1))
noncomputable def kind_Check_j1 : Option Int :=
 some 0
noncomputable def kind_Check_l2 (l : List api_Kind) (i2 : Int) : Option (Int ⊕ (Int ⊕ Unit)) :=
 cnd (decide (i2 < (l.length : Int))) ((idx l i2).bind fun x4 =>
 (kind_One x4.Name x4.Fields).bind fun x19 =>
 cnd (!(x19 == 0)) (some (.inr (.inl x19))) ((cut l 0 i2).bind fun l22 =>
 (kind_Find l22 x4.Name).bind fun x33 =>
 cnd (decide (0 ≤ x33)) (some (.inr (.inl 5))) (some (.inl (IntKind.i64.wrap (i2 + 1)))))) (some (.inr (.inr ())))
noncomputable def kind_Check (l : List api_Kind) : Option Int :=
 cnd (decide (16 < (l.length : Int))) (some 2) ((loop (σ := Int) (ρ := (Int ⊕ Unit)) (fun s_ => kind_Check_l2 l s_) 0).bind (Sum.elim (fun e_ => some e_) (fun e_ => kind_Check_j1)))
noncomputable def tourref3_KindsError_j1 : Option Int :=
 some 0
noncomputable def tourref3_KindsError_l2 (l : List api_Kind) (l4 : List ByteArray) (i7 : Int) : Option (((List ByteArray) × Int) ⊕ (Int ⊕ Unit)) :=
 cnd (decide (i7 < (l.length : Int))) ((idx l i7).bind fun x9 =>
 (tourref3_KindError x9.Name x9.Fields).bind fun x24 =>
 cnd (!(x24 == 0)) (some (.inr (.inl x24))) ((tourref3_twice l4 x9.Name).bind fun x27 =>
 cnd x27 (some (.inr (.inl 5))) ((app 16 l4 ([x9.Name] : List ByteArray)).bind fun l32 =>
 some (.inl (l32, IntKind.i64.wrap (i7 + 1)))))) (some (.inr (.inr ())))
noncomputable def tourref3_KindsError (l : List api_Kind) : Option Int :=
 cnd (decide (16 < (l.length : Int))) (some 2) ((loop (σ := (List ByteArray) × Int) (ρ := (Int ⊕ Unit)) (fun s_ => tourref3_KindsError_l2 l s_.1 s_.2) (([] : List ByteArray), 0)).bind (Sum.elim (fun e_ => some e_) (fun e_ => tourref3_KindsError_j1)))
noncomputable def kind_Width_j1 (i5 : Int) : Option (Int × Int) :=
 some (i5, 0)
noncomputable def kind_Width_l2 (k_1 : List api_Field) (i6 : Int) (i7 : Int) : Option ((Int × Int) ⊕ Int) :=
 cnd (decide (i7 < (k_1.length : Int))) ((idx k_1 i7).bind fun x9 =>
 some (.inl (IntKind.i64.wrap (i6 + x9.Bits), IntKind.i64.wrap (i7 + 1)))) (some (.inr i6))
noncomputable def kind_Width (k_0 : ByteArray) (k_1 : List api_Field) : Option (Int × Int) :=
 (kind_One k_0 k_1).bind fun x2 =>
 cnd (!(x2 == 0)) (some (0, x2)) ((loop (σ := Int × Int) (ρ := Int) (fun s_ => kind_Width_l2 k_1 s_.1 s_.2) (0, 0)).bind (fun e_ => kind_Width_j1 e_))
noncomputable def kind_Default (k_0 : ByteArray) (k_1 : List api_Field) : Option ((List Int)) :=
 (mk 8 (k_1.length : Int) (0 : Int)).bind fun l2 =>
 bnd2 (kind_Fit k_0 k_1 l2) fun x13 x14 =>
 some x13
noncomputable def tourlaw3_KindSays_2 (x_0 : ByteArray) (x_1 : Int) (x_2 : Int) (p1_0 : ByteArray) : Option Bool :=
 some (x_0.toList == p1_0.toList)
noncomputable def slices_IndexFunc_api_Field_api_Field_j1 : Option Int :=
 some (-1)
noncomputable def slices_IndexFunc_api_Field_api_Field_l2 (s : List api_Field) (f_c0_0 : ByteArray) (i1 : Int) : Option (Int ⊕ (Int ⊕ Unit)) :=
 cnd (decide (i1 < (s.length : Int))) ((idx s i1).bind fun x3 =>
 (tourlaw3_KindSays_2 x3.Name x3.Bits x3.Low f_c0_0).bind fun x14 =>
 cnd x14 (some (.inr (.inl i1))) (some (.inl (IntKind.i64.wrap (i1 + 1))))) (some (.inr (.inr ())))
noncomputable def slices_IndexFunc_api_Field_api_Field (s : List api_Field) (f_c0_0 : ByteArray) : Option Int :=
 (loop (σ := Int) (ρ := (Int ⊕ Unit)) (fun s_ => slices_IndexFunc_api_Field_api_Field_l2 s f_c0_0 s_) 0).bind (Sum.elim (fun e_ => some e_) (fun e_ => slices_IndexFunc_api_Field_api_Field_j1))
noncomputable def tourlaw3_KindSays_1 (x_0 : ByteArray) (x_1 : List api_Field) (p1_0 : ByteArray) : Option Bool :=
 some (x_0.toList == p1_0.toList)
noncomputable def slices_IndexFunc_api_Kind_api_Kind_j1 : Option Int :=
 some (-1)
noncomputable def slices_IndexFunc_api_Kind_api_Kind_l2 (s : List api_Kind) (f_c0_0 : ByteArray) (i1 : Int) : Option (Int ⊕ (Int ⊕ Unit)) :=
 cnd (decide (i1 < (s.length : Int))) ((idx s i1).bind fun x3 =>
 (tourlaw3_KindSays_1 x3.Name x3.Fields f_c0_0).bind fun x17 =>
 cnd x17 (some (.inr (.inl i1))) (some (.inl (IntKind.i64.wrap (i1 + 1))))) (some (.inr (.inr ())))
noncomputable def slices_IndexFunc_api_Kind_api_Kind (s : List api_Kind) (f_c0_0 : ByteArray) : Option Int :=
 (loop (σ := Int) (ρ := (Int ⊕ Unit)) (fun s_ => slices_IndexFunc_api_Kind_api_Kind_l2 s f_c0_0 s_) 0).bind (Sum.elim (fun e_ => some e_) (fun e_ => slices_IndexFunc_api_Kind_api_Kind_j1))
noncomputable def kind_Field_j1 : Option Int :=
 some (-1)
noncomputable def kind_Field_l2 (k_1 : List api_Field) (name : ByteArray) (i2 : Int) : Option (Int ⊕ (Int ⊕ Unit)) :=
 cnd (decide (i2 < (k_1.length : Int))) ((idx k_1 i2).bind fun x4 =>
 cnd (x4.Name.toList == name.toList) (some (.inr (.inl i2))) (some (.inl (IntKind.i64.wrap (i2 + 1))))) (some (.inr (.inr ())))
noncomputable def kind_Field (k_0 : ByteArray) (k_1 : List api_Field) (name : ByteArray) : Option Int :=
 (loop (σ := Int) (ρ := (Int ⊕ Unit)) (fun s_ => kind_Field_l2 k_1 name s_) 0).bind (Sum.elim (fun e_ => some e_) (fun e_ => kind_Field_j1))
noncomputable def kind_Copy_j1 (l12 : List api_Kind) : Option ((List api_Kind)) :=
 some l12
noncomputable def kind_Copy_l2 (l : List api_Kind) (l17 : List api_Kind) (i20 : Int) : Option (((List api_Kind) × Int) ⊕ (List api_Kind)) :=
 cnd (decide (i20 < (l.length : Int))) ((idx l i20).bind fun x24 =>
 (app 32 ([] : List api_Field) x24.Fields).bind fun l39 =>
 (idx l17 i20).bind fun x51 =>
 (upd l17 i20 (api_Kind.mk x24.Name l39)).bind fun l67 =>
 some (.inl (l67, IntKind.i64.wrap (i20 + 1)))) (some (.inr l17))
noncomputable def kind_Copy (l : List api_Kind) : Option ((List api_Kind)) :=
 (mk 40 (l.length : Int) ((api_Kind.mk ByteArray.empty []) : api_Kind)).bind fun l1 =>
 (loop (σ := (List api_Kind) × Int) (ρ := (List api_Kind)) (fun s_ => kind_Copy_l2 l s_.1 s_.2) (l1, 0)).bind (fun e_ => kind_Copy_j1 e_)
noncomputable def slices_Equal_api_Field_api_Field_j1 : Option Bool :=
 some true
noncomputable def slices_Equal_api_Field_api_Field_l2 (s1_1 : List api_Field) (s2_1 : List api_Field) (i2 : Int) : Option (Int ⊕ (Bool ⊕ Unit)) :=
 cnd (decide (i2 < (s1_1.length : Int))) ((idx s1_1 i2).bind fun x4 =>
 (idx s2_1 i2).bind fun x15 =>
 cnd (!(x4.Name.toList == x15.Name.toList && (x4.Bits == x15.Bits && (x4.Low == x15.Low)))) (some (.inr (.inl false))) (some (.inl (IntKind.i64.wrap (i2 + 1))))) (some (.inr (.inr ())))
noncomputable def slices_Equal_api_Field_api_Field (s1_1 : List api_Field) (s2_1 : List api_Field) : Option Bool :=
 cnd (!((s1_1.length : Int) == (s2_1.length : Int))) (some false) ((loop (σ := Int) (ρ := (Bool ⊕ Unit)) (fun s_ => slices_Equal_api_Field_api_Field_l2 s1_1 s2_1 s_) 0).bind (Sum.elim (fun e_ => some e_) (fun e_ => slices_Equal_api_Field_api_Field_j1)))
noncomputable def tourref3_SameKind_j1 (t3 : Bool) : Option Bool :=
 some t3
noncomputable def tourref3_SameKind (a_0 : ByteArray) (a_1 : List api_Field) (b_0 : ByteArray) (b_1 : List api_Field) : Option Bool :=
 cnd (a_0.toList == b_0.toList) ((slices_Equal_api_Field_api_Field a_1 b_1).bind fun x5 =>
 tourref3_SameKind_j1 x5) (tourref3_SameKind_j1 false)
noncomputable def slices_EqualFunc_api_Kind_api_Kind_api_Kind_api_Kind_j1 : Option Bool :=
 some true
noncomputable def slices_EqualFunc_api_Kind_api_Kind_api_Kind_api_Kind_l2 (s1_1 : List api_Kind) (s2_1 : List api_Kind) (i2 : Int) : Option (Int ⊕ (Bool ⊕ Unit)) :=
 cnd (decide (i2 < (s1_1.length : Int))) ((idx s1_1 i2).bind fun x4 =>
 (idx s2_1 i2).bind fun x19 =>
 (tourref3_SameKind x4.Name x4.Fields x19.Name x19.Fields).bind fun x34 =>
 cnd (!x34) (some (.inr (.inl false))) (some (.inl (IntKind.i64.wrap (i2 + 1))))) (some (.inr (.inr ())))
noncomputable def slices_EqualFunc_api_Kind_api_Kind_api_Kind_api_Kind (s1_1 : List api_Kind) (s2_1 : List api_Kind) : Option Bool :=
 cnd (!((s1_1.length : Int) == (s2_1.length : Int))) (some false) ((loop (σ := Int) (ρ := (Bool ⊕ Unit)) (fun s_ => slices_EqualFunc_api_Kind_api_Kind_api_Kind_api_Kind_l2 s1_1 s2_1 s_) 0).bind (Sum.elim (fun e_ => some e_) (fun e_ => slices_EqualFunc_api_Kind_api_Kind_api_Kind_api_Kind_j1)))
noncomputable def kind_Same_j1 : Option Bool :=
 some true
noncomputable def kind_Same_j3 (i2 : Int) : Option (Int ⊕ (Bool ⊕ Unit)) :=
 some (.inl (IntKind.i64.wrap (i2 + 1)))
noncomputable def kind_Same_l4 (x62 : api_Kind) (a : List api_Kind) (i2 : Int) (b : List api_Kind) (i76 : Int) : Option (Int ⊕ (Bool ⊕ Unit)) :=
 cnd (decide (i76 < (x62.Fields.length : Int))) ((idx a i2).bind fun x78 =>
 (idx x78.Fields i76).bind fun x92 =>
 (idx b i2).bind fun x103 =>
 (idx x103.Fields i76).bind fun x117 =>
 cnd (!(x92.Name.toList == x117.Name.toList && (x92.Bits == x117.Bits && (x92.Low == x117.Low)))) (some (.inr (.inl false))) (some (.inl (IntKind.i64.wrap (i76 + 1))))) (some (.inr (.inr ())))
noncomputable def kind_Same_l2 (a : List api_Kind) (b : List api_Kind) (i2 : Int) : Option (Int ⊕ (Bool ⊕ Unit)) :=
 cnd (decide (i2 < (a.length : Int))) ((idx a i2).bind fun x4 =>
 (idx b i2).bind fun x18 =>
 cnd (!(x4.Name.toList == x18.Name.toList)) (some (.inr (.inl false))) ((idx a i2).bind fun x33 =>
 (idx b i2).bind fun x47 =>
 cnd (!((x33.Fields.length : Int) == (x47.Fields.length : Int))) (some (.inr (.inl false))) ((idx a i2).bind fun x62 =>
 (loop (σ := Int) (ρ := (Bool ⊕ Unit)) (fun s_ => kind_Same_l4 x62 a i2 b s_) 0).bind (Sum.elim (fun e_ => some (.inr (.inl e_))) (fun e_ => kind_Same_j3 i2))))) (some (.inr (.inr ())))
noncomputable def kind_Same (a : List api_Kind) (b : List api_Kind) : Option Bool :=
 cnd (!((a.length : Int) == (b.length : Int))) (some false) ((loop (σ := Int) (ρ := (Bool ⊕ Unit)) (fun s_ => kind_Same_l2 a b s_) 0).bind (Sum.elim (fun e_ => some e_) (fun e_ => kind_Same_j1)))
noncomputable def tourlaw3_KindSays_j4 (t77 : Bool) : Option Bool :=
 some t77
noncomputable def tourlaw3_KindSays_j3 (k_1 : List api_Field) (s : ByteArray) (l : List api_Kind) (k_0 : ByteArray) : Option Bool :=
 (slices_IndexFunc_api_Field_api_Field k_1 s).bind fun x75 =>
 (kind_Find l s).bind fun x80 =>
 (slices_IndexFunc_api_Kind_api_Kind l s).bind fun x82 =>
 cnd (x80 == x82) ((kind_Field k_0 k_1 s).bind fun x85 =>
 cnd (x85 == x75) ((kind_Copy l).bind fun x88 =>
 (slices_EqualFunc_api_Kind_api_Kind_api_Kind_api_Kind x88 l).bind fun x97 =>
 cnd x97 ((app 40 ([(api_Kind.mk k_0 k_1)] : List api_Kind) l).bind fun l109 =>
 (kind_Same l l109).bind fun x121 =>
 (app 40 ([(api_Kind.mk k_0 k_1)] : List api_Kind) l).bind fun l125 =>
 (slices_EqualFunc_api_Kind_api_Kind_api_Kind_api_Kind l l125).bind fun x137 =>
 cnd (x121 == x137) ((kind_Same l l).bind fun x171 =>
 tourlaw3_KindSays_j4 x171) (tourlaw3_KindSays_j4 false)) (tourlaw3_KindSays_j4 false)) (tourlaw3_KindSays_j4 false)) (tourlaw3_KindSays_j4 false)
noncomputable def tourlaw3_KindSays_j2 (k_0 : ByteArray) (k_1 : List api_Field) (x72 : Int) (x71 : Int) (x64 : List Int) (s : ByteArray) (l : List api_Kind) (i74 : Int) : Option Bool :=
 (tourref3_KindError k_0 k_1).bind fun x358 =>
 cnd (!(x72 == x358)) (some false) (cnd (x72 == 0) (cnd (!(x71 == i74)) (some false) ((kind_Default k_0 k_1).bind fun x363 =>
 (slices_Equal_int_int x363 x64).bind fun x369 =>
 cnd (!x369) (some false) (tourlaw3_KindSays_j3 k_1 s l k_0))) (cnd (!(x71 == 0)) (some false) ((kind_Default k_0 k_1).bind fun x373 =>
 (slices_Equal_int_int x373 x64).bind fun x379 =>
 cnd (!x379) (some false) (tourlaw3_KindSays_j3 k_1 s l k_0))))
noncomputable def tourlaw3_KindSays_l5 (k_1 : List api_Field) (i382 : Int) (i383 : Int) : Option ((Int × Int) ⊕ Int) :=
 cnd (decide (i383 < (k_1.length : Int))) ((idx k_1 i383).bind fun x385 =>
 some (.inl (IntKind.i64.wrap (i382 + x385.Bits), IntKind.i64.wrap (i383 + 1)))) (some (.inr i382))
noncomputable def tourlaw3_KindSays_j1 (k_1 : List api_Field) (k_0 : ByteArray) (s : ByteArray) (l : List api_Kind) : Option Bool :=
 (mk 8 (k_1.length : Int) (0 : Int)).bind fun l53 =>
 bnd2 (tourref3_Fitted k_0 k_1 l53) fun x64 x65 =>
 bnd2 (kind_Width k_0 k_1) fun x71 x72 =>
 (loop (σ := Int × Int) (ρ := Int) (fun s_ => tourlaw3_KindSays_l5 k_1 s_.1 s_.2) (0, 0)).bind (fun e_ => tourlaw3_KindSays_j2 k_0 k_1 x72 x71 x64 s l e_)
noncomputable def tourlaw3_KindSays (l : List api_Kind) (k_0 : ByteArray) (k_1 : List api_Field) (vals : List Int) (s : ByteArray) : Option Bool :=
 (tourlaw3_two).bind fun x3 =>
 (idx x3 0).bind fun x11 =>
 bnd2 (kind_Fit x11.Name x11.Fields ([9] : List Int)) fun x26 x27 =>
 cnd (!(x27 == 0)) (some false) ((slices_Equal_int_int x26 ([5] : List Int)).bind fun x36 =>
 cnd (!x36) (some false) (bnd2 (kind_Fit k_0 k_1 vals) fun x39 x40 =>
 bnd2 (tourref3_Fitted k_0 k_1 vals) fun x46 x47 =>
 cnd (!(x40 == x47)) (some false) ((slices_Equal_int_int x39 x46).bind fun x398 =>
 cnd (!x398) (some false) ((kind_Holds k_0 k_1 vals).bind fun x401 =>
 cnd (x47 == 0) ((slices_Equal_int_int x46 vals).bind fun x404 =>
 cnd (!(x401 == x404)) (some false) ((kind_Name s).bind fun x407 =>
 (tourref3_IsName s).bind fun x409 =>
 cnd (!(x407 == x409)) (some false) ((kind_One k_0 k_1).bind fun x412 =>
 (tourref3_KindError k_0 k_1).bind fun x414 =>
 cnd (!(x412 == x414)) (some false) ((kind_Check l).bind fun x417 =>
 (tourref3_KindsError l).bind fun x419 =>
 cnd (!(x417 == x419)) (some false) (tourlaw3_KindSays_j1 k_1 k_0 s l))))) (cnd (!(x401 == false)) (some false) ((kind_Name s).bind fun x423 =>
 (tourref3_IsName s).bind fun x425 =>
 cnd (!(x423 == x425)) (some false) ((kind_One k_0 k_1).bind fun x428 =>
 (tourref3_KindError k_0 k_1).bind fun x430 =>
 cnd (!(x428 == x430)) (some false) ((kind_Check l).bind fun x433 =>
 (tourref3_KindsError l).bind fun x435 =>
 cnd (!(x433 == x435)) (some false) (tourlaw3_KindSays_j1 k_1 k_0 s l)))))))))
end Go.Proofs.YthcbepikeinglaaDoor.L
