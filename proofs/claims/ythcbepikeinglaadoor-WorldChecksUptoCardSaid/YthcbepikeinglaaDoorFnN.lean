/- The Go functions as plain functions over Option. No condition. -/
import Derived.Test.YthcbepikeinglaaDoorTyN
import Derived.Test.YthcbepikeinglaaDoorExMap
import Derived.Test.YthcbepikeinglaaDoorExStr
namespace Go.Proofs.YthcbepikeinglaaDoor.N
open Go Go.RowKit Go.Proofs.YthcbepikeinglaaDoor.Sx
set_option linter.unusedVariables false
noncomputable def tourlaw3_two : Option ((List api_Kind)) :=
 some ([(api_Kind.mk (⟨#[112, 108, 97, 99, 101]⟩) ([(api_Field.mk (⟨#[120]⟩) 3 (-2))] : List api_Field)), (api_Kind.mk (⟨#[108, 105, 102, 101]⟩) ([(api_Field.mk (⟨#[120]⟩) 8 0)] : List api_Field))] : List api_Kind)
noncomputable def tourlaw3_pair : Option ((List api_Kind) × (List Int) × (List api_Item)) :=
 (tourlaw3_two).bind fun x2 =>
 some (x2, ([0, 2] : List Int), ([(api_Item.mk (api_Ent.mk 0 0) ([(api_Comp.mk 0 ([4] : List Int)), (api_Comp.mk 1 ([9] : List Int))] : List api_Comp)), (api_Item.mk (api_Ent.mk 1 2) ([(api_Comp.mk 1 ([7] : List Int))] : List api_Comp))] : List api_Item))
noncomputable def kind_Name_j1 : Option Bool :=
 some true
noncomputable def kind_Name_j3 (i3 : Int) : Option (Int ⊕ (Bool ⊕ Unit)) :=
 some (.inl (IntKind.i64.wrap (i3 + 1)))
noncomputable def kind_Name_l2 (s : ByteArray) (i3 : Int) : Option (Int ⊕ (Bool ⊕ Unit)) :=
 cnd (decide (i3 < (s.size : Int))) ((sidx s i3).bind fun x5 =>
 cnd (decide (97 ≤ x5)) (cnd (decide (x5 ≤ 122)) (kind_Name_j3 i3) (cnd (decide (0 < i3)) (cnd (decide (48 ≤ x5)) (cnd (!(decide (x5 ≤ 57))) (some (.inr (.inl false))) (kind_Name_j3 i3)) (some (.inr (.inl false)))) (some (.inr (.inl false))))) (cnd (decide (0 < i3)) (cnd (decide (48 ≤ x5)) (cnd (!(decide (x5 ≤ 57))) (some (.inr (.inl false))) (kind_Name_j3 i3)) (some (.inr (.inl false)))) (some (.inr (.inl false))))) (some (.inr (.inr ())))
noncomputable def kind_Name (s : ByteArray) : Option Bool :=
 cnd ((s.size : Int) == 0) (some false) (cnd (decide (16 < (s.size : Int))) (some false) ((loop (σ := Int) (ρ := (Bool ⊕ Unit)) (fun s_ => kind_Name_l2 s s_) 0).bind (Sum.elim (fun e_ => some e_) (fun e_ => kind_Name_j1))))
noncomputable def kind_field (f_0 : ByteArray) (f_1 : Int) (f_2 : Int) : Option Int :=
 (kind_Name f_0).bind fun x2 =>
 cnd (!x2) (some 3) (cnd (decide (f_1 < 1)) (some 3) (cnd (decide (32 < f_1)) (some 3) (cnd (decide (f_2 < (-4294967296))) (some 3) (cnd (decide (4294967296 < f_2)) (some 3) (some 0)))))
noncomputable def kind_One_j1 : Option Int :=
 some 0
noncomputable def kind_One_j3 (i6 : Int) : Option (Int ⊕ (Int ⊕ Unit)) :=
 some (.inl (IntKind.i64.wrap (i6 + 1)))
noncomputable def kind_One_l4 (l23 : List api_Field) (x8 : api_Field) (i34 : Int) : Option (Int ⊕ (Int ⊕ Unit)) :=
 cnd (decide (i34 < (l23.length : Int))) ((idx l23 i34).bind fun x36 =>
 cnd (x36.Name.toList == x8.Name.toList) (some (.inr (.inl 5))) (some (.inl (IntKind.i64.wrap (i34 + 1))))) (some (.inr (.inr ())))
noncomputable def kind_One_l2 (k_1 : List api_Field) (i6 : Int) : Option (Int ⊕ (Int ⊕ Unit)) :=
 cnd (decide (i6 < (k_1.length : Int))) ((idx k_1 i6).bind fun x8 =>
 (kind_field x8.Name x8.Bits x8.Low).bind fun x20 =>
 cnd (!(x20 == 0)) (some (.inr (.inl x20))) ((cut k_1 0 i6).bind fun l23 =>
 (loop (σ := Int) (ρ := (Int ⊕ Unit)) (fun s_ => kind_One_l4 l23 x8 s_) 0).bind (Sum.elim (fun e_ => some (.inr (.inl e_))) (fun e_ => kind_One_j3 i6)))) (some (.inr (.inr ())))
noncomputable def kind_One (k_0 : ByteArray) (k_1 : List api_Field) : Option Int :=
 (kind_Name k_0).bind fun x2 =>
 cnd (!x2) (some 3) (cnd (decide (8 < (k_1.length : Int))) (some 2) ((loop (σ := Int) (ρ := (Int ⊕ Unit)) (fun s_ => kind_One_l2 k_1 s_) 0).bind (Sum.elim (fun e_ => some e_) (fun e_ => kind_One_j1))))
noncomputable def kind_Find_j1 : Option Int :=
 some (-1)
noncomputable def kind_Find_l2 (l : List api_Kind) (name : ByteArray) (i1 : Int) : Option (Int ⊕ (Int ⊕ Unit)) :=
 cnd (decide (i1 < (l.length : Int))) ((idx l i1).bind fun x3 =>
 cnd (x3.Name.toList == name.toList) (some (.inr (.inl i1))) (some (.inl (IntKind.i64.wrap (i1 + 1))))) (some (.inr (.inr ())))
noncomputable def kind_Find (l : List api_Kind) (name : ByteArray) : Option Int :=
 (loop (σ := Int) (ρ := (Int ⊕ Unit)) (fun s_ => kind_Find_l2 l name s_) 0).bind (Sum.elim (fun e_ => some e_) (fun e_ => kind_Find_j1))
noncomputable def kind_Check_j1 : Option Int :=
 some 0
noncomputable def kind_Check_l2 (l : List api_Kind) (i2 : Int) : Option (Int ⊕ (Int ⊕ Unit)) :=
 cnd (decide (i2 < (l.length : Int))) ((idx l i2).bind fun x4 =>
 (kind_One x4.Name x4.Fields).bind fun x19 =>
 cnd (!(x19 == 0)) (some (.inr (.inl x19))) ((cut l 0 i2).bind fun l22 =>
 (kind_Find l22 x4.Name).bind fun x33 =>
 cnd (decide (0 ≤ x33)) (some (.inr (.inl 5))) (some (.inl (IntKind.i64.wrap (i2 + 1)))))) (some (.inr (.inr ())))
noncomputable def kind_Check (l : List api_Kind) : Option Int :=
 cnd (decide (16 < (l.length : Int))) (some 2) ((loop (σ := Int) (ρ := (Int ⊕ Unit)) (fun s_ => kind_Check_l2 l s_) 0).bind (Sum.elim (fun e_ => some e_) (fun e_ => kind_Check_j1)))
noncomputable def kind_High (f_0 : ByteArray) (f_1 : Int) (f_2 : Int) : Option Int :=
 (kind_field f_0 f_1 f_2).bind fun x2 =>
 cnd (!(x2 == 0)) (some 0) ((shl .i64 1 f_1).bind fun x5 =>
 some (IntKind.i64.wrap (f_2 + IntKind.i64.wrap (x5 - 1))))
noncomputable def kind_Near (f_0 : ByteArray) (f_1 : Int) (f_2 : Int) (v : Int) : Option Int :=
 (kind_field f_0 f_1 f_2).bind fun x2 =>
 cnd (!(x2 == 0)) (some 0) ((kind_High f_0 f_1 f_2).bind fun x5 =>
 some (max f_2 (min v x5)))
noncomputable def kind_Fit_j1 (l17 : List Int) : Option ((List Int) × Int) :=
 some (l17, 0)
noncomputable def kind_Fit_l2 (k_1 : List api_Field) (vals : List Int) (l20 : List Int) (i23 : Int) : Option (((List Int) × Int) ⊕ (List Int)) :=
 cnd (decide (i23 < (k_1.length : Int))) ((idx k_1 i23).bind fun x25 =>
 (idx vals i23).bind fun x37 =>
 (kind_Near x25.Name x25.Bits x25.Low x37).bind fun x48 =>
 (idx l20 i23).bind fun x50 =>
 (upd l20 i23 x48).bind fun l59 =>
 some (.inl (l59, IntKind.i64.wrap (i23 + 1)))) (some (.inr l20))
noncomputable def kind_Fit (k_0 : ByteArray) (k_1 : List api_Field) (vals : List Int) : Option ((List Int) × Int) :=
 (kind_One k_0 k_1).bind fun x2 =>
 cnd (!(x2 == 0)) (some (([] : List Int), x2)) (cnd (!((vals.length : Int) == (k_1.length : Int))) (some (([] : List Int), 1)) ((mk 8 (vals.length : Int) (0 : Int)).bind fun l6 =>
 (loop (σ := (List Int) × Int) (ρ := (List Int)) (fun s_ => kind_Fit_l2 k_1 vals s_.1 s_.2) (l6, 0)).bind (fun e_ => kind_Fit_j1 e_)))
noncomputable def kind_Holds_j1 : Option Bool :=
 some true
noncomputable def kind_Holds_l2 (x2 : List Int) (vals : List Int) (i10 : Int) : Option (Int ⊕ (Bool ⊕ Unit)) :=
 cnd (decide (i10 < (x2.length : Int))) ((idx x2 i10).bind fun x12 =>
 (idx vals i10).bind fun x22 =>
 cnd (!(x12 == x22)) (some (.inr (.inl false))) (some (.inl (IntKind.i64.wrap (i10 + 1))))) (some (.inr (.inr ())))
noncomputable def kind_Holds (k_0 : ByteArray) (k_1 : List api_Field) (vals : List Int) : Option Bool :=
 bnd2 (kind_Fit k_0 k_1 vals) fun x2 x3 =>
 cnd (!(x3 == 0)) (some false) ((loop (σ := Int) (ρ := (Bool ⊕ Unit)) (fun s_ => kind_Holds_l2 x2 vals s_) 0).bind (Sum.elim (fun e_ => some e_) (fun e_ => kind_Holds_j1)))
noncomputable def world_held_j1 : Option Bool :=
 some true
noncomputable def world_held_l2 (l : List api_Comp) (k : List api_Kind) (i1 : Int) (i2 : Int) : Option ((Int × Int) ⊕ (Bool ⊕ Unit)) :=
 cnd (decide (i2 < (l.length : Int))) ((idx l i2).bind fun x4 =>
 cnd (decide (x4.Kind ≤ i1)) (some (.inr (.inl false))) (cnd (decide ((k.length : Int) ≤ x4.Kind)) (some (.inr (.inl false))) ((idx k x4.Kind).bind fun x21 =>
 (kind_Holds x21.Name x21.Fields x4.Vals).bind fun x35 =>
 cnd (!x35) (some (.inr (.inl false))) (some (.inl (x4.Kind, IntKind.i64.wrap (i2 + 1))))))) (some (.inr (.inr ())))
noncomputable def world_held (k : List api_Kind) (l : List api_Comp) : Option Bool :=
 (loop (σ := Int × Int) (ρ := (Bool ⊕ Unit)) (fun s_ => world_held_l2 l k s_.1 s_.2) ((-1), 0)).bind (Sum.elim (fun e_ => some e_) (fun e_ => world_held_j1))
noncomputable def world_Check_j2 : Option Int :=
 some 0
noncomputable def world_Check_l3 (w_2 : List api_Item) (w_1 : List Int) (w_0 : List api_Kind) (i7 : Int) (i8 : Int) : Option ((Int × Int) ⊕ (Int ⊕ Unit)) :=
 cnd (decide (i8 < (w_2.length : Int))) ((idx w_2 i8).bind fun x10 =>
 cnd (decide (x10.Ent.N ≤ i7)) (some (.inr (.inl 3))) (cnd (decide ((w_1.length : Int) ≤ x10.Ent.N)) (some (.inr (.inl 3))) ((idx w_1 x10.Ent.N).bind fun x27 =>
 cnd (!(x10.Ent.Gen == x27)) (some (.inr (.inl 3))) (cnd (x10.Ent.Gen == 1073741824) (some (.inr (.inl 3))) ((world_held w_0 x10.Comps).bind fun x40 =>
 cnd (!x40) (some (.inr (.inl 3))) (some (.inl (x10.Ent.N, IntKind.i64.wrap (i8 + 1))))))))) (some (.inr (.inr ())))
noncomputable def world_Check_j1 (w_2 : List api_Item) (w_1 : List Int) (w_0 : List api_Kind) : Option Int :=
 (loop (σ := Int × Int) (ρ := (Int ⊕ Unit)) (fun s_ => world_Check_l3 w_2 w_1 w_0 s_.1 s_.2) ((-1), 0)).bind (Sum.elim (fun e_ => some e_) (fun e_ => world_Check_j2))
noncomputable def world_Check_l4 (w_1 : List Int) (i43 : Int) : Option (Int ⊕ (Int ⊕ Unit)) :=
 cnd (decide (i43 < (w_1.length : Int))) ((idx w_1 i43).bind fun x45 =>
 cnd (decide (x45 < 0)) (some (.inr (.inl 3))) (cnd (decide (1073741824 < x45)) (some (.inr (.inl 3))) (some (.inl (IntKind.i64.wrap (i43 + 1)))))) (some (.inr (.inr ())))
noncomputable def world_Check (w_0 : List api_Kind) (w_1 : List Int) (w_2 : List api_Item) : Option Int :=
 (kind_Check w_0).bind fun x2 =>
 cnd (!(x2 == 0)) (some x2) (cnd (decide (256 < (w_1.length : Int))) (some 2) (cnd (decide ((w_1.length : Int) < (w_2.length : Int))) (some 2) ((loop (σ := Int) (ρ := (Int ⊕ Unit)) (fun s_ => world_Check_l4 w_1 s_) 0).bind (Sum.elim (fun e_ => some e_) (fun e_ => world_Check_j1 w_2 w_1 w_0)))))
noncomputable def world_Ints_1_j2 (i17 : Int) (l21 : List Int) : Option (((List Int) × Int) ⊕ (List Int)) :=
 some (.inl (l21, IntKind.i64.wrap (i17 + 1)))
noncomputable def world_Ints_1_l1 (s : ByteArray) (l14 : List Int) (i17 : Int) : Option (((List Int) × Int) ⊕ (List Int)) :=
 cnd (decide (i17 < (s.size : Int))) ((sidx s i17).bind fun x24 =>
 (app 8 l14 ([IntKind.i64.wrap x24] : List Int)).bind fun l28 =>
 world_Ints_1_j2 i17 l28) (some (.inr l14))
noncomputable def world_Ints_1 (s : ByteArray) (p1_0 : List Int) : Option ((List Int)) :=
 (app 8 p1_0 ([(s.size : Int)] : List Int)).bind fun l3 =>
 (loop (σ := (List Int) × Int) (ρ := (List Int)) (fun s_ => world_Ints_1_l1 s s_.1 s_.2) (l3, 0)).bind (fun e_ => some e_)
noncomputable def world_Ints_j2 (l46 : List Int) : Option ((List Int)) :=
 some l46
noncomputable def world_Ints_j4 (i54 : Int) (l58 : List Int) : Option (((List Int) × Int) ⊕ (List Int)) :=
 some (.inl (l58, IntKind.i64.wrap (i54 + 1)))
noncomputable def world_Ints_l5 (x61 : api_Item) (l89 : List Int) (i92 : Int) : Option (((List Int) × Int) ⊕ (List Int)) :=
 cnd (decide (i92 < (x61.Comps.length : Int))) ((idx x61.Comps i92).bind fun x94 =>
 (app 8 l89 ([x94.Kind, (x94.Vals.length : Int)] : List Int)).bind fun l111 =>
 (app 8 l111 x94.Vals).bind fun l120 =>
 some (.inl (l120, IntKind.i64.wrap (i92 + 1)))) (some (.inr l89))
noncomputable def world_Ints_l3 (w_2 : List api_Item) (l51 : List Int) (i54 : Int) : Option (((List Int) × Int) ⊕ (List Int)) :=
 cnd (decide (i54 < (w_2.length : Int))) ((idx w_2 i54).bind fun x61 =>
 (app 8 l51 ([x61.Ent.N, x61.Ent.Gen, (x61.Comps.length : Int)] : List Int)).bind fun l78 =>
 (loop (σ := (List Int) × Int) (ρ := (List Int)) (fun s_ => world_Ints_l5 x61 s_.1 s_.2) (l78, 0)).bind (fun e_ => world_Ints_j4 i54 e_)) (some (.inr l51))
noncomputable def world_Ints_j1 (w_1 : List Int) (w_2 : List api_Item) (l7 : List Int) : Option ((List Int)) :=
 (app 8 l7 ([(w_1.length : Int)] : List Int)).bind fun l12 =>
 (app 8 l12 w_1).bind fun l21 =>
 (app 8 l21 ([(w_2.length : Int)] : List Int)).bind fun l35 =>
 (loop (σ := (List Int) × Int) (ρ := (List Int)) (fun s_ => world_Ints_l3 w_2 s_.1 s_.2) (l35, 0)).bind (fun e_ => world_Ints_j2 e_)
noncomputable def world_Ints_j7 (i137 : Int) (l141 : List Int) : Option (((List Int) × Int) ⊕ (List Int)) :=
 some (.inl (l141, IntKind.i64.wrap (i137 + 1)))
noncomputable def world_Ints_l8 (x144 : api_Kind) (l178 : List Int) (i181 : Int) : Option (((List Int) × Int) ⊕ (List Int)) :=
 cnd (decide (i181 < (x144.Fields.length : Int))) ((idx x144.Fields i181).bind fun x183 =>
 (world_Ints_1 x183.Name l178).bind fun x195 =>
 (app 8 x195 ([x183.Bits, x183.Low] : List Int)).bind fun l203 =>
 some (.inl (l203, IntKind.i64.wrap (i181 + 1)))) (some (.inr l178))
noncomputable def world_Ints_l6 (w_0 : List api_Kind) (l134 : List Int) (i137 : Int) : Option (((List Int) × Int) ⊕ (List Int)) :=
 cnd (decide (i137 < (w_0.length : Int))) ((idx w_0 i137).bind fun x144 =>
 (world_Ints_1 x144.Name l134).bind fun x159 =>
 (app 8 x159 ([(x144.Fields.length : Int)] : List Int)).bind fun l167 =>
 (loop (σ := (List Int) × Int) (ρ := (List Int)) (fun s_ => world_Ints_l8 x144 s_.1 s_.2) (l167, 0)).bind (fun e_ => world_Ints_j7 i137 e_)) (some (.inr l134))
noncomputable def world_Ints (w_0 : List api_Kind) (w_1 : List Int) (w_2 : List api_Item) : Option ((List Int)) :=
 (loop (σ := (List Int) × Int) (ρ := (List Int)) (fun s_ => world_Ints_l6 w_0 s_.1 s_.2) (([(w_0.length : Int)] : List Int), 0)).bind (fun e_ => world_Ints_j1 w_1 w_2 e_)
noncomputable def strings_Trim (s_ : ByteArray) : Option ByteArray := trim s_ [97, 98, 99, 100, 101, 102, 103, 104, 105, 106, 107, 108, 109, 110, 111, 112, 113, 114, 115, 116, 117, 118, 119, 120, 121, 122, 48, 49, 50, 51, 52, 53, 54, 55, 56, 57]
noncomputable def tourref3_IsName_j1 (t1 : Bool) : Option Bool :=
 some t1
noncomputable def tourref3_IsName (s : ByteArray) : Option Bool :=
 cnd (!(s.toList == (⟨#[]⟩ : ByteArray).toList)) (cnd (decide ((s.size : Int) < 17)) ((strings_Trim s).bind fun x4 =>
 cnd (x4.toList == (⟨#[]⟩ : ByteArray).toList) ((sidx s 0).bind fun x7 =>
 tourref3_IsName_j1 (decide (57 < x7))) (tourref3_IsName_j1 false)) (tourref3_IsName_j1 false)) (tourref3_IsName_j1 false)
noncomputable def tourref3_FieldOK_j1 (t2 : Bool) : Option Bool :=
 some t2
noncomputable def tourref3_FieldOK (f_0 : ByteArray) (f_1 : Int) (f_2 : Int) : Option Bool :=
 (tourref3_IsName f_0).bind fun x3 =>
 cnd x3 (cnd (decide (0 < f_1)) (cnd (decide (f_1 < 33)) (cnd (decide ((-4294967296) ≤ f_2)) (tourref3_FieldOK_j1 (decide (f_2 ≤ 4294967296))) (tourref3_FieldOK_j1 false)) (tourref3_FieldOK_j1 false)) (tourref3_FieldOK_j1 false)) (tourref3_FieldOK_j1 false)
noncomputable def slices_Index_string_string_j1 : Option Int :=
 some (-1)
noncomputable def slices_Index_string_string_l2 (s : List ByteArray) (v : ByteArray) (i1 : Int) : Option (Int ⊕ (Int ⊕ Unit)) :=
 cnd (decide (i1 < (s.length : Int))) ((idx s i1).bind fun x3 =>
 cnd (v.toList == x3.toList) (some (.inr (.inl i1))) (some (.inl (IntKind.i64.wrap (i1 + 1))))) (some (.inr (.inr ())))
noncomputable def slices_Index_string_string (s : List ByteArray) (v : ByteArray) : Option Int :=
 (loop (σ := Int) (ρ := (Int ⊕ Unit)) (fun s_ => slices_Index_string_string_l2 s v s_) 0).bind (Sum.elim (fun e_ => some e_) (fun e_ => slices_Index_string_string_j1))
noncomputable def slices_Contains_string_string (s : List ByteArray) (v : ByteArray) : Option Bool :=
 (slices_Index_string_string s v).bind fun x1 =>
 some (decide (0 ≤ x1))
noncomputable def tourref3_twice (l : List ByteArray) (s : ByteArray) : Option Bool :=
 (slices_Contains_string_string l s).bind fun x1 =>
 some x1
noncomputable def tourref3_KindError_j1 : Option Int :=
 some 0
noncomputable def tourref3_KindError_l2 (k_1 : List api_Field) (l8 : List ByteArray) (i11 : Int) : Option (((List ByteArray) × Int) ⊕ (Int ⊕ Unit)) :=
 cnd (decide (i11 < (k_1.length : Int))) ((idx k_1 i11).bind fun x13 =>
 (tourref3_FieldOK x13.Name x13.Bits x13.Low).bind fun x25 =>
 cnd (!x25) (some (.inr (.inl 3))) ((tourref3_twice l8 x13.Name).bind fun x28 =>
 cnd x28 (some (.inr (.inl 5))) ((app 16 l8 ([x13.Name] : List ByteArray)).bind fun l33 =>
 some (.inl (l33, IntKind.i64.wrap (i11 + 1)))))) (some (.inr (.inr ())))
noncomputable def tourref3_KindError (k_0 : ByteArray) (k_1 : List api_Field) : Option Int :=
 (tourref3_IsName k_0).bind fun x2 =>
 cnd (!x2) (some 3) (cnd (decide (8 < (k_1.length : Int))) (some 2) ((loop (σ := (List ByteArray) × Int) (ρ := (Int ⊕ Unit)) (fun s_ => tourref3_KindError_l2 k_1 s_.1 s_.2) (([] : List ByteArray), 0)).bind (Sum.elim (fun e_ => some e_) (fun e_ => tourref3_KindError_j1))))
noncomputable def tourref3_KindsError_j1 : Option Int :=
 some 0
noncomputable def tourref3_KindsError_l2 (l : List api_Kind) (l4 : List ByteArray) (i7 : Int) : Option (((List ByteArray) × Int) ⊕ (Int ⊕ Unit)) :=
 cnd (decide (i7 < (l.length : Int))) ((idx l i7).bind fun x9 =>
 (tourref3_KindError x9.Name x9.Fields).bind fun x24 =>
 cnd (!(x24 == 0)) (some (.inr (.inl x24))) ((tourref3_twice l4 x9.Name).bind fun x27 =>
 cnd x27 (some (.inr (.inl 5))) ((app 16 l4 ([x9.Name] : List ByteArray)).bind fun l32 =>
 some (.inl (l32, IntKind.i64.wrap (i7 + 1)))))) (some (.inr (.inr ())))
noncomputable def tourref3_KindsError (l : List api_Kind) : Option Int :=
 cnd (decide (16 < (l.length : Int))) (some 2) ((loop (σ := (List ByteArray) × Int) (ρ := (Int ⊕ Unit)) (fun s_ => tourref3_KindsError_l2 l s_.1 s_.2) (([] : List ByteArray), 0)).bind (Sum.elim (fun e_ => some e_) (fun e_ => tourref3_KindsError_j1)))
noncomputable def slices_Clone_int_int (s : List Int) : Option ((List Int)) :=
 (app 8 ([] : List Int) s).bind fun l5 =>
 some l5
noncomputable def slices_Clone_api_Field_api_Field (s : List api_Field) : Option ((List api_Field)) :=
 (app 32 ([] : List api_Field) s).bind fun l5 =>
 some l5
noncomputable def tourref3_Top_j1 (f_2 : Int) (i2 : Int) : Option Int :=
 some (IntKind.i64.wrap (IntKind.i64.wrap (f_2 + i2) - 1))
noncomputable def tourref3_Top_l2 (f_1 : Int) (i3 : Int) (i4 : Int) : Option ((Int × Int) ⊕ Int) :=
 cnd (decide (i4 < f_1)) (some (.inl (IntKind.i64.wrap (i3 * 2), IntKind.i64.wrap (i4 + 1)))) (some (.inr i3))
noncomputable def tourref3_Top (f_0 : ByteArray) (f_1 : Int) (f_2 : Int) : Option Int :=
 (loop (σ := Int × Int) (ρ := Int) (fun s_ => tourref3_Top_l2 f_1 s_.1 s_.2) (1, 0)).bind (fun e_ => tourref3_Top_j1 f_2 e_)
noncomputable def tourref3_Nearest (f_0 : ByteArray) (f_1 : Int) (f_2 : Int) (v : Int) : Option Int :=
 (tourref3_FieldOK f_0 f_1 f_2).bind fun x2 =>
 cnd (!x2) (some 0) (cnd (decide (v < f_2)) (some f_2) ((tourref3_Top f_0 f_1 f_2).bind fun x6 =>
 cnd (decide (x6 < v)) ((tourref3_Top f_0 f_1 f_2).bind fun x9 =>
 some x9) (some v)))
noncomputable def tourref3_Fitted_j1 (l8 : List Int) : Option ((List Int) × Int) :=
 some (l8, 0)
noncomputable def tourref3_Fitted_l2 (vals : List Int) (k_1 : List api_Field) (l13 : List Int) (i16 : Int) : Option (((List Int) × Int) ⊕ (List Int)) :=
 cnd (decide (i16 < (vals.length : Int))) ((idx k_1 i16).bind fun x18 =>
 (idx vals i16).bind fun x29 =>
 (tourref3_Nearest x18.Name x18.Bits x18.Low x29).bind fun x40 =>
 (app 8 l13 ([x40] : List Int)).bind fun l44 =>
 some (.inl (l44, IntKind.i64.wrap (i16 + 1)))) (some (.inr l13))
noncomputable def tourref3_Fitted (k_0 : ByteArray) (k_1 : List api_Field) (vals : List Int) : Option ((List Int) × Int) :=
 (tourref3_KindError k_0 k_1).bind fun x2 =>
 cnd (!(x2 == 0)) (some (([] : List Int), x2)) (cnd (!((vals.length : Int) == (k_1.length : Int))) (some (([] : List Int), 1)) ((loop (σ := (List Int) × Int) (ρ := (List Int)) (fun s_ => tourref3_Fitted_l2 vals k_1 s_.1 s_.2) (([] : List Int), 0)).bind (fun e_ => tourref3_Fitted_j1 e_)))
noncomputable def tourref3_FittedAll_j1 (l5 : List (Int × (List Int))) : Option ((Option (List (Int × (List Int)))) × Int) :=
 some ((some l5), 0)
noncomputable def tourref3_FittedAll_l2 (l : List api_Comp) (k : List api_Kind) (l15 : List (Int × (List Int))) (i17 : Int) : Option (((List (Int × (List Int))) × Int) ⊕ (((Option (List (Int × (List Int)))) × Int) ⊕ (List (Int × (List Int))))) :=
 cnd (decide (i17 < (l.length : Int))) ((idx l i17).bind fun x21 =>
 cnd (decide (x21.Kind < 0)) (some (.inr (.inl (none, 1)))) (cnd (decide ((k.length : Int) ≤ x21.Kind)) (some (.inr (.inl (none, 1)))) ((some ((mget l15 x21.Kind).getD ([] : List Int))).bind fun x38 =>
 cnd ((mget l15 x21.Kind).isSome) (some (.inr (.inl (none, 5)))) ((idx k x21.Kind).bind fun x47 =>
 bnd2 (tourref3_Fitted x47.Name x47.Fields x21.Vals) fun x61 x62 =>
 cnd (!(x62 == 0)) (some (.inr (.inl (none, x62)))) ((some (mput l15 x21.Kind x61)).bind fun l73 =>
 some (.inl (l73, IntKind.i64.wrap (i17 + 1)))))))) (some (.inr (.inr l15)))
noncomputable def tourref3_FittedAll (k : List api_Kind) (l : List api_Comp) : Option ((Option (List (Int × (List Int)))) × Int) :=
 (loop (σ := (List (Int × (List Int))) × Int) (ρ := (((Option (List (Int × (List Int)))) × Int) ⊕ (List (Int × (List Int))))) (fun s_ => tourref3_FittedAll_l2 l k s_.1 s_.2) (([] : List (Int × (List Int))), 0)).bind (Sum.elim (fun e_ => some (e_.1, e_.2)) (fun e_ => tourref3_FittedAll_j1 e_))
noncomputable def tourref3_Listed_j1 (l3 : List api_Comp) : Option ((List api_Comp)) :=
 some l3
noncomputable def tourref3_Listed_j3 (i13 : Int) (l19 : List api_Comp) : Option (((List api_Comp) × Int) ⊕ (List api_Comp)) :=
 some (.inl (l19, IntKind.i64.wrap (i13 + 1)))
noncomputable def tourref3_Listed_l2 (m : Option (List (Int × (List Int)))) (l10 : List api_Comp) (i13 : Int) : Option (((List api_Comp) × Int) ⊕ (List api_Comp)) :=
 cnd (decide (i13 < 16)) ((some ((mget (m.getD []) i13).getD ([] : List Int))).bind fun x24 =>
 cnd ((mget (m.getD []) i13).isSome) ((slices_Clone_int_int x24).bind fun x33 =>
 (app 32 l10 ([(api_Comp.mk i13 x33)] : List api_Comp)).bind fun l45 =>
 tourref3_Listed_j3 i13 l45) (tourref3_Listed_j3 i13 l10)) (some (.inr l10))
noncomputable def tourref3_Listed (m : Option (List (Int × (List Int)))) : Option ((List api_Comp)) :=
 (loop (σ := (List api_Comp) × Int) (ρ := (List api_Comp)) (fun s_ => tourref3_Listed_l2 m s_.1 s_.2) (([] : List api_Comp), 0)).bind (fun e_ => tourref3_Listed_j1 e_)
noncomputable def tourref3_Flat_Close_j2 (l19 : List api_Kind) (x2 : List Int) (l28 : List api_Item) : Option ((List api_Kind) × (List Int) × (List api_Item)) :=
 some (l19, x2, l28)
noncomputable def tourref3_Flat_Close_j4 (i38 : Int) (l44 : List api_Item) : Option (((List api_Item) × Int) ⊕ (List api_Item)) :=
 some (.inl (l44, IntKind.i64.wrap (i38 + 1)))
noncomputable def tourref3_Flat_Close_l3 (f_1 : List Int) (f_2 : List (Int × (Option (List (Int × (List Int)))))) (l35 : List api_Item) (i38 : Int) : Option (((List api_Item) × Int) ⊕ (List api_Item)) :=
 cnd (decide (i38 < (f_1.length : Int))) ((idx f_1 i38).bind fun x49 =>
 (some ((mget f_2 i38).getD none)).bind fun x59 =>
 cnd (!x59.isNone) ((tourref3_Listed x59).bind fun x67 =>
 (app 40 l35 ([(api_Item.mk (api_Ent.mk i38 x49) x67)] : List api_Item)).bind fun l82 =>
 tourref3_Flat_Close_j4 i38 l82) (tourref3_Flat_Close_j4 i38 l35)) (some (.inr l35))
noncomputable def tourref3_Flat_Close_j1 (f_1 : List Int) (f_2 : List (Int × (Option (List (Int × (List Int)))))) (x2 : List Int) (l19 : List api_Kind) : Option ((List api_Kind) × (List Int) × (List api_Item)) :=
 (loop (σ := (List api_Item) × Int) (ρ := (List api_Item)) (fun s_ => tourref3_Flat_Close_l3 f_1 f_2 s_.1 s_.2) (([] : List api_Item), 0)).bind (fun e_ => tourref3_Flat_Close_j2 l19 x2 e_)
noncomputable def tourref3_Flat_Close_j6 (i164 : Int) (l170 : List api_Kind) : Option (((List api_Kind) × Int) ⊕ (List api_Kind)) :=
 some (.inl (l170, IntKind.i64.wrap (i164 + 1)))
noncomputable def tourref3_Flat_Close_l5 (f_0 : List api_Kind) (l159 : List api_Kind) (i164 : Int) : Option (((List api_Kind) × Int) ⊕ (List api_Kind)) :=
 cnd (decide (i164 < (f_0.length : Int))) ((idx f_0 i164).bind fun x175 =>
 (slices_Clone_api_Field_api_Field x175.Fields).bind fun x189 =>
 (app 40 l159 ([(api_Kind.mk x175.Name x189)] : List api_Kind)).bind fun l201 =>
 tourref3_Flat_Close_j6 i164 l201) (some (.inr l159))
noncomputable def tourref3_Flat_Close (f_0 : List api_Kind) (f_1 : List Int) (f_2 : List (Int × (Option (List (Int × (List Int)))))) : Option ((List api_Kind) × (List Int) × (List api_Item)) :=
 (slices_Clone_int_int f_1).bind fun x2 =>
 (loop (σ := (List api_Kind) × Int) (ρ := (List api_Kind)) (fun s_ => tourref3_Flat_Close_l5 f_0 s_.1 s_.2) (([] : List api_Kind), 0)).bind (fun e_ => tourref3_Flat_Close_j1 f_1 f_2 x2 e_)
noncomputable def slices_Equal_api_Field_api_Field_j1 : Option Bool :=
 some true
noncomputable def slices_Equal_api_Field_api_Field_l2 (s1_1 : List api_Field) (s2_1 : List api_Field) (i2 : Int) : Option (Int ⊕ (Bool ⊕ Unit)) :=
 cnd (decide (i2 < (s1_1.length : Int))) ((idx s1_1 i2).bind fun x4 =>
 (idx s2_1 i2).bind fun x15 =>
 cnd (!(x4.Name.toList == x15.Name.toList && (x4.Bits == x15.Bits && (x4.Low == x15.Low)))) (some (.inr (.inl false))) (some (.inl (IntKind.i64.wrap (i2 + 1))))) (some (.inr (.inr ())))
noncomputable def slices_Equal_api_Field_api_Field (s1_1 : List api_Field) (s2_1 : List api_Field) : Option Bool :=
 cnd (!((s1_1.length : Int) == (s2_1.length : Int))) (some false) ((loop (σ := Int) (ρ := (Bool ⊕ Unit)) (fun s_ => slices_Equal_api_Field_api_Field_l2 s1_1 s2_1 s_) 0).bind (Sum.elim (fun e_ => some e_) (fun e_ => slices_Equal_api_Field_api_Field_j1)))
noncomputable def tourref3_SameKind_j1 (t3 : Bool) : Option Bool :=
 some t3
noncomputable def tourref3_SameKind (a_0 : ByteArray) (a_1 : List api_Field) (b_0 : ByteArray) (b_1 : List api_Field) : Option Bool :=
 cnd (a_0.toList == b_0.toList) ((slices_Equal_api_Field_api_Field a_1 b_1).bind fun x5 =>
 tourref3_SameKind_j1 x5) (tourref3_SameKind_j1 false)
noncomputable def slices_EqualFunc_api_Kind_api_Kind_api_Kind_api_Kind_j1 : Option Bool :=
 some true
noncomputable def slices_EqualFunc_api_Kind_api_Kind_api_Kind_api_Kind_l2 (s1_1 : List api_Kind) (s2_1 : List api_Kind) (i2 : Int) : Option (Int ⊕ (Bool ⊕ Unit)) :=
 cnd (decide (i2 < (s1_1.length : Int))) ((idx s1_1 i2).bind fun x4 =>
 (idx s2_1 i2).bind fun x19 =>
 (tourref3_SameKind x4.Name x4.Fields x19.Name x19.Fields).bind fun x34 =>
 cnd (!x34) (some (.inr (.inl false))) (some (.inl (IntKind.i64.wrap (i2 + 1))))) (some (.inr (.inr ())))
noncomputable def slices_EqualFunc_api_Kind_api_Kind_api_Kind_api_Kind (s1_1 : List api_Kind) (s2_1 : List api_Kind) : Option Bool :=
 cnd (!((s1_1.length : Int) == (s2_1.length : Int))) (some false) ((loop (σ := Int) (ρ := (Bool ⊕ Unit)) (fun s_ => slices_EqualFunc_api_Kind_api_Kind_api_Kind_api_Kind_l2 s1_1 s2_1 s_) 0).bind (Sum.elim (fun e_ => some e_) (fun e_ => slices_EqualFunc_api_Kind_api_Kind_api_Kind_api_Kind_j1)))
noncomputable def slices_Equal_int_int_j1 : Option Bool :=
 some true
noncomputable def slices_Equal_int_int_l2 (s1_1 : List Int) (s2_1 : List Int) (i2 : Int) : Option (Int ⊕ (Bool ⊕ Unit)) :=
 cnd (decide (i2 < (s1_1.length : Int))) ((idx s1_1 i2).bind fun x4 =>
 (idx s2_1 i2).bind fun x15 =>
 cnd (!(x4 == x15)) (some (.inr (.inl false))) (some (.inl (IntKind.i64.wrap (i2 + 1))))) (some (.inr (.inr ())))
noncomputable def slices_Equal_int_int (s1_1 : List Int) (s2_1 : List Int) : Option Bool :=
 cnd (!((s1_1.length : Int) == (s2_1.length : Int))) (some false) ((loop (σ := Int) (ρ := (Bool ⊕ Unit)) (fun s_ => slices_Equal_int_int_l2 s1_1 s2_1 s_) 0).bind (Sum.elim (fun e_ => some e_) (fun e_ => slices_Equal_int_int_j1)))
noncomputable def tourref3_SameComp_j1 (t3 : Bool) : Option Bool :=
 some t3
noncomputable def tourref3_SameComp (a_0 : Int) (a_1 : List Int) (b_0 : Int) (b_1 : List Int) : Option Bool :=
 cnd (a_0 == b_0) ((slices_Equal_int_int a_1 b_1).bind fun x5 =>
 tourref3_SameComp_j1 x5) (tourref3_SameComp_j1 false)
noncomputable def slices_EqualFunc_api_Comp_api_Comp_api_Comp_api_Comp_j1 : Option Bool :=
 some true
noncomputable def slices_EqualFunc_api_Comp_api_Comp_api_Comp_api_Comp_l2 (s1_1 : List api_Comp) (s2_1 : List api_Comp) (i2 : Int) : Option (Int ⊕ (Bool ⊕ Unit)) :=
 cnd (decide (i2 < (s1_1.length : Int))) ((idx s1_1 i2).bind fun x4 =>
 (idx s2_1 i2).bind fun x19 =>
 (tourref3_SameComp x4.Kind x4.Vals x19.Kind x19.Vals).bind fun x34 =>
 cnd (!x34) (some (.inr (.inl false))) (some (.inl (IntKind.i64.wrap (i2 + 1))))) (some (.inr (.inr ())))
noncomputable def slices_EqualFunc_api_Comp_api_Comp_api_Comp_api_Comp (s1_1 : List api_Comp) (s2_1 : List api_Comp) : Option Bool :=
 cnd (!((s1_1.length : Int) == (s2_1.length : Int))) (some false) ((loop (σ := Int) (ρ := (Bool ⊕ Unit)) (fun s_ => slices_EqualFunc_api_Comp_api_Comp_api_Comp_api_Comp_l2 s1_1 s2_1 s_) 0).bind (Sum.elim (fun e_ => some e_) (fun e_ => slices_EqualFunc_api_Comp_api_Comp_api_Comp_api_Comp_j1)))
noncomputable def tourref3_SameItem_j1 (t3 : Bool) : Option Bool :=
 some t3
noncomputable def tourref3_SameItem (a_0 : Int) (a_1 : Int) (a_2 : List api_Comp) (b_0 : Int) (b_1 : Int) (b_2 : List api_Comp) : Option Bool :=
 cnd (a_0 == b_0 && (a_1 == b_1)) ((slices_EqualFunc_api_Comp_api_Comp_api_Comp_api_Comp a_2 b_2).bind fun x5 =>
 tourref3_SameItem_j1 x5) (tourref3_SameItem_j1 false)
noncomputable def slices_EqualFunc_api_Item_api_Item_api_Item_api_Item_j1 : Option Bool :=
 some true
noncomputable def slices_EqualFunc_api_Item_api_Item_api_Item_api_Item_l2 (s1_1 : List api_Item) (s2_1 : List api_Item) (i2 : Int) : Option (Int ⊕ (Bool ⊕ Unit)) :=
 cnd (decide (i2 < (s1_1.length : Int))) ((idx s1_1 i2).bind fun x4 =>
 (idx s2_1 i2).bind fun x19 =>
 (tourref3_SameItem x4.Ent.N x4.Ent.Gen x4.Comps x19.Ent.N x19.Ent.Gen x19.Comps).bind fun x34 =>
 cnd (!x34) (some (.inr (.inl false))) (some (.inl (IntKind.i64.wrap (i2 + 1))))) (some (.inr (.inr ())))
noncomputable def slices_EqualFunc_api_Item_api_Item_api_Item_api_Item (s1_1 : List api_Item) (s2_1 : List api_Item) : Option Bool :=
 cnd (!((s1_1.length : Int) == (s2_1.length : Int))) (some false) ((loop (σ := Int) (ρ := (Bool ⊕ Unit)) (fun s_ => slices_EqualFunc_api_Item_api_Item_api_Item_api_Item_l2 s1_1 s2_1 s_) 0).bind (Sum.elim (fun e_ => some e_) (fun e_ => slices_EqualFunc_api_Item_api_Item_api_Item_api_Item_j1)))
noncomputable def tourref3_SameWorld_j1 (t3 : Bool) : Option Bool :=
 some t3
noncomputable def tourref3_SameWorld (a_0 : List api_Kind) (a_1 : List Int) (a_2 : List api_Item) (b_0 : List api_Kind) (b_1 : List Int) (b_2 : List api_Item) : Option Bool :=
 (slices_EqualFunc_api_Kind_api_Kind_api_Kind_api_Kind a_0 b_0).bind fun x4 =>
 cnd x4 ((slices_Equal_int_int a_1 b_1).bind fun x7 =>
 cnd x7 ((slices_EqualFunc_api_Item_api_Item_api_Item_api_Item a_2 b_2).bind fun x10 =>
 tourref3_SameWorld_j1 x10) (tourref3_SameWorld_j1 false)) (tourref3_SameWorld_j1 false)
noncomputable def tourref3_Open_j3 (l18 : List api_Kind) (x7 : List Int) (l25 : List (Int × (Option (List (Int × (List Int)))))) (w_0 : List api_Kind) (w_1 : List Int) (w_2 : List api_Item) : Option (Int ⊕ (List api_Kind) × (List Int) × (List (Int × (Option (List (Int × (List Int))))))) :=
 bnd3 (tourref3_Flat_Close l18 x7 l25) fun x29 x30 x31 =>
 (tourref3_SameWorld x29 x30 x31 w_0 w_1 w_2).bind fun x55 =>
 cnd (!x55) (some (.inl 3)) (some (.inr (l18, x7, l25)))
noncomputable def tourref3_Open_j5 (i58 : Int) : Option (Int ⊕ (Int ⊕ Unit)) :=
 some (.inl (IntKind.i64.wrap (i58 + 1)))
noncomputable def tourref3_Open_l4 (x7 : List Int) (l25 : List (Int × (Option (List (Int × (List Int)))))) (i58 : Int) : Option (Int ⊕ (Int ⊕ Unit)) :=
 cnd (decide (i58 < (x7.length : Int))) ((idx x7 i58).bind fun x60 =>
 cnd (decide (x60 < 0)) (some (.inr (.inl 3))) (cnd (decide (1073741824 < x60)) (some (.inr (.inl 3))) (cnd (x60 == 1073741824) ((some ((mget l25 i58).getD none)).bind fun x73 =>
 cnd (!x73.isNone) (some (.inr (.inl 3))) (tourref3_Open_j5 i58)) (tourref3_Open_j5 i58)))) (some (.inr (.inr ())))
noncomputable def tourref3_Open_j2 (x7 : List Int) (l18 : List api_Kind) (w_0 : List api_Kind) (w_1 : List Int) (w_2 : List api_Item) (l25 : List (Int × (Option (List (Int × (List Int)))))) : Option (Int ⊕ (List api_Kind) × (List Int) × (List (Int × (Option (List (Int × (List Int))))))) :=
 (loop (σ := Int) (ρ := (Int ⊕ Unit)) (fun s_ => tourref3_Open_l4 x7 l25 s_) 0).bind (Sum.elim (fun e_ => some (.inl e_)) (fun e_ => tourref3_Open_j3 l18 x7 l25 w_0 w_1 w_2))
noncomputable def tourref3_Open_l6 (w_2 : List api_Item) (w_0 : List api_Kind) (x7 : List Int) (l83 : List (Int × (Option (List (Int × (List Int)))))) (i85 : Int) : Option (((List (Int × (Option (List (Int × (List Int)))))) × Int) ⊕ (Int ⊕ (List (Int × (Option (List (Int × (List Int)))))))) :=
 cnd (decide (i85 < (w_2.length : Int))) ((idx w_2 i85).bind fun x89 =>
 bnd2 (tourref3_FittedAll w_0 x89.Comps) fun x104 x105 =>
 cnd (!(x105 == 0)) (some (.inr (.inl 3))) (cnd (decide (x89.Ent.N < 0)) (some (.inr (.inl 3))) (cnd (decide ((x7.length : Int) ≤ x89.Ent.N)) (some (.inr (.inl 3))) ((some (mput l83 x89.Ent.N x104)).bind fun l115 =>
 some (.inl (l115, IntKind.i64.wrap (i85 + 1))))))) (some (.inr (.inr l83)))
noncomputable def tourref3_Open_j1 (w_2 : List api_Item) (w_0 : List api_Kind) (x7 : List Int) (w_1 : List Int) (l18 : List api_Kind) : Option (Int ⊕ (List api_Kind) × (List Int) × (List (Int × (Option (List (Int × (List Int))))))) :=
 (loop (σ := (List (Int × (Option (List (Int × (List Int)))))) × Int) (ρ := (Int ⊕ (List (Int × (Option (List (Int × (List Int)))))))) (fun s_ => tourref3_Open_l6 w_2 w_0 x7 s_.1 s_.2) (([] : List (Int × (Option (List (Int × (List Int)))))), 0)).bind (Sum.elim (fun e_ => some (.inl e_)) (fun e_ => tourref3_Open_j2 x7 l18 w_0 w_1 w_2 e_))
noncomputable def tourref3_Open_j8 (i130 : Int) (l136 : List api_Kind) : Option (((List api_Kind) × Int) ⊕ (List api_Kind)) :=
 some (.inl (l136, IntKind.i64.wrap (i130 + 1)))
noncomputable def tourref3_Open_l7 (w_0 : List api_Kind) (l127 : List api_Kind) (i130 : Int) : Option (((List api_Kind) × Int) ⊕ (List api_Kind)) :=
 cnd (decide (i130 < (w_0.length : Int))) ((idx w_0 i130).bind fun x141 =>
 (slices_Clone_api_Field_api_Field x141.Fields).bind fun x156 =>
 (app 40 l127 ([(api_Kind.mk x141.Name x156)] : List api_Kind)).bind fun l168 =>
 tourref3_Open_j8 i130 l168) (some (.inr l127))
noncomputable def tourref3_Open (w_0 : List api_Kind) (w_1 : List Int) (w_2 : List api_Item) : Option (Int ⊕ (List api_Kind) × (List Int) × (List (Int × (Option (List (Int × (List Int))))))) :=
 (tourref3_KindsError w_0).bind fun x2 =>
 cnd (!(x2 == 0)) (some (.inl x2)) (cnd (decide (256 < (w_1.length : Int))) (some (.inl 2)) (cnd (decide ((w_1.length : Int) < (w_2.length : Int))) (some (.inl 2)) ((slices_Clone_int_int w_1).bind fun x7 =>
 (loop (σ := (List api_Kind) × Int) (ρ := (List api_Kind)) (fun s_ => tourref3_Open_l7 w_0 s_.1 s_.2) (([] : List api_Kind), 0)).bind (fun e_ => tourref3_Open_j1 w_2 w_0 x7 w_1 e_))))
noncomputable def kind_Copy_j1 (l12 : List api_Kind) : Option ((List api_Kind)) :=
 some l12
noncomputable def kind_Copy_l2 (l : List api_Kind) (l17 : List api_Kind) (i20 : Int) : Option (((List api_Kind) × Int) ⊕ (List api_Kind)) :=
 cnd (decide (i20 < (l.length : Int))) ((idx l i20).bind fun x24 =>
 (app 32 ([] : List api_Field) x24.Fields).bind fun l39 =>
 (idx l17 i20).bind fun x51 =>
 (upd l17 i20 (api_Kind.mk x24.Name l39)).bind fun l67 =>
 some (.inl (l67, IntKind.i64.wrap (i20 + 1)))) (some (.inr l17))
noncomputable def kind_Copy (l : List api_Kind) : Option ((List api_Kind)) :=
 (mk 40 (l.length : Int) ((api_Kind.mk ByteArray.empty []) : api_Kind)).bind fun l1 =>
 (loop (σ := (List api_Kind) × Int) (ρ := (List api_Kind)) (fun s_ => kind_Copy_l2 l s_.1 s_.2) (l1, 0)).bind (fun e_ => kind_Copy_j1 e_)
noncomputable def world_New (l : List api_Kind) : Option ((List api_Kind) × Int) :=
 (kind_Check l).bind fun x2 =>
 cnd (!(x2 == 0)) (some (([] : List api_Kind), x2)) ((kind_Copy l).bind fun x5 =>
 some (x5, 0))
noncomputable def kind_Same_j1 : Option Bool :=
 some true
noncomputable def kind_Same_j3 (i2 : Int) : Option (Int ⊕ (Bool ⊕ Unit)) :=
 some (.inl (IntKind.i64.wrap (i2 + 1)))
noncomputable def kind_Same_l4 (x62 : api_Kind) (a : List api_Kind) (i2 : Int) (b : List api_Kind) (i76 : Int) : Option (Int ⊕ (Bool ⊕ Unit)) :=
 cnd (decide (i76 < (x62.Fields.length : Int))) ((idx a i2).bind fun x78 =>
 (idx x78.Fields i76).bind fun x92 =>
 (idx b i2).bind fun x103 =>
 (idx x103.Fields i76).bind fun x117 =>
 cnd (!(x92.Name.toList == x117.Name.toList && (x92.Bits == x117.Bits && (x92.Low == x117.Low)))) (some (.inr (.inl false))) (some (.inl (IntKind.i64.wrap (i76 + 1))))) (some (.inr (.inr ())))
noncomputable def kind_Same_l2 (a : List api_Kind) (b : List api_Kind) (i2 : Int) : Option (Int ⊕ (Bool ⊕ Unit)) :=
 cnd (decide (i2 < (a.length : Int))) ((idx a i2).bind fun x4 =>
 (idx b i2).bind fun x18 =>
 cnd (!(x4.Name.toList == x18.Name.toList)) (some (.inr (.inl false))) ((idx a i2).bind fun x33 =>
 (idx b i2).bind fun x47 =>
 cnd (!((x33.Fields.length : Int) == (x47.Fields.length : Int))) (some (.inr (.inl false))) ((idx a i2).bind fun x62 =>
 (loop (σ := Int) (ρ := (Bool ⊕ Unit)) (fun s_ => kind_Same_l4 x62 a i2 b s_) 0).bind (Sum.elim (fun e_ => some (.inr (.inl e_))) (fun e_ => kind_Same_j3 i2))))) (some (.inr (.inr ())))
noncomputable def kind_Same (a : List api_Kind) (b : List api_Kind) : Option Bool :=
 cnd (!((a.length : Int) == (b.length : Int))) (some false) ((loop (σ := Int) (ρ := (Bool ⊕ Unit)) (fun s_ => kind_Same_l2 a b s_) 0).bind (Sum.elim (fun e_ => some e_) (fun e_ => kind_Same_j1)))
noncomputable def world_SameComps_1_j1 (t3 : Bool) : Option Bool :=
 some t3
noncomputable def world_SameComps_1 (x_0 : Int) (x_1 : List Int) (y_0 : Int) (y_1 : List Int) : Option Bool :=
 cnd (x_0 == y_0) ((slices_Equal_int_int x_1 y_1).bind fun x5 =>
 world_SameComps_1_j1 x5) (world_SameComps_1_j1 false)
noncomputable def slices_EqualFunc_api_Comp_api_Comp_api_Comp_api_Comp_v2_j1 : Option Bool :=
 some true
noncomputable def slices_EqualFunc_api_Comp_api_Comp_api_Comp_api_Comp_v2_l2 (s1_1 : List api_Comp) (s2_1 : List api_Comp) (i2 : Int) : Option (Int ⊕ (Bool ⊕ Unit)) :=
 cnd (decide (i2 < (s1_1.length : Int))) ((idx s1_1 i2).bind fun x4 =>
 (idx s2_1 i2).bind fun x19 =>
 (world_SameComps_1 x4.Kind x4.Vals x19.Kind x19.Vals).bind fun x34 =>
 cnd (!x34) (some (.inr (.inl false))) (some (.inl (IntKind.i64.wrap (i2 + 1))))) (some (.inr (.inr ())))
noncomputable def slices_EqualFunc_api_Comp_api_Comp_api_Comp_api_Comp_v2 (s1_1 : List api_Comp) (s2_1 : List api_Comp) : Option Bool :=
 cnd (!((s1_1.length : Int) == (s2_1.length : Int))) (some false) ((loop (σ := Int) (ρ := (Bool ⊕ Unit)) (fun s_ => slices_EqualFunc_api_Comp_api_Comp_api_Comp_api_Comp_v2_l2 s1_1 s2_1 s_) 0).bind (Sum.elim (fun e_ => some e_) (fun e_ => slices_EqualFunc_api_Comp_api_Comp_api_Comp_api_Comp_v2_j1)))
noncomputable def world_SameComps (a : List api_Comp) (b : List api_Comp) : Option Bool :=
 (slices_EqualFunc_api_Comp_api_Comp_api_Comp_api_Comp_v2 a b).bind fun x1 =>
 some x1
noncomputable def world_Same_1_j1 (t3 : Bool) : Option Bool :=
 some t3
noncomputable def world_Same_1 (x_0 : Int) (x_1 : Int) (x_2 : List api_Comp) (y_0 : Int) (y_1 : Int) (y_2 : List api_Comp) : Option Bool :=
 cnd (x_0 == y_0 && (x_1 == y_1)) ((world_SameComps x_2 y_2).bind fun x5 =>
 world_Same_1_j1 x5) (world_Same_1_j1 false)
noncomputable def slices_EqualFunc_api_Item_api_Item_api_Item_api_Item_v2_j1 : Option Bool :=
 some true
noncomputable def slices_EqualFunc_api_Item_api_Item_api_Item_api_Item_v2_l2 (s1_1 : List api_Item) (s2_1 : List api_Item) (i2 : Int) : Option (Int ⊕ (Bool ⊕ Unit)) :=
 cnd (decide (i2 < (s1_1.length : Int))) ((idx s1_1 i2).bind fun x4 =>
 (idx s2_1 i2).bind fun x19 =>
 (world_Same_1 x4.Ent.N x4.Ent.Gen x4.Comps x19.Ent.N x19.Ent.Gen x19.Comps).bind fun x34 =>
 cnd (!x34) (some (.inr (.inl false))) (some (.inl (IntKind.i64.wrap (i2 + 1))))) (some (.inr (.inr ())))
noncomputable def slices_EqualFunc_api_Item_api_Item_api_Item_api_Item_v2 (s1_1 : List api_Item) (s2_1 : List api_Item) : Option Bool :=
 cnd (!((s1_1.length : Int) == (s2_1.length : Int))) (some false) ((loop (σ := Int) (ρ := (Bool ⊕ Unit)) (fun s_ => slices_EqualFunc_api_Item_api_Item_api_Item_api_Item_v2_l2 s1_1 s2_1 s_) 0).bind (Sum.elim (fun e_ => some e_) (fun e_ => slices_EqualFunc_api_Item_api_Item_api_Item_api_Item_v2_j1)))
noncomputable def world_Same_j1 (t3 : Bool) : Option Bool :=
 some t3
noncomputable def world_Same (a_0 : List api_Kind) (a_1 : List Int) (a_2 : List api_Item) (b_0 : List api_Kind) (b_1 : List Int) (b_2 : List api_Item) : Option Bool :=
 (kind_Same a_0 b_0).bind fun x4 =>
 cnd x4 ((slices_Equal_int_int a_1 b_1).bind fun x7 =>
 cnd x7 ((slices_EqualFunc_api_Item_api_Item_api_Item_api_Item_v2 a_2 b_2).bind fun x10 =>
 world_Same_j1 x10) (world_Same_j1 false)) (world_Same_j1 false)
noncomputable def world_CopyComps_j1 (l12 : List api_Comp) : Option ((List api_Comp)) :=
 some l12
noncomputable def world_CopyComps_l2 (l : List api_Comp) (l17 : List api_Comp) (i20 : Int) : Option (((List api_Comp) × Int) ⊕ (List api_Comp)) :=
 cnd (decide (i20 < (l.length : Int))) ((idx l i20).bind fun x24 =>
 (slices_Clone_int_int x24.Vals).bind fun x39 =>
 (idx l17 i20).bind fun x45 =>
 (upd l17 i20 (api_Comp.mk x24.Kind x39)).bind fun l61 =>
 some (.inl (l61, IntKind.i64.wrap (i20 + 1)))) (some (.inr l17))
noncomputable def world_CopyComps (l : List api_Comp) : Option ((List api_Comp)) :=
 (mk 32 (l.length : Int) ((api_Comp.mk 0 []) : api_Comp)).bind fun l1 =>
 (loop (σ := (List api_Comp) × Int) (ρ := (List api_Comp)) (fun s_ => world_CopyComps_l2 l s_.1 s_.2) (l1, 0)).bind (fun e_ => world_CopyComps_j1 e_)
noncomputable def world_Copy_j2 (l14 : List api_Kind) (l19 : List Int) (l29 : List api_Item) : Option ((List api_Kind) × (List Int) × (List api_Item)) :=
 some (l14, l19, l29)
noncomputable def world_Copy_l3 (w_2 : List api_Item) (l34 : List api_Item) (i37 : Int) : Option (((List api_Item) × Int) ⊕ (List api_Item)) :=
 cnd (decide (i37 < (w_2.length : Int))) ((idx w_2 i37).bind fun x41 =>
 (world_CopyComps x41.Comps).bind fun x56 =>
 (idx l34 i37).bind fun x65 =>
 (upd l34 i37 (api_Item.mk (api_Ent.mk x41.Ent.N x41.Ent.Gen) x56)).bind fun l82 =>
 some (.inl (l82, IntKind.i64.wrap (i37 + 1)))) (some (.inr l34))
noncomputable def world_Copy_j1 (w_2 : List api_Item) (l14 : List api_Kind) (l19 : List Int) (l24 : List api_Item) : Option ((List api_Kind) × (List Int) × (List api_Item)) :=
 (loop (σ := (List api_Item) × Int) (ρ := (List api_Item)) (fun s_ => world_Copy_l3 w_2 s_.1 s_.2) (l24, 0)).bind (fun e_ => world_Copy_j2 l14 l19 e_)
noncomputable def world_Copy (w_0 : List api_Kind) (w_1 : List Int) (w_2 : List api_Item) : Option ((List api_Kind) × (List Int) × (List api_Item)) :=
 (kind_Copy w_0).bind fun x96 =>
 (slices_Clone_int_int w_1).bind fun x105 =>
 (mk 40 (w_2.length : Int) ((api_Item.mk (api_Ent.mk 0 0) []) : api_Item)).bind fun l111 =>
 world_Copy_j1 w_2 x96 x105 l111
noncomputable def tourref3_Described_1_l1 (l12 : List Int) (l24 : List Int) (i27 : Int) : Option (((List Int) × Int) ⊕ (List Int)) :=
 cnd (decide (i27 < (l12.length : Int))) ((idx l12 i27).bind fun x29 =>
 (app 8 l24 ([IntKind.i64.wrap x29] : List Int)).bind fun l42 =>
 some (.inl (l42, IntKind.i64.wrap (i27 + 1)))) (some (.inr l24))
noncomputable def tourref3_Described_1 (s : ByteArray) (p1_0 : List Int) : Option ((List Int)) :=
 (app 8 p1_0 ([(s.size : Int)] : List Int)).bind fun l3 =>
 (tobytes s).bind fun l12 =>
 (loop (σ := (List Int) × Int) (ρ := (List Int)) (fun s_ => tourref3_Described_1_l1 l12 s_.1 s_.2) (l3, 0)).bind (fun e_ => some e_)
noncomputable def tourref3_Described_j3 (l39 : List Int) : Option ((List Int)) :=
 some l39
noncomputable def tourref3_Described_j5 (i47 : Int) (l51 : List Int) : Option (((List Int) × Int) ⊕ (List Int)) :=
 some (.inl (l51, IntKind.i64.wrap (i47 + 1)))
noncomputable def tourref3_Described_j7 (i85 : Int) (l89 : List Int) : Option (((List Int) × Int) ⊕ (List Int)) :=
 some (.inl (l89, IntKind.i64.wrap (i85 + 1)))
noncomputable def tourref3_Described_l6 (x54 : api_Item) (l82 : List Int) (i85 : Int) : Option (((List Int) × Int) ⊕ (List Int)) :=
 cnd (decide (i85 < (x54.Comps.length : Int))) ((idx x54.Comps i85).bind fun x92 =>
 (app 8 l82 ([x92.Kind, (x92.Vals.length : Int)] : List Int)).bind fun l109 =>
 (app 8 l109 x92.Vals).bind fun l118 =>
 tourref3_Described_j7 i85 l118) (some (.inr l82))
noncomputable def tourref3_Described_l4 (w_2 : List api_Item) (l44 : List Int) (i47 : Int) : Option (((List Int) × Int) ⊕ (List Int)) :=
 cnd (decide (i47 < (w_2.length : Int))) ((idx w_2 i47).bind fun x54 =>
 (app 8 l44 ([x54.Ent.N, x54.Ent.Gen, (x54.Comps.length : Int)] : List Int)).bind fun l71 =>
 (loop (σ := (List Int) × Int) (ρ := (List Int)) (fun s_ => tourref3_Described_l6 x54 s_.1 s_.2) (l71, 0)).bind (fun e_ => tourref3_Described_j5 i47 e_)) (some (.inr l44))
noncomputable def tourref3_Described_j2 (w_2 : List api_Item) (l23 : List Int) : Option ((List Int)) :=
 (app 8 l23 ([(w_2.length : Int)] : List Int)).bind fun l28 =>
 (loop (σ := (List Int) × Int) (ρ := (List Int)) (fun s_ => tourref3_Described_l4 w_2 s_.1 s_.2) (l28, 0)).bind (fun e_ => tourref3_Described_j3 e_)
noncomputable def tourref3_Described_j1 (w_1 : List Int) (w_2 : List api_Item) (l16 : List Int) : Option ((List Int)) :=
 (app 8 l16 ([(w_1.length : Int)] : List Int)).bind fun l160 =>
 (app 8 l160 w_1).bind fun l169 =>
 tourref3_Described_j2 w_2 l169
noncomputable def tourref3_Described_j9 (i214 : Int) (l220 : List Int) : Option (((List Int) × Int) ⊕ (List Int)) :=
 some (.inl (l220, IntKind.i64.wrap (i214 + 1)))
noncomputable def tourref3_Described_l10 (x225 : api_Kind) (l262 : List Int) (i265 : Int) : Option (((List Int) × Int) ⊕ (List Int)) :=
 cnd (decide (i265 < (x225.Fields.length : Int))) ((idx x225.Fields i265).bind fun x269 =>
 (tourref3_Described_1 x269.Name l262).bind fun x281 =>
 (app 8 x281 ([x269.Bits, x269.Low] : List Int)).bind fun l292 =>
 some (.inl (l292, IntKind.i64.wrap (i265 + 1)))) (some (.inr l262))
noncomputable def tourref3_Described_l8 (w_0 : List api_Kind) (l211 : List Int) (i214 : Int) : Option (((List Int) × Int) ⊕ (List Int)) :=
 cnd (decide (i214 < (w_0.length : Int))) ((idx w_0 i214).bind fun x225 =>
 (tourref3_Described_1 x225.Name l211).bind fun x240 =>
 (app 8 x240 ([(x225.Fields.length : Int)] : List Int)).bind fun l251 =>
 (loop (σ := (List Int) × Int) (ρ := (List Int)) (fun s_ => tourref3_Described_l10 x225 s_.1 s_.2) (l251, 0)).bind (fun e_ => tourref3_Described_j9 i214 e_)) (some (.inr l211))
noncomputable def tourref3_Described (w_0 : List api_Kind) (w_1 : List Int) (w_2 : List api_Item) : Option ((List Int)) :=
 (app 8 ([] : List Int) ([(w_0.length : Int)] : List Int)).bind fun l5 =>
 (loop (σ := (List Int) × Int) (ρ := (List Int)) (fun s_ => tourref3_Described_l8 w_0 s_.1 s_.2) (l5, 0)).bind (fun e_ => tourref3_Described_j1 w_1 w_2 e_)
noncomputable def rnd_Mix (x : Int) : Option Int :=
 (some (IntKind.u64.wrap (Go.bits .xor .u64 x (Int.fdiv x 2147483648) * 7640891576956012809))).bind fun x1 =>
 (some (IntKind.u64.wrap (Go.bits .xor .u64 x1 (Int.fdiv x1 134217728) * 13503953896175478587))).bind fun x3 =>
 some (Go.bits .xor .u64 x3 (Int.fdiv x3 1073741824))
noncomputable def sum_Join (a : Int) (b : Int) : Option Int :=
 (rnd_Mix (IntKind.u64.wrap (a + 5840696475078001361))).bind fun x1 =>
 (some (IntKind.u64.wrap (IntKind.u64.wrap (x1 * 11170449401992604703) + b))).bind fun x3 =>
 (rnd_Mix x3).bind fun x5 =>
 some x5
noncomputable def sum_Words_j1 (i3 : Int) : Option Int :=
 some i3
noncomputable def sum_Words_l2 (l : List Int) (i4 : Int) (i5 : Int) : Option ((Int × Int) ⊕ Int) :=
 cnd (decide (i5 < (l.length : Int))) ((idx l i5).bind fun x7 =>
 (sum_Join i4 x7).bind fun x18 =>
 some (.inl (x18, IntKind.i64.wrap (i5 + 1)))) (some (.inr i4))
noncomputable def sum_Words (l : List Int) : Option Int :=
 (sum_Join 5840696475078001361 (IntKind.u64.wrap (l.length : Int))).bind fun x1 =>
 (loop (σ := Int × Int) (ρ := Int) (fun s_ => sum_Words_l2 l s_.1 s_.2) (x1, 0)).bind (fun e_ => sum_Words_j1 e_)
noncomputable def sum_Ints_j1 (l12 : List Int) : Option Int :=
 (sum_Words l12).bind fun x15 =>
 some x15
noncomputable def sum_Ints_l2 (l : List Int) (l17 : List Int) (i20 : Int) : Option (((List Int) × Int) ⊕ (List Int)) :=
 cnd (decide (i20 < (l.length : Int))) ((idx l i20).bind fun x22 =>
 (idx l17 i20).bind fun x33 =>
 (upd l17 i20 (IntKind.u64.wrap x22)).bind fun l42 =>
 some (.inl (l42, IntKind.i64.wrap (i20 + 1)))) (some (.inr l17))
noncomputable def sum_Ints (l : List Int) : Option Int :=
 (mk 8 (l.length : Int) (0 : Int)).bind fun l1 =>
 (loop (σ := (List Int) × Int) (ρ := (List Int)) (fun s_ => sum_Ints_l2 l s_.1 s_.2) (l1, 0)).bind (fun e_ => sum_Ints_j1 e_)
noncomputable def world_Digest (w_0 : List api_Kind) (w_1 : List Int) (w_2 : List api_Item) : Option Int :=
 (world_Ints w_0 w_1 w_2).bind fun x2 =>
 (sum_Ints x2).bind fun x8 =>
 some x8
noncomputable def tourlaw3_WorldChecks_j3 (t89 : Bool) : Option Bool :=
 some t89
noncomputable def tourlaw3_WorldChecks_j2 (w_0 : List api_Kind) (w_1 : List Int) (w_2 : List api_Item) (v_0 : List api_Kind) (v_1 : List Int) (v_2 : List api_Item) (i45 : Int) : Option Bool :=
 (world_Same w_0 w_1 w_2 v_0 v_1 v_2).bind fun x59 =>
 (tourref3_SameWorld w_0 w_1 w_2 v_0 v_1 v_2).bind fun x61 =>
 cnd (!(x59 == x61)) (some false) ((world_Same w_0 w_1 w_2 w_0 w_1 w_2).bind fun x64 =>
 cnd (!x64) (some false) (bnd3 (world_Copy w_0 w_1 w_2) fun x67 x68 x69 =>
 (tourref3_SameWorld x67 x68 x69 w_0 w_1 w_2).bind fun x86 =>
 cnd (!x86) (some false) ((world_Check w_0 w_1 w_2).bind fun x92 =>
 cnd (x92 == i45) ((world_Ints w_0 w_1 w_2).bind fun x95 =>
 (tourref3_Described w_0 w_1 w_2).bind fun x101 =>
 (slices_Equal_int_int x95 x101).bind fun x110 =>
 cnd x110 ((world_Digest w_0 w_1 w_2).bind fun x113 =>
 (tourref3_Described w_0 w_1 w_2).bind fun x115 =>
 (sum_Ints x115).bind fun x124 =>
 tourlaw3_WorldChecks_j3 (x113 == x124)) (tourlaw3_WorldChecks_j3 false)) (tourlaw3_WorldChecks_j3 false))))
noncomputable def tourlaw3_WorldChecks_j1 (w_0 : List api_Kind) (w_1 : List Int) (w_2 : List api_Item) (v_0 : List api_Kind) (v_1 : List Int) (v_2 : List api_Item) (i45 : Int) : Option Bool :=
 bnd2 (world_New w_0) fun x48 x49 =>
 (tourref3_KindsError w_0).bind fun x126 =>
 cnd (!(x49 == x126)) (some false) (cnd (x126 == 0) ((tourref3_SameWorld x48 [] [] w_0 [] []).bind fun x130 =>
 cnd (!x130) (some false) (tourlaw3_WorldChecks_j2 w_0 w_1 w_2 v_0 v_1 v_2 i45)) ((tourref3_SameWorld x48 [] [] [] [] []).bind fun x133 =>
 cnd (!x133) (some false) (tourlaw3_WorldChecks_j2 w_0 w_1 w_2 v_0 v_1 v_2 i45)))
noncomputable def tourlaw3_WorldChecks (w_0 : List api_Kind) (w_1 : List Int) (w_2 : List api_Item) (v_0 : List api_Kind) (v_1 : List Int) (v_2 : List api_Item) : Option Bool :=
 bnd3 (tourlaw3_pair) fun x3 x4 x5 =>
 (world_Check x3 x4 x5).bind fun x19 =>
 cnd (!(x19 == 0)) (some false) (bnd3 (tourlaw3_pair) fun x22 x23 x24 =>
 (world_Ints x22 x23 x24).bind fun x38 =>
 cnd ((x38.length : Int) == 0) (some false) ((tourref3_Open w_0 w_1 w_2).bind (Sum.elim (fun x138 =>
 tourlaw3_WorldChecks_j1 w_0 w_1 w_2 v_0 v_1 v_2 x138) (un3 fun x139 x140 x141 =>
 tourlaw3_WorldChecks_j1 w_0 w_1 w_2 v_0 v_1 v_2 0))))
end Go.Proofs.YthcbepikeinglaaDoor.N
