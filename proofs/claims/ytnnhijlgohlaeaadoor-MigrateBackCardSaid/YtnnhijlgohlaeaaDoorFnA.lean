/- The Go functions as plain functions over Option. No condition. -/
import Derived.Test.YtnnhijlgohlaeaaDoorTyA
import Derived.Test.YtnnhijlgohlaeaaDoorExMap
namespace Go.Proofs.YtnnhijlgohlaeaaDoor.A
open Go Go.RowKit Go.Proofs.YtnnhijlgohlaeaaDoor.Sx
set_option linter.unusedVariables false
noncomputable def tourlaw3_two : Option ((List api_Kind)) :=
 some ([(api_Kind.mk (⟨#[112, 108, 97, 99, 101]⟩) ([(api_Field.mk (⟨#[120]⟩) 3 (-2))] : List api_Field)), (api_Kind.mk (⟨#[108, 105, 102, 101]⟩) ([(api_Field.mk (⟨#[120]⟩) 8 0)] : List api_Field))] : List api_Kind)
noncomputable def tourlaw3_drop : Option ((List migrate_Move)) :=
 some ([(migrate_Move.mk 1 (⟨#[112, 108, 97, 99, 101]⟩) ByteArray.empty ByteArray.empty 0 (api_Field.mk ByteArray.empty 0 0) (api_Kind.mk ByteArray.empty []))] : List migrate_Move)
noncomputable def kind_Name_j1 : Option Bool :=
 some true
noncomputable def kind_Name_j3 (i3 : Int) : Option (Int ⊕ (Bool ⊕ Unit)) :=
 some (.inl (IntKind.i64.wrap (i3 + 1)))
noncomputable def kind_Name_l2 (s : ByteArray) (i3 : Int) : Option (Int ⊕ (Bool ⊕ Unit)) :=
 cnd (decide (i3 < (s.size : Int))) ((sidx s i3).bind fun x5 =>
 cnd (decide (97 ≤ x5)) (cnd (decide (x5 ≤ 122)) (kind_Name_j3 i3) (cnd (decide (0 < i3)) (cnd (decide (48 ≤ x5)) (cnd (!(decide (x5 ≤ 57))) (some (.inr (.inl false))) (kind_Name_j3 i3)) (some (.inr (.inl false)))) (some (.inr (.inl false))))) (cnd (decide (0 < i3)) (cnd (decide (48 ≤ x5)) (cnd (!(decide (x5 ≤ 57))) (some (.inr (.inl false))) (kind_Name_j3 i3)) (some (.inr (.inl false)))) (some (.inr (.inl false))))) (some (.inr (.inr ())))
noncomputable def kind_Name (s : ByteArray) : Option Bool :=
 cnd ((s.size : Int) == 0) (some false) (cnd (decide (16 < (s.size : Int))) (some false) ((loop (σ := Int) (ρ := (Bool ⊕ Unit)) (fun s_ => kind_Name_l2 s s_) 0).bind (Sum.elim (fun e_ => some e_) (fun e_ => kind_Name_j1))))
noncomputable def kind_field (f_0 : ByteArray) (f_1 : Int) (f_2 : Int) : Option Int :=
 (kind_Name f_0).bind fun x2 =>
 cnd (!x2) (some 3) (cnd (decide (f_1 < 1)) (some 3) (cnd (decide (32 < f_1)) (some 3) (cnd (decide (f_2 < (-4294967296))) (some 3) (cnd (decide (4294967296 < f_2)) (some 3) (some 0)))))
noncomputable def kind_One_j1 : Option Int :=
 some 0
noncomputable def kind_One_j3 (i6 : Int) : Option (Int ⊕ (Int ⊕ Unit)) :=
 some (.inl (IntKind.i64.wrap (i6 + 1)))
noncomputable def kind_One_l4 (l23 : List api_Field) (x8 : api_Field) (i34 : Int) : Option (Int ⊕ (Int ⊕ Unit)) :=
 cnd (decide (i34 < (l23.length : Int))) ((idx l23 i34).bind fun x36 =>
 cnd (x36.Name.toList == x8.Name.toList) (some (.inr (.inl 5))) (some (.inl (IntKind.i64.wrap (i34 + 1))))) (some (.inr (.inr ())))
noncomputable def kind_One_l2 (k_1 : List api_Field) (i6 : Int) : Option (Int ⊕ (Int ⊕ Unit)) :=
 cnd (decide (i6 < (k_1.length : Int))) ((idx k_1 i6).bind fun x8 =>
 (kind_field x8.Name x8.Bits x8.Low).bind fun x20 =>
 cnd (!(x20 == 0)) (some (.inr (.inl x20))) ((cut k_1 0 i6).bind fun l23 =>
 (loop (σ := Int) (ρ := (Int ⊕ Unit)) (fun s_ => kind_One_l4 l23 x8 s_) 0).bind (Sum.elim (fun e_ => some (.inr (.inl e_))) (fun e_ => kind_One_j3 i6)))) (some (.inr (.inr ())))
noncomputable def kind_One (k_0 : ByteArray) (k_1 : List api_Field) : Option Int :=
 (kind_Name k_0).bind fun x2 =>
 cnd (!x2) (some 3) (cnd (decide (8 < (k_1.length : Int))) (some 2) ((loop (σ := Int) (ρ := (Int ⊕ Unit)) (fun s_ => kind_One_l2 k_1 s_) 0).bind (Sum.elim (fun e_ => some e_) (fun e_ => kind_One_j1))))
noncomputable def kind_Find_j1 : Option Int :=
 some (-1)
noncomputable def kind_Find_l2 (l : List api_Kind) (name : ByteArray) (i1 : Int) : Option (Int ⊕ (Int ⊕ Unit)) :=
 cnd (decide (i1 < (l.length : Int))) ((idx l i1).bind fun x3 =>
 cnd (x3.Name.toList == name.toList) (some (.inr (.inl i1))) (some (.inl (IntKind.i64.wrap (i1 + 1))))) (some (.inr (.inr ())))
noncomputable def kind_Find (l : List api_Kind) (name : ByteArray) : Option Int :=
 (loop (σ := Int) (ρ := (Int ⊕ Unit)) (fun s_ => kind_Find_l2 l name s_) 0).bind (Sum.elim (fun e_ => some e_) (fun e_ => kind_Find_j1))
noncomputable def kind_Check_j1 : Option Int :=
 some 0
noncomputable def kind_Check_l2 (l : List api_Kind) (i2 : Int) : Option (Int ⊕ (Int ⊕ Unit)) :=
 cnd (decide (i2 < (l.length : Int))) ((idx l i2).bind fun x4 =>
 (kind_One x4.Name x4.Fields).bind fun x19 =>
 cnd (!(x19 == 0)) (some (.inr (.inl x19))) ((cut l 0 i2).bind fun l22 =>
 (kind_Find l22 x4.Name).bind fun x33 =>
 cnd (decide (0 ≤ x33)) (some (.inr (.inl 5))) (some (.inl (IntKind.i64.wrap (i2 + 1)))))) (some (.inr (.inr ())))
noncomputable def kind_Check (l : List api_Kind) : Option Int :=
 cnd (decide (16 < (l.length : Int))) (some 2) ((loop (σ := Int) (ρ := (Int ⊕ Unit)) (fun s_ => kind_Check_l2 l s_) 0).bind (Sum.elim (fun e_ => some e_) (fun e_ => kind_Check_j1)))
noncomputable def kind_Copy_j1 (l14 : List api_Kind) : Option ((List api_Kind)) :=
 some l14
noncomputable def kind_Copy_l2 (l : List api_Kind) (l18 : List api_Kind) (i22 : Int) : Option (((List api_Kind) × Int) ⊕ (List api_Kind)) :=
 cnd (decide (i22 < (l.length : Int))) ((idx l i22).bind fun x24 =>
 (app 32 ([] : List api_Field) x24.Fields).bind fun l39 =>
 (idx l18 i22).bind fun x51 =>
 (upd l18 i22 (api_Kind.mk x24.Name l39)).bind fun l75 =>
 some (.inl (l75, IntKind.i64.wrap (i22 + 1)))) (some (.inr l18))
noncomputable def kind_Copy (l : List api_Kind) : Option ((List api_Kind)) :=
 (mk 40 (l.length : Int) ((api_Kind.mk ByteArray.empty []) : api_Kind)).bind fun l1 =>
 (loop (σ := (List api_Kind) × Int) (ρ := (List api_Kind)) (fun s_ => kind_Copy_l2 l s_.1 s_.2) (l1, 0)).bind (fun e_ => kind_Copy_j1 e_)
noncomputable def kind_Field_j1 : Option Int :=
 some (-1)
noncomputable def kind_Field_l2 (k_1 : List api_Field) (name : ByteArray) (i2 : Int) : Option (Int ⊕ (Int ⊕ Unit)) :=
 cnd (decide (i2 < (k_1.length : Int))) ((idx k_1 i2).bind fun x4 =>
 cnd (x4.Name.toList == name.toList) (some (.inr (.inl i2))) (some (.inl (IntKind.i64.wrap (i2 + 1))))) (some (.inr (.inr ())))
noncomputable def kind_Field (k_0 : ByteArray) (k_1 : List api_Field) (name : ByteArray) : Option Int :=
 (loop (σ := Int) (ρ := (Int ⊕ Unit)) (fun s_ => kind_Field_l2 k_1 name s_) 0).bind (Sum.elim (fun e_ => some e_) (fun e_ => kind_Field_j1))
noncomputable def migrate_place (k : List api_Kind) (m_0 : Int) (m_1 : ByteArray) (m_2 : ByteArray) (m_3 : ByteArray) (m_4 : Int) (m_5 : ByteArray) (m_6 : Int) (m_7 : Int) (m_8 : ByteArray) (m_9 : List api_Field) : Option (Int × Int × Int) :=
 cnd (decide (m_0 < 0)) (some (0, 0, 1)) (cnd (decide (6 < m_0)) (some (0, 0, 1)) (cnd (m_0 == 0) (some (0, 0, 0)) ((kind_Find k m_1).bind fun x5 =>
 cnd (decide (x5 < 0)) (some (0, 0, 4)) (cnd (decide (m_0 ≤ 3)) (some (x5, 0, 0)) ((idx k x5).bind fun x9 =>
 (kind_Field x9.Name x9.Fields m_2).bind fun x23 =>
 cnd (decide (x23 < 0)) (some (0, 0, 4)) (some (x5, x23, 0)))))))
noncomputable def slices_Delete_api_Kind_api_Kind (s_ : List api_Kind) (i_ : Int) (j_ : Int) : Option (List api_Kind) := del s_ i_ j_
noncomputable def slices_Delete_api_Field_api_Field (s_ : List api_Field) (i_ : Int) (j_ : Int) : Option (List api_Field) := del s_ i_ j_
noncomputable def migrate_one_j1 (l16 : List api_Kind) : Option ((List api_Kind) × Int) :=
 (kind_Check l16).bind fun x22 =>
 cnd (!(x22 == 0)) (some (([] : List api_Kind), x22)) (some (l16, 0))
noncomputable def migrate_one (k : List api_Kind) (m_0 : Int) (m_1 : ByteArray) (m_2 : ByteArray) (m_3 : ByteArray) (m_4 : Int) (m_5 : ByteArray) (m_6 : Int) (m_7 : Int) (m_8 : ByteArray) (m_9 : List api_Field) : Option ((List api_Kind) × Int) :=
 bnd3 (migrate_place k m_0 m_1 m_2 m_3 m_4 m_5 m_6 m_7 m_8 m_9) fun x2 x3 x4 =>
 cnd (!(x4 == 0)) (some (([] : List api_Kind), x4)) ((kind_Copy k).bind fun x7 =>
 cnd (m_0 == 0) ((kind_Copy ([(api_Kind.mk m_8 m_9)] : List api_Kind)).bind fun x32 =>
 (app 40 x7 x32).bind fun l39 =>
 migrate_one_j1 l39) (cnd (m_0 == 1) ((slices_Delete_api_Kind_api_Kind x7 x2 (IntKind.i64.wrap (x2 + 1))).bind fun x51 =>
 migrate_one_j1 x51) (cnd (m_0 == 2) ((idx x7 x2).bind fun x57 =>
 (upd x7 x2 (api_Kind.mk m_3 x57.Fields)).bind fun l82 =>
 migrate_one_j1 l82) (cnd (m_0 == 3) ((idx x7 x2).bind fun x90 =>
 (app 32 x90.Fields ([(api_Field.mk m_5 m_6 m_7)] : List api_Field)).bind fun l110 =>
 (upd x7 x2 (api_Kind.mk x90.Name l110)).bind fun l144 =>
 migrate_one_j1 l144) (cnd (m_0 == 4) ((idx x7 x2).bind fun x175 =>
 (slices_Delete_api_Field_api_Field x175.Fields x3 (IntKind.i64.wrap (x3 + 1))).bind fun x193 =>
 (upd x7 x2 (api_Kind.mk x175.Name x193)).bind fun l204 =>
 migrate_one_j1 l204) (cnd (m_0 == 5) ((idx x7 x2).bind fun x212 =>
 (idx x212.Fields x3).bind fun x230 =>
 (upd x212.Fields x3 (api_Field.mk m_3 x230.Bits x230.Low)).bind fun l240 =>
 (upd x7 x2 (api_Kind.mk x212.Name l240)).bind fun l256 =>
 migrate_one_j1 l256) (cnd (m_0 == 6) ((idx x7 x2).bind fun x264 =>
 (idx x264.Fields x3).bind fun x282 =>
 (upd x264.Fields x3 (api_Field.mk x282.Name m_6 x282.Low)).bind fun l292 =>
 (idx l292 x3).bind fun x305 =>
 (upd l292 x3 (api_Field.mk x305.Name x305.Bits m_7)).bind fun l314 =>
 (upd x7 x2 (api_Kind.mk x264.Name l314)).bind fun l372 =>
 migrate_one_j1 l372) (migrate_one_j1 x7))))))))
noncomputable def migrate_Kinds_j1 (l14 : List api_Kind) : Option ((List api_Kind) × Int) :=
 some (l14, 0)
noncomputable def migrate_Kinds_l2 (l : List migrate_Move) (l22 : List api_Kind) (i26 : Int) : Option (((List api_Kind) × Int) ⊕ (((List api_Kind) × Int) ⊕ (List api_Kind))) :=
 cnd (decide (i26 < (l.length : Int))) ((idx l i26).bind fun x30 =>
 bnd2 (migrate_one l22 x30.Do x30.Kind x30.Field x30.Name x30.Value x30.New.Name x30.New.Bits x30.New.Low x30.Whole.Name x30.Whole.Fields) fun x49 x50 =>
 cnd (!(x50 == 0)) (some (.inr (.inl (([] : List api_Kind), x50)))) (some (.inl (x49, IntKind.i64.wrap (i26 + 1))))) (some (.inr (.inr l22)))
noncomputable def migrate_Kinds (k : List api_Kind) (l : List migrate_Move) : Option ((List api_Kind) × Int) :=
 (kind_Check k).bind fun x1 =>
 cnd (!(x1 == 0)) (some (([] : List api_Kind), x1)) (cnd (decide (100 < (l.length : Int))) (some (([] : List api_Kind), 2)) ((kind_Copy k).bind fun x5 =>
 (loop (σ := (List api_Kind) × Int) (ρ := (((List api_Kind) × Int) ⊕ (List api_Kind))) (fun s_ => migrate_Kinds_l2 l s_.1 s_.2) (x5, 0)).bind (Sum.elim (fun e_ => some (e_.1, e_.2)) (fun e_ => migrate_Kinds_j1 e_))))
noncomputable def kind_High (f_0 : ByteArray) (f_1 : Int) (f_2 : Int) : Option Int :=
 (kind_field f_0 f_1 f_2).bind fun x2 =>
 cnd (!(x2 == 0)) (some 0) ((shl .i64 1 f_1).bind fun x5 =>
 some (IntKind.i64.wrap (f_2 + IntKind.i64.wrap (x5 - 1))))
noncomputable def migrate_inverse_j1 (m_1 : ByteArray) (m_2 : ByteArray) (x26 : api_Field) (t43 : Bool) : Option (Int × ByteArray × ByteArray × ByteArray × Int × Int × (List api_Field) × Bool) :=
 some (6, m_1, m_2, ByteArray.empty, x26.Bits, x26.Low, ([] : List api_Field), t43)
noncomputable def migrate_inverse (k : List api_Kind) (m_0 : Int) (m_1 : ByteArray) (m_2 : ByteArray) (m_3 : ByteArray) (m_4 : Int) (m_5 : ByteArray) (m_6 : Int) (m_7 : Int) (m_8 : ByteArray) (m_9 : List api_Field) : Option (Int × ByteArray × ByteArray × ByteArray × Int × Int × (List api_Field) × Bool) :=
 bnd3 (migrate_place k m_0 m_1 m_2 m_3 m_4 m_5 m_6 m_7 m_8 m_9) fun x3 x4 x5 =>
 cnd (m_0 == 0) (some (1, m_8, ByteArray.empty, ByteArray.empty, 0, 0, ([] : List api_Field), true)) (cnd (m_0 == 2) (some (2, m_3, ByteArray.empty, m_1, 0, 0, ([] : List api_Field), true)) (cnd (m_0 == 3) (some (4, m_1, m_5, ByteArray.empty, 0, 0, ([] : List api_Field), true)) (cnd (m_0 == 5) (some (5, m_1, m_3, m_2, 0, 0, ([] : List api_Field), true)) (cnd (m_0 == 6) ((idx k x3).bind fun x12 =>
 (idx x12.Fields x4).bind fun x26 =>
 cnd (decide (m_7 ≤ x26.Low)) ((kind_High x26.Name m_6 m_7).bind fun x45 =>
 (kind_High x26.Name x26.Bits x26.Low).bind fun x47 =>
 migrate_inverse_j1 m_1 m_2 x26 (decide (x47 ≤ x45))) (migrate_inverse_j1 m_1 m_2 x26 false)) (some (0, ByteArray.empty, ByteArray.empty, ByteArray.empty, 0, 0, ([] : List api_Field), false))))))
noncomputable def slices_Reverse_migrate_Move_migrate_Move_j2 (i5 : Int) (i6 : Int) (l8 : List migrate_Move) : Option (((List migrate_Move) × Int × Int) ⊕ (List migrate_Move)) :=
 some (.inl (l8, IntKind.i64.wrap (i5 + 1), IntKind.i64.wrap (i6 - 1)))
noncomputable def slices_Reverse_migrate_Move_migrate_Move_l1 (l1 : List migrate_Move) (i5 : Int) (i6 : Int) : Option (((List migrate_Move) × Int × Int) ⊕ (List migrate_Move)) :=
 cnd (decide (i5 < i6)) ((idx l1 i6).bind fun x12 =>
 (idx l1 i5).bind fun x25 =>
 (idx l1 i5).bind fun x37 =>
 (upd l1 i5 (migrate_Move.mk x12.Do x12.Kind x12.Field x12.Name x12.Value (api_Field.mk x12.New.Name x12.New.Bits x12.New.Low) (api_Kind.mk x12.Whole.Name x12.Whole.Fields))).bind fun l49 =>
 (idx l49 i6).bind fun x63 =>
 (upd l49 i6 (migrate_Move.mk x25.Do x25.Kind x25.Field x25.Name x25.Value (api_Field.mk x25.New.Name x25.New.Bits x25.New.Low) (api_Kind.mk x25.Whole.Name x25.Whole.Fields))).bind fun l75 =>
 slices_Reverse_migrate_Move_migrate_Move_j2 i5 i6 l75) (some (.inr l1))
noncomputable def slices_Reverse_migrate_Move_migrate_Move (s : List migrate_Move) : Option ((List migrate_Move)) :=
 (loop (σ := (List migrate_Move) × Int × Int) (ρ := (List migrate_Move)) (fun s_ => slices_Reverse_migrate_Move_migrate_Move_l1 s_.1 s_.2.1 s_.2.2) (s, 0, IntKind.i64.wrap ((s.length : Int) - 1))).bind (fun e_ => some e_)
noncomputable def migrate_Back_j1 (l15 : List migrate_Move) : Option ((List migrate_Move) × Int) :=
 (slices_Reverse_migrate_Move_migrate_Move l15).bind fun x20 =>
 some (x20, 0)
noncomputable def migrate_Back_l2 (l : List migrate_Move) (l27 : List api_Kind) (l31 : List migrate_Move) (i34 : Int) : Option (((List api_Kind) × (List migrate_Move) × Int) ⊕ (((List migrate_Move) × Int) ⊕ (List migrate_Move))) :=
 cnd (decide (i34 < (l.length : Int))) ((idx l i34).bind fun x38 =>
 bnd8 (migrate_inverse l27 x38.Do x38.Kind x38.Field x38.Name x38.Value x38.New.Name x38.New.Bits x38.New.Low x38.Whole.Name x38.Whole.Fields) fun x53 x54 x55 x56 x57 x58 x59 x60 =>
 cnd (!x60) (some (.inr (.inl (([] : List migrate_Move), 4)))) ((app 136 l31 ([(migrate_Move.mk x53 x54 x55 x56 0 (api_Field.mk ByteArray.empty x57 x58) (api_Kind.mk ByteArray.empty x59))] : List migrate_Move)).bind fun l74 =>
 bnd2 (migrate_one l27 x38.Do x38.Kind x38.Field x38.Name x38.Value x38.New.Name x38.New.Bits x38.New.Low x38.Whole.Name x38.Whole.Fields) fun x83 x84 =>
 some (.inl (x83, l74, IntKind.i64.wrap (i34 + 1))))) (some (.inr (.inr l31)))
noncomputable def migrate_Back (k : List api_Kind) (l : List migrate_Move) : Option ((List migrate_Move) × Int) :=
 bnd2 (migrate_Kinds k l) fun x1 x2 =>
 cnd (!(x2 == 0)) (some (([] : List migrate_Move), x2)) ((loop (σ := (List api_Kind) × (List migrate_Move) × Int) (ρ := (((List migrate_Move) × Int) ⊕ (List migrate_Move))) (fun s_ => migrate_Back_l2 l s_.1 s_.2.1 s_.2.2) (k, ([] : List migrate_Move), 0)).bind (Sum.elim (fun e_ => some (e_.1, e_.2)) (fun e_ => migrate_Back_j1 e_)))
noncomputable def strings_Trim (s_ : ByteArray) : Option ByteArray := trim s_ [97, 98, 99, 100, 101, 102, 103, 104, 105, 106, 107, 108, 109, 110, 111, 112, 113, 114, 115, 116, 117, 118, 119, 120, 121, 122, 48, 49, 50, 51, 52, 53, 54, 55, 56, 57]
noncomputable def tourref3_IsName_j1 (t1 : Bool) : Option Bool :=
 some t1
noncomputable def tourref3_IsName (s : ByteArray) : Option Bool :=
 cnd (!(s.toList == (⟨#[]⟩ : ByteArray).toList)) (cnd (decide ((s.size : Int) < 17)) ((strings_Trim s).bind fun x4 =>
 cnd (x4.toList == (⟨#[]⟩ : ByteArray).toList) ((sidx s 0).bind fun x7 =>
 tourref3_IsName_j1 (decide (57 < x7))) (tourref3_IsName_j1 false)) (tourref3_IsName_j1 false)) (tourref3_IsName_j1 false)
noncomputable def tourref3_FieldOK_j1 (t2 : Bool) : Option Bool :=
 some t2
noncomputable def tourref3_FieldOK (f_0 : ByteArray) (f_1 : Int) (f_2 : Int) : Option Bool :=
 (tourref3_IsName f_0).bind fun x3 =>
 cnd x3 (cnd (decide (0 < f_1)) (cnd (decide (f_1 < 33)) (cnd (decide ((-4294967296) ≤ f_2)) (tourref3_FieldOK_j1 (decide (f_2 ≤ 4294967296))) (tourref3_FieldOK_j1 false)) (tourref3_FieldOK_j1 false)) (tourref3_FieldOK_j1 false)) (tourref3_FieldOK_j1 false)
noncomputable def slices_Index_string_string_j1 : Option Int :=
 some (-1)
noncomputable def slices_Index_string_string_l2 (s : List ByteArray) (v : ByteArray) (i1 : Int) : Option (Int ⊕ (Int ⊕ Unit)) :=
 cnd (decide (i1 < (s.length : Int))) ((idx s i1).bind fun x3 =>
 cnd (v.toList == x3.toList) (some (.inr (.inl i1))) (some (.inl (IntKind.i64.wrap (i1 + 1))))) (some (.inr (.inr ())))
noncomputable def slices_Index_string_string (s : List ByteArray) (v : ByteArray) : Option Int :=
 (loop (σ := Int) (ρ := (Int ⊕ Unit)) (fun s_ => slices_Index_string_string_l2 s v s_) 0).bind (Sum.elim (fun e_ => some e_) (fun e_ => slices_Index_string_string_j1))
noncomputable def slices_Contains_string_string (s : List ByteArray) (v : ByteArray) : Option Bool :=
 (slices_Index_string_string s v).bind fun x1 =>
 some (decide (0 ≤ x1))
noncomputable def tourref3_twice (l : List ByteArray) (s : ByteArray) : Option Bool :=
 (slices_Contains_string_string l s).bind fun x1 =>
 some x1
noncomputable def tourref3_KindError_j1 : Option Int :=
 some 0
noncomputable def tourref3_KindError_l2 (k_1 : List api_Field) (l8 : List ByteArray) (i11 : Int) : Option (((List ByteArray) × Int) ⊕ (Int ⊕ Unit)) :=
 cnd (decide (i11 < (k_1.length : Int))) ((idx k_1 i11).bind fun x13 =>
 (tourref3_FieldOK x13.Name x13.Bits x13.Low).bind fun x25 =>
 cnd (!x25) (some (.inr (.inl 3))) ((tourref3_twice l8 x13.Name).bind fun x28 =>
 cnd x28 (some (.inr (.inl 5))) ((app 16 l8 ([x13.Name] : List ByteArray)).bind fun l33 =>
 some (.inl (l33, IntKind.i64.wrap (i11 + 1)))))) (some (.inr (.inr ())))
noncomputable def tourref3_KindError (k_0 : ByteArray) (k_1 : List api_Field) : Option Int :=
 (tourref3_IsName k_0).bind fun x2 =>
 cnd (!x2) (some 3) (cnd (decide (8 < (k_1.length : Int))) (some 2) ((loop (σ := (List ByteArray) × Int) (ρ := (Int ⊕ Unit)) (fun s_ => tourref3_KindError_l2 k_1 s_.1 s_.2) (([] : List ByteArray), 0)).bind (Sum.elim (fun e_ => some e_) (fun e_ => tourref3_KindError_j1))))
noncomputable def tourref3_KindsError_j1 : Option Int :=
 some 0
noncomputable def tourref3_KindsError_l2 (l : List api_Kind) (l4 : List ByteArray) (i7 : Int) : Option (((List ByteArray) × Int) ⊕ (Int ⊕ Unit)) :=
 cnd (decide (i7 < (l.length : Int))) ((idx l i7).bind fun x9 =>
 (tourref3_KindError x9.Name x9.Fields).bind fun x24 =>
 cnd (!(x24 == 0)) (some (.inr (.inl x24))) ((tourref3_twice l4 x9.Name).bind fun x27 =>
 cnd x27 (some (.inr (.inl 5))) ((app 16 l4 ([x9.Name] : List ByteArray)).bind fun l32 =>
 some (.inl (l32, IntKind.i64.wrap (i7 + 1)))))) (some (.inr (.inr ())))
noncomputable def tourref3_KindsError (l : List api_Kind) : Option Int :=
 cnd (decide (16 < (l.length : Int))) (some 2) ((loop (σ := (List ByteArray) × Int) (ρ := (Int ⊕ Unit)) (fun s_ => tourref3_KindsError_l2 l s_.1 s_.2) (([] : List ByteArray), 0)).bind (Sum.elim (fun e_ => some e_) (fun e_ => tourref3_KindsError_j1)))
noncomputable def tourref3_where_j1 : Option (Int × Int) :=
 some ((-1), (-1))
noncomputable def tourref3_where_j3 (i1 : Int) : Option (Int ⊕ ((Int × Int) ⊕ Unit)) :=
 some (.inr (.inl (i1, (-1))))
noncomputable def tourref3_where_l4 (x3 : api_Kind) (field : ByteArray) (i1 : Int) (i19 : Int) : Option (Int ⊕ ((Int × Int) ⊕ Unit)) :=
 cnd (decide (i19 < (x3.Fields.length : Int))) ((idx x3.Fields i19).bind fun x21 =>
 cnd (x21.Name.toList == field.toList) (some (.inr (.inl (i1, i19)))) (some (.inl (IntKind.i64.wrap (i19 + 1))))) (some (.inr (.inr ())))
noncomputable def tourref3_where_l2 (k : List api_Kind) (kind : ByteArray) (field : ByteArray) (i1 : Int) : Option (Int ⊕ ((Int × Int) ⊕ Unit)) :=
 cnd (decide (i1 < (k.length : Int))) ((idx k i1).bind fun x3 =>
 cnd (!(x3.Name.toList == kind.toList)) (some (.inl (IntKind.i64.wrap (i1 + 1)))) ((loop (σ := Int) (ρ := ((Int × Int) ⊕ Unit)) (fun s_ => tourref3_where_l4 x3 field i1 s_) 0).bind (Sum.elim (fun e_ => some (.inr (.inl (e_.1, e_.2)))) (fun e_ => tourref3_where_j3 i1)))) (some (.inr (.inr ())))
noncomputable def tourref3_where (k : List api_Kind) (kind : ByteArray) (field : ByteArray) : Option (Int × Int) :=
 (loop (σ := Int) (ρ := ((Int × Int) ⊕ Unit)) (fun s_ => tourref3_where_l2 k kind field s_) 0).bind (Sum.elim (fun e_ => some (e_.1, e_.2)) (fun e_ => tourref3_where_j1))
noncomputable def tourref3_KindsAfter_j3 (l16 : List api_Kind) : Option ((List api_Kind) × Int) :=
 (tourref3_KindsError l16).bind fun x19 =>
 cnd (!(x19 == 0)) (some (([] : List api_Kind), x19)) (some (l16, 0))
noncomputable def tourref3_KindsAfter_j2 (m_0 : Int) (m_8 : ByteArray) (m_9 : List api_Field) (l9 : List api_Kind) : Option ((List api_Kind) × Int) :=
 cnd (m_0 == 0) ((app 40 l9 ([(api_Kind.mk m_8 m_9)] : List api_Kind)).bind fun l25 =>
 tourref3_KindsAfter_j3 l25) (tourref3_KindsAfter_j3 l9)
noncomputable def tourref3_KindsAfter_j5 (i39 : Int) (l45 : List api_Kind) : Option (((List api_Kind) × Int) ⊕ (List api_Kind)) :=
 some (.inl (l45, IntKind.i64.wrap (i39 + 1)))
noncomputable def tourref3_KindsAfter_j8 (i39 : Int) (x4 : Int) (l36 : List api_Kind) (l73 : List api_Field) (m_0 : Int) (u76 : ByteArray) : Option (((List api_Kind) × Int) ⊕ (List api_Kind)) :=
 cnd (!(i39 == x4)) ((app 40 l36 ([(api_Kind.mk u76 l73)] : List api_Kind)).bind fun l84 =>
 tourref3_KindsAfter_j5 i39 l84) (cnd (!(m_0 == 1)) ((app 40 l36 ([(api_Kind.mk u76 l73)] : List api_Kind)).bind fun l100 =>
 tourref3_KindsAfter_j5 i39 l100) (tourref3_KindsAfter_j5 i39 l36))
noncomputable def tourref3_KindsAfter_j7 (i39 : Int) (x4 : Int) (m_0 : Int) (l36 : List api_Kind) (m_3 : ByteArray) (x50 : api_Kind) (l73 : List api_Field) : Option (((List api_Kind) × Int) ⊕ (List api_Kind)) :=
 cnd (i39 == x4) (cnd (m_0 == 2) (tourref3_KindsAfter_j8 i39 x4 l36 l73 m_0 m_3) (tourref3_KindsAfter_j8 i39 x4 l36 l73 m_0 x50.Name)) (tourref3_KindsAfter_j8 i39 x4 l36 l73 m_0 x50.Name)
noncomputable def tourref3_KindsAfter_j6 (i39 : Int) (x4 : Int) (m_0 : Int) (m_5 : ByteArray) (m_6 : Int) (m_7 : Int) (l36 : List api_Kind) (m_3 : ByteArray) (x50 : api_Kind) (l68 : List api_Field) : Option (((List api_Kind) × Int) ⊕ (List api_Kind)) :=
 cnd (i39 == x4) (cnd (m_0 == 3) ((app 32 l68 ([(api_Field.mk m_5 m_6 m_7)] : List api_Field)).bind fun l115 =>
 tourref3_KindsAfter_j7 i39 x4 m_0 l36 m_3 x50 l115) (tourref3_KindsAfter_j7 i39 x4 m_0 l36 m_3 x50 l68)) (tourref3_KindsAfter_j7 i39 x4 m_0 l36 m_3 x50 l68)
noncomputable def tourref3_KindsAfter_j10 (i133 : Int) (l137 : List api_Field) : Option (((List api_Field) × Int) ⊕ (List api_Field)) :=
 some (.inl (l137, IntKind.i64.wrap (i133 + 1)))
noncomputable def tourref3_KindsAfter_j14 (l130 : List api_Field) (u154 : ByteArray) (i133 : Int) (i156 : Int) (i157 : Int) : Option (((List api_Field) × Int) ⊕ (List api_Field)) :=
 (app 32 l130 ([(api_Field.mk u154 i156 i157)] : List api_Field)).bind fun l160 =>
 tourref3_KindsAfter_j10 i133 l160
noncomputable def tourref3_KindsAfter_j13 (m_0 : Int) (l130 : List api_Field) (i133 : Int) (m_6 : Int) (m_7 : Int) (x140 : api_Field) (u154 : ByteArray) (t155 : Bool) : Option (((List api_Field) × Int) ⊕ (List api_Field)) :=
 cnd t155 (cnd (m_0 == 6) (tourref3_KindsAfter_j14 l130 u154 i133 m_6 m_7) (tourref3_KindsAfter_j14 l130 u154 i133 x140.Bits x140.Low)) (tourref3_KindsAfter_j14 l130 u154 i133 x140.Bits x140.Low)
noncomputable def tourref3_KindsAfter_j12 (m_0 : Int) (l130 : List api_Field) (i133 : Int) (m_6 : Int) (m_7 : Int) (x140 : api_Field) (m_3 : ByteArray) (t153 : Bool) : Option (((List api_Field) × Int) ⊕ (List api_Field)) :=
 cnd t153 (cnd (m_0 == 5) (tourref3_KindsAfter_j13 m_0 l130 i133 m_6 m_7 x140 m_3 true) (tourref3_KindsAfter_j13 m_0 l130 i133 m_6 m_7 x140 x140.Name true)) (tourref3_KindsAfter_j13 m_0 l130 i133 m_6 m_7 x140 x140.Name false)
noncomputable def tourref3_KindsAfter_j11 (m_0 : Int) (i133 : Int) (l130 : List api_Field) (m_6 : Int) (m_7 : Int) (x140 : api_Field) (m_3 : ByteArray) (t152 : Bool) : Option (((List api_Field) × Int) ⊕ (List api_Field)) :=
 cnd t152 (cnd (m_0 == 4) (tourref3_KindsAfter_j10 i133 l130) (tourref3_KindsAfter_j12 m_0 l130 i133 m_6 m_7 x140 m_3 true)) (tourref3_KindsAfter_j12 m_0 l130 i133 m_6 m_7 x140 m_3 false)
noncomputable def tourref3_KindsAfter_l9 (x50 : api_Kind) (i39 : Int) (x4 : Int) (m_0 : Int) (m_6 : Int) (m_7 : Int) (m_3 : ByteArray) (x5 : Int) (l130 : List api_Field) (i133 : Int) : Option (((List api_Field) × Int) ⊕ (List api_Field)) :=
 cnd (decide (i133 < (x50.Fields.length : Int))) ((idx x50.Fields i133).bind fun x140 =>
 cnd (i39 == x4) (tourref3_KindsAfter_j11 m_0 i133 l130 m_6 m_7 x140 m_3 (i133 == x5)) (tourref3_KindsAfter_j11 m_0 i133 l130 m_6 m_7 x140 m_3 false)) (some (.inr l130))
noncomputable def tourref3_KindsAfter_l4 (k : List api_Kind) (x4 : Int) (m_0 : Int) (m_6 : Int) (m_7 : Int) (m_3 : ByteArray) (x5 : Int) (m_5 : ByteArray) (l36 : List api_Kind) (i39 : Int) : Option (((List api_Kind) × Int) ⊕ (List api_Kind)) :=
 cnd (decide (i39 < (k.length : Int))) ((idx k i39).bind fun x50 =>
 (loop (σ := (List api_Field) × Int) (ρ := (List api_Field)) (fun s_ => tourref3_KindsAfter_l9 x50 i39 x4 m_0 m_6 m_7 m_3 x5 s_.1 s_.2) (([] : List api_Field), 0)).bind (fun e_ => tourref3_KindsAfter_j6 i39 x4 m_0 m_5 m_6 m_7 l36 m_3 x50 e_)) (some (.inr l36))
noncomputable def tourref3_KindsAfter_j1 (k : List api_Kind) (x4 : Int) (m_0 : Int) (m_6 : Int) (m_7 : Int) (m_3 : ByteArray) (x5 : Int) (m_5 : ByteArray) (m_8 : ByteArray) (m_9 : List api_Field) : Option ((List api_Kind) × Int) :=
 (loop (σ := (List api_Kind) × Int) (ρ := (List api_Kind)) (fun s_ => tourref3_KindsAfter_l4 k x4 m_0 m_6 m_7 m_3 x5 m_5 s_.1 s_.2) (([] : List api_Kind), 0)).bind (fun e_ => tourref3_KindsAfter_j2 m_0 m_8 m_9 e_)
noncomputable def tourref3_KindsAfter (k : List api_Kind) (m_0 : Int) (m_1 : ByteArray) (m_2 : ByteArray) (m_3 : ByteArray) (m_4 : Int) (m_5 : ByteArray) (m_6 : Int) (m_7 : Int) (m_8 : ByteArray) (m_9 : List api_Field) : Option ((List api_Kind) × Int) :=
 cnd (decide (m_0 < 0)) (some (([] : List api_Kind), 1)) (cnd (decide (6 < m_0)) (some (([] : List api_Kind), 1)) (bnd2 (tourref3_where k m_1 m_2) fun x4 x5 =>
 cnd (decide (0 < m_0)) (cnd (decide (x4 < 0)) (some (([] : List api_Kind), 4)) (cnd (decide (3 < m_0)) (cnd (decide (x5 < 0)) (some (([] : List api_Kind), 4)) (tourref3_KindsAfter_j1 k x4 m_0 m_6 m_7 m_3 x5 m_5 m_8 m_9)) (tourref3_KindsAfter_j1 k x4 m_0 m_6 m_7 m_3 x5 m_5 m_8 m_9))) (cnd (decide (3 < m_0)) (cnd (decide (x5 < 0)) (some (([] : List api_Kind), 4)) (tourref3_KindsAfter_j1 k x4 m_0 m_6 m_7 m_3 x5 m_5 m_8 m_9)) (tourref3_KindsAfter_j1 k x4 m_0 m_6 m_7 m_3 x5 m_5 m_8 m_9))))
noncomputable def tourref3_After_j1 (l7 : List api_Kind) : Option ((List api_Kind) × Int) :=
 some (l7, 0)
noncomputable def tourref3_After_l2 (l : List migrate_Move) (l13 : List api_Kind) (i15 : Int) : Option (((List api_Kind) × Int) ⊕ (((List api_Kind) × Int) ⊕ (List api_Kind))) :=
 cnd (decide (i15 < (l.length : Int))) ((idx l i15).bind fun x19 =>
 bnd2 (tourref3_KindsAfter l13 x19.Do x19.Kind x19.Field x19.Name x19.Value x19.New.Name x19.New.Bits x19.New.Low x19.Whole.Name x19.Whole.Fields) fun x34 x35 =>
 cnd (!(x35 == 0)) (some (.inr (.inl ([], x35)))) (some (.inl (x34, IntKind.i64.wrap (i15 + 1))))) (some (.inr (.inr l13)))
noncomputable def tourref3_After (k : List api_Kind) (l : List migrate_Move) : Option ((List api_Kind) × Int) :=
 (tourref3_KindsError k).bind fun x1 =>
 cnd (!(x1 == 0)) (some ([], x1)) (cnd (decide (100 < (l.length : Int))) (some ([], 2)) ((loop (σ := (List api_Kind) × Int) (ρ := (((List api_Kind) × Int) ⊕ (List api_Kind))) (fun s_ => tourref3_After_l2 l s_.1 s_.2) (k, 0)).bind (Sum.elim (fun e_ => some (e_.1, e_.2)) (fun e_ => tourref3_After_j1 e_))))
noncomputable def tourref3_Top_j1 (f_2 : Int) (i2 : Int) : Option Int :=
 some (IntKind.i64.wrap (IntKind.i64.wrap (f_2 + i2) - 1))
noncomputable def tourref3_Top_l2 (f_1 : Int) (i3 : Int) (i4 : Int) : Option ((Int × Int) ⊕ Int) :=
 cnd (decide (i4 < f_1)) (some (.inl (IntKind.i64.wrap (i3 * 2), IntKind.i64.wrap (i4 + 1)))) (some (.inr i3))
noncomputable def tourref3_Top (f_0 : ByteArray) (f_1 : Int) (f_2 : Int) : Option Int :=
 (loop (σ := Int × Int) (ρ := Int) (fun s_ => tourref3_Top_l2 f_1 s_.1 s_.2) (1, 0)).bind (fun e_ => tourref3_Top_j1 f_2 e_)
noncomputable def tourref3_Nearest (f_0 : ByteArray) (f_1 : Int) (f_2 : Int) (v : Int) : Option Int :=
 (tourref3_FieldOK f_0 f_1 f_2).bind fun x2 =>
 cnd (!x2) (some 0) (cnd (decide (v < f_2)) (some f_2) ((tourref3_Top f_0 f_1 f_2).bind fun x6 =>
 cnd (decide (x6 < v)) ((tourref3_Top f_0 f_1 f_2).bind fun x9 =>
 some x9) (some v)))
noncomputable def tourref3_Undone_j1 (x38 : Int) (u48 : ByteArray) (u49 : ByteArray) (u50 : ByteArray) : Option (Int × ByteArray × ByteArray × ByteArray × Int × Int × (List api_Field) × Bool) :=
 some (x38, u48, u49, u50, 0, 0, ([] : List api_Field), true)
noncomputable def tourref3_Undone_j2 (x38 : Int) (m_1 : ByteArray) (m_2 : ByteArray) (x72 : api_Field) (t89 : Bool) : Option (Int × ByteArray × ByteArray × ByteArray × Int × Int × (List api_Field) × Bool) :=
 some (x38, m_1, m_2, ByteArray.empty, x72.Bits, x72.Low, ([] : List api_Field), t89)
noncomputable def tourref3_Undone (k : List api_Kind) (m_0 : Int) (m_1 : ByteArray) (m_2 : ByteArray) (m_3 : ByteArray) (m_4 : Int) (m_5 : ByteArray) (m_6 : Int) (m_7 : Int) (m_8 : ByteArray) (m_9 : List api_Field) : Option (Int × ByteArray × ByteArray × ByteArray × Int × Int × (List api_Field) × Bool) :=
 bnd2 (tourref3_where k m_1 m_2) fun x3 x4 =>
 (some (mput ([] : List (Int × Int)) 0 1)).bind fun l8 =>
 (some (mput l8 2 2)).bind fun l14 =>
 (some (mput l14 3 4)).bind fun l20 =>
 (some (mput l20 5 5)).bind fun l26 =>
 (some (mput l26 6 6)).bind fun l32 =>
 (some ((mget l32 m_0).getD 0)).bind fun x38 =>
 cnd (m_0 == 0) (tourref3_Undone_j1 x38 m_8 ByteArray.empty ByteArray.empty) (cnd (m_0 == 2) (tourref3_Undone_j1 x38 m_3 ByteArray.empty m_1) (cnd (m_0 == 3) (tourref3_Undone_j1 x38 m_1 m_5 ByteArray.empty) (cnd (m_0 == 5) (tourref3_Undone_j1 x38 m_1 m_3 m_2) (cnd (m_0 == 6) ((idx k x3).bind fun x58 =>
 (idx x58.Fields x4).bind fun x72 =>
 (tourref3_Nearest x72.Name m_6 m_7 x72.Low).bind fun x90 =>
 cnd (x90 == x72.Low) ((tourref3_Top x72.Name x72.Bits x72.Low).bind fun x93 =>
 (tourref3_Nearest x72.Name m_6 m_7 x93).bind fun x95 =>
 (tourref3_Top x72.Name x72.Bits x72.Low).bind fun x97 =>
 tourref3_Undone_j2 x38 m_1 m_2 x72 (x95 == x97)) (tourref3_Undone_j2 x38 m_1 m_2 x72 false)) (some (0, ByteArray.empty, ByteArray.empty, ByteArray.empty, 0, 0, ([] : List api_Field), false))))))
noncomputable def slices_Equal_api_Field_api_Field_j1 : Option Bool :=
 some true
noncomputable def slices_Equal_api_Field_api_Field_l2 (s1_1 : List api_Field) (s2_1 : List api_Field) (i2 : Int) : Option (Int ⊕ (Bool ⊕ Unit)) :=
 cnd (decide (i2 < (s1_1.length : Int))) ((idx s1_1 i2).bind fun x4 =>
 (idx s2_1 i2).bind fun x15 =>
 cnd (!(x4.Name.toList == x15.Name.toList && (x4.Bits == x15.Bits && (x4.Low == x15.Low)))) (some (.inr (.inl false))) (some (.inl (IntKind.i64.wrap (i2 + 1))))) (some (.inr (.inr ())))
noncomputable def slices_Equal_api_Field_api_Field (s1_1 : List api_Field) (s2_1 : List api_Field) : Option Bool :=
 cnd (!((s1_1.length : Int) == (s2_1.length : Int))) (some false) ((loop (σ := Int) (ρ := (Bool ⊕ Unit)) (fun s_ => slices_Equal_api_Field_api_Field_l2 s1_1 s2_1 s_) 0).bind (Sum.elim (fun e_ => some e_) (fun e_ => slices_Equal_api_Field_api_Field_j1)))
noncomputable def tourref3_SameKind_j1 (t3 : Bool) : Option Bool :=
 some t3
noncomputable def tourref3_SameKind (a_0 : ByteArray) (a_1 : List api_Field) (b_0 : ByteArray) (b_1 : List api_Field) : Option Bool :=
 cnd (a_0.toList == b_0.toList) ((slices_Equal_api_Field_api_Field a_1 b_1).bind fun x5 =>
 tourref3_SameKind_j1 x5) (tourref3_SameKind_j1 false)
noncomputable def tourref3_SameMove_j1 (t3 : Bool) : Option Bool :=
 some t3
noncomputable def tourref3_SameMove (a_0 : Int) (a_1 : ByteArray) (a_2 : ByteArray) (a_3 : ByteArray) (a_4 : Int) (a_5 : ByteArray) (a_6 : Int) (a_7 : Int) (a_8 : ByteArray) (a_9 : List api_Field) (b_0 : Int) (b_1 : ByteArray) (b_2 : ByteArray) (b_3 : ByteArray) (b_4 : Int) (b_5 : ByteArray) (b_6 : Int) (b_7 : Int) (b_8 : ByteArray) (b_9 : List api_Field) : Option Bool :=
 cnd (a_0 == b_0) (cnd (a_1.toList == b_1.toList) (cnd (a_2.toList == b_2.toList) (cnd (a_3.toList == b_3.toList) (cnd (a_4 == b_4) (cnd (a_5.toList == b_5.toList && (a_6 == b_6 && (a_7 == b_7))) ((tourref3_SameKind a_8 a_9 b_8 b_9).bind fun x10 =>
 tourref3_SameMove_j1 x10) (tourref3_SameMove_j1 false)) (tourref3_SameMove_j1 false)) (tourref3_SameMove_j1 false)) (tourref3_SameMove_j1 false)) (tourref3_SameMove_j1 false)) (tourref3_SameMove_j1 false)
noncomputable def slices_EqualFunc_migrate_Move_migrate_Move_migrate_Move_migrate_Move_j1 : Option Bool :=
 some true
noncomputable def slices_EqualFunc_migrate_Move_migrate_Move_migrate_Move_migrate_Move_l2 (s1_1 : List migrate_Move) (s2_1 : List migrate_Move) (i2 : Int) : Option (Int ⊕ (Bool ⊕ Unit)) :=
 cnd (decide (i2 < (s1_1.length : Int))) ((idx s1_1 i2).bind fun x4 =>
 (idx s2_1 i2).bind fun x19 =>
 (tourref3_SameMove x4.Do x4.Kind x4.Field x4.Name x4.Value x4.New.Name x4.New.Bits x4.New.Low x4.Whole.Name x4.Whole.Fields x19.Do x19.Kind x19.Field x19.Name x19.Value x19.New.Name x19.New.Bits x19.New.Low x19.Whole.Name x19.Whole.Fields).bind fun x34 =>
 cnd (!x34) (some (.inr (.inl false))) (some (.inl (IntKind.i64.wrap (i2 + 1))))) (some (.inr (.inr ())))
noncomputable def slices_EqualFunc_migrate_Move_migrate_Move_migrate_Move_migrate_Move (s1_1 : List migrate_Move) (s2_1 : List migrate_Move) : Option Bool :=
 cnd (!((s1_1.length : Int) == (s2_1.length : Int))) (some false) ((loop (σ := Int) (ρ := (Bool ⊕ Unit)) (fun s_ => slices_EqualFunc_migrate_Move_migrate_Move_migrate_Move_migrate_Move_l2 s1_1 s2_1 s_) 0).bind (Sum.elim (fun e_ => some e_) (fun e_ => slices_EqualFunc_migrate_Move_migrate_Move_migrate_Move_migrate_Move_j1)))
noncomputable def tourlaw3_MigrateBack_j1 (t53 : Bool) : Option Bool :=
 some t53
noncomputable def tourlaw3_MigrateBack_j3 (t62 : Bool) : Option Bool :=
 some t62
noncomputable def tourlaw3_MigrateBack_j2 (x34 : Int) (x33 : List migrate_Move) (l57 : List migrate_Move) : Option Bool :=
 cnd (x34 == 0) ((slices_EqualFunc_migrate_Move_migrate_Move_migrate_Move_migrate_Move x33 l57).bind fun x64 =>
 tourlaw3_MigrateBack_j3 x64) (tourlaw3_MigrateBack_j3 false)
noncomputable def tourlaw3_MigrateBack_j5 (t109 : Bool) : Option (((List api_Kind) × (List migrate_Move) × Int) ⊕ (Bool ⊕ (List migrate_Move))) :=
 some (.inr (.inl t109))
noncomputable def tourlaw3_MigrateBack_l4 (l : List migrate_Move) (x34 : Int) (x33 : List migrate_Move) (l68 : List api_Kind) (l72 : List migrate_Move) (i75 : Int) : Option (((List api_Kind) × (List migrate_Move) × Int) ⊕ (Bool ⊕ (List migrate_Move))) :=
 cnd (decide (i75 < (l.length : Int))) ((idx l i75).bind fun x79 =>
 bnd8 (tourref3_Undone l68 x79.Do x79.Kind x79.Field x79.Name x79.Value x79.New.Name x79.New.Bits x79.New.Low x79.Whole.Name x79.Whole.Fields) fun x94 x95 x96 x97 x98 x99 x100 x101 =>
 cnd (!x101) (cnd (x34 == 4) (tourlaw3_MigrateBack_j5 ((x33.length : Int) == 0)) (tourlaw3_MigrateBack_j5 false)) ((app 136 ([(migrate_Move.mk x94 x95 x96 x97 0 (api_Field.mk ByteArray.empty x98 x99) (api_Kind.mk ByteArray.empty x100))] : List migrate_Move) l72).bind fun l117 =>
 bnd2 (tourref3_KindsAfter l68 x79.Do x79.Kind x79.Field x79.Name x79.Value x79.New.Name x79.New.Bits x79.New.Low x79.Whole.Name x79.Whole.Fields) fun x126 x127 =>
 some (.inl (x126, l117, IntKind.i64.wrap (i75 + 1))))) (some (.inr (.inr l72)))
noncomputable def tourlaw3_MigrateBack (k : List api_Kind) (l : List migrate_Move) : Option Bool :=
 (tourlaw3_two).bind fun x1 =>
 (tourlaw3_drop).bind fun x9 =>
 bnd2 (migrate_Back x1 x9) fun x22 x23 =>
 cnd (!(x23 == 4)) (some false) (bnd2 (migrate_Back k l) fun x33 x34 =>
 bnd2 (tourref3_After k l) fun x43 x44 =>
 cnd (!(x44 == 0)) (cnd (x34 == x44) (tourlaw3_MigrateBack_j1 ((x33.length : Int) == 0)) (tourlaw3_MigrateBack_j1 false)) ((loop (σ := (List api_Kind) × (List migrate_Move) × Int) (ρ := (Bool ⊕ (List migrate_Move))) (fun s_ => tourlaw3_MigrateBack_l4 l x34 x33 s_.1 s_.2.1 s_.2.2) (k, ([] : List migrate_Move), 0)).bind (Sum.elim (fun e_ => some e_) (fun e_ => tourlaw3_MigrateBack_j2 x34 x33 e_))))
end Go.Proofs.YtnnhijlgohlaeaaDoor.A
