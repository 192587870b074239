/- The Go functions as plain functions over Option. No condition. -/
import Derived.Test.YthcbepikeinglaaTyM
namespace Go.Proofs.Ythcbepikeinglaa.M
open Go Go.RowKit Go.Proofs.Ythcbepikeinglaa.Sx
set_option linter.unusedVariables false
noncomputable def slices_Clone_int_int (s : List Int) : Option ((List Int)) :=
 (app 8 ([] : List Int) s).bind fun l5 =>
 some l5
noncomputable def world_CopyComps_j1 (l12 : List api_Comp) : Option ((List api_Comp)) :=
 some l12
noncomputable def world_CopyComps_l2 (l : List api_Comp) (l17 : List api_Comp) (i20 : Int) : Option (((List api_Comp) × Int) ⊕ (List api_Comp)) :=
 cnd (decide (i20 < (l.length : Int))) ((idx l i20).bind fun x24 =>
 (slices_Clone_int_int x24.Vals).bind fun x39 =>
 (idx l17 i20).bind fun x45 =>
 (upd l17 i20 (api_Comp.mk x24.Kind x39)).bind fun l61 =>
 some (.inl (l61, IntKind.i64.wrap (i20 + 1)))) (some (.inr l17))
noncomputable def world_CopyComps (l : List api_Comp) : Option ((List api_Comp)) :=
 (mk 32 (l.length : Int) ((api_Comp.mk 0 []) : api_Comp)).bind fun l1 =>
 (loop (σ := (List api_Comp) × Int) (ρ := (List api_Comp)) (fun s_ => world_CopyComps_l2 l s_.1 s_.2) (l1, 0)).bind (fun e_ => world_CopyComps_j1 e_)
noncomputable def cmd_Copy (c_0 : Int) (c_1 : Int) (c_2 : Int) (c_3 : Int) (c_4 : List api_Comp) : Option ((List api_Comp)) :=
 (world_CopyComps c_4).bind fun x3 =>
 some x3
noncomputable def cmd_Join_j2 (l3 : List api_Cmd) : Option ((List api_Cmd) × Int) :=
 some (l3, 0)
noncomputable def cmd_Join_j4 (i13 : Int) (l19 : List api_Cmd) : Option (((List api_Cmd) × Int) ⊕ (List api_Cmd)) :=
 some (.inl (l19, IntKind.i64.wrap (i13 + 1)))
noncomputable def cmd_Join_l5 (x24 : List api_Cmd) (l40 : List api_Cmd) (i43 : Int) : Option (((List api_Cmd) × Int) ⊕ (List api_Cmd)) :=
 cnd (decide (i43 < (x24.length : Int))) ((idx x24 i43).bind fun x47 =>
 (cmd_Copy x47.Do x47.Ent.N x47.Ent.Gen x47.Kind x47.Comps).bind fun x62 =>
 (app 56 l40 ([(api_Cmd.mk x47.Do (api_Ent.mk x47.Ent.N x47.Ent.Gen) x47.Kind x62)] : List api_Cmd)).bind fun l77 =>
 some (.inl (l77, IntKind.i64.wrap (i43 + 1)))) (some (.inr l40))
noncomputable def cmd_Join_l3 (l : List (List api_Cmd)) (l10 : List api_Cmd) (i13 : Int) : Option (((List api_Cmd) × Int) ⊕ (List api_Cmd)) :=
 cnd (decide (i13 < (l.length : Int))) ((idx l i13).bind fun x24 =>
 (loop (σ := (List api_Cmd) × Int) (ρ := (List api_Cmd)) (fun s_ => cmd_Join_l5 x24 s_.1 s_.2) (l10, 0)).bind (fun e_ => cmd_Join_j4 i13 e_)) (some (.inr l10))
noncomputable def cmd_Join_j1 (l : List (List api_Cmd)) : Option ((List api_Cmd) × Int) :=
 (loop (σ := (List api_Cmd) × Int) (ρ := (List api_Cmd)) (fun s_ => cmd_Join_l3 l s_.1 s_.2) (([] : List api_Cmd), 0)).bind (fun e_ => cmd_Join_j2 e_)
noncomputable def cmd_Join_l6 (l : List (List api_Cmd)) (i86 : Int) (i87 : Int) : Option ((Int × Int) ⊕ (((List api_Cmd) × Int) ⊕ Unit)) :=
 cnd (decide (i87 < (l.length : Int))) ((idx l i87).bind fun x89 =>
 cnd (decide (131072 < IntKind.i64.wrap (i86 + (x89.length : Int)))) (some (.inr (.inl (([] : List api_Cmd), 2)))) (some (.inl (IntKind.i64.wrap (i86 + (x89.length : Int)), IntKind.i64.wrap (i87 + 1))))) (some (.inr (.inr ())))
noncomputable def cmd_Join (l : List (List api_Cmd)) : Option ((List api_Cmd) × Int) :=
 (loop (σ := Int × Int) (ρ := (((List api_Cmd) × Int) ⊕ Unit)) (fun s_ => cmd_Join_l6 l s_.1 s_.2) (0, 0)).bind (Sum.elim (fun e_ => some (e_.1, e_.2)) (fun e_ => cmd_Join_j1 l))
noncomputable def tourlaw3_two : Option ((List api_Kind)) :=
 some ([(api_Kind.mk (⟨#[112, 108, 97, 99, 101]⟩) ([(api_Field.mk (⟨#[120]⟩) 3 (-2))] : List api_Field)), (api_Kind.mk (⟨#[108, 105, 102, 101]⟩) ([(api_Field.mk (⟨#[120]⟩) 8 0)] : List api_Field))] : List api_Kind)
noncomputable def tourlaw3_pair : Option ((List api_Kind) × (List Int) × (List api_Item)) :=
 (tourlaw3_two).bind fun x2 =>
 some (x2, ([0, 2] : List Int), ([(api_Item.mk (api_Ent.mk 0 0) ([(api_Comp.mk 0 ([4] : List Int)), (api_Comp.mk 1 ([9] : List Int))] : List api_Comp)), (api_Item.mk (api_Ent.mk 1 2) ([(api_Comp.mk 1 ([7] : List Int))] : List api_Comp))] : List api_Item))
noncomputable def slices_Grow_api_Cmd_api_Cmd (n_ : Int) : Option (List api_Cmd) := grow 56 n_
noncomputable def slices_Concat_api_Cmd_api_Cmd_j2 (l10 : List api_Cmd) : Option ((List api_Cmd)) :=
 some l10
noncomputable def slices_Concat_api_Cmd_api_Cmd_l3 (slices : List (List api_Cmd)) (l15 : List api_Cmd) (i18 : Int) : Option (((List api_Cmd) × Int) ⊕ (List api_Cmd)) :=
 cnd (decide (i18 < (slices.length : Int))) ((idx slices i18).bind fun x20 =>
 (app 56 l15 x20).bind fun l34 =>
 some (.inl (l34, IntKind.i64.wrap (i18 + 1)))) (some (.inr l15))
noncomputable def slices_Concat_api_Cmd_api_Cmd_j1 (slices : List (List api_Cmd)) (i1 : Int) : Option ((List api_Cmd)) :=
 (slices_Grow_api_Cmd_api_Cmd i1).bind fun x2 =>
 (loop (σ := (List api_Cmd) × Int) (ρ := (List api_Cmd)) (fun s_ => slices_Concat_api_Cmd_api_Cmd_l3 slices s_.1 s_.2) (x2, 0)).bind (fun e_ => slices_Concat_api_Cmd_api_Cmd_j2 e_)
noncomputable def slices_Concat_api_Cmd_api_Cmd_l4 (slices : List (List api_Cmd)) (i46 : Int) (i47 : Int) : Option ((Int × Int) ⊕ Int) :=
 cnd (decide (i47 < (slices.length : Int))) ((idx slices i47).bind fun x49 =>
 cnd (decide (IntKind.i64.wrap (i46 + (x49.length : Int)) < 0)) (none) (some (.inl (IntKind.i64.wrap (i46 + (x49.length : Int)), IntKind.i64.wrap (i47 + 1))))) (some (.inr i46))
noncomputable def slices_Concat_api_Cmd_api_Cmd (slices : List (List api_Cmd)) : Option ((List api_Cmd)) :=
 (loop (σ := Int × Int) (ρ := Int) (fun s_ => slices_Concat_api_Cmd_api_Cmd_l4 slices s_.1 s_.2) (0, 0)).bind (fun e_ => slices_Concat_api_Cmd_api_Cmd_j1 slices e_)
noncomputable def kind_Name_j1 : Option Bool :=
 some true
noncomputable def kind_Name_j3 (i3 : Int) : Option (Int ⊕ (Bool ⊕ Unit)) :=
 some (.inl (IntKind.i64.wrap (i3 + 1)))
noncomputable def kind_Name_l2 (s : ByteArray) (i3 : Int) : Option (Int ⊕ (Bool ⊕ Unit)) :=
 cnd (decide (i3 < (s.size : Int))) ((sidx s i3).bind fun x5 =>
 cnd (decide (97 ≤ x5)) (cnd (decide (x5 ≤ 122)) (kind_Name_j3 i3) (cnd (decide (0 < i3)) (cnd (decide (48 ≤ x5)) (cnd (!(decide (x5 ≤ 57))) (some (.inr (.inl false))) (kind_Name_j3 i3)) (some (.inr (.inl false)))) (some (.inr (.inl false))))) (cnd (decide (0 < i3)) (cnd (decide (48 ≤ x5)) (cnd (!(decide (x5 ≤ 57))) (some (.inr (.inl false))) (kind_Name_j3 i3)) (some (.inr (.inl false)))) (some (.inr (.inl false))))) (some (.inr (.inr ())))
noncomputable def kind_Name (s : ByteArray) : Option Bool :=
 cnd ((s.size : Int) == 0) (some false) (cnd (decide (16 < (s.size : Int))) (some false) ((loop (σ := Int) (ρ := (Bool ⊕ Unit)) (fun s_ => kind_Name_l2 s s_) 0).bind (Sum.elim (fun e_ => some e_) (fun e_ => kind_Name_j1))))
noncomputable def kind_field (f_0 : ByteArray) (f_1 : Int) (f_2 : Int) : Option Int :=
 (kind_Name f_0).bind fun x2 =>
 cnd (!x2) (some 3) (cnd (decide (f_1 < 1)) (some 3) (cnd (decide (32 < f_1)) (some 3) (cnd (decide (f_2 < (-4294967296))) (some 3) (cnd (decide (4294967296 < f_2)) (some 3) (some 0)))))
noncomputable def kind_One_j1 : Option Int :=
 some 0
noncomputable def kind_One_j3 (i6 : Int) : Option (Int ⊕ (Int ⊕ Unit)) :=
 some (.inl (IntKind.i64.wrap (i6 + 1)))
noncomputable def kind_One_l4 (l23 : List api_Field) (x8 : api_Field) (i34 : Int) : Option (Int ⊕ (Int ⊕ Unit)) :=
 cnd (decide (i34 < (l23.length : Int))) ((idx l23 i34).bind fun x36 =>
 cnd (x36.Name.toList == x8.Name.toList) (some (.inr (.inl 5))) (some (.inl (IntKind.i64.wrap (i34 + 1))))) (some (.inr (.inr ())))
noncomputable def kind_One_l2 (k_1 : List api_Field) (i6 : Int) : Option (Int ⊕ (Int ⊕ Unit)) :=
 cnd (decide (i6 < (k_1.length : Int))) ((idx k_1 i6).bind fun x8 =>
 (kind_field x8.Name x8.Bits x8.Low).bind fun x20 =>
 cnd (!(x20 == 0)) (some (.inr (.inl x20))) ((cut k_1 0 i6).bind fun l23 =>
 (loop (σ := Int) (ρ := (Int ⊕ Unit)) (fun s_ => kind_One_l4 l23 x8 s_) 0).bind (Sum.elim (fun e_ => some (.inr (.inl e_))) (fun e_ => kind_One_j3 i6)))) (some (.inr (.inr ())))
noncomputable def kind_One (k_0 : ByteArray) (k_1 : List api_Field) : Option Int :=
 (kind_Name k_0).bind fun x2 =>
 cnd (!x2) (some 3) (cnd (decide (8 < (k_1.length : Int))) (some 2) ((loop (σ := Int) (ρ := (Int ⊕ Unit)) (fun s_ => kind_One_l2 k_1 s_) 0).bind (Sum.elim (fun e_ => some e_) (fun e_ => kind_One_j1))))
noncomputable def kind_Find_j1 : Option Int :=
 some (-1)
noncomputable def kind_Find_l2 (l : List api_Kind) (name : ByteArray) (i1 : Int) : Option (Int ⊕ (Int ⊕ Unit)) :=
 cnd (decide (i1 < (l.length : Int))) ((idx l i1).bind fun x3 =>
 cnd (x3.Name.toList == name.toList) (some (.inr (.inl i1))) (some (.inl (IntKind.i64.wrap (i1 + 1))))) (some (.inr (.inr ())))
noncomputable def kind_Find (l : List api_Kind) (name : ByteArray) : Option Int :=
 (loop (σ := Int) (ρ := (Int ⊕ Unit)) (fun s_ => kind_Find_l2 l name s_) 0).bind (Sum.elim (fun e_ => some e_) (fun e_ => kind_Find_j1))
noncomputable def kind_Check_j1 : Option Int :=
 some 0
noncomputable def kind_Check_l2 (l : List api_Kind) (i2 : Int) : Option (Int ⊕ (Int ⊕ Unit)) :=
 cnd (decide (i2 < (l.length : Int))) ((idx l i2).bind fun x4 =>
 (kind_One x4.Name x4.Fields).bind fun x19 =>
 cnd (!(x19 == 0)) (some (.inr (.inl x19))) ((cut l 0 i2).bind fun l22 =>
 (kind_Find l22 x4.Name).bind fun x33 =>
 cnd (decide (0 ≤ x33)) (some (.inr (.inl 5))) (some (.inl (IntKind.i64.wrap (i2 + 1)))))) (some (.inr (.inr ())))
noncomputable def kind_Check (l : List api_Kind) : Option Int :=
 cnd (decide (16 < (l.length : Int))) (some 2) ((loop (σ := Int) (ρ := (Int ⊕ Unit)) (fun s_ => kind_Check_l2 l s_) 0).bind (Sum.elim (fun e_ => some e_) (fun e_ => kind_Check_j1)))
noncomputable def kind_High (f_0 : ByteArray) (f_1 : Int) (f_2 : Int) : Option Int :=
 (kind_field f_0 f_1 f_2).bind fun x2 =>
 cnd (!(x2 == 0)) (some 0) ((shl .i64 1 f_1).bind fun x5 =>
 some (IntKind.i64.wrap (f_2 + IntKind.i64.wrap (x5 - 1))))
noncomputable def kind_Near (f_0 : ByteArray) (f_1 : Int) (f_2 : Int) (v : Int) : Option Int :=
 (kind_field f_0 f_1 f_2).bind fun x2 =>
 cnd (!(x2 == 0)) (some 0) ((kind_High f_0 f_1 f_2).bind fun x5 =>
 some (max f_2 (min v x5)))
noncomputable def kind_Fit_j1 (l17 : List Int) : Option ((List Int) × Int) :=
 some (l17, 0)
noncomputable def kind_Fit_l2 (k_1 : List api_Field) (vals : List Int) (l20 : List Int) (i23 : Int) : Option (((List Int) × Int) ⊕ (List Int)) :=
 cnd (decide (i23 < (k_1.length : Int))) ((idx k_1 i23).bind fun x25 =>
 (idx vals i23).bind fun x37 =>
 (kind_Near x25.Name x25.Bits x25.Low x37).bind fun x48 =>
 (idx l20 i23).bind fun x50 =>
 (upd l20 i23 x48).bind fun l59 =>
 some (.inl (l59, IntKind.i64.wrap (i23 + 1)))) (some (.inr l20))
noncomputable def kind_Fit (k_0 : ByteArray) (k_1 : List api_Field) (vals : List Int) : Option ((List Int) × Int) :=
 (kind_One k_0 k_1).bind fun x2 =>
 cnd (!(x2 == 0)) (some (([] : List Int), x2)) (cnd (!((vals.length : Int) == (k_1.length : Int))) (some (([] : List Int), 1)) ((mk 8 (vals.length : Int) (0 : Int)).bind fun l6 =>
 (loop (σ := (List Int) × Int) (ρ := (List Int)) (fun s_ => kind_Fit_l2 k_1 vals s_.1 s_.2) (l6, 0)).bind (fun e_ => kind_Fit_j1 e_)))
noncomputable def kind_Holds_j1 : Option Bool :=
 some true
noncomputable def kind_Holds_l2 (x2 : List Int) (vals : List Int) (i10 : Int) : Option (Int ⊕ (Bool ⊕ Unit)) :=
 cnd (decide (i10 < (x2.length : Int))) ((idx x2 i10).bind fun x12 =>
 (idx vals i10).bind fun x22 =>
 cnd (!(x12 == x22)) (some (.inr (.inl false))) (some (.inl (IntKind.i64.wrap (i10 + 1))))) (some (.inr (.inr ())))
noncomputable def kind_Holds (k_0 : ByteArray) (k_1 : List api_Field) (vals : List Int) : Option Bool :=
 bnd2 (kind_Fit k_0 k_1 vals) fun x2 x3 =>
 cnd (!(x3 == 0)) (some false) ((loop (σ := Int) (ρ := (Bool ⊕ Unit)) (fun s_ => kind_Holds_l2 x2 vals s_) 0).bind (Sum.elim (fun e_ => some e_) (fun e_ => kind_Holds_j1)))
noncomputable def world_held_j1 : Option Bool :=
 some true
noncomputable def world_held_l2 (l : List api_Comp) (k : List api_Kind) (i1 : Int) (i2 : Int) : Option ((Int × Int) ⊕ (Bool ⊕ Unit)) :=
 cnd (decide (i2 < (l.length : Int))) ((idx l i2).bind fun x4 =>
 cnd (decide (x4.Kind ≤ i1)) (some (.inr (.inl false))) (cnd (decide ((k.length : Int) ≤ x4.Kind)) (some (.inr (.inl false))) ((idx k x4.Kind).bind fun x21 =>
 (kind_Holds x21.Name x21.Fields x4.Vals).bind fun x35 =>
 cnd (!x35) (some (.inr (.inl false))) (some (.inl (x4.Kind, IntKind.i64.wrap (i2 + 1))))))) (some (.inr (.inr ())))
noncomputable def world_held (k : List api_Kind) (l : List api_Comp) : Option Bool :=
 (loop (σ := Int × Int) (ρ := (Bool ⊕ Unit)) (fun s_ => world_held_l2 l k s_.1 s_.2) ((-1), 0)).bind (Sum.elim (fun e_ => some e_) (fun e_ => world_held_j1))
noncomputable def world_Check_j2 : Option Int :=
 some 0
noncomputable def world_Check_l3 (w_2 : List api_Item) (w_1 : List Int) (w_0 : List api_Kind) (i7 : Int) (i8 : Int) : Option ((Int × Int) ⊕ (Int ⊕ Unit)) :=
 cnd (decide (i8 < (w_2.length : Int))) ((idx w_2 i8).bind fun x10 =>
 cnd (decide (x10.Ent.N ≤ i7)) (some (.inr (.inl 3))) (cnd (decide ((w_1.length : Int) ≤ x10.Ent.N)) (some (.inr (.inl 3))) ((idx w_1 x10.Ent.N).bind fun x27 =>
 cnd (!(x10.Ent.Gen == x27)) (some (.inr (.inl 3))) (cnd (x10.Ent.Gen == 1073741824) (some (.inr (.inl 3))) ((world_held w_0 x10.Comps).bind fun x40 =>
 cnd (!x40) (some (.inr (.inl 3))) (some (.inl (x10.Ent.N, IntKind.i64.wrap (i8 + 1))))))))) (some (.inr (.inr ())))
noncomputable def world_Check_j1 (w_2 : List api_Item) (w_1 : List Int) (w_0 : List api_Kind) : Option Int :=
 (loop (σ := Int × Int) (ρ := (Int ⊕ Unit)) (fun s_ => world_Check_l3 w_2 w_1 w_0 s_.1 s_.2) ((-1), 0)).bind (Sum.elim (fun e_ => some e_) (fun e_ => world_Check_j2))
noncomputable def world_Check_l4 (w_1 : List Int) (i43 : Int) : Option (Int ⊕ (Int ⊕ Unit)) :=
 cnd (decide (i43 < (w_1.length : Int))) ((idx w_1 i43).bind fun x45 =>
 cnd (decide (x45 < 0)) (some (.inr (.inl 3))) (cnd (decide (1073741824 < x45)) (some (.inr (.inl 3))) (some (.inl (IntKind.i64.wrap (i43 + 1)))))) (some (.inr (.inr ())))
noncomputable def world_Check (w_0 : List api_Kind) (w_1 : List Int) (w_2 : List api_Item) : Option Int :=
 (kind_Check w_0).bind fun x2 =>
 cnd (!(x2 == 0)) (some x2) (cnd (decide (256 < (w_1.length : Int))) (some 2) (cnd (decide ((w_1.length : Int) < (w_2.length : Int))) (some 2) ((loop (σ := Int) (ρ := (Int ⊕ Unit)) (fun s_ => world_Check_l4 w_1 s_) 0).bind (Sum.elim (fun e_ => some e_) (fun e_ => world_Check_j1 w_2 w_1 w_0)))))
noncomputable def world_Fit_1 (o_0 : Int) (o_1 : List Int) (p1_0 : Int) (p1_1 : List Int) : Option Bool :=
 some (o_0 == p1_0)
noncomputable def slices_IndexFunc_api_Comp_api_Comp_j1 : Option Int :=
 some (-1)
noncomputable def slices_IndexFunc_api_Comp_api_Comp_l2 (s : List api_Comp) (f_c0_0 : Int) (f_c0_1 : List Int) (i3 : Int) : Option (Int ⊕ (Int ⊕ Unit)) :=
 cnd (decide (i3 < (s.length : Int))) ((idx s i3).bind fun x5 =>
 (world_Fit_1 x5.Kind x5.Vals f_c0_0 f_c0_1).bind fun x19 =>
 cnd x19 (some (.inr (.inl i3))) (some (.inl (IntKind.i64.wrap (i3 + 1))))) (some (.inr (.inr ())))
noncomputable def slices_IndexFunc_api_Comp_api_Comp (s : List api_Comp) (f_c0_0 : Int) (f_c0_1 : List Int) : Option Int :=
 (loop (σ := Int) (ρ := (Int ⊕ Unit)) (fun s_ => slices_IndexFunc_api_Comp_api_Comp_l2 s f_c0_0 f_c0_1 s_) 0).bind (Sum.elim (fun e_ => some e_) (fun e_ => slices_IndexFunc_api_Comp_api_Comp_j1))
noncomputable def slices_ContainsFunc_api_Comp_api_Comp (s : List api_Comp) (f_c0_0 : Int) (f_c0_1 : List Int) : Option Bool :=
 (slices_IndexFunc_api_Comp_api_Comp s f_c0_0 f_c0_1).bind fun x1 =>
 some (decide (0 ≤ x1))
noncomputable def world_Fit_j1 (l6 : List api_Comp) : Option Int :=
 none
noncomputable def world_Fit_l2 (l : List api_Comp) (k : List api_Kind) (l13 : List api_Comp) (i16 : Int) : Option (((List api_Comp) × Int) ⊕ (Int ⊕ (List api_Comp))) :=
 cnd (decide (i16 < (l.length : Int))) ((idx l i16).bind fun x20 =>
 cnd (decide (x20.Kind < 0)) (some (.inr (.inl 1))) (cnd (decide ((k.length : Int) ≤ x20.Kind)) (some (.inr (.inl 1))) ((cut l 0 i16).bind fun l37 =>
 (slices_ContainsFunc_api_Comp_api_Comp l37 x20.Kind x20.Vals).bind fun x48 =>
 cnd x48 (some (.inr (.inl 5))) ((idx k x20.Kind).bind fun x52 =>
 bnd2 (kind_Fit x52.Name x52.Fields x20.Vals) fun x66 x67 =>
 cnd (!(x67 == 0)) (some (.inr (.inl x67))) ((app 32 l13 ([(api_Comp.mk x20.Kind x66)] : List api_Comp)).bind fun l80 =>
 some (.inl (l80, IntKind.i64.wrap (i16 + 1)))))))) (some (.inr (.inr l13)))
noncomputable def world_Fit (k : List api_Kind) (l : List api_Comp) : Option Int :=
 (kind_Check k).bind fun x1 =>
 cnd (!(x1 == 0)) (some x1) ((loop (σ := (List api_Comp) × Int) (ρ := (Int ⊕ (List api_Comp))) (fun s_ => world_Fit_l2 l k s_.1 s_.2) (([] : List api_Comp), 0)).bind (Sum.elim (fun e_ => some e_) (fun e_ => world_Fit_j1 e_)))
noncomputable def cmd_one (k : List api_Kind) (c_0 : Int) (c_1 : Int) (c_2 : Int) (c_3 : Int) (c_4 : List api_Comp) : Option Int :=
 cnd (c_0 == 0) (cnd (!((c_4.length : Int) == 1)) (some 3) ((world_Fit k c_4).bind fun x4 =>
 some x4)) (cnd (c_0 == 1) (cnd (decide (c_3 < 0)) (some 1) (cnd (decide ((k.length : Int) ≤ c_3)) (some 1) (some 0))) (cnd (c_0 == 2) (some 0) (cnd (c_0 == 3) ((world_Fit k c_4).bind fun x14 =>
 some x14) (some 1))))
noncomputable def cmd_Check_j1 : Option Int :=
 some 0
noncomputable def cmd_Check_l2 (l : List api_Cmd) (w_0 : List api_Kind) (i8 : Int) : Option (Int ⊕ (Int ⊕ Unit)) :=
 cnd (decide (i8 < (l.length : Int))) ((idx l i8).bind fun x12 =>
 (cmd_one w_0 x12.Do x12.Ent.N x12.Ent.Gen x12.Kind x12.Comps).bind fun x27 =>
 cnd (!(x27 == 0)) (some (.inr (.inl x27))) (some (.inl (IntKind.i64.wrap (i8 + 1))))) (some (.inr (.inr ())))
noncomputable def cmd_Check (w_0 : List api_Kind) (w_1 : List Int) (w_2 : List api_Item) (l : List api_Cmd) : Option Int :=
 (world_Check w_0 w_1 w_2).bind fun x2 =>
 cnd (!(x2 == 0)) (some x2) (cnd (decide (131072 < (l.length : Int))) (some 2) ((loop (σ := Int) (ρ := (Int ⊕ Unit)) (fun s_ => cmd_Check_l2 l w_0 s_) 0).bind (Sum.elim (fun e_ => some e_) (fun e_ => cmd_Check_j1))))
noncomputable def tourlaw3_CmdLimits_j3 (t37 : Bool) : Option Bool :=
 some t37
noncomputable def tourlaw3_CmdLimits_j4 (t85 : Bool) : Option Bool :=
 some t85
noncomputable def tourlaw3_CmdLimits_j2 (l17 : List (List api_Cmd)) : Option Bool :=
 bnd2 (cmd_Join l17) fun x26 x27 =>
 cnd (decide (16 < (l17.length : Int))) (cnd (x27 == 2) (cnd ((x26.length : Int) == 0) (bnd3 (tourlaw3_pair) fun x42 x43 x44 =>
 (slices_Concat_api_Cmd_api_Cmd l17).bind fun x58 =>
 (cmd_Check x42 x43 x44 x58).bind fun x80 =>
 tourlaw3_CmdLimits_j3 (x80 == 2)) (tourlaw3_CmdLimits_j3 false)) (tourlaw3_CmdLimits_j3 false)) (cnd (x27 == 0) (tourlaw3_CmdLimits_j4 ((x26.length : Int) == IntKind.i64.wrap ((l17.length : Int) * 8192))) (tourlaw3_CmdLimits_j4 false))
noncomputable def tourlaw3_CmdLimits_l5 (x87 : Int) (l12 : List api_Cmd) (l92 : List (List api_Cmd)) (i95 : Int) : Option (((List (List api_Cmd)) × Int) ⊕ (List (List api_Cmd))) :=
 cnd (decide (i95 < x87)) ((app 24 l92 ([l12] : List (List api_Cmd))).bind fun l105 =>
 some (.inl (l105, IntKind.i64.wrap (i95 + 1)))) (some (.inr l92))
noncomputable def tourlaw3_CmdLimits_j1 (n : Int) (l12 : List api_Cmd) : Option Bool :=
 (some (IntKind.i64.wrap (15 + Int.tmod (IntKind.i64.wrap (Int.tmod n 4 + 4)) 4))).bind fun x87 =>
 (loop (σ := (List (List api_Cmd)) × Int) (ρ := (List (List api_Cmd))) (fun s_ => tourlaw3_CmdLimits_l5 x87 l12 s_.1 s_.2) (([] : List (List api_Cmd)), 0)).bind (fun e_ => tourlaw3_CmdLimits_j2 e_)
noncomputable def tourlaw3_CmdLimits_l6 (l1 : List api_Cmd) (l114 : List api_Cmd) (i117 : Int) : Option (((List api_Cmd) × Int) ⊕ (List api_Cmd)) :=
 cnd (decide (i117 < (l1.length : Int))) ((idx l114 i117).bind fun x119 =>
 (upd l114 i117 (api_Cmd.mk 2 (api_Ent.mk x119.Ent.N x119.Ent.Gen) x119.Kind x119.Comps)).bind fun l131 =>
 some (.inl (l131, IntKind.i64.wrap (i117 + 1)))) (some (.inr l114))
noncomputable def tourlaw3_CmdLimits (n : Int) : Option Bool :=
 (mk 56 8192 ((api_Cmd.mk 0 (api_Ent.mk 0 0) 0 []) : api_Cmd)).bind fun l1 =>
 (loop (σ := (List api_Cmd) × Int) (ρ := (List api_Cmd)) (fun s_ => tourlaw3_CmdLimits_l6 l1 s_.1 s_.2) (l1, 0)).bind (fun e_ => tourlaw3_CmdLimits_j1 n e_)
end Go.Proofs.Ythcbepikeinglaa.M
