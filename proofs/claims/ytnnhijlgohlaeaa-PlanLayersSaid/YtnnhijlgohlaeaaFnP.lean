/- The Go functions as plain functions over Option. No condition. -/
import Derived.Test.YtnnhijlgohlaeaaTyP
import Derived.Test.YtnnhijlgohlaeaaExMap
namespace Go.Proofs.Ytnnhijlgohlaeaa.P
open Go Go.RowKit Go.Proofs.Ytnnhijlgohlaeaa.Sx
set_option linter.unusedVariables false
noncomputable def tourlaw3_older : Option ((List Int) × (List api_Op)) :=
 some (([0] : List Int), ([(api_Op.mk 1 (api_Ref.mk 0 0) (api_Arg.mk true 0 (api_Ref.mk 0 0)) (api_Arg.mk false 1 (api_Ref.mk 0 0))), (api_Op.mk 12 (api_Ref.mk 0 0) (api_Arg.mk false 1 (api_Ref.mk 0 0)) (api_Arg.mk true 0 (api_Ref.mk 0 0)))] : List api_Op))
noncomputable def slices_Index_int_int_j1 : Option Int :=
 some (-1)
noncomputable def slices_Index_int_int_l2 (s : List Int) (v : Int) (i1 : Int) : Option (Int ⊕ (Int ⊕ Unit)) :=
 cnd (decide (i1 < (s.length : Int))) ((idx s i1).bind fun x3 =>
 cnd (v == x3) (some (.inr (.inl i1))) (some (.inl (IntKind.i64.wrap (i1 + 1))))) (some (.inr (.inr ())))
noncomputable def slices_Index_int_int (s : List Int) (v : Int) : Option Int :=
 (loop (σ := Int) (ρ := (Int ⊕ Unit)) (fun s_ => slices_Index_int_int_l2 s v s_) 0).bind (Sum.elim (fun e_ => some e_) (fun e_ => slices_Index_int_int_j1))
noncomputable def slices_Contains_int_int (s : List Int) (v : Int) : Option Bool :=
 (slices_Index_int_int s v).bind fun x1 =>
 some (decide (0 ≤ x1))
noncomputable def plan_Conflict_1_1 (k : Int) (p1_0 : List Int) : Option Bool :=
 (slices_Contains_int_int p1_0 k).bind fun x1 =>
 some x1
noncomputable def slices_IndexFunc_int_int_j1 : Option Int :=
 some (-1)
noncomputable def slices_IndexFunc_int_int_l2 (s : List Int) (f_c0_0 : List Int) (i3 : Int) : Option (Int ⊕ (Int ⊕ Unit)) :=
 cnd (decide (i3 < (s.length : Int))) ((idx s i3).bind fun x5 =>
 (plan_Conflict_1_1 x5 f_c0_0).bind fun x16 =>
 cnd x16 (some (.inr (.inl i3))) (some (.inl (IntKind.i64.wrap (i3 + 1))))) (some (.inr (.inr ())))
noncomputable def slices_IndexFunc_int_int (s : List Int) (f_c0_0 : List Int) : Option Int :=
 (loop (σ := Int) (ρ := (Int ⊕ Unit)) (fun s_ => slices_IndexFunc_int_int_l2 s f_c0_0 s_) 0).bind (Sum.elim (fun e_ => some e_) (fun e_ => slices_IndexFunc_int_int_j1))
noncomputable def slices_ContainsFunc_int_int (s : List Int) (f_c0_0 : List Int) : Option Bool :=
 (slices_IndexFunc_int_int s f_c0_0).bind fun x1 =>
 some (decide (0 ≤ x1))
noncomputable def plan_Conflict_1 (x : List Int) (y : List Int) : Option Bool :=
 (slices_ContainsFunc_int_int x y).bind fun x2 =>
 some x2
noncomputable def plan_Conflict_j1 (t3 : Bool) : Option Bool :=
 some t3
noncomputable def plan_Conflict (a_0 : ByteArray) (a_1 : List Int) (a_2 : List Int) (a_3 : List Int) (a_4 : List Int) (a_5 : List api_Op) (a_6 : List api_Comp) (b_0 : ByteArray) (b_1 : List Int) (b_2 : List Int) (b_3 : List Int) (b_4 : List Int) (b_5 : List api_Op) (b_6 : List api_Comp) : Option Bool :=
 (plan_Conflict_1 a_4 b_4).bind fun x4 =>
 cnd x4 (plan_Conflict_j1 true) ((plan_Conflict_1 a_4 b_3).bind fun x7 =>
 cnd x7 (plan_Conflict_j1 true) ((plan_Conflict_1 a_3 b_4).bind fun x10 =>
 plan_Conflict_j1 x10))
noncomputable def plan_depths_j1 (l12 : List Int) : Option ((List Int)) :=
 some l12
noncomputable def plan_depths_j3 (i18 : Int) (l20 : List Int) : Option (((List Int) × Int) ⊕ (List Int)) :=
 some (.inl (l20, IntKind.i64.wrap (i18 + 1)))
noncomputable def plan_depths_j5 (i46 : Int) (l48 : List Int) : Option (((List Int) × Int) ⊕ (List Int)) :=
 some (.inl (l48, IntKind.i64.wrap (i46 + 1)))
noncomputable def plan_depths_l4 (i18 : Int) (l : List api_System) (l43 : List Int) (i46 : Int) : Option (((List Int) × Int) ⊕ (List Int)) :=
 cnd (decide (i46 < i18)) ((idx l i46).bind fun x51 =>
 (idx l i18).bind fun x80 =>
 (plan_Conflict x51.Name x51.With x51.Without x51.Reads x51.Writes x51.Ops x51.Spawn x80.Name x80.With x80.Without x80.Reads x80.Writes x80.Ops x80.Spawn).bind fun x109 =>
 cnd x109 ((idx l43 i18).bind fun x112 =>
 (idx l43 i46).bind fun x121 =>
 (idx l43 i18).bind fun x130 =>
 (upd l43 i18 (max x112 (IntKind.i64.wrap (x121 + 1)))).bind fun l139 =>
 plan_depths_j5 i46 l139) (plan_depths_j5 i46 l43)) (some (.inr l43))
noncomputable def plan_depths_l2 (l : List api_System) (l15 : List Int) (i18 : Int) : Option (((List Int) × Int) ⊕ (List Int)) :=
 cnd (decide (i18 < (l.length : Int))) ((idx l15 i18).bind fun x23 =>
 (upd l15 i18 1).bind fun l32 =>
 (loop (σ := (List Int) × Int) (ρ := (List Int)) (fun s_ => plan_depths_l4 i18 l s_.1 s_.2) (l32, 0)).bind (fun e_ => plan_depths_j3 i18 e_)) (some (.inr l15))
noncomputable def plan_depths (l : List api_System) : Option ((List Int)) :=
 (mk 8 (l.length : Int) (0 : Int)).bind fun l1 =>
 (loop (σ := (List Int) × Int) (ρ := (List Int)) (fun s_ => plan_depths_l2 l s_.1 s_.2) (l1, 0)).bind (fun e_ => plan_depths_j1 e_)
noncomputable def plan_Layers_j1 (l4 : List (List Int)) : Option ((List (List Int)) × Int) :=
 some (l4, 0)
noncomputable def plan_Layers_j3 (x22 : Int) (i20 : Int) (l34 : List (List Int)) : Option (((List (List Int)) × Int) ⊕ (List (List Int))) :=
 (idx l34 (IntKind.i64.wrap (x22 - 1))).bind fun x38 =>
 (app 8 x38 ([i20] : List Int)).bind fun l58 =>
 (upd l34 (IntKind.i64.wrap (x22 - 1)) l58).bind fun l74 =>
 some (.inl (l74, IntKind.i64.wrap (i20 + 1)))
noncomputable def plan_Layers_l4 (x22 : Int) (l83 : List (List Int)) : Option ((List (List Int)) ⊕ (List (List Int))) :=
 cnd (decide ((l83.length : Int) < x22)) ((app 24 l83 ([([] : List Int)] : List (List Int))).bind fun l91 =>
 some (.inl l91)) (some (.inr l83))
noncomputable def plan_Layers_l2 (x8 : List Int) (l16 : List (List Int)) (i20 : Int) : Option (((List (List Int)) × Int) ⊕ (List (List Int))) :=
 cnd (decide (i20 < (x8.length : Int))) ((idx x8 i20).bind fun x22 =>
 (loop (σ := (List (List Int))) (ρ := (List (List Int))) (fun s_ => plan_Layers_l4 x22 s_) l16).bind (fun e_ => plan_Layers_j3 x22 i20 e_)) (some (.inr l16))
noncomputable def plan_Layers (l : List api_System) : Option ((List (List Int)) × Int) :=
 cnd (decide (24 < (l.length : Int))) (some (([] : List (List Int)), 2)) ((plan_depths l).bind fun x8 =>
 (loop (σ := (List (List Int)) × Int) (ρ := (List (List Int))) (fun s_ => plan_Layers_l2 x8 s_.1 s_.2) (([] : List (List Int)), 0)).bind (fun e_ => plan_Layers_j1 e_))
noncomputable def tourlaw3_layered_j1 (t63 : Bool) : Option Bool :=
 some t63
noncomputable def tourlaw3_layered : Option Bool :=
 bnd2 (tourlaw3_older) fun x1 x2 =>
 bnd2 (tourlaw3_older) fun x13 x14 =>
 bnd2 (plan_Layers ([(api_System.mk (⟨#[111, 108, 100, 101, 114]⟩) x1 [] [] x1 x2 []), (api_System.mk (⟨#[111, 108, 100, 101, 114]⟩) x13 [] [] x13 x14 [])] : List api_System)) fun x55 x56 =>
 cnd (x56 == 0) (tourlaw3_layered_j1 ((x55.length : Int) == 2)) (tourlaw3_layered_j1 false)
noncomputable def plan_Right_j2 : Option Bool :=
 some true
noncomputable def plan_Right_j4 (i17 : Int) : Option (Int ⊕ (Bool ⊕ Unit)) :=
 some (.inl (IntKind.i64.wrap (i17 + 1)))
noncomputable def plan_Right_j6 (i19 : Int) : Option (Int ⊕ (Bool ⊕ Unit)) :=
 some (.inl (IntKind.i64.wrap (i19 + 1)))
noncomputable def plan_Right_l5 (i17 : Int) (l : List api_System) (l12 : List Int) (i19 : Int) : Option (Int ⊕ (Bool ⊕ Unit)) :=
 cnd (decide (i19 < i17)) ((idx l i19).bind fun x21 =>
 (idx l i17).bind fun x50 =>
 (plan_Conflict x21.Name x21.With x21.Without x21.Reads x21.Writes x21.Ops x21.Spawn x50.Name x50.With x50.Without x50.Reads x50.Writes x50.Ops x50.Spawn).bind fun x79 =>
 cnd x79 ((idx l12 i19).bind fun x82 =>
 (idx l12 i17).bind fun x91 =>
 cnd (decide (x91 ≤ x82)) (some (.inr (.inl false))) (plan_Right_j6 i19)) (plan_Right_j6 i19)) (some (.inr (.inr ())))
noncomputable def plan_Right_l3 (l : List api_System) (l12 : List Int) (i17 : Int) : Option (Int ⊕ (Bool ⊕ Unit)) :=
 cnd (decide (i17 < (l.length : Int))) ((loop (σ := Int) (ρ := (Bool ⊕ Unit)) (fun s_ => plan_Right_l5 i17 l l12 s_) 0).bind (Sum.elim (fun e_ => some (.inr (.inl e_))) (fun e_ => plan_Right_j4 i17))) (some (.inr (.inr ())))
noncomputable def plan_Right_j1 (l : List api_System) (l12 : List Int) (i15 : Int) : Option Bool :=
 cnd (!(i15 == (l.length : Int))) (some false) ((loop (σ := Int) (ρ := (Bool ⊕ Unit)) (fun s_ => plan_Right_l3 l l12 s_) 0).bind (Sum.elim (fun e_ => some e_) (fun e_ => plan_Right_j2)))
noncomputable def plan_Right_j8 (i105 : Int) (l107 : List Int) (i110 : Int) : Option (((List Int) × Int × Int) ⊕ (Bool ⊕ (List Int) × Int)) :=
 some (.inl (l107, i110, IntKind.i64.wrap (i105 + 1)))
noncomputable def plan_Right_j10 (l125 : List Int) (x131 : Int) (i105 : Int) (i128 : Int) (i129 : Int) : Option (((List Int) × Int × Int) ⊕ (Bool ⊕ (List Int) × Int)) :=
 (idx l125 x131).bind fun x142 =>
 (upd l125 x131 (IntKind.i64.wrap (i105 + 1))).bind fun l151 =>
 some (.inl (l151, IntKind.i64.wrap (i128 + 1), IntKind.i64.wrap (i129 + 1)))
noncomputable def plan_Right_l9 (x111 : List Int) (l : List api_System) (i105 : Int) (l125 : List Int) (i128 : Int) (i129 : Int) : Option (((List Int) × Int × Int) ⊕ (Bool ⊕ (List Int) × Int)) :=
 cnd (decide (i129 < (x111.length : Int))) ((idx x111 i129).bind fun x131 =>
 cnd (decide (x131 < 0)) (some (.inr (.inl false))) (cnd (decide ((l.length : Int) ≤ x131)) (some (.inr (.inl false))) ((idx l125 x131).bind fun x164 =>
 cnd (decide (0 < x164)) (some (.inr (.inl false))) (cnd (decide (0 < i129)) ((idx x111 (IntKind.i64.wrap (i129 - 1))).bind fun x175 =>
 cnd (decide (x131 ≤ x175)) (some (.inr (.inl false))) (plan_Right_j10 l125 x131 i105 i128 i129)) (plan_Right_j10 l125 x131 i105 i128 i129))))) (some (.inr (.inr (l125, i128))))
noncomputable def plan_Right_l7 (layers : List (List Int)) (l : List api_System) (l101 : List Int) (i104 : Int) (i105 : Int) : Option (((List Int) × Int × Int) ⊕ (Bool ⊕ (List Int) × Int)) :=
 cnd (decide (i105 < (layers.length : Int))) ((idx layers i105).bind fun x111 =>
 (loop (σ := (List Int) × Int × Int) (ρ := (Bool ⊕ (List Int) × Int)) (fun s_ => plan_Right_l9 x111 l i105 s_.1 s_.2.1 s_.2.2) (l101, i104, 0)).bind (Sum.elim (fun e_ => some (.inr (.inl e_))) (fun e_ => plan_Right_j8 i105 e_.1 e_.2))) (some (.inr (.inr (l101, i104))))
noncomputable def plan_Right (l : List api_System) (layers : List (List Int)) : Option Bool :=
 (mk 8 (l.length : Int) (0 : Int)).bind fun l1 =>
 (loop (σ := (List Int) × Int × Int) (ρ := (Bool ⊕ (List Int) × Int)) (fun s_ => plan_Right_l7 layers l s_.1 s_.2.1 s_.2.2) (l1, 0, 0)).bind (Sum.elim (fun e_ => some e_) (fun e_ => plan_Right_j1 l e_.1 e_.2))
noncomputable def cmp_isNaN_int (x : Int) : Option Unit :=
 some ()
noncomputable def cmp_Less_int (x : Int) (y : Int) : Option Bool :=
 (cmp_isNaN_int x).bind fun _ =>
 some (decide (x < y))
noncomputable def slices_IsSorted_int_int_j1 : Option Bool :=
 some true
noncomputable def slices_IsSorted_int_int_l2 (x : List Int) (i1 : Int) : Option (Int ⊕ (Bool ⊕ Unit)) :=
 cnd (decide (0 < i1)) ((idx x i1).bind fun x3 =>
 (idx x (IntKind.i64.wrap (i1 - 1))).bind fun x14 =>
 (cmp_Less_int x3 x14).bind fun x25 =>
 cnd x25 (some (.inr (.inl false))) (some (.inl (IntKind.i64.wrap (i1 - 1))))) (some (.inr (.inr ())))
noncomputable def slices_IsSorted_int_int (x : List Int) : Option Bool :=
 (loop (σ := Int) (ρ := (Bool ⊕ Unit)) (fun s_ => slices_IsSorted_int_int_l2 x s_) (IntKind.i64.wrap ((x.length : Int) - 1))).bind (Sum.elim (fun e_ => some e_) (fun e_ => slices_IsSorted_int_int_j1))
noncomputable def tourref3_Clash_j2 : Option Bool :=
 some false
noncomputable def tourref3_Clash_j4 (i3 : Int) : Option (Int ⊕ (Bool ⊕ Unit)) :=
 some (.inl (IntKind.i64.wrap (i3 + 1)))
noncomputable def tourref3_Clash_l5 (b_4 : List Int) (x5 : Int) (i16 : Int) : Option (Int ⊕ (Bool ⊕ Unit)) :=
 cnd (decide (i16 < (b_4.length : Int))) ((idx b_4 i16).bind fun x18 =>
 cnd (x5 == x18) (some (.inr (.inl true))) (some (.inl (IntKind.i64.wrap (i16 + 1))))) (some (.inr (.inr ())))
noncomputable def tourref3_Clash_l3 (a_3 : List Int) (b_4 : List Int) (i3 : Int) : Option (Int ⊕ (Bool ⊕ Unit)) :=
 cnd (decide (i3 < (a_3.length : Int))) ((idx a_3 i3).bind fun x5 =>
 (loop (σ := Int) (ρ := (Bool ⊕ Unit)) (fun s_ => tourref3_Clash_l5 b_4 x5 s_) 0).bind (Sum.elim (fun e_ => some (.inr (.inl e_))) (fun e_ => tourref3_Clash_j4 i3))) (some (.inr (.inr ())))
noncomputable def tourref3_Clash_j1 (a_3 : List Int) (b_4 : List Int) : Option Bool :=
 (loop (σ := Int) (ρ := (Bool ⊕ Unit)) (fun s_ => tourref3_Clash_l3 a_3 b_4 s_) 0).bind (Sum.elim (fun e_ => some e_) (fun e_ => tourref3_Clash_j2))
noncomputable def tourref3_Clash_j7 (i30 : Int) : Option (Int ⊕ (Bool ⊕ Unit)) :=
 some (.inl (IntKind.i64.wrap (i30 + 1)))
noncomputable def tourref3_Clash_j9 (i45 : Int) : Option (Int ⊕ (Bool ⊕ Unit)) :=
 some (.inl (IntKind.i64.wrap (i45 + 1)))
noncomputable def tourref3_Clash_l10 (x47 : List Int) (x32 : Int) (i59 : Int) : Option (Int ⊕ (Bool ⊕ Unit)) :=
 cnd (decide (i59 < (x47.length : Int))) ((idx x47 i59).bind fun x61 =>
 cnd (x32 == x61) (some (.inr (.inl true))) (some (.inl (IntKind.i64.wrap (i59 + 1))))) (some (.inr (.inr ())))
noncomputable def tourref3_Clash_l8 (b_3 : List Int) (b_4 : List Int) (x32 : Int) (i45 : Int) : Option (Int ⊕ (Bool ⊕ Unit)) :=
 cnd (decide (i45 < (([b_3, b_4] : List (List Int)).length : Int))) ((idx ([b_3, b_4] : List (List Int)) i45).bind fun x47 =>
 (loop (σ := Int) (ρ := (Bool ⊕ Unit)) (fun s_ => tourref3_Clash_l10 x47 x32 s_) 0).bind (Sum.elim (fun e_ => some (.inr (.inl e_))) (fun e_ => tourref3_Clash_j9 i45))) (some (.inr (.inr ())))
noncomputable def tourref3_Clash_l6 (a_4 : List Int) (b_3 : List Int) (b_4 : List Int) (i30 : Int) : Option (Int ⊕ (Bool ⊕ Unit)) :=
 cnd (decide (i30 < (a_4.length : Int))) ((idx a_4 i30).bind fun x32 =>
 (loop (σ := Int) (ρ := (Bool ⊕ Unit)) (fun s_ => tourref3_Clash_l8 b_3 b_4 x32 s_) 0).bind (Sum.elim (fun e_ => some (.inr (.inl e_))) (fun e_ => tourref3_Clash_j7 i30))) (some (.inr (.inr ())))
noncomputable def tourref3_Clash (a_0 : ByteArray) (a_1 : List Int) (a_2 : List Int) (a_3 : List Int) (a_4 : List Int) (a_5 : List api_Op) (a_6 : List api_Comp) (b_0 : ByteArray) (b_1 : List Int) (b_2 : List Int) (b_3 : List Int) (b_4 : List Int) (b_5 : List api_Op) (b_6 : List api_Comp) : Option Bool :=
 (loop (σ := Int) (ρ := (Bool ⊕ Unit)) (fun s_ => tourref3_Clash_l6 a_4 b_3 b_4 s_) 0).bind (Sum.elim (fun e_ => some e_) (fun e_ => tourref3_Clash_j1 a_3 b_4))
noncomputable def tourref3_Divided_j2 : Option Bool :=
 some true
noncomputable def tourref3_Divided_j4 (i10 : Int) : Option (Int ⊕ (Bool ⊕ Unit)) :=
 some (.inl (IntKind.i64.wrap (i10 + 1)))
noncomputable def tourref3_Divided_j6 (i18 : Int) : Option (Int ⊕ (Bool ⊕ Unit)) :=
 some (.inl (IntKind.i64.wrap (i18 + 1)))
noncomputable def tourref3_Divided_l5 (i10 : Int) (l : List api_System) (l5 : List (Int × Int)) (x12 : Int) (i18 : Int) : Option (Int ⊕ (Bool ⊕ Unit)) :=
 cnd (decide (i18 < i10)) ((idx l i10).bind fun x20 =>
 (idx l i18).bind fun x49 =>
 (tourref3_Clash x20.Name x20.With x20.Without x20.Reads x20.Writes x20.Ops x20.Spawn x49.Name x49.With x49.Without x49.Reads x49.Writes x49.Ops x49.Spawn).bind fun x78 =>
 cnd x78 ((some ((mget l5 i18).getD 0)).bind fun x81 =>
 cnd (decide (x12 ≤ x81)) (some (.inr (.inl false))) (tourref3_Divided_j6 i18)) (tourref3_Divided_j6 i18)) (some (.inr (.inr ())))
noncomputable def tourref3_Divided_l3 (l : List api_System) (l5 : List (Int × Int)) (i10 : Int) : Option (Int ⊕ (Bool ⊕ Unit)) :=
 cnd (decide (i10 < (l.length : Int))) ((some ((mget l5 i10).getD 0)).bind fun x12 =>
 cnd (!((mget l5 i10).isSome)) (some (.inr (.inl false))) ((loop (σ := Int) (ρ := (Bool ⊕ Unit)) (fun s_ => tourref3_Divided_l5 i10 l l5 x12 s_) 0).bind (Sum.elim (fun e_ => some (.inr (.inl e_))) (fun e_ => tourref3_Divided_j4 i10)))) (some (.inr (.inr ())))
noncomputable def tourref3_Divided_j1 (l : List api_System) (l5 : List (Int × Int)) (i7 : Int) : Option Bool :=
 cnd (!(i7 == (l.length : Int))) (some false) (cnd (!((l5.length : Int) == (l.length : Int))) (some false) ((loop (σ := Int) (ρ := (Bool ⊕ Unit)) (fun s_ => tourref3_Divided_l3 l l5 s_) 0).bind (Sum.elim (fun e_ => some e_) (fun e_ => tourref3_Divided_j2))))
noncomputable def tourref3_Divided_j8 (i92 : Int) (l96 : List (Int × Int)) (i98 : Int) : Option (((List (Int × Int)) × Int × Int) ⊕ (Bool ⊕ (List (Int × Int)) × Int)) :=
 some (.inl (l96, i98, IntKind.i64.wrap (i92 + 1)))
noncomputable def tourref3_Divided_l9 (x99 : List Int) (i92 : Int) (l118 : List (Int × Int)) (i120 : Int) (i121 : Int) : Option (((List (Int × Int)) × Int × Int) ⊕ (List (Int × Int)) × Int) :=
 cnd (decide (i121 < (x99.length : Int))) ((idx x99 i121).bind fun x123 =>
 (some (mput l118 x123 i92)).bind fun l134 =>
 some (.inl (l134, IntKind.i64.wrap (i120 + 1), IntKind.i64.wrap (i121 + 1)))) (some (.inr (l118, i120)))
noncomputable def tourref3_Divided_l7 (layers : List (List Int)) (l89 : List (Int × Int)) (i91 : Int) (i92 : Int) : Option (((List (Int × Int)) × Int × Int) ⊕ (Bool ⊕ (List (Int × Int)) × Int)) :=
 cnd (decide (i92 < (layers.length : Int))) ((idx layers i92).bind fun x99 =>
 (slices_IsSorted_int_int x99).bind fun x113 =>
 cnd (!x113) (some (.inr (.inl false))) ((loop (σ := (List (Int × Int)) × Int × Int) (ρ := (List (Int × Int)) × Int) (fun s_ => tourref3_Divided_l9 x99 i92 s_.1 s_.2.1 s_.2.2) (l89, i91, 0)).bind (fun e_ => tourref3_Divided_j8 i92 e_.1 e_.2))) (some (.inr (.inr (l89, i91))))
noncomputable def tourref3_Divided (l : List api_System) (layers : List (List Int)) : Option Bool :=
 (loop (σ := (List (Int × Int)) × Int × Int) (ρ := (Bool ⊕ (List (Int × Int)) × Int)) (fun s_ => tourref3_Divided_l7 layers s_.1 s_.2.1 s_.2.2) (([] : List (Int × Int)), 0, 0)).bind (Sum.elim (fun e_ => some e_) (fun e_ => tourref3_Divided_j1 l e_.1 e_.2))
noncomputable def tourlaw3_PlanRight_j2 (t59 : Bool) : Option Bool :=
 some t59
noncomputable def tourlaw3_PlanRight_j1 (l : List api_System) (x49 : List (List Int)) (x44 : Bool) (i58 : Int) : Option Bool :=
 (plan_Right l x49).bind fun x60 =>
 cnd x60 (cnd (!x44) (tourlaw3_PlanRight_j2 true) (tourlaw3_PlanRight_j2 (decide ((x49.length : Int) ≤ i58)))) (tourlaw3_PlanRight_j2 false)
noncomputable def tourlaw3_PlanRight_l3 (layers : List (List Int)) (i64 : Int) (i65 : Int) : Option ((Int × Int) ⊕ Int) :=
 cnd (decide (i65 < (layers.length : Int))) ((idx layers i65).bind fun x67 =>
 some (.inl (IntKind.i64.wrap (i64 + min (x67.length : Int) 1), IntKind.i64.wrap (i65 + 1)))) (some (.inr i64))
noncomputable def tourlaw3_PlanRight (l : List api_System) (layers : List (List Int)) : Option Bool :=
 (tourlaw3_layered).bind fun x1 =>
 cnd (!x1) (some false) (bnd2 (tourlaw3_older) fun x7 x8 =>
 (plan_Right ([(api_System.mk (⟨#[111, 108, 100, 101, 114]⟩) x7 [] [] x7 x8 [])] : List api_System) ([([0] : List Int)] : List (List Int))).bind fun x41 =>
 cnd (!x41) (some false) ((plan_Right l layers).bind fun x44 =>
 (tourref3_Divided l layers).bind fun x46 =>
 cnd (!(x44 == x46)) (some false) (bnd2 (plan_Layers l) fun x49 x50 =>
 cnd (!(x50 == 0)) (some (decide (24 < (l.length : Int)))) ((loop (σ := Int × Int) (ρ := Int) (fun s_ => tourlaw3_PlanRight_l3 layers s_.1 s_.2) (0, 0)).bind (fun e_ => tourlaw3_PlanRight_j1 l x49 x44 e_)))))
noncomputable def plan_Chain_j2 (l19 : List Int) : Option ((List Int) × Int) :=
 some (l19, 0)
noncomputable def plan_Chain_j4 (i27 : Int) (l31 : List Int) : Option (((List Int) × Int) ⊕ (List Int)) :=
 some (.inl (l31, IntKind.i64.wrap (i27 + 1)))
noncomputable def plan_Chain_l3 (l : List api_System) (i16 : Int) (l13 : List Int) (l24 : List Int) (i27 : Int) : Option (((List Int) × Int) ⊕ (List Int)) :=
 cnd (decide (i27 < (l.length : Int))) (cnd (decide ((l24.length : Int) < i16)) ((idx l13 i27).bind fun x35 =>
 cnd (x35 == IntKind.i64.wrap (i16 - (l24.length : Int))) (cnd ((l24.length : Int) == 0) ((app 8 l24 ([i27] : List Int)).bind fun l48 =>
 plan_Chain_j4 i27 l48) ((idx l24 (IntKind.i64.wrap ((l24.length : Int) - 1))).bind fun x57 =>
 (idx l x57).bind fun x67 =>
 (idx l i27).bind fun x96 =>
 (plan_Conflict x67.Name x67.With x67.Without x67.Reads x67.Writes x67.Ops x67.Spawn x96.Name x96.With x96.Without x96.Reads x96.Writes x96.Ops x96.Spawn).bind fun x125 =>
 cnd x125 ((app 8 l24 ([i27] : List Int)).bind fun l130 =>
 plan_Chain_j4 i27 l130) (plan_Chain_j4 i27 l24))) (plan_Chain_j4 i27 l24)) (plan_Chain_j4 i27 l24)) (some (.inr l24))
noncomputable def plan_Chain_j1 (l : List api_System) (l13 : List Int) (i16 : Int) : Option ((List Int) × Int) :=
 (loop (σ := (List Int) × Int) (ρ := (List Int)) (fun s_ => plan_Chain_l3 l i16 l13 s_.1 s_.2) (([] : List Int), 0)).bind (fun e_ => plan_Chain_j2 e_)
noncomputable def plan_Chain_j6 (i143 : Int) (i142 : Int) (l165 : List Int) : Option (((List Int) × Int × Int) ⊕ (List Int) × Int) :=
 (idx l165 i143).bind fun x168 =>
 some (.inl (l165, max i142 x168, IntKind.i64.wrap (i143 - 1)))
noncomputable def plan_Chain_j8 (i180 : Int) (l182 : List Int) : Option (((List Int) × Int) ⊕ (List Int)) :=
 some (.inl (l182, IntKind.i64.wrap (i180 + 1)))
noncomputable def plan_Chain_l7 (l : List api_System) (i143 : Int) (l177 : List Int) (i180 : Int) : Option (((List Int) × Int) ⊕ (List Int)) :=
 cnd (decide (i180 < (l.length : Int))) ((idx l i143).bind fun x185 =>
 (idx l i180).bind fun x214 =>
 (plan_Conflict x185.Name x185.With x185.Without x185.Reads x185.Writes x185.Ops x185.Spawn x214.Name x214.With x214.Without x214.Reads x214.Writes x214.Ops x214.Spawn).bind fun x243 =>
 cnd x243 ((idx l177 i143).bind fun x246 =>
 (idx l177 i180).bind fun x255 =>
 (idx l177 i143).bind fun x264 =>
 (upd l177 i143 (max x246 (IntKind.i64.wrap (x255 + 1)))).bind fun l273 =>
 plan_Chain_j8 i180 l273) (plan_Chain_j8 i180 l177)) (some (.inr l177))
noncomputable def plan_Chain_l5 (l : List api_System) (l139 : List Int) (i142 : Int) (i143 : Int) : Option (((List Int) × Int × Int) ⊕ (List Int) × Int) :=
 cnd (decide (0 ≤ i143)) ((idx l139 i143).bind fun x145 =>
 (upd l139 i143 1).bind fun l154 =>
 (loop (σ := (List Int) × Int) (ρ := (List Int)) (fun s_ => plan_Chain_l7 l i143 s_.1 s_.2) (l154, IntKind.i64.wrap (i143 + 1))).bind (fun e_ => plan_Chain_j6 i143 i142 e_)) (some (.inr (l139, i142)))
noncomputable def plan_Chain (l : List api_System) : Option ((List Int) × Int) :=
 cnd (decide (24 < (l.length : Int))) (some (([] : List Int), 2)) ((mk 8 (l.length : Int) (0 : Int)).bind fun l2 =>
 (loop (σ := (List Int) × Int × Int) (ρ := (List Int) × Int) (fun s_ => plan_Chain_l5 l s_.1 s_.2.1 s_.2.2) (l2, 0, IntKind.i64.wrap ((l.length : Int) - 1))).bind (fun e_ => plan_Chain_j1 l e_.1 e_.2))
noncomputable def tourref3_Rounds_j1 (l14 : List (List Int)) : Option ((List (List Int))) :=
 some l14
noncomputable def tourref3_Rounds_j4 (l24 : List (List Int)) (l33 : List Int) (i27 : Int) (l36 : List Bool) : Option (((List Bool) × (List (List Int)) × Int) ⊕ (List (List Int))) :=
 (app 24 l24 ([l33] : List (List Int))).bind fun l45 =>
 some (.inl (l36, l45, IntKind.i64.wrap (i27 - (l33.length : Int))))
noncomputable def tourref3_Rounds_l5 (l33 : List Int) (l54 : List Bool) (i57 : Int) : Option (((List Bool) × Int) ⊕ (List Bool)) :=
 cnd (decide (i57 < (l33.length : Int))) ((idx l33 i57).bind fun x59 =>
 (idx l54 x59).bind fun x69 =>
 (upd l54 x59 true).bind fun l78 =>
 some (.inl (l78, IntKind.i64.wrap (i57 + 1)))) (some (.inr l54))
noncomputable def tourref3_Rounds_j3 (l19 : List Bool) (l24 : List (List Int)) (i27 : Int) (l33 : List Int) : Option (((List Bool) × (List (List Int)) × Int) ⊕ (List (List Int))) :=
 (loop (σ := (List Bool) × Int) (ρ := (List Bool)) (fun s_ => tourref3_Rounds_l5 l33 s_.1 s_.2) (l19, 0)).bind (fun e_ => tourref3_Rounds_j4 l24 l33 i27 e_)
noncomputable def tourref3_Rounds_j7 (i94 : Int) (l98 : List Int) : Option (((List Int) × Int) ⊕ (List Int)) :=
 some (.inl (l98, IntKind.i64.wrap (i94 + 1)))
noncomputable def tourref3_Rounds_j8 (l91 : List Int) (i94 : Int) (t110 : Bool) : Option (((List Int) × Int) ⊕ (List Int)) :=
 cnd t110 ((app 8 l91 ([i94] : List Int)).bind fun l114 =>
 tourref3_Rounds_j7 i94 l114) (tourref3_Rounds_j7 i94 l91)
noncomputable def tourref3_Rounds_j10 (i124 : Int) (t126 : Bool) : Option ((Bool × Int) ⊕ Bool) :=
 some (.inl (t126, IntKind.i64.wrap (i124 + 1)))
noncomputable def tourref3_Rounds_l9 (i94 : Int) (l19 : List Bool) (l : List api_System) (t123 : Bool) (i124 : Int) : Option ((Bool × Int) ⊕ Bool) :=
 cnd (decide (i124 < i94)) (cnd t123 ((idx l19 i124).bind fun x128 =>
 cnd x128 (tourref3_Rounds_j10 i124 true) ((idx l i124).bind fun x138 =>
 (idx l i94).bind fun x167 =>
 (tourref3_Clash x138.Name x138.With x138.Without x138.Reads x138.Writes x138.Ops x138.Spawn x167.Name x167.With x167.Without x167.Reads x167.Writes x167.Ops x167.Spawn).bind fun x196 =>
 tourref3_Rounds_j10 i124 (!x196))) (tourref3_Rounds_j10 i124 false)) (some (.inr t123))
noncomputable def tourref3_Rounds_l6 (l : List api_System) (l19 : List Bool) (l91 : List Int) (i94 : Int) : Option (((List Int) × Int) ⊕ (List Int)) :=
 cnd (decide (i94 < (l.length : Int))) ((idx l19 i94).bind fun x101 =>
 (loop (σ := Bool × Int) (ρ := Bool) (fun s_ => tourref3_Rounds_l9 i94 l19 l s_.1 s_.2) (!x101, 0)).bind (fun e_ => tourref3_Rounds_j8 l91 i94 e_)) (some (.inr l91))
noncomputable def tourref3_Rounds_l2 (l : List api_System) (l19 : List Bool) (l24 : List (List Int)) (i27 : Int) : Option (((List Bool) × (List (List Int)) × Int) ⊕ (List (List Int))) :=
 cnd (decide (0 < i27)) ((loop (σ := (List Int) × Int) (ρ := (List Int)) (fun s_ => tourref3_Rounds_l6 l l19 s_.1 s_.2) (([] : List Int), 0)).bind (fun e_ => tourref3_Rounds_j3 l19 l24 i27 e_)) (some (.inr l24))
noncomputable def tourref3_Rounds (l : List api_System) : Option ((List (List Int))) :=
 (mk 1 (l.length : Int) (false : Bool)).bind fun l1 =>
 (loop (σ := (List Bool) × (List (List Int)) × Int) (ρ := (List (List Int))) (fun s_ => tourref3_Rounds_l2 l s_.1 s_.2.1 s_.2.2) (l1, ([] : List (List Int)), (l.length : Int))).bind (fun e_ => tourref3_Rounds_j1 e_)
noncomputable def slices_Equal_int_int_j1 : Option Bool :=
 some true
noncomputable def slices_Equal_int_int_l2 (s1_1 : List Int) (s2_1 : List Int) (i2 : Int) : Option (Int ⊕ (Bool ⊕ Unit)) :=
 cnd (decide (i2 < (s1_1.length : Int))) ((idx s1_1 i2).bind fun x4 =>
 (idx s2_1 i2).bind fun x15 =>
 cnd (!(x4 == x15)) (some (.inr (.inl false))) (some (.inl (IntKind.i64.wrap (i2 + 1))))) (some (.inr (.inr ())))
noncomputable def slices_Equal_int_int (s1_1 : List Int) (s2_1 : List Int) : Option Bool :=
 cnd (!((s1_1.length : Int) == (s2_1.length : Int))) (some false) ((loop (σ := Int) (ρ := (Bool ⊕ Unit)) (fun s_ => slices_Equal_int_int_l2 s1_1 s2_1 s_) 0).bind (Sum.elim (fun e_ => some e_) (fun e_ => slices_Equal_int_int_j1)))
noncomputable def slices_EqualFunc_int_int_int_int_j1 : Option Bool :=
 some true
noncomputable def slices_EqualFunc_int_int_int_int_l2 (s1_1 : List (List Int)) (s2_1 : List (List Int)) (i2 : Int) : Option (Int ⊕ (Bool ⊕ Unit)) :=
 cnd (decide (i2 < (s1_1.length : Int))) ((idx s1_1 i2).bind fun x4 =>
 (idx s2_1 i2).bind fun x18 =>
 (slices_Equal_int_int x4 x18).bind fun x32 =>
 cnd (!x32) (some (.inr (.inl false))) (some (.inl (IntKind.i64.wrap (i2 + 1))))) (some (.inr (.inr ())))
noncomputable def slices_EqualFunc_int_int_int_int (s1_1 : List (List Int)) (s2_1 : List (List Int)) : Option Bool :=
 cnd (!((s1_1.length : Int) == (s2_1.length : Int))) (some false) ((loop (σ := Int) (ρ := (Bool ⊕ Unit)) (fun s_ => slices_EqualFunc_int_int_int_int_l2 s1_1 s2_1 s_) 0).bind (Sum.elim (fun e_ => some e_) (fun e_ => slices_EqualFunc_int_int_int_int_j1)))
noncomputable def tourref3_Longest_1_j2 (l12 : List (Int × (List Int))) (i : Int) (l23 : List Int) : Option ((List Int) × (List (Int × (List Int)))) :=
 (some (mput l12 i l23)).bind fun l27 =>
 some (l23, l27)
noncomputable def tourref3_Longest_1_j1 (i : Int) (l12 : List (Int × (List Int))) (l16 : List Int) : Option ((List Int) × (List (Int × (List Int)))) :=
 cnd (decide (0 ≤ i)) ((app 8 ([i] : List Int) l16).bind fun l36 =>
 tourref3_Longest_1_j2 l12 i l36) (tourref3_Longest_1_j2 l12 i l16)
noncomputable def tourref3_Longest_1_j4 (i61 : Int) (l67 : List (Int × (List Int))) (l72 : List Int) : Option (((List (Int × (List Int))) × (List Int) × Int) ⊕ (List (Int × (List Int))) × (List Int)) :=
 some (.inl (l67, l72, IntKind.i64.wrap (i61 + 1)))
noncomputable def tourref3_Longest_1_l3 (p2_0 : List api_System) (i : Int) (self_ : Int → (List (Int × (List Int))) → (List api_System) → Option ((List Int) × (List (Int × (List Int))))) (l54 : List (Int × (List Int))) (l59 : List Int) (i61 : Int) : Option (((List (Int × (List Int))) × (List Int) × Int) ⊕ (List (Int × (List Int))) × (List Int)) :=
 cnd (decide (i61 < (p2_0.length : Int))) (cnd (decide (i < 0)) (bnd2 (self_ i61 l54 p2_0) fun x77 x78 =>
 cnd (decide ((l59.length : Int) < (x77.length : Int))) (tourref3_Longest_1_j4 i61 x78 x77) (tourref3_Longest_1_j4 i61 x78 l59)) ((idx p2_0 i).bind fun x91 =>
 (idx p2_0 i61).bind fun x120 =>
 (tourref3_Clash x91.Name x91.With x91.Without x91.Reads x91.Writes x91.Ops x91.Spawn x120.Name x120.With x120.Without x120.Reads x120.Writes x120.Ops x120.Spawn).bind fun x149 =>
 cnd x149 (bnd2 (self_ i61 l54 p2_0) fun x152 x153 =>
 cnd (decide ((l59.length : Int) < (x152.length : Int))) (tourref3_Longest_1_j4 i61 x153 x152) (tourref3_Longest_1_j4 i61 x153 l59)) (tourref3_Longest_1_j4 i61 l54 l59))) (some (.inr (l54, l59)))
noncomputable def tourref3_Longest_1_b (self_ : Int → (List (Int × (List Int))) → (List api_System) → Option ((List Int) × (List (Int × (List Int))))) (i : Int) (p1_0 : List (Int × (List Int))) (p2_0 : List api_System) : Option ((List Int) × (List (Int × (List Int)))) :=
 (some ((mget p1_0 i).getD ([] : List Int))).bind fun x1 =>
 cnd ((mget p1_0 i).isSome) (some (x1, p1_0)) ((loop (σ := (List (Int × (List Int))) × (List Int) × Int) (ρ := (List (Int × (List Int))) × (List Int)) (fun s_ => tourref3_Longest_1_l3 p2_0 i self_ s_.1 s_.2.1 s_.2.2) (p1_0, [], IntKind.i64.wrap (i + 1))).bind (fun e_ => tourref3_Longest_1_j1 i e_.1 e_.2))
noncomputable def tourref3_Longest_1_s (self_ : (Int × (List (Int × (List Int))) × (List api_System)) → Option ((List Int) × (List (Int × (List Int))))) (p_ : Int × (List (Int × (List Int))) × (List api_System)) : Option ((List Int) × (List (Int × (List Int)))) := tourref3_Longest_1_b (fun i p1_0 p2_0 => self_ (i, p1_0, p2_0)) p_.1 p_.2.1 p_.2.2
noncomputable def tourref3_Longest_1 (i : Int) (p1_0 : List (Int × (List Int))) (p2_0 : List api_System) : Option ((List Int) × (List (Int × (List Int)))) := fix tourref3_Longest_1_s (i, p1_0, p2_0)
noncomputable def tourref3_Longest (l : List api_System) : Option ((List Int)) :=
 bnd2 (tourref3_Longest_1 (-1) ([] : List (Int × (List Int))) l) fun x6 x7 =>
 some x6
noncomputable def tourlaw3_PlanLayers_j2 (t23 : Bool) : Option Bool :=
 some t23
noncomputable def tourlaw3_PlanLayers_j3 (t27 : Bool) : Option Bool :=
 some t27
noncomputable def tourlaw3_PlanLayers_j1 (l : List api_System) (x8 : Int) (x16 : Int) (x7 : List (List Int)) (x15 : List Int) : Option Bool :=
 cnd (decide (24 < (l.length : Int))) (cnd (x8 == 2) (cnd (x16 == 2) (cnd ((x7.length : Int) == 0) (tourlaw3_PlanLayers_j2 ((x15.length : Int) == 0)) (tourlaw3_PlanLayers_j2 false)) (tourlaw3_PlanLayers_j2 false)) (tourlaw3_PlanLayers_j2 false)) (cnd (x8 == 0) (cnd (x16 == 0) ((tourref3_Rounds l).bind fun x32 =>
 (slices_EqualFunc_int_int_int_int x7 x32).bind fun x41 =>
 cnd x41 ((tourref3_Longest l).bind fun x44 =>
 (slices_Equal_int_int x15 x44).bind fun x52 =>
 cnd x52 (tourlaw3_PlanLayers_j3 ((x15.length : Int) == (x7.length : Int))) (tourlaw3_PlanLayers_j3 false)) (tourlaw3_PlanLayers_j3 false)) (tourlaw3_PlanLayers_j3 false)) (tourlaw3_PlanLayers_j3 false))
noncomputable def tourlaw3_PlanLayers_j5 (i55 : Int) : Option (Int ⊕ (Bool ⊕ Unit)) :=
 some (.inl (IntKind.i64.wrap (i55 + 1)))
noncomputable def tourlaw3_PlanLayers_l6 (l : List api_System) (i55 : Int) (i57 : Int) : Option (Int ⊕ (Bool ⊕ Unit)) :=
 cnd (decide (i57 < min (l.length : Int) 30)) ((idx l i55).bind fun x59 =>
 (idx l i57).bind fun x88 =>
 (idx l i55).bind fun x117 =>
 (idx l i57).bind fun x146 =>
 (plan_Conflict x59.Name x59.With x59.Without x59.Reads x59.Writes x59.Ops x59.Spawn x88.Name x88.With x88.Without x88.Reads x88.Writes x88.Ops x88.Spawn).bind fun x175 =>
 (tourref3_Clash x117.Name x117.With x117.Without x117.Reads x117.Writes x117.Ops x117.Spawn x146.Name x146.With x146.Without x146.Reads x146.Writes x146.Ops x146.Spawn).bind fun x177 =>
 cnd (!(x175 == x177)) (some (.inr (.inl false))) (some (.inl (IntKind.i64.wrap (i57 + 1))))) (some (.inr (.inr ())))
noncomputable def tourlaw3_PlanLayers_l4 (l : List api_System) (i55 : Int) : Option (Int ⊕ (Bool ⊕ Unit)) :=
 cnd (decide (i55 < min (l.length : Int) 30)) ((loop (σ := Int) (ρ := (Bool ⊕ Unit)) (fun s_ => tourlaw3_PlanLayers_l6 l i55 s_) 0).bind (Sum.elim (fun e_ => some (.inr (.inl e_))) (fun e_ => tourlaw3_PlanLayers_j5 i55))) (some (.inr (.inr ())))
noncomputable def tourlaw3_PlanLayers (l : List api_System) : Option Bool :=
 (tourlaw3_layered).bind fun x1 =>
 cnd (!x1) (some false) (bnd2 (plan_Layers l) fun x7 x8 =>
 bnd2 (plan_Chain l) fun x15 x16 =>
 (loop (σ := Int) (ρ := (Bool ⊕ Unit)) (fun s_ => tourlaw3_PlanLayers_l4 l s_) 0).bind (Sum.elim (fun e_ => some e_) (fun e_ => tourlaw3_PlanLayers_j1 l x8 x16 x7 x15)))
end Go.Proofs.Ytnnhijlgohlaeaa.P
