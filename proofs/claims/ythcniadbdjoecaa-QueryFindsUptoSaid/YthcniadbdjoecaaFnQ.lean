/- The Go functions as plain functions over Option. No condition. -/
import Derived.Test.YthcniadbdjoecaaTyQ
import Derived.Test.YthcniadbdjoecaaExMap
namespace Go.Proofs.Ythcniadbdjoecaa.Q
open Go Go.RowKit Go.Proofs.Ythcniadbdjoecaa.Sx
set_option linter.unusedVariables false
noncomputable def tourlaw3_two : Option ((List api_Kind)) :=
 some ([(api_Kind.mk (⟨#[112, 108, 97, 99, 101]⟩) ([(api_Field.mk (⟨#[120]⟩) 3 (-2))] : List api_Field)), (api_Kind.mk (⟨#[108, 105, 102, 101]⟩) ([(api_Field.mk (⟨#[120]⟩) 8 0)] : List api_Field))] : List api_Kind)
noncomputable def tourlaw3_pair : Option ((List api_Kind) × (List Int) × (List api_Item)) :=
 (tourlaw3_two).bind fun x2 =>
 some (x2, ([0, 2] : List Int), ([(api_Item.mk (api_Ent.mk 0 0) ([(api_Comp.mk 0 ([4] : List Int)), (api_Comp.mk 1 ([9] : List Int))] : List api_Comp)), (api_Item.mk (api_Ent.mk 1 2) ([(api_Comp.mk 1 ([7] : List Int))] : List api_Comp))] : List api_Item))
noncomputable def query_Match_1_1 (c_0 : Int) (c_1 : List Int) (p1_0 : Int) : Option Bool :=
 some (c_0 == p1_0)
noncomputable def slices_IndexFunc_api_Comp_api_Comp_j1 : Option Int :=
 some (-1)
noncomputable def slices_IndexFunc_api_Comp_api_Comp_l2 (s : List api_Comp) (f_c0_0 : Int) (i1 : Int) : Option (Int ⊕ (Int ⊕ Unit)) :=
 cnd (decide (i1 < (s.length : Int))) ((idx s i1).bind fun x3 =>
 (query_Match_1_1 x3.Kind x3.Vals f_c0_0).bind fun x17 =>
 cnd x17 (some (.inr (.inl i1))) (some (.inl (IntKind.i64.wrap (i1 + 1))))) (some (.inr (.inr ())))
noncomputable def slices_IndexFunc_api_Comp_api_Comp (s : List api_Comp) (f_c0_0 : Int) : Option Int :=
 (loop (σ := Int) (ρ := (Int ⊕ Unit)) (fun s_ => slices_IndexFunc_api_Comp_api_Comp_l2 s f_c0_0 s_) 0).bind (Sum.elim (fun e_ => some e_) (fun e_ => slices_IndexFunc_api_Comp_api_Comp_j1))
noncomputable def slices_ContainsFunc_api_Comp_api_Comp (s : List api_Comp) (f_c0_0 : Int) : Option Bool :=
 (slices_IndexFunc_api_Comp_api_Comp s f_c0_0).bind fun x1 =>
 some (decide (0 ≤ x1))
noncomputable def query_Match_1 (k : Int) (p1_0 : Int) (p1_1 : Int) (p1_2 : List api_Comp) : Option Bool :=
 (slices_ContainsFunc_api_Comp_api_Comp p1_2 k).bind fun x2 =>
 some x2
noncomputable def query_Match_2 (k : Int) (p1_0_c0_0 : Int) (p1_0_c0_1 : Int) (p1_0_c0_2 : List api_Comp) : Option Bool :=
 (query_Match_1 k p1_0_c0_0 p1_0_c0_1 p1_0_c0_2).bind fun x1 =>
 some !x1
noncomputable def slices_IndexFunc_int_int_j1 : Option Int :=
 some (-1)
noncomputable def slices_IndexFunc_int_int_l2 (s : List Int) (f_c0_0_c0_0 : Int) (f_c0_0_c0_1 : Int) (f_c0_0_c0_2 : List api_Comp) (i3 : Int) : Option (Int ⊕ (Int ⊕ Unit)) :=
 cnd (decide (i3 < (s.length : Int))) ((idx s i3).bind fun x5 =>
 (query_Match_2 x5 f_c0_0_c0_0 f_c0_0_c0_1 f_c0_0_c0_2).bind fun x16 =>
 cnd x16 (some (.inr (.inl i3))) (some (.inl (IntKind.i64.wrap (i3 + 1))))) (some (.inr (.inr ())))
noncomputable def slices_IndexFunc_int_int (s : List Int) (f_c0_0_c0_0 : Int) (f_c0_0_c0_1 : Int) (f_c0_0_c0_2 : List api_Comp) : Option Int :=
 (loop (σ := Int) (ρ := (Int ⊕ Unit)) (fun s_ => slices_IndexFunc_int_int_l2 s f_c0_0_c0_0 f_c0_0_c0_1 f_c0_0_c0_2 s_) 0).bind (Sum.elim (fun e_ => some e_) (fun e_ => slices_IndexFunc_int_int_j1))
noncomputable def slices_ContainsFunc_int_int (s : List Int) (f_c0_0_c0_0 : Int) (f_c0_0_c0_1 : Int) (f_c0_0_c0_2 : List api_Comp) : Option Bool :=
 (slices_IndexFunc_int_int s f_c0_0_c0_0 f_c0_0_c0_1 f_c0_0_c0_2).bind fun x1 =>
 some (decide (0 ≤ x1))
noncomputable def slices_IndexFunc_int_int_v2_j1 : Option Int :=
 some (-1)
noncomputable def slices_IndexFunc_int_int_v2_l2 (s : List Int) (f_c0_0 : Int) (f_c0_1 : Int) (f_c0_2 : List api_Comp) (i3 : Int) : Option (Int ⊕ (Int ⊕ Unit)) :=
 cnd (decide (i3 < (s.length : Int))) ((idx s i3).bind fun x5 =>
 (query_Match_1 x5 f_c0_0 f_c0_1 f_c0_2).bind fun x16 =>
 cnd x16 (some (.inr (.inl i3))) (some (.inl (IntKind.i64.wrap (i3 + 1))))) (some (.inr (.inr ())))
noncomputable def slices_IndexFunc_int_int_v2 (s : List Int) (f_c0_0 : Int) (f_c0_1 : Int) (f_c0_2 : List api_Comp) : Option Int :=
 (loop (σ := Int) (ρ := (Int ⊕ Unit)) (fun s_ => slices_IndexFunc_int_int_v2_l2 s f_c0_0 f_c0_1 f_c0_2 s_) 0).bind (Sum.elim (fun e_ => some e_) (fun e_ => slices_IndexFunc_int_int_v2_j1))
noncomputable def slices_ContainsFunc_int_int_v2 (s : List Int) (f_c0_0 : Int) (f_c0_1 : Int) (f_c0_2 : List api_Comp) : Option Bool :=
 (slices_IndexFunc_int_int_v2 s f_c0_0 f_c0_1 f_c0_2).bind fun x1 =>
 some (decide (0 ≤ x1))
noncomputable def query_Match_j1 (t3 : Bool) : Option Bool :=
 some t3
noncomputable def query_Match (it_0 : Int) (it_1 : Int) (it_2 : List api_Comp) (with_1 : List Int) (without : List Int) : Option Bool :=
 (slices_ContainsFunc_int_int with_1 it_0 it_1 it_2).bind fun x4 =>
 cnd (!x4) ((slices_ContainsFunc_int_int_v2 without it_0 it_1 it_2).bind fun x8 =>
 query_Match_j1 (!x8)) (query_Match_j1 false)
noncomputable def slices_Clone_int_int (s : List Int) : Option ((List Int)) :=
 (app 8 ([] : List Int) s).bind fun l5 =>
 some l5
noncomputable def world_CopyComps_j1 (l12 : List api_Comp) : Option ((List api_Comp)) :=
 some l12
noncomputable def world_CopyComps_l2 (l : List api_Comp) (l17 : List api_Comp) (i20 : Int) : Option (((List api_Comp) × Int) ⊕ (List api_Comp)) :=
 cnd (decide (i20 < (l.length : Int))) ((idx l i20).bind fun x24 =>
 (slices_Clone_int_int x24.Vals).bind fun x39 =>
 (idx l17 i20).bind fun x45 =>
 (upd l17 i20 (api_Comp.mk x24.Kind x39)).bind fun l61 =>
 some (.inl (l61, IntKind.i64.wrap (i20 + 1)))) (some (.inr l17))
noncomputable def world_CopyComps (l : List api_Comp) : Option ((List api_Comp)) :=
 (mk 32 (l.length : Int) ((api_Comp.mk 0 []) : api_Comp)).bind fun l1 =>
 (loop (σ := (List api_Comp) × Int) (ρ := (List api_Comp)) (fun s_ => world_CopyComps_l2 l s_.1 s_.2) (l1, 0)).bind (fun e_ => world_CopyComps_j1 e_)
noncomputable def query_All_j1 (l5 : List query_row) : Option ((List query_row)) :=
 some l5
noncomputable def query_All_j3 (i19 : Int) (l25 : List query_row) : Option (((List query_row) × Int) ⊕ (List query_row)) :=
 some (.inl (l25, IntKind.i64.wrap (i19 + 1)))
noncomputable def query_All_l2 (w_2 : List api_Item) (with_1 : List Int) (without : List Int) (l16 : List query_row) (i19 : Int) : Option (((List query_row) × Int) ⊕ (List query_row)) :=
 cnd (decide (i19 < (w_2.length : Int))) ((idx w_2 i19).bind fun x30 =>
 (query_Match x30.Ent.N x30.Ent.Gen x30.Comps with_1 without).bind fun x45 =>
 cnd x45 ((world_CopyComps x30.Comps).bind fun x48 =>
 (app 48 l16 ([(query_row.mk i19 (api_Item.mk (api_Ent.mk x30.Ent.N x30.Ent.Gen) x48))] : List query_row)).bind fun l63 =>
 query_All_j3 i19 l63) (query_All_j3 i19 l16)) (some (.inr l16))
noncomputable def query_All (w_0 : List api_Kind) (w_1 : List Int) (w_2 : List api_Item) (with_1 : List Int) (without : List Int) : Option ((List query_row)) :=
 (loop (σ := (List query_row) × Int) (ρ := (List query_row)) (fun s_ => query_All_l2 w_2 with_1 without s_.1 s_.2) (([] : List query_row), 0)).bind (fun e_ => query_All_j1 e_)
noncomputable def query_Count_j1 (i3 : Int) : Option Int :=
 some i3
noncomputable def query_Count_l2 (x7 : List query_row) (i20 : Int) : Option (Int ⊕ Int) :=
 cnd (decide (i20 < (x7.length : Int))) ((idx x7 i20).bind fun x24 =>
 (world_CopyComps x24.it.Comps).bind fun x38 =>
 some (.inl (IntKind.i64.wrap (i20 + 1)))) (some (.inr i20))
noncomputable def query_Count (w_0 : List api_Kind) (w_1 : List Int) (w_2 : List api_Item) (with_1 : List Int) (without : List Int) : Option Int :=
 (query_All w_0 w_1 w_2 with_1 without).bind fun x7 =>
 (loop (σ := Int) (ρ := Int) (fun s_ => query_Count_l2 x7 s_) 0).bind (fun e_ => query_Count_j1 e_)
noncomputable def slices_Equal_int_int_j1 : Option Bool :=
 some true
noncomputable def slices_Equal_int_int_l2 (s1_1 : List Int) (s2_1 : List Int) (i2 : Int) : Option (Int ⊕ (Bool ⊕ Unit)) :=
 cnd (decide (i2 < (s1_1.length : Int))) ((idx s1_1 i2).bind fun x4 =>
 (idx s2_1 i2).bind fun x15 =>
 cnd (!(x4 == x15)) (some (.inr (.inl false))) (some (.inl (IntKind.i64.wrap (i2 + 1))))) (some (.inr (.inr ())))
noncomputable def slices_Equal_int_int (s1_1 : List Int) (s2_1 : List Int) : Option Bool :=
 cnd (!((s1_1.length : Int) == (s2_1.length : Int))) (some false) ((loop (σ := Int) (ρ := (Bool ⊕ Unit)) (fun s_ => slices_Equal_int_int_l2 s1_1 s2_1 s_) 0).bind (Sum.elim (fun e_ => some e_) (fun e_ => slices_Equal_int_int_j1)))
noncomputable def tourref3_SameComp_j1 (t3 : Bool) : Option Bool :=
 some t3
noncomputable def tourref3_SameComp (a_0 : Int) (a_1 : List Int) (b_0 : Int) (b_1 : List Int) : Option Bool :=
 cnd (a_0 == b_0) ((slices_Equal_int_int a_1 b_1).bind fun x5 =>
 tourref3_SameComp_j1 x5) (tourref3_SameComp_j1 false)
noncomputable def slices_EqualFunc_api_Comp_api_Comp_api_Comp_api_Comp_j1 : Option Bool :=
 some true
noncomputable def slices_EqualFunc_api_Comp_api_Comp_api_Comp_api_Comp_l2 (s1_1 : List api_Comp) (s2_1 : List api_Comp) (i2 : Int) : Option (Int ⊕ (Bool ⊕ Unit)) :=
 cnd (decide (i2 < (s1_1.length : Int))) ((idx s1_1 i2).bind fun x4 =>
 (idx s2_1 i2).bind fun x19 =>
 (tourref3_SameComp x4.Kind x4.Vals x19.Kind x19.Vals).bind fun x34 =>
 cnd (!x34) (some (.inr (.inl false))) (some (.inl (IntKind.i64.wrap (i2 + 1))))) (some (.inr (.inr ())))
noncomputable def slices_EqualFunc_api_Comp_api_Comp_api_Comp_api_Comp (s1_1 : List api_Comp) (s2_1 : List api_Comp) : Option Bool :=
 cnd (!((s1_1.length : Int) == (s2_1.length : Int))) (some false) ((loop (σ := Int) (ρ := (Bool ⊕ Unit)) (fun s_ => slices_EqualFunc_api_Comp_api_Comp_api_Comp_api_Comp_l2 s1_1 s2_1 s_) 0).bind (Sum.elim (fun e_ => some e_) (fun e_ => slices_EqualFunc_api_Comp_api_Comp_api_Comp_api_Comp_j1)))
noncomputable def tourref3_SameItem_j1 (t3 : Bool) : Option Bool :=
 some t3
noncomputable def tourref3_SameItem (a_0 : Int) (a_1 : Int) (a_2 : List api_Comp) (b_0 : Int) (b_1 : Int) (b_2 : List api_Comp) : Option Bool :=
 cnd (a_0 == b_0 && (a_1 == b_1)) ((slices_EqualFunc_api_Comp_api_Comp_api_Comp_api_Comp a_2 b_2).bind fun x5 =>
 tourref3_SameItem_j1 x5) (tourref3_SameItem_j1 false)
noncomputable def tourref3_Fits_j3 : Option Bool :=
 some true
noncomputable def tourref3_Fits_l4 (without : List Int) (l6 : List (Int × Bool)) (i8 : Int) : Option (Int ⊕ (Bool ⊕ Unit)) :=
 cnd (decide (i8 < (without.length : Int))) ((idx without i8).bind fun x10 =>
 (some ((mget l6 x10).getD false)).bind fun x21 =>
 cnd x21 (some (.inr (.inl false))) (some (.inl (IntKind.i64.wrap (i8 + 1))))) (some (.inr (.inr ())))
noncomputable def tourref3_Fits_j2 (without : List Int) (l6 : List (Int × Bool)) : Option Bool :=
 (loop (σ := Int) (ρ := (Bool ⊕ Unit)) (fun s_ => tourref3_Fits_l4 without l6 s_) 0).bind (Sum.elim (fun e_ => some e_) (fun e_ => tourref3_Fits_j3))
noncomputable def tourref3_Fits_l5 (with_1 : List Int) (l6 : List (Int × Bool)) (i27 : Int) : Option (Int ⊕ (Bool ⊕ Unit)) :=
 cnd (decide (i27 < (with_1.length : Int))) ((idx with_1 i27).bind fun x29 =>
 (some ((mget l6 x29).getD false)).bind fun x40 =>
 cnd (!x40) (some (.inr (.inl false))) (some (.inl (IntKind.i64.wrap (i27 + 1))))) (some (.inr (.inr ())))
noncomputable def tourref3_Fits_j1 (with_1 : List Int) (without : List Int) (l6 : List (Int × Bool)) : Option Bool :=
 (loop (σ := Int) (ρ := (Bool ⊕ Unit)) (fun s_ => tourref3_Fits_l5 with_1 l6 s_) 0).bind (Sum.elim (fun e_ => some e_) (fun e_ => tourref3_Fits_j2 without l6))
noncomputable def tourref3_Fits_l6 (it_2 : List api_Comp) (l48 : List (Int × Bool)) (i50 : Int) : Option (((List (Int × Bool)) × Int) ⊕ (List (Int × Bool))) :=
 cnd (decide (i50 < (it_2.length : Int))) ((idx it_2 i50).bind fun x52 =>
 (some (mput l48 x52.Kind true)).bind fun l67 =>
 some (.inl (l67, IntKind.i64.wrap (i50 + 1)))) (some (.inr l48))
noncomputable def tourref3_Fits (it_0 : Int) (it_1 : Int) (it_2 : List api_Comp) (with_1 : List Int) (without : List Int) : Option Bool :=
 (loop (σ := (List (Int × Bool)) × Int) (ρ := (List (Int × Bool))) (fun s_ => tourref3_Fits_l6 it_2 s_.1 s_.2) (([] : List (Int × Bool)), 0)).bind (fun e_ => tourref3_Fits_j1 with_1 without e_)
noncomputable def query_Fields_j1 (l5 : List api_Ent) (l10 : List Int) : Option ((List api_Ent) × (List Int)) :=
 some (l5, l10)
noncomputable def query_Fields_j3 (i23 : Int) (l27 : List api_Ent) (l32 : List Int) : Option (((List api_Ent) × (List Int) × Int) ⊕ (List api_Ent) × (List Int)) :=
 some (.inl (l27, l32, IntKind.i64.wrap (i23 + 1)))
noncomputable def query_Fields_j5 (i60 : Int) (l64 : List api_Ent) (l69 : List Int) : Option (((List api_Ent) × (List Int) × Int) ⊕ (List api_Ent) × (List Int)) :=
 some (.inl (l64, l69, IntKind.i64.wrap (i60 + 1)))
noncomputable def query_Fields_l4 (x35 : api_Item) (r_0 : Int) (r_1 : Int) (l52 : List api_Ent) (l57 : List Int) (i60 : Int) : Option (((List api_Ent) × (List Int) × Int) ⊕ (List api_Ent) × (List Int)) :=
 cnd (decide (i60 < (x35.Comps.length : Int))) ((idx x35.Comps i60).bind fun x72 =>
 cnd (x72.Kind == r_0) (cnd (decide (0 ≤ r_1)) (cnd (decide (r_1 < (x72.Vals.length : Int))) ((idx x72.Vals r_1).bind fun x90 =>
 (app 16 l52 ([(api_Ent.mk x35.Ent.N x35.Ent.Gen)] : List api_Ent)).bind fun l103 =>
 (app 8 l57 ([x90] : List Int)).bind fun l114 =>
 query_Fields_j5 i60 l103 l114) (query_Fields_j5 i60 l52 l57)) (query_Fields_j5 i60 l52 l57)) (query_Fields_j5 i60 l52 l57)) (some (.inr (l52, l57)))
noncomputable def query_Fields_l2 (w_2 : List api_Item) (r_0 : Int) (r_1 : Int) (l15 : List api_Ent) (l20 : List Int) (i23 : Int) : Option (((List api_Ent) × (List Int) × Int) ⊕ (List api_Ent) × (List Int)) :=
 cnd (decide (i23 < (w_2.length : Int))) ((idx w_2 i23).bind fun x35 =>
 (loop (σ := (List api_Ent) × (List Int) × Int) (ρ := (List api_Ent) × (List Int)) (fun s_ => query_Fields_l4 x35 r_0 r_1 s_.1 s_.2.1 s_.2.2) (l15, l20, 0)).bind (fun e_ => query_Fields_j3 i23 e_.1 e_.2)) (some (.inr (l15, l20)))
noncomputable def query_Fields (w_0 : List api_Kind) (w_1 : List Int) (w_2 : List api_Item) (r_0 : Int) (r_1 : Int) : Option ((List api_Ent) × (List Int)) :=
 (loop (σ := (List api_Ent) × (List Int) × Int) (ρ := (List api_Ent) × (List Int)) (fun s_ => query_Fields_l2 w_2 r_0 r_1 s_.1 s_.2.1 s_.2.2) (([] : List api_Ent), ([] : List Int), 0)).bind (fun e_ => query_Fields_j1 e_.1 e_.2)
noncomputable def slices_Equal_api_Ent_api_Ent_j1 : Option Bool :=
 some true
noncomputable def slices_Equal_api_Ent_api_Ent_l2 (s1_1 : List api_Ent) (s2_1 : List api_Ent) (i2 : Int) : Option (Int ⊕ (Bool ⊕ Unit)) :=
 cnd (decide (i2 < (s1_1.length : Int))) ((idx s1_1 i2).bind fun x4 =>
 (idx s2_1 i2).bind fun x15 =>
 cnd (!(x4.N == x15.N && (x4.Gen == x15.Gen))) (some (.inr (.inl false))) (some (.inl (IntKind.i64.wrap (i2 + 1))))) (some (.inr (.inr ())))
noncomputable def slices_Equal_api_Ent_api_Ent (s1_1 : List api_Ent) (s2_1 : List api_Ent) : Option Bool :=
 cnd (!((s1_1.length : Int) == (s2_1.length : Int))) (some false) ((loop (σ := Int) (ρ := (Bool ⊕ Unit)) (fun s_ => slices_Equal_api_Ent_api_Ent_l2 s1_1 s2_1 s_) 0).bind (Sum.elim (fun e_ => some e_) (fun e_ => slices_Equal_api_Ent_api_Ent_j1)))
noncomputable def tourlaw3_QueryFinds_j3 (t85 : Bool) : Option Bool :=
 some t85
noncomputable def tourlaw3_QueryFinds_j2 (w_0 : List api_Kind) (w_1 : List Int) (w_2 : List api_Item) (r_0 : Int) (r_1 : Int) (l53 : List Int) (with_1 : List Int) (without : List Int) (l61 : List Int) (l66 : List api_Ent) (l71 : List Int) : Option Bool :=
 bnd2 (query_Fields w_0 w_1 w_2 r_0 r_1) fun x74 x75 =>
 (slices_Equal_int_int l53 l61).bind fun x88 =>
 cnd x88 ((query_Count w_0 w_1 w_2 with_1 without).bind fun x91 =>
 cnd (x91 == (l61.length : Int)) ((slices_Equal_api_Ent_api_Ent x74 l66).bind fun x97 =>
 cnd x97 ((slices_Equal_int_int x75 l71).bind fun x100 =>
 tourlaw3_QueryFinds_j3 x100) (tourlaw3_QueryFinds_j3 false)) (tourlaw3_QueryFinds_j3 false)) (tourlaw3_QueryFinds_j3 false)
noncomputable def tourlaw3_QueryFinds_j5 (i117 : Int) (l121 : List Int) (l126 : List api_Ent) (l131 : List Int) : Option (((List Int) × (List api_Ent) × (List Int) × Int) ⊕ (Bool ⊕ (List Int) × (List api_Ent) × (List Int))) :=
 some (.inl (l121, l126, l131, IntKind.i64.wrap (i117 + 1)))
noncomputable def tourlaw3_QueryFinds_j8 (i169 : Int) (l173 : List api_Ent) (l178 : List Int) : Option (((List api_Ent) × (List Int) × Int) ⊕ (List Int) × (List api_Ent) × (List Int)) :=
 some (.inl (l173, l178, IntKind.i64.wrap (i169 + 1)))
noncomputable def tourlaw3_QueryFinds_j10 (i206 : Int) (l210 : List api_Ent) (l215 : List Int) : Option (((List api_Ent) × (List Int) × Int) ⊕ (List api_Ent) × (List Int)) :=
 some (.inl (l210, l215, IntKind.i64.wrap (i206 + 1)))
noncomputable def tourlaw3_QueryFinds_l9 (x181 : api_Comp) (r_0 : Int) (r_1 : Int) (x134 : api_Item) (l198 : List api_Ent) (l203 : List Int) (i206 : Int) : Option (((List api_Ent) × (List Int) × Int) ⊕ (List api_Ent) × (List Int)) :=
 cnd (decide (i206 < (x181.Vals.length : Int))) ((idx x181.Vals i206).bind fun x218 =>
 cnd (x181.Kind == r_0) (cnd (i206 == r_1) ((app 16 l198 ([(api_Ent.mk x134.Ent.N x134.Ent.Gen)] : List api_Ent)).bind fun l233 =>
 (app 8 l203 ([x218] : List Int)).bind fun l244 =>
 tourlaw3_QueryFinds_j10 i206 l233 l244) (tourlaw3_QueryFinds_j10 i206 l198 l203)) (tourlaw3_QueryFinds_j10 i206 l198 l203)) (some (.inr (l198, l203)))
noncomputable def tourlaw3_QueryFinds_l7 (x134 : api_Item) (r_0 : Int) (r_1 : Int) (l156 : List Int) (l161 : List api_Ent) (l166 : List Int) (i169 : Int) : Option (((List api_Ent) × (List Int) × Int) ⊕ (List Int) × (List api_Ent) × (List Int)) :=
 cnd (decide (i169 < (x134.Comps.length : Int))) ((idx x134.Comps i169).bind fun x181 =>
 (loop (σ := (List api_Ent) × (List Int) × Int) (ρ := (List api_Ent) × (List Int)) (fun s_ => tourlaw3_QueryFinds_l9 x181 r_0 r_1 x134 s_.1 s_.2.1 s_.2.2) (l161, l166, 0)).bind (fun e_ => tourlaw3_QueryFinds_j8 i169 e_.1 e_.2)) (some (.inr (l156, l161, l166)))
noncomputable def tourlaw3_QueryFinds_j6 (x134 : api_Item) (r_0 : Int) (r_1 : Int) (l109 : List api_Ent) (l114 : List Int) (i117 : Int) (l156 : List Int) : Option (((List Int) × (List api_Ent) × (List Int) × Int) ⊕ (Bool ⊕ (List Int) × (List api_Ent) × (List Int))) :=
 (loop (σ := (List api_Ent) × (List Int) × Int) (ρ := (List Int) × (List api_Ent) × (List Int)) (fun s_ => tourlaw3_QueryFinds_l7 x134 r_0 r_1 l156 s_.1 s_.2.1 s_.2.2) (l109, l114, 0)).bind (fun e_ => tourlaw3_QueryFinds_j5 i117 e_.1 e_.2.1 e_.2.2)
noncomputable def tourlaw3_QueryFinds_l4 (w_2 : List api_Item) (with_1 : List Int) (without : List Int) (r_0 : Int) (r_1 : Int) (l104 : List Int) (l109 : List api_Ent) (l114 : List Int) (i117 : Int) : Option (((List Int) × (List api_Ent) × (List Int) × Int) ⊕ (Bool ⊕ (List Int) × (List api_Ent) × (List Int))) :=
 cnd (decide (i117 < (w_2.length : Int))) ((idx w_2 i117).bind fun x134 =>
 (tourref3_Fits x134.Ent.N x134.Ent.Gen x134.Comps with_1 without).bind fun x149 =>
 (query_Match x134.Ent.N x134.Ent.Gen x134.Comps with_1 without).bind fun x151 =>
 cnd (!(x151 == x149)) (some (.inr (.inl false))) (cnd x149 ((app 8 l104 ([i117] : List Int)).bind fun l256 =>
 tourlaw3_QueryFinds_j6 x134 r_0 r_1 l109 l114 i117 l256) (tourlaw3_QueryFinds_j6 x134 r_0 r_1 l109 l114 i117 l104))) (some (.inr (.inr (l104, l109, l114))))
noncomputable def tourlaw3_QueryFinds_j1 (w_2 : List api_Item) (with_1 : List Int) (without : List Int) (r_0 : Int) (r_1 : Int) (w_0 : List api_Kind) (w_1 : List Int) (l53 : List Int) : Option Bool :=
 (loop (σ := (List Int) × (List api_Ent) × (List Int) × Int) (ρ := (Bool ⊕ (List Int) × (List api_Ent) × (List Int))) (fun s_ => tourlaw3_QueryFinds_l4 w_2 with_1 without r_0 r_1 s_.1 s_.2.1 s_.2.2.1 s_.2.2.2) (([] : List Int), ([] : List api_Ent), ([] : List Int), 0)).bind (Sum.elim (fun e_ => some e_) (fun e_ => tourlaw3_QueryFinds_j2 w_0 w_1 w_2 r_0 r_1 l53 with_1 without e_.1 e_.2.1 e_.2.2))
noncomputable def tourlaw3_QueryFinds_l11 (x265 : List query_row) (w_2 : List api_Item) (i282 : Int) (l285 : List Int) : Option ((Int × (List Int)) ⊕ (Bool ⊕ (List Int))) :=
 cnd (decide (i282 < (x265.length : Int))) ((idx x265 i282).bind fun x291 =>
 (world_CopyComps x291.it.Comps).bind fun x305 =>
 cnd (decide (x291.i < 0)) (some (.inr (.inl false))) (cnd (decide ((w_2.length : Int) ≤ x291.i)) (some (.inr (.inl false))) ((idx w_2 x291.i).bind fun x318 =>
 (tourref3_SameItem x291.it.Ent.N x291.it.Ent.Gen x305 x318.Ent.N x318.Ent.Gen x318.Comps).bind fun x332 =>
 cnd (!x332) (some (.inr (.inl false))) ((app 8 l285 ([x291.i] : List Int)).bind fun l337 =>
 some (.inl (IntKind.i64.wrap (i282 + 1), l337)))))) (some (.inr (.inr l285)))
noncomputable def tourlaw3_QueryFinds (w_0 : List api_Kind) (w_1 : List Int) (w_2 : List api_Item) (with_1 : List Int) (without : List Int) (r_0 : Int) (r_1 : Int) : Option Bool :=
 bnd3 (tourlaw3_pair) fun x4 x5 x6 =>
 (query_Count x4 x5 x6 ([1] : List Int) ([0] : List Int)).bind fun x44 =>
 cnd (!(x44 == 1)) (some false) ((query_All w_0 w_1 w_2 with_1 without).bind fun x265 =>
 (loop (σ := Int × (List Int)) (ρ := (Bool ⊕ (List Int))) (fun s_ => tourlaw3_QueryFinds_l11 x265 w_2 s_.1 s_.2) (0, ([] : List Int))).bind (Sum.elim (fun e_ => some e_) (fun e_ => tourlaw3_QueryFinds_j1 w_2 with_1 without r_0 r_1 w_0 w_1 e_)))
end Go.Proofs.Ythcniadbdjoecaa.Q
