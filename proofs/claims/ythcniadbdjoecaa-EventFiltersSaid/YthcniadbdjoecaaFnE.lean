/- The Go functions as plain functions over Option. No condition. -/
import Derived.Test.YthcniadbdjoecaaTyE
import Derived.Test.YthcniadbdjoecaaExIns
import Derived.Test.YthcniadbdjoecaaExMap
namespace Go.Proofs.Ythcniadbdjoecaa.E
open Go Go.RowKit Go.Proofs.Ythcniadbdjoecaa.Sx
set_option linter.unusedVariables false
noncomputable def cmp_isNaN_int (x : Int) : Option Unit :=
 some ()
noncomputable def cmp_Compare_int (x : Int) (y : Int) : Option Int :=
 (cmp_isNaN_int x).bind fun _ =>
 (cmp_isNaN_int y).bind fun _ =>
 cnd (decide (x < y)) (some (-1)) (cnd (decide (y < x)) (some 1) (some 0))
noncomputable def event_Counts_1 (c_0 : Int) (c_1 : Int) (s : Int) : Option Int :=
 (cmp_Compare_int c_0 s).bind fun x2 =>
 some x2
noncomputable def slices_BinarySearchFunc_event_Count_event_Count_int_j2 (i1 : Int) (t2 : Bool) : Option (Int × Bool) :=
 some (i1, t2)
noncomputable def slices_BinarySearchFunc_event_Count_event_Count_int_j1 (x : List event_Count) (target : Int) (i1 : Int) : Option (Int × Bool) :=
 cnd (decide (i1 < (x.length : Int))) ((idx x i1).bind fun x4 =>
 (event_Counts_1 x4.System x4.N target).bind fun x15 =>
 slices_BinarySearchFunc_event_Count_event_Count_int_j2 i1 (x15 == 0)) (slices_BinarySearchFunc_event_Count_event_Count_int_j2 i1 false)
noncomputable def slices_BinarySearchFunc_event_Count_event_Count_int_l3 (x : List event_Count) (target : Int) (i17 : Int) (i18 : Int) : Option ((Int × Int) ⊕ Int) :=
 cnd (decide (i17 < i18)) ((some (IntKind.i64.wrap (Int.fdiv (IntKind.u64.wrap (IntKind.i64.wrap (i17 + i18))) 2))).bind fun x20 =>
 (idx x x20).bind fun x22 =>
 (event_Counts_1 x22.System x22.N target).bind fun x33 =>
 cnd (decide (x33 < 0)) (some (.inl (IntKind.i64.wrap (x20 + 1), i18))) (some (.inl (i17, x20)))) (some (.inr i17))
noncomputable def slices_BinarySearchFunc_event_Count_event_Count_int (x : List event_Count) (target : Int) : Option (Int × Bool) :=
 (loop (σ := Int × Int) (ρ := Int) (fun s_ => slices_BinarySearchFunc_event_Count_event_Count_int_l3 x target s_.1 s_.2) (0, (x.length : Int))).bind (fun e_ => slices_BinarySearchFunc_event_Count_event_Count_int_j1 x target e_)
noncomputable def slices_Insert_event_Count_event_Count (s_ : List event_Count) (i_ : Int) (v_ : List event_Count) : Option (List event_Count) := ins 16 s_ i_ v_
noncomputable def event_Counts_j1 (l3 : List event_Count) : Option ((List event_Count)) :=
 some l3
noncomputable def event_Counts_j3 (x25 : Int) (i11 : Int) (l30 : List event_Count) : Option (((List event_Count) × Int) ⊕ (List event_Count)) :=
 (idx l30 x25).bind fun x33 =>
 (idx l30 x25).bind fun x43 =>
 (upd l30 x25 (event_Count.mk x43.System (IntKind.i64.wrap (x33.N + 1)))).bind fun l52 =>
 some (.inl (l52, IntKind.i64.wrap (i11 + 1)))
noncomputable def event_Counts_l2 (l : List api_Event) (l8 : List event_Count) (i11 : Int) : Option (((List event_Count) × Int) ⊕ (List event_Count)) :=
 cnd (decide (i11 < (l.length : Int))) ((idx l i11).bind fun x13 =>
 bnd2 (slices_BinarySearchFunc_event_Count_event_Count_int l8 x13.System) fun x25 x26 =>
 cnd (!x26) ((slices_Insert_event_Count_event_Count l8 x25 ([(event_Count.mk x13.System 0)] : List event_Count)).bind fun x66 =>
 event_Counts_j3 x25 i11 x66) (event_Counts_j3 x25 i11 l8)) (some (.inr l8))
noncomputable def event_Counts (l : List api_Event) : Option ((List event_Count)) :=
 (loop (σ := (List event_Count) × Int) (ρ := (List event_Count)) (fun s_ => event_Counts_l2 l s_.1 s_.2) (([] : List event_Count), 0)).bind (fun e_ => event_Counts_j1 e_)
noncomputable def event_Split_1 (it_0 : Int) (it_1 : Int) (it_2 : List api_Comp) (p1_0 : Int) (p1_1 : Int) (p1_2 : Int) (p1_3 : Int) : Option Bool :=
 some (it_0 == p1_1 && (it_1 == p1_2))
noncomputable def slices_IndexFunc_api_Item_api_Item_j1 : Option Int :=
 some (-1)
noncomputable def slices_IndexFunc_api_Item_api_Item_l2 (s : List api_Item) (f_c0_0 : Int) (f_c0_1 : Int) (f_c0_2 : Int) (f_c0_3 : Int) (i1 : Int) : Option (Int ⊕ (Int ⊕ Unit)) :=
 cnd (decide (i1 < (s.length : Int))) ((idx s i1).bind fun x3 =>
 (event_Split_1 x3.Ent.N x3.Ent.Gen x3.Comps f_c0_0 f_c0_1 f_c0_2 f_c0_3).bind fun x17 =>
 cnd x17 (some (.inr (.inl i1))) (some (.inl (IntKind.i64.wrap (i1 + 1))))) (some (.inr (.inr ())))
noncomputable def slices_IndexFunc_api_Item_api_Item (s : List api_Item) (f_c0_0 : Int) (f_c0_1 : Int) (f_c0_2 : Int) (f_c0_3 : Int) : Option Int :=
 (loop (σ := Int) (ρ := (Int ⊕ Unit)) (fun s_ => slices_IndexFunc_api_Item_api_Item_l2 s f_c0_0 f_c0_1 f_c0_2 f_c0_3 s_) 0).bind (Sum.elim (fun e_ => some e_) (fun e_ => slices_IndexFunc_api_Item_api_Item_j1))
noncomputable def slices_ContainsFunc_api_Item_api_Item (s : List api_Item) (f_c0_0 : Int) (f_c0_1 : Int) (f_c0_2 : Int) (f_c0_3 : Int) : Option Bool :=
 (slices_IndexFunc_api_Item_api_Item s f_c0_0 f_c0_1 f_c0_2 f_c0_3).bind fun x1 =>
 some (decide (0 ≤ x1))
noncomputable def event_Split_j1 (l4 : List api_Event) (l9 : List api_Event) : Option ((List api_Event) × (List api_Event)) :=
 some (l4, l9)
noncomputable def event_Split_j3 (i22 : Int) (l26 : List api_Event) (l31 : List api_Event) : Option (((List api_Event) × (List api_Event) × Int) ⊕ (List api_Event) × (List api_Event)) :=
 some (.inl (l26, l31, IntKind.i64.wrap (i22 + 1)))
noncomputable def event_Split_l2 (l : List api_Event) (w_2 : List api_Item) (l14 : List api_Event) (l19 : List api_Event) (i22 : Int) : Option (((List api_Event) × (List api_Event) × Int) ⊕ (List api_Event) × (List api_Event)) :=
 cnd (decide (i22 < (l.length : Int))) ((idx l i22).bind fun x34 =>
 (slices_ContainsFunc_api_Item_api_Item w_2 x34.System x34.Ent.N x34.Ent.Gen x34.Value).bind fun x46 =>
 cnd x46 ((app 32 l14 ([(api_Event.mk x34.System (api_Ent.mk x34.Ent.N x34.Ent.Gen) x34.Value)] : List api_Event)).bind fun l51 =>
 event_Split_j3 i22 l51 l19) ((app 32 l19 ([(api_Event.mk x34.System (api_Ent.mk x34.Ent.N x34.Ent.Gen) x34.Value)] : List api_Event)).bind fun l62 =>
 event_Split_j3 i22 l14 l62)) (some (.inr (l14, l19)))
noncomputable def event_Split (w_0 : List api_Kind) (w_1 : List Int) (w_2 : List api_Item) (l : List api_Event) : Option ((List api_Event) × (List api_Event)) :=
 (loop (σ := (List api_Event) × (List api_Event) × Int) (ρ := (List api_Event) × (List api_Event)) (fun s_ => event_Split_l2 l w_2 s_.1 s_.2.1 s_.2.2) (([] : List api_Event), ([] : List api_Event), 0)).bind (fun e_ => event_Split_j1 e_.1 e_.2)
noncomputable def event_Of_j1 (l4 : List api_Event) : Option ((List api_Event)) :=
 some l4
noncomputable def event_Of_j3 (i12 : Int) (l16 : List api_Event) : Option (((List api_Event) × Int) ⊕ (List api_Event)) :=
 some (.inl (l16, IntKind.i64.wrap (i12 + 1)))
noncomputable def event_Of_l2 (l : List api_Event) (system : Int) (vals_0 : Int) (vals_1 : Int) (l9 : List api_Event) (i12 : Int) : Option (((List api_Event) × Int) ⊕ (List api_Event)) :=
 cnd (decide (i12 < (l.length : Int))) ((idx l i12).bind fun x19 =>
 cnd (system == (-1)) (cnd (decide (vals_0 ≤ x19.Value)) (cnd (decide (x19.Value ≤ vals_1)) ((app 32 l9 ([(api_Event.mk x19.System (api_Ent.mk x19.Ent.N x19.Ent.Gen) x19.Value)] : List api_Event)).bind fun l36 =>
 event_Of_j3 i12 l36) (event_Of_j3 i12 l9)) (event_Of_j3 i12 l9)) (cnd (x19.System == system) (cnd (decide (vals_0 ≤ x19.Value)) (cnd (decide (x19.Value ≤ vals_1)) ((app 32 l9 ([(api_Event.mk x19.System (api_Ent.mk x19.Ent.N x19.Ent.Gen) x19.Value)] : List api_Event)).bind fun l50 =>
 event_Of_j3 i12 l50) (event_Of_j3 i12 l9)) (event_Of_j3 i12 l9)) (event_Of_j3 i12 l9))) (some (.inr l9))
noncomputable def event_Of (l : List api_Event) (system : Int) (vals_0 : Int) (vals_1 : Int) : Option ((List api_Event)) :=
 (loop (σ := (List api_Event) × Int) (ρ := (List api_Event)) (fun s_ => event_Of_l2 l system vals_0 vals_1 s_.1 s_.2) (([] : List api_Event), 0)).bind (fun e_ => event_Of_j1 e_)
noncomputable def slices_Equal_api_Event_api_Event_j1 : Option Bool :=
 some true
noncomputable def slices_Equal_api_Event_api_Event_l2 (s1_1 : List api_Event) (s2_1 : List api_Event) (i2 : Int) : Option (Int ⊕ (Bool ⊕ Unit)) :=
 cnd (decide (i2 < (s1_1.length : Int))) ((idx s1_1 i2).bind fun x4 =>
 (idx s2_1 i2).bind fun x15 =>
 cnd (!(x4.System == x15.System && (x4.Ent.N == x15.Ent.N && (x4.Ent.Gen == x15.Ent.Gen && (x4.Value == x15.Value))))) (some (.inr (.inl false))) (some (.inl (IntKind.i64.wrap (i2 + 1))))) (some (.inr (.inr ())))
noncomputable def slices_Equal_api_Event_api_Event (s1_1 : List api_Event) (s2_1 : List api_Event) : Option Bool :=
 cnd (!((s1_1.length : Int) == (s2_1.length : Int))) (some false) ((loop (σ := Int) (ρ := (Bool ⊕ Unit)) (fun s_ => slices_Equal_api_Event_api_Event_l2 s1_1 s2_1 s_) 0).bind (Sum.elim (fun e_ => some e_) (fun e_ => slices_Equal_api_Event_api_Event_j1)))
noncomputable def cmp_Or_int_j1 : Option Int :=
 some 0
noncomputable def cmp_Or_int_l2 (vals : List Int) (i1 : Int) : Option (Int ⊕ (Int ⊕ Unit)) :=
 cnd (decide (i1 < (vals.length : Int))) ((idx vals i1).bind fun x3 =>
 cnd (!(x3 == 0)) (some (.inr (.inl x3))) (some (.inl (IntKind.i64.wrap (i1 + 1))))) (some (.inr (.inr ())))
noncomputable def cmp_Or_int (vals : List Int) : Option Int :=
 (loop (σ := Int) (ρ := (Int ⊕ Unit)) (fun s_ => cmp_Or_int_l2 vals s_) 0).bind (Sum.elim (fun e_ => some e_) (fun e_ => cmp_Or_int_j1))
noncomputable def event_order (a_0 : Int) (a_1 : Int) (a_2 : Int) (a_3 : Int) (b_0 : Int) (b_1 : Int) (b_2 : Int) (b_3 : Int) : Option Int :=
 (cmp_Compare_int a_0 b_0).bind fun x3 =>
 (cmp_Compare_int a_1 b_1).bind fun x5 =>
 (cmp_Compare_int a_2 b_2).bind fun x7 =>
 (cmp_Or_int ([x3, x5, x7] : List Int)).bind fun x11 =>
 some x11
noncomputable def slices_BinarySearchFunc_api_Event_api_Event_api_Event_j2 (i2 : Int) (t3 : Bool) : Option (Int × Bool) :=
 some (i2, t3)
noncomputable def slices_BinarySearchFunc_api_Event_api_Event_api_Event_j1 (x : List api_Event) (target_0 : Int) (target_1 : Int) (target_2 : Int) (target_3 : Int) (i2 : Int) : Option (Int × Bool) :=
 cnd (decide (i2 < (x.length : Int))) ((idx x i2).bind fun x5 =>
 (event_order x5.System x5.Ent.N x5.Ent.Gen x5.Value target_0 target_1 target_2 target_3).bind fun x16 =>
 slices_BinarySearchFunc_api_Event_api_Event_api_Event_j2 i2 (x16 == 0)) (slices_BinarySearchFunc_api_Event_api_Event_api_Event_j2 i2 false)
noncomputable def slices_BinarySearchFunc_api_Event_api_Event_api_Event_l3 (x : List api_Event) (target_0 : Int) (target_1 : Int) (target_2 : Int) (target_3 : Int) (i18 : Int) (i19 : Int) : Option ((Int × Int) ⊕ Int) :=
 cnd (decide (i18 < i19)) ((some (IntKind.i64.wrap (Int.fdiv (IntKind.u64.wrap (IntKind.i64.wrap (i18 + i19))) 2))).bind fun x21 =>
 (idx x x21).bind fun x23 =>
 (event_order x23.System x23.Ent.N x23.Ent.Gen x23.Value target_0 target_1 target_2 target_3).bind fun x34 =>
 cnd (decide (x34 < 0)) (some (.inl (IntKind.i64.wrap (x21 + 1), i19))) (some (.inl (i18, x21)))) (some (.inr i18))
noncomputable def slices_BinarySearchFunc_api_Event_api_Event_api_Event (x : List api_Event) (target_0 : Int) (target_1 : Int) (target_2 : Int) (target_3 : Int) : Option (Int × Bool) :=
 (loop (σ := Int × Int) (ρ := Int) (fun s_ => slices_BinarySearchFunc_api_Event_api_Event_api_Event_l3 x target_0 target_1 target_2 target_3 s_.1 s_.2) (0, (x.length : Int))).bind (fun e_ => slices_BinarySearchFunc_api_Event_api_Event_api_Event_j1 x target_0 target_1 target_2 target_3 e_)
noncomputable def slices_Insert_api_Event_api_Event (s_ : List api_Event) (i_ : Int) (v_ : List api_Event) : Option (List api_Event) := ins 32 s_ i_ v_
noncomputable def event_Last_j1 (l3 : List api_Event) : Option ((List api_Event)) :=
 some l3
noncomputable def event_Last_j3 (i11 : Int) (l15 : List api_Event) : Option (((List api_Event) × Int) ⊕ (List api_Event)) :=
 some (.inl (l15, IntKind.i64.wrap (i11 + 1)))
noncomputable def event_Last_l2 (l : List api_Event) (l8 : List api_Event) (i11 : Int) : Option (((List api_Event) × Int) ⊕ (List api_Event)) :=
 cnd (decide (i11 < (l.length : Int))) ((idx l i11).bind fun x18 =>
 bnd2 (slices_BinarySearchFunc_api_Event_api_Event_api_Event l8 x18.System x18.Ent.N x18.Ent.Gen x18.Value) fun x30 x31 =>
 cnd x31 ((idx l8 x30).bind fun x34 =>
 (upd l8 x30 (api_Event.mk x18.System (api_Ent.mk x18.Ent.N x18.Ent.Gen) x18.Value)).bind fun l44 =>
 event_Last_j3 i11 l44) ((slices_Insert_api_Event_api_Event l8 x30 ([(api_Event.mk x18.System (api_Ent.mk x18.Ent.N x18.Ent.Gen) x18.Value)] : List api_Event)).bind fun x57 =>
 event_Last_j3 i11 x57)) (some (.inr l8))
noncomputable def event_Last (l : List api_Event) : Option ((List api_Event)) :=
 (loop (σ := (List api_Event) × Int) (ρ := (List api_Event)) (fun s_ => event_Last_l2 l s_.1 s_.2) (([] : List api_Event), 0)).bind (fun e_ => event_Last_j1 e_)
noncomputable def slices_Compare_int_int_j1 (s1_1 : List Int) (s2_1 : List Int) : Option Int :=
 cnd (decide ((s1_1.length : Int) < (s2_1.length : Int))) (some (-1)) (some 0)
noncomputable def slices_Compare_int_int_l2 (s1_1 : List Int) (s2_1 : List Int) (i2 : Int) : Option (Int ⊕ (Int ⊕ Unit)) :=
 cnd (decide (i2 < (s1_1.length : Int))) ((idx s1_1 i2).bind fun x4 =>
 cnd (decide ((s2_1.length : Int) ≤ i2)) (some (.inr (.inl 1))) ((idx s2_1 i2).bind fun x16 =>
 (cmp_Compare_int x4 x16).bind fun x27 =>
 cnd (!(x27 == 0)) (some (.inr (.inl x27))) (some (.inl (IntKind.i64.wrap (i2 + 1)))))) (some (.inr (.inr ())))
noncomputable def slices_Compare_int_int (s1_1 : List Int) (s2_1 : List Int) : Option Int :=
 (loop (σ := Int) (ρ := (Int ⊕ Unit)) (fun s_ => slices_Compare_int_int_l2 s1_1 s2_1 s_) 0).bind (Sum.elim (fun e_ => some e_) (fun e_ => slices_Compare_int_int_j1 s1_1 s2_1))
noncomputable def tourlaw3_ahead (a_0 : Int) (a_1 : Int) (a_2 : Int) (a_3 : Int) (b_0 : Int) (b_1 : Int) (b_2 : Int) (b_3 : Int) : Option Bool :=
 (slices_Compare_int_int ([a_0, a_1, a_2] : List Int) ([b_0, b_1, b_2] : List Int)).bind fun x7 =>
 some (decide (x7 < 0))
noncomputable def tourlaw3_EventFilters_j3 : Option Bool :=
 some true
noncomputable def tourlaw3_EventFilters_j5 (i79 : Int) : Option (Int ⊕ (Bool ⊕ Unit)) :=
 some (.inl (IntKind.i64.wrap (i79 + 1)))
noncomputable def tourlaw3_EventFilters_l4 (x71 : List api_Event) (l33 : List (api_Event × api_Event)) (i79 : Int) : Option (Int ⊕ (Bool ⊕ Unit)) :=
 cnd (decide (i79 < (x71.length : Int))) ((idx x71 i79).bind fun x81 =>
 (some ((mget l33 (api_Event.mk x81.System (api_Ent.mk x81.Ent.N x81.Ent.Gen) 0)).getD (api_Event.mk 0 (api_Ent.mk 0 0) 0))).bind fun x92 =>
 cnd (!(x92.System == x81.System && (x92.Ent.N == x81.Ent.N && (x92.Ent.Gen == x81.Ent.Gen && (x92.Value == x81.Value))))) (some (.inr (.inl false))) (cnd (decide (0 < i79)) ((idx x71 (IntKind.i64.wrap (i79 - 1))).bind fun x99 =>
 (tourlaw3_ahead x99.System x99.Ent.N x99.Ent.Gen x99.Value x81.System x81.Ent.N x81.Ent.Gen x81.Value).bind fun x108 =>
 cnd (!x108) (some (.inr (.inl false))) (tourlaw3_EventFilters_j5 i79)) (tourlaw3_EventFilters_j5 i79))) (some (.inr (.inr ())))
noncomputable def tourlaw3_EventFilters_j2 (x71 : List api_Event) (l33 : List (api_Event × api_Event)) : Option Bool :=
 (loop (σ := Int) (ρ := (Bool ⊕ Unit)) (fun s_ => tourlaw3_EventFilters_l4 x71 l33 s_) 0).bind (Sum.elim (fun e_ => some e_) (fun e_ => tourlaw3_EventFilters_j3))
noncomputable def tourlaw3_EventFilters_j7 (i111 : Int) : Option (Int ⊕ (Bool ⊕ Unit)) :=
 some (.inl (IntKind.i64.wrap (i111 + 1)))
noncomputable def tourlaw3_EventFilters_l6 (x65 : List event_Count) (l37 : List (Int × Int)) (i111 : Int) : Option (Int ⊕ (Bool ⊕ Unit)) :=
 cnd (decide (i111 < (x65.length : Int))) ((idx x65 i111).bind fun x113 =>
 (some ((mget l37 x113.System).getD 0)).bind fun x124 =>
 cnd (!(x124 == x113.N)) (some (.inr (.inl false))) (cnd (decide (0 < i111)) ((idx x65 (IntKind.i64.wrap (i111 - 1))).bind fun x131 =>
 cnd (decide (x113.System ≤ x131.System)) (some (.inr (.inl false))) (tourlaw3_EventFilters_j7 i111)) (tourlaw3_EventFilters_j7 i111))) (some (.inr (.inr ())))
noncomputable def tourlaw3_EventFilters_j1 (w_0 : List api_Kind) (w_1 : List Int) (w_2 : List api_Item) (l : List api_Event) (s : Int) (vals_0 : Int) (vals_1 : Int) (l18 : List api_Event) (l23 : List api_Event) (l28 : List api_Event) (l33 : List (api_Event × api_Event)) (l37 : List (Int × Int)) : Option Bool :=
 bnd2 (event_Split w_0 w_1 w_2 l) fun x39 x40 =>
 (event_Of l s vals_0 vals_1).bind fun x50 =>
 (slices_Equal_api_Event_api_Event x50 l18).bind fun x56 =>
 cnd (!x56) (some false) ((slices_Equal_api_Event_api_Event x39 l23).bind fun x59 =>
 cnd (!x59) (some false) ((slices_Equal_api_Event_api_Event x40 l28).bind fun x62 =>
 cnd (!x62) (some false) ((event_Counts l).bind fun x65 =>
 (event_Last l).bind fun x71 =>
 cnd (!((x65.length : Int) == (l37.length : Int))) (some false) (cnd (!((x71.length : Int) == (l33.length : Int))) (some false) ((loop (σ := Int) (ρ := (Bool ⊕ Unit)) (fun s_ => tourlaw3_EventFilters_l6 x65 l37 s_) 0).bind (Sum.elim (fun e_ => some e_) (fun e_ => tourlaw3_EventFilters_j2 x71 l33)))))))
noncomputable def tourlaw3_EventFilters_j11 (l158 : List (api_Event × api_Event)) (x166 : api_Event) (l162 : List (Int × Int)) (l180 : List api_Event) (i164 : Int) (l186 : List api_Event) (l191 : List api_Event) : Option (((List api_Event) × (List api_Event) × (List api_Event) × (List (api_Event × api_Event)) × (List (Int × Int)) × Int) ⊕ (List api_Event) × (List api_Event) × (List api_Event) × (List (api_Event × api_Event)) × (List (Int × Int))) :=
 (some (mput l158 (api_Event.mk x166.System (api_Ent.mk x166.Ent.N x166.Ent.Gen) 0) (api_Event.mk x166.System (api_Ent.mk x166.Ent.N x166.Ent.Gen) x166.Value))).bind fun l194 =>
 (some ((mget l162 x166.System).getD 0)).bind fun x200 =>
 (some (mput l162 x166.System (IntKind.i64.wrap (x200 + 1)))).bind fun l205 =>
 some (.inl (l180, l186, l191, l194, l205, IntKind.i64.wrap (i164 + 1)))
noncomputable def tourlaw3_EventFilters_j10 (l148 : List api_Event) (x166 : api_Event) (l158 : List (api_Event × api_Event)) (l162 : List (Int × Int)) (l180 : List api_Event) (i164 : Int) (l153 : List api_Event) (t183 : Bool) : Option (((List api_Event) × (List api_Event) × (List api_Event) × (List (api_Event × api_Event)) × (List (Int × Int)) × Int) ⊕ (List api_Event) × (List api_Event) × (List api_Event) × (List (api_Event × api_Event)) × (List (Int × Int))) :=
 cnd t183 ((app 32 l148 ([(api_Event.mk x166.System (api_Ent.mk x166.Ent.N x166.Ent.Gen) x166.Value)] : List api_Event)).bind fun l214 =>
 tourlaw3_EventFilters_j11 l158 x166 l162 l180 i164 l214 l153) ((app 32 l153 ([(api_Event.mk x166.System (api_Ent.mk x166.Ent.N x166.Ent.Gen) x166.Value)] : List api_Event)).bind fun l225 =>
 tourlaw3_EventFilters_j11 l158 x166 l162 l180 i164 l148 l225)
noncomputable def tourlaw3_EventFilters_j13 (i235 : Int) (t237 : Bool) : Option ((Bool × Int) ⊕ Bool) :=
 some (.inl (t237, IntKind.i64.wrap (i235 + 1)))
noncomputable def tourlaw3_EventFilters_l12 (w_2 : List api_Item) (x166 : api_Event) (t234 : Bool) (i235 : Int) : Option ((Bool × Int) ⊕ Bool) :=
 cnd (decide (i235 < (w_2.length : Int))) ((idx w_2 i235).bind fun x238 =>
 cnd t234 (tourlaw3_EventFilters_j13 i235 true) (tourlaw3_EventFilters_j13 i235 (x238.Ent.N == x166.Ent.N && (x238.Ent.Gen == x166.Ent.Gen)))) (some (.inr t234))
noncomputable def tourlaw3_EventFilters_j9 (w_2 : List api_Item) (x166 : api_Event) (l148 : List api_Event) (l158 : List (api_Event × api_Event)) (l162 : List (Int × Int)) (i164 : Int) (l153 : List api_Event) (l180 : List api_Event) : Option (((List api_Event) × (List api_Event) × (List api_Event) × (List (api_Event × api_Event)) × (List (Int × Int)) × Int) ⊕ (List api_Event) × (List api_Event) × (List api_Event) × (List (api_Event × api_Event)) × (List (Int × Int))) :=
 (loop (σ := Bool × Int) (ρ := Bool) (fun s_ => tourlaw3_EventFilters_l12 w_2 x166 s_.1 s_.2) (false, 0)).bind (fun e_ => tourlaw3_EventFilters_j10 l148 x166 l158 l162 l180 i164 l153 e_)
noncomputable def tourlaw3_EventFilters_l8 (l : List api_Event) (s : Int) (vals_0 : Int) (w_2 : List api_Item) (vals_1 : Int) (l143 : List api_Event) (l148 : List api_Event) (l153 : List api_Event) (l158 : List (api_Event × api_Event)) (l162 : List (Int × Int)) (i164 : Int) : Option (((List api_Event) × (List api_Event) × (List api_Event) × (List (api_Event × api_Event)) × (List (Int × Int)) × Int) ⊕ (List api_Event) × (List api_Event) × (List api_Event) × (List (api_Event × api_Event)) × (List (Int × Int))) :=
 cnd (decide (i164 < (l.length : Int))) ((idx l i164).bind fun x166 =>
 cnd (s == (-1)) (cnd (decide (x166.Value < vals_0)) (tourlaw3_EventFilters_j9 w_2 x166 l148 l158 l162 i164 l153 l143) (cnd (!(decide (vals_1 < x166.Value))) ((app 32 l143 ([(api_Event.mk x166.System (api_Ent.mk x166.Ent.N x166.Ent.Gen) x166.Value)] : List api_Event)).bind fun l259 =>
 tourlaw3_EventFilters_j9 w_2 x166 l148 l158 l162 i164 l153 l259) (tourlaw3_EventFilters_j9 w_2 x166 l148 l158 l162 i164 l153 l143))) (cnd (s == x166.System) (cnd (decide (x166.Value < vals_0)) (tourlaw3_EventFilters_j9 w_2 x166 l148 l158 l162 i164 l153 l143) (cnd (!(decide (vals_1 < x166.Value))) ((app 32 l143 ([(api_Event.mk x166.System (api_Ent.mk x166.Ent.N x166.Ent.Gen) x166.Value)] : List api_Event)).bind fun l273 =>
 tourlaw3_EventFilters_j9 w_2 x166 l148 l158 l162 i164 l153 l273) (tourlaw3_EventFilters_j9 w_2 x166 l148 l158 l162 i164 l153 l143))) (tourlaw3_EventFilters_j9 w_2 x166 l148 l158 l162 i164 l153 l143))) (some (.inr (l143, l148, l153, l158, l162)))
noncomputable def tourlaw3_EventFilters (w_0 : List api_Kind) (w_1 : List Int) (w_2 : List api_Item) (l : List api_Event) (s : Int) (vals_0 : Int) (vals_1 : Int) : Option Bool :=
 (event_Counts ([(api_Event.mk 0 (api_Ent.mk 0 0) 0), (api_Event.mk 0 (api_Ent.mk 0 0) 0)] : List api_Event)).bind fun x5 =>
 cnd (!((x5.length : Int) == 1)) (some false) ((loop (σ := (List api_Event) × (List api_Event) × (List api_Event) × (List (api_Event × api_Event)) × (List (Int × Int)) × Int) (ρ := (List api_Event) × (List api_Event) × (List api_Event) × (List (api_Event × api_Event)) × (List (Int × Int))) (fun s_ => tourlaw3_EventFilters_l8 l s vals_0 w_2 vals_1 s_.1 s_.2.1 s_.2.2.1 s_.2.2.2.1 s_.2.2.2.2.1 s_.2.2.2.2.2) (([] : List api_Event), ([] : List api_Event), ([] : List api_Event), ([] : List (api_Event × api_Event)), ([] : List (Int × Int)), 0)).bind (fun e_ => tourlaw3_EventFilters_j1 w_0 w_1 w_2 l s vals_0 vals_1 e_.1 e_.2.1 e_.2.2.1 e_.2.2.2.1 e_.2.2.2.2))
end Go.Proofs.Ythcniadbdjoecaa.E
