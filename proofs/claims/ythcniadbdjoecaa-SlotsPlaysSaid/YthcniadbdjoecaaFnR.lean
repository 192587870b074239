/- The Go functions as plain functions over Option. No condition. -/
import Derived.Test.YthcniadbdjoecaaTyR
import Derived.Test.YthcniadbdjoecaaExMap
namespace Go.Proofs.Ythcniadbdjoecaa.R
open Go Go.RowKit Go.Proofs.Ythcniadbdjoecaa.Sx
set_option linter.unusedVariables false
noncomputable def slots_New : Option ((List Int)) :=
 some ([] : List Int)
noncomputable def sets_Set_word (s : List Int) (k : Int) : Option Int :=
 cnd (decide (k < min (s.length : Int) 64)) ((idx s k).bind fun x2 =>
 some x2) (some 0)
noncomputable def sets_Set_All_1 (x : Int) (y : Int) : Option Unit :=
 some ()
noncomputable def sets_join_j2 (l6 : List Int) : Option ((List Int)) :=
 some l6
noncomputable def sets_join_l3 (l9 : List Int) : Option ((List Int) ⊕ (List Int)) :=
 cnd (decide (0 < (l9.length : Int))) ((idx l9 (IntKind.i64.wrap ((l9.length : Int) - 1))).bind fun x13 =>
 cnd (x13 == 0) ((cut l9 0 (IntKind.i64.wrap ((l9.length : Int) - 1))).bind fun l24 =>
 some (.inl l24)) (some (.inr l9))) (some (.inr l9))
noncomputable def sets_join_j1 (l3 : List Int) : Option ((List Int)) :=
 (loop (σ := (List Int)) (ρ := (List Int)) (fun s_ => sets_join_l3 s_) l3).bind (fun e_ => sets_join_j2 e_)
noncomputable def sets_join_l4 (a : List Int) (b : List Int) (l40 : List Int) (i43 : Int) : Option (((List Int) × Int) ⊕ (List Int)) :=
 cnd (decide (i43 < min (max (a.length : Int) (b.length : Int)) 64)) ((sets_Set_word a i43).bind fun x45 =>
 (sets_Set_word b i43).bind fun x47 =>
 (sets_Set_All_1 x45 x47).bind fun _ =>
 (app 8 l40 ([x45] : List Int)).bind fun l52 =>
 some (.inl (l52, IntKind.i64.wrap (i43 + 1)))) (some (.inr l40))
noncomputable def sets_join (a : List Int) (b : List Int) : Option ((List Int)) :=
 (loop (σ := (List Int) × Int) (ρ := (List Int)) (fun s_ => sets_join_l4 a b s_.1 s_.2) (([] : List Int), 0)).bind (fun e_ => sets_join_j1 e_)
noncomputable def sets_Set_All (s : List Int) : Option ((List Int)) :=
 (sets_join s []).bind fun x2 =>
 some x2
noncomputable def sets_one (i : Int) : Option ((List Int)) :=
 cnd (decide (i < 0)) (some ([] : List Int)) (cnd (decide (4096 ≤ i)) (some ([] : List Int)) ((mk 8 (IntKind.i64.wrap (IntKind.i64.wrap (Int.tdiv i 64) + 1)) (0 : Int)).bind fun l3 =>
 (shl .u64 1 (Int.tmod i 64)).bind fun x14 =>
 (idx l3 (IntKind.i64.wrap (Int.tdiv i 64))).bind fun x18 =>
 (upd l3 (IntKind.i64.wrap (Int.tdiv i 64)) x14).bind fun l27 =>
 some l27))
noncomputable def sets_Set_Either_1 (x : Int) (y : Int) : Option Int :=
 some (Go.bits .or .u64 x y)
noncomputable def sets_join_v2_j2 (l6 : List Int) : Option ((List Int)) :=
 some l6
noncomputable def sets_join_v2_l3 (l9 : List Int) : Option ((List Int) ⊕ (List Int)) :=
 cnd (decide (0 < (l9.length : Int))) ((idx l9 (IntKind.i64.wrap ((l9.length : Int) - 1))).bind fun x13 =>
 cnd (x13 == 0) ((cut l9 0 (IntKind.i64.wrap ((l9.length : Int) - 1))).bind fun l24 =>
 some (.inl l24)) (some (.inr l9))) (some (.inr l9))
noncomputable def sets_join_v2_j1 (l3 : List Int) : Option ((List Int)) :=
 (loop (σ := (List Int)) (ρ := (List Int)) (fun s_ => sets_join_v2_l3 s_) l3).bind (fun e_ => sets_join_v2_j2 e_)
noncomputable def sets_join_v2_l4 (a : List Int) (b : List Int) (l40 : List Int) (i43 : Int) : Option (((List Int) × Int) ⊕ (List Int)) :=
 cnd (decide (i43 < min (max (a.length : Int) (b.length : Int)) 64)) ((sets_Set_word a i43).bind fun x45 =>
 (sets_Set_word b i43).bind fun x47 =>
 (sets_Set_Either_1 x45 x47).bind fun x49 =>
 (app 8 l40 ([x49] : List Int)).bind fun l53 =>
 some (.inl (l53, IntKind.i64.wrap (i43 + 1)))) (some (.inr l40))
noncomputable def sets_join_v2 (a : List Int) (b : List Int) : Option ((List Int)) :=
 (loop (σ := (List Int) × Int) (ρ := (List Int)) (fun s_ => sets_join_v2_l4 a b s_.1 s_.2) (([] : List Int), 0)).bind (fun e_ => sets_join_v2_j1 e_)
noncomputable def sets_Set_Either (s : List Int) (o : List Int) : Option ((List Int)) :=
 (sets_join_v2 s o).bind fun x1 =>
 some x1
noncomputable def sets_Set_With (s : List Int) (i : Int) : Option ((List Int)) :=
 (sets_one i).bind fun x1 =>
 (sets_Set_Either s x1).bind fun x7 =>
 some x7
noncomputable def sets_Set_Minus_1 (x : Int) (y : Int) : Option Int :=
 some (Go.bits .andNot .u64 x y)
noncomputable def sets_join_v3_j2 (l6 : List Int) : Option ((List Int)) :=
 some l6
noncomputable def sets_join_v3_l3 (l9 : List Int) : Option ((List Int) ⊕ (List Int)) :=
 cnd (decide (0 < (l9.length : Int))) ((idx l9 (IntKind.i64.wrap ((l9.length : Int) - 1))).bind fun x13 =>
 cnd (x13 == 0) ((cut l9 0 (IntKind.i64.wrap ((l9.length : Int) - 1))).bind fun l24 =>
 some (.inl l24)) (some (.inr l9))) (some (.inr l9))
noncomputable def sets_join_v3_j1 (l3 : List Int) : Option ((List Int)) :=
 (loop (σ := (List Int)) (ρ := (List Int)) (fun s_ => sets_join_v3_l3 s_) l3).bind (fun e_ => sets_join_v3_j2 e_)
noncomputable def sets_join_v3_l4 (a : List Int) (b : List Int) (l40 : List Int) (i43 : Int) : Option (((List Int) × Int) ⊕ (List Int)) :=
 cnd (decide (i43 < min (max (a.length : Int) (b.length : Int)) 64)) ((sets_Set_word a i43).bind fun x45 =>
 (sets_Set_word b i43).bind fun x47 =>
 (sets_Set_Minus_1 x45 x47).bind fun x49 =>
 (app 8 l40 ([x49] : List Int)).bind fun l53 =>
 some (.inl (l53, IntKind.i64.wrap (i43 + 1)))) (some (.inr l40))
noncomputable def sets_join_v3 (a : List Int) (b : List Int) : Option ((List Int)) :=
 (loop (σ := (List Int) × Int) (ρ := (List Int)) (fun s_ => sets_join_v3_l4 a b s_.1 s_.2) (([] : List Int), 0)).bind (fun e_ => sets_join_v3_j1 e_)
noncomputable def sets_Set_Minus (s : List Int) (o : List Int) : Option ((List Int)) :=
 (sets_join_v3 s o).bind fun x1 =>
 some x1
noncomputable def sets_Set_Without (s : List Int) (i : Int) : Option ((List Int)) :=
 (sets_one i).bind fun x1 =>
 (sets_Set_Minus s x1).bind fun x7 =>
 some x7
noncomputable def slots_Slots_Take_j3 (l8 : List Int) (i3 : Int) (l13 : List Int) (l18 : List Int) : Option (Int × Int × Int × (List Int) × (List Int) × (List Int)) :=
 (idx l8 i3).bind fun x21 =>
 some (i3, x21, 0, l8, l13, l18)
noncomputable def slots_Slots_Take_j2 (s_1 : List Int) (i3 : Int) (s_2 : List Int) (l8 : List Int) : Option (Int × Int × Int × (List Int) × (List Int) × (List Int)) :=
 (sets_Set_With s_1 i3).bind fun x31 =>
 (sets_Set_Without s_2 i3).bind fun x37 =>
 slots_Slots_Take_j3 l8 i3 x31 x37
noncomputable def slots_Slots_Take_j1 (s_0 : List Int) (s_1 : List Int) (s_2 : List Int) (i3 : Int) : Option (Int × Int × Int × (List Int) × (List Int) × (List Int)) :=
 cnd (i3 == 256) (some (0, 0, 6, s_0, s_1, s_2)) (cnd (i3 == (s_0.length : Int)) ((app 8 s_0 ([0] : List Int)).bind fun l66 =>
 slots_Slots_Take_j2 s_1 i3 s_2 l66) (slots_Slots_Take_j2 s_1 i3 s_2 s_0))
noncomputable def slots_Slots_Take_j5 (i85 : Int) : Option (Int ⊕ Int) :=
 some (.inl (IntKind.i64.wrap (i85 + 1)))
noncomputable def slots_Slots_Take_l6 (i85 : Int) (i97 : Int) (i98 : Int) : Option ((Int × Int) ⊕ (Int ⊕ Unit)) :=
 cnd (!(i97 == 0)) (cnd (Go.bits .and .u64 i97 1 == 1) (some (.inr (.inl (IntKind.i64.wrap (IntKind.i64.wrap (64 * i85) + i98))))) (some (.inl (Int.fdiv i97 2, IntKind.i64.wrap (i98 + 1))))) (some (.inr (.inr ())))
noncomputable def slots_Slots_Take_l4 (x75 : List Int) (s_0 : List Int) (i85 : Int) : Option (Int ⊕ Int) :=
 cnd (decide (i85 < (x75.length : Int))) ((idx x75 i85).bind fun x87 =>
 (loop (σ := Int × Int) (ρ := (Int ⊕ Unit)) (fun s_ => slots_Slots_Take_l6 i85 s_.1 s_.2) (x87, 0)).bind (Sum.elim (fun e_ => some (.inr e_)) (fun e_ => slots_Slots_Take_j5 i85))) (some (.inr (s_0.length : Int)))
noncomputable def slots_Slots_Take (s_0 : List Int) (s_1 : List Int) (s_2 : List Int) : Option (Int × Int × Int × (List Int) × (List Int) × (List Int)) :=
 (sets_Set_All s_2).bind fun x75 =>
 (loop (σ := Int) (ρ := Int) (fun s_ => slots_Slots_Take_l4 x75 s_0 s_) 0).bind (fun e_ => slots_Slots_Take_j1 s_0 s_1 s_2 e_)
noncomputable def tourlaw1_slotsBegun_j1 (t52 : Bool) : Option Bool :=
 some t52
noncomputable def tourlaw1_slotsBegun : Option Bool :=
 (slots_New).bind fun x1 =>
 bnd6 (slots_Slots_Take x1 x1 x1) fun x12 x13 x14 x15 x16 x17 =>
 bnd6 (slots_Slots_Take x15 x16 x17) fun x32 x33 x34 x35 x36 x37 =>
 cnd (x14 == 0) (cnd (x34 == 0) (cnd (x12 == 0 && (x13 == 0)) (tourlaw1_slotsBegun_j1 (x32 == 1 && (x33 == 0))) (tourlaw1_slotsBegun_j1 false)) (tourlaw1_slotsBegun_j1 false)) (tourlaw1_slotsBegun_j1 false)
noncomputable def sets_Set_Has_j1 (t1 : Bool) : Option Bool :=
 some t1
noncomputable def sets_Set_Has (s : List Int) (i : Int) : Option Bool :=
 cnd (decide (0 ≤ i)) ((sets_Set_word s (IntKind.i64.wrap (Int.tdiv i 64))).bind fun x3 =>
 (shr .u64 x3 (Int.tmod i 64)).bind fun x5 =>
 sets_Set_Has_j1 (Go.bits .and .u64 x5 1 == 1)) (sets_Set_Has_j1 false)
noncomputable def slots_Of_j3 (l2 : List Int) (l23 : List Int) (l28 : List Int) : Option (Int ⊕ (List Int) × (List Int) × (List Int)) :=
 some (.inr (l2, l23, l28))
noncomputable def slots_Of_j5 (i36 : Int) (l40 : List Int) : Option (((List Int) × Int) ⊕ (List Int)) :=
 some (.inl (l40, IntKind.i64.wrap (i36 + 1)))
noncomputable def slots_Of_l4 (gens : List Int) (l23 : List Int) (l33 : List Int) (i36 : Int) : Option (((List Int) × Int) ⊕ (List Int)) :=
 cnd (decide (i36 < (gens.length : Int))) ((sets_Set_Has l23 i36).bind fun x43 =>
 cnd (!x43) ((idx gens i36).bind fun x46 =>
 cnd (decide (x46 < 1073741824)) ((sets_Set_With l33 i36).bind fun x58 =>
 slots_Of_j5 i36 x58) (slots_Of_j5 i36 l33)) (slots_Of_j5 i36 l33)) (some (.inr l33))
noncomputable def slots_Of_j2 (gens : List Int) (l2 : List Int) (l23 : List Int) : Option (Int ⊕ (List Int) × (List Int) × (List Int)) :=
 (loop (σ := (List Int) × Int) (ρ := (List Int)) (fun s_ => slots_Of_l4 gens l23 s_.1 s_.2) (([] : List Int), 0)).bind (fun e_ => slots_Of_j3 l2 l23 e_)
noncomputable def slots_Of_j7 (l66 : List Int) (x71 : Int) (i69 : Int) : Option (((List Int) × Int) ⊕ (Int ⊕ (List Int))) :=
 (sets_Set_With l66 x71).bind fun x96 =>
 some (.inl (x96, IntKind.i64.wrap (i69 + 1)))
noncomputable def slots_Of_l6 (used : List Int) (gens : List Int) (l66 : List Int) (i69 : Int) : Option (((List Int) × Int) ⊕ (Int ⊕ (List Int))) :=
 cnd (decide (i69 < (used.length : Int))) ((idx used i69).bind fun x71 =>
 cnd (decide (x71 < 0)) (some (.inr (.inl 1))) (cnd (decide ((gens.length : Int) ≤ x71)) (some (.inr (.inl 1))) ((idx gens x71).bind fun x84 =>
 cnd (x84 == 1073741824) (some (.inr (.inl 1))) (cnd (decide (0 < i69)) ((idx used (IntKind.i64.wrap (i69 - 1))).bind fun x103 =>
 cnd (decide (x71 ≤ x103)) (some (.inr (.inl 9))) (slots_Of_j7 l66 x71 i69)) (slots_Of_j7 l66 x71 i69))))) (some (.inr (.inr l66)))
noncomputable def slots_Of_j1 (used : List Int) (gens : List Int) (l2 : List Int) : Option (Int ⊕ (List Int) × (List Int) × (List Int)) :=
 (loop (σ := (List Int) × Int) (ρ := (Int ⊕ (List Int))) (fun s_ => slots_Of_l6 used gens s_.1 s_.2) (([] : List Int), 0)).bind (Sum.elim (fun e_ => some (.inl e_)) (fun e_ => slots_Of_j2 gens l2 e_))
noncomputable def slots_Of_l8 (gens : List Int) (i127 : Int) : Option (Int ⊕ (Int ⊕ Unit)) :=
 cnd (decide (i127 < (gens.length : Int))) ((idx gens i127).bind fun x129 =>
 cnd (decide (x129 < 0)) (some (.inr (.inl 1))) (cnd (decide (1073741824 < x129)) (some (.inr (.inl 1))) (some (.inl (IntKind.i64.wrap (i127 + 1)))))) (some (.inr (.inr ())))
noncomputable def slots_Of (gens : List Int) (used : List Int) : Option (Int ⊕ (List Int) × (List Int) × (List Int)) :=
 cnd (decide (256 < (gens.length : Int))) (some (.inl 2)) ((app 8 ([] : List Int) gens).bind fun l2 =>
 (loop (σ := Int) (ρ := (Int ⊕ Unit)) (fun s_ => slots_Of_l8 gens s_) 0).bind (Sum.elim (fun e_ => some (.inl e_)) (fun e_ => slots_Of_j1 used gens l2)))
noncomputable def slices_Clone_int_int (s : List Int) : Option ((List Int)) :=
 (app 8 ([] : List Int) s).bind fun l5 =>
 some l5
noncomputable def tourref1_RoomOf_j3 (l5 : List Int) (l13 : List Bool) : Option (Int ⊕ (List Int) × (List Bool)) :=
 some (.inr (l5, l13))
noncomputable def tourref1_RoomOf_l4 (used : List Int) (gens : List Int) (l16 : List Bool) (i19 : Int) (i20 : Int) : Option (((List Bool) × Int × Int) ⊕ (Int ⊕ (List Bool))) :=
 cnd (decide (i20 < (used.length : Int))) ((idx used i20).bind fun x22 =>
 cnd (decide (x22 < 0)) (some (.inr (.inl 1))) (cnd (decide ((gens.length : Int) ≤ x22)) (some (.inr (.inl 1))) ((idx gens x22).bind fun x35 =>
 cnd (x35 == 1073741824) (some (.inr (.inl 1))) (cnd (decide (x22 ≤ i19)) (some (.inr (.inl 9))) ((idx l16 x22).bind fun x48 =>
 (upd l16 x22 true).bind fun l58 =>
 some (.inl (l58, x22, IntKind.i64.wrap (i20 + 1)))))))) (some (.inr (.inr l16)))
noncomputable def tourref1_RoomOf_j2 (used : List Int) (gens : List Int) (l5 : List Int) (l10 : List Bool) : Option (Int ⊕ (List Int) × (List Bool)) :=
 (loop (σ := (List Bool) × Int × Int) (ρ := (Int ⊕ (List Bool))) (fun s_ => tourref1_RoomOf_l4 used gens s_.1 s_.2.1 s_.2.2) (l10, (-1), 0)).bind (Sum.elim (fun e_ => some (.inl e_)) (fun e_ => tourref1_RoomOf_j3 l5 e_))
noncomputable def tourref1_RoomOf_j1 (gens : List Int) (used : List Int) : Option (Int ⊕ (List Int) × (List Bool)) :=
 (slices_Clone_int_int gens).bind fun x69 =>
 (mk 1 (gens.length : Int) (false : Bool)).bind fun l75 =>
 tourref1_RoomOf_j2 used gens x69 l75
noncomputable def tourref1_RoomOf_l5 (gens : List Int) (i105 : Int) : Option (Int ⊕ (Int ⊕ Unit)) :=
 cnd (decide (i105 < (gens.length : Int))) ((idx gens i105).bind fun x107 =>
 cnd (decide (x107 < 0)) (some (.inr (.inl 1))) (cnd (decide (1073741824 < x107)) (some (.inr (.inl 1))) (some (.inl (IntKind.i64.wrap (i105 + 1)))))) (some (.inr (.inr ())))
noncomputable def tourref1_RoomOf (gens : List Int) (used : List Int) : Option (Int ⊕ (List Int) × (List Bool)) :=
 cnd (decide (256 < (gens.length : Int))) (some (.inl 2)) ((loop (σ := Int) (ρ := (Int ⊕ Unit)) (fun s_ => tourref1_RoomOf_l5 gens s_) 0).bind (Sum.elim (fun e_ => some (.inl e_)) (fun e_ => tourref1_RoomOf_j1 gens used)))
noncomputable def slots_Slots_Alive_j1 (t2 : Bool) : Option Bool :=
 some t2
noncomputable def slots_Slots_Alive (s_0 : List Int) (s_1 : List Int) (s_2 : List Int) (e_0 : Int) (e_1 : Int) : Option Bool :=
 (sets_Set_Has s_1 e_0).bind fun x3 =>
 cnd x3 ((idx s_0 e_0).bind fun x6 =>
 slots_Slots_Alive_j1 (x6 == e_1)) (slots_Slots_Alive_j1 false)
noncomputable def tourref1_Room_Alive (e_0 : Int) (e_1 : Int) : Option Unit :=
 cnd (decide (0 ≤ e_0)) (none) (some ())
noncomputable def slots_Slots_Free_j1 (l30 : List Int) (x41 : List Int) (l49 : List Int) : Option (Int × (List Int) × (List Int) × (List Int)) :=
 some (0, l30, x41, l49)
noncomputable def slots_Slots_Free (s_0 : List Int) (s_1 : List Int) (s_2 : List Int) (e_0 : Int) (e_1 : Int) : Option (Int × (List Int) × (List Int) × (List Int)) :=
 (slots_Slots_Alive s_0 s_1 s_2 e_0 e_1).bind fun x2 =>
 cnd (!x2) (some (4, s_0, s_1, s_2)) ((idx s_0 e_0).bind fun x11 =>
 (idx s_0 e_0).bind fun x21 =>
 (upd s_0 e_0 (IntKind.i64.wrap (x11 + 1))).bind fun l30 =>
 (sets_Set_Without s_1 e_0).bind fun x41 =>
 (idx l30 e_0).bind fun x52 =>
 cnd (decide (x52 < 1073741824)) ((sets_Set_With s_2 e_0).bind fun x62 =>
 slots_Slots_Free_j1 l30 x41 x62) (slots_Slots_Free_j1 l30 x41 s_2))
noncomputable def tourref1_Room_Free (e_0 : Int) (e_1 : Int) : Option Unit :=
 (tourref1_Room_Alive e_0 e_1).bind fun _ =>
 some ()
noncomputable def slots_Slots_List_j1 (l5 : List api_Ent) : Option ((List api_Ent)) :=
 some l5
noncomputable def slots_Slots_List_j3 (i23 : Int) (l32 : List api_Ent) : Option ((Int × (List api_Ent)) ⊕ (List api_Ent)) :=
 some (.inl (IntKind.i64.wrap (i23 + 1), l32))
noncomputable def slots_Slots_List_j5 (i45 : Int) (i46 : Int) (l55 : List api_Ent) : Option ((Int × Int × (List api_Ent)) ⊕ (List api_Ent)) :=
 some (.inl (Int.fdiv i45 2, IntKind.i64.wrap (i46 + 1), l55))
noncomputable def slots_Slots_List_l4 (s_0 : List Int) (i23 : Int) (i45 : Int) (i46 : Int) (l49 : List api_Ent) : Option ((Int × Int × (List api_Ent)) ⊕ (List api_Ent)) :=
 cnd (!(i45 == 0)) (cnd (Go.bits .and .u64 i45 1 == 1) ((idx s_0 (IntKind.i64.wrap (IntKind.i64.wrap (64 * i23) + i46))).bind fun x60 =>
 (app 16 l49 ([(api_Ent.mk (IntKind.i64.wrap (IntKind.i64.wrap (64 * i23) + i46)) x60)] : List api_Ent)).bind fun l72 =>
 slots_Slots_List_j5 i45 i46 l72) (slots_Slots_List_j5 i45 i46 l49)) (some (.inr l49))
noncomputable def slots_Slots_List_l2 (x9 : List Int) (s_0 : List Int) (i23 : Int) (l26 : List api_Ent) : Option ((Int × (List api_Ent)) ⊕ (List api_Ent)) :=
 cnd (decide (i23 < (x9.length : Int))) ((idx x9 i23).bind fun x35 =>
 (loop (σ := Int × Int × (List api_Ent)) (ρ := (List api_Ent)) (fun s_ => slots_Slots_List_l4 s_0 i23 s_.1 s_.2.1 s_.2.2) (x35, 0, l26)).bind (fun e_ => slots_Slots_List_j3 i23 e_)) (some (.inr l26))
noncomputable def slots_Slots_List (s_0 : List Int) (s_1 : List Int) (s_2 : List Int) : Option ((List api_Ent)) :=
 (sets_Set_All s_1).bind fun x9 =>
 (loop (σ := Int × (List api_Ent)) (ρ := (List api_Ent)) (fun s_ => slots_Slots_List_l2 x9 s_0 s_.1 s_.2) (0, ([] : List api_Ent))).bind (fun e_ => slots_Slots_List_j1 e_)
noncomputable def tourref1_Room_Take_j2 (l5 : List Int) (l10 : List Bool) (i13 : Int) : Option (Int × Int × Int × (List Int) × (List Bool)) :=
 (idx l10 i13).bind fun x14 =>
 (upd l10 i13 true).bind fun l24 =>
 (idx l5 i13).bind fun x35 =>
 some (i13, x35, 0, l5, l24)
noncomputable def tourref1_Room_Take_j1 (r_1 : List Bool) (r_0 : List Int) (i2 : Int) : Option (Int × Int × Int × (List Int) × (List Bool)) :=
 cnd (decide (i2 < 0)) (cnd ((r_1.length : Int) == 256) (some (0, 0, 6, r_0, r_1)) ((app 1 r_1 ([false] : List Bool)).bind fun l49 =>
 (app 8 r_0 ([0] : List Int)).bind fun l60 =>
 tourref1_Room_Take_j2 l60 l49 (r_1.length : Int))) (tourref1_Room_Take_j2 r_0 r_1 i2)
noncomputable def tourref1_Room_Take_j4 (i693 : Int) (i695 : Int) : Option ((Int × Int) ⊕ Int) :=
 some (.inl (i695, IntKind.i64.wrap (i693 - 1)))
noncomputable def tourref1_Room_Take_l3 (r_1 : List Bool) (r_0 : List Int) (i692 : Int) (i693 : Int) : Option ((Int × Int) ⊕ Int) :=
 cnd (decide (0 ≤ i693)) ((idx r_1 i693).bind fun x696 =>
 cnd (!x696) ((idx r_0 i693).bind fun x707 =>
 cnd (decide (x707 < 1073741824)) (tourref1_Room_Take_j4 i693 i693) (tourref1_Room_Take_j4 i693 i692)) (tourref1_Room_Take_j4 i693 i692)) (some (.inr i692))
noncomputable def tourref1_Room_Take (r_0 : List Int) (r_1 : List Bool) : Option (Int × Int × Int × (List Int) × (List Bool)) :=
 (loop (σ := Int × Int) (ρ := Int) (fun s_ => tourref1_Room_Take_l3 r_1 r_0 s_.1 s_.2) ((-1), IntKind.i64.wrap ((r_1.length : Int) - 1))).bind (fun e_ => tourref1_Room_Take_j1 r_1 r_0 e_)
noncomputable def tourref1_Room_Alive_v2_j1 (t2 : Bool) : Option Bool :=
 some t2
noncomputable def tourref1_Room_Alive_v2 (r_0 : List Int) (r_1 : List Bool) (e_0 : Int) (e_1 : Int) : Option Bool :=
 cnd (decide (0 ≤ e_0)) (cnd (decide (e_0 < (r_1.length : Int))) ((idx r_1 e_0).bind fun x5 =>
 cnd x5 ((idx r_0 e_0).bind fun x16 =>
 tourref1_Room_Alive_v2_j1 (x16 == e_1)) (tourref1_Room_Alive_v2_j1 false)) (tourref1_Room_Alive_v2_j1 false)) (tourref1_Room_Alive_v2_j1 false)
noncomputable def tourref1_Room_Free_v2 (r_0 : List Int) (r_1 : List Bool) (e_0 : Int) (e_1 : Int) : Option (Int × (List Int) × (List Bool)) :=
 (tourref1_Room_Alive_v2 r_0 r_1 e_0 e_1).bind fun x2 =>
 cnd (!x2) (some (4, r_0, r_1)) ((idx r_1 e_0).bind fun x9 =>
 (upd r_1 e_0 false).bind fun l19 =>
 (idx r_0 e_0).bind fun x30 =>
 (idx r_0 e_0).bind fun x40 =>
 (upd r_0 e_0 (IntKind.i64.wrap (x30 + 1))).bind fun l49 =>
 some (0, l49, l19))
noncomputable def tourref1_Room_List_j1 (l3 : List api_Ent) : Option ((List api_Ent)) :=
 some l3
noncomputable def tourref1_Room_List_j3 (i11 : Int) (l15 : List api_Ent) : Option (((List api_Ent) × Int) ⊕ (List api_Ent)) :=
 some (.inl (l15, IntKind.i64.wrap (i11 + 1)))
noncomputable def tourref1_Room_List_l2 (r_1 : List Bool) (r_0 : List Int) (l8 : List api_Ent) (i11 : Int) : Option (((List api_Ent) × Int) ⊕ (List api_Ent)) :=
 cnd (decide (i11 < (r_1.length : Int))) ((idx r_1 i11).bind fun x18 =>
 cnd x18 ((idx r_0 i11).bind fun x29 =>
 (app 16 l8 ([(api_Ent.mk i11 x29)] : List api_Ent)).bind fun l41 =>
 tourref1_Room_List_j3 i11 l41) (tourref1_Room_List_j3 i11 l8)) (some (.inr l8))
noncomputable def tourref1_Room_List (r_0 : List Int) (r_1 : List Bool) : Option ((List api_Ent)) :=
 (loop (σ := (List api_Ent) × Int) (ρ := (List api_Ent)) (fun s_ => tourref1_Room_List_l2 r_1 r_0 s_.1 s_.2) (([] : List api_Ent), 0)).bind (fun e_ => tourref1_Room_List_j1 e_)
noncomputable def slices_Equal_api_Ent_api_Ent_j1 : Option Bool :=
 some true
noncomputable def slices_Equal_api_Ent_api_Ent_l2 (s1_1 : List api_Ent) (s2_1 : List api_Ent) (i2 : Int) : Option (Int ⊕ (Bool ⊕ Unit)) :=
 cnd (decide (i2 < (s1_1.length : Int))) ((idx s1_1 i2).bind fun x4 =>
 (idx s2_1 i2).bind fun x15 =>
 cnd (!(x4.N == x15.N && (x4.Gen == x15.Gen))) (some (.inr (.inl false))) (some (.inl (IntKind.i64.wrap (i2 + 1))))) (some (.inr (.inr ())))
noncomputable def slices_Equal_api_Ent_api_Ent (s1_1 : List api_Ent) (s2_1 : List api_Ent) : Option Bool :=
 cnd (!((s1_1.length : Int) == (s2_1.length : Int))) (some false) ((loop (σ := Int) (ρ := (Bool ⊕ Unit)) (fun s_ => slices_Equal_api_Ent_api_Ent_l2 s1_1 s2_1 s_) 0).bind (Sum.elim (fun e_ => some e_) (fun e_ => slices_Equal_api_Ent_api_Ent_j1)))
noncomputable def slots_Slots_Gens (s_0 : List Int) (s_1 : List Int) (s_2 : List Int) : Option ((List Int)) :=
 (app 8 ([] : List Int) s_0).bind fun l1 =>
 some l1
noncomputable def slices_Equal_int_int_j1 : Option Bool :=
 some true
noncomputable def slices_Equal_int_int_l2 (s1_1 : List Int) (s2_1 : List Int) (i2 : Int) : Option (Int ⊕ (Bool ⊕ Unit)) :=
 cnd (decide (i2 < (s1_1.length : Int))) ((idx s1_1 i2).bind fun x4 =>
 (idx s2_1 i2).bind fun x15 =>
 cnd (!(x4 == x15)) (some (.inr (.inl false))) (some (.inl (IntKind.i64.wrap (i2 + 1))))) (some (.inr (.inr ())))
noncomputable def slices_Equal_int_int (s1_1 : List Int) (s2_1 : List Int) : Option Bool :=
 cnd (!((s1_1.length : Int) == (s2_1.length : Int))) (some false) ((loop (σ := Int) (ρ := (Bool ⊕ Unit)) (fun s_ => slices_Equal_int_int_l2 s1_1 s2_1 s_) 0).bind (Sum.elim (fun e_ => some e_) (fun e_ => slices_Equal_int_int_j1)))
noncomputable def tourlaw1_SlotsPlays_j1 : Option Bool :=
 some true
noncomputable def tourlaw1_SlotsPlays_l2 (l : List api_Ent) : Option (Unit ⊕ Unit) :=
 cnd (decide (0 < (l.length : Int))) ((idx l 0).bind fun x19 =>
 cnd (x19.N == (-1)) (none) (none)) (some (.inr ()))
noncomputable def tourlaw1_SlotsPlays_j3 : Option Bool :=
 some true
noncomputable def tourlaw1_SlotsPlays_l4 (l : List api_Ent) : Option (Unit ⊕ Unit) :=
 cnd (decide (0 < (l.length : Int))) ((idx l 0).bind fun x44 =>
 cnd (x44.N == (-1)) (none) (none)) (some (.inr ()))
noncomputable def tourlaw1_SlotsPlays_j5 : Option Bool :=
 some true
noncomputable def tourlaw1_SlotsPlays_l6 (l : List api_Ent) (x7 : List Int) (x8 : List Int) (x9 : List Int) : Option (Unit ⊕ (Bool ⊕ Unit)) :=
 cnd (decide (0 < (l.length : Int))) ((idx l 0).bind fun x78 =>
 cnd (x78.N == (-1)) (bnd6 (slots_Slots_Take x7 x8 x9) fun x91 x92 x93 x94 x95 x96 =>
 none) ((slots_Slots_Alive x7 x8 x9 x78.N x78.Gen).bind fun x111 =>
 (tourref1_Room_Alive x78.N x78.Gen).bind fun _ =>
 cnd (!(x111 == false)) (some (.inr (.inl false))) (bnd4 (slots_Slots_Free x7 x8 x9 x78.N x78.Gen) fun x121 x122 x123 x124 =>
 (tourref1_Room_Free x78.N x78.Gen).bind fun _ =>
 cnd (!(x121 == 4)) (some (.inr (.inl false))) ((slots_Slots_List x122 x123 x124).bind fun x138 =>
 none)))) (some (.inr (.inr ())))
noncomputable def tourlaw1_SlotsPlays_j7 : Option Bool :=
 some true
noncomputable def tourlaw1_SlotsPlays_j10 (l201 : List Int) (l206 : List Int) (l211 : List Int) (l216 : List Int) (l221 : List Bool) (i185 : Int) (t234 : Bool) : Option (((List Int) × (List Int) × (List Int) × (List Int) × (List Bool) × Int) ⊕ (Bool ⊕ Unit)) :=
 cnd t234 (some (.inr (.inl false))) (some (.inl (l201, l206, l211, l216, l221, IntKind.i64.wrap (i185 + 1))))
noncomputable def tourlaw1_SlotsPlays_j9 (i185 : Int) (l201 : List Int) (l206 : List Int) (l211 : List Int) (l216 : List Int) (l221 : List Bool) : Option (((List Int) × (List Int) × (List Int) × (List Int) × (List Bool) × Int) ⊕ (Bool ⊕ Unit)) :=
 (slots_Slots_List l201 l206 l211).bind fun x236 =>
 (tourref1_Room_List l216 l221).bind fun x248 =>
 (slices_Equal_api_Ent_api_Ent x236 x248).bind fun x258 =>
 cnd (!x258) (tourlaw1_SlotsPlays_j10 l201 l206 l211 l216 l221 i185 true) ((slots_Slots_Gens l201 l206 l211).bind fun x297 =>
 (slices_Equal_int_int x297 l216).bind fun x309 =>
 tourlaw1_SlotsPlays_j10 l201 l206 l211 l216 l221 i185 (!x309))
noncomputable def tourlaw1_SlotsPlays_l8 (l : List api_Ent) (l162 : List Int) (l167 : List Int) (l172 : List Int) (l177 : List Int) (l182 : List Bool) (i185 : Int) : Option (((List Int) × (List Int) × (List Int) × (List Int) × (List Bool) × Int) ⊕ (Bool ⊕ Unit)) :=
 cnd (decide (i185 < (l.length : Int))) ((idx l i185).bind fun x187 =>
 cnd (x187.N == (-1)) (bnd6 (slots_Slots_Take l162 l167 l172) fun x350 x351 x352 x353 x354 x355 =>
 bnd5 (tourref1_Room_Take l177 l182) fun x370 x371 x372 x373 x374 =>
 cnd (!(x350 == x370 && (x351 == x371))) (some (.inr (.inl false))) (cnd (!(x352 == x372)) (some (.inr (.inl false))) (tourlaw1_SlotsPlays_j9 i185 x353 x354 x355 x373 x374))) ((slots_Slots_Alive l162 l167 l172 x187.N x187.Gen).bind fun x387 =>
 (tourref1_Room_Alive_v2 l177 l182 x187.N x187.Gen).bind fun x395 =>
 cnd (!(x387 == x395)) (some (.inr (.inl false))) (bnd4 (slots_Slots_Free l162 l167 l172 x187.N x187.Gen) fun x402 x403 x404 x405 =>
 bnd3 (tourref1_Room_Free_v2 l177 l182 x187.N x187.Gen) fun x417 x418 x419 =>
 cnd (!(x402 == x417)) (some (.inr (.inl false))) (tourlaw1_SlotsPlays_j9 i185 x403 x404 x405 x418 x419)))) (some (.inr (.inr ())))
noncomputable def tourlaw1_SlotsPlays (gens : List Int) (used : List Int) (l : List api_Ent) : Option Bool :=
 (tourlaw1_slotsBegun).bind fun x1 =>
 cnd (!x1) (some false) ((slots_Of gens used).bind (Sum.elim (fun x6 =>
 (tourref1_RoomOf gens used).bind (Sum.elim (fun x12 =>
 cnd (!(x6 == x12)) (some false) (cnd (!(true == !(x6 == 0))) (some false) (cnd (!(x6 == 0)) (some true) ((loop (σ := Unit) (ρ := Unit) (fun s_ => tourlaw1_SlotsPlays_l2 l) ()).bind (fun e_ => tourlaw1_SlotsPlays_j1))))) (un2 fun x13 x14 =>
 cnd (!(x6 == 0)) (some false) (cnd (!(true == !(x6 == 0))) (some false) ((loop (σ := Unit) (ρ := Unit) (fun s_ => tourlaw1_SlotsPlays_l4 l) ()).bind (fun e_ => tourlaw1_SlotsPlays_j3)))))) (un3 fun x7 x8 x9 =>
 (tourref1_RoomOf gens used).bind (Sum.elim (fun x72 =>
 cnd (!(0 == x72)) (some false) (cnd (!(false == false)) (some false) ((loop (σ := Unit) (ρ := (Bool ⊕ Unit)) (fun s_ => tourlaw1_SlotsPlays_l6 l x7 x8 x9) ()).bind (Sum.elim (fun e_ => some e_) (fun e_ => tourlaw1_SlotsPlays_j5))))) (un2 fun x73 x74 =>
 cnd (!(false == false)) (some false) ((loop (σ := (List Int) × (List Int) × (List Int) × (List Int) × (List Bool) × Int) (ρ := (Bool ⊕ Unit)) (fun s_ => tourlaw1_SlotsPlays_l8 l s_.1 s_.2.1 s_.2.2.1 s_.2.2.2.1 s_.2.2.2.2.1 s_.2.2.2.2.2) (x7, x8, x9, x73, x74, 0)).bind (Sum.elim (fun e_ => some e_) (fun e_ => tourlaw1_SlotsPlays_j7))))))))
end Go.Proofs.Ythcniadbdjoecaa.R
