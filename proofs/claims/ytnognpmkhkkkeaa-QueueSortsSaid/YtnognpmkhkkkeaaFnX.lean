/- The Go functions as plain functions over Option. No condition. -/
import Derived.Test.YtnognpmkhkkkeaaTyX
namespace Go.Proofs.Ytnognpmkhkkkeaa.X
open Go Go.RowKit Go.Proofs.Ytnognpmkhkkkeaa.Sx
set_option linter.unusedVariables false
noncomputable def queue_Queue_int_before_j1 (i2 : Int) (i3 : Int) (i4 : Int) (i6 : Int) (i7 : Int) (i8 : Int) : Option Bool :=
 cnd (!(i3 == i7)) (some (decide (i3 < i7))) (some (decide (i4 < i8)))
noncomputable def queue_Queue_int_before (q_0 : List queue_item_int) (q_1 : Int) (i : Int) (k : Int) : Option Bool :=
 (idx q_0 i).bind fun x10 =>
 (idx q_0 k).bind fun x20 =>
 queue_Queue_int_before_j1 x10.v x10.rank x10.came x20.v x20.rank x20.came
noncomputable def queue_Queue_int_Put_j2 (l7 : List queue_item_int) (i10 : Int) : Option (Int × (List queue_item_int) × Int) :=
 some (0, l7, i10)
noncomputable def queue_Queue_int_Put_j4 (i14 : Int) (i15 : Int) (l22 : List queue_item_int) : Option (((List queue_item_int) × Int × Int) ⊕ (List queue_item_int) × Int) :=
 some (.inl (l22, i14, IntKind.i64.wrap (Int.tdiv (IntKind.i64.wrap (i15 - 1)) 2)))
noncomputable def queue_Queue_int_Put_l3 (l11 : List queue_item_int) (i14 : Int) (i15 : Int) : Option (((List queue_item_int) × Int × Int) ⊕ (List queue_item_int) × Int) :=
 cnd (decide (0 < i15)) ((queue_Queue_int_before l11 i14 i15 (IntKind.i64.wrap (Int.tdiv (IntKind.i64.wrap (i15 - 1)) 2))).bind fun x17 =>
 cnd x17 ((idx l11 (IntKind.i64.wrap (Int.tdiv (IntKind.i64.wrap (i15 - 1)) 2))).bind fun x25 =>
 (idx l11 i15).bind fun x35 =>
 (idx l11 i15).bind fun x44 =>
 (upd l11 i15 x25).bind fun l53 =>
 (idx l53 (IntKind.i64.wrap (Int.tdiv (IntKind.i64.wrap (i15 - 1)) 2))).bind fun x64 =>
 (upd l53 (IntKind.i64.wrap (Int.tdiv (IntKind.i64.wrap (i15 - 1)) 2)) x35).bind fun l73 =>
 queue_Queue_int_Put_j4 i14 i15 l73) (some (.inr (l11, i14)))) (some (.inr (l11, i14)))
noncomputable def queue_Queue_int_Put_j1 (q_1 : Int) (l4 : List queue_item_int) : Option (Int × (List queue_item_int) × Int) :=
 (loop (σ := (List queue_item_int) × Int × Int) (ρ := (List queue_item_int) × Int) (fun s_ => queue_Queue_int_Put_l3 s_.1 s_.2.1 s_.2.2) (l4, IntKind.i64.wrap (q_1 + 1), IntKind.i64.wrap ((l4.length : Int) - 1))).bind (fun e_ => queue_Queue_int_Put_j2 e_.1 e_.2)
noncomputable def queue_Queue_int_Put (q_0 : List queue_item_int) (q_1 : Int) (v : Int) (rank : Int) : Option (Int × (List queue_item_int) × Int) :=
 cnd (decide (4096 ≤ (q_0.length : Int))) (some (6, q_0, q_1)) ((app 24 q_0 ([(queue_item_int.mk v rank q_1)] : List queue_item_int)).bind fun l156 =>
 queue_Queue_int_Put_j1 q_1 l156)
noncomputable def queue_Queue_int_Len (q_0 : List queue_item_int) (q_1 : Int) : Option Int :=
 some (q_0.length : Int)
noncomputable def queue_Queue_int_Take_j1 (x2 : queue_item_int) (l76 : List queue_item_int) : Option (Int × Int × Int × (List queue_item_int)) :=
 some (x2.v, x2.rank, 0, l76)
noncomputable def queue_Queue_int_Take_j4 (i85 : Int) (l92 : List queue_item_int) : Option (((List queue_item_int) × Int) ⊕ (List queue_item_int)) :=
 some (.inl (l92, i85))
noncomputable def queue_Queue_int_Take_j3 (q_0 : List queue_item_int) (l79 : List queue_item_int) (q_1 : Int) (i82 : Int) (i85 : Int) : Option (((List queue_item_int) × Int) ⊕ (List queue_item_int)) :=
 cnd (decide (IntKind.i64.wrap ((q_0.length : Int) - 1) ≤ i85)) (some (.inr l79)) ((queue_Queue_int_before l79 q_1 i82 i85).bind fun x87 =>
 cnd x87 (some (.inr l79)) ((idx l79 i85).bind fun x95 =>
 (idx l79 i82).bind fun x104 =>
 (idx l79 i82).bind fun x113 =>
 (upd l79 i82 x95).bind fun l122 =>
 (idx l122 i85).bind fun x133 =>
 (upd l122 i85 x104).bind fun l142 =>
 queue_Queue_int_Take_j4 i85 l142))
noncomputable def queue_Queue_int_Take_l2 (q_0 : List queue_item_int) (q_1 : Int) (l79 : List queue_item_int) (i82 : Int) : Option (((List queue_item_int) × Int) ⊕ (List queue_item_int)) :=
 cnd (decide (IntKind.i64.wrap (IntKind.i64.wrap (IntKind.i64.wrap (2 * i82) + 1) + 1) < IntKind.i64.wrap ((q_0.length : Int) - 1))) ((some (IntKind.i64.wrap (IntKind.i64.wrap (IntKind.i64.wrap (2 * i82) + 1) + 1))).bind fun x223 =>
 (queue_Queue_int_before l79 q_1 x223 (IntKind.i64.wrap (IntKind.i64.wrap (2 * i82) + 1))).bind fun x225 =>
 cnd x225 ((some (IntKind.i64.wrap (IntKind.i64.wrap (IntKind.i64.wrap (2 * i82) + 1) + 1))).bind fun x230 =>
 queue_Queue_int_Take_j3 q_0 l79 q_1 i82 x230) (queue_Queue_int_Take_j3 q_0 l79 q_1 i82 (IntKind.i64.wrap (IntKind.i64.wrap (2 * i82) + 1)))) (queue_Queue_int_Take_j3 q_0 l79 q_1 i82 (IntKind.i64.wrap (IntKind.i64.wrap (2 * i82) + 1)))
noncomputable def queue_Queue_int_Take (q_0 : List queue_item_int) (q_1 : Int) : Option (Int × Int × Int × (List queue_item_int)) :=
 cnd (decide (IntKind.i64.wrap ((q_0.length : Int) - 1) < 0)) (some (0, 0, 4, q_0)) ((idx q_0 0).bind fun x2 =>
 (idx q_0 (IntKind.i64.wrap ((q_0.length : Int) - 1))).bind fun x13 =>
 (idx q_0 0).bind fun x22 =>
 (upd q_0 0 x13).bind fun l31 =>
 (idx l31 (IntKind.i64.wrap ((q_0.length : Int) - 1))).bind fun x42 =>
 (upd l31 (IntKind.i64.wrap ((q_0.length : Int) - 1)) (queue_item_int.mk 0 0 0)).bind fun l51 =>
 (cut l51 0 (IntKind.i64.wrap ((q_0.length : Int) - 1))).bind fun l62 =>
 (loop (σ := (List queue_item_int) × Int) (ρ := (List queue_item_int)) (fun s_ => queue_Queue_int_Take_l2 q_0 q_1 s_.1 s_.2) (l62, 0)).bind (fun e_ => queue_Queue_int_Take_j1 x2 e_))
noncomputable def queue_Sort_j2 (l11 : List Int) : Option ((List Int) × Int) :=
 some (l11, 0)
noncomputable def queue_Sort_l3 (i8 : Int) (l14 : List queue_item_int) (l19 : List Int) : Option (((List queue_item_int) × (List Int)) ⊕ (List Int)) :=
 (queue_Queue_int_Len l14 i8).bind fun x22 =>
 cnd (decide (0 < x22)) (bnd4 (queue_Queue_int_Take l14 i8) fun x27 x28 x29 x30 =>
 (app 8 l19 ([x27] : List Int)).bind fun l36 =>
 some (.inl (x30, l36))) (some (.inr l19))
noncomputable def queue_Sort_j1 (l5 : List queue_item_int) (i8 : Int) : Option ((List Int) × Int) :=
 (loop (σ := (List queue_item_int) × (List Int)) (ρ := (List Int)) (fun s_ => queue_Sort_l3 i8 s_.1 s_.2) (l5, ([] : List Int))).bind (fun e_ => queue_Sort_j2 e_)
noncomputable def queue_Sort_l4 (ranks : List Int) (l51 : List queue_item_int) (i54 : Int) (i55 : Int) : Option (((List queue_item_int) × Int × Int) ⊕ (List queue_item_int) × Int) :=
 cnd (decide (i55 < (ranks.length : Int))) ((idx ranks i55).bind fun x57 =>
 bnd3 (queue_Queue_int_Put l51 i54 i55 x57) fun x68 x69 x70 =>
 some (.inl (x69, x70, IntKind.i64.wrap (i55 + 1)))) (some (.inr (l51, i54)))
noncomputable def queue_Sort (ranks : List Int) : Option ((List Int) × Int) :=
 cnd (decide (4096 < (ranks.length : Int))) (some (([] : List Int), 2)) ((loop (σ := (List queue_item_int) × Int × Int) (ρ := (List queue_item_int) × Int) (fun s_ => queue_Sort_l4 ranks s_.1 s_.2.1 s_.2.2) (([] : List queue_item_int), 0, 0)).bind (fun e_ => queue_Sort_j1 e_.1 e_.2))
noncomputable def slices_Equal_int_int_j1 : Option Bool :=
 some true
noncomputable def slices_Equal_int_int_l2 (s1_1 : List Int) (s2_1 : List Int) (i2 : Int) : Option (Int ⊕ (Bool ⊕ Unit)) :=
 cnd (decide (i2 < (s1_1.length : Int))) ((idx s1_1 i2).bind fun x4 =>
 (idx s2_1 i2).bind fun x15 =>
 cnd (!(x4 == x15)) (some (.inr (.inl false))) (some (.inl (IntKind.i64.wrap (i2 + 1))))) (some (.inr (.inr ())))
noncomputable def slices_Equal_int_int (s1_1 : List Int) (s2_1 : List Int) : Option Bool :=
 cnd (!((s1_1.length : Int) == (s2_1.length : Int))) (some false) ((loop (σ := Int) (ρ := (Bool ⊕ Unit)) (fun s_ => slices_Equal_int_int_l2 s1_1 s2_1 s_) 0).bind (Sum.elim (fun e_ => some e_) (fun e_ => slices_Equal_int_int_j1)))
noncomputable def tourlaw1_QueueSorts_1 (a : Int) (b : Int) (p2_0 : List Int) : Option Int :=
 (idx p2_0 a).bind fun x1 =>
 (idx p2_0 b).bind fun x12 =>
 cnd (decide (x1 < x12)) (some (-1)) ((idx p2_0 a).bind fun x24 =>
 (idx p2_0 b).bind fun x35 =>
 cnd (decide (x35 < x24)) (some 1) (some 0))
noncomputable def slices_insertionSortCmpFunc_int_j2 (i6 : Int) (l8 : List Int) : Option (((List Int) × Int) ⊕ (List Int)) :=
 some (.inl (l8, IntKind.i64.wrap (i6 + 1)))
noncomputable def slices_insertionSortCmpFunc_int_j4 (i18 : Int) (l43 : List Int) : Option (((List Int) × Int) ⊕ (List Int)) :=
 some (.inl (l43, IntKind.i64.wrap (i18 - 1)))
noncomputable def slices_insertionSortCmpFunc_int_l3 (a : Int) (cmp_c0_0 : List Int) (l13 : List Int) (i18 : Int) : Option (((List Int) × Int) ⊕ (List Int)) :=
 cnd (decide (a < i18)) ((idx l13 i18).bind fun x20 =>
 (idx l13 (IntKind.i64.wrap (i18 - 1))).bind fun x30 =>
 (tourlaw1_QueueSorts_1 x20 x30 cmp_c0_0).bind fun x39 =>
 cnd (decide (x39 < 0)) ((idx l13 (IntKind.i64.wrap (i18 - 1))).bind fun x47 =>
 (idx l13 i18).bind fun x56 =>
 (idx l13 i18).bind fun x65 =>
 (upd l13 i18 x47).bind fun l74 =>
 (idx l74 (IntKind.i64.wrap (i18 - 1))).bind fun x85 =>
 (upd l74 (IntKind.i64.wrap (i18 - 1)) x56).bind fun l94 =>
 slices_insertionSortCmpFunc_int_j4 i18 l94) (some (.inr l13))) (some (.inr l13))
noncomputable def slices_insertionSortCmpFunc_int_l1 (b : Int) (a : Int) (cmp_c0_0 : List Int) (l1 : List Int) (i6 : Int) : Option (((List Int) × Int) ⊕ (List Int)) :=
 cnd (decide (i6 < b)) ((loop (σ := (List Int) × Int) (ρ := (List Int)) (fun s_ => slices_insertionSortCmpFunc_int_l3 a cmp_c0_0 s_.1 s_.2) (l1, i6)).bind (fun e_ => slices_insertionSortCmpFunc_int_j2 i6 e_)) (some (.inr l1))
noncomputable def slices_insertionSortCmpFunc_int (data : List Int) (a : Int) (b : Int) (cmp_c0_0 : List Int) : Option ((List Int)) :=
 (loop (σ := (List Int) × Int) (ρ := (List Int)) (fun s_ => slices_insertionSortCmpFunc_int_l1 b a cmp_c0_0 s_.1 s_.2) (data, IntKind.i64.wrap (a + 1))).bind (fun e_ => some e_)
noncomputable def slices_swapRangeCmpFunc_int_j2 (i5 : Int) (l7 : List Int) : Option (((List Int) × Int) ⊕ (List Int)) :=
 some (.inl (l7, IntKind.i64.wrap (i5 + 1)))
noncomputable def slices_swapRangeCmpFunc_int_l1 (n : Int) (b : Int) (a : Int) (l1 : List Int) (i5 : Int) : Option (((List Int) × Int) ⊕ (List Int)) :=
 cnd (decide (i5 < n)) ((idx l1 (IntKind.i64.wrap (b + i5))).bind fun x11 =>
 (idx l1 (IntKind.i64.wrap (a + i5))).bind fun x21 =>
 (idx l1 (IntKind.i64.wrap (a + i5))).bind fun x30 =>
 (upd l1 (IntKind.i64.wrap (a + i5)) x11).bind fun l39 =>
 (idx l39 (IntKind.i64.wrap (b + i5))).bind fun x50 =>
 (upd l39 (IntKind.i64.wrap (b + i5)) x21).bind fun l59 =>
 slices_swapRangeCmpFunc_int_j2 i5 l59) (some (.inr l1))
noncomputable def slices_swapRangeCmpFunc_int (data : List Int) (a : Int) (b : Int) (n : Int) (cmp_c0_0 : List Int) : Option ((List Int)) :=
 (loop (σ := (List Int) × Int) (ρ := (List Int)) (fun s_ => slices_swapRangeCmpFunc_int_l1 n b a s_.1 s_.2) (data, 0)).bind (fun e_ => some e_)
noncomputable def slices_rotateCmpFunc_int_j1 (m : Int) (cmp_c0_0 : List Int) (l1 : List Int) (i6 : Int) : Option ((List Int)) :=
 (slices_swapRangeCmpFunc_int l1 (IntKind.i64.wrap (m - i6)) m i6 cmp_c0_0).bind fun x7 =>
 some x7
noncomputable def slices_rotateCmpFunc_int_l2 (m : Int) (cmp_c0_0 : List Int) (l13 : List Int) (i18 : Int) (i19 : Int) : Option (((List Int) × Int × Int) ⊕ (List Int) × Int) :=
 cnd (!(i18 == i19)) (cnd (decide (i19 < i18)) ((slices_swapRangeCmpFunc_int l13 (IntKind.i64.wrap (m - i18)) m i19 cmp_c0_0).bind fun x22 =>
 some (.inl (x22, IntKind.i64.wrap (i18 - i19), i19))) ((slices_swapRangeCmpFunc_int l13 (IntKind.i64.wrap (m - i18)) (IntKind.i64.wrap (IntKind.i64.wrap (m + i19) - i18)) i18 cmp_c0_0).bind fun x28 =>
 some (.inl (x28, i18, IntKind.i64.wrap (i19 - i18))))) (some (.inr (l13, i18)))
noncomputable def slices_rotateCmpFunc_int (data : List Int) (a : Int) (m : Int) (b : Int) (cmp_c0_0 : List Int) : Option ((List Int)) :=
 (loop (σ := (List Int) × Int × Int) (ρ := (List Int) × Int) (fun s_ => slices_rotateCmpFunc_int_l2 m cmp_c0_0 s_.1 s_.2.1 s_.2.2) (data, IntKind.i64.wrap (m - a), IntKind.i64.wrap (b - m))).bind (fun e_ => slices_rotateCmpFunc_int_j1 m cmp_c0_0 e_.1 e_.2)
noncomputable def slices_symMergeCmpFunc_int_j2 (l4 : List Int) : Option ((List Int)) :=
 some l4
noncomputable def slices_symMergeCmpFunc_int_j4 (i12 : Int) (l14 : List Int) : Option (((List Int) × Int) ⊕ (List Int)) :=
 some (.inl (l14, IntKind.i64.wrap (i12 + 1)))
noncomputable def slices_symMergeCmpFunc_int_l3 (i2 : Int) (l8 : List Int) (i12 : Int) : Option (((List Int) × Int) ⊕ (List Int)) :=
 cnd (decide (i12 < IntKind.i64.wrap (i2 - 1))) ((idx l8 (IntKind.i64.wrap (i12 + 1))).bind fun x18 =>
 (idx l8 i12).bind fun x28 =>
 (idx l8 i12).bind fun x37 =>
 (upd l8 i12 x18).bind fun l46 =>
 (idx l46 (IntKind.i64.wrap (i12 + 1))).bind fun x57 =>
 (upd l46 (IntKind.i64.wrap (i12 + 1)) x28).bind fun l66 =>
 slices_symMergeCmpFunc_int_j4 i12 l66) (some (.inr l8))
noncomputable def slices_symMergeCmpFunc_int_j1 (data : List Int) (a : Int) (i2 : Int) : Option ((List Int)) :=
 (loop (σ := (List Int) × Int) (ρ := (List Int)) (fun s_ => slices_symMergeCmpFunc_int_l3 i2 s_.1 s_.2) (data, a)).bind (fun e_ => slices_symMergeCmpFunc_int_j2 e_)
noncomputable def slices_symMergeCmpFunc_int_l5 (data : List Int) (a : Int) (cmp_c0_0 : List Int) (i148 : Int) (i149 : Int) : Option ((Int × Int) ⊕ Int) :=
 cnd (decide (i148 < i149)) ((some (IntKind.i64.wrap (Int.fdiv (IntKind.u64.wrap (IntKind.i64.wrap (i148 + i149))) 2))).bind fun x151 =>
 (idx data x151).bind fun x153 =>
 (idx data a).bind fun x163 =>
 (tourlaw1_QueueSorts_1 x153 x163 cmp_c0_0).bind fun x172 =>
 cnd (decide (x172 < 0)) (some (.inl (IntKind.i64.wrap (x151 + 1), i149))) (some (.inl (i148, x151)))) (some (.inr i148))
noncomputable def slices_symMergeCmpFunc_int_j7 (l179 : List Int) : Option ((List Int)) :=
 some l179
noncomputable def slices_symMergeCmpFunc_int_j9 (i187 : Int) (l189 : List Int) : Option (((List Int) × Int) ⊕ (List Int)) :=
 some (.inl (l189, IntKind.i64.wrap (i187 - 1)))
noncomputable def slices_symMergeCmpFunc_int_l8 (i177 : Int) (l183 : List Int) (i187 : Int) : Option (((List Int) × Int) ⊕ (List Int)) :=
 cnd (decide (i177 < i187)) ((idx l183 (IntKind.i64.wrap (i187 - 1))).bind fun x193 =>
 (idx l183 i187).bind fun x203 =>
 (idx l183 i187).bind fun x212 =>
 (upd l183 i187 x193).bind fun l221 =>
 (idx l221 (IntKind.i64.wrap (i187 - 1))).bind fun x232 =>
 (upd l221 (IntKind.i64.wrap (i187 - 1)) x203).bind fun l241 =>
 slices_symMergeCmpFunc_int_j9 i187 l241) (some (.inr l183))
noncomputable def slices_symMergeCmpFunc_int_j6 (data : List Int) (m : Int) (i177 : Int) : Option ((List Int)) :=
 (loop (σ := (List Int) × Int) (ρ := (List Int)) (fun s_ => slices_symMergeCmpFunc_int_l8 i177 s_.1 s_.2) (data, m)).bind (fun e_ => slices_symMergeCmpFunc_int_j7 e_)
noncomputable def slices_symMergeCmpFunc_int_l10 (data : List Int) (m : Int) (cmp_c0_0 : List Int) (i323 : Int) (i324 : Int) : Option ((Int × Int) ⊕ Int) :=
 cnd (decide (i323 < i324)) ((some (IntKind.i64.wrap (Int.fdiv (IntKind.u64.wrap (IntKind.i64.wrap (i323 + i324))) 2))).bind fun x326 =>
 (idx data m).bind fun x328 =>
 (idx data x326).bind fun x338 =>
 (tourlaw1_QueueSorts_1 x328 x338 cmp_c0_0).bind fun x347 =>
 cnd (!(decide (x347 < 0))) (some (.inl (IntKind.i64.wrap (x326 + 1), i324))) (some (.inl (i323, x326)))) (some (.inr i323))
noncomputable def slices_symMergeCmpFunc_int_j14 (x351 : Int) (m : Int) (i356 : Int) (b : Int) (self_ : (List Int) → Int → Int → Int → (List Int) → Option ((List Int))) (cmp_c0_0 : List Int) (l362 : List Int) : Option ((List Int)) :=
 cnd (decide (x351 < IntKind.i64.wrap (IntKind.i64.wrap (x351 + m) - i356))) (cnd (decide (IntKind.i64.wrap (IntKind.i64.wrap (x351 + m) - i356) < b)) ((self_ l362 x351 (IntKind.i64.wrap (IntKind.i64.wrap (x351 + m) - i356)) b cmp_c0_0).bind fun x368 =>
 some x368) (some l362)) (some l362)
noncomputable def slices_symMergeCmpFunc_int_j13 (a : Int) (i356 : Int) (x351 : Int) (self_ : (List Int) → Int → Int → Int → (List Int) → Option ((List Int))) (cmp_c0_0 : List Int) (m : Int) (b : Int) (l357 : List Int) : Option ((List Int)) :=
 cnd (decide (a < i356)) (cnd (decide (i356 < x351)) ((self_ l357 a i356 x351 cmp_c0_0).bind fun x375 =>
 slices_symMergeCmpFunc_int_j14 x351 m i356 b self_ cmp_c0_0 x375) (slices_symMergeCmpFunc_int_j14 x351 m i356 b self_ cmp_c0_0 l357)) (slices_symMergeCmpFunc_int_j14 x351 m i356 b self_ cmp_c0_0 l357)
noncomputable def slices_symMergeCmpFunc_int_j12 (m : Int) (x351 : Int) (data : List Int) (cmp_c0_0 : List Int) (a : Int) (self_ : (List Int) → Int → Int → Int → (List Int) → Option ((List Int))) (b : Int) (i356 : Int) : Option ((List Int)) :=
 cnd (decide (i356 < m)) (cnd (decide (m < IntKind.i64.wrap (IntKind.i64.wrap (x351 + m) - i356))) ((slices_rotateCmpFunc_int data i356 m (IntKind.i64.wrap (IntKind.i64.wrap (x351 + m) - i356)) cmp_c0_0).bind fun x382 =>
 slices_symMergeCmpFunc_int_j13 a i356 x351 self_ cmp_c0_0 m b x382) (slices_symMergeCmpFunc_int_j13 a i356 x351 self_ cmp_c0_0 m b data)) (slices_symMergeCmpFunc_int_j13 a i356 x351 self_ cmp_c0_0 m b data)
noncomputable def slices_symMergeCmpFunc_int_l15 (x351 : Int) (m : Int) (data : List Int) (cmp_c0_0 : List Int) (i389 : Int) (i390 : Int) : Option ((Int × Int) ⊕ Int) :=
 cnd (decide (i389 < i390)) ((some (IntKind.i64.wrap (Int.fdiv (IntKind.u64.wrap (IntKind.i64.wrap (i389 + i390))) 2))).bind fun x392 =>
 (some (IntKind.i64.wrap (IntKind.i64.wrap (IntKind.i64.wrap (x351 + m) - 1) - x392))).bind fun x394 =>
 (idx data x394).bind fun x396 =>
 (idx data x392).bind fun x406 =>
 (tourlaw1_QueueSorts_1 x396 x406 cmp_c0_0).bind fun x415 =>
 cnd (!(decide (x415 < 0))) (some (.inl (IntKind.i64.wrap (x392 + 1), i390))) (some (.inl (i389, x392)))) (some (.inr i389))
noncomputable def slices_symMergeCmpFunc_int_j11 (x351 : Int) (m : Int) (data : List Int) (cmp_c0_0 : List Int) (a : Int) (self_ : (List Int) → Int → Int → Int → (List Int) → Option ((List Int))) (b : Int) (i353 : Int) (i354 : Int) : Option ((List Int)) :=
 (loop (σ := Int × Int) (ρ := Int) (fun s_ => slices_symMergeCmpFunc_int_l15 x351 m data cmp_c0_0 s_.1 s_.2) (i353, i354)).bind (fun e_ => slices_symMergeCmpFunc_int_j12 m x351 data cmp_c0_0 a self_ b e_)
noncomputable def slices_symMergeCmpFunc_int_b (self_ : (List Int) → Int → Int → Int → (List Int) → Option ((List Int))) (data : List Int) (a : Int) (m : Int) (b : Int) (cmp_c0_0 : List Int) : Option ((List Int)) :=
 cnd (IntKind.i64.wrap (m - a) == 1) ((loop (σ := Int × Int) (ρ := Int) (fun s_ => slices_symMergeCmpFunc_int_l5 data a cmp_c0_0 s_.1 s_.2) (m, b)).bind (fun e_ => slices_symMergeCmpFunc_int_j1 data a e_)) (cnd (IntKind.i64.wrap (b - m) == 1) ((loop (σ := Int × Int) (ρ := Int) (fun s_ => slices_symMergeCmpFunc_int_l10 data m cmp_c0_0 s_.1 s_.2) (a, m)).bind (fun e_ => slices_symMergeCmpFunc_int_j6 data m e_)) ((some (IntKind.i64.wrap (Int.fdiv (IntKind.u64.wrap (IntKind.i64.wrap (a + b))) 2))).bind fun x351 =>
 cnd (decide (x351 < m)) (slices_symMergeCmpFunc_int_j11 x351 m data cmp_c0_0 a self_ b (IntKind.i64.wrap (IntKind.i64.wrap (x351 + m) - b)) x351) (slices_symMergeCmpFunc_int_j11 x351 m data cmp_c0_0 a self_ b a m)))
noncomputable def slices_symMergeCmpFunc_int_s (self_ : ((List Int) × Int × Int × Int × (List Int)) → Option ((List Int))) (p_ : (List Int) × Int × Int × Int × (List Int)) : Option ((List Int)) := slices_symMergeCmpFunc_int_b (fun data a m b cmp_c0_0 => self_ (data, a, m, b, cmp_c0_0)) p_.1 p_.2.1 p_.2.2.1 p_.2.2.2.1 p_.2.2.2.2
noncomputable def slices_symMergeCmpFunc_int (data : List Int) (a : Int) (m : Int) (b : Int) (cmp_c0_0 : List Int) : Option ((List Int)) := fix slices_symMergeCmpFunc_int_s (data, a, m, b, cmp_c0_0)
noncomputable def slices_stableCmpFunc_int_j4 (i17 : Int) (l24 : List Int) : Option (((List Int) × Int) ⊕ (List Int)) :=
 some (.inl (l24, IntKind.i64.wrap (i17 * 2)))
noncomputable def slices_stableCmpFunc_int_j3 (i17 : Int) (n : Int) (cmp_c0_0 : List Int) (l19 : List Int) (i23 : Int) : Option (((List Int) × Int) ⊕ (List Int)) :=
 cnd (decide (IntKind.i64.wrap (i23 + i17) < n)) ((slices_symMergeCmpFunc_int l19 i23 (IntKind.i64.wrap (i23 + i17)) n cmp_c0_0).bind fun x29 =>
 slices_stableCmpFunc_int_j4 i17 x29) (slices_stableCmpFunc_int_j4 i17 l19)
noncomputable def slices_stableCmpFunc_int_l5 (n : Int) (i17 : Int) (cmp_c0_0 : List Int) (l34 : List Int) (i38 : Int) (i39 : Int) : Option (((List Int) × Int × Int) ⊕ (List Int) × Int) :=
 cnd (decide (i39 ≤ n)) ((slices_symMergeCmpFunc_int l34 i38 (IntKind.i64.wrap (i38 + i17)) i39 cmp_c0_0).bind fun x41 =>
 some (.inl (x41, i39, IntKind.i64.wrap (i39 + IntKind.i64.wrap (2 * i17))))) (some (.inr (l34, i38)))
noncomputable def slices_stableCmpFunc_int_l2 (n : Int) (cmp_c0_0 : List Int) (l13 : List Int) (i17 : Int) : Option (((List Int) × Int) ⊕ (List Int)) :=
 cnd (decide (i17 < n)) ((loop (σ := (List Int) × Int × Int) (ρ := (List Int) × Int) (fun s_ => slices_stableCmpFunc_int_l5 n i17 cmp_c0_0 s_.1 s_.2.1 s_.2.2) (l13, 0, IntKind.i64.wrap (2 * i17))).bind (fun e_ => slices_stableCmpFunc_int_j3 i17 n cmp_c0_0 e_.1 e_.2)) (some (.inr l13))
noncomputable def slices_stableCmpFunc_int_j1 (n : Int) (cmp_c0_0 : List Int) (l1 : List Int) (i6 : Int) : Option ((List Int)) :=
 (slices_insertionSortCmpFunc_int l1 i6 n cmp_c0_0).bind fun x7 =>
 (loop (σ := (List Int) × Int) (ρ := (List Int)) (fun s_ => slices_stableCmpFunc_int_l2 n cmp_c0_0 s_.1 s_.2) (x7, 20)).bind (fun e_ => some e_)
noncomputable def slices_stableCmpFunc_int_l6 (n : Int) (cmp_c0_0 : List Int) (l46 : List Int) (i51 : Int) (i52 : Int) : Option (((List Int) × Int × Int) ⊕ (List Int) × Int) :=
 cnd (decide (i52 ≤ n)) ((slices_insertionSortCmpFunc_int l46 i51 i52 cmp_c0_0).bind fun x54 =>
 some (.inl (x54, i52, IntKind.i64.wrap (i52 + 20)))) (some (.inr (l46, i51)))
noncomputable def slices_stableCmpFunc_int (data : List Int) (n : Int) (cmp_c0_0 : List Int) : Option ((List Int)) :=
 (loop (σ := (List Int) × Int × Int) (ρ := (List Int) × Int) (fun s_ => slices_stableCmpFunc_int_l6 n cmp_c0_0 s_.1 s_.2.1 s_.2.2) (data, 0, 20)).bind (fun e_ => slices_stableCmpFunc_int_j1 n cmp_c0_0 e_.1 e_.2)
noncomputable def slices_SortStableFunc_int_int (x : List Int) (cmp_c0_0 : List Int) : Option ((List Int)) :=
 (slices_stableCmpFunc_int x (x.length : Int) cmp_c0_0).bind fun x1 =>
 some x1
noncomputable def tourlaw1_QueueSorts_j1 (t25 : Bool) : Option Bool :=
 some t25
noncomputable def tourlaw1_QueueSorts_j3 (t47 : Bool) : Option Bool :=
 some t47
noncomputable def tourlaw1_QueueSorts_j2 (l : List Int) (x18 : Int) (x17 : List Int) (l38 : List Int) : Option Bool :=
 (slices_SortStableFunc_int_int l38 l).bind fun x41 =>
 cnd (x18 == 0) ((slices_Equal_int_int x17 x41).bind fun x49 =>
 tourlaw1_QueueSorts_j3 x49) (tourlaw1_QueueSorts_j3 false)
noncomputable def tourlaw1_QueueSorts_l4 (l27 : List Int) (l51 : List Int) (i54 : Int) : Option (((List Int) × Int) ⊕ (List Int)) :=
 cnd (decide (i54 < (l27.length : Int))) ((idx l51 i54).bind fun x56 =>
 (upd l51 i54 i54).bind fun l65 =>
 some (.inl (l65, IntKind.i64.wrap (i54 + 1)))) (some (.inr l51))
noncomputable def tourlaw1_QueueSorts (l : List Int) : Option Bool :=
 bnd2 (queue_Sort ([2, 1] : List Int)) fun x4 x5 =>
 cnd (!(x5 == 0)) (some false) ((slices_Equal_int_int x4 ([1, 0] : List Int)).bind fun x14 =>
 cnd (!x14) (some false) (bnd2 (queue_Sort l) fun x17 x18 =>
 cnd (decide (4096 < (l.length : Int))) (cnd (x18 == 2) (tourlaw1_QueueSorts_j1 ((x17.length : Int) == 0)) (tourlaw1_QueueSorts_j1 false)) ((mk 8 (l.length : Int) (0 : Int)).bind fun l27 =>
 (loop (σ := (List Int) × Int) (ρ := (List Int)) (fun s_ => tourlaw1_QueueSorts_l4 l27 s_.1 s_.2) (l27, 0)).bind (fun e_ => tourlaw1_QueueSorts_j2 l x18 x17 e_))))
end Go.Proofs.Ytnognpmkhkkkeaa.X
