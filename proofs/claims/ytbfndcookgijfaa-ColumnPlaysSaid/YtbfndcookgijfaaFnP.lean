/- The Go functions as plain functions over Option. No condition. -/
import Derived.Test.YtbfndcookgijfaaTyP
import Derived.Test.YtbfndcookgijfaaExMap
import Derived.Test.YtbfndcookgijfaaExStr
namespace Go.Proofs.Ytbfndcookgijfaa.P
open Go Go.RowKit Go.Proofs.Ytbfndcookgijfaa.Sx
set_option linter.unusedVariables false
noncomputable def column_New_int : Option ((List Int) × (List (Int × Int))) :=
 some (([] : List Int), ([] : List (Int × Int)))
noncomputable def column_Store_int_Put_j1 (l30 : List (Int × Int)) (l38 : List Int) (l43 : List Int) : Option (Int × (List Int) × (List Int) × (List (Int × Int))) :=
 some (0, l38, l43, l30)
noncomputable def column_Store_int_Put (s_0 : List Int) (s_1 : List Int) (s_2 : List (Int × Int)) (n : Int) (v : Int) : Option (Int × (List Int) × (List Int) × (List (Int × Int))) :=
 cnd (decide (n < 0)) (some (1, s_0, s_1, s_2)) (cnd (decide (256 ≤ n)) (some (1, s_0, s_1, s_2)) ((some ((mget s_2 n).getD 0)).bind fun x3 =>
 cnd ((mget s_2 n).isSome) ((idx s_0 x3).bind fun x9 =>
 (upd s_0 x3 v).bind fun l19 =>
 some (0, l19, s_1, s_2)) ((some (mput s_2 n (s_1.length : Int))).bind fun l30 =>
 (app 8 s_1 ([n] : List Int)).bind fun l48 =>
 (app 8 s_0 ([v] : List Int)).bind fun l59 =>
 column_Store_int_Put_j1 l30 l59 l48)))
noncomputable def column_Store_int_Drop_j2 (l29 : List (Int × Int)) (l56 : List Int) (l59 : List Int) : Option (Int × (List Int) × (List Int) × (List (Int × Int))) :=
 some (0, l56, l59, l29)
noncomputable def column_Store_int_Drop_j1 (x1 : Int) (s_2 : List (Int × Int)) (n : Int) (s_1 : List Int) (l7 : List Int) (l10 : List Int) : Option (Int × (List Int) × (List Int) × (List (Int × Int))) :=
 (idx l10 x1).bind fun x13 =>
 (some (mput s_2 x13 x1)).bind fun l23 =>
 (some (mdel l23 n)).bind fun l29 =>
 (idx l7 (IntKind.i64.wrap ((s_1.length : Int) - 1))).bind fun x35 =>
 (upd l7 (IntKind.i64.wrap ((s_1.length : Int) - 1)) 0).bind fun l45 =>
 (cut l10 0 (IntKind.i64.wrap ((s_1.length : Int) - 1))).bind fun l62 =>
 (cut l45 0 (IntKind.i64.wrap ((s_1.length : Int) - 1))).bind fun l76 =>
 column_Store_int_Drop_j2 l29 l76 l62
noncomputable def column_Store_int_Drop (s_0 : List Int) (s_1 : List Int) (s_2 : List (Int × Int)) (n : Int) : Option (Int × (List Int) × (List Int) × (List (Int × Int))) :=
 (some ((mget s_2 n).getD 0)).bind fun x1 =>
 cnd (!((mget s_2 n).isSome)) (some (4, s_0, s_1, s_2)) ((idx s_1 (IntKind.i64.wrap ((s_1.length : Int) - 1))).bind fun x258 =>
 (idx s_0 (IntKind.i64.wrap ((s_1.length : Int) - 1))).bind fun x268 =>
 (idx s_1 x1).bind fun x278 =>
 (upd s_1 x1 x258).bind fun l287 =>
 (idx s_0 x1).bind fun x298 =>
 (upd s_0 x1 x268).bind fun l307 =>
 column_Store_int_Drop_j1 x1 s_2 n s_1 l307 l287)
noncomputable def slices_Clone_int_int (s : List Int) : Option ((List Int)) :=
 (app 8 ([] : List Int) s).bind fun l5 =>
 some l5
noncomputable def column_Store_int_Rows (s_0 : List Int) (s_1 : List Int) (s_2 : List (Int × Int)) : Option ((List Int)) :=
 (slices_Clone_int_int s_1).bind fun x1 =>
 some x1
noncomputable def slices_Equal_int_int_j1 : Option Bool :=
 some true
noncomputable def slices_Equal_int_int_l2 (s1_1 : List Int) (s2_1 : List Int) (i2 : Int) : Option (Int ⊕ (Bool ⊕ Unit)) :=
 cnd (decide (i2 < (s1_1.length : Int))) ((idx s1_1 i2).bind fun x4 =>
 (idx s2_1 i2).bind fun x15 =>
 cnd (!(x4 == x15)) (some (.inr (.inl false))) (some (.inl (IntKind.i64.wrap (i2 + 1))))) (some (.inr (.inr ())))
noncomputable def slices_Equal_int_int (s1_1 : List Int) (s2_1 : List Int) : Option Bool :=
 cnd (!((s1_1.length : Int) == (s2_1.length : Int))) (some false) ((loop (σ := Int) (ρ := (Bool ⊕ Unit)) (fun s_ => slices_Equal_int_int_l2 s1_1 s2_1 s_) 0).bind (Sum.elim (fun e_ => some e_) (fun e_ => slices_Equal_int_int_j1)))
noncomputable def tourlaw3_stored_j2 (t29 : Bool) : Option Bool :=
 some t29
noncomputable def tourlaw3_stored_j1 (l17 : List Int) (l22 : List Int) (l27 : List (Int × Int)) : Option Bool :=
 bnd4 (column_Store_int_Drop l17 l22 l27 4) fun x30 x31 x32 x33 =>
 cnd (x30 == 0) ((column_Store_int_Rows x31 x32 x33).bind fun x43 =>
 (slices_Equal_int_int x43 ([7, 2] : List Int)).bind fun x58 =>
 tourlaw3_stored_j2 x58) (tourlaw3_stored_j2 false)
noncomputable def tourlaw3_stored_l3 (l64 : List Int) (l69 : List Int) (l74 : List (Int × Int)) (i76 : Int) : Option (((List Int) × (List Int) × (List (Int × Int)) × Int) ⊕ (Bool ⊕ (List Int) × (List Int) × (List (Int × Int)))) :=
 cnd (decide (i76 < (([4, 2, 7] : List Int).length : Int))) ((idx ([4, 2, 7] : List Int) i76).bind fun x78 =>
 bnd4 (column_Store_int_Put l64 l69 l74 x78 (IntKind.i64.wrap (10 * x78))) fun x87 x88 x89 x90 =>
 cnd (!(x87 == 0)) (some (.inr (.inl false))) (some (.inl (x88, x89, x90, IntKind.i64.wrap (i76 + 1))))) (some (.inr (.inr (l64, l69, l74))))
noncomputable def tourlaw3_stored : Option Bool :=
 bnd2 (column_New_int) fun x1 x2 =>
 (loop (σ := (List Int) × (List Int) × (List (Int × Int)) × Int) (ρ := (Bool ⊕ (List Int) × (List Int) × (List (Int × Int)))) (fun s_ => tourlaw3_stored_l3 s_.1 s_.2.1 s_.2.2.1 s_.2.2.2) (x1, x1, x2, 0)).bind (Sum.elim (fun e_ => some e_) (fun e_ => tourlaw3_stored_j1 e_.1 e_.2.1 e_.2.2))
noncomputable def slices_Index_int_int_j1 : Option Int :=
 some (-1)
noncomputable def slices_Index_int_int_l2 (s : List Int) (v : Int) (i1 : Int) : Option (Int ⊕ (Int ⊕ Unit)) :=
 cnd (decide (i1 < (s.length : Int))) ((idx s i1).bind fun x3 =>
 cnd (v == x3) (some (.inr (.inl i1))) (some (.inl (IntKind.i64.wrap (i1 + 1))))) (some (.inr (.inr ())))
noncomputable def slices_Index_int_int (s : List Int) (v : Int) : Option Int :=
 (loop (σ := Int) (ρ := (Int ⊕ Unit)) (fun s_ => slices_Index_int_int_l2 s v s_) 0).bind (Sum.elim (fun e_ => some e_) (fun e_ => slices_Index_int_int_j1))
noncomputable def tourref3_Model_Put_j1 (l29 : List Int) (l34 : List Int) : Option (Int × (List Int) × (List Int)) :=
 some (0, l29, l34)
noncomputable def tourref3_Model_Put (m_0 : List Int) (m_1 : List Int) (n : Int) (v : Int) : Option (Int × (List Int) × (List Int)) :=
 cnd (decide (n < 0)) (some (1, m_0, m_1)) (cnd (decide (255 < n)) (some (1, m_0, m_1)) ((slices_Index_int_int m_0 n).bind fun x3 =>
 cnd (decide (0 ≤ x3)) ((idx m_1 x3).bind fun x6 =>
 (upd m_1 x3 v).bind fun l16 =>
 some (0, m_0, l16)) ((app 8 m_0 ([n] : List Int)).bind fun l39 =>
 (app 8 m_1 ([v] : List Int)).bind fun l50 =>
 tourref3_Model_Put_j1 l39 l50)))
noncomputable def tourref3_Model_Drop_j2 (l18 : List Int) (l21 : List Int) : Option (Int × (List Int) × (List Int)) :=
 some (0, l18, l21)
noncomputable def tourref3_Model_Drop_j1 (x1 : Int) (m_0 : List Int) (m_1 : List Int) (l8 : List Int) (l13 : List Int) : Option (Int × (List Int) × (List Int)) :=
 cnd (decide (x1 < IntKind.i64.wrap ((m_0.length : Int) - 1))) ((idx m_0 (IntKind.i64.wrap ((m_0.length : Int) - 1))).bind fun x25 =>
 (idx m_1 (IntKind.i64.wrap ((m_0.length : Int) - 1))).bind fun x36 =>
 (idx l8 x1).bind fun x47 =>
 (upd l8 x1 x25).bind fun l57 =>
 (idx l13 x1).bind fun x68 =>
 (upd l13 x1 x36).bind fun l78 =>
 tourref3_Model_Drop_j2 l57 l78) (tourref3_Model_Drop_j2 l8 l13)
noncomputable def tourref3_Model_Drop (m_0 : List Int) (m_1 : List Int) (n : Int) : Option (Int × (List Int) × (List Int)) :=
 (slices_Index_int_int m_0 n).bind fun x1 =>
 cnd (decide (x1 < 0)) (some (4, m_0, m_1)) ((cut m_0 0 (IntKind.i64.wrap ((m_0.length : Int) - 1))).bind fun l93 =>
 (slices_Clone_int_int l93).bind fun x104 =>
 (cut m_1 0 (IntKind.i64.wrap ((m_0.length : Int) - 1))).bind fun l114 =>
 (slices_Clone_int_int l114).bind fun x125 =>
 tourref3_Model_Drop_j1 x1 m_0 m_1 x104 x125)
noncomputable def slices_Values_int_int (s : List Int) : Option Unit :=
 some ()
noncomputable def slices_AppendSeq_int_int_j1 (l4 : List Int) : Option ((List Int)) :=
 some l4
noncomputable def slices_AppendSeq_int_int_l2 (seq_c0_0 : List Int) (i11 : Int) (l14 : List Int) : Option ((Int × (List Int)) ⊕ (List Int)) :=
 cnd (decide (i11 < (seq_c0_0.length : Int))) ((idx seq_c0_0 i11).bind fun x18 =>
 (app 8 l14 ([x18] : List Int)).bind fun l32 =>
 some (.inl (IntKind.i64.wrap (i11 + 1), l32))) (some (.inr l14))
noncomputable def slices_AppendSeq_int_int (s : List Int) (seq_c0_0 : List Int) : Option ((List Int)) :=
 (loop (σ := Int × (List Int)) (ρ := (List Int)) (fun s_ => slices_AppendSeq_int_int_l2 seq_c0_0 s_.1 s_.2) (0, s)).bind (fun e_ => slices_AppendSeq_int_int_j1 e_)
noncomputable def slices_Collect_int (seq_c0_0 : List Int) : Option ((List Int)) :=
 (slices_AppendSeq_int_int ([] : List Int) seq_c0_0).bind fun x1 =>
 some x1
noncomputable def math_bits_Len64_j3 (i5 : Int) (i6 : Int) : Option Int :=
 (sidx (⟨#[0, 1, 2, 2, 3, 3, 3, 3, 4, 4, 4, 4, 4, 4, 4, 4, 5, 5, 5, 5, 5, 5, 5, 5, 5, 5, 5, 5, 5, 5, 5, 5, 6, 6, 6, 6, 6, 6, 6, 6, 6, 6, 6, 6, 6, 6, 6, 6, 6, 6, 6, 6, 6, 6, 6, 6, 6, 6, 6, 6, 6, 6, 6, 6, 7, 7, 7, 7, 7, 7, 7, 7, 7, 7, 7, 7, 7, 7, 7, 7, 7, 7, 7, 7, 7, 7, 7, 7, 7, 7, 7, 7, 7, 7, 7, 7, 7, 7, 7, 7, 7, 7, 7, 7, 7, 7, 7, 7, 7, 7, 7, 7, 7, 7, 7, 7, 7, 7, 7, 7, 7, 7, 7, 7, 7, 7, 7, 7, 8, 8, 8, 8, 8, 8, 8, 8, 8, 8, 8, 8, 8, 8, 8, 8, 8, 8, 8, 8, 8, 8, 8, 8, 8, 8, 8, 8, 8, 8, 8, 8, 8, 8, 8, 8, 8, 8, 8, 8, 8, 8, 8, 8, 8, 8, 8, 8, 8, 8, 8, 8, 8, 8, 8, 8, 8, 8, 8, 8, 8, 8, 8, 8, 8, 8, 8, 8, 8, 8, 8, 8, 8, 8, 8, 8, 8, 8, 8, 8, 8, 8, 8, 8, 8, 8, 8, 8, 8, 8, 8, 8, 8, 8, 8, 8, 8, 8, 8, 8, 8, 8, 8, 8, 8, 8, 8, 8, 8, 8, 8, 8, 8, 8, 8, 8, 8, 8, 8, 8, 8, 8, 8, 8, 8, 8, 8, 8]⟩ : ByteArray) (IntKind.u8.wrap i5)).bind fun x7 =>
 some (IntKind.i64.wrap (i6 + IntKind.i64.wrap x7))
noncomputable def math_bits_Len64_j2 (i3 : Int) (i4 : Int) : Option Int :=
 cnd (decide (256 ≤ i3)) (math_bits_Len64_j3 (Int.fdiv i3 256) (IntKind.i64.wrap (i4 + 8))) (math_bits_Len64_j3 i3 i4)
noncomputable def math_bits_Len64_j1 (i1 : Int) (i2 : Int) : Option Int :=
 cnd (decide (65536 ≤ i1)) (math_bits_Len64_j2 (Int.fdiv i1 65536) (IntKind.i64.wrap (i2 + 16))) (math_bits_Len64_j2 i1 i2)
noncomputable def math_bits_Len64 (x : Int) : Option Int :=
 cnd (decide (4294967296 ≤ x)) (math_bits_Len64_j1 (Int.fdiv x 4294967296) 32) (math_bits_Len64_j1 x 0)
noncomputable def math_bits_Len (x : Int) : Option Int :=
 (math_bits_Len64 x).bind fun x1 =>
 some x1
noncomputable def cmp_isNaN_int (x : Int) : Option Unit :=
 some ()
noncomputable def cmp_Less_int (x : Int) (y : Int) : Option Bool :=
 (cmp_isNaN_int x).bind fun _ =>
 some (decide (x < y))
noncomputable def slices_insertionSortOrdered_int_j2 (i5 : Int) (l7 : List Int) : Option (((List Int) × Int) ⊕ (List Int)) :=
 some (.inl (l7, IntKind.i64.wrap (i5 + 1)))
noncomputable def slices_insertionSortOrdered_int_j4 (i15 : Int) (l39 : List Int) : Option (((List Int) × Int) ⊕ (List Int)) :=
 some (.inl (l39, IntKind.i64.wrap (i15 - 1)))
noncomputable def slices_insertionSortOrdered_int_l3 (a : Int) (l11 : List Int) (i15 : Int) : Option (((List Int) × Int) ⊕ (List Int)) :=
 cnd (decide (a < i15)) ((idx l11 i15).bind fun x17 =>
 (idx l11 (IntKind.i64.wrap (i15 - 1))).bind fun x27 =>
 (cmp_Less_int x17 x27).bind fun x36 =>
 cnd x36 ((idx l11 (IntKind.i64.wrap (i15 - 1))).bind fun x43 =>
 (idx l11 i15).bind fun x52 =>
 (idx l11 i15).bind fun x61 =>
 (upd l11 i15 x43).bind fun l70 =>
 (idx l70 (IntKind.i64.wrap (i15 - 1))).bind fun x81 =>
 (upd l70 (IntKind.i64.wrap (i15 - 1)) x52).bind fun l90 =>
 slices_insertionSortOrdered_int_j4 i15 l90) (some (.inr l11))) (some (.inr l11))
noncomputable def slices_insertionSortOrdered_int_l1 (b : Int) (a : Int) (l1 : List Int) (i5 : Int) : Option (((List Int) × Int) ⊕ (List Int)) :=
 cnd (decide (i5 < b)) ((loop (σ := (List Int) × Int) (ρ := (List Int)) (fun s_ => slices_insertionSortOrdered_int_l3 a s_.1 s_.2) (l1, i5)).bind (fun e_ => slices_insertionSortOrdered_int_j2 i5 e_)) (some (.inr l1))
noncomputable def slices_insertionSortOrdered_int (data : List Int) (a : Int) (b : Int) : Option ((List Int)) :=
 (loop (σ := (List Int) × Int) (ρ := (List Int)) (fun s_ => slices_insertionSortOrdered_int_l1 b a s_.1 s_.2) (data, IntKind.i64.wrap (a + 1))).bind (fun e_ => some e_)
noncomputable def slices_pdqsortOrdered_int_l1 (b : Int) (a : Int) (data : List Int) (limit : Int) : Option (Unit ⊕ (List Int)) :=
 cnd (decide (IntKind.i64.wrap (b - a) ≤ 12)) ((slices_insertionSortOrdered_int data a b).bind fun x2 =>
 some (.inr x2)) (cnd (limit == 0) (none) (none))
noncomputable def slices_pdqsortOrdered_int (data : List Int) (a : Int) (b : Int) (limit : Int) : Option ((List Int)) :=
 (loop (σ := Unit) (ρ := (List Int)) (fun s_ => slices_pdqsortOrdered_int_l1 b a data limit) ()).bind (fun e_ => some e_)
noncomputable def slices_Sort_int_int (x : List Int) : Option ((List Int)) :=
 (math_bits_Len (IntKind.u64.wrap (x.length : Int))).bind fun x1 =>
 (slices_pdqsortOrdered_int x 0 (x.length : Int) x1).bind fun x3 =>
 some x3
noncomputable def slices_Sorted_int (seq_c0_0 : List Int) : Option ((List Int)) :=
 (slices_Collect_int seq_c0_0).bind fun x1 =>
 (slices_Sort_int_int x1).bind fun x8 =>
 some x8
noncomputable def column_Store_int_Sort_j2 (l22 : List Int) (x4 : List Int) (l27 : List (Int × Int)) : Option ((List Int) × (List Int) × (List (Int × Int))) :=
 some (l22, x4, l27)
noncomputable def column_Store_int_Sort_l3 (x4 : List Int) (l31 : List (Int × Int)) (i33 : Int) : Option (((List (Int × Int)) × Int) ⊕ (List (Int × Int))) :=
 cnd (decide (i33 < (x4.length : Int))) ((idx x4 i33).bind fun x35 =>
 (some (mput l31 x35 i33)).bind fun l45 =>
 some (.inl (l45, IntKind.i64.wrap (i33 + 1)))) (some (.inr l31))
noncomputable def column_Store_int_Sort_j1 (x4 : List Int) (s_2 : List (Int × Int)) (l22 : List Int) : Option ((List Int) × (List Int) × (List (Int × Int))) :=
 (loop (σ := (List (Int × Int)) × Int) (ρ := (List (Int × Int))) (fun s_ => column_Store_int_Sort_l3 x4 s_.1 s_.2) (s_2, 0)).bind (fun e_ => column_Store_int_Sort_j2 l22 x4 e_)
noncomputable def column_Store_int_Sort_l4 (x4 : List Int) (s_2 : List (Int × Int)) (s_0 : List Int) (l51 : List Int) (i54 : Int) : Option (((List Int) × Int) ⊕ (List Int)) :=
 cnd (decide (i54 < (x4.length : Int))) ((idx x4 i54).bind fun x56 =>
 (some ((mget s_2 x56).getD 0)).bind fun x66 =>
 (idx s_0 x66).bind fun x71 =>
 (idx l51 i54).bind fun x81 =>
 (upd l51 i54 x71).bind fun l90 =>
 some (.inl (l90, IntKind.i64.wrap (i54 + 1)))) (some (.inr l51))
noncomputable def column_Store_int_Sort (s_0 : List Int) (s_1 : List Int) (s_2 : List (Int × Int)) : Option ((List Int) × (List Int) × (List (Int × Int))) :=
 (slices_Values_int_int s_1).bind fun _ =>
 (slices_Sorted_int s_1).bind fun x4 =>
 (mk 8 (x4.length : Int) (0 : Int)).bind fun l11 =>
 (loop (σ := (List Int) × Int) (ρ := (List Int)) (fun s_ => column_Store_int_Sort_l4 x4 s_2 s_0 s_.1 s_.2) (l11, 0)).bind (fun e_ => column_Store_int_Sort_j1 x4 s_2 e_)
noncomputable def tourref3_Model_Sort_j2 (i8 : Int) (l10 : List Int) (l13 : List Int) : Option (((List Int) × (List Int) × Int) ⊕ (List Int) × (List Int)) :=
 some (.inl (l10, l13, IntKind.i64.wrap (i8 + 1)))
noncomputable def tourref3_Model_Sort_j4 (i22 : Int) (l24 : List Int) (l27 : List Int) : Option (((List Int) × (List Int) × Int) ⊕ (List Int) × (List Int)) :=
 some (.inl (l24, l27, IntKind.i64.wrap (i22 + 1)))
noncomputable def tourref3_Model_Sort_j5 (l19 : List Int) (i22 : Int) (i8 : Int) (l50 : List Int) : Option (((List Int) × (List Int) × Int) ⊕ (List Int) × (List Int)) :=
 (idx l19 i22).bind fun x53 =>
 (idx l19 i8).bind fun x63 =>
 (idx l19 i8).bind fun x72 =>
 (upd l19 i8 x53).bind fun l81 =>
 (idx l81 i22).bind fun x92 =>
 (upd l81 i22 x63).bind fun l101 =>
 tourref3_Model_Sort_j4 i22 l50 l101
noncomputable def tourref3_Model_Sort_l3 (i8 : Int) (l16 : List Int) (l19 : List Int) (i22 : Int) : Option (((List Int) × (List Int) × Int) ⊕ (List Int) × (List Int)) :=
 cnd (decide (i22 < i8)) ((idx l16 i22).bind fun x30 =>
 (idx l16 i8).bind fun x40 =>
 cnd (decide (x40 < x30)) ((idx l16 i22).bind fun x182 =>
 (idx l16 i8).bind fun x191 =>
 (idx l16 i8).bind fun x200 =>
 (upd l16 i8 x182).bind fun l209 =>
 (idx l209 i22).bind fun x220 =>
 (upd l209 i22 x191).bind fun l229 =>
 tourref3_Model_Sort_j5 l19 i22 i8 l229) (tourref3_Model_Sort_j4 i22 l16 l19)) (some (.inr (l16, l19)))
noncomputable def tourref3_Model_Sort_l1 (m_0 : List Int) (l2 : List Int) (l5 : List Int) (i8 : Int) : Option (((List Int) × (List Int) × Int) ⊕ (List Int) × (List Int)) :=
 cnd (decide (i8 < (m_0.length : Int))) ((loop (σ := (List Int) × (List Int) × Int) (ρ := (List Int) × (List Int)) (fun s_ => tourref3_Model_Sort_l3 i8 s_.1 s_.2.1 s_.2.2) (l2, l5, 0)).bind (fun e_ => tourref3_Model_Sort_j2 i8 e_.1 e_.2)) (some (.inr (l2, l5)))
noncomputable def tourref3_Model_Sort (m_0 : List Int) (m_1 : List Int) : Option ((List Int) × (List Int)) :=
 (loop (σ := (List Int) × (List Int) × Int) (ρ := (List Int) × (List Int)) (fun s_ => tourref3_Model_Sort_l1 m_0 s_.1 s_.2.1 s_.2.2) (m_0, m_1, 0)).bind (fun e_ => some (e_.1, e_.2))
noncomputable def column_Store_int_Len (s_0 : List Int) (s_1 : List Int) (s_2 : List (Int × Int)) : Option Int :=
 some (s_1.length : Int)
noncomputable def column_Store_int_Row (s_0 : List Int) (s_1 : List Int) (s_2 : List (Int × Int)) (n : Int) : Option Int :=
 (some ((mget s_2 n).getD 0)).bind fun x1 =>
 cnd ((mget s_2 n).isSome) (some x1) (some (-1))
noncomputable def column_Store_int_Get (s_0 : List Int) (s_1 : List Int) (s_2 : List (Int × Int)) (n : Int) : Option (Int × Bool) :=
 (some ((mget s_2 n).getD 0)).bind fun x1 =>
 cnd (!((mget s_2 n).isSome)) (some (0, false)) ((idx s_0 x1).bind fun x7 =>
 some (x7, true))
noncomputable def column_Store_int_All_j1 (l4 : List Int) (l10 : List Int) : Option ((List Int) × (List Int)) :=
 some (l4, l10)
noncomputable def column_Store_int_All (s_0 : List Int) (s_1 : List Int) (s_2 : List (Int × Int)) : Option ((List Int) × (List Int)) :=
 (slices_Clone_int_int s_1).bind fun x13 =>
 (slices_Clone_int_int s_0).bind fun x19 =>
 column_Store_int_All_j1 x13 x19
noncomputable def tourlaw3_agrees_j2 (m_0 : List Int) (i52 : Int) : Option Bool :=
 some (i52 == (m_0.length : Int))
noncomputable def tourlaw3_agrees_l3 (x61 : List Int) (x62 : List Int) (m_0 : List Int) (m_1 : List Int) (i84 : Int) : Option (Int ⊕ (Bool ⊕ Int)) :=
 cnd (decide (i84 < (x61.length : Int))) ((idx x61 i84).bind fun x86 =>
 (idx x62 i84).bind fun x96 =>
 cnd (decide ((m_0.length : Int) ≤ i84)) (some (.inr (.inl false))) ((idx m_0 i84).bind fun x108 =>
 cnd (!(x86 == x108)) (some (.inr (.inl false))) ((idx m_1 i84).bind fun x119 =>
 cnd (!(x96 == x119)) (some (.inr (.inl false))) (some (.inl (IntKind.i64.wrap (i84 + 1))))))) (some (.inr (.inr i84)))
noncomputable def tourlaw3_agrees_j1 (s_0 : List Int) (s_1 : List Int) (s_2 : List (Int × Int)) (m_0 : List Int) (m_1 : List Int) : Option Bool :=
 bnd2 (column_Store_int_All s_0 s_1 s_2) fun x61 x62 =>
 (loop (σ := Int) (ρ := (Bool ⊕ Int)) (fun s_ => tourlaw3_agrees_l3 x61 x62 m_0 m_1 s_) 0).bind (Sum.elim (fun e_ => some e_) (fun e_ => tourlaw3_agrees_j2 m_0 e_))
noncomputable def tourlaw3_agrees (s_0 : List Int) (s_1 : List Int) (s_2 : List (Int × Int)) (m_0 : List Int) (m_1 : List Int) (n : Int) : Option Bool :=
 (column_Store_int_Len s_0 s_1 s_2).bind fun x3 =>
 cnd (!(x3 == (m_0.length : Int))) (some false) ((column_Store_int_Rows s_0 s_1 s_2).bind fun x13 =>
 (slices_Equal_int_int x13 m_0).bind fun x26 =>
 cnd (!x26) (some false) ((column_Store_int_Row s_0 s_1 s_2 n).bind fun x29 =>
 (slices_Index_int_int m_0 n).bind fun x38 =>
 cnd (!(x29 == x38)) (some false) (bnd2 (column_Store_int_Get s_0 s_1 s_2 n) fun x41 x42 =>
 (slices_Index_int_int m_0 n).bind fun x130 =>
 cnd (!(x42 == decide (0 ≤ x130))) (some false) (cnd x42 ((idx m_1 x130).bind fun x134 =>
 cnd (!(x41 == x134)) (some false) (tourlaw3_agrees_j1 s_0 s_1 s_2 m_0 m_1)) (cnd (!(x41 == 0)) (some false) (tourlaw3_agrees_j1 s_0 s_1 s_2 m_0 m_1))))))
noncomputable def column_New_string : Option ((List ByteArray) × (List Int) × (List (Int × Int))) :=
 some (([] : List ByteArray), ([] : List Int), ([] : List (Int × Int)))
noncomputable def tourlaw3_ColumnPlays_1 (n : Int) (v : Int) : Option ByteArray :=
 (some (strOf ([IntKind.u8.wrap n, IntKind.u8.wrap v] : List Int))).bind fun u3 =>
 some u3
noncomputable def column_Store_string_Put_j1 (l30 : List (Int × Int)) (l38 : List ByteArray) (l43 : List Int) : Option (Int × (List ByteArray) × (List Int) × (List (Int × Int))) :=
 some (0, l38, l43, l30)
noncomputable def column_Store_string_Put (s_0 : List ByteArray) (s_1 : List Int) (s_2 : List (Int × Int)) (n : Int) (v : ByteArray) : Option (Int × (List ByteArray) × (List Int) × (List (Int × Int))) :=
 cnd (decide (n < 0)) (some (1, s_0, s_1, s_2)) (cnd (decide (256 ≤ n)) (some (1, s_0, s_1, s_2)) ((some ((mget s_2 n).getD 0)).bind fun x3 =>
 cnd ((mget s_2 n).isSome) ((idx s_0 x3).bind fun x9 =>
 (upd s_0 x3 v).bind fun l19 =>
 some (0, l19, s_1, s_2)) ((some (mput s_2 n (s_1.length : Int))).bind fun l30 =>
 (app 8 s_1 ([n] : List Int)).bind fun l48 =>
 (app 16 s_0 ([v] : List ByteArray)).bind fun l59 =>
 column_Store_string_Put_j1 l30 l59 l48)))
noncomputable def column_Map_int_string_j1 (l20 : List ByteArray) (l25 : List Int) (l30 : List (Int × Int)) : Option ((List ByteArray) × (List Int) × (List (Int × Int))) :=
 some (l20, l25, l30)
noncomputable def column_Map_int_string_l2 (x40 : List Int) (x41 : List Int) (i63 : Int) (l66 : List ByteArray) (l71 : List Int) (l76 : List (Int × Int)) : Option ((Int × (List ByteArray) × (List Int) × (List (Int × Int))) ⊕ (List ByteArray) × (List Int) × (List (Int × Int))) :=
 cnd (decide (i63 < (x40.length : Int))) ((idx x40 i63).bind fun x79 =>
 (idx x41 i63).bind fun x89 =>
 (tourlaw3_ColumnPlays_1 x79 x89).bind fun x100 =>
 bnd4 (column_Store_string_Put l66 l71 l76 x79 x100) fun x102 x103 x104 x105 =>
 some (.inl (IntKind.i64.wrap (i63 + 1), x103, x104, x105))) (some (.inr (l66, l71, l76)))
noncomputable def column_Map_int_string (s_0 : List Int) (s_1 : List Int) (s_2 : List (Int × Int)) : Option ((List ByteArray) × (List Int) × (List (Int × Int))) :=
 bnd3 (column_New_string) fun x2 x3 x4 =>
 bnd2 (column_Store_int_All s_0 s_1 s_2) fun x40 x41 =>
 (loop (σ := Int × (List ByteArray) × (List Int) × (List (Int × Int))) (ρ := (List ByteArray) × (List Int) × (List (Int × Int))) (fun s_ => column_Map_int_string_l2 x40 x41 s_.1 s_.2.1 s_.2.2.1 s_.2.2.2) (0, x2, x3, x4)).bind (fun e_ => column_Map_int_string_j1 e_.1 e_.2.1 e_.2.2)
noncomputable def column_Store_string_Rows (s_0 : List ByteArray) (s_1 : List Int) (s_2 : List (Int × Int)) : Option ((List Int)) :=
 (slices_Clone_int_int s_1).bind fun x1 =>
 some x1
noncomputable def column_Store_string_Get (s_0 : List ByteArray) (s_1 : List Int) (s_2 : List (Int × Int)) (n : Int) : Option (ByteArray × Bool) :=
 (some ((mget s_2 n).getD 0)).bind fun x1 =>
 cnd (!((mget s_2 n).isSome)) (some (⟨#[]⟩, false)) ((idx s_0 x1).bind fun x7 =>
 some (x7, true))
noncomputable def tourlaw3_ColumnPlays_j2 (l21 : List Int) (l26 : List Int) (l31 : List (Int × Int)) (l35 : List Int) (l40 : List Int) : Option Bool :=
 (tourlaw3_agrees l21 l26 l31 l35 l40 3).bind fun x85 =>
 some x85
noncomputable def tourlaw3_ColumnPlays_l3 (l35 : List Int) (x45 : List ByteArray) (x46 : List Int) (x47 : List (Int × Int)) (l40 : List Int) (i105 : Int) : Option (Int ⊕ (Bool ⊕ Unit)) :=
 cnd (decide (i105 < (l35.length : Int))) ((idx l35 i105).bind fun x107 =>
 bnd2 (column_Store_string_Get x45 x46 x47 x107) fun x117 x118 =>
 cnd (!x118) (some (.inr (.inl false))) ((idx l40 i105).bind fun x128 =>
 (some (strOf ([IntKind.u8.wrap x107, IntKind.u8.wrap x128] : List Int))).bind fun u140 =>
 cnd (!(x117.toList == u140.toList)) (some (.inr (.inl false))) (some (.inl (IntKind.i64.wrap (i105 + 1)))))) (some (.inr (.inr ())))
noncomputable def tourlaw3_ColumnPlays_j1 (l21 : List Int) (l26 : List Int) (l31 : List (Int × Int)) (l35 : List Int) (l40 : List Int) : Option Bool :=
 bnd3 (column_Map_int_string l21 l26 l31) fun x45 x46 x47 =>
 (column_Store_string_Rows x45 x46 x47).bind fun x69 =>
 (slices_Equal_int_int x69 l35).bind fun x82 =>
 cnd (!x82) (some false) ((loop (σ := Int) (ρ := (Bool ⊕ Unit)) (fun s_ => tourlaw3_ColumnPlays_l3 l35 x45 x46 x47 l40 s_) 0).bind (Sum.elim (fun e_ => some e_) (fun e_ => tourlaw3_ColumnPlays_j2 l21 l26 l31 l35 l40)))
noncomputable def tourlaw3_ColumnPlays_j5 (i173 : Int) (l179 : List Int) (l184 : List Int) (l189 : List (Int × Int)) (l193 : List Int) (l198 : List Int) : Option (((List Int) × (List Int) × (List (Int × Int)) × (List Int) × (List Int) × Int) ⊕ (Bool ⊕ (List Int) × (List Int) × (List (Int × Int)) × (List Int) × (List Int))) :=
 some (.inl (l179, l184, l189, l193, l198, IntKind.i64.wrap (i173 + 1)))
noncomputable def tourlaw3_ColumnPlays_j7 (i173 : Int) (i214 : Int) (l217 : List Int) (l222 : List Int) (l227 : List (Int × Int)) (l231 : List Int) (l236 : List Int) : Option (((List Int) × (List Int) × (List (Int × Int)) × (List Int) × (List Int) × Int) ⊕ (Bool ⊕ (List Int) × (List Int) × (List (Int × Int)) × (List Int) × (List Int))) :=
 cnd (Int.tmod i173 3 == 0) ((tourlaw3_agrees l217 l222 l227 l231 l236 i214).bind fun x242 =>
 cnd (!x242) (some (.inr (.inl false))) (tourlaw3_ColumnPlays_j5 i173 l217 l222 l227 l231 l236)) (tourlaw3_ColumnPlays_j5 i173 l217 l222 l227 l231 l236)
noncomputable def tourlaw3_ColumnPlays_j9 (l151 : List Int) (l156 : List Int) (l161 : List (Int × Int)) (i214 : Int) (l165 : List Int) (l170 : List Int) (i173 : Int) (t287 : Bool) : Option (((List Int) × (List Int) × (List (Int × Int)) × (List Int) × (List Int) × Int) ⊕ (Bool ⊕ (List Int) × (List Int) × (List (Int × Int)) × (List Int) × (List Int))) :=
 cnd t287 (bnd4 (column_Store_int_Drop l151 l156 l161 i214) fun x289 x290 x291 x292 =>
 bnd3 (tourref3_Model_Drop l165 l170 i214) fun x301 x302 x303 =>
 cnd (!(x289 == x301)) (some (.inr (.inl false))) (tourlaw3_ColumnPlays_j7 i173 i214 x290 x291 x292 x302 x303)) (bnd3 (column_Store_int_Sort l151 l156 l161) fun x321 x322 x323 =>
 bnd2 (tourref3_Model_Sort l165 l170) fun x336 x337 =>
 tourlaw3_ColumnPlays_j7 i173 i214 x321 x322 x323 x336 x337)
noncomputable def tourlaw3_ColumnPlays_j8 (l151 : List Int) (l156 : List Int) (l161 : List (Int × Int)) (i214 : Int) (x203 : Int) (l165 : List Int) (l170 : List Int) (i173 : Int) (t256 : Bool) : Option (((List Int) × (List Int) × (List (Int × Int)) × (List Int) × (List Int) × Int) ⊕ (Bool ⊕ (List Int) × (List Int) × (List (Int × Int)) × (List Int) × (List Int))) :=
 cnd t256 (bnd4 (column_Store_int_Put l151 l156 l161 i214 x203) fun x258 x259 x260 x261 =>
 bnd3 (tourref3_Model_Put l165 l170 i214 x203) fun x274 x275 x276 =>
 cnd (!(x258 == x274)) (some (.inr (.inl false))) (tourlaw3_ColumnPlays_j7 i173 i214 x259 x260 x261 x275 x276)) (cnd (Int.tmod x203 5 == 2) (tourlaw3_ColumnPlays_j9 l151 l156 l161 i214 l165 l170 i173 (Int.tmod x203 5 == 2)) (tourlaw3_ColumnPlays_j9 l151 l156 l161 i214 l165 l170 i173 (Int.tmod x203 5 == 3)))
noncomputable def tourlaw3_ColumnPlays_j6 (x203 : Int) (l151 : List Int) (l156 : List Int) (l161 : List (Int × Int)) (l165 : List Int) (l170 : List Int) (i173 : Int) (i214 : Int) : Option (((List Int) × (List Int) × (List (Int × Int)) × (List Int) × (List Int) × Int) ⊕ (Bool ⊕ (List Int) × (List Int) × (List (Int × Int)) × (List Int) × (List Int))) :=
 cnd (Int.tmod x203 5 == 0) (tourlaw3_ColumnPlays_j8 l151 l156 l161 i214 x203 l165 l170 i173 (Int.tmod x203 5 == 0)) (tourlaw3_ColumnPlays_j8 l151 l156 l161 i214 x203 l165 l170 i173 (Int.tmod x203 5 == 1))
noncomputable def tourlaw3_ColumnPlays_l4 (l : List Int) (l151 : List Int) (l156 : List Int) (l161 : List (Int × Int)) (l165 : List Int) (l170 : List Int) (i173 : Int) : Option (((List Int) × (List Int) × (List (Int × Int)) × (List Int) × (List Int) × Int) ⊕ (Bool ⊕ (List Int) × (List Int) × (List (Int × Int)) × (List Int) × (List Int))) :=
 cnd (decide (i173 < (l.length : Int))) ((idx l i173).bind fun x203 =>
 cnd (Int.tmod x203 31 == 0) (tourlaw3_ColumnPlays_j6 x203 l151 l156 l161 l165 l170 i173 300) (tourlaw3_ColumnPlays_j6 x203 l151 l156 l161 l165 l170 i173 (Int.tmod x203 7))) (some (.inr (.inr (l151, l156, l161, l165, l170))))
noncomputable def tourlaw3_ColumnPlays (l : List Int) : Option Bool :=
 (tourlaw3_stored).bind fun x1 =>
 cnd (!x1) (some false) (bnd2 (column_New_int) fun x4 x5 =>
 (loop (σ := (List Int) × (List Int) × (List (Int × Int)) × (List Int) × (List Int) × Int) (ρ := (Bool ⊕ (List Int) × (List Int) × (List (Int × Int)) × (List Int) × (List Int))) (fun s_ => tourlaw3_ColumnPlays_l4 l s_.1 s_.2.1 s_.2.2.1 s_.2.2.2.1 s_.2.2.2.2.1 s_.2.2.2.2.2) (x4, x4, x5, ([] : List Int), ([] : List Int), 0)).bind (Sum.elim (fun e_ => some e_) (fun e_ => tourlaw3_ColumnPlays_j1 e_.1 e_.2.1 e_.2.2.1 e_.2.2.2.1 e_.2.2.2.2)))
end Go.Proofs.Ytbfndcookgijfaa.P
