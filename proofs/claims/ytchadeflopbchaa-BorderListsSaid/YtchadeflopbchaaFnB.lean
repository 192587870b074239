/- The Go functions as plain functions over Option. No condition. -/
import Derived.Test.YtchadeflopbchaaTyB
import Derived.Test.YtchadeflopbchaaExFlt
import Derived.Test.YtchadeflopbchaaExMap
namespace Go.Proofs.Ytchadeflopbchaa.B
open Go Go.RowKit Go.Proofs.Ytchadeflopbchaa.Sx
set_option linter.unusedVariables false
noncomputable def math_IsNaN (f : Nat) : Option Unit :=
 some ()
noncomputable def math_Abs (x : Nat) : Option Nat :=
 some (Go.bits .andNot .u64 ((x : Nat) : Int) 9223372036854775808).toNat
noncomputable def math_IsInf_j1 (q1 : Nat) : Option Bool :=
 some (fgtr q1 9218868437227405311)
noncomputable def math_IsInf (f : Nat) (sign : Int) : Option Bool :=
 cnd (sign == 0) ((math_Abs f).bind fun x3 =>
 math_IsInf_j1 x3) (cnd (decide (sign < 0)) (math_IsInf_j1 (fneg f)) (math_IsInf_j1 f))
noncomputable def math_Trunc (x : Nat) : Option Nat :=
 (ftrunc x).bind fun q1 =>
 some q1
noncomputable def border_From (bits_1 : Int) : Option (Int × Int) :=
 (math_IsNaN ((bits_1).toNat)).bind fun _ =>
 cnd (fneq ((bits_1).toNat) ((bits_1).toNat)) (some (0, 3)) ((math_IsInf ((bits_1).toNat) 0).bind fun x3 =>
 cnd x3 (some (0, 3)) ((math_Abs ((bits_1).toNat)).bind fun x6 =>
 cnd (fgtr x6 4715268809856909312) (some (0, 2)) (cnd (bits_1 == 9223372036854775808) (some (0, 3)) ((floatBits .mul .f64 ((bits_1).toNat) 4679240012837945344).bind fun q10 =>
 (math_Trunc q10).bind fun x12 =>
 cnd (fneq q10 x12) (some (0, 3)) ((floatToIntVal .f64 q10 .i64).bind fun x15 =>
 some (x15, 0))))))
noncomputable def tourref1_FromBits_j4 (i9 : Int) : Option (Int × Int) :=
 some (i9, 0)
noncomputable def tourref1_FromBits_j3 (b : Int) (i8 : Int) : Option (Int × Int) :=
 cnd (Int.fdiv b 9223372036854775808 == 1) (tourref1_FromBits_j4 (IntKind.i64.wrap (0 - i8))) (tourref1_FromBits_j4 i8)
noncomputable def tourref1_FromBits_l5 (i11 : Int) (i12 : Int) : Option ((Int × Int) ⊕ ((Int × Int) ⊕ Int)) :=
 cnd (decide (i11 < 1059)) (cnd (Int.tmod i12 2 == 1) (some (.inr (.inl (0, 3)))) (some (.inl (IntKind.i64.wrap (i11 + 1), IntKind.i64.wrap (Int.tdiv i12 2))))) (some (.inr (.inr i12)))
noncomputable def tourref1_FromBits_j2 (i5 : Int) (b : Int) (i4 : Int) : Option (Int × Int) :=
 cnd (i5 == 0) (cnd (Int.fdiv b 9223372036854775808 == 1) (some (0, 3)) (some (0, 0))) ((loop (σ := Int × Int) (ρ := ((Int × Int) ⊕ Int)) (fun s_ => tourref1_FromBits_l5 s_.1 s_.2) (i4, i5)).bind (Sum.elim (fun e_ => some (e_.1, e_.2)) (fun e_ => tourref1_FromBits_j3 b e_)))
noncomputable def tourref1_FromBits_j1 (b : Int) (i4 : Int) (i5 : Int) : Option (Int × Int) :=
 cnd (decide (1047 < i4)) (some (0, 2)) (cnd (i4 == 1047) (cnd (decide (4503599627370496 < i5)) (some (0, 2)) (tourref1_FromBits_j2 i5 b i4)) (tourref1_FromBits_j2 i5 b i4))
noncomputable def tourref1_FromBits (b : Int) : Option (Int × Int) :=
 (some (IntKind.i64.wrap (Go.bits .and .u64 (Int.fdiv b 4503599627370496) 2047))).bind fun x1 =>
 cnd (x1 == 2047) (some (0, 3)) (cnd (decide (0 < x1)) ((some (IntKind.i64.wrap (IntKind.i64.wrap (Go.bits .and .u64 b 4503599627370495) + 4503599627370496))).bind fun x19 =>
 tourref1_FromBits_j1 b x1 x19) (tourref1_FromBits_j1 b 1 (IntKind.i64.wrap (Go.bits .and .u64 b 4503599627370495))))
noncomputable def fix_Clamp (a : Int) : Option Int :=
 some (min (max a (-1099511627776)) 1099511627776)
noncomputable def border_To (a : Int) : Option (Int × Int) :=
 (fix_Clamp a).bind fun x1 =>
 cnd (!(x1 == a)) (some (0, 2)) ((floatBits .quo .f64 (FloatKind.nearest .f64 a) 4679240012837945344).bind fun q4 =>
 some (((q4 : Nat) : Int), 0))
noncomputable def tourref1_Limit (a : Int) : Option Int :=
 cnd (decide (1099511627776 < a)) (some 1099511627776) (cnd (decide (a < (-1099511627776))) (some (-1099511627776)) (some a))
noncomputable def tourref1_ToBits_j2 (i3 : Int) (i4 : Int) (i5 : Int) : Option Int :=
 (some (IntKind.u64.wrap (IntKind.u64.wrap (i3 + IntKind.u64.wrap (IntKind.u64.wrap i5 * 4503599627370496)) + IntKind.u64.wrap (IntKind.i64.wrap (i4 - 4503599627370496))))).bind fun x6 =>
 some x6
noncomputable def tourref1_ToBits_l3 (i8 : Int) (i9 : Int) : Option ((Int × Int) ⊕ Int × Int) :=
 cnd (decide (i8 < 4503599627370496)) (some (.inl (IntKind.i64.wrap (2 * i8), IntKind.i64.wrap (i9 - 1)))) (some (.inr (i8, i9)))
noncomputable def tourref1_ToBits_j1 (i2 : Int) (i3 : Int) : Option Int :=
 (loop (σ := Int × Int) (ρ := Int × Int) (fun s_ => tourref1_ToBits_l3 s_.1 s_.2) (i2, 1059)).bind (fun e_ => tourref1_ToBits_j2 i3 e_.1 e_.2)
noncomputable def tourref1_ToBits (a : Int) : Option Int :=
 cnd (a == 0) (some 0) (cnd (decide (a < 0)) (tourref1_ToBits_j1 (IntKind.i64.wrap (0 - a)) 9223372036854775808) (tourref1_ToBits_j1 a 0))
noncomputable def tourlaw1_BorderTells_j1 (t20 : Bool) : Option Bool :=
 some t20
noncomputable def tourlaw1_BorderTells_j2 (t22 : Bool) : Option Bool :=
 some t22
noncomputable def tourlaw1_BorderTells (b : Int) (a : Int) : Option Bool :=
 bnd2 (border_From 4609434218613702656) fun x1 x2 =>
 cnd (!(x1 == 98304)) (some false) (cnd (!(x2 == 0)) (some false) (bnd2 (border_From b) fun x6 x7 =>
 bnd2 (tourref1_FromBits b) fun x9 x10 =>
 cnd (!(x6 == x9)) (some false) (cnd (!(x7 == x10)) (some false) (bnd2 (border_To a) fun x14 x15 =>
 (tourref1_Limit a).bind fun x17 =>
 cnd (!(a == x17)) (cnd (x14 == 0) (tourlaw1_BorderTells_j1 (x15 == 2)) (tourlaw1_BorderTells_j1 false)) (cnd (x15 == 0) ((tourref1_ToBits a).bind fun x24 =>
 tourlaw1_BorderTells_j2 (x14 == x24)) (tourlaw1_BorderTells_j2 false))))))
noncomputable def border_List_j1 (l3 : List Int) : Option ((List Int) × Int) :=
 some (l3, 0)
noncomputable def border_List_l2 (l : List Int) (l8 : List Int) (i11 : Int) : Option (((List Int) × Int) ⊕ (((List Int) × Int) ⊕ (List Int))) :=
 cnd (decide (i11 < (l.length : Int))) ((idx l i11).bind fun x13 =>
 bnd2 (border_From x13) fun x24 x25 =>
 cnd (!(x25 == 0)) (some (.inr (.inl (([] : List Int), x25)))) ((app 8 l8 ([x24] : List Int)).bind fun l30 =>
 some (.inl (l30, IntKind.i64.wrap (i11 + 1))))) (some (.inr (.inr l8)))
noncomputable def border_List (l : List Int) : Option ((List Int) × Int) :=
 (loop (σ := (List Int) × Int) (ρ := (((List Int) × Int) ⊕ (List Int))) (fun s_ => border_List_l2 l s_.1 s_.2) (([] : List Int), 0)).bind (Sum.elim (fun e_ => some (e_.1, e_.2)) (fun e_ => border_List_j1 e_))
noncomputable def slices_Equal_int_int_j1 : Option Bool :=
 some true
noncomputable def slices_Equal_int_int_l2 (s1_1 : List Int) (s2_1 : List Int) (i2 : Int) : Option (Int ⊕ (Bool ⊕ Unit)) :=
 cnd (decide (i2 < (s1_1.length : Int))) ((idx s1_1 i2).bind fun x4 =>
 (idx s2_1 i2).bind fun x15 =>
 cnd (!(x4 == x15)) (some (.inr (.inl false))) (some (.inl (IntKind.i64.wrap (i2 + 1))))) (some (.inr (.inr ())))
noncomputable def slices_Equal_int_int (s1_1 : List Int) (s2_1 : List Int) : Option Bool :=
 cnd (!((s1_1.length : Int) == (s2_1.length : Int))) (some false) ((loop (σ := Int) (ρ := (Bool ⊕ Unit)) (fun s_ => slices_Equal_int_int_l2 s1_1 s2_1 s_) 0).bind (Sum.elim (fun e_ => some e_) (fun e_ => slices_Equal_int_int_j1)))
noncomputable def tourlaw1_BorderLists_j2 (t28 : Bool) : Option Bool :=
 some t28
noncomputable def tourlaw1_BorderLists_j1 (x17 : Int) (x16 : List Int) (l25 : List Int) : Option Bool :=
 cnd (x17 == 0) ((slices_Equal_int_int x16 l25).bind fun x30 =>
 tourlaw1_BorderLists_j2 x30) (tourlaw1_BorderLists_j2 false)
noncomputable def tourlaw1_BorderLists_j4 (t54 : Bool) : Option (((List Int) × Int) ⊕ (Bool ⊕ (List Int))) :=
 some (.inr (.inl t54))
noncomputable def tourlaw1_BorderLists_l3 (l : List Int) (x17 : Int) (x16 : List Int) (l34 : List Int) (i37 : Int) : Option (((List Int) × Int) ⊕ (Bool ⊕ (List Int))) :=
 cnd (decide (i37 < (l.length : Int))) ((idx l i37).bind fun x39 =>
 bnd2 (tourref1_FromBits x39) fun x50 x51 =>
 cnd (!(x51 == 0)) (cnd (x17 == x51) (tourlaw1_BorderLists_j4 ((x16.length : Int) == 0)) (tourlaw1_BorderLists_j4 false)) ((app 8 l34 ([x50] : List Int)).bind fun l58 =>
 some (.inl (l58, IntKind.i64.wrap (i37 + 1))))) (some (.inr (.inr l34)))
noncomputable def tourlaw1_BorderLists (l : List Int) : Option Bool :=
 bnd2 (border_List ([4609434218613702656] : List Int)) fun x3 x4 =>
 cnd (!(x4 == 0)) (some false) ((slices_Equal_int_int x3 ([98304] : List Int)).bind fun x13 =>
 cnd (!x13) (some false) (bnd2 (border_List l) fun x16 x17 =>
 (loop (σ := (List Int) × Int) (ρ := (Bool ⊕ (List Int))) (fun s_ => tourlaw1_BorderLists_l3 l x17 x16 s_.1 s_.2) (([] : List Int), 0)).bind (Sum.elim (fun e_ => some e_) (fun e_ => tourlaw1_BorderLists_j1 x17 x16 e_))))
end Go.Proofs.Ytchadeflopbchaa.B
