/- The Go functions as plain functions over Option. No condition. -/
import Derived.Test.YtfihfbkjomploaaTyX
namespace Go.Proofs.Ytfihfbkjomploaa.X
open Go Go.RowKit Go.Proofs.Ytfihfbkjomploaa.Sx
set_option linter.unusedVariables false
noncomputable def bits_New (b : List Int) : Option ((List Int)) :=
 (app 1 ([] : List Int) b).bind fun l1 =>
 some l1
noncomputable def bits_Reader_Left (r_0 : List Int) (r_1 : Int) : Option Int :=
 (some (IntKind.i64.wrap (IntKind.i64.wrap (8 * (r_0.length : Int)) - r_1))).bind fun x1 =>
 some x1
noncomputable def bits_Reader_Get_j1 (i8 : Int) (i12 : Int) : Option (Int × Int × Int) :=
 some (i8, 0, i12)
noncomputable def bits_Reader_Get_l2 (n : Int) (r_0 : List Int) (i16 : Int) (i17 : Int) (i18 : Int) : Option ((Int × Int × Int) ⊕ Int × Int) :=
 cnd (decide (i18 < n)) ((idx r_0 (IntKind.i64.wrap (Int.tdiv i16 8))).bind fun x20 =>
 (shr .u8 x20 (Int.tmod i16 8)).bind fun x30 =>
 (shl .u64 (IntKind.u64.wrap (Go.bits .and .u8 x30 1)) i18).bind fun x34 =>
 some (.inl (IntKind.i64.wrap (i16 + 1), Go.bits .or .u64 i17 x34, IntKind.i64.wrap (i18 + 1)))) (some (.inr (i17, i16)))
noncomputable def bits_Reader_Get (r_0 : List Int) (r_1 : Int) (n : Int) : Option (Int × Int × Int) :=
 cnd (decide (n < 0)) (some (0, 1, r_1)) (cnd (decide (64 < n)) (some (0, 1, r_1)) ((bits_Reader_Left r_0 r_1).bind fun x3 =>
 cnd (decide (x3 < n)) (some (0, 14, r_1)) ((loop (σ := Int × Int × Int) (ρ := Int × Int) (fun s_ => bits_Reader_Get_l2 n r_0 s_.1 s_.2.1 s_.2.2) (r_1, 0, 0)).bind (fun e_ => bits_Reader_Get_j1 e_.1 e_.2))))
noncomputable def tourref1_BitsOf_j1 (l4 : List Bool) : Option ((List Bool)) :=
 some l4
noncomputable def tourref1_BitsOf_j3 (i16 : Int) (l20 : List Bool) : Option (((List Bool) × Int) ⊕ (List Bool)) :=
 some (.inl (l20, IntKind.i64.wrap (i16 + 1)))
noncomputable def tourref1_BitsOf_l4 (l36 : List Bool) (i39 : Int) (i40 : Int) : Option (((List Bool) × Int × Int) ⊕ (List Bool)) :=
 cnd (decide (i40 < 8)) ((app 1 l36 ([(Int.tmod i39 2 == 1)] : List Bool)).bind fun l44 =>
 some (.inl (l44, IntKind.u8.wrap (Int.tdiv i39 2), IntKind.i64.wrap (i40 + 1)))) (some (.inr l36))
noncomputable def tourref1_BitsOf_l2 (l : List Int) (l13 : List Bool) (i16 : Int) : Option (((List Bool) × Int) ⊕ (List Bool)) :=
 cnd (decide (i16 < (l.length : Int))) ((idx l i16).bind fun x23 =>
 (loop (σ := (List Bool) × Int × Int) (ρ := (List Bool)) (fun s_ => tourref1_BitsOf_l4 s_.1 s_.2.1 s_.2.2) (l13, x23, 0)).bind (fun e_ => tourref1_BitsOf_j3 i16 e_)) (some (.inr l13))
noncomputable def tourref1_BitsOf (l : List Int) : Option ((List Bool)) :=
 (loop (σ := (List Bool) × Int) (ρ := (List Bool)) (fun s_ => tourref1_BitsOf_l2 l s_.1 s_.2) (([] : List Bool), 0)).bind (fun e_ => tourref1_BitsOf_j1 e_)
noncomputable def tourref1_Bits_Read_j1 (b_1 : Int) (n : Int) (i7 : Int) : Option (Int × Int × Int) :=
 some (i7, 0, IntKind.i64.wrap (b_1 + n))
noncomputable def tourref1_Bits_Read_j3 (i12 : Int) (i17 : Int) : Option ((Int × Int) ⊕ Int) :=
 some (.inl (i17, IntKind.i64.wrap (i12 - 1)))
noncomputable def tourref1_Bits_Read_l2 (b_0 : List Bool) (b_1 : Int) (i11 : Int) (i12 : Int) : Option ((Int × Int) ⊕ Int) :=
 cnd (decide (0 ≤ i12)) ((idx b_0 (IntKind.i64.wrap (b_1 + i12))).bind fun x18 =>
 cnd x18 (tourref1_Bits_Read_j3 i12 (IntKind.u64.wrap (IntKind.u64.wrap (i11 * 2) + 1))) (tourref1_Bits_Read_j3 i12 (IntKind.u64.wrap (i11 * 2)))) (some (.inr i11))
noncomputable def tourref1_Bits_Read (b_0 : List Bool) (b_1 : Int) (n : Int) : Option (Int × Int × Int) :=
 cnd (decide (n < 0)) (some (0, 1, b_1)) (cnd (decide (64 < n)) (some (0, 1, b_1)) (cnd (decide ((b_0.length : Int) < IntKind.i64.wrap (b_1 + n))) (some (0, 14, b_1)) ((loop (σ := Int × Int) (ρ := Int) (fun s_ => tourref1_Bits_Read_l2 b_0 b_1 s_.1 s_.2) (0, IntKind.i64.wrap (n - 1))).bind (fun e_ => tourref1_Bits_Read_j1 b_1 n e_))))
noncomputable def bits_Reader_Nat_j2 (r_1 : Int) (x7 : Int) (i6 : Int) (i5 : Int) (x9 : Int) (i14 : Int) : Option ((Int × Int × Int) ⊕ Int × Int × Int) :=
 cnd (!(i14 == 0)) (some (.inr (0, i14, r_1))) ((shl .u64 (Go.bits .and .u64 x7 15) (IntKind.i64.wrap (4 * i6))).bind fun x16 =>
 cnd (decide (x7 < 16)) (some (.inr (Go.bits .or .u64 i5 x16, 0, x9))) (some (.inl (x9, Go.bits .or .u64 i5 x16, IntKind.i64.wrap (i6 + 1)))))
noncomputable def bits_Reader_Nat_l1 (r_0 : List Int) (r_1 : Int) (i4 : Int) (i5 : Int) (i6 : Int) : Option ((Int × Int × Int) ⊕ Int × Int × Int) :=
 bnd3 (bits_Reader_Get r_0 i4 5) fun x7 x8 x9 =>
 cnd (x8 == 0) (cnd (i6 == 16) (bits_Reader_Nat_j2 r_1 x7 i6 i5 x9 3) (cnd (x7 == 0) (cnd (decide (0 < i6)) (bits_Reader_Nat_j2 r_1 x7 i6 i5 x9 3) (bits_Reader_Nat_j2 r_1 x7 i6 i5 x9 x8)) (bits_Reader_Nat_j2 r_1 x7 i6 i5 x9 x8))) (bits_Reader_Nat_j2 r_1 x7 i6 i5 x9 x8)
noncomputable def bits_Reader_Nat (r_0 : List Int) (r_1 : Int) : Option (Int × Int × Int) :=
 (loop (σ := Int × Int × Int) (ρ := Int × Int × Int) (fun s_ => bits_Reader_Nat_l1 r_0 r_1 s_.1 s_.2.1 s_.2.2) (r_1, 0, 0)).bind (fun e_ => some (e_.1, e_.2.1, e_.2.2))
noncomputable def tourref1_Bits_ReadNat_j2 (b_1 : Int) (i4 : Int) (i8 : Int) : Option (Int × Int × Int) :=
 some (i8, 0, IntKind.i64.wrap (b_1 + IntKind.i64.wrap (5 * i4)))
noncomputable def tourref1_Bits_ReadNat_j5 (i12 : Int) (i18 : Int) (i13 : Int) : Option ((Int × Int) ⊕ ((Int × Int × Int) ⊕ Int)) :=
 some (.inl (IntKind.u64.wrap (IntKind.u64.wrap (16 * i12) + i18), IntKind.i64.wrap (i13 - 1)))
noncomputable def tourref1_Bits_ReadNat_j4 (i13 : Int) (i4 : Int) (b_1 : Int) (i12 : Int) (i18 : Int) : Option ((Int × Int) ⊕ ((Int × Int × Int) ⊕ Int)) :=
 cnd (i13 == IntKind.i64.wrap (i4 - 1)) (cnd (decide (0 < i13)) (cnd (i18 == 0) (some (.inr (.inl (0, 3, b_1)))) (tourref1_Bits_ReadNat_j5 i12 i18 i13)) (tourref1_Bits_ReadNat_j5 i12 i18 i13)) (tourref1_Bits_ReadNat_j5 i12 i18 i13)
noncomputable def tourref1_Bits_ReadNat_j7 (i26 : Int) (i31 : Int) : Option ((Int × Int) ⊕ Int) :=
 some (.inl (i31, IntKind.i64.wrap (i26 - 1)))
noncomputable def tourref1_Bits_ReadNat_l6 (b_1 : Int) (i13 : Int) (b_0 : List Bool) (i25 : Int) (i26 : Int) : Option ((Int × Int) ⊕ Int) :=
 cnd (decide (0 ≤ i26)) ((some (IntKind.i64.wrap (IntKind.i64.wrap (b_1 + IntKind.i64.wrap (5 * i13)) + i26))).bind fun x32 =>
 (idx b_0 x32).bind fun x34 =>
 cnd x34 (tourref1_Bits_ReadNat_j7 i26 (IntKind.u64.wrap (IntKind.u64.wrap (i25 * 2) + 1))) (tourref1_Bits_ReadNat_j7 i26 (IntKind.u64.wrap (i25 * 2)))) (some (.inr i25))
noncomputable def tourref1_Bits_ReadNat_l3 (b_1 : Int) (b_0 : List Bool) (i4 : Int) (i12 : Int) (i13 : Int) : Option ((Int × Int) ⊕ ((Int × Int × Int) ⊕ Int)) :=
 cnd (decide (0 ≤ i13)) ((loop (σ := Int × Int) (ρ := Int) (fun s_ => tourref1_Bits_ReadNat_l6 b_1 i13 b_0 s_.1 s_.2) (0, 3)).bind (fun e_ => tourref1_Bits_ReadNat_j4 i13 i4 b_1 i12 e_)) (some (.inr (.inr i12)))
noncomputable def tourref1_Bits_ReadNat_j1 (b_1 : Int) (b_0 : List Bool) (i4 : Int) : Option (Int × Int × Int) :=
 (loop (σ := Int × Int) (ρ := ((Int × Int × Int) ⊕ Int)) (fun s_ => tourref1_Bits_ReadNat_l3 b_1 b_0 i4 s_.1 s_.2) (0, IntKind.i64.wrap (i4 - 1))).bind (Sum.elim (fun e_ => some (e_.1, e_.2.1, e_.2.2)) (fun e_ => tourref1_Bits_ReadNat_j2 b_1 i4 e_))
noncomputable def tourref1_Bits_ReadNat_l8 (b_1 : Int) (b_0 : List Bool) (i48 : Int) : Option (Int ⊕ ((Int × Int × Int) ⊕ Int)) :=
 (some (IntKind.i64.wrap (IntKind.i64.wrap (b_1 + IntKind.i64.wrap (5 * i48)) + 5))).bind fun x49 =>
 cnd (decide ((b_0.length : Int) < x49)) (some (.inr (.inl (0, 14, b_1)))) (cnd (i48 == 16) (some (.inr (.inl (0, 3, b_1)))) ((some (IntKind.i64.wrap (IntKind.i64.wrap (b_1 + IntKind.i64.wrap (5 * IntKind.i64.wrap (i48 + 1))) - 1))).bind fun x53 =>
 (idx b_0 x53).bind fun x55 =>
 cnd (!x55) (some (.inr (.inr (IntKind.i64.wrap (i48 + 1))))) (some (.inl (IntKind.i64.wrap (i48 + 1))))))
noncomputable def tourref1_Bits_ReadNat (b_0 : List Bool) (b_1 : Int) : Option (Int × Int × Int) :=
 (loop (σ := Int) (ρ := ((Int × Int × Int) ⊕ Int)) (fun s_ => tourref1_Bits_ReadNat_l8 b_1 b_0 s_) 0).bind (Sum.elim (fun e_ => some (e_.1, e_.2.1, e_.2.2)) (fun e_ => tourref1_Bits_ReadNat_j1 b_1 b_0 e_))
noncomputable def bits_Reader_Int (r_0 : List Int) (r_1 : Int) : Option (Int × Int × Int) :=
 bnd3 (bits_Reader_Nat r_0 r_1) fun x1 x2 x3 =>
 cnd (!(x2 == 0)) (some (0, x2, x3)) ((some (IntKind.i64.wrap (Go.bits .xor .u64 (Int.fdiv x1 2) (IntKind.u64.wrap (0 - Go.bits .and .u64 x1 1))))).bind fun x9 =>
 some (x9, 0, x3))
noncomputable def tourref1_Unzigzag (v : Int) : Option Int :=
 cnd (Int.tmod v 2 == 1) ((some (IntKind.i64.wrap (IntKind.i64.wrap (0 - IntKind.i64.wrap (IntKind.u64.wrap (Int.tdiv v 2))) - 1))).bind fun x2 =>
 some x2) (some (IntKind.i64.wrap (IntKind.u64.wrap (Int.tdiv v 2))))
noncomputable def tourlaw1_BitsReads_j1 : Option Bool :=
 some true
noncomputable def tourlaw1_BitsReads_j3 (x19 : List Int) (x26 : List Bool) (i41 : Int) (i58 : Int) (i62 : Int) : Option ((Int × Int × Int) ⊕ (Bool ⊕ Unit)) :=
 (bits_Reader_Left x19 i58).bind fun x63 =>
 cnd (!(x63 == IntKind.i64.wrap ((x26.length : Int) - i62))) (some (.inr (.inl false))) (some (.inl (i58, i62, IntKind.i64.wrap (i41 + 1))))
noncomputable def tourlaw1_BitsReads_l2 (l : List (Int × Int)) (x19 : List Int) (x26 : List Bool) (i36 : Int) (i40 : Int) (i41 : Int) : Option ((Int × Int × Int) ⊕ (Bool ⊕ Unit)) :=
 cnd (decide (i41 < (l.length : Int))) ((idx l i41).bind fun x43 =>
 cnd (x43.2 == 0) (bnd3 (bits_Reader_Get x19 i36 x43.1) fun x69 x70 x71 =>
 bnd3 (tourref1_Bits_Read x26 i40 x43.1) fun x76 x77 x78 =>
 cnd (!(x69 == x76)) (some (.inr (.inl false))) (cnd (!(x70 == x77)) (some (.inr (.inl false))) (tourlaw1_BitsReads_j3 x19 x26 i41 x71 x78))) (cnd (x43.2 == 1) (bnd3 (bits_Reader_Nat x19 i36) fun x86 x87 x88 =>
 bnd3 (tourref1_Bits_ReadNat x26 i40) fun x93 x94 x95 =>
 cnd (!(x86 == x93)) (some (.inr (.inl false))) (cnd (!(x87 == x94)) (some (.inr (.inl false))) (tourlaw1_BitsReads_j3 x19 x26 i41 x88 x95))) (cnd (x43.2 == 2) (bnd3 (bits_Reader_Int x19 i36) fun x103 x104 x105 =>
 bnd3 (tourref1_Bits_ReadNat x26 i40) fun x110 x111 x112 =>
 (tourref1_Unzigzag x110).bind fun x117 =>
 cnd (!(x103 == x117)) (some (.inr (.inl false))) (cnd (!(x104 == x111)) (some (.inr (.inl false))) (tourlaw1_BitsReads_j3 x19 x26 i41 x105 x112))) (tourlaw1_BitsReads_j3 x19 x26 i41 i36 i40)))) (some (.inr (.inr ())))
noncomputable def tourlaw1_BitsReads (data : List Int) (l : List (Int × Int)) : Option Bool :=
 (bits_New ([6] : List Int)).bind fun x3 =>
 bnd3 (bits_Reader_Get x3 0 2) fun x10 x11 x12 =>
 cnd (!(x10 == 2)) (some false) (cnd (!(x11 == 0)) (some false) ((bits_New data).bind fun x19 =>
 (tourref1_BitsOf data).bind fun x26 =>
 (loop (σ := Int × Int × Int) (ρ := (Bool ⊕ Unit)) (fun s_ => tourlaw1_BitsReads_l2 l x19 x26 s_.1 s_.2.1 s_.2.2) (0, 0, 0)).bind (Sum.elim (fun e_ => some e_) (fun e_ => tourlaw1_BitsReads_j1))))
noncomputable def bits_Writer_Put_j2 (l4 : List Int) (i7 : Int) : Option (Int × (List Int) × Int) :=
 some (0, l4, i7)
noncomputable def bits_Writer_Put_j4 (i13 : Int) (v : Int) (i14 : Int) (l18 : List Int) : Option (((List Int) × Int × Int) ⊕ (List Int) × Int) :=
 (idx l18 (IntKind.i64.wrap (Int.tdiv i13 8))).bind fun x21 =>
 (shr .u64 v i14).bind fun x31 =>
 (shl .u8 (IntKind.u8.wrap (Go.bits .and .u64 x31 1)) (Int.tmod i13 8)).bind fun x35 =>
 (idx l18 (IntKind.i64.wrap (Int.tdiv i13 8))).bind fun x39 =>
 (upd l18 (IntKind.i64.wrap (Int.tdiv i13 8)) (Go.bits .or .u8 x21 x35)).bind fun l48 =>
 some (.inl (l48, IntKind.i64.wrap (i13 + 1), IntKind.i64.wrap (i14 + 1)))
noncomputable def bits_Writer_Put_l3 (n : Int) (v : Int) (l10 : List Int) (i13 : Int) (i14 : Int) : Option (((List Int) × Int × Int) ⊕ (List Int) × Int) :=
 cnd (decide (i14 < n)) (cnd (Int.tmod i13 8 == 0) ((app 1 l10 ([0] : List Int)).bind fun l62 =>
 bits_Writer_Put_j4 i13 v i14 l62) (bits_Writer_Put_j4 i13 v i14 l10)) (some (.inr (l10, i13)))
noncomputable def bits_Writer_Put_j1 (w_1 : Int) (n : Int) (w_0 : List Int) (v : Int) : Option (Int × (List Int) × Int) :=
 cnd (decide (524288 < IntKind.i64.wrap (w_1 + n))) (some (6, w_0, w_1)) ((loop (σ := (List Int) × Int × Int) (ρ := (List Int) × Int) (fun s_ => bits_Writer_Put_l3 n v s_.1 s_.2.1 s_.2.2) (w_0, w_1, 0)).bind (fun e_ => bits_Writer_Put_j2 e_.1 e_.2))
noncomputable def bits_Writer_Put (w_0 : List Int) (w_1 : Int) (v : Int) (n : Int) : Option (Int × (List Int) × Int) :=
 cnd (decide (n < 0)) (some (1, w_0, w_1)) (cnd (decide (64 < n)) (some (1, w_0, w_1)) (cnd (decide (n < 64)) ((shr .u64 v n).bind fun x74 =>
 cnd (!(x74 == 0)) (some (1, w_0, w_1)) (bits_Writer_Put_j1 w_1 n w_0 v)) (bits_Writer_Put_j1 w_1 n w_0 v)))
noncomputable def bits_Writer_Len (w_0 : List Int) (w_1 : Int) : Option Unit :=
 some ()
noncomputable def bits_Writer_Bytes (w_0 : List Int) (w_1 : Int) : Option ((List Int)) :=
 (app 1 ([] : List Int) w_0).bind fun l1 =>
 some l1
noncomputable def slices_Equal_byte_byte_j1 : Option Bool :=
 some true
noncomputable def slices_Equal_byte_byte_l2 (s1_1 : List Int) (s2_1 : List Int) (i2 : Int) : Option (Int ⊕ (Bool ⊕ Unit)) :=
 cnd (decide (i2 < (s1_1.length : Int))) ((idx s1_1 i2).bind fun x4 =>
 (idx s2_1 i2).bind fun x15 =>
 cnd (!(x4 == x15)) (some (.inr (.inl false))) (some (.inl (IntKind.i64.wrap (i2 + 1))))) (some (.inr (.inr ())))
noncomputable def slices_Equal_byte_byte (s1_1 : List Int) (s2_1 : List Int) : Option Bool :=
 cnd (!((s1_1.length : Int) == (s2_1.length : Int))) (some false) ((loop (σ := Int) (ρ := (Bool ⊕ Unit)) (fun s_ => slices_Equal_byte_byte_l2 s1_1 s2_1 s_) 0).bind (Sum.elim (fun e_ => some e_) (fun e_ => slices_Equal_byte_byte_j1)))
noncomputable def tourlaw1_bitsBegun_j1 (t10 : Bool) : Option Bool :=
 some t10
noncomputable def tourlaw1_bitsBegun : Option Bool :=
 bnd3 (bits_Writer_Put ([] : List Int) 0 5 3) fun x2 x3 x4 =>
 cnd (x2 == 0) ((bits_Writer_Len x3 x4).bind fun _ =>
 cnd (x4 == 3) ((bits_Writer_Bytes x3 x4).bind fun x16 =>
 (slices_Equal_byte_byte x16 ([5] : List Int)).bind fun x26 =>
 tourlaw1_bitsBegun_j1 x26) (tourlaw1_bitsBegun_j1 false)) (tourlaw1_bitsBegun_j1 false)
noncomputable def tourref1_Bits_Add_j1 (b_0 : List Bool) (n : Int) (i3 : Int) (l6 : List Bool) : Option (Int × (List Bool)) :=
 cnd (!(i3 == 0)) (some (1, b_0)) (cnd (decide (524288 < IntKind.i64.wrap ((b_0.length : Int) + n))) (some (6, b_0)) ((app 1 b_0 l6).bind fun l11 =>
 some (0, l11)))
noncomputable def tourref1_Bits_Add_l2 (n : Int) (i20 : Int) (l23 : List Bool) (i26 : Int) : Option ((Int × (List Bool) × Int) ⊕ Int × (List Bool)) :=
 cnd (decide (i26 < n)) ((app 1 l23 ([(Int.tmod i20 2 == 1)] : List Bool)).bind fun l30 =>
 some (.inl (IntKind.u64.wrap (Int.tdiv i20 2), l30, IntKind.i64.wrap (i26 + 1)))) (some (.inr (i20, l23)))
noncomputable def tourref1_Bits_Add (b_0 : List Bool) (b_1 : Int) (v : Int) (n : Int) : Option (Int × (List Bool)) :=
 cnd (decide (n < 0)) (some (1, b_0)) (cnd (decide (64 < n)) (some (1, b_0)) ((loop (σ := Int × (List Bool) × Int) (ρ := Int × (List Bool)) (fun s_ => tourref1_Bits_Add_l2 n s_.1 s_.2.1 s_.2.2) (v, ([] : List Bool), 0)).bind (fun e_ => tourref1_Bits_Add_j1 b_0 n e_.1 e_.2)))
noncomputable def bits_groups_j1 (i1 : Int) : Option Int :=
 some i1
noncomputable def bits_groups_l2 (i2 : Int) (i3 : Int) : Option ((Int × Int) ⊕ Int) :=
 cnd (decide (0 < i2)) (some (.inl (Int.fdiv i2 16, IntKind.i64.wrap (i3 + 1)))) (some (.inr i3))
noncomputable def bits_groups (v : Int) : Option Int :=
 (loop (σ := Int × Int) (ρ := Int) (fun s_ => bits_groups_l2 s_.1 s_.2) (Int.fdiv v 16, 1)).bind (fun e_ => bits_groups_j1 e_)
noncomputable def bits_Writer_Nat_j1 (l6 : List Int) (i9 : Int) : Option (Int × (List Int) × Int) :=
 some (0, l6, i9)
noncomputable def bits_Writer_Nat_j3 (v : Int) (i16 : Int) (l12 : List Int) (i15 : Int) (i18 : Int) : Option (((List Int) × Int × Int) ⊕ (List Int) × Int) :=
 (shr .u64 v (IntKind.i64.wrap (4 * i16))).bind fun x19 =>
 bnd3 (bits_Writer_Put l12 i15 (Go.bits .or .u64 (Go.bits .and .u64 x19 15) i18) 5) fun x23 x24 x25 =>
 some (.inl (x24, x25, IntKind.i64.wrap (i16 + 1)))
noncomputable def bits_Writer_Nat_l2 (x1 : Int) (v : Int) (l12 : List Int) (i15 : Int) (i16 : Int) : Option (((List Int) × Int × Int) ⊕ (List Int) × Int) :=
 cnd (decide (i16 < x1)) (cnd (decide (IntKind.i64.wrap (i16 + 1) < x1)) (bits_Writer_Nat_j3 v i16 l12 i15 16) (bits_Writer_Nat_j3 v i16 l12 i15 0)) (some (.inr (l12, i15)))
noncomputable def bits_Writer_Nat (w_0 : List Int) (w_1 : Int) (v : Int) : Option (Int × (List Int) × Int) :=
 (bits_groups v).bind fun x1 =>
 cnd (decide (524288 < IntKind.i64.wrap (w_1 + IntKind.i64.wrap (5 * x1)))) (some (6, w_0, w_1)) ((loop (σ := (List Int) × Int × Int) (ρ := (List Int) × Int) (fun s_ => bits_Writer_Nat_l2 x1 v s_.1 s_.2.1 s_.2.2) (w_0, w_1, 0)).bind (fun e_ => bits_Writer_Nat_j1 e_.1 e_.2))
noncomputable def tourref1_Bits_AddNat_j1 (b_0 : List Bool) (l3 : List Bool) : Option (Int × (List Bool)) :=
 cnd (decide (524288 < IntKind.i64.wrap ((b_0.length : Int) + (l3.length : Int)))) (some (6, b_0)) ((app 1 b_0 l3).bind fun l7 =>
 some (0, l7))
noncomputable def tourref1_Bits_AddNat_j3 (i24 : Int) (l27 : List Bool) : Option ((Int × (List Bool) × Bool) ⊕ (List Bool)) :=
 (app 1 l27 ([decide (0 < i24)] : List Bool)).bind fun l32 =>
 some (.inl (i24, l32, decide (0 < i24)))
noncomputable def tourref1_Bits_AddNat_l4 (i41 : Int) (l44 : List Bool) (i47 : Int) : Option ((Int × (List Bool) × Int) ⊕ Int × (List Bool)) :=
 cnd (decide (i47 < 4)) ((app 1 l44 ([(Int.tmod i41 2 == 1)] : List Bool)).bind fun l51 =>
 some (.inl (IntKind.u64.wrap (Int.tdiv i41 2), l51, IntKind.i64.wrap (i47 + 1)))) (some (.inr (i41, l44)))
noncomputable def tourref1_Bits_AddNat_l2 (i16 : Int) (l19 : List Bool) (t22 : Bool) : Option ((Int × (List Bool) × Bool) ⊕ (List Bool)) :=
 cnd t22 ((loop (σ := Int × (List Bool) × Int) (ρ := Int × (List Bool)) (fun s_ => tourref1_Bits_AddNat_l4 s_.1 s_.2.1 s_.2.2) (i16, l19, 0)).bind (fun e_ => tourref1_Bits_AddNat_j3 e_.1 e_.2)) (some (.inr l19))
noncomputable def tourref1_Bits_AddNat (b_0 : List Bool) (b_1 : Int) (v : Int) : Option (Int × (List Bool)) :=
 (loop (σ := Int × (List Bool) × Bool) (ρ := (List Bool)) (fun s_ => tourref1_Bits_AddNat_l2 s_.1 s_.2.1 s_.2.2) (v, ([] : List Bool), true)).bind (fun e_ => tourref1_Bits_AddNat_j1 b_0 e_)
noncomputable def bits_Writer_Int (w_0 : List Int) (w_1 : Int) (v : Int) : Option (Int × (List Int) × Int) :=
 (some (Go.bits .xor .u64 (IntKind.u64.wrap (IntKind.u64.wrap v * 2)) (IntKind.u64.wrap (Int.fdiv v 9223372036854775808)))).bind fun x1 =>
 bnd3 (bits_Writer_Nat w_0 w_1 x1) fun x3 x4 x5 =>
 some (x3, x4, x5)
noncomputable def tourref1_Zigzag (v : Int) : Option Int :=
 cnd (decide (v < 0)) ((some (IntKind.u64.wrap (IntKind.u64.wrap (2 * IntKind.u64.wrap (IntKind.i64.wrap (0 - IntKind.i64.wrap (v + 1)))) + 1))).bind fun x2 =>
 some x2) (some (IntKind.u64.wrap (2 * IntKind.u64.wrap v)))
noncomputable def tourref1_Bits_Bytes_j1 (l14 : List Int) : Option ((List Int)) :=
 some l14
noncomputable def tourref1_Bits_Bytes_j3 (i26 : Int) (l28 : List Int) : Option (((List Int) × Int) ⊕ (List Int)) :=
 some (.inl (l28, IntKind.i64.wrap (i26 + 1)))
noncomputable def tourref1_Bits_Bytes_l2 (b_0 : List Bool) (l20 : List Int) (i26 : Int) : Option (((List Int) × Int) ⊕ (List Int)) :=
 cnd (decide (i26 < (b_0.length : Int))) ((idx b_0 i26).bind fun x34 =>
 cnd x34 ((idx l20 (IntKind.i64.wrap (Int.tdiv i26 8))).bind fun x45 =>
 (shl .u8 1 (Int.tmod i26 8)).bind fun x54 =>
 (idx l20 (IntKind.i64.wrap (Int.tdiv i26 8))).bind fun x58 =>
 (upd l20 (IntKind.i64.wrap (Int.tdiv i26 8)) (IntKind.u8.wrap (x45 + x54))).bind fun l67 =>
 tourref1_Bits_Bytes_j3 i26 l67) (tourref1_Bits_Bytes_j3 i26 l20)) (some (.inr l20))
noncomputable def tourref1_Bits_Bytes (b_0 : List Bool) (b_1 : Int) : Option ((List Int)) :=
 (some (IntKind.i64.wrap (Int.tdiv (IntKind.i64.wrap ((b_0.length : Int) + 7)) 8))).bind fun x1 =>
 (mk 1 x1 (0 : Int)).bind fun l3 =>
 (loop (σ := (List Int) × Int) (ρ := (List Int)) (fun s_ => tourref1_Bits_Bytes_l2 b_0 s_.1 s_.2) (l3, 0)).bind (fun e_ => tourref1_Bits_Bytes_j1 e_)
noncomputable def tourlaw1_BitsWrites_j1 (l8 : List Int) (i11 : Int) (l14 : List Bool) : Option Bool :=
 (bits_Writer_Bytes l8 i11).bind fun x17 =>
 (tourref1_Bits_Bytes l14 0).bind fun x25 =>
 (slices_Equal_byte_byte x17 x25).bind fun x34 =>
 some x34
noncomputable def tourlaw1_BitsWrites_j3 (i53 : Int) (l69 : List Int) (i72 : Int) (l75 : List Bool) (i78 : Int) (i79 : Int) : Option (((List Int) × Int × (List Bool) × Int) ⊕ (Bool ⊕ (List Int) × Int × (List Bool))) :=
 cnd (!(i78 == i79)) (some (.inr (.inl false))) ((bits_Writer_Len l69 i72).bind fun _ =>
 cnd (!(i72 == (l75.length : Int))) (some (.inr (.inl false))) (some (.inl (l69, i72, l75, IntKind.i64.wrap (i53 + 1)))))
noncomputable def tourlaw1_BitsWrites_l2 (l : List (Int × Int × Int)) (l44 : List Int) (i47 : Int) (l50 : List Bool) (i53 : Int) : Option (((List Int) × Int × (List Bool) × Int) ⊕ (Bool ⊕ (List Int) × Int × (List Bool))) :=
 cnd (decide (i53 < (l.length : Int))) ((idx l i53).bind fun x55 =>
 cnd (x55.2.2 == 0) (bnd3 (bits_Writer_Put l44 i47 (IntKind.u64.wrap x55.1) x55.2.1) fun x86 x87 x88 =>
 bnd2 (tourref1_Bits_Add l50 0 (IntKind.u64.wrap x55.1) x55.2.1) fun x94 x95 =>
 tourlaw1_BitsWrites_j3 i53 x87 x88 x95 x86 x94) (cnd (x55.2.2 == 1) (bnd3 (bits_Writer_Nat l44 i47 (IntKind.u64.wrap x55.1)) fun x102 x103 x104 =>
 bnd2 (tourref1_Bits_AddNat l50 0 (IntKind.u64.wrap x55.1)) fun x110 x111 =>
 tourlaw1_BitsWrites_j3 i53 x103 x104 x111 x102 x110) (cnd (x55.2.2 == 2) (bnd3 (bits_Writer_Int l44 i47 x55.1) fun x118 x119 x120 =>
 (tourref1_Zigzag x55.1).bind fun x126 =>
 bnd2 (tourref1_Bits_AddNat l50 0 x126) fun x128 x129 =>
 tourlaw1_BitsWrites_j3 i53 x119 x120 x129 x118 x128) (tourlaw1_BitsWrites_j3 i53 l44 i47 l50 0 0)))) (some (.inr (.inr (l44, i47, l50))))
noncomputable def tourlaw1_BitsWrites (l : List (Int × Int × Int)) : Option Bool :=
 (tourlaw1_bitsBegun).bind fun x1 =>
 cnd (!x1) (some false) ((loop (σ := (List Int) × Int × (List Bool) × Int) (ρ := (Bool ⊕ (List Int) × Int × (List Bool))) (fun s_ => tourlaw1_BitsWrites_l2 l s_.1 s_.2.1 s_.2.2.1 s_.2.2.2) (([] : List Int), 0, ([] : List Bool), 0)).bind (Sum.elim (fun e_ => some e_) (fun e_ => tourlaw1_BitsWrites_j1 e_.1 e_.2.1 e_.2.2)))
noncomputable def fix_Clamp (a : Int) : Option Int :=
 some (min (max a (-1099511627776)) 1099511627776)
noncomputable def quant_Fit (f_0 : ByteArray) (f_1 : Int) (f_2 : Int) (v : Int) : Option Int :=
 (fix_Clamp f_2).bind fun x2 =>
 (shl .i64 1 (min (max f_1 0) 32)).bind fun x4 =>
 (some (min (max v x2) (IntKind.i64.wrap (IntKind.i64.wrap (x2 + x4) - 1)))).bind fun x8 =>
 some x8
noncomputable def tourlaw1_quantBegun : Option Bool :=
 (quant_Fit ByteArray.empty 3 (-2) 9).bind fun x1 =>
 some (x1 == 5)
noncomputable def quant_Check (f_0 : ByteArray) (f_1 : Int) (f_2 : Int) : Option Int :=
 cnd (decide (f_1 < 0)) (some 3) (cnd (decide (32 < f_1)) (some 3) ((fix_Clamp f_2).bind fun x4 =>
 cnd (!(f_2 == x4)) (some 3) (some 0)))
noncomputable def quant_Put (w_0 : List Int) (w_1 : Int) (f_0 : ByteArray) (f_1 : Int) (f_2 : Int) (v : Int) : Option (Int × (List Int) × Int) :=
 (quant_Check f_0 f_1 f_2).bind fun x2 =>
 cnd (!(x2 == 0)) (some (x2, w_0, w_1)) ((quant_Fit f_0 f_1 f_2 v).bind fun x5 =>
 cnd (!(x5 == v)) (some (1, w_0, w_1)) (bnd3 (bits_Writer_Put w_0 w_1 (IntKind.u64.wrap (IntKind.i64.wrap (v - f_2))) f_1) fun x8 x9 x10 =>
 some (x8, x9, x10)))
noncomputable def quant_Get (r_0 : List Int) (r_1 : Int) (f_0 : ByteArray) (f_1 : Int) (f_2 : Int) : Option (Int × Int × Int) :=
 (quant_Check f_0 f_1 f_2).bind fun x2 =>
 cnd (!(x2 == 0)) (some (0, x2, r_1)) (bnd3 (bits_Reader_Get r_0 r_1 f_1) fun x5 x6 x7 =>
 cnd (!(x6 == 0)) (some (0, x6, x7)) (some (IntKind.i64.wrap (f_2 + IntKind.i64.wrap x5), 0, x7)))
noncomputable def tourref1_Limit (a : Int) : Option Int :=
 cnd (decide (1099511627776 < a)) (some 1099511627776) (cnd (decide (a < (-1099511627776))) (some (-1099511627776)) (some a))
noncomputable def tourref1_Fitted_j1 (v : Int) (x2 : Int) (i4 : Int) : Option Int :=
 cnd (decide (v < x2)) (some x2) (cnd (decide (i4 < v)) (some i4) (some v))
noncomputable def tourref1_Fitted_l2 (f_1 : Int) (i7 : Int) (i8 : Int) : Option ((Int × Int) ⊕ Int) :=
 cnd (decide (i8 < f_1)) (cnd (decide (i8 < 32)) ((shl .i64 1 i8).bind fun x11 =>
 some (.inl (IntKind.i64.wrap (i7 + x11), IntKind.i64.wrap (i8 + 1)))) (some (.inr i7))) (some (.inr i7))
noncomputable def tourref1_Fitted (f_0 : ByteArray) (f_1 : Int) (f_2 : Int) (v : Int) : Option Int :=
 (tourref1_Limit f_2).bind fun x2 =>
 (loop (σ := Int × Int) (ρ := Int) (fun s_ => tourref1_Fitted_l2 f_1 s_.1 s_.2) (x2, 0)).bind (fun e_ => tourref1_Fitted_j1 v x2 e_)
noncomputable def tourref1_FieldIs_j1 (t2 : Bool) : Option Bool :=
 some t2
noncomputable def tourref1_FieldIs (f_0 : ByteArray) (f_1 : Int) (f_2 : Int) : Option Bool :=
 cnd (decide (0 ≤ f_1)) (cnd (decide (f_1 ≤ 32)) ((tourref1_Limit f_2).bind fun x5 =>
 tourref1_FieldIs_j1 (f_2 == x5)) (tourref1_FieldIs_j1 false)) (tourref1_FieldIs_j1 false)
noncomputable def tourlaw1_QuantFields_j1 (t36 : Bool) : Option Bool :=
 some t36
noncomputable def tourlaw1_QuantFields_j3 (t79 : Bool) : Option Bool :=
 some t79
noncomputable def tourlaw1_QuantFields_j4 (t92 : Bool) : Option Bool :=
 some t92
noncomputable def tourlaw1_QuantFields_j2 (f_0 : ByteArray) (f_1 : Int) (f_2 : Int) (x22 : Int) (x59 : Int) (x21 : Int) (x14 : List Int) (x23 : Int) (x51 : List Bool) (x60 : Int) (v : Int) (x6 : Int) (x7 : List Int) (x8 : Int) (i65 : Int) : Option Bool :=
 (quant_Check f_0 f_1 f_2).bind fun x66 =>
 cnd (!(x66 == 0)) (some false) (cnd (!(x22 == x59)) (some false) (cnd (!(x21 == IntKind.i64.wrap i65)) (some false) ((bits_Reader_Left x14 x23).bind fun x71 =>
 cnd (!(x71 == IntKind.i64.wrap ((x51.length : Int) - x60))) (some false) ((tourref1_Fitted f_0 f_1 f_2 v).bind fun x76 =>
 cnd (!(x76 == v)) (cnd (x6 == 1) ((bits_Writer_Len x7 x8).bind fun _ =>
 tourlaw1_QuantFields_j3 (x8 == 0)) (tourlaw1_QuantFields_j3 false)) (bnd2 (tourref1_Bits_Add ([] : List Bool) 0 (IntKind.u64.wrap (IntKind.i64.wrap (v - f_2))) f_1) fun x85 x86 =>
 cnd (x6 == 0) ((bits_Writer_Len x7 x8).bind fun _ =>
 cnd (x8 == f_1) ((bits_Writer_Bytes x7 x8).bind fun x98 =>
 (tourref1_Bits_Bytes x86 0).bind fun x106 =>
 (slices_Equal_byte_byte x98 x106).bind fun x115 =>
 tourlaw1_QuantFields_j4 x115) (tourlaw1_QuantFields_j4 false)) (tourlaw1_QuantFields_j4 false))))))
noncomputable def tourlaw1_QuantFields (f_0 : ByteArray) (f_1 : Int) (f_2 : Int) (v : Int) (data : List Int) : Option Bool :=
 (tourlaw1_quantBegun).bind fun x2 =>
 cnd (!x2) (some false) (bnd3 (quant_Put ([] : List Int) 0 f_0 f_1 f_2 v) fun x6 x7 x8 =>
 (bits_New data).bind fun x14 =>
 bnd3 (quant_Get x14 0 f_0 f_1 f_2) fun x21 x22 x23 =>
 (quant_Fit f_0 f_1 f_2 v).bind fun x28 =>
 (tourref1_Fitted f_0 f_1 f_2 v).bind fun x30 =>
 cnd (!(x28 == x30)) (some false) ((tourref1_FieldIs f_0 f_1 f_2).bind fun x33 =>
 cnd (!x33) ((quant_Check f_0 f_1 f_2).bind fun x37 =>
 cnd (x37 == 3) (cnd (x6 == 3) (cnd (x22 == 3) (cnd (x21 == 0) ((bits_Writer_Len x7 x8).bind fun _ =>
 cnd (x8 == 0) ((bits_Reader_Left x14 x23).bind fun x47 =>
 tourlaw1_QuantFields_j1 (x47 == IntKind.i64.wrap (8 * (data.length : Int)))) (tourlaw1_QuantFields_j1 false)) (tourlaw1_QuantFields_j1 false)) (tourlaw1_QuantFields_j1 false)) (tourlaw1_QuantFields_j1 false)) (tourlaw1_QuantFields_j1 false)) ((tourref1_BitsOf data).bind fun x51 =>
 bnd3 (tourref1_Bits_Read x51 0 f_1) fun x58 x59 x60 =>
 cnd (x59 == 0) (tourlaw1_QuantFields_j2 f_0 f_1 f_2 x22 x59 x21 x14 x23 x51 x60 v x6 x7 x8 (IntKind.u64.wrap (x58 + IntKind.u64.wrap f_2))) (tourlaw1_QuantFields_j2 f_0 f_1 f_2 x22 x59 x21 x14 x23 x51 x60 v x6 x7 x8 x58))))
noncomputable def merkle_filled_j1 (l15 : List Int) : Option ((List Int)) :=
 some l15
noncomputable def merkle_filled_l2 (b : List Int) (l20 : List Int) (i23 : Int) : Option (((List Int) × Int) ⊕ (List Int)) :=
 cnd (decide (i23 < (b.length : Int))) ((idx b i23).bind fun x25 =>
 (app 8 l20 ([Go.bits .xor .u64 18446744073709551615 x25] : List Int)).bind fun l38 =>
 some (.inl (l38, IntKind.i64.wrap (i23 + 1)))) (some (.inr l20))
noncomputable def merkle_filled (a : List Int) (b : List Int) : Option ((List Int)) :=
 (app 8 ([] : List Int) a).bind fun l1 =>
 (loop (σ := (List Int) × Int) (ρ := (List Int)) (fun s_ => merkle_filled_l2 b s_.1 s_.2) (l1, (a.length : Int))).bind (fun e_ => merkle_filled_j1 e_)
noncomputable def rnd_Mix (x : Int) : Option Int :=
 (some (IntKind.u64.wrap (Go.bits .xor .u64 x (Int.fdiv x 2147483648) * 7640891576956012809))).bind fun x1 =>
 (some (IntKind.u64.wrap (Go.bits .xor .u64 x1 (Int.fdiv x1 134217728) * 13503953896175478587))).bind fun x3 =>
 some (Go.bits .xor .u64 x3 (Int.fdiv x3 1073741824))
noncomputable def sum_Join (a : Int) (b : Int) : Option Int :=
 (rnd_Mix (IntKind.u64.wrap (a + 5840696475078001361))).bind fun x1 =>
 (some (IntKind.u64.wrap (IntKind.u64.wrap (x1 * 11170449401992604703) + b))).bind fun x3 =>
 (rnd_Mix x3).bind fun x5 =>
 some x5
noncomputable def merkle_levels_j1 (l21 : List (List Int)) : Option ((List (List Int))) :=
 some l21
noncomputable def merkle_levels_j3 (l40 : List (List Int)) (l52 : List Int) : Option (((List (List Int)) × (List Int)) ⊕ (List (List Int))) :=
 (app 24 l40 ([l52] : List (List Int))).bind fun l61 =>
 some (.inl (l61, l52))
noncomputable def merkle_levels_j5 (i75 : Int) (l79 : List Int) : Option (((List Int) × Int) ⊕ (List Int)) :=
 some (.inl (l79, IntKind.i64.wrap (i75 + 2)))
noncomputable def merkle_levels_l4 (l45 : List Int) (l72 : List Int) (i75 : Int) : Option (((List Int) × Int) ⊕ (List Int)) :=
 cnd (decide (i75 < (l45.length : Int))) (cnd (decide (IntKind.i64.wrap (i75 + 1) < (l45.length : Int))) ((idx l45 i75).bind fun x83 =>
 (idx l45 (IntKind.i64.wrap (i75 + 1))).bind fun x94 =>
 (sum_Join x83 x94).bind fun x105 =>
 (app 8 l72 ([x105] : List Int)).bind fun l109 =>
 merkle_levels_j5 i75 l109) ((idx l45 i75).bind fun x118 =>
 (app 8 l72 ([x118] : List Int)).bind fun l131 =>
 merkle_levels_j5 i75 l131)) (some (.inr l72))
noncomputable def merkle_levels_l2 (l40 : List (List Int)) (l45 : List Int) : Option (((List (List Int)) × (List Int)) ⊕ (List (List Int))) :=
 cnd (decide (1 < (l45.length : Int))) ((loop (σ := (List Int) × Int) (ρ := (List Int)) (fun s_ => merkle_levels_l4 l45 s_.1 s_.2) (([] : List Int), 0)).bind (fun e_ => merkle_levels_j3 l40 e_)) (some (.inr l40))
noncomputable def merkle_levels (leaves : List Int) : Option ((List (List Int))) :=
 (app 8 ([] : List Int) leaves).bind fun l1 =>
 (idx ([l1] : List (List Int)) 0).bind fun x26 =>
 (loop (σ := (List (List Int)) × (List Int)) (ρ := (List (List Int))) (fun s_ => merkle_levels_l2 s_.1 s_.2) (([l1] : List (List Int)), x26)).bind (fun e_ => merkle_levels_j1 e_)
noncomputable def merkle_Narrow_j1 (i90 : Int) (i91 : Int) : Option (Int × Int) :=
 some (i90, i91)
noncomputable def merkle_Narrow_j3 (i96 : Int) (i98 : Int) (i99 : Int) : Option ((Int × Int × Int) ⊕ Int × Int) :=
 some (.inl (i98, i99, IntKind.i64.wrap (i96 - 1)))
noncomputable def merkle_Narrow_l2 (x13 : List (List Int)) (x32 : List (List Int)) (i94 : Int) (i95 : Int) (i96 : Int) : Option ((Int × Int × Int) ⊕ Int × Int) :=
 cnd (decide (0 ≤ i96)) ((idx x13 i96).bind fun x100 =>
 cnd (IntKind.i64.wrap (IntKind.i64.wrap (i94 * 2) + 1) == (x100.length : Int)) (merkle_Narrow_j3 i96 (IntKind.i64.wrap (i94 * 2)) i95) ((idx x13 i96).bind fun x113 =>
 (idx x113 (IntKind.i64.wrap (i94 * 2))).bind fun x125 =>
 (idx x32 i96).bind fun x136 =>
 (idx x136 (IntKind.i64.wrap (i94 * 2))).bind fun x148 =>
 cnd (x125 == x148) (merkle_Narrow_j3 i96 (IntKind.i64.wrap (IntKind.i64.wrap (i94 * 2) + 1)) (IntKind.i64.wrap (i95 + 1))) (merkle_Narrow_j3 i96 (IntKind.i64.wrap (i94 * 2)) (IntKind.i64.wrap (i95 + 1))))) (some (.inr (i94, i95)))
noncomputable def merkle_Narrow (a : List Int) (b : List Int) : Option (Int × Int) :=
 cnd (max (a.length : Int) (b.length : Int) == 0) (some ((-1), 0)) (cnd (decide (4096 < max (a.length : Int) (b.length : Int))) (some ((-1), 0)) ((merkle_filled a b).bind fun x3 =>
 (merkle_levels x3).bind fun x13 =>
 (merkle_filled b a).bind fun x22 =>
 (merkle_levels x22).bind fun x32 =>
 (idx x13 (IntKind.i64.wrap ((x13.length : Int) - 1))).bind fun x41 =>
 (idx x41 0).bind fun x54 =>
 (idx x32 (IntKind.i64.wrap ((x13.length : Int) - 1))).bind fun x65 =>
 (idx x65 0).bind fun x78 =>
 cnd (x54 == x78) (some ((-1), 1)) ((some (IntKind.i64.wrap (IntKind.i64.wrap ((x13.length : Int) - 1) - 1))).bind fun x92 =>
 (loop (σ := Int × Int × Int) (ρ := Int × Int) (fun s_ => merkle_Narrow_l2 x13 x32 s_.1 s_.2.1 s_.2.2) (0, 1, x92)).bind (fun e_ => merkle_Narrow_j1 e_.1 e_.2))))
noncomputable def tourlaw1_merkleBegun_j1 (t19 : Bool) : Option Bool :=
 some t19
noncomputable def tourlaw1_merkleBegun : Option Bool :=
 bnd2 (merkle_Narrow ([1, 2, 3] : List Int) ([1, 2, 4] : List Int)) fun x13 x14 =>
 cnd (x13 == 2) (tourlaw1_merkleBegun_j1 (x14 == 2)) (tourlaw1_merkleBegun_j1 false)
noncomputable def slices_Clone_uint64_uint64 (s : List Int) : Option ((List Int)) :=
 (app 8 ([] : List Int) s).bind fun l5 =>
 some l5
noncomputable def tourref1_half_j1 (i1 : Int) : Option Int :=
 some i1
noncomputable def tourref1_half_l2 (n : Int) (i2 : Int) : Option (Int ⊕ Int) :=
 cnd (decide (IntKind.i64.wrap (2 * i2) < n)) (some (.inl (IntKind.i64.wrap (i2 * 2)))) (some (.inr i2))
noncomputable def tourref1_half (n : Int) : Option Int :=
 (loop (σ := Int) (ρ := Int) (fun s_ => tourref1_half_l2 n s_) 1).bind (fun e_ => tourref1_half_j1 e_)
noncomputable def tourref1_Scrambled_j1 (i1 : Int) : Option Int :=
 some i1
noncomputable def tourref1_Scrambled_l2 (x4 : Int) (i6 : Int) (i7 : Int) : Option ((Int × Int) ⊕ Int) :=
 cnd (decide (i7 < x4)) ((idx ([(31, 7640891576956012809), (27, 13503953896175478587), (30, 1)] : List (Int × Int)) i7).bind fun x9 =>
 (shl .u64 1 x9.1).bind fun x19 =>
 (quo .u64 i6 x19).bind fun x23 =>
 some (.inl (IntKind.u64.wrap (Go.bits .xor .u64 i6 x23 * x9.2), IntKind.i64.wrap (i7 + 1)))) (some (.inr i6))
noncomputable def tourref1_Scrambled (x : Int) : Option Int :=
 (some (([(31, 7640891576956012809), (27, 13503953896175478587), (30, 1)] : List (Int × Int)).length : Int)).bind fun x4 =>
 (loop (σ := Int × Int) (ρ := Int) (fun s_ => tourref1_Scrambled_l2 x4 s_.1 s_.2) (x, 0)).bind (fun e_ => tourref1_Scrambled_j1 e_)
noncomputable def tourref1_Tied (a : Int) (b : Int) : Option Int :=
 (tourref1_Scrambled (IntKind.u64.wrap (a + 5840696475078001361))).bind fun x1 =>
 (some (IntKind.u64.wrap (IntKind.u64.wrap (x1 * 11170449401992604703) + b))).bind fun x3 =>
 (tourref1_Scrambled x3).bind fun x5 =>
 some x5
noncomputable def tourref1_Top_j1 (i16 : Int) : Option Int :=
 some i16
noncomputable def tourref1_Top_b (self_ : (List Int) → Option Int) (l : List Int) : Option Int :=
 cnd ((l.length : Int) == 0) (some 0) (cnd ((l.length : Int) == 1) ((idx l 0).bind fun x3 =>
 some x3) ((tourref1_half (l.length : Int)).bind fun x14 =>
 (cut l 0 x14).bind fun l17 =>
 (self_ l17).bind fun x28 =>
 (cut l x14 (l.length : Int)).bind fun l30 =>
 (self_ l30).bind fun x41 =>
 (tourref1_Tied x28 x41).bind fun x43 =>
 tourref1_Top_j1 x43))
noncomputable def tourref1_Top_s (self_ : (List Int) → Option Int) (p_ : (List Int)) : Option Int := tourref1_Top_b (fun l => self_ l) p_
noncomputable def tourref1_Top (l : List Int) : Option Int := fix tourref1_Top_s l
noncomputable def tourref1_Narrowed_j3 (i34 : Int) (i35 : Int) : Option (Int × Int) :=
 some (i34, i35)
noncomputable def tourref1_Narrowed_j5 (l40 : List Int) (x59 : Int) (l44 : List Int) (i46 : Int) (i47 : Int) (t61 : Bool) : Option (((List Int) × (List Int) × Int × Int) ⊕ Int × Int) :=
 cnd t61 ((cut l40 0 x59).bind fun l63 =>
 (cut l44 0 x59).bind fun l74 =>
 some (.inl (l63, l74, i46, IntKind.i64.wrap (i47 + 1)))) ((cut l40 x59 (l40.length : Int)).bind fun l112 =>
 (cut l44 x59 (l44.length : Int)).bind fun l123 =>
 some (.inl (l112, l123, IntKind.i64.wrap (i46 + x59), IntKind.i64.wrap (i47 + 1))))
noncomputable def tourref1_Narrowed_l4 (l40 : List Int) (l44 : List Int) (i46 : Int) (i47 : Int) : Option (((List Int) × (List Int) × Int × Int) ⊕ Int × Int) :=
 cnd (decide (1 < (l40.length : Int))) ((tourref1_half (l40.length : Int)).bind fun x59 =>
 (cut l40 0 x59).bind fun l161 =>
 (tourref1_Top l161).bind fun x172 =>
 (cut l44 0 x59).bind fun l174 =>
 (tourref1_Top l174).bind fun x185 =>
 tourref1_Narrowed_j5 l40 x59 l44 i46 i47 (!(x172 == x185))) (some (.inr (i46, i47)))
noncomputable def tourref1_Narrowed_j2 (l15 : List Int) (l26 : List Int) : Option (Int × Int) :=
 (tourref1_Top l15).bind fun x29 =>
 (tourref1_Top l26).bind fun x31 =>
 cnd (x29 == x31) (some ((-1), 1)) ((loop (σ := (List Int) × (List Int) × Int × Int) (ρ := Int × Int) (fun s_ => tourref1_Narrowed_l4 s_.1 s_.2.1 s_.2.2.1 s_.2.2.2) (l15, l26, 0, 1)).bind (fun e_ => tourref1_Narrowed_j3 e_.1 e_.2))
noncomputable def tourref1_Narrowed_l6 (l15 : List Int) (l237 : List Int) : Option ((List Int) ⊕ (List Int)) :=
 cnd (decide ((l237.length : Int) < (l15.length : Int))) ((idx l15 (l237.length : Int)).bind fun x241 =>
 (app 8 l237 ([Go.bits .xor .u64 18446744073709551615 x241] : List Int)).bind fun l253 =>
 some (.inl l253)) (some (.inr l237))
noncomputable def tourref1_Narrowed_j1 (x7 : List Int) (l15 : List Int) : Option (Int × Int) :=
 (loop (σ := (List Int)) (ρ := (List Int)) (fun s_ => tourref1_Narrowed_l6 l15 s_) x7).bind (fun e_ => tourref1_Narrowed_j2 l15 e_)
noncomputable def tourref1_Narrowed_l7 (x7 : List Int) (l264 : List Int) : Option ((List Int) ⊕ (List Int)) :=
 cnd (decide ((l264.length : Int) < (x7.length : Int))) ((idx x7 (l264.length : Int)).bind fun x271 =>
 (app 8 l264 ([Go.bits .xor .u64 18446744073709551615 x271] : List Int)).bind fun l283 =>
 some (.inl l283)) (some (.inr l264))
noncomputable def tourref1_Narrowed (a : List Int) (b : List Int) : Option (Int × Int) :=
 (slices_Clone_uint64_uint64 a).bind fun x1 =>
 (slices_Clone_uint64_uint64 b).bind fun x7 =>
 (loop (σ := (List Int)) (ρ := (List Int)) (fun s_ => tourref1_Narrowed_l7 x7 s_) x1).bind (fun e_ => tourref1_Narrowed_j1 x7 e_)
noncomputable def tourlaw1_MerkleNarrows_j1 (t14 : Bool) : Option Bool :=
 some t14
noncomputable def tourlaw1_MerkleNarrows_j2 (t17 : Bool) : Option Bool :=
 some t17
noncomputable def tourlaw1_MerkleNarrows_j3 (t25 : Bool) : Option Bool :=
 some t25
noncomputable def tourlaw1_MerkleNarrows (a : List Int) (b : List Int) : Option Bool :=
 (tourlaw1_merkleBegun).bind fun x1 =>
 cnd (!x1) (some false) (bnd2 (merkle_Narrow a b) fun x7 x8 =>
 cnd (max (a.length : Int) (b.length : Int) == 0) (cnd (x7 == (-1)) (tourlaw1_MerkleNarrows_j1 (x8 == 0)) (tourlaw1_MerkleNarrows_j1 false)) (cnd (decide (4096 < max (a.length : Int) (b.length : Int))) (cnd (x7 == (-1)) (tourlaw1_MerkleNarrows_j2 (x8 == 0)) (tourlaw1_MerkleNarrows_j2 false)) (bnd2 (tourref1_Narrowed a b) fun x19 x20 =>
 cnd (x7 == x19) (tourlaw1_MerkleNarrows_j3 (x8 == x20)) (tourlaw1_MerkleNarrows_j3 false))))
noncomputable def merkle_Verify_j2 (t10 : Bool) : Option Bool :=
 some t10
noncomputable def merkle_Verify_j1 (root : Int) (i5 : Int) (l8 : List Int) : Option Bool :=
 cnd ((l8.length : Int) == 0) (merkle_Verify_j2 (i5 == root)) (merkle_Verify_j2 false)
noncomputable def merkle_Verify_j4 (i12 : Int) (i13 : Int) (i20 : Int) (l23 : List Int) : Option ((Int × Int × Int × (List Int)) ⊕ (Bool ⊕ Int × (List Int))) :=
 some (.inl (IntKind.i64.wrap (Int.tdiv (IntKind.i64.wrap (i12 + 1)) 2), IntKind.i64.wrap (Int.tdiv i13 2), i20, l23))
noncomputable def merkle_Verify_j5 (l17 : List Int) (i12 : Int) (i13 : Int) (i27 : Int) : Option ((Int × Int × Int × (List Int)) ⊕ (Bool ⊕ Int × (List Int))) :=
 (cut l17 1 (l17.length : Int)).bind fun l28 =>
 merkle_Verify_j4 i12 i13 i27 l28
noncomputable def merkle_Verify_l3 (i12 : Int) (i13 : Int) (i14 : Int) (l17 : List Int) : Option ((Int × Int × Int × (List Int)) ⊕ (Bool ⊕ Int × (List Int))) :=
 cnd (decide (1 < i12)) (cnd (decide (Go.bits .xor .i64 i13 1 < i12)) (cnd ((l17.length : Int) == 0) (some (.inr (.inl false))) (cnd (Int.tmod i13 2 == 0) ((idx l17 0).bind fun x40 =>
 (sum_Join i14 x40).bind fun x51 =>
 merkle_Verify_j5 l17 i12 i13 x51) ((idx l17 0).bind fun x53 =>
 (sum_Join x53 i14).bind fun x64 =>
 merkle_Verify_j5 l17 i12 i13 x64))) (merkle_Verify_j4 i12 i13 i14 l17)) (some (.inr (.inr (i14, l17))))
noncomputable def merkle_Verify (root : Int) (n : Int) (i : Int) (leaf : Int) (proof : List Int) : Option Bool :=
 cnd (decide (n < 1)) (some false) (cnd (decide (4096 < n)) (some false) (cnd (decide (i < 0)) (some false) (cnd (decide (n ≤ i)) (some false) ((loop (σ := Int × Int × Int × (List Int)) (ρ := (Bool ⊕ Int × (List Int))) (fun s_ => merkle_Verify_l3 s_.1 s_.2.1 s_.2.2.1 s_.2.2.2) (n, i, leaf, proof)).bind (Sum.elim (fun e_ => some e_) (fun e_ => merkle_Verify_j1 root e_.1 e_.2))))))
noncomputable def tourref1_Verified_b (self_ : Int → Int → Int → (List Int) → Option (Int × Bool)) (n : Int) (i : Int) (leaf : Int) (proof : List Int) : Option (Int × Bool) :=
 cnd (n == 1) (some (leaf, ((proof.length : Int) == 0))) (cnd ((proof.length : Int) == 0) (some (0, false)) ((tourref1_half n).bind fun x3 =>
 (idx proof (IntKind.i64.wrap ((proof.length : Int) - 1))).bind fun x5 =>
 (cut proof 0 (IntKind.i64.wrap ((proof.length : Int) - 1))).bind fun l16 =>
 cnd (decide (i < x3)) (bnd2 (self_ x3 i leaf l16) fun x28 x29 =>
 (tourref1_Tied x28 x5).bind fun x31 =>
 some (x31, x29)) (bnd2 (self_ (IntKind.i64.wrap (n - x3)) (IntKind.i64.wrap (i - x3)) leaf l16) fun x33 x34 =>
 (tourref1_Tied x5 x33).bind fun x36 =>
 some (x36, x34))))
noncomputable def tourref1_Verified_s (self_ : (Int × Int × Int × (List Int)) → Option (Int × Bool)) (p_ : Int × Int × Int × (List Int)) : Option (Int × Bool) := tourref1_Verified_b (fun n i leaf proof => self_ (n, i, leaf, proof)) p_.1 p_.2.1 p_.2.2.1 p_.2.2.2
noncomputable def tourref1_Verified (n : Int) (i : Int) (leaf : Int) (proof : List Int) : Option (Int × Bool) := fix tourref1_Verified_s (n, i, leaf, proof)
noncomputable def tourlaw1_MerkleVerifies_j1 (t16 : Bool) : Option Bool :=
 some t16
noncomputable def tourlaw1_MerkleVerifies (root : Int) (n : Int) (i : Int) (leaf : Int) (proof : List Int) : Option Bool :=
 (tourlaw1_merkleBegun).bind fun x1 =>
 cnd (!x1) (some false) ((merkle_Verify root n i leaf proof).bind fun x7 =>
 cnd (decide (n < 1)) (some !x7) (cnd (decide (4096 < n)) (some !x7) (cnd (decide (i < 0)) (some !x7) (cnd (decide (n ≤ i)) (some !x7) (bnd2 (tourref1_Verified n i leaf proof) fun x13 x14 =>
 cnd x14 (cnd (x7 == (x13 == root)) ((merkle_Verify x13 n i leaf proof).bind fun x19 =>
 tourlaw1_MerkleVerifies_j1 (x19 == true)) (tourlaw1_MerkleVerifies_j1 false)) (cnd (x7 == false) ((merkle_Verify x13 n i leaf proof).bind fun x22 =>
 tourlaw1_MerkleVerifies_j1 (x22 == false)) (tourlaw1_MerkleVerifies_j1 false)))))))
noncomputable def merkle_Root (leaves : List Int) : Option (Int × Int) :=
 cnd (decide (4096 < (leaves.length : Int))) (some (0, 2)) (cnd ((leaves.length : Int) == 0) (some (0, 0)) ((merkle_levels leaves).bind fun x3 =>
 (idx x3 (IntKind.i64.wrap ((x3.length : Int) - 1))).bind fun x12 =>
 (idx x12 0).bind fun x25 =>
 some (x25, 0)))
noncomputable def merkle_Proof_j1 (l6 : List Int) : Option ((List Int) × Int) :=
 some (l6, 0)
noncomputable def merkle_Proof_j3 (i20 : Int) (i29 : Int) (l46 : List Int) : Option ((Int × (List Int) × Int) ⊕ (List Int)) :=
 some (.inl (IntKind.i64.wrap (Int.tdiv i20 2), l46, IntKind.i64.wrap (i29 + 1)))
noncomputable def merkle_Proof_l2 (x11 : List (List Int)) (i20 : Int) (l23 : List Int) (i29 : Int) : Option ((Int × (List Int) × Int) ⊕ (List Int)) :=
 cnd (decide (i29 < (x11.length : Int))) ((idx x11 i29).bind fun x31 =>
 cnd (decide (Go.bits .xor .i64 i20 1 < (x31.length : Int))) ((idx x31 (Go.bits .xor .i64 i20 1)).bind fun x50 =>
 (app 8 l23 ([x50] : List Int)).bind fun l63 =>
 merkle_Proof_j3 i20 i29 l63) (merkle_Proof_j3 i20 i29 l23)) (some (.inr l23))
noncomputable def merkle_Proof (leaves : List Int) (i : Int) : Option ((List Int) × Int) :=
 cnd (decide (4096 < (leaves.length : Int))) (some (([] : List Int), 2)) (cnd (decide (i < 0)) (some (([] : List Int), 4)) (cnd (decide ((leaves.length : Int) ≤ i)) (some (([] : List Int), 4)) ((merkle_levels leaves).bind fun x11 =>
 (loop (σ := Int × (List Int) × Int) (ρ := (List Int)) (fun s_ => merkle_Proof_l2 x11 s_.1 s_.2.1 s_.2.2) (i, ([] : List Int), 0)).bind (fun e_ => merkle_Proof_j1 e_))))
noncomputable def tourref1_Proved_j1 (l7 : List Int) : Option ((List Int)) :=
 some l7
noncomputable def tourref1_Proved_j2 (l130 : List Int) : Option ((List Int)) :=
 some l130
noncomputable def tourref1_Proved_b (self_ : (List Int) → Int → Option ((List Int))) (l : List Int) (i : Int) : Option ((List Int)) :=
 cnd ((l.length : Int) == 1) (some ([] : List Int)) ((tourref1_half (l.length : Int)).bind fun x2 =>
 cnd (decide (i < x2)) ((cut l 0 x2).bind fun l10 =>
 (self_ l10 i).bind fun x21 =>
 (cut l x2 (l.length : Int)).bind fun l27 =>
 (tourref1_Top l27).bind fun x38 =>
 (app 8 x21 ([x38] : List Int)).bind fun l42 =>
 tourref1_Proved_j1 l42) ((cut l x2 (l.length : Int)).bind fun l133 =>
 (self_ l133 (IntKind.i64.wrap (i - x2))).bind fun x144 =>
 (cut l 0 x2).bind fun l150 =>
 (tourref1_Top l150).bind fun x161 =>
 (app 8 x144 ([x161] : List Int)).bind fun l165 =>
 tourref1_Proved_j2 l165))
noncomputable def tourref1_Proved_s (self_ : ((List Int) × Int) → Option ((List Int))) (p_ : (List Int) × Int) : Option ((List Int)) := tourref1_Proved_b (fun l i => self_ (l, i)) p_.1 p_.2
noncomputable def tourref1_Proved (l : List Int) (i : Int) : Option ((List Int)) := fix tourref1_Proved_s (l, i)
noncomputable def slices_Equal_uint64_uint64_j1 : Option Bool :=
 some true
noncomputable def slices_Equal_uint64_uint64_l2 (s1_1 : List Int) (s2_1 : List Int) (i2 : Int) : Option (Int ⊕ (Bool ⊕ Unit)) :=
 cnd (decide (i2 < (s1_1.length : Int))) ((idx s1_1 i2).bind fun x4 =>
 (idx s2_1 i2).bind fun x15 =>
 cnd (!(x4 == x15)) (some (.inr (.inl false))) (some (.inl (IntKind.i64.wrap (i2 + 1))))) (some (.inr (.inr ())))
noncomputable def slices_Equal_uint64_uint64 (s1_1 : List Int) (s2_1 : List Int) : Option Bool :=
 cnd (!((s1_1.length : Int) == (s2_1.length : Int))) (some false) ((loop (σ := Int) (ρ := (Bool ⊕ Unit)) (fun s_ => slices_Equal_uint64_uint64_l2 s1_1 s2_1 s_) 0).bind (Sum.elim (fun e_ => some e_) (fun e_ => slices_Equal_uint64_uint64_j1)))
noncomputable def tourlaw1_MerkleTells_j1 (t24 : Bool) : Option Bool :=
 some t24
noncomputable def tourlaw1_MerkleTells_j2 (t29 : Bool) : Option Bool :=
 some t29
noncomputable def tourlaw1_MerkleTells_j3 (t36 : Bool) : Option Bool :=
 some t36
noncomputable def tourlaw1_MerkleTells_j4 (t42 : Bool) : Option Bool :=
 some t42
noncomputable def tourlaw1_MerkleTells (l : List Int) (i : Int) : Option Bool :=
 (tourlaw1_merkleBegun).bind fun x1 =>
 cnd (!x1) (some false) (bnd2 (merkle_Root l) fun x7 x8 =>
 bnd2 (merkle_Proof l i) fun x13 x14 =>
 cnd (decide (4096 < (l.length : Int))) (cnd (x7 == 0) (cnd (x8 == 2) (cnd ((x13.length : Int) == 0) (tourlaw1_MerkleTells_j1 (x14 == x8)) (tourlaw1_MerkleTells_j1 false)) (tourlaw1_MerkleTells_j1 false)) (tourlaw1_MerkleTells_j1 false)) (cnd (decide (i < 0)) ((tourref1_Top l).bind fun x30 =>
 cnd (x7 == x30) (cnd (x8 == 0) (cnd ((x13.length : Int) == 0) (tourlaw1_MerkleTells_j2 (x14 == 4)) (tourlaw1_MerkleTells_j2 false)) (tourlaw1_MerkleTells_j2 false)) (tourlaw1_MerkleTells_j2 false)) (cnd (decide ((l.length : Int) ≤ i)) ((tourref1_Top l).bind fun x37 =>
 cnd (x7 == x37) (cnd (x8 == 0) (cnd ((x13.length : Int) == 0) (tourlaw1_MerkleTells_j3 (x14 == 4)) (tourlaw1_MerkleTells_j3 false)) (tourlaw1_MerkleTells_j3 false)) (tourlaw1_MerkleTells_j3 false)) ((tourref1_Top l).bind fun x43 =>
 cnd (x7 == x43) (cnd (x8 == 0) (cnd (x14 == 0) ((tourref1_Proved l i).bind fun x48 =>
 (slices_Equal_uint64_uint64 x13 x48).bind fun x54 =>
 tourlaw1_MerkleTells_j4 x54) (tourlaw1_MerkleTells_j4 false)) (tourlaw1_MerkleTells_j4 false)) (tourlaw1_MerkleTells_j4 false)))))
noncomputable def queue_Queue_string_before_j1 (u2 : ByteArray) (i3 : Int) (i4 : Int) (u6 : ByteArray) (i7 : Int) (i8 : Int) : Option Bool :=
 cnd (!(i3 == i7)) (some (decide (i3 < i7))) (some (decide (i4 < i8)))
noncomputable def queue_Queue_string_before (q_0 : List queue_item_string) (q_1 : Int) (i : Int) (k : Int) : Option Bool :=
 (idx q_0 i).bind fun x13 =>
 (idx q_0 k).bind fun x23 =>
 queue_Queue_string_before_j1 x13.v x13.rank x13.came x23.v x23.rank x23.came
noncomputable def queue_Queue_string_Put_j2 (l8 : List queue_item_string) (i11 : Int) : Option (Int × (List queue_item_string) × Int) :=
 some (0, l8, i11)
noncomputable def queue_Queue_string_Put_j4 (i16 : Int) (i17 : Int) (l26 : List queue_item_string) : Option (((List queue_item_string) × Int × Int) ⊕ (List queue_item_string) × Int) :=
 some (.inl (l26, i16, IntKind.i64.wrap (Int.tdiv (IntKind.i64.wrap (i17 - 1)) 2)))
noncomputable def queue_Queue_string_Put_l3 (l13 : List queue_item_string) (i16 : Int) (i17 : Int) : Option (((List queue_item_string) × Int × Int) ⊕ (List queue_item_string) × Int) :=
 cnd (decide (0 < i17)) ((queue_Queue_string_before l13 i16 i17 (IntKind.i64.wrap (Int.tdiv (IntKind.i64.wrap (i17 - 1)) 2))).bind fun x19 =>
 cnd x19 ((idx l13 (IntKind.i64.wrap (Int.tdiv (IntKind.i64.wrap (i17 - 1)) 2))).bind fun x29 =>
 (idx l13 i17).bind fun x39 =>
 (idx l13 i17).bind fun x48 =>
 (upd l13 i17 x29).bind fun l57 =>
 (idx l57 (IntKind.i64.wrap (Int.tdiv (IntKind.i64.wrap (i17 - 1)) 2))).bind fun x68 =>
 (upd l57 (IntKind.i64.wrap (Int.tdiv (IntKind.i64.wrap (i17 - 1)) 2)) x39).bind fun l77 =>
 queue_Queue_string_Put_j4 i16 i17 l77) (some (.inr (l13, i16)))) (some (.inr (l13, i16)))
noncomputable def queue_Queue_string_Put_j1 (q_1 : Int) (l4 : List queue_item_string) : Option (Int × (List queue_item_string) × Int) :=
 (loop (σ := (List queue_item_string) × Int × Int) (ρ := (List queue_item_string) × Int) (fun s_ => queue_Queue_string_Put_l3 s_.1 s_.2.1 s_.2.2) (l4, IntKind.i64.wrap (q_1 + 1), IntKind.i64.wrap ((l4.length : Int) - 1))).bind (fun e_ => queue_Queue_string_Put_j2 e_.1 e_.2)
noncomputable def queue_Queue_string_Put (q_0 : List queue_item_string) (q_1 : Int) (v : ByteArray) (rank : Int) : Option (Int × (List queue_item_string) × Int) :=
 cnd (decide (4096 ≤ (q_0.length : Int))) (some (6, q_0, q_1)) ((app 32 q_0 ([(queue_item_string.mk v rank q_1)] : List queue_item_string)).bind fun l160 =>
 queue_Queue_string_Put_j1 q_1 l160)
noncomputable def queue_Queue_string_Take_j1 (x2 : queue_item_string) (l77 : List queue_item_string) : Option (ByteArray × Int × Int × (List queue_item_string)) :=
 some (x2.v, x2.rank, 0, l77)
noncomputable def queue_Queue_string_Take_j4 (i88 : Int) (l97 : List queue_item_string) : Option (((List queue_item_string) × Int) ⊕ (List queue_item_string)) :=
 some (.inl (l97, i88))
noncomputable def queue_Queue_string_Take_j3 (q_0 : List queue_item_string) (l81 : List queue_item_string) (q_1 : Int) (i84 : Int) (i88 : Int) : Option (((List queue_item_string) × Int) ⊕ (List queue_item_string)) :=
 cnd (decide (IntKind.i64.wrap ((q_0.length : Int) - 1) ≤ i88)) (some (.inr l81)) ((queue_Queue_string_before l81 q_1 i84 i88).bind fun x90 =>
 cnd x90 (some (.inr l81)) ((idx l81 i88).bind fun x100 =>
 (idx l81 i84).bind fun x110 =>
 (idx l81 i84).bind fun x119 =>
 (upd l81 i84 x100).bind fun l128 =>
 (idx l128 i88).bind fun x139 =>
 (upd l128 i88 x110).bind fun l148 =>
 queue_Queue_string_Take_j4 i88 l148))
noncomputable def queue_Queue_string_Take_l2 (q_0 : List queue_item_string) (q_1 : Int) (l81 : List queue_item_string) (i84 : Int) : Option (((List queue_item_string) × Int) ⊕ (List queue_item_string)) :=
 cnd (decide (IntKind.i64.wrap (IntKind.i64.wrap (IntKind.i64.wrap (2 * i84) + 1) + 1) < IntKind.i64.wrap ((q_0.length : Int) - 1))) ((some (IntKind.i64.wrap (IntKind.i64.wrap (IntKind.i64.wrap (2 * i84) + 1) + 1))).bind fun x230 =>
 (queue_Queue_string_before l81 q_1 x230 (IntKind.i64.wrap (IntKind.i64.wrap (2 * i84) + 1))).bind fun x232 =>
 cnd x232 ((some (IntKind.i64.wrap (IntKind.i64.wrap (IntKind.i64.wrap (2 * i84) + 1) + 1))).bind fun x238 =>
 queue_Queue_string_Take_j3 q_0 l81 q_1 i84 x238) (queue_Queue_string_Take_j3 q_0 l81 q_1 i84 (IntKind.i64.wrap (IntKind.i64.wrap (2 * i84) + 1)))) (queue_Queue_string_Take_j3 q_0 l81 q_1 i84 (IntKind.i64.wrap (IntKind.i64.wrap (2 * i84) + 1)))
noncomputable def queue_Queue_string_Take (q_0 : List queue_item_string) (q_1 : Int) : Option (ByteArray × Int × Int × (List queue_item_string)) :=
 cnd (decide (IntKind.i64.wrap ((q_0.length : Int) - 1) < 0)) (some (⟨#[]⟩, 0, 4, q_0)) ((idx q_0 0).bind fun x2 =>
 (idx q_0 (IntKind.i64.wrap ((q_0.length : Int) - 1))).bind fun x13 =>
 (idx q_0 0).bind fun x22 =>
 (upd q_0 0 x13).bind fun l31 =>
 (idx l31 (IntKind.i64.wrap ((q_0.length : Int) - 1))).bind fun x42 =>
 (upd l31 (IntKind.i64.wrap ((q_0.length : Int) - 1)) (queue_item_string.mk ByteArray.empty 0 0)).bind fun l51 =>
 (cut l51 0 (IntKind.i64.wrap ((q_0.length : Int) - 1))).bind fun l62 =>
 (loop (σ := (List queue_item_string) × Int) (ρ := (List queue_item_string)) (fun s_ => queue_Queue_string_Take_l2 q_0 q_1 s_.1 s_.2) (l62, 0)).bind (fun e_ => queue_Queue_string_Take_j1 x2 e_))
noncomputable def queue_Queue_string_Len (q_0 : List queue_item_string) (q_1 : Int) : Option Int :=
 some (q_0.length : Int)
noncomputable def tourlaw1_queueBegun_j1 (t26 : Bool) : Option Bool :=
 some t26
noncomputable def tourlaw1_queueBegun : Option Bool :=
 bnd3 (queue_Queue_string_Put ([] : List queue_item_string) 0 (⟨#[98]⟩) 2) fun x2 x3 x4 =>
 bnd3 (queue_Queue_string_Put x3 x4 (⟨#[97]⟩) 1) fun x10 x11 x12 =>
 bnd4 (queue_Queue_string_Take x11 x12) fun x18 x19 x20 x21 =>
 cnd (x18.toList == (⟨#[97]⟩ : ByteArray).toList) (cnd (x19 == 1) (cnd (x20 == 0) ((queue_Queue_string_Len x21 x12).bind fun x30 =>
 tourlaw1_queueBegun_j1 (x30 == 1)) (tourlaw1_queueBegun_j1 false)) (tourlaw1_queueBegun_j1 false)) (tourlaw1_queueBegun_j1 false)
noncomputable def queue_Queue_int_before_j1 (i2 : Int) (i3 : Int) (i4 : Int) (i6 : Int) (i7 : Int) (i8 : Int) : Option Bool :=
 cnd (!(i3 == i7)) (some (decide (i3 < i7))) (some (decide (i4 < i8)))
noncomputable def queue_Queue_int_before (q_0 : List queue_item_int) (q_1 : Int) (i : Int) (k : Int) : Option Bool :=
 (idx q_0 i).bind fun x13 =>
 (idx q_0 k).bind fun x23 =>
 queue_Queue_int_before_j1 x13.v x13.rank x13.came x23.v x23.rank x23.came
noncomputable def queue_Queue_int_Put_j2 (l8 : List queue_item_int) (i11 : Int) : Option (Int × (List queue_item_int) × Int) :=
 some (0, l8, i11)
noncomputable def queue_Queue_int_Put_j4 (i16 : Int) (i17 : Int) (l26 : List queue_item_int) : Option (((List queue_item_int) × Int × Int) ⊕ (List queue_item_int) × Int) :=
 some (.inl (l26, i16, IntKind.i64.wrap (Int.tdiv (IntKind.i64.wrap (i17 - 1)) 2)))
noncomputable def queue_Queue_int_Put_l3 (l13 : List queue_item_int) (i16 : Int) (i17 : Int) : Option (((List queue_item_int) × Int × Int) ⊕ (List queue_item_int) × Int) :=
 cnd (decide (0 < i17)) ((queue_Queue_int_before l13 i16 i17 (IntKind.i64.wrap (Int.tdiv (IntKind.i64.wrap (i17 - 1)) 2))).bind fun x19 =>
 cnd x19 ((idx l13 (IntKind.i64.wrap (Int.tdiv (IntKind.i64.wrap (i17 - 1)) 2))).bind fun x29 =>
 (idx l13 i17).bind fun x39 =>
 (idx l13 i17).bind fun x48 =>
 (upd l13 i17 x29).bind fun l57 =>
 (idx l57 (IntKind.i64.wrap (Int.tdiv (IntKind.i64.wrap (i17 - 1)) 2))).bind fun x68 =>
 (upd l57 (IntKind.i64.wrap (Int.tdiv (IntKind.i64.wrap (i17 - 1)) 2)) x39).bind fun l77 =>
 queue_Queue_int_Put_j4 i16 i17 l77) (some (.inr (l13, i16)))) (some (.inr (l13, i16)))
noncomputable def queue_Queue_int_Put_j1 (q_1 : Int) (l4 : List queue_item_int) : Option (Int × (List queue_item_int) × Int) :=
 (loop (σ := (List queue_item_int) × Int × Int) (ρ := (List queue_item_int) × Int) (fun s_ => queue_Queue_int_Put_l3 s_.1 s_.2.1 s_.2.2) (l4, IntKind.i64.wrap (q_1 + 1), IntKind.i64.wrap ((l4.length : Int) - 1))).bind (fun e_ => queue_Queue_int_Put_j2 e_.1 e_.2)
noncomputable def queue_Queue_int_Put (q_0 : List queue_item_int) (q_1 : Int) (v : Int) (rank : Int) : Option (Int × (List queue_item_int) × Int) :=
 cnd (decide (4096 ≤ (q_0.length : Int))) (some (6, q_0, q_1)) ((app 24 q_0 ([(queue_item_int.mk v rank q_1)] : List queue_item_int)).bind fun l160 =>
 queue_Queue_int_Put_j1 q_1 l160)
noncomputable def queue_Queue_int_First (q_0 : List queue_item_int) (q_1 : Int) : Option (Int × Int × Int) :=
 cnd ((q_0.length : Int) == 0) (some (0, 0, 4)) ((idx q_0 0).bind fun x2 =>
 (idx q_0 0).bind fun x12 =>
 some (x2.v, x12.rank, 0))
noncomputable def queue_Queue_int_Take_j1 (x2 : queue_item_int) (l77 : List queue_item_int) : Option (Int × Int × Int × (List queue_item_int)) :=
 some (x2.v, x2.rank, 0, l77)
noncomputable def queue_Queue_int_Take_j4 (i88 : Int) (l97 : List queue_item_int) : Option (((List queue_item_int) × Int) ⊕ (List queue_item_int)) :=
 some (.inl (l97, i88))
noncomputable def queue_Queue_int_Take_j3 (q_0 : List queue_item_int) (l81 : List queue_item_int) (q_1 : Int) (i84 : Int) (i88 : Int) : Option (((List queue_item_int) × Int) ⊕ (List queue_item_int)) :=
 cnd (decide (IntKind.i64.wrap ((q_0.length : Int) - 1) ≤ i88)) (some (.inr l81)) ((queue_Queue_int_before l81 q_1 i84 i88).bind fun x90 =>
 cnd x90 (some (.inr l81)) ((idx l81 i88).bind fun x100 =>
 (idx l81 i84).bind fun x110 =>
 (idx l81 i84).bind fun x119 =>
 (upd l81 i84 x100).bind fun l128 =>
 (idx l128 i88).bind fun x139 =>
 (upd l128 i88 x110).bind fun l148 =>
 queue_Queue_int_Take_j4 i88 l148))
noncomputable def queue_Queue_int_Take_l2 (q_0 : List queue_item_int) (q_1 : Int) (l81 : List queue_item_int) (i84 : Int) : Option (((List queue_item_int) × Int) ⊕ (List queue_item_int)) :=
 cnd (decide (IntKind.i64.wrap (IntKind.i64.wrap (IntKind.i64.wrap (2 * i84) + 1) + 1) < IntKind.i64.wrap ((q_0.length : Int) - 1))) ((some (IntKind.i64.wrap (IntKind.i64.wrap (IntKind.i64.wrap (2 * i84) + 1) + 1))).bind fun x230 =>
 (queue_Queue_int_before l81 q_1 x230 (IntKind.i64.wrap (IntKind.i64.wrap (2 * i84) + 1))).bind fun x232 =>
 cnd x232 ((some (IntKind.i64.wrap (IntKind.i64.wrap (IntKind.i64.wrap (2 * i84) + 1) + 1))).bind fun x238 =>
 queue_Queue_int_Take_j3 q_0 l81 q_1 i84 x238) (queue_Queue_int_Take_j3 q_0 l81 q_1 i84 (IntKind.i64.wrap (IntKind.i64.wrap (2 * i84) + 1)))) (queue_Queue_int_Take_j3 q_0 l81 q_1 i84 (IntKind.i64.wrap (IntKind.i64.wrap (2 * i84) + 1)))
noncomputable def queue_Queue_int_Take (q_0 : List queue_item_int) (q_1 : Int) : Option (Int × Int × Int × (List queue_item_int)) :=
 cnd (decide (IntKind.i64.wrap ((q_0.length : Int) - 1) < 0)) (some (0, 0, 4, q_0)) ((idx q_0 0).bind fun x2 =>
 (idx q_0 (IntKind.i64.wrap ((q_0.length : Int) - 1))).bind fun x13 =>
 (idx q_0 0).bind fun x22 =>
 (upd q_0 0 x13).bind fun l31 =>
 (idx l31 (IntKind.i64.wrap ((q_0.length : Int) - 1))).bind fun x42 =>
 (upd l31 (IntKind.i64.wrap ((q_0.length : Int) - 1)) (queue_item_int.mk 0 0 0)).bind fun l51 =>
 (cut l51 0 (IntKind.i64.wrap ((q_0.length : Int) - 1))).bind fun l62 =>
 (loop (σ := (List queue_item_int) × Int) (ρ := (List queue_item_int)) (fun s_ => queue_Queue_int_Take_l2 q_0 q_1 s_.1 s_.2) (l62, 0)).bind (fun e_ => queue_Queue_int_Take_j1 x2 e_))
noncomputable def queue_Queue_int_Len (q_0 : List queue_item_int) (q_1 : Int) : Option Int :=
 some (q_0.length : Int)
noncomputable def tourref1_Taken_j1 (i1 : Int) : Option Int :=
 some i1
noncomputable def tourref1_Taken_j3 (i4 : Int) (i6 : Int) : Option ((Int × Int) ⊕ Int) :=
 some (.inl (i6, IntKind.i64.wrap (i4 + 1)))
noncomputable def tourref1_Taken_l2 (l : List tourref1_Waiting) (i3 : Int) (i4 : Int) : Option ((Int × Int) ⊕ Int) :=
 cnd (decide (i4 < (l.length : Int))) ((idx l i4).bind fun x7 =>
 (idx l i3).bind fun x19 =>
 cnd (decide (x7.Rank < x19.Rank)) (tourref1_Taken_j3 i4 i4) (tourref1_Taken_j3 i4 i3)) (some (.inr i3))
noncomputable def tourref1_Taken (l : List tourref1_Waiting) : Option Int :=
 (loop (σ := Int × Int) (ρ := Int) (fun s_ => tourref1_Taken_l2 l s_.1 s_.2) (0, 0)).bind (fun e_ => tourref1_Taken_j1 e_)
noncomputable def slices_Delete_tourref1_Waiting_tourref1_Waiting (s_ : List tourref1_Waiting) (i_ : Int) (j_ : Int) : Option (List tourref1_Waiting) := del s_ i_ j_
noncomputable def tourlaw1_QueuePlays_j1 : Option Bool :=
 some true
noncomputable def tourlaw1_QueuePlays_j3 (i20 : Int) (l36 : List queue_item_int) (i39 : Int) (l42 : List tourref1_Waiting) : Option (((List queue_item_int) × Int × (List tourref1_Waiting) × Int) ⊕ (Bool ⊕ Unit)) :=
 (queue_Queue_int_Len l36 i39).bind fun x45 =>
 cnd (!(x45 == (l42.length : Int))) (some (.inr (.inl false))) (some (.inl (l36, i39, l42, IntKind.i64.wrap (i20 + 1))))
noncomputable def tourlaw1_QueuePlays_j4 (l17 : List tourref1_Waiting) (i20 : Int) (i14 : Int) (x22 : Int × Int × Int) (l81 : List queue_item_int) (i84 : Int) (i85 : Int) (i86 : Int) : Option (((List queue_item_int) × Int × (List tourref1_Waiting) × Int) ⊕ (Bool ⊕ Unit)) :=
 cnd ((l17.length : Int) == 0) (cnd (!(i84 == 0)) (some (.inr (.inl false))) (cnd (!(i85 == 0)) (some (.inr (.inl false))) (cnd (!(i86 == 4)) (some (.inr (.inl false))) (tourlaw1_QueuePlays_j3 i20 l81 i14 l17)))) ((tourref1_Taken l17).bind fun x91 =>
 cnd (!(i86 == 0)) (some (.inr (.inl false))) ((idx l17 x91).bind fun x94 =>
 cnd (!(i84 == x94.V)) (some (.inr (.inl false))) ((idx l17 x91).bind fun x105 =>
 cnd (!(i85 == x105.Rank)) (some (.inr (.inl false))) (cnd (!(x22.2.2 == 1)) ((slices_Delete_tourref1_Waiting_tourref1_Waiting l17 x91 (IntKind.i64.wrap (x91 + 1))).bind fun x116 =>
 tourlaw1_QueuePlays_j3 i20 l81 i14 x116) (tourlaw1_QueuePlays_j3 i20 l81 i14 l17)))))
noncomputable def tourlaw1_QueuePlays_l2 (l : List (Int × Int × Int)) (l11 : List queue_item_int) (i14 : Int) (l17 : List tourref1_Waiting) (i20 : Int) : Option (((List queue_item_int) × Int × (List tourref1_Waiting) × Int) ⊕ (Bool ⊕ Unit)) :=
 cnd (decide (i20 < (l.length : Int))) ((idx l i20).bind fun x22 =>
 cnd (x22.2.2 == 0) (bnd3 (queue_Queue_int_Put l11 i14 x22.1 x22.2.1) fun x51 x52 x53 =>
 cnd (decide (4096 ≤ (l17.length : Int))) (cnd (!(x51 == 6)) (some (.inr (.inl false))) (tourlaw1_QueuePlays_j3 i20 x52 x53 l17)) ((app 16 l17 ([(tourref1_Waiting.mk x22.1 x22.2.1)] : List tourref1_Waiting)).bind fun l63 =>
 cnd (!(x51 == 0)) (some (.inr (.inl false))) (tourlaw1_QueuePlays_j3 i20 x52 x53 l63))) (bnd3 (queue_Queue_int_First l11 i14) fun x73 x74 x75 =>
 cnd (!(x22.2.2 == 1)) (bnd4 (queue_Queue_int_Take l11 i14) fun x121 x122 x123 x124 =>
 tourlaw1_QueuePlays_j4 l17 i20 i14 x22 x124 x121 x122 x123) (tourlaw1_QueuePlays_j4 l17 i20 i14 x22 l11 x73 x74 x75))) (some (.inr (.inr ())))
noncomputable def tourlaw1_QueuePlays (l : List (Int × Int × Int)) : Option Bool :=
 (tourlaw1_queueBegun).bind fun x1 =>
 cnd (!x1) (some false) ((loop (σ := (List queue_item_int) × Int × (List tourref1_Waiting) × Int) (ρ := (Bool ⊕ Unit)) (fun s_ => tourlaw1_QueuePlays_l2 l s_.1 s_.2.1 s_.2.2.1 s_.2.2.2) (([] : List queue_item_int), 0, ([] : List tourref1_Waiting), 0)).bind (Sum.elim (fun e_ => some e_) (fun e_ => tourlaw1_QueuePlays_j1)))
end Go.Proofs.Ytfihfbkjomploaa.X
