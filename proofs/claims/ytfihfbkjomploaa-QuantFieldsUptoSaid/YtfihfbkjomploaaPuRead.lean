/- The plain functions that read bits: Get, Read, BitsOf. No condition. -/
import Derived.Test.YtfihfbkjomploaaPuBits
namespace Go.Proofs.Ytfihfbkjomploaa.X
open Go Go.RowKit Go.Proofs.Ytfihfbkjomploaa.Sx Go.Proofs.Ytfihfbkjomploaa.Rnd Go.Proofs.Ytfihfbkjomploaa.Nats Go.Proofs.Ytfihfbkjomploaa.Trig Go.Proofs.Ytfihfbkjomploaa.Bits
set_option linter.unusedVariables false
set_option linter.unusedSimpArgs false
/-- Bytes, and not too many. -/
structure Bytes (l : List Int) : Prop where
  short : l.length ≤ 1048576
  byte : ∀ a ∈ l, 0 ≤ a ∧ a < 256
theorem Bytes.at {l : List Int} (h : Bytes l) {i : Nat} (hi : i < l.length) : ∃ b : Nat, b < 256 ∧ l.getD i 0 = (b : Int) ∧ l[i] = (b : Int) := by
  have e : l.getD i 0 = l[i] := by simp [List.getD, hi]
  have := h.byte l[i] (List.getElem_mem hi)
  obtain ⟨b, hb⟩ := Int.eq_ofNat_of_zero_le this.1
  exact ⟨b, by omega, by rw [e]; exact hb, hb⟩
theorem new_eq {l : List Int} (h : Bytes l) : bits_New l = some l := by
  unfold bits_New
  rw [app_ok (by have := h.short; simp; omega)]; rfl
theorem left_eq {l : List Int} {at_ : Nat} (h : Bytes l) (ha : at_ ≤ 8 * l.length) : bits_Reader_Left l (at_ : Int) = some ((8 * l.length - at_ : Nat) : Int) := by
  unfold bits_Reader_Left
  have := h.short
  simp only [Option.bind_some]
  rw [i64ok (x := 8 * (l.length : Int)) (by omega) (by omega), i64ok (by omega) (by omega)]
  congr 1; omega
theorem get_step {l : List Int} {at_ i : Nat} {n : Int} (h : Bytes l) (hn : (i : Int) < n) (hi : i < 64) (hq : at_ + i < 8 * l.length) :
    bits_Reader_Get_l2 n l ((at_ + i : Nat) : Int) ((bsum (unpack l) at_ i : Nat) : Int) (i : Int) = some (.inl (((at_ + (i + 1) : Nat) : Int), ((bsum (unpack l) at_ (i + 1) : Nat) : Int), ((i + 1 : Nat) : Int))) := by
  have hs := h.short
  obtain ⟨b, hb, hg, _⟩ := h.at (i := (at_ + i) / 8) (by omega)
  have hd : b / 2 ^ ((at_ + i) % 8) ≤ b := Nat.div_le_self _ _
  have hx : b / 2 ^ ((at_ + i) % 8) % 2 ≤ 1 := by omega
  have hp : 2 ^ i ≤ 2 ^ 63 := Nat.pow_le_pow_right (by decide) (by omega)
  have hxp : b / 2 ^ ((at_ + i) % 8) % 2 * 2 ^ i ≤ 1 * 2 ^ i := Nat.mul_le_mul_right _ hx
  have w1 : IntKind.i64.wrap (((at_ + i : Nat) : Int) + 1) = ((at_ + (i + 1) : Nat) : Int) := by rw [i64ok (by omega) (by omega)]; omega
  have w2 : IntKind.i64.wrap ((i : Int) + 1) = ((i + 1 : Nat) : Int) := by rw [i64ok (by omega) (by omega)]; omega
  have w3 : IntKind.u64.wrap ((b / 2 ^ ((at_ + i) % 8) % 2 : Nat) : Int) = ((b / 2 ^ ((at_ + i) % 8) % 2 : Nat) : Int) := by rw [w64_in (by omega) (by omega)]
  have w4 : shl .u64 ((b / 2 ^ ((at_ + i) % 8) % 2 : Nat) : Int) (i : Int) = some ((b / 2 ^ ((at_ + i) % 8) % 2 * 2 ^ i : Nat) : Int) := by
    rw [shl_ok (by omega), Int.toNat_natCast, show IntKind.bits .u64 = 64 from rfl, Nat.min_eq_left (by omega), show ((b / 2 ^ ((at_ + i) % 8) % 2 : Nat) : Int) * 2 ^ i = ((b / 2 ^ ((at_ + i) % 8) % 2 * 2 ^ i : Nat) : Int) by simp, w64_in (by omega) (by omega)]
  have w5 : shr .u8 (b : Int) (((at_ + i) % 8 : Nat) : Int) = some ((b / 2 ^ ((at_ + i) % 8) : Nat) : Int) := by
    rw [shr_ok (by omega), Int.toNat_natCast, show IntKind.bits .u8 = 8 from rfl, Nat.min_eq_left (by omega), fdiv_lit _ (Int.le_of_lt (Int.pow_pos (by decide)))]
    simp
  have hr := read_step (l := l) (at_ := at_) (i := i) hq
  rw [hg, Int.toNat_natCast] at hr
  unfold bits_Reader_Get_l2
  rw [cnd_dec, if_pos hn, wrap_tdiv8 (by omega), idx_getD 0 (by omega) (by omega), Int.toNat_natCast, hg, tmod8]
  simp only [Option.bind_some]
  rw [w5]
  simp only [Option.bind_some]
  rw [and_one8 _ (by omega), w3, w4]
  simp only [Option.bind_some]
  rw [or_u64 (bsum_lt ..) hx (by omega), w1, w2, hr]
theorem get_loop {l : List Int} {at_ k : Nat} (h : Bytes l) (hk : k ≤ 64) (hq : at_ + k ≤ 8 * l.length) : ∀ (d i : Nat), i + d = k →
    loop (σ := Int × Int × Int) (ρ := Int × Int) (fun s_ => bits_Reader_Get_l2 (k : Int) l s_.1 s_.2.1 s_.2.2) (((at_ + i : Nat) : Int), ((bsum (unpack l) at_ i : Nat) : Int), (i : Int)) = some (((bsum (unpack l) at_ k : Nat) : Int), ((at_ + k : Nat) : Int)) := by
  intro d
  induction d with
  | zero =>
    intro i hi
    have : i = k := by omega
    subst this
    exact loop_inr (s := (((at_ + i : Nat) : Int), ((bsum (unpack l) at_ i : Nat) : Int), (i : Int))) (by
      show bits_Reader_Get_l2 (i : Int) l ((at_ + i : Nat) : Int) ((bsum (unpack l) at_ i : Nat) : Int) (i : Int) = _
      unfold bits_Reader_Get_l2; rw [cnd_dec, if_neg (by omega)])
  | succ d ih =>
    intro i hi
    rw [loop_inl (s := (((at_ + i : Nat) : Int), ((bsum (unpack l) at_ i : Nat) : Int), (i : Int))) (get_step h (by omega) (by omega) (by omega))]
    exact ih (i + 1) (by omega)
/-- What a reading of n bits gives: the number, the error, the place behind. -/
def readE (bs : List Bool) (at_ : Nat) (n : Int) : Nat × Int × Nat :=
  if n < 0 ∨ 64 < n then (0, 1, at_) else if bs.length < at_ + n.toNat then (0, 14, at_) else (bsum bs at_ n.toNat, 0, at_ + n.toNat)
theorem get_eq {l : List Int} {at_ : Nat} {n : Int} (h : Bytes l) (ha : at_ ≤ 8 * l.length) :
    bits_Reader_Get l (at_ : Int) n = some ((((readE (unpack l) at_ n).1 : Nat) : Int), (readE (unpack l) at_ n).2.1, (((readE (unpack l) at_ n).2.2 : Nat) : Int)) := by
  unfold bits_Reader_Get readE
  have hs := h.short
  rw [cnd_dec, cnd_dec, left_eq h ha, unpack_length]
  by_cases h1 : n < 0
  · rw [if_pos h1, if_pos (.inl h1)]; rfl
  · by_cases h2 : 64 < n
    · rw [if_neg h1, if_pos h2, if_pos (.inr h2)]; rfl
    · obtain ⟨k, rfl⟩ := Int.eq_ofNat_of_zero_le (show 0 ≤ n by omega)
      simp only [Option.bind_some]
      rw [if_neg h1, if_neg h2, if_neg (by omega), cnd_dec, Int.toNat_natCast]
      by_cases h3 : 8 * l.length < at_ + k
      · rw [if_pos (by omega), if_pos h3]; rfl
      · rw [if_neg (by omega), if_neg h3]
        have := get_loop (l := l) (at_ := at_) (k := k) h (by omega) (by omega) k 0 (by omega)
        exact congrArg (fun o => o.bind fun e_ : Int × Int => bits_Reader_Get_j1 e_.1 e_.2) this
theorem readE_le {bs : List Bool} {at_ : Nat} {n : Int} (ha : at_ ≤ bs.length) : (readE bs at_ n).2.2 ≤ bs.length := by
  unfold readE
  split
  · exact ha
  · split
    · exact ha
    · simp only; omega
/-! ### The reference -/
theorem bsum_front (bs : List Bool) (o : Nat) : ∀ k, bsum bs o (k + 1) = bv (bs.getD o false) + 2 * bsum bs (o + 1) k
  | 0 => by simp [bsum]
  | k + 1 => by
    have h := bsum_front bs o k
    rw [bsum, h, bsum, show o + (k + 1) = o + 1 + k by omega, Nat.pow_succ]
    rw [Nat.mul_add, ← Nat.mul_assoc, ← Nat.mul_assoc, Nat.mul_comm (bv _ * 2 ^ k) 2, ← Nat.mul_assoc]
    omega
theorem bv_le (b : Bool) : bv b ≤ 1 := by cases b <;> decide
theorem bsum64 (bs : List Bool) (o : Nat) {k : Nat} (h : k ≤ 64) : bsum bs o k < 18446744073709551616 :=
  Nat.lt_of_lt_of_le (bsum_lt bs o k) (Nat.pow_le_pow_right (show 0 < 2 by decide) h)
/-- One bit more at the low end. -/
theorem dbl_bit {γ : Type} {bs : List Bool} {o k : Nat} {f : Int → Option γ} (hk : k < 64) (ho : o < bs.length) :
    cnd bs[o] (f (IntKind.u64.wrap (IntKind.u64.wrap (((bsum bs (o + 1) k : Nat) : Int) * 2) + 1))) (f (IntKind.u64.wrap (((bsum bs (o + 1) k : Nat) : Int) * 2))) = f ((bsum bs o (k + 1) : Nat) : Int) := by
  have hg : bs.getD o false = bs[o] := by simp [List.getD, ho]
  have hl := bsum64 bs o (k := k + 1) (by omega)
  have hf := bsum_front bs o k
  rw [hg] at hf
  cases hb : bs[o]
  · rw [hb] at hf
    rw [cnd_false, w64_in (by omega) (by simp only [bv] at hf; omega)]
    congr 1; simp only [bv] at hf; simp at hf; omega
  · rw [hb] at hf
    have hf : bsum bs o (k + 1) = 1 + 2 * bsum bs (o + 1) k := hf
    rw [cnd_true, w64_in (x := ((bsum bs (o + 1) k : Nat) : Int) * 2) (by omega) (by omega), w64_in (by omega) (by omega)]
    congr 1; omega
theorem rd_loop {bs : List Bool} {at_ n : Nat} (hs : bs.length ≤ 8388608) (hn : n ≤ 64) (hq : at_ + n ≤ bs.length) : ∀ (j : Nat), j ≤ n →
    loop (σ := Int × Int) (ρ := Int) (fun s_ => tourref1_Bits_Read_l2 bs (at_ : Int) s_.1 s_.2) (((bsum bs (at_ + j) (n - j) : Nat) : Int), (j : Int) - 1) = some ((bsum bs at_ n : Nat) : Int) := by
  intro j
  induction j with
  | zero =>
    intro _
    exact loop_inr (s := (((bsum bs (at_ + 0) (n - 0) : Nat) : Int), ((0 : Nat) : Int) - 1)) (by
      show tourref1_Bits_Read_l2 bs (at_ : Int) ((bsum bs (at_ + 0) (n - 0) : Nat) : Int) (((0 : Nat) : Int) - 1) = _
      unfold tourref1_Bits_Read_l2; rw [cnd_dec, if_neg (by omega)]; rfl)
  | succ j ih =>
    intro hj
    have hstep : tourref1_Bits_Read_l2 bs (at_ : Int) ((bsum bs (at_ + (j + 1)) (n - (j + 1)) : Nat) : Int) (((j + 1 : Nat) : Int) - 1) = some (.inl (((bsum bs (at_ + j) (n - j) : Nat) : Int), (j : Int) - 1)) := by
      unfold tourref1_Bits_Read_l2
      rw [cnd_dec, if_pos (by omega), show ((at_ : Int) + (((j + 1 : Nat) : Int) - 1)) = ((at_ + j : Nat) : Int) by omega, i64ok (x := ((at_ + j : Nat) : Int)) (by omega) (by omega), idx_get (by omega)]
      simp only [Option.bind_some]
      have := dbl_bit (bs := bs) (o := at_ + j) (k := n - (j + 1)) (f := tourref1_Bits_Read_j3 (((j + 1 : Nat) : Int) - 1)) (by omega) (by omega)
      rw [show at_ + (j + 1) = at_ + j + 1 by omega, this, show n - (j + 1) + 1 = n - j by omega]
      unfold tourref1_Bits_Read_j3
      rw [i64ok (by omega) (by omega)]
      congr 3; omega
    rw [loop_inl (s := (((bsum bs (at_ + (j + 1)) (n - (j + 1)) : Nat) : Int), ((j + 1 : Nat) : Int) - 1)) hstep]
    exact ih (by omega)
theorem read_eq {bs : List Bool} {at_ : Nat} {n : Int} (hs : bs.length ≤ 8388608) (ha : at_ ≤ bs.length) :
    tourref1_Bits_Read bs (at_ : Int) n = some ((((readE bs at_ n).1 : Nat) : Int), (readE bs at_ n).2.1, (((readE bs at_ n).2.2 : Nat) : Int)) := by
  unfold tourref1_Bits_Read readE
  rw [cnd_dec, cnd_dec]
  by_cases h1 : n < 0
  · rw [if_pos h1, if_pos (.inl h1)]; rfl
  · by_cases h2 : 64 < n
    · rw [if_neg h1, if_pos h2, if_pos (.inr h2)]; rfl
    · obtain ⟨k, rfl⟩ := Int.eq_ofNat_of_zero_le (show 0 ≤ n by omega)
      rw [if_neg h1, if_neg h2, if_neg (by omega), i64ok (x := (at_ : Int) + (k : Int)) (by omega) (by omega), cnd_dec, Int.toNat_natCast]
      by_cases h3 : bs.length < at_ + k
      · rw [if_pos (by omega), if_pos h3]; rfl
      · rw [if_neg (by omega), if_neg h3, i64ok (by omega) (by omega)]
        have := rd_loop (bs := bs) (at_ := at_) (n := k) hs (by omega) (by omega) k (Nat.le_refl _)
        rw [Nat.sub_self] at this
        have h2 := congrArg (fun o => o.bind fun e_ : Int => tourref1_Bits_Read_j1 (at_ : Int) (k : Int) e_) this
        refine Eq.trans h2 ?_
        simp only [Option.bind_some, tourref1_Bits_Read_j1]
        rw [i64ok (by omega) (by omega)]
        rfl
/-! ### All bits of bytes -/
theorem unpack_at {l : List Int} {j : Nat} (h : j < 8 * l.length) : (unpack l)[j]? = some (bitOf l j) := by
  unfold unpack; simp [h]
theorem bo_inner {l : List Int} {i b : Nat} (h : Bytes l) (hi : i < l.length) (hb : b < 256) (hg : l.getD i 0 = (b : Int)) : ∀ (d j : Nat), j + d = 8 →
    loop (σ := (List Bool) × Int × Int) (ρ := (List Bool)) (fun s_ => tourref1_BitsOf_l4 s_.1 s_.2.1 s_.2.2) ((unpack l).take (8 * i + j), ((b / 2 ^ j : Nat) : Int), (j : Int)) = some ((unpack l).take (8 * (i + 1))) := by
  have hs := h.short
  intro d
  induction d with
  | zero =>
    intro j hj
    have : j = 8 := by omega
    subst this
    exact loop_inr (s := ((unpack l).take (8 * i + 8), ((b / 2 ^ 8 : Nat) : Int), ((8 : Nat) : Int))) (by
      show tourref1_BitsOf_l4 ((unpack l).take (8 * i + 8)) ((b / 2 ^ 8 : Nat) : Int) ((8 : Nat) : Int) = _
      unfold tourref1_BitsOf_l4; rw [cnd_dec, if_neg (by omega)]; rfl)
  | succ d ih =>
    intro j hj
    have hd : b / 2 ^ j ≤ b := Nat.div_le_self _ _
    have hbit : bitOf l (8 * i + j) = (b / 2 ^ j % 2 == 1) := by
      unfold bitOf
      rw [show (8 * i + j) / 8 = i by omega, show (8 * i + j) % 8 = j by omega, hg, Int.toNat_natCast]
    have ht : (unpack l).take (8 * i + (j + 1)) = (unpack l).take (8 * i + j) ++ [b / 2 ^ j % 2 == 1] := by
      rw [show 8 * i + (j + 1) = 8 * i + j + 1 by omega, List.take_add_one, unpack_at (by omega), hbit]; rfl
    have hstep : tourref1_BitsOf_l4 ((unpack l).take (8 * i + j)) ((b / 2 ^ j : Nat) : Int) (j : Int) = some (.inl ((unpack l).take (8 * i + (j + 1)), ((b / 2 ^ (j + 1) : Nat) : Int), ((j + 1 : Nat) : Int))) := by
      unfold tourref1_BitsOf_l4
      rw [cnd_dec, if_pos (by omega), tmod2, app_ok (by rw [List.length_take, unpack_length]; simp; omega)]
      simp only [Option.bind_some]
      rw [Int.tdiv_eq_ediv_of_nonneg (Int.natCast_nonneg _), show ((b / 2 ^ j : Nat) : Int) / 2 = ((b / 2 ^ j / 2 : Nat) : Int) by omega, u8in (by omega), low_half, i64ok (by omega) (by omega), ht]
      rfl
    rw [loop_inl (s := ((unpack l).take (8 * i + j), ((b / 2 ^ j : Nat) : Int), (j : Int))) hstep]
    exact ih (j + 1) (by omega)
theorem bo_loop {l : List Int} (h : Bytes l) : ∀ (d i : Nat), i + d = l.length →
    loop (σ := (List Bool) × Int) (ρ := (List Bool)) (fun s_ => tourref1_BitsOf_l2 l s_.1 s_.2) ((unpack l).take (8 * i), (i : Int)) = some (unpack l) := by
  have hs := h.short
  intro d
  induction d with
  | zero =>
    intro i hi
    exact loop_inr (s := ((unpack l).take (8 * i), (i : Int))) (by
      show tourref1_BitsOf_l2 l ((unpack l).take (8 * i)) (i : Int) = _
      unfold tourref1_BitsOf_l2; rw [cnd_dec, if_neg (by omega), List.take_of_length_le (by rw [unpack_length]; omega)])
  | succ d ih =>
    intro i hi
    obtain ⟨b, hb, hg, he⟩ := h.at (i := i) (by omega)
    have hstep : tourref1_BitsOf_l2 l ((unpack l).take (8 * i)) (i : Int) = some (.inl ((unpack l).take (8 * (i + 1)), ((i + 1 : Nat) : Int))) := by
      unfold tourref1_BitsOf_l2
      rw [cnd_dec, if_pos (by omega), idx_get (by omega), he]
      simp only [Option.bind_some]
      have := bo_inner h (by omega) hb hg 8 0 (by omega)
      rw [Nat.pow_zero, Nat.div_one, Nat.add_zero] at this
      refine Eq.trans (congrArg (fun o => o.bind fun e_ : List Bool => tourref1_BitsOf_j3 (i : Int) e_) this) ?_
      simp only [Option.bind_some, tourref1_BitsOf_j3]
      rw [i64ok (by omega) (by omega)]
      rfl
    rw [loop_inl (s := ((unpack l).take (8 * i), (i : Int))) hstep]
    exact ih (i + 1) (by omega)
theorem bitsof_eq {l : List Int} (h : Bytes l) : tourref1_BitsOf l = some (unpack l) := by
  unfold tourref1_BitsOf
  have := bo_loop h l.length 0 (by omega)
  exact congrArg (fun o => o.bind fun e_ : List Bool => tourref1_BitsOf_j1 e_) this
end Go.Proofs.Ytfihfbkjomploaa.X
