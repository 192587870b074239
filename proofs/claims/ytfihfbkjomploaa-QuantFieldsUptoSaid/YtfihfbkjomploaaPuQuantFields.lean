/- The plain law of fields of few bits. No condition. -/
import Derived.Test.YtfihfbkjomploaaPuRead
namespace Go.Proofs.Ytfihfbkjomploaa.X
open Go Go.RowKit Go.Proofs.Ytfihfbkjomploaa.Sx Go.Proofs.Ytfihfbkjomploaa.Rnd Go.Proofs.Ytfihfbkjomploaa.Nats Go.Proofs.Ytfihfbkjomploaa.Trig Go.Proofs.Ytfihfbkjomploaa.Bits
set_option linter.unusedVariables false
set_option linter.unusedSimpArgs false
def lim (a : Int) : Int := min (max a (-1099511627776)) 1099511627776
theorem lim_lo (a : Int) : -1099511627776 ≤ lim a ∧ lim a ≤ 1099511627776 := by unfold lim; omega
theorem clamp_eq (a : Int) : fix_Clamp a = some (lim a) := rfl
theorem limit_eq (a : Int) : tourref1_Limit a = some (lim a) := by
  unfold tourref1_Limit lim
  rw [cnd_dec, cnd_dec]
  by_cases h1 : 1099511627776 < a
  · rw [if_pos h1]; congr 1; omega
  · rw [if_neg h1]
    by_cases h2 : a < -1099511627776
    · rw [if_pos h2]; congr 1; omega
    · rw [if_neg h2]; congr 1; omega
def wid (n : Int) : Nat := (min (max n 0) 32).toNat
theorem wid_le (n : Int) : wid n ≤ 32 := by unfold wid; omega
theorem wid_pow (n : Int) : 1 ≤ 2 ^ wid n ∧ 2 ^ wid n ≤ 4294967296 := by
  have := Nat.pow_le_pow_right (show 0 < 2 by decide) (wid_le n)
  exact ⟨Nat.one_le_two_pow, this⟩
def fitE (n lo v : Int) : Int := min (max v lo) (lo + (2 ^ wid n : Nat) - 1)
theorem fit_eq (f : ByteArray) (n f2 v : Int) : quant_Fit f n f2 v = some (fitE n (lim f2) v) := by
  have hl := lim_lo f2
  have hp := wid_pow n
  unfold quant_Fit fitE
  rw [clamp_eq]
  simp only [Option.bind_some]
  rw [shl_ok (by omega), show IntKind.bits .i64 = 64 from rfl, show (min (max n 0) 32).toNat = wid n from rfl, Nat.min_eq_left (by have := wid_le n; omega), show (1 : Int) * 2 ^ wid n = ((2 ^ wid n : Nat) : Int) by simp]
  simp only [Option.bind_some]
  generalize 2 ^ wid n = q at hp ⊢
  rw [i64ok (x := ((q : Nat) : Int)) (by omega) (by omega), i64ok (x := lim f2 + (q : Int)) (by omega) (by omega), i64ok (x := lim f2 + (q : Int) - 1) (by omega) (by omega)]
theorem fitted_loop {n lo : Int} (hl : -1099511627776 ≤ lo ∧ lo ≤ 1099511627776) : ∀ (d i : Nat), i + d = wid n →
    loop (σ := Int × Int) (ρ := Int) (fun s_ => tourref1_Fitted_l2 n s_.1 s_.2) (lo + (2 ^ i : Nat) - 1, (i : Int)) = some (lo + (2 ^ wid n : Nat) - 1) := by
  have hw : wid n = (min (max n 0) 32).toNat := rfl
  intro d
  induction d with
  | zero =>
    intro i hi
    have : i = wid n := by omega
    rw [this]
    exact loop_inr (s := (lo + (2 ^ wid n : Nat) - 1, ((wid n : Nat) : Int))) (by
      show tourref1_Fitted_l2 n (lo + (2 ^ wid n : Nat) - 1) ((wid n : Nat) : Int) = _
      unfold tourref1_Fitted_l2
      rw [cnd_dec, cnd_dec]
      by_cases h : ((wid n : Nat) : Int) < n
      · rw [if_pos h, if_neg (by omega)]
      · rw [if_neg h])
  | succ d ih =>
    intro i hi
    have hp : 2 ^ i ≤ 2 ^ 31 := Nat.pow_le_pow_right (by decide) (by omega)
    have hs : tourref1_Fitted_l2 n (lo + (2 ^ i : Nat) - 1) (i : Int) = some (.inl (lo + (2 ^ (i + 1) : Nat) - 1, ((i + 1 : Nat) : Int))) := by
      unfold tourref1_Fitted_l2
      rw [cnd_dec, if_pos (by omega), cnd_dec, if_pos (by omega), shl_ok (by omega), show IntKind.bits .i64 = 64 from rfl, Int.toNat_natCast, Nat.min_eq_left (by omega), show (1 : Int) * 2 ^ i = ((2 ^ i : Nat) : Int) by simp, Nat.pow_succ]
      simp only [Option.bind_some]
      generalize 2 ^ i = q at hp ⊢
      rw [i64ok (x := ((q : Nat) : Int)) (by omega) (by omega), i64ok (x := lo + (q : Int) - 1 + (q : Int)) (by omega) (by omega), i64ok (by omega) (by omega)]
      congr 2
      exact Prod.ext (by show lo + (q : Int) - 1 + (q : Int) = _; omega) rfl
    rw [loop_inl (s := (lo + (2 ^ i : Nat) - 1, (i : Int))) hs]
    exact ih (i + 1) (by omega)
theorem fitted_eq (f : ByteArray) (n f2 v : Int) : tourref1_Fitted f n f2 v = some (fitE n (lim f2) v) := by
  have hl := lim_lo f2
  have hp := wid_pow n
  unfold tourref1_Fitted fitE
  rw [limit_eq]
  simp only [Option.bind_some]
  have := fitted_loop (n := n) hl (wid n) 0 (by omega)
  rw [Nat.pow_zero, show lim f2 + ((1 : Nat) : Int) - 1 = lim f2 by omega] at this
  refine Eq.trans (congrArg (fun o => o.bind fun e_ : Int => tourref1_Fitted_j1 v (lim f2) e_) this) ?_
  simp only [Option.bind_some, tourref1_Fitted_j1]
  rw [cnd_dec, cnd_dec]
  generalize 2 ^ wid n = q at hp ⊢
  by_cases h1 : v < lim f2
  · rw [if_pos h1]; congr 1; omega
  · rw [if_neg h1]
    by_cases h2 : lim f2 + (q : Int) - 1 < v
    · rw [if_pos h2]; congr 1; omega
    · rw [if_neg h2]; congr 1; omega
def okF (n f2 : Int) : Prop := 0 ≤ n ∧ n ≤ 32 ∧ f2 = lim f2
theorem check_ok {f : ByteArray} {n f2 : Int} (h : okF n f2) : quant_Check f n f2 = some 0 := by
  obtain ⟨h1, h2, h3⟩ := h
  unfold quant_Check
  rw [cnd_dec, if_neg (by omega), cnd_dec, if_neg (by omega), clamp_eq]
  simp only [Option.bind_some]
  rw [cnd_not, cnd_beq, if_pos h3]
theorem check_bad {f : ByteArray} {n f2 : Int} (h : ¬ okF n f2) : quant_Check f n f2 = some 3 := by
  unfold quant_Check
  rw [cnd_dec, cnd_dec, clamp_eq]
  simp only [Option.bind_some]
  rw [cnd_not, cnd_beq]
  by_cases h1 : n < 0
  · rw [if_pos h1]
  · by_cases h2 : 32 < n
    · rw [if_neg h1, if_pos h2]
    · rw [if_neg h1, if_neg h2, if_neg (fun h3 => h ⟨by omega, by omega, h3⟩)]
theorem fieldis_ok {f : ByteArray} {n f2 : Int} (h : okF n f2) : tourref1_FieldIs f n f2 = some true := by
  obtain ⟨h1, h2, h3⟩ := h
  unfold tourref1_FieldIs
  rw [cnd_dec, if_pos h1, cnd_dec, if_pos h2, limit_eq]
  simp only [Option.bind_some, tourref1_FieldIs_j1]
  rw [← h3]; simp
theorem fieldis_bad {f : ByteArray} {n f2 : Int} (h : ¬ okF n f2) : tourref1_FieldIs f n f2 = some false := by
  unfold tourref1_FieldIs
  rw [cnd_dec, cnd_dec, limit_eq]
  simp only [Option.bind_some, tourref1_FieldIs_j1]
  by_cases h1 : 0 ≤ n
  · by_cases h2 : n ≤ 32
    · rw [if_pos h1, if_pos h2]
      have : ¬ f2 = lim f2 := fun h3 => h ⟨h1, h2, h3⟩
      simp [this]
    · rw [if_pos h1, if_neg h2]
  · rw [if_neg h1]
theorem qbegun : tourlaw1_quantBegun = some true := by
  unfold tourlaw1_quantBegun
  rw [fit_eq]
  rfl
theorem readE_err {bs : List Bool} {at_ : Nat} {n : Int} (h : (readE bs at_ n).2.1 ≠ 0) : (readE bs at_ n).1 = 0 := by
  unfold readE at h ⊢
  split
  · rfl
  · split
    · rfl
    · rename_i h1 h2; rw [if_neg h1, if_neg h2] at h; exact absurd rfl h
theorem readE_lt {bs : List Bool} {at_ : Nat} {n : Int} (hn : n ≤ 32) : (readE bs at_ n).1 < 4294967296 := by
  unfold readE
  split
  · simp
  · split
    · simp
    · exact Nat.lt_of_lt_of_le (bsum_lt bs at_ n.toNat) (Nat.pow_le_pow_right (show 0 < 2 by decide) (show n.toNat ≤ 32 by omega))
theorem QuantFields_true (f_0 : ByteArray) (f_1 : Int) (f_2 : Int) (v : Int) (data : List Int) (h0 : ok_api_Field (api_Field.mk f_0 f_1 f_2)) (h1 : (okk .i64) v) (h2 : (okl 1 (okk .u8)) data) (hb : bk_api_Field (api_Field.mk f_0 f_1 f_2) + bk1 v + (bkl bk1) data ≤ 1048576) : tourlaw1_QuantFields f_0 f_1 f_2 v data = some true := by
  have hd := bkl_len (b := bk1) (fun _ => Nat.le_refl _) data
  have h : Bytes data := ⟨by omega, h2.2⟩
  have hs := h.short
  have hul := unpack_length data
  simp only [okk] at h1
  have hl := lim_lo f_2
  unfold tourlaw1_QuantFields
  rw [qbegun]
  simp only [Option.bind_some]
  rw [cnd_not, cnd_true, new_eq h]
  simp only [Option.bind_some]
  rw [fit_eq, fitted_eq]
  simp only [Option.bind_some]
  by_cases hF : okF f_1 f_2
  · obtain ⟨g1, g2, g3⟩ := hF
    have hn : okk .i64 f_1 := by simp only [okk]; omega
    have hw : wid f_1 = f_1.toNat := by unfold wid; omega
    have hp := wid_pow f_1
    have hrl : (readE (unpack data) 0 f_1).2.2 ≤ 8 * data.length := by rw [← hul]; exact readE_le (by omega)
    have hget : quant_Get data 0 f_0 f_1 f_2 = some (if (readE (unpack data) 0 f_1).2.1 = 0 then IntKind.i64.wrap (f_2 + IntKind.i64.wrap ((readE (unpack data) 0 f_1).1 : Int)) else 0, (readE (unpack data) 0 f_1).2.1, ((readE (unpack data) 0 f_1).2.2 : Int)) := by
      unfold quant_Get
      rw [check_ok ⟨g1, g2, g3⟩]
      simp only [Option.bind_some]
      rw [cnd_not, cnd_beq, if_pos rfl]
      have := get_eq (at_ := 0) (n := f_1) h (by omega)
      rw [show ((0 : Nat) : Int) = 0 from rfl] at this
      rw [this, bnd3_some, cnd_not, cnd_beq]
      by_cases he : (readE (unpack data) 0 f_1).2.1 = 0
      · rw [if_pos he, if_pos he, he]
      · rw [if_neg he, if_neg he]
    have hput : quant_Put ([] : List Int) 0 f_0 f_1 f_2 v = if fitE f_1 (lim f_2) v = v then some ((putE [] (IntKind.u64.wrap (IntKind.i64.wrap (v - f_2))).toNat f_1).1, pack (putE [] (IntKind.u64.wrap (IntKind.i64.wrap (v - f_2))).toNat f_1).2, ((putE [] (IntKind.u64.wrap (IntKind.i64.wrap (v - f_2))).toNat f_1).2.length : Int)) else some (1, [], 0) := by
      unfold quant_Put
      rw [check_ok ⟨g1, g2, g3⟩]
      simp only [Option.bind_some]
      rw [cnd_not, cnd_beq, if_pos rfl, fit_eq]
      simp only [Option.bind_some]
      rw [cnd_not, cnd_beq]
      by_cases he : fitE f_1 (lim f_2) v = v
      · rw [if_pos he, if_pos he]
        have hx0 := w64_lo (IntKind.i64.wrap (v - f_2))
        have hx1 := w64_hi (IntKind.i64.wrap (v - f_2))
        obtain ⟨x, hx⟩ := Int.eq_ofNat_of_zero_le hx0
        rw [hx, Int.toNat_natCast]
        have := put_eq (bs := []) (v := x) (n := f_1) (by omega) (by simp) hn
        rw [show pack [] = ([] : List Int) from rfl, show (([] : List Bool).length : Int) = 0 from rfl] at this
        rw [this, bnd3_some]
      · rw [if_neg he, if_neg he]
    rw [hput, hget]
    have hread := read_eq (bs := unpack data) (at_ := 0) (n := f_1) (by omega) (by omega)
    rw [show ((0 : Nat) : Int) = 0 from rfl] at hread
    have tail : ∀ (x6 : Int) (x7 : List Int) (x8 : Int), (fitE f_1 (lim f_2) v ≠ v → x6 = 1 ∧ x8 = 0) → (fitE f_1 (lim f_2) v = v → x6 = (putE [] (IntKind.u64.wrap (IntKind.i64.wrap (v - f_2))).toNat f_1).1 ∧ x7 = pack (putE [] (IntKind.u64.wrap (IntKind.i64.wrap (v - f_2))).toNat f_1).2 ∧ x8 = ((putE [] (IntKind.u64.wrap (IntKind.i64.wrap (v - f_2))).toNat f_1).2.length : Int)) → ∀ i65 : Int, IntKind.i64.wrap i65 = (if (readE (unpack data) 0 f_1).2.1 = 0 then IntKind.i64.wrap (f_2 + IntKind.i64.wrap ((readE (unpack data) 0 f_1).1 : Int)) else 0) →
        tourlaw1_QuantFields_j2 f_0 f_1 f_2 (readE (unpack data) 0 f_1).2.1 (readE (unpack data) 0 f_1).2.1 (if (readE (unpack data) 0 f_1).2.1 = 0 then IntKind.i64.wrap (f_2 + IntKind.i64.wrap ((readE (unpack data) 0 f_1).1 : Int)) else 0) data ((readE (unpack data) 0 f_1).2.2 : Int) (unpack data) ((readE (unpack data) 0 f_1).2.2 : Int) v x6 x7 x8 i65 = some true := by
      intro x6 x7 x8 hne heq i65 hi
      unfold tourlaw1_QuantFields_j2
      rw [check_ok ⟨g1, g2, g3⟩]
      simp only [Option.bind_some]
      rw [cnd_not, cnd_beq, if_pos rfl, cnd_not, cnd_beq, if_pos rfl, cnd_not, cnd_beq, hi, if_pos rfl, left_eq h hrl]
      simp only [Option.bind_some]
      rw [cnd_not, cnd_beq, i64ok (x := ((unpack data).length : Int) - ((readE (unpack data) 0 f_1).2.2 : Int)) (by omega) (by omega), if_pos (by omega), fitted_eq]
      simp only [Option.bind_some]
      rw [cnd_not, cnd_beq]
      by_cases he : fitE f_1 (lim f_2) v = v
      · obtain ⟨e6, e7, e8⟩ := heq he
        rw [if_pos he]
        have hx : IntKind.u64.wrap (IntKind.i64.wrap (v - f_2)) = (((v - f_2).toNat : Nat) : Int) ∧ (v - f_2).toNat < 2 ^ wid f_1 := by
          unfold fitE at he
          rw [← g3] at he hl
          generalize 2 ^ wid f_1 = q at hp he ⊢
          rw [i64ok (by omega) (by omega), w64_in (by omega) (by omega)]
          omega
        rw [hx.1, Int.toNat_natCast] at e6 e7 e8
        have hx64 : (v - f_2).toNat < 18446744073709551616 := by have := hx.2; omega
        have hpe : putE [] (v - f_2).toNat f_1 = (0, lowBits (v - f_2).toNat f_1.toNat) := by
          unfold putE
          rw [if_neg (by omega), if_neg (by rw [← hw, Nat.div_eq_of_lt hx.2]; simp), if_neg (by simp; omega)]
          rfl
        rw [hpe] at e6 e7 e8
        subst e6 e7 e8
        rw [hx.1, add_eq (bs := []) hx64 (by simp), hpe, bnd2_some, cnd_beq, if_pos rfl]
        unfold bits_Writer_Len
        simp only [Option.bind_some]
        have hll : (lowBits (v - f_2).toNat f_1.toNat).length = f_1.toNat := lowBits_length _ _
        have hpl : (pack (lowBits (v - f_2).toNat f_1.toNat)).length ≤ 140737488355328 := by rw [pack_length, hll]; unfold nbytes; omega
        rw [cnd_beq, if_pos (by omega), wbytes_eq hpl, bytes_eq (by omega)]
        simp only [Option.bind_some]
        rw [equal8 _ hpl]; rfl
      · obtain ⟨e6, e8⟩ := hne he
        subst e6 e8
        rw [if_neg he, cnd_beq, if_pos rfl]; rfl
    have last : ∀ (x6 : Int) (x7 : List Int) (x8 : Int), (fitE f_1 (lim f_2) v ≠ v → x6 = 1 ∧ x8 = 0) → (fitE f_1 (lim f_2) v = v → x6 = (putE [] (IntKind.u64.wrap (IntKind.i64.wrap (v - f_2))).toNat f_1).1 ∧ x7 = pack (putE [] (IntKind.u64.wrap (IntKind.i64.wrap (v - f_2))).toNat f_1).2 ∧ x8 = ((putE [] (IntKind.u64.wrap (IntKind.i64.wrap (v - f_2))).toNat f_1).2.length : Int)) →
        cnd ((readE (unpack data) 0 f_1).2.1 == 0) (tourlaw1_QuantFields_j2 f_0 f_1 f_2 (readE (unpack data) 0 f_1).2.1 (readE (unpack data) 0 f_1).2.1 (if (readE (unpack data) 0 f_1).2.1 = 0 then IntKind.i64.wrap (f_2 + IntKind.i64.wrap ((readE (unpack data) 0 f_1).1 : Int)) else 0) data ((readE (unpack data) 0 f_1).2.2 : Int) (unpack data) ((readE (unpack data) 0 f_1).2.2 : Int) v x6 x7 x8 (IntKind.u64.wrap (((readE (unpack data) 0 f_1).1 : Int) + IntKind.u64.wrap f_2)))
          (tourlaw1_QuantFields_j2 f_0 f_1 f_2 (readE (unpack data) 0 f_1).2.1 (readE (unpack data) 0 f_1).2.1 (if (readE (unpack data) 0 f_1).2.1 = 0 then IntKind.i64.wrap (f_2 + IntKind.i64.wrap ((readE (unpack data) 0 f_1).1 : Int)) else 0) data ((readE (unpack data) 0 f_1).2.2 : Int) (unpack data) ((readE (unpack data) 0 f_1).2.2 : Int) v x6 x7 x8 ((readE (unpack data) 0 f_1).1 : Int)) = some true := by
      intro x6 x7 x8 hne heq
      rw [cnd_beq]
      have hlt := readE_lt (bs := unpack data) (at_ := 0) (n := f_1) g2
      by_cases he : (readE (unpack data) 0 f_1).2.1 = 0
      · rw [if_pos he]
        refine tail x6 x7 x8 hne heq _ ?_
        rw [if_pos he]
        generalize (readE (unpack data) 0 f_1).1 = r at hlt ⊢
        rw [← g3] at hl
        rw [w64, w64, IntKind.wrap_i64, IntKind.wrap_i64, IntKind.wrap_i64]
        omega
      · rw [if_neg he]
        refine tail x6 x7 x8 hne heq _ ?_
        rw [if_neg he, readE_err he]; rfl
    by_cases he : fitE f_1 (lim f_2) v = v
    · rw [if_pos he, bnd3_some, bnd3_some, cnd_not, cnd_beq, if_pos rfl, fieldis_ok ⟨g1, g2, g3⟩]
      simp only [Option.bind_some]
      rw [cnd_not, cnd_true, bitsof_eq h]
      simp only [Option.bind_some]
      rw [hread, bnd3_some]
      exact last _ _ _ (fun z => absurd he z) (fun _ => ⟨rfl, rfl, rfl⟩)
    · rw [if_neg he, bnd3_some, bnd3_some, cnd_not, cnd_beq, if_pos rfl, fieldis_ok ⟨g1, g2, g3⟩]
      simp only [Option.bind_some]
      rw [cnd_not, cnd_true, bitsof_eq h]
      simp only [Option.bind_some]
      rw [hread, bnd3_some]
      exact last _ _ _ (fun _ => ⟨rfl, rfl⟩) (fun z => absurd z he)
  · have hput : quant_Put ([] : List Int) 0 f_0 f_1 f_2 v = some (3, [], 0) := by
      unfold quant_Put
      rw [check_bad hF]
      simp only [Option.bind_some]
      rw [cnd_not, cnd_beq, if_neg (by omega)]
    have hget : quant_Get data 0 f_0 f_1 f_2 = some (0, 3, 0) := by
      unfold quant_Get
      rw [check_bad hF]
      simp only [Option.bind_some]
      rw [cnd_not, cnd_beq, if_neg (by omega)]
    have hleft := left_eq (at_ := 0) h (by omega)
    rw [show ((0 : Nat) : Int) = 0 from rfl] at hleft
    rw [hput, bnd3_some, hget, bnd3_some, cnd_not, cnd_beq, if_pos rfl, fieldis_bad hF]
    simp only [Option.bind_some]
    rw [cnd_not, cnd_false, check_bad hF]
    unfold bits_Writer_Len
    simp only [Option.bind_some]
    rw [cnd_beq, if_pos rfl, cnd_beq, if_pos rfl, cnd_beq, if_pos rfl, cnd_beq, if_pos rfl, cnd_beq, if_pos rfl, hleft]
    simp only [Option.bind_some, tourlaw1_QuantFields_j1]
    rw [i64ok (by omega) (by omega)]
    simp
end Go.Proofs.Ytfihfbkjomploaa.X
