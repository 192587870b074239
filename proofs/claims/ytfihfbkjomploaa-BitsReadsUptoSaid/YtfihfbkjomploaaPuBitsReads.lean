/- The plain law of the reader: numbers in groups, signs, a list of calls. No condition. -/
import Derived.Test.YtfihfbkjomploaaPuRead
namespace Go.Proofs.Ytfihfbkjomploaa.X
open Go Go.RowKit Go.Proofs.Ytfihfbkjomploaa.Sx Go.Proofs.Ytfihfbkjomploaa.Rnd Go.Proofs.Ytfihfbkjomploaa.Nats Go.Proofs.Ytfihfbkjomploaa.Trig Go.Proofs.Ytfihfbkjomploaa.Bits
set_option linter.unusedVariables false
set_option linter.unusedSimpArgs false
/-- The low four bits of group j. -/
def low (bs : List Bool) (at_ j : Nat) : Nat := bsum bs (at_ + 5 * j) 4
theorem low_lt (bs : List Bool) (at_ j : Nat) : low bs at_ j < 16 := bsum_lt bs _ 4
def wsum (bs : List Bool) (at_ : Nat) : Nat → Nat → Nat
  | _, 0 => 0
  | j, c + 1 => low bs at_ j + 16 * wsum bs at_ (j + 1) c
theorem pow4 (c : Nat) : 2 ^ (4 * (c + 1)) = 16 * 2 ^ (4 * c) := by rw [show 4 * (c + 1) = 4 * c + 4 by omega, Nat.pow_add]; omega
theorem wsum_snoc (bs : List Bool) (at_ : Nat) : ∀ c j, wsum bs at_ j (c + 1) = wsum bs at_ j c + low bs at_ (j + c) * 2 ^ (4 * c)
  | 0, j => by simp [wsum]
  | c + 1, j => by
    rw [wsum, wsum_snoc bs at_ c (j + 1), wsum, pow4, show j + 1 + c = j + (c + 1) by omega, Nat.mul_add, Nat.mul_left_comm]
    omega
theorem wsum_lt (bs : List Bool) (at_ : Nat) : ∀ c j, wsum bs at_ j c < 2 ^ (4 * c)
  | 0, j => by simp [wsum]
  | c + 1, j => by
    have h := wsum_lt bs at_ c (j + 1)
    have := low_lt bs at_ j
    rw [wsum, pow4]; omega
theorem grp5 (bs : List Bool) (at_ i : Nat) : bsum bs (at_ + 5 * i) 5 = low bs at_ i + bv (bs.getD (at_ + 5 * i + 4) false) * 16 := rfl
/-- What reading a number gives, d groups yet allowed. -/
def gor (bs : List Bool) (at_ : Nat) : Nat → Nat → Nat → Nat × Int × Nat
  | 0, i, acc => if bs.length < at_ + 5 * i + 5 then (0, 14, at_) else (0, 3, at_)
  | d + 1, i, acc => if bs.length < at_ + 5 * i + 5 then (0, 14, at_) else if bsum bs (at_ + 5 * i) 5 = 0 ∧ 0 < i then (0, 3, at_)
    else if bsum bs (at_ + 5 * i) 5 < 16 then (acc + low bs at_ i * 2 ^ (4 * i), 0, at_ + 5 * (i + 1)) else gor bs at_ d (i + 1) (acc + low bs at_ i * 2 ^ (4 * i))
def natR (bs : List Bool) (at_ : Nat) : Nat × Int × Nat := gor bs at_ 16 0 0
def out3 (x : Nat × Int × Nat) : Int × Int × Int := ((x.1 : Int), x.2.1, (x.2.2 : Int))
theorem gor_le {bs : List Bool} {at_ : Nat} (ha : at_ ≤ bs.length) : ∀ d i acc, (gor bs at_ d i acc).2.2 ≤ bs.length
  | 0, i, acc => by unfold gor; split <;> exact ha
  | d + 1, i, acc => by
    unfold gor
    split
    · exact ha
    · split
      · exact ha
      · split
        · simp only; omega
        · exact gor_le ha d _ _
theorem gor_err {bs : List Bool} {at_ : Nat} : ∀ d i acc, (gor bs at_ d i acc).2.1 ≠ 0 → (gor bs at_ d i acc).1 = 0
  | 0, i, acc => by unfold gor; split <;> simp
  | d + 1, i, acc => by
    unfold gor
    split
    · simp
    · split
      · simp
      · split
        · simp
        · exact gor_err d _ _
theorem gor_small {bs : List Bool} {at_ : Nat} : ∀ d i, i + d = 16 → (gor bs at_ d i (wsum bs at_ 0 i)).1 < 18446744073709551616
  | 0, i, h => by unfold gor; split <;> simp
  | d + 1, i, h => by
    have hl := wsum_lt bs at_ (i + 1) 0
    have hs := wsum_snoc bs at_ i 0
    rw [Nat.zero_add] at hs
    have hp : 2 ^ (4 * (i + 1)) ≤ 2 ^ 64 := Nat.pow_le_pow_right (by decide) (by omega)
    unfold gor
    split
    · simp
    · split
      · simp
      · split
        · simp only; omega
        · rw [← hs]; exact gor_small d (i + 1) (by omega)
theorem natR_small (bs : List Bool) (at_ : Nat) : (natR bs at_).1 < 18446744073709551616 := gor_small 16 0 (by omega)
theorem or_gen {a x i : Nat} (ha : a < 2 ^ i) (h : a + x * 2 ^ i < 18446744073709551616) : Go.bits .or .u64 (a : Int) ((x * 2 ^ i : Nat) : Int) = ((a + x * 2 ^ i : Nat) : Int) := by
  rw [Go.u64_or_nat a (x * 2 ^ i) (by omega) (by omega)]
  congr 1
  rw [← Nat.shiftLeft_eq, Nat.or_comm, ← Nat.shiftLeft_add_eq_or_of_lt ha, Nat.add_comm]
theorem and_15 {u : Nat} (h : u < 18446744073709551616) : Go.bits .and .u64 (u : Int) 15 = ((u % 16 : Nat) : Int) := by
  rw [show (15 : Int) = ((15 : Nat) : Int) from rfl, Go.u64_and_nat u 15 h (by decide)]
  congr 1
  exact Nat.and_two_pow_sub_one_eq_mod u 4
theorem rnat_loop {l : List Int} {at_ : Nat} (h : Bytes l) (ha : at_ ≤ 8 * l.length) : ∀ (d i acc : Nat), i + d = 16 → acc < 2 ^ (4 * i) → at_ + 5 * i ≤ 8 * l.length →
    loop (σ := Int × Int × Int) (ρ := Int × Int × Int) (fun s_ => bits_Reader_Nat_l1 l (at_ : Int) s_.1 s_.2.1 s_.2.2) (((at_ + 5 * i : Nat) : Int), (acc : Int), (i : Int)) = some (out3 (gor (unpack l) at_ d i acc)) := by
  have hs := h.short
  have hul := unpack_length l
  intro d
  induction d with
  | zero =>
    intro i acc hi hacc hat
    refine loop_inr (s := (((at_ + 5 * i : Nat) : Int), (acc : Int), (i : Int))) ?_
    show bits_Reader_Nat_l1 l (at_ : Int) ((at_ + 5 * i : Nat) : Int) (acc : Int) (i : Int) = _
    unfold bits_Reader_Nat_l1 gor
    rw [get_eq h hat, bnd3_some]
    unfold readE
    rw [if_neg (by omega), show Int.toNat 5 = 5 from rfl]
    by_cases h1 : (unpack l).length < at_ + 5 * i + 5
    · rw [if_pos h1, if_pos h1]; rfl
    · rw [if_neg h1, if_neg h1, cnd_beq, if_pos rfl, cnd_beq, if_pos (by omega)]; rfl
  | succ d ih =>
    intro i acc hi hacc hat
    unfold gor
    by_cases h1 : (unpack l).length < at_ + 5 * i + 5
    · rw [if_pos h1]
      refine loop_inr (s := (((at_ + 5 * i : Nat) : Int), (acc : Int), (i : Int))) ?_
      show bits_Reader_Nat_l1 l (at_ : Int) ((at_ + 5 * i : Nat) : Int) (acc : Int) (i : Int) = _
      unfold bits_Reader_Nat_l1
      rw [get_eq h hat, bnd3_some]
      unfold readE
      rw [if_neg (by omega), show Int.toNat 5 = 5 from rfl, if_pos h1]; rfl
    · rw [if_neg h1]
      have hg := grp5 (unpack l) at_ i
      have hlow := low_lt (unpack l) at_ i
      have hbv := bv_le ((unpack l).getD (at_ + 5 * i + 4) false)
      have hmod : bsum (unpack l) (at_ + 5 * i) 5 % 16 = low (unpack l) at_ i := by omega
      have hp : 2 ^ (4 * i) ≤ 2 ^ 60 := Nat.pow_le_pow_right (by decide) (by omega)
      have hm : low (unpack l) at_ i * 2 ^ (4 * i) ≤ 15 * 2 ^ (4 * i) := Nat.mul_le_mul_right _ (by omega)
      have hp4 := pow4 i
      have j2 : bits_Reader_Nat_j2 (at_ : Int) ((bsum (unpack l) (at_ + 5 * i) 5 : Nat) : Int) (i : Int) (acc : Int) ((at_ + 5 * i + 5 : Nat) : Int) 0 = if bsum (unpack l) (at_ + 5 * i) 5 < 16 then some (.inr (out3 (acc + low (unpack l) at_ i * 2 ^ (4 * i), 0, at_ + 5 * (i + 1)))) else some (.inl (((at_ + 5 * (i + 1) : Nat) : Int), ((acc + low (unpack l) at_ i * 2 ^ (4 * i) : Nat) : Int), ((i + 1 : Nat) : Int))) := by
        unfold bits_Reader_Nat_j2
        rw [cnd_not, cnd_beq, if_pos rfl, and_15 (by omega), hmod, i64ok (x := 4 * (i : Int)) (by omega) (by omega), show (4 * (i : Int)) = ((4 * i : Nat) : Int) by omega, shl_ok (by omega), Int.toNat_natCast, show IntKind.bits .u64 = 64 from rfl, Nat.min_eq_left (by omega), show ((low (unpack l) at_ i : Nat) : Int) * 2 ^ (4 * i) = ((low (unpack l) at_ i * 2 ^ (4 * i) : Nat) : Int) by simp, w64_in (by omega) (by omega)]
        simp only [Option.bind_some]
        rw [or_gen hacc (by omega), cnd_dec, i64ok (by omega) (by omega)]
        by_cases h3 : bsum (unpack l) (at_ + 5 * i) 5 < 16
        · rw [if_pos (by omega), if_pos h3]; unfold out3; congr 3
        · rw [if_neg (by omega), if_neg h3]; congr 3
      have step : bits_Reader_Nat_l1 l (at_ : Int) ((at_ + 5 * i : Nat) : Int) (acc : Int) (i : Int) = if bsum (unpack l) (at_ + 5 * i) 5 = 0 ∧ 0 < i then some (.inr (0, 3, (at_ : Int))) else bits_Reader_Nat_j2 (at_ : Int) ((bsum (unpack l) (at_ + 5 * i) 5 : Nat) : Int) (i : Int) (acc : Int) ((at_ + 5 * i + 5 : Nat) : Int) 0 := by
        unfold bits_Reader_Nat_l1
        rw [get_eq h hat, bnd3_some]
        unfold readE
        rw [if_neg (by omega), show Int.toNat 5 = 5 from rfl, if_neg h1, cnd_beq, if_pos rfl, cnd_beq, if_neg (by omega), cnd_beq]
        by_cases h0 : bsum (unpack l) (at_ + 5 * i) 5 = 0
        · rw [if_pos (by omega), cnd_dec]
          by_cases hi0 : 0 < i
          · rw [if_pos (by omega), if_pos ⟨h0, hi0⟩]; rfl
          · rw [if_neg (by omega), if_neg (fun z => hi0 z.2)]
        · rw [if_neg (by omega), if_neg (fun z => h0 z.1)]
      by_cases hz : bsum (unpack l) (at_ + 5 * i) 5 = 0 ∧ 0 < i
      · rw [if_pos hz] at step ⊢
        exact loop_inr (s := (((at_ + 5 * i : Nat) : Int), (acc : Int), (i : Int))) step
      · rw [if_neg hz, j2] at step
        rw [if_neg hz]
        by_cases h3 : bsum (unpack l) (at_ + 5 * i) 5 < 16
        · rw [if_pos h3] at step ⊢
          exact loop_inr (s := (((at_ + 5 * i : Nat) : Int), (acc : Int), (i : Int))) step
        · rw [if_neg h3] at step ⊢
          rw [loop_inl (s := (((at_ + 5 * i : Nat) : Int), (acc : Int), (i : Int))) step]
          exact ih (i + 1) _ (by omega) (by omega) (by omega)
theorem rnat_eq {l : List Int} {at_ : Nat} (h : Bytes l) (ha : at_ ≤ 8 * l.length) : bits_Reader_Nat l (at_ : Int) = some (out3 (natR (unpack l) at_)) := by
  unfold bits_Reader_Nat
  have := rnat_loop h ha 16 0 0 (by omega) (by simp) (by omega)
  exact congrArg (fun o => o.bind fun e_ : Int × Int × Int => some (e_.1, e_.2.1, e_.2.2)) this
/-! ### The reference -/
theorem g4_loop {bs : List Bool} {at_ i : Nat} (hs : bs.length ≤ 8388608) (hi : i ≤ 16) (hq : at_ + 5 * i + 4 ≤ bs.length) : ∀ (j : Nat), j ≤ 4 →
    loop (σ := Int × Int) (ρ := Int) (fun s_ => tourref1_Bits_ReadNat_l6 (at_ : Int) (i : Int) bs s_.1 s_.2) (((bsum bs (at_ + 5 * i + j) (4 - j) : Nat) : Int), (j : Int) - 1) = some ((low bs at_ i : Nat) : Int) := by
  intro j
  induction j with
  | zero =>
    intro _
    exact loop_inr (s := (((bsum bs (at_ + 5 * i + 0) (4 - 0) : Nat) : Int), ((0 : Nat) : Int) - 1)) (by
      show tourref1_Bits_ReadNat_l6 (at_ : Int) (i : Int) bs ((bsum bs (at_ + 5 * i + 0) (4 - 0) : Nat) : Int) (((0 : Nat) : Int) - 1) = _
      unfold tourref1_Bits_ReadNat_l6; rw [cnd_dec, if_neg (by omega)]; rfl)
  | succ j ih =>
    intro hj
    have hstep : tourref1_Bits_ReadNat_l6 (at_ : Int) (i : Int) bs ((bsum bs (at_ + 5 * i + (j + 1)) (4 - (j + 1)) : Nat) : Int) (((j + 1 : Nat) : Int) - 1) = some (.inl (((bsum bs (at_ + 5 * i + j) (4 - j) : Nat) : Int), (j : Int) - 1)) := by
      unfold tourref1_Bits_ReadNat_l6
      rw [cnd_dec, if_pos (by omega), i64ok (x := 5 * (i : Int)) (by omega) (by omega), i64ok (x := (at_ : Int) + 5 * (i : Int)) (by omega) (by omega), show ((at_ : Int) + 5 * (i : Int) + (((j + 1 : Nat) : Int) - 1)) = ((at_ + 5 * i + j : Nat) : Int) by omega, i64ok (x := ((at_ + 5 * i + j : Nat) : Int)) (by omega) (by omega)]
      simp only [Option.bind_some]
      rw [idx_get (by omega)]
      simp only [Option.bind_some]
      have := dbl_bit (bs := bs) (o := at_ + 5 * i + j) (k := 4 - (j + 1)) (f := tourref1_Bits_ReadNat_j7 (((j + 1 : Nat) : Int) - 1)) (by omega) (by omega)
      rw [show at_ + 5 * i + (j + 1) = at_ + 5 * i + j + 1 by omega, this, show 4 - (j + 1) + 1 = 4 - j by omega]
      unfold tourref1_Bits_ReadNat_j7
      rw [i64ok (by omega) (by omega)]
      congr 3; omega
    rw [loop_inl (s := (((bsum bs (at_ + 5 * i + (j + 1)) (4 - (j + 1)) : Nat) : Int), ((j + 1 : Nat) : Int) - 1)) hstep]
    exact ih (by omega)
theorem g4_eq {bs : List Bool} {at_ i : Nat} (hs : bs.length ≤ 8388608) (hi : i ≤ 16) (hq : at_ + 5 * i + 4 ≤ bs.length) (k acc : Int) :
    tourref1_Bits_ReadNat_l3 (at_ : Int) bs k acc (i : Int) = tourref1_Bits_ReadNat_j4 (i : Int) k (at_ : Int) acc ((low bs at_ i : Nat) : Int) := by
  unfold tourref1_Bits_ReadNat_l3
  rw [cnd_dec, if_pos (by omega)]
  have := g4_loop hs hi hq 4 (Nat.le_refl _)
  rw [Nat.sub_self] at this
  exact congrArg (fun o => o.bind fun e_ : Int => tourref1_Bits_ReadNat_j4 (i : Int) k (at_ : Int) acc e_) this
theorem j5_eq {bs : List Bool} {at_ j c : Nat} (h : j + c < 16) : tourref1_Bits_ReadNat_j5 ((wsum bs at_ (j + 1) c : Nat) : Int) ((low bs at_ j : Nat) : Int) (j : Int) = some (.inl (((wsum bs at_ j (c + 1) : Nat) : Int), (j : Int) - 1)) := by
  have hl := wsum_lt bs at_ (c + 1) j
  have hp : 2 ^ (4 * (c + 1)) ≤ 2 ^ 64 := Nat.pow_le_pow_right (by decide) (by omega)
  unfold tourref1_Bits_ReadNat_j5
  rw [wsum] at hl ⊢
  rw [w64_in (x := 16 * ((wsum bs at_ (j + 1) c : Nat) : Int)) (by omega) (by omega), w64_in (by omega) (by omega), i64ok (by omega) (by omega)]
  congr 3; omega
theorem ph2_rest {bs : List Bool} {at_ k : Nat} (hs : bs.length ≤ 8388608) (hk : k ≤ 16) (hq : at_ + 5 * k ≤ bs.length) : ∀ (j : Nat), j + 1 ≤ k →
    loop (σ := Int × Int) (ρ := ((Int × Int × Int) ⊕ Int)) (fun s_ => tourref1_Bits_ReadNat_l3 (at_ : Int) bs (k : Int) s_.1 s_.2) (((wsum bs at_ j (k - j) : Nat) : Int), (j : Int) - 1) = some (.inr ((wsum bs at_ 0 k : Nat) : Int)) := by
  intro j
  induction j with
  | zero =>
    intro _
    exact loop_inr (s := (((wsum bs at_ 0 (k - 0) : Nat) : Int), ((0 : Nat) : Int) - 1)) (by
      show tourref1_Bits_ReadNat_l3 (at_ : Int) bs (k : Int) ((wsum bs at_ 0 (k - 0) : Nat) : Int) (((0 : Nat) : Int) - 1) = _
      unfold tourref1_Bits_ReadNat_l3; rw [cnd_dec, if_neg (by omega)]; rfl)
  | succ j ih =>
    intro hj
    have hstep : tourref1_Bits_ReadNat_l3 (at_ : Int) bs (k : Int) ((wsum bs at_ (j + 1) (k - (j + 1)) : Nat) : Int) (((j + 1 : Nat) : Int) - 1) = some (.inl (((wsum bs at_ j (k - j) : Nat) : Int), (j : Int) - 1)) := by
      rw [show (((j + 1 : Nat) : Int) - 1) = (j : Int) by omega, g4_eq hs (by omega) (by omega)]
      unfold tourref1_Bits_ReadNat_j4
      rw [cnd_beq, i64ok (by omega) (by omega), if_neg (by omega), j5_eq (by omega), show k - (j + 1) + 1 = k - j by omega]
    rw [loop_inl (s := (((wsum bs at_ (j + 1) (k - (j + 1)) : Nat) : Int), ((j + 1 : Nat) : Int) - 1)) hstep]
    exact ih (by omega)
theorem ph2_eq {bs : List Bool} {at_ i : Nat} (hs : bs.length ≤ 8388608) (hk : i < 16) (hq : at_ + 5 * (i + 1) ≤ bs.length) :
    tourref1_Bits_ReadNat_j1 (at_ : Int) bs ((i + 1 : Nat) : Int) = some (if low bs at_ i = 0 ∧ 0 < i then (0, 3, (at_ : Int)) else out3 (wsum bs at_ 0 (i + 1), 0, at_ + 5 * (i + 1))) := by
  unfold tourref1_Bits_ReadNat_j1
  rw [show IntKind.i64.wrap (((i + 1 : Nat) : Int) - 1) = (i : Int) by rw [i64ok (by omega) (by omega)]; omega]
  have first : tourref1_Bits_ReadNat_l3 (at_ : Int) bs ((i + 1 : Nat) : Int) 0 (i : Int) = if low bs at_ i = 0 ∧ 0 < i then some (.inr (.inl (0, 3, (at_ : Int)))) else some (.inl (((wsum bs at_ i 1 : Nat) : Int), (i : Int) - 1)) := by
    rw [g4_eq hs (by omega) (by omega)]
    have h5 := j5_eq (bs := bs) (at_ := at_) (j := i) (c := 0) (by omega)
    rw [show ((wsum bs at_ (i + 1) 0 : Nat) : Int) = 0 from rfl] at h5
    unfold tourref1_Bits_ReadNat_j4
    rw [cnd_beq, i64ok (by omega) (by omega), if_pos (by omega), cnd_dec, cnd_beq]
    by_cases h0 : 0 < i
    · rw [if_pos (by omega)]
      by_cases hl : low bs at_ i = 0
      · rw [if_pos (by omega), if_pos ⟨hl, h0⟩]
      · rw [if_neg (by omega), if_neg (fun z => hl z.1)]; exact h5
    · rw [if_neg (by omega), if_neg (fun z => h0 z.2)]; exact h5
  by_cases hz : low bs at_ i = 0 ∧ 0 < i
  · rw [if_pos hz] at first ⊢
    rw [loop_inr (s := ((0 : Int), (i : Int))) first]
    rfl
  · rw [if_neg hz] at first ⊢
    rw [loop_inl (s := ((0 : Int), (i : Int))) first]
    have := ph2_rest (bs := bs) (at_ := at_) (k := i + 1) hs (by omega) hq i (Nat.le_refl _)
    rw [show i + 1 - i = 1 by omega] at this
    rw [this]
    simp only [Option.bind_some, Sum.elim_inr, tourref1_Bits_ReadNat_j2]
    rw [i64ok (x := 5 * ((i + 1 : Nat) : Int)) (by omega) (by omega), i64ok (by omega) (by omega)]
    unfold out3
    congr 3
theorem refnat_loop {bs : List Bool} {at_ : Nat} (hs : bs.length ≤ 8388608) (ha : at_ ≤ bs.length) : ∀ (d i : Nat), i + d = 16 → at_ + 5 * i ≤ bs.length →
    (loop (σ := Int) (ρ := ((Int × Int × Int) ⊕ Int)) (fun s_ => tourref1_Bits_ReadNat_l8 (at_ : Int) bs s_) (i : Int)).bind (Sum.elim (fun e_ => some (e_.1, e_.2.1, e_.2.2)) (fun e_ => tourref1_Bits_ReadNat_j1 (at_ : Int) bs e_)) = some (out3 (gor bs at_ d i (wsum bs at_ 0 i))) := by
  intro d
  induction d with
  | zero =>
    intro i hi hat
    unfold gor
    have hstep : tourref1_Bits_ReadNat_l8 (at_ : Int) bs (i : Int) = some (.inr (.inl (out3 (if bs.length < at_ + 5 * i + 5 then (0, 14, at_) else (0, 3, at_))))) := by
      unfold tourref1_Bits_ReadNat_l8
      rw [i64ok (x := 5 * (i : Int)) (by omega) (by omega), i64ok (x := (at_ : Int) + 5 * (i : Int)) (by omega) (by omega), i64ok (x := (at_ : Int) + 5 * (i : Int) + 5) (by omega) (by omega)]
      simp only [Option.bind_some]
      rw [cnd_dec, cnd_beq]
      by_cases h1 : bs.length < at_ + 5 * i + 5
      · rw [if_pos (by omega), if_pos h1]; rfl
      · rw [if_neg (by omega), if_pos (by omega), if_neg h1]; rfl
    rw [loop_inr (s := (i : Int)) hstep]
    rfl
  | succ d ih =>
    intro i hi hat
    unfold gor
    by_cases h1 : bs.length < at_ + 5 * i + 5
    · rw [if_pos h1]
      have hstep : tourref1_Bits_ReadNat_l8 (at_ : Int) bs (i : Int) = some (.inr (.inl (0, 14, (at_ : Int)))) := by
        unfold tourref1_Bits_ReadNat_l8
        rw [i64ok (x := 5 * (i : Int)) (by omega) (by omega), i64ok (x := (at_ : Int) + 5 * (i : Int)) (by omega) (by omega), i64ok (x := (at_ : Int) + 5 * (i : Int) + 5) (by omega) (by omega)]
        simp only [Option.bind_some]
        rw [cnd_dec, if_pos (by omega)]
      rw [loop_inr (s := (i : Int)) hstep]
      rfl
    · rw [if_neg h1]
      have hg := grp5 bs at_ i
      have hlow := low_lt bs at_ i
      have hget : bs.getD (at_ + 5 * i + 4) false = bs[at_ + 5 * i + 4] := by simp [List.getD, show at_ + 5 * i + 4 < bs.length by omega]
      have hstep : tourref1_Bits_ReadNat_l8 (at_ : Int) bs (i : Int) = cnd (!bs[at_ + 5 * i + 4]) (some (.inr (.inr ((i + 1 : Nat) : Int)))) (some (.inl ((i + 1 : Nat) : Int))) := by
        unfold tourref1_Bits_ReadNat_l8
        rw [i64ok (x := 5 * (i : Int)) (by omega) (by omega), i64ok (x := (at_ : Int) + 5 * (i : Int)) (by omega) (by omega), i64ok (x := (at_ : Int) + 5 * (i : Int) + 5) (by omega) (by omega)]
        simp only [Option.bind_some]
        rw [cnd_dec, if_neg (by omega), cnd_beq, if_neg (by omega), i64ok (x := (i : Int) + 1) (by omega) (by omega), i64ok (x := 5 * ((i : Int) + 1)) (by omega) (by omega), i64ok (x := (at_ : Int) + 5 * ((i : Int) + 1)) (by omega) (by omega), show (at_ : Int) + 5 * ((i : Int) + 1) - 1 = ((at_ + 5 * i + 4 : Nat) : Int) by omega, i64ok (x := ((at_ + 5 * i + 4 : Nat) : Int)) (by omega) (by omega), idx_get (by omega)]
        rfl
      have hw := wsum_snoc bs at_ i 0
      rw [Nat.zero_add] at hw
      rw [hget] at hg
      cases hb : bs[at_ + 5 * i + 4]
      · rw [hb] at hstep hg
        have hg : bsum bs (at_ + 5 * i) 5 = low bs at_ i := by simpa [bv] using hg
        rw [loop_inr (s := (i : Int)) (hstep.trans cnd_true)]
        refine (ph2_eq (at_ := at_) (i := i) hs (by omega) (by omega)).trans ?_
        rw [hg, ← hw]
        by_cases hz : low bs at_ i = 0 ∧ 0 < i
        · rw [if_pos hz, if_pos hz]; rfl
        · rw [if_neg hz, if_neg hz, if_pos hlow]
      · rw [hb] at hstep hg
        have hg : bsum bs (at_ + 5 * i) 5 = low bs at_ i + 16 := by simpa [bv] using hg
        rw [loop_inl (s := (i : Int)) (hstep.trans cnd_false), if_neg (by omega), if_neg (by omega), ← hw]
        exact ih (i + 1) (by omega) (by omega)
theorem readnat_eq {bs : List Bool} {at_ : Nat} (hs : bs.length ≤ 8388608) (ha : at_ ≤ bs.length) : tourref1_Bits_ReadNat bs (at_ : Int) = some (out3 (natR bs at_)) :=
  refnat_loop hs ha 16 0 (by omega) (by omega)
/-! ### Signs -/
def unz (v : Nat) : Int := if v % 2 = 1 then -((v / 2 : Nat) : Int) - 1 else ((v / 2 : Nat) : Int)
theorem xor_all {x : Nat} (h : x < 18446744073709551616) : Go.bits .xor .u64 (x : Int) 18446744073709551615 = ((18446744073709551615 - x : Nat) : Int) := by
  rw [show (18446744073709551615 : Int) = ((18446744073709551615 : Nat) : Int) from rfl, Go.u64_xor_nat x _ h (by decide)]
  congr 1
  have := BitVec.toNat_not (x := BitVec.ofNat 64 x)
  rw [← BitVec.xor_allOnes, BitVec.toNat_xor, BitVec.toNat_allOnes, BitVec.toNat_ofNat, Nat.mod_eq_of_lt h] at this
  simpa using this
theorem unz_code {v : Nat} (h : v < 18446744073709551616) : IntKind.i64.wrap (Go.bits .xor .u64 (Int.fdiv (v : Int) 2) (IntKind.u64.wrap (0 - Go.bits .and .u64 (v : Int) 1))) = unz v := by
  rw [fdiv_lit _ (by omega), and_one v h, show (v : Int) / 2 = ((v / 2 : Nat) : Int) by omega]
  unfold unz
  by_cases hv : v % 2 = 1
  · rw [if_pos hv, hv, show IntKind.u64.wrap (0 - ((1 : Nat) : Int)) = 18446744073709551615 by decide, xor_all (by omega), IntKind.wrap_i64]
    omega
  · rw [if_neg hv, show v % 2 = 0 by omega, show IntKind.u64.wrap (0 - ((0 : Nat) : Int)) = ((0 : Nat) : Int) by decide, Go.u64_xor_nat _ 0 (by omega) (by decide), Nat.xor_zero, i64ok (by omega) (by omega)]
theorem unz_ref {v : Nat} (h : v < 18446744073709551616) : tourref1_Unzigzag (v : Int) = some (unz v) := by
  unfold tourref1_Unzigzag unz
  rw [cnd_beq, tmod_nat, tdiv_nat v h, i64ok (x := ((v / 2 : Nat) : Int)) (by omega) (by omega)]
  by_cases hv : v % 2 = 1
  · rw [if_pos (by omega), if_pos hv]
    simp only [Option.bind_some]
    rw [i64ok (x := 0 - ((v / 2 : Nat) : Int)) (by omega) (by omega), i64ok (by omega) (by omega)]
    congr 1; omega
  · rw [if_neg (by omega), if_neg hv]
theorem rint_eq {l : List Int} {at_ : Nat} (h : Bytes l) (ha : at_ ≤ 8 * l.length) : bits_Reader_Int l (at_ : Int) = some (unz (natR (unpack l) at_).1, (natR (unpack l) at_).2.1, ((natR (unpack l) at_).2.2 : Int)) := by
  unfold bits_Reader_Int
  rw [rnat_eq h ha]
  unfold out3
  rw [bnd3_some, cnd_not, cnd_beq]
  by_cases he : (natR (unpack l) at_).2.1 = 0
  · rw [if_pos he, he]
    simp only [Option.bind_some]
    rw [unz_code (natR_small _ _)]
  · rw [if_neg he]
    have : (natR (unpack l) at_).1 = 0 := gor_err _ _ _ he
    rw [this]; rfl
/-! ### The law -/
theorem rbegun : (bits_New ([6] : List Int)).bind (fun x3 => bits_Reader_Get x3 0 2) = some (2, 0, 2) := by
  have h : Bytes [6] := ⟨by decide, by decide⟩
  rw [new_eq h]
  exact get_eq (at_ := 0) (n := 2) h (by omega)
theorem reads_loop {data : List Int} (l : List (Int × Int)) (h : Bytes data) (hl : l.length ≤ 1048576) : ∀ (d i at_ : Nat), i + d = l.length → at_ ≤ 8 * data.length →
    (loop (σ := Int × Int × Int) (ρ := (Bool ⊕ Unit)) (fun s_ => tourlaw1_BitsReads_l2 l data (unpack data) s_.1 s_.2.1 s_.2.2) ((at_ : Int), (at_ : Int), (i : Int))).bind (Sum.elim (fun e_ => some e_) (fun e_ => tourlaw1_BitsReads_j1)) = some true := by
  have hs := h.short
  have hul := unpack_length data
  intro d
  induction d with
  | zero =>
    intro i at_ hi ha
    rw [loop_inr (s := ((at_ : Int), (at_ : Int), (i : Int))) (r := .inr ()) (by
      show tourlaw1_BitsReads_l2 l data (unpack data) (at_ : Int) (at_ : Int) (i : Int) = _
      unfold tourlaw1_BitsReads_l2; rw [cnd_dec, if_neg (by omega)])]
    rfl
  | succ d ih =>
    intro i at_ hi ha
    have hlt : i < l.length := by omega
    have fin : ∀ b : Nat, b ≤ 8 * data.length → tourlaw1_BitsReads_j3 data (unpack data) (i : Int) (b : Int) (b : Int) = some (.inl ((b : Int), (b : Int), ((i + 1 : Nat) : Int))) := fun b hb => by
      unfold tourlaw1_BitsReads_j3
      rw [left_eq h hb]
      simp only [Option.bind_some]
      rw [cnd_not, cnd_beq, i64ok (x := ((unpack data).length : Int) - (b : Int)) (by omega) (by omega), if_pos (by omega), i64ok (by omega) (by omega)]
      rfl
    have hstep : ∃ b : Nat, b ≤ 8 * data.length ∧ tourlaw1_BitsReads_l2 l data (unpack data) (at_ : Int) (at_ : Int) (i : Int) = some (.inl ((b : Int), (b : Int), ((i + 1 : Nat) : Int))) := by
      unfold tourlaw1_BitsReads_l2
      rw [cnd_dec, if_pos (by omega), idx_get hlt]
      simp only [Option.bind_some]
      rw [cnd_beq, cnd_beq, cnd_beq]
      have hr := natR (unpack data) at_
      have hnl : (natR (unpack data) at_).2.2 ≤ 8 * data.length := by rw [← hul]; exact gor_le (by omega) _ _ _
      by_cases h0 : l[i].2 = 0
      · have hrl : (readE (unpack data) at_ l[i].1).2.2 ≤ 8 * data.length := by rw [← hul]; exact readE_le (by omega)
        rw [if_pos h0, get_eq h ha, bnd3_some, read_eq (by omega) (by omega), bnd3_some, cnd_not, cnd_beq, if_pos rfl, cnd_not, cnd_beq, if_pos rfl]
        exact ⟨_, hrl, fin _ hrl⟩
      · rw [if_neg h0]
        by_cases h1 : l[i].2 = 1
        · rw [if_pos h1, rnat_eq h ha, readnat_eq (by omega) (by omega)]
          unfold out3
          rw [bnd3_some, bnd3_some, cnd_not, cnd_beq, if_pos rfl, cnd_not, cnd_beq, if_pos rfl]
          exact ⟨_, hnl, fin _ hnl⟩
        · rw [if_neg h1]
          by_cases h2 : l[i].2 = 2
          · rw [if_pos h2, rint_eq h ha, readnat_eq (by omega) (by omega)]
            unfold out3
            rw [bnd3_some, bnd3_some, unz_ref (natR_small _ _)]
            simp only [Option.bind_some]
            rw [cnd_not, cnd_beq, if_pos rfl, cnd_not, cnd_beq, if_pos rfl]
            exact ⟨_, hnl, fin _ hnl⟩
          · rw [if_neg h2]
            exact ⟨_, ha, fin _ ha⟩
    obtain ⟨b, hb, hstep⟩ := hstep
    rw [loop_inl (s := ((at_ : Int), (at_ : Int), (i : Int))) hstep]
    exact ih (i + 1) b (by omega) hb
theorem bk_arr2_one (a : Int × Int) : 1 ≤ bk_arr2_Int a := by unfold bk_arr2_Int; omega
theorem BitsReads_true (data : List Int) (l : List (Int × Int)) (h0 : (okl 1 (okk .u8)) data) (h1 : (okl 16 ok_arr2_Int) l) (hb : (bkl bk1) data + (bkl bk_arr2_Int) l ≤ 1048576) : tourlaw1_BitsReads data l = some true := by
  have hd := bkl_len (b := bk1) (fun _ => Nat.le_refl _) data
  have hl := bkl_len bk_arr2_one l
  have h : Bytes data := ⟨by omega, h0.2⟩
  unfold tourlaw1_BitsReads
  have hbe := rbegun
  have h6 : Bytes [6] := ⟨by decide, by decide⟩
  rw [new_eq h6] at hbe ⊢
  simp only [Option.bind_some] at hbe ⊢
  rw [hbe, bnd3_some, cnd_not, cnd_beq, if_pos rfl, cnd_not, cnd_beq, if_pos rfl, new_eq h]
  simp only [Option.bind_some]
  rw [bitsof_eq h]
  simp only [Option.bind_some]
  exact reads_loop l h (by omega) l.length 0 0 (by omega) (by omega)
end Go.Proofs.Ytfihfbkjomploaa.X
