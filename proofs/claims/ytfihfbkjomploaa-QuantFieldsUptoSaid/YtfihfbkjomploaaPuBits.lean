/- The plain functions that write bits: Put, Add, Bytes. No condition. -/
import Derived.Test.YtfihfbkjomploaaPuJoin
namespace Go.Proofs.Ytfihfbkjomploaa.X
open Go Go.RowKit Go.Proofs.Ytfihfbkjomploaa.Sx Go.Proofs.Ytfihfbkjomploaa.Rnd Go.Proofs.Ytfihfbkjomploaa.Nats Go.Proofs.Ytfihfbkjomploaa.Trig Go.Proofs.Ytfihfbkjomploaa.Bits
set_option linter.unusedVariables false
set_option linter.unusedSimpArgs false
theorem low_succ (v i : Nat) : lowBits v (i + 1) = lowBits v i ++ [v / 2 ^ i % 2 == 1] := rfl
theorem tmod2 (x : Nat) : (Int.tmod (x : Int) 2 == 1) = (x % 2 == 1) := by
  rw [tmod_nat, Bool.eq_iff_iff, beq_iff_eq, beq_iff_eq]; omega
theorem wrap_tdiv8 {n : Nat} (h : n < 9223372036854775808) : IntKind.i64.wrap (Int.tdiv (n : Int) 8) = ((n / 8 : Nat) : Int) := by
  rw [Int.tdiv_eq_ediv_of_nonneg (by omega), i64ok (by omega) (by omega)]; omega
theorem tmod8 (n : Nat) : Int.tmod (n : Int) 8 = ((n % 8 : Nat) : Int) := by rw [Int.tmod_eq_emod_of_nonneg (by omega)]; omega
theorem shr64 {v i : Nat} (h : i ≤ 64) : shr .u64 (v : Int) (i : Int) = some ((v / 2 ^ i : Nat) : Int) := by
  rw [shr_ok (by omega), Int.toNat_natCast, show IntKind.bits .u64 = 64 from rfl, Nat.min_eq_left h, fdiv_lit _ (Int.le_of_lt (Int.pow_pos (by decide)))]
  simp
theorem put_step {cur : List Bool} {v i : Nat} {n : Int} (hv : v < 18446744073709551616) (hn : (i : Int) < n) (hi : i < 64) (hc : cur.length < 600000) :
    bits_Writer_Put_l3 n (v : Int) (pack cur) (cur.length : Int) (i : Int) = some (.inl (pack (cur ++ [v / 2 ^ i % 2 == 1]), ((cur.length + 1 : Nat) : Int), ((i + 1 : Nat) : Int))) := by
  have hd : v / 2 ^ i ≤ v := Nat.div_le_self _ _
  have hx1 : v / 2 ^ i % 2 ≤ 1 := by omega
  have hp8 : 2 ^ (cur.length % 8) ≤ 2 ^ 7 := Nat.pow_le_pow_right (by decide) (by omega)
  have hpx : v / 2 ^ i % 2 * 2 ^ (cur.length % 8) ≤ 1 * 2 ^ (cur.length % 8) := Nat.mul_le_mul_right _ hx1
  have w1 : IntKind.i64.wrap ((cur.length : Int) + 1) = ((cur.length + 1 : Nat) : Int) := by rw [i64ok (by omega) (by omega)]; omega
  have w2 : IntKind.i64.wrap ((i : Int) + 1) = ((i + 1 : Nat) : Int) := by rw [i64ok (by omega) (by omega)]; omega
  have w3 : IntKind.u8.wrap ((v / 2 ^ i % 2 : Nat) : Int) = ((v / 2 ^ i % 2 : Nat) : Int) := u8in (by omega)
  have w4 : shl .u8 ((v / 2 ^ i % 2 : Nat) : Int) ((cur.length % 8 : Nat) : Int) = some ((v / 2 ^ i % 2 * 2 ^ (cur.length % 8) : Nat) : Int) := by
    rw [shl_ok (by omega), Int.toNat_natCast, show IntKind.bits .u8 = 8 from rfl, Nat.min_eq_left (by omega), show ((v / 2 ^ i % 2 : Nat) : Int) * 2 ^ (cur.length % 8) = ((v / 2 ^ i % 2 * 2 ^ (cur.length % 8) : Nat) : Int) by simp, u8in (by omega)]
  have hrl := room_length cur
  have hg : idx (room cur) ((cur.length / 8 : Nat) : Int) = some ((byteAt cur (cur.length / 8) : Nat) : Int) := by
    rw [idx_getD 0 (by omega) (by omega), Int.toNat_natCast, room_get cur (Nat.le_refl _)]
  have key : bits_Writer_Put_j4 (cur.length : Int) (v : Int) (i : Int) (room cur) = some (.inl (pack (cur ++ [v / 2 ^ i % 2 == 1]), ((cur.length + 1 : Nat) : Int), ((i + 1 : Nat) : Int))) := by
    unfold bits_Writer_Put_j4
    rw [wrap_tdiv8 (by omega), hg, shr64 (by omega), tmod8]
    simp only [Option.bind_some]
    rw [and_one _ (by omega), w3, w4]
    simp only [Option.bind_some]
    rw [upd_ok (by omega)]
    simp only [Option.bind_some]
    rw [or_u8 byteAt_lt hx1 (by omega), w1, w2, pack_snoc, bv_low]
  unfold bits_Writer_Put_l3
  rw [cnd_dec, if_pos hn, tmod8, cnd_beq]
  by_cases h8 : cur.length % 8 = 0
  · have hr : pack cur ++ [0] = room cur := by unfold room; rw [if_pos h8]
    have hpl := pack_length cur
    unfold nbytes at hpl
    rw [if_pos (by omega), app_ok (by simp; omega)]
    simp only [Option.bind_some]
    rw [hr]; exact key
  · have hr : pack cur = room cur := by unfold room; rw [if_neg h8]
    rw [if_neg (by omega), hr]; exact key
theorem put_loop {bs : List Bool} {v k : Nat} (hv : v < 18446744073709551616) (hk : k ≤ 64) (hn : bs.length + k ≤ 524288) : ∀ (d i : Nat), i + d = k →
    loop (σ := (List Int) × Int × Int) (ρ := (List Int) × Int) (fun s_ => bits_Writer_Put_l3 (k : Int) (v : Int) s_.1 s_.2.1 s_.2.2) (pack (bs ++ lowBits v i), ((bs.length + i : Nat) : Int), (i : Int)) = some (pack (bs ++ lowBits v k), ((bs.length + k : Nat) : Int)) := by
  intro d
  induction d with
  | zero =>
    intro i hi
    have : i = k := by omega
    subst this
    exact loop_inr (s := (pack (bs ++ lowBits v i), ((bs.length + i : Nat) : Int), (i : Int))) (by
      show bits_Writer_Put_l3 (i : Int) (v : Int) (pack (bs ++ lowBits v i)) ((bs.length + i : Nat) : Int) (i : Int) = _
      unfold bits_Writer_Put_l3; rw [cnd_dec, if_neg (by omega)])
  | succ d ih =>
    intro i hi
    have hl : (bs ++ lowBits v i).length = bs.length + i := by rw [List.length_append, lowBits_length]
    have hs := put_step (cur := bs ++ lowBits v i) (v := v) (i := i) (n := (k : Int)) hv (by omega) (by omega) (by omega)
    rw [hl, List.append_assoc, ← low_succ] at hs
    rw [loop_inl (s := (pack (bs ++ lowBits v i), ((bs.length + i : Nat) : Int), (i : Int))) hs]
    exact ih (i + 1) (by omega)
/-- What a call of Put gives: the error, the bits behind it. -/
def putE (bs : List Bool) (v : Nat) (n : Int) : Int × List Bool :=
  if n < 0 ∨ 64 < n then (1, bs) else if v / 2 ^ n.toNat ≠ 0 then (1, bs) else if 524288 < bs.length + n.toNat then (6, bs) else (0, bs ++ lowBits v n.toNat)
theorem put_eq {bs : List Bool} {v : Nat} {n : Int} (hv : v < 18446744073709551616) (hb : bs.length ≤ 524288) (hn : (okk .i64) n) :
    bits_Writer_Put (pack bs) (bs.length : Int) (v : Int) n = some ((putE bs v n).1, pack (putE bs v n).2, ((putE bs v n).2.length : Int)) := by
  unfold bits_Writer_Put putE
  rw [cnd_dec, cnd_dec]
  by_cases h1 : n < 0
  · rw [if_pos h1, if_pos (.inl h1)]
  · by_cases h2 : 64 < n
    · rw [if_neg h1, if_pos h2, if_pos (.inr h2)]
    · obtain ⟨k, rfl⟩ := Int.eq_ofNat_of_zero_le (show 0 ≤ n by omega)
      have hk : k ≤ 64 := by omega
      have key : v / 2 ^ k = 0 → bits_Writer_Put_j1 (bs.length : Int) (k : Int) (pack bs) (v : Int) = some ((if 524288 < bs.length + k then ((6 : Int), bs) else (0, bs ++ lowBits v k)).1, pack (if 524288 < bs.length + k then ((6 : Int), bs) else (0, bs ++ lowBits v k)).2, (((if 524288 < bs.length + k then ((6 : Int), bs) else (0, bs ++ lowBits v k)).2.length : Nat) : Int)) := fun hz => by
        unfold bits_Writer_Put_j1
        rw [i64ok (by omega) (by omega), cnd_dec]
        by_cases h3 : 524288 < bs.length + k
        · rw [if_pos (by omega), if_pos h3]
        · rw [if_neg (by omega), if_neg h3]
          have := put_loop (bs := bs) (v := v) (k := k) hv hk (by omega) k 0 (by omega)
          simp only [lowBits, List.append_nil, Nat.add_zero] at this
          rw [List.length_append, lowBits_length]
          exact congrArg (fun o => o.bind fun e_ : List Int × Int => bits_Writer_Put_j2 e_.1 e_.2) this
      show (if ((k : Nat) : Int) < 0 then _ else _) = _
      rw [if_neg h1, if_neg h2, if_neg (by omega), Int.toNat_natCast, cnd_dec]
      by_cases h64 : k < 64
      · rw [if_pos (show ((k : Nat) : Int) < 64 by omega), shr64 (by omega)]
        simp only [Option.bind_some]
        rw [cnd_not, cnd_beq]
        by_cases hz : v / 2 ^ k = 0
        · rw [if_pos (by omega), if_neg (by omega)]; exact key hz
        · rw [if_neg (by omega), if_pos hz]
      · have hz : v / 2 ^ k = 0 := Nat.div_eq_of_lt (by rw [show k = 64 by omega]; omega)
        rw [if_neg (by omega), if_neg (by omega)]; exact key hz
/-! ### The reference -/
theorem add_loop {v : Nat} {n : Int} (hv : v < 18446744073709551616) (hn : n ≤ 64) : ∀ (d i : Nat), (i : Int) + (d : Int) = n →
    loop (σ := Int × (List Bool) × Int) (ρ := Int × (List Bool)) (fun s_ => tourref1_Bits_Add_l2 n s_.1 s_.2.1 s_.2.2) (((v / 2 ^ i : Nat) : Int), lowBits v i, (i : Int)) = some (((v / 2 ^ n.toNat : Nat) : Int), lowBits v n.toNat) := by
  intro d
  induction d with
  | zero =>
    intro i hi
    have : n = (i : Int) := by omega
    subst this
    exact loop_inr (s := (((v / 2 ^ i : Nat) : Int), lowBits v i, (i : Int))) (by
      show tourref1_Bits_Add_l2 (i : Int) ((v / 2 ^ i : Nat) : Int) (lowBits v i) (i : Int) = _
      unfold tourref1_Bits_Add_l2; rw [cnd_dec, if_neg (by omega), Int.toNat_natCast])
  | succ d ih =>
    intro i hi
    have hd : v / 2 ^ i ≤ v := Nat.div_le_self _ _
    have hs : tourref1_Bits_Add_l2 n ((v / 2 ^ i : Nat) : Int) (lowBits v i) (i : Int) = some (.inl (((v / 2 ^ (i + 1) : Nat) : Int), lowBits v (i + 1), ((i + 1 : Nat) : Int))) := by
      unfold tourref1_Bits_Add_l2
      rw [cnd_dec, if_pos (by omega), tmod2, app_ok (by simp [lowBits_length]; omega)]
      simp only [Option.bind_some]
      rw [tdiv_nat _ (by omega), low_half, i64ok (by omega) (by omega), low_succ]
      rfl
    rw [loop_inl (s := (((v / 2 ^ i : Nat) : Int), lowBits v i, (i : Int))) hs]
    exact ih (i + 1) (by omega)
theorem add_eq {bs : List Bool} {v : Nat} {n at_ : Int} (hv : v < 18446744073709551616) (hb : bs.length ≤ 524288) : tourref1_Bits_Add bs at_ (v : Int) n = some (putE bs v n) := by
  unfold tourref1_Bits_Add putE
  rw [cnd_dec, cnd_dec]
  by_cases h1 : n < 0
  · rw [if_pos h1, if_pos (.inl h1)]
  · by_cases h2 : 64 < n
    · rw [if_neg h1, if_pos h2, if_pos (.inr h2)]
    · rw [if_neg h1, if_neg h2, if_neg (by omega)]
      have := add_loop (v := v) (n := n) hv (by omega) n.toNat 0 (by omega)
      simp only [Nat.pow_zero, Nat.div_one, lowBits] at this
      rw [show (0 : Int) = ((0 : Nat) : Int) from rfl, this]
      simp only [Option.bind_some, tourref1_Bits_Add_j1]
      rw [cnd_not, cnd_beq]
      by_cases hz : v / 2 ^ n.toNat = 0
      · rw [if_pos (by omega), if_neg (by omega), i64ok (by omega) (by omega), cnd_dec]
        by_cases h3 : 524288 < bs.length + n.toNat
        · rw [if_pos (by omega), if_pos h3]
        · rw [if_neg (by omega), if_neg h3, app_ok (by rw [lowBits_length]; omega)]; rfl
      · rw [if_neg (by omega), if_pos hz]
theorem putE_len {bs : List Bool} {v : Nat} {n : Int} (hb : bs.length ≤ 524288) : (putE bs v n).2.length ≤ 524288 := by
  unfold putE
  split
  · exact hb
  · split
    · exact hb
    · split
      · exact hb
      · simp only [List.length_append, lowBits_length]; omega
/-! ### Bytes -/
theorem byteAt_zero {bs : List Bool} {j : Nat} (h : bs.length ≤ 8 * j) : byteAt bs j = 0 := by
  have := bsum_short (bs := bs) (o := 8 * j) (m := 0) (by omega) (k := 8) (by omega)
  unfold byteAt; rw [this]; rfl
theorem byteAt_add (bs : List Bool) (b : Bool) (j : Nat) : byteAt (bs ++ [b]) j = byteAt bs j + if j = bs.length / 8 then bv b * 2 ^ (bs.length % 8) else 0 := by
  by_cases h : j = bs.length / 8
  · subst h; rw [if_pos rfl, byteAt_snoc]
  · rw [if_neg h]
    rcases Nat.lt_or_ge j (bs.length / 8) with hlt | hge
    · rw [byteAt_other hlt]; rfl
    · rw [byteAt_zero (by simp; omega), byteAt_zero (by omega)]
def padded (bs : List Bool) (m : Nat) : List Int := (List.range m).map fun j => ((byteAt bs j : Nat) : Int)
theorem padded_snoc {bs : List Bool} {m : Nat} {b : Bool} (h : bs.length / 8 < m) : padded (bs ++ [b]) m = (padded bs m).set (bs.length / 8) (((byteAt bs (bs.length / 8) + bv b * 2 ^ (bs.length % 8) : Nat)) : Int) := by
  apply List.ext_getElem?
  intro j
  unfold padded
  rw [List.getElem?_set, List.getElem?_map, List.getElem?_map]
  by_cases hj : j < m
  · rw [List.getElem?_range hj]
    simp only [Option.map_some, List.length_map, List.length_range]
    by_cases e : bs.length / 8 = j
    · subst e; rw [if_pos rfl, if_pos h, byteAt_snoc]
    · rw [if_neg e, byteAt_add, if_neg (Ne.symm e)]; rfl
  · rw [List.getElem?_eq_none (by simpa using hj)]
    have : bs.length / 8 ≠ j := by omega
    rw [if_neg this]; rfl
theorem bytes_loop {bs : List Bool} (hb : bs.length ≤ 524288) : ∀ (d i : Nat), i + d = bs.length →
    loop (σ := (List Int) × Int) (ρ := (List Int)) (fun s_ => tourref1_Bits_Bytes_l2 bs s_.1 s_.2) (padded (bs.take i) (nbytes bs.length), (i : Int)) = some (pack bs) := by
  intro d
  induction d with
  | zero =>
    intro i hi
    rw [loop_inr (s := (padded (bs.take i) (nbytes bs.length), (i : Int))) (r := padded (bs.take i) (nbytes bs.length)) (by
      show tourref1_Bits_Bytes_l2 bs (padded (bs.take i) (nbytes bs.length)) (i : Int) = _
      unfold tourref1_Bits_Bytes_l2; rw [cnd_dec, if_neg (by omega)])]
    rw [List.take_of_length_le (by omega)]; rfl
  | succ d ih =>
    intro i hi
    have hlt : i < bs.length := by omega
    have hl : (bs.take i).length = i := by rw [List.length_take]; omega
    have hnb : nbytes bs.length = (bs.length + 7) / 8 := rfl
    have hpl : (padded (bs.take i) (nbytes bs.length)).length = nbytes bs.length := by simp [padded]
    have w : IntKind.i64.wrap ((i : Int) + 1) = ((i + 1 : Nat) : Int) := by rw [i64ok (by omega) (by omega)]; omega
    have hs : tourref1_Bits_Bytes_l2 bs (padded (bs.take i) (nbytes bs.length)) (i : Int) = some (.inl (padded (bs.take (i + 1)) (nbytes bs.length), ((i + 1 : Nat) : Int))) := by
      unfold tourref1_Bits_Bytes_l2
      rw [cnd_dec, if_pos (by omega), idx_get hlt]
      simp only [Option.bind_some]
      rw [List.take_succ_eq_append_getElem hlt, cnd_ite]
      have hpad := padded_snoc (bs := bs.take i) (m := nbytes bs.length) (b := bs[i]) (by omega)
      rw [hl] at hpad
      rw [hpad]
      have hp8 : 2 ^ (i % 8) ≤ 2 ^ 7 := Nat.pow_le_pow_right (by decide) (by omega)
      have hbt : byteAt (bs.take i) (i / 8) < 2 ^ (i % 8) := by have := byteAt_lt (bs := bs.take i); rwa [hl] at this
      have hg : idx (padded (bs.take i) (nbytes bs.length)) ((i / 8 : Nat) : Int) = some ((byteAt (bs.take i) (i / 8) : Nat) : Int) := by
        rw [idx_nat]; unfold padded; rw [List.getElem?_map, List.getElem?_range (by omega)]; rfl
      by_cases hbit : bs[i] = true
      · rw [if_pos hbit, wrap_tdiv8 (by omega), hg, tmod8]
        have w4 : shl .u8 1 ((i % 8 : Nat) : Int) = some ((2 ^ (i % 8) : Nat) : Int) := by
          rw [shl_ok (by omega), Int.toNat_natCast, show IntKind.bits .u8 = 8 from rfl, Nat.min_eq_left (by omega), show (1 : Int) * 2 ^ (i % 8) = ((2 ^ (i % 8) : Nat) : Int) by simp, u8in (by omega)]
        simp only [Option.bind_some, w4]
        rw [upd_ok (by omega), show ((byteAt (bs.take i) (i / 8) : Nat) : Int) + ((2 ^ (i % 8) : Nat) : Int) = ((byteAt (bs.take i) (i / 8) + 2 ^ (i % 8) : Nat) : Int) by omega, u8in (by omega)]
        simp only [Option.bind_some, tourref1_Bits_Bytes_j3, w, hbit, bv, if_true, Nat.one_mul]
      · rw [if_neg hbit]
        simp only [tourref1_Bits_Bytes_j3, w]
        have hf : bs[i] = false := by simpa using hbit
        rw [hf]
        simp only [bv, Nat.zero_mul, Nat.add_zero, Bool.false_eq_true, if_false]
        congr 3
        apply List.ext_getElem?
        intro j
        rw [List.getElem?_set]
        by_cases e : i / 8 = j
        · subst e
          rw [if_pos rfl, if_pos (by omega)]
          rw [idx_nat] at hg; exact hg
        · rw [if_neg e]
    rw [loop_inl (s := (padded (bs.take i) (nbytes bs.length), (i : Int))) hs]
    exact ih (i + 1) (by omega)
theorem bytes_eq {bs : List Bool} {at_ : Int} (hb : bs.length ≤ 524288) : tourref1_Bits_Bytes bs at_ = some (pack bs) := by
  unfold tourref1_Bits_Bytes
  rw [i64ok (x := (bs.length : Int) + 7) (by omega) (by omega), show (bs.length : Int) + 7 = ((bs.length + 7 : Nat) : Int) by omega, wrap_tdiv8 (by omega)]
  simp only [Option.bind_some]
  rw [mk_ok (by omega) (by omega), Int.toNat_natCast]
  simp only [Option.bind_some]
  have h0 : List.replicate ((bs.length + 7) / 8) (0 : Int) = padded (bs.take 0) (nbytes bs.length) := by
    apply List.ext_getElem?
    intro j
    unfold padded
    rw [List.getElem?_map, List.getElem?_replicate]
    by_cases hj : j < nbytes bs.length
    · rw [List.getElem?_range hj, if_pos (by unfold nbytes at hj; omega)]
      simp only [Option.map_some, List.take_zero]
      rw [byteAt_zero (by simp)]; rfl
    · rw [if_neg (by unfold nbytes at hj; omega), List.getElem?_eq_none (by simpa using hj)]; rfl
  rw [h0]
  have := bytes_loop hb bs.length 0 (by omega)
  exact congrArg (fun o => o.bind fun e_ => tourref1_Bits_Bytes_j1 e_) this
theorem wbytes_eq {l : List Int} {n : Int} (h : l.length ≤ 140737488355328) : bits_Writer_Bytes l n = some l := by unfold bits_Writer_Bytes; rw [app_ok (by simp; omega)]; rfl
theorem equal8 (l : List Int) (h : l.length ≤ 140737488355328) : slices_Equal_byte_byte l l = some true := by
  unfold slices_Equal_byte_byte
  rw [cnd_not, cnd_beq, if_pos rfl]
  have key : ∀ (d i : Nat), l.length ≤ i + d → i ≤ l.length → loop (σ := Int) (ρ := (Bool ⊕ Unit)) (fun s_ => slices_Equal_byte_byte_l2 l l s_) (i : Int) = some (.inr ()) := by
    intro d
    induction d with
    | zero => intro i hd hi; exact loop_inr (s := (i : Int)) (by show slices_Equal_byte_byte_l2 l l (i : Int) = _; unfold slices_Equal_byte_byte_l2; rw [cnd_dec, if_neg (by omega)])
    | succ d ih =>
      intro i hd hi
      by_cases hlt : i < l.length
      · rw [loop_inl (s := (i : Int)) (s' := ((i + 1 : Nat) : Int)) (by
          show slices_Equal_byte_byte_l2 l l (i : Int) = _
          unfold slices_Equal_byte_byte_l2
          rw [cnd_dec, if_pos (by omega), idx_get hlt]
          simp only [Option.bind_some]
          rw [cnd_not, cnd_beq, if_pos rfl, i64ok (by omega) (by omega)]; rfl)]
        exact ih (i + 1) (by omega) (by omega)
      · exact loop_inr (s := (i : Int)) (by show slices_Equal_byte_byte_l2 l l (i : Int) = _; unfold slices_Equal_byte_byte_l2; rw [cnd_dec, if_neg (by omega)])
  exact congrArg (fun o => o.bind (Sum.elim (fun e_ => some e_) fun e_ => slices_Equal_byte_byte_j1)) (key l.length 0 (by omega) (by omega))
end Go.Proofs.Ytfihfbkjomploaa.X
