/- The plain law of bits in bytes: a list of bits, packed into bytes, the lowest bit first. No condition. -/
import Derived.Test.YtchadeflopbchaaNatSpec
import Derived.Test.YtchadeflopbchaaTrigSpec
import Derived.Laws.BitsAllLaws
namespace Go.Proofs.Ytchadeflopbchaa.Bits
open Go Go.Proofs.Ytchadeflopbchaa.Rnd Go.Proofs.Ytchadeflopbchaa.Nats Go.Proofs.Ytchadeflopbchaa.Trig
set_option linter.unusedVariables false
def bv (b : Bool) : Nat := if b then 1 else 0
/-- k bits from place o on, as a number. -/
def bsum (bs : List Bool) (o : Nat) : Nat → Nat
  | 0 => 0
  | k + 1 => bsum bs o k + bv (bs.getD (o + k) false) * 2 ^ k
theorem bsum_lt (bs : List Bool) (o : Nat) : ∀ k, bsum bs o k < 2 ^ k
  | 0 => by simp [bsum]
  | k + 1 => by
    have h := bsum_lt bs o k
    simp only [bsum, Nat.pow_succ]
    have : bv (bs.getD (o + k) false) ≤ 1 := by unfold bv; split <;> omega
    have := Nat.mul_le_mul_right (2 ^ k) this
    omega
theorem getD_outB {bs : List Bool} {k : Nat} (h : bs.length ≤ k) : bs.getD k false = false := by simp [List.getD, List.getElem?_eq_none h]
theorem bsum_short {bs : List Bool} {o m : Nat} (h : bs.length ≤ o + m) : ∀ {k : Nat}, m ≤ k → bsum bs o k = bsum bs o m := by
  intro k
  induction k with
  | zero => intro hk; have : m = 0 := by omega
            subst this; rfl
  | succ k ih =>
    intro hk
    by_cases e : m = k + 1
    · subst e; rfl
    · simp only [bsum]
      rw [ih (by omega), getD_outB (by omega)]; simp [bv]
theorem getD_left {bs cs : List Bool} {k : Nat} (h : k < bs.length) : (bs ++ cs).getD k false = bs.getD k false := by simp [List.getD, List.getElem?_append_left h]
theorem bsum_left {bs cs : List Bool} {o : Nat} : ∀ {k : Nat}, o + k ≤ bs.length → bsum (bs ++ cs) o k = bsum bs o k
  | 0, _ => rfl
  | k + 1, h => by simp only [bsum]; rw [bsum_left (k := k) (by omega), getD_left (by omega)]
def byteAt (bs : List Bool) (j : Nat) : Nat := bsum bs (8 * j) 8
def nbytes (n : Nat) : Nat := (n + 7) / 8
def pack (bs : List Bool) : List Int := (List.range (nbytes bs.length)).map fun j => ((byteAt bs j : Nat) : Int)
theorem pack_length (bs : List Bool) : (pack bs).length = nbytes bs.length := by simp [pack]
theorem pack_get {bs : List Bool} {j : Nat} (h : j < nbytes bs.length) : (pack bs).getD j 0 = ((byteAt bs j : Nat) : Int) := by
  unfold pack; simp [List.getD, h]
theorem byteAt_last {bs : List Bool} : byteAt bs (bs.length / 8) = bsum bs (8 * (bs.length / 8)) (bs.length % 8) := bsum_short (by omega) (by omega)
theorem byteAt_lt {bs : List Bool} : byteAt bs (bs.length / 8) < 2 ^ (bs.length % 8) := by rw [byteAt_last]; exact bsum_lt ..
theorem byteAt_snoc {bs : List Bool} {b : Bool} : byteAt (bs ++ [b]) (bs.length / 8) = byteAt bs (bs.length / 8) + bv b * 2 ^ (bs.length % 8) := by
  rw [byteAt_last (bs := bs)]
  unfold byteAt
  rw [bsum_short (m := bs.length % 8 + 1) (by simp; omega) (by omega)]
  simp only [bsum]
  rw [bsum_left (by omega), show 8 * (bs.length / 8) + bs.length % 8 = bs.length by omega]
  congr 2
  simp [List.getD]
theorem byteAt_other {bs : List Bool} {b : Bool} {j : Nat} (h : j < bs.length / 8) : byteAt (bs ++ [b]) j = byteAt bs j := bsum_left (by omega)
/-- The bytes behind the next bit, in two steps: a new byte where the last one is full, then the bit. -/
def room (bs : List Bool) : List Int := if bs.length % 8 = 0 then pack bs ++ [0] else pack bs
theorem room_length (bs : List Bool) : (room bs).length = bs.length / 8 + 1 := by
  unfold room
  split
  · rw [List.length_append, pack_length]; simp only [nbytes, List.length_cons, List.length_nil]; omega
  · rw [pack_length]; unfold nbytes; omega
theorem room_get (bs : List Bool) {j : Nat} (h : j ≤ bs.length / 8) : (room bs).getD j 0 = ((byteAt bs j : Nat) : Int) := by
  unfold room
  split
  · rename_i h8
    by_cases e : j < nbytes bs.length
    · rw [← pack_get e]; simp [List.getD, List.getElem?_append_left (show j < (pack bs).length by rw [pack_length]; exact e)]
    · have ej : j = bs.length / 8 := by unfold nbytes at e; omega
      have hz : byteAt bs j = 0 := by
        rw [ej]
        have := byteAt_lt (bs := bs)
        rw [h8] at this
        simpa using this
      rw [hz]
      have hl : (pack bs).length = j := by rw [pack_length, ej]; unfold nbytes; omega
      simp [List.getD, ← hl]
  · exact pack_get (by unfold nbytes; omega)
theorem pack_snoc (bs : List Bool) (b : Bool) : pack (bs ++ [b]) = (room bs).set (bs.length / 8) (((byteAt bs (bs.length / 8) + bv b * 2 ^ (bs.length % 8) : Nat)) : Int) := by
  have hl : (pack (bs ++ [b])).length = bs.length / 8 + 1 := by rw [pack_length]; simp only [nbytes, List.length_append, List.length_cons, List.length_nil]; omega
  apply List.ext_getElem
  · rw [hl, List.length_set, room_length]
  · intro j h1 h2
    rw [hl] at h1
    have e1 : (pack (bs ++ [b])).getD j 0 = ((byteAt (bs ++ [b]) j : Nat) : Int) := pack_get (by simp only [nbytes, List.length_append, List.length_cons, List.length_nil]; omega)
    have e2 : ((room bs).set (bs.length / 8) (((byteAt bs (bs.length / 8) + bv b * 2 ^ (bs.length % 8) : Nat)) : Int)).getD j 0 = ((byteAt (bs ++ [b]) j : Nat) : Int) := by
      rw [getD_set]
      by_cases e : bs.length / 8 = j
      · subst e
        rw [if_pos ⟨rfl, by rw [room_length]; omega⟩, byteAt_snoc]
      · rw [if_neg (fun h => e h.1), room_get bs (by omega), byteAt_other (by omega)]
    have := e1.trans e2.symm
    simpa only [List.getD, List.getElem?_eq_getElem (show j < (pack (bs ++ [b])).length by rw [hl]; exact h1), List.getElem?_eq_getElem h2, Option.getD_some] using this
/-- The k lowest bits of a number, the lowest first. -/
def lowBits (v : Nat) : Nat → List Bool
  | 0 => []
  | k + 1 => lowBits v k ++ [v / 2 ^ k % 2 == 1]
/-- The byte behind one more bit. -/
def nb8 (bs : List Bool) (v i : Nat) : Nat := byteAt (bs ++ lowBits v i) ((bs.length + i) / 8) + v / 2 ^ i % 2 * 2 ^ ((bs.length + i) % 8)
theorem lowBits_length (v : Nat) : ∀ k, (lowBits v k).length = k
  | 0 => rfl
  | k + 1 => by simp [lowBits, lowBits_length v k]
theorem tmod_nat (x : Nat) : Int.tmod (x : Int) 2 = ((x % 2 : Nat) : Int) := by rw [Int.tmod_eq_emod_of_nonneg (Int.natCast_nonneg _)]; omega
theorem tdiv_nat (x : Nat) (h : x < 18446744073709551616) : IntKind.u64.wrap (Int.tdiv (x : Int) 2) = ((x / 2 : Nat) : Int) := by rw [Int.tdiv_eq_ediv_of_nonneg (Int.natCast_nonneg _), w64_in (by omega) (by omega)]; omega
theorem low_half (v i : Nat) : v / 2 ^ i / 2 = v / 2 ^ (i + 1) := by rw [Nat.pow_succ, Nat.div_div_eq_div_mul]
theorem bv_low (x : Nat) : bv (x % 2 == 1) = x % 2 := by
  unfold bv
  by_cases h : x % 2 = 1
  · simp [h]
  · have : x % 2 = 0 := by omega
    simp [this]
theorem or_u8 {a x m : Nat} (ha : a < 2 ^ m) (hx : x ≤ 1) (hm : m ≤ 7) : Go.bits .or .u8 (a : Int) ((x * 2 ^ m : Nat) : Int) = ((a + x * 2 ^ m : Nat) : Int) := by
  have h2 : 2 ^ m ≤ 2 ^ 7 := Nat.pow_le_pow_right (by decide) hm
  have h3 : x * 2 ^ m ≤ 1 * 2 ^ m := Nat.mul_le_mul_right _ hx
  rw [Go.u8_or_nat a (x * 2 ^ m) (by omega) (by omega)]
  congr 1
  rw [← Nat.shiftLeft_eq, Nat.or_comm, ← Nat.shiftLeft_add_eq_or_of_lt ha, Nat.add_comm]
theorem and_one (x : Nat) (h : x < 18446744073709551616) : Go.bits .and .u64 (x : Int) 1 = ((x % 2 : Nat) : Int) := by
  rw [show (1 : Int) = ((1 : Nat) : Int) from rfl, Go.u64_and_nat x 1 h (by decide)]
  congr 1
  exact Nat.and_one_is_mod x
theorem u8in {x : Nat} (h : x < 256) : IntKind.u8.wrap (x : Int) = (x : Int) := by rw [IntKind.wrap_u8]; omega
/-! ### Reading -/
/-- Bit j of bytes. -/
def bitOf (l : List Int) (j : Nat) : Bool := (l.getD (j / 8) 0).toNat / 2 ^ (j % 8) % 2 == 1
def unpack (l : List Int) : List Bool := (List.range (8 * l.length)).map (bitOf l)
theorem unpack_length (l : List Int) : (unpack l).length = 8 * l.length := by simp [unpack]
theorem unpack_get {l : List Int} {j : Nat} (h : j < 8 * l.length) : (unpack l).getD j false = bitOf l j := by unfold unpack; simp [List.getD, h]
/-- One more bit that is read. -/
theorem read_step {l : List Int} {at_ i : Nat} (h : at_ + i < 8 * l.length) : bsum (unpack l) at_ (i + 1) = bsum (unpack l) at_ i + (l.getD ((at_ + i) / 8) 0).toNat / 2 ^ ((at_ + i) % 8) % 2 * 2 ^ i := by
  simp only [bsum]
  rw [unpack_get h]
  unfold bitOf
  rw [bv_low]
theorem or_u64 {a x i : Nat} (ha : a < 2 ^ i) (hx : x ≤ 1) (hi : i ≤ 63) : Go.bits .or .u64 (a : Int) ((x * 2 ^ i : Nat) : Int) = ((a + x * 2 ^ i : Nat) : Int) := by
  have h2 : 2 ^ i ≤ 2 ^ 63 := Nat.pow_le_pow_right (by decide) hi
  have h3 : x * 2 ^ i ≤ 1 * 2 ^ i := Nat.mul_le_mul_right _ hx
  rw [Go.u64_or_nat a (x * 2 ^ i) (by omega) (by omega)]
  congr 1
  rw [← Nat.shiftLeft_eq, Nat.or_comm, ← Nat.shiftLeft_add_eq_or_of_lt ha, Nat.add_comm]
theorem and_one8 (x : Nat) (h : x < 256) : Go.bits .and .u8 (x : Int) 1 = ((x % 2 : Nat) : Int) := by
  rw [show (1 : Int) = ((1 : Nat) : Int) from rfl, Go.u8_and_nat x 1 h (by decide)]
  congr 1
  exact Nat.and_one_is_mod x
end Go.Proofs.Ytchadeflopbchaa.Bits
