/- The plain law of the digests: what the two programs' sums of words and of bytes come to. No condition. -/
import Derived.Test.YtnognpmkhkkkeaaRndSpec
namespace Go.Proofs.Ytnognpmkhkkkeaa.Sum
open Go Go.Proofs.Ytnognpmkhkkkeaa.Rnd
set_option linter.unusedVariables false
def joinv (a b : Int) : Int := mixv (IntKind.u64.wrap (IntKind.u64.wrap (mixv (IntKind.u64.wrap (a + 5840696475078001361)) * 11170449401992604703) + b))
theorem joinv_lo (a b : Int) : 0 ≤ joinv a b := mixv_lo _
theorem joinv_hi (a b : Int) : joinv a b < 18446744073709551616 := mixv_hi _
def digAt (l : List Int) (k : Nat) : Int := (l.take k).foldl joinv (joinv 5840696475078001361 (IntKind.u64.wrap (l.length : Int)))
def dig (l : List Int) : Int := digAt l l.length
theorem digAt_succ (l : List Int) (k : Nat) (h : k < l.length) : joinv (digAt l k) (l.getD k 0) = digAt l (k + 1) := (Sx.foldl_take joinv _ l 0 k h).symm
/-- The first k words are turned. -/
def fillM (m : List Int) (k : Nat) : List Int := (List.range m.length).map fun i => if i < k then IntKind.u64.wrap (m.getD i 0) else 0
theorem fillM_length (m : List Int) (k : Nat) : (fillM m k).length = m.length := by simp [fillM]
theorem fillM_zero (m : List Int) : List.replicate m.length (0 : Int) = fillM m 0 := by
  apply List.ext_getElem
  · simp [fillM]
  · intro i h1 h2; simp [fillM]
theorem fillM_set {m : List Int} {k : Nat} (h : k < m.length) : (fillM m k).set k (IntKind.u64.wrap (m.getD k 0)) = fillM m (k + 1) := by
  apply List.ext_getElem
  · simp [fillM]
  · intro i h1 h2
    simp only [fillM, List.getElem_set, List.getElem_map, List.getElem_range]
    by_cases e : k = i
    · subst e; simp
    · simp only [e, if_false]
      by_cases e2 : i < k
      · simp [e2, Nat.lt_succ_of_lt e2]
      · have : ¬ i < k + 1 := by omega
        simp [e2, this]
def turned (m : List Int) : List Int := m.map IntKind.u64.wrap
theorem fillM_all (m : List Int) : fillM m m.length = turned m := by
  apply List.ext_getElem
  · simp [fillM, turned]
  · intro i h1 h2
    have h : i < m.length := by simpa [turned] using h2
    simp [fillM, turned, h]
theorem turned_take (m : List Int) (k : Nat) (h : k < m.length) : turned (m.take k) ++ [IntKind.u64.wrap (m.getD k 0)] = turned (m.take (k + 1)) := by
  rw [List.take_succ_eq_append_getElem h]
  unfold turned
  rw [List.map_append]
  simp [h]
/-- Bytes as a number, the lowest one first. -/
def leV : List Int → Int
  | [] => 0
  | x :: l => x + 256 * leV l
def Bytes (l : List Int) : Prop := ∀ x ∈ l, 0 ≤ x ∧ x < 256
theorem leV_lt : ∀ {l : List Int}, Bytes l → 0 ≤ leV l ∧ leV l < 256 ^ l.length := by
  intro l
  induction l with
  | nil => intro _; exact ⟨by decide, by decide⟩
  | cons x l ih =>
    intro h
    have h1 := h x (List.mem_cons_self ..)
    have h2 := ih fun y hy => h y (List.mem_cons_of_mem _ hy)
    rw [List.length_cons, Int.pow_succ]
    simp only [leV]
    omega
theorem leV_snoc (l : List Int) (x : Int) : leV (l ++ [x]) = leV l + 256 ^ l.length * x := by
  induction l with
  | nil => simp [leV]
  | cons y l ih =>
    simp only [List.cons_append, leV, ih, List.length_cons, Int.pow_succ, Int.mul_add]
    rw [Int.mul_comm (256 ^ l.length) 256, Int.mul_assoc]
    omega
theorem Bytes.take {l : List Int} (h : Bytes l) (n : Nat) : Bytes (l.take n) := fun x hx => h x (List.mem_of_mem_take hx)
theorem Bytes.drop {l : List Int} (h : Bytes l) (n : Nat) : Bytes (l.drop n) := fun x hx => h x (List.mem_of_mem_drop hx)
theorem Bytes.get {l : List Int} (h : Bytes l) {k : Nat} (hk : k < l.length) : 0 ≤ l.getD k 0 ∧ l.getD k 0 < 256 := by
  have := h l[k] (List.getElem_mem hk)
  simpa [List.getD, hk] using this
theorem pow256 {k : Nat} (h : k ≤ 7) : (256 : Int) ^ k ≤ 72057594037927936 ∧ 1 ≤ (256 : Int) ^ k := by
  have : k = 0 ∨ k = 1 ∨ k = 2 ∨ k = 3 ∨ k = 4 ∨ k = 5 ∨ k = 6 ∨ k = 7 := by omega
  rcases this with h | h | h | h | h | h | h | h <;> subst h <;> decide
/-- One byte more at the top, by a bit operation. -/
theorem le_or {l : List Int} {k : Nat} (hb : Bytes l) (hk : k < l.length) (h8 : l.length ≤ 8) :
    Go.bits .or .u64 (leV (l.take k)) (IntKind.u64.wrap (IntKind.u64.wrap (l.getD k 0) * 2 ^ min (IntKind.i64.wrap (8 * (k : Int))).toNat 64)) = leV (l.take (k + 1)) := by
  have hx := hb.get hk
  have hl := leV_lt (hb.take k)
  rw [List.length_take, Nat.min_eq_left (by omega)] at hl
  have hp := pow256 (k := k) (by omega)
  have e1 : min (IntKind.i64.wrap (8 * (k : Int))).toNat 64 = 8 * k := by rw [IntKind.wrap_i64]; omega
  have e2 : (2 : Int) ^ (8 * k) = 256 ^ k := by rw [Int.pow_mul]; rfl
  have hmul : l.getD k 0 * 256 ^ k ≤ 255 * 256 ^ k := Int.mul_le_mul_of_nonneg_right (by omega) (by omega)
  have hmul0 : 0 ≤ l.getD k 0 * 256 ^ k := Int.mul_nonneg hx.1 (by omega)
  rw [e1, e2, w64_in (x := l.getD k 0) hx.1 (by omega), w64_in (x := l.getD k 0 * 256 ^ k) hmul0 (by omega), List.take_succ_eq_append_getElem hk, leV_snoc, List.length_take, Nat.min_eq_left (by omega)]
  have e3 : l[k] = l.getD k 0 := by simp [List.getD, hk]
  rw [e3]
  rw [Go.u64_or _ _ hl.1 (by omega) hmul0 (by omega)]
  have e4 : (l.getD k 0 * 256 ^ k).toNat = (l.getD k 0).toNat <<< (8 * k) := by
    rw [Nat.shiftLeft_eq, ← Int.toNat_natCast ((l.getD k 0).toNat * 2 ^ (8 * k))]
    congr 1
    rw [Int.natCast_mul, Int.toNat_of_nonneg hx.1, Int.natCast_pow]
    congr 1
    exact e2.symm
  have hlt : (leV (l.take k)).toNat < 2 ^ (8 * k) := by
    have e5 : ((2 ^ (8 * k) : Nat) : Int) = 256 ^ k := by rw [Int.natCast_pow]; exact e2
    omega
  rw [e4, Nat.or_comm, ← Nat.shiftLeft_add_eq_or_of_lt hlt, Int.natCast_add, ← e4, Int.toNat_of_nonneg hmul0, Int.toNat_of_nonneg hl.1, Int.mul_comm, Int.add_comm]
/-- The bytes from one place up to another. -/
def seg (l : List Int) (lo hi : Nat) : List Int := (l.drop lo).take (hi - lo)
theorem seg_length (l : List Int) (lo hi : Nat) : (seg l lo hi).length = min (hi - lo) (l.length - lo) := by simp [seg]
theorem seg_cons {l : List Int} {lo hi : Nat} (h : lo < hi) (hl : hi ≤ l.length) : seg l lo hi = l.getD lo 0 :: seg l (lo + 1) hi := by
  have h1 : lo < l.length := by omega
  unfold seg
  rw [List.drop_eq_getElem_cons h1, show hi - lo = (hi - (lo + 1)) + 1 by omega, List.take_succ_cons]
  simp [List.getD, h1]
theorem le_mul {l : List Int} {lo hi : Nat} (hb : Bytes l) (h : lo < hi) (hl : hi ≤ l.length) (h8 : hi - lo ≤ 8) :
    IntKind.u64.wrap (IntKind.u64.wrap (256 * leV (seg l (lo + 1) hi)) + IntKind.u64.wrap (l.getD lo 0)) = leV (seg l lo hi) := by
  have hx := hb.get (k := lo) (by omega)
  have h1 := leV_lt (l := seg l (lo + 1) hi) ((hb.drop _).take _)
  have hp := pow256 (k := (seg l (lo + 1) hi).length) (by rw [seg_length]; omega)
  rw [seg_cons h hl, w64_in (x := l.getD lo 0) hx.1 (by omega), w64_in (x := 256 * leV (seg l (lo + 1) hi)) (by omega) (by omega), w64_in (by omega) (by omega)]
  simp only [leV]
  omega
/-- The digest of bytes behind t words. -/
def bd (l : List Int) : Nat → Int
  | 0 => joinv 11170449401992604703 (IntKind.u64.wrap (l.length : Int))
  | t + 1 => joinv (bd l t) (leV ((l.drop (8 * t)).take 8))
theorem bd_succ (l : List Int) (t : Nat) : joinv (bd l t) (leV ((l.drop (8 * t)).take 8)) = bd l (t + 1) := rfl
theorem seg_word {l : List Int} {t n : Nat} (hn : n = min (8 * t + 8) l.length) : leV (seg l (8 * t) n) = leV ((l.drop (8 * t)).take 8) := by
  subst hn
  unfold seg
  congr 1
  by_cases h : 8 * t + 8 ≤ l.length
  · rw [Nat.min_eq_left h]; congr 1; omega
  · rw [Nat.min_eq_right (by omega), List.take_of_length_le (by simp), List.take_of_length_le (by simp; omega)]
theorem take_word {l : List Int} {t n : Nat} (hn : n = min (l.length - 8 * t) 8) : leV ((l.drop (8 * t)).take n) = leV ((l.drop (8 * t)).take 8) := by
  subst hn
  congr 1
  by_cases h : 8 ≤ l.length - 8 * t
  · rw [Nat.min_eq_right h]
  · rw [Nat.min_eq_left (by omega), List.take_of_length_le (by simp), List.take_of_length_le (by simp; omega)]
theorem seg_nil (l : List Int) (n : Nat) : 0 = leV (seg l n n) := by simp [seg, leV]
theorem digAt_zero {l : List Int} {n : Nat} (h : l.length = n) : joinv 5840696475078001361 (IntKind.u64.wrap (n : Int)) = digAt l 0 := by subst h; rfl
theorem sums_differ : joinv 5840696475078001361 0 ≠ joinv 11170449401992604703 0 := by decide +kernel
end Go.Proofs.Ytnognpmkhkkkeaa.Sum
