/- The plain law of the reference's long numbers: digits in base 32768, their products, sums and order, and the greatest number for which something holds. No condition. -/
import Derived.Test.YtchadeflopbchaaRndSpec
namespace Go.Proofs.Ytchadeflopbchaa.Nats
open Go Go.Proofs.Ytchadeflopbchaa.Rnd
set_option linter.unusedVariables false
set_option linter.unusedSimpArgs false
def valZ : List Int → Int
  | [] => 0
  | x :: l => x + 32768 * valZ l
def Dig (l : List Int) : Prop := ∀ x ∈ l, 0 ≤ x ∧ x < 32768
theorem Dig.get {l : List Int} (h : Dig l) (k : Nat) : 0 ≤ l.getD k 0 ∧ l.getD k 0 < 32768 := by
  by_cases hk : k < l.length
  · have := h l[k] (List.getElem_mem hk)
    simpa [List.getD, hk] using this
  · have : l.getD k 0 = 0 := by simp [List.getD, List.getElem?_eq_none (by omega : l.length ≤ k)]
    omega
theorem Dig.set {l : List Int} (h : Dig l) (k : Nat) {v : Int} (h0 : 0 ≤ v) (h1 : v < 32768) : Dig (l.set k v) := fun x hx => by
  rcases List.mem_or_eq_of_mem_set hx with hx | rfl
  · exact h x hx
  · exact ⟨h0, h1⟩
theorem Dig.take {l : List Int} (h : Dig l) (n : Nat) : Dig (l.take n) := fun x hx => h x (List.mem_of_mem_take hx)
theorem dig_zeros (n : Nat) : Dig (List.replicate n 0) := fun x hx => by rw [List.eq_of_mem_replicate hx]; omega
theorem valZ_nonneg : ∀ {l : List Int}, Dig l → 0 ≤ valZ l := by
  intro l
  induction l with
  | nil => intro _; exact Int.le_refl _
  | cons x l ih =>
    intro h
    have h1 := h x (List.mem_cons_self ..)
    have h2 := ih fun y hy => h y (List.mem_cons_of_mem _ hy)
    simp only [valZ]; omega
theorem valZ_append (l m : List Int) : valZ (l ++ m) = valZ l + 32768 ^ l.length * valZ m := by
  induction l with
  | nil => simp [valZ]
  | cons y l ih =>
    simp only [List.cons_append, valZ, ih, List.length_cons, Int.pow_succ, Int.mul_add]
    rw [Int.mul_comm (32768 ^ l.length) 32768, Int.mul_assoc]
    omega
theorem valZ_zeros (n : Nat) : valZ (List.replicate n 0) = 0 := by
  induction n with
  | zero => rfl
  | succ n ih => simp [List.replicate_succ, valZ, ih]
theorem valZ_set {l : List Int} (v : Int) : ∀ {j : Nat}, j < l.length → valZ (l.set j v) = valZ l + (v - l.getD j 0) * 32768 ^ j := by
  induction l with
  | nil => intro j h; simp at h
  | cons y l ih =>
    intro j h
    cases j with
    | zero => simp [valZ]; omega
    | succ j =>
      have h' : j < l.length := by simpa using h
      simp only [List.set_cons_succ, valZ, ih h', Int.pow_succ]
      have e : (y :: l).getD (j + 1) 0 = l.getD j 0 := by simp [List.getD]
      rw [e, Int.mul_add, Int.mul_comm (32768 ^ j) 32768, Int.mul_left_comm]
      omega
theorem valZ_take {l : List Int} {k : Nat} (h : k < l.length) : valZ (l.take (k + 1)) = valZ (l.take k) + l.getD k 0 * 32768 ^ k := by
  rw [List.take_succ_eq_append_getElem h, valZ_append, List.length_take, Nat.min_eq_left (by omega)]
  simp only [valZ, Int.mul_zero, Int.add_zero]
  rw [Int.mul_comm, show l[k] = l.getD k 0 by simp [List.getD, h]]
/-- The digits of a number, the lowest first, no zero at the top. -/
def digs (n : Nat) : List Int := if h : n = 0 then [] else ((n % 32768 : Nat) : Int) :: digs (n / 32768)
termination_by n
decreasing_by omega
theorem digs_zero : digs 0 = [] := by rw [digs]; simp
theorem digs_pos {n : Nat} (h : 0 < n) : digs n = ((n % 32768 : Nat) : Int) :: digs (n / 32768) := by rw [digs]; simp [show n ≠ 0 by omega]
theorem digs_dig (n : Nat) : Dig (digs n) := by
  induction n using Nat.strongRecOn with
  | _ n ih =>
    by_cases h : n = 0
    · subst h; rw [digs_zero]; intro x hx; cases hx
    · rw [digs_pos (by omega)]
      intro x hx
      rcases List.mem_cons.1 hx with rfl | hx
      · omega
      · exact ih (n / 32768) (by omega) x hx
theorem digs_val (n : Nat) : valZ (digs n) = (n : Int) := by
  induction n using Nat.strongRecOn with
  | _ n ih =>
    by_cases h : n = 0
    · subst h; rw [digs_zero]; rfl
    · rw [digs_pos (by omega)]
      simp only [valZ, ih (n / 32768) (by omega)]
      omega
theorem digs_length {k : Nat} : ∀ {n : Nat}, n < 32768 ^ k → (digs n).length ≤ k := by
  induction k with
  | zero => intro n h; have : n = 0 := by simpa using h
            subst this; rw [digs_zero]; simp
  | succ k ih =>
    intro n h
    by_cases h0 : n = 0
    · subst h0; rw [digs_zero]; simp
    · rw [digs_pos (by omega), List.length_cons]
      have : (digs (n / 32768)).length ≤ k := ih (by rw [Nat.pow_succ] at h; omega)
      omega
theorem canon : ∀ {l : List Int} {x : Int}, Dig (l ++ [x]) → x ≠ 0 → l ++ [x] = digs (valZ (l ++ [x])).toNat ∧ 0 < valZ (l ++ [x]) := by
  intro l
  induction l with
  | nil =>
    intro x h hx
    have h1 := h x (by simp)
    simp only [List.nil_append, valZ]
    refine ⟨?_, by omega⟩
    rw [digs_pos (by omega)]
    have e : (x + 32768 * 0).toNat / 32768 = 0 := by omega
    rw [e, digs_zero]
    congr 1
    omega
  | cons y l ih =>
    intro x h hx
    have hd : Dig (l ++ [x]) := fun z hz => h z (List.mem_cons_of_mem _ hz)
    obtain ⟨h1, h2⟩ := ih hd hx
    have hy := h y (by simp)
    simp only [List.cons_append, valZ]
    refine ⟨?_, by omega⟩
    rw [digs_pos (by omega)]
    have e : (y + 32768 * valZ (l ++ [x])).toNat / 32768 = (valZ (l ++ [x])).toNat := by omega
    rw [e, ← h1]
    congr 1
    omega
/-- How many digits are left when the zeros at the top are cut. -/
def trimN (l : List Int) : Nat → Nat
  | 0 => 0
  | m + 1 => if l.getD m 0 = 0 then trimN l m else m + 1
theorem trimN_stop {l : List Int} {m : Nat} (h : 0 < m) (h0 : l.getD (m - 1) 0 ≠ 0) : trimN l m = m := by
  obtain ⟨k, rfl⟩ : ∃ k, m = k + 1 := ⟨m - 1, by omega⟩
  simp only [Nat.add_sub_cancel] at h0
  simp only [trimN, if_neg h0]
theorem trimN_go {l : List Int} {m : Nat} (h : 0 < m) (h0 : l.getD (m - 1) 0 = 0) : trimN l m = trimN l (m - 1) := by
  obtain ⟨k, rfl⟩ : ∃ k, m = k + 1 := ⟨m - 1, by omega⟩
  simp only [Nat.add_sub_cancel] at h0 ⊢
  simp only [trimN, if_pos h0]
theorem trimN_le (l : List Int) (m : Nat) : trimN l m ≤ m := by
  induction m with
  | zero => exact Nat.le_refl _
  | succ m ih => simp only [trimN]; split <;> omega
theorem trim_digs {l : List Int} (hd : Dig l) : ∀ {m : Nat}, m ≤ l.length → l.take (trimN l m) = digs (valZ (l.take m)).toNat := by
  intro m
  induction m with
  | zero => intro _; simp [trimN, valZ, digs_zero]
  | succ m ih =>
    intro h
    simp only [trimN]
    split
    · rename_i h0
      rw [ih (by omega), valZ_take (by omega), h0]
      simp
    · rename_i h0
      have hm : m < l.length := by omega
      have e : l.take (m + 1) = l.take m ++ [l.getD m 0] := by rw [List.take_succ_eq_append_getElem hm]; simp [List.getD, hm]
      rw [e]
      exact (canon (by rw [← e]; exact hd.take _) h0).1
theorem trim_all {l : List Int} (hd : Dig l) : l.take (trimN l l.length) = digs (valZ l).toNat := by
  have := trim_digs hd (Nat.le_refl l.length)
  rwa [List.take_length] at this
theorem trim_len {l : List Int} (hd : Dig l) : trimN l l.length = (digs (valZ l).toNat).length := by
  rw [← trim_all hd, List.length_take]
  have := trimN_le l l.length
  omega
theorem getD_set (l : List Int) (i j : Nat) (v : Int) : (l.set i v).getD j 0 = if i = j ∧ i < l.length then v else l.getD j 0 := by
  simp only [List.getD, List.getElem?_set]
  by_cases h : i = j
  · subst h
    by_cases h2 : i < l.length
    · simp [h2]
    · simp [h2, List.getElem?_eq_none (by omega : l.length ≤ i)]
  · simp [h]
/-! ### Products -/
def tin (b : List Int) (x : Int) (i : Nat) (L : List Int) : Nat → List Int × Int
  | 0 => (L, 0)
  | k + 1 => ((tin b x i L k).1.set (i + k) (((tin b x i L k).1.getD (i + k) 0 + x * b.getD k 0 + (tin b x i L k).2) % 32768), ((tin b x i L k).1.getD (i + k) 0 + x * b.getD k 0 + (tin b x i L k).2) / 32768)
theorem prod_lt {x y : Int} (hx : 0 ≤ x ∧ x < 32768) (hy : 0 ≤ y ∧ y < 32768) : 0 ≤ x * y ∧ x * y ≤ 1073676289 := by
  refine ⟨Int.mul_nonneg hx.1 hy.1, ?_⟩
  have h1 : x * y ≤ 32767 * y := Int.mul_le_mul_of_nonneg_right (by omega) hy.1
  omega
theorem tin_ok {b : List Int} {x : Int} {i : Nat} {L : List Int} (hb : Dig b) (hx : 0 ≤ x ∧ x < 32768) (hL : Dig L) (hl : i + b.length ≤ L.length) : ∀ {k : Nat}, k ≤ b.length →
    (tin b x i L k).1.length = L.length ∧ Dig (tin b x i L k).1 ∧ (0 ≤ (tin b x i L k).2 ∧ (tin b x i L k).2 < 32768) ∧
    valZ (tin b x i L k).1 + (tin b x i L k).2 * 32768 ^ (i + k) = valZ L + x * 32768 ^ i * valZ (b.take k) ∧ ∀ j, i + k ≤ j → (tin b x i L k).1.getD j 0 = L.getD j 0 := by
  intro k
  induction k with
  | zero => intro _; exact ⟨rfl, hL, by simp [tin], by simp [tin, valZ], fun j _ => rfl⟩
  | succ k ih =>
    intro hk
    obtain ⟨h1, h2, h3, h4, h5⟩ := ih (by omega)
    have hp := prod_lt hx (hb.get k)
    have hg := h2.get (i + k)
    simp only [tin]
    refine ⟨by simp [h1], h2.set _ (by omega) (by omega), by omega, ?_, fun j hj => ?_⟩
    · rw [valZ_set _ (by omega), valZ_take (by omega)]
      generalize hn : (tin b x i L k).1.getD (i + k) 0 + x * b.getD k 0 + (tin b x i L k).2 = n at *
      have e1 : n % 32768 = n - 32768 * (n / 32768) := by omega
      have e2 : (32768 : Int) ^ (i + (k + 1)) = 32768 ^ (i + k) * 32768 := by rw [← Nat.add_assoc, Int.pow_succ]
      have e3 : x * 32768 ^ i * (valZ (b.take k) + b.getD k 0 * 32768 ^ k) = x * 32768 ^ i * valZ (b.take k) + x * b.getD k 0 * 32768 ^ (i + k) := by
        rw [Int.mul_add, Int.pow_add]
        congr 1
        simp only [Int.mul_assoc, Int.mul_left_comm, Int.mul_comm]
      rw [e3, ← Int.add_assoc, ← h4, e2]
      generalize (tin b x i L k).1.getD (i + k) 0 = g at *
      generalize (tin b x i L k).2 = c at *
      generalize valZ (tin b x i L k).1 = V at *
      generalize x * b.getD k 0 = p at *
      generalize (32768 : Int) ^ (i + k) = Q at *
      have e4 : (n % 32768 - g) * Q = n * Q - 32768 * (n / 32768) * Q - g * Q := by rw [e1, Int.sub_mul, Int.sub_mul]
      have e5 : n * Q = g * Q + p * Q + c * Q := by rw [← hn, Int.add_mul, Int.add_mul]
      have e6 : n / 32768 * (Q * 32768) = 32768 * (n / 32768) * Q := by simp only [Int.mul_assoc, Int.mul_left_comm, Int.mul_comm]
      rw [e4, e5, e6]
      omega
    · rw [getD_set, if_neg (by omega)]
      exact h5 j (by omega)
def tout (a b : List Int) : Nat → List Int
  | 0 => List.replicate (a.length + b.length) 0
  | i + 1 => (tin b (a.getD i 0) i (tout a b i) b.length).1.set (i + b.length) ((tin b (a.getD i 0) i (tout a b i) b.length).1.getD (i + b.length) 0 + (tin b (a.getD i 0) i (tout a b i) b.length).2)
theorem tout_ok {a b : List Int} (ha : Dig a) (hb : Dig b) : ∀ {i : Nat}, i ≤ a.length → (tout a b i).length = a.length + b.length ∧ Dig (tout a b i) ∧ valZ (tout a b i) = valZ (a.take i) * valZ b ∧ ∀ j, i + b.length ≤ j → (tout a b i).getD j 0 = 0 := by
  intro i
  induction i with
  | zero =>
    intro _
    refine ⟨by simp [tout], dig_zeros _, by simp [tout, valZ, valZ_zeros], fun j hj => ?_⟩
    simp only [tout, List.getD, List.getElem?_replicate]
    split <;> rfl
  | succ i ih =>
    intro hi
    obtain ⟨h1, h2, h3, h4⟩ := ih (by omega)
    obtain ⟨t1, t2, t3, t4, t5⟩ := tin_ok hb (ha.get i) h2 (i := i) (by omega) (Nat.le_refl b.length)
    have hz : (tin b (a.getD i 0) i (tout a b i) b.length).1.getD (i + b.length) 0 = 0 := by rw [t5 _ (Nat.le_refl _)]; exact h4 _ (Nat.le_refl _)
    simp only [tout]
    refine ⟨by rw [List.length_set]; exact t1.trans h1, t2.set _ (by omega) (by omega), ?_, fun j hj => ?_⟩
    · rw [valZ_set _ (by omega), valZ_take (by omega), hz]
      rw [List.take_length] at t4
      rw [h3] at t4
      rw [Int.add_mul, show a.getD i 0 * 32768 ^ i * valZ b = a.getD i 0 * 32768 ^ i * valZ b from rfl, ← t4]
      simp only [Int.zero_add, Int.sub_zero]
    · rw [getD_set, if_neg (by omega), t5 _ (by omega)]
      exact h4 _ (by omega)
/-! ### Order -/
theorem valZ_lt {l : List Int} (h : Dig l) : valZ l < 32768 ^ l.length := by
  induction l with
  | nil => simp [valZ]
  | cons x l ih =>
    have h1 := h x (List.mem_cons_self ..)
    have h2 := ih fun y hy => h y (List.mem_cons_of_mem _ hy)
    rw [List.length_cons, Int.pow_succ]
    simp only [valZ]; omega
theorem digs_len_lt {a b : Nat} (h : (digs a).length < (digs b).length) : a < b := by
  by_cases hb : b = 0
  · subst hb; rw [digs_zero] at h; simp at h
  have h1 := valZ_lt (digs_dig a)
  rw [digs_val] at h1
  have h2 : 32768 ^ ((digs b).length - 1) ≤ b := by
    have : ¬ b < 32768 ^ ((digs b).length - 1) := fun hlt => by have := digs_length hlt; omega
    omega
  have h3 : (32768 : Nat) ^ (digs a).length ≤ 32768 ^ ((digs b).length - 1) := Nat.pow_le_pow_right (by decide) (by omega)
  have h4 : ((32768 ^ (digs a).length : Nat) : Int) = 32768 ^ (digs a).length := by rw [Int.natCast_pow]; rfl
  omega
/-- From the top down, the digits are the same up to place m. -/
def Top (l r : List Int) (m : Nat) : Prop := ∀ j, m ≤ j → l.getD j 0 = r.getD j 0
theorem top_split {l r : List Int} (hl : Dig l) (hr : Dig r) (he : l.length = r.length) : ∀ {m : Nat}, m ≤ l.length → Top l r m → valZ l - valZ r = valZ (l.take m) - valZ (r.take m) := by
  intro m hm ht
  have e : l.drop m = r.drop m := by
    apply List.ext_getElem
    · simp [he]
    · intro j h1 h2
      simp only [List.length_drop] at h1 h2
      have := ht (m + j) (by omega)
      simp only [List.getD, List.getElem?_eq_getElem (show m + j < l.length by omega), List.getElem?_eq_getElem (show m + j < r.length by omega), Option.getD_some] at this
      simpa using this
  have h1 : valZ l = valZ (l.take m) + 32768 ^ m * valZ (l.drop m) := by
    have := valZ_append (l.take m) (l.drop m)
    rwa [List.take_append_drop, List.length_take, Nat.min_eq_left hm] at this
  have h2 : valZ r = valZ (r.take m) + 32768 ^ m * valZ (r.drop m) := by
    have := valZ_append (r.take m) (r.drop m)
    rwa [List.take_append_drop, List.length_take, Nat.min_eq_left (by omega)] at this
  rw [h1, h2, e]; omega
theorem top_lt {l r : List Int} (hl : Dig l) (hr : Dig r) (he : l.length = r.length) {m : Nat} (hm : m < l.length) (ht : Top l r (m + 1)) (hlt : l.getD m 0 < r.getD m 0) : valZ l < valZ r := by
  have h := top_split hl hr he (m := m + 1) (by omega) ht
  rw [valZ_take hm, valZ_take (by omega)] at h
  have h1 := valZ_lt (hl.take m)
  have h2 := valZ_nonneg (hr.take m)
  rw [List.length_take, Nat.min_eq_left (by omega)] at h1
  have h0 : (0 : Int) < 32768 ^ m := Int.pow_pos (by decide)
  have h3 : (l.getD m 0 + 1) * 32768 ^ m ≤ r.getD m 0 * 32768 ^ m := Int.mul_le_mul_of_nonneg_right (by omega) (by omega)
  rw [Int.add_mul] at h3
  omega
theorem top_ne {l r : List Int} (hl : Dig l) (hr : Dig r) (he : l.length = r.length) {m : Nat} (hm : m < l.length) (ht : Top l r (m + 1)) (hne : l.getD m 0 ≠ r.getD m 0) : decide (l.getD m 0 < r.getD m 0) = decide (valZ l ≤ valZ r) := by
  by_cases h : l.getD m 0 < r.getD m 0
  · have := top_lt hl hr he hm ht h
    simp only [h, decide_true]
    symm; simp; omega
  · have := top_lt hr hl he.symm (by omega) (fun j hj => (ht j hj).symm) (by omega)
    simp only [h, decide_false]
    symm; simp; omega
theorem top_all {l r : List Int} (hl : Dig l) (hr : Dig r) (he : l.length = r.length) (ht : Top l r 0) : valZ l = valZ r := by
  have := top_split hl hr he (Nat.zero_le _) ht
  simp [valZ] at this
  omega
/-! ### The greatest number -/
/-- The search's number behind j steps. -/
def mostAt (lim : Int) (p : Int → Bool) : Nat → Int
  | 0 => 0
  | j + 1 => if mostAt lim p j + ((4398046511104 / 2 ^ j : Nat) : Int) ≤ lim ∧ p (mostAt lim p j + ((4398046511104 / 2 ^ j : Nat) : Int)) = true then mostAt lim p j + ((4398046511104 / 2 ^ j : Nat) : Int) else mostAt lim p j
def mostv (lim : Int) (p : Int → Bool) : Int := mostAt lim p 43
theorem step_half (j : Nat) : 4398046511104 / 2 ^ (j + 1) = 4398046511104 / 2 ^ j / 2 := by rw [Nat.pow_succ, Nat.div_div_eq_div_mul]
theorem steps_ok : ∀ j, j < 43 → 8796093022208 / 2 ^ j = 2 * (4398046511104 / 2 ^ j) ∧ 8796093022208 / 2 ^ (j + 1) = 4398046511104 / 2 ^ j := by decide
theorem mostAt_ok {lim : Int} {p : Int → Bool} {m : Int} (h0 : 0 ≤ m) (hm : m ≤ lim) (hl : m < 8796093022208) (hp : ∀ n, 0 < n → n ≤ lim → (p n = true ↔ n ≤ m)) : ∀ {j : Nat}, j ≤ 43 → 0 ≤ mostAt lim p j ∧ mostAt lim p j ≤ m ∧ m < mostAt lim p j + ((8796093022208 / 2 ^ j : Nat) : Int) := by
  intro j
  induction j with
  | zero => intro _; simp only [mostAt]; omega
  | succ j ih =>
    intro hj
    obtain ⟨h1, h2, h3⟩ := ih (by omega)
    obtain ⟨s1, s2⟩ := steps_ok j (by omega)
    rw [s1] at h3
    rw [s2]
    simp only [mostAt]
    generalize 4398046511104 / 2 ^ j = s at *
    split
    · rename_i hc
      by_cases hs : s = 0
      · subst hs; omega
      · have := (hp _ (by omega) hc.1).1 hc.2
        omega
    · rename_i hc
      refine ⟨h1, h2, ?_⟩
      by_cases hs : s = 0
      · subst hs; omega
      · by_cases hle : mostAt lim p j + (s : Int) ≤ lim
        · have : ¬ (mostAt lim p j + (s : Int) ≤ m) := fun h => hc ⟨hle, (hp _ (by omega) hle).2 h⟩
          omega
        · omega
theorem mostv_eq {lim : Int} {p : Int → Bool} {m : Int} (h0 : 0 ≤ m) (hm : m ≤ lim) (hl : m < 8796093022208) (hp : ∀ n, 0 < n → n ≤ lim → (p n = true ↔ n ≤ m)) : mostv lim p = m := by
  have h := mostAt_ok h0 hm hl hp (j := 43) (Nat.le_refl _)
  have e : (8796093022208 / 2 ^ 43 : Nat) = 1 := by decide
  rw [e] at h
  unfold mostv
  omega
end Go.Proofs.Ytchadeflopbchaa.Nats
