/- The plain law of lengths: sums of long numbers, sums of squares, and vectors made even. No condition. -/
import Derived.Test.YtioijglogoppnaaRootSpec
import Derived.Test.YtioijglogoppnaaQuantSpec
namespace Go.Proofs.Ytioijglogoppnaa.Vecs
open Go Go.Proofs.Ytioijglogoppnaa.Rnd Go.Proofs.Ytioijglogoppnaa.Nats Go.Proofs.Ytioijglogoppnaa.Root
set_option linter.unusedVariables false
set_option linter.unusedSimpArgs false
theorem getD_out {l : List Int} {k : Nat} (h : l.length ≤ k) : l.getD k 0 = 0 := by simp [List.getD, List.getElem?_eq_none h]
theorem valZ_take1 (l : List Int) (k : Nat) : valZ (l.take (k + 1)) = valZ (l.take k) + l.getD k 0 * 32768 ^ k := by
  by_cases h : k < l.length
  · exact valZ_take h
  · rw [List.take_of_length_le (by omega), List.take_of_length_le (by omega), getD_out (by omega)]; simp
def pn (a b L : List Int) (i : Nat) : Int := L.getD i 0 + a.getD i 0 + b.getD i 0
def padd (a b : List Int) : Nat → List Int
  | 0 => List.replicate (max a.length b.length + 1) 0
  | i + 1 => if 32768 ≤ pn a b (padd a b i) i then ((padd a b i).set i (pn a b (padd a b i) i % 32768)).set (i + 1) (((padd a b i).set i (pn a b (padd a b i) i % 32768)).getD (i + 1) 0 + 1) else (padd a b i).set i (pn a b (padd a b i) i % 32768)
theorem padd_ok {a b : List Int} (ha : Dig a) (hb : Dig b) : ∀ {i : Nat}, i ≤ max a.length b.length + 1 → (padd a b i).length = max a.length b.length + 1 ∧ Dig (padd a b i) ∧ (∀ j, i < j → (padd a b i).getD j 0 = 0) ∧ ((padd a b i).getD i 0 ≤ 1) ∧ valZ (padd a b i) = valZ (a.take i) + valZ (b.take i) := by
  intro i
  induction i with
  | zero =>
    intro _
    have hz : ∀ j, (padd a b 0).getD j 0 = 0 := fun j => by simp only [padd, List.getD, List.getElem?_replicate]; split <;> rfl
    refine ⟨by simp [padd], dig_zeros _, fun j _ => hz j, by rw [hz]; decide, by simp [padd, valZ, valZ_zeros]⟩
  | succ i ih =>
    intro hi
    obtain ⟨h1, h2, h3, h4, h5⟩ := ih (by omega)
    have g0 := h2.get i
    have ga := ha.get i
    have gb := hb.get i
    have hlast : i = max a.length b.length → a.getD i 0 = 0 ∧ b.getD i 0 = 0 := fun e => ⟨getD_out (by omega), getD_out (by omega)⟩
    simp only [padd]
    have hnx : ((padd a b i).set i (pn a b (padd a b i) i % 32768)).getD (i + 1) 0 = 0 := by rw [getD_set, if_neg (by omega)]; exact h3 _ (by omega)
    rw [hnx]
    have hn : pn a b (padd a b i) i = (padd a b i).getD i 0 + a.getD i 0 + b.getD i 0 := rfl
    generalize pn a b (padd a b i) i = n at *
    have hd1 : Dig ((padd a b i).set i (n % 32768)) := h2.set _ (by omega) (by omega)
    have hv : valZ ((padd a b i).set i (n % 32768)) = valZ (padd a b i) + (n % 32768 - (padd a b i).getD i 0) * 32768 ^ i := valZ_set _ (by omega)
    split
    · rename_i hc
      have hlt : i < max a.length b.length := by
        apply Nat.lt_of_le_of_ne (by omega)
        intro e
        have := hlast e
        omega
      refine ⟨by simp [h1], hd1.set _ (by omega) (by omega), fun j hj => ?_, ?_, ?_⟩
      · rw [getD_set, if_neg (by omega), getD_set, if_neg (by omega)]; exact h3 j (by omega)
      · rw [getD_set]; split
        · decide
        · rw [hnx]; decide
      · rw [valZ_set _ (by simp [h1]; omega), hnx, hv, valZ_take1, valZ_take1, h5, Int.pow_succ]
        generalize (32768 : Int) ^ i = Q at *
        have e1 : n % 32768 - (padd a b i).getD i 0 = a.getD i 0 + b.getD i 0 - 32768 := by omega
        rw [e1, Int.sub_mul, Int.add_mul]
        omega
    · rename_i hc
      refine ⟨by simp [h1], hd1, fun j hj => ?_, by rw [hnx]; decide, ?_⟩
      · rw [getD_set, if_neg (by omega)]; exact h3 j (by omega)
      · rw [hv, valZ_take1, valZ_take1, h5]
        have e1 : n % 32768 - (padd a b i).getD i 0 = a.getD i 0 + b.getD i 0 := by omega
        rw [e1, Int.add_mul]
        omega
theorem padd_carry {a b : List Int} (ha : Dig a) (hb : Dig b) {i : Nat} (hi : i < max a.length b.length + 1) (hc : 32768 ≤ pn a b (padd a b i) i) : i + 1 < max a.length b.length + 1 := by
  obtain ⟨h1, h2, h3, h4, h5⟩ := padd_ok ha hb (i := i) (by omega)
  apply Nat.lt_of_le_of_ne (by omega)
  intro e
  have := getD_out (l := a) (k := i) (by omega)
  have := getD_out (l := b) (k := i) (by omega)
  unfold pn at hc
  omega
theorem padd_end {a b : List Int} (ha : Dig a) (hb : Dig b) : valZ (padd a b (max a.length b.length + 1)) = valZ a + valZ b := by
  obtain ⟨h1, h2, h3, h4, h5⟩ := padd_ok ha hb (i := max a.length b.length + 1) (Nat.le_refl _)
  rw [h5, List.take_of_length_le (by omega), List.take_of_length_le (by omega)]
/-! ### Sums of squares -/
def ssq (l : List Int) : Nat → Nat
  | 0 => 0
  | k + 1 => ssq l k + (l.getD k 0).natAbs * (l.getD k 0).natAbs
theorem ssq_le {l : List Int} (h : ∀ k, (l.getD k 0).natAbs ≤ 2199023255552) : ∀ k, ssq l k ≤ k * 4835703278458516698824704
  | 0 => Nat.le_refl _
  | k + 1 => by
    have h1 := ssq_le h k
    have h2 := Nat.mul_le_mul (h k) (h k)
    simp only [ssq]; omega
def longV (l : List Int) : Int := ((rootN (ssq l l.length) : Nat) : Int)
theorem long_root {S : Nat} (h : S ≤ 19342813113834066795298816) : rootN S ≤ 4398046511104 := by
  apply Nat.le_of_not_lt
  intro hlt
  have h1 := (rootN_ok (n := S) (by omega)).1
  have h2 := Nat.mul_le_mul (show 4398046511105 ≤ rootN S from hlt) (show 4398046511105 ≤ rootN S from hlt)
  omega
theorem long_most {S : Nat} (h : S ≤ 19342813113834066795298816) : mostv 4398046511104 (fun n => decide (n.toNat * n.toNat ≤ S)) = ((rootN S : Nat) : Int) := by
  have hb := long_root h
  refine mostv_eq (by omega) (by omega) (by omega) fun n hn0 _ => ?_
  obtain ⟨k, rfl⟩ := Int.eq_ofNat_of_zero_le (Int.le_of_lt hn0)
  have := root_le (k := k) (n := S) (by omega)
  simp only [decide_eq_true_eq, Int.toNat_natCast]
  constructor
  · intro h1; have := this.1 h1; omega
  · intro h1; exact this.2 (by omega)
theorem long_bound {l : List Int} (h : ∀ k, (l.getD k 0).natAbs ≤ 2199023255552) (hl : l.length ≤ 4) : 0 ≤ longV l ∧ longV l ≤ 4398046511104 := by
  have h1 := ssq_le h l.length
  have h2 := long_root (S := ssq l l.length) (by omega)
  unfold longV; omega
theorem ssq_at (l : List Int) {k : Nat} : ∀ {n : Nat}, k < n → (l.getD k 0).natAbs * (l.getD k 0).natAbs ≤ ssq l n
  | 0, h => by omega
  | n + 1, h => by
    simp only [ssq]
    by_cases e : k = n
    · subst e; omega
    · have := ssq_at l (k := k) (n := n) (by omega); omega
theorem long_ge {l : List Int} (h : ∀ k, (l.getD k 0).natAbs ≤ 2199023255552) (hl : l.length ≤ 4) (k : Nat) (hk : k < l.length) : ((l.getD k 0).natAbs : Int) ≤ longV l := by
  have h1 := ssq_le h l.length
  have h2 := (root_le (n := ssq l l.length) (by omega)).1 (ssq_at l hk)
  unfold longV; omega
/-! ### The scale -/
def dbl (f s : Nat) : Nat := if h : 0 < f * s ∧ f * s < 1073741824 then dbl f (2 * s) else s
termination_by 1073741824 - f * s
decreasing_by rw [Nat.mul_left_comm]; omega
theorem dbl_go {f s : Nat} (h0 : 0 < f * s) (h : f * s < 1073741824) : dbl f s = dbl f (2 * s) := by rw [dbl]; simp [h0, h]
theorem dbl_stop {f s : Nat} (h : 1073741824 ≤ f * s) : dbl f s = s := by rw [dbl]; simp; omega
theorem dbl_ok : ∀ (m f s : Nat), 1073741824 - f * s = m → 0 < f * s → f * s ≤ 1099511627776 → 1073741824 ≤ f * dbl f s ∧ f * dbl f s ≤ 1099511627776 := by
  intro m
  induction m using Nat.strongRecOn with
  | _ m ih =>
    intro f s hm h0 h1
    by_cases h : f * s < 1073741824
    · rw [dbl_go h0 h]
      have e : f * (2 * s) = 2 * (f * s) := Nat.mul_left_comm ..
      exact ih (1073741824 - f * (2 * s)) (by rw [e]; omega) f (2 * s) rfl (by omega) (by omega)
    · rw [dbl_stop (by omega)]; omega
theorem dbl_one {f : Nat} (h0 : 0 < f) (h1 : f ≤ 1099511627776) : 1073741824 ≤ f * dbl f 1 ∧ f * dbl f 1 ≤ 1099511627776 := dbl_ok _ f 1 rfl (by omega) (by omega)
theorem abs_mul (x : Int) (s : Nat) : (x * (s : Int)).natAbs = x.natAbs * s := by rw [Int.natAbs_mul, Int.natAbs_natCast]
/-! ### Rounded through a length -/
def throughV (x l : Int) : Int := (2 * x * 65536 + l) / (2 * l)
/-- What the program reckons. -/
theorem through_walk {n l : Int} (hl : 0 < l) : (if n < 0 ∧ Int.tmod n (2 * l) ≠ 0 then Int.tdiv n (2 * l) - 1 else Int.tdiv n (2 * l)) = n / (2 * l) := by
  have h2 : (0 : Int) < 2 * l := by omega
  have a1 := Int.mul_tdiv_add_tmod n (2 * l)
  have a2 := Int.tmod_lt_of_pos n h2
  by_cases hn : n < 0
  · have a3 : Int.tmod n (2 * l) ≤ 0 := by
      have := Int.tmod_nonneg (2 * l) (show 0 ≤ -n by omega)
      rw [Int.neg_tmod] at this; omega
    have a4 : -(2 * l) < Int.tmod n (2 * l) := by
      have := Int.tmod_lt_of_pos (-n) h2
      rw [Int.neg_tmod] at this; omega
    by_cases hz : Int.tmod n (2 * l) = 0
    · rw [if_neg (fun h => h.2 hz)]
      refine (Int.ediv_eq_of_eq_mul_right (by omega) ?_).symm
      rw [hz] at a1; omega
    · rw [if_pos ⟨hn, hz⟩]
      symm
      refine (Int.ediv_emod_unique h2 (r := Int.tmod n (2 * l) + 2 * l) (q := Int.tdiv n (2 * l) - 1)).2 ⟨?_, by omega, by omega⟩ |>.1
      rw [Int.mul_sub]; omega
  · rw [if_neg (fun h => hn h.1), Int.tdiv_eq_ediv_of_nonneg (by omega)]
/-- What the reference reckons. -/
theorem through_ref {x l : Int} (hl : 0 < l) : Int.tdiv (x - Int.tmod (Int.tmod x (2 * l) + 2 * l) (2 * l)) (2 * l) = x / (2 * l) := by
  have h2 : (0 : Int) < 2 * l := by omega
  have a1 := Int.mul_tdiv_add_tmod x (2 * l)
  have a2 := Int.tmod_lt_of_pos x h2
  have a4 : -(2 * l) < Int.tmod x (2 * l) := by
    have := Int.tmod_lt_of_pos (-x) h2
    rw [Int.neg_tmod] at this; omega
  have e : Int.tmod (Int.tmod x (2 * l) + 2 * l) (2 * l) = x % (2 * l) := by
    rw [Int.tmod_eq_emod_of_nonneg (by omega), Int.add_emod_right]
    have : x % (2 * l) = (2 * l * Int.tdiv x (2 * l) + Int.tmod x (2 * l)) % (2 * l) := by rw [a1]
    rw [this, Int.add_comm (2 * l * _), Int.add_mul_emod_self_left]
  rw [e]
  have b1 := Int.mul_ediv_add_emod x (2 * l)
  have : x - x % (2 * l) = 2 * l * (x / (2 * l)) := by omega
  rw [this, Int.mul_tdiv_cancel_left _ (by omega)]
theorem through_range {x l : Int} (hl : 0 < l) (h0 : -l ≤ x) (h1 : x ≤ l) : -65536 ≤ throughV x l ∧ throughV x l ≤ 65536 := by
  unfold throughV
  constructor
  · refine (Int.le_ediv_iff_mul_le (by omega)).2 ?_; omega
  · have : (2 * x * 65536 + l) / (2 * l) < 65537 := by refine Int.ediv_lt_of_lt_mul (by omega) ?_; omega
    omega
/-! ### Lists that are turned place by place -/
def mapK (f : Int → Int) (L : List Int) : Nat → List Int
  | 0 => L
  | k + 1 => (mapK f L k).set k (f ((mapK f L k).getD k 0))
theorem mapK_ok (f : Int → Int) (L : List Int) : ∀ {k : Nat}, k ≤ L.length → (mapK f L k).length = L.length ∧ ∀ j, (mapK f L k).getD j 0 = if j < k then f (L.getD j 0) else L.getD j 0 := by
  intro k
  induction k with
  | zero => intro _; exact ⟨rfl, fun j => by simp [mapK]⟩
  | succ k ih =>
    intro hk
    obtain ⟨h1, h2⟩ := ih (by omega)
    refine ⟨by simp [mapK, h1], fun j => ?_⟩
    simp only [mapK]
    rw [getD_set, h1, h2 k, h2 j, if_neg (show ¬ k < k by omega)]
    by_cases e : k = j
    · subst e; rw [if_pos ⟨rfl, by omega⟩, if_pos (by omega)]
    · rw [if_neg (fun h => e h.1)]
      by_cases e2 : j < k
      · rw [if_pos e2, if_pos (by omega)]
      · rw [if_neg e2, if_neg (by omega)]
theorem mapK_all (f : Int → Int) (L : List Int) : mapK f L L.length = L.map f := by
  obtain ⟨h1, h2⟩ := mapK_ok f L (Nat.le_refl L.length)
  apply List.ext_getElem
  · simp [h1]
  · intro j a b
    have := h2 j
    rw [if_pos (by rw [← h1]; exact a)] at this
    simp only [List.getD, List.getElem?_eq_getElem a, List.getElem?_eq_getElem (show j < L.length by rw [← h1]; exact a), Option.getD_some] at this
    simpa using this
/-! ### Numbers made even -/
def clV (a : Int) : Int := min (max a (-1099511627776)) 1099511627776
def farK (C : List Int) : Nat → Int
  | 0 => 0
  | k + 1 => max (max (farK C k) (clV (C.getD k 0))) (-(clV (C.getD k 0)))
theorem farK_ok (C : List Int) : ∀ k, 0 ≤ farK C k ∧ farK C k ≤ 1099511627776
  | 0 => by simp [farK]
  | k + 1 => by have := farK_ok C k; simp only [farK, clV]; omega
theorem farK_ge (C : List Int) {j : Nat} : ∀ {k : Nat}, j < k → ((clV (C.getD j 0)).natAbs : Int) ≤ farK C k
  | 0, h => by omega
  | k + 1, h => by
    simp only [farK]
    by_cases e : j = k
    · subst e; omega
    · have := farK_ge C (j := j) (k := k) (by omega); omega
theorem farK_is (C : List Int) : ∀ k, farK C k = 0 ∨ ∃ j, j < k ∧ farK C k = ((clV (C.getD j 0)).natAbs : Int)
  | 0 => .inl rfl
  | k + 1 => by
    have h0 := farK_ok C k
    rcases farK_is C k with h | ⟨j, h1, h2⟩
    · refine .inr ⟨k, by omega, ?_⟩
      simp only [farK]; omega
    · by_cases hle : farK C k ≤ ((clV (C.getD k 0)).natAbs : Int)
      · refine .inr ⟨k, by omega, ?_⟩
        simp only [farK]; omega
      · refine .inr ⟨j, by omega, ?_⟩
        simp only [farK]; omega
def scaleV (C : List Int) : Nat := dbl (farK C C.length).toNat 1
def scaled (C : List Int) : List Int := (C.map clV).map (· * ((scaleV C : Nat) : Int))
def evenV (C : List Int) : List Int := (scaled C).map fun x => throughV x (longV (scaled C))
theorem getD_map0 {l : List Int} {f : Int → Int} (h : f 0 = 0) (k : Nat) : (l.map f).getD k 0 = f (l.getD k 0) := by
  simp only [List.getD, List.getElem?_map]
  cases l[k]? <;> simp [h]
theorem scaled_get (C : List Int) (k : Nat) : (scaled C).getD k 0 = clV (C.getD k 0) * ((scaleV C : Nat) : Int) := by
  unfold scaled
  rw [getD_map0 (by simp), getD_map0 (by decide)]
theorem scaled_length (C : List Int) : (scaled C).length = C.length := by simp [scaled]
theorem scaled_ok {C : List Int} (h0 : 0 < farK C C.length) (hl : C.length ≤ 4) : (∀ k, ((scaled C).getD k 0).natAbs ≤ 1099511627776) ∧ 0 < longV (scaled C) ∧ longV (scaled C) ≤ 4398046511104 ∧ ∀ k, k < C.length → (((scaled C).getD k 0).natAbs : Int) ≤ longV (scaled C) := by
  have h1 := farK_ok C C.length
  obtain ⟨d1, d2⟩ := dbl_one (f := (farK C C.length).toNat) (by omega) (by omega)
  have hb : ∀ k, ((scaled C).getD k 0).natAbs ≤ 1099511627776 := fun k => by
    rw [scaled_get, abs_mul]
    by_cases hk : k < C.length
    · have := farK_ge C hk
      exact Nat.le_trans (Nat.mul_le_mul_right _ (show _ ≤ (farK C C.length).toNat by omega)) d2
    · rw [getD_out (by omega), show (clV 0).natAbs = 0 by decide]; omega
  have hb2 : ∀ k, ((scaled C).getD k 0).natAbs ≤ 2199023255552 := fun k => Nat.le_trans (hb k) (by decide)
  have hlb := long_bound hb2 (by rw [scaled_length]; exact hl)
  refine ⟨hb, ?_, hlb.2, fun k hk => long_ge hb2 (by rw [scaled_length]; exact hl) k (by rw [scaled_length]; exact hk)⟩
  rcases farK_is C C.length with h | ⟨j, hj, hf⟩
  · omega
  · have := long_ge hb2 (by rw [scaled_length]; exact hl) j (by rw [scaled_length]; exact hj)
    rw [scaled_get, abs_mul] at this
    have e : (clV (C.getD j 0)).natAbs = (farK C C.length).toNat := by omega
    rw [e] at this
    have : (farK C C.length).toNat * scaleV C = (farK C C.length).toNat * dbl (farK C C.length).toNat 1 := rfl
    omega
end Go.Proofs.Ytioijglogoppnaa.Vecs
