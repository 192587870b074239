/- The plain law of sets of small numbers: words of 64 bits. No condition. -/
import Derived.Test.YthcniadbdjoecaaFnR
import Derived.Test.YthcniadbdjoecaaPu
import Derived.Test.YthcniadbdjoecaaBitSpec
namespace Go.Proofs.Ythcniadbdjoecaa.R
open Go Go.RowKit Go.Proofs.Ythcniadbdjoecaa.Sx
set_option linter.unusedVariables false
set_option linter.unusedSimpArgs false
/-- Words in range. -/
def W64 (s : List Int) : Prop := ∀ x ∈ s, 0 ≤ x ∧ x < 18446744073709551616
/-- Bit n of words. -/
def bt (s : List Int) (n : Nat) : Bool := (s.getD (n / 64) 0).toNat.testBit (n % 64)
/-- Is n in the set? -/
def inS (s : List Int) (n : Nat) : Bool := decide (n < 4096) && bt s n
structure Canon (s : List Int) : Prop where
  w : W64 s
  len : s.length ≤ 64
  last : ∀ k, s.length = k + 1 → s.getD k 0 ≠ 0
theorem W64.at {s : List Int} (h : W64 s) (k : Nat) : 0 ≤ s.getD k 0 ∧ s.getD k 0 < 18446744073709551616 := by
  rw [List.getD_eq_getElem?_getD]
  by_cases hk : k < s.length
  · rw [List.getElem?_eq_getElem hk]; exact h _ (List.getElem_mem hk)
  · rw [List.getElem?_eq_none (by omega)]; exact ⟨by simp, by simp⟩
theorem bt_word (s : List Int) (k i : Nat) (hi : i < 64) : bt s (64 * k + i) = (s.getD k 0).toNat.testBit i := by
  unfold bt
  rw [show (64 * k + i) / 64 = k by omega, show (64 * k + i) % 64 = i by omega]
theorem word_ext {s t : List Int} (hs : W64 s) (ht : W64 t) (h : ∀ n, bt s n = bt t n) (k : Nat) : s.getD k 0 = t.getD k 0 := by
  obtain ⟨h1, h2⟩ := hs.at k
  obtain ⟨h3, h4⟩ := ht.at k
  have key : (s.getD k 0).toNat = (t.getD k 0).toNat := by
    apply Nat.eq_of_testBit_eq
    intro i
    by_cases hi : i < 64
    · rw [← bt_word s k i hi, ← bt_word t k i hi]; exact h _
    · have hp : 2 ^ 64 ≤ 2 ^ i := Nat.pow_le_pow_right (by decide) (by omega)
      rw [Nat.testBit_lt_two_pow (by omega), Nat.testBit_lt_two_pow (by omega)]
  omega
theorem canon_ext {s t : List Int} (hs : Canon s) (ht : Canon t) (h : ∀ n, bt s n = bt t n) : s = t := by
  have hw := word_ext hs.w ht.w h
  have out : ∀ {u : List Int} {k : Nat}, u.length ≤ k → u.getD k 0 = 0 := fun {u k} hk => by rw [List.getD_eq_getElem?_getD, List.getElem?_eq_none hk]; rfl
  have hl : s.length = t.length := by
    rcases Nat.lt_trichotomy s.length t.length with hlt | he | hlt
    · exfalso
      exact ht.last (t.length - 1) (by omega) (by rw [← hw, out (by omega)])
    · exact he
    · exfalso
      exact hs.last (s.length - 1) (by omega) (by rw [hw, out (by omega)])
  apply List.ext_getElem hl
  intro k h1 h2
  have := hw k
  rw [List.getD_eq_getElem?_getD, List.getD_eq_getElem?_getD, List.getElem?_eq_getElem h1, List.getElem?_eq_getElem h2] at this
  exact this
theorem bt_out {s : List Int} {n : Nat} (h : 64 * s.length ≤ n) : bt s n = false := by
  unfold bt
  rw [List.getD_eq_getElem?_getD, List.getElem?_eq_none (by omega)]
  simp
theorem bt_nil (n : Nat) : bt [] n = false := bt_out (Nat.zero_le _)
theorem canon_nil : Canon [] := ⟨fun x h => by simp at h, by simp, fun k h => by simp at h⟩
/-! ### Words -/
theorem word_ok (s : List Int) (k : Nat) : sets_Set_word s (k : Int) = some (if k < 64 then s.getD k 0 else 0) := by
  unfold sets_Set_word
  rw [cnd_dec]
  by_cases h : k < s.length ∧ k < 64
  · rw [if_pos (by omega), if_pos h.2, idx_get h.1, List.getD_eq_getElem?_getD, List.getElem?_eq_getElem h.1]; rfl
  · rw [if_neg (by omega)]
    by_cases h2 : k < 64
    · rw [if_pos h2, List.getD_eq_getElem?_getD, List.getElem?_eq_none (by omega)]; rfl
    · rw [if_neg h2]
theorem word_lt (s : List Int) {k : Nat} (h : k < 64) : sets_Set_word s (k : Int) = some (s.getD k 0) := by rw [word_ok, if_pos h]
/-- The words that a function makes of those of two sets. -/
theorem join_words (g : Int → Int → Int) (a b : List Int) (step : List Int × Int → Option ((List Int × Int) ⊕ List Int))
    (hs : ∀ l i, step (l, i) = cnd (decide (i < min (max (a.length : Int) (b.length : Int)) 64)) ((sets_Set_word a i).bind fun x => (sets_Set_word b i).bind fun y => (app 8 l [g x y]).bind fun l' => some (.inl (l', IntKind.i64.wrap (i + 1)))) (some (.inr l))) :
    loop step (([] : List Int), 0) = some ((List.range (min (max a.length b.length) 64)).map fun k => g (a.getD k 0) (b.getD k 0)) := by
  have := loop_to (step := step) (fun i => ((List.range i).map (fun k => g (a.getD k 0) (b.getD k 0)), (i : Int))) (min (max a.length b.length) 64) (r := (List.range (min (max a.length b.length) 64)).map fun k => g (a.getD k 0) (b.getD k 0)) (fun i hi => by
    rw [hs, cnd_dec, if_pos (by omega), word_lt a (by omega)]
    simp only [Option.bind_some]
    rw [word_lt b (by omega)]
    simp only [Option.bind_some]
    rw [app_ok (by simp only [List.length_map, List.length_range, List.length_cons, List.length_nil]; omega)]
    simp only [Option.bind_some]
    rw [i64ok (by omega) (by omega), List.range_succ, List.map_append]
    rfl) (by rw [hs, cnd_dec, if_neg (by omega)])
  exact this
theorem getD_snoc (l : List Int) (x : Int) (k : Nat) : (l ++ [x]).getD k 0 = if k = l.length then x else l.getD k 0 := by
  simp only [List.getD_eq_getElem?_getD, List.getElem?_append]
  by_cases h : k < l.length
  · rw [if_pos h, if_neg (by omega)]
  · rw [if_neg h]
    by_cases e : k = l.length
    · subst e; simp
    · rw [if_neg e, List.getElem?_eq_none (by simp; omega), List.getElem?_eq_none (by omega)]
/-- Words that are zero at the end are left out. -/
theorem trim_ex (step : List Int → Option (List Int ⊕ List Int))
    (hs : ∀ l, step l = cnd (decide (0 < (l.length : Int))) ((idx l (IntKind.i64.wrap ((l.length : Int) - 1))).bind fun x => cnd (x == 0) ((cut l 0 (IntKind.i64.wrap ((l.length : Int) - 1))).bind fun l' => some (.inl l')) (some (.inr l))) (some (.inr l))) :
    ∀ (m : Nat) (l : List Int), l.length = m → m ≤ 64 → W64 l → ∃ r, loop step l = some r ∧ Canon r ∧ ∀ n, bt r n = bt l n := by
  intro m
  induction m with
  | zero =>
    intro l hl _ _
    obtain rfl := List.eq_nil_of_length_eq_zero hl
    exact ⟨[], loop_inr (by rw [hs]; rfl), canon_nil, fun _ => rfl⟩
  | succ m ih =>
    intro l hl hm hw
    obtain ⟨l', x, rfl⟩ : ∃ l' x, l = l' ++ [x] := by
      rcases List.eq_nil_or_concat l with rfl | ⟨l', x, rfl⟩
      · simp at hl
      · exact ⟨l', x, by simp⟩
    have hl' : l'.length = m := by simpa using hl
    have hx : idx (l' ++ [x]) (l'.length : Int) = some x := by rw [idx_get (by simp)]; simp
    have hwr : IntKind.i64.wrap (((l' ++ [x]).length : Int) - 1) = (l'.length : Int) := by rw [List.length_append]; simp only [List.length_cons, List.length_nil]; rw [i64ok (by omega) (by omega)]; omega
    have hst := hs (l' ++ [x])
    rw [cnd_dec, if_pos (by rw [List.length_append]; simp only [List.length_cons, List.length_nil]; omega), hwr, hx] at hst
    simp only [Option.bind_some, cnd_beq] at hst
    by_cases h0 : x = 0
    · subst h0
      rw [if_pos rfl, cut_ok (by omega) (by omega) (by rw [List.length_append]; omega)] at hst
      simp only [Option.bind_some, Int.toNat_zero, List.drop_zero, Int.toNat_natCast, Nat.sub_zero, List.take_left'] at hst
      obtain ⟨r, h1, h2, h3⟩ := ih l' hl' (by omega) (fun y hy => hw y (by simp [hy]))
      refine ⟨r, by rw [loop_inl hst]; exact h1, h2, fun n => ?_⟩
      rw [h3]
      unfold bt
      rw [getD_snoc]
      by_cases e : n / 64 = l'.length
      · rw [if_pos e, List.getD_eq_getElem?_getD, List.getElem?_eq_none (by omega)]; rfl
      · rw [if_neg e]
    · rw [if_neg h0] at hst
      exact ⟨_, loop_inr hst, ⟨hw, by omega, fun k hk => by rw [getD_snoc, if_pos (by simp at hk; omega)]; exact h0⟩, fun _ => rfl⟩
/-- The set that a function of bits makes of two sets. -/
theorem join_bits (g : Int → Int → Int) (f : Bool → Bool → Bool) (hf : f false false = false) (hg : ∀ x y : Int, 0 ≤ x → x < 18446744073709551616 → 0 ≤ y → y < 18446744073709551616 → (0 ≤ g x y ∧ g x y < 18446744073709551616) ∧ ∀ i, (i < 64) → (g x y).toNat.testBit i = f (x.toNat.testBit i) (y.toNat.testBit i))
    {a b : List Int} (ha : W64 a) (hb : W64 b) :
    W64 ((List.range (min (max a.length b.length) 64)).map fun k => g (a.getD k 0) (b.getD k 0)) ∧ ∀ n, bt ((List.range (min (max a.length b.length) 64)).map fun k => g (a.getD k 0) (b.getD k 0)) n = f (inS a n) (inS b n) := by
  constructor
  · intro x hx
    obtain ⟨k, _, rfl⟩ := List.mem_map.1 hx
    exact (hg _ _ (ha.at k).1 (ha.at k).2 (hb.at k).1 (hb.at k).2).1
  · intro n
    by_cases hk : n / 64 < min (max a.length b.length) 64
    · have e1 : inS a n = bt a n := by unfold inS; rw [decide_eq_true (by omega), Bool.true_and]
      have e2 : inS b n = bt b n := by unfold inS; rw [decide_eq_true (by omega), Bool.true_and]
      rw [e1, e2]
      unfold bt
      rw [List.getD_eq_getElem?_getD, List.getElem?_map, List.getElem?_range hk]
      exact (hg _ _ (ha.at _).1 (ha.at _).2 (hb.at _).1 (hb.at _).2).2 _ (Nat.mod_lt _ (by decide))
    · have e0 : bt ((List.range (min (max a.length b.length) 64)).map fun k => g (a.getD k 0) (b.getD k 0)) n = false := bt_out (by simp only [List.length_map, List.length_range]; omega)
      have e1 : inS a n = false := by
        unfold inS
        by_cases h : n < 4096
        · rw [bt_out (by omega), Bool.and_false]
        · rw [decide_eq_false h, Bool.false_and]
      have e2 : inS b n = false := by
        unfold inS
        by_cases h : n < 4096
        · rw [bt_out (by omega), Bool.and_false]
        · rw [decide_eq_false h, Bool.false_and]
      rw [e0, e1, e2, hf]
theorem or_bits (x y : Int) (h1 : 0 ≤ x) (h2 : x < 18446744073709551616) (h3 : 0 ≤ y) (h4 : y < 18446744073709551616) : (0 ≤ Go.bits .or .u64 x y ∧ Go.bits .or .u64 x y < 18446744073709551616) ∧ ∀ i, i < 64 → (Go.bits .or .u64 x y).toNat.testBit i = (x.toNat.testBit i || y.toNat.testBit i) := by
  rw [Go.u64_or x y h1 h2 h3 h4]
  have := Nat.or_lt_two_pow (x := x.toNat) (y := y.toNat) (n := 64) (by omega) (by omega)
  exact ⟨⟨by omega, by omega⟩, fun i _ => by rw [Int.toNat_natCast, Nat.testBit_or]⟩
theorem and_bits (x y : Int) (h1 : 0 ≤ x) (h2 : x < 18446744073709551616) (h3 : 0 ≤ y) (h4 : y < 18446744073709551616) : (0 ≤ Go.bits .and .u64 x y ∧ Go.bits .and .u64 x y < 18446744073709551616) ∧ ∀ i, i < 64 → (Go.bits .and .u64 x y).toNat.testBit i = (x.toNat.testBit i && y.toNat.testBit i) := by
  rw [Go.u64_and x y h1 h2 h3 h4]
  have := Nat.and_lt_two_pow x.toNat (y := y.toNat) (n := 64) (by omega)
  exact ⟨⟨by omega, by omega⟩, fun i _ => by rw [Int.toNat_natCast, Nat.testBit_and]⟩
theorem andNot_bits (x y : Int) (h1 : 0 ≤ x) (h2 : x < 18446744073709551616) (h3 : 0 ≤ y) (h4 : y < 18446744073709551616) : (0 ≤ Go.bits .andNot .u64 x y ∧ Go.bits .andNot .u64 x y < 18446744073709551616) ∧ ∀ i, i < 64 → (Go.bits .andNot .u64 x y).toNat.testBit i = (x.toNat.testBit i && !y.toNat.testBit i) := by
  rw [Go.u64_andNot x y h1 h2 h3 h4]
  have := Nat.and_lt_two_pow x.toNat (y := 18446744073709551615 - y.toNat) (n := 64) (by omega)
  refine ⟨⟨by omega, by omega⟩, fun i hi => ?_⟩
  rw [Int.toNat_natCast, Nat.testBit_and, show (18446744073709551615 - y.toNat : Nat) = 2 ^ 64 - (y.toNat + 1) by omega, Nat.testBit_two_pow_sub_succ (by omega), decide_eq_true hi, Bool.true_and]
theorem fst_bits (x y : Int) (h1 : 0 ≤ x) (h2 : x < 18446744073709551616) (h3 : 0 ≤ y) (h4 : y < 18446744073709551616) : (0 ≤ x ∧ x < 18446744073709551616) ∧ ∀ i, i < 64 → x.toNat.testBit i = x.toNat.testBit i := ⟨⟨h1, h2⟩, fun _ _ => rfl⟩
/-- A join, whole. -/
theorem join_ex (g : Int → Int → Int) (f : Bool → Bool → Bool) (hf : f false false = false) (hg : ∀ x y : Int, 0 ≤ x → x < 18446744073709551616 → 0 ≤ y → y < 18446744073709551616 → (0 ≤ g x y ∧ g x y < 18446744073709551616) ∧ ∀ i, (i < 64) → (g x y).toNat.testBit i = f (x.toNat.testBit i) (y.toNat.testBit i))
    (a b : List Int) (ha : W64 a) (hb : W64 b) (step : List Int × Int → Option ((List Int × Int) ⊕ List Int)) (step2 : List Int → Option (List Int ⊕ List Int))
    (hs : ∀ l i, step (l, i) = cnd (decide (i < min (max (a.length : Int) (b.length : Int)) 64)) ((sets_Set_word a i).bind fun x => (sets_Set_word b i).bind fun y => (app 8 l [g x y]).bind fun l' => some (.inl (l', IntKind.i64.wrap (i + 1)))) (some (.inr l)))
    (hs2 : ∀ l, step2 l = cnd (decide (0 < (l.length : Int))) ((idx l (IntKind.i64.wrap ((l.length : Int) - 1))).bind fun x => cnd (x == 0) ((cut l 0 (IntKind.i64.wrap ((l.length : Int) - 1))).bind fun l' => some (.inl l')) (some (.inr l))) (some (.inr l))) :
    ∃ r, ((loop step (([] : List Int), 0)).bind fun e => (loop step2 e).bind fun e => some e) = some r ∧ Canon r ∧ ∀ n, bt r n = f (inS a n) (inS b n) := by
  obtain ⟨hw, hb'⟩ := join_bits g f hf hg ha hb
  obtain ⟨r, h1, h2, h3⟩ := trim_ex step2 hs2 _ _ rfl (by simp only [List.length_map, List.length_range]; omega) hw
  refine ⟨r, ?_, h2, fun n => by rw [h3, hb']⟩
  rw [join_words g a b step hs]
  simp only [Option.bind_some]
  rw [h1]
  rfl
end Go.Proofs.Ythcniadbdjoecaa.R
