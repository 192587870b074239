/- SetsTells, in plain Lean, the rest: the reference's sets, the lists, the law. No condition. -/
import Derived.Test.YthcniadbdjoecaaPuSetsOpsS
namespace Go.Proofs.Ythcniadbdjoecaa.S
open Go Go.RowKit Go.Proofs.Ythcniadbdjoecaa.Sx
set_option linter.unusedVariables false
set_option linter.unusedSimpArgs false
theorem getD_out {u : List Int} {k : Nat} (hk : u.length ≤ k) : u.getD k 0 = 0 := by rw [List.getD_eq_getElem?_getD, List.getElem?_eq_none hk]; rfl
/-- Words are added until there is room. -/
theorem room_ex {x q : Nat} (hx : x / 64 = q) (hq : q < 64) (step : List Int → Option (List Int ⊕ List Int)) (hs : ∀ l, step l = cnd (decide ((l.length : Int) ≤ (q : Int))) ((app 8 l [0]).bind fun l' => some (.inl l')) (some (.inr l))) :
    ∀ (d : Nat) (l : List Int), d = q + 1 - l.length → l.length ≤ 64 → W64 l → ∃ r, loop step l = some r ∧ W64 r ∧ r.length = max l.length (q + 1) ∧ ∀ k, r.getD k 0 = l.getD k 0 := by
  intro d
  induction d with
  | zero =>
    intro l hd hl hw
    exact ⟨l, loop_inr (by rw [hs, cnd_dec, if_neg (by omega)]), hw, by omega, fun _ => rfl⟩
  | succ d ih =>
    intro l hd hl hw
    have hst : step l = some (.inl (l ++ [0])) := by rw [hs, cnd_dec, if_pos (by omega), app_ok (by simp only [List.length_cons, List.length_nil]; omega)]; rfl
    obtain ⟨r, h1, h2, h3, h4⟩ := ih (l ++ [0]) (by simp only [List.length_append, List.length_cons, List.length_nil]; omega) (by simp only [List.length_append, List.length_cons, List.length_nil]; omega) (fun y hy => by
      rcases List.mem_append.1 hy with h | h
      · exact hw y h
      · obtain rfl := List.mem_singleton.1 h; omega)
    refine ⟨r, by rw [loop_inl hst]; exact h1, h2, by rw [h3]; simp only [List.length_append, List.length_cons, List.length_nil]; omega, fun k => ?_⟩
    rw [h4, getD_snoc]
    by_cases e : k = l.length
    · rw [if_pos e, getD_out (by omega)]
    · rw [if_neg e]
theorem set_getD {l : List Int} {q k : Nat} {x : Int} (hq : q < l.length) : (l.set q x).getD k 0 = if k = q then x else l.getD k 0 := by
  simp only [List.getD_eq_getElem?_getD, List.getElem?_set]
  by_cases e : q = k
  · rw [if_pos e, if_pos e.symm, if_pos (by omega)]; rfl
  · rw [if_neg e, if_neg (fun h => e h.symm)]
/-- A bit that isn't set yet, added. -/
theorem add_bit {x r : Nat} (hx : x < 18446744073709551616) (hr : r < 64) (h : x / 2 ^ r % 2 = 0) : x + 2 ^ r < 18446744073709551616 ∧ ∀ i, (x + 2 ^ r).testBit i = (x.testBit i || decide (i = r)) := by
  have hor : x ||| 2 ^ r = x + 2 ^ r := by
    have h1 : x &&& 2 ^ r = 0 := by
      apply Nat.eq_of_testBit_eq
      intro i
      rw [Nat.testBit_and, Nat.testBit_two_pow, Nat.zero_testBit]
      by_cases e : r = i
      · subst e; rw [bitAt, h]; rfl
      · rw [decide_eq_false e, Bool.and_false]
    have hp := pow64 hr
    have ex : x % 2 ^ 64 = x := Nat.mod_eq_of_lt (by omega)
    have ep : 2 ^ r % 2 ^ 64 = 2 ^ r := Nat.mod_eq_of_lt (by omega)
    have key : BitVec.ofNat 64 x &&& BitVec.ofNat 64 (2 ^ r) = 0#64 := by
      apply BitVec.eq_of_toNat_eq
      rw [BitVec.toNat_and, BitVec.toNat_ofNat, BitVec.toNat_ofNat, ex, ep, h1]
      rfl
    have s := congrArg BitVec.toNat (BitVec.add_eq_or_of_and_eq_zero _ _ key)
    rw [BitVec.toNat_add, BitVec.toNat_or, BitVec.toNat_ofNat, BitVec.toNat_ofNat, ex, ep] at s
    have hle : x ≤ x ||| 2 ^ r := Nat.left_le_or
    generalize 2 ^ r = t at *
    omega
  constructor
  · rw [← hor]
    have := Nat.or_lt_two_pow (x := x) (y := 2 ^ r) (n := 64) (by omega) (by have := pow64 hr; omega)
    omega
  · intro i
    rw [← hor, Nat.testBit_or, Nat.testBit_two_pow]
    congr 1
    by_cases e : r = i
    · rw [decide_eq_true e, decide_eq_true e.symm]
    · rw [decide_eq_false e, decide_eq_false (fun h => e h.symm)]
theorem setOf_step {l : List Int} (ho : ∀ x ∈ l, x < 9223372036854775808 ∧ -9223372036854775808 ≤ x) (hl : l.length ≤ 140737488355328) {i : Nat} (h : i < l.length) {r : List Int} (hc : Canon r) :
    ∃ q, tourref1_SetOf_l2 l r (i : Int) = some (.inl (q, ((i + 1 : Nat) : Int))) ∧ Canon q ∧ ∀ n : Nat, bt q n = (bt r n || decide ((n : Int) = l[i] ∧ n < 4096)) := by
  unfold tourref1_SetOf_l2
  rw [cnd_dec, if_pos (by omega), idx_get h]
  simp only [Option.bind_some]
  have hb := ho _ (List.getElem_mem h)
  generalize l[i] = x at hb ⊢
  have hj3 : ∀ q, tourref1_SetOf_j3 (i : Int) q = some (.inl (q, ((i + 1 : Nat) : Int))) := fun q => by unfold tourref1_SetOf_j3; rw [i64ok (by omega) (by omega)]; rfl
  rw [cnd_dec, cnd_dec, hj3]
  by_cases h0 : x < 0
  · rw [if_pos h0]; exact ⟨r, rfl, hc, fun n => by rw [decide_eq_false (by omega), Bool.or_false]⟩
  · rw [if_neg h0]
    by_cases h1 : 4096 ≤ x
    · rw [if_pos h1]; exact ⟨r, rfl, hc, fun n => by rw [decide_eq_false (by omega), Bool.or_false]⟩
    · rw [if_neg h1]
      obtain ⟨m, rfl⟩ : ∃ m : Nat, x = m := ⟨x.toNat, by omega⟩
      have hm : m < 4096 := by omega
      have hw : IntKind.i64.wrap (Int.tdiv (m : Int) 64) = ((m / 64 : Nat) : Int) := by rw [tdiv64, i64ok (by omega) (by omega)]
      obtain ⟨p, hp1, hp2, hp3, hp4⟩ := room_ex (x := m) rfl (by omega) (fun s_ => tourref1_SetOf_l5 (m : Int) s_) (fun l => by show tourref1_SetOf_l5 (m : Int) l = _; unfold tourref1_SetOf_l5; rw [hw]) _ r rfl hc.len hc.w
      rw [hp1]
      simp only [Option.bind_some]
      unfold tourref1_SetOf_j4
      rw [hw, tmod64]
      have hq : m / 64 < p.length := by omega
      obtain ⟨y, hy1, hy2⟩ := word_nat hp2 (m / 64)
      have hy3 : p[m / 64] = (y : Int) := by rw [← hy1, List.getD_eq_getElem?_getD, List.getElem?_eq_getElem hq]; rfl
      have hyr : r.getD (m / 64) 0 = (y : Int) := by rw [← hp4]; exact hy1
      have hr64 : m % 64 < 64 := Nat.mod_lt _ (by decide)
      rw [idx_get hq, hy3]
      simp only [Option.bind_some]
      rw [shl1 hr64]
      simp only [Option.bind_some]
      rw [quo_pow hy2 hr64]
      simp only [Option.bind_some, cnd_beq]
      rw [Int.tmod_eq_emod_of_nonneg (Int.natCast_nonneg _)]
      have hbr : bt r m = decide (y / 2 ^ (m % 64) % 2 = 1) := by unfold bt; rw [hyr, Int.toNat_natCast, bitAt]
      have heq : ∀ n : Nat, decide ((n : Int) = (m : Int) ∧ n < 4096) = decide (n = m) := fun n => by
        by_cases e : n = m
        · rw [decide_eq_true e, decide_eq_true (by omega)]
        · rw [decide_eq_false e, decide_eq_false (by omega)]
      by_cases hz : y / 2 ^ (m % 64) % 2 = 0
      · have hz' : ((y / 2 ^ (m % 64) : Nat) : Int) % 2 = 0 := by generalize y / 2 ^ (m % 64) = q at hz ⊢; omega
        rw [if_pos hz']
        obtain ⟨ha1, ha2⟩ := add_bit hy2 hr64 hz
        have hwr : IntKind.u64.wrap ((y : Int) + ((2 ^ (m % 64) : Nat) : Int)) = ((y + 2 ^ (m % 64) : Nat) : Int) := by
          rw [IntKind.wrap_u64]
          generalize 2 ^ (m % 64) = t at ha1 ⊢
          omega
        rw [hwr, upd_ok hq]
        simp only [Option.bind_some]
        rw [hj3]
        refine ⟨_, rfl, ⟨?_, ?_, ?_⟩, fun n => ?_⟩
        · intro z hz
          rcases List.mem_or_eq_of_mem_set hz with hz | rfl
          · exact hp2 z hz
          · exact ⟨Int.natCast_nonneg _, Int.ofNat_lt.2 ha1⟩
        · rw [List.length_set, hp3]; have := hc.len; omega
        · intro k hk
          rw [List.length_set] at hk
          rw [set_getD hq]
          by_cases e : k = m / 64
          · rw [if_pos e]
            have := Nat.two_pow_pos (m % 64)
            generalize 2 ^ (m % 64) = t at this ⊢
            omega
          · rw [if_neg e, hp4]
            exact hc.last k (by omega)
        · unfold bt
          rw [set_getD hq, heq]
          by_cases e : n / 64 = m / 64
          · rw [if_pos e, Int.toNat_natCast, ha2, e, hyr, Int.toNat_natCast]
            congr 1
            by_cases e2 : n = m
            · rw [decide_eq_true e2, e2, decide_eq_true rfl]
            · rw [decide_eq_false e2, decide_eq_false (by omega)]
          · rw [if_neg e, hp4, decide_eq_false (fun h => e (by rw [h])), Bool.or_false]
      · have hz' : ¬ ((y / 2 ^ (m % 64) : Nat) : Int) % 2 = 0 := by generalize y / 2 ^ (m % 64) = q at hz ⊢; omega
        rw [if_neg hz', hj3]
        have h1' : bt r m = true := by rw [hbr, decide_eq_true (by generalize y / 2 ^ (m % 64) = q at hz ⊢; omega)]
        have hlen : m / 64 < r.length := by
          rcases Nat.lt_or_ge (m / 64) r.length with h | h
          · exact h
          · rw [bt_out (by omega)] at h1'; cases h1'
        have hpr : ∀ k, r.getD k 0 = p.getD k 0 := fun k => (hp4 k).symm
        refine ⟨p, rfl, ⟨hp2, by rw [hp3]; have := hc.len; omega, fun k hk => by rw [hp4]; exact hc.last k (by omega)⟩, fun n => ?_⟩
        rw [heq]
        have : bt p n = bt r n := by unfold bt; rw [hp4]
        rw [this]
        by_cases e : n = m
        · subst e; rw [h1']; rfl
        · rw [decide_eq_false e, Bool.or_false]
theorem setOf_ex {l : List Int} (ho : ∀ x ∈ l, x < 9223372036854775808 ∧ -9223372036854775808 ≤ x) (hl : l.length ≤ 140737488355328) : ∃ r, tourref1_SetOf l = some r ∧ Canon r ∧ ∀ n, bt r n = setL l n := by
  have key : ∀ (d i : Nat) (r : List Int), i + d = l.length → Canon r → (∀ n, bt r n = setL (l.take i) n) → ∃ r', loop (σ := (List Int) × Int) (ρ := (List Int)) (fun s_ => tourref1_SetOf_l2 l s_.1 s_.2) (r, (i : Int)) = some r' ∧ Canon r' ∧ ∀ n, bt r' n = setL l n := by
    intro d
    induction d with
    | zero =>
      intro i r hi hc hb
      refine ⟨r, loop_inr ?_, hc, fun n => by rw [hb, List.take_of_length_le (by omega)]⟩
      show tourref1_SetOf_l2 l r (i : Int) = _
      unfold tourref1_SetOf_l2
      rw [cnd_dec, if_neg (by omega)]
    | succ d ih =>
      intro i r hi hc hb
      have hl' : i < l.length := by omega
      obtain ⟨q, h1, h2, h3⟩ := setOf_step ho hl hl' hc
      obtain ⟨r', h4, h5, h6⟩ := ih (i + 1) q (by omega) h2 (fun n => by rw [h3, setL_take hl', hb])
      exact ⟨r', by rw [loop_inl h1]; exact h4, h5, h6⟩
  obtain ⟨r, h1, h2, h3⟩ := key l.length 0 [] (by omega) canon_nil (fun n => by rw [bt_nil, List.take_zero]; simp [setL])
  exact ⟨r, by unfold tourref1_SetOf; rw [show (0 : Int) = ((0 : Nat) : Int) from rfl, h1]; rfl, h2, h3⟩
/-! ### Lists -/
theorem equal_gen {a b : List Int} (ha : a.length ≤ 140737488355328) (step : Int → Option (Int ⊕ (Bool ⊕ Unit))) (hs : ∀ i, step i = cnd (decide (i < (a.length : Int))) ((idx a i).bind fun x => (idx b i).bind fun y => cnd (!(x == y)) (some (.inr (.inl false))) (some (.inl (IntKind.i64.wrap (i + 1))))) (some (.inr (.inr ())))) :
    cnd (!((a.length : Int) == (b.length : Int))) (some false) ((loop step 0).bind (Sum.elim (fun e_ => some e_) (fun _ => some true))) = some (decide (a = b)) := by
  rw [cnd_not, cnd_beq]
  by_cases hl : a.length = b.length
  · rw [if_pos (by omega)]
    rcases loop_same (σ := Int) (υ := Unit) (step := step) (fun i => (i : Int)) a b hl () (fun i h e => by
        rw [hs, cnd_dec, if_pos (by omega), idx_get h]
        simp only [Option.bind_some]
        rw [idx_get (hl ▸ h)]
        simp only [Option.bind_some, cnd_not, cnd_beq]
        rw [if_pos e, i64ok (by omega) (by omega)]; rfl) (fun i h e => by
        rw [hs, cnd_dec, if_pos (by omega), idx_get h]
        simp only [Option.bind_some]
        rw [idx_get (hl ▸ h)]
        simp only [Option.bind_some, cnd_not, cnd_beq]
        rw [if_neg e]) (by rw [hs, cnd_dec, if_neg (by omega)]) with ⟨h1, h2⟩ | ⟨h1, h2⟩
    · rw [show (0 : Int) = ((0 : Nat) : Int) from rfl, h2, decide_eq_true h1]; rfl
    · rw [show (0 : Int) = ((0 : Nat) : Int) from rfl, h2, decide_eq_false h1]; rfl
  · rw [if_neg (by omega), decide_eq_false (fun e => hl (by rw [e]))]
theorem equal_words {a b : List Int} (ha : a.length ≤ 140737488355328) : slices_Equal_sets_Set_uint64 a b = some (decide (a = b)) := equal_gen ha (fun s_ => slices_Equal_sets_Set_uint64_l2 a b s_) (fun _ => rfl)
theorem equal_nums {a b : List Int} (ha : a.length ≤ 140737488355328) : slices_Equal_int_int a b = some (decide (a = b)) := equal_gen ha (fun s_ => slices_Equal_int_int_l2 a b s_) (fun _ => rfl)
theorem contains_ok {l : List Int} (v : Int) (hl : l.length ≤ 140737488355328) : slices_Contains_int_int l v = some (decide (v ∈ l)) := by
  unfold slices_Contains_int_int slices_Index_int_int
  rcases loop_first (σ := Int) (ρ := Int) (υ := Unit) (step := fun s_ => slices_Index_int_int_l2 l v s_) (fun i => (i : Int)) l.length (fun i => l[i]? = some v) (fun i => (i : Int)) () (fun i hi hp => by
      show slices_Index_int_int_l2 l v (i : Int) = _
      unfold slices_Index_int_int_l2
      rw [List.getElem?_eq_getElem hi] at hp
      rw [cnd_dec, if_pos (by omega), idx_get hi]
      simp only [Option.bind_some, cnd_beq]
      rw [if_pos (Option.some.inj hp).symm]) (fun i hi hp => by
      show slices_Index_int_int_l2 l v (i : Int) = _
      unfold slices_Index_int_int_l2
      rw [List.getElem?_eq_getElem hi] at hp
      rw [cnd_dec, if_pos (by omega), idx_get hi]
      simp only [Option.bind_some, cnd_beq]
      rw [if_neg (fun e => hp (congrArg some e.symm)), i64ok (by omega) (by omega)]; rfl) (by
      show slices_Index_int_int_l2 l v (l.length : Int) = _
      unfold slices_Index_int_int_l2
      rw [cnd_dec, if_neg (by omega)]) with ⟨k, h1, h2, _, h4⟩ | ⟨h1, h2⟩
  · rw [show (0 : Int) = ((0 : Nat) : Int) from rfl, h4, decide_eq_true (List.mem_iff_getElem?.2 ⟨k, h2⟩)]
    simp [show (0 : Int) ≤ (k : Int) by omega]
  · rw [show (0 : Int) = ((0 : Nat) : Int) from rfl, h2, decide_eq_false (fun hm => by obtain ⟨k, hk⟩ := List.mem_iff_getElem?.1 hm; exact h1 k (List.getElem?_eq_some_iff.1 hk).1 hk)]
    rfl
theorem foldl_pick {α : Type} (p : α → Bool) (l : List α) : ∀ t : List α, l.foldl (fun t x => if p x = true then t ++ [x] else t) t = t ++ l.filter p := by
  induction l with
  | nil => intro t; simp
  | cons x l ih =>
    intro t
    rw [List.foldl_cons, ih]
    by_cases h : p x = true
    · rw [if_pos h, List.filter_cons_of_pos h]; simp
    · rw [if_neg h, List.filter_cons_of_neg h]
theorem pick_gen {l : List Int} (p : Int → Bool) (hl : l.length ≤ 4096) (step : List Int × Int → Option ((List Int × Int) ⊕ List Int))
    (hs : ∀ t i, step (t, i) = cnd (decide (i < (l.length : Int))) ((idx l i).bind fun x => (some (p x)).bind fun b => cnd b ((app 8 t [x]).bind fun t' => some (.inl (t', IntKind.i64.wrap (i + 1)))) (some (.inl (t, IntKind.i64.wrap (i + 1))))) (some (.inr t))) :
    loop step (([] : List Int), 0) = some (l.filter p) := by
  have := loop_fold (step := step) l (fun i t => (t, (i : Int))) (fun t x => if p x = true then t ++ [x] else t) id (fun i t => t.length ≤ i) (fun i t h hP => by
    rw [hs, cnd_dec, if_pos (by omega), idx_get h]
    simp only [Option.bind_some]
    rw [cnd_ite]
    by_cases hp : p l[i] = true
    · rw [if_pos hp, if_pos hp, app_ok (by simp only [List.length_cons, List.length_nil]; omega), i64ok (by omega) (by omega)]
      exact ⟨rfl, by simp only [List.length_append, List.length_cons, List.length_nil]; omega⟩
    · rw [if_neg hp, if_neg hp, i64ok (by omega) (by omega)]
      exact ⟨rfl, by omega⟩) (fun t hP => by rw [hs, cnd_dec, if_neg (by omega)]; rfl) [] (Nat.le_refl _)
  rw [foldl_pick, List.nil_append] at this
  exact this
theorem concat_two {x y : List Int} (hx : x.length ≤ 4096) (hy : y.length ≤ 4096) : slices_Concat_int_int [x, y] = some (x ++ y) := by
  unfold slices_Concat_int_int
  have s0 : slices_Concat_int_int_l4 [x, y] 0 0 = some (.inl ((x.length : Int), 1)) := by
    unfold slices_Concat_int_int_l4
    rw [cnd_dec, if_pos (by simp), show (0 : Int) = ((0 : Nat) : Int) from rfl, idx_get (by simp)]
    simp only [Option.bind_some, List.getElem_cons_zero]
    rw [i64ok (x := ((0 : Nat) : Int) + (x.length : Int)) (by omega) (by omega), cnd_dec, if_neg (by omega), i64ok (by decide) (by decide)]
    simp
  have s1 : slices_Concat_int_int_l4 [x, y] (x.length : Int) 1 = some (.inl ((x.length : Int) + (y.length : Int), 2)) := by
    unfold slices_Concat_int_int_l4
    rw [cnd_dec, if_pos (by simp), show (1 : Int) = ((1 : Nat) : Int) from rfl, idx_get (by simp)]
    simp only [Option.bind_some, List.getElem_cons_succ, List.getElem_cons_zero]
    rw [i64ok (x := (x.length : Int) + (y.length : Int)) (by omega) (by omega), cnd_dec, if_neg (by omega), i64ok (by decide) (by decide)]
    simp
  have s2 : slices_Concat_int_int_l4 [x, y] ((x.length : Int) + (y.length : Int)) 2 = some (.inr ((x.length : Int) + (y.length : Int))) := by
    unfold slices_Concat_int_int_l4
    rw [cnd_dec, if_neg (by simp)]
  rw [loop_inl s0, loop_inl s1, loop_inr s2]
  simp only [Option.bind_some]
  unfold slices_Concat_int_int_j1 slices_Grow_int_int
  have hg : grow 8 ((x.length : Int) + (y.length : Int)) = some ([] : List Int) := if_pos ⟨by omega, by omega⟩
  rw [hg]
  simp only [Option.bind_some]
  have t0 : slices_Concat_int_int_l3 [x, y] [] 0 = some (.inl (x, 1)) := by
    unfold slices_Concat_int_int_l3
    rw [cnd_dec, if_pos (by simp), show (0 : Int) = ((0 : Nat) : Int) from rfl, idx_get (by simp)]
    simp only [Option.bind_some, List.getElem_cons_zero]
    rw [app_ok (by simp; omega), i64ok (by decide) (by decide)]
    simp
  have t1 : slices_Concat_int_int_l3 [x, y] x 1 = some (.inl (x ++ y, 2)) := by
    unfold slices_Concat_int_int_l3
    rw [cnd_dec, if_pos (by simp), show (1 : Int) = ((1 : Nat) : Int) from rfl, idx_get (by simp)]
    simp only [Option.bind_some, List.getElem_cons_succ, List.getElem_cons_zero]
    rw [app_ok (by omega), i64ok (by decide) (by decide)]
    simp
  have t2 : slices_Concat_int_int_l3 [x, y] (x ++ y) 2 = some (.inr (x ++ y)) := by
    unfold slices_Concat_int_int_l3
    rw [cnd_dec, if_neg (by simp)]
  rw [loop_inl t0, loop_inl t1, loop_inr t2]
  rfl
/-! ### The walks -/
theorem walk_len {s : List Int} (hs : W64 s) : sets_Set_Len s = some ((els s).length : Int) := by
  obtain ⟨r, h1, h2, h3⟩ := all_ex hs
  have hl := h2.len
  unfold sets_Set_Len
  rw [h1]
  simp only [Option.bind_some]
  have h := walk_all (r := r) hl (F := fun m => ((below r m).length : Int)) (inner := fun k x t => loop (σ := Int × Int × Int) (ρ := Int) (fun s_ => sets_Set_Len_l4 s_.1 s_.2.1 s_.2.2) (x, 0, t)) (step := fun s_ => sets_Set_Len_l2 r s_.1 s_.2) (fun k t => rfl) (fun k hk =>
    walk_word h2.w (F := fun m => ((below r m).length : Int)) (k := k) (act := fun t _ => some (IntKind.i64.wrap (t + 1))) (fun w i t => rfl) (fun i hi hb => by
      have := below_len r (64 * k + i)
      show some (IntKind.i64.wrap (((below r (64 * k + i)).length : Int) + 1)) = _
      rw [i64ok (by omega) (by omega), below_succ, if_pos hb, List.length_append]; rfl) (fun i hi hb => by rw [below_succ, hb]; rfl))
  rw [show ((0 : Int), (0 : Int)) = (0, (fun m => ((below r m).length : Int)) 0) from rfl, h]
  simp only [Option.bind_some]
  rw [below_els hl h3]
  rfl
theorem walk_list {s : List Int} (hs : W64 s) {r : List Int} (h2 : Canon r) (h3 : ∀ n, bt r n = inS s n) : loop (σ := Int × (List Int)) (ρ := (List Int)) (fun s_ => tourlaw1_SetsTells_l3 r s_.1 s_.2) (0, ([] : List Int)) = some (els s) := by
  have hl := h2.len
  have h := walk_all (r := r) hl (F := below r) (inner := fun k x t => loop (σ := Int × Int × (List Int)) (ρ := (List Int)) (fun s_ => tourlaw1_SetsTells_l5 k s_.1 s_.2.1 s_.2.2) (x, 0, t)) (step := fun s_ => tourlaw1_SetsTells_l3 r s_.1 s_.2) (fun k t => rfl) (fun k hk =>
    walk_word h2.w (F := below r) (k := k) (act := fun t i => app 8 t [IntKind.i64.wrap (IntKind.i64.wrap (64 * (k : Int)) + i)]) (fun w i t => rfl) (fun i hi hb => by
      have := below_len r (64 * k + i)
      show app 8 (below r (64 * k + i)) [IntKind.i64.wrap (IntKind.i64.wrap (64 * (k : Int)) + (i : Int))] = _
      rw [i64ok (x := 64 * (k : Int)) (by omega) (by omega), i64ok (by omega) (by omega), app_ok (by simp only [List.length_cons, List.length_nil]; omega), below_succ, if_pos hb]
      simp) (fun i hi hb => by rw [below_succ, hb]; rfl))
  rw [show ((0 : Int), ([] : List Int)) = (0, below r 0) from rfl, h, below_els hl h3]
/-! ### The law -/
theorem same_ok {got want : List Int} (hg : Canon got) (ho : ∀ x ∈ want, x < 9223372036854775808 ∧ -9223372036854775808 ≤ x) (hl : want.length ≤ 140737488355328) (h : ∀ n, bt got n = setL want n) : tourlaw1_SetsTells_4 got want = some true := by
  obtain ⟨r, h1, h2, h3⟩ := setOf_ex ho hl
  unfold tourlaw1_SetsTells_4
  rw [h1]
  simp only [Option.bind_some]
  rw [equal_words (by have := hg.len; omega), decide_eq_true (canon_ext hg h2 fun n => by rw [h, h3])]
  rfl
theorem els_in (s : List Int) (n : Nat) : ((n : Int) ∈ els s ∧ n < 4096) ↔ inS s n = true := by
  rw [mem_els, Int.toNat_natCast]
  constructor
  · exact fun h => h.1.2
  · intro h
    refine ⟨⟨by omega, h⟩, ?_⟩
    unfold inS at h
    rw [Bool.and_eq_true, decide_eq_true_eq] at h
    exact h.1
theorem els_range {s : List Int} {x : Int} (h : x ∈ els s) : 0 ≤ x ∧ x < 4096 := by
  obtain ⟨h0, h1⟩ := mem_els.1 h
  unfold inS at h1
  rw [Bool.and_eq_true, decide_eq_true_eq] at h1
  omega
theorem SetsTells_true (a : List Int) (b : List Int) (i : Int) (l : List Int) (h0 : (okl 8 (okk .u64)) a) (h1 : (okl 8 (okk .u64)) b) (h2 : (okk .i64) i) (h3 : (okl 8 (okk .i64)) l) : tourlaw1_SetsTells a b i l = some true := by
  have ha : W64 a := fun x hx => h0.2 x hx
  have hb : W64 b := fun x hx => h1.2 x hx
  have hla : a.length ≤ 140737488355328 := by have := h0.1; omega
  have hlb : b.length ≤ 140737488355328 := by have := h1.1; omega
  have hll : l.length ≤ 140737488355328 := by have := h3.1; omega
  have hi : -9223372036854775808 ≤ i ∧ i < 9223372036854775808 := h2
  have hol : ∀ x ∈ l, x < 9223372036854775808 ∧ -9223372036854775808 ≤ x := fun x hx => ⟨(h3.2 x hx).2, (h3.2 x hx).1⟩
  have lea := els_len a
  have leb := els_len b
  have hoa : ∀ x ∈ els a, x < 9223372036854775808 ∧ -9223372036854775808 ≤ x := fun x hx => by have := els_range hx; omega
  unfold tourlaw1_SetsTells
  obtain ⟨q, hq1, hq2, hq3⟩ := of_ex (l := [64, 1]) (by decide) (fun x hx => by simp at hx; omega)
  rw [hq1]
  simp only [Option.bind_some]
  have hfirst : q = [2, 1] := by
    refine canon_ext hq2 ⟨fun x hx => by simp at hx; omega, by decide, fun k hk => ?_⟩ fun n => ?_
    · obtain rfl : k = 1 := by simpa using hk.symm
      decide
    · rw [hq3]
      unfold setL bt
      rcases Nat.lt_or_ge n 64 with h | h
      · rw [show n / 64 = 0 by omega, show n % 64 = n by omega]
        show _ = Nat.testBit 2 n
        rw [show (2 : Nat) = 2 ^ 1 from rfl, Nat.testBit_two_pow]
        by_cases e : n = 1
        · subst e; decide
        · have hn : ¬ ((n : Int) ∈ [64, 1] ∧ n < 4096) := fun hh => by
            have := hh.1
            simp at this
            omega
          rw [decide_eq_false hn, decide_eq_false (fun h => e h.symm)]
      · rcases Nat.lt_or_ge n 128 with h' | h'
        · rw [show n / 64 = 1 by omega]
          show _ = Nat.testBit 1 (n % 64)
          rw [show (1 : Nat) = 2 ^ 0 from rfl, Nat.testBit_two_pow]
          by_cases e : n = 64
          · subst e; decide
          · have hn : ¬ ((n : Int) ∈ [64, 1] ∧ n < 4096) := fun hh => by
              have := hh.1
              simp at this
              omega
            rw [decide_eq_false hn, decide_eq_false (by omega)]
        · have hn : ¬ ((n : Int) ∈ [64, 1] ∧ n < 4096) := fun hh => by
            have := hh.1
            simp at this
            omega
          rw [getD_out (by simp; omega), decide_eq_false hn]; simp
  rw [equal_words (by have := hq2.len; omega), decide_eq_true hfirst]
  simp only [Option.bind_some, Bool.not_true, cnd_false]
  rw [members_ok ha hla]
  simp only [Option.bind_some]
  rw [members_ok hb hlb]
  simp only [Option.bind_some]
  obtain ⟨r, hr1, hr2, hr3⟩ := all_ex ha
  rw [hr1]
  simp only [Option.bind_some]
  rw [walk_list ha hr2 hr3]
  simp only [Option.bind_some]
  unfold tourlaw1_SetsTells_j1
  rw [equal_nums (by omega), decide_eq_true rfl]
  simp only [Option.bind_some, Bool.not_true, cnd_false]
  rw [walk_len ha]
  simp only [Option.bind_some, beq_self_eq_true, Bool.not_true, cnd_false]
  rw [has_ok ha hi.2]
  simp only [Option.bind_some]
  rw [contains_ok i (by omega)]
  simp only [Option.bind_some]
  have hhas : (decide (0 ≤ i) && inS a i.toNat) = decide (i ∈ els a) := by
    rw [Bool.eq_iff_iff, Bool.and_eq_true, decide_eq_true_eq, decide_eq_true_eq, mem_els]
  rw [hhas]
  simp only [beq_self_eq_true, Bool.not_true, cnd_false]
  obtain ⟨g1, e1, c1, b1⟩ := of_ex hll (fun x hx => (hol x hx).1)
  rw [e1]
  simp only [Option.bind_some]
  rw [same_ok c1 hol hll b1]
  simp only [Option.bind_some, cnd_true]
  obtain ⟨g2, e2, c2, b2⟩ := with_ex ha hi.2
  rw [e2]
  simp only [Option.bind_some]
  unfold slices_Clone_int_int
  rw [app_ok (by simp; omega)]
  simp only [Option.bind_some, List.nil_append]
  rw [app_ok (by simp only [List.length_cons, List.length_nil]; omega)]
  simp only [Option.bind_some]
  rw [same_ok c2 (fun x hx => by
    rcases List.mem_append.1 hx with h | h
    · exact hoa x h
    · obtain rfl := List.mem_singleton.1 h; omega) (by simp only [List.length_append, List.length_cons, List.length_nil]; omega) (fun n => by
    rw [b2]
    unfold setL
    rw [Bool.eq_iff_iff, Bool.or_eq_true, decide_eq_true_eq, decide_eq_true_eq, List.mem_append, List.mem_singleton, ← els_in]
    constructor
    · rintro (⟨h1, h2⟩ | ⟨h1, h2⟩)
      · exact ⟨.inl h1, h2⟩
      · exact ⟨.inr h1, h2⟩
    · rintro ⟨h1 | h1, h2⟩
      · exact .inl ⟨h1, h2⟩
      · exact .inr ⟨h1, h2⟩)]
  simp only [Option.bind_some, cnd_true]
  obtain ⟨g3, e3, c3, b3⟩ := without_ex ha hi.2
  rw [e3]
  simp only [Option.bind_some]
  have p3 : tourlaw1_SetsTells_3 (els a) i = some ((els a).filter fun x => !(x == i)) := by
    unfold tourlaw1_SetsTells_3
    rw [pick_gen (l := els a) (fun x => !(x == i)) (by omega) (fun s_ => tourlaw1_SetsTells_3_l2 (els a) i s_.1 s_.2) (fun t j => rfl)]
    rfl
  rw [p3]
  simp only [Option.bind_some]
  have hfl : ∀ p : Int → Bool, ((els a).filter p).length ≤ 4096 := fun p => Nat.le_trans (List.length_filter_le _ _) lea
  rw [same_ok c3 (fun x hx => hoa x (List.mem_filter.1 hx).1) (by have := hfl (fun x => !(x == i)); omega) (fun n => by
    rw [b3]
    unfold setL
    rw [Bool.eq_iff_iff, Bool.and_eq_true, decide_eq_true_eq, List.mem_filter, ← els_in]
    simp only [Bool.not_eq_true', decide_eq_false_iff_not, beq_eq_false_iff_ne, ne_eq]
    constructor
    · rintro ⟨⟨h1, h2⟩, h3⟩
      exact ⟨⟨h1, fun e => h3 ⟨e, h2⟩⟩, h2⟩
    · rintro ⟨⟨h1, h3⟩, h2⟩
      exact ⟨⟨h1, h2⟩, fun e => h3 e.1⟩)]
  simp only [Option.bind_some, cnd_true]
  obtain ⟨g4, e4, c4, b4⟩ := either_ex ha hb
  rw [e4]
  simp only [Option.bind_some]
  rw [concat_two lea leb]
  simp only [Option.bind_some]
  rw [same_ok c4 (fun x hx => by
    rcases List.mem_append.1 hx with h | h
    · exact hoa x h
    · have := els_range h; omega) (by rw [List.length_append]; omega) (fun n => by
    rw [b4]
    unfold setL
    rw [Bool.eq_iff_iff, Bool.or_eq_true, decide_eq_true_eq, List.mem_append, ← els_in, ← els_in]
    constructor
    · rintro (⟨h1, h2⟩ | ⟨h1, h2⟩)
      · exact ⟨.inl h1, h2⟩
      · exact ⟨.inr h1, h2⟩
    · rintro ⟨h1 | h1, h2⟩
      · exact .inl ⟨h1, h2⟩
      · exact .inr ⟨h1, h2⟩)]
  simp only [Option.bind_some, cnd_true]
  obtain ⟨g5, e5, c5, b5⟩ := both_ex ha hb
  rw [e5]
  simp only [Option.bind_some]
  unfold tourlaw1_SetsTells_1
  simp only [Option.bind_some]
  have p5 : tourlaw1_SetsTells_3_v2 (els a) (els b) = some ((els a).filter fun x => decide (x ∈ els b)) := by
    unfold tourlaw1_SetsTells_3_v2
    rw [pick_gen (l := els a) (fun x => decide (x ∈ els b)) (by omega) (fun s_ => tourlaw1_SetsTells_3_v2_l2 (els a) (els b) s_.1 s_.2) (fun t j => by
      show tourlaw1_SetsTells_3_v2_l2 (els a) (els b) t j = _
      unfold tourlaw1_SetsTells_3_v2_l2 tourlaw1_SetsTells_1_1
      simp only [contains_ok (l := els b) _ (by omega), Option.bind_some]
      rfl)]
    rfl
  rw [p5]
  simp only [Option.bind_some]
  rw [same_ok c5 (fun x hx => hoa x (List.mem_filter.1 hx).1) (by have := hfl (fun x => decide (x ∈ els b)); omega) (fun n => by
    rw [b5]
    unfold setL
    rw [Bool.eq_iff_iff, Bool.and_eq_true, decide_eq_true_eq, List.mem_filter, ← els_in, ← els_in, decide_eq_true_eq]
    constructor
    · rintro ⟨⟨h1, h2⟩, h3, _⟩
      exact ⟨⟨h1, h3⟩, h2⟩
    · rintro ⟨⟨h1, h3⟩, h2⟩
      exact ⟨⟨h1, h2⟩, h3, h2⟩)]
  simp only [Option.bind_some, cnd_true]
  obtain ⟨g6, e6, c6, b6⟩ := minus_ex ha hb
  rw [e6]
  simp only [Option.bind_some]
  unfold tourlaw1_SetsTells_2
  simp only [Option.bind_some]
  have p6 : tourlaw1_SetsTells_3_v3 (els a) (els b) = some ((els a).filter fun x => !decide (x ∈ els b)) := by
    unfold tourlaw1_SetsTells_3_v3
    rw [pick_gen (l := els a) (fun x => !decide (x ∈ els b)) (by omega) (fun s_ => tourlaw1_SetsTells_3_v3_l2 (els a) (els b) s_.1 s_.2) (fun t j => by
      show tourlaw1_SetsTells_3_v3_l2 (els a) (els b) t j = _
      unfold tourlaw1_SetsTells_3_v3_l2 tourlaw1_SetsTells_2_1
      simp only [contains_ok (l := els b) _ (by omega), Option.bind_some]
      rfl)]
    rfl
  rw [p6]
  simp only [Option.bind_some]
  rw [same_ok c6 (fun x hx => hoa x (List.mem_filter.1 hx).1) (by have := hfl (fun x => !decide (x ∈ els b)); omega) (fun n => by
    rw [b6]
    unfold setL
    rw [Bool.eq_iff_iff, Bool.and_eq_true, decide_eq_true_eq, List.mem_filter, ← els_in, Bool.not_eq_true', Bool.not_eq_true', decide_eq_false_iff_not]
    constructor
    · rintro ⟨⟨h1, h2⟩, h3⟩
      exact ⟨⟨h1, fun h => by rw [(els_in b n).1 ⟨h, h2⟩] at h3; cases h3⟩, h2⟩
    · rintro ⟨⟨h1, h3⟩, h2⟩
      refine ⟨⟨h1, h2⟩, ?_⟩
      cases hx : inS b n with
      | false => rfl
      | true => exact absurd ((els_in b n).2 hx).1 h3)]
  rfl
end Go.Proofs.Ythcniadbdjoecaa.S
