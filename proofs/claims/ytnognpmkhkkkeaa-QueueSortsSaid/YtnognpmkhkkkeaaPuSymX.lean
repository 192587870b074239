/- The plain law of stable sorting: symMerge, stable. No condition. -/
import Derived.Test.YtnognpmkhkkkeaaPuMergeX
namespace Go.Proofs.Ytnognpmkhkkkeaa.X
open Go Go.RowKit Go.Proofs.Ytnognpmkhkkkeaa.Sx
set_option linter.unusedVariables false
set_option linter.unusedSimpArgs false
noncomputable def symK (k : Nat) (d : List Int) (a m b : Nat) (l : List Int) : Option (List Int) := fixK slices_symMergeCmpFunc_int_s k (d, (a : Int), (m : Int), (b : Int), l)
abbrev SymIH (n : Nat) (l : List Int) : Prop := ∀ (a m b : Nat) (d : List Int), b - a ≤ n → In l d → Runs l d a m b → ∃ d', (∀ k, n ≤ k → symK k d a m b l = some d') ∧ Mv d d' a b ∧ Inc l d' a b
theorem sym_maybe {n : Nat} {l d : List Int} (ih : SymIH n l) {a m b : Nat} (hn : b - a ≤ n) (hI : In l d) (ham : a ≤ m) (hmb : m ≤ b) (hb : b ≤ d.length) (hlo : Inc l d a m) (hhi : Inc l d m b) (hix : ∀ i j, a ≤ i → i < m → m ≤ j → j < b → gv d i < gv d j) :
    ∃ d', (a < m → m < b → ∀ k, n ≤ k → symK k d a m b l = some d') ∧ (¬ (a < m ∧ m < b) → d' = d) ∧ Mv d d' a b ∧ Inc l d' a b := by
  by_cases h : a < m ∧ m < b
  · obtain ⟨d', e1, e2, e3⟩ := ih a m b d hn hI ⟨h.1, h.2, hb, hlo, hhi, hix⟩
    exact ⟨d', fun _ _ => e1, fun h' => absurd h h', e2, e3⟩
  · refine ⟨d, fun h1 h2 => absurd ⟨h1, h2⟩ h, fun _ => rfl, Mv.refl _ _ _, fun i j i1 i2 i3 => ?_⟩
    by_cases h1 : a = m
    · exact hhi i j (by omega) i2 i3
    · exact hlo i j i1 i2 (by omega)
theorem sym_tail {n : Nat} {l d : List Int} (ih : SymIH n l) {a m b mid A B : Nat} (hn : b - a ≤ n + 1) (hI : In l d) (h : Runs l d a m b) (hmid : mid = (a + b) / 2) (h4 : 4 ≤ b - a) (hAB : A ≤ B) (hAa : a ≤ A) (hBm : B ≤ m) (hBmid : B ≤ mid) (hAb : mid + m - A ≤ b) (hA : mid + m - A = b ∨ A = a) (hB : mid + m - B = m ∨ B = m) :
    ∃ d', (∀ k, n ≤ k → slices_symMergeCmpFunc_int_j11 (mid : Int) (m : Int) d l (a : Int) (fun data a m b c0 => fixK slices_symMergeCmpFunc_int_s k (data, a, m, b, c0)) (b : Int) (A : Int) (B : Int) = some d') ∧ Mv d d' a b ∧ Inc l d' a b := by
  have hle := hI.1
  have h1 := h.am
  have h2 := h.mb
  have h3 := h.len
  obtain ⟨st, e1, e2, e3, e4, e5⟩ := bsearch (step := fun s_ => slices_symMergeCmpFunc_int_l15 (mid : Int) (m : Int) d l s_.1 s_.2) (fun k => ¬ ky l (gv d (mid + m - 1 - k)) < ky l (gv d k)) A B
    (fun i j hi hij hj hp => by
      have g1 := h.lo.le (i := i) (j := j) (by omega) (by omega) (by omega)
      have g2 := h.hi.le (i := mid + m - 1 - j) (j := mid + m - 1 - i) (by omega) (by omega) (by omega)
      omega)
    (fun i => by unfold slices_symMergeCmpFunc_int_l15; rw [cnd_dec, if_neg (by omega)])
    (fun i j hA hij hB hp => by
      obtain ⟨r, hr, hr'⟩ := compare_eq (hI.2 (mid + m - 1 - (i + j) / 2) (by omega)) (hI.2 ((i + j) / 2) (by omega))
      unfold slices_symMergeCmpFunc_int_l15
      rw [cnd_dec, if_pos (by omega), half (by omega) (by omega)]
      simp only [Option.bind_some]
      rw [wpl (by omega) (by omega), wm1 (by omega) (by omega), wmn (by omega) (by omega)]
      rw [idx_gv (by omega), idx_gv (by omega)]
      simp only [Option.bind_some]
      rw [hr]
      simp only [Option.bind_some]
      rw [hr', decide_eq_false hp, wp1 (by omega)]; rfl)
    (fun i j hA hij hB hp => by
      obtain ⟨r, hr, hr'⟩ := compare_eq (hI.2 (mid + m - 1 - (i + j) / 2) (by omega)) (hI.2 ((i + j) / 2) (by omega))
      unfold slices_symMergeCmpFunc_int_l15
      rw [cnd_dec, if_pos (by omega), half (by omega) (by omega)]
      simp only [Option.bind_some]
      rw [wpl (by omega) (by omega), wm1 (by omega) (by omega), wmn (by omega) (by omega)]
      rw [idx_gv (by omega), idx_gv (by omega)]
      simp only [Option.bind_some]
      rw [hr]
      simp only [Option.bind_some]
      rw [hr', decide_eq_true (Classical.not_not.1 hp)]; rfl) hAB
  -- the four parts
  have c1 : ∀ i j, a ≤ i → i < st → mid + m - st ≤ j → j < b → lt2 l (gv d i) (gv d j) := by
    intro i j i1 i2 j1 j2
    have hx := h.ix i j i1 (by omega) (by omega) j2
    have hst : A < st := by omega
    have g0 := e4 (st - 1) (by omega) (by omega)
    have g1 := h.lo.le (i := i) (j := st - 1) i1 (by omega) (by omega)
    have g2 := h.hi.le (i := mid + m - 1 - (st - 1)) (j := j) (by omega) (by omega) (by omega)
    unfold lt2; omega
  have c2 : ∀ i j, m ≤ i → i < mid + m - st → st ≤ j → j < m → lt2 l (gv d i) (gv d j) := by
    intro i j i1 i2 j1 j2
    have hst : st < B := by omega
    have g0 := Classical.not_not.1 (e5 st (by omega) (by omega))
    have g1 := h.lo.le (i := st) (j := j) (by omega) (by omega) (by omega)
    have g2 := h.hi.le (i := i) (j := mid + m - 1 - st) (by omega) (by omega) (by omega)
    unfold lt2; omega
  -- turned
  obtain ⟨d1, t1, t2, t3, t4, t5⟩ : ∃ d1, (st < m → m < mid + m - st → slices_rotateCmpFunc_int d (st : Int) (m : Int) ((mid + m - st : Nat) : Int) l = some d1) ∧ (¬ (st < m ∧ m < mid + m - st) → d1 = d) ∧ d1.length = d.length ∧ d1.Perm d ∧ ∀ k, gv d1 k = if st ≤ k ∧ k < mid then gv d (k + (m - st)) else if mid ≤ k ∧ k < mid + m - st then gv d (k - (mid - st)) else gv d k := by
    by_cases hr : st < m ∧ m < mid + m - st
    · obtain ⟨d1, r1, r2, r3, r4⟩ := rot_ok (l := l) (d := d) hr.1 hr.2 hle (by omega)
      refine ⟨d1, fun _ _ => r1, fun h' => absurd hr h', r2, r3, fun k => ?_⟩
      rw [r4]
      repeat' split
      all_goals first | rfl | (exfalso; omega) | (refine congrArg (gv d) ?_; omega)
    · refine ⟨d, fun g1 g2 => absurd ⟨g1, g2⟩ hr, fun _ => rfl, rfl, List.Perm.refl _, fun k => ?_⟩
      repeat' split
      all_goals first | rfl | (exfalso; omega) | (refine congrArg (gv d) ?_; omega)
  have t6 : Mv d d1 a b := by
    refine ⟨t3, t4, fun i hi => ?_, fun i i1 i2 => ?_⟩
    · rw [t5, if_neg (by omega), if_neg (by omega)]
    · rw [t5]
      split
      · exact ⟨_, by omega, by omega, rfl⟩
      · split
        · exact ⟨_, by omega, by omega, rfl⟩
        · exact ⟨i, i1, i2, rfl⟩
  -- what lies where
  have L1 : ∀ i, i < st → gv d1 i = gv d i := fun i hi => by rw [t5, if_neg (by omega), if_neg (by omega)]
  have R1 : ∀ i, st ≤ i → i < mid → gv d1 i = gv d (i + (m - st)) := fun i hi hi' => by rw [t5, if_pos ⟨hi, hi'⟩]
  have L2 : ∀ i, mid ≤ i → i < mid + m - st → gv d1 i = gv d (i - (mid - st)) := fun i hi hi' => by rw [t5, if_neg (by omega), if_pos ⟨hi, hi'⟩]
  have R2 : ∀ i, mid + m - st ≤ i → gv d1 i = gv d i := fun i hi => by rw [t5, if_neg (by omega), if_neg (by omega)]
  obtain ⟨d2, u1, u2, u3, u4⟩ := sym_maybe (d := d1) ih (a := a) (m := st) (b := mid) (by omega) (hI.mv t6 h3) (by omega) (by omega) (by omega)
    (fun i j i1 i2 i3 => by rw [L1 i (by omega), L1 j i3]; exact h.lo i j i1 i2 (by omega))
    (fun i j i1 i2 i3 => by rw [R1 i i1 (by omega), R1 j (by omega) i3]; exact h.hi _ _ (by omega) (by omega) (by omega))
    (fun i j i1 i2 i3 i4 => by rw [L1 i i2, R1 j i3 i4]; exact h.ix _ _ i1 (by omega) (by omega) (by omega))
  have v2 : ∀ i, mid ≤ i → gv d2 i = gv d1 i := fun i hi => u3.out i (.inr hi)
  obtain ⟨d3, w1, w2, w3, w4⟩ := sym_maybe (d := d2) ih (a := mid) (m := mid + m - st) (b := b) (by omega) ((hI.mv t6 h3).mv u3 (by omega)) (by omega) (by omega) (by rw [u3.len, t3]; exact h3)
    (fun i j i1 i2 i3 => by rw [v2 i i1, v2 j (by omega), L2 i i1 (by omega), L2 j (by omega) i3]; exact h.lo _ _ (by omega) (by omega) (by omega))
    (fun i j i1 i2 i3 => by rw [v2 i (by omega), v2 j (by omega), R2 i i1, R2 j (by omega)]; exact h.hi _ _ (by omega) (by omega) (by omega))
    (fun i j i1 i2 i3 i4 => by rw [v2 i i1, v2 j (by omega), L2 i i1 i2, R2 j i3]; exact h.ix _ _ (by omega) (by omega) (by omega) i4)
  refine ⟨d3, fun k hk => ?_, (t6.trans (u3.wide (Nat.le_refl _) (by omega))).trans (w3.wide (by omega) (Nat.le_refl _)), fun i j i1 i2 i3 => ?_⟩
  · unfold slices_symMergeCmpFunc_int_j11
    rw [e1]
    simp only [Option.bind_some]
    have f14 : slices_symMergeCmpFunc_int_j14 (mid : Int) (m : Int) (st : Int) (b : Int) (fun data a m b c0 => fixK slices_symMergeCmpFunc_int_s k (data, a, m, b, c0)) l d2 = some d3 := by
      unfold slices_symMergeCmpFunc_int_j14
      rw [wpl (by omega) (by omega), wmn (by omega) (by omega), cnd_dec, cnd_dec]
      by_cases g1 : mid < mid + m - st
      · rw [if_pos (by omega)]
        by_cases g2 : mid + m - st < b
        · rw [if_pos (by omega)]
          show Option.bind (symK k d2 mid (mid + m - st) b l) _ = _
          rw [w1 g1 g2 k hk]; rfl
        · rw [if_neg (by omega), w2 (by omega)]
      · rw [if_neg (by omega), w2 (by omega)]
    have f13 : slices_symMergeCmpFunc_int_j13 (a : Int) (st : Int) (mid : Int) (fun data a m b c0 => fixK slices_symMergeCmpFunc_int_s k (data, a, m, b, c0)) l (m : Int) (b : Int) d1 = some d3 := by
      unfold slices_symMergeCmpFunc_int_j13
      rw [cnd_dec, cnd_dec]
      by_cases g1 : a < st
      · rw [if_pos (by omega)]
        by_cases g2 : st < mid
        · rw [if_pos (by omega)]
          show Option.bind (symK k d1 a st mid l) _ = _
          rw [u1 g1 g2 k hk]; exact f14
        · rw [if_neg (by omega), ← u2 (by omega)]; exact f14
      · rw [if_neg (by omega), ← u2 (by omega)]; exact f14
    unfold slices_symMergeCmpFunc_int_j12
    rw [wpl (by omega) (by omega), wmn (by omega) (by omega), cnd_dec, cnd_dec]
    by_cases g1 : st < m
    · rw [if_pos (by omega)]
      by_cases g2 : m < mid + m - st
      · rw [if_pos (by omega), t1 g1 g2]; exact f13
      · rw [if_neg (by omega), ← t2 (by omega)]; exact f13
    · rw [if_neg (by omega), ← t2 (by omega)]; exact f13
  · have left : ∀ i, a ≤ i → i < mid → ∃ p, gv d3 i = gv d p ∧ ((a ≤ p ∧ p < st) ∨ (m ≤ p ∧ p < mid + m - st)) := by
      intro i i1 i2
      rw [w3.out i (.inl i2)]
      obtain ⟨p, p1, p2, p3⟩ := u3.seg i i1 i2
      rw [p3]
      by_cases hp : p < st
      · exact ⟨p, L1 p hp, .inl ⟨p1, hp⟩⟩
      · exact ⟨_, R1 p (by omega) p2, .inr ⟨by omega, by omega⟩⟩
    have right : ∀ i, mid ≤ i → i < b → ∃ p, gv d3 i = gv d p ∧ ((st ≤ p ∧ p < m) ∨ (mid + m - st ≤ p ∧ p < b)) := by
      intro i i1 i2
      obtain ⟨p, p1, p2, p3⟩ := w3.seg i i1 i2
      rw [p3, v2 p p1]
      by_cases hp : p < mid + m - st
      · exact ⟨_, L2 p p1 hp, .inl ⟨by omega, by omega⟩⟩
      · exact ⟨p, R2 p (by omega), .inr ⟨by omega, p2⟩⟩
    by_cases hj : j < mid
    · rw [w3.out i (.inl (by omega)), w3.out j (.inl hj)]; exact u4 i j i1 i2 hj
    · by_cases hi : mid ≤ i
      · exact w4 i j hi i2 i3
      · obtain ⟨p, p1, p2⟩ := left i i1 (by omega)
        obtain ⟨q, q1, q2⟩ := right j (by omega) i3
        rw [p1, q1]
        rcases p2 with p2 | p2 <;> rcases q2 with q2 | q2
        · exact h.lo p q p2.1 (by omega) q2.2
        · exact c1 p q p2.1 p2.2 q2.1 q2.2
        · exact c2 p q p2.1 p2.2 q2.1 q2.2
        · exact h.hi p q p2.1 (by omega) q2.2
theorem sym_all (l : List Int) : ∀ n, SymIH n l := by
  intro n
  induction n with
  | zero => intro a m b d hn hI h; have := h.am; have := h.mb; omega
  | succ n ih =>
    intro a m b d hn hI h
    have hle := hI.1
    have h1 := h.am
    have h2 := h.mb
    have h3 := h.len
    have goal : ∃ d', (∀ k, n ≤ k → slices_symMergeCmpFunc_int_b (fun data a m b c0 => fixK slices_symMergeCmpFunc_int_s k (data, a, m, b, c0)) d (a : Int) (m : Int) (b : Int) l = some d') ∧ Mv d d' a b ∧ Inc l d' a b := by
      unfold slices_symMergeCmpFunc_int_b
      rw [wmn (by omega) (by omega), wmn (by omega) (by omega)]
      by_cases hm : m = a + 1
      · subst hm
        obtain ⟨d', e1, e2, e3⟩ := merge_one hI h
        refine ⟨d', fun k _ => ?_, e2, e3⟩
        rw [cnd_beq, if_pos (by omega)]; exact e1
      · by_cases hb : b = m + 1
        · subst hb
          obtain ⟨d', e1, e2, e3⟩ := merge_last hI h
          refine ⟨d', fun k _ => ?_, e2, e3⟩
          rw [cnd_beq, if_neg (by omega), cnd_beq, if_pos (by omega)]; exact e1
        · rw [half (by omega) (by omega)]
          by_cases hc : (a + b) / 2 < m
          · obtain ⟨d', e1, e2, e3⟩ := sym_tail ih (mid := (a + b) / 2) (A := (a + b) / 2 + m - b) (B := (a + b) / 2) hn hI h rfl (by omega) (by omega) (by omega) (by omega) (by omega) (by omega) (by omega) (by omega)
            refine ⟨d', fun k hk => ?_, e2, e3⟩
            rw [cnd_beq, if_neg (by omega), cnd_beq, if_neg (by omega)]
            simp only [Option.bind_some]
            rw [cnd_dec, if_pos (by omega), wpl (by omega) (by omega), wmn (by omega) (by omega)]
            exact e1 k hk
          · obtain ⟨d', e1, e2, e3⟩ := sym_tail ih (mid := (a + b) / 2) (A := a) (B := m) hn hI h rfl (by omega) (by omega) (by omega) (by omega) (by omega) (by omega) (by omega) (by omega)
            refine ⟨d', fun k hk => ?_, e2, e3⟩
            rw [cnd_beq, if_neg (by omega), cnd_beq, if_neg (by omega)]
            simp only [Option.bind_some]
            rw [cnd_dec, if_neg (by omega)]
            exact e1 k hk
    obtain ⟨d', e1, e2, e3⟩ := goal
    refine ⟨d', fun k hk => ?_, e2, e3⟩
    obtain ⟨k, rfl⟩ : ∃ k', k = k' + 1 := ⟨k - 1, by omega⟩
    exact e1 k (by omega)
theorem sym_ok {l d : List Int} {a m b : Nat} (hI : In l d) (h : Runs l d a m b) : ∃ d', slices_symMergeCmpFunc_int d (a : Int) (m : Int) (b : Int) l = some d' ∧ Mv d d' a b ∧ Inc l d' a b := by
  obtain ⟨d', e1, e2, e3⟩ := sym_all l (b - a) a m b d (Nat.le_refl _) hI h
  exact ⟨d', fix_of _ e1, e2, e3⟩
/-! ### Blocks -/
structure Good (l d : List Int) (a b : Nat) : Prop where
  inc : Inc l d a b
  lo : ∀ i, a ≤ i → i < b → (a : Int) ≤ gv d i
  hi : ∀ i, a ≤ i → i < b → gv d i < (b : Int)
theorem Good.out {l d d' : List Int} {a b : Nat} (h : Good l d a b) (e : ∀ i, a ≤ i → i < b → gv d' i = gv d i) : Good l d' a b :=
  ⟨fun i j i1 i2 i3 => by rw [e i i1 (by omega), e j (by omega) i3]; exact h.inc i j i1 i2 i3, fun i i1 i2 => by rw [e i i1 i2]; exact h.lo i i1 i2, fun i i1 i2 => by rw [e i i1 i2]; exact h.hi i i1 i2⟩
inductive Bl (l : List Int) (s n : Nat) (d : List Int) : Nat → Prop
  | done {a : Nat} (h : n ≤ a) : Bl l s n d a
  | step {a : Nat} (h : Good l d a (min (a + s) n)) (t : Bl l s n d (a + s)) : Bl l s n d a
theorem Bl.out {l : List Int} {s n : Nat} {d : List Int} {a : Nat} (h : Bl l s n d a) : ∀ {d' : List Int}, (∀ i, a ≤ i → i < n → gv d' i = gv d i) → Bl l s n d' a := by
  induction h with
  | done h => intro d' _; exact .done h
  | step h t ih => intro d' e; exact .step (h.out fun i i1 i2 => e i i1 (by omega)) (ih fun i i1 i2 => e i (by omega) i2)
theorem Good.seg {l d d' : List Int} {a b : Nat} (h : Mv d d' a b) (hi : Inc l d' a b) (lo : ∀ i, a ≤ i → i < b → (a : Int) ≤ gv d i) (up : ∀ i, a ≤ i → i < b → gv d i < (b : Int)) : Good l d' a b :=
  ⟨hi, fun i i1 i2 => by obtain ⟨j, j1, j2, j3⟩ := h.seg i i1 i2; rw [j3]; exact lo j j1 j2, fun i i1 i2 => by obtain ⟨j, j1, j2, j3⟩ := h.seg i i1 i2; rw [j3]; exact up j j1 j2⟩
theorem blocks {l : List Int} {n : Nat} : ∀ (k a : Nat) (d : List Int), n - a ≤ k → a ≤ n → n = d.length → In l d → (∀ i, a ≤ i → i < n → gv d i = (i : Int)) →
    ∃ e d', (loop (σ := (List Int) × Int × Int) (ρ := (List Int) × Int) (fun s_ => slices_stableCmpFunc_int_l6 (n : Int) l s_.1 s_.2.1 s_.2.2) (d, (a : Int), ((a + 20 : Nat) : Int))) = some e ∧ slices_insertionSortCmpFunc_int e.1 e.2 (n : Int) l = some d' ∧ Mv d d' a n ∧ Bl l 20 n d' a := by
  intro k
  induction k with
  | zero =>
    intro a d hk ha hn hI hd
    have hle := hI.1
    obtain ⟨d', e1, e2, e3⟩ := ins_ok (l := l) (d := d) (a := a) (b := n) ha (by omega) hI (fun i j i1 i2 i3 => by rw [hd i i1 (by omega), hd j (by omega) i3]; omega)
    refine ⟨(d, (a : Int)), d', loop_inr ?_, e1, e2, .done (by omega)⟩
    show slices_stableCmpFunc_int_l6 (n : Int) l d (a : Int) ((a + 20 : Nat) : Int) = _
    unfold slices_stableCmpFunc_int_l6
    rw [cnd_dec, if_neg (by omega)]
  | succ k ih =>
    intro a d hk ha hn hI hd
    have hle := hI.1
    by_cases h : a + 20 ≤ n
    · obtain ⟨d1, e1, e2, e3⟩ := ins_ok (l := l) (d := d) (a := a) (b := a + 20) (by omega) (by omega) hI (fun i j i1 i2 i3 => by rw [hd i i1 (by omega), hd j (by omega) (by omega)]; omega)
      obtain ⟨e, d', f1, f2, f3, f4⟩ := ih (a + 20) d1 (by omega) h (by rw [e2.len]; exact hn) (hI.mv e2 (by omega)) (fun i i1 i2 => by rw [e2.out i (.inr i1)]; exact hd i (by omega) i2)
      refine ⟨e, d', (loop_inl ?_).trans f1, f2, (e2.wide (Nat.le_refl _) h).trans (f3.wide (by omega) (Nat.le_refl _)), .step ?_ f4⟩
      · show slices_stableCmpFunc_int_l6 (n : Int) l d (a : Int) ((a + 20 : Nat) : Int) = _
        unfold slices_stableCmpFunc_int_l6
        rw [cnd_dec, if_pos (by omega), e1]
        simp only [Option.bind_some]
        rw [i64ok (by omega) (by omega)]; rfl
      · rw [Nat.min_eq_left h]
        exact (Good.seg e2 e3 (fun i i1 i2 => by rw [hd i i1 (by omega)]; omega) (fun i i1 i2 => by rw [hd i i1 (by omega)]; omega)).out fun i i1 i2 => f3.out i (.inl i2)
    · obtain ⟨d', e1, e2, e3⟩ := ins_ok (l := l) (d := d) (a := a) (b := n) ha (by omega) hI (fun i j i1 i2 i3 => by rw [hd i i1 (by omega), hd j (by omega) i3]; omega)
      refine ⟨(d, (a : Int)), d', loop_inr ?_, e1, e2, .step ?_ (.done (by omega))⟩
      · show slices_stableCmpFunc_int_l6 (n : Int) l d (a : Int) ((a + 20 : Nat) : Int) = _
        unfold slices_stableCmpFunc_int_l6
        rw [cnd_dec, if_neg (by omega)]
      · rw [Nat.min_eq_right (by omega)]
        exact Good.seg e2 e3 (fun i i1 i2 => by rw [hd i i1 i2]; omega) (fun i i1 i2 => by rw [hd i i1 i2]; omega)
theorem Good.two {l d : List Int} {a m b : Nat} (h1 : Good l d a m) (h2 : Good l d m b) (ham : a < m) (hmb : m < b) (hb : b ≤ d.length) : Runs l d a m b :=
  ⟨ham, hmb, hb, h1.inc, h2.inc, fun i j i1 i2 j1 j2 => by have := h1.hi i i1 i2; have := h2.lo j j1 j2; omega⟩
theorem Good.join {l d d' : List Int} {a m b : Nat} (h1 : Good l d a m) (h2 : Good l d m b) (ham : a ≤ m) (hmb : m ≤ b) (hm : Mv d d' a b) (hi : Inc l d' a b) : Good l d' a b :=
  Good.seg hm hi (fun i i1 i2 => by
    by_cases h : i < m
    · exact h1.lo i i1 h
    · have := h2.lo i (by omega) i2; omega) (fun i i1 i2 => by
    by_cases h : i < m
    · have := h1.hi i i1 h; omega
    · exact h2.hi i (by omega) i2)
theorem pass {l : List Int} {n s : Nat} (hs : 0 < s) (hs' : s < n) : ∀ (k a : Nat) (d : List Int), n - a ≤ k → a ≤ n → n = d.length → In l d → Bl l s n d a →
    ∃ e d', (loop (σ := (List Int) × Int × Int) (ρ := (List Int) × Int) (fun s_ => slices_stableCmpFunc_int_l5 (n : Int) (s : Int) l s_.1 s_.2.1 s_.2.2) (d, (a : Int), ((a + 2 * s : Nat) : Int))) = some e ∧ slices_stableCmpFunc_int_j3 (s : Int) (n : Int) l e.1 e.2 = some (.inl (d', ((2 * s : Nat) : Int))) ∧ Mv d d' a n ∧ Bl l (2 * s) n d' a := by
  have w2 : n ≤ 4096 → IntKind.i64.wrap ((s : Int) * 2) = ((2 * s : Nat) : Int) := fun h => by rw [i64ok (by omega) (by omega)]; omega
  intro k
  induction k with
  | zero =>
    intro a d hk ha hn hI hB
    have hle := hI.1
    refine ⟨(d, (a : Int)), d, loop_inr ?_, ?_, Mv.refl _ _ _, .done (by omega)⟩
    · show slices_stableCmpFunc_int_l5 (n : Int) (s : Int) l d (a : Int) ((a + 2 * s : Nat) : Int) = _
      unfold slices_stableCmpFunc_int_l5
      rw [cnd_dec, if_neg (by omega)]
    · show slices_stableCmpFunc_int_j3 (s : Int) (n : Int) l d (a : Int) = _
      unfold slices_stableCmpFunc_int_j3 slices_stableCmpFunc_int_j4
      rw [wpl (by omega) (by omega), cnd_dec, if_neg (by omega), w2 (by omega)]
  | succ k ih =>
    intro a d hk ha hn hI hB
    have hle := hI.1
    by_cases h : a + 2 * s ≤ n
    · obtain ⟨g1, g2, g3⟩ : Good l d a (a + s) ∧ Good l d (a + s) (a + 2 * s) ∧ Bl l s n d (a + 2 * s) := by
        cases hB with
        | done h' => omega
        | step g1 t =>
          cases t with
          | done h' => omega
          | step g2 t' =>
            rw [Nat.min_eq_left (by omega)] at g1
            rw [Nat.min_eq_left (by omega), show a + s + s = a + 2 * s by omega] at g2
            rw [show a + s + s = a + 2 * s by omega] at t'
            exact ⟨g1, g2, t'⟩
      obtain ⟨d1, e1, e2, e3⟩ := sym_ok hI (g1.two g2 (by omega) (by omega) (by omega))
      obtain ⟨e, d', f1, f2, f3, f4⟩ := ih (a + 2 * s) d1 (by omega) h (by rw [e2.len]; exact hn) (hI.mv e2 (by omega)) (g3.out fun i i1 i2 => e2.out i (.inr i1))
      refine ⟨e, d', (loop_inl ?_).trans f1, f2, (e2.wide (Nat.le_refl _) h).trans (f3.wide (by omega) (Nat.le_refl _)), .step ?_ f4⟩
      · show slices_stableCmpFunc_int_l5 (n : Int) (s : Int) l d (a : Int) ((a + 2 * s : Nat) : Int) = _
        unfold slices_stableCmpFunc_int_l5
        rw [cnd_dec, if_pos (by omega), wpl (by omega) (by omega), e1]
        simp only [Option.bind_some]
        rw [show IntKind.i64.wrap (2 * (s : Int)) = ((2 * s : Nat) : Int) from by rw [i64ok (by omega) (by omega)]; omega, wpl (by omega) (by omega)]
      · rw [Nat.min_eq_left h]
        exact (g1.join g2 (by omega) (by omega) e2 e3).out fun i i1 i2 => f3.out i (.inl i2)
    · have first : loop (σ := (List Int) × Int × Int) (ρ := (List Int) × Int) (fun s_ => slices_stableCmpFunc_int_l5 (n : Int) (s : Int) l s_.1 s_.2.1 s_.2.2) (d, (a : Int), ((a + 2 * s : Nat) : Int)) = some (d, (a : Int)) := by
        refine loop_inr ?_
        show slices_stableCmpFunc_int_l5 (n : Int) (s : Int) l d (a : Int) ((a + 2 * s : Nat) : Int) = _
        unfold slices_stableCmpFunc_int_l5
        rw [cnd_dec, if_neg (by omega)]
      by_cases h' : a + s < n
      · obtain ⟨g1, g2⟩ : Good l d a (a + s) ∧ Good l d (a + s) n := by
          cases hB with
          | done h' => omega
          | step g1 t =>
            cases t with
            | done h' => omega
            | step g2 t' =>
              rw [Nat.min_eq_left (by omega)] at g1
              rw [Nat.min_eq_right (by omega)] at g2
              exact ⟨g1, g2⟩
        obtain ⟨d1, e1, e2, e3⟩ := sym_ok hI (g1.two g2 (by omega) (by omega) (by omega))
        refine ⟨(d, (a : Int)), d1, first, ?_, e2, .step ?_ (.done (by omega))⟩
        · show slices_stableCmpFunc_int_j3 (s : Int) (n : Int) l d (a : Int) = _
          unfold slices_stableCmpFunc_int_j3
          rw [wpl (by omega) (by omega), cnd_dec, if_pos (by omega), e1]
          simp only [Option.bind_some]
          unfold slices_stableCmpFunc_int_j4
          rw [w2 (by omega)]
        · rw [Nat.min_eq_right (by omega)]
          exact g1.join g2 (by omega) (by omega) e2 e3
      · refine ⟨(d, (a : Int)), d, first, ?_, Mv.refl _ _ _, ?_⟩
        · show slices_stableCmpFunc_int_j3 (s : Int) (n : Int) l d (a : Int) = _
          unfold slices_stableCmpFunc_int_j3 slices_stableCmpFunc_int_j4
          rw [wpl (by omega) (by omega), cnd_dec, if_neg (by omega), w2 (by omega)]
        · cases hB with
          | done h' => exact .done h'
          | step g1 t =>
            refine .step ?_ (.done (by omega))
            rw [Nat.min_eq_right (by omega)] at g1 ⊢
            exact g1
theorem passes {l : List Int} {n : Nat} : ∀ (k s : Nat) (d : List Int), n - s ≤ k → 0 < s → s ≤ 10000 → n = d.length → In l d → Bl l s n d 0 →
    ∃ d', loop (σ := (List Int) × Int) (ρ := (List Int)) (fun s_ => slices_stableCmpFunc_int_l2 (n : Int) l s_.1 s_.2) (d, (s : Int)) = some d' ∧ Mv d d' 0 n ∧ Inc l d' 0 n := by
  intro k
  induction k with
  | zero =>
    intro s d hk hs hs' hn hI hB
    refine ⟨d, loop_inr (s := (d, (s : Int))) ?_, Mv.refl _ _ _, ?_⟩
    · show slices_stableCmpFunc_int_l2 (n : Int) l d (s : Int) = _
      unfold slices_stableCmpFunc_int_l2
      rw [cnd_dec, if_neg (by omega)]
    · cases hB with
      | done h => intro i j i1 i2 i3; omega
      | step g t => rw [Nat.min_eq_right (by omega)] at g; exact g.inc
  | succ k ih =>
    intro s d hk hs hs' hn hI hB
    have hle := hI.1
    by_cases h : s < n
    · obtain ⟨e, d1, e1, e2, e3, e4⟩ := pass (l := l) hs h n 0 d (by omega) (by omega) hn hI hB
      obtain ⟨d', f1, f2, f3⟩ := ih (2 * s) d1 (by omega) (by omega) (by omega) (by rw [e3.len]; exact hn) (hI.mv e3 (by omega)) e4
      refine ⟨d', (loop_inl (s := (d, (s : Int))) ?_).trans f1, e3.trans f2, f3⟩
      show slices_stableCmpFunc_int_l2 (n : Int) l d (s : Int) = _
      unfold slices_stableCmpFunc_int_l2
      rw [cnd_dec, if_pos (by omega), show IntKind.i64.wrap (2 * (s : Int)) = ((0 + 2 * s : Nat) : Int) from by rw [i64ok (by omega) (by omega)]; omega]
      rw [show ((0 : Int)) = ((0 : Nat) : Int) from rfl, e1]
      exact e2
    · refine ⟨d, loop_inr (s := (d, (s : Int))) ?_, Mv.refl _ _ _, ?_⟩
      · show slices_stableCmpFunc_int_l2 (n : Int) l d (s : Int) = _
        unfold slices_stableCmpFunc_int_l2
        rw [cnd_dec, if_neg (by omega)]
      · cases hB with
        | done h => intro i j i1 i2 i3; omega
        | step g t => rw [Nat.min_eq_right (by omega)] at g; exact g.inc
theorem stable_ok {l d : List Int} (hI : In l d) (hd : ∀ i, i < d.length → gv d i = (i : Int)) : ∃ d', slices_SortStableFunc_int_int d l = some d' ∧ d'.Perm d ∧ Inc l d' 0 d.length := by
  have hle := hI.1
  obtain ⟨e, d1, e1, e2, e3, e4⟩ := blocks (l := l) (n := d.length) d.length 0 d (by omega) (by omega) rfl hI (fun i _ h => hd i h)
  obtain ⟨d', f1, f2, f3⟩ := passes (l := l) (n := d.length) d.length 20 d1 (by omega) (by omega) (by omega) e3.len.symm (hI.mv e3 (Nat.le_refl _)) e4
  refine ⟨d', ?_, (e3.trans f2).perm, f3⟩
  unfold slices_SortStableFunc_int_int slices_stableCmpFunc_int
  have e1' : loop (σ := (List Int) × Int × Int) (ρ := (List Int) × Int) (fun s_ => slices_stableCmpFunc_int_l6 (d.length : Int) l s_.1 s_.2.1 s_.2.2) (d, 0, 20) = some e := e1
  rw [e1']
  simp only [Option.bind_some]
  unfold slices_stableCmpFunc_int_j1
  rw [e2]
  simp only [Option.bind_some]
  have f1' : loop (σ := (List Int) × Int) (ρ := (List Int)) (fun s_ => slices_stableCmpFunc_int_l2 (d.length : Int) l s_.1 s_.2) (d1, 20) = some d' := f1
  rw [f1']; rfl
end Go.Proofs.Ytnognpmkhkkkeaa.X
