/- The plain law of stable sorting: merges by rotation. No condition. -/
import Derived.Test.YtnognpmkhkkkeaaPuStableX
namespace Go.Proofs.Ytnognpmkhkkkeaa.X
open Go Go.RowKit Go.Proofs.Ytnognpmkhkkkeaa.Sx
set_option linter.unusedVariables false
set_option linter.unusedSimpArgs false
theorem rot_ok {a m b : Nat} {d l : List Int} (h1 : a < m) (h2 : m < b) (hl : d.length ≤ 4096) (hb : b ≤ d.length) :
    ∃ d', slices_rotateCmpFunc_int d (a : Int) (m : Int) (b : Int) l = some d' ∧ d'.length = d.length ∧ d'.Perm d ∧ ∀ k, gv d' k = if a ≤ k ∧ k < a + (b - m) then gv d (k + (m - a)) else if a + (b - m) ≤ k ∧ k < b then gv d (k - (b - m)) else gv d k := by
  obtain ⟨d', e1, e2, e3, e4⟩ := rot_loop (m := m) (l := l) (m - a + (b - m)) (m - a) (b - m) d (by omega) (by omega) (by omega) (by omega) hl (by omega)
  refine ⟨d', ?_, e2, e3, fun k => ?_⟩
  · unfold slices_rotateCmpFunc_int
    rw [wmn (by omega) (by omega), wmn (by omega) (by omega)]
    exact e1
  · rw [e4]
    repeat' split
    all_goals first | rfl | (exfalso; omega) | (refine congrArg (gv d) ?_; omega)
/-- A search by halves. -/
theorem bsearch {step : Int × Int → Option ((Int × Int) ⊕ Int)} (P : Nat → Prop) [DecidablePred P] (A B : Nat) (hd : ∀ i j, A ≤ i → i < j → j < B → P j → P i)
    (hend : ∀ i : Nat, step ((i : Int), (i : Int)) = some (.inr (i : Int)))
    (hy : ∀ i j : Nat, A ≤ i → i < j → j ≤ B → P ((i + j) / 2) → step ((i : Int), (j : Int)) = some (.inl ((((i + j) / 2 + 1 : Nat) : Int), (j : Int))))
    (hn : ∀ i j : Nat, A ≤ i → i < j → j ≤ B → ¬ P ((i + j) / 2) → step ((i : Int), (j : Int)) = some (.inl ((i : Int), (((i + j) / 2 : Nat) : Int)))) :
    A ≤ B → ∃ r : Nat, loop step ((A : Int), (B : Int)) = some (r : Int) ∧ A ≤ r ∧ r ≤ B ∧ (∀ k, A ≤ k → k < r → P k) ∧ (∀ k, r ≤ k → k < B → ¬ P k) := by
  have key : ∀ n i j : Nat, j - i ≤ n → A ≤ i → i ≤ j → j ≤ B → (∀ k, A ≤ k → k < i → P k) → (∀ k, j ≤ k → k < B → ¬ P k) → ∃ r : Nat, loop step ((i : Int), (j : Int)) = some (r : Int) ∧ A ≤ r ∧ r ≤ B ∧ (∀ k, A ≤ k → k < r → P k) ∧ (∀ k, r ≤ k → k < B → ¬ P k) := by
    intro n
    induction n with
    | zero =>
      intro i j hn hA hij hB h1 h2
      have : i = j := by omega
      subst this
      exact ⟨i, loop_inr (hend i), hA, hB, h1, h2⟩
    | succ n ih =>
      intro i j hnn hA hij hB h1 h2
      by_cases he : i = j
      · subst he; exact ⟨i, loop_inr (hend i), hA, hB, h1, h2⟩
      · by_cases hp : P ((i + j) / 2)
        · rw [loop_inl (hy i j hA (by omega) hB hp)]
          refine ih _ _ (by omega) (by omega) (by omega) hB (fun k k1 k2 => ?_) h2
          by_cases hk : k = (i + j) / 2
          · rw [hk]; exact hp
          · exact hd k _ k1 (by omega) (by omega) hp
        · rw [loop_inl (hn i j hA (by omega) hB hp)]
          refine ih _ _ (by omega) hA (by omega) (by omega) h1 (fun k k1 k2 hk => ?_)
          by_cases hk' : k = (i + j) / 2
          · exact hp (hk' ▸ hk)
          · exact hp (hd _ k (by omega) (by omega) k2 hk)
  exact fun h => key (B - A) A B (Nat.le_refl _) (Nat.le_refl _) h (Nat.le_refl _) (fun k h1 h2 => absurd h1 (by omega)) (fun k h1 h2 => absurd h1 (by omega))
theorem half {i j : Nat} (hi : i ≤ 20000) (hj : j ≤ 20000) : IntKind.i64.wrap (Int.fdiv (IntKind.u64.wrap (IntKind.i64.wrap ((i : Int) + (j : Int)))) 2) = (((i + j) / 2 : Nat) : Int) := by
  rw [wpl hi hj, show IntKind.u64.wrap ((i + j : Nat) : Int) = ((i + j : Nat) : Int) from by rw [IntKind.wrap_u64]; omega, fdiv_lit 2 (by omega), i64ok (by omega) (by omega)]; omega
/-! ### An element is carried to its place -/
theorem right_loop {a e : Nat} : ∀ (n k : Nat) (d : List Int), k + n = e → d.length ≤ 4096 → e < d.length → 
    ∃ d', loop (σ := (List Int) × Int) (ρ := (List Int)) (fun s_ => slices_symMergeCmpFunc_int_l3 ((e + 1 : Nat) : Int) s_.1 s_.2) (d, (k : Int)) = some d' ∧ d'.length = d.length ∧ d'.Perm d ∧ ∀ j, gv d' j = if k ≤ j ∧ j < e then gv d (j + 1) else if j = e then gv d k else gv d j := by
  intro n
  induction n with
  | zero =>
    intro k d hn hl he
    have : k = e := by omega
    subst this
    refine ⟨d, loop_inr (s := (d, (k : Int))) ?_, rfl, List.Perm.refl _, fun j => ?_⟩
    · show slices_symMergeCmpFunc_int_l3 ((k + 1 : Nat) : Int) d (k : Int) = _
      unfold slices_symMergeCmpFunc_int_l3
      rw [wm1 (by omega) (by omega), cnd_dec, if_neg (by omega)]
    · repeat' split
      all_goals first | rfl | (exfalso; omega) | (refine congrArg (gv d) ?_; omega)
  | succ n ih =>
    intro k d hn hl he
    obtain ⟨d', e1, e2, e3, e4⟩ := ih (k + 1) (sv d k (k + 1)) (by omega) (by rw [sv_len]; exact hl) (by rw [sv_len]; exact he)
    refine ⟨d', (loop_inl (s := (d, (k : Int))) ?_).trans e1, by rw [e2, sv_len], e3.trans (sv_perm (by omega) (by omega)), fun j => ?_⟩
    · show slices_symMergeCmpFunc_int_l3 ((e + 1 : Nat) : Int) d (k : Int) = _
      unfold slices_symMergeCmpFunc_int_l3
      rw [wm1 (by omega) (by omega), cnd_dec, if_pos (by omega), wp1 (by omega), swp (i := k) (p := k + 1) (by omega) (by omega)]
      unfold slices_symMergeCmpFunc_int_j4
      rw [wp1 (by omega)]
    · have e : ∀ j, gv (sv d k (k + 1)) j = if j = k + 1 then gv d k else if j = k then gv d (k + 1) else gv d j := fun j => sv_gv (by omega) (by omega) j
      rw [e4]
      simp only [e, ite_true]
      repeat' split
      all_goals first | rfl | (exfalso; omega) | (refine congrArg (gv d) ?_; omega)
theorem left_loop {i : Nat} : ∀ (n k : Nat) (d : List Int), k ≤ i + n → i ≤ k → d.length ≤ 4096 → k < d.length → 
    ∃ d', loop (σ := (List Int) × Int) (ρ := (List Int)) (fun s_ => slices_symMergeCmpFunc_int_l8 (i : Int) s_.1 s_.2) (d, (k : Int)) = some d' ∧ d'.length = d.length ∧ d'.Perm d ∧ ∀ j, gv d' j = if i < j ∧ j ≤ k then gv d (j - 1) else if j = i then gv d k else gv d j := by
  intro n
  induction n with
  | zero =>
    intro k d hn hik hl he
    have : k = i := by omega
    subst this
    refine ⟨d, loop_inr (s := (d, (k : Int))) ?_, rfl, List.Perm.refl _, fun j => ?_⟩
    · show slices_symMergeCmpFunc_int_l8 (k : Int) d (k : Int) = _
      unfold slices_symMergeCmpFunc_int_l8
      rw [cnd_dec, if_neg (by omega)]
    · repeat' split
      all_goals first | rfl | (exfalso; omega) | (refine congrArg (gv d) ?_; omega)
  | succ n ih =>
    intro k d hn hik hl he
    by_cases h0 : k = i
    · subst h0
      refine ⟨d, loop_inr (s := (d, (k : Int))) ?_, rfl, List.Perm.refl _, fun j => ?_⟩
      · show slices_symMergeCmpFunc_int_l8 (k : Int) d (k : Int) = _
        unfold slices_symMergeCmpFunc_int_l8
        rw [cnd_dec, if_neg (by omega)]
      · repeat' split
        all_goals first | rfl | (exfalso; omega) | (refine congrArg (gv d) ?_; omega)
    · obtain ⟨d', e1, e2, e3, e4⟩ := ih (k - 1) (sv d k (k - 1)) (by omega) (by omega) (by rw [sv_len]; exact hl) (by rw [sv_len]; omega)
      refine ⟨d', (loop_inl (s := (d, (k : Int))) ?_).trans e1, by rw [e2, sv_len], e3.trans (sv_perm (by omega) (by omega)), fun j => ?_⟩
      · show slices_symMergeCmpFunc_int_l8 (i : Int) d (k : Int) = _
        unfold slices_symMergeCmpFunc_int_l8
        rw [cnd_dec, if_pos (by omega), wm1 (by omega) (by omega), swp (i := k) (p := k - 1) (by omega) (by omega)]
        unfold slices_symMergeCmpFunc_int_j9
        rw [wm1 (by omega) (by omega)]
      · have e : ∀ j, gv (sv d k (k - 1)) j = if j = k - 1 then gv d k else if j = k then gv d (k - 1) else gv d j := fun j => sv_gv (by omega) (by omega) j
        rw [e4]
        simp only [e, ite_true]
        repeat' split
        all_goals first | rfl | (exfalso; omega) | (refine congrArg (gv d) ?_; omega)
theorem Inc.le {l d : List Int} {a b i j : Nat} (h : Inc l d a b) (h1 : a ≤ i) (h2 : i ≤ j) (h3 : j < b) : ky l (gv d i) ≤ ky l (gv d j) := by
  by_cases e : i = j
  · rw [e]; omega
  · have := h i j h1 (by omega) h3; unfold lt2 at this; omega
/-- Two runs, the first one's indices below the second's. -/
structure Runs (l d : List Int) (a m b : Nat) : Prop where
  am : a < m
  mb : m < b
  len : b ≤ d.length
  lo : Inc l d a m
  hi : Inc l d m b
  ix : ∀ i j, a ≤ i → i < m → m ≤ j → j < b → gv d i < gv d j
theorem merge_one {l d : List Int} {a b : Nat} (hI : In l d) (h : Runs l d a (a + 1) b) :
    ∃ d', ((loop (σ := Int × Int) (ρ := Int) (fun s_ => slices_symMergeCmpFunc_int_l5 d (a : Int) l s_.1 s_.2) (((a + 1 : Nat) : Int), (b : Int))).bind (fun e_ => slices_symMergeCmpFunc_int_j1 d (a : Int) e_)) = some d' ∧ Mv d d' a b ∧ Inc l d' a b := by
  have hle := hI.1
  have h1 := h.mb
  have h2 := h.len
  obtain ⟨r, e1, e2, e3, e4, e5⟩ := bsearch (step := fun s_ => slices_symMergeCmpFunc_int_l5 d (a : Int) l s_.1 s_.2) (fun k => ky l (gv d k) < ky l (gv d a)) (a + 1) b
    (fun i j hi hij hj hp => by have := h.hi.le hi (Nat.le_of_lt hij) hj; omega)
    (fun i => by unfold slices_symMergeCmpFunc_int_l5; rw [cnd_dec, if_neg (by omega)])
    (fun i j hA hij hB hp => by
      obtain ⟨r, hr, hr'⟩ := compare_eq (hI.2 ((i + j) / 2) (by omega)) (hI.2 a (by omega))
      unfold slices_symMergeCmpFunc_int_l5
      rw [cnd_dec, if_pos (by omega), half (by omega) (by omega)]
      simp only [Option.bind_some]
      rw [idx_gv (by omega), idx_gv (by omega)]
      simp only [Option.bind_some]
      rw [hr]
      simp only [Option.bind_some]
      rw [hr', decide_eq_true hp, wp1 (by omega)]; rfl)
    (fun i j hA hij hB hp => by
      obtain ⟨r, hr, hr'⟩ := compare_eq (hI.2 ((i + j) / 2) (by omega)) (hI.2 a (by omega))
      unfold slices_symMergeCmpFunc_int_l5
      rw [cnd_dec, if_pos (by omega), half (by omega) (by omega)]
      simp only [Option.bind_some]
      rw [idx_gv (by omega), idx_gv (by omega)]
      simp only [Option.bind_some]
      rw [hr]
      simp only [Option.bind_some]
      rw [hr', decide_eq_false hp]; rfl) (by omega)
  obtain ⟨e, rfl⟩ : ∃ e, r = e + 1 := ⟨r - 1, by omega⟩
  obtain ⟨d', f1, f2, f3, f4⟩ := right_loop (a := a) (e := e) (e - a) a d (by omega) hle (by omega)
  refine ⟨d', ?_, ⟨f2, f3, fun i hi => ?_, fun i i1 i2 => ?_⟩, fun i j i1 i2 i3 => ?_⟩
  · rw [e1]
    simp only [Option.bind_some]
    unfold slices_symMergeCmpFunc_int_j1 slices_symMergeCmpFunc_int_j2
    rw [f1]; rfl
  · rw [f4, if_neg (by omega), if_neg (by omega)]
  · rw [f4]
    split
    · exact ⟨i + 1, by omega, by omega, rfl⟩
    · split
      · exact ⟨a, by omega, by omega, rfl⟩
      · exact ⟨i, i1, i2, rfl⟩
  · rw [f4, f4]
    by_cases hi : a ≤ i ∧ i < e
    · rw [if_pos hi]
      by_cases hj : a ≤ j ∧ j < e
      · rw [if_pos hj]; exact h.hi _ _ (by omega) (by omega) (by omega)
      · rw [if_neg hj]
        by_cases hje : j = e
        · rw [if_pos hje]; exact .inl (e4 _ (by omega) (by omega))
        · rw [if_neg hje]; exact h.hi _ _ (by omega) (by omega) (by omega)
    · rw [if_neg hi, if_neg (show ¬ (a ≤ j ∧ j < e) by omega), if_neg (show ¬ j = e by omega)]
      by_cases hie : i = e
      · rw [if_pos hie]
        have k1 := e5 j (by omega) i3
        have k2 := h.ix a j (by omega) (by omega) (by omega) i3
        unfold lt2; omega
      · rw [if_neg hie]; exact h.hi _ _ (by omega) (by omega) (by omega)
theorem merge_last {l d : List Int} {a m : Nat} (hI : In l d) (h : Runs l d a m (m + 1)) :
    ∃ d', ((loop (σ := Int × Int) (ρ := Int) (fun s_ => slices_symMergeCmpFunc_int_l10 d (m : Int) l s_.1 s_.2) ((a : Int), (m : Int))).bind (fun e_ => slices_symMergeCmpFunc_int_j6 d (m : Int) e_)) = some d' ∧ Mv d d' a (m + 1) ∧ Inc l d' a (m + 1) := by
  have hle := hI.1
  have h1 := h.am
  have h2 := h.len
  obtain ⟨r, e1, e2, e3, e4, e5⟩ := bsearch (step := fun s_ => slices_symMergeCmpFunc_int_l10 d (m : Int) l s_.1 s_.2) (fun k => ¬ ky l (gv d m) < ky l (gv d k)) a m
    (fun i j hi hij hj hp => by have := h.lo.le hi (Nat.le_of_lt hij) hj; omega)
    (fun i => by unfold slices_symMergeCmpFunc_int_l10; rw [cnd_dec, if_neg (by omega)])
    (fun i j hA hij hB hp => by
      obtain ⟨r, hr, hr'⟩ := compare_eq (hI.2 m (by omega)) (hI.2 ((i + j) / 2) (by omega))
      unfold slices_symMergeCmpFunc_int_l10
      rw [cnd_dec, if_pos (by omega), half (by omega) (by omega)]
      simp only [Option.bind_some]
      rw [idx_gv (by omega), idx_gv (by omega)]
      simp only [Option.bind_some]
      rw [hr]
      simp only [Option.bind_some]
      rw [hr', decide_eq_false hp, wp1 (by omega)]; rfl)
    (fun i j hA hij hB hp => by
      obtain ⟨r, hr, hr'⟩ := compare_eq (hI.2 m (by omega)) (hI.2 ((i + j) / 2) (by omega))
      unfold slices_symMergeCmpFunc_int_l10
      rw [cnd_dec, if_pos (by omega), half (by omega) (by omega)]
      simp only [Option.bind_some]
      rw [idx_gv (by omega), idx_gv (by omega)]
      simp only [Option.bind_some]
      rw [hr]
      simp only [Option.bind_some]
      rw [hr', decide_eq_true (Classical.not_not.1 hp)]; rfl) (by omega)
  obtain ⟨d', f1, f2, f3, f4⟩ := left_loop (i := r) m m d (by omega) (by omega) hle (by omega)
  refine ⟨d', ?_, ⟨f2, f3, fun i hi => ?_, fun i i1 i2 => ?_⟩, fun i j i1 i2 i3 => ?_⟩
  · rw [e1]
    simp only [Option.bind_some]
    unfold slices_symMergeCmpFunc_int_j6 slices_symMergeCmpFunc_int_j7
    rw [f1]; rfl
  · rw [f4, if_neg (by omega), if_neg (by omega)]
  · rw [f4]
    split
    · exact ⟨i - 1, by omega, by omega, rfl⟩
    · split
      · exact ⟨m, by omega, by omega, rfl⟩
      · exact ⟨i, i1, i2, rfl⟩
  · rw [f4, f4]
    by_cases hj : r < j ∧ j ≤ m
    · rw [if_pos hj]
      by_cases hi : r < i ∧ i ≤ m
      · rw [if_pos hi]; exact h.lo _ _ (by omega) (by omega) (by omega)
      · rw [if_neg hi]
        by_cases hie : i = r
        · rw [if_pos hie]; exact .inl (Classical.not_not.1 (e5 _ (by omega) (by omega)))
        · rw [if_neg hie]; exact h.lo _ _ (by omega) (by omega) (by omega)
    · rw [if_neg hj, if_neg (show ¬ (r < i ∧ i ≤ m) by omega), if_neg (show ¬ i = r by omega)]
      by_cases hje : j = r
      · rw [if_pos hje]
        have k1 := e4 i i1 (by omega)
        have k2 := h.ix i m i1 (by omega) (by omega) (by omega)
        unfold lt2; omega
      · rw [if_neg hje]; exact h.lo _ _ (by omega) (by omega) (by omega)
end Go.Proofs.Ytnognpmkhkkkeaa.X
