/- The plain law of stable sorting: insertion by blocks, merges by rotation. No condition. -/
import Derived.Test.YtnognpmkhkkkeaaPu
import Derived.Test.YtnognpmkhkkkeaaFnX
namespace Go.Proofs.Ytnognpmkhkkkeaa.X
open Go Go.RowKit Go.Proofs.Ytnognpmkhkkkeaa.Sx
set_option linter.unusedVariables false
set_option linter.unusedSimpArgs false
def gv (l : List Int) (j : Nat) : Int := l.getD j 0
def sv (l : List Int) (i p : Nat) : List Int := (l.set i (gv l p)).set p (gv l i)
theorem gv_eq {l : List Int} {j : Nat} (h : j < l.length) : gv l j = l[j] := by simp [gv, List.getD, h]
theorem sv_len (l : List Int) (i p : Nat) : (sv l i p).length = l.length := by simp [sv]
theorem gv_set {l : List Int} {i : Nat} {x : Int} (hi : i < l.length) (j : Nat) : gv (l.set i x) j = if j = i then x else gv l j := by
  unfold gv
  rw [List.getD_eq_getElem?_getD, List.getD_eq_getElem?_getD, List.getElem?_set]
  by_cases h : i = j
  · subst h; rw [if_pos rfl, if_pos hi, if_pos rfl]; rfl
  · rw [if_neg h, if_neg (Ne.symm h)]
theorem sv_gv {l : List Int} {i p : Nat} (hi : i < l.length) (hp : p < l.length) (j : Nat) : gv (sv l i p) j = if j = p then gv l i else if j = i then gv l p else gv l j := by
  unfold sv
  rw [gv_set (by simpa using hp), gv_set hi]
theorem sv_perm {l : List Int} {i p : Nat} (hi : i < l.length) (hp : p < l.length) : (sv l i p).Perm l := by
  unfold sv
  rw [gv_eq hi, gv_eq hp]
  exact List.set_set_perm hi hp
theorem idx_gv {l : List Int} {j : Nat} (h : j < l.length) : idx l (j : Int) = some (gv l j) := by rw [idx_get h, gv_eq h]
theorem swp {γ : Type} {d : List Int} {i p : Nat} (hi : i < d.length) (hp : p < d.length) (k : List Int → Option γ) :
    ((idx d (p : Int)).bind fun x => (idx d (i : Int)).bind fun y => (idx d (i : Int)).bind fun _ => (upd d (i : Int) x).bind fun l1 => (idx l1 (p : Int)).bind fun _ => (upd l1 (p : Int) y).bind k) = k (sv d i p) := by
  rw [idx_gv hi, idx_gv hp]
  simp only [Option.bind_some]
  rw [upd_ok hi]
  simp only [Option.bind_some]
  rw [idx_get (by simpa using hp)]
  simp only [Option.bind_some]
  rw [upd_ok (by simpa using hp)]
  rfl
/-- What has changed between two lists lies in [a, b), and there it is a permutation. -/
structure Mv (d d' : List Int) (a b : Nat) : Prop where
  len : d'.length = d.length
  perm : d'.Perm d
  out : ∀ i, i < a ∨ b ≤ i → gv d' i = gv d i
  seg : ∀ i, a ≤ i → i < b → ∃ j, a ≤ j ∧ j < b ∧ gv d' i = gv d j
theorem Mv.refl (d : List Int) (a b : Nat) : Mv d d a b := ⟨rfl, List.Perm.refl _, fun _ _ => rfl, fun i h1 h2 => ⟨i, h1, h2, rfl⟩⟩
theorem Mv.trans {d d' d'' : List Int} {a b : Nat} (h : Mv d d' a b) (h' : Mv d' d'' a b) : Mv d d'' a b := by
  refine ⟨h'.len.trans h.len, h'.perm.trans h.perm, fun i hi => (h'.out i hi).trans (h.out i hi), fun i h1 h2 => ?_⟩
  obtain ⟨j, j1, j2, j3⟩ := h'.seg i h1 h2
  obtain ⟨k, k1, k2, k3⟩ := h.seg j j1 j2
  exact ⟨k, k1, k2, j3.trans k3⟩
theorem Mv.wide {d d' : List Int} {a b a' b' : Nat} (h : Mv d d' a b) (h1 : a' ≤ a) (h2 : b ≤ b') : Mv d d' a' b' := by
  refine ⟨h.len, h.perm, fun i hi => h.out i (by omega), fun i i1 i2 => ?_⟩
  by_cases hi : a ≤ i ∧ i < b
  · obtain ⟨j, j1, j2, j3⟩ := h.seg i hi.1 hi.2
    exact ⟨j, by omega, by omega, j3⟩
  · exact ⟨i, i1, i2, h.out i (by omega)⟩
theorem Mv.swap {d : List Int} {a b i p : Nat} (hb : b ≤ d.length) (hi : a ≤ i) (hi' : i < b) (hp : a ≤ p) (hp' : p < b) : Mv d (sv d i p) a b := by
  refine ⟨sv_len _ _ _, sv_perm (by omega) (by omega), fun j hj => ?_, fun j h1 h2 => ?_⟩
  · rw [sv_gv (by omega) (by omega), if_neg (by omega), if_neg (by omega)]
  · rw [sv_gv (by omega) (by omega)]
    split
    · exact ⟨i, hi, hi', rfl⟩
    · split
      · exact ⟨p, hp, hp', rfl⟩
      · exact ⟨j, h1, h2, rfl⟩
/-! ### The order -/
def ky (l : List Int) (x : Int) : Int := l.getD x.toNat 0
def lt2 (l : List Int) (x y : Int) : Prop := ky l x < ky l y ∨ (ky l x = ky l y ∧ x < y)
theorem lt2.trans {l : List Int} {x y z : Int} (h : lt2 l x y) (h' : lt2 l y z) : lt2 l x z := by unfold lt2 at *; omega
def In (l d : List Int) : Prop := d.length ≤ 4096 ∧ ∀ j, j < d.length → 0 ≤ gv d j ∧ gv d j < (l.length : Int)
theorem In.mv {l d d' : List Int} {a b : Nat} (h : In l d) (hm : Mv d d' a b) (hb : b ≤ d.length) : In l d' := by
  refine ⟨hm.len ▸ h.1, fun j hj => ?_⟩
  rw [hm.len] at hj
  by_cases hi : a ≤ j ∧ j < b
  · obtain ⟨k, k1, k2, k3⟩ := hm.seg j hi.1 hi.2
    rw [k3]; exact h.2 k (by omega)
  · rw [hm.out j (by omega)]; exact h.2 j hj
theorem compare_eq {l : List Int} {x y : Int} (hx : 0 ≤ x ∧ x < (l.length : Int)) (hy : 0 ≤ y ∧ y < (l.length : Int)) :
    ∃ r, tourlaw1_QueueSorts_1 x y l = some r ∧ (decide (r < 0) = decide (ky l x < ky l y)) := by
  unfold tourlaw1_QueueSorts_1
  rw [idx_getD 0 hx.1 hx.2, idx_getD 0 hy.1 hy.2]
  simp only [Option.bind_some]
  rw [cnd_dec, cnd_dec]
  by_cases h : l.getD x.toNat 0 < l.getD y.toNat 0
  · rw [if_pos h]; exact ⟨-1, rfl, decide_eq_decide.2 ⟨fun _ => h, fun _ => by omega⟩⟩
  · rw [if_neg h]
    by_cases h' : l.getD y.toNat 0 < l.getD x.toNat 0
    · rw [if_pos h']; exact ⟨1, rfl, decide_eq_decide.2 ⟨fun h0 => absurd h0 (by omega), fun h0 => absurd h0 h⟩⟩
    · rw [if_neg h']; exact ⟨0, rfl, decide_eq_decide.2 ⟨fun h0 => absurd h0 (by omega), fun h0 => absurd h0 h⟩⟩
def Inc (l d : List Int) (a b : Nat) : Prop := ∀ i j, a ≤ i → i < j → j < b → lt2 l (gv d i) (gv d j)
theorem wm1 {j : Nat} (h0 : 0 < j) (h : j ≤ 20000) : IntKind.i64.wrap ((j : Int) - 1) = ((j - 1 : Nat) : Int) := by rw [i64ok (by omega) (by omega)]; omega
theorem wp1 {j : Nat} (h : j ≤ 20000) : IntKind.i64.wrap ((j : Int) + 1) = ((j + 1 : Nat) : Int) := by rw [i64ok (by omega) (by omega)]; omega
theorem wpl {i j : Nat} (h : i ≤ 20000) (h' : j ≤ 20000) : IntKind.i64.wrap ((i : Int) + (j : Int)) = ((i + j : Nat) : Int) := by rw [i64ok (by omega) (by omega)]; omega
theorem wmn {i j : Nat} (h : i ≤ 20000) (h' : j ≤ i) : IntKind.i64.wrap ((i : Int) - (j : Int)) = ((i - j : Nat) : Int) := by rw [i64ok (by omega) (by omega)]; omega
/-! ### Insertion -/
structure Slide (l d : List Int) (a i j : Nat) : Prop where
  lo : a ≤ j
  hi : j ≤ i
  rest : ∀ p q, a ≤ p → p < q → q ≤ i → p ≠ j → q ≠ j → lt2 l (gv d p) (gv d q)
  up : ∀ q, j < q → q ≤ i → lt2 l (gv d j) (gv d q)
  ix : ∀ p, a ≤ p → p ≤ i → p ≠ j → gv d p < gv d j
theorem Slide.swap {l d : List Int} {a i j : Nat} (h : Slide l d a i j) (hi : i < d.length) (hj : a < j) (hk : ky l (gv d j) < ky l (gv d (j - 1))) : Slide l (sv d j (j - 1)) a i (j - 1) := by
  have hj' : j < d.length := by have := h.hi; omega
  have hp' : j - 1 < d.length := by omega
  have e : ∀ k, gv (sv d j (j - 1)) k = if k = j - 1 then gv d j else if k = j then gv d (j - 1) else gv d k := fun k => sv_gv hj' hp' k
  have h1 := h.hi
  refine ⟨by omega, by omega, fun p q hp hpq hq hpn hqn => ?_, fun q hq hqi => ?_, fun p hp hpi hpn => ?_⟩
  · rw [e, e, if_neg hpn, if_neg hqn]
    by_cases hpj : p = j
    · subst hpj; rw [if_pos rfl, if_neg (by omega)]; exact h.rest (p - 1) q (by omega) (by omega) hq (by omega) (by omega)
    · rw [if_neg hpj]
      by_cases hqj : q = j
      · subst hqj; rw [if_pos rfl]; exact h.rest p (q - 1) hp (by omega) (by omega) (by omega) (by omega)
      · rw [if_neg hqj]; exact h.rest p q hp hpq hq hpj hqj
  · rw [e, e, if_pos rfl, if_neg (by omega)]
    by_cases hqj : q = j
    · subst hqj; rw [if_pos rfl]; exact .inl hk
    · rw [if_neg hqj]; exact h.up q (by omega) hqi
  · rw [e, e, if_pos rfl, if_neg hpn]
    by_cases hpj : p = j
    · subst hpj; rw [if_pos rfl]; exact h.ix (p - 1) (by omega) (by omega) (by omega)
    · rw [if_neg hpj]; exact h.ix p hp hpi hpj
theorem Slide.done {l d : List Int} {a i j : Nat} (h : Slide l d a i j) (hj : a < j → ¬ ky l (gv d j) < ky l (gv d (j - 1))) : Inc l d a (i + 1) := by
  have hlo := h.lo
  have hup := h.hi
  intro p q hp hpq hq
  by_cases hpj : p = j
  · subst hpj; exact h.up q hpq (by omega)
  · by_cases hqj : q = j
    · subst hqj
      have h1 := hj (by omega)
      have h2 := h.ix (q - 1) (by omega) (by omega) (by omega)
      have h3 : lt2 l (gv d (q - 1)) (gv d q) := by unfold lt2; omega
      by_cases h4 : p = q - 1
      · rw [h4]; exact h3
      · exact (h.rest p (q - 1) hp (by omega) (by omega) (by omega) (by omega)).trans h3
    · exact h.rest p q hp hpq (by omega) hpj hqj
theorem ins_in {l : List Int} {a i : Nat} : ∀ (n j : Nat) (d : List Int), j ≤ n → In l d → i < d.length → Slide l d a i j →
    ∃ d', loop (σ := (List Int) × Int) (ρ := (List Int)) (fun s_ => slices_insertionSortCmpFunc_int_l3 (a : Int) l s_.1 s_.2) (d, (j : Int)) = some d' ∧ Mv d d' a (i + 1) ∧ Inc l d' a (i + 1) := by
  intro n
  induction n with
  | zero =>
    intro j d hn hI hi h
    have := h.lo
    refine ⟨d, loop_inr (s := (d, (j : Int))) ?_, Mv.refl _ _ _, h.done (fun h0 => absurd h0 (by omega))⟩
    show slices_insertionSortCmpFunc_int_l3 (a : Int) l d (j : Int) = _
    unfold slices_insertionSortCmpFunc_int_l3
    rw [cnd_dec, if_neg (by omega)]
  | succ n ih =>
    intro j d hn hI hi h
    have hlo := h.lo
    have hup := h.hi
    have hle := hI.1
    by_cases h0 : a < j
    · obtain ⟨r, hr, hr'⟩ := compare_eq (hI.2 j (by omega)) (hI.2 (j - 1) (by omega))
      by_cases hk : ky l (gv d j) < ky l (gv d (j - 1))
      · obtain ⟨d', e1, e2, e3⟩ := ih (j - 1) (sv d j (j - 1)) (by omega) (hI.mv (Mv.swap (a := a) (b := i + 1) (by omega) (by omega) (by omega) (by omega) (by omega)) (by omega)) (by rw [sv_len]; exact hi) (h.swap hi h0 hk)
        refine ⟨d', ?_, (Mv.swap (by omega) (by omega) (by omega) (by omega) (by omega)).trans e2, e3⟩
        refine (loop_inl (s := (d, (j : Int))) ?_).trans e1
        show slices_insertionSortCmpFunc_int_l3 (a : Int) l d (j : Int) = _
        unfold slices_insertionSortCmpFunc_int_l3
        rw [cnd_dec, if_pos (by omega), wm1 (by omega) (by omega)]
        refine Eq.trans ?_ (swp (i := j) (p := j - 1) (d := d) (by omega) (by omega) (fun l94 => slices_insertionSortCmpFunc_int_j4 (j : Int) l94) |>.trans ?_)
        · rw [idx_gv (l := d) (j := j) (by omega), idx_gv (l := d) (j := j - 1) (by omega)]
          simp only [Option.bind_some]
          rw [hr]
          simp only [Option.bind_some]
          rw [hr', decide_eq_true hk]; rfl
        · unfold slices_insertionSortCmpFunc_int_j4; rw [wm1 (by omega) (by omega)]
      · refine ⟨d, loop_inr (s := (d, (j : Int))) ?_, Mv.refl _ _ _, h.done (fun _ => hk)⟩
        show slices_insertionSortCmpFunc_int_l3 (a : Int) l d (j : Int) = _
        unfold slices_insertionSortCmpFunc_int_l3
        rw [cnd_dec, if_pos (by omega), wm1 (by omega) (by omega), idx_gv (by omega), idx_gv (by omega)]
        simp only [Option.bind_some]
        rw [hr]
        simp only [Option.bind_some]
        rw [hr', decide_eq_false hk]; rfl
    · refine ⟨d, loop_inr (s := (d, (j : Int))) ?_, Mv.refl _ _ _, h.done (fun h1 => absurd h1 h0)⟩
      show slices_insertionSortCmpFunc_int_l3 (a : Int) l d (j : Int) = _
      unfold slices_insertionSortCmpFunc_int_l3
      rw [cnd_dec, if_neg (by omega)]
theorem ins_out {l d0 : List Int} {a b : Nat} (hb : b ≤ d0.length) (hix : ∀ i j, a ≤ i → i < j → j < b → gv d0 i < gv d0 j) : ∀ (n i : Nat) (d : List Int), i + n = b → a < i → In l d → Mv d0 d a i → Inc l d a i →
    ∃ d', loop (σ := (List Int) × Int) (ρ := (List Int)) (fun s_ => slices_insertionSortCmpFunc_int_l1 (b : Int) (a : Int) l s_.1 s_.2) (d, (i : Int)) = some d' ∧ Mv d0 d' a b ∧ Inc l d' a b := by
  intro n
  induction n with
  | zero =>
    intro i d hn hai hI hm hinc
    have : i = b := by omega
    subst this
    refine ⟨d, loop_inr (s := (d, (i : Int))) ?_, hm, hinc⟩
    show slices_insertionSortCmpFunc_int_l1 (i : Int) (a : Int) l d (i : Int) = _
    unfold slices_insertionSortCmpFunc_int_l1
    rw [cnd_dec, if_neg (by omega)]
  | succ n ih =>
    intro i d hn hai hI hm hinc
    have hlen := hm.len
    have hle := hI.1
    have hs : Slide l d a i i := by
      refine ⟨by omega, by omega, fun p q h1 h2 h3 h4 h5 => hinc p q h1 h2 (by omega), fun q h1 h2 => absurd h1 (by omega), fun p h1 h2 h3 => ?_⟩
      obtain ⟨j, j1, j2, j3⟩ := hm.seg p h1 (by omega)
      rw [j3, hm.out i (by omega)]
      exact hix j i j1 j2 (by omega)
    obtain ⟨d1, e1, e2, e3⟩ := ins_in (l := l) (a := a) (i := i) i i d (Nat.le_refl _) hI (by omega) hs
    obtain ⟨d', f1, f2, f3⟩ := ih (i + 1) d1 (by omega) (by omega) (hI.mv e2 (by omega)) ((hm.wide (Nat.le_refl _) (by omega)).trans e2) e3
    refine ⟨d', (loop_inl (s := (d, (i : Int))) ?_).trans f1, f2, f3⟩
    show slices_insertionSortCmpFunc_int_l1 (b : Int) (a : Int) l d (i : Int) = _
    unfold slices_insertionSortCmpFunc_int_l1
    rw [cnd_dec, if_pos (by omega), e1]
    simp only [Option.bind_some]
    unfold slices_insertionSortCmpFunc_int_j2
    rw [wp1 (by omega)]
theorem ins_ok {l d : List Int} {a b : Nat} (hab : a ≤ b) (hb : b ≤ d.length) (hI : In l d) (hix : ∀ i j, a ≤ i → i < j → j < b → gv d i < gv d j) :
    ∃ d', slices_insertionSortCmpFunc_int d (a : Int) (b : Int) l = some d' ∧ Mv d d' a b ∧ Inc l d' a b := by
  have hle := hI.1
  unfold slices_insertionSortCmpFunc_int
  rw [wp1 (by omega)]
  by_cases h : a < b
  · obtain ⟨d', e1, e2, e3⟩ := ins_out hb hix (b - (a + 1)) (a + 1) d (by omega) (by omega) hI (Mv.refl _ _ _) (fun i j h1 h2 h3 => absurd h2 (by omega))
    exact ⟨d', by rw [e1]; rfl, e2, e3⟩
  · refine ⟨d, ?_, Mv.refl _ _ _, fun i j h1 h2 h3 => absurd h2 (by omega)⟩
    rw [loop_inr (s := (d, ((a + 1 : Nat) : Int))) (r := d)]; rfl
    show slices_insertionSortCmpFunc_int_l1 (b : Int) (a : Int) l d ((a + 1 : Nat) : Int) = _
    unfold slices_insertionSortCmpFunc_int_l1
    rw [cnd_dec, if_neg (by omega)]
/-! ### Swapping ranges, rotating -/
theorem swr_loop {a b n : Nat} : ∀ (m i : Nat) (d : List Int), i + m = n → d.length ≤ 4096 → a + n ≤ d.length → b + n ≤ d.length → (a + n ≤ b ∨ b + n ≤ a) →
    ∃ d', loop (σ := (List Int) × Int) (ρ := (List Int)) (fun s_ => slices_swapRangeCmpFunc_int_l1 (n : Int) (b : Int) (a : Int) s_.1 s_.2) (d, (i : Int)) = some d' ∧ d'.length = d.length ∧ d'.Perm d ∧ ∀ k, gv d' k = if a + i ≤ k ∧ k < a + n then gv d (k - a + b) else if b + i ≤ k ∧ k < b + n then gv d (k - b + a) else gv d k := by
  intro m
  induction m with
  | zero =>
    intro i d hn hl ha hb hab
    refine ⟨d, loop_inr (s := (d, (i : Int))) ?_, rfl, List.Perm.refl _, fun k => ?_⟩
    · show slices_swapRangeCmpFunc_int_l1 (n : Int) (b : Int) (a : Int) d (i : Int) = _
      unfold slices_swapRangeCmpFunc_int_l1
      rw [cnd_dec, if_neg (by omega)]
    · rw [if_neg (by omega), if_neg (by omega)]
  | succ m ih =>
    intro i d hn hl ha hb hab
    obtain ⟨d', e1, e2, e3, e4⟩ := ih (i + 1) (sv d (a + i) (b + i)) (by omega) (by rw [sv_len]; exact hl) (by rw [sv_len]; exact ha) (by rw [sv_len]; exact hb) hab
    refine ⟨d', (loop_inl (s := (d, (i : Int))) ?_).trans e1, by rw [e2, sv_len], e3.trans (sv_perm (by omega) (by omega)), fun k => ?_⟩
    · show slices_swapRangeCmpFunc_int_l1 (n : Int) (b : Int) (a : Int) d (i : Int) = _
      unfold slices_swapRangeCmpFunc_int_l1
      rw [cnd_dec, if_pos (by omega), wpl (by omega) (by omega), wpl (by omega) (by omega), swp (i := a + i) (p := b + i) (by omega) (by omega)]
      unfold slices_swapRangeCmpFunc_int_j2
      rw [wp1 (by omega)]
    · have e : ∀ k, gv (sv d (a + i) (b + i)) k = if k = b + i then gv d (a + i) else if k = a + i then gv d (b + i) else gv d k := fun k => sv_gv (by omega) (by omega) k
      rw [e4]
      by_cases h1 : a + i ≤ k ∧ k < a + n
      · rw [if_pos h1]
        by_cases h2 : k = a + i
        · rw [if_neg (by omega), if_neg (by omega), e, if_neg (by omega), if_pos h2]
          congr 1; omega
        · rw [if_pos (by omega), e, if_neg (by omega), if_neg (by omega)]
      · rw [if_neg h1, if_neg (by omega)]
        by_cases h3 : b + i ≤ k ∧ k < b + n
        · rw [if_pos h3]
          by_cases h2 : k = b + i
          · rw [if_neg (by omega), e, if_pos h2]
            congr 1; omega
          · rw [if_pos (by omega), e, if_neg (by omega), if_neg (by omega)]
        · rw [if_neg h3, if_neg (by omega), e, if_neg (by omega), if_neg (by omega)]
theorem swr_ok {a b n : Nat} {d l : List Int} (hl : d.length ≤ 4096) (ha : a + n ≤ d.length) (hb : b + n ≤ d.length) (hab : a + n ≤ b ∨ b + n ≤ a) :
    ∃ d', slices_swapRangeCmpFunc_int d (a : Int) (b : Int) (n : Int) l = some d' ∧ d'.length = d.length ∧ d'.Perm d ∧ ∀ k, gv d' k = if a ≤ k ∧ k < a + n then gv d (k - a + b) else if b ≤ k ∧ k < b + n then gv d (k - b + a) else gv d k := by
  obtain ⟨d', e1, e2, e3, e4⟩ := swr_loop (a := a) (b := b) n 0 d (by omega) hl ha hb hab
  refine ⟨d', ?_, e2, e3, e4⟩
  unfold slices_swapRangeCmpFunc_int
  rw [show ((0 : Int)) = ((0 : Nat) : Int) from rfl, e1]; rfl
def rot (d d' : List Int) (m i j : Nat) : Prop := ∀ k, gv d' k = if m - i ≤ k ∧ k < m - i + j then gv d (k + i) else if m - i + j ≤ k ∧ k < m + j then gv d (k - j) else gv d k
theorem rot_loop {m : Nat} {l : List Int} : ∀ (n i j : Nat) (d : List Int), i + j ≤ n → 0 < i → 0 < j → i ≤ m → d.length ≤ 4096 → m + j ≤ d.length →
    ∃ d', (loop (σ := (List Int) × Int × Int) (ρ := (List Int) × Int) (fun s_ => slices_rotateCmpFunc_int_l2 (m : Int) l s_.1 s_.2.1 s_.2.2) (d, (i : Int), (j : Int))).bind (fun e_ => slices_rotateCmpFunc_int_j1 (m : Int) l e_.1 e_.2) = some d' ∧ d'.length = d.length ∧ d'.Perm d ∧ rot d d' m i j := by
  intro n
  induction n with
  | zero => intro i j d h h1 h2; omega
  | succ n ih =>
    intro i j d hn hi hj him hl hm
    rcases Nat.lt_trichotomy i j with h | h | h
    · obtain ⟨d1, e1, e2, e3, e4⟩ := swr_ok (a := m - i) (b := m + j - i) (n := i) (d := d) (l := l) hl (by omega) (by omega) (by omega)
      obtain ⟨d', f1, f2, f3, f4⟩ := ih i (j - i) d1 (by omega) hi (by omega) him (by omega) (by omega)
      refine ⟨d', ?_, by omega, f3.trans e3, fun k => ?_⟩
      · rw [loop_inl (s := (d, (i : Int), (j : Int))) (s' := (d1, (i : Int), ((j - i : Nat) : Int)))]
        · exact f1
        · show slices_rotateCmpFunc_int_l2 (m : Int) l d (i : Int) (j : Int) = _
          unfold slices_rotateCmpFunc_int_l2
          rw [cnd_not, cnd_beq, if_neg (by omega), cnd_dec, if_neg (by omega), wmn (by omega) (by omega), wpl (by omega) (by omega), wmn (by omega) (by omega), e1]
          simp only [Option.bind_some]
          rw [wmn (by omega) (by omega)]
      · rw [f4]
        simp only [e4]
        repeat' split
        all_goals first | rfl | (exfalso; omega) | (congr 1; omega)
    · subst h
      obtain ⟨d1, e1, e2, e3, e4⟩ := swr_ok (a := m - i) (b := m) (n := i) (d := d) (l := l) hl (by omega) (by omega) (by omega)
      refine ⟨d1, ?_, e2, e3, fun k => ?_⟩
      · rw [loop_inr (s := (d, (i : Int), (i : Int))) (r := (d, (i : Int)))]
        · show slices_rotateCmpFunc_int_j1 (m : Int) l d (i : Int) = _
          unfold slices_rotateCmpFunc_int_j1
          rw [wmn (by omega) (by omega), e1]; rfl
        · show slices_rotateCmpFunc_int_l2 (m : Int) l d (i : Int) (i : Int) = _
          unfold slices_rotateCmpFunc_int_l2
          rw [cnd_not, cnd_beq, if_pos rfl]
      · rw [e4]
        repeat' split
        all_goals first | rfl | (exfalso; omega) | (congr 1; omega)
    · obtain ⟨d1, e1, e2, e3, e4⟩ := swr_ok (a := m - i) (b := m) (n := j) (d := d) (l := l) hl (by omega) (by omega) (by omega)
      obtain ⟨d', f1, f2, f3, f4⟩ := ih (i - j) j d1 (by omega) (by omega) hj (by omega) (by omega) (by omega)
      refine ⟨d', ?_, by omega, f3.trans e3, fun k => ?_⟩
      · rw [loop_inl (s := (d, (i : Int), (j : Int))) (s' := (d1, ((i - j : Nat) : Int), (j : Int)))]
        · exact f1
        · show slices_rotateCmpFunc_int_l2 (m : Int) l d (i : Int) (j : Int) = _
          unfold slices_rotateCmpFunc_int_l2
          rw [cnd_not, cnd_beq, if_neg (by omega), cnd_dec, if_pos (by omega), wmn (by omega) (by omega), e1]
          simp only [Option.bind_some]
          rw [wmn (by omega) (by omega)]
      · rw [f4]
        simp only [e4]
        repeat' split
        all_goals first | rfl | (exfalso; omega) | (congr 1; omega)
end Go.Proofs.Ytnognpmkhkkkeaa.X
