/- The plain law of queues: a heap of items. No condition. -/
import Derived.Test.YtnognpmkhkkkeaaPu
import Derived.Test.YtnognpmkhkkkeaaFnX
namespace Go.Proofs.Ytnognpmkhkkkeaa.X
open Go Go.RowKit Go.Proofs.Ytnognpmkhkkkeaa.Sx Go.Proofs.Ytnognpmkhkkkeaa.Rnd Go.Proofs.Ytnognpmkhkkkeaa.Nats Go.Proofs.Ytnognpmkhkkkeaa.Trig Go.Proofs.Ytnognpmkhkkkeaa.Bits
set_option linter.unusedVariables false
set_option linter.unusedSimpArgs false
abbrev It := queue_item_int
def ltI (a b : It) : Prop := a.rank < b.rank ∨ (a.rank = b.rank ∧ a.came < b.came)
instance (a b : It) : Decidable (ltI a b) := by unfold ltI; infer_instance
theorem lt_not {a b : It} (h : ltI a b) : ¬ ltI b a := by unfold ltI at h ⊢; omega
theorem le_trans' {a b c : It} (h1 : ¬ ltI b a) (h2 : ¬ ltI c b) : ¬ ltI c a := by unfold ltI at h1 h2 ⊢; omega
theorem lt_le {a b c : It} (h1 : ltI a b) (h2 : ¬ ltI c b) : ¬ ltI c a := le_trans' (lt_not h1) h2
def gi (l : List It) (j : Nat) : It := l.getD j ⟨0, 0, 0⟩
def sw (l : List It) (i p : Nat) : List It := (l.set i (gi l p)).set p (gi l i)
theorem gi_eq {l : List It} {j : Nat} (h : j < l.length) : gi l j = l[j] := by simp [gi, List.getD, h]
theorem sw_len (l : List It) (i p : Nat) : (sw l i p).length = l.length := by simp [sw]
theorem gi_set {l : List It} {i : Nat} {x : It} (hi : i < l.length) (j : Nat) : gi (l.set i x) j = if j = i then x else gi l j := by
  unfold gi
  rw [List.getD_eq_getElem?_getD, List.getD_eq_getElem?_getD, List.getElem?_set]
  by_cases h : i = j
  · subst h; rw [if_pos rfl, if_pos hi, if_pos rfl]; rfl
  · rw [if_neg h, if_neg (Ne.symm h)]
theorem sw_gi {l : List It} {i p : Nat} (hi : i < l.length) (hp : p < l.length) (j : Nat) : gi (sw l i p) j = if j = p then gi l i else if j = i then gi l p else gi l j := by
  unfold sw
  rw [gi_set (by simpa using hp), gi_set hi]
theorem sw_perm {l : List It} {i p : Nat} (hi : i < l.length) (hp : p < l.length) : (sw l i p).Perm l := by
  unfold sw
  rw [gi_eq hi, gi_eq hp]
  exact List.set_set_perm hi hp
theorem idx_gi {l : List It} {j : Nat} (h : j < l.length) : idx l (j : Int) = some (gi l j) := by rw [idx_get h, gi_eq h]
theorem before_eq {l : List It} {c : Int} {i k : Nat} (hi : i < l.length) (hk : k < l.length) : queue_Queue_int_before l c (i : Int) (k : Int) = some (decide (ltI (gi l i) (gi l k))) := by
  unfold queue_Queue_int_before queue_Queue_int_before_j1
  rw [idx_gi hi, idx_gi hk]
  simp only [Option.bind_some]
  rw [cnd_not, cnd_beq]
  by_cases h : (gi l i).rank = (gi l k).rank
  · rw [if_pos h]
    exact congrArg some (decide_eq_decide.2 (by unfold ltI; omega))
  · rw [if_neg h]
    exact congrArg some (decide_eq_decide.2 (by unfold ltI; omega))
def Heap (l : List It) : Prop := ∀ j, 0 < j → j < l.length → ¬ ltI (gi l j) (gi l ((j - 1) / 2))
theorem Heap.root {l : List It} (h : Heap l) : ∀ j, j < l.length → ¬ ltI (gi l j) (gi l 0) := by
  intro j
  induction j using Nat.strongRecOn with
  | _ j ih =>
    intro hj
    rcases Nat.eq_zero_or_pos j with h0 | h0
    · subst h0; unfold ltI; omega
    · exact le_trans' (ih ((j - 1) / 2) (by omega) (by omega)) (h j h0 hj)
/-! ### Put -/
structure Up (l : List It) (i : Nat) : Prop where
  rest : ∀ j, 0 < j → j < l.length → j ≠ i → ¬ ltI (gi l j) (gi l ((j - 1) / 2))
  kids : ∀ j, 0 < j → j < l.length → (j - 1) / 2 = i → 0 < i → ¬ ltI (gi l j) (gi l ((i - 1) / 2))
theorem Up.swap {l : List It} {i : Nat} (h : Up l i) (hi : i < l.length) (h0 : 0 < i) (hlt : ltI (gi l i) (gi l ((i - 1) / 2))) : Up (sw l i ((i - 1) / 2)) ((i - 1) / 2) := by
  have hp : (i - 1) / 2 < l.length := by omega
  have hne : (i - 1) / 2 ≠ i := by omega
  constructor
  · intro j hj0 hj hjp
    rw [sw_len] at hj
    rw [sw_gi hi hp, sw_gi hi hp, if_neg hjp]
    by_cases hji : j = i
    · subst hji
      rw [if_pos rfl, if_pos rfl]
      exact lt_not hlt
    · rw [if_neg hji]
      by_cases hpi : (j - 1) / 2 = i
      · rw [if_neg (by omega), if_pos hpi]
        exact h.kids j hj0 hj hpi h0
      · by_cases hpp : (j - 1) / 2 = (i - 1) / 2
        · rw [if_pos hpp]
          have := h.rest j hj0 hj hji
          rw [hpp] at this
          exact lt_le hlt this
        · rw [if_neg hpp, if_neg hpi]
          exact h.rest j hj0 hj hji
  · intro j hj0 hj hjp hp0
    rw [sw_len] at hj
    rw [sw_gi hi hp, sw_gi hi hp, if_neg (by omega), if_neg (show ¬ ((i - 1) / 2 - 1) / 2 = (i - 1) / 2 by omega), if_neg (show ¬ ((i - 1) / 2 - 1) / 2 = i by omega)]
    have hpp := h.rest ((i - 1) / 2) hp0 hp hne
    by_cases hji : j = i
    · rw [if_pos hji]; exact hpp
    · rw [if_neg hji]
      have := h.rest j hj0 hj hji
      rw [hjp] at this
      exact le_trans' hpp this
theorem par_eq {i : Nat} (h : 0 < i) (hi : i ≤ 10000) : IntKind.i64.wrap (Int.tdiv (IntKind.i64.wrap ((i : Int) - 1)) 2) = (((i - 1) / 2 : Nat) : Int) := by
  rw [i64ok (x := (i : Int) - 1) (by omega) (by omega), Int.tdiv_eq_ediv_of_nonneg (by omega), i64ok (by omega) (by omega)]; omega
theorem up_loop (c : Int) : ∀ (n i : Nat) (l : List It), i ≤ n → Up l i → i < l.length → l.length ≤ 5000 →
    ∃ l', loop (σ := (List It) × Int × Int) (ρ := (List It) × Int) (fun s_ => queue_Queue_int_Put_l3 s_.1 s_.2.1 s_.2.2) (l, c, (i : Int)) = some (l', c) ∧ l'.Perm l ∧ Heap l' := by
  intro n
  induction n with
  | zero =>
    intro i l hn h hi hl
    have : i = 0 := by omega
    subst this
    refine ⟨l, loop_inr (s := (l, c, ((0 : Nat) : Int))) ?_, List.Perm.refl _, fun j h0 hj => h.rest j h0 hj (by omega)⟩
    show queue_Queue_int_Put_l3 l c ((0 : Nat) : Int) = _
    unfold queue_Queue_int_Put_l3
    rw [cnd_dec, if_neg (by omega)]
  | succ n ih =>
    intro i l hn h hi hl
    by_cases h0 : 0 < i
    · have hp : (i - 1) / 2 < l.length := by omega
      by_cases hlt : ltI (gi l i) (gi l ((i - 1) / 2))
      · have hs : queue_Queue_int_Put_l3 l c (i : Int) = some (.inl (sw l i ((i - 1) / 2), c, (((i - 1) / 2 : Nat) : Int))) := by
          unfold queue_Queue_int_Put_l3
          rw [cnd_dec, if_pos (by omega), par_eq h0 (by omega), before_eq hi hp]
          simp only [Option.bind_some]
          rw [cnd_dec, if_pos hlt, idx_gi hp, idx_gi hi]
          simp only [Option.bind_some]
          rw [upd_ok hi]
          simp only [Option.bind_some]
          rw [idx_gi (by simpa using hp)]
          simp only [Option.bind_some]
          rw [upd_ok (by simpa using hp)]
          simp only [Option.bind_some, queue_Queue_int_Put_j4]
          rw [par_eq h0 (by omega)]; rfl
        obtain ⟨l', h1, h2, h3⟩ := ih ((i - 1) / 2) (sw l i ((i - 1) / 2)) (by omega) (h.swap hi h0 hlt) (by rw [sw_len]; exact hp) (by rw [sw_len]; exact hl)
        exact ⟨l', (loop_inl (s := (l, c, (i : Int))) hs).trans h1, h2.trans (sw_perm hi hp), h3⟩
      · refine ⟨l, loop_inr (s := (l, c, (i : Int))) ?_, List.Perm.refl _, fun j hj0 hj => ?_⟩
        · show queue_Queue_int_Put_l3 l c (i : Int) = _
          unfold queue_Queue_int_Put_l3
          rw [cnd_dec, if_pos (by omega), par_eq h0 (by omega), before_eq hi hp]
          simp only [Option.bind_some]
          rw [cnd_dec, if_neg hlt]
        · by_cases hji : j = i
          · subst hji; exact hlt
          · exact h.rest j hj0 hj hji
    · have : i = 0 := by omega
      subst this
      refine ⟨l, loop_inr (s := (l, c, ((0 : Nat) : Int))) ?_, List.Perm.refl _, fun j h0 hj => h.rest j h0 hj (by omega)⟩
      show queue_Queue_int_Put_l3 l c ((0 : Nat) : Int) = _
      unfold queue_Queue_int_Put_l3
      rw [cnd_dec, if_neg (by omega)]
theorem put_full {l : List It} {c v r : Int} (h : 4096 ≤ l.length) : queue_Queue_int_Put l c v r = some (6, l, c) := by
  unfold queue_Queue_int_Put
  rw [cnd_dec, if_pos (by omega)]
theorem put_heap {l : List It} {v r : Int} {c : Nat} (h : l.length < 4096) (hH : Heap l) (hc : c < 9223372036854775807) :
    ∃ l', queue_Queue_int_Put l (c : Int) v r = some (0, l', ((c + 1 : Nat) : Int)) ∧ l'.Perm (l ++ [⟨v, r, (c : Int)⟩]) ∧ Heap l' := by
  have hlen : (l ++ [(⟨v, r, (c : Int)⟩ : It)]).length = l.length + 1 := by simp
  have hup : Up (l ++ [(⟨v, r, (c : Int)⟩ : It)]) l.length := by
    have hg : ∀ j, j < l.length → gi (l ++ [(⟨v, r, (c : Int)⟩ : It)]) j = gi l j := fun j hj => by unfold gi; rw [List.getD_eq_getElem?_getD, List.getD_eq_getElem?_getD, List.getElem?_append_left hj]
    constructor
    · intro j h0 hj hne
      rw [hlen] at hj
      rw [hg j (by omega), hg _ (by omega)]
      exact hH j h0 (by omega)
    · intro j h0 hj hp _
      rw [hlen] at hj
      omega
  obtain ⟨l', h1, h2, h3⟩ := up_loop ((c + 1 : Nat) : Int) l.length l.length _ (Nat.le_refl _) hup (by omega) (by omega)
  refine ⟨l', ?_, h2, h3⟩
  unfold queue_Queue_int_Put queue_Queue_int_Put_j1
  rw [cnd_dec, if_neg (by omega), app_ok (by simp; omega)]
  simp only [Option.bind_some]
  rw [i64ok (x := (c : Int) + 1) (by omega) (by omega), show (c : Int) + 1 = ((c + 1 : Nat) : Int) by omega, i64ok (x := ((l ++ [(⟨v, r, (c : Int)⟩ : It)]).length : Int) - 1) (by omega) (by omega), show ((l ++ [(⟨v, r, (c : Int)⟩ : It)]).length : Int) - 1 = (l.length : Int) by omega]
  exact congrArg (fun o => o.bind fun e_ : List It × Int => queue_Queue_int_Put_j2 e_.1 e_.2) h1
/-! ### Take -/
structure Down (l : List It) (i : Nat) : Prop where
  rest : ∀ j, 0 < j → j < l.length → (j - 1) / 2 ≠ i → ¬ ltI (gi l j) (gi l ((j - 1) / 2))
  kids : ∀ j, 0 < j → j < l.length → (j - 1) / 2 = i → 0 < i → ¬ ltI (gi l j) (gi l ((i - 1) / 2))
def kid (l : List It) (i : Nat) : Nat := if 2 * i + 2 < l.length ∧ ltI (gi l (2 * i + 2)) (gi l (2 * i + 1)) then 2 * i + 2 else 2 * i + 1
theorem kid_par (l : List It) (i : Nat) : (kid l i - 1) / 2 = i ∧ 0 < kid l i ∧ i < kid l i := by unfold kid; split <;> omega
theorem kid_min {l : List It} {i j : Nat} (hk : kid l i < l.length) (hj0 : 0 < j) (hj : j < l.length) (hp : (j - 1) / 2 = i) : ¬ ltI (gi l j) (gi l (kid l i)) := by
  have hj2 : j = 2 * i + 1 ∨ j = 2 * i + 2 := by omega
  unfold kid at hk ⊢
  by_cases h : 2 * i + 2 < l.length ∧ ltI (gi l (2 * i + 2)) (gi l (2 * i + 1))
  · rw [if_pos h]
    rcases hj2 with rfl | rfl
    · exact lt_not h.2
    · unfold ltI; omega
  · rw [if_neg h]
    rcases hj2 with rfl | rfl
    · unfold ltI; omega
    · exact fun z => h ⟨hj, z⟩
theorem Down.swap {l : List It} {i : Nat} (h : Down l i) (hk : kid l i < l.length) (hlt : ¬ ltI (gi l i) (gi l (kid l i))) : Down (sw l i (kid l i)) (kid l i) := by
  obtain ⟨hpar, hk0, hik⟩ := kid_par l i
  have hi : i < l.length := by omega
  constructor
  · intro j hj0 hj hjp
    rw [sw_len] at hj
    rw [sw_gi hi hk, sw_gi hi hk, if_neg hjp]
    by_cases hjk : j = kid l i
    · rw [if_pos hjk, hjk, hpar, if_pos rfl]; exact hlt
    · rw [if_neg hjk]
      by_cases hpi : (j - 1) / 2 = i
      · rw [if_neg (by omega), if_pos hpi]
        exact kid_min hk hj0 hj hpi
      · rw [if_neg hpi]
        by_cases hji : j = i
        · rw [if_pos hji, hji]
          exact h.kids (kid l i) hk0 hk hpar (by omega)
        · rw [if_neg hji]
          exact h.rest j hj0 hj hpi
  · intro j hj0 hj hjp _
    rw [sw_len] at hj
    rw [sw_gi hi hk, sw_gi hi hk, hpar, if_neg (by omega), if_neg (by omega), if_neg (by omega), if_pos rfl]
    have := h.rest j hj0 hj (by omega)
    rw [hjp] at this
    exact this
theorem take_step {q l : List It} {c : Int} {i : Nat} (hq : q.length = l.length + 1) (hl : l.length ≤ 5000) (hi : i ≤ 5000) :
    queue_Queue_int_Take_l2 q c l (i : Int) = if l.length ≤ kid l i then some (.inr l) else if ltI (gi l i) (gi l (kid l i)) then some (.inr l) else some (.inl (sw l i (kid l i), ((kid l i : Nat) : Int))) := by
  have hn : IntKind.i64.wrap ((q.length : Int) - 1) = (l.length : Int) := by rw [i64ok (by omega) (by omega)]; omega
  have e1 : IntKind.i64.wrap (IntKind.i64.wrap (2 * (i : Int)) + 1) = ((2 * i + 1 : Nat) : Int) := by rw [i64ok (x := 2 * (i : Int)) (by omega) (by omega), i64ok (by omega) (by omega)]; omega
  have e2 : IntKind.i64.wrap (((2 * i + 1 : Nat) : Int) + 1) = ((2 * i + 2 : Nat) : Int) := by rw [i64ok (by omega) (by omega)]; omega
  have j3 : ∀ k : Nat, i < k → queue_Queue_int_Take_j3 q l c (i : Int) (k : Int) = if l.length ≤ k then some (.inr l) else if ltI (gi l i) (gi l k) then some (.inr l) else some (.inl (sw l i k, (k : Int))) := fun k hik => by
    unfold queue_Queue_int_Take_j3
    rw [hn, cnd_dec]
    by_cases hk : l.length ≤ k
    · rw [if_pos (by omega), if_pos hk]
    · have hi' : i < l.length := by omega
      have hk' : k < l.length := by omega
      rw [if_neg (by omega), if_neg hk, before_eq hi' hk']
      simp only [Option.bind_some]
      rw [cnd_dec]
      by_cases hlt : ltI (gi l i) (gi l k)
      · rw [if_pos hlt, if_pos hlt]
      · rw [if_neg hlt, if_neg hlt, idx_gi hk', idx_gi hi']
        simp only [Option.bind_some]
        rw [upd_ok hi']
        simp only [Option.bind_some]
        rw [idx_gi (by simpa using hk')]
        simp only [Option.bind_some]
        rw [upd_ok (by simpa using hk')]
        rfl
  unfold queue_Queue_int_Take_l2
  rw [hn, e1, e2, cnd_dec]
  by_cases h2 : 2 * i + 2 < l.length
  · rw [if_pos (by omega)]
    simp only [Option.bind_some]
    rw [before_eq h2 (by omega)]
    simp only [Option.bind_some]
    rw [cnd_dec]
    by_cases hlt : ltI (gi l (2 * i + 2)) (gi l (2 * i + 1))
    · have hk : kid l i = 2 * i + 2 := if_pos ⟨h2, hlt⟩
      rw [if_pos hlt, hk, j3 _ (by omega)]
    · have hk : kid l i = 2 * i + 1 := if_neg (fun z => hlt z.2)
      rw [if_neg hlt, hk, j3 _ (by omega)]
  · have hk : kid l i = 2 * i + 1 := if_neg (fun z => h2 z.1)
    rw [if_neg (by omega), hk, j3 _ (by omega)]
theorem down_loop {q : List It} (c : Int) : ∀ (d i : Nat) (l : List It), l.length ≤ i + d → q.length = l.length + 1 → l.length ≤ 5000 → i ≤ 5000 → Down l i →
    ∃ l', loop (σ := (List It) × Int) (ρ := (List It)) (fun s_ => queue_Queue_int_Take_l2 q c s_.1 s_.2) (l, (i : Int)) = some l' ∧ l'.Perm l ∧ Heap l' := by
  intro d
  induction d with
  | zero =>
    intro i l hd hq hl hi h
    obtain ⟨hpar, hk0, hik⟩ := kid_par l i
    refine ⟨l, loop_inr (s := (l, (i : Int))) ((take_step hq hl hi).trans (if_pos (by omega))), List.Perm.refl _, fun j h0 hj => h.rest j h0 hj (by omega)⟩
  | succ d ih =>
    intro i l hd hq hl hi h
    obtain ⟨hpar, hk0, hik⟩ := kid_par l i
    have hs := take_step (c := c) hq hl hi
    by_cases hk : l.length ≤ kid l i
    · rw [if_pos hk] at hs
      refine ⟨l, loop_inr (s := (l, (i : Int))) hs, List.Perm.refl _, fun j h0 hj => ?_⟩
      refine h.rest j h0 hj (fun hp => ?_)
      unfold kid at hk
      split at hk
      · rename_i hc; omega
      · omega
    · rw [if_neg hk] at hs
      by_cases hlt : ltI (gi l i) (gi l (kid l i))
      · rw [if_pos hlt] at hs
        refine ⟨l, loop_inr (s := (l, (i : Int))) hs, List.Perm.refl _, fun j h0 hj => ?_⟩
        by_cases hp : (j - 1) / 2 = i
        · rw [hp]; exact lt_le hlt (kid_min (by omega) h0 hj hp)
        · exact h.rest j h0 hj hp
      · rw [if_neg hlt] at hs
        obtain ⟨l', h1, h2, h3⟩ := ih (kid l i) (sw l i (kid l i)) (by rw [sw_len]; omega) (by rw [sw_len]; exact hq) (by rw [sw_len]; exact hl) (by omega) (h.swap (by omega) hlt)
        exact ⟨l', (loop_inl (s := (l, (i : Int))) hs).trans h1, h2.trans (sw_perm (by omega) (by omega)), h3⟩
theorem take_none {c : Int} : queue_Queue_int_Take [] c = some (0, 0, 4, []) := by
  unfold queue_Queue_int_Take
  rw [cnd_dec, if_pos (by decide)]
theorem take_heap {l : List It} {c : Int} (h0 : 0 < l.length) (h : l.length ≤ 4096) (hH : Heap l) :
    ∃ l', queue_Queue_int_Take l c = some ((gi l 0).v, (gi l 0).rank, 0, l') ∧ (gi l 0 :: l').Perm l ∧ Heap l' := by
  have hn : IntKind.i64.wrap ((l.length : Int) - 1) = ((l.length - 1 : Nat) : Int) := by rw [i64ok (by omega) (by omega)]; omega
  have hw : ∃ l2, ((l.set 0 (gi l (l.length - 1))).set (l.length - 1) ⟨0, 0, 0⟩).take (l.length - 1) = l2 ∧ l.length = l2.length + 1 ∧ (gi l 0 :: l2).Perm l ∧ Down l2 0 := by
    match l, h0, hH with
    | a :: t, _, hH =>
      rcases List.eq_nil_or_concat t with rfl | ⟨s, b, rfl⟩
      · exact ⟨[], by simp, by simp, by simp [gi], ⟨fun j _ hj => by simp at hj, fun j _ hj => by simp at hj⟩⟩
      · refine ⟨b :: s, ?_, by simp, ?_, ⟨fun j hj0 hj hp => ?_, fun j _ _ _ hz => by omega⟩⟩
        · simp [gi, List.getD, List.set_append]
        · have : gi (a :: (s ++ [b])) 0 = a := rfl
          rw [List.concat_eq_append, this]
          exact List.Perm.cons a (List.perm_append_comm (l₁ := [b]) (l₂ := s))
        · have hg : ∀ k, 0 < k → k < s.length + 1 → gi (b :: s) k = gi (a :: (s ++ [b])) k := fun k hk0 hk => by
            obtain ⟨m, rfl⟩ : ∃ m, k = m + 1 := ⟨k - 1, by omega⟩
            unfold gi
            rw [List.getD_eq_getElem?_getD, List.getD_eq_getElem?_getD, List.getElem?_cons_succ, List.getElem?_cons_succ, List.getElem?_append_left (by omega)]
          simp only [List.length_cons] at hj
          rw [hg j hj0 hj, hg _ (by omega) (by omega)]
          have := hH j hj0 (by simp; omega)
          simpa using this
  obtain ⟨l2, e2, hlen, hperm, hdown⟩ := hw
  obtain ⟨l', h1, h2, h3⟩ := down_loop (q := l) c l2.length 0 l2 (by omega) hlen (by omega) (by omega) hdown
  refine ⟨l', ?_, (List.Perm.cons _ h2).trans hperm, h3⟩
  unfold queue_Queue_int_Take
  rw [cnd_dec, hn, if_neg (by omega), show (0 : Int) = ((0 : Nat) : Int) from rfl, idx_gi h0, idx_gi (show l.length - 1 < l.length by omega)]
  simp only [Option.bind_some]
  rw [upd_ok h0]
  simp only [Option.bind_some]
  rw [idx_get (by simp; omega)]
  simp only [Option.bind_some]
  rw [upd_ok (by simp; omega)]
  simp only [Option.bind_some]
  rw [cut_ok (by omega) (by omega) (by simp)]
  simp only [Option.bind_some, Int.toNat_natCast, List.drop_zero, Nat.sub_zero]
  have h1' : loop (σ := (List It) × Int) (ρ := (List It)) (fun s_ => queue_Queue_int_Take_l2 l c s_.1 s_.2) (((l.set 0 (gi l (l.length - 1))).set (l.length - 1) ⟨0, 0, 0⟩).take (l.length - 1), ((0 : Nat) : Int)) = some l' := by rw [e2]; exact h1
  exact congrArg (fun o => o.bind fun e_ : List It => queue_Queue_int_Take_j1 (gi l 0) e_) h1'
end Go.Proofs.Ytnognpmkhkkkeaa.X
