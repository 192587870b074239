/- The plain law of queues: a list of calls. No condition. -/
import Derived.Test.YtfihfbkjomploaaPuHeap
namespace Go.Proofs.Ytfihfbkjomploaa.X
open Go Go.RowKit Go.Proofs.Ytfihfbkjomploaa.Sx Go.Proofs.Ytfihfbkjomploaa.Rnd Go.Proofs.Ytfihfbkjomploaa.Nats Go.Proofs.Ytfihfbkjomploaa.Trig Go.Proofs.Ytfihfbkjomploaa.Bits
set_option linter.unusedVariables false
set_option linter.unusedSimpArgs false
theorem bnd4_some {α β γ δ ε : Type} {a : α} {b : β} {c : γ} {d : δ} {f : α → β → γ → δ → Option ε} : bnd4 (some (a, b, c, d)) f = f a b c d := rfl
/-! ### What comes first -/
abbrev Wt := tourref1_Waiting
def rk (m : List Wt) (j : Nat) : Int := (m.getD j ⟨0, 0⟩).Rank
theorem rk_eq {m : List Wt} {j : Nat} (h : j < m.length) : rk m j = m[j].Rank := by simp [rk, List.getD, h]
structure First (m : List Wt) (k n : Nat) : Prop where
  lt : k < m.length
  le : k ≤ n
  min : ∀ j, j < n → rk m k ≤ rk m j
  fst : ∀ j, j < n → j < k → rk m k < rk m j
theorem taken_loop {m : List Wt} (hm : m.length ≤ 5000) : ∀ (d i k : Nat), i + d = m.length → First m k i → ∃ k', First m k' m.length ∧
    loop (σ := Int × Int) (ρ := Int) (fun s_ => tourref1_Taken_l2 m s_.1 s_.2) ((k : Int), (i : Int)) = some (k' : Int) := by
  intro d
  induction d with
  | zero =>
    intro i k hi h
    have : i = m.length := by omega
    subst this
    exact ⟨k, h, loop_inr (s := ((k : Int), (m.length : Int))) (by
      show tourref1_Taken_l2 m (k : Int) (m.length : Int) = _
      unfold tourref1_Taken_l2; rw [cnd_dec, if_neg (by omega)])⟩
  | succ d ih =>
    intro i k hi h
    have hil : i < m.length := by omega
    have hs : tourref1_Taken_l2 m (k : Int) (i : Int) = some (.inl (if rk m i < rk m k then (i : Int) else (k : Int), ((i + 1 : Nat) : Int))) := by
      unfold tourref1_Taken_l2
      rw [cnd_dec, if_pos (by omega), idx_get hil, idx_get h.lt]
      simp only [Option.bind_some]
      rw [cnd_dec, rk_eq hil, rk_eq h.lt]
      have w : IntKind.i64.wrap ((i : Int) + 1) = ((i + 1 : Nat) : Int) := by rw [i64ok (by omega) (by omega)]; omega
      unfold tourref1_Taken_j3
      rw [w]
      split <;> rfl
    by_cases hlt : rk m i < rk m k
    · rw [if_pos hlt] at hs
      obtain ⟨k', h1, h2⟩ := ih (i + 1) i (by omega) ⟨hil, by omega, fun j hj => by
        rcases Nat.lt_or_ge j i with hji | hji
        · have := h.min j hji; omega
        · have : j = i := by omega
          subst this; omega, fun j hj hji => by have := h.min j hji; omega⟩
      exact ⟨k', h1, (loop_inl (s := ((k : Int), (i : Int))) hs).trans h2⟩
    · rw [if_neg hlt] at hs
      obtain ⟨k', h1, h2⟩ := ih (i + 1) k (by omega) ⟨h.lt, by have := h.le; omega, fun j hj => by
        rcases Nat.lt_or_ge j i with hji | hji
        · exact h.min j hji
        · have : j = i := by omega
          subst this; omega, fun j hj hjk => by
        rcases Nat.lt_or_ge j i with hji | hji
        · exact h.fst j hji hjk
        · have := h.le; omega⟩
      exact ⟨k', h1, (loop_inl (s := ((k : Int), (i : Int))) hs).trans h2⟩
theorem taken_eq {m : List Wt} (h0 : 0 < m.length) (hm : m.length ≤ 5000) : ∃ k, First m k m.length ∧ tourref1_Taken m = some (k : Int) := by
  obtain ⟨k, h1, h2⟩ := taken_loop hm m.length 0 0 (by omega) ⟨h0, by omega, fun j hj => by omega, fun j hj => by omega⟩
  exact ⟨k, h1, congrArg (fun o => o.bind fun e_ : Int => tourref1_Taken_j1 e_) h2⟩
/-! ### A heap, and the list in the order in which its items came -/
def asW (x : It) : Wt := ⟨x.v, x.rank⟩
def RelQ (h : List It) (m : List Wt) (c : Nat) : Prop := ∃ p : List It, p.map asW = m ∧ p.Pairwise (fun a b => a.came < b.came) ∧ h.Perm p ∧ ∀ x ∈ p, x.came < (c : Int)
theorem RelQ.len {h : List It} {m : List Wt} {c : Nat} (hr : RelQ h m c) : h.length = m.length := by
  obtain ⟨p, e, _, hp, _⟩ := hr
  rw [hp.length_eq, ← e, List.length_map]
theorem RelQ.put {h h' : List It} {m : List Wt} {c : Nat} {v r : Int} (hr : RelQ h m c) (hp' : h'.Perm (h ++ [⟨v, r, (c : Int)⟩])) : RelQ h' (m ++ [⟨v, r⟩]) (c + 1) := by
  obtain ⟨p, e, hw, hp, hc⟩ := hr
  refine ⟨p ++ [⟨v, r, (c : Int)⟩], ?_, ?_, hp'.trans (hp.append_right _), fun x hx => ?_⟩
  · rw [List.map_append, e]; rfl
  · rw [List.pairwise_append]
    refine ⟨hw, List.pairwise_singleton _ _, fun a ha b hb => ?_⟩
    rw [List.mem_singleton.1 hb]
    exact hc a ha
  · rcases List.mem_append.1 hx with hx | hx
    · have := hc x hx; omega
    · rw [List.mem_singleton.1 hx]; show (c : Int) < _; omega
theorem RelQ.first {h : List It} {m : List Wt} {c k : Nat} (hr : RelQ h m c) (hH : Heap h) (hk : First m k m.length) :
    m[k]'hk.lt = ⟨(gi h 0).v, (gi h 0).rank⟩ ∧ ∀ h', (gi h 0 :: h').Perm h → RelQ h' (m.take k ++ m.drop (k + 1)) c := by
  have hlen := hr.len
  obtain ⟨p, e, hw, hp, hc⟩ := hr
  subst e
  have hpl : (p.map asW).length = p.length := List.length_map ..
  have hkl : k < p.length := by have := hk.lt; omega
  have h0 : 0 < h.length := by omega
  have hrk : ∀ j (hj : j < p.length), rk (p.map asW) j = p[j].rank := fun j hj => by rw [rk_eq (by omega)]; simp [asW]
  have hmem : gi h 0 ∈ p := by rw [gi_eq h0]; exact hp.mem_iff.1 (List.getElem_mem h0)
  obtain ⟨k0, hk0, e0⟩ := List.getElem_of_mem hmem
  have hpk : p[k] ∈ h := hp.mem_iff.2 (List.getElem_mem hkl)
  obtain ⟨j0, hj0, ej⟩ := List.getElem_of_mem hpk
  have hmin : ¬ ltI p[k] (gi h 0) := by have := hH.root j0 hj0; rwa [gi_eq hj0, ej] at this
  have r1 := hk.min k0 (by omega)
  rw [hrk k hkl, hrk k0 hk0] at r1
  rw [← e0] at hmin
  have hkk : k0 = k := by
    rcases Nat.lt_trichotomy k0 k with hlt | heq | hgt
    · have := hk.fst k0 (by omega) hlt
      rw [hrk k hkl, hrk k0 hk0] at this
      unfold ltI at hmin; omega
    · exact heq
    · have := List.pairwise_iff_getElem.1 hw k k0 hkl hk0 hgt
      unfold ltI at hmin; omega
  subst hkk
  refine ⟨by rw [← e0]; simp [asW], fun h' hh => ⟨p.eraseIdx k0, ?_, hw.sublist (List.eraseIdx_sublist _ _), ?_, fun x hx => hc x ((List.eraseIdx_sublist _ _).subset hx)⟩⟩
  · rw [List.eraseIdx_eq_take_drop_succ, List.map_append, List.map_take, List.map_drop]
  · have h1 : p.Perm (p[k0] :: p.eraseIdx k0) := by
      rw [List.eraseIdx_eq_take_drop_succ]
      have e2 : p = p.take k0 ++ p[k0] :: p.drop (k0 + 1) := by rw [← List.drop_eq_getElem_cons hkl, List.take_append_drop]
      exact (List.Perm.of_eq e2).trans List.perm_middle
    rw [← e0] at hh
    exact ((hh.trans hp).trans h1).cons_inv
/-! ### The law -/
theorem qbegun_eq : tourlaw1_queueBegun = some true := by
  have p1 : queue_Queue_string_Put [] 0 ⟨#[98]⟩ 2 = some (0, [⟨⟨#[98]⟩, 2, 0⟩], 1) := by
    have : loop (σ := (List queue_item_string) × Int × Int) (ρ := (List queue_item_string) × Int) (fun s_ => queue_Queue_string_Put_l3 s_.1 s_.2.1 s_.2.2) ([⟨⟨#[98]⟩, 2, 0⟩], 1, 0) = some ([⟨⟨#[98]⟩, 2, 0⟩], 1) := loop_inr (s := (([⟨⟨#[98]⟩, 2, 0⟩] : List queue_item_string), (1 : Int), (0 : Int))) rfl
    exact congrArg (fun o => o.bind fun e_ : List queue_item_string × Int => queue_Queue_string_Put_j2 e_.1 e_.2) this
  have p2 : queue_Queue_string_Put [⟨⟨#[98]⟩, 2, 0⟩] 1 ⟨#[97]⟩ 1 = some (0, [⟨⟨#[97]⟩, 1, 1⟩, ⟨⟨#[98]⟩, 2, 0⟩], 2) := by
    have : loop (σ := (List queue_item_string) × Int × Int) (ρ := (List queue_item_string) × Int) (fun s_ => queue_Queue_string_Put_l3 s_.1 s_.2.1 s_.2.2) ([⟨⟨#[98]⟩, 2, 0⟩, ⟨⟨#[97]⟩, 1, 1⟩], 2, 1) = some ([⟨⟨#[97]⟩, 1, 1⟩, ⟨⟨#[98]⟩, 2, 0⟩], 2) :=
      (loop_inl (s := (([⟨⟨#[98]⟩, 2, 0⟩, ⟨⟨#[97]⟩, 1, 1⟩] : List queue_item_string), (2 : Int), (1 : Int))) (s' := (([⟨⟨#[97]⟩, 1, 1⟩, ⟨⟨#[98]⟩, 2, 0⟩] : List queue_item_string), (2 : Int), (0 : Int))) rfl).trans (loop_inr (s := (([⟨⟨#[97]⟩, 1, 1⟩, ⟨⟨#[98]⟩, 2, 0⟩] : List queue_item_string), (2 : Int), (0 : Int))) rfl)
    exact congrArg (fun o => o.bind fun e_ : List queue_item_string × Int => queue_Queue_string_Put_j2 e_.1 e_.2) this
  have p3 : queue_Queue_string_Take [⟨⟨#[97]⟩, 1, 1⟩, ⟨⟨#[98]⟩, 2, 0⟩] 2 = some (⟨#[97]⟩, 1, 0, [⟨⟨#[98]⟩, 2, 0⟩]) := by
    have : loop (σ := (List queue_item_string) × Int) (ρ := (List queue_item_string)) (fun s_ => queue_Queue_string_Take_l2 [⟨⟨#[97]⟩, 1, 1⟩, ⟨⟨#[98]⟩, 2, 0⟩] 2 s_.1 s_.2) ([⟨⟨#[98]⟩, 2, 0⟩], 0) = some [⟨⟨#[98]⟩, 2, 0⟩] := loop_inr (s := (([⟨⟨#[98]⟩, 2, 0⟩] : List queue_item_string), (0 : Int))) rfl
    exact congrArg (fun o => o.bind fun e_ : List queue_item_string => queue_Queue_string_Take_j1 ⟨⟨#[97]⟩, 1, 1⟩ e_) this
  unfold tourlaw1_queueBegun
  rw [p1, bnd3_some, p2, bnd3_some, p3, bnd4_some, cnd_beq, if_pos rfl, cnd_beq, if_pos rfl, cnd_beq, if_pos rfl]
  rfl
theorem first_none {c : Int} : queue_Queue_int_First [] c = some (0, 0, 4) := rfl
theorem first_some {h : List It} {c : Int} (h0 : 0 < h.length) : queue_Queue_int_First h c = some ((gi h 0).v, (gi h 0).rank, 0) := by
  unfold queue_Queue_int_First
  rw [cnd_beq, if_neg (by omega), show (0 : Int) = ((0 : Nat) : Int) from rfl, idx_gi h0]
  rfl
theorem plays_loop (l : List (Int × Int × Int)) (hl : l.length ≤ 140737488351232) : ∀ (d i c : Nat) (h : List It) (m : List Wt), i + d = l.length → c ≤ i → h.length ≤ 4096 → Heap h → RelQ h m c →
    (loop (σ := (List It) × Int × (List Wt) × Int) (ρ := (Bool ⊕ Unit)) (fun s_ => tourlaw1_QueuePlays_l2 l s_.1 s_.2.1 s_.2.2.1 s_.2.2.2) (h, (c : Int), m, (i : Int))).bind (Sum.elim (fun e_ => some e_) (fun e_ => tourlaw1_QueuePlays_j1)) = some true := by
  intro d
  induction d with
  | zero =>
    intro i c h m hi hc hh hH hr
    rw [loop_inr (s := (h, (c : Int), m, (i : Int))) (r := .inr ()) (by
      show tourlaw1_QueuePlays_l2 l h (c : Int) m (i : Int) = _
      unfold tourlaw1_QueuePlays_l2; rw [cnd_dec, if_neg (by omega)])]
    rfl
  | succ d ih =>
    intro i c h m hi hc hh hH hr
    have hlt : i < l.length := by omega
    have hlen := hr.len
    have w : IntKind.i64.wrap ((i : Int) + 1) = ((i + 1 : Nat) : Int) := by rw [i64ok (by omega) (by omega)]; omega
    have fin : ∀ (h' : List It) (c' : Nat) (m' : List Wt), h'.length = m'.length → tourlaw1_QueuePlays_j3 (i : Int) h' (c' : Int) m' = some (.inl (h', (c' : Int), m', ((i + 1 : Nat) : Int))) := fun h' c' m' e => by
      unfold tourlaw1_QueuePlays_j3 queue_Queue_int_Len
      simp only [Option.bind_some]
      rw [cnd_not, cnd_beq, e, if_pos rfl, w]
    have hs : ∃ (h' : List It) (c' : Nat) (m' : List Wt), c' ≤ i + 1 ∧ h'.length ≤ 4096 ∧ Heap h' ∧ RelQ h' m' c' ∧ tourlaw1_QueuePlays_l2 l h (c : Int) m (i : Int) = some (.inl (h', (c' : Int), m', ((i + 1 : Nat) : Int))) := by
      unfold tourlaw1_QueuePlays_l2
      rw [cnd_dec, if_pos (by omega), idx_get hlt]
      simp only [Option.bind_some]
      rw [cnd_beq]
      by_cases h0 : l[i].2.2 = 0
      · rw [if_pos h0]
        by_cases hf : 4096 ≤ h.length
        · rw [put_full hf, bnd3_some, cnd_dec, if_pos (by omega), cnd_not, cnd_beq, if_pos rfl]
          exact ⟨h, c, m, by omega, hh, hH, hr, fin _ _ _ hlen⟩
        · obtain ⟨h', e1, e2, e3⟩ := put_heap (l := h) (v := l[i].1) (r := l[i].2.1) (c := c) (by omega) hH (by omega)
          have hr' := hr.put e2
          rw [e1, bnd3_some, cnd_dec, if_neg (by omega), app_ok (by simp; omega)]
          simp only [Option.bind_some]
          rw [cnd_not, cnd_beq, if_pos rfl]
          exact ⟨h', c + 1, _, by omega, by rw [e2.length_eq]; simp; omega, e3, hr', fin _ _ _ hr'.len⟩
      · rw [if_neg h0]
        by_cases hz : h.length = 0
        · have hn : h = [] := List.eq_nil_of_length_eq_zero hz
          have hmn : m = [] := List.eq_nil_of_length_eq_zero (by omega)
          subst hn hmn
          have j4 : tourlaw1_QueuePlays_j4 [] (i : Int) (c : Int) l[i] [] 0 0 4 = some (.inl ([], (c : Int), [], ((i + 1 : Nat) : Int))) := by
            unfold tourlaw1_QueuePlays_j4
            rw [cnd_beq, if_pos (show (([] : List Wt).length : Int) = 0 from rfl), cnd_not, cnd_beq, if_pos rfl, cnd_not, cnd_beq, if_pos rfl, cnd_not, cnd_beq, if_pos rfl]
            exact fin _ _ _ rfl
          refine ⟨[], c, [], by omega, by simp, hH, hr, ?_⟩
          rw [first_none, bnd3_some, cnd_not, cnd_beq]
          by_cases h1 : l[i].2.2 = 1
          · rw [if_pos h1]; exact j4
          · rw [if_neg h1, take_none, bnd4_some]; exact j4
        · obtain ⟨k, hk, ek⟩ := taken_eq (m := m) (by omega) (by omega)
          obtain ⟨hmk, hdel⟩ := hr.first hH hk
          have hkl := hk.lt
          have j4 : ∀ h' : List It, tourlaw1_QueuePlays_j4 m (i : Int) (c : Int) l[i] h' (gi h 0).v (gi h 0).rank 0 = if l[i].2.2 = 1 then tourlaw1_QueuePlays_j3 (i : Int) h' (c : Int) m else tourlaw1_QueuePlays_j3 (i : Int) h' (c : Int) (m.take k ++ m.drop (k + 1)) := fun h' => by
            unfold tourlaw1_QueuePlays_j4
            rw [cnd_beq, if_neg (by omega), ek]
            simp only [Option.bind_some]
            rw [cnd_not, cnd_beq, if_pos rfl, idx_get hkl, hmk]
            simp only [Option.bind_some]
            rw [cnd_not, cnd_beq, if_pos rfl, cnd_not, cnd_beq, if_pos rfl, cnd_not, cnd_beq, i64ok (by omega) (by omega)]
            by_cases h1 : l[i].2.2 = 1
            · rw [if_pos h1, if_pos h1]
            · rw [if_neg h1, if_neg h1]
              unfold slices_Delete_tourref1_Waiting_tourref1_Waiting del
              rw [if_pos ⟨by omega, by omega, by omega⟩, show ((k : Int) + 1).toNat = k + 1 by omega, Int.toNat_natCast]
              rfl
          rw [first_some (by omega), bnd3_some, cnd_not, cnd_beq]
          by_cases h1 : l[i].2.2 = 1
          · rw [if_pos h1, j4, if_pos h1]
            exact ⟨h, c, m, by omega, hh, hH, hr, fin _ _ _ hlen⟩
          · obtain ⟨h', e1, e2, e3⟩ := take_heap (l := h) (c := (c : Int)) (by omega) hh hH
            have hr' := hdel h' e2
            have hl' := e2.length_eq
            simp only [List.length_cons] at hl'
            rw [if_neg h1, e1, bnd4_some, j4, if_neg h1]
            exact ⟨h', c, _, by omega, by omega, e3, hr', fin _ _ _ hr'.len⟩
    obtain ⟨h', c', m', a1, a2, a3, a4, hs⟩ := hs
    rw [loop_inl (s := (h, (c : Int), m, (i : Int))) hs]
    exact ih (i + 1) c' h' m' (by omega) a1 a2 a3 a4
theorem QueuePlays_true (l : List (Int × Int × Int)) (h0 : (okl 24 ok_arr3_Int) l) : tourlaw1_QueuePlays l = some true := by
  unfold tourlaw1_QueuePlays
  rw [qbegun_eq]
  simp only [Option.bind_some]
  rw [cnd_not, cnd_true]
  exact plays_loop l (by have := h0.1; omega) l.length 0 0 [] [] (by omega) (by omega) (by simp) (fun j _ hj => by simp at hj) ⟨[], rfl, List.Pairwise.nil, List.Perm.refl _, by simp⟩
end Go.Proofs.Ytfihfbkjomploaa.X
