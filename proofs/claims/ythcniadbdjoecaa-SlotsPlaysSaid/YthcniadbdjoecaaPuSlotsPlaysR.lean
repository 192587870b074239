/- SlotsPlays, in plain Lean: slots do what the reference's room does, call after call. No condition. -/
import Derived.Test.YthcniadbdjoecaaPuSlotsOpsR
namespace Go.Proofs.Ythcniadbdjoecaa.R
open Go Go.RowKit Go.Proofs.Ythcniadbdjoecaa.Sx
set_option linter.unusedVariables false
set_option linter.unusedSimpArgs false
/-- Slots and the reference's room that tell the same. -/
structure Rel (g us fs : List Int) (ru : List Bool) : Prop where
  len : ru.length = g.length
  top : g.length ≤ 256
  cu : Canon us
  cf : Canon fs
  bu : ∀ n, bt us n = ru.getD n false
  bf : ∀ n, bt fs n = (decide (n < g.length) && !ru.getD n false && decide (g.getD n 0 < 1073741824))
  lo : ∀ n, 0 ≤ g.getD n 0
  hi : ∀ n, ru.getD n false = true → g.getD n 0 < 1073741824
theorem gd_at {l : List Int} {n : Nat} (h : n < l.length) : l.getD n 0 = l[n] := by rw [List.getD_eq_getElem?_getD, List.getElem?_eq_getElem h]; rfl
theorem gb_at {l : List Bool} {n : Nat} (h : n < l.length) : l.getD n false = l[n] := by rw [List.getD_eq_getElem?_getD, List.getElem?_eq_getElem h]; rfl
theorem gb_out {l : List Bool} {n : Nat} (h : l.length ≤ n) : l.getD n false = false := by rw [List.getD_eq_getElem?_getD, List.getElem?_eq_none h]; rfl
theorem gd_out {l : List Int} {n : Nat} (h : l.length ≤ n) : l.getD n 0 = 0 := by rw [List.getD_eq_getElem?_getD, List.getElem?_eq_none h]; rfl
theorem gd_set {l : List Int} {q k : Nat} {x : Int} (hq : q < l.length) : (l.set q x).getD k 0 = if k = q then x else l.getD k 0 := by
  simp only [List.getD_eq_getElem?_getD, List.getElem?_set]
  by_cases e : q = k
  · rw [if_pos e, if_pos e.symm, if_pos (by omega)]; rfl
  · rw [if_neg e, if_neg (fun h => e h.symm)]
theorem gb_set {l : List Bool} {q k : Nat} {x : Bool} (hq : q < l.length) : (l.set q x).getD k false = if k = q then x else l.getD k false := by
  simp only [List.getD_eq_getElem?_getD, List.getElem?_set]
  by_cases e : q = k
  · rw [if_pos e, if_pos e.symm, if_pos (by omega)]; rfl
  · rw [if_neg e, if_neg (fun h => e h.symm)]
theorem gb_snoc (l : List Bool) (x : Bool) (k : Nat) : (l ++ [x]).getD k false = if k = l.length then x else l.getD k false := by
  simp only [List.getD_eq_getElem?_getD, List.getElem?_append]
  by_cases h : k < l.length
  · rw [if_pos h, if_neg (by omega)]
  · rw [if_neg h]
    by_cases e : k = l.length
    · subst e; simp
    · rw [if_neg e, List.getElem?_eq_none (by simp; omega), List.getElem?_eq_none (by omega)]
section
variable {g us fs : List Int} {ru : List Bool}
/-! ### Looks -/
theorem Rel.has (h : Rel g us fs ru) {i : Int} (hi : i < 9223372036854775808) : sets_Set_Has us i = some (decide (0 ≤ i) && ru.getD i.toNat false) := by
  rw [has_ok h.cu.w hi, h.cu.inS, h.bu]
theorem alive_ok (h : Rel g us fs ru) {n e : Int} (hn : n < 9223372036854775808) : slots_Slots_Alive g us fs n e = some (decide (0 ≤ n) && ru.getD n.toNat false && (g.getD n.toNat 0 == e)) ∧ tourref1_Room_Alive_v2 g ru n e = some (decide (0 ≤ n) && ru.getD n.toNat false && (g.getD n.toNat 0 == e)) := by
  have hl := h.len
  constructor
  · unfold slots_Slots_Alive slots_Slots_Alive_j1
    rw [h.has hn]
    simp only [Option.bind_some]
    rw [cnd_ite]
    by_cases hb : (decide (0 ≤ n) && ru.getD n.toNat false) = true
    · rw [if_pos hb, hb, Bool.true_and]
      rw [Bool.and_eq_true, decide_eq_true_eq] at hb
      have hlt : n.toNat < ru.length := by
        rcases Nat.lt_or_ge n.toNat ru.length with h1 | h1
        · exact h1
        · rw [gb_out h1] at hb; exact absurd hb.2 (by simp)
      rw [idx_getD 0 hb.1 (by omega)]; rfl
    · rw [if_neg hb, Bool.eq_false_iff.2 hb, Bool.false_and]
  · unfold tourref1_Room_Alive_v2 tourref1_Room_Alive_v2_j1
    rw [cnd_dec, cnd_dec]
    by_cases h0 : 0 ≤ n
    · rw [if_pos h0, decide_eq_true h0, Bool.true_and]
      by_cases h1 : n < (ru.length : Int)
      · rw [if_pos h1, idx_getD false h0 h1]
        simp only [Option.bind_some]
        rw [cnd_ite]
        by_cases hb : ru.getD n.toNat false = true
        · rw [if_pos hb, hb, Bool.true_and, idx_getD 0 h0 (by omega)]; rfl
        · rw [if_neg hb, Bool.eq_false_iff.2 hb, Bool.false_and]
      · rw [if_neg h1, gb_out (by omega), Bool.false_and]
    · rw [if_neg h0, decide_eq_false h0, Bool.false_and, Bool.false_and]
/-! ### Take -/
/-- The slot that is taken, if one is free. -/
def least (g : List Int) (ru : List Bool) : Option Nat := (List.range g.length).find? fun n => !ru.getD n false && decide (g.getD n 0 < 1073741824)
theorem least_prog (h : Rel g us fs ru) : (List.range 4096).find? (bt fs) = least g ru := by
  have := h.top
  rw [find_more (N := g.length) (by omega) (fun n hn => by rw [h.bf, decide_eq_false (by omega)]; rfl)]
  unfold least
  have key : ∀ (l : List Nat), (∀ n ∈ l, n < g.length) → l.find? (bt fs) = l.find? fun n => !ru.getD n false && decide (g.getD n 0 < 1073741824) := by
    intro l
    induction l with
    | nil => intro _; rfl
    | cons a l ih =>
      intro hl
      rw [List.find?_cons, List.find?_cons, h.bf, decide_eq_true (hl a (by simp)), Bool.true_and, ih fun n hn => hl n (by simp [hn])]
  exact key _ fun n hn => List.mem_range.1 hn
theorem least_ref (h : Rel g us fs ru) : loop (σ := Int × Int) (ρ := Int) (fun s_ => tourref1_Room_Take_l3 ru g s_.1 s_.2) ((-1), IntKind.i64.wrap ((ru.length : Int) - 1)) = some (match least g ru with | some n => (n : Int) | none => -1) := by
  have hl := h.len
  have ht := h.top
  have key : ∀ (m : Nat), m ≤ g.length → loop (σ := Int × Int) (ρ := Int) (fun s_ => tourref1_Room_Take_l3 ru g s_.1 s_.2) ((match (List.range' m (g.length - m)).find? (fun n => !ru.getD n false && decide (g.getD n 0 < 1073741824)) with | some n => (n : Int) | none => -1), (m : Int) - 1) = some (match least g ru with | some n => (n : Int) | none => -1) := by
    intro m
    induction m with
    | zero =>
      intro _
      refine loop_inr ?_
      show tourref1_Room_Take_l3 ru g _ (((0 : Nat) : Int) - 1) = _
      unfold tourref1_Room_Take_l3
      rw [cnd_dec, if_neg (by omega), Nat.sub_zero, ← List.range_eq_range']; rfl
    | succ m ih =>
      intro hm
      rw [← ih (by omega)]
      refine loop_inl ?_
      show tourref1_Room_Take_l3 ru g _ (((m + 1 : Nat) : Int) - 1) = _
      have hj : ∀ x, tourref1_Room_Take_j4 (m : Int) x = some (.inl (x, (m : Int) - 1)) := fun x => by unfold tourref1_Room_Take_j4; rw [i64ok (by omega) (by omega)]
      have hmr : m < ru.length := by omega
      have hmg : m < g.length := by omega
      unfold tourref1_Room_Take_l3
      rw [show (((m + 1 : Nat) : Int) - 1) = (m : Int) by omega, cnd_dec, if_pos (by omega), idx_get hmr, idx_get hmg]
      simp only [Option.bind_some]
      rw [cnd_not, cnd_ite, cnd_dec, hj, hj, show g.length - m = (g.length - (m + 1)) + 1 by omega, List.range'_succ, List.find?_cons, gb_at hmr, gd_at hmg]
      by_cases hb : ru[m] = true
      · rw [if_pos hb, hb]; rfl
      · rw [if_neg hb, Bool.eq_false_iff.2 hb]
        by_cases hg : g[m] < 1073741824
        · rw [if_pos hg, decide_eq_true hg]; rfl
        · rw [if_neg hg, decide_eq_false hg]; rfl
  have := key g.length (Nat.le_refl _)
  rw [Nat.sub_self] at this
  rw [i64ok (by omega) (by omega), hl]
  exact this
theorem least_some {n : Nat} (hn : least g ru = some n) : n < g.length ∧ ru.getD n false = false ∧ g.getD n 0 < 1073741824 := by
  have h1 := List.mem_range.1 (List.mem_of_find?_eq_some hn)
  have h2 := List.find?_some hn
  simp only [Bool.and_eq_true, Bool.not_eq_true', decide_eq_true_eq] at h2
  exact ⟨h1, h2.1, h2.2⟩
theorem Rel.take (h : Rel g us fs ru) {n : Nat} {us' fs' : List Int} (hn : n < g.length) (hg : g.getD n 0 < 1073741824) (c1 : Canon us') (b1 : ∀ k, bt us' k = (bt us k || decide (k = n))) (c2 : Canon fs') (b2 : ∀ k, bt fs' k = (bt fs k && !decide (k = n))) : Rel g us' fs' (ru.set n true) := by
  have hl := h.len
  have hr : n < ru.length := by omega
  refine ⟨by rw [List.length_set]; exact hl, h.top, c1, c2, fun k => ?_, fun k => ?_, h.lo, fun k hk => ?_⟩
  · rw [b1, h.bu, gb_set hr]
    by_cases e : k = n
    · rw [if_pos e, decide_eq_true e, Bool.or_true]
    · rw [if_neg e, decide_eq_false e, Bool.or_false]
  · rw [b2, h.bf, gb_set hr]
    by_cases e : k = n
    · rw [if_pos e, decide_eq_true e]; simp
    · rw [if_neg e, decide_eq_false e, Bool.not_false, Bool.and_true]
  · rw [gb_set hr] at hk
    by_cases e : k = n
    · rw [e]; exact hg
    · rw [if_neg e] at hk; exact h.hi k hk
theorem take_ok (h : Rel g us fs ru) : ∃ n a e g' us' fs' ru', slots_Slots_Take g us fs = some (n, a, e, g', us', fs') ∧ tourref1_Room_Take g ru = some (n, a, e, g', ru') ∧ Rel g' us' fs' ru' := by
  have hl := h.len
  have ht := h.top
  unfold slots_Slots_Take tourref1_Room_Take
  rw [all_same h.cf]
  simp only [Option.bind_some]
  rw [first_all h.cf, least_prog h, least_ref h]
  simp only [Option.bind_some]
  cases hL : least g ru with
  | some n =>
    obtain ⟨hn, hu, hg⟩ := least_some hL
    simp only
    unfold slots_Slots_Take_j1 tourref1_Room_Take_j1
    rw [cnd_beq, if_neg (by omega), cnd_beq, if_neg (by omega), cnd_dec, if_neg (by omega)]
    unfold slots_Slots_Take_j2 slots_Slots_Take_j3 tourref1_Room_Take_j2
    obtain ⟨us', w1, w2, w3⟩ := with_ex h.cu (m := n) (by omega)
    obtain ⟨fs', v1, v2, v3⟩ := without_ex h.cf (m := n) (by omega)
    have hr : n < ru.length := by omega
    rw [w1]
    simp only [Option.bind_some]
    rw [v1]
    simp only [Option.bind_some]
    rw [idx_get hn, idx_get hr]
    simp only [Option.bind_some]
    rw [upd_ok hr]
    simp only [Option.bind_some]
    exact ⟨_, _, _, _, _, _, _, rfl, rfl, h.take hn hg w2 w3 v2 v3⟩
  | none =>
    simp only
    by_cases hf : g.length = 256
    · have p : slots_Slots_Take_j1 g us fs (g.length : Int) = some (0, 0, 6, g, us, fs) := by unfold slots_Slots_Take_j1; rw [cnd_beq, if_pos (by omega)]
      have r : tourref1_Room_Take_j1 ru g (-1) = some (0, 0, 6, g, ru) := by unfold tourref1_Room_Take_j1; rw [cnd_dec, if_pos (by omega), cnd_beq, if_pos (by omega)]
      rw [p, r]
      exact ⟨_, _, _, _, _, _, _, rfl, rfl, h⟩
    · have p : slots_Slots_Take_j1 g us fs (g.length : Int) = slots_Slots_Take_j2 us (g.length : Int) fs (g ++ [0]) := by
        unfold slots_Slots_Take_j1
        rw [cnd_beq, if_neg (by omega), cnd_beq, if_pos rfl, app_ok (by simp only [List.length_cons, List.length_nil]; omega)]
        simp only [Option.bind_some]
      have r : tourref1_Room_Take_j1 ru g (-1) = tourref1_Room_Take_j2 (g ++ [0]) (ru ++ [false]) (ru.length : Int) := by
        unfold tourref1_Room_Take_j1
        rw [cnd_dec, if_pos (by omega), cnd_beq, if_neg (by omega), app_ok (by simp only [List.length_cons, List.length_nil]; omega)]
        simp only [Option.bind_some]
        rw [app_ok (by simp only [List.length_cons, List.length_nil]; omega)]
        simp only [Option.bind_some]
      rw [p, r]
      unfold slots_Slots_Take_j2 slots_Slots_Take_j3 tourref1_Room_Take_j2
      obtain ⟨us', w1, w2, w3⟩ := with_ex h.cu (m := g.length) (by omega)
      obtain ⟨fs', v1, v2, v3⟩ := without_ex h.cf (m := g.length) (by omega)
      have hn : g.length < (g ++ [(0 : Int)]).length := by simp
      have hr : g.length < (ru ++ [false]).length := by simp; omega
      rw [w1]
      simp only [Option.bind_some]
      rw [v1]
      simp only [Option.bind_some]
      rw [hl, idx_get hn, idx_get hr]
      simp only [Option.bind_some]
      rw [upd_ok hr]
      simp only [Option.bind_some]
      refine ⟨_, _, _, _, _, _, _, rfl, rfl, ?_⟩
      refine ⟨by simp [hl], by simp; omega, w2, v2, fun k => ?_, fun k => ?_, fun k => ?_, fun k hk => ?_⟩
      · rw [w3, h.bu, gb_set hr, gb_snoc]
        by_cases e : k = g.length
        · rw [if_pos e, decide_eq_true e, Bool.or_true]
        · rw [if_neg e, if_neg (by omega), decide_eq_false e, Bool.or_false]
      · rw [v3, h.bf, gb_set hr, gb_snoc, getD_snoc]
        by_cases e : k = g.length
        · rw [if_pos e, decide_eq_true e]; simp
        · rw [if_neg e, if_neg (by omega), if_neg e, decide_eq_false e, Bool.not_false, Bool.and_true]
          congr 2
          rw [List.length_append]
          simp only [List.length_cons, List.length_nil]
          by_cases h1 : k < g.length
          · rw [decide_eq_true h1, decide_eq_true (by omega)]
          · rw [decide_eq_false h1, decide_eq_false (by omega)]
      · rw [getD_snoc]
        split
        · exact Int.le_refl _
        · exact h.lo k
      · rw [getD_snoc]
        split
        · omega
        · rename_i e
          rw [gb_set hr, if_neg e, gb_snoc, if_neg (by omega)] at hk
          exact h.hi k hk
/-! ### Free -/
theorem free_ok (h : Rel g us fs ru) {n e : Int} (hn : n < 9223372036854775808) : ∃ r g' us' fs' ru', slots_Slots_Free g us fs n e = some (r, g', us', fs') ∧ tourref1_Room_Free_v2 g ru n e = some (r, g', ru') ∧ Rel g' us' fs' ru' := by
  have hl := h.len
  have ht := h.top
  obtain ⟨h1, h2⟩ := alive_ok h (n := n) (e := e) hn
  unfold slots_Slots_Free tourref1_Room_Free_v2
  rw [h1, h2]
  simp only [Option.bind_some]
  rw [cnd_not, cnd_not, cnd_ite, cnd_ite]
  by_cases hb : (decide (0 ≤ n) && ru.getD n.toNat false && (g.getD n.toNat 0 == e)) = true
  · rw [if_pos hb, if_pos hb]
    simp only [Bool.and_eq_true, decide_eq_true_eq] at hb
    obtain ⟨⟨h0, hu⟩, _⟩ := hb
    obtain ⟨m, rfl⟩ : ∃ m : Nat, n = m := ⟨n.toNat, by omega⟩
    rw [Int.toNat_natCast] at hu
    have hr : m < ru.length := by
      rcases Nat.lt_or_ge m ru.length with h1 | h1
      · exact h1
      · rw [gb_out h1] at hu; cases hu
    have hg : m < g.length := by omega
    have hgm := h.hi m hu
    have hlo := h.lo m
    rw [gd_at hg] at hgm hlo
    rw [idx_get hg, idx_get hr]
    simp only [Option.bind_some]
    rw [upd_ok hg, upd_ok hr]
    simp only [Option.bind_some]
    have hw : IntKind.i64.wrap (g[m] + 1) = g[m] + 1 := i64ok (by omega) (by omega)
    rw [hw]
    obtain ⟨us', w1, w2, w3⟩ := without_ex h.cu (m := m) (by omega)
    obtain ⟨fs', v1, v2, v3⟩ := with_ex h.cf (m := m) (by omega)
    have hs : m < (g.set m (g[m] + 1)).length := by rw [List.length_set]; exact hg
    rw [w1]
    simp only [Option.bind_some]
    rw [idx_get hs, List.getElem_set_self]
    simp only [Option.bind_some]
    unfold slots_Slots_Free_j1
    rw [v1, cnd_dec]
    simp only [Option.bind_some]
    have common : ∀ fs'', Canon fs'' → (∀ k, bt fs'' k = (if k = m then decide (g[m] + 1 < 1073741824) else bt fs k)) → Rel (g.set m (g[m] + 1)) us' fs'' (ru.set m false) := fun fs'' c b => by
      refine ⟨by rw [List.length_set, List.length_set]; exact hl, by rw [List.length_set]; exact ht, w2, c, fun k => ?_, fun k => ?_, fun k => ?_, fun k hk => ?_⟩
      · rw [w3, h.bu, gb_set hr]
        by_cases e : k = m
        · rw [if_pos e, decide_eq_true e]; simp
        · rw [if_neg e, decide_eq_false e, Bool.not_false, Bool.and_true]
      · rw [b, gb_set hr, gd_set hg, List.length_set]
        by_cases e : k = m
        · rw [if_pos e, if_pos e, if_pos e, decide_eq_true (show k < g.length by omega)]; simp
        · rw [if_neg e, if_neg e, if_neg e, h.bf]
      · rw [gd_set hg]
        split
        · omega
        · exact h.lo k
      · rw [gb_set hr] at hk
        by_cases e : k = m
        · rw [if_pos e] at hk; cases hk
        · rw [if_neg e] at hk; rw [gd_set hg, if_neg e]; exact h.hi k hk
    have hfm : bt fs m = false := by rw [h.bf, hu]; simp
    by_cases hx : g[m] + 1 < 1073741824
    · rw [if_pos hx]
      refine ⟨_, _, _, _, _, rfl, rfl, common fs' v2 fun k => ?_⟩
      rw [v3]
      by_cases e : k = m
      · rw [if_pos e, decide_eq_true e, Bool.or_true, decide_eq_true hx]
      · rw [if_neg e, decide_eq_false e, Bool.or_false]
    · rw [if_neg hx]
      refine ⟨_, _, _, _, _, rfl, rfl, common fs h.cf fun k => ?_⟩
      by_cases e : k = m
      · rw [if_pos e, e, hfm, decide_eq_false hx]
      · rw [if_neg e]
  · rw [if_neg hb, if_neg hb]
    exact ⟨_, _, _, _, _, rfl, rfl, h⟩
/-! ### The list -/
def listV (g : List Int) (ru : List Bool) (m : Nat) : List api_Ent := ((List.range m).filter fun n => ru.getD n false).map fun (n : Nat) => api_Ent.mk (n : Int) (g.getD n 0)
theorem listV_succ (g : List Int) (ru : List Bool) (m : Nat) : listV g ru (m + 1) = if ru.getD m false = true then listV g ru m ++ [api_Ent.mk (m : Int) (g.getD m 0)] else listV g ru m := by
  unfold listV
  have e : ([m] : List Nat).filter (fun n => ru.getD n false) = if ru.getD m false = true then [m] else [] := by rw [List.filter_cons]; rfl
  rw [List.range_succ, List.filter_append, List.map_append, e]
  by_cases h : ru.getD m false = true
  · rw [if_pos h, if_pos h]; rfl
  · rw [if_neg h, if_neg h, List.map_nil, List.append_nil]
theorem listV_len (g : List Int) (ru : List Bool) (m : Nat) : (listV g ru m).length ≤ m := by
  unfold listV
  rw [List.length_map]
  exact Nat.le_trans (List.length_filter_le _ _) (by simp)
theorem listV_top (g : List Int) (ru : List Bool) {m : Nat} (h : ru.length ≤ m) : listV g ru m = listV g ru ru.length := by
  have := walk_const (F := listV g ru) (a := ru.length) (m - ru.length) (fun j h1 _ => by rw [listV_succ, gb_out h1]; rfl)
  rwa [show ru.length + (m - ru.length) = m by omega] at this
theorem list_prog (h : Rel g us fs ru) : slots_Slots_List g us fs = some (listV g ru ru.length) := by
  have hl := h.len
  have ht := h.top
  have hcl := h.cu.len
  unfold slots_Slots_List
  rw [all_same h.cu]
  simp only [Option.bind_some]
  have hw := walk_all (r := us) hcl (F := listV g ru) (inner := fun k x t => loop (σ := Int × Int × (List api_Ent)) (ρ := (List api_Ent)) (fun s_ => slots_Slots_List_l4 g k s_.1 s_.2.1 s_.2.2) (x, 0, t)) (step := fun s_ => slots_Slots_List_l2 us g s_.1 s_.2) (fun k t => rfl) (fun k hk =>
    walk_word h.cu.w (F := listV g ru) (k := k) (act := fun t i => (idx g (IntKind.i64.wrap (IntKind.i64.wrap (64 * (k : Int)) + i))).bind fun x => app 16 t [api_Ent.mk (IntKind.i64.wrap (IntKind.i64.wrap (64 * (k : Int)) + i)) x]) (fun w i t => by
      show slots_Slots_List_l4 g (k : Int) w i t = _
      unfold slots_Slots_List_l4
      rw [Option.bind_assoc]; rfl) (fun i hi hb => by
      have hb' := hb
      rw [h.bu] at hb'
      have hlt : 64 * k + i < ru.length := by
        rcases Nat.lt_or_ge (64 * k + i) ru.length with h1 | h1
        · exact h1
        · rw [gb_out h1] at hb'; cases hb'
      have hlt' : 64 * k + i < g.length := by omega
      have hlen := listV_len g ru (64 * k + i)
      show (idx g (IntKind.i64.wrap (IntKind.i64.wrap (64 * (k : Int)) + (i : Int)))).bind _ = _
      rw [i64ok (x := 64 * (k : Int)) (by omega) (by omega), i64ok (by omega) (by omega), show (64 * (k : Int) + (i : Int)) = ((64 * k + i : Nat) : Int) by omega, idx_get hlt']
      simp only [Option.bind_some]
      rw [app_ok (by simp only [List.length_cons, List.length_nil]; omega), listV_succ, if_pos hb', gd_at hlt']) (fun i hi hb => by rw [h.bu] at hb; rw [listV_succ, hb]; rfl))
  rw [show (((0 : Int), ([] : List api_Ent)) : Int × List api_Ent) = (0, listV g ru 0) from rfl, hw]
  simp only [Option.bind_some]
  unfold slots_Slots_List_j1
  congr 1
  rcases Nat.le_total ru.length (64 * us.length) with h1 | h1
  · exact listV_top g ru h1
  · have := walk_const (F := listV g ru) (a := 64 * us.length) (ru.length - 64 * us.length) (fun j h2 _ => by rw [listV_succ, ← h.bu, bt_out h2]; rfl)
    rw [show 64 * us.length + (ru.length - 64 * us.length) = ru.length by omega] at this
    exact this.symm
theorem list_ref (h : Rel g us fs ru) : tourref1_Room_List g ru = some (listV g ru ru.length) := by
  have hl := h.len
  have ht := h.top
  unfold tourref1_Room_List
  have := loop_to (step := fun s_ => tourref1_Room_List_l2 ru g s_.1 s_.2) (fun i => (listV g ru i, (i : Int))) ru.length (r := listV g ru ru.length) (fun i hi => by
    show tourref1_Room_List_l2 ru g _ (i : Int) = _
    have hg : i < g.length := by omega
    have hlen := listV_len g ru i
    have hj : ∀ q, tourref1_Room_List_j3 (i : Int) q = some (.inl (q, ((i + 1 : Nat) : Int))) := fun q => by unfold tourref1_Room_List_j3; rw [i64ok (by omega) (by omega)]; rfl
    unfold tourref1_Room_List_l2
    rw [cnd_dec, if_pos (by omega), idx_get hi, idx_get hg]
    simp only [Option.bind_some]
    rw [cnd_ite, hj, app_ok (by simp only [List.length_cons, List.length_nil]; omega), listV_succ, gb_at hi, gd_at hg]
    simp only [Option.bind_some]
    rw [hj]
    by_cases hb : ru[i] = true
    · rw [if_pos hb, if_pos hb]
    · rw [if_neg hb, if_neg hb]) (by
    show tourref1_Room_List_l2 ru g _ (ru.length : Int) = _
    unfold tourref1_Room_List_l2
    rw [cnd_dec, if_neg (by omega)])
  rw [show ((([] : List api_Ent), (0 : Int)) : List api_Ent × Int) = (fun i : Nat => (listV g ru i, (i : Int))) 0 from rfl, this]
  rfl
end
theorem eq_gen {α : Type} {a b : List α} (eqb : α → α → Bool) (he : ∀ x y, eqb x y = true ↔ x = y) (hab : a = b) (ha : a.length ≤ 140737488355328) (step : Int → Option (Int ⊕ (Bool ⊕ Unit))) (hs : ∀ i, step i = cnd (decide (i < (a.length : Int))) ((idx a i).bind fun x => (idx b i).bind fun y => cnd (!(eqb x y)) (some (.inr (.inl false))) (some (.inl (IntKind.i64.wrap (i + 1))))) (some (.inr (.inr ())))) :
    cnd (!((a.length : Int) == (b.length : Int))) (some false) ((loop step 0).bind (Sum.elim (fun e_ => some e_) (fun _ => some true))) = some true := by
  subst hab
  rw [cnd_not, cnd_beq, if_pos rfl]
  have := loop_to (step := step) (fun i => (i : Int)) a.length (r := .inr ()) (fun i hi => by
    rw [hs, cnd_dec, if_pos (by omega), idx_get hi]
    simp only [Option.bind_some]
    rw [(he _ _).2 rfl, i64ok (by omega) (by omega)]; rfl) (by rw [hs, cnd_dec, if_neg (by omega)])
  rw [show (0 : Int) = ((0 : Nat) : Int) from rfl, this]
  rfl
theorem equal_self {a : List Int} (ha : a.length ≤ 140737488355328) : slices_Equal_int_int a a = some true := eq_gen (fun x y => x == y) (fun x y => by simp) rfl ha (fun s_ => slices_Equal_int_int_l2 a a s_) (fun _ => rfl)
theorem equal_ents {a : List api_Ent} (ha : a.length ≤ 140737488355328) : slices_Equal_api_Ent_api_Ent a a = some true := eq_gen (fun (x y : api_Ent) => x.N == y.N && (x.Gen == y.Gen)) (fun x y => by obtain ⟨p, q⟩ := x; obtain ⟨r, s⟩ := y; simp) rfl ha (fun s_ => slices_Equal_api_Ent_api_Ent_l2 a a s_) (fun _ => rfl)
/-! ### The beginning -/
theorem gens_loops {gens : List Int} (h : gens.length ≤ 256) : loop (σ := Int) (ρ := (Int ⊕ Unit)) (fun s_ => slots_Of_l8 gens s_) 0 = some (if gens.any (fun x => decide (x < 0) || decide (1073741824 < x)) = true then .inl 1 else .inr ()) ∧ loop (σ := Int) (ρ := (Int ⊕ Unit)) (fun s_ => tourref1_RoomOf_l5 gens s_) 0 = some (if gens.any (fun x => decide (x < 0) || decide (1073741824 < x)) = true then .inl 1 else .inr ()) := by
  constructor
  · exact loop_any (step := fun s_ => slots_Of_l8 gens s_) gens (fun i => (i : Int)) _ 1 () (fun i hi => by
      show slots_Of_l8 gens (i : Int) = _
      unfold slots_Of_l8
      rw [cnd_dec, if_pos (by omega), idx_get hi]
      simp only [Option.bind_some]
      rw [cnd_dec, cnd_dec, i64ok (by omega) (by omega)]
      by_cases h1 : gens[i] < 0
      · simp [h1]
      · by_cases h2 : 1073741824 < gens[i]
        · simp [h1, h2]
        · simp [h1, h2]) (by
      show slots_Of_l8 gens (gens.length : Int) = _
      unfold slots_Of_l8
      rw [cnd_dec, if_neg (by omega)])
  · exact loop_any (step := fun s_ => tourref1_RoomOf_l5 gens s_) gens (fun i => (i : Int)) _ 1 () (fun i hi => by
      show tourref1_RoomOf_l5 gens (i : Int) = _
      unfold tourref1_RoomOf_l5
      rw [cnd_dec, if_pos (by omega), idx_get hi]
      simp only [Option.bind_some]
      rw [cnd_dec, cnd_dec, i64ok (by omega) (by omega)]
      by_cases h1 : gens[i] < 0
      · simp [h1]
      · by_cases h2 : 1073741824 < gens[i]
        · simp [h1, h2]
        · simp [h1, h2]) (by
      show tourref1_RoomOf_l5 gens (gens.length : Int) = _
      unfold tourref1_RoomOf_l5
      rw [cnd_dec, if_neg (by omega)])
/-- The slots in use, by the program and by the reference, side by side. -/
theorem used_loops {gens used : List Int} (hg : gens.length ≤ 256) (hgs : ∀ x ∈ gens, x ≤ 1073741824) (hu : used.length ≤ 140737488355328) :
    (∃ e : Int, e ≠ 0 ∧ loop (σ := (List Int) × Int) (ρ := (Int ⊕ (List Int))) (fun s_ => slots_Of_l6 used gens s_.1 s_.2) (([] : List Int), 0) = some (.inl e) ∧ loop (σ := (List Bool) × Int × Int) (ρ := (Int ⊕ (List Bool))) (fun s_ => tourref1_RoomOf_l4 used gens s_.1 s_.2.1 s_.2.2) (List.replicate gens.length false, (-1), 0) = some (.inl e)) ∨
    (∃ us ru, loop (σ := (List Int) × Int) (ρ := (Int ⊕ (List Int))) (fun s_ => slots_Of_l6 used gens s_.1 s_.2) (([] : List Int), 0) = some (.inr us) ∧ loop (σ := (List Bool) × Int × Int) (ρ := (Int ⊕ (List Bool))) (fun s_ => tourref1_RoomOf_l4 used gens s_.1 s_.2.1 s_.2.2) (List.replicate gens.length false, (-1), 0) = some (.inr ru) ∧ Canon us ∧ ru.length = gens.length ∧ (∀ n, bt us n = ru.getD n false) ∧ ∀ n, ru.getD n false = true → gens.getD n 0 < 1073741824) := by
  have key : ∀ (d i : Nat) (us : List Int) (ru : List Bool) (last : Int), i + d = used.length → Canon us → ru.length = gens.length → (∀ n, bt us n = ru.getD n false) → (∀ n, ru.getD n false = true → gens.getD n 0 < 1073741824) → last = (if i = 0 then -1 else used.getD (i - 1) 0) → 
      (∃ e : Int, e ≠ 0 ∧ loop (σ := (List Int) × Int) (ρ := (Int ⊕ (List Int))) (fun s_ => slots_Of_l6 used gens s_.1 s_.2) (us, (i : Int)) = some (.inl e) ∧ loop (σ := (List Bool) × Int × Int) (ρ := (Int ⊕ (List Bool))) (fun s_ => tourref1_RoomOf_l4 used gens s_.1 s_.2.1 s_.2.2) (ru, last, (i : Int)) = some (.inl e)) ∨
      (∃ us' ru', loop (σ := (List Int) × Int) (ρ := (Int ⊕ (List Int))) (fun s_ => slots_Of_l6 used gens s_.1 s_.2) (us, (i : Int)) = some (.inr us') ∧ loop (σ := (List Bool) × Int × Int) (ρ := (Int ⊕ (List Bool))) (fun s_ => tourref1_RoomOf_l4 used gens s_.1 s_.2.1 s_.2.2) (ru, last, (i : Int)) = some (.inr ru') ∧ Canon us' ∧ ru'.length = gens.length ∧ (∀ n, bt us' n = ru'.getD n false) ∧ ∀ n, ru'.getD n false = true → gens.getD n 0 < 1073741824) := by
    intro d
    induction d with
    | zero =>
      intro i us ru last hi hc hl hb hh hlast
      refine .inr ⟨us, ru, loop_inr ?_, loop_inr ?_, hc, hl, hb, hh⟩
      · show slots_Of_l6 used gens us (i : Int) = _
        unfold slots_Of_l6
        rw [cnd_dec, if_neg (by omega)]
      · show tourref1_RoomOf_l4 used gens ru last (i : Int) = _
        unfold tourref1_RoomOf_l4
        rw [cnd_dec, if_neg (by omega)]
    | succ d ih =>
      intro i us ru last hi hc hl hb hh hlast
      have hiu : i < used.length := by omega
      obtain ⟨x, hx⟩ : ∃ x, used[i] = x := ⟨_, rfl⟩
      have p0 : slots_Of_l6 used gens us (i : Int) = cnd (decide (x < 0)) (some (.inr (.inl 1))) (cnd (decide ((gens.length : Int) ≤ x)) (some (.inr (.inl 1))) ((idx gens x).bind fun x84 => cnd (x84 == 1073741824) (some (.inr (.inl 1))) (cnd (decide (0 < (i : Int))) ((idx used (IntKind.i64.wrap ((i : Int) - 1))).bind fun x103 => cnd (decide (x ≤ x103)) (some (.inr (.inl 9))) (slots_Of_j7 us x (i : Int))) (slots_Of_j7 us x (i : Int))))) := by
        unfold slots_Of_l6
        rw [cnd_dec, if_pos (by omega), idx_get hiu, hx]
        simp only [Option.bind_some]
      have r0 : tourref1_RoomOf_l4 used gens ru last (i : Int) = cnd (decide (x < 0)) (some (.inr (.inl 1))) (cnd (decide ((gens.length : Int) ≤ x)) (some (.inr (.inl 1))) ((idx gens x).bind fun x35 => cnd (x35 == 1073741824) (some (.inr (.inl 1))) (cnd (decide (x ≤ last)) (some (.inr (.inl 9))) ((idx ru x).bind fun x48 => (upd ru x true).bind fun l58 => some (.inl (l58, x, IntKind.i64.wrap ((i : Int) + 1))))))) := by
        unfold tourref1_RoomOf_l4
        rw [cnd_dec, if_pos (by omega), idx_get hiu, hx]
        simp only [Option.bind_some]
      have ends : ∀ e : Int, e ≠ 0 → slots_Of_l6 used gens us (i : Int) = some (.inr (.inl e)) → tourref1_RoomOf_l4 used gens ru last (i : Int) = some (.inr (.inl e)) → (∃ e : Int, e ≠ 0 ∧ loop (σ := (List Int) × Int) (ρ := (Int ⊕ (List Int))) (fun s_ => slots_Of_l6 used gens s_.1 s_.2) (us, (i : Int)) = some (.inl e) ∧ loop (σ := (List Bool) × Int × Int) (ρ := (Int ⊕ (List Bool))) (fun s_ => tourref1_RoomOf_l4 used gens s_.1 s_.2.1 s_.2.2) (ru, last, (i : Int)) = some (.inl e)) := fun e h0 h1 h2 => ⟨e, h0, loop_inr h1, loop_inr h2⟩
      rw [cnd_dec, cnd_dec] at p0 r0
      by_cases h0 : x < 0
      · rw [if_pos h0] at p0 r0; exact .inl (ends 1 (by decide) p0 r0)
      · rw [if_neg h0] at p0 r0
        by_cases h1 : (gens.length : Int) ≤ x
        · rw [if_pos h1] at p0 r0; exact .inl (ends 1 (by decide) p0 r0)
        · rw [if_neg h1] at p0 r0
          obtain ⟨m, rfl⟩ : ∃ m : Nat, x = m := ⟨x.toNat, by omega⟩
          have hm : m < gens.length := by omega
          have hmr : m < ru.length := by omega
          rw [idx_get hm] at p0 r0
          simp only [Option.bind_some] at p0 r0
          rw [cnd_beq] at p0 r0
          by_cases h2 : gens[m] = 1073741824
          · rw [if_pos h2] at p0 r0; exact .inl (ends 1 (by decide) p0 r0)
          · rw [if_neg h2, cnd_dec] at p0 r0
            obtain ⟨us', w1, w2, w3⟩ := with_ex hc (m := m) (by omega)
            have hj : slots_Of_j7 us (m : Int) (i : Int) = some (.inl (us', ((i + 1 : Nat) : Int))) := by unfold slots_Of_j7; rw [w1]; simp only [Option.bind_some]; rw [i64ok (by omega) (by omega)]; rfl
            rw [hj] at p0
            have pd : slots_Of_l6 used gens us (i : Int) = if (m : Int) ≤ last then some (.inr (.inl 9)) else some (.inl (us', ((i + 1 : Nat) : Int))) := by
              rw [p0, hlast]
              by_cases hz : i = 0
              · rw [if_neg (by omega), if_pos hz, if_neg (by omega)]
              · rw [if_pos (by omega), if_neg hz, i64ok (by omega) (by omega), show ((i : Int) - 1) = ((i - 1 : Nat) : Int) by omega, idx_get (show i - 1 < used.length by omega)]
                simp only [Option.bind_some]
                rw [cnd_dec, gd_at (show i - 1 < used.length by omega)]
            by_cases h3 : (m : Int) ≤ last
            · rw [if_pos h3] at pd r0; exact .inl (ends 9 (by decide) pd r0)
            · rw [if_neg h3] at pd r0
              rw [idx_get hmr] at r0
              simp only [Option.bind_some] at r0
              rw [upd_ok hmr] at r0
              simp only [Option.bind_some] at r0
              rw [i64ok (by omega) (by omega)] at r0
              have hgm : gens[m] < 1073741824 := by have := hgs _ (List.getElem_mem hm); omega
              have := ih (i + 1) us' (ru.set m true) (m : Int) (by omega) w2 (by rw [List.length_set]; exact hl) (fun n => by
                rw [w3, hb, gb_set hmr]
                by_cases e : n = m
                · rw [if_pos e, decide_eq_true e, Bool.or_true]
                · rw [if_neg e, decide_eq_false e, Bool.or_false]) (fun n hn => by
                rw [gb_set hmr] at hn
                by_cases e : n = m
                · rw [e, gd_at hm]; exact hgm
                · rw [if_neg e] at hn; exact hh n hn) (by rw [if_neg (by omega), Nat.add_sub_cancel, gd_at hiu, hx])
              have e1 : loop (σ := (List Int) × Int) (ρ := (Int ⊕ (List Int))) (fun s_ => slots_Of_l6 used gens s_.1 s_.2) (us, (i : Int)) = loop (σ := (List Int) × Int) (ρ := (Int ⊕ (List Int))) (fun s_ => slots_Of_l6 used gens s_.1 s_.2) (us', ((i + 1 : Nat) : Int)) := loop_inl pd
              have e2 : loop (σ := (List Bool) × Int × Int) (ρ := (Int ⊕ (List Bool))) (fun s_ => tourref1_RoomOf_l4 used gens s_.1 s_.2.1 s_.2.2) (ru, last, (i : Int)) = loop (σ := (List Bool) × Int × Int) (ρ := (Int ⊕ (List Bool))) (fun s_ => tourref1_RoomOf_l4 used gens s_.1 s_.2.1 s_.2.2) (ru.set m true, (m : Int), ((i + 1 : Nat) : Int)) := loop_inl r0
              rw [e1, e2]
              exact this
  exact key used.length 0 [] (List.replicate gens.length false) (-1) (by omega) canon_nil (by simp) (fun n => by rw [bt_nil, List.getD_eq_getElem?_getD, List.getElem?_replicate]; split <;> rfl) (fun n hn => by rw [List.getD_eq_getElem?_getD, List.getElem?_replicate] at hn; split at hn <;> cases hn) rfl
theorem free_loop {gens us : List Int} {ru : List Bool} (hg : gens.length ≤ 256) (hc : Canon us) (hb : ∀ n, bt us n = ru.getD n false) : ∃ fs, loop (σ := (List Int) × Int) (ρ := (List Int)) (fun s_ => slots_Of_l4 gens us s_.1 s_.2) (([] : List Int), 0) = some fs ∧ Canon fs ∧ ∀ n, bt fs n = (decide (n < gens.length) && !ru.getD n false && decide (gens.getD n 0 < 1073741824)) := by
  have key : ∀ (d i : Nat) (fs : List Int), i + d = gens.length → Canon fs → (∀ n, bt fs n = (decide (n < i) && !ru.getD n false && decide (gens.getD n 0 < 1073741824))) → ∃ fs', loop (σ := (List Int) × Int) (ρ := (List Int)) (fun s_ => slots_Of_l4 gens us s_.1 s_.2) (fs, (i : Int)) = some fs' ∧ Canon fs' ∧ ∀ n, bt fs' n = (decide (n < gens.length) && !ru.getD n false && decide (gens.getD n 0 < 1073741824)) := by
    intro d
    induction d with
    | zero =>
      intro i fs hi hcf hf
      obtain rfl : i = gens.length := by omega
      refine ⟨fs, loop_inr ?_, hcf, hf⟩
      show slots_Of_l4 gens us fs (gens.length : Int) = _
      unfold slots_Of_l4
      rw [cnd_dec, if_neg (by omega)]
    | succ d ih =>
      intro i fs hi hcf hf
      have hlt : i < gens.length := by omega
      have hj : ∀ q, slots_Of_j5 (i : Int) q = some (.inl (q, ((i + 1 : Nat) : Int))) := fun q => by unfold slots_Of_j5; rw [i64ok (by omega) (by omega)]; rfl
      obtain ⟨q, w1, w2, w3⟩ := with_ex hcf (m := i) (by omega)
      have hst : slots_Of_l4 gens us fs (i : Int) = some (.inl ((if (!ru.getD i false && decide (gens.getD i 0 < 1073741824)) = true then q else fs), ((i + 1 : Nat) : Int))) := by
        unfold slots_Of_l4
        rw [cnd_dec, if_pos (by omega), has_ok hc.w (by omega), idx_get hlt]
        simp only [Option.bind_some]
        rw [w1]
        simp only [Option.bind_some]
        rw [hj, hj, hc.inS, Int.toNat_natCast, hb, decide_eq_true (by omega), Bool.true_and, cnd_not, cnd_ite, cnd_dec, gd_at hlt]
        by_cases hr : ru.getD i false = true
        · rw [if_pos hr, hr]; rfl
        · rw [if_neg hr, Bool.eq_false_iff.2 hr]
          by_cases hx : gens[i] < 1073741824
          · rw [if_pos hx, decide_eq_true hx]; rfl
          · rw [if_neg hx, decide_eq_false hx]; rfl
      rw [loop_inl hst]
      have hnew : ∀ n, n ≠ i → decide (n < i + 1) = decide (n < i) := fun n hn => by
        by_cases h : n < i
        · rw [decide_eq_true h, decide_eq_true (by omega)]
        · rw [decide_eq_false h, decide_eq_false (by omega)]
      refine ih (i + 1) _ (by omega) (by split <;> assumption) fun n => ?_
      by_cases e : n = i
      · subst e
        rw [decide_eq_true (show n < n + 1 by omega), Bool.true_and]
        by_cases hx : (!ru.getD n false && decide (gens.getD n 0 < 1073741824)) = true
        · rw [if_pos hx, w3, decide_eq_true rfl, Bool.or_true, hx]
        · rw [if_neg hx, hf, decide_eq_false (by omega), Bool.eq_false_iff.2 hx]; rfl
      · rw [hnew n e, ← hf n]
        split
        · rw [w3, decide_eq_false e, Bool.or_false]
        · rfl
  exact key gens.length 0 [] (by omega) canon_nil (fun n => by rw [bt_nil, decide_eq_false (by omega)]; rfl)
theorem of_ok {gens used : List Int} (hu : used.length ≤ 140737488355328) :
    (∃ e : Int, e ≠ 0 ∧ slots_Of gens used = some (.inl e) ∧ tourref1_RoomOf gens used = some (.inl e)) ∨ (∃ us fs ru, slots_Of gens used = some (.inr (gens, us, fs)) ∧ tourref1_RoomOf gens used = some (.inr (gens, ru)) ∧ Rel gens us fs ru) := by
  unfold slots_Of tourref1_RoomOf
  rw [cnd_dec, cnd_dec]
  by_cases hg : 256 < (gens.length : Int)
  · rw [if_pos hg, if_pos hg]; exact .inl ⟨2, by decide, rfl, rfl⟩
  · rw [if_neg hg, if_neg hg, app_ok (by simp only [List.length_nil]; omega)]
    simp only [Option.bind_some, List.nil_append]
    obtain ⟨e1, e2⟩ := gens_loops (gens := gens) (by omega)
    rw [e1, e2]
    simp only [Option.bind_some]
    by_cases ha : gens.any (fun x => decide (x < 0) || decide (1073741824 < x)) = true
    · rw [if_pos ha]; exact .inl ⟨1, by decide, rfl, rfl⟩
    · rw [if_neg ha]
      simp only [Sum.elim_inr]
      have hgs : ∀ x ∈ gens, 0 ≤ x ∧ x ≤ 1073741824 := fun x hx => by
        have := List.any_eq_false.1 (Bool.eq_false_iff.2 ha) x hx
        simp only [Bool.or_eq_true, decide_eq_true_eq, not_or] at this
        omega
      unfold slots_Of_j1 tourref1_RoomOf_j1 slices_Clone_int_int
      rw [app_ok (by simp only [List.length_nil]; omega), mk_ok (by omega) (by omega)]
      simp only [Option.bind_some, List.nil_append, Int.toNat_natCast]
      unfold tourref1_RoomOf_j2
      rcases used_loops (gens := gens) (used := used) (by omega) (fun x hx => (hgs x hx).2) hu with ⟨e, h0, h1, h2⟩ | ⟨us, ru, h1, h2, hc, hl, hb, hh⟩
      · rw [h1, h2]; exact .inl ⟨e, h0, rfl, rfl⟩
      · rw [h1, h2]
        simp only [Option.bind_some, Sum.elim_inr]
        unfold slots_Of_j2 tourref1_RoomOf_j3 slots_Of_j3
        obtain ⟨fs, f1, f2, f3⟩ := free_loop (gens := gens) (by omega) hc hb
        rw [f1]
        exact .inr ⟨us, fs, ru, rfl, rfl, ⟨hl, by omega, hc, f2, hb, f3, fun n => by
          rcases Nat.lt_or_ge n gens.length with h | h
          · rw [gd_at h]; exact (hgs _ (List.getElem_mem h)).1
          · rw [gd_out h]; exact Int.le_refl _, hh⟩⟩
theorem rel_nil : Rel [] [] [] [] := ⟨rfl, by decide, canon_nil, canon_nil, fun n => by rw [bt_nil]; rfl, fun n => by rw [bt_nil]; rfl, fun n => by simp, fun n hn => by simp at hn⟩
/-- What Take answers where none is free. -/
theorem take_new {g us fs : List Int} {ru : List Bool} (h : Rel g us fs ru) (hn : least g ru = none) (hlt : g.length < 256) : ∃ us' fs', slots_Slots_Take g us fs = some ((g.length : Int), 0, 0, g ++ [0], us', fs') ∧ Rel (g ++ [0]) us' fs' (ru ++ [true]) := by
  obtain ⟨n, a, e, g', us', fs', ru', h1, h2, h3⟩ := take_ok h
  have hr : tourref1_Room_Take g ru = some ((g.length : Int), 0, 0, g ++ [0], ru ++ [true]) := by
    have hl := h.len
    unfold tourref1_Room_Take
    rw [least_ref h, hn]
    simp only [Option.bind_some]
    unfold tourref1_Room_Take_j1
    rw [cnd_dec, if_pos (by omega), cnd_beq, if_neg (by omega), app_ok (by simp only [List.length_cons, List.length_nil]; omega), app_ok (by simp only [List.length_cons, List.length_nil]; omega)]
    simp only [Option.bind_some]
    unfold tourref1_Room_Take_j2
    have hn : g.length < (g ++ [(0 : Int)]).length := by simp
    have hr : g.length < (ru ++ [false]).length := by simp; omega
    rw [hl, idx_get hr]
    simp only [Option.bind_some]
    rw [upd_ok hr, idx_get hn]
    simp only [Option.bind_some]
    rw [List.getElem_append_right (Nat.le_refl _)]
    have : (ru ++ [false]).set g.length true = ru ++ [true] := by rw [List.set_append_right _ _ (by omega), hl, Nat.sub_self]; rfl
    rw [this]
    simp
  rw [hr] at h2
  simp only [Option.some.injEq, Prod.mk.injEq] at h2
  obtain ⟨rfl, rfl, rfl, rfl, rfl⟩ := h2
  exact ⟨us', fs', h1, h3⟩
theorem begun : tourlaw1_slotsBegun = some true := by
  unfold tourlaw1_slotsBegun slots_New
  simp only [Option.bind_some]
  obtain ⟨u1, f1, h1, r1⟩ := take_new rel_nil rfl (by decide)
  rw [h1]
  simp only [bnd6_some]
  obtain ⟨u2, f2, h2, r2⟩ := take_new r1 (by decide) (by decide)
  rw [h2]
  simp only [bnd6_some]
  rfl
/-! ### The law -/
theorem round_end {g us fs : List Int} {ru : List Bool} (h : Rel g us fs ru) {i : Nat} (hi : i < 140737488355328) : tourlaw1_SlotsPlays_j9 (i : Int) g us fs g ru = some (.inl (g, us, fs, g, ru, ((i + 1 : Nat) : Int))) := by
  have hl := h.len
  have ht := h.top
  have := listV_len g ru ru.length
  unfold tourlaw1_SlotsPlays_j9
  rw [list_prog h, list_ref h]
  simp only [Option.bind_some]
  rw [equal_ents (by omega)]
  simp only [Option.bind_some, Bool.not_true, cnd_false]
  unfold slots_Slots_Gens
  rw [app_ok (by simp only [List.length_nil]; omega)]
  simp only [Option.bind_some, List.nil_append]
  rw [equal_self (by omega)]
  simp only [Option.bind_some, Bool.not_true]
  unfold tourlaw1_SlotsPlays_j10
  rw [cnd_false, i64ok (by omega) (by omega)]; rfl
theorem plays {l : List api_Ent} (hl : l.length ≤ 140737488355328) (ho : ∀ x ∈ l, x.N < 9223372036854775808) : ∀ (d i : Nat) (g us fs : List Int) (ru : List Bool), i + d = l.length → Rel g us fs ru →
    loop (σ := (List Int) × (List Int) × (List Int) × (List Int) × (List Bool) × Int) (ρ := (Bool ⊕ Unit)) (fun s_ => tourlaw1_SlotsPlays_l8 l s_.1 s_.2.1 s_.2.2.1 s_.2.2.2.1 s_.2.2.2.2.1 s_.2.2.2.2.2) (g, us, fs, g, ru, (i : Int)) = some (.inr ()) := by
  intro d
  induction d with
  | zero =>
    intro i g us fs ru hi h
    refine loop_inr ?_
    show tourlaw1_SlotsPlays_l8 l g us fs g ru (i : Int) = _
    unfold tourlaw1_SlotsPlays_l8
    rw [cnd_dec, if_neg (by omega)]
  | succ d ih =>
    intro i g us fs ru hi h
    have hlt : i < l.length := by omega
    have hst : ∃ g' us' fs' ru', tourlaw1_SlotsPlays_l8 l g us fs g ru (i : Int) = some (.inl (g', us', fs', g', ru', ((i + 1 : Nat) : Int))) ∧ Rel g' us' fs' ru' := by
      unfold tourlaw1_SlotsPlays_l8
      rw [cnd_dec, if_pos (by omega), idx_get hlt]
      simp only [Option.bind_some]
      rw [cnd_beq]
      by_cases hx : l[i].N = -1
      · rw [if_pos hx]
        obtain ⟨n, a, e, g', us', fs', ru', h1, h2, h3⟩ := take_ok h
        rw [h1, h2]
        simp only [bnd6_some, bnd5_some, beq_self_eq_true, Bool.and_self, Bool.not_true, cnd_false]
        exact ⟨g', us', fs', ru', round_end h3 (by omega), h3⟩
      · rw [if_neg hx]
        have hn := ho _ (List.getElem_mem hlt)
        obtain ⟨h1, h2⟩ := alive_ok h (n := l[i].N) (e := l[i].Gen) hn
        rw [h1, h2]
        simp only [Option.bind_some, beq_self_eq_true, Bool.not_true, cnd_false]
        obtain ⟨r, g', us', fs', ru', h3, h4, h5⟩ := free_ok h (n := l[i].N) (e := l[i].Gen) hn
        rw [h3, h4]
        simp only [bnd4_some, bnd3_some, beq_self_eq_true, Bool.not_true, cnd_false]
        exact ⟨g', us', fs', ru', round_end h5 (by omega), h5⟩
    obtain ⟨g', us', fs', ru', h1, h2⟩ := hst
    rw [loop_inl h1]
    exact ih (i + 1) g' us' fs' ru' (by omega) h2
theorem SlotsPlays_true (gens : List Int) (used : List Int) (l : List api_Ent) (h0 : (okl 8 (okk .i64)) gens) (h1 : (okl 8 (okk .i64)) used) (h2 : (okl 16 ok_api_Ent) l) : tourlaw1_SlotsPlays gens used l = some true := by
  have hu : used.length ≤ 140737488355328 := by have := h1.1; omega
  have hl : l.length ≤ 140737488355328 := by have := h2.1; omega
  have ho : ∀ x ∈ l, x.N < 9223372036854775808 := fun x hx => ((h2.2 x hx).1).2
  unfold tourlaw1_SlotsPlays
  rw [begun]
  simp only [Option.bind_some, Bool.not_true, cnd_false]
  rcases of_ok (gens := gens) hu with ⟨e, h0, e1, e2⟩ | ⟨us, fs, ru, e1, e2, hr⟩
  · rw [e1, e2]
    simp only [Option.bind_some, Sum.elim_inl, beq_self_eq_true, Bool.not_true, cnd_false]
    have : (e == 0) = false := by simpa using h0
    rw [this]
    simp [cnd_true, cnd_false]
  · rw [e1, e2]
    simp only [Option.bind_some, Sum.elim_inr]
    have h := plays hl ho l.length 0 gens us fs ru (by omega) hr
    show cnd (!(false == false)) (some false) ((loop (σ := (List Int) × (List Int) × (List Int) × (List Int) × (List Bool) × Int) (ρ := (Bool ⊕ Unit)) (fun s_ => tourlaw1_SlotsPlays_l8 l s_.1 s_.2.1 s_.2.2.1 s_.2.2.2.1 s_.2.2.2.2.1 s_.2.2.2.2.2) (gens, us, fs, gens, ru, ((0 : Nat) : Int))).bind (Sum.elim (fun e_ => some e_) (fun e_ => tourlaw1_SlotsPlays_j7))) = _
    rw [h]
    rfl
end Go.Proofs.Ythcniadbdjoecaa.R
