/- Slots, in plain Lean: sets as the slots' program has them; the least number of a set. No condition. -/
import Derived.Test.YthcniadbdjoecaaPuSets2R
namespace Go.Proofs.Ythcniadbdjoecaa.R
open Go Go.RowKit Go.Proofs.Ythcniadbdjoecaa.Sx
set_option linter.unusedVariables false
set_option linter.unusedSimpArgs false
theorem Canon.inS {r : List Int} (h : Canon r) (n : Nat) : inS r n = bt r n := by
  unfold R.inS
  by_cases hn : n < 4096
  · rw [decide_eq_true hn, Bool.true_and]
  · rw [bt_out (by have := h.len; omega), Bool.and_false]
theorem either_ex {a b : List Int} (ha : W64 a) (hb : W64 b) : ∃ r, sets_Set_Either a b = some r ∧ Canon r ∧ ∀ n, bt r n = (inS a n || inS b n) := by
  obtain ⟨r, h1, h2, h3⟩ := join_ex (fun x y => Go.bits .or .u64 x y) (fun p q => p || q) rfl or_bits a b ha hb (fun s_ => sets_join_v2_l4 a b s_.1 s_.2) (fun s_ => sets_join_v2_l3 s_) (fun _ _ => rfl) (fun _ => rfl)
  exact ⟨r, by unfold sets_Set_Either; rw [show sets_join_v2 a b = some r from h1]; rfl, h2, h3⟩
theorem all_ex {a : List Int} (ha : W64 a) : ∃ r, sets_Set_All a = some r ∧ Canon r ∧ ∀ n, bt r n = inS a n := by
  obtain ⟨r, h1, h2, h3⟩ := join_ex (fun x _ => x) (fun p _ => p) rfl fst_bits a [] ha canon_nil.w (fun s_ => sets_join_l4 a [] s_.1 s_.2) (fun s_ => sets_join_l3 s_) (fun _ _ => rfl) (fun _ => rfl)
  exact ⟨r, by unfold sets_Set_All; rw [show sets_join a [] = some r from h1]; rfl, h2, h3⟩
theorem minus_ex {a b : List Int} (ha : W64 a) (hb : W64 b) : ∃ r, sets_Set_Minus a b = some r ∧ Canon r ∧ ∀ n, bt r n = (inS a n && !inS b n) := by
  obtain ⟨r, h1, h2, h3⟩ := join_ex (fun x y => Go.bits .andNot .u64 x y) (fun p q => p && !q) rfl andNot_bits a b ha hb (fun s_ => sets_join_v3_l4 a b s_.1 s_.2) (fun s_ => sets_join_v3_l3 s_) (fun _ _ => rfl) (fun _ => rfl)
  exact ⟨r, by unfold sets_Set_Minus; rw [show sets_join_v3 a b = some r from h1]; rfl, h2, h3⟩
theorem in_one {r : List Int} {m : Nat} (hm : m < 4096) (h : ∀ n : Nat, bt r n = decide ((n : Int) = (m : Int) ∧ n < 4096)) (n : Nat) : inS r n = decide (n = m) := by
  unfold inS
  rw [h]
  by_cases e : n = m
  · subst e; simp [hm]
  · rw [decide_eq_false (fun h : (n : Int) = (m : Int) ∧ n < 4096 => e (by omega)), Bool.and_false, decide_eq_false e]
theorem with_ex {s : List Int} (hs : Canon s) {m : Nat} (hm : m < 4096) : ∃ r, sets_Set_With s (m : Int) = some r ∧ Canon r ∧ ∀ n : Nat, bt r n = (bt s n || decide (n = m)) := by
  obtain ⟨o, h1, h2, h3⟩ := one_ex (i := (m : Int)) (by omega)
  obtain ⟨r, h4, h5, h6⟩ := either_ex hs.w h2
  exact ⟨r, by unfold sets_Set_With; rw [h1]; simp only [Option.bind_some]; rw [h4]; rfl, h5, fun n => by rw [h6, in_one hm h3, hs.inS]⟩
theorem without_ex {s : List Int} (hs : Canon s) {m : Nat} (hm : m < 4096) : ∃ r, sets_Set_Without s (m : Int) = some r ∧ Canon r ∧ ∀ n : Nat, bt r n = (bt s n && !decide (n = m)) := by
  obtain ⟨o, h1, h2, h3⟩ := one_ex (i := (m : Int)) (by omega)
  obtain ⟨r, h4, h5, h6⟩ := minus_ex hs.w h2
  exact ⟨r, by unfold sets_Set_Without; rw [h1]; simp only [Option.bind_some]; rw [h4]; rfl, h5, fun n => by rw [h6, in_one hm h3, hs.inS]⟩
theorem all_same {s : List Int} (hs : Canon s) : sets_Set_All s = some s := by
  obtain ⟨r, h1, h2, h3⟩ := all_ex hs.w
  rw [h1, canon_ext h2 hs fun n => by rw [h3, hs.inS]]
theorem find_more {p : Nat → Bool} {N M : Nat} (h : N ≤ M) (hp : ∀ n, N ≤ n → p n = false) : (List.range M).find? p = (List.range N).find? p := by
  obtain ⟨d, rfl⟩ : ∃ d, M = N + d := ⟨M - N, by omega⟩
  clear h
  induction d with
  | zero => rfl
  | succ d ih =>
    rw [← Nat.add_assoc, List.range_succ, List.find?_append, ih]
    have : ([N + d] : List Nat).find? p = none := by simp [hp (N + d) (by omega)]
    rw [this]
    simp
/-- The least number of a word's part. -/
theorem first_word {r : List Int} (hw : W64 r) (k : Nat) (hk : k < 64) (step : Int × Int → Option ((Int × Int) ⊕ (Int ⊕ Unit)))
    (hs : ∀ w i, step (w, i) = cnd (!(w == 0)) (cnd (Go.bits .and .u64 w 1 == 1) (some (.inr (.inl (IntKind.i64.wrap (IntKind.i64.wrap (64 * (k : Int)) + i))))) (some (.inl (Int.fdiv w 2, IntKind.i64.wrap (i + 1))))) (some (.inr (.inr ())))) :
    loop step (r.getD k 0, 0) = some (match (List.range' 0 64).find? (fun j => bt r (64 * k + j)) with | some j => .inl ((64 * k + j : Nat) : Int) | none => .inr ()) := by
  obtain ⟨hx0, hx1⟩ := hw.at k
  obtain ⟨x, hx⟩ : ∃ x : Nat, r.getD k 0 = x := ⟨(r.getD k 0).toNat, by omega⟩
  have hbt : ∀ i, i < 64 → bt r (64 * k + i) = x.testBit i := fun i hi => by rw [bt_word r k i hi, hx, Int.toNat_natCast]
  have key : ∀ (d i w : Nat), i + d = 64 → w = x / 2 ^ i → loop step ((w : Int), (i : Int)) = some (match (List.range' i d).find? (fun j => bt r (64 * k + j)) with | some j => .inl ((64 * k + j : Nat) : Int) | none => .inr ()) := by
    intro d
    induction d with
    | zero =>
      intro i w hi hwx
      obtain rfl : i = 64 := by omega
      have : w = 0 := by rw [hwx]; exact Nat.div_eq_of_lt (by omega)
      subst this
      exact loop_inr (by rw [hs]; rfl)
    | succ d ih =>
      intro i w hi hwx
      by_cases hz : w = 0
      · subst hz
        rw [loop_inr (by rw [hs]; rfl)]
        have hlt : x < 2 ^ i := by
          rcases Nat.lt_or_ge x (2 ^ i) with h | h
          · exact h
          · have := Nat.div_pos h (Nat.two_pow_pos i); omega
        have : (List.range' i (d + 1)).find? (fun j => bt r (64 * k + j)) = none := by
          rw [List.find?_eq_none]
          intro j hj
          have hj' := List.mem_range'_1.1 hj
          rw [hbt j (by omega), Nat.testBit_lt_two_pow (Nat.lt_of_lt_of_le hlt (Nat.pow_le_pow_right (by decide) (by omega)))]
          simp
        rw [this]
      · have hw' : w < 18446744073709551616 := by rw [hwx]; exact Nat.lt_of_le_of_lt (Nat.div_le_self _ _) (by omega)
        have hst := hs (w : Int) (i : Int)
        rw [cnd_not, cnd_beq, if_neg (by omega), Bits.and_one w hw', cnd_beq, fdiv_lit _ (by decide), i64ok (x := 64 * (k : Int)) (by omega) (by omega), i64ok (x := 64 * (k : Int) + (i : Int)) (by omega) (by omega), i64ok (x := (i : Int) + 1) (by omega) (by omega)] at hst
        have e2 : ((w : Int) / 2) = ((w / 2 : Nat) : Int) := by omega
        have e3 : w / 2 = x / 2 ^ (i + 1) := by rw [hwx, Nat.pow_succ, Nat.div_div_eq_div_mul]
        rw [e2] at hst
        rw [List.range'_succ, List.find?_cons]
        by_cases hb : w % 2 = 1
        · rw [if_pos (by omega)] at hst
          rw [loop_inr hst, hbt i (by omega), bitAt, ← hwx, decide_eq_true hb]
          simp
        · rw [if_neg (by omega)] at hst
          rw [loop_inl hst, hbt i (by omega), bitAt, ← hwx, decide_eq_false hb]
          exact ih (i + 1) (w / 2) (by omega) e3
  rw [hx]
  exact key 64 0 x rfl (by rw [Nat.pow_zero, Nat.div_one])
theorem range'_map (s k d : Nat) (p : Nat → Bool) : (List.range' s d).find? (fun j => p (k + j)) = ((List.range' (k + s) d).find? p).map (· - k) := by
  induction d generalizing s with
  | zero => rfl
  | succ d ih =>
    rw [List.range'_succ, List.range'_succ, List.find?_cons, List.find?_cons]
    cases h : p (k + s) with
    | true => simp
    | false => exact ih (s + 1)
/-- The least number of a set: the program's walk, left at the first. -/
theorem first_all {r g : List Int} (hc : Canon r) : loop (σ := Int) (ρ := Int) (fun s_ => slots_Slots_Take_l4 r g s_) 0 = some (match (List.range 4096).find? (bt r) with | some n => (n : Int) | none => (g.length : Int)) := by
  have hl := hc.len
  have key : ∀ (d k : Nat), k + d = r.length → loop (σ := Int) (ρ := Int) (fun s_ => slots_Slots_Take_l4 r g s_) (k : Int) = some (match (List.range' (64 * k) (64 * d)).find? (bt r) with | some n => (n : Int) | none => (g.length : Int)) := by
    intro d
    induction d with
    | zero =>
      intro k hk
      refine loop_inr ?_
      show slots_Slots_Take_l4 r g (k : Int) = _
      unfold slots_Slots_Take_l4
      rw [cnd_dec, if_neg (by omega)]; rfl
    | succ d ih =>
      intro k hk
      have hk' : k < r.length := by omega
      have hst : slots_Slots_Take_l4 r g (k : Int) = some (match (List.range' (64 * k) 64).find? (bt r) with | some n => .inr (n : Int) | none => .inl ((k + 1 : Nat) : Int)) := by
        unfold slots_Slots_Take_l4
        have hw := first_word hc.w k (by omega) (fun s_ => slots_Slots_Take_l6 (k : Int) s_.1 s_.2) (fun _ _ => rfl)
        have hgd : r[k] = r.getD k 0 := by rw [List.getD_eq_getElem?_getD, List.getElem?_eq_getElem hk']; rfl
        rw [cnd_dec, if_pos (by omega), idx_get hk']
        simp only [Option.bind_some]
        rw [hgd, hw, range'_map]
        simp only [Option.bind_some, Nat.add_zero]
        cases hf : (List.range' (64 * k) 64).find? (bt r) with
        | some n =>
          have := List.mem_range'_1.1 (List.mem_of_find?_eq_some hf)
          simp only [Option.map_some, Sum.elim_inl]
          rw [show 64 * k + (n - 64 * k) = n by omega]
        | none =>
          simp only [Option.map_none, Sum.elim_inr]
          unfold slots_Slots_Take_j5
          rw [i64ok (by omega) (by omega)]; rfl
      rw [show 64 * (d + 1) = 64 + 64 * d by omega, ← List.range'_append_1, List.find?_append]
      cases hf : (List.range' (64 * k) 64).find? (bt r) with
      | some n =>
        rw [hf] at hst
        rw [loop_inr hst]; rfl
      | none =>
        rw [hf] at hst
        rw [loop_inl hst, ih (k + 1) (by omega), show 64 * (k + 1) = 64 * k + 64 by omega]; rfl
  rw [show (0 : Int) = ((0 : Nat) : Int) from rfl, key r.length 0 (by omega), find_more (N := 64 * r.length) (by omega) (fun n hn => bt_out hn), List.range_eq_range']
end Go.Proofs.Ythcniadbdjoecaa.R
