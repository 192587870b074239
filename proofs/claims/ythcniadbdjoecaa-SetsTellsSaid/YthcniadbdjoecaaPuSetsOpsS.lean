/- SetsTells, in plain Lean: every function of sets does what it does for lists. No condition. -/
import Derived.Test.YthcniadbdjoecaaPuSets2S
namespace Go.Proofs.Ythcniadbdjoecaa.S
open Go Go.RowKit Go.Proofs.Ythcniadbdjoecaa.Sx
set_option linter.unusedVariables false
set_option linter.unusedSimpArgs false
theorem Canon.inS {r : List Int} (h : Canon r) (n : Nat) : inS r n = bt r n := by
  unfold S.inS
  by_cases hn : n < 4096
  · rw [decide_eq_true hn, Bool.true_and]
  · rw [bt_out (by have := h.len; omega), Bool.and_false]
/-- The numbers of a list that sets may have. -/
def setL (l : List Int) (n : Nat) : Bool := decide ((n : Int) ∈ l ∧ n < 4096)
theorem either_ex {a b : List Int} (ha : W64 a) (hb : W64 b) : ∃ r, sets_Set_Either a b = some r ∧ Canon r ∧ ∀ n, bt r n = (inS a n || inS b n) := by
  obtain ⟨r, h1, h2, h3⟩ := join_ex (fun x y => Go.bits .or .u64 x y) (fun p q => p || q) rfl or_bits a b ha hb (fun s_ => sets_join_l4 a b s_.1 s_.2) (fun s_ => sets_join_l3 s_) (fun _ _ => rfl) (fun _ => rfl)
  exact ⟨r, by unfold sets_Set_Either; rw [show sets_join a b = some r from h1]; rfl, h2, h3⟩
theorem all_ex {a : List Int} (ha : W64 a) : ∃ r, sets_Set_All a = some r ∧ Canon r ∧ ∀ n, bt r n = inS a n := by
  obtain ⟨r, h1, h2, h3⟩ := join_ex (fun x _ => x) (fun p _ => p) rfl fst_bits a [] ha canon_nil.w (fun s_ => sets_join_v2_l4 a [] s_.1 s_.2) (fun s_ => sets_join_v2_l3 s_) (fun _ _ => rfl) (fun _ => rfl)
  exact ⟨r, by unfold sets_Set_All; rw [show sets_join_v2 a [] = some r from h1]; rfl, h2, h3⟩
theorem minus_ex {a b : List Int} (ha : W64 a) (hb : W64 b) : ∃ r, sets_Set_Minus a b = some r ∧ Canon r ∧ ∀ n, bt r n = (inS a n && !inS b n) := by
  obtain ⟨r, h1, h2, h3⟩ := join_ex (fun x y => Go.bits .andNot .u64 x y) (fun p q => p && !q) rfl andNot_bits a b ha hb (fun s_ => sets_join_v3_l4 a b s_.1 s_.2) (fun s_ => sets_join_v3_l3 s_) (fun _ _ => rfl) (fun _ => rfl)
  exact ⟨r, by unfold sets_Set_Minus; rw [show sets_join_v3 a b = some r from h1]; rfl, h2, h3⟩
theorem both_ex {a b : List Int} (ha : W64 a) (hb : W64 b) : ∃ r, sets_Set_Both a b = some r ∧ Canon r ∧ ∀ n, bt r n = (inS a n && inS b n) := by
  obtain ⟨r, h1, h2, h3⟩ := join_ex (fun x y => Go.bits .and .u64 x y) (fun p q => p && q) rfl and_bits a b ha hb (fun s_ => sets_join_v4_l4 a b s_.1 s_.2) (fun s_ => sets_join_v4_l3 s_) (fun _ _ => rfl) (fun _ => rfl)
  exact ⟨r, by unfold sets_Set_Both; rw [show sets_join_v4 a b = some r from h1]; rfl, h2, h3⟩
theorem in_one {r : List Int} {i : Int} (h : ∀ n : Nat, bt r n = decide ((n : Int) = i ∧ n < 4096)) (n : Nat) : inS r n = decide ((n : Int) = i ∧ n < 4096) := by
  unfold inS
  rw [h]
  by_cases hn : n < 4096
  · rw [decide_eq_true hn, Bool.true_and]
  · rw [decide_eq_false hn, Bool.false_and, decide_eq_false (by omega)]
theorem with_ex {s : List Int} (hs : W64 s) {i : Int} (hi : i < 9223372036854775808) : ∃ r, sets_Set_With s i = some r ∧ Canon r ∧ ∀ n : Nat, bt r n = (inS s n || decide ((n : Int) = i ∧ n < 4096)) := by
  obtain ⟨o, h1, h2, h3⟩ := one_ex hi
  obtain ⟨r, h4, h5, h6⟩ := either_ex hs h2
  exact ⟨r, by unfold sets_Set_With; rw [h1]; simp only [Option.bind_some]; rw [h4]; rfl, h5, fun n => by rw [h6, in_one h3]⟩
theorem without_ex {s : List Int} (hs : W64 s) {i : Int} (hi : i < 9223372036854775808) : ∃ r, sets_Set_Without s i = some r ∧ Canon r ∧ ∀ n : Nat, bt r n = (inS s n && !decide ((n : Int) = i ∧ n < 4096)) := by
  obtain ⟨o, h1, h2, h3⟩ := one_ex hi
  obtain ⟨r, h4, h5, h6⟩ := minus_ex hs h2
  exact ⟨r, by unfold sets_Set_Without; rw [h1]; simp only [Option.bind_some]; rw [h4]; rfl, h5, fun n => by rw [h6, in_one h3]⟩
theorem setL_take {l : List Int} {i : Nat} (h : i < l.length) (n : Nat) : setL (l.take (i + 1)) n = (setL (l.take i) n || decide ((n : Int) = l[i] ∧ n < 4096)) := by
  unfold setL
  rw [List.take_succ_eq_append_getElem h, ← Bool.decide_or]
  congr 1
  rw [List.mem_append, List.mem_singleton]
  apply propext
  constructor
  · rintro ⟨h1 | h1, h2⟩
    · exact .inl ⟨h1, h2⟩
    · exact .inr ⟨h1, h2⟩
  · rintro (⟨h1, h2⟩ | ⟨h1, h2⟩)
    · exact ⟨.inl h1, h2⟩
    · exact ⟨.inr h1, h2⟩
theorem of_ex {l : List Int} (hl : l.length ≤ 140737488355328) (ho : ∀ x ∈ l, x < 9223372036854775808) : ∃ r, sets_Of l = some r ∧ Canon r ∧ ∀ n, bt r n = setL l n := by
  have key : ∀ (d i : Nat) (r : List Int), i + d = l.length → Canon r → (∀ n, bt r n = setL (l.take i) n) → ∃ r', loop (σ := (List Int) × Int) (ρ := (List Int)) (fun s_ => sets_Of_l2 l s_.1 s_.2) (r, (i : Int)) = some r' ∧ Canon r' ∧ ∀ n, bt r' n = setL l n := by
    intro d
    induction d with
    | zero =>
      intro i r hi hc hb
      refine ⟨r, loop_inr ?_, hc, fun n => by rw [hb, List.take_of_length_le (by omega)]⟩
      show sets_Of_l2 l r (i : Int) = _
      unfold sets_Of_l2
      rw [cnd_dec, if_neg (by omega)]
    | succ d ih =>
      intro i r hi hc hb
      have hl' : i < l.length := by omega
      obtain ⟨q, h1, h2, h3⟩ := with_ex hc.w (ho _ (List.getElem_mem hl'))
      have hst : sets_Of_l2 l r (i : Int) = some (.inl (q, ((i + 1 : Nat) : Int))) := by
        unfold sets_Of_l2
        rw [cnd_dec, if_pos (by omega), idx_get hl']
        simp only [Option.bind_some]
        rw [h1]
        simp only [Option.bind_some]
        rw [i64ok (by omega) (by omega)]; rfl
      obtain ⟨r', h4, h5, h6⟩ := ih (i + 1) q (by omega) h2 (fun n => by rw [h3, setL_take hl', hc.inS, hb])
      exact ⟨r', by rw [loop_inl hst]; exact h4, h5, h6⟩
  obtain ⟨r, h1, h2, h3⟩ := key l.length 0 [] (by omega) canon_nil (fun n => by rw [bt_nil, List.take_zero]; simp [setL])
  exact ⟨r, by unfold sets_Of; rw [show (0 : Int) = ((0 : Nat) : Int) from rfl, h1]; rfl, h2, h3⟩
/-! ### The reference -/
theorem quo_pow {x r : Nat} (hx : x < 18446744073709551616) (hr : r < 64) : quo .u64 (x : Int) ((2 ^ r : Nat) : Int) = some ((x / 2 ^ r : Nat) : Int) := by
  have hp : 0 < 2 ^ r := Nat.two_pow_pos r
  have hq : x / 2 ^ r ≤ x := Nat.div_le_self _ _
  rw [quo_ok (by omega), Int.tdiv_eq_ediv_of_nonneg (by omega), ← Int.natCast_ediv, IntKind.wrap_u64]
  congr 1
  generalize x / 2 ^ r = q at hq ⊢
  omega
theorem word_nat {s : List Int} (hs : W64 s) (k : Nat) : ∃ x : Nat, s.getD k 0 = (x : Int) ∧ x < 18446744073709551616 := by
  obtain ⟨h1, h2⟩ := hs.at k
  exact ⟨(s.getD k 0).toNat, by omega, by omega⟩
theorem members_ok {s : List Int} (hs : W64 s) (hl : s.length ≤ 140737488355328) : tourref1_Members s = some (els s) := by
  unfold tourref1_Members
  obtain ⟨N, hN⟩ : ∃ N : Nat, N = 4096 := ⟨_, rfl⟩
  have hels : els s = ((List.range N).filter (inS s)).map (fun (n : Nat) => (n : Int)) := by rw [hN]; rfl
  have := loop_to (step := fun s_ => tourref1_Members_l2 s s_.1 s_.2) (fun i => (((List.range i).filter (inS s)).map (fun (n : Nat) => (n : Int)), (i : Int))) N (r := els s) (fun i hi => by
    show tourref1_Members_l2 s _ (i : Int) = _
    unfold tourref1_Members_l2
    have hx : inS s i = bt s i := by unfold inS; rw [decide_eq_true (by omega), Bool.true_and]
    rw [cnd_dec, if_pos (by omega), cnd_dec, tdiv64, i64ok (by omega) (by omega), tmod64]
    have hnext : ((List.range (i + 1)).filter (inS s)).map (fun (n : Nat) => (n : Int)) = if bt s i = true then ((List.range i).filter (inS s)).map (fun (n : Nat) => (n : Int)) ++ [(i : Int)] else ((List.range i).filter (inS s)).map (fun (n : Nat) => (n : Int)) := by
      rw [List.range_succ, List.filter_append, List.map_append]
      by_cases h : bt s i = true
      · rw [if_pos h]; simp [hx, h]
      · rw [if_neg h]; simp [hx, h]
    have hlen : (((List.range i).filter (inS s)).map (fun (n : Nat) => (n : Int))).length ≤ i := by rw [List.length_map]; exact Nat.le_trans (List.length_filter_le _ _) (by simp)
    by_cases hk : i / 64 < s.length
    · obtain ⟨x, hx1, hx2⟩ := word_nat hs (i / 64)
      have hx3 : s[i / 64] = (x : Int) := by rw [← hx1, List.getD_eq_getElem?_getD, List.getElem?_eq_getElem hk]; rfl
      rw [if_pos (by omega), idx_get hk, hx3]
      simp only [Option.bind_some]
      rw [shl1 (Nat.mod_lt _ (by decide))]
      simp only [Option.bind_some]
      rw [quo_pow hx2 (Nat.mod_lt _ (by decide))]
      have hb : bt s i = decide (x / 2 ^ (i % 64) % 2 = 1) := by unfold bt; rw [hx1, Int.toNat_natCast, bitAt]
      generalize x / 2 ^ (i % 64) = q at hb ⊢
      simp only [Option.bind_some, cnd_beq]
      rw [Int.tmod_eq_emod_of_nonneg (Int.natCast_nonneg _)]
      by_cases h : q % 2 = 1
      · rw [if_pos (by omega), app_ok (by simp only [List.length_cons, List.length_nil]; omega)]
        simp only [Option.bind_some]
        unfold tourref1_Members_j3
        rw [i64ok (by omega) (by omega), hnext, if_pos (by rw [hb, decide_eq_true h])]; rfl
      · rw [if_neg (by omega)]
        unfold tourref1_Members_j3
        rw [i64ok (by omega) (by omega), hnext, if_neg (by rw [hb, decide_eq_false h]; simp)]; rfl
    · rw [if_neg (by omega)]
      unfold tourref1_Members_j3
      rw [i64ok (by omega) (by omega), hnext, if_neg (by rw [bt_out (by omega)]; simp)]; rfl) (by
    show tourref1_Members_l2 s _ (N : Int) = _
    unfold tourref1_Members_l2
    rw [cnd_dec, if_neg (by omega), hels])
  rw [show ((([] : List Int), (0 : Int)) : List Int × Int) = (fun i : Nat => (((List.range i).filter (inS s)).map (fun (n : Nat) => (n : Int)), (i : Int))) 0 from rfl, this]
  rfl
end Go.Proofs.Ythcniadbdjoecaa.S
