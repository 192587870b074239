/- The law ColumnPlays, in plain Lean. No condition. -/
import Derived.Test.YtbfndcookgijfaaPuColSortP
namespace Go.Proofs.Ytbfndcookgijfaa.P
open Go Go.RowKit Go.Proofs.Ytbfndcookgijfaa.Sx Classical
set_option linter.unusedVariables false
set_option linter.unusedSimpArgs false
theorem stored_ok : tourlaw3_stored = some true := by
  have e0 : column_New_int = some ([], []) := rfl
  have e1 : tourlaw3_stored_l3 [] [] [] 0 = some (.inl ([40], [4], [(4, 0)], 1)) := by kernel_rfl
  have e2 : tourlaw3_stored_l3 [40] [4] [(4, 0)] 1 = some (.inl ([40, 20], [4, 2], [(4, 0), (2, 1)], 2)) := by kernel_rfl
  have e3 : tourlaw3_stored_l3 [40, 20] [4, 2] [(4, 0), (2, 1)] 2 = some (.inl ([40, 20, 70], [4, 2, 7], [(4, 0), (2, 1), (7, 2)], 3)) := by kernel_rfl
  have e4 : tourlaw3_stored_l3 [40, 20, 70] [4, 2, 7] [(4, 0), (2, 1), (7, 2)] 3 = some (.inr (.inr ([40, 20, 70], [4, 2, 7], [(4, 0), (2, 1), (7, 2)]))) := by kernel_rfl
  have e5 : column_Store_int_Drop [40, 20, 70] [4, 2, 7] [(4, 0), (2, 1), (7, 2)] 4 = some (0, [70, 20], [7, 2], [(2, 1), (7, 0)]) := by kernel_rfl
  unfold tourlaw3_stored
  rw [e0, bnd2_some, loop_inl (s' := ([40], [4], [(4, 0)], 1)) (by exact e1), loop_inl (s' := ([40, 20], [4, 2], [(4, 0), (2, 1)], 2)) (by exact e2), loop_inl (s' := ([40, 20, 70], [4, 2, 7], [(4, 0), (2, 1), (7, 2)], 3)) (by exact e3), loop_inr (r := .inr ([40, 20, 70], [4, 2, 7], [(4, 0), (2, 1), (7, 2)])) (by exact e4), Option.bind_some]
  show tourlaw3_stored_j1 [40, 20, 70] [4, 2, 7] [(4, 0), (2, 1), (7, 2)] = _
  unfold tourlaw3_stored_j1 column_Store_int_Rows tourlaw3_stored_j2
  rw [e5, bnd4_some, cnd_pos (by rfl), clone_C (by decide), Option.bind_some, Option.bind_some, equal_selfC (by decide), Option.bind_some]
theorem j7_ok {r v : List Int} {m : List (Int × Int)} (h : InvC r v m) (i : Nat) (n : Int) (hi : i ≤ 4611686018427387904) : tourlaw3_ColumnPlays_j7 (i : Int) n v r m r v = some (.inl (v, r, m, r, v, ((i + 1 : Nat) : Int))) := by
  have e : tourlaw3_ColumnPlays_j5 (i : Int) v r m r v = some (.inl (v, r, m, r, v, ((i + 1 : Nat) : Int))) := by
    unfold tourlaw3_ColumnPlays_j5
    rw [i64ok (by omega) (by omega)]; rfl
  unfold tourlaw3_ColumnPlays_j7
  rw [agrees_ok h n, Option.bind_some, cnd_not, cnd_true, e, cnd_ite]
  split <;> rfl
theorem j9_ok {r v : List Int} {m : List (Int × Int)} (h : InvC r v m) (i : Nat) (n : Int) (t : Bool) (hi : i ≤ 4611686018427387904) : ∃ r' v' m', tourlaw3_ColumnPlays_j9 v r m n r v (i : Int) t = some (.inl (v', r', m', r', v', ((i + 1 : Nat) : Int))) ∧ InvC r' v' m' := by
  unfold tourlaw3_ColumnPlays_j9
  cases t with
  | true =>
    obtain ⟨e, r', v', m', e1, e2, h'⟩ := drop_ok h n
    rw [cnd_true, e1, bnd4_some, e2, bnd3_some, cnd_not, cnd_pos (by simp)]
    exact ⟨r', v', m', j7_ok h' i n hi, h'⟩
  | false =>
    obtain ⟨r', v', m', e1, e2, h'⟩ := sort_ok h
    rw [cnd_false, e1, bnd3_some, e2, bnd2_some]
    exact ⟨r', v', m', j7_ok h' i n hi, h'⟩
theorem j8_ok {r v : List Int} {m : List (Int × Int)} (h : InvC r v m) (i : Nat) (n x : Int) (t : Bool) (hi : i ≤ 4611686018427387904) (hn : n < 0 ∨ 256 ≤ n ∨ n < 8) : ∃ r' v' m', tourlaw3_ColumnPlays_j8 v r m n x r v (i : Int) t = some (.inl (v', r', m', r', v', ((i + 1 : Nat) : Int))) ∧ InvC r' v' m' := by
  unfold tourlaw3_ColumnPlays_j8
  cases t with
  | true =>
    obtain ⟨e, r', v', m', e1, e2, h'⟩ := put_ok h n x hn
    rw [cnd_true, e1, bnd4_some, e2, bnd3_some, cnd_not, cnd_pos (by simp)]
    exact ⟨r', v', m', j7_ok h' i n hi, h'⟩
  | false =>
    rw [cnd_false, cnd_ite]
    split
    · exact j9_ok h i n _ hi
    · exact j9_ok h i n _ hi
theorem j6_ok {r v : List Int} {m : List (Int × Int)} (h : InvC r v m) (i : Nat) (n x : Int) (hi : i ≤ 4611686018427387904) (hn : n < 0 ∨ 256 ≤ n ∨ n < 8) : ∃ r' v' m', tourlaw3_ColumnPlays_j6 x v r m r v (i : Int) n = some (.inl (v', r', m', r', v', ((i + 1 : Nat) : Int))) ∧ InvC r' v' m' := by
  unfold tourlaw3_ColumnPlays_j6
  rw [cnd_ite]
  split
  · exact j8_ok h i n x _ hi hn
  · exact j8_ok h i n x _ hi hn
/-! ### The store turned to another -/
def txtC (r v : List Int) (i : Nat) : ByteArray := strOf [IntKind.u8.wrap (kv r i), IntKind.u8.wrap (kv v i)]
theorem map_ok {r v : List Int} {m : List (Int × Int)} (h : InvC r v m) : ∃ m2, column_Map_int_string v r m = some ((List.range r.length).map (txtC r v), r, m2) ∧ ∀ a, a < r.length → mget m2 (kv r a) = some (a : Int) := by
  have hs := h.small
  have hl := h.len
  obtain ⟨⟨s0, s1, s2⟩, e, q0, q1, q2⟩ := loop_keeps (step := fun s_ : Int × (List ByteArray) × (List Int) × (List (Int × Int)) => column_Map_int_string_l2 r v s_.1 s_.2.1 s_.2.2.1 s_.2.2.2) r.length (fun i s => s.1 = (i : Int) ∧ s.2.1 = (List.range i).map (txtC r v) ∧ s.2.2.1 = r.take i ∧ (∀ a, a < i → mget s.2.2.2 (kv r a) = some (a : Int)) ∧ ∀ n, (∀ a, a < i → kv r a ≠ n) → mget s.2.2.2 n = none) (fun s => s.1 = (List.range r.length).map (txtC r v) ∧ s.2.1 = r ∧ ∀ a, a < r.length → mget s.2.2 (kv r a) = some (a : Int)) (fun i s hi hI => by
    obtain ⟨jj, s0, s1, s2⟩ := s
    obtain ⟨rfl, rfl, rfl, h1, h2⟩ := hI
    dsimp only at h1 h2
    show ∃ s', column_Map_int_string_l2 r v (i : Int) ((List.range i).map (txtC r v)) (r.take i) s2 = _ ∧ _
    have hne : ∀ a, a < i → kv r a ≠ kv r i := fun a ha e => by
      rw [kv_eq (by omega), kv_eq hi] at e
      exact List.pairwise_iff_getElem.1 h.nd a i (by omega) hi ha e
    have hrg := h.rg (kv r i) (by rw [kv_eq hi]; exact List.getElem_mem hi)
    have ep : column_Store_string_Put ((List.range i).map (txtC r v)) (r.take i) s2 (kv r i) (txtC r v i) = some (0, (List.range (i + 1)).map (txtC r v), r.take (i + 1), mput s2 (kv r i) (i : Int)) := by
      unfold column_Store_string_Put column_Store_string_Put_j1
      rw [cnd_dec, if_neg (by omega), cnd_dec, if_neg (by omega), h2 _ hne, Option.isSome_none, Option.bind_some, cnd_false, Option.bind_some, app_ok (by simp; omega), Option.bind_some, app_ok (by simp; omega), Option.bind_some]
      rw [List.range_succ, List.map_append, List.take_succ_eq_append_getElem hi, ← kv_eq hi, List.length_take, Nat.min_eq_left (by omega)]; rfl
    unfold column_Map_int_string_l2 tourlaw3_ColumnPlays_1
    rw [cnd_dec, if_pos (by omega), idx_kv hi, Option.bind_some, idx_kv (by omega), Option.bind_some, Option.bind_some, Option.bind_some]
    rw [show strOf [IntKind.u8.wrap (kv r i), IntKind.u8.wrap (kv v i)] = txtC r v i from rfl, ep, bnd4_some, i64ok (by omega) (by omega)]
    refine ⟨_, rfl, rfl, rfl, rfl, fun a ha => ?_, fun n hn => ?_⟩
    · show mget (mput s2 (kv r i) (i : Int)) (kv r a) = _
      rw [mget_putS]
      by_cases e : a = i
      · subst e; rw [if_pos rfl]
      · rw [if_neg (hne a (by omega))]; exact h1 a (by omega)
    · show mget (mput s2 (kv r i) (i : Int)) n = _
      rw [mget_putS, if_neg (fun e : n = kv r i => hn i (by omega) e.symm)]
      exact h2 n (fun a ha => hn a (by omega))) (fun s hI => by
    obtain ⟨jj, s0, s1, s2⟩ := s
    obtain ⟨rfl, rfl, rfl, h1, h2⟩ := hI
    show ∃ r', column_Map_int_string_l2 r v (r.length : Int) ((List.range r.length).map (txtC r v)) (r.take r.length) s2 = _ ∧ _
    unfold column_Map_int_string_l2
    rw [cnd_dec, if_neg (by omega)]
    exact ⟨_, rfl, rfl, List.take_length, h1⟩) (s := ((0 : Int), ([] : List ByteArray), ([] : List Int), ([] : List (Int × Int)))) ⟨rfl, rfl, rfl, fun a h => by omega, fun n _ => rfl⟩
  dsimp only at q0 q1 q2
  subst q0 q1
  refine ⟨s2, ?_, q2⟩
  unfold column_Map_int_string column_New_string column_Store_int_All column_Store_int_All_j1
  rw [bnd3_some, clone_C (by omega), Option.bind_some, clone_C (by omega), Option.bind_some, bnd2_some, e]; rfl
theorem ends_ok {r v : List Int} {m : List (Int × Int)} (h : InvC r v m) : tourlaw3_ColumnPlays_j1 v r m r v = some true := by
  have hs := h.small
  have hl := h.len
  obtain ⟨m2, em, hm⟩ := map_ok h
  unfold tourlaw3_ColumnPlays_j1 column_Store_string_Rows
  rw [em, bnd3_some, clone_C (by omega), Option.bind_some, Option.bind_some, equal_selfC (by omega), Option.bind_some, cnd_not, cnd_true]
  have e := loop_to (step := fun s_ => tourlaw3_ColumnPlays_l3 r ((List.range r.length).map (txtC r v)) r m2 v s_) (fun i => (i : Int)) r.length (r := .inr ()) (fun i hi => by
    show tourlaw3_ColumnPlays_l3 r ((List.range r.length).map (txtC r v)) r m2 v (i : Int) = _
    unfold tourlaw3_ColumnPlays_l3 column_Store_string_Get
    rw [cnd_dec, if_pos (by omega), idx_kv hi, Option.bind_some, hm i hi, Option.isSome_some, Option.bind_some, cnd_not, cnd_true, Option.getD_some, idx_get (by simp; omega), Option.bind_some, bnd2_some, cnd_not, cnd_true, idx_kv (by omega), Option.bind_some, Option.bind_some, cnd_not, List.getElem_map, List.getElem_range]
    rw [cnd_pos (by exact beq_self_eq_true _), i64ok (by omega) (by omega)]; rfl) (by
    show tourlaw3_ColumnPlays_l3 r ((List.range r.length).map (txtC r v)) r m2 v (r.length : Int) = _
    unfold tourlaw3_ColumnPlays_l3
    rw [cnd_dec, if_neg (by omega)])
  have e' : loop (σ := Int) (ρ := (Bool ⊕ Unit)) (fun s_ => tourlaw3_ColumnPlays_l3 r ((List.range r.length).map (txtC r v)) r m2 v s_) 0 = _ := e
  rw [e', Option.bind_some]
  show tourlaw3_ColumnPlays_j2 v r m r v = _
  unfold tourlaw3_ColumnPlays_j2
  rw [agrees_ok h 3]; rfl
theorem ColumnPlays_true (l : List Int) (h0 : (okl 8 (okk .i64)) l) : tourlaw3_ColumnPlays l = some true := by
  have hn : l.length ≤ 1152921504606846976 := by have := h0.1; omega
  obtain ⟨s, e, v, r, m, rfl, h⟩ := loop_keeps (step := fun s_ : (List Int) × (List Int) × (List (Int × Int)) × (List Int) × (List Int) × Int => tourlaw3_ColumnPlays_l4 l s_.1 s_.2.1 s_.2.2.1 s_.2.2.2.1 s_.2.2.2.2.1 s_.2.2.2.2.2) l.length (fun i s => ∃ v r m, s = (v, r, m, r, v, (i : Int)) ∧ InvC r v m) (fun s => ∃ v r m, s = .inr (v, r, m, r, v) ∧ InvC r v m) (fun i s hi hI => by
    obtain ⟨v, r, m, rfl, h⟩ := hI
    show ∃ s', tourlaw3_ColumnPlays_l4 l v r m r v (i : Int) = _ ∧ _
    unfold tourlaw3_ColumnPlays_l4
    rw [cnd_dec, if_pos (by omega), idx_get hi, Option.bind_some, cnd_ite]
    have h1 : Int.tmod l[i] 7 < 7 := Int.tmod_lt_of_pos _ (by decide)
    split
    · obtain ⟨r', v', m', e, h'⟩ := j6_ok h i 300 l[i] (by omega) (.inr (.inl (by decide)))
      exact ⟨_, e, v', r', m', rfl, h'⟩
    · obtain ⟨r', v', m', e, h'⟩ := j6_ok h i (Int.tmod l[i] 7) l[i] (by omega) (.inr (.inr (by omega)))
      exact ⟨_, e, v', r', m', rfl, h'⟩) (fun s hI => by
    obtain ⟨v, r, m, rfl, h⟩ := hI
    show ∃ s', tourlaw3_ColumnPlays_l4 l v r m r v (l.length : Int) = _ ∧ _
    unfold tourlaw3_ColumnPlays_l4
    rw [cnd_dec, if_neg (by omega)]
    exact ⟨_, rfl, v, r, m, rfl, h⟩) (s := (([] : List Int), ([] : List Int), ([] : List (Int × Int)), ([] : List Int), ([] : List Int), (0 : Int))) ⟨[], [], [], rfl, inv_nil⟩
  unfold tourlaw3_ColumnPlays
  rw [stored_ok, Option.bind_some, cnd_not, cnd_true, show column_New_int = some ([], []) from rfl, bnd2_some, e, Option.bind_some]
  exact ends_ok h
end Go.Proofs.Ytbfndcookgijfaa.P
