/- Sorting a store and a pair of lists, in plain Lean. No condition. -/
import Derived.Test.YtbfndcookgijfaaPuColumnP
namespace Go.Proofs.Ytbfndcookgijfaa.P
open Go Go.RowKit Go.Proofs.Ytbfndcookgijfaa.Sx Classical
set_option linter.unusedVariables false
set_option linter.unusedSimpArgs false
/-! ### Places and swaps -/
def kv (l : List Int) (a : Nat) : Int := l.getD a 0
theorem kv_eq {l : List Int} {a : Nat} (h : a < l.length) : kv l a = l[a] := by unfold kv; rw [List.getD_eq_getElem?_getD, List.getElem?_eq_getElem h, Option.getD_some]
theorem kv_set {l : List Int} {i : Nat} (h : i < l.length) (x : Int) (a : Nat) : kv (l.set i x) a = if i = a then x else kv l a := by
  unfold kv
  rw [List.getD_eq_getElem?_getD, List.getD_eq_getElem?_getD, List.getElem?_set]
  by_cases e : i = a
  · rw [if_pos e, if_pos e, if_pos h, Option.getD_some]
  · rw [if_neg e, if_neg e]
theorem idx_kv {l : List Int} {a : Nat} (h : a < l.length) : idx l (a : Int) = some (kv l a) := by rw [idx_get h, kv_eq h]
theorem ext_kv {k l : List Int} (hl : k.length = l.length) (h : ∀ a, a < k.length → kv k a = kv l a) : k = l := List.ext_getElem hl fun a h1 h2 => by rw [← kv_eq h1, ← kv_eq h2]; exact h a h1
def swp (l : List Int) (i j : Nat) : List Int := (l.set i (kv l j)).set j (kv l i)
theorem swp_len {l : List Int} {i j : Nat} : (swp l i j).length = l.length := by unfold swp; rw [List.length_set, List.length_set]
theorem swp_perm {l : List Int} {i j : Nat} (hi : i < l.length) (hj : j < l.length) : (swp l i j).Perm l := by unfold swp; rw [kv_eq hi, kv_eq hj]; exact List.set_set_perm hi hj
theorem swp_kv {l : List Int} {i j : Nat} (hi : i < l.length) (hj : j < l.length) (a : Nat) : kv (swp l i j) a = if j = a then kv l i else if i = a then kv l j else kv l a := by
  unfold swp; rw [kv_set (by rw [List.length_set]; exact hj), kv_set hi]
theorem zip_setS : ∀ (k v : List Int) (i : Nat) (x y : Int), (k.set i x).zip (v.set i y) = (k.zip v).set i (x, y)
  | [], _, _, _, _ => by simp
  | _ :: _, [], _, _, _ => by simp
  | a :: k, b :: v, 0, x, y => by simp
  | a :: k, b :: v, i + 1, x, y => by simp only [List.set_cons_succ, List.zip_cons_cons]; rw [zip_setS k v i x y]
theorem swp_zip {k v : List Int} {i j : Nat} (hl : v.length = k.length) (hi : i < k.length) (hj : j < k.length) : ((swp k i j).zip (swp v i j)).Perm (k.zip v) := by
  unfold swp
  rw [zip_setS, zip_setS]
  have h1 : i < (k.zip v).length := by rw [List.length_zip]; omega
  have h2 : j < (k.zip v).length := by rw [List.length_zip]; omega
  have e1 : (k.zip v)[i] = (kv k i, kv v i) := by rw [List.getElem_zip, kv_eq hi, kv_eq (by omega)]
  have e2 : (k.zip v)[j] = (kv k j, kv v j) := by rw [List.getElem_zip, kv_eq hj, kv_eq (by omega)]
  rw [← e1, ← e2]
  exact List.set_set_perm h1 h2
/-! ### The library's sort by insertion -/
theorem ins_inner {l0 : List Int} (i : Nat) (hi : i < l0.length) (hn : l0.length ≤ 1000000) (hs : ∀ a b, a < b → b < i → kv l0 a ≤ kv l0 b) : ∃ l', loop (σ := (List Int) × Int) (ρ := (List Int)) (fun s_ => slices_insertionSortOrdered_int_l3 0 s_.1 s_.2) (l0, (i : Int)) = some l' ∧ l'.Perm l0 ∧ ∀ a b, a < b → b < i + 1 → kv l' a ≤ kv l' b := by
  refine loop_inv (fun s : (List Int) × Int => ∃ j : Nat, s.2 = (j : Int) ∧ j ≤ i ∧ s.1.Perm l0 ∧ (∀ a b, a < b → b < i + 1 → a ≠ j → b ≠ j → kv s.1 a ≤ kv s.1 b) ∧ ∀ b, j < b → b < i + 1 → kv s.1 j ≤ kv s.1 b) (fun s : (List Int) × Int => s.2.toNat) (fun l' : List Int => l'.Perm l0 ∧ ∀ a b, a < b → b < i + 1 → kv l' a ≤ kv l' b) (fun s hI => ?_) ⟨i, rfl, Nat.le_refl _, List.Perm.refl _, fun a b h1 h2 h3 h4 => hs a b h1 (by omega), fun b h1 h2 => by omega⟩
  obtain ⟨l, jj⟩ := s
  obtain ⟨j, rfl, hj, hp, h1, h2⟩ := hI
  dsimp only at hp h1 h2
  have hlen : l.length = l0.length := hp.length_eq
  show ∃ o, slices_insertionSortOrdered_int_l3 0 l (j : Int) = some o ∧ _
  unfold slices_insertionSortOrdered_int_l3 slices_insertionSortOrdered_int_j4 cmp_Less_int cmp_isNaN_int
  have fin : (j = 0 ∨ kv l (j - 1) ≤ kv l j) → ∀ a b, a < b → b < i + 1 → kv l a ≤ kv l b := fun hh a b hab hb => by
    by_cases e1 : a = j
    · subst e1; exact h2 b hab hb
    · by_cases e2 : b = j
      · subst e2
        rcases hh with hh | hh
        · omega
        · by_cases e3 : a = b - 1
          · subst e3; exact hh
          · have := h1 a (b - 1) (by omega) (by omega) e1 (by omega)
            omega
      · exact h1 a b hab hb e1 e2
  by_cases h0 : 0 < j
  · obtain ⟨q, rfl⟩ : ∃ q, j = q + 1 := ⟨j - 1, by omega⟩
    have hw : IntKind.i64.wrap (((q + 1 : Nat) : Int) - 1) = (q : Int) := by rw [i64ok (by omega) (by omega)]; omega
    rw [cnd_dec, if_pos (by omega), hw, idx_kv (by omega), Option.bind_some, idx_kv (by omega), Option.bind_some, Option.bind_some, Option.bind_some, cnd_dec]
    by_cases hc : kv l (q + 1) < kv l q
    · rw [if_pos hc, Option.bind_some, Option.bind_some, Option.bind_some, upd_ok (by omega), Option.bind_some, idx_kv (by rw [List.length_set]; omega), Option.bind_some, upd_ok (by rw [List.length_set]; omega), Option.bind_some]
      have e : (l.set (q + 1) (kv l q)).set q (kv l (q + 1)) = swp l (q + 1) q := rfl
      rw [e]
      refine ⟨_, rfl, ⟨q, rfl, by omega, (swp_perm (by omega) (by omega)).trans hp, fun a b hab hb e1 e2 => ?_, fun b hab hb => ?_⟩, by show (q : Int).toNat < ((q + 1 : Nat) : Int).toNat; omega⟩
      · show kv (swp l (q + 1) q) a ≤ kv (swp l (q + 1) q) b
        rw [swp_kv (by omega) (by omega), swp_kv (by omega) (by omega), if_neg (fun e : q = a => e1 e.symm), if_neg (fun e : q = b => e2 e.symm)]
        by_cases e3 : q + 1 = a
        · rw [if_pos e3, if_neg (by omega)]; exact h1 q b (by omega) hb (by omega) (by omega)
        · rw [if_neg e3]
          by_cases e4 : q + 1 = b
          · rw [if_pos e4]; exact h1 a q (by omega) (by omega) (by omega) (by omega)
          · rw [if_neg e4]; exact h1 a b hab hb (by omega) (by omega)
      · show kv (swp l (q + 1) q) q ≤ kv (swp l (q + 1) q) b
        rw [swp_kv (by omega) (by omega), swp_kv (by omega) (by omega), if_pos rfl, if_neg (by omega)]
        by_cases e4 : q + 1 = b
        · rw [if_pos e4]; omega
        · rw [if_neg e4]; exact h2 b (by omega) hb
    · rw [if_neg hc]
      exact ⟨_, rfl, hp, fin (.inr (by rw [Nat.add_sub_cancel]; omega))⟩
  · rw [cnd_dec, if_neg (by omega)]
    exact ⟨_, rfl, hp, fin (.inl (by omega))⟩
theorem ins_sort {l0 : List Int} (hn : l0.length ≤ 1000000) : ∃ l', slices_insertionSortOrdered_int l0 0 (l0.length : Int) = some l' ∧ l'.Perm l0 ∧ ∀ a b, a < b → b < l0.length → kv l' a ≤ kv l' b := by
  obtain ⟨l', e, h⟩ := loop_inv (step := fun s_ : (List Int) × Int => slices_insertionSortOrdered_int_l1 (l0.length : Int) 0 s_.1 s_.2) (fun s => ∃ i : Nat, s.2 = (i : Int) ∧ 1 ≤ i ∧ s.1.Perm l0 ∧ ∀ a b, a < b → b < i → b < l0.length → kv s.1 a ≤ kv s.1 b) (fun s => l0.length + 1 - s.2.toNat) (fun l' => l'.Perm l0 ∧ ∀ a b, a < b → b < l0.length → kv l' a ≤ kv l' b) (fun s hI => by
    obtain ⟨l, jj⟩ := s
    obtain ⟨i, rfl, h1, hp, h2⟩ := hI
    have hlen : l.length = l0.length := hp.length_eq
    show ∃ o, slices_insertionSortOrdered_int_l1 (l0.length : Int) 0 l (i : Int) = some o ∧ _
    unfold slices_insertionSortOrdered_int_l1
    by_cases hi : i < l0.length
    · obtain ⟨l', e, g1, g2⟩ := ins_inner (l0 := l) i (by omega) (by omega) (fun a b hab hb => h2 a b hab hb (by omega))
      rw [cnd_dec, if_pos (by omega), e, Option.bind_some]
      unfold slices_insertionSortOrdered_int_j2
      rw [i64ok (by omega) (by omega)]
      exact ⟨_, rfl, ⟨i + 1, rfl, by omega, g1.trans hp, fun a b hab hb _ => g2 a b hab hb⟩, by show l0.length + 1 - ((i : Int) + 1).toNat < l0.length + 1 - (i : Int).toNat; omega⟩
    · rw [cnd_dec, if_neg (by omega)]
      exact ⟨_, rfl, hp, fun a b hab hb => h2 a b hab (by omega) hb⟩) (s := (l0, (1 : Int))) ⟨1, rfl, Nat.le_refl _, List.Perm.refl _, fun a b h1 h2 => by omega⟩
  refine ⟨l', ?_, h⟩
  unfold slices_insertionSortOrdered_int
  have hw : IntKind.i64.wrap (0 + 1) = 1 := by rfl
  rw [hw, e]; rfl
theorem sidx_bind {s : ByteArray} {n : Nat} {f : Int → Option Int} (hs : s.size = 256) (h : n < 256) (hf : ∀ x, ∃ y, f x = some y) : ∃ y, (sidx s (n : Int)).bind f = some y := by
  rw [sidx_ok (by rw [← size_len]; omega), Option.bind_some]
  exact hf _
theorem len_some {x : Int} (h0 : 0 ≤ x) (h : x ≤ 100) : ∃ y, math_bits_Len x = some y := by
  unfold math_bits_Len math_bits_Len64 math_bits_Len64_j1 math_bits_Len64_j2 math_bits_Len64_j3
  obtain ⟨n, rfl⟩ : ∃ n : Nat, x = n := ⟨x.toNat, by omega⟩
  have hw : IntKind.u8.wrap (n : Int) = (n : Int) := by rw [IntKind.wrap_u8]; omega
  rw [cnd_dec, if_neg (by omega), cnd_dec, if_neg (by omega), cnd_dec, if_neg (by omega), hw, Option.bind_assoc]
  exact sidx_bind (by kernel_rfl) (by omega) (fun x => ⟨_, rfl⟩)
theorem sort_int {l0 : List Int} (hn : l0.length ≤ 8) : ∃ l', slices_Sort_int_int l0 = some l' ∧ l'.Perm l0 ∧ ∀ a b, a < b → b < l0.length → kv l' a ≤ kv l' b := by
  obtain ⟨l', e, h⟩ := ins_sort (l0 := l0) (by omega)
  refine ⟨l', ?_, h⟩
  have hw : IntKind.u64.wrap (l0.length : Int) = (l0.length : Int) := by rw [IntKind.wrap_u64]; omega
  obtain ⟨y, hy⟩ := len_some (x := (l0.length : Int)) (by omega) (by omega)
  unfold slices_Sort_int_int slices_pdqsortOrdered_int
  rw [hw, hy, Option.bind_some]
  rw [loop_inr (r := l') (by
    show slices_pdqsortOrdered_int_l1 (l0.length : Int) 0 l0 y = _
    unfold slices_pdqsortOrdered_int_l1
    rw [cnd_dec, if_pos (by rw [i64ok (by omega) (by omega)]; omega), e]; rfl)]; rfl
theorem collect_int {l0 : List Int} (hn : l0.length ≤ 1000000) : slices_Collect_int l0 = some l0 := by
  unfold slices_Collect_int slices_AppendSeq_int_int
  have e := loop_to (step := fun s_ : Int × (List Int) => slices_AppendSeq_int_int_l2 l0 s_.1 s_.2) (fun i => ((i : Int), l0.take i)) l0.length (r := l0) (fun i hi => by
    show slices_AppendSeq_int_int_l2 l0 (i : Int) (l0.take i) = _
    unfold slices_AppendSeq_int_int_l2
    rw [cnd_dec, if_pos (by omega), idx_get hi, Option.bind_some, app_ok (by simp; omega), Option.bind_some, i64ok (by omega) (by omega), List.take_succ_eq_append_getElem hi]; rfl) (by
    show slices_AppendSeq_int_int_l2 l0 (l0.length : Int) (l0.take l0.length) = _
    unfold slices_AppendSeq_int_int_l2
    rw [cnd_dec, if_neg (by omega), List.take_length])
  have e' : loop (σ := Int × (List Int)) (ρ := (List Int)) (fun s_ => slices_AppendSeq_int_int_l2 l0 s_.1 s_.2) (0, []) = _ := e
  rw [e']; rfl
theorem sorted_int {l0 : List Int} (hn : l0.length ≤ 8) : ∃ l', slices_Sorted_int l0 = some l' ∧ l'.Perm l0 ∧ ∀ a b, a < b → b < l0.length → kv l' a ≤ kv l' b := by
  obtain ⟨l', e, h⟩ := sort_int hn
  refine ⟨l', ?_, h⟩
  unfold slices_Sorted_int
  rw [collect_int (by omega), Option.bind_some, e]; rfl
/-! ### The reference's sort by exchange -/
theorem ref_inner {k0 v0 : List Int} (i : Nat) (hi : i < k0.length) (hl : v0.length = k0.length) (hn : k0.length ≤ 1000000) (hs : ∀ a b, a < b → b < i → kv k0 a ≤ kv k0 b) : ∃ r, loop (σ := (List Int) × (List Int) × Int) (ρ := (List Int) × (List Int)) (fun s_ => tourref3_Model_Sort_l3 (i : Int) s_.1 s_.2.1 s_.2.2) (k0, v0, 0) = some r ∧ r.1.length = k0.length ∧ r.2.length = k0.length ∧ (r.1.zip r.2).Perm (k0.zip v0) ∧ ∀ a b, a < b → b < i + 1 → kv r.1 a ≤ kv r.1 b := by
  refine loop_keeps i (fun j (s : (List Int) × (List Int) × Int) => s.2.2 = (j : Int) ∧ s.1.length = k0.length ∧ s.2.1.length = k0.length ∧ (s.1.zip s.2.1).Perm (k0.zip v0) ∧ (∀ a b, a < b → b < i → kv s.1 a ≤ kv s.1 b) ∧ ∀ a, a < j → kv s.1 a ≤ kv s.1 i) (fun r : (List Int) × (List Int) => r.1.length = k0.length ∧ r.2.length = k0.length ∧ (r.1.zip r.2).Perm (k0.zip v0) ∧ ∀ a b, a < b → b < i + 1 → kv r.1 a ≤ kv r.1 b) (fun j s hj hI => ?_) (fun s hI => ?_) ⟨rfl, rfl, hl, List.Perm.refl _, hs, fun a h => by omega⟩
  · obtain ⟨k, v, jj⟩ := s
    obtain ⟨rfl, hk, hv, hp, h1, h2⟩ := hI
    dsimp only at hk hv hp h1 h2
    show ∃ s', tourref3_Model_Sort_l3 (i : Int) k v (j : Int) = _ ∧ _
    unfold tourref3_Model_Sort_l3 tourref3_Model_Sort_j5 tourref3_Model_Sort_j4
    rw [cnd_dec, if_pos (by omega), idx_kv (by omega), Option.bind_some, idx_kv (by omega), Option.bind_some, cnd_dec]
    by_cases hc : kv k i < kv k j
    · rw [if_pos hc, Option.bind_some, Option.bind_some, Option.bind_some, upd_ok (by omega), Option.bind_some, idx_kv (by rw [List.length_set]; omega), Option.bind_some, upd_ok (by rw [List.length_set]; omega), Option.bind_some, idx_kv (by omega), Option.bind_some, idx_kv (by omega), Option.bind_some, Option.bind_some, upd_ok (by omega), Option.bind_some, idx_kv (by rw [List.length_set]; omega), Option.bind_some, upd_ok (by rw [List.length_set]; omega), Option.bind_some, i64ok (by omega) (by omega)]
      have e1 : (k.set i (kv k j)).set j (kv k i) = swp k i j := rfl
      have e2 : (v.set i (kv v j)).set j (kv v i) = swp v i j := rfl
      rw [e1, e2]
      have hki : i < k.length := by omega
      have hkj : j < k.length := by omega
      refine ⟨_, rfl, rfl, by rw [← hk]; exact swp_len, by rw [← hv]; exact swp_len, (swp_zip (by omega) hki hkj).trans hp, fun a b hab hb => ?_, fun a ha => ?_⟩
      · show kv (swp k i j) a ≤ kv (swp k i j) b
        rw [swp_kv hki hkj, swp_kv hki hkj]
        by_cases e3 : j = a
        · rw [if_pos e3, if_neg (by omega), if_neg (by omega)]
          have := h1 j b (by omega) hb
          omega
        · rw [if_neg e3, if_neg (by omega)]
          by_cases e4 : j = b
          · rw [if_pos e4]; exact h2 a (by omega)
          · rw [if_neg e4, if_neg (by omega)]; exact h1 a b hab hb
      · show kv (swp k i j) a ≤ kv (swp k i j) i
        rw [swp_kv hki hkj, swp_kv hki hkj, if_neg (by omega : ¬ j = i), if_pos rfl]
        by_cases e3 : j = a
        · rw [if_pos e3]; omega
        · rw [if_neg e3, if_neg (by omega)]; exact h1 a j (by omega) (by omega)
    · rw [if_neg hc, i64ok (by omega) (by omega)]
      refine ⟨_, rfl, rfl, hk, hv, hp, h1, fun a ha => ?_⟩
      show kv k a ≤ kv k i
      by_cases e3 : a = j
      · subst e3; omega
      · exact h2 a (by omega)
  · obtain ⟨k, v, jj⟩ := s
    obtain ⟨rfl, hk, hv, hp, h1, h2⟩ := hI
    dsimp only at hk hv hp h1 h2
    show ∃ r, tourref3_Model_Sort_l3 (i : Int) k v (i : Int) = _ ∧ _
    unfold tourref3_Model_Sort_l3
    rw [cnd_dec, if_neg (by omega)]
    refine ⟨_, rfl, hk, hv, hp, fun a b hab hb => ?_⟩
    by_cases e : b = i
    · subst e; exact h2 a hab
    · exact h1 a b hab (by omega)
theorem ref_sort {k0 v0 : List Int} (hl : v0.length = k0.length) (hn : k0.length ≤ 1000000) : ∃ k v, tourref3_Model_Sort k0 v0 = some (k, v) ∧ k.length = k0.length ∧ v.length = k0.length ∧ (k.zip v).Perm (k0.zip v0) ∧ ∀ a b, a < b → b < k0.length → kv k a ≤ kv k b := by
  obtain ⟨r, e, h⟩ := loop_keeps (step := fun s_ : (List Int) × (List Int) × Int => tourref3_Model_Sort_l1 k0 s_.1 s_.2.1 s_.2.2) k0.length (fun i s => s.2.2 = (i : Int) ∧ s.1.length = k0.length ∧ s.2.1.length = k0.length ∧ (s.1.zip s.2.1).Perm (k0.zip v0) ∧ ∀ a b, a < b → b < i → kv s.1 a ≤ kv s.1 b) (fun r : (List Int) × (List Int) => r.1.length = k0.length ∧ r.2.length = k0.length ∧ (r.1.zip r.2).Perm (k0.zip v0) ∧ ∀ a b, a < b → b < k0.length → kv r.1 a ≤ kv r.1 b) (fun i s hi hI => by
    obtain ⟨k, v, jj⟩ := s
    obtain ⟨rfl, hk, hv, hp, h1⟩ := hI
    dsimp only at hk hv hp h1
    show ∃ s', tourref3_Model_Sort_l1 k0 k v (i : Int) = _ ∧ _
    obtain ⟨r, e, g1, g2, g3, g4⟩ := ref_inner (k0 := k) (v0 := v) i (by omega) (by omega) (by omega) h1
    unfold tourref3_Model_Sort_l1 tourref3_Model_Sort_j2
    rw [cnd_dec, if_pos (by omega), e, Option.bind_some, i64ok (by omega) (by omega)]
    exact ⟨_, rfl, rfl, g1.trans hk, g2.trans hk, g3.trans hp, g4⟩) (fun s hI => by
    obtain ⟨k, v, jj⟩ := s
    obtain ⟨rfl, hk, hv, hp, h1⟩ := hI
    show ∃ r, tourref3_Model_Sort_l1 k0 k v (k0.length : Int) = _ ∧ _
    unfold tourref3_Model_Sort_l1
    rw [cnd_dec, if_neg (by omega)]
    exact ⟨_, rfl, hk, hv, hp, h1⟩) (s := (k0, v0, (0 : Int))) ⟨rfl, rfl, hl, List.Perm.refl _, fun a b h1 h2 => by omega⟩
  refine ⟨r.1, r.2, ?_, h⟩
  unfold tourref3_Model_Sort
  rw [e]; rfl
/-! ### Two ways to the same order -/
theorem zip_fst {k v : List Int} (hl : v.length = k.length) : (k.zip v).map Prod.fst = k := List.map_fst_zip (by omega)
theorem zip_snd {k v : List Int} (hl : v.length = k.length) : (k.zip v).map Prod.snd = v := List.map_snd_zip (by omega)
theorem zip_srt {k v : List Int} (hl : v.length = k.length) (h : ∀ a b, a < b → b < k.length → kv k a ≤ kv k b) : (k.zip v).Pairwise fun x y => x.1 ≤ y.1 := by
  refine List.pairwise_iff_getElem.2 fun a b ha hb hab => ?_
  rw [List.length_zip] at ha hb
  rw [List.getElem_zip, List.getElem_zip]
  have := h a b hab (by omega)
  rw [kv_eq (by omega), kv_eq (by omega)] at this
  exact this
theorem key_inj {l : List (Int × Int)} (hn : (l.map Prod.fst).Nodup) {x y : Int × Int} (hx : x ∈ l) (hy : y ∈ l) (h : x.1 = y.1) : x = y := by
  induction l with
  | nil => cases hx
  | cons p l ih =>
    rw [List.map_cons, List.nodup_cons] at hn
    rcases List.mem_cons.1 hx with e1 | e1
    · rcases List.mem_cons.1 hy with e2 | e2
      · rw [e1, e2]
      · exact (hn.1 (List.mem_map.2 ⟨y, e2, by rw [← h, e1]⟩)).elim
    · rcases List.mem_cons.1 hy with e2 | e2
      · exact (hn.1 (List.mem_map.2 ⟨x, e1, by rw [h, e2]⟩)).elim
      · exact ih hn.2 e1 e2
theorem sort_one {k1 v1 k2 v2 : List Int} (h1 : v1.length = k1.length) (h2 : v2.length = k2.length) (hp : (k1.zip v1).Perm (k2.zip v2)) (hn : k1.Nodup) (s1 : ∀ a b, a < b → b < k1.length → kv k1 a ≤ kv k1 b) (s2 : ∀ a b, a < b → b < k2.length → kv k2 a ≤ kv k2 b) : k1 = k2 ∧ v1 = v2 := by
  have e : k1.zip v1 = k2.zip v2 := List.Perm.eq_of_pairwise (le := fun x y : Int × Int => x.1 ≤ y.1) (fun a b ha hb hab hba => key_inj (l := k1.zip v1) (by rw [zip_fst h1]; exact hn) ha (hp.mem_iff.2 hb) (by omega)) (zip_srt h1 s1) (zip_srt h2 s2) hp
  exact ⟨by rw [← zip_fst h1, e, zip_fst h2], by rw [← zip_snd h1, e, zip_snd h2]⟩
/-! ### The store's sort -/
theorem sort_ok {r v : List Int} {m : List (Int × Int)} (h : InvC r v m) : ∃ r' v' m', column_Store_int_Sort v r m = some (v', r', m') ∧ tourref3_Model_Sort r v = some (r', v') ∧ InvC r' v' m' := by
  have hs := h.small
  have hl := h.len
  obtain ⟨k, ek, hpk, hsk⟩ := sorted_int hs
  obtain ⟨k2, v2, e2, g1, g2, g3, g4⟩ := ref_sort hl (by omega)
  have hkl : k.length = r.length := hpk.length_eq
  have hkn : k.Nodup := hpk.nodup_iff.2 h.nd
  let g : Int → Int := fun n => kv v ((mget m n).getD 0).toNat
  have hmem : ∀ n, n ∈ k → ∃ i, i < r.length ∧ mget m n = some (i : Int) ∧ kv r i = n := fun n hn => by
    obtain ⟨i, hi, e⟩ := List.getElem_of_mem (hpk.mem_iff.1 hn)
    exact ⟨i, hi, h.at_ i n (by rw [List.getElem?_eq_getElem hi, e]), by rw [kv_eq hi, e]⟩
  have hkm : ∀ a, a < k.length → kv k a ∈ k := fun a ha => by rw [kv_eq ha]; exact List.getElem_mem ha
  obtain ⟨v', ev, hv1, hv2⟩ := loop_keeps (step := fun s_ : (List Int) × Int => column_Store_int_Sort_l4 k m v s_.1 s_.2) k.length (fun i s => s.2 = (i : Int) ∧ s.1.length = k.length ∧ ∀ a, a < i → kv s.1 a = g (kv k a)) (fun v' => v'.length = k.length ∧ ∀ a, a < k.length → kv v' a = g (kv k a)) (fun i s hi hI => by
    obtain ⟨l, jj⟩ := s
    obtain ⟨rfl, hk, h1⟩ := hI
    dsimp only at hk h1
    show ∃ s', column_Store_int_Sort_l4 k m v l (i : Int) = _ ∧ _
    obtain ⟨p, hp, hm, _⟩ := hmem _ (hkm i hi)
    unfold column_Store_int_Sort_l4
    rw [cnd_dec, if_pos (by omega), idx_kv hi, Option.bind_some, Option.bind_some, hm, Option.getD_some, idx_kv (by omega), Option.bind_some, idx_kv (by omega), Option.bind_some, upd_ok (by omega), Option.bind_some, i64ok (by omega) (by omega)]
    refine ⟨_, rfl, rfl, by rw [List.length_set]; exact hk, fun a ha => ?_⟩
    show kv (l.set i (kv v p)) a = _
    rw [kv_set (by omega)]
    by_cases e : i = a
    · rw [if_pos e, ← e]; show _ = kv v ((mget m (kv k i)).getD 0).toNat; rw [hm]; rfl
    · rw [if_neg e]; exact h1 a (by omega)) (fun s hI => by
    obtain ⟨l, jj⟩ := s
    obtain ⟨rfl, hk, h1⟩ := hI
    show ∃ r, column_Store_int_Sort_l4 k m v l (k.length : Int) = _ ∧ _
    unfold column_Store_int_Sort_l4
    rw [cnd_dec, if_neg (by omega)]
    exact ⟨_, rfl, hk, h1⟩) (s := (List.replicate k.length (0 : Int), (0 : Int))) ⟨rfl, List.length_replicate, fun a h => by omega⟩
  obtain ⟨m', em, hm1, hm2, hm3⟩ := loop_keeps (step := fun s_ : (List (Int × Int)) × Int => column_Store_int_Sort_l3 k s_.1 s_.2) k.length (fun i s => s.2 = (i : Int) ∧ (s.1.map Prod.fst).Nodup ∧ (∀ a, a < i → mget s.1 (kv k a) = some (a : Int)) ∧ ∀ n, n ∉ k → mget s.1 n = none) (fun m' => (m'.map Prod.fst).Nodup ∧ (∀ a, a < k.length → mget m' (kv k a) = some (a : Int)) ∧ ∀ n, n ∉ k → mget m' n = none) (fun i s hi hI => by
    obtain ⟨l, jj⟩ := s
    obtain ⟨rfl, hk, h1, h2⟩ := hI
    dsimp only at hk h1 h2
    show ∃ s', column_Store_int_Sort_l3 k l (i : Int) = _ ∧ _
    unfold column_Store_int_Sort_l3
    rw [cnd_dec, if_pos (by omega), idx_kv hi, Option.bind_some, Option.bind_some, i64ok (by omega) (by omega)]
    refine ⟨_, rfl, rfl, mput_nodupS hk, fun a ha => ?_, fun n hn => ?_⟩
    · show mget (mput l (kv k i) (i : Int)) (kv k a) = _
      rw [mget_putS]
      by_cases e : a = i
      · subst e; rw [if_pos rfl]
      · rw [if_neg (fun e2 => by rw [kv_eq (by omega), kv_eq hi] at e2; exact List.pairwise_iff_getElem.1 hkn a i (by omega) hi (by omega) e2)]
        exact h1 a (by omega)
    · show mget (mput l (kv k i) (i : Int)) n = _
      rw [mget_putS, if_neg (fun e : n = kv k i => hn (by rw [e]; exact hkm i hi))]
      exact h2 n hn) (fun s hI => by
    obtain ⟨l, jj⟩ := s
    obtain ⟨rfl, hk, h1, h2⟩ := hI
    show ∃ r, column_Store_int_Sort_l3 k l (k.length : Int) = _ ∧ _
    unfold column_Store_int_Sort_l3
    rw [cnd_dec, if_neg (by omega)]
    exact ⟨_, rfl, hk, h1, h2⟩) (s := (m, (0 : Int))) ⟨rfl, h.km, fun a h => by omega, fun n hn => h.no n (fun e => hn (hpk.mem_iff.2 e))⟩
  have hvk : v' = k.map g := ext_kv (by rw [hv1, List.length_map]) fun a ha => by
    rw [hv2 a (by omega), kv_eq (l := k.map g) (by rw [List.length_map]; omega), List.getElem_map, kv_eq (by omega)]
  have hvr : v = r.map g := ext_kv (by rw [hl, List.length_map]) fun a ha => by
    have har : a < r.length := by omega
    rw [kv_eq (l := r.map g) (by rw [List.length_map]; omega), List.getElem_map]
    show _ = kv v ((mget m r[a]).getD 0).toNat
    rw [h.at_ a _ (List.getElem?_eq_getElem har)]; rfl
  have zmap : ∀ l : List Int, l.zip (l.map g) = l.map fun n => (n, g n) := fun l => by
    induction l with
    | nil => rfl
    | cons x l ih => rw [List.map_cons, List.zip_cons_cons, ih, List.map_cons]
  have hz : (k.zip v').Perm (r.zip v) := by
    have e1 : k.zip v' = k.map fun n => (n, g n) := by rw [hvk]; exact zmap k
    have e2 : r.zip v = r.map fun n => (n, g n) := by
      have := zmap r
      rw [← hvr] at this; exact this
    rw [e1, e2]
    exact hpk.map _
  obtain ⟨q1, q2⟩ := sort_one hv1 (by omega) (hz.trans g3.symm) hkn (fun a b hab hb => hsk a b hab (by omega)) (fun a b hab hb => g4 a b hab (by omega))
  refine ⟨k, v', m', ?_, by rw [e2, q1, q2], ⟨hv1, hkn, fun x hx => h.rg x (hpk.mem_iff.1 hx), hm1, fun i n hin => ?_, hm3⟩⟩
  · unfold column_Store_int_Sort slices_Values_int_int column_Store_int_Sort_j1 column_Store_int_Sort_j2
    rw [Option.bind_some, ek, Option.bind_some, mk_ok (by omega) (by omega), Option.bind_some]
    rw [show (k.length : Int).toNat = k.length from rfl, ev, Option.bind_some, em]; rfl
  · have hi : i < k.length := by
      rcases Nat.lt_or_ge i k.length with h1 | h1
      · exact h1
      · rw [List.getElem?_eq_none h1] at hin; cases hin
    rw [List.getElem?_eq_getElem hi] at hin
    rw [← Option.some.inj hin, ← kv_eq hi]
    exact hm2 i hi
end Go.Proofs.Ytbfndcookgijfaa.P
