/- A store and a pair of lists, in plain Lean. No condition. -/
import Derived.Test.YtbfndcookgijfaaFnP
import Derived.Test.YtbfndcookgijfaaPu
import Derived.Test.YtbfndcookgijfaaPuSorted
namespace Go.Proofs.Ytbfndcookgijfaa.P
open Go Go.RowKit Go.Proofs.Ytbfndcookgijfaa.Sx Classical
set_option linter.unusedVariables false
set_option linter.unusedSimpArgs false
/-! ### Lists and maps -/
theorem nodup_small {l m : List Int} (hn : l.Nodup) (hs : ∀ x ∈ l, x ∈ m) : l.length ≤ m.length := by
  induction l generalizing m with
  | nil => simp
  | cons x l ih =>
    rw [List.nodup_cons] at hn
    have hx := hs x (by simp)
    have h1 := ih (m := m.erase x) hn.2 (fun y hy => (List.mem_erase_of_ne (fun e => hn.1 (by rw [← e]; exact hy))).2 (hs y (by simp [hy])))
    rw [List.length_erase_of_mem hx] at h1
    have := List.length_pos_of_mem hx
    simp only [List.length_cons]; omega
theorem mput_keysS {κ ν : Type} [DecidableEq κ] {l : List (κ × ν)} {k x : κ} {v : ν} (h : x ∈ (mput l k v).map Prod.fst) : x ∈ l.map Prod.fst ∨ x = k := by
  induction l with
  | nil => simp [mput, mfind] at h; exact .inr h
  | cons p l ih =>
    rw [mput_consS] at h
    by_cases hp : p.1 = k
    · rw [if_pos hp] at h
      simp only [List.map_cons, List.mem_cons] at h ⊢
      rcases h with h | h
      · exact .inr h
      · exact .inl (.inr h)
    · rw [if_neg hp] at h
      simp only [List.map_cons, List.mem_cons] at h ⊢
      rcases h with h | h
      · exact .inl (.inl h)
      · rcases ih h with h | h
        · exact .inl (.inr h)
        · exact .inr h
theorem mput_nodupS {κ ν : Type} [DecidableEq κ] {l : List (κ × ν)} {k : κ} {v : ν} (h : (l.map Prod.fst).Nodup) : ((mput l k v).map Prod.fst).Nodup := by
  induction l with
  | nil => simp [mput, mfind]
  | cons p l ih =>
    rw [mput_consS]
    rw [List.map_cons, List.nodup_cons] at h
    by_cases hp : p.1 = k
    · rw [if_pos hp, List.map_cons, List.nodup_cons]; exact ⟨hp ▸ h.1, h.2⟩
    · rw [if_neg hp, List.map_cons, List.nodup_cons]
      refine ⟨fun hm => ?_, ih h.2⟩
      rcases mput_keysS hm with h' | h'
      · exact h.1 h'
      · exact hp h'
theorem mdel_consS {κ ν : Type} [DecidableEq κ] (p : κ × ν) (l : List (κ × ν)) (k : κ) : mdel (p :: l) k = if p.1 = k then l else p :: mdel l k := by
  unfold mdel mfind
  rw [List.findIdx?_cons]
  by_cases h : p.1 = k
  · simp [h]
  · simp only [h, decide_false, if_false]
    cases List.findIdx? (fun p => decide (p.1 = k)) l <;> simp
theorem mget_notinS {κ ν : Type} [DecidableEq κ] {l : List (κ × ν)} {k : κ} (h : k ∉ l.map Prod.fst) : mget l k = none := by
  unfold mget
  rw [Option.map_eq_none_iff, List.find?_eq_none]
  intro p hp
  rw [decide_eq_true_iff]
  exact fun e => h (List.mem_map.2 ⟨p, hp, e⟩)
theorem mget_mdelS {κ ν : Type} [DecidableEq κ] {l : List (κ × ν)} (hn : (l.map Prod.fst).Nodup) (k n : κ) : mget (mdel l k) n = if n = k then none else mget l n := by
  induction l with
  | nil => simp [mdel, mfind, mget]
  | cons p l ih =>
    rw [List.map_cons, List.nodup_cons] at hn
    rw [mdel_consS]
    by_cases hp : p.1 = k
    · rw [if_pos hp]
      by_cases h : n = k
      · rw [if_pos h]; exact mget_notinS (by rw [h, ← hp]; exact hn.1)
      · rw [if_neg h]; unfold mget; rw [List.find?_cons_of_neg (by rw [hp]; simpa using fun e : k = n => h e.symm)]
    · rw [if_neg hp]
      by_cases h1 : p.1 = n
      · rw [if_neg (fun e => hp (h1.trans e))]; unfold mget; rw [List.find?_cons_of_pos (by simpa using h1), List.find?_cons_of_pos (by simpa using h1)]
      · have e1 : mget (p :: mdel l k) n = mget (mdel l k) n := by unfold mget; rw [List.find?_cons_of_neg (by simpa using h1)]
        have e2 : mget (p :: l) n = mget l n := by unfold mget; rw [List.find?_cons_of_neg (by simpa using h1)]
        rw [e1, e2, ih hn.2]
theorem mdel_nodupS {κ ν : Type} [DecidableEq κ] {l : List (κ × ν)} {k : κ} (h : (l.map Prod.fst).Nodup) : ((mdel l k).map Prod.fst).Nodup := by
  unfold mdel
  cases mfind l k with
  | none => exact h
  | some i => exact List.Pairwise.sublist ((List.eraseIdx_sublist l i).map Prod.fst) h
theorem equal_selfC {a : List Int} (h : a.length ≤ 1000000) : slices_Equal_int_int a a = some true := by
  unfold slices_Equal_int_int
  rw [cnd_not, cnd_pos (by simp)]
  have e := loop_to (step := fun s_ => slices_Equal_int_int_l2 a a s_) (fun i => (i : Int)) a.length (r := .inr ()) (fun i hi => by
    show slices_Equal_int_int_l2 a a (i : Int) = _
    unfold slices_Equal_int_int_l2
    rw [cnd_dec, if_pos (by omega), idx_get hi, Option.bind_some, Option.bind_some, cnd_not, cnd_pos (by simp), i64ok (by omega) (by omega)]; rfl) (by
    show slices_Equal_int_int_l2 a a (a.length : Int) = _
    unfold slices_Equal_int_int_l2
    rw [cnd_dec, if_neg (by omega)])
  have e' : loop (σ := Int) (ρ := (Bool ⊕ Unit)) (fun s_ => slices_Equal_int_int_l2 a a s_) 0 = some (.inr ()) := e
  rw [e', Option.bind_some]; rfl
theorem clone_C {l : List Int} (h : l.length ≤ 1000000) : slices_Clone_int_int l = some l := by
  unfold slices_Clone_int_int
  rw [app_ok (by simp; omega)]; rfl
theorem kidxC {r : List Int} (n : Int) (hl : r.length ≤ 1000000) : (∃ i, ∃ h : i < r.length, r[i] = n ∧ slices_Index_int_int r n = some (i : Int)) ∨ (n ∉ r ∧ slices_Index_int_int r n = some (-1)) := by
  unfold slices_Index_int_int
  rcases loop_first (step := fun s_ => slices_Index_int_int_l2 r n s_) (fun i => (i : Int)) r.length (fun i => ∃ h : i < r.length, r[i] = n) (fun i => (i : Int)) () (fun i hi hp => by
      show slices_Index_int_int_l2 r n (i : Int) = _
      unfold slices_Index_int_int_l2
      rw [cnd_dec, if_pos (by omega), idx_get hi, Option.bind_some, cnd_beq, if_pos hp.2.symm]) (fun i hi hp => by
      show slices_Index_int_int_l2 r n (i : Int) = _
      unfold slices_Index_int_int_l2
      rw [cnd_dec, if_pos (by omega), idx_get hi, Option.bind_some, cnd_beq, if_neg (fun e => hp ⟨hi, e.symm⟩), i64ok (by omega) (by omega)]; rfl) (by
      show slices_Index_int_int_l2 r n (r.length : Int) = _
      unfold slices_Index_int_int_l2
      rw [cnd_dec, if_neg (by omega)]) with ⟨k, k1, ⟨_, k2⟩, k3, k4⟩ | ⟨k1, k2⟩
  · refine .inl ⟨k, k1, k2, ?_⟩
    have k4' : loop (σ := Int) (ρ := (Int ⊕ Unit)) (fun s_ => slices_Index_int_int_l2 r n s_) 0 = _ := k4
    rw [k4']; rfl
  · refine .inr ⟨fun hm => ?_, ?_⟩
    · obtain ⟨i, hi, e⟩ := List.getElem_of_mem hm
      exact k1 i hi ⟨hi, e⟩
    · have k2' : loop (σ := Int) (ρ := (Int ⊕ Unit)) (fun s_ => slices_Index_int_int_l2 r n s_) 0 = _ := k2
      rw [k2']; rfl
/-! ### What a store and a pair of lists have in common -/
structure InvC (r v : List Int) (m : List (Int × Int)) : Prop where
  len : v.length = r.length
  nd : r.Nodup
  rg : ∀ x ∈ r, 0 ≤ x ∧ x < 8
  km : (m.map Prod.fst).Nodup
  at_ : ∀ (i : Nat) (n : Int), r[i]? = some n → mget m n = some (i : Int)
  no : ∀ n, n ∉ r → mget m n = none
theorem InvC.small {r v : List Int} {m : List (Int × Int)} (h : InvC r v m) : r.length ≤ 8 := nodup_small (m := [0, 1, 2, 3, 4, 5, 6, 7]) h.nd (fun x hx => by have := h.rg x hx; simp; omega)
theorem inv_nil : InvC [] [] [] := ⟨rfl, List.nodup_nil, fun x hx => by simp at hx, List.nodup_nil, fun i n h => by simp at h, fun n _ => rfl⟩
theorem put_ok {r v : List Int} {m : List (Int × Int)} (h : InvC r v m) (n x : Int) (hn : n < 0 ∨ 256 ≤ n ∨ n < 8) : ∃ e r' v' m', column_Store_int_Put v r m n x = some (e, v', r', m') ∧ tourref3_Model_Put r v n x = some (e, r', v') ∧ InvC r' v' m' := by
  have hs := h.small
  have hl := h.len
  unfold column_Store_int_Put tourref3_Model_Put
  by_cases h0 : n < 0
  · exact ⟨1, r, v, m, by rw [cnd_dec, if_pos h0], by rw [cnd_dec, if_pos h0], h⟩
  · by_cases h1 : 256 ≤ n
    · exact ⟨1, r, v, m, by rw [cnd_dec, if_neg h0, cnd_dec, if_pos h1], by rw [cnd_dec, if_neg h0, cnd_dec, if_pos (by omega)], h⟩
    · rcases kidxC n (by omega : r.length ≤ 1000000) with ⟨i, hi, he, hx⟩ | ⟨hno, hx⟩
      · have hg := h.at_ i n (by rw [List.getElem?_eq_getElem hi, he])
        refine ⟨0, r, v.set i x, m, ?_, ?_, ⟨by rw [List.length_set]; exact hl, h.nd, h.rg, h.km, h.at_, h.no⟩⟩
        · rw [cnd_dec, if_neg h0, cnd_dec, if_neg h1, hg, Option.isSome_some, Option.bind_some, cnd_true, Option.getD_some, idx_get (by omega), Option.bind_some, upd_ok (by omega), Option.bind_some]
        · rw [cnd_dec, if_neg h0, cnd_dec, if_neg (by omega), hx, Option.bind_some, cnd_dec, if_pos (by omega), idx_get (by omega), Option.bind_some, upd_ok (by omega), Option.bind_some]
      · refine ⟨0, r ++ [n], v ++ [x], mput m n (r.length : Int), ?_, ?_, ⟨by simp [hl], ?_, fun y hy => ?_, mput_nodupS h.km, fun i k hk => ?_, fun k hk => ?_⟩⟩
        · rw [cnd_dec, if_neg h0, cnd_dec, if_neg h1, h.no n hno, Option.isSome_none, Option.bind_some, cnd_false, Option.bind_some, app_ok (by simp; omega), Option.bind_some, app_ok (by simp; omega), Option.bind_some]; rfl
        · rw [cnd_dec, if_neg h0, cnd_dec, if_neg (by omega), hx, Option.bind_some, cnd_dec, if_neg (by omega), app_ok (by simp; omega), Option.bind_some, app_ok (by simp; omega), Option.bind_some]; rfl
        · rw [List.nodup_append]
          exact ⟨h.nd, List.nodup_cons.2 ⟨by simp, List.nodup_nil⟩, fun a ha b hb e => hno (by rw [List.mem_singleton.1 hb] at e; exact e ▸ ha)⟩
        · rcases List.mem_append.1 hy with hy | hy
          · exact h.rg y hy
          · rw [List.mem_singleton.1 hy]; omega
        · rw [mget_putS]
          rcases Nat.lt_or_ge i r.length with hi | hi
          · rw [List.getElem?_append_left hi] at hk
            rw [if_neg (fun e : k = n => hno (e ▸ List.mem_of_getElem? hk))]
            exact h.at_ i k hk
          · rw [List.getElem?_append_right hi] at hk
            have : i - r.length = 0 := by
              rcases Nat.eq_zero_or_pos (i - r.length) with h | h
              · exact h
              · rw [List.getElem?_eq_none (by simp; omega)] at hk; cases hk
            rw [this] at hk
            simp only [List.getElem?_cons_zero, Option.some.injEq] at hk
            rw [if_pos hk.symm, show i = r.length by omega]
        · rw [mget_putS, if_neg (fun e => hk (by simp [e]))]
          exact h.no k (fun hm => hk (by simp [hm]))
theorem drop_ok {r v : List Int} {m : List (Int × Int)} (h : InvC r v m) (n : Int) : ∃ e r' v' m', column_Store_int_Drop v r m n = some (e, v', r', m') ∧ tourref3_Model_Drop r v n = some (e, r', v') ∧ InvC r' v' m' := by
  have hs := h.small
  have hl := h.len
  unfold column_Store_int_Drop tourref3_Model_Drop
  rcases kidxC n (by omega : r.length ≤ 1000000) with ⟨i, hi, he, hx⟩ | ⟨hno, hx⟩
  · have hg := h.at_ i n (by rw [List.getElem?_eq_getElem hi, he])
    obtain ⟨q, hq⟩ : ∃ q, r.length = q + 1 := ⟨r.length - 1, by omega⟩
    have hw : IntKind.i64.wrap ((r.length : Int) - 1) = (q : Int) := by rw [i64ok (by omega) (by omega)]; omega
    have hqr : q < r.length := by omega
    have hqv : q < v.length := by omega
    have hiv : i < v.length := by omega
    have cutq : ∀ l : List Int, q ≤ l.length → cut l 0 (q : Int) = some (l.take q) := fun l hlq => by
      rw [cut_ok (by omega) (by omega) (by omega)]; simp
    have hr' : (r.set i r[q]).take q = (r.take q).set i r[q] := List.take_set
    have hv' : ((v.set i v[q]).set q 0).take q = (v.take q).set i v[q] := by
      rw [List.take_set, List.set_eq_of_length_le (by simp; omega), List.take_set]
    refine ⟨0, (r.take q).set i r[q], (v.take q).set i v[q], mdel (mput m r[q] (i : Int)) n, ?_, ?_, ?_⟩
    · rw [Option.bind_some, hg, Option.isSome_some, Option.getD_some, cnd_not, cnd_true, hw, idx_get hqr, Option.bind_some, idx_get hqv, Option.bind_some, idx_get hi, Option.bind_some, upd_ok hi, Option.bind_some, idx_get hiv, Option.bind_some, upd_ok hiv, Option.bind_some]
      unfold column_Store_int_Drop_j1 column_Store_int_Drop_j2
      rw [hw, idx_get (by rw [List.length_set]; exact hi), List.getElem_set_self, Option.bind_some, Option.bind_some, Option.bind_some, idx_get (by rw [List.length_set]; exact hqv), Option.bind_some, upd_ok (by rw [List.length_set]; exact hqv), Option.bind_some, cutq _ (by rw [List.length_set]; omega), Option.bind_some, cutq _ (by rw [List.length_set, List.length_set]; omega), Option.bind_some, hr', hv']
    · rw [hx, Option.bind_some, cnd_dec, if_neg (by omega), hw, cutq r (by omega), Option.bind_some, clone_C (by simp; omega), Option.bind_some, cutq v (by omega), Option.bind_some, clone_C (by simp; omega), Option.bind_some]
      unfold tourref3_Model_Drop_j1 tourref3_Model_Drop_j2
      rw [hw, cnd_dec]
      by_cases hiq : (i : Int) < (q : Int)
      · rw [if_pos hiq, idx_get hqr, Option.bind_some, idx_get hqv, Option.bind_some, idx_get (by simp; omega), Option.bind_some, upd_ok (by simp; omega), Option.bind_some, idx_get (by simp; omega), Option.bind_some, upd_ok (by simp; omega), Option.bind_some]
      · rw [if_neg hiq, List.set_eq_of_length_le (by simp; omega), List.set_eq_of_length_le (by simp; omega)]
    · have hne : ∀ a b (ha : a < r.length) (hb : b < r.length), a ≠ b → r[a] ≠ r[b] := fun a b ha hb hab e => by
        rcases Nat.lt_or_gt_of_ne hab with hh | hh
        · exact List.pairwise_iff_getElem.1 h.nd a b ha hb hh e
        · exact List.pairwise_iff_getElem.1 h.nd b a hb ha hh e.symm
      have hlen : ((r.take q).set i r[q]).length = q := by simp; omega
      have hget : ∀ k (hk : k < q), ((r.take q).set i r[q])[k]? = some (if i = k then r[q] else r[k]'(by omega)) := fun k hk => by
        rw [List.getElem?_eq_getElem (by omega), List.getElem_set]
        congr 1
        by_cases e : i = k
        · rw [if_pos e, if_pos e]
        · rw [if_neg e, if_neg e, List.getElem_take]
      have hm := mput_nodupS (k := r[q]) (v := (i : Int)) h.km
      refine ⟨by simp; omega, ?_, fun x hx => ?_, mdel_nodupS hm, fun k n' hk => ?_, fun n' hn' => ?_⟩
      · refine List.pairwise_iff_getElem.2 fun a b ha hb hab => ?_
        rw [hlen] at ha hb
        have e1 := hget a ha
        have e2 := hget b hb
        rw [List.getElem?_eq_getElem (by omega)] at e1 e2
        rw [Option.some.inj e1, Option.some.inj e2]
        by_cases h1 : i = a
        · rw [if_pos h1, if_neg (by omega)]; exact hne _ _ _ _ (by omega)
        · rw [if_neg h1]
          by_cases h2 : i = b
          · rw [if_pos h2]; exact hne _ _ _ _ (by omega)
          · rw [if_neg h2]; exact hne _ _ _ _ (by omega)
      · rcases List.mem_or_eq_of_mem_set hx with hx | rfl
        · exact h.rg x (List.mem_of_mem_take hx)
        · exact h.rg _ (List.getElem_mem hqr)
      · have hkq : k < q := by
          rcases Nat.lt_or_ge k q with h1 | h1
          · exact h1
          · rw [List.getElem?_eq_none (by omega)] at hk; cases hk
        rw [hget k hkq] at hk
        have hk := Option.some.inj hk
        rw [mget_mdelS hm, mget_putS]
        by_cases h1 : i = k
        · rw [if_pos h1] at hk
          rw [← hk, if_neg (by rw [← he]; exact hne _ _ _ _ (by omega)), if_pos rfl, h1]
        · rw [if_neg h1] at hk
          rw [← hk, if_neg (by rw [← he]; exact hne _ _ _ _ (by omega)), if_neg (hne _ _ _ _ (by omega))]
          exact h.at_ k _ (List.getElem?_eq_getElem (by omega))
      · rw [mget_mdelS hm, mget_putS]
        by_cases h1 : n' = n
        · rw [if_pos h1]
        · rw [if_neg h1]
          have hin : ∀ k (hk : k < q), (if i = k then r[q] else r[k]'(by omega)) ≠ n' := fun k hk e => hn' (by
            have := hget k hk
            rw [e] at this
            exact List.mem_of_getElem? this)
          by_cases h2 : n' = r[q]
          · exfalso
            rcases Nat.lt_or_ge i q with h3 | h3
            · have := hin i h3; rw [if_pos rfl] at this; exact this h2.symm
            · have : i = q := by omega
              subst this
              exact h1 (h2.trans he)
          · rw [if_neg h2]
            refine h.no n' fun hm => ?_
            obtain ⟨k, hk, e⟩ := List.getElem_of_mem hm
            have hki : i ≠ k := fun e2 => by subst e2; exact h1 (e.symm.trans he)
            have hkq : k ≠ q := fun e2 => by subst e2; exact h2 e.symm
            have := hin k (by omega)
            rw [if_neg hki] at this
            exact this e
  · rw [hx, Option.bind_some, Option.bind_some, cnd_dec, if_pos (by omega), h.no n hno, cnd_not, Option.isSome_none, cnd_false]
    exact ⟨_, _, _, _, rfl, rfl, h⟩
/-! ### Comparing -/
theorem agrees_ok {r v : List Int} {m : List (Int × Int)} (h : InvC r v m) (n : Int) : tourlaw3_agrees v r m r v n = some true := by
  have hs := h.small
  have hl := h.len
  have hj : tourlaw3_agrees_j1 v r m r v = some true := by
    unfold tourlaw3_agrees_j1 column_Store_int_All column_Store_int_All_j1
    rw [clone_C (by omega), Option.bind_some, clone_C (by omega), Option.bind_some, bnd2_some]
    have e := loop_to (step := fun s_ => tourlaw3_agrees_l3 r v r v s_) (fun i => (i : Int)) r.length (r := .inr (r.length : Int)) (fun i hi => by
      show tourlaw3_agrees_l3 r v r v (i : Int) = _
      unfold tourlaw3_agrees_l3
      rw [cnd_dec, if_pos (by omega), idx_get hi, Option.bind_some, idx_get (by omega), Option.bind_some, cnd_dec, if_neg (by omega), Option.bind_some, cnd_not, cnd_pos (by simp), Option.bind_some, cnd_not, cnd_pos (by simp), i64ok (by omega) (by omega)]; rfl) (by
      show tourlaw3_agrees_l3 r v r v (r.length : Int) = _
      unfold tourlaw3_agrees_l3
      rw [cnd_dec, if_neg (by omega)])
    have e' : loop (σ := Int) (ρ := (Bool ⊕ Int)) (fun s_ => tourlaw3_agrees_l3 r v r v s_) 0 = _ := e
    rw [e', Option.bind_some]
    show tourlaw3_agrees_j2 r (r.length : Int) = _
    unfold tourlaw3_agrees_j2
    rw [beq_self_eq_true]
  unfold tourlaw3_agrees column_Store_int_Len column_Store_int_Rows column_Store_int_Row column_Store_int_Get
  rw [Option.bind_some, cnd_not, cnd_pos (by simp), clone_C (by omega), Option.bind_some, Option.bind_some, equal_selfC (by omega), Option.bind_some, cnd_not, cnd_true, Option.bind_some]
  rcases kidxC n (by omega : r.length ≤ 1000000) with ⟨i, hi, he, hx⟩ | ⟨hno, hx⟩
  · have hg := h.at_ i n (by rw [List.getElem?_eq_getElem hi, he])
    rw [hx, hg, Option.isSome_some, cnd_true, Option.getD_some, Option.bind_some, Option.bind_some, cnd_not, cnd_pos (by simp), Option.bind_some, cnd_not, cnd_true, idx_get (by omega), Option.bind_some, bnd2_some, Option.bind_some, cnd_not, cnd_pos (by simp), cnd_true, idx_get (by omega), Option.bind_some, cnd_not, cnd_pos (by simp), hj]
  · rw [hx, h.no n hno, Option.isSome_none, cnd_false, Option.bind_some, Option.bind_some, cnd_not, cnd_pos (by simp), Option.bind_some, cnd_not, cnd_false, bnd2_some, Option.bind_some, cnd_not, cnd_pos (by simp), cnd_false, cnd_not, cnd_pos (by simp), hj]
end Go.Proofs.Ytbfndcookgijfaa.P
