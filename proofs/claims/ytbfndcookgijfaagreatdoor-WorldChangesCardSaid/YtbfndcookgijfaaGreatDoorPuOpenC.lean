/- The plain law of worlds: parts by maps, opened and closed (the reference). No condition. -/
import Derived.Test.YtbfndcookgijfaaGreatDoorPuSameC
import Derived.Test.YtbfndcookgijfaaGreatDoorExMap
namespace Go.Proofs.YtbfndcookgijfaaGreatDoor.C
open Go Go.RowKit Go.Proofs.YtbfndcookgijfaaGreatDoor.Sx Classical
set_option linter.unusedVariables false
set_option linter.unusedSimpArgs false
/-! ### Lists by keys -/
theorem fm_congr {α β : Type} {f g : α → Option β} : ∀ {l : List α}, (∀ x ∈ l, f x = g x) → l.filterMap f = l.filterMap g := by
  intro l
  induction l with
  | nil => intro _; rfl
  | cons a l ih => intro h; rw [List.filterMap_cons, List.filterMap_cons, h a (by simp), ih fun x hx => h x (by simp [hx])]
section
variable {α : Type} (key : α → Int)
def pickR (a m : Nat) (f : Int → Option α) : List α := (List.range' a m).filterMap fun (n : Nat) => f (n : Int)
theorem pickR_succ (a m : Nat) (f : Int → Option α) : pickR a (m + 1) f = (f (a : Int)).toList ++ pickR (a + 1) m f := by
  unfold pickR
  rw [List.range'_succ, List.filterMap_cons]
  cases f (a : Int) <;> rfl
def Up2 (l : List α) : Prop := l.Pairwise fun x y => key x < key y
theorem pick_find : ∀ (m a : Nat) (l : List α), Up2 key l → (∀ x ∈ l, (a : Int) ≤ key x ∧ key x < ((a + m : Nat) : Int)) → pickR a m (fun n => l.find? fun x => decide (key x = n)) = l := by
  intro m
  induction m with
  | zero =>
    intro a l h hr
    cases l with
    | nil => simp [pickR]
    | cons x l => have := hr x (by simp); omega
  | succ m ih =>
    intro a l h hr
    rw [pickR_succ]
    cases l with
    | nil => simp [pickR]
    | cons x l =>
      obtain ⟨h1, h2⟩ := List.pairwise_cons.1 h
      by_cases hx : key x = (a : Int)
      · have e : pickR (a + 1) m (fun n => (x :: l).find? fun y => decide (key y = n)) = pickR (a + 1) m (fun n => l.find? fun y => decide (key y = n)) := by
          unfold pickR
          refine fm_congr fun n hn => ?_
          obtain ⟨q, _, _⟩ := List.mem_range'.1 hn
          show List.find? _ _ = List.find? _ _
          rw [List.find?_cons_of_neg (by simp; omega)]
        rw [e, ih (a + 1) l h2 (fun y hy => by have := hr y (by simp [hy]); have := h1 y hy; omega), List.find?_cons_of_pos (by simp [hx])]; rfl
      · rw [List.find?_eq_none.2 (fun y hy => by
          rcases List.mem_cons.1 hy with rfl | hy
          · simpa using hx
          · have := h1 y hy; have := hr x (by simp); simp; omega), ih (a + 1) (x :: l) h (fun y hy => by
          have := hr y hy
          have : key x ≠ (a : Int) := hx
          rcases List.mem_cons.1 hy with rfl | hy'
          · omega
          · have := h1 y hy'; have := hr x (by simp); omega)]; rfl
theorem pick_mem {f : Int → Option α} (hf : ∀ n x, f n = some x → key x = n) : ∀ (m a : Nat), ∀ x ∈ pickR a m f, (a : Int) ≤ key x ∧ key x < ((a + m : Nat) : Int) ∧ f (key x) = some x := by
  intro m a x hx
  unfold pickR at hx
  obtain ⟨n, hn, hfx⟩ := List.mem_filterMap.1 hx
  obtain ⟨q, _, _⟩ := List.mem_range'.1 hn
  have hk := hf _ _ hfx
  rw [hk]
  exact ⟨by omega, by omega, hfx⟩
theorem pick_up {f : Int → Option α} (hf : ∀ n x, f n = some x → key x = n) : ∀ (m a : Nat), Up2 key (pickR a m f) := by
  intro m
  induction m with
  | zero => intro a; simp [pickR, Up2]
  | succ m ih =>
    intro a
    rw [pickR_succ]
    refine List.pairwise_append.2 ⟨?_, ih (a + 1), fun x hx y hy => ?_⟩
    · cases f (a : Int) with
      | none => exact List.Pairwise.nil
      | some x => exact List.pairwise_singleton _ _
    · have h1 := hf _ x (by cases h : f (a : Int) with
        | none => rw [h] at hx; simp at hx
        | some z => rw [h] at hx; simp at hx; rw [hx])
      have := (pick_mem key hf m (a + 1) y hy).1
      omega
theorem find_rev {l : List α} (h : Up2 key l) (n : Int) : l.reverse.find? (fun x => decide (key x = n)) = l.find? fun x => decide (key x = n) := by
  cases h1 : l.find? (fun x => decide (key x = n)) with
  | none =>
    rw [List.find?_eq_none] at h1 ⊢
    exact fun x hx => h1 x (List.mem_reverse.1 hx)
  | some x =>
    have hx := List.find?_some h1
    have hm := List.mem_of_find?_eq_some h1
    cases h2 : l.reverse.find? (fun x => decide (key x = n)) with
    | none =>
      rw [List.find?_eq_none] at h2
      exact absurd hx (h2 x (List.mem_reverse.2 hm))
    | some y =>
      have hy := List.find?_some h2
      have hm' := List.mem_reverse.1 (List.mem_of_find?_eq_some h2)
      have hxk : key x = n := by simpa using hx
      have hyk : key y = n := by simpa using hy
      obtain ⟨i, hi, rfl⟩ := List.getElem_of_mem hm
      obtain ⟨j, hj, rfl⟩ := List.getElem_of_mem hm'
      have hp := List.pairwise_iff_getElem.1 h
      rcases Nat.lt_trichotomy i j with e | e | e
      · have := hp i j hi hj e; omega
      · subst e; rfl
      · have := hp j i hj hi e; omega
theorem pickR_map {β : Type} (g : α → β) (f : Int → Option α) (a m : Nat) : pickR a m (fun n => (f n).map g) = (pickR a m f).map g := by
  unfold pickR
  rw [List.map_filterMap]
end
/-! ### A component list as a map -/
def fitC (ks : List api_Kind) (c : api_Comp) : List Int := match ks[c.Kind.toNat]? with | some k => fitL k.Fields c.Vals | none => []
def goodC (ks : List api_Kind) (c : api_Comp) : Prop := 0 ≤ c.Kind ∧ ∃ k, ks[c.Kind.toNat]? = some k ∧ oneV k.Name k.Fields = 0 ∧ c.Vals.length = k.Fields.length
def allC (ks : List api_Kind) (l : List api_Comp) : Prop := (∀ c ∈ l, goodC ks c) ∧ (l.map api_Comp.Kind).Nodup
def mapC (ks : List api_Kind) (l : List api_Comp) : List (Int × List Int) := l.map fun c => (c.Kind, fitC ks c)
theorem mget_mapC (ks : List api_Kind) (l : List api_Comp) (n : Int) : mget (mapC ks l) n = (l.find? fun c => decide (c.Kind = n)).map (fitC ks) := by
  unfold mget mapC
  rw [List.find?_map, Option.map_map]
  rfl
theorem mput_new {l : List (Int × List Int)} {k : Int} {v : List Int} (h : mget l k = none) : mput l k v = l ++ [(k, v)] := by
  unfold mput
  cases hf : mfind l k with
  | none => rfl
  | some i => obtain ⟨v, _, hv⟩ := mfind_some hf; rw [h] at hv; cases hv
theorem mget_none {l : List api_Comp} {ks : List api_Kind} {n : Int} : mget (mapC ks l) n = none ↔ n ∉ l.map api_Comp.Kind := by
  rw [mget_mapC, Option.map_eq_none_iff, List.find?_eq_none]
  constructor
  · intro h hm
    obtain ⟨c, hc, rfl⟩ := List.mem_map.1 hm
    have := h c hc; simp at this
  · intro h c hc
    simp only [decide_eq_true_eq]
    exact fun e => h (List.mem_map.2 ⟨c, hc, e⟩)
theorem fitted_loop {ks : List api_Kind} {l : List api_Comp} (hk : ∀ i (h : i < ks.length), oks ks[i].Name ∧ ∀ j (hj : j < ks[i].Fields.length), oks ks[i].Fields[j].Name) (hl : l.length ≤ 140737488355328) :
    ∀ (d i : Nat), i + d = l.length → allC ks (l.take i) →
    (allC ks l ∧ loop (σ := (List (Int × (List Int))) × Int) (ρ := (Int ⊕ (List (Int × (List Int))))) (fun s_ => tourref3_FittedAll_l2 l ks s_.1 s_.2) (mapC ks (l.take i), (i : Int)) = some (.inr (mapC ks l))) ∨
    (¬ allC ks l ∧ ∃ e, e ≠ 0 ∧ loop (σ := (List (Int × (List Int))) × Int) (ρ := (Int ⊕ (List (Int × (List Int))))) (fun s_ => tourref3_FittedAll_l2 l ks s_.1 s_.2) (mapC ks (l.take i), (i : Int)) = some (.inl e)) := by
  intro d
  induction d with
  | zero =>
    intro i hi h
    rw [List.take_of_length_le (by omega)] at h ⊢
    refine .inl ⟨h, loop_inr ?_⟩
    show tourref3_FittedAll_l2 l ks (mapC ks l) (i : Int) = _
    unfold tourref3_FittedAll_l2
    rw [cnd_dec, if_neg (by omega)]
  | succ d ih =>
    intro i hi h
    have hil : i < l.length := by omega
    have hmem : l[i] ∈ l := List.getElem_mem hil
    have htk := List.take_succ_eq_append_getElem hil
    generalize hc : l[i] = c at hmem htk
    have hx : idx l (i : Int) = some c := by rw [idx_get hil, hc]
    have bad : ∀ e : Int, e ≠ 0 → ¬ allC ks l → tourref3_FittedAll_l2 l ks (mapC ks (l.take i)) (i : Int) = some (.inr (.inl e)) → ¬ allC ks l ∧ ∃ e, e ≠ 0 ∧ loop (σ := (List (Int × (List Int))) × Int) (ρ := (Int ⊕ (List (Int × (List Int))))) (fun s_ => tourref3_FittedAll_l2 l ks s_.1 s_.2) (mapC ks (l.take i), (i : Int)) = some (.inl e) := fun e he hn hs => ⟨hn, e, he, loop_inr (step := fun s_ => tourref3_FittedAll_l2 l ks s_.1 s_.2) (s := (mapC ks (l.take i), (i : Int))) hs⟩
    by_cases h1 : c.Kind < 0
    · refine .inr (bad 1 (by omega) (fun hn => by have := (hn.1 c hmem).1; omega) ?_)
      unfold tourref3_FittedAll_l2
      rw [cnd_dec, if_pos (by omega), hx]
      simp only [Option.bind_some, cnd_dec]
      rw [if_pos h1]
    · by_cases h2 : (ks.length : Int) ≤ c.Kind
      · refine .inr (bad 1 (by omega) (fun hn => by obtain ⟨_, k, hk', _⟩ := hn.1 c hmem; have := (List.getElem?_eq_some_iff.1 hk').1; omega) ?_)
        unfold tourref3_FittedAll_l2
        rw [cnd_dec, if_pos (by omega), hx]
        simp only [Option.bind_some, cnd_dec]
        rw [if_neg h1, if_pos h2]
      · have hkl : c.Kind.toNat < ks.length := by omega
        have hkx : idx ks c.Kind = some ks[c.Kind.toNat] := by
          have := idx_get (l := ks) hkl
          rwa [Int.toNat_of_nonneg (by omega)] at this
        by_cases h3 : c.Kind ∈ (l.take i).map api_Comp.Kind
        · refine .inr (bad 5 (by omega) (fun hn => ?_) ?_)
          · have hn2 := hn.2
            rw [← List.take_append_drop (i + 1) l, htk, List.map_append, List.map_append] at hn2
            have := (List.pairwise_append.1 (List.pairwise_append.1 hn2).1).2.2 _ h3 c.Kind (by simp)
            exact this rfl
          · unfold tourref3_FittedAll_l2
            rw [cnd_dec, if_pos (by omega), hx]
            simp only [Option.bind_some, cnd_dec]
            rw [if_neg h1, if_neg h2]
            cases hg : mget (mapC ks (l.take i)) c.Kind with
            | none => exact absurd h3 (mget_none.1 hg)
            | some v => rfl
        · have hg := mget_none (ks := ks).2 h3
          have pre : ∀ X, tourref3_FittedAll_l2 l ks (mapC ks (l.take i)) (i : Int) = X ↔ (bnd2 (some (fitV ks[c.Kind.toNat].Name ks[c.Kind.toNat].Fields c.Vals)) fun x61 x62 => if x62 = 0 then some (.inl (mapC ks (l.take i) ++ [(c.Kind, x61)], ((i + 1 : Nat) : Int))) else some (.inr (.inl x62))) = X := by
            intro X
            unfold tourref3_FittedAll_l2
            rw [cnd_dec, if_pos (by omega), hx]
            simp only [Option.bind_some, cnd_dec]
            rw [if_neg h1, if_neg h2, hg, hkx]
            simp only [Option.bind_some, Option.isSome_none, cnd_false]
            rw [rfit (hk _ hkl).1 (hk _ hkl).2]
            unfold bnd2
            simp only [Option.bind_some, cnd_not, cnd_beq]
            rw [mput_new hg, i64ok (by omega) (by omega)]
            exact Iff.rfl
          unfold fitV bnd2 at pre
          by_cases h4 : oneV ks[c.Kind.toNat].Name ks[c.Kind.toNat].Fields = 0
          · by_cases h5 : c.Vals.length = ks[c.Kind.toNat].Fields.length
            · have e1 : mapC ks (l.take (i + 1)) = mapC ks (l.take i) ++ [(c.Kind, fitL ks[c.Kind.toNat].Fields c.Vals)] := by
                rw [htk]; unfold mapC; rw [List.map_append]
                simp [fitC, List.getElem?_eq_getElem hkl]
              have hs := (pre (some (.inl (mapC ks (l.take i) ++ [(c.Kind, fitL ks[c.Kind.toNat].Fields c.Vals)], ((i + 1 : Nat) : Int))))).2 (by rw [if_pos h4, if_pos h5]; rfl)
              rw [loop_inl (step := fun s_ => tourref3_FittedAll_l2 l ks s_.1 s_.2) (s := (mapC ks (l.take i), (i : Int))) hs, ← e1]
              refine ih (i + 1) (by omega) ⟨?_, ?_⟩
              · rw [htk]
                intro x hx
                rcases List.mem_append.1 hx with hx | hx
                · exact h.1 x hx
                · rw [List.mem_singleton.1 hx]; exact ⟨by omega, _, List.getElem?_eq_getElem hkl, h4, h5⟩
              · rw [htk, List.map_append]
                refine List.pairwise_append.2 ⟨h.2, List.pairwise_singleton _ _, fun a ha b hb => ?_⟩
                rw [List.mem_singleton.1 hb]
                exact fun e => h3 (e ▸ ha)
            · refine .inr (bad 1 (by omega) (fun hn => by
                obtain ⟨_, k, hk', _, hl'⟩ := hn.1 c hmem
                rw [List.getElem?_eq_getElem hkl] at hk'
                obtain rfl := Option.some.inj hk'
                exact h5 hl') ((pre _).2 (by rw [if_pos h4, if_neg h5]; rfl)))
          · refine .inr (bad _ h4 (fun hn => by
              obtain ⟨_, k, hk', ho, _⟩ := hn.1 c hmem
              rw [List.getElem?_eq_getElem hkl] at hk'
              obtain rfl := Option.some.inj hk'
              exact h4 ho) ((pre _).2 (by rw [if_neg h4]; exact (if_neg h4 : (if oneV ks[c.Kind.toNat].Name ks[c.Kind.toNat].Fields = 0 then _ else _) = _))))
theorem fitted_all {ks : List api_Kind} {l : List api_Comp} (hk : ∀ i (h : i < ks.length), oks ks[i].Name ∧ ∀ j (hj : j < ks[i].Fields.length), oks ks[i].Fields[j].Name) (hl : l.length ≤ 140737488355328) :
    (allC ks l ∧ tourref3_FittedAll ks l = some (.inl (mapC ks l))) ∨ (¬ allC ks l ∧ ∃ e, e ≠ 0 ∧ tourref3_FittedAll ks l = some (.inr e)) := by
  unfold tourref3_FittedAll
  rcases fitted_loop hk hl l.length 0 (by omega) ⟨fun c hc => by simp at hc, by simp⟩ with ⟨h1, h2⟩ | ⟨h1, e, he, h2⟩
  · have h2' : loop (σ := (List (Int × (List Int))) × Int) (ρ := (Int ⊕ (List (Int × (List Int))))) (fun s_ => tourref3_FittedAll_l2 l ks s_.1 s_.2) (([] : List (Int × (List Int))), 0) = _ := h2
    rw [h2']; exact .inl ⟨h1, rfl⟩
  · have h2' : loop (σ := (List (Int × (List Int))) × Int) (ρ := (Int ⊕ (List (Int × (List Int))))) (fun s_ => tourref3_FittedAll_l2 l ks s_.1 s_.2) (([] : List (Int × (List Int))), 0) = _ := h2
    rw [h2']; exact .inr ⟨h1, e, he, rfl⟩
/-! ### Listed, closed -/
theorem pickR_last {α : Type} (m : Nat) (f : Int → Option α) : pickR 0 (m + 1) f = pickR 0 m f ++ (f (m : Int)).toList := by
  unfold pickR
  rw [List.range'_1_concat, List.filterMap_append, Nat.zero_add]
  have e : [m].filterMap (fun n : Nat => f (n : Int)) = (f (m : Int)).toList := by cases h : f (m : Int) <;> simp [h]
  rw [e]
theorem pickR_len {α : Type} (m : Nat) (f : Int → Option α) : (pickR 0 m f).length ≤ m := by
  unfold pickR
  exact Nat.le_trans (List.length_filterMap_le _ _) (by simp)
def normC (ks : List api_Kind) (c : api_Comp) : api_Comp := api_Comp.mk c.Kind (fitC ks c)
def listedC (ks : List api_Kind) (l : List api_Comp) : List api_Comp := pickR 0 16 fun n => (l.find? fun c => decide (c.Kind = n)).map (normC ks)
theorem fitC_len (ks : List api_Kind) (c : api_Comp) : (fitC ks c).length ≤ c.Vals.length := by
  unfold fitC
  split
  · unfold fitL; simp; omega
  · simp
theorem rlisted {ks : List api_Kind} {l : List api_Comp} (h : szC l) : tourref3_Listed (mapC ks l) = some (listedC ks l) := by
  unfold tourref3_Listed
  have e := loop_to (σ := (List api_Comp) × Int) (ρ := (List api_Comp)) (step := fun s_ => tourref3_Listed_l2 (mapC ks l) s_.1 s_.2) (fun i => (pickR 0 i fun n => (l.find? fun c => decide (c.Kind = n)).map (normC ks), (i : Int))) 16 (r := listedC ks l) (fun i hi => by
    have hlen := pickR_len i fun n => (l.find? fun c => decide (c.Kind = n)).map (normC ks)
    have hsucc := pickR_last i fun n => (l.find? fun c => decide (c.Kind = n)).map (normC ks)
    show tourref3_Listed_l2 (mapC ks l) (pickR 0 i fun n => (l.find? fun c => decide (c.Kind = n)).map (normC ks)) (i : Int) = _
    unfold tourref3_Listed_l2 tourref3_Listed_j3
    rw [cnd_dec, if_pos (by omega)]
    simp only [Option.bind_some, Option.getD_some]
    rw [mget_mapC, hsucc, i64ok (by omega) (by omega)]
    cases hf : l.find? (fun c => decide (c.Kind = (i : Int))) with
    | none => simp [cnd_false]
    | some c =>
      have hc := List.mem_of_find?_eq_some hf
      have hk : c.Kind = (i : Int) := by simpa using List.find?_some hf
      have := fitC_len ks c
      have := h.2 c hc
      simp only [Option.map_some, Option.isSome_some, cnd_true, Option.getD_some]
      rw [clone_ints (by omega)]
      simp only [Option.bind_some]
      rw [app_ok (by simp; omega)]
      simp only [Option.bind_some, Option.toList_some]
      unfold normC
      rw [hk]; rfl) (by
    show tourref3_Listed_l2 (mapC ks l) (listedC ks l) (16 : Int) = _
    unfold tourref3_Listed_l2
    rw [cnd_dec, if_neg (by omega)])
  have e' : loop (σ := (List api_Comp) × Int) (ρ := (List api_Comp)) (fun s_ => tourref3_Listed_l2 (mapC ks l) s_.1 s_.2) (([] : List api_Comp), 0) = some (listedC ks l) := by
    have e0 : (pickR 0 0 (fun n => (l.find? fun c => decide (c.Kind = n)).map (normC ks)), ((0 : Nat) : Int)) = (([] : List api_Comp), (0 : Int)) := by simp [pickR]
    rw [← e0]; exact e
  rw [e']; rfl
theorem copy_kinds {step : (List api_Kind) × Int → Option (((List api_Kind) × Int) ⊕ (List api_Kind))} {ks : List api_Kind}
    (h1 : ∀ i (h : i < ks.length), step (ks.take i, (i : Int)) = some (.inl (ks.take i ++ [ks[i]], ((i + 1 : Nat) : Int)))) (h2 : step (ks, (ks.length : Int)) = some (.inr ks)) : loop step (([] : List api_Kind), 0) = some ks :=
  loop_to (step := step) (fun i => (ks.take i, (i : Int))) ks.length (r := ks) (fun i hi => by rw [h1 i hi, List.take_succ_eq_append_getElem hi]) (by
    show step (ks.take ks.length, (ks.length : Int)) = _
    rw [List.take_length]; exact h2)
def closedI (ks : List api_Kind) (gens : List Int) (G : Int → Option (List api_Comp)) : List api_Item := pickR 0 gens.length fun n => (G n).map fun l => api_Item.mk (api_Ent.mk n (gens.getD n.toNat 0)) (listedC ks l)
theorem rclose {ks0 ks : List api_Kind} {gens : List Int} {parts : List (Int × Option (List (Int × List Int)))} {G : Int → Option (List api_Comp)} (hk : szK ks0) (hg : gens.length ≤ 1000000) (hG : ∀ n, (mget parts n).getD none = (G n).map (mapC ks)) (hs : ∀ n l, G n = some l → szC l) :
    tourref3_Flat_Close ks0 gens parts = some (ks0, gens, closedI ks gens G) := by
  have hk1 := hk.1
  unfold tourref3_Flat_Close tourref3_Flat_Close_j1
  rw [clone_ints (by omega)]
  simp only [Option.bind_some]
  rw [copy_kinds (ks := ks0) (step := fun s_ => tourref3_Flat_Close_l5 ks0 s_.1 s_.2) (fun i hi => by
    show tourref3_Flat_Close_l5 ks0 (ks0.take i) (i : Int) = _
    unfold tourref3_Flat_Close_l5 tourref3_Flat_Close_j6
    have := hk.2 i hi
    rw [cnd_dec, if_pos (by omega), idx_get hi]
    simp only [Option.bind_some]
    rw [clone_fields (by omega)]
    simp only [Option.bind_some]
    rw [app_ok (by simp; omega), i64ok (by omega) (by omega)]; rfl) (by
    show tourref3_Flat_Close_l5 ks0 ks0 (ks0.length : Int) = _
    unfold tourref3_Flat_Close_l5
    rw [cnd_dec, if_neg (by omega)])]
  simp only [Option.bind_some]
  have e := loop_to (σ := (List api_Item) × Int) (ρ := (List api_Item)) (step := fun s_ => tourref3_Flat_Close_l3 gens parts s_.1 s_.2) (fun i => (pickR 0 i fun n => (G n).map fun l => api_Item.mk (api_Ent.mk n (gens.getD n.toNat 0)) (listedC ks l), (i : Int))) gens.length (r := closedI ks gens G) (fun i hi => by
    have hlen := pickR_len i fun n => (G n).map fun l => api_Item.mk (api_Ent.mk n (gens.getD n.toNat 0)) (listedC ks l)
    have hsucc := pickR_last i fun n => (G n).map fun l => api_Item.mk (api_Ent.mk n (gens.getD n.toNat 0)) (listedC ks l)
    show tourref3_Flat_Close_l3 gens parts (pickR 0 i fun n => (G n).map fun l => api_Item.mk (api_Ent.mk n (gens.getD n.toNat 0)) (listedC ks l)) (i : Int) = _
    unfold tourref3_Flat_Close_l3 tourref3_Flat_Close_j4
    rw [cnd_dec, if_pos (by omega), idx_get hi]
    simp only [Option.bind_some]
    rw [hG, hsucc, i64ok (by omega) (by omega)]
    cases hf : G (i : Int) with
    | none => simp [oel]
    | some l =>
      simp only [Option.map_some, oel]
      rw [rlisted (hs _ _ hf)]
      simp only [Option.bind_some]
      rw [app_ok (by rw [List.length_singleton]; omega)]
      simp [List.getD, hi]) (by
    show tourref3_Flat_Close_l3 gens parts (closedI ks gens G) (gens.length : Int) = _
    unfold tourref3_Flat_Close_l3
    rw [cnd_dec, if_neg (by omega)])
  have e0 : (pickR 0 0 (fun n => (G n).map fun l => api_Item.mk (api_Ent.mk n (gens.getD n.toNat 0)) (listedC ks l)), ((0 : Nat) : Int)) = (([] : List api_Item), (0 : Int)) := by simp [pickR]
  rw [← e0, e]; rfl
end Go.Proofs.YtbfndcookgijfaaGreatDoor.C
