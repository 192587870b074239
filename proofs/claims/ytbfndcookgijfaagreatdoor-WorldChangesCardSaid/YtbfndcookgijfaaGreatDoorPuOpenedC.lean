/- The plain law of worlds: the reference's Open answers as the program's Check. No condition. -/
import Derived.Test.YtbfndcookgijfaaGreatDoorPuOpenC
namespace Go.Proofs.YtbfndcookgijfaaGreatDoor.C
open Go Go.RowKit Go.Proofs.YtbfndcookgijfaaGreatDoor.Sx Classical
set_option linter.unusedVariables false
set_option linter.unusedSimpArgs false
theorem mput_cons {κ ν : Type} [DecidableEq κ] (p : κ × ν) (l : List (κ × ν)) (k : κ) (v : ν) : mput (p :: l) k v = if p.1 = k then (k, v) :: l else p :: mput l k v := by
  unfold mput mfind
  rw [List.findIdx?_cons]
  by_cases h : p.1 = k
  · simp [h]
  · simp only [h, decide_false, if_false]
    cases List.findIdx? (fun p => decide (p.1 = k)) l <;> simp
theorem mget_mput {κ ν : Type} [DecidableEq κ] (l : List (κ × ν)) (k : κ) (v : ν) (n : κ) : mget (mput l k v) n = if n = k then some v else mget l n := by
  induction l with
  | nil =>
    unfold mput mfind mget
    by_cases h : n = k
    · subst h; simp
    · have : ¬ k = n := fun e => h e.symm
      simp [h, this]
  | cons p l ih =>
    rw [mput_cons]
    by_cases hp : p.1 = k
    · rw [if_pos hp]
      unfold mget
      by_cases h : n = k
      · subst h; simp
      · have h1 : ¬ k = n := fun e => h e.symm
        rw [if_neg h, List.find?_cons_of_neg (by simpa using h1), List.find?_cons_of_neg (by rw [hp]; simpa using h1)]
    · rw [if_neg hp]
      by_cases hn : p.1 = n
      · have h1 : ¬ n = k := fun e => hp (hn.trans e)
        rw [if_neg h1]
        unfold mget
        rw [List.find?_cons_of_pos (by simpa using hn), List.find?_cons_of_pos (by simpa using hn)]
      · have e1 : mget (p :: mput l k v) n = mget (mput l k v) n := by unfold mget; rw [List.find?_cons_of_neg (by simpa using hn)]
        have e2 : mget (p :: l) n = mget l n := by unfold mget; rw [List.find?_cons_of_neg (by simpa using hn)]
        rw [e1, e2, ih]
theorem held_iff {ks : List api_Kind} : ∀ {l : List api_Comp} {last : Int}, heldFrom ks last l ↔ Up2 api_Comp.Kind l ∧ (∀ c ∈ l, last < c.Kind) ∧ ∀ c ∈ l, goodC ks c ∧ fitC ks c = c.Vals := by
  intro l
  induction l with
  | nil => intro last; simp [heldFrom, Up2]
  | cons c l ih =>
    intro last
    have hc : (∃ k, 0 ≤ c.Kind ∧ ks[c.Kind.toNat]? = some k ∧ holdsP k c.Vals) ↔ goodC ks c ∧ fitC ks c = c.Vals := by
      constructor
      · rintro ⟨k, h0, hk, h1, h2, h3⟩
        exact ⟨⟨h0, k, hk, h1, h2⟩, by unfold fitC; rw [hk]; exact h3⟩
      · rintro ⟨⟨h0, k, hk, h1, h2⟩, h3⟩
        refine ⟨k, h0, hk, h1, h2, ?_⟩
        unfold fitC at h3; rw [hk] at h3; exact h3
    unfold heldFrom
    rw [hc, ih]
    constructor
    · rintro ⟨h1, h2, h3, h4, h5⟩
      refine ⟨List.pairwise_cons.2 ⟨h4, h3⟩, fun x hx => ?_, fun x hx => ?_⟩
      · rcases List.mem_cons.1 hx with rfl | hx
        · exact h1
        · have := h4 x hx; omega
      · rcases List.mem_cons.1 hx with rfl | hx
        · exact h2
        · exact h5 x hx
    · rintro ⟨h1, h2, h3⟩
      obtain ⟨h4, h5⟩ := List.pairwise_cons.1 h1
      exact ⟨h2 c (by simp), h3 c (by simp), h5, h4, fun x hx => h3 x (by simp [hx])⟩
theorem items_iff {ks : List api_Kind} {gens : List Int} : ∀ {l : List api_Item} {last : Int}, itemsFrom ks gens last l ↔ Up2 (fun it => it.Ent.N) l ∧ (∀ it ∈ l, last < it.Ent.N) ∧ ∀ it ∈ l, (0 ≤ it.Ent.N ∧ gens[it.Ent.N.toNat]? = some it.Ent.Gen) ∧ it.Ent.Gen ≠ 1073741824 ∧ heldFrom ks (-1) it.Comps := by
  intro l
  induction l with
  | nil => intro last; simp [itemsFrom, Up2]
  | cons c l ih =>
    intro last
    unfold itemsFrom
    rw [ih]
    constructor
    · rintro ⟨h1, h2, h2', h2'', h3, h4, h5⟩
      refine ⟨List.pairwise_cons.2 ⟨h4, h3⟩, fun x hx => ?_, fun x hx => ?_⟩
      · rcases List.mem_cons.1 hx with rfl | hx
        · exact h1
        · have := h4 x hx; omega
      · rcases List.mem_cons.1 hx with rfl | hx
        · exact ⟨h2, h2', h2''⟩
        · exact h5 x hx
    · rintro ⟨h1, h2, h3⟩
      obtain ⟨h4, h5⟩ := List.pairwise_cons.1 h1
      have := h3 c (by simp)
      exact ⟨h2 c (by simp), this.1, this.2.1, this.2.2, h5, h4, fun x hx => h3 x (by simp [hx])⟩
theorem nodup_up {α : Type} {key : α → Int} {l : List α} (h : Up2 key l) : (l.map key).Nodup := by
  refine List.Pairwise.map _ (fun a b hab => ?_) h
  omega
theorem good_range {ks : List api_Kind} {c : api_Comp} (h : goodC ks c) : 0 ≤ c.Kind ∧ c.Kind < (ks.length : Int) := by
  obtain ⟨h0, k, hk, _⟩ := h
  have := (List.getElem?_eq_some_iff.1 hk).1
  omega
theorem map_self {α : Type} {f : α → α} : ∀ {l : List α}, l.map f = l → ∀ x ∈ l, f x = x := by
  intro l
  induction l with
  | nil => intro _ x hx; cases hx
  | cons a l ih =>
    intro h x hx
    rw [List.map_cons, List.cons.injEq] at h
    rcases List.mem_cons.1 hx with rfl | hx
    · exact h.1
    · exact ih h.2 x hx
theorem self_map {α : Type} {f : α → α} {l : List α} (h : ∀ x ∈ l, f x = x) : l.map f = l := by
  rw [List.map_congr_left h]; simp
theorem listed_iff {ks : List api_Kind} {l : List api_Comp} (hk : ks.length ≤ 16) : heldFrom ks (-1) l ↔ allC ks l ∧ listedC ks l = l := by
  have em : listedC ks l = (pickR 0 16 fun n => l.find? fun c => decide (c.Kind = n)).map (normC ks) := pickR_map _ _ _ _
  constructor
  · intro h
    obtain ⟨h1, h2, h3⟩ := held_iff.1 h
    refine ⟨⟨fun c hc => (h3 c hc).1, nodup_up h1⟩, ?_⟩
    rw [em, pick_find api_Comp.Kind 16 0 l h1 (fun c hc => by have := good_range (h3 c hc).1; omega)]
    refine self_map fun c hc => ?_
    unfold normC
    rw [(h3 c hc).2]
  · rintro ⟨⟨h1, h2⟩, h3⟩
    have hup : Up2 api_Comp.Kind l := by
      rw [← h3]
      refine pick_up api_Comp.Kind (fun n x hx => ?_) 16 0
      obtain ⟨c, hc, rfl⟩ := Option.map_eq_some_iff.1 hx
      have := List.find?_some hc
      simpa [normC] using this
    have hp := pick_find api_Comp.Kind 16 0 l hup (fun c hc => by have := good_range (h1 c hc); omega)
    rw [em, hp] at h3
    refine held_iff.2 ⟨hup, fun c hc => by have := good_range (h1 c hc); omega, fun c hc => ⟨h1 c hc, ?_⟩⟩
    have := map_self h3 c hc
    unfold normC at this
    exact congrArg api_Comp.Vals this
def goodI (ks : List api_Kind) (gens : List Int) (it : api_Item) : Prop := allC ks it.Comps ∧ 0 ≤ it.Ent.N ∧ it.Ent.N < (gens.length : Int)
def partG (items : List api_Item) (n : Int) : Option (List api_Comp) := (items.reverse.find? fun it => decide (it.Ent.N = n)).map api_Item.Comps
theorem closed_iff {ks : List api_Kind} {gens : List Int} {items : List api_Item} (hk : ks.length ≤ 16) (hI : ∀ it ∈ items, goodI ks gens it) (hg : ∀ n l, partG items n = some l → gens[n.toNat]? ≠ some 1073741824) :
    itemsFrom ks gens (-1) items ↔ closedI ks gens (partG items) = items := by
  have em : closedI ks gens (partG items) = (pickR 0 gens.length fun n => items.reverse.find? fun it => decide (it.Ent.N = n)).map fun it => api_Item.mk (api_Ent.mk it.Ent.N (gens.getD it.Ent.N.toNat 0)) (listedC ks it.Comps) := by
    rw [← pickR_map]
    unfold closedI pickR
    refine fm_congr fun n hn => ?_
    unfold partG
    cases hf : items.reverse.find? (fun it => decide (it.Ent.N = (n : Int))) with
    | none => simp [hf]
    | some it =>
      have hN : it.Ent.N = (n : Int) := by simpa using List.find?_some hf
      simp [hf, hN]
  constructor
  · intro h
    obtain ⟨h1, h2, h3⟩ := items_iff.1 h
    have er : (fun n : Int => items.reverse.find? fun it => decide (it.Ent.N = n)) = fun n => items.find? fun it => decide (it.Ent.N = n) := funext fun n => find_rev (fun it : api_Item => it.Ent.N) h1 n
    rw [em, er, pick_find (fun it : api_Item => it.Ent.N) gens.length 0 items h1 (fun it hit => by have := (hI it hit).2; constructor <;> omega)]
    refine self_map fun it hit => ?_
    have h4 := h3 it hit
    have h5 := (listed_iff hk).1 h4.2.2
    rw [h5.2]
    have : gens.getD it.Ent.N.toNat 0 = it.Ent.Gen := by rw [List.getD_eq_getElem?_getD, h4.1.2]; rfl
    rw [this]
  · intro h
    have hup : Up2 (fun it : api_Item => it.Ent.N) items := by
      rw [← h]
      refine pick_up (fun it : api_Item => it.Ent.N) (fun n x hx => ?_) gens.length 0
      obtain ⟨l, hl, rfl⟩ := Option.map_eq_some_iff.1 hx
      rfl
    have er : (fun n : Int => items.reverse.find? fun it => decide (it.Ent.N = n)) = fun n => items.find? fun it => decide (it.Ent.N = n) := funext fun n => find_rev (fun it : api_Item => it.Ent.N) hup n
    rw [em, er, pick_find (fun it : api_Item => it.Ent.N) gens.length 0 items hup (fun it hit => by have := (hI it hit).2; constructor <;> omega)] at h
    refine items_iff.2 ⟨hup, fun it hit => by have := (hI it hit).2; omega, fun it hit => ?_⟩
    have h1 := map_self h it hit
    have h2 : gens.getD it.Ent.N.toNat 0 = it.Ent.Gen := congrArg (fun z : api_Item => z.Ent.Gen) h1
    have h3 : listedC ks it.Comps = it.Comps := congrArg api_Item.Comps h1
    obtain ⟨g1, g2, g3⟩ := hI it hit
    have hlt : it.Ent.N.toNat < gens.length := by omega
    have h4 : gens[it.Ent.N.toNat]? = some it.Ent.Gen := by
      rw [List.getD_eq_getElem?_getD, List.getElem?_eq_getElem hlt] at h2
      rw [List.getElem?_eq_getElem hlt, ← h2]; rfl
    refine ⟨⟨g2, h4⟩, fun e => ?_, (listed_iff hk).2 ⟨g1, h3⟩⟩
    have hf : ∃ l, partG items it.Ent.N = some l := by
      unfold partG
      cases hf : items.reverse.find? (fun x => decide (x.Ent.N = it.Ent.N)) with
      | some x => exact ⟨_, rfl⟩
      | none =>
        rw [List.find?_eq_none] at hf
        have := hf it (List.mem_reverse.2 hit)
        simp at this
    obtain ⟨l, hl⟩ := hf
    exact hg _ _ hl (by rw [h4, e])
theorem mput_keys {κ ν : Type} [DecidableEq κ] {l : List (κ × ν)} {k x : κ} {v : ν} (h : x ∈ (mput l k v).map Prod.fst) : x ∈ l.map Prod.fst ∨ x = k := by
  induction l with
  | nil => simp [mput, mfind] at h; exact .inr h
  | cons p l ih =>
    rw [mput_cons] at h
    by_cases hp : p.1 = k
    · rw [if_pos hp] at h
      simp only [List.map_cons, List.mem_cons] at h ⊢
      rcases h with h | h
      · exact .inr h
      · exact .inl (.inr h)
    · rw [if_neg hp] at h
      simp only [List.map_cons, List.mem_cons] at h ⊢
      rcases h with h | h
      · exact .inl (.inl h)
      · rcases ih h with h | h
        · exact .inl (.inr h)
        · exact .inr h
theorem mput_nodup {κ ν : Type} [DecidableEq κ] {l : List (κ × ν)} {k : κ} {v : ν} (h : (l.map Prod.fst).Nodup) : ((mput l k v).map Prod.fst).Nodup := by
  induction l with
  | nil => simp [mput, mfind]
  | cons p l ih =>
    rw [mput_cons]
    rw [List.map_cons, List.nodup_cons] at h
    by_cases hp : p.1 = k
    · rw [if_pos hp, List.map_cons, List.nodup_cons]; exact ⟨hp ▸ h.1, h.2⟩
    · rw [if_neg hp, List.map_cons, List.nodup_cons]
      refine ⟨fun hm => ?_, ih h.2⟩
      rcases mput_keys hm with h' | h'
      · exact h.1 h'
      · exact hp h'
theorem parts_loop {ks : List api_Kind} {gens : List Int} {items : List api_Item} (hk : ∀ i (h : i < ks.length), oks ks[i].Name ∧ ∀ j (hj : j < ks[i].Fields.length), oks ks[i].Fields[j].Name) (hl : items.length ≤ 256) (hs : szI items) :
    ∀ (d i : Nat) (parts : List (Int × Option (List (Int × List Int)))), i + d = items.length → (∀ it ∈ items.take i, goodI ks gens it) → (∀ n, (mget parts n).getD none = (partG (items.take i) n).map (mapC ks)) → (parts.map Prod.fst).Nodup →
    ((∀ it ∈ items, goodI ks gens it) ∧ ∃ parts', (∀ n, (mget parts' n).getD none = (partG items n).map (mapC ks)) ∧ (parts'.map Prod.fst).Nodup ∧ loop (σ := (List (Int × (Option (List (Int × (List Int)))))) × Int) (ρ := (Int ⊕ (List (Int × (Option (List (Int × (List Int)))))))) (fun s_ => tourref3_Open_l6 items ks gens s_.1 s_.2) (parts, (i : Int)) = some (.inr parts')) ∨
    ((¬ ∀ it ∈ items, goodI ks gens it) ∧ loop (σ := (List (Int × (Option (List (Int × (List Int)))))) × Int) (ρ := (Int ⊕ (List (Int × (Option (List (Int × (List Int)))))))) (fun s_ => tourref3_Open_l6 items ks gens s_.1 s_.2) (parts, (i : Int)) = some (.inl 3)) := by
  intro d
  induction d with
  | zero =>
    intro i parts hi h1 h2 h2n
    rw [List.take_of_length_le (by omega)] at h1 h2
    refine .inl ⟨h1, parts, h2, h2n, loop_inr ?_⟩
    show tourref3_Open_l6 items ks gens parts (i : Int) = _
    unfold tourref3_Open_l6
    rw [cnd_dec, if_neg (by omega)]
  | succ d ih =>
    intro i parts hi h1 h2 h2n
    have hil : i < items.length := by omega
    have hmem : items[i] ∈ items := List.getElem_mem hil
    have htk := List.take_succ_eq_append_getElem hil
    generalize hc : items[i] = it at hmem htk
    have hx : idx items (i : Int) = some it := by rw [idx_get hil, hc]
    have hsz := (hs.2 it hmem).1
    rcases fitted_all hk (l := it.Comps) (by omega) with ⟨ha, he⟩ | ⟨ha, e, he0, he⟩
    · by_cases h3 : it.Ent.N < 0
      · refine .inr ⟨fun hn => by have := (hn it hmem).2; omega, loop_inr (step := fun s_ => tourref3_Open_l6 items ks gens s_.1 s_.2) (s := (parts, (i : Int))) ?_⟩
        show tourref3_Open_l6 items ks gens parts (i : Int) = _
        unfold tourref3_Open_l6
        rw [cnd_dec, if_pos (by omega), hx]
        simp only [Option.bind_some]
        rw [he, Option.bind_some, Sum.elim_inl, cnd_dec, if_pos h3]
      · by_cases h4 : (gens.length : Int) ≤ it.Ent.N
        · refine .inr ⟨fun hn => by have := (hn it hmem).2; omega, loop_inr (step := fun s_ => tourref3_Open_l6 items ks gens s_.1 s_.2) (s := (parts, (i : Int))) ?_⟩
          show tourref3_Open_l6 items ks gens parts (i : Int) = _
          unfold tourref3_Open_l6
          rw [cnd_dec, if_pos (by omega), hx]
          simp only [Option.bind_some]
          rw [he, Option.bind_some, Sum.elim_inl, cnd_dec, if_neg h3, cnd_dec, if_pos h4]
        · have hs1 : tourref3_Open_l6 items ks gens parts (i : Int) = some (.inl (mput parts it.Ent.N (some (mapC ks it.Comps)), ((i + 1 : Nat) : Int))) := by
            unfold tourref3_Open_l6
            rw [cnd_dec, if_pos (by omega), hx]
            simp only [Option.bind_some]
            rw [he, Option.bind_some, Sum.elim_inl, cnd_dec, if_neg h3, cnd_dec, if_neg h4, tourref3_Open_j7, i64ok (by omega) (by omega)]; rfl
          rw [loop_inl (step := fun s_ => tourref3_Open_l6 items ks gens s_.1 s_.2) (s := (parts, (i : Int))) hs1]
          refine ih (i + 1) _ (by omega) ?_ (fun n => ?_) (mput_nodup h2n)
          · rw [htk]
            intro x hx
            rcases List.mem_append.1 hx with hx | hx
            · exact h1 x hx
            · rw [List.mem_singleton.1 hx]; exact ⟨ha, by omega, by omega⟩
          · rw [mget_mput, htk]
            unfold partG
            rw [List.reverse_append, List.reverse_singleton, List.singleton_append]
            by_cases hn : n = it.Ent.N
            · rw [if_pos hn, List.find?_cons_of_pos (by simp [hn])]; rfl
            · rw [if_neg hn, List.find?_cons_of_neg (by simp; exact fun e => hn e.symm)]
              exact h2 n
    · refine .inr ⟨fun hn => ha (hn it hmem).1, loop_inr (step := fun s_ => tourref3_Open_l6 items ks gens s_.1 s_.2) (s := (parts, (i : Int))) ?_⟩
      show tourref3_Open_l6 items ks gens parts (i : Int) = _
      unfold tourref3_Open_l6
      rw [cnd_dec, if_pos (by omega), hx]
      simp only [Option.bind_some]
      rw [he, Option.bind_some, Sum.elim_inr, cnd_not, cnd_beq, if_neg he0]
theorem listed_sz {ks : List api_Kind} {l : List api_Comp} (h : szC l) : szC (listedC ks l) := by
  refine ⟨?_, fun c hc => ?_⟩
  · have := pickR_len 16 fun n => (l.find? fun c => decide (c.Kind = n)).map (normC ks)
    unfold listedC; omega
  · unfold listedC pickR at hc
    obtain ⟨n, _, hn⟩ := List.mem_filterMap.1 hc
    obtain ⟨x, hx, rfl⟩ := Option.map_eq_some_iff.1 hn
    have h1 := h.2 x (List.mem_of_find?_eq_some hx)
    have h2 := fitC_len ks x
    show (fitC ks x).length * 8 ≤ _
    omega
theorem partG_mem {items : List api_Item} {n : Int} {l : List api_Comp} (h : partG items n = some l) : ∃ it ∈ items, it.Ent.N = n ∧ it.Comps = l := by
  unfold partG at h
  obtain ⟨it, hit, rfl⟩ := Option.map_eq_some_iff.1 h
  exact ⟨it, List.mem_reverse.1 (List.mem_of_find?_eq_some hit), by simpa using List.find?_some hit, rfl⟩
/-- The reference's parts of a world: what its error is, and what the parts hold. -/
theorem ropen {ks : List api_Kind} {gens : List Int} {items : List api_Item} (hk : ∀ i (h : i < ks.length), oks ks[i].Name ∧ ∀ j (hj : j < ks[i].Fields.length), oks ks[i].Fields[j].Name) (hz : szK ks) (hg : gens.length ≤ 17592186044416) (hs : szI items) :
    (wcheckV ks gens items ≠ 0 ∧ tourref3_Open ks gens items = some (.inl (wcheckV ks gens items))) ∨
    (wcheckV ks gens items = 0 ∧ ∃ parts, (∀ n, (mget parts n).getD none = (partG items n).map (mapC ks)) ∧ (parts.map Prod.fst).Nodup ∧ tourref3_Open ks gens items = some (.inr (ks, gens, parts))) := by
  have hz1 := hz.1
  generalize hw : wcheckV ks gens items = v
  generalize hO : tourref3_Open ks gens items = O
  unfold wcheckV at hw
  unfold tourref3_Open at hO
  rw [rcheck hk] at hO
  simp only [Option.bind_some, cnd_not, cnd_beq, cnd_dec] at hO
  by_cases h0 : checkV ks = 0
  · rw [if_pos h0] at hw hO
    by_cases h1 : 256 < gens.length
    · rw [if_pos (by omega)] at hO; rw [if_pos (.inl h1)] at hw; subst hw hO; exact .inl ⟨by decide, rfl⟩
    · rw [if_neg (by omega)] at hO
      by_cases h2 : gens.length < items.length
      · rw [if_pos (by omega)] at hO; rw [if_pos (.inr h2)] at hw; subst hw hO; exact .inl ⟨by decide, rfl⟩
      · rw [if_neg (by omega), clone_ints (by omega)] at hO; rw [if_neg (by omega)] at hw
        have hk16 : ks.length ≤ 16 := by
          rcases Nat.lt_or_ge 16 ks.length with h | h
          · unfold checkV at h0; rw [if_pos h] at h0; omega
          · exact h
        simp only [Option.bind_some] at hO
        rw [copy_kinds (ks := ks) (step := fun s_ => tourref3_Open_l8 ks s_.1 s_.2) (fun i hi => by
          show tourref3_Open_l8 ks (ks.take i) (i : Int) = _
          unfold tourref3_Open_l8 tourref3_Open_j9
          have := hz.2 i hi
          rw [cnd_dec, if_pos (by omega), idx_get hi]
          simp only [Option.bind_some]
          rw [clone_fields (by omega)]
          simp only [Option.bind_some]
          rw [app_ok (by simp; omega), i64ok (by omega) (by omega)]; rfl) (by
          show tourref3_Open_l8 ks ks (ks.length : Int) = _
          unfold tourref3_Open_l8
          rw [cnd_dec, if_neg (by omega)])] at hO
        simp only [Option.bind_some] at hO
        unfold tourref3_Open_j1 at hO
        rcases parts_loop (gens := gens) hk (by omega) hs items.length 0 [] (by omega) (fun it hit => by simp at hit) (fun n => by simp [mget, partG]) (by simp) with ⟨hI, parts, hp, hpn, hl⟩ | ⟨hI, hl⟩
        · have hl' : loop (σ := (List (Int × (Option (List (Int × (List Int)))))) × Int) (ρ := (Int ⊕ (List (Int × (Option (List (Int × (List Int)))))))) (fun s_ => tourref3_Open_l6 items ks gens s_.1 s_.2) (([] : List (Int × (Option (List (Int × (List Int)))))), 0) = _ := hl
          rw [hl'] at hO
          simp only [Option.bind_some, Sum.elim_inr] at hO
          unfold tourref3_Open_j2 at hO
          rcases loop_first (σ := Int) (ρ := Int) (υ := Unit) (step := fun s_ => tourref3_Open_l4 gens parts s_) (fun i => (i : Int)) gens.length (fun i => ¬ ∀ g, gens[i]? = some g → 0 ≤ g ∧ g ≤ 1073741824 ∧ (g = 1073741824 → partG items (i : Int) = none)) (fun _ => 3) () (fun i hi hb => by
              show tourref3_Open_l4 gens parts (i : Int) = _
              unfold tourref3_Open_l4
              rw [cnd_dec, if_pos (by omega), idx_get hi]
              simp only [Option.bind_some, cnd_dec, cnd_beq]
              rw [List.getElem?_eq_getElem hi] at hb
              simp only [Option.some.injEq, forall_eq'] at hb
              by_cases g1 : gens[i] < 0
              · rw [if_pos g1]
              · rw [if_neg g1]
                by_cases g2 : 1073741824 < gens[i]
                · rw [if_pos g2]
                · rw [if_neg g2]
                  have g3 : gens[i] = 1073741824 := by
                    rcases Classical.em (gens[i] = 1073741824) with h | h
                    · exact h
                    · exact absurd ⟨by omega, by omega, fun e => absurd e h⟩ hb
                  rw [if_pos g3, hp]
                  cases hpg : partG items (i : Int) with
                  | none => exact absurd ⟨by omega, by omega, fun _ => hpg⟩ hb
                  | some l => rfl) (fun i hi hb => by
              show tourref3_Open_l4 gens parts (i : Int) = _
              unfold tourref3_Open_l4 tourref3_Open_j5
              have hb := Classical.not_not.1 hb _ (List.getElem?_eq_getElem hi)
              rw [cnd_dec, if_pos (by omega), idx_get hi]
              simp only [Option.bind_some, cnd_dec, cnd_beq]
              rw [if_neg (by omega), if_neg (by omega), i64ok (by omega) (by omega)]
              by_cases g3 : gens[i] = 1073741824
              · rw [if_pos g3, hp, hb.2.2 g3]; rfl
              · rw [if_neg g3]; rfl) (by
              show tourref3_Open_l4 gens parts (gens.length : Int) = _
              unfold tourref3_Open_l4
              rw [cnd_dec, if_neg (by omega)]) with ⟨k, k1, k2, _, k4⟩ | ⟨k1, k2⟩
          · have k4' : loop (σ := Int) (ρ := (Int ⊕ Unit)) (fun s_ => tourref3_Open_l4 gens parts s_) 0 = _ := k4
            have hno : ¬ (gensOK gens ∧ itemsFrom ks gens (-1) items) := by
              rintro ⟨ho, hi⟩
              refine k2 fun g hgk => ?_
              have h3 := ho g (List.mem_of_getElem? hgk)
              refine ⟨h3.1, h3.2, fun e => ?_⟩
              cases hpg : partG items (k : Int) with
              | none => rfl
              | some l =>
                obtain ⟨it, hit, hN, _⟩ := partG_mem hpg
                have h4 := (items_iff.1 hi).2.2 it hit
                have h5 := h4.1.2
                rw [hN, Int.toNat_natCast, hgk] at h5
                exact absurd (by rw [← Option.some.inj h5, e]) h4.2.1
            rw [k4'] at hO; rw [if_neg hno] at hw; subst hw hO
            exact .inl ⟨by decide, rfl⟩
          · have k2' : loop (σ := Int) (ρ := (Int ⊕ Unit)) (fun s_ => tourref3_Open_l4 gens parts s_) 0 = _ := k2
            have kk : ∀ i (h : i < gens.length), 0 ≤ gens[i] ∧ gens[i] ≤ 1073741824 ∧ (gens[i] = 1073741824 → partG items (i : Int) = none) := fun i h => Classical.not_not.1 (k1 i h) _ (List.getElem?_eq_getElem h)
            have ho : gensOK gens := fun g hg' => by
              obtain ⟨i, hi, rfl⟩ := List.getElem_of_mem hg'
              exact ⟨(kk i hi).1, (kk i hi).2.1⟩
            have hgp : ∀ n l, partG items n = some l → gens[n.toNat]? ≠ some 1073741824 := by
              intro n l hl e
              obtain ⟨it, hit, hN, _⟩ := partG_mem hl
              have h3 := (hI it hit).2
              obtain ⟨hlt, he⟩ := List.getElem?_eq_some_iff.1 e
              have h4 := (kk _ hlt).2.2 he
              rw [Int.toNat_of_nonneg (by omega), hl] at h4
              cases h4
            have hci := closed_iff hk16 hI hgp
            rw [k2'] at hO
            simp only [Option.bind_some, Sum.elim_inr] at hO
            unfold tourref3_Open_j3 at hO
            rw [rclose (ks := ks) hz (by omega) hp (fun n l hl => by
              obtain ⟨it, hit, _, rfl⟩ := partG_mem hl
              exact hs.2 it hit), bnd3_some, rsamew hz (by omega) (by
              refine ⟨?_, fun it hit => ?_⟩
              · have := pickR_len gens.length fun n => (partG items n).map fun l => api_Item.mk (api_Ent.mk n (gens.getD n.toNat 0)) (listedC ks l)
                unfold closedI; omega
              · unfold closedI pickR at hit
                obtain ⟨n, _, hn⟩ := List.mem_filterMap.1 hit
                obtain ⟨l, hl, rfl⟩ := Option.map_eq_some_iff.1 hn
                obtain ⟨it2, hit2, _, rfl⟩ := partG_mem hl
                exact listed_sz (hs.2 it2 hit2))] at hO
            simp only [Option.bind_some, cnd_not, cnd_dec, true_and] at hO
            by_cases hc : closedI ks gens (partG items) = items
            · rw [if_pos hc] at hO; rw [if_pos ⟨ho, hci.2 hc⟩] at hw; subst hw hO
              exact .inr ⟨rfl, parts, hp, hpn, rfl⟩
            · rw [if_neg hc] at hO; rw [if_neg (fun h => hc (hci.1 h.2))] at hw; subst hw hO
              exact .inl ⟨by decide, rfl⟩
        · have hl' : loop (σ := (List (Int × (Option (List (Int × (List Int)))))) × Int) (ρ := (Int ⊕ (List (Int × (Option (List (Int × (List Int)))))))) (fun s_ => tourref3_Open_l6 items ks gens s_.1 s_.2) (([] : List (Int × (Option (List (Int × (List Int)))))), 0) = _ := hl
          have hno : ¬ (gensOK gens ∧ itemsFrom ks gens (-1) items) := by
            rintro ⟨ho, hi⟩
            refine hI fun it hit => ?_
            have h4 := (items_iff.1 hi).2.2 it hit
            have := (List.getElem?_eq_some_iff.1 h4.1.2).1
            exact ⟨((listed_iff hk16).1 h4.2.2).1, h4.1.1, by omega⟩
          rw [hl'] at hO; rw [if_neg hno] at hw; subst hw hO
          exact .inl ⟨by decide, rfl⟩
  · rw [if_neg h0] at hw hO
    subst hw hO
    exact .inl ⟨h0, rfl⟩
end Go.Proofs.YtbfndcookgijfaaGreatDoor.C
