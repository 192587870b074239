/- Worlds as parts, in plain Lean: what the reference's parts close to; valid worlds; fitted components. No condition. -/
import Derived.Test.YtbfndcookgijfaaGreatDoorPuOpenedC
import Derived.Test.YtbfndcookgijfaaGreatDoorPuFitC
import Derived.Test.YtbfndcookgijfaaGreatDoorPuSorted
import Derived.Test.YtbfndcookgijfaaGreatDoorExRow
namespace Go.Proofs.YtbfndcookgijfaaGreatDoor.C
open Go Go.RowKit Go.Proofs.YtbfndcookgijfaaGreatDoor.Sx Classical
set_option linter.unusedVariables false
set_option linter.unusedSimpArgs false
/-! ### What parts close to -/
def listedM (m : List (Int × List Int)) : List api_Comp := pickR 0 16 fun n => (mget m n).map (api_Comp.mk n)
def szM (m : List (Int × List Int)) : Prop := ∀ n v, mget m n = some v → v.length * 8 ≤ 140737488355328
theorem rlistedM {m : List (Int × List Int)} (h : szM m) : tourref3_Listed m = some (listedM m) := by
  unfold tourref3_Listed
  have e := loop_to (σ := (List api_Comp) × Int) (ρ := (List api_Comp)) (step := fun s_ => tourref3_Listed_l2 m s_.1 s_.2) (fun i => (pickR 0 i fun n => (mget m n).map (api_Comp.mk n), (i : Int))) 16 (r := listedM m) (fun i hi => by
    have hlen := pickR_len i fun n => (mget m n).map (api_Comp.mk n)
    have hsucc := pickR_last i fun n => (mget m n).map (api_Comp.mk n)
    show tourref3_Listed_l2 m (pickR 0 i fun n => (mget m n).map (api_Comp.mk n)) (i : Int) = _
    unfold tourref3_Listed_l2 tourref3_Listed_j3
    rw [cnd_dec, if_pos (by omega)]
    simp only [Option.bind_some]
    rw [hsucc, i64ok (by omega) (by omega)]
    cases hf : mget m (i : Int) with
    | none => simp [cnd_false]
    | some v =>
      have := h _ v hf
      simp only [Option.map_some, Option.isSome_some, cnd_true, Option.getD_some]
      rw [clone_ints (by omega)]
      simp only [Option.bind_some]
      rw [app_ok (by simp; omega)]
      simp only [Option.bind_some, Option.toList_some]
      rfl) (by
    show tourref3_Listed_l2 m (listedM m) (16 : Int) = _
    unfold tourref3_Listed_l2
    rw [cnd_dec, if_neg (by omega)])
  have e' : loop (σ := (List api_Comp) × Int) (ρ := (List api_Comp)) (fun s_ => tourref3_Listed_l2 m s_.1 s_.2) (([] : List api_Comp), 0) = some (listedM m) := by
    have e0 : (pickR 0 0 (fun n => (mget m n).map (api_Comp.mk n)), ((0 : Nat) : Int)) = (([] : List api_Comp), (0 : Int)) := by simp [pickR]
    rw [← e0]; exact e
  rw [e']; rfl
theorem listedC_M (ks : List api_Kind) (l : List api_Comp) : listedC ks l = listedM (mapC ks l) := by
  unfold listedC listedM
  congr 1
  funext n
  rw [mget_mapC, Option.map_map]
  cases hf : l.find? (fun c => decide (c.Kind = n)) with
  | none => rfl
  | some c =>
    have hk : c.Kind = n := by simpa using List.find?_some hf
    simp [normC, hk]
def closedM (gens : List Int) (G : Int → Option (List (Int × List Int))) : List api_Item := pickR 0 gens.length fun n => (G n).map fun m => api_Item.mk (api_Ent.mk n (gens.getD n.toNat 0)) (listedM m)
theorem rcloseM {ks0 : List api_Kind} {gens : List Int} {parts : List (Int × Option (List (Int × List Int)))} {G : Int → Option (List (Int × List Int))} (hk : szK ks0) (hg : gens.length ≤ 1000000) (hG : ∀ n, (mget parts n).getD none = G n) (hs : ∀ n m, G n = some m → szM m) :
    tourref3_Flat_Close ks0 gens parts = some (ks0, gens, closedM gens G) := by
  have hk1 := hk.1
  unfold tourref3_Flat_Close tourref3_Flat_Close_j1
  rw [clone_ints (by omega)]
  simp only [Option.bind_some]
  rw [copy_kinds (ks := ks0) (step := fun s_ => tourref3_Flat_Close_l5 ks0 s_.1 s_.2) (fun i hi => by
    show tourref3_Flat_Close_l5 ks0 (ks0.take i) (i : Int) = _
    unfold tourref3_Flat_Close_l5 tourref3_Flat_Close_j6
    have := hk.2 i hi
    rw [cnd_dec, if_pos (by omega), idx_get hi]
    simp only [Option.bind_some]
    rw [clone_fields (by omega)]
    simp only [Option.bind_some]
    rw [app_ok (by simp; omega), i64ok (by omega) (by omega)]; rfl) (by
    show tourref3_Flat_Close_l5 ks0 ks0 (ks0.length : Int) = _
    unfold tourref3_Flat_Close_l5
    rw [cnd_dec, if_neg (by omega)])]
  simp only [Option.bind_some]
  have e := loop_to (σ := (List api_Item) × Int) (ρ := (List api_Item)) (step := fun s_ => tourref3_Flat_Close_l3 gens parts s_.1 s_.2) (fun i => (pickR 0 i fun n => (G n).map fun m => api_Item.mk (api_Ent.mk n (gens.getD n.toNat 0)) (listedM m), (i : Int))) gens.length (r := closedM gens G) (fun i hi => by
    have hlen := pickR_len i fun n => (G n).map fun m => api_Item.mk (api_Ent.mk n (gens.getD n.toNat 0)) (listedM m)
    have hsucc := pickR_last i fun n => (G n).map fun m => api_Item.mk (api_Ent.mk n (gens.getD n.toNat 0)) (listedM m)
    show tourref3_Flat_Close_l3 gens parts (pickR 0 i fun n => (G n).map fun m => api_Item.mk (api_Ent.mk n (gens.getD n.toNat 0)) (listedM m)) (i : Int) = _
    unfold tourref3_Flat_Close_l3 tourref3_Flat_Close_j4
    rw [cnd_dec, if_pos (by omega), idx_get hi]
    simp only [Option.bind_some]
    rw [hG, hsucc, i64ok (by omega) (by omega)]
    cases hf : G (i : Int) with
    | none => simp [oel]
    | some m =>
      simp only [Option.map_some, oel, Option.toList_some]
      rw [rlistedM (hs _ m hf)]
      simp only [Option.bind_some]
      rw [app_ok (by simp only [List.length_cons, List.length_nil]; omega)]
      simp only [Option.bind_some]
      have : gens.getD ((i : Int).toNat) 0 = gens[i] := by rw [Int.toNat_natCast, List.getD_eq_getElem?_getD, List.getElem?_eq_getElem hi]; rfl
      rw [this]; rfl) (by
    show tourref3_Flat_Close_l3 gens parts (closedM gens G) (gens.length : Int) = _
    unfold tourref3_Flat_Close_l3
    rw [cnd_dec, if_neg (by omega)])
  have e' : loop (σ := (List api_Item) × Int) (ρ := (List api_Item)) (fun s_ => tourref3_Flat_Close_l3 gens parts s_.1 s_.2) (([] : List api_Item), 0) = some (closedM gens G) := by
    have e0 : (pickR 0 0 (fun n => (G n).map fun m => api_Item.mk (api_Ent.mk n (gens.getD n.toNat 0)) (listedM m)), ((0 : Nat) : Int)) = (([] : List api_Item), (0 : Int)) := by simp [pickR]
    rw [← e0]; exact e
  rw [e']; rfl
theorem closed_of {gens : List Int} {items : List api_Item} {G : Int → Option (List (Int × List Int))} (hup : Up2 (fun it : api_Item => it.Ent.N) items) (hr : ∀ it ∈ items, 0 ≤ it.Ent.N ∧ it.Ent.N < (gens.length : Int))
    (hf : ∀ n : Nat, n < gens.length → items.find? (fun it => decide (it.Ent.N = (n : Int))) = (G (n : Int)).map fun m => api_Item.mk (api_Ent.mk (n : Int) (gens.getD n 0)) (listedM m)) : closedM gens G = items := by
  have hp := pick_find (fun it : api_Item => it.Ent.N) gens.length 0 items hup (fun it hit => by have := hr it hit; constructor <;> omega)
  rw [← hp]
  unfold closedM pickR
  refine fm_congr fun n hn => ?_
  obtain ⟨q, hq, rfl⟩ := List.mem_range'.1 hn
  have := hf (0 + 1 * q) (by omega)
  simp only [Int.toNat_natCast]
  exact this.symm
/-! ### Valid worlds -/
structure VW (ks : List api_Kind) (gens : List Int) (items : List api_Item) : Prop where
  kc : checkV ks = 0
  k16 : ks.length ≤ 16
  g256 : gens.length ≤ 256
  il : items.length ≤ gens.length
  gok : gensOK gens
  up : Up2 (fun it : api_Item => it.Ent.N) items
  it : ∀ it ∈ items, (0 ≤ it.Ent.N ∧ gens[it.Ent.N.toNat]? = some it.Ent.Gen) ∧ it.Ent.Gen ≠ 1073741824 ∧ heldFrom ks (-1) it.Comps
theorem vw_of {ks : List api_Kind} {gens : List Int} {items : List api_Item} (h : wcheckV ks gens items = 0) : VW ks gens items := by
  unfold wcheckV at h
  by_cases h0 : checkV ks = 0
  · rw [if_pos h0] at h
    by_cases h1 : 256 < gens.length ∨ gens.length < items.length
    · rw [if_pos h1] at h; omega
    · rw [if_neg h1] at h
      by_cases h2 : gensOK gens ∧ itemsFrom ks gens (-1) items
      · obtain ⟨h3, h4⟩ := h2
        obtain ⟨h5, _, h6⟩ := items_iff.1 h4
        refine ⟨h0, ?_, by omega, by omega, h3, h5, h6⟩
        rcases Nat.lt_or_ge 16 ks.length with h | h
        · unfold checkV at h0; rw [if_pos h] at h0; omega
        · exact h
      · rw [if_neg h2] at h; omega
  · rw [if_neg h0] at h; exact absurd h h0
theorem VW.range {ks : List api_Kind} {gens : List Int} {items : List api_Item} (h : VW ks gens items) {it : api_Item} (hit : it ∈ items) : 0 ≤ it.Ent.N ∧ it.Ent.N < (gens.length : Int) := by
  have := h.it it hit
  have h2 := (List.getElem?_eq_some_iff.1 this.1.2).1
  omega
theorem VW.find {ks : List api_Kind} {gens : List Int} {items : List api_Item} (h : VW ks gens items) (n : Nat) : items.find? (fun it => decide (it.Ent.N = (n : Int))) = ((partG items (n : Int)).map (mapC ks)).map fun m => api_Item.mk (api_Ent.mk (n : Int) (gens.getD n 0)) (listedM m) := by
  unfold partG
  rw [find_rev (fun it : api_Item => it.Ent.N) h.up]
  cases hf : items.find? (fun it => decide (it.Ent.N = (n : Int))) with
  | none => rfl
  | some it =>
    have hN : it.Ent.N = (n : Int) := by simpa using List.find?_some hf
    obtain ⟨h1, h2, h3⟩ := h.it it (List.mem_of_find?_eq_some hf)
    have h4 := ((listed_iff h.k16).1 h3).2
    have h5 : gens.getD n 0 = it.Ent.Gen := by
      rw [List.getD_eq_getElem?_getD]
      have := h1.2
      rw [hN, Int.toNat_natCast] at this
      rw [this]; rfl
    simp only [Option.map_some, Option.some.injEq]
    rw [← listedC_M, h4, h5, ← hN]
theorem VW.close {ks : List api_Kind} {gens : List Int} {items : List api_Item} (h : VW ks gens items) : closedM gens (fun n => (partG items n).map (mapC ks)) = items :=
  closed_of h.up (fun it hit => h.range hit) fun n _ => h.find n
theorem fitC_szM {ks : List api_Kind} {l : List api_Comp} (h : ∀ c ∈ l, c.Vals.length * 8 ≤ 140737488355328) : szM (mapC ks l) := by
  intro n v hv
  rw [mget_mapC] at hv
  obtain ⟨c, hc, rfl⟩ := Option.map_eq_some_iff.1 hv
  have := fitC_len ks c
  have := h c (List.mem_of_find?_eq_some hc)
  omega
/-! ### Fitted components: the same error, the same list -/
theorem fitV_zero {nm : ByteArray} {fs : List api_Field} {vs : List Int} : (fitV nm fs vs).2 = 0 ↔ oneV nm fs = 0 ∧ vs.length = fs.length := by
  unfold fitV
  by_cases h : oneV nm fs = 0
  · rw [if_pos h]
    by_cases h2 : vs.length = fs.length
    · rw [if_pos h2]; exact ⟨fun _ => ⟨h, h2⟩, fun _ => rfl⟩
    · rw [if_neg h2]
      constructor
      · intro h3; simp at h3
      · intro h3; exact absurd h3.2 h2
  · rw [if_neg h]
    exact ⟨fun h2 => absurd h2 h, fun h2 => absurd h2.1 h⟩
theorem fitE_zero {ks : List api_Kind} : ∀ {l : List api_Comp} {seen : List Int}, fitE ks seen l = 0 ↔ (∀ c ∈ l, goodC ks c ∧ c.Kind ∉ seen) ∧ (l.map api_Comp.Kind).Nodup := by
  intro l
  induction l with
  | nil => intro seen; unfold fitE; simp
  | cons c l ih =>
    intro seen
    unfold fitE
    by_cases h1 : c.Kind < 0 ∨ (ks.length : Int) ≤ c.Kind
    · rw [if_pos h1]
      constructor
      · intro h; omega
      · intro h; have := good_range (h.1 c (by simp)).1; omega
    · rw [if_neg h1]
      have hl : c.Kind.toNat < ks.length := by omega
      by_cases h2 : c.Kind ∈ seen
      · rw [if_pos h2]
        constructor
        · intro h; omega
        · intro h; exact absurd h2 (h.1 c (by simp)).2
      · rw [if_neg h2, List.getElem?_eq_getElem hl]
        simp only
        have hg : goodC ks c ↔ (fitV ks[c.Kind.toNat].Name ks[c.Kind.toNat].Fields c.Vals).2 = 0 := by
          rw [fitV_zero]
          constructor
          · rintro ⟨_, k, hk, h3, h4⟩
            rw [List.getElem?_eq_getElem hl] at hk
            obtain rfl := Option.some.inj hk
            exact ⟨h3, h4⟩
          · rintro ⟨h3, h4⟩; exact ⟨by omega, _, List.getElem?_eq_getElem hl, h3, h4⟩
        by_cases h3 : (fitV ks[c.Kind.toNat].Name ks[c.Kind.toNat].Fields c.Vals).2 = 0
        · rw [if_pos h3, ih]
          constructor
          · rintro ⟨h4, h5⟩
            refine ⟨fun x hx => ?_, ?_⟩
            · rcases List.mem_cons.1 hx with rfl | hx
              · exact ⟨hg.2 h3, h2⟩
              · have := h4 x hx; exact ⟨this.1, fun h => this.2 (by simp [h])⟩
            · rw [List.map_cons, List.nodup_cons]
              refine ⟨fun hm => ?_, h5⟩
              obtain ⟨x, hx, e⟩ := List.mem_map.1 hm
              exact (h4 x hx).2 (by simp [e])
          · rintro ⟨h4, h5⟩
            rw [List.map_cons, List.nodup_cons] at h5
            refine ⟨fun x hx => ?_, h5.2⟩
            have := h4 x (by simp [hx])
            refine ⟨this.1, fun hm => ?_⟩
            rcases List.mem_append.1 hm with hm | hm
            · exact this.2 hm
            · exact h5.1 (List.mem_map.2 ⟨x, hx, by simpa using hm⟩)
        · rw [if_neg h3]
          exact ⟨fun h => absurd h h3, fun h => absurd (hg.1 (h.1 c (by simp)).1) h3⟩
theorem fitE_all {ks : List api_Kind} {l : List api_Comp} : fitE ks [] l = 0 ↔ allC ks l := by
  rw [fitE_zero]
  unfold allC
  simp
theorem fittedE_loop {ks : List api_Kind} {l : List api_Comp} (hk : ∀ i (h : i < ks.length), oks ks[i].Name ∧ ∀ j (hj : j < ks[i].Fields.length), oks ks[i].Fields[j].Name) (hl : l.length ≤ 140737488355328) :
    ∀ (d i : Nat), i + d = l.length →
    loop (σ := (List (Int × (List Int))) × Int) (ρ := (Int ⊕ (List (Int × (List Int))))) (fun s_ => tourref3_FittedAll_l2 l ks s_.1 s_.2) (mapC ks (l.take i), (i : Int)) = some (if fitE ks ((l.take i).map api_Comp.Kind) (l.drop i) = 0 then .inr (mapC ks l) else .inl (fitE ks ((l.take i).map api_Comp.Kind) (l.drop i))) := by
  intro d
  induction d with
  | zero =>
    intro i hi
    rw [List.take_of_length_le (by omega), List.drop_eq_nil_of_le (by omega)]
    unfold fitE
    rw [if_pos rfl]
    refine loop_inr ?_
    show tourref3_FittedAll_l2 l ks (mapC ks l) (i : Int) = _
    unfold tourref3_FittedAll_l2
    rw [cnd_dec, if_neg (by omega)]
  | succ d ih =>
    intro i hi
    have hil : i < l.length := by omega
    have htk := List.take_succ_eq_append_getElem hil
    rw [List.drop_eq_getElem_cons hil]
    generalize hc : l[i] = c at htk
    have hx : idx l (i : Int) = some c := by rw [idx_get hil, hc]
    by_cases h1 : c.Kind < 0
    · have hE : fitE ks ((l.take i).map api_Comp.Kind) (c :: l.drop (i + 1)) = 1 := by unfold fitE; rw [if_pos (.inl h1)]
      rw [hE, if_neg (by decide)]
      refine loop_inr ?_
      show tourref3_FittedAll_l2 l ks (mapC ks (l.take i)) (i : Int) = _
      unfold tourref3_FittedAll_l2
      rw [cnd_dec, if_pos (by omega), hx]
      simp only [Option.bind_some, cnd_dec]
      rw [if_pos h1]
    · by_cases h2 : (ks.length : Int) ≤ c.Kind
      · have hE : fitE ks ((l.take i).map api_Comp.Kind) (c :: l.drop (i + 1)) = 1 := by unfold fitE; rw [if_pos (.inr h2)]
        rw [hE, if_neg (by decide)]
        refine loop_inr ?_
        show tourref3_FittedAll_l2 l ks (mapC ks (l.take i)) (i : Int) = _
        unfold tourref3_FittedAll_l2
        rw [cnd_dec, if_pos (by omega), hx]
        simp only [Option.bind_some, cnd_dec]
        rw [if_neg h1, if_pos h2]
      · have hkl : c.Kind.toNat < ks.length := by omega
        have hkx : idx ks c.Kind = some ks[c.Kind.toNat] := by
          have := idx_get (l := ks) hkl
          rwa [Int.toNat_of_nonneg (by omega)] at this
        by_cases h3 : c.Kind ∈ (l.take i).map api_Comp.Kind
        · have hE : fitE ks ((l.take i).map api_Comp.Kind) (c :: l.drop (i + 1)) = 5 := by unfold fitE; rw [if_neg (by omega), if_pos h3]
          rw [hE, if_neg (by decide)]
          refine loop_inr ?_
          show tourref3_FittedAll_l2 l ks (mapC ks (l.take i)) (i : Int) = _
          unfold tourref3_FittedAll_l2
          rw [cnd_dec, if_pos (by omega), hx]
          simp only [Option.bind_some, cnd_dec]
          rw [if_neg h1, if_neg h2]
          cases hg : mget (mapC ks (l.take i)) c.Kind with
          | none => exact absurd h3 (mget_none.1 hg)
          | some v => rfl
        · have hE : fitE ks ((l.take i).map api_Comp.Kind) (c :: l.drop (i + 1)) = if (fitV ks[c.Kind.toNat].Name ks[c.Kind.toNat].Fields c.Vals).2 = 0 then fitE ks ((l.take i).map api_Comp.Kind ++ [c.Kind]) (l.drop (i + 1)) else (fitV ks[c.Kind.toNat].Name ks[c.Kind.toNat].Fields c.Vals).2 := by
            conv => lhs; unfold fitE
            rw [if_neg (by omega), if_neg h3, List.getElem?_eq_getElem hkl]
          rw [hE]
          have hg := mget_none (ks := ks).2 h3
          have hstep : tourref3_FittedAll_l2 l ks (mapC ks (l.take i)) (i : Int) = if (fitV ks[c.Kind.toNat].Name ks[c.Kind.toNat].Fields c.Vals).2 = 0 then some (.inl (mapC ks (l.take i) ++ [(c.Kind, (fitV ks[c.Kind.toNat].Name ks[c.Kind.toNat].Fields c.Vals).1)], ((i + 1 : Nat) : Int))) else some (.inr (.inl (fitV ks[c.Kind.toNat].Name ks[c.Kind.toNat].Fields c.Vals).2)) := by
            unfold tourref3_FittedAll_l2
            rw [cnd_dec, if_pos (by omega), hx]
            simp only [Option.bind_some, cnd_dec]
            rw [if_neg h1, if_neg h2, hg, hkx]
            simp only [Option.bind_some, Option.isSome_none, cnd_false]
            rw [rfit (hk _ hkl).1 (hk _ hkl).2]
            unfold bnd2
            simp only [Option.bind_some, cnd_not, cnd_beq]
            rw [mput_new hg, i64ok (by omega) (by omega)]; rfl
          by_cases h4 : (fitV ks[c.Kind.toNat].Name ks[c.Kind.toNat].Fields c.Vals).2 = 0
          · rw [if_pos h4] at hstep
            simp only [if_pos h4]
            have e1 : mapC ks (l.take (i + 1)) = mapC ks (l.take i) ++ [(c.Kind, (fitV ks[c.Kind.toNat].Name ks[c.Kind.toNat].Fields c.Vals).1)] := by
              obtain ⟨q1, q2⟩ := fitV_zero.1 h4
              rw [htk]; unfold mapC fitV; rw [List.map_append, if_pos q1, if_pos q2]
              simp [fitC, List.getElem?_eq_getElem hkl]
            have e2 : (l.take i).map api_Comp.Kind ++ [c.Kind] = (l.take (i + 1)).map api_Comp.Kind := by rw [htk, List.map_append]; rfl
            rw [loop_inl (step := fun s_ => tourref3_FittedAll_l2 l ks s_.1 s_.2) (s := (mapC ks (l.take i), (i : Int))) hstep, ← e1, e2]
            exact ih (i + 1) (by omega)
          · rw [if_neg h4] at hstep
            simp only [if_neg h4]
            exact loop_inr hstep
theorem fittedE {ks : List api_Kind} {l : List api_Comp} (hk : ∀ i (h : i < ks.length), oks ks[i].Name ∧ ∀ j (hj : j < ks[i].Fields.length), oks ks[i].Fields[j].Name) (hl : l.length ≤ 140737488355328) :
    tourref3_FittedAll ks l = some (if fitE ks [] l = 0 then .inl (mapC ks l) else .inr (fitE ks [] l)) := by
  unfold tourref3_FittedAll
  have h := fittedE_loop hk hl l.length 0 (by omega)
  have h' : loop (σ := (List (Int × (List Int))) × Int) (ρ := (Int ⊕ (List (Int × (List Int))))) (fun s_ => tourref3_FittedAll_l2 l ks s_.1 s_.2) (([] : List (Int × (List Int))), 0) = _ := h
  rw [h']
  simp only [List.take_zero, List.map_nil, List.drop_zero]
  by_cases h0 : fitE ks [] l = 0
  · rw [if_pos h0, if_pos h0]; rfl
  · rw [if_neg h0, if_neg h0]; rfl
theorem fitCV_norm {ks : List api_Kind} {c : api_Comp} (h : goodC ks c) : fitCV ks c = normC ks c := by
  obtain ⟨_, k, hk, h1, h2⟩ := h
  unfold fitCV normC fitC fitV
  rw [hk]
  simp only
  rw [if_pos h1, if_pos h2]
end Go.Proofs.YtbfndcookgijfaaGreatDoor.C
