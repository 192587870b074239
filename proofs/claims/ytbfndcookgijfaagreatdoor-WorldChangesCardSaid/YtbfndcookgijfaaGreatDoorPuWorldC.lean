/- The plain law of worlds: what the program's check comes to. No condition. -/
import Derived.Test.YtbfndcookgijfaaGreatDoorPuKindsC
namespace Go.Proofs.YtbfndcookgijfaaGreatDoor.C
open Go Go.RowKit Go.Proofs.YtbfndcookgijfaaGreatDoor.Sx Classical
set_option linter.unusedVariables false
set_option linter.unusedSimpArgs false
def holdsP (k : api_Kind) (vs : List Int) : Prop := oneV k.Name k.Fields = 0 ∧ vs.length = k.Fields.length ∧ fitL k.Fields vs = vs
def heldFrom (ks : List api_Kind) : Int → List api_Comp → Prop
  | _, [] => True
  | last, c :: l => last < c.Kind ∧ (∃ k, 0 ≤ c.Kind ∧ ks[c.Kind.toNat]? = some k ∧ holdsP k c.Vals) ∧ heldFrom ks c.Kind l
theorem kheld_loop (ks : List api_Kind) (l : List api_Comp) (hl : l.length ≤ 140737488355328) : ∀ (d i : Nat) (last : Int), i + d = l.length → -1 ≤ last →
    loop (σ := Int × Int) (ρ := (Bool ⊕ Unit)) (fun s_ => world_held_l2 l ks s_.1 s_.2) (last, (i : Int)) = some (if heldFrom ks last (l.drop i) then .inr () else .inl false) := by
  intro d
  induction d with
  | zero =>
    intro i last hi h0
    rw [loop_inr (s := (last, (i : Int))) (r := .inr ())]
    · rw [List.drop_of_length_le (by omega)]; simp [heldFrom]
    · show world_held_l2 l ks last (i : Int) = _
      unfold world_held_l2
      rw [cnd_dec, if_neg (by omega)]
  | succ d ih =>
    intro i last hi h0
    have hil : i < l.length := by omega
    rw [List.drop_eq_getElem_cons hil]
    unfold heldFrom
    generalize hc : l[i] = c
    have hx : idx l (i : Int) = some c := by rw [idx_get hil, hc]
    by_cases h1 : c.Kind ≤ last
    · rw [if_neg (fun h => by omega), loop_inr (s := (last, (i : Int))) (r := .inl false)]
      show world_held_l2 l ks last (i : Int) = _
      unfold world_held_l2
      rw [cnd_dec, if_pos (by omega), hx]
      simp only [Option.bind_some, cnd_dec]
      rw [if_pos h1]
    · by_cases h2 : (ks.length : Int) ≤ c.Kind
      · rw [if_neg (fun h => by obtain ⟨_, ⟨k, h3, h4, _⟩, _⟩ := h; have := (List.getElem?_eq_some_iff.1 h4).1; omega), loop_inr (s := (last, (i : Int))) (r := .inl false)]
        show world_held_l2 l ks last (i : Int) = _
        unfold world_held_l2
        rw [cnd_dec, if_pos (by omega), hx]
        simp only [Option.bind_some, cnd_dec]
        rw [if_neg h1, if_pos h2]
      · have hk : c.Kind.toNat < ks.length := by omega
        have hkx : idx ks c.Kind = some ks[c.Kind.toNat] := by
          have := idx_get (l := ks) hk
          rwa [Int.toNat_of_nonneg (by omega)] at this
        by_cases h3 : holdsP ks[c.Kind.toNat] c.Vals
        · rw [loop_inl (s := (last, (i : Int))) (s' := (c.Kind, ((i + 1 : Nat) : Int))), ih (i + 1) c.Kind (by omega) (by omega)]
          · congr 1
            by_cases h4 : heldFrom ks c.Kind (l.drop (i + 1))
            · rw [if_pos h4, if_pos ⟨by omega, ⟨_, by omega, List.getElem?_eq_getElem hk, h3⟩, h4⟩]
            · rw [if_neg h4, if_neg (fun h => h4 h.2.2)]
          · show world_held_l2 l ks last (i : Int) = _
            unfold world_held_l2
            rw [cnd_dec, if_pos (by omega), hx]
            simp only [Option.bind_some, cnd_dec]
            rw [if_neg h1, if_neg h2, hkx]
            simp only [Option.bind_some]
            rw [kholds]
            simp only [Option.bind_some, cnd_not, cnd_dec]
            unfold holdsP at h3
            rw [if_pos h3, i64ok (by omega) (by omega)]; rfl
        · rw [if_neg (fun h => by
            obtain ⟨_, ⟨k, _, h4, h5⟩, _⟩ := h
            rw [List.getElem?_eq_getElem hk] at h4
            obtain rfl := Option.some.inj h4
            exact h3 h5), loop_inr (s := (last, (i : Int))) (r := .inl false)]
          show world_held_l2 l ks last (i : Int) = _
          unfold world_held_l2
          rw [cnd_dec, if_pos (by omega), hx]
          simp only [Option.bind_some, cnd_dec]
          rw [if_neg h1, if_neg h2, hkx]
          simp only [Option.bind_some]
          rw [kholds]
          simp only [Option.bind_some, cnd_not, cnd_dec]
          unfold holdsP at h3
          rw [if_neg h3]
theorem kheld (ks : List api_Kind) {l : List api_Comp} (hl : l.length ≤ 140737488355328) : world_held ks l = some (decide (heldFrom ks (-1) l)) := by
  unfold world_held
  have := kheld_loop ks l hl l.length 0 (-1) (by omega) (by omega)
  rw [show ((0 : Nat) : Int) = 0 from rfl, List.drop_zero] at this
  rw [this]
  by_cases h : heldFrom ks (-1) l
  · rw [if_pos h, decide_eq_true h]; rfl
  · rw [if_neg h, decide_eq_false h]; rfl
def itemsFrom (ks : List api_Kind) (gens : List Int) : Int → List api_Item → Prop
  | _, [] => True
  | last, it :: l => last < it.Ent.N ∧ (0 ≤ it.Ent.N ∧ gens[it.Ent.N.toNat]? = some it.Ent.Gen) ∧ it.Ent.Gen ≠ 1073741824 ∧ heldFrom ks (-1) it.Comps ∧ itemsFrom ks gens it.Ent.N l
theorem kitems_loop (ks : List api_Kind) (gens : List Int) (l : List api_Item) (hl : l.length ≤ 256) (hc : ∀ it ∈ l, it.Comps.length ≤ 140737488355328) : ∀ (d i : Nat) (last : Int), i + d = l.length → -1 ≤ last →
    loop (σ := Int × Int) (ρ := (Int ⊕ Unit)) (fun s_ => world_Check_l3 l gens ks s_.1 s_.2) (last, (i : Int)) = some (if itemsFrom ks gens last (l.drop i) then .inr () else .inl 3) := by
  intro d
  induction d with
  | zero =>
    intro i last hi h0
    rw [loop_inr (s := (last, (i : Int))) (r := .inr ())]
    · rw [List.drop_of_length_le (by omega)]; simp [itemsFrom]
    · show world_Check_l3 l gens ks last (i : Int) = _
      unfold world_Check_l3
      rw [cnd_dec, if_neg (by omega)]
  | succ d ih =>
    intro i last hi h0
    have hil : i < l.length := by omega
    have hcl := hc l[i] (List.getElem_mem hil)
    rw [List.drop_eq_getElem_cons hil]
    unfold itemsFrom
    generalize hit : l[i] = it at hcl ⊢
    have hx : idx l (i : Int) = some it := by rw [idx_get hil, hit]
    have pre : ∀ X, world_Check_l3 l gens ks last (i : Int) = X ↔ (if it.Ent.N ≤ last then some (.inr (.inl 3)) else if (gens.length : Int) ≤ it.Ent.N then some (.inr (.inl 3)) else (idx gens it.Ent.N).bind fun x27 =>
        if it.Ent.Gen = x27 then (if it.Ent.Gen = 1073741824 then some (.inr (.inl 3)) else if heldFrom ks (-1) it.Comps then some (.inl (it.Ent.N, ((i + 1 : Nat) : Int))) else some (.inr (.inl 3))) else some (.inr (.inl 3))) = X := by
      intro X
      unfold world_Check_l3
      rw [cnd_dec, if_pos (by omega), hx]
      simp only [Option.bind_some, cnd_dec, cnd_not, cnd_beq]
      rw [kheld ks hcl]
      simp only [Option.bind_some, cnd_dec]
      rw [i64ok (by omega) (by omega)]
      exact Iff.rfl
    by_cases h1 : it.Ent.N ≤ last
    · rw [if_neg (fun h => by omega), loop_inr (s := (last, (i : Int))) (r := .inl 3) ((pre _).2 (by rw [if_pos h1]))]
    · by_cases h2 : (gens.length : Int) ≤ it.Ent.N
      · rw [if_neg (fun h => by obtain ⟨_, ⟨_, h4⟩, _⟩ := h; have := (List.getElem?_eq_some_iff.1 h4).1; omega), loop_inr (s := (last, (i : Int))) (r := .inl 3) ((pre _).2 (by rw [if_neg h1, if_pos h2]))]
      · have hk : it.Ent.N.toNat < gens.length := by omega
        have hkx : idx gens it.Ent.N = some gens[it.Ent.N.toNat] := by
          have := idx_get (l := gens) hk
          rwa [Int.toNat_of_nonneg (by omega)] at this
        rw [hkx] at pre
        simp only [Option.bind_some] at pre
        by_cases h3 : it.Ent.Gen = gens[it.Ent.N.toNat]
        · by_cases h4 : it.Ent.Gen = 1073741824
          · rw [if_neg (fun h => h.2.2.1 h4), loop_inr (s := (last, (i : Int))) (r := .inl 3) ((pre _).2 (by rw [if_neg h1, if_neg h2, if_pos h3, if_pos h4]))]
          · by_cases h5 : heldFrom ks (-1) it.Comps
            · rw [loop_inl (s := (last, (i : Int))) (s' := (it.Ent.N, ((i + 1 : Nat) : Int))) ((pre _).2 (by rw [if_neg h1, if_neg h2, if_pos h3, if_neg h4, if_pos h5])), ih (i + 1) it.Ent.N (by omega) (by omega)]
              congr 1
              by_cases h6 : itemsFrom ks gens it.Ent.N (l.drop (i + 1))
              · rw [if_pos h6, if_pos ⟨by omega, ⟨by omega, by rw [List.getElem?_eq_getElem hk, h3]⟩, h4, h5, h6⟩]
              · rw [if_neg h6, if_neg (fun h => h6 h.2.2.2.2)]
            · rw [if_neg (fun h => h5 h.2.2.2.1), loop_inr (s := (last, (i : Int))) (r := .inl 3) ((pre _).2 (by rw [if_neg h1, if_neg h2, if_pos h3, if_neg h4, if_neg h5]))]
        · rw [if_neg (fun h => by
            have := h.2.1.2
            rw [List.getElem?_eq_getElem hk] at this
            exact h3 (Option.some.inj this).symm), loop_inr (s := (last, (i : Int))) (r := .inl 3) ((pre _).2 (by rw [if_neg h1, if_neg h2, if_neg h3]))]
def gensOK (gens : List Int) : Prop := ∀ g ∈ gens, 0 ≤ g ∧ g ≤ 1073741824
noncomputable def wcheckV (ks : List api_Kind) (gens : List Int) (items : List api_Item) : Int :=
  if checkV ks = 0 then (if 256 < gens.length ∨ gens.length < items.length then 2 else if gensOK gens ∧ itemsFrom ks gens (-1) items then 0 else 3) else checkV ks
theorem kwcheck (ks : List api_Kind) (gens : List Int) (items : List api_Item) (hc : ∀ it ∈ items, it.Comps.length ≤ 140737488355328) : world_Check ks gens items = some (wcheckV ks gens items) := by
  unfold world_Check wcheckV
  rw [kcheck]
  simp only [Option.bind_some, cnd_not, cnd_beq, cnd_dec]
  by_cases h0 : checkV ks = 0
  · rw [if_pos h0, if_pos h0]
    by_cases h1 : 256 < gens.length
    · rw [if_pos (by omega), if_pos (.inl h1)]
    · rw [if_neg (by omega)]
      by_cases h2 : gens.length < items.length
      · rw [if_pos (by omega), if_pos (.inr h2)]
      · rw [if_neg (by omega), if_neg (by omega)]
        rcases loop_first (σ := Int) (ρ := Int) (υ := Unit) (step := fun s_ => world_Check_l4 gens s_) (fun i => (i : Int)) gens.length (fun i => ¬ ∀ g, gens[i]? = some g → 0 ≤ g ∧ g ≤ 1073741824) (fun _ => 3) () (fun i hi hp => by
            show world_Check_l4 gens (i : Int) = _
            unfold world_Check_l4
            rw [cnd_dec, if_pos (by omega), idx_get hi]
            simp only [Option.bind_some, cnd_dec]
            rw [List.getElem?_eq_getElem hi] at hp
            simp only [Option.some.injEq, forall_eq'] at hp
            by_cases hg : gens[i] < 0
            · rw [if_pos hg]
            · rw [if_neg hg, if_pos (by omega)]) (fun i hi hp => by
            show world_Check_l4 gens (i : Int) = _
            unfold world_Check_l4
            rw [cnd_dec, if_pos (by omega), idx_get hi]
            simp only [Option.bind_some, cnd_dec]
            have hp := Classical.not_not.1 hp _ (List.getElem?_eq_getElem hi)
            rw [if_neg (by omega), if_neg (by omega), i64ok (by omega) (by omega)]; rfl) (by
            show world_Check_l4 gens (gens.length : Int) = _
            unfold world_Check_l4
            rw [cnd_dec, if_neg (by omega)]) with ⟨k, k1, k2, _, k4⟩ | ⟨k1, k2⟩
        · rw [show (0 : Int) = ((0 : Nat) : Int) from rfl, k4, if_neg]
          · rfl
          · intro h
            exact k2 (fun g hg => h.1 g (List.mem_of_getElem? hg))
        · rw [show (0 : Int) = ((0 : Nat) : Int) from rfl, k2]
          have hg : gensOK gens := fun g hg => by
            obtain ⟨i, hi⟩ := List.mem_iff_getElem?.1 hg
            exact Classical.not_not.1 (k1 i (List.getElem?_eq_some_iff.1 hi).1) g hi
          simp only [Option.bind_some, Sum.elim_inr]
          unfold world_Check_j1
          have := kitems_loop ks gens items (by omega) hc items.length 0 (-1) (by omega) (by omega)
          rw [show ((0 : Nat) : Int) = 0 from rfl, List.drop_zero] at this
          rw [show ((0 : Nat) : Int) = 0 from rfl, this]
          by_cases hi : itemsFrom ks gens (-1) items
          · rw [if_pos hi, if_pos ⟨hg, hi⟩]; rfl
          · rw [if_neg hi, if_neg (fun h => hi h.2)]; rfl
  · rw [if_neg h0, if_neg h0]
/-! ### The law's own world -/
def fX : api_Field := api_Field.mk (⟨#[120]⟩) 3 (-2)
def fY : api_Field := api_Field.mk (⟨#[120]⟩) 8 0
def nPlace : ByteArray := ⟨#[112, 108, 97, 99, 101]⟩
def nLife : ByteArray := ⟨#[108, 105, 102, 101]⟩
def twoL : List api_Kind := [api_Kind.mk nPlace [fX], api_Kind.mk nLife [fY]]
theorem fX_ok : fieldB fX.Name fX.Bits fX.Low = true := by decide +kernel
theorem fY_ok : fieldB fY.Name fY.Bits fY.Low = true := by decide +kernel
theorem place_ok : oneV nPlace [fX] = 0 := by
  unfold oneV
  rw [if_pos (by decide +kernel), if_neg (by decide), show List.range [fX].length = [0] from rfl]
  have : oneG [fX] 0 = none := by rw [oneG_at (by decide)]; simp [fX_ok]
  simp [this]
theorem life_ok : oneV nLife [fY] = 0 := by
  unfold oneV
  rw [if_pos (by decide +kernel), if_neg (by decide), show List.range [fY].length = [0] from rfl]
  have : oneG [fY] 0 = none := by rw [oneG_at (by decide)]; simp [fY_ok]
  simp [this]
theorem two_ok : checkV twoL = 0 := by
  unfold checkV
  rw [if_neg (by decide), show List.range twoL.length = [0, 1] from rfl]
  have h0 : checkG twoL 0 = none := by rw [checkG_at (by decide)]; simp [twoL, place_ok]
  have h1 : checkG twoL 1 = none := by
    rw [checkG_at (by decide)]
    simp [twoL, life_ok]
    decide
  simp [h0, h1]
def pairItems : List api_Item := [(api_Item.mk (api_Ent.mk 0 0) [(api_Comp.mk 0 [4]), (api_Comp.mk 1 [9])]), (api_Item.mk (api_Ent.mk 1 2) [(api_Comp.mk 1 [7])])]
theorem pair_eq : tourlaw3_pair = some (twoL, [0, 2], pairItems) := rfl
theorem pair_items : itemsFrom twoL [0, 2] (-1) pairItems := by
  have p0 : twoL[(0 : Int).toNat]? = some (api_Kind.mk nPlace [fX]) := rfl
  have p1 : twoL[(1 : Int).toNat]? = some (api_Kind.mk nLife [fY]) := rfl
  refine ⟨by decide, ⟨by decide, rfl⟩, by decide, ⟨by decide, ⟨_, by decide, p0, place_ok, rfl, rfl⟩, by decide, ⟨_, by decide, p1, life_ok, rfl, rfl⟩, trivial⟩, by decide, ⟨by decide, rfl⟩, by decide, ⟨by decide, ⟨_, by decide, p1, life_ok, rfl, rfl⟩, trivial⟩, trivial⟩
theorem pair_ok : wcheckV twoL [0, 2] pairItems = 0 := by
  unfold wcheckV
  rw [if_pos two_ok, if_neg (by decide), if_pos ⟨by intro g hg; simp at hg; omega, pair_items⟩]
theorem pair_check : world_Check twoL [0, 2] pairItems = some 0 := by
  rw [kwcheck _ _ _ (by intro it hi; simp [pairItems] at hi; rcases hi with rfl | rfl <;> simp), pair_ok]
end Go.Proofs.YtbfndcookgijfaaGreatDoor.C
