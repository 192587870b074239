/- The plain law of worlds: comparing and copying them. No condition. -/
import Derived.Test.YtbfndcookgijfaaGreatDoorPuWorldC
namespace Go.Proofs.YtbfndcookgijfaaGreatDoor.C
open Go Go.RowKit Go.Proofs.YtbfndcookgijfaaGreatDoor.Sx
set_option linter.unusedVariables false
set_option linter.unusedSimpArgs false
theorem equal_gen {α : Type} [DecidableEq α] {a b : List α} (ha : a.length ≤ 140737488355328) (f : α → α → Option Bool) (hf : ∀ x ∈ a, ∀ y, f x y = some (decide (x = y))) :
    cnd (!((a.length : Int) == (b.length : Int))) (some false) ((loop (σ := Int) (ρ := (Bool ⊕ Unit)) (fun i => cnd (decide (i < (a.length : Int))) ((idx a i).bind fun x => (idx b i).bind fun y => (f x y).bind fun r => cnd (!r) (some (.inr (.inl false))) (some (.inl (IntKind.i64.wrap (i + 1))))) (some (.inr (.inr ())))) 0).bind (Sum.elim (fun e_ => some e_) (fun e_ => some true))) = some (decide (a = b)) := by
  rw [cnd_not, cnd_beq]
  by_cases hl : a.length = b.length
  · rw [if_pos (by omega)]
    rcases loop_same (υ := Unit) (step := fun i : Int => cnd (decide (i < (a.length : Int))) ((idx a i).bind fun x => (idx b i).bind fun y => (f x y).bind fun r => cnd (!r) (some (.inr (.inl false))) (some (.inl (IntKind.i64.wrap (i + 1))))) (some (.inr (.inr ())))) (fun i => (i : Int)) a b hl () (fun i h he => by
        show cnd _ _ _ = _
        rw [cnd_dec, if_pos (by omega), idx_get h, idx_get (show i < b.length by omega)]
        simp only [Option.bind_some]
        rw [hf _ (List.getElem_mem h), decide_eq_true he]
        simp only [Option.bind_some]
        rw [cnd_not, i64ok (by omega) (by omega)]; rfl) (fun i h he => by
        show cnd _ _ _ = _
        rw [cnd_dec, if_pos (by omega), idx_get h, idx_get (show i < b.length by omega)]
        simp only [Option.bind_some]
        rw [hf _ (List.getElem_mem h), decide_eq_false he]
        simp only [Option.bind_some]
        rfl) (by
        show cnd _ _ _ = _
        rw [cnd_dec, if_neg (by omega)]) with ⟨h1, h2⟩ | ⟨h1, h2⟩
    · have h2' : loop (σ := Int) (ρ := (Bool ⊕ Unit)) (fun i : Int => cnd (decide (i < (a.length : Int))) ((idx a i).bind fun x => (idx b i).bind fun y => (f x y).bind fun r => cnd (!r) (some (.inr (.inl false))) (some (.inl (IntKind.i64.wrap (i + 1))))) (some (.inr (.inr ())))) 0 = _ := h2
      rw [h2', decide_eq_true h1]; rfl
    · have h2' : loop (σ := Int) (ρ := (Bool ⊕ Unit)) (fun i : Int => cnd (decide (i < (a.length : Int))) ((idx a i).bind fun x => (idx b i).bind fun y => (f x y).bind fun r => cnd (!r) (some (.inr (.inl false))) (some (.inl (IntKind.i64.wrap (i + 1))))) (some (.inr (.inr ())))) 0 = _ := h2
      rw [h2', decide_eq_false h1]; rfl
  · rw [if_neg (by omega), decide_eq_false (fun e => hl (by rw [e]))]
def szC (l : List api_Comp) : Prop := l.length * 32 ≤ 140737488355328 ∧ ∀ c ∈ l, c.Vals.length * 8 ≤ 140737488355328
def szI (l : List api_Item) : Prop := l.length * 40 ≤ 140737488355328 ∧ ∀ it ∈ l, szC it.Comps
def szK (l : List api_Kind) : Prop := l.length * 40 ≤ 140737488351232 ∧ ∀ i (h : i < l.length), l[i].Fields.length * 32 ≤ 140737488351232
/-! ### The reference's -/
theorem rsamec {x y : api_Comp} (h : x.Vals.length * 8 ≤ 140737488355328) : tourref3_SameComp x.Kind x.Vals y.Kind y.Vals = some (decide (x = y)) := by
  unfold tourref3_SameComp tourref3_SameComp_j1
  rw [cnd_beq, equal_ints (by omega)]
  obtain ⟨a, b⟩ := x
  obtain ⟨c, d⟩ := y
  by_cases h1 : a = c
  · rw [if_pos h1]; simp [h1]
  · rw [if_neg h1]; simp [h1]
theorem requal_comps {a b : List api_Comp} (h : szC a) : slices_EqualFunc_api_Comp_api_Comp_api_Comp_api_Comp a b = some (decide (a = b)) := by
  have := h.1
  have e := equal_gen (a := a) (b := b) (by omega) (fun x y => tourref3_SameComp x.Kind x.Vals y.Kind y.Vals) (fun x hx y => rsamec (h.2 x hx))
  unfold slices_EqualFunc_api_Comp_api_Comp_api_Comp_api_Comp slices_EqualFunc_api_Comp_api_Comp_api_Comp_api_Comp_l2 slices_EqualFunc_api_Comp_api_Comp_api_Comp_api_Comp_j1
  exact e
theorem item_eq {x y : api_Item} : x = y ↔ (x.Ent.N = y.Ent.N ∧ x.Ent.Gen = y.Ent.Gen) ∧ x.Comps = y.Comps := by
  obtain ⟨⟨a, b⟩, c⟩ := x
  obtain ⟨⟨d, e⟩, f⟩ := y
  simp
theorem rsamei {x y : api_Item} (h : szC x.Comps) : tourref3_SameItem x.Ent.N x.Ent.Gen x.Comps y.Ent.N y.Ent.Gen y.Comps = some (decide (x = y)) := by
  unfold tourref3_SameItem tourref3_SameItem_j1
  rw [requal_comps h]
  by_cases h1 : x.Ent.N = y.Ent.N ∧ x.Ent.Gen = y.Ent.Gen
  · rw [cnd_pos (by simp [h1.1, h1.2])]
    simp only [Option.bind_some]
    exact congrArg some (decide_eq_decide.2 (by rw [item_eq]; exact ⟨fun e => ⟨h1, e⟩, fun e => e.2⟩))
  · rw [cnd_neg (by rw [Bool.and_eq_false_iff, beq_eq_false_iff_ne, beq_eq_false_iff_ne]; omega), decide_eq_false (fun e => h1 (item_eq.1 e).1)]
theorem requal_items {a b : List api_Item} (h : szI a) : slices_EqualFunc_api_Item_api_Item_api_Item_api_Item a b = some (decide (a = b)) := by
  have := h.1
  have e := equal_gen (a := a) (b := b) (by omega) (fun x y => tourref3_SameItem x.Ent.N x.Ent.Gen x.Comps y.Ent.N y.Ent.Gen y.Comps) (fun x hx y => rsamei (h.2 x hx))
  unfold slices_EqualFunc_api_Item_api_Item_api_Item_api_Item slices_EqualFunc_api_Item_api_Item_api_Item_api_Item_l2 slices_EqualFunc_api_Item_api_Item_api_Item_api_Item_j1
  exact e
theorem rsamew {a0 b0 : List api_Kind} {a1 b1 : List Int} {a2 b2 : List api_Item} (hk : szK a0) (hg : a1.length ≤ 140737488355328) (hi : szI a2) : tourref3_SameWorld a0 a1 a2 b0 b1 b2 = some (decide (a0 = b0 ∧ a1 = b1 ∧ a2 = b2)) := by
  have h1 := hk.1
  unfold tourref3_SameWorld tourref3_SameWorld_j1
  rw [requal_kinds (by omega) (fun i h => by have := hk.2 i h; omega), equal_ints hg, requal_items hi]
  simp only [Option.bind_some, cnd_dec]
  by_cases e0 : a0 = b0
  · rw [if_pos e0]
    by_cases e1 : a1 = b1
    · rw [if_pos e1]; simp [e0, e1]
    · rw [if_neg e1]; simp [e1]
  · rw [if_neg e0]; simp [e0]
/-! ### The program's -/
theorem clone_ints {l : List Int} (h : l.length * 8 ≤ 140737488355328) : slices_Clone_int_int l = some l := by
  unfold slices_Clone_int_int
  rw [app_ok (by simpa using h)]; rfl
theorem clone_fields {l : List api_Field} (h : l.length * 32 ≤ 140737488355328) : slices_Clone_api_Field_api_Field l = some l := by
  unfold slices_Clone_api_Field_api_Field
  rw [app_ok (by simpa using h)]; rfl
/-- A new row, filled with what another has. -/
theorem fill_copy {α : Type} {step : List α × Int → Option ((List α × Int) ⊕ List α)} {l : List α} (z : α) (hl : l.length ≤ 140737488355328)
    (h1 : ∀ (i : Nat) (o : List α) (h : i < l.length), i < o.length → step (o, (i : Int)) = some (.inl (o.set i l[i], ((i + 1 : Nat) : Int)))) (h2 : ∀ o, step (o, (l.length : Int)) = some (.inr o)) :
    loop step (List.replicate l.length z, 0) = some l := by
  have e := loop_to (step := step) (fun i => (l.take i ++ List.replicate (l.length - i) z, (i : Int))) l.length (r := l) (fun i hi => by
    show step (l.take i ++ List.replicate (l.length - i) z, (i : Int)) = _
    rw [h1 i _ hi (by simp; omega)]
    have : (l.take i ++ List.replicate (l.length - i) z).set i l[i] = l.take (i + 1) ++ List.replicate (l.length - (i + 1)) z := by
      rw [List.set_append_right _ _ (by simp; omega), List.length_take, Nat.min_eq_left (by omega), Nat.sub_self, show l.length - i = (l.length - (i + 1)) + 1 by omega, List.replicate_succ, List.set_cons_zero, List.take_succ_eq_append_getElem hi, List.append_assoc]; rfl
    rw [this]) (by
    show step (l.take l.length ++ List.replicate (l.length - l.length) z, (l.length : Int)) = _
    rw [h2, Nat.sub_self]; simp)
  have e0 : ((l.take 0 ++ List.replicate (l.length - 0) z, ((0 : Nat) : Int)) : List α × Int) = (List.replicate l.length z, 0) := by simp
  rw [← e0]; exact e
theorem kcopycs {l : List api_Comp} (h : szC l) : world_CopyComps l = some l := by
  have h1 := h.1
  unfold world_CopyComps
  rw [mk_ok (by omega) (by simpa using h1), Int.toNat_natCast]
  simp only [Option.bind_some]
  rw [fill_copy (l := l) (step := fun s_ => world_CopyComps_l2 l s_.1 s_.2) (api_Comp.mk 0 []) (by omega) (fun i o hi ho => by
    show world_CopyComps_l2 l o (i : Int) = _
    unfold world_CopyComps_l2
    rw [cnd_dec, if_pos (by omega), idx_get hi]
    simp only [Option.bind_some]
    rw [clone_ints (h.2 _ (List.getElem_mem hi)), idx_get ho]
    simp only [Option.bind_some]
    rw [upd_ok ho, i64ok (by omega) (by omega)]; rfl) (fun o => by
    show world_CopyComps_l2 l o (l.length : Int) = _
    unfold world_CopyComps_l2
    rw [cnd_dec, if_neg (by omega)])]
  rfl
theorem kcopyw {k : List api_Kind} {g : List Int} {l : List api_Item} (hk : szK k) (hg : g.length * 8 ≤ 140737488355328) (h : szI l) : world_Copy k g l = some (k, g, l) := by
  have h1 := h.1
  have hk1 := hk.1
  unfold world_Copy world_Copy_j1
  rw [kcopy (by omega) (fun i hi => by have := hk.2 i hi; omega), clone_ints hg, mk_ok (by omega) (by simpa using h1), Int.toNat_natCast]
  simp only [Option.bind_some]
  rw [fill_copy (l := l) (step := fun s_ => world_Copy_l3 l s_.1 s_.2) (api_Item.mk (api_Ent.mk 0 0) []) (by omega) (fun i o hi ho => by
    show world_Copy_l3 l o (i : Int) = _
    unfold world_Copy_l3
    rw [cnd_dec, if_pos (by omega), idx_get hi]
    simp only [Option.bind_some]
    rw [kcopycs (h.2 _ (List.getElem_mem hi)), idx_get ho]
    simp only [Option.bind_some]
    rw [upd_ok ho, i64ok (by omega) (by omega)]; rfl) (fun o => by
    show world_Copy_l3 l o (l.length : Int) = _
    unfold world_Copy_l3
    rw [cnd_dec, if_neg (by omega)])]
  rfl
end Go.Proofs.YtbfndcookgijfaaGreatDoor.C
