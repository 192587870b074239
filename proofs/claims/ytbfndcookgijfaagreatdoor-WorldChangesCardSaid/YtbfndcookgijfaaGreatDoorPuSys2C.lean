/- The plain law of systems, second part: what is contained, components, operations. No condition. -/
import Derived.Test.YtbfndcookgijfaaGreatDoorPuSys1C
import Derived.Test.YtbfndcookgijfaaGreatDoorExSortF
namespace Go.Proofs.YtbfndcookgijfaaGreatDoor.C
open Go Go.RowKit Go.Proofs.YtbfndcookgijfaaGreatDoor.Sx Classical
set_option linter.unusedVariables false
set_option linter.unusedSimpArgs false
theorem any_isSome' {α : Type} {l : List α} {p : α → Bool} : decide (0 ≤ (match l.findIdx? p with | some k => (k : Int) | none => -1)) = l.any p := by
  rw [← List.findIdx?_isSome]
  cases l.findIdx? p with
  | none => rfl
  | some k => simp
noncomputable def fitE (k : List api_Kind) : List Int → List api_Comp → Int
  | _, [] => 0
  | seen, c :: cs => if c.Kind < 0 ∨ (k.length : Int) ≤ c.Kind then 1 else if c.Kind ∈ seen then 5 else match k[c.Kind.toNat]? with
    | some x => if (fitV x.Name x.Fields c.Vals).2 = 0 then fitE k (seen ++ [c.Kind]) cs else (fitV x.Name x.Fields c.Vals).2
    | none => 0
theorem khaskind {l : List api_Comp} (hl : l.length ≤ 140737488355328) (n : Int) (v : List Int) : slices_ContainsFunc_api_Comp_api_Comp l n v = some (decide (n ∈ l.map api_Comp.Kind)) := by
  have e : loop (σ := Int) (ρ := (Int ⊕ Unit)) (fun s_ => slices_IndexFunc_api_Comp_api_Comp_l2 l n v s_) 0 = _ := loop_at l (fun i => (i : Int)) (fun c => c.Kind == n) () (fun i hi => by
    show slices_IndexFunc_api_Comp_api_Comp_l2 l n v (i : Int) = _
    unfold slices_IndexFunc_api_Comp_api_Comp_l2 world_Fit_1
    rw [cnd_dec, if_pos (by omega), idx_get hi]
    simp only [Option.bind_some, cnd_ite]
    by_cases hp : (l[i].Kind == n) = true
    · rw [if_pos hp, if_pos hp]
    · rw [if_neg hp, if_neg hp, i64ok (by omega) (by omega)]; rfl) (by
    show slices_IndexFunc_api_Comp_api_Comp_l2 l n v (l.length : Int) = _
    unfold slices_IndexFunc_api_Comp_api_Comp_l2
    rw [cnd_dec, if_neg (by omega)])
  have e3 : (l.any fun c => c.Kind == n) = decide (n ∈ l.map api_Comp.Kind) := by
    rw [Bool.eq_iff_iff]
    simp only [List.any_eq_true, beq_iff_eq, decide_eq_true_eq, List.mem_map]
  unfold slices_ContainsFunc_api_Comp_api_Comp slices_IndexFunc_api_Comp_api_Comp
  rw [e, ← e3, ← any_isSome']
  cases l.findIdx? (fun c => c.Kind == n) <;> rfl
end Go.Proofs.YtbfndcookgijfaaGreatDoor.C
