/- Loops over a list that is told whole: round by round. No condition. -/
import Derived.Test.YtbfndcookgijfaaGreatDoorExMem
namespace Go.Proofs.YtbfndcookgijfaaGreatDoor.Sx
open Go Go.RowKit
set_option linter.unusedVariables false
set_option linter.unusedSectionVars false
section
variable {P : Program} {ro : Option Nat} {n : NT} {Q : Exit → Act → World → Prop}
/-- What holds at the head of a loop's round. -/
def headP (P : Program) (ro : Option Nat) (c : Code) (Q : Exit → Act → World → Prop) (a : Act) (w : World) : Prop :=
  ∀ (b : Frame) (k : List Item) (cs : List Frame), b.roundOf = (FR ro).round → (FR ro).fn b.fn → (FR ro).room (cs.length + 1 + 0) →
    ∃ e a' w', Q e a' w' ∧ ArrivesIn (Machine.fenced P (FR ro)) P (lone (b.atR a (.code c :: .inLoop c :: k)) cs w) b k cs e a' w'
theorem head_round {c : Code} {a : Act} {w : World} (h : c.wpIn (FR ro) 0 P (Exit.then (headP P ro c Q) Q) a w) : headP P ro c Q a w := by
  intro b k cs hro hb hr
  obtain ⟨e, a₁, w₁, hq, harr⟩ := h b (.inLoop c :: k) cs hro hb hr
  cases e with
  | normal =>
    obtain ⟨e₂, a₂, w₂, hq₂, harr₂⟩ := hq b k cs hro hb hr
    exact ⟨e₂, a₂, w₂, hq₂, .of_steps (StepsIn.trans harr (up_in (.one stepR_inLoop))) harr₂⟩
  | exit id => exact ⟨_, a₁, w₁, hq, .pass (x := .inLoop c) rfl (fun _ _ => .inl (by simp)) harr⟩
  | goto l => exact ⟨_, a₁, w₁, hq, .pass (x := .inLoop c) rfl (fun _ _ => .inl (by simp)) harr⟩
  | ret => exact ⟨_, a₁, w₁, hq, .pass (x := .inLoop c) rfl (fun _ _ => .inl (by simp)) harr⟩
  | panic ch => exact ⟨_, a₁, w₁, hq, .pass (x := .inLoop c) rfl (fun _ _ => .inl (by simp)) harr⟩
  | outgrown => exact ⟨_, a₁, w₁, hq, .pass (x := .inLoop c) rfl (fun _ _ => .inl (by simp)) harr⟩
theorem st_unroll {c : Code} {l : Slots} {M : World → Prop} (h : St P ro n c (Exit.then (headP P ro c Q) Q) l M) : St P ro n (.loop c) Q l M := by
  intro a w hk hM b k cs hro hb hr
  obtain ⟨e, a', w', hq, harr⟩ := head_round (h a w hk hM) b k cs hro hb hr
  exact ⟨e, a', w', hq, .of_steps (up_in (.one stepR_loop)) harr⟩
theorem fin_head {c : Code} {l : Slots} {M : World → Prop} (h : St P ro n c (Exit.then (headP P ro c Q) Q) l M) : Fin n (Exit.then (headP P ro c Q) Q) .normal l M :=
  fun a w hk hM => head_round (h a w hk hM)
end
end Go.Proofs.YtbfndcookgijfaaGreatDoor.Sx
