/- A drawn region whose orders part and meet again: each set of operations that have come up is told once. No condition. -/
import Derived.Test.YtioijglogoppnaaSxFast
namespace Go.Proofs.Ytioijglogoppnaa.Sx
open Go
set_option linter.unusedVariables false
section
variable {P : Program} {n : Nat} {ops : Array Oper} {Q : Exit → Act → World → Prop} {S : World → Prop}
/-- What is left to be shown where these operations have come up. -/
def Rest (P : Program) (ops : Array Oper) (Q : Exit → Act → World → Prop) (S : World → Prop) (f : Nat) (li : Array Bool) (a : Act) (w : World) : Prop := S w → wpAnyH P .any ops Q S f li a w
def Dag (P : Program) (n : Nat) (ops : Array Oper) (Q : Exit → Act → World → Prop) (S : World → Prop) (f : Nat) (li : Array Bool) (l : Slots) (M : World → Prop) : Prop :=
  ∀ a w, Knows n a l → M w → S w → wpAnyH P .any ops Q S f li a w
def stepsOk (ops : Array Oper) : List (Nat × Bool) → Array Bool → Bool
  | [], _ => true
  | (i, q) :: r, li => q && (Region.free .any ops li i && (Region.ready .any ops li).contains i) && stepsOk ops r (li.setIfInBounds i true)
def listedBy : List (Nat × Bool) → Array Bool → Array Bool
  | [], li => li
  | (i, _) :: r, li => listedBy r (li.setIfInBounds i true)
theorem takes (hs : Region.noSelect ops = true) (hQ : ∀ c (d : Option Tmp) v a w, Q (.panic c) (a.put d v) w → Q (.panic c) a w) {f : Nat} :
    ∀ (qs : List (Nat × Bool)) (li : Array Bool) (a : Act) (w : World), stepsOk ops qs li = true → S w → seqOps P ops (Exit.then (Rest P ops Q S f (listedBy qs li)) Q) S qs a w → wpAnyH P .any ops Q S (qs.length + f) li a w := by
  intro qs
  induction qs with
  | nil =>
    intro li a w _ hS h
    have h' : Rest P ops Q S f li a w := h
    rw [List.length_nil, Nat.zero_add]
    exact h' hS
  | cons p r ih =>
    obtain ⟨i, q⟩ := p
    intro li a w ho hS h
    simp only [stepsOk, Bool.and_eq_true] at ho
    obtain ⟨⟨hq, ho1⟩, ho2⟩ := ho
    subst hq
    simp only [seqOps] at h
    cases hi : ops[i]? with
    | none => rw [hi] at h; exact h.elim
    | some o =>
      rw [hi] at h
      simp only [cond_true] at h
      obtain ⟨hS', v, hy, h⟩ := h
      have e : ((i, true) :: r).length + f = (r.length + f) + 1 := by simp only [List.length_cons]; omega
      rw [e]
      exact wpAnyH_take hi hs ho1.1 ho1.2 (fun c a w => hQ c _ _ a w) hy hS' (ih _ _ _ ho2 hS' h)
theorem dag_takes (qs : List (Nat × Bool)) {f : Nat} {li : Array Bool} {l : Slots} {M : World → Prop} (hs : Region.noSelect ops = true) (hQ : ∀ c (d : Option Tmp) v a w, Q (.panic c) (a.put d v) w → Q (.panic c) a w)
    (ho : stepsOk ops qs li = true) (k : Ops P n ops (Exit.then (Rest P ops Q S f (listedBy qs li)) Q) S qs l M) : Dag P n ops Q S (qs.length + f) li l M := fun a w hk hM hS => takes hs hQ qs li a w ho hS (k a w hk hM hS)
/-- Each that may come up now, and what may be taken first behind it. -/
def Ways (P : Program) (n : Nat) (ops : Array Oper) (Q : Exit → Act → World → Prop) (S : World → Prop) (f : Nat) (li : Array Bool) (l : Slots) (M : World → Prop) : List (Nat × List (Nat × Bool) × Nat) → Prop
  | [] => True
  | (i, qs, g) :: r => ((qs.length + g == f) && stepsOk ops qs (li.setIfInBounds i true)) = true ∧ Ops P n ops (Exit.then (Rest P ops Q S g (listedBy qs (li.setIfInBounds i true))) Q) S ((i, false) :: qs) l M ∧ Ways P n ops Q S f li l M r
theorem ways_at {f : Nat} {li : Array Bool} {l : Slots} {M : World → Prop} : ∀ {alts : List (Nat × List (Nat × Bool) × Nat)}, Ways P n ops Q S f li l M alts → ∀ i ∈ alts.map (·.1), ∃ qs g, ((qs.length + g == f) && stepsOk ops qs (li.setIfInBounds i true)) = true ∧ Ops P n ops (Exit.then (Rest P ops Q S g (listedBy qs (li.setIfInBounds i true))) Q) S ((i, false) :: qs) l M
  | [], _, i, h => by simp at h
  | (j, qs, g) :: r, hw, i, h => by
    simp only [List.map_cons, List.mem_cons] at h
    rcases h with rfl | h
    · exact ⟨qs, g, hw.1, hw.2.1⟩
    · exact ways_at hw.2.2 i h
theorem dag_ways (alts : List (Nat × List (Nat × Bool) × Nat)) {f : Nat} {li : Array Bool} {l : Slots} {M : World → Prop} (hs : Region.noSelect ops = true) (hQ : ∀ c (d : Option Tmp) v a w, Q (.panic c) (a.put d v) w → Q (.panic c) a w)
    (hr : Region.ready .any ops li = alts.map (·.1)) (hne : alts.map (·.1) ≠ []) (k : Ways P n ops Q S f li l M alts) : Dag P n ops Q S (f + 1) li l M := by
  intro a w hk hM hS
  refine wpAnyH_all hr hne fun i hi => ?_
  obtain ⟨qs, g, hok, ho⟩ := ways_at k i hi
  simp only [Bool.and_eq_true, beq_iff_eq] at hok
  have h := ho a w hk hM hS
  simp only [seqOps] at h
  cases hx : ops[i]? with
  | none => rw [hx] at h; exact h.elim
  | some o =>
    rw [hx] at h
    simp only [cond_false] at h
    rw [← hok.1]
    exact wpOp_mono (fun a' w' h' => ⟨h'.1, takes hs hQ qs _ a' w' hok.2 h'.1 h'.2⟩) (wpOp_then h)
theorem dag_end {li : Array Bool} {l : Slots} {M : World → Prop} (hr : (Region.ready .any ops li).isEmpty = true) (k : Fin n Q .normal l M) : Dag P n ops Q S 0 li l M := fun a w hk hM _ => ⟨List.isEmpty_iff.1 hr, k a w hk hM⟩
theorem dag_have {f f0 : Nat} {li li0 : Array Bool} {l l0 : Slots} {M M0 : World → Prop} (h1 : Dag P n ops Q S f li l M) (h2 : Dag P n ops Q S f li l M → Dag P n ops Q S f0 li0 l0 M0) : Dag P n ops Q S f0 li0 l0 M0 := h2 h1
theorem to_dag {f : Nat} {li X : Array Bool} {l l' : Slots} {M M' : World → Prop} (H : Dag P n ops Q S f li l' M') (hX : X = li) (hl : ∀ t v, look l' t = some v → look l t = some v) (hN : ∀ w, M w → M' w) : Fin n (Exit.then (Rest P ops Q S f X) Q) .normal l M := by
  subst hX; exact fun a w hk hM hS => H a w (hk.mono hl) (hN w hM) hS
theorem st_region_dag {id : Nat} {l : Slots} {M M' : World → Prop} (S : World → Prop) {f : Nat} {li : Array Bool} (hm : P.follows .mixedOrders = true) (hf : ops.size = f) (hli : Array.replicate ops.size false = li) (hM : ∀ w, M w → M' w.drew ∧ S w.drew) (k : Dag P n ops Q S f li l M') : St P n (.region id ops true) Q l M := by
  subst hf hli
  exact fun a w hk hMw => wp_region_held (S := S) hm (k a _ hk (hM w hMw).1 (hM w hMw).2)
end
end Go.Proofs.Ytioijglogoppnaa.Sx
