/- Rows sorted by a key: found by halves, changed, added to; and maps beside them. No condition. -/
import Derived.Test.YtbfndcookgijfaaPu
import Derived.Test.YtbfndcookgijfaaExMap
import Derived.Test.YtbfndcookgijfaaExIns
namespace Go.Proofs.Ytbfndcookgijfaa.Sx
open Go Go.RowKit
set_option linter.unusedVariables false
set_option linter.unusedSimpArgs false
set_option linter.unusedSectionVars false
theorem mput_consS {κ ν : Type} [DecidableEq κ] (p : κ × ν) (l : List (κ × ν)) (k : κ) (v : ν) : mput (p :: l) k v = if p.1 = k then (k, v) :: l else p :: mput l k v := by
  unfold mput mfind
  rw [List.findIdx?_cons]
  by_cases h : p.1 = k
  · simp [h]
  · simp only [h, decide_false, if_false]
    cases List.findIdx? (fun p => decide (p.1 = k)) l <;> simp
theorem mget_putS {κ ν : Type} [DecidableEq κ] (l : List (κ × ν)) (k : κ) (v : ν) (n : κ) : mget (mput l k v) n = if n = k then some v else mget l n := by
  induction l with
  | nil =>
    unfold mput mfind mget
    by_cases h : n = k
    · subst h; simp
    · have : ¬ k = n := fun e => h e.symm
      simp [h, this]
  | cons p l ih =>
    rw [mput_consS]
    by_cases hp : p.1 = k
    · rw [if_pos hp]
      unfold mget
      by_cases h : n = k
      · subst h; simp
      · have h1 : ¬ k = n := fun e => h e.symm
        rw [if_neg h, List.find?_cons_of_neg (by simpa using h1), List.find?_cons_of_neg (by rw [hp]; simpa using h1)]
    · rw [if_neg hp]
      by_cases hn : p.1 = n
      · have h1 : ¬ n = k := fun e => hp (hn.trans e)
        rw [if_neg h1]
        unfold mget
        rw [List.find?_cons_of_pos (by simpa using hn), List.find?_cons_of_pos (by simpa using hn)]
      · have e1 : mget (p :: mput l k v) n = mget (mput l k v) n := by unfold mget; rw [List.find?_cons_of_neg (by simpa using hn)]
        have e2 : mget (p :: l) n = mget l n := by unfold mget; rw [List.find?_cons_of_neg (by simpa using hn)]
        rw [e1, e2, ih]
section
variable {α κ : Type} [DecidableEq κ]
/-- A comparison of keys. -/
structure Cmp3 (c : κ → κ → Int) : Prop where
  tr : ∀ x y z, c x y < 0 → c y z < 0 → c x z < 0
  eq : ∀ x y, c x y = 0 ↔ x = y
  tot : ∀ x y, ¬ c x y < 0 → x ≠ y → c y x < 0
def Srt (c : κ → κ → Int) (kf : α → κ) (l : List α) : Prop := l.Pairwise fun a b => c (kf a) (kf b) < 0
theorem Srt.split {c : κ → κ → Int} {kf : α → κ} (ho : Cmp3 c) {l : List α} (hs : Srt c kf l) (k : κ) : ∃ a b, l = a ++ b ∧ (∀ x ∈ a, c (kf x) k < 0) ∧ (∀ x ∈ b, ¬ c (kf x) k < 0) := by
  induction l with
  | nil => exact ⟨[], [], rfl, by simp, by simp⟩
  | cons x l ih =>
    obtain ⟨h1, h2⟩ := List.pairwise_cons.1 hs
    by_cases hx : c (kf x) k < 0
    · obtain ⟨a, b, e, ha, hb⟩ := ih h2
      refine ⟨x :: a, b, by rw [e]; rfl, fun y hy => ?_, hb⟩
      rcases List.mem_cons.1 hy with rfl | hy
      · exact hx
      · exact ha y hy
    · refine ⟨[], x :: l, rfl, by simp, fun y hy => ?_⟩
      rcases List.mem_cons.1 hy with rfl | hy
      · exact hx
      · exact fun h => hx (ho.tr _ _ _ (h1 y hy) h)
end
/-- Rounds that keep something. -/
theorem loop_keeps {σ ρ : Type} {step : σ → Option (σ ⊕ ρ)} (n : Nat) (I : Nat → σ → Prop) (Q : ρ → Prop) (hs : ∀ i s, i < n → I i s → ∃ s', step s = some (.inl s') ∧ I (i + 1) s') (he : ∀ s, I n s → ∃ r, step s = some (.inr r) ∧ Q r) {s : σ} (h0 : I 0 s) : ∃ r, loop step s = some r ∧ Q r := by
  have key : ∀ (d i : Nat) (s : σ), i + d = n → I i s → ∃ r, loop step s = some r ∧ Q r := by
    intro d
    induction d with
    | zero => intro i s hi hI; rw [Nat.add_zero] at hi; subst hi; obtain ⟨r, h1, h2⟩ := he s hI; exact ⟨r, loop_inr h1, h2⟩
    | succ d ih => intro i s hi hI; obtain ⟨s', h1, h2⟩ := hs i s (by omega) hI; rw [loop_inl h1]; exact ih (i + 1) s' (by omega) h2
  exact key n 0 s (by omega) h0
end Go.Proofs.Ytbfndcookgijfaa.Sx
