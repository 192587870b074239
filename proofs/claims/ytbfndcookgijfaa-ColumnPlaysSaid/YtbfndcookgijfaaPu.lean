/- Plain functions over Option, reckoned. No condition. -/
import Derived.Test.YtbfndcookgijfaaExMem
import Derived.Lib.Strings
namespace Go.Proofs.Ytbfndcookgijfaa.Sx
open Go Go.RowKit
set_option linter.unusedVariables false
section
variable {α β γ δ : Type}
theorem cnd_true {x y : Option α} : cnd true x y = x := rfl
theorem cnd_false {x y : Option α} : cnd false x y = y := rfl
theorem cnd_dec {p : Prop} [Decidable p] {x y : Option α} : cnd (decide p) x y = if p then x else y := by unfold cnd; by_cases h : p <;> simp [h]
theorem cnd_beq [BEq β] [LawfulBEq β] [DecidableEq β] {a b : β} {x y : Option α} : cnd (a == b) x y = if a = b then x else y := by
  unfold cnd
  by_cases h : a = b
  · rw [beq_iff_eq.2 h, if_pos h]; rfl
  · rw [beq_eq_false_iff_ne.2 h, if_neg h]; rfl
theorem cnd_not {b : Bool} {x y : Option α} : cnd (!b) x y = cnd b y x := by cases b <;> rfl
theorem cnd_ite {b : Bool} {x y : Option α} : cnd b x y = if b = true then x else y := by cases b <;> rfl
theorem bnd2_some {a : α} {b : β} {f : α → β → Option γ} : bnd2 (some (a, b)) f = f a b := rfl
theorem bnd3_some {a : α} {b : β} {c : γ} {f : α → β → γ → Option δ} : bnd3 (some (a, b, c)) f = f a b c := rfl
theorem bnd4_some {A0 A1 A2 A3 G : Type} {a0 : A0} {a1 : A1} {a2 : A2} {a3 : A3} {f : A0 → A1 → A2 → A3 → Option G} : bnd4 (some (a0, a1, a2, a3)) f = f a0 a1 a2 a3 := rfl
theorem idx_get {l : List α} {m : Nat} (h : m < l.length) : idx l (m : Int) = some l[m] := by rw [idx_nat, List.getElem?_eq_getElem h]
theorem app_ok {w : Nat} {l l2 : List α} (h : (l.length + l2.length) * w ≤ 140737488355328) : app w l l2 = some (l ++ l2) := if_pos h
theorem upd_ok {l : List α} {m : Nat} {x : α} (h : m < l.length) : upd l (m : Int) x = some (l.set m x) := upd_nat l m x h
theorem mk_ok {w : Nat} {n : Int} {x : α} (h0 : 0 ≤ n) (h : n.toNat * w ≤ 140737488355328) : mk w n x = some (List.replicate n.toNat x) := if_pos ⟨h0, h⟩
theorem cut_ok {l : List α} {a b : Int} (h0 : 0 ≤ a) (h1 : a ≤ b) (h2 : b ≤ (l.length : Int)) : cut l a b = some ((l.drop a.toNat).take (b.toNat - a.toNat)) := if_pos ⟨h0, h1, h2⟩
end
theorem loop_inl {σ ρ : Type} {step : σ → Option (σ ⊕ ρ)} {s s' : σ} (h : step s = some (.inl s')) : loop step s = loop step s' := by rw [loop_step, h]; rfl
theorem loop_inr {σ ρ : Type} {step : σ → Option (σ ⊕ ρ)} {s : σ} {r : ρ} (h : step s = some (.inr r)) : loop step s = some r := by rw [loop_step, h]; rfl
/-- Rounds that come one after the other, up to the one that ends. -/
theorem loop_to {σ ρ : Type} {step : σ → Option (σ ⊕ ρ)} (S : Nat → σ) (n : Nat) {r : ρ} (hstep : ∀ i, i < n → step (S i) = some (.inl (S (i + 1)))) (hend : step (S n) = some (.inr r)) : loop step (S 0) = some r := by
  have key : ∀ d i, i + d = n → loop step (S i) = some r := by
    intro d
    induction d with
    | zero => intro i hi; rw [Nat.add_zero] at hi; rw [hi]; exact loop_inr hend
    | succ d ih => intro i hi; rw [loop_inl (hstep i (by omega))]; exact ih (i + 1) (by omega)
  exact key n 0 (by omega)
theorem loop_first {σ ρ υ : Type} {step : σ → Option (σ ⊕ (ρ ⊕ υ))} (S : Nat → σ) (n : Nat) (p : Nat → Prop) (r : Nat → ρ) (u : υ) (hy : ∀ i, i < n → p i → step (S i) = some (.inr (.inl (r i)))) (hn : ∀ i, i < n → ¬ p i → step (S i) = some (.inl (S (i + 1)))) (he : step (S n) = some (.inr (.inr u))) :
    (∃ k, k < n ∧ p k ∧ (∀ j, j < k → ¬ p j) ∧ loop step (S 0) = some (.inl (r k))) ∨ ((∀ i, i < n → ¬ p i) ∧ loop step (S 0) = some (.inr u)) := by
  have key : ∀ d i, i + d = n → (∃ k, i ≤ k ∧ k < n ∧ p k ∧ (∀ j, i ≤ j → j < k → ¬ p j) ∧ loop step (S i) = some (.inl (r k))) ∨ ((∀ j, i ≤ j → j < n → ¬ p j) ∧ loop step (S i) = some (.inr u)) := by
    intro d
    induction d with
    | zero => intro i hi; rw [Nat.add_zero] at hi; rw [hi]; exact .inr ⟨fun j h1 h2 => absurd h2 (by omega), loop_inr he⟩
    | succ d ih =>
      intro i hi
      by_cases hp : p i
      · exact .inl ⟨i, Nat.le_refl _, by omega, hp, fun j h1 h2 => absurd h2 (by omega), loop_inr (hy i (by omega) hp)⟩
      · rw [loop_inl (hn i (by omega) hp)]
        rcases ih (i + 1) (by omega) with ⟨k, h1, h2, h3, h4, h5⟩ | ⟨h1, h2⟩
        · exact .inl ⟨k, by omega, h2, h3, fun j a b => if e : i = j then e ▸ hp else h4 j (by omega) b, h5⟩
        · exact .inr ⟨fun j a b => if e : i = j then e ▸ hp else h1 j (by omega) b, h2⟩
  rcases key n 0 (by omega) with ⟨k, _, h2, h3, h4, h5⟩ | ⟨h1, h2⟩
  · exact .inl ⟨k, h2, h3, fun j hj => h4 j (Nat.zero_le _) hj, h5⟩
  · exact .inr ⟨fun i hi => h1 i (Nat.zero_le _) hi, h2⟩
theorem cnd_pos {α : Type} {b : Bool} {x y : Option α} (h : b = true) : cnd b x y = x := by subst h; rfl
theorem sidx_ok {s : ByteArray} {m : Nat} (h : m < s.data.toList.length) : sidx s (m : Int) = some ((s.data.toList[m]).toNat : Int) := by
  have hs : m < s.size := by rw [Go.Lib.size_eq]; exact h
  unfold sidx
  rw [if_pos (by omega), Int.toNat_natCast]
  have : s[m]? = some s[m] := by simp [hs]
  rw [this]
  simp [ByteArray.getElem_eq_getElem_data]
theorem size_len (s : ByteArray) : s.size = s.data.toList.length := Go.Lib.size_eq s
theorem i64ok {x : Int} (h0 : -9223372036854775808 ≤ x) (h1 : x < 9223372036854775808) : IntKind.i64.wrap x = x := by rw [IntKind.wrap_i64]; omega
/-! ### Loops over a list, as recursion over it -/
end Go.Proofs.Ytbfndcookgijfaa.Sx
