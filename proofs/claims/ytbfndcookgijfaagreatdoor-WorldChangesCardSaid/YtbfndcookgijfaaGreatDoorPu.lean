/- Plain functions over Option, reckoned. No condition. -/
import Derived.Test.YtbfndcookgijfaaGreatDoorExMem
import Derived.Lib.Strings
namespace Go.Proofs.YtbfndcookgijfaaGreatDoor.Sx
open Go Go.RowKit
set_option linter.unusedVariables false
section
variable {α β γ δ : Type}
theorem cnd_true {x y : Option α} : cnd true x y = x := rfl
theorem cnd_false {x y : Option α} : cnd false x y = y := rfl
theorem cnd_dec {p : Prop} [Decidable p] {x y : Option α} : cnd (decide p) x y = if p then x else y := by unfold cnd; by_cases h : p <;> simp [h]
theorem cnd_beq [BEq β] [LawfulBEq β] [DecidableEq β] {a b : β} {x y : Option α} : cnd (a == b) x y = if a = b then x else y := by
  unfold cnd
  by_cases h : a = b
  · rw [beq_iff_eq.2 h, if_pos h]; rfl
  · rw [beq_eq_false_iff_ne.2 h, if_neg h]; rfl
theorem cnd_not {b : Bool} {x y : Option α} : cnd (!b) x y = cnd b y x := by cases b <;> rfl
theorem cnd_ite {b : Bool} {x y : Option α} : cnd b x y = if b = true then x else y := by cases b <;> rfl
theorem bnd2_some {a : α} {b : β} {f : α → β → Option γ} : bnd2 (some (a, b)) f = f a b := rfl
theorem bnd3_some {a : α} {b : β} {c : γ} {f : α → β → γ → Option δ} : bnd3 (some (a, b, c)) f = f a b c := rfl
theorem bnd4_some {A0 A1 A2 A3 G : Type} {a0 : A0} {a1 : A1} {a2 : A2} {a3 : A3} {f : A0 → A1 → A2 → A3 → Option G} : bnd4 (some (a0, a1, a2, a3)) f = f a0 a1 a2 a3 := rfl
theorem bnd5_some {A0 A1 A2 A3 A4 G : Type} {a0 : A0} {a1 : A1} {a2 : A2} {a3 : A3} {a4 : A4} {f : A0 → A1 → A2 → A3 → A4 → Option G} : bnd5 (some (a0, a1, a2, a3, a4)) f = f a0 a1 a2 a3 a4 := rfl
theorem idx_get {l : List α} {m : Nat} (h : m < l.length) : idx l (m : Int) = some l[m] := by rw [idx_nat, List.getElem?_eq_getElem h]
theorem app_ok {w : Nat} {l l2 : List α} (h : (l.length + l2.length) * w ≤ 140737488355328) : app w l l2 = some (l ++ l2) := if_pos h
theorem upd_ok {l : List α} {m : Nat} {x : α} (h : m < l.length) : upd l (m : Int) x = some (l.set m x) := upd_nat l m x h
theorem mk_ok {w : Nat} {n : Int} {x : α} (h0 : 0 ≤ n) (h : n.toNat * w ≤ 140737488355328) : mk w n x = some (List.replicate n.toNat x) := if_pos ⟨h0, h⟩
theorem cut_ok {l : List α} {a b : Int} (h0 : 0 ≤ a) (h1 : a ≤ b) (h2 : b ≤ (l.length : Int)) : cut l a b = some ((l.drop a.toNat).take (b.toNat - a.toNat)) := if_pos ⟨h0, h1, h2⟩
end
theorem loop_inl {σ ρ : Type} {step : σ → Option (σ ⊕ ρ)} {s s' : σ} (h : step s = some (.inl s')) : loop step s = loop step s' := by rw [loop_step, h]; rfl
theorem loop_inr {σ ρ : Type} {step : σ → Option (σ ⊕ ρ)} {s : σ} {r : ρ} (h : step s = some (.inr r)) : loop step s = some r := by rw [loop_step, h]; rfl
/-- Rounds that come one after the other, up to the one that ends. -/
theorem loop_to {σ ρ : Type} {step : σ → Option (σ ⊕ ρ)} (S : Nat → σ) (n : Nat) {r : ρ} (hstep : ∀ i, i < n → step (S i) = some (.inl (S (i + 1)))) (hend : step (S n) = some (.inr r)) : loop step (S 0) = some r := by
  have key : ∀ d i, i + d = n → loop step (S i) = some r := by
    intro d
    induction d with
    | zero => intro i hi; rw [Nat.add_zero] at hi; rw [hi]; exact loop_inr hend
    | succ d ih => intro i hi; rw [loop_inl (hstep i (by omega))]; exact ih (i + 1) (by omega)
  exact key n 0 (by omega)
/-- Rounds that look for the first place of some kind. -/
theorem loop_find {σ ρ υ : Type} {step : σ → Option (σ ⊕ (ρ ⊕ υ))} (S : Nat → σ) (n : Nat) (g : Nat → Option ρ) (u : υ) (hsome : ∀ i, i < n → ∀ r, g i = some r → step (S i) = some (.inr (.inl r))) (hnone : ∀ i, i < n → g i = none → step (S i) = some (.inl (S (i + 1)))) (he : step (S n) = some (.inr (.inr u))) :
    loop step (S 0) = some (match (List.range n).findSome? g with | some r => .inl r | none => .inr u) := by
  have key : ∀ d i, i + d = n → loop step (S i) = some (match (List.range' i d).findSome? g with | some r => .inl r | none => .inr u) := by
    intro d
    induction d with
    | zero => intro i hi; rw [Nat.add_zero] at hi; rw [hi, loop_inr he]; rfl
    | succ d ih =>
      intro i hi
      rw [List.range'_succ, List.findSome?_cons]
      cases hg : g i with
      | some r => rw [loop_inr (hsome i (by omega) r hg)]
      | none => rw [loop_inl (hnone i (by omega) hg)]; exact ih (i + 1) (by omega)
  have := key n 0 (by omega)
  rwa [← List.range_eq_range'] at this
theorem loop_first {σ ρ υ : Type} {step : σ → Option (σ ⊕ (ρ ⊕ υ))} (S : Nat → σ) (n : Nat) (p : Nat → Prop) (r : Nat → ρ) (u : υ) (hy : ∀ i, i < n → p i → step (S i) = some (.inr (.inl (r i)))) (hn : ∀ i, i < n → ¬ p i → step (S i) = some (.inl (S (i + 1)))) (he : step (S n) = some (.inr (.inr u))) :
    (∃ k, k < n ∧ p k ∧ (∀ j, j < k → ¬ p j) ∧ loop step (S 0) = some (.inl (r k))) ∨ ((∀ i, i < n → ¬ p i) ∧ loop step (S 0) = some (.inr u)) := by
  have key : ∀ d i, i + d = n → (∃ k, i ≤ k ∧ k < n ∧ p k ∧ (∀ j, i ≤ j → j < k → ¬ p j) ∧ loop step (S i) = some (.inl (r k))) ∨ ((∀ j, i ≤ j → j < n → ¬ p j) ∧ loop step (S i) = some (.inr u)) := by
    intro d
    induction d with
    | zero => intro i hi; rw [Nat.add_zero] at hi; rw [hi]; exact .inr ⟨fun j h1 h2 => absurd h2 (by omega), loop_inr he⟩
    | succ d ih =>
      intro i hi
      by_cases hp : p i
      · exact .inl ⟨i, Nat.le_refl _, by omega, hp, fun j h1 h2 => absurd h2 (by omega), loop_inr (hy i (by omega) hp)⟩
      · rw [loop_inl (hn i (by omega) hp)]
        rcases ih (i + 1) (by omega) with ⟨k, h1, h2, h3, h4, h5⟩ | ⟨h1, h2⟩
        · exact .inl ⟨k, by omega, h2, h3, fun j a b => if e : i = j then e ▸ hp else h4 j (by omega) b, h5⟩
        · exact .inr ⟨fun j a b => if e : i = j then e ▸ hp else h1 j (by omega) b, h2⟩
  rcases key n 0 (by omega) with ⟨k, _, h2, h3, h4, h5⟩ | ⟨h1, h2⟩
  · exact .inl ⟨k, h2, h3, fun j hj => h4 j (Nat.zero_le _) hj, h5⟩
  · exact .inr ⟨fun i hi => h1 i (Nat.zero_le _) hi, h2⟩
/-- Rounds that compare two lists. -/
theorem loop_same {α υ : Type} {σ : Type} {step : σ → Option (σ ⊕ (Bool ⊕ υ))} (S : Nat → σ) (a b : List α) (hl : a.length = b.length) (u : υ) (hy : ∀ i (h : i < a.length), a[i] = b[i]'(hl ▸ h) → step (S i) = some (.inl (S (i + 1)))) (hn : ∀ i (h : i < a.length), ¬ a[i] = b[i]'(hl ▸ h) → step (S i) = some (.inr (.inl false))) (he : step (S a.length) = some (.inr (.inr u))) :
    (a = b ∧ loop step (S 0) = some (.inr u)) ∨ (a ≠ b ∧ loop step (S 0) = some (.inl false)) := by
  rcases loop_first S a.length (fun i => ¬ a[i]? = b[i]?) (fun _ => false) u (fun i h hp => hn i h fun e => hp (by rw [List.getElem?_eq_getElem h, List.getElem?_eq_getElem (hl ▸ h), e])) (fun i h hp => hy i h (by
      have := Classical.not_not.1 hp
      rw [List.getElem?_eq_getElem h, List.getElem?_eq_getElem (hl ▸ h)] at this
      exact Option.some.inj this)) he with ⟨k, h1, h2, _, h4⟩ | ⟨h1, h2⟩
  · exact .inr ⟨fun e => h2 (by rw [e]), h4⟩
  · refine .inl ⟨List.ext_getElem? fun i => ?_, h2⟩
    by_cases h : i < a.length
    · exact Classical.not_not.1 (h1 i h)
    · rw [List.getElem?_eq_none (by omega), List.getElem?_eq_none (by omega)]
theorem cnd_pos {α : Type} {b : Bool} {x y : Option α} (h : b = true) : cnd b x y = x := by subst h; rfl
theorem cnd_neg {α : Type} {b : Bool} {x y : Option α} (h : b = false) : cnd b x y = y := by subst h; rfl
theorem sidx_ok {s : ByteArray} {m : Nat} (h : m < s.data.toList.length) : sidx s (m : Int) = some ((s.data.toList[m]).toNat : Int) := by
  have hs : m < s.size := by rw [Go.Lib.size_eq]; exact h
  unfold sidx
  rw [if_pos (by omega), Int.toNat_natCast]
  have : s[m]? = some s[m] := by simp [hs]
  rw [this]
  simp [ByteArray.getElem_eq_getElem_data]
theorem size_len (s : ByteArray) : s.size = s.data.toList.length := Go.Lib.size_eq s
theorem bytes_eq (s t : ByteArray) : (s.toList == t.toList) = decide (s = t) := by
  rw [Go.Lib.toList_data, Go.Lib.toList_data]
  by_cases h : s = t
  · subst h; simp
  · have h1 : ¬ s.data.toList = t.data.toList := fun e => h (by cases s; cases t; simp at e; rw [e])
    rw [decide_eq_false h]; exact beq_eq_false_iff_ne.2 h1
theorem i64ok {x : Int} (h0 : -9223372036854775808 ≤ x) (h1 : x < 9223372036854775808) : IntKind.i64.wrap x = x := by rw [IntKind.wrap_i64]; omega
theorem shl_ok {k : IntKind} {a b : Int} (h : 0 ≤ b) : shl k a b = some (k.wrap (a * 2 ^ min b.toNat k.bits)) := if_neg (by omega)
theorem fdiv_lit {a : Int} (d : Int) (hd : 0 ≤ d) : Int.fdiv a d = a / d := Int.fdiv_eq_ediv_of_nonneg a hd
/-! ### Loops over a list, as recursion over it -/
theorem loop_at {α σ υ : Type} {step : σ → Option (σ ⊕ (Int ⊕ υ))} (l : List α) (S : Nat → σ) (p : α → Bool) (u : υ) (hs : ∀ i (h : i < l.length), step (S i) = some (if p l[i] = true then .inr (.inl (i : Int)) else .inl (S (i + 1)))) (he : step (S l.length) = some (.inr (.inr u))) :
    loop step (S 0) = some (match l.findIdx? p with | some k => .inl (k : Int) | none => .inr u) := by
  have key : ∀ (d i : Nat), i + d = l.length → loop step (S i) = some (match (l.drop i).findIdx? p with | some k => .inl ((i + k : Nat) : Int) | none => .inr u) := by
    intro d
    induction d with
    | zero => intro i hi; rw [Nat.add_zero] at hi; subst hi; rw [List.drop_length, loop_inr he]; rfl
    | succ d ih =>
      intro i hi
      have hl : i < l.length := by omega
      rw [List.drop_eq_getElem_cons hl, List.findIdx?_cons]
      by_cases hp : p l[i] = true
      · rw [loop_inr (by rw [hs i hl, if_pos hp]), if_pos hp]; rfl
      · rw [loop_inl (by rw [hs i hl, if_neg hp]), ih (i + 1) (by omega), if_neg hp]
        cases (l.drop (i + 1)).findIdx? p with
        | none => rfl
        | some k => simp; omega
  have := key l.length 0 (by omega)
  rw [List.drop_zero] at this
  rw [this]
  cases l.findIdx? p <;> simp
end Go.Proofs.YtbfndcookgijfaaGreatDoor.Sx
