/- Plain functions over Option, how a type's values lie in cells, rows and frozen memory of such values. No condition. -/
import Derived.Test.YtbfndcookgijfaaSxFast
namespace Go.Proofs.Ytbfndcookgijfaa.Sx
open Go Go.RowKit
set_option linter.unusedVariables false
/-! ### Plain functions -/
def cnd {α : Type} (b : Bool) (x y : Option α) : Option α := bif b then x else y
theorem obind {α β : Type} {x : Option α} {f : α → Option β} {r : β} (h : x.bind f = some r) : ∃ v, x = some v ∧ f v = some r := Option.bind_eq_some_iff.1 h
def bnd2 {α β γ : Type} (x : Option (α × β)) (f : α → β → Option γ) : Option γ := x.bind fun p => f p.1 p.2
def bnd3 {α β γ δ : Type} (x : Option (α × β × γ)) (f : α → β → γ → Option δ) : Option δ := x.bind fun p => f p.1 p.2.1 p.2.2
def bnd4 {α β γ δ ε : Type} (x : Option (α × β × γ × δ)) (f : α → β → γ → δ → Option ε) : Option ε := x.bind fun p => f p.1 p.2.1 p.2.2.1 p.2.2.2
universe u
theorem obind2 {α β γ : Type} {x : Option (α × β)} {f : α → β → Option γ} {r : γ} (h : bnd2 x f = some r) : ∃ a b, x = some (a, b) ∧ f a b = some r := by
  obtain ⟨⟨a, b⟩, h1, h2⟩ := obind h; exact ⟨a, b, h1, h2⟩
theorem obind3 {α β γ δ : Type} {x : Option (α × β × γ)} {f : α → β → γ → Option δ} {r : δ} (h : bnd3 x f = some r) : ∃ a b c, x = some (a, b, c) ∧ f a b c = some r := by
  obtain ⟨⟨a, b, c⟩, h1, h2⟩ := obind h; exact ⟨a, b, c, h1, h2⟩
theorem obind4 {α β γ δ ε : Type} {x : Option (α × β × γ × δ)} {f : α → β → γ → δ → Option ε} {r : ε} (h : bnd4 x f = some r) : ∃ a b c d, x = some (a, b, c, d) ∧ f a b c d = some r := by
  obtain ⟨⟨a, b, c, d⟩, h1, h2⟩ := obind h; exact ⟨a, b, c, d, h1, h2⟩
/-- An element. -/
def idx {α : Type} (l : List α) (i : Int) : Option α := if 0 ≤ i then l[i.toNat]? else none
theorem idx_some {α : Type} {l : List α} {i : Int} {x : α} (h : idx l i = some x) : ∃ m : Nat, i = (m : Int) ∧ l[m]? = some x := by
  unfold idx at h
  split at h
  · exact ⟨i.toNat, by omega, h⟩
  · cases h
theorem idx_nat {α : Type} (l : List α) (m : Nat) : idx l (m : Int) = l[m]? := by unfold idx; rw [if_pos (by omega), Int.toNat_natCast]
/-- An element's new value. -/
def upd {α : Type} (l : List α) (i : Int) (x : α) : Option (List α) := if 0 ≤ i ∧ i < (l.length : Int) then some (l.set i.toNat x) else none
theorem upd_nat {α : Type} (l : List α) (m : Nat) (x : α) (h : m < l.length) : upd l (m : Int) x = some (l.set m x) := by unfold upd; rw [if_pos (by omega), Int.toNat_natCast]
theorem upd_some {α : Type} {l l' : List α} {i : Int} {x : α} (h : upd l i x = some l') : ∃ m : Nat, i = (m : Int) ∧ m < l.length ∧ l' = l.set m x := by
  unfold upd at h
  split at h
  · exact ⟨i.toNat, by omega, by omega, (Option.some.inj h).symm⟩
  · cases h
/-- A list, behind another; 'w': the bytes of an element. -/
def app {α : Type} (w : Nat) (l l2 : List α) : Option (List α) := if (l.length + l2.length) * w ≤ 140737488355328 then some (l ++ l2) else none
theorem app_some {α : Type} {w : Nat} {l l2 l3 : List α} (h : app w l l2 = some l3) : l3 = l ++ l2 ∧ (l.length + l2.length) * w ≤ 140737488355328 := by
  unfold app at h
  split at h
  · rename_i hb; exact ⟨(Option.some.inj h).symm, hb⟩
  · cases h
/-- A new list of zeros. -/
def mk {α : Type} (w : Nat) (n : Int) (x : α) : Option (List α) := if 0 ≤ n ∧ n.toNat * w ≤ 140737488355328 then some (List.replicate n.toNat x) else none
theorem mk_some {α : Type} {w : Nat} {n : Int} {x : α} {l : List α} (h : mk w n x = some l) : ∃ m : Nat, n = (m : Int) ∧ l = List.replicate m x ∧ m * w ≤ 140737488355328 := by
  unfold mk at h
  split at h
  · rename_i hb; exact ⟨n.toNat, by omega, (Option.some.inj h).symm, hb.2⟩
  · cases h
/-- A part of a list. -/
def cut {α : Type} (l : List α) (a b : Int) : Option (List α) := if 0 ≤ a ∧ a ≤ b ∧ b ≤ (l.length : Int) then some ((l.drop a.toNat).take (b.toNat - a.toNat)) else none
theorem cut_some {α : Type} {l l2 : List α} {a b : Int} (h : cut l a b = some l2) : ∃ m n : Nat, a = (m : Int) ∧ b = (n : Int) ∧ m ≤ n ∧ n ≤ l.length ∧ l2 = (l.drop m).take (n - m) := by
  unfold cut at h
  split at h
  · exact ⟨a.toNat, b.toNat, by omega, by omega, by omega, by omega, (Option.some.inj h).symm⟩
  · cases h
theorem cut_len {α : Type} {l l2 : List α} {m n : Nat} (h : l2 = (l.drop m).take (n - m)) (h1 : m ≤ n) (h2 : n ≤ l.length) : l2.length = n - m := by
  subst h; simp; omega
/-- A byte of a text. -/
def sidx (s : ByteArray) (i : Int) : Option Int := if 0 ≤ i then (s[i.toNat]?).map fun b => (b.toNat : Int) else none
/-! ### Rounds -/
def loopK {σ ρ : Type} (step : σ → Option (σ ⊕ ρ)) : Nat → σ → Option ρ
  | 0, _ => none
  | k + 1, s => (step s).bind fun o => match o with | .inl s' => loopK step k s' | .inr r => some r
theorem loopK_mono {σ ρ : Type} {step : σ → Option (σ ⊕ ρ)} : ∀ {k k' : Nat} {s : σ} {r : ρ}, loopK step k s = some r → k ≤ k' → loopK step k' s = some r := by
  intro k
  induction k with
  | zero => intro k' s r h; cases h
  | succ k ih =>
    intro k' s r h hk
    obtain ⟨k', rfl⟩ : ∃ m, k' = m + 1 := ⟨k' - 1, by omega⟩
    simp only [loopK] at h ⊢
    cases hs : step s with
    | none => rw [hs] at h; cases h
    | some o =>
      rw [hs] at h
      cases o with
      | inl s' => exact ih h (by omega)
      | inr r' => exact h
open Classical in
/-- Rounds until one ends: what it ends with. -/
noncomputable def loop {σ ρ : Type} (step : σ → Option (σ ⊕ ρ)) (s : σ) : Option ρ := if h : ∃ r, ∃ k, loopK step k s = some r then some (Classical.choose h) else none
theorem loop_of {σ ρ : Type} {step : σ → Option (σ ⊕ ρ)} {s : σ} {r : ρ} {k : Nat} (h : loopK step k s = some r) : loop step s = some r := by
  have he : ∃ r, ∃ k, loopK step k s = some r := ⟨r, k, h⟩
  unfold loop
  rw [dif_pos he]
  obtain ⟨k', hk'⟩ := Classical.choose_spec he
  have h1 := loopK_mono h (Nat.le_max_left k k')
  have h2 := loopK_mono hk' (Nat.le_max_right k k')
  rw [h1] at h2; exact h2.symm
theorem loop_some {σ ρ : Type} {step : σ → Option (σ ⊕ ρ)} {s : σ} {r : ρ} (h : loop step s = some r) : ∃ k, loopK step k s = some r := by
  unfold loop at h
  split at h
  · rename_i he
    obtain ⟨k, hk⟩ := Classical.choose_spec he
    exact ⟨k, hk.trans h⟩
  · cases h
theorem loop_step {σ ρ : Type} (step : σ → Option (σ ⊕ ρ)) (s : σ) : loop step s = (step s).bind fun o => match o with | .inl s' => loop step s' | .inr r => some r := by
  cases hs : step s with
  | none =>
    cases h : loop step s with
    | none => rfl
    | some r =>
      obtain ⟨k, hk⟩ := loop_some h
      cases k with
      | zero => cases hk
      | succ k => simp only [loopK, hs] at hk; cases hk
  | some o =>
    cases o with
    | inr r => exact loop_of (k := 1) (by simp [loopK, hs])
    | inl s' =>
      show loop step s = loop step s'
      cases h : loop step s' with
      | some r =>
        obtain ⟨k, hk⟩ := loop_some h
        exact loop_of (k := k + 1) (by simp [loopK, hs, hk])
      | none =>
        cases h2 : loop step s with
        | none => rfl
        | some r =>
          obtain ⟨k, hk⟩ := loop_some h2
          cases k with
          | zero => cases hk
          | succ k =>
            simp only [loopK, hs, Option.bind_some] at hk
            rw [loop_of hk] at h; cases h
/-- Rounds that keep an invariant and come to an end: what they end with. -/
theorem loop_inv {σ ρ : Type} {step : σ → Option (σ ⊕ ρ)} (I : σ → Prop) (μ : σ → Nat) (R : ρ → Prop) (h : ∀ s, I s → ∃ o, step s = some o ∧ match o with | .inl s' => I s' ∧ μ s' < μ s | .inr r => R r) {s : σ} (hI : I s) : ∃ r, loop step s = some r ∧ R r := by
  have key : ∀ m s, μ s = m → I s → ∃ r, loop step s = some r ∧ R r := by
    intro m
    induction m using Nat.strongRecOn with
    | _ m ih =>
      intro s hs hI
      obtain ⟨o, ho, hr⟩ := h s hI
      cases o with
      | inl s' =>
        obtain ⟨r, h1, h2⟩ := ih (μ s') (hs ▸ hr.2) s' rfl hr.1
        exact ⟨r, by rw [loop_step, ho]; exact h1, h2⟩
      | inr r => exact ⟨r, by rw [loop_step, ho]; rfl, hr⟩
  exact key _ s rfl hI
open Classical in
/-! ### How a type's values lie in cells -/
theorem cell_at {w w' : World} {a : Addr} (h : w'.heap[a.block]? = w.heap[a.block]?) : w'.cell? a = w.cell? a := by unfold World.cell?; rw [h]
theorem add_block (a : Addr) (m : Nat) : (a.add m).block = a.block := by unfold Addr.add; split <;> rfl
structure Rep (α : Type) where
  z : Nat
  rd : (Nat → Prop) → World → α → List Value → Prop
  len : ∀ {F w a vs}, rd F w a vs → vs.length = z
  one : ∀ {F w a vs}, rd F w a vs → ∀ u ∈ vs, u.oneCell' = true
  move : ∀ {F F' : Nat → Prop} {w w' : World} {a vs}, rd F w a vs → (∀ b, F b → F' b) → (∀ b, F b → w'.heap[b]? = w.heap[b]?) → rd F' w' a vs
/-- A slice that is read. -/
structure RdS {α : Type} (R : Rep α) (F : Nat → Prop) (w : World) (A : Option Addr) (c : Nat) (l : List α) : Prop where
  cap : l.length ≤ c
  max : c ≤ maxLen
  nil : A = none → c = 0
  at_ : ∀ (j : Nat) (x : α), l[j]? = some x → ∃ ad vs, A = some ad ∧ F ad.block ∧ R.rd F w x vs ∧ ∀ i u, vs[i]? = some u → w.cell? ((ad.add (j * R.z)).add i) = some u
theorem RdS.move {α : Type} {R : Rep α} {F F' : Nat → Prop} {w w' : World} {A : Option Addr} {c : Nat} {l : List α} (h : RdS R F w A c l) (hF : ∀ b, F b → F' b) (hw : ∀ b, F b → w'.heap[b]? = w.heap[b]?) : RdS R F' w' A c l := by
  refine ⟨h.cap, h.max, h.nil, fun j x hj => ?_⟩
  obtain ⟨ad, vs, hA, hb, hr, hc⟩ := h.at_ j x hj
  refine ⟨ad, vs, hA, hF _ hb, R.move hr hF hw, fun i u hi => ?_⟩
  rw [cell_at (w := w) (by rw [add_block, add_block]; exact hw _ hb)]
  exact hc i u hi
def Rep.int (k : IntKind) : Rep Int where
  z := 1
  rd _ _ x vs := vs = [.int k x]
  len h := by subst h; rfl
  one h := by subst h; simp [Value.oneCell']
  move h _ _ := h
def Rep.bool : Rep Bool where
  z := 1
  rd _ _ x vs := vs = [.bool x]
  len h := by subst h; rfl
  one h := by subst h; simp [Value.oneCell']
  move h _ _ := h
def Rep.str : Rep ByteArray where
  z := 1
  rd _ _ x vs := vs = [.string x]
  len h := by subst h; rfl
  one h := by subst h; simp [Value.oneCell']
  move h _ _ := h
def Rep.sl {α : Type} (R : Rep α) : Rep (List α) where
  z := 1
  rd F w l vs := ∃ A c, vs = [.slice A l.length c] ∧ RdS R F w A c l
  len h := by obtain ⟨A, c, rfl, _⟩ := h; rfl
  one h := by obtain ⟨A, c, rfl, _⟩ := h; simp [Value.oneCell']
  move h hF hw := by obtain ⟨A, c, h1, h2⟩ := h; exact ⟨A, c, h1, h2.move hF hw⟩
/-- A row of cells that stands for a list. -/
structure RepL {α : Type} (R : Rep α) (F : Nat → Prop) (w : World) (l : List α) (xs : List Value) : Prop where
  len : xs.length = l.length * R.z
  at_ : ∀ (j : Nat) (x : α), l[j]? = some x → ∃ vs, R.rd F w x vs ∧ ∀ i u, vs[i]? = some u → xs[j * R.z + i]? = some u
section
variable {α : Type} {R : Rep α} {F F' : Nat → Prop} {w w' : World} {l l2 : List α} {xs ys vs : List Value} {x y : α}
theorem RepL.move (h : RepL R F w l xs) (hF : ∀ b, F b → F' b) (hw : ∀ b, F b → w'.heap[b]? = w.heap[b]?) : RepL R F' w' l xs :=
  ⟨h.len, fun j x hj => let ⟨vs, h1, h2⟩ := h.at_ j x hj; ⟨vs, R.move h1 hF hw, h2⟩⟩
theorem RepL.nil : RepL R F w [] [] := ⟨by simp, fun j x hj => by simp at hj⟩
theorem RepL.single (h : R.rd F w x vs) : RepL R F w [x] vs := by
  refine ⟨by simp [R.len h], fun j y hj => ?_⟩
  cases j with
  | zero => simp at hj; subst hj; exact ⟨vs, h, fun i u hi => by simpa using hi⟩
  | succ j => simp at hj
theorem RepL.app (h : RepL R F w l xs) (h2 : RepL R F w l2 ys) : RepL R F w (l ++ l2) (xs ++ ys) := by
  refine ⟨by rw [List.length_append, List.length_append, h.len, h2.len, Nat.add_mul], fun j x hj => ?_⟩
  by_cases hlt : j < l.length
  · rw [List.getElem?_append_left hlt] at hj
    obtain ⟨vs, h1, h3⟩ := h.at_ j x hj
    refine ⟨vs, h1, fun i u hi => ?_⟩
    have := h3 i u hi
    have hl := (List.getElem?_eq_some_iff.1 this).1
    rw [List.getElem?_append_left hl]; exact this
  · rw [List.getElem?_append_right (by omega)] at hj
    obtain ⟨vs, h1, h3⟩ := h2.at_ _ x hj
    refine ⟨vs, h1, fun i u hi => ?_⟩
    have := h3 i u hi
    have hm : l.length * R.z ≤ j * R.z := Nat.mul_le_mul_right _ (by omega)
    rw [List.getElem?_append_right (by rw [h.len]; omega), h.len, show j * R.z + i - l.length * R.z = (j - l.length) * R.z + i by rw [Nat.sub_mul]; omega]
    exact this
theorem RepL.cons (h : R.rd F w x vs) (h2 : RepL R F w l2 ys) : RepL R F w (x :: l2) (vs ++ ys) := (RepL.single h).app h2
theorem RepL.take (h : RepL R F w l xs) (n : Nat) : RepL R F w (l.take n) (xs.take (n * R.z)) := by
  refine ⟨?_, fun j x hj => ?_⟩
  · rw [List.length_take, List.length_take, h.len]
    rcases Nat.le_total n l.length with e | e
    · rw [Nat.min_eq_left e, Nat.min_eq_left (Nat.mul_le_mul_right _ e)]
    · rw [Nat.min_eq_right e, Nat.min_eq_right (Nat.mul_le_mul_right _ e)]
  have hjn : j < n := by
    have := (List.getElem?_eq_some_iff.1 hj).1
    rw [List.length_take] at this; omega
  rw [List.getElem?_take, if_pos hjn] at hj
  obtain ⟨vs, h1, h3⟩ := h.at_ j x hj
  refine ⟨vs, h1, fun i u hi => ?_⟩
  have hi' := (List.getElem?_eq_some_iff.1 hi).1
  rw [R.len h1] at hi'
  have hm : (j + 1) * R.z ≤ n * R.z := Nat.mul_le_mul_right _ hjn
  rw [Nat.add_mul] at hm
  rw [List.getElem?_take, if_pos (by omega)]
  exact h3 i u hi
theorem RepL.drop (h : RepL R F w l xs) (n : Nat) : RepL R F w (l.drop n) (xs.drop (n * R.z)) := by
  refine ⟨by rw [List.length_drop, List.length_drop, h.len, Nat.sub_mul], fun j x hj => ?_⟩
  rw [List.getElem?_drop] at hj
  obtain ⟨vs, h1, h3⟩ := h.at_ _ x hj
  refine ⟨vs, h1, fun i u hi => ?_⟩
  rw [List.getElem?_drop, show n * R.z + (j * R.z + i) = (n + j) * R.z + i by rw [Nat.add_mul]; omega]
  exact h3 i u hi
theorem RepL.replicate (h : R.rd F w x vs) (n : Nat) : RepL R F w (List.replicate n x) (List.replicate n vs).flatten := by
  induction n with
  | zero => exact RepL.nil
  | succ n ih => rw [List.replicate_succ, List.replicate_succ, List.flatten_cons]; exact RepL.cons h ih
theorem setAll_get (ys : List Value) : ∀ (xs : List Value) (off k : Nat), (setAll xs off ys)[k]? = if off ≤ k ∧ k < off + ys.length ∧ k < xs.length then ys[k - off]? else xs[k]? := by
  induction ys with
  | nil => intro xs off k; simp [setAll]; intros; omega
  | cons y ys ih =>
    intro xs off k
    simp only [setAll, ih, List.length_set, List.getElem?_set, List.length_cons]
    by_cases h1 : off + 1 ≤ k ∧ k < off + 1 + ys.length ∧ k < xs.length
    · rw [if_pos h1, if_pos (by omega), show k - off = (k - (off + 1)) + 1 by omega, List.getElem?_cons_succ]
    · rw [if_neg h1]
      by_cases h2 : off = k
      · subst h2
        by_cases h3 : off < xs.length
        · simp [h3]
        · simp [h3]
      · rw [if_neg h2, if_neg (by omega)]
/-- An element's cells are set, from one of them on. -/
theorem RepL.set (h : RepL R F w l xs) {m o : Nat} {us : List Value} (hm : l[m]? = some x) (hv : ∀ vs, R.rd F w x vs → (∀ i u, vs[i]? = some u → xs[m * R.z + i]? = some u) → R.rd F w y (setAll vs o us) ∧ o + us.length ≤ R.z) : RepL R F w (l.set m y) (setAll xs (m * R.z + o) us) := by
  obtain ⟨vs, h1, h2⟩ := h.at_ m x hm
  obtain ⟨hy, ho⟩ := hv vs h1 h2
  have hml := (List.getElem?_eq_some_iff.1 hm).1
  refine ⟨by rw [setAll_length, List.length_set, h.len], fun j z hj => ?_⟩
  rw [List.getElem?_set] at hj
  by_cases e : m = j
  · subst e
    simp only [if_true, hml, Option.some.injEq] at hj
    subst hj
    refine ⟨_, hy, fun i u hi => ?_⟩
    rw [setAll_get] at hi ⊢
    have hvl := R.len h1
    have hm1 : (m + 1) * R.z ≤ l.length * R.z := Nat.mul_le_mul_right _ hml
    rw [Nat.add_mul] at hm1
    by_cases c : o ≤ i ∧ i < o + us.length ∧ i < vs.length
    · rw [if_pos c] at hi
      rw [if_pos (by rw [h.len]; omega), show m * R.z + i - (m * R.z + o) = i - o by omega]; exact hi
    · rw [if_neg c] at hi
      have hil := (List.getElem?_eq_some_iff.1 hi).1
      rw [if_neg (by omega)]; exact h2 i u hi
  · rw [if_neg e] at hj
    obtain ⟨vs', h3, h4⟩ := h.at_ j z hj
    refine ⟨vs', h3, fun i u hi => ?_⟩
    have hil := (List.getElem?_eq_some_iff.1 hi).1
    rw [R.len h3] at hil
    rw [setAll_get, if_neg]
    · exact h4 i u hi
    · intro c
      rcases Nat.lt_or_gt_of_ne e with hlt | hlt
      · have : (m + 1) * R.z ≤ j * R.z := Nat.mul_le_mul_right _ hlt
        rw [Nat.add_mul] at this; omega
      · have : (j + 1) * R.z ≤ m * R.z := Nat.mul_le_mul_right _ hlt
        rw [Nat.add_mul] at this; omega
theorem RepL.one (h : RepL R F w l xs) : ∀ u ∈ xs, u.oneCell' = true := by
  intro u hu
  obtain ⟨k, hk⟩ := List.mem_iff_getElem?.1 hu
  have hkl := (List.getElem?_eq_some_iff.1 hk).1
  rw [h.len] at hkl
  have hz : 0 < R.z := by
    rcases Nat.eq_zero_or_pos R.z with e | e
    · rw [e] at hkl; omega
    · exact e
  have hd : k / R.z < l.length := Nat.div_lt_of_lt_mul (by rw [Nat.mul_comm]; exact hkl)
  obtain ⟨vs, h1, h2⟩ := h.at_ (k / R.z) l[k / R.z] (List.getElem?_eq_getElem hd)
  have hmod := Nat.mod_lt k hz
  have hlv : k % R.z < vs.length := by rw [R.len h1]; exact hmod
  have := h2 (k % R.z) vs[k % R.z] (List.getElem?_eq_getElem hlv)
  rw [Nat.div_add_mod' k R.z, hk] at this
  rw [Option.some.inj this]
  exact R.one h1 _ (List.getElem_mem hlv)
end
/-! ### What arguments are like -/
def okk : IntKind → Int → Prop
  | .i8, a => -128 ≤ a ∧ a < 128
  | .i16, a => -32768 ≤ a ∧ a < 32768
  | .i32, a => -2147483648 ≤ a ∧ a < 2147483648
  | .i64, a => -9223372036854775808 ≤ a ∧ a < 9223372036854775808
  | .u8, a => 0 ≤ a ∧ a < 256
  | .u16, a => 0 ≤ a ∧ a < 65536
  | .u32, a => 0 ≤ a ∧ a < 4294967296
  | .u64, a => 0 ≤ a ∧ a < 18446744073709551616
def okb : Bool → Prop := fun _ => True
def oks (s : ByteArray) : Prop := s.size ≤ 140737488351232
def okl {α : Type} (w : Nat) (ok : α → Prop) (l : List α) : Prop := l.length * w ≤ 140737488351232 ∧ ∀ a ∈ l, ok a
/-- slices.Delete. -/
def del {α : Type} (l : List α) (i j : Int) : Option (List α) := if 0 ≤ i ∧ i ≤ j ∧ j ≤ (l.length : Int) then some (l.take i.toNat ++ l.drop j.toNat) else none
end Go.Proofs.Ytbfndcookgijfaa.Sx
