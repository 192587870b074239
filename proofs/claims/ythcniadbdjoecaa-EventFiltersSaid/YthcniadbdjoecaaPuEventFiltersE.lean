/- EventFilters, in plain Lean: of, split, counted, last by system and entity. No condition. -/
import Derived.Test.YthcniadbdjoecaaPuSorted
import Derived.Test.YthcniadbdjoecaaFnE
namespace Go.Proofs.Ythcniadbdjoecaa.E
open Go Go.RowKit Go.Proofs.Ythcniadbdjoecaa.Sx
set_option linter.unusedVariables false
set_option linter.unusedSimpArgs false
def cmpI (x y : Int) : Int := if x < y then -1 else if y < x then 1 else 0
theorem compare_eq (x y : Int) : cmp_Compare_int x y = some (cmpI x y) := by
  unfold cmp_Compare_int cmp_isNaN_int cmpI
  simp only [Option.bind_some, cnd_dec]
  split
  · rfl
  · split <;> rfl
theorem cmpI_ord : Cmp3 cmpI where
  tr x y z h1 h2 := by unfold cmpI at *; split at h1 <;> split at h2 <;> (try split at h1) <;> (try split at h2) <;> split <;> omega
  eq x y := by unfold cmpI; split <;> (try split) <;> omega
  tot x y h1 h2 := by unfold cmpI at *; split at h1 <;> (try split at h1) <;> split <;> omega
theorem cmpI_lt (x y : Int) : cmpI x y < 0 ↔ x < y := by unfold cmpI; split <;> (try split) <;> omega
def key3 (e : api_Event) : Int × Int × Int := (e.System, e.Ent.N, e.Ent.Gen)
def or3 (x y z : Int) : Int := if x = 0 then if y = 0 then z else y else x
def cmp3 (x y : Int × Int × Int) : Int := or3 (cmpI x.1 y.1) (cmpI x.2.1 y.2.1) (cmpI x.2.2 y.2.2)
theorem cmp3_lt (x y : Int × Int × Int) : cmp3 x y < 0 ↔ x.1 < y.1 ∨ x.1 = y.1 ∧ (x.2.1 < y.2.1 ∨ x.2.1 = y.2.1 ∧ x.2.2 < y.2.2) := by
  unfold cmp3 or3
  have e1 := cmpI_ord.eq x.1 y.1
  have e2 := cmpI_ord.eq x.2.1 y.2.1
  have l1 := cmpI_lt x.1 y.1
  have l2 := cmpI_lt x.2.1 y.2.1
  have l3 := cmpI_lt x.2.2 y.2.2
  split
  · split <;> omega
  · omega
theorem cmp3_ord : Cmp3 cmp3 where
  tr x y z h1 h2 := by rw [cmp3_lt] at *; omega
  eq x y := by
    obtain ⟨a, b, c⟩ := x; obtain ⟨d, e, f⟩ := y
    simp only [Prod.mk.injEq]
    unfold cmp3 or3
    have e1 := cmpI_ord.eq a d
    have e2 := cmpI_ord.eq b e
    have e3 := cmpI_ord.eq c f
    simp only
    split
    · split <;> omega
    · omega
  tot x y h1 h2 := by
    obtain ⟨a, b, c⟩ := x; obtain ⟨d, e, f⟩ := y
    rw [cmp3_lt] at *
    simp only [ne_eq, Prod.mk.injEq] at *
    omega
theorem or_eq (x y z : Int) : cmp_Or_int [x, y, z] = some (or3 x y z) := by
  unfold cmp_Or_int or3
  have s0 : cmp_Or_int_l2 [x, y, z] 0 = if x = 0 then some (.inl 1) else some (.inr (.inl x)) := by
    unfold cmp_Or_int_l2; simp [cnd_dec, cnd_not, cnd_beq, cnd_true, cnd_false, idx, show IntKind.i64.wrap 1 = 1 from rfl]
  have s1 : cmp_Or_int_l2 [x, y, z] 1 = if y = 0 then some (.inl 2) else some (.inr (.inl y)) := by
    unfold cmp_Or_int_l2; simp [cnd_dec, cnd_not, cnd_beq, cnd_true, cnd_false, idx, show IntKind.i64.wrap 2 = 2 from rfl]
  have s2 : cmp_Or_int_l2 [x, y, z] 2 = if z = 0 then some (.inl 3) else some (.inr (.inl z)) := by
    unfold cmp_Or_int_l2; simp [cnd_dec, cnd_not, cnd_beq, cnd_true, cnd_false, idx, show IntKind.i64.wrap 3 = 3 from rfl]
  have s3 : cmp_Or_int_l2 [x, y, z] 3 = some (.inr (.inr ())) := by
    unfold cmp_Or_int_l2; simp [cnd_dec, cnd_false]
  by_cases h0 : x = 0
  · rw [if_pos h0] at s0 ⊢
    rw [loop_inl s0]
    by_cases h1 : y = 0
    · rw [if_pos h1] at s1 ⊢
      rw [loop_inl s1]
      by_cases h2 : z = 0
      · rw [if_pos h2] at s2
        rw [loop_inl s2, loop_inr s3, h2]; rfl
      · rw [if_neg h2] at s2
        rw [loop_inr s2]; rfl
    · rw [if_neg h1] at s1 ⊢
      rw [loop_inr s1]; rfl
  · rw [if_neg h0] at s0 ⊢
    rw [loop_inr s0]; rfl
theorem order_eq (x e : api_Event) : event_order x.System x.Ent.N x.Ent.Gen x.Value e.System e.Ent.N e.Ent.Gen e.Value = some (cmp3 (key3 x) (key3 e)) := by
  unfold event_order
  simp only [compare_eq, Option.bind_some, or_eq]
  rfl
theorem ahead_eq (x e : api_Event) : tourlaw3_ahead x.System x.Ent.N x.Ent.Gen x.Value e.System e.Ent.N e.Ent.Gen e.Value = some (decide (cmp3 (key3 x) (key3 e) < 0)) := by
  unfold tourlaw3_ahead
  have key : ∀ a b c d e f : Int, slices_Compare_int_int [a, b, c] [d, e, f] = some (or3 (cmpI a d) (cmpI b e) (cmpI c f)) := by
    intro a b c d e f
    unfold slices_Compare_int_int or3
    have s0 : slices_Compare_int_int_l2 [a, b, c] [d, e, f] 0 = if cmpI a d = 0 then some (.inl 1) else some (.inr (.inl (cmpI a d))) := by
      unfold slices_Compare_int_int_l2; simp [cnd_dec, cnd_not, cnd_beq, cnd_true, cnd_false, idx, compare_eq, show IntKind.i64.wrap 1 = 1 from rfl]
    have s1 : slices_Compare_int_int_l2 [a, b, c] [d, e, f] 1 = if cmpI b e = 0 then some (.inl 2) else some (.inr (.inl (cmpI b e))) := by
      unfold slices_Compare_int_int_l2; simp [cnd_dec, cnd_not, cnd_beq, cnd_true, cnd_false, idx, compare_eq, show IntKind.i64.wrap 2 = 2 from rfl]
    have s2 : slices_Compare_int_int_l2 [a, b, c] [d, e, f] 2 = if cmpI c f = 0 then some (.inl 3) else some (.inr (.inl (cmpI c f))) := by
      unfold slices_Compare_int_int_l2; simp [cnd_dec, cnd_not, cnd_beq, cnd_true, cnd_false, idx, compare_eq, show IntKind.i64.wrap 3 = 3 from rfl]
    have s3 : slices_Compare_int_int_l2 [a, b, c] [d, e, f] 3 = some (.inr (.inr ())) := by
      unfold slices_Compare_int_int_l2; simp [cnd_dec, cnd_false]
    have hj : slices_Compare_int_int_j1 [a, b, c] [d, e, f] = some 0 := by unfold slices_Compare_int_int_j1; simp [cnd_dec, cnd_false]
    by_cases h0 : cmpI a d = 0
    · rw [if_pos h0] at s0 ⊢
      rw [loop_inl s0]
      by_cases h1 : cmpI b e = 0
      · rw [if_pos h1] at s1 ⊢
        rw [loop_inl s1]
        by_cases h2 : cmpI c f = 0
        · rw [if_pos h2] at s2
          rw [loop_inl s2, loop_inr s3, h2]; exact hj
        · rw [if_neg h2] at s2
          rw [loop_inr s2]; rfl
      · rw [if_neg h1] at s1 ⊢
        rw [loop_inr s1]; rfl
    · rw [if_neg h0] at s0 ⊢
      rw [loop_inr s0]; rfl
  rw [key]
  rfl
/-- Rounds that keep something. -/
theorem loop_keeps {σ ρ : Type} {step : σ → Option (σ ⊕ ρ)} (n : Nat) (I : Nat → σ → Prop) (Q : ρ → Prop) (hs : ∀ i s, i < n → I i s → ∃ s', step s = some (.inl s') ∧ I (i + 1) s') (he : ∀ s, I n s → ∃ r, step s = some (.inr r) ∧ Q r) {s : σ} (h0 : I 0 s) : ∃ r, loop step s = some r ∧ Q r := by
  have key : ∀ (d i : Nat) (s : σ), i + d = n → I i s → ∃ r, loop step s = some r ∧ Q r := by
    intro d
    induction d with
    | zero => intro i s hi hI; rw [Nat.add_zero] at hi; subst hi; obtain ⟨r, h1, h2⟩ := he s hI; exact ⟨r, loop_inr h1, h2⟩
    | succ d ih => intro i s hi hI; obtain ⟨s', h1, h2⟩ := hs i s (by omega) hI; rw [loop_inl h1]; exact ih (i + 1) s' (by omega) h2
  exact key n 0 s (by omega) h0
theorem foldl_take {α β : Type} (f : β → α → β) (b : β) (l : List α) {i : Nat} (h : i < l.length) : (l.take (i + 1)).foldl f b = f ((l.take i).foldl f b) l[i] := by
  rw [List.take_succ_eq_append_getElem h, List.foldl_append]; rfl
/-! ### The last ones -/
def kE (e : api_Event) : api_Event := ⟨e.System, e.Ent, 0⟩
def putE (m : List (api_Event × api_Event)) (e : api_Event) : List (api_Event × api_Event) := mput m (kE e) e
theorem kE_key (a b : api_Event) : kE a = kE b ↔ key3 a = key3 b := by
  obtain ⟨a1, ⟨a2, a3⟩, a4⟩ := a; obtain ⟨b1, ⟨b2, b3⟩, b4⟩ := b
  simp [kE, key3]
structure JL (out : List api_Event) (m : List (api_Event × api_Event)) : Prop where
  srt : Srt cmp3 key3 out
  len : m.length = out.length
  get : ∀ e, mget m (kE e) = getK key3 out (key3 e)
theorem search_event {a b : List api_Event} {e : api_Event} (hn : (a ++ b).length ≤ 4611686018427387904) (ha : ∀ x ∈ a, cmp3 (key3 x) (key3 e) < 0) (hb : ∀ x ∈ b, ¬ cmp3 (key3 x) (key3 e) < 0) :
    slices_BinarySearchFunc_api_Event_api_Event_api_Event (a ++ b) e.System e.Ent.N e.Ent.Gen e.Value = some ((a.length : Int), match b with | [] => false | y :: _ => decide (key3 y = key3 e)) := by
  unfold slices_BinarySearchFunc_api_Event_api_Event_api_Event
  have h := loop_search (p := fun x => decide (cmp3 (key3 x) (key3 e) < 0)) (pe := fun x => event_order x.System x.Ent.N x.Ent.Gen x.Value e.System e.Ent.N e.Ent.Gen e.Value) hn (fun x hx => decide_eq_true (ha x hx)) (fun x hx => decide_eq_false (hb x hx))
    (step := fun s_ => slices_BinarySearchFunc_api_Event_api_Event_api_Event_l3 (a ++ b) e.System e.Ent.N e.Ent.Gen e.Value s_.1 s_.2) (fun x _ => ⟨_, order_eq x e, rfl⟩) (fun _ _ => rfl)
  rw [h, Option.bind_some]
  unfold slices_BinarySearchFunc_api_Event_api_Event_api_Event_j1 slices_BinarySearchFunc_api_Event_api_Event_api_Event_j2
  cases b with
  | nil => rw [cnd_dec, if_neg (by simp)]
  | cons y b =>
    rw [cnd_dec, if_pos (by simp; omega), idx_get (by simp), Option.bind_some]
    have : (a ++ y :: b)[a.length]'(by simp) = y := by simp
    rw [this, order_eq, Option.bind_some]
    congr 2
    rw [Bool.eq_iff_iff, beq_iff_eq, decide_eq_true_iff]
    exact cmp3_ord.eq _ _
theorem last_step {l out : List api_Event} {m : List (api_Event × api_Event)} {i : Nat} (hl : l.length * 32 ≤ 140737488351232) (hi : i < l.length) (ho : out.length ≤ i) (hJ : JL out m) :
    ∃ out', event_Last_l2 l out (i : Int) = some (.inl (out', ((i + 1 : Nat) : Int))) ∧ out'.length ≤ i + 1 ∧ JL out' (putE m l[i]) := by
  unfold event_Last_l2
  rw [cnd_dec, if_pos (by omega), idx_get hi, Option.bind_some]
  generalize l[i] = e
  obtain ⟨a, b, rfl, ha, hb⟩ := hJ.srt.split cmp3_ord (key3 e)
  rw [search_event (by omega) ha hb, bnd2_some]
  have hg : ∀ out' : List api_Event, (∀ k, getK key3 out' k = if k = key3 e then some e else getK key3 (a ++ b) k) → ∀ x, mget (putE m e) (kE x) = getK key3 out' (key3 x) := fun out' h x => by
    unfold putE
    rw [mget_putS, h, hJ.get]
    by_cases hx : key3 x = key3 e
    · rw [if_pos hx, if_pos ((kE_key x e).2 hx)]
    · rw [if_neg hx, if_neg fun z => hx ((kE_key x e).1 z)]
  unfold event_Last_j3
  have new : (∀ y, b.head? = some y → key3 y ≠ key3 e) → ∃ out', (((slices_Insert_api_Event_api_Event (a ++ b) (a.length : Int) [⟨e.System, ⟨e.Ent.N, e.Ent.Gen⟩, e.Value⟩]).bind fun x57 => some (Sum.inl (x57, IntKind.i64.wrap ((i : Int) + 1)))) : Option ((List api_Event × Int) ⊕ List api_Event)) = some (.inl (out', ((i + 1 : Nat) : Int))) ∧ out'.length ≤ i + 1 ∧ JL out' (putE m e) := by
    intro hn
    obtain ⟨h1, h2, h3⟩ := put_new cmp3_ord hJ.srt ha hb hn
    unfold slices_Insert_api_Event_api_Event
    rw [ins_at (by simp) (by rw [List.length_append] at *; simp; omega), Option.bind_some, i64ok (by omega) (by omega)]
    refine ⟨a ++ [e] ++ b, rfl, by simp only [List.length_append, List.length_cons, List.length_nil] at *; omega, ?_⟩
    rw [List.append_assoc, List.singleton_append]
    exact ⟨h1, by unfold putE; rw [mput_len, hJ.get, h3, hJ.len]; simp only [List.length_append, List.length_cons, Option.isSome_none, Bool.false_eq_true, if_false]; omega, hg _ h2⟩
  cases b with
  | nil => exact new (by simp)
  | cons y b =>
    simp only
    by_cases hy : key3 y = key3 e
    · rw [decide_eq_true hy, cnd_true, idx_get (by simp), Option.bind_some, upd_ok (by simp), Option.bind_some, i64ok (by omega) (by omega)]
      obtain ⟨h1, h2⟩ := put_same cmp3_ord hJ.srt hy
      refine ⟨_, rfl, by simp only [List.length_set]; omega, ?_⟩
      have : (a ++ y :: b).set a.length ⟨e.System, ⟨e.Ent.N, e.Ent.Gen⟩, e.Value⟩ = a ++ e :: b := by simp
      rw [this]
      refine ⟨h1, ?_, hg _ h2⟩
      unfold putE
      have hs : (getK key3 (a ++ y :: b) (key3 e)) = some y := by rw [← hy]; exact getK_mem cmp3_ord hJ.srt (by simp)
      rw [mput_len, hJ.get, hs, hJ.len]; simp
    · rw [decide_eq_false hy, cnd_false]
      exact new (by intro z hz; simp at hz; exact hz ▸ hy)
theorem last_eq {l : List api_Event} (hl : l.length * 32 ≤ 140737488351232) : ∃ out, event_Last l = some out ∧ JL out (l.foldl putE []) := by
  unfold event_Last
  obtain ⟨r, h1, h2⟩ := loop_keeps (step := fun s_ : List api_Event × Int => event_Last_l2 l s_.1 s_.2) l.length (fun i s => s.2 = (i : Int) ∧ s.1.length ≤ i ∧ JL s.1 ((l.take i).foldl putE [])) (fun r => JL r (l.foldl putE []))
    (fun i s hi ⟨e1, e2, e3⟩ => by
      obtain ⟨o, j⟩ := s
      simp only at e1 e2 e3; subst e1
      obtain ⟨o', h1, h2, h3⟩ := last_step hl hi e2 e3
      exact ⟨_, h1, rfl, h2, by rw [foldl_take _ _ _ hi]; exact h3⟩)
    (fun s ⟨e1, e2, e3⟩ => by
      obtain ⟨o, j⟩ := s
      simp only at e1 e2 e3; subst e1
      refine ⟨o, ?_, by rwa [List.take_length] at e3⟩
      simp only
      unfold event_Last_l2
      rw [cnd_dec, if_neg (by omega)]) (s := ([], 0)) ⟨rfl, Nat.le_refl _, ⟨List.Pairwise.nil, rfl, fun _ => rfl⟩⟩
  exact ⟨r, by rw [h1]; rfl, h2⟩
/-! ### Counts -/
def putC (m : List (Int × Int)) (e : api_Event) : List (Int × Int) := mput m e.System (IntKind.i64.wrap ((mget m e.System).getD 0 + 1))
structure JC (out : List event_Count) (m : List (Int × Int)) : Prop where
  srt : Srt cmpI event_Count.System out
  len : m.length = out.length
  get : ∀ k, mget m k = (getK event_Count.System out k).map event_Count.N
theorem search_count {a b : List event_Count} {s : Int} (hn : (a ++ b).length ≤ 4611686018427387904) (ha : ∀ x ∈ a, cmpI x.System s < 0) (hb : ∀ x ∈ b, ¬ cmpI x.System s < 0) :
    slices_BinarySearchFunc_event_Count_event_Count_int (a ++ b) s = some ((a.length : Int), match b with | [] => false | y :: _ => decide (y.System = s)) := by
  unfold slices_BinarySearchFunc_event_Count_event_Count_int
  have oe : ∀ x : event_Count, event_Counts_1 x.System x.N s = some (cmpI x.System s) := fun x => by unfold event_Counts_1; rw [compare_eq]; rfl
  have h := loop_search (p := fun x : event_Count => decide (cmpI x.System s < 0)) (pe := fun x => event_Counts_1 x.System x.N s) hn (fun x hx => decide_eq_true (ha x hx)) (fun x hx => decide_eq_false (hb x hx))
    (step := fun s_ => slices_BinarySearchFunc_event_Count_event_Count_int_l3 (a ++ b) s s_.1 s_.2) (fun x _ => ⟨_, oe x, rfl⟩) (fun _ _ => rfl)
  rw [h, Option.bind_some]
  unfold slices_BinarySearchFunc_event_Count_event_Count_int_j1 slices_BinarySearchFunc_event_Count_event_Count_int_j2
  cases b with
  | nil => rw [cnd_dec, if_neg (by simp)]
  | cons y b =>
    rw [cnd_dec, if_pos (by simp; omega), idx_get (by simp), Option.bind_some]
    have : (a ++ y :: b)[a.length]'(by simp) = y := by simp
    rw [this, oe, Option.bind_some]
    congr 2
    rw [Bool.eq_iff_iff, beq_iff_eq, decide_eq_true_iff]
    exact cmpI_ord.eq _ _
theorem count_step {l : List api_Event} {out : List event_Count} {m : List (Int × Int)} {i : Nat} (hl : l.length * 32 ≤ 140737488351232) (hi : i < l.length) (ho : out.length ≤ i) (hJ : JC out m) :
    ∃ out', event_Counts_l2 l out (i : Int) = some (.inl (out', ((i + 1 : Nat) : Int))) ∧ out'.length ≤ i + 1 ∧ JC out' (putC m l[i]) := by
  unfold event_Counts_l2
  rw [cnd_dec, if_pos (by omega), idx_get hi, Option.bind_some]
  generalize l[i] = e
  obtain ⟨a, b, rfl, ha, hb⟩ := hJ.srt.split cmpI_ord e.System
  rw [search_count (by omega) ha hb, bnd2_some]
  unfold event_Counts_j3
  have fin : ∀ (a b : List event_Count) (y : event_Count) (f : event_Count → Int), (a ++ y :: b).length ≤ i + 1 → (((idx (a ++ y :: b) (a.length : Int)).bind fun x33 => (idx (a ++ y :: b) (a.length : Int)).bind fun x43 => (upd (a ++ y :: b) (a.length : Int) (event_Count.mk x43.System (IntKind.i64.wrap (x33.N + 1)))).bind fun l52 => some (Sum.inl (l52, IntKind.i64.wrap ((i : Int) + 1)))) : Option ((List event_Count × Int) ⊕ List event_Count)) = some (.inl (a ++ ⟨y.System, IntKind.i64.wrap (y.N + 1)⟩ :: b, ((i + 1 : Nat) : Int))) := by
    intro a b y f h
    have : (a ++ y :: b)[a.length]'(by simp) = y := by simp
    rw [idx_get (by simp), this, Option.bind_some, Option.bind_some, upd_ok (by simp), Option.bind_some, i64ok (x := (i : Int) + 1) (by omega) (by omega)]
    simp
  have hg : ∀ (out' : List event_Count) (x : event_Count), x.System = e.System → x.N = IntKind.i64.wrap ((mget m e.System).getD 0 + 1) → (∀ k, getK event_Count.System out' k = if k = x.System then some x else getK event_Count.System (a ++ b) k) → ∀ k, mget (putC m e) k = (getK event_Count.System out' k).map event_Count.N := fun out' x hx hN h k => by
    unfold putC
    rw [mget_putS, h, hJ.get k, hx]
    by_cases hk : k = e.System
    · rw [if_pos hk, if_pos hk, Option.map_some, hN]
    · rw [if_neg hk, if_neg hk]
  have new : (∀ y, b.head? = some y → y.System ≠ e.System) → ∃ out', (((slices_Insert_event_Count_event_Count (a ++ b) (a.length : Int) [⟨e.System, 0⟩]).bind fun x66 => (idx x66 (a.length : Int)).bind fun x33 => (idx x66 (a.length : Int)).bind fun x43 => (upd x66 (a.length : Int) (event_Count.mk x43.System (IntKind.i64.wrap (x33.N + 1)))).bind fun l52 => some (Sum.inl (l52, IntKind.i64.wrap ((i : Int) + 1)))) : Option ((List event_Count × Int) ⊕ List event_Count)) = some (.inl (out', ((i + 1 : Nat) : Int))) ∧ out'.length ≤ i + 1 ∧ JC out' (putC m e) := by
    intro hn
    have hn' : ∀ y, b.head? = some y → y.System ≠ (event_Count.mk e.System (IntKind.i64.wrap (0 + 1))).System := hn
    obtain ⟨h1, h2, h3⟩ := put_new (kf := event_Count.System) (e := ⟨e.System, IntKind.i64.wrap (0 + 1)⟩) cmpI_ord hJ.srt ha hb hn'
    unfold slices_Insert_event_Count_event_Count
    rw [ins_at (by simp) (by rw [List.length_append] at *; simp; omega), Option.bind_some, List.append_assoc, List.singleton_append, fin a b ⟨e.System, 0⟩ event_Count.N (by simp only [List.length_append, List.length_cons] at *; omega)]
    have h3' : getK event_Count.System (a ++ b) e.System = none := h3
    refine ⟨_, rfl, by simp only [List.length_append, List.length_cons] at *; omega, h1, ?_, hg _ ⟨e.System, IntKind.i64.wrap (0 + 1)⟩ rfl (by rw [hJ.get, h3']; rfl) h2⟩
    unfold putC; rw [mput_len, hJ.get, h3', hJ.len]; simp only [List.length_append, List.length_cons, Option.map_none, Option.isSome_none, Bool.false_eq_true, if_false]; omega
  cases b with
  | nil => simp only; rw [cnd_pos (by rfl)]; exact new (by simp)
  | cons y b =>
    simp only
    by_cases hy : y.System = e.System
    · rw [decide_eq_true hy, cnd_neg (by rfl), fin a b y event_Count.N (by omega)]
      have hk : y.System = (event_Count.mk y.System (IntKind.i64.wrap (y.N + 1))).System := rfl
      obtain ⟨h1, h2⟩ := put_same (kf := event_Count.System) (e := ⟨y.System, IntKind.i64.wrap (y.N + 1)⟩) cmpI_ord hJ.srt hk
      have hs : (getK event_Count.System (a ++ y :: b) e.System) = some y := by rw [← hy]; exact getK_mem cmpI_ord hJ.srt (by simp)
      refine ⟨_, rfl, by simp only [List.length_append, List.length_cons] at *; omega, h1, ?_, hg _ ⟨y.System, IntKind.i64.wrap (y.N + 1)⟩ hy (by rw [hJ.get, hs]; rfl) h2⟩
      unfold putC
      rw [mput_len, hJ.get, hs, hJ.len]; simp
    · rw [decide_eq_false hy, cnd_pos (by rfl)]
      exact new (by intro z hz; simp at hz; exact hz ▸ hy)
theorem counts_eq {l : List api_Event} (hl : l.length * 32 ≤ 140737488351232) : ∃ out, event_Counts l = some out ∧ JC out (l.foldl putC []) := by
  unfold event_Counts
  obtain ⟨r, h1, h2⟩ := loop_keeps (step := fun s_ : List event_Count × Int => event_Counts_l2 l s_.1 s_.2) l.length (fun i s => s.2 = (i : Int) ∧ s.1.length ≤ i ∧ JC s.1 ((l.take i).foldl putC [])) (fun r => JC r (l.foldl putC []))
    (fun i s hi ⟨e1, e2, e3⟩ => by
      obtain ⟨o, j⟩ := s
      simp only at e1 e2 e3; subst e1
      obtain ⟨o', h1, h2, h3⟩ := count_step hl hi e2 e3
      exact ⟨_, h1, rfl, h2, by rw [foldl_take _ _ _ hi]; exact h3⟩)
    (fun s ⟨e1, e2, e3⟩ => by
      obtain ⟨o, j⟩ := s
      simp only at e1 e2 e3; subst e1
      refine ⟨o, ?_, by rwa [List.take_length] at e3⟩
      simp only
      unfold event_Counts_l2
      rw [cnd_dec, if_neg (by omega)]) (s := ([], 0)) ⟨rfl, Nat.le_refl _, ⟨List.Pairwise.nil, rfl, fun _ => rfl⟩⟩
  exact ⟨r, by rw [h1]; rfl, h2⟩
/-! ### Of and Split -/
def inB (s lo hi : Int) (e : api_Event) : Bool := (s == -1 || s == e.System) && (decide (lo ≤ e.Value) && decide (e.Value ≤ hi))
def hereB (w : List api_Item) (e : api_Event) : Bool := w.any fun it => it.Ent.N == e.Ent.N && it.Ent.Gen == e.Ent.Gen
def addIf (b : Bool) (o : List api_Event) (e : api_Event) : List api_Event := if b = true then o ++ [e] else o
theorem addIf_len (b : Bool) (o : List api_Event) (e : api_Event) : (addIf b o e).length ≤ o.length + 1 := by unfold addIf; split <;> simp
theorem foldl_addIf (p : api_Event → Bool) : ∀ (l o : List api_Event), l.foldl (fun o e => addIf (p e) o e) o = o ++ l.filter p := by
  intro l
  induction l with
  | nil => intro o; simp
  | cons e l ih =>
    intro o
    rw [List.foldl_cons, ih]
    unfold addIf
    cases hp : p e
    · rw [if_neg (by simp), List.filter_cons_of_neg (by simp [hp])]
    · rw [if_pos rfl, List.filter_cons_of_pos hp, List.append_assoc]; rfl
theorem of_eq {l : List api_Event} (hl : l.length * 32 ≤ 140737488351232) (s lo hi : Int) : event_Of l s lo hi = some (l.filter (inB s lo hi)) := by
  unfold event_Of
  have h := loop_fold (step := fun s_ : List api_Event × Int => event_Of_l2 l s lo hi s_.1 s_.2) l (fun i t => (t, (i : Int))) (fun o e => addIf (inB s lo hi e) o e) id (fun i t => t.length ≤ i) (fun i t h hP => by
    refine ⟨?_, Nat.le_trans (addIf_len _ _ _) (by omega)⟩
    simp only
    unfold event_Of_l2 event_Of_j3
    have ha : app 32 t [l[i]] = some (t ++ [l[i]]) := app_ok (by simp only [List.length_cons, List.length_nil]; omega)
    rw [cnd_dec, if_pos (by omega), idx_get h, Option.bind_some, show (api_Event.mk l[i].System (api_Ent.mk l[i].Ent.N l[i].Ent.Gen) l[i].Value) = l[i] from rfl, ha, i64ok (by omega) (by omega)]
    simp only [cnd_beq, cnd_dec, Option.bind_some]
    unfold addIf inB
    generalize l[i] = e
    have h2' : (s = e.System) = (e.System = s) := propext eq_comm
    simp only [Bool.and_eq_true, Bool.or_eq_true, beq_iff_eq, decide_eq_true_eq, h2']
    rcases (Classical.em (s = -1)).imp eq_true eq_false with h1 | h1 <;> rcases (Classical.em (e.System = s)).imp eq_true eq_false with h2 | h2 <;> rcases (Classical.em (lo ≤ e.Value)).imp eq_true eq_false with h3 | h3 <;> rcases (Classical.em (e.Value ≤ hi)).imp eq_true eq_false with h4 | h4 <;> simp only [h1, h2, h3, h4, if_true, if_false, true_or, or_true, false_or, or_false, and_true, true_and, and_false, false_and, and_self, or_self] <;> rfl) (fun t hP => by
    simp only
    unfold event_Of_l2
    rw [cnd_dec, if_neg (by omega)]; rfl) [] (Nat.le_refl _)
  rw [show ((([] : List api_Event), (0 : Int))) = (([] : List api_Event), ((0 : Nat) : Int)) from rfl, h, foldl_addIf]
  simp [event_Of_j1]
theorem contains_eq {w : List api_Item} (hw : w.length ≤ 140737488355328) (e : api_Event) : slices_ContainsFunc_api_Item_api_Item w e.System e.Ent.N e.Ent.Gen e.Value = some (hereB w e) := by
  unfold slices_ContainsFunc_api_Item_api_Item slices_IndexFunc_api_Item_api_Item
  have h := loop_at (step := fun s_ => slices_IndexFunc_api_Item_api_Item_l2 w e.System e.Ent.N e.Ent.Gen e.Value s_) w (fun i => (i : Int)) (fun it => it.Ent.N == e.Ent.N && it.Ent.Gen == e.Ent.Gen) () (fun i hi => by
    unfold slices_IndexFunc_api_Item_api_Item_l2 event_Split_1
    rw [cnd_dec, if_pos (by omega), idx_get hi]
    simp only [Option.bind_some]
    rw [cnd_ite]
    by_cases hb : (w[i].Ent.N == e.Ent.N && w[i].Ent.Gen == e.Ent.Gen) = true
    · rw [if_pos hb, if_pos hb]
    · rw [if_neg hb, if_neg hb, i64ok (by omega) (by omega)]; rfl) (by unfold slices_IndexFunc_api_Item_api_Item_l2; rw [cnd_dec, if_neg (by omega)])
  rw [show (0 : Int) = ((0 : Nat) : Int) from rfl, h]
  unfold hereB
  cases hf : w.findIdx? (fun it => it.Ent.N == e.Ent.N && it.Ent.Gen == e.Ent.Gen) with
  | some k =>
    simp only [Option.bind_some, Sum.elim_inl]
    have : w.any (fun it => it.Ent.N == e.Ent.N && it.Ent.Gen == e.Ent.Gen) = true := by
      rw [List.any_eq_true]
      obtain ⟨h1, h2, _⟩ := List.findIdx?_eq_some_iff_getElem.1 hf
      exact ⟨_, List.getElem_mem h1, h2⟩
    rw [this, decide_eq_true (by omega)]
  | none =>
    simp only [Option.bind_some, Sum.elim_inr, slices_IndexFunc_api_Item_api_Item_j1]
    have : w.any (fun it => it.Ent.N == e.Ent.N && it.Ent.Gen == e.Ent.Gen) = false := by
      rw [List.any_eq_false]
      intro x hx
      have := List.findIdx?_eq_none_iff.1 hf x hx
      rw [this]; simp
    rw [this]; rfl
theorem split_eq {l : List api_Event} {ks : List api_Kind} {ns : List Int} {w : List api_Item} (hl : l.length * 32 ≤ 140737488351232) (hw : w.length ≤ 140737488355328) : event_Split ks ns w l = some (l.filter (hereB w), l.filter fun e => !hereB w e) := by
  unfold event_Split
  have h := loop_fold (step := fun s_ : List api_Event × List api_Event × Int => event_Split_l2 l w s_.1 s_.2.1 s_.2.2) l (fun i t => (t.1, t.2, (i : Int))) (fun (o : List api_Event × List api_Event) e => (addIf (hereB w e) o.1 e, addIf (!hereB w e) o.2 e)) id (fun i t => t.1.length ≤ i ∧ t.2.length ≤ i) (fun i t h hP => by
    refine ⟨?_, Nat.le_trans (addIf_len _ _ _) (by omega), Nat.le_trans (addIf_len _ _ _) (by omega)⟩
    simp only
    unfold event_Split_l2 event_Split_j3
    have ha : app 32 t.1 [l[i]] = some (t.1 ++ [l[i]]) := app_ok (by simp only [List.length_cons, List.length_nil]; omega)
    have hb : app 32 t.2 [l[i]] = some (t.2 ++ [l[i]]) := app_ok (by simp only [List.length_cons, List.length_nil]; omega)
    rw [cnd_dec, if_pos (by omega), idx_get h, Option.bind_some, contains_eq hw, Option.bind_some, show (api_Event.mk l[i].System (api_Ent.mk l[i].Ent.N l[i].Ent.Gen) l[i].Value) = l[i] from rfl, ha, hb, i64ok (by omega) (by omega)]
    unfold addIf
    cases hereB w l[i] <;> simp [cnd]) (fun t hP => by
    simp only
    unfold event_Split_l2
    rw [cnd_dec, if_neg (by omega)]; rfl) ([], []) ⟨Nat.le_refl _, Nat.le_refl _⟩
  rw [show ((([] : List api_Event), ([] : List api_Event), (0 : Int))) = (([] : List api_Event), ([] : List api_Event), ((0 : Nat) : Int)) from rfl, h]
  have : ∀ (l : List api_Event) (o : List api_Event × List api_Event), l.foldl (fun (o : List api_Event × List api_Event) e => (addIf (hereB w e) o.1 e, addIf (!hereB w e) o.2 e)) o = (o.1 ++ l.filter (hereB w), o.2 ++ l.filter fun e => !hereB w e) := by
    intro l o
    have h1 := foldl_addIf (hereB w) l o.1
    have h2 := foldl_addIf (fun e => !hereB w e) l o.2
    rw [← h1, ← h2]
    clear h1 h2 h hl
    induction l generalizing o with
    | nil => rfl
    | cons e l ih => rw [List.foldl_cons, ih]; rfl
  rw [this]
  simp [event_Split_j1]
theorem equal_refl {a : List api_Event} (h : a.length ≤ 140737488355328) : slices_Equal_api_Event_api_Event a a = some true := by
  unfold slices_Equal_api_Event_api_Event
  rw [cnd_not, cnd_pos (by simp)]
  have := loop_to (step := fun s_ => slices_Equal_api_Event_api_Event_l2 a a s_) (fun i => (i : Int)) a.length (fun i hi => by
    unfold slices_Equal_api_Event_api_Event_l2
    rw [cnd_dec, if_pos (by omega), idx_get hi]
    simp only [Option.bind_some]
    rw [cnd_not, cnd_pos (by simp), i64ok (by omega) (by omega)]; rfl) (r := .inr ()) (by unfold slices_Equal_api_Event_api_Event_l2; rw [cnd_dec, if_neg (by omega)])
  rw [show (0 : Int) = ((0 : Nat) : Int) from rfl, this]
  rfl
/-! ### What the law gathers -/
theorem here_eq {w : List api_Item} (hw : w.length ≤ 140737488355328) (e : api_Event) : loop (σ := Bool × Int) (ρ := Bool) (fun s_ => tourlaw3_EventFilters_l12 w e s_.1 s_.2) (false, 0) = some (hereB w e) := by
  have h := loop_fold (step := fun s_ : Bool × Int => tourlaw3_EventFilters_l12 w e s_.1 s_.2) w (fun i t => (t, (i : Int))) (fun t (it : api_Item) => t || (it.Ent.N == e.Ent.N && it.Ent.Gen == e.Ent.Gen)) id (fun _ _ => True) (fun i t h hP => by
    refine ⟨?_, trivial⟩
    simp only
    unfold tourlaw3_EventFilters_l12 tourlaw3_EventFilters_j13
    rw [cnd_dec, if_pos (by omega), idx_get h, Option.bind_some, i64ok (by omega) (by omega)]
    cases t <;> simp [cnd]) (fun t hP => by
    simp only
    unfold tourlaw3_EventFilters_l12
    rw [cnd_dec, if_neg (by omega)]; rfl) false trivial
  rw [show ((false, (0 : Int)) : Bool × Int) = (false, ((0 : Nat) : Int)) from rfl, h]
  have : ∀ (l : List api_Item) (t : Bool), l.foldl (fun t (it : api_Item) => t || (it.Ent.N == e.Ent.N && it.Ent.Gen == e.Ent.Gen)) t = (t || hereB l e) := by
    intro l
    induction l with
    | nil => intro t; simp [hereB]
    | cons it l ih => intro t; rw [List.foldl_cons, ih]; simp [hereB, Bool.or_assoc]
  rw [this]; simp
abbrev St := List api_Event × List api_Event × List api_Event × List (api_Event × api_Event) × List (Int × Int)
def gather (s lo hi : Int) (w : List api_Item) (t : St) (e : api_Event) : St := (addIf (inB s lo hi e) t.1 e, addIf (hereB w e) t.2.1 e, addIf (!hereB w e) t.2.2.1 e, putE t.2.2.2.1 e, putC t.2.2.2.2 e)
theorem gather_fold (s lo hi : Int) (w : List api_Item) : ∀ (l : List api_Event) (t : St), l.foldl (gather s lo hi w) t = (t.1 ++ l.filter (inB s lo hi), t.2.1 ++ l.filter (hereB w), t.2.2.1 ++ l.filter (fun e => !hereB w e), l.foldl putE t.2.2.2.1, l.foldl putC t.2.2.2.2) := by
  intro l t
  rw [← foldl_addIf (inB s lo hi) l t.1, ← foldl_addIf (hereB w) l t.2.1, ← foldl_addIf (fun e => !hereB w e) l t.2.2.1]
  induction l generalizing t with
  | nil => rfl
  | cons e l ih => rw [List.foldl_cons, ih]; rfl
theorem gather_step {l : List api_Event} {w : List api_Item} (hl : l.length * 32 ≤ 140737488351232) (hw : w.length ≤ 140737488355328) (s lo hi : Int) {i : Nat} (h : i < l.length) (t : St) (h1 : t.1.length ≤ i) (h2 : t.2.1.length ≤ i) (h3 : t.2.2.1.length ≤ i) :
    tourlaw3_EventFilters_l8 l s lo w hi t.1 t.2.1 t.2.2.1 t.2.2.2.1 t.2.2.2.2 (i : Int) = some (.inl ((gather s lo hi w t l[i]).1, (gather s lo hi w t l[i]).2.1, (gather s lo hi w t l[i]).2.2.1, (gather s lo hi w t l[i]).2.2.2.1, (gather s lo hi w t l[i]).2.2.2.2, ((i + 1 : Nat) : Int))) := by
  obtain ⟨o, a, b, m, c⟩ := t
  simp only at *
  unfold tourlaw3_EventFilters_l8
  rw [cnd_dec, if_pos (by omega), idx_get h, Option.bind_some]
  generalize l[i] = e
  have j9 : ∀ o' : List api_Event, tourlaw3_EventFilters_j9 w e a m c (i : Int) b o' = some (.inl (o', addIf (hereB w e) a e, addIf (!hereB w e) b e, putE m e, putC c e, ((i + 1 : Nat) : Int))) := by
    intro o'
    unfold tourlaw3_EventFilters_j9
    rw [here_eq hw, Option.bind_some]
    unfold tourlaw3_EventFilters_j10 tourlaw3_EventFilters_j11
    have ha : app 32 a [e] = some (a ++ [e]) := app_ok (by simp only [List.length_cons, List.length_nil]; omega)
    have hb : app 32 b [e] = some (b ++ [e]) := app_ok (by simp only [List.length_cons, List.length_nil]; omega)
    rw [show (api_Event.mk e.System (api_Ent.mk e.Ent.N e.Ent.Gen) e.Value) = e from rfl, ha, hb, show IntKind.i64.wrap ((i : Int) + 1) = ((i + 1 : Nat) : Int) from by rw [i64ok (by omega) (by omega)]; rfl]
    unfold addIf putE putC kE
    cases hereB w e <;> rfl
  have ho : app 32 o [e] = some (o ++ [e]) := app_ok (by simp only [List.length_cons, List.length_nil]; omega)
  rw [show (api_Event.mk e.System (api_Ent.mk e.Ent.N e.Ent.Gen) e.Value) = e from rfl, ho]
  simp only [j9, Option.bind_some, cnd_not]
  simp only [cnd_beq, cnd_dec]
  unfold gather addIf inB
  have h3' : (e.Value < lo) = ¬ (lo ≤ e.Value) := propext (by omega)
  have h4' : (hi < e.Value) = ¬ (e.Value ≤ hi) := propext (by omega)
  simp only [Bool.and_eq_true, Bool.or_eq_true, beq_iff_eq, decide_eq_true_eq, h3', h4']
  rcases (Classical.em (s = -1)).imp eq_true eq_false with h1 | h1 <;> rcases (Classical.em (s = e.System)).imp eq_true eq_false with h2 | h2 <;> rcases (Classical.em (lo ≤ e.Value)).imp eq_true eq_false with h3 | h3 <;> rcases (Classical.em (e.Value ≤ hi)).imp eq_true eq_false with h4 | h4 <;> simp only [h1, h2, h3, h4, if_true, if_false, true_or, or_true, false_or, or_false, and_true, true_and, and_false, false_and, and_self, or_self, not_true_eq_false, not_false_eq_true] <;> rfl
theorem gathered {l : List api_Event} {w : List api_Item} (hl : l.length * 32 ≤ 140737488351232) (hw : w.length ≤ 140737488355328) (s lo hi : Int) :
    loop (σ := List api_Event × List api_Event × List api_Event × List (api_Event × api_Event) × List (Int × Int) × Int) (ρ := St) (fun s_ => tourlaw3_EventFilters_l8 l s lo w hi s_.1 s_.2.1 s_.2.2.1 s_.2.2.2.1 s_.2.2.2.2.1 s_.2.2.2.2.2) ([], [], [], [], [], 0) = some (l.filter (inB s lo hi), l.filter (hereB w), l.filter (fun e => !hereB w e), l.foldl putE [], l.foldl putC []) := by
  have h := loop_fold (step := fun s_ : List api_Event × List api_Event × List api_Event × List (api_Event × api_Event) × List (Int × Int) × Int => tourlaw3_EventFilters_l8 l s lo w hi s_.1 s_.2.1 s_.2.2.1 s_.2.2.2.1 s_.2.2.2.2.1 s_.2.2.2.2.2) l (fun i (t : St) => (t.1, t.2.1, t.2.2.1, t.2.2.2.1, t.2.2.2.2, (i : Int))) (gather s lo hi w) id (fun i t => t.1.length ≤ i ∧ t.2.1.length ≤ i ∧ t.2.2.1.length ≤ i)
    (fun i t h hP => ⟨gather_step hl hw s lo hi h t hP.1 hP.2.1 hP.2.2, Nat.le_trans (addIf_len _ _ _) (by omega), Nat.le_trans (addIf_len _ _ _) (by omega), Nat.le_trans (addIf_len _ _ _) (by omega)⟩) (fun t hP => by
    simp only
    unfold tourlaw3_EventFilters_l8
    rw [cnd_dec, if_neg (by omega)]; rfl) ([], [], [], [], []) ⟨Nat.le_refl _, Nat.le_refl _, Nat.le_refl _⟩
  rw [show ((0 : Int)) = ((0 : Nat) : Int) from rfl]
  refine h.trans ?_
  rw [gather_fold]; simp
theorem sorted_next {α κ : Type} {c : κ → κ → Int} {kf : α → κ} {l : List α} (h : Srt c kf l) {i : Nat} (hi : i < l.length) (h0 : 0 < i) : c (kf (l[i - 1]'(by omega))) (kf l[i]) < 0 := (List.pairwise_iff_getElem.1 h) (i - 1) i (by omega) hi (by omega)
theorem counts_ok {out : List event_Count} {m : List (Int × Int)} (hJ : JC out m) (hn : out.length ≤ 140737488355328) : loop (σ := Int) (ρ := (Bool ⊕ Unit)) (fun s_ => tourlaw3_EventFilters_l6 out m s_) 0 = some (.inr ()) := by
  refine loop_to (fun i => (i : Int)) out.length (fun i hi => ?_) ?_
  · unfold tourlaw3_EventFilters_l6 tourlaw3_EventFilters_j7
    rw [cnd_dec, if_pos (by omega), idx_get hi]
    simp only [Option.bind_some]
    rw [hJ.get, getK_mem cmpI_ord hJ.srt (List.getElem_mem hi), cnd_not, cnd_pos (by simp), cnd_dec]
    have hw : IntKind.i64.wrap ((i : Int) + 1) = ((i + 1 : Nat) : Int) := by rw [i64ok (by omega) (by omega)]; rfl
    by_cases h0 : 0 < (i : Int)
    · rw [if_pos h0, i64ok (x := (i : Int) - 1) (by omega) (by omega), show (i : Int) - 1 = ((i - 1 : Nat) : Int) from by omega, idx_get (by omega), Option.bind_some, cnd_dec, if_neg, hw]
      have := (cmpI_lt _ _).1 (sorted_next hJ.srt hi (by omega))
      omega
    · rw [if_neg h0, hw]
  · unfold tourlaw3_EventFilters_l6
    rw [cnd_dec, if_neg (by omega)]
theorem last_ok {out : List api_Event} {m : List (api_Event × api_Event)} (hJ : JL out m) (hn : out.length ≤ 140737488355328) : loop (σ := Int) (ρ := (Bool ⊕ Unit)) (fun s_ => tourlaw3_EventFilters_l4 out m s_) 0 = some (.inr ()) := by
  refine loop_to (fun i => (i : Int)) out.length (fun i hi => ?_) ?_
  · unfold tourlaw3_EventFilters_l4 tourlaw3_EventFilters_j5
    rw [cnd_dec, if_pos (by omega), idx_get hi]
    simp only [Option.bind_some]
    have hg : mget m (api_Event.mk out[i].System (api_Ent.mk out[i].Ent.N out[i].Ent.Gen) 0) = some out[i] := (hJ.get out[i]).trans (getK_mem cmp3_ord hJ.srt (List.getElem_mem hi))
    rw [hg, cnd_not, cnd_pos (by simp), cnd_dec]
    have hw : IntKind.i64.wrap ((i : Int) + 1) = ((i + 1 : Nat) : Int) := by rw [i64ok (by omega) (by omega)]; rfl
    by_cases h0 : 0 < (i : Int)
    · rw [if_pos h0, i64ok (x := (i : Int) - 1) (by omega) (by omega), show (i : Int) - 1 = ((i - 1 : Nat) : Int) from by omega, idx_get (by omega), Option.bind_some, ahead_eq, Option.bind_some, cnd_not, cnd_pos (decide_eq_true (sorted_next hJ.srt hi (by omega))), hw]
    · rw [if_neg h0, hw]
  · unfold tourlaw3_EventFilters_l4
    rw [cnd_dec, if_neg (by omega)]
theorem fold_len {m : List (Int × Int)} (l : List api_Event) : (l.foldl putC m).length ≤ m.length + l.length := by
  induction l generalizing m with
  | nil => simp
  | cons e l ih =>
    rw [List.foldl_cons]
    refine Nat.le_trans ih ?_
    unfold putC; rw [mput_len]; simp only [List.length_cons]; split <;> omega
theorem fold_lenE {m : List (api_Event × api_Event)} (l : List api_Event) : (l.foldl putE m).length ≤ m.length + l.length := by
  induction l generalizing m with
  | nil => simp
  | cons e l ih =>
    rw [List.foldl_cons]
    refine Nat.le_trans ih ?_
    unfold putE; rw [mput_len]; simp only [List.length_cons]; split <;> omega
theorem EventFilters_true (w_0 : List api_Kind) (w_1 : List Int) (w_2 : List api_Item) (l : List api_Event) (s : Int) (vals_0 : Int) (vals_1 : Int) (h0 : ok_api_World (api_World.mk w_0 w_1 w_2)) (h1 : (okl 32 ok_api_Event) l) (h2 : (okk .i64) s) (h3 : ok_api_Span (api_Span.mk vals_0 vals_1)) : tourlaw3_EventFilters w_0 w_1 w_2 l s vals_0 vals_1 = some true := by
  have hl := h1.1
  have hw : w_2.length ≤ 140737488355328 := by
    have := h0.2.2.1
    simp only at this
    omega
  unfold tourlaw3_EventFilters
  have hc : ∃ out, event_Counts [(api_Event.mk 0 (api_Ent.mk 0 0) 0), (api_Event.mk 0 (api_Ent.mk 0 0) 0)] = some out ∧ out.length = 1 := by
    obtain ⟨out, e1, e2⟩ := counts_eq (l := [(api_Event.mk 0 (api_Ent.mk 0 0) 0), (api_Event.mk 0 (api_Ent.mk 0 0) 0)]) (by simp)
    refine ⟨out, e1, ?_⟩
    rw [← e2.len]
    rfl
  obtain ⟨o1, e1, e2⟩ := hc
  rw [e1, Option.bind_some, cnd_not, cnd_pos (by rw [e2]; rfl), gathered hl hw, Option.bind_some]
  unfold tourlaw3_EventFilters_j1
  rw [split_eq hl hw, bnd2_some, of_eq hl, Option.bind_some]
  have fl : ∀ p : api_Event → Bool, (l.filter p).length ≤ 140737488355328 := fun p => Nat.le_trans (List.length_filter_le _ _) (by omega)
  simp only
  rw [equal_refl (fl _), Option.bind_some, cnd_not, cnd_true, equal_refl (fl _), Option.bind_some, cnd_not, cnd_true, equal_refl (fl _), Option.bind_some, cnd_not, cnd_true]
  obtain ⟨c, c1, c2⟩ := counts_eq hl
  obtain ⟨n, n1, n2⟩ := last_eq hl
  have lc := fold_len (m := []) l
  have le := fold_lenE (m := []) l
  simp only [List.length_nil] at lc le
  rw [c1, Option.bind_some, n1, Option.bind_some, cnd_not, cnd_pos (by rw [c2.len]; simp), cnd_not, cnd_pos (by rw [n2.len]; simp), counts_ok c2 (by rw [← c2.len]; omega), Option.bind_some, Sum.elim_inr]
  unfold tourlaw3_EventFilters_j2
  rw [last_ok n2 (by rw [← n2.len]; omega), Option.bind_some, Sum.elim_inr]
  rfl
end Go.Proofs.Ythcniadbdjoecaa.E
