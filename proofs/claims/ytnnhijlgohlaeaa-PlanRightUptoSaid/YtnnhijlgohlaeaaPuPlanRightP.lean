/- The plain law of PlanRight: Right answers as the reference's Divided; a right division has no fewer layers than Layers'. No condition. -/
import Derived.Test.YtnnhijlgohlaeaaPuPlanP
namespace Go.Proofs.Ytnnhijlgohlaeaa.P
open Go Go.RowKit Go.Proofs.Ytnnhijlgohlaeaa.Sx
set_option linter.unusedVariables false
set_option linter.unusedSimpArgs false
/-! ### Lists without repetition -/
theorem nodup_le {α : Type} [DecidableEq α] : ∀ {l1 l2 : List α}, l1.Nodup → (∀ x ∈ l1, x ∈ l2) → l1.length ≤ l2.length := by
  intro l1
  induction l1 with
  | nil => intro l2 _ _; simp
  | cons a l ih =>
    intro l2 hn hs
    rw [List.nodup_cons] at hn
    have ha := hs a (by simp)
    have h1 := ih (l2 := l2.erase a) hn.2 (fun x hx => by
      have hne : x ≠ a := fun e => hn.1 (e ▸ hx)
      exact (List.mem_erase_of_ne hne).2 (hs x (by simp [hx])))
    rw [List.length_erase_of_mem ha] at h1
    have : 0 < l2.length := List.length_pos_of_mem ha
    simp only [List.length_cons]; omega
theorem nodup_all {α : Type} [DecidableEq α] {l1 l2 : List α} (h1 : l1.Nodup) (hs : ∀ x ∈ l1, x ∈ l2) (hl : l2.length ≤ l1.length) : ∀ x ∈ l2, x ∈ l1 := by
  intro x hx
  apply Classical.byContradiction
  intro hn
  have := nodup_le (l1 := x :: l1) (l2 := l2) (List.nodup_cons.2 ⟨hn, h1⟩) (fun y hy => by
    rcases List.mem_cons.1 hy with rfl | hy
    · exact hx
    · exact hs y hy)
  simp only [List.length_cons] at this; omega
theorem range_nodup (n : Nat) : ((List.range n).map fun k : Nat => (k : Int)).Nodup := by
  rw [List.nodup_iff_pairwise_ne, List.pairwise_map]
  exact (List.nodup_iff_pairwise_ne.1 List.nodup_range).imp fun h e => h (by omega)
theorem mem_rangeI {n : Nat} {x : Int} : x ∈ ((List.range n).map fun k : Nat => (k : Int)) ↔ 0 ≤ x ∧ x < (n : Int) := by
  simp only [List.mem_map, List.mem_range]
  exact ⟨fun ⟨k, h1, h2⟩ => by omega, fun ⟨h1, h2⟩ => ⟨x.toNat, by omega, by omega⟩⟩
/-! ### Right's first part -/
def rowF (n : Nat) (d : Nat) : Option Int → List Int → List Int → Option (List Int)
  | _, at_, [] => some at_
  | prev, at_, k :: ks => if 0 ≤ k ∧ k < (n : Int) ∧ gd at_ k.toNat ≤ 0 ∧ (∀ p ∈ prev, p < k) then rowF n d (some k) (at_.set k.toNat ((d : Int) + 1)) ks else none
def allF (n : Nat) : Nat → List Int → List (List Int) → Option (List Int)
  | _, at_, [] => some at_
  | d, at_, row :: rest => (rowF n d none at_ row).bind fun a => allF n (d + 1) a rest
theorem rowF_len {n d : Nat} : ∀ {ks : List Int} {p : Option Int} {a b : List Int}, rowF n d p a ks = some b → b.length = a.length := by
  intro ks
  induction ks with
  | nil => intro p a b h; rw [← Option.some.inj h]
  | cons k ks ih =>
    intro p a b h
    unfold rowF at h
    split at h
    · rw [ih h, List.length_set]
    · cases h
theorem right_row {l : List api_System} {x : List Int} {d : Nat} (hn : l.length ≤ 1048576) (hd : d ≤ 1048576) (hx : x.length ≤ 1048576) : ∀ (m i : Nat) (a : List Int) (c : Nat), i + m = x.length → a.length = l.length → c + m ≤ 2097152 →
    loop (σ := (List Int) × Int × Int) (ρ := (Bool ⊕ (List Int) × Int)) (fun s_ => plan_Right_l9 x l (d : Int) s_.1 s_.2.1 s_.2.2) (a, (c : Int), (i : Int)) = some (match rowF l.length d (if i = 0 then none else x[i - 1]?) a (x.drop i) with | some b => .inr (b, ((c + m : Nat) : Int)) | none => .inl false) := by
  intro m
  induction m with
  | zero =>
    intro i a c hi ha hc
    rw [Nat.add_zero] at hi; subst hi
    rw [List.drop_length, loop_inr (r := .inr (a, (c : Int))) (by
      show plan_Right_l9 x l (d : Int) a (c : Int) (x.length : Int) = _
      unfold plan_Right_l9
      rw [cnd_dec, if_neg (by omega)])]
    rfl
  | succ m ih =>
    intro i a c hi ha hc
    have hil : i < x.length := by omega
    rw [List.drop_eq_getElem_cons hil]
    unfold rowF
    have hstep : plan_Right_l9 x l (d : Int) a (c : Int) (i : Int) = some (if 0 ≤ x[i] ∧ x[i] < (l.length : Int) ∧ gd a x[i].toNat ≤ 0 ∧ (∀ p ∈ (if i = 0 then none else x[i - 1]?), p < x[i]) then .inl (a.set x[i].toNat ((d : Int) + 1), ((c + 1 : Nat) : Int), ((i + 1 : Nat) : Int)) else .inr (.inl false)) := by
      unfold plan_Right_l9
      rw [cnd_dec, if_pos (by omega), idx_get hil]
      simp only [Option.bind_some, cnd_dec]
      by_cases h1 : x[i] < 0
      · rw [if_pos h1, if_neg (by omega)]
      rw [if_neg h1]
      by_cases h2 : (l.length : Int) ≤ x[i]
      · rw [if_pos h2, if_neg (by omega)]
      rw [if_neg h2]
      obtain ⟨k, hk⟩ : ∃ k : Nat, x[i] = (k : Int) := ⟨x[i].toNat, by omega⟩
      rw [hk, idx_gd (by omega), Int.toNat_natCast]
      simp only [Option.bind_some]
      by_cases h3 : 0 < gd a k
      · rw [if_pos h3, if_neg (by omega)]
      rw [if_neg h3]
      have hset : plan_Right_j10 a (k : Int) (d : Int) (c : Int) (i : Int) = some (.inl (a.set k ((d : Int) + 1), ((c + 1 : Nat) : Int), ((i + 1 : Nat) : Int))) := by
        unfold plan_Right_j10
        rw [idx_gd (by omega)]
        simp only [Option.bind_some]
        rw [upd_ok (by omega)]
        simp only [Option.bind_some]
        rw [i64ok (x := (d : Int) + 1) (by omega) (by omega), i64ok (x := (c : Int) + 1) (by omega) (by omega), i64ok (x := (i : Int) + 1) (by omega) (by omega)]; rfl
      rw [hset]
      by_cases h4 : i = 0
      · rw [if_neg (by omega), if_pos ⟨by omega, by omega, by omega, by rw [if_pos h4]; simp⟩]
      · rw [if_pos (by omega), i64ok (by omega) (by omega), show (i : Int) - 1 = ((i - 1 : Nat) : Int) by omega, idx_get (by omega)]
        simp only [Option.bind_some]
        have hp : (∀ p ∈ (if i = 0 then none else x[i - 1]?), p < (k : Int)) ↔ x[i - 1] < (k : Int) := by
          rw [if_neg h4, List.getElem?_eq_getElem (by omega)]; simp
        by_cases h5 : (k : Int) ≤ x[i - 1]
        · rw [if_pos h5, if_neg (fun h => by have := hp.1 h.2.2.2; omega)]
        · rw [if_neg h5, if_pos ⟨by omega, by omega, by omega, hp.2 (by omega)⟩]
    by_cases hc2 : 0 ≤ x[i] ∧ x[i] < (l.length : Int) ∧ gd a x[i].toNat ≤ 0 ∧ (∀ p ∈ (if i = 0 then none else x[i - 1]?), p < x[i])
    · rw [if_pos hc2] at hstep ⊢
      rw [loop_inl hstep, ih (i + 1) _ (c + 1) (by omega) (by simp [ha]) (by omega), if_neg (by omega), Nat.add_sub_cancel, List.getElem?_eq_getElem hil, show c + 1 + m = c + (m + 1) by omega]
    · rw [if_neg hc2] at hstep ⊢
      rw [loop_inr hstep]
theorem right_rows {l : List api_System} {layers : List (List Int)} (hn : l.length ≤ 1048576) (hd : layers.length ≤ 1048576) : ∀ (m d : Nat) (a : List Int) (c : Nat), d + m = layers.length → a.length = l.length → c + ((layers.drop d).map List.length).sum ≤ 2097152 → (∀ r ∈ layers, r.length ≤ 1048576) →
    loop (σ := (List Int) × Int × Int) (ρ := (Bool ⊕ (List Int) × Int)) (fun s_ => plan_Right_l7 layers l s_.1 s_.2.1 s_.2.2) (a, (c : Int), (d : Int)) = some (match allF l.length d a (layers.drop d) with | some b => .inr (b, ((c + ((layers.drop d).map List.length).sum : Nat) : Int)) | none => .inl false) := by
  intro m
  induction m with
  | zero =>
    intro d a c hi ha hc hr
    rw [Nat.add_zero] at hi; subst hi
    rw [List.drop_length, loop_inr (r := .inr (a, (c : Int))) (by
      show plan_Right_l7 layers l a (c : Int) (layers.length : Int) = _
      unfold plan_Right_l7
      rw [cnd_dec, if_neg (by omega)])]
    rfl
  | succ m ih =>
    intro d a c hi ha hc hr
    have hdl : d < layers.length := by omega
    have hrow := hr _ (List.getElem_mem hdl)
    rw [List.drop_eq_getElem_cons hdl] at hc ⊢
    simp only [List.map_cons, List.sum_cons] at hc ⊢
    unfold allF
    have e := right_row (x := layers[d]) (d := d) hn (by omega) hrow layers[d].length 0 a c (by omega) ha (by omega)
    rw [List.drop_zero, if_pos rfl] at e
    have hstep : plan_Right_l7 layers l a (c : Int) (d : Int) = some (match rowF l.length d none a layers[d] with | some b => .inl (b, ((c + layers[d].length : Nat) : Int), ((d + 1 : Nat) : Int)) | none => .inr (.inl false)) := by
      unfold plan_Right_l7
      rw [cnd_dec, if_pos (by omega), idx_get hdl]
      simp only [Option.bind_some]
      rw [show (0 : Int) = ((0 : Nat) : Int) from rfl, e]
      simp only [Option.bind_some]
      cases rowF l.length d none a layers[d] with
      | none => rfl
      | some b =>
        show plan_Right_j8 (d : Int) b ((c + layers[d].length : Nat) : Int) = _
        unfold plan_Right_j8
        rw [i64ok (by omega) (by omega)]; rfl
    cases hf : rowF l.length d none a layers[d] with
    | none => rw [hf] at hstep; rw [loop_inr hstep]; rfl
    | some b =>
      rw [hf] at hstep
      rw [loop_inl hstep, ih (d + 1) b _ (by omega) ((rowF_len hf).trans ha) (by omega) hr]
      simp only [Option.bind_some]
      rw [show c + layers[d].length + ((layers.drop (d + 1)).map List.length).sum = c + (layers[d].length + ((layers.drop (d + 1)).map List.length).sum) by omega]
/-! ### What it tells -/
def posn (layers : List (List Int)) (k : Int) : Option Nat := layers.findIdx? fun row => row.contains k
theorem posn_cons {row : List Int} {rest : List (List Int)} {k : Int} : posn (row :: rest) k = if k ∈ row then some 0 else (posn rest k).map (· + 1) := by
  unfold posn
  rw [List.findIdx?_cons]
  by_cases h : k ∈ row
  · rw [if_pos h, if_pos (by simpa using h)]
  · rw [if_neg h, if_neg (by simpa using h)]
theorem posn_isSome {layers : List (List Int)} {k : Int} : (posn layers k).isSome = true ↔ k ∈ layers.flatten := by
  unfold posn
  rw [List.findIdx?_isSome, List.any_eq_true, List.mem_flatten]
  exact ⟨fun ⟨r, h1, h2⟩ => ⟨r, h1, by simpa using h2⟩, fun ⟨r, h1, h2⟩ => ⟨r, h1, by simpa using h2⟩⟩
theorem rowF_some {n d : Nat} : ∀ {ks : List Int} {p : Option Int} {a b : List Int}, a.length = n → rowF n d p a ks = some b → (∀ q ∈ p, ∀ k ∈ ks, q < k) ∧ ks.Pairwise (· < ·) ∧ (∀ k ∈ ks, 0 ≤ k ∧ k < (n : Int) ∧ gd a k.toNat ≤ 0) ∧ ∀ j : Nat, gd b j = if (j : Int) ∈ ks then (d : Int) + 1 else gd a j := by
  intro ks
  induction ks with
  | nil => intro p a b ha h; obtain rfl := Option.some.inj h; simp
  | cons k ks ih =>
    intro p a b ha h
    unfold rowF at h
    split at h
    · rename_i hc
      obtain ⟨h1, h2, h3, h4⟩ := ih (by simpa using ha) h
      have hlt : ∀ k' ∈ ks, k < k' := h1 k rfl
      refine ⟨fun q hq k' hk' => ?_, List.pairwise_cons.2 ⟨hlt, h2⟩, fun k' hk' => ?_, fun j => ?_⟩
      · rcases List.mem_cons.1 hk' with rfl | hk'
        · exact hc.2.2.2 q hq
        · exact Int.lt_trans (hc.2.2.2 q hq) (hlt k' hk')
      · rcases List.mem_cons.1 hk' with rfl | hk'
        · exact ⟨hc.1, hc.2.1, hc.2.2.1⟩
        · obtain ⟨g1, g2, g3⟩ := h3 k' hk'
          have := hlt k' hk'
          rw [gd_set (by omega), if_neg (by omega)] at g3
          exact ⟨g1, g2, g3⟩
      · rw [h4 j]
        by_cases hj : (j : Int) ∈ ks
        · rw [if_pos hj, if_pos (by simp [hj])]
        · rw [if_neg hj, gd_set (by omega)]
          by_cases e : j = k.toNat
          · rw [if_pos e, if_pos (by simp; exact .inl (by omega))]
          · rw [if_neg e, if_neg (by simp only [List.mem_cons, hj, or_false]; omega)]
    · cases h
theorem rowF_of {n d : Nat} : ∀ {ks : List Int} {p : Option Int} {a : List Int}, a.length = n → (∀ q ∈ p, ∀ k ∈ ks, q < k) → ks.Pairwise (· < ·) → (∀ k ∈ ks, 0 ≤ k ∧ k < (n : Int) ∧ gd a k.toNat ≤ 0) → ∃ b, rowF n d p a ks = some b := by
  intro ks
  induction ks with
  | nil => intro p a _ _ _ _; exact ⟨a, rfl⟩
  | cons k ks ih =>
    intro p a ha h1 h2 h3
    rw [List.pairwise_cons] at h2
    have hk := h3 k (by simp)
    unfold rowF
    rw [if_pos ⟨hk.1, hk.2.1, hk.2.2, fun q hq => h1 q hq k (by simp)⟩]
    refine ih (by simpa using ha) (fun q hq k' hk' => ?_) h2.2 (fun k' hk' => ?_)
    · obtain rfl := Option.some.inj hq; exact h2.1 k' hk'
    · have := h3 k' (by simp [hk'])
      have := h2.1 k' hk'
      refine ⟨by omega, by omega, ?_⟩
      rw [gd_set (by omega), if_neg (by omega)]; omega
/-- The parts of being right that Right's first part looks at. -/
structure Form (n : Nat) (layers : List (List Int)) : Prop where
  up : ∀ r ∈ layers, r.Pairwise (· < ·)
  ran : ∀ k ∈ layers.flatten, 0 ≤ k ∧ k < (n : Int)
  one : layers.flatten.Nodup
theorem lt_nodup {r : List Int} (h : r.Pairwise (· < ·)) : r.Nodup := List.nodup_iff_pairwise_ne.2 (h.imp fun h e => by omega)
theorem allF_some {n : Nat} : ∀ {layers : List (List Int)} {d : Nat} {a b : List Int}, a.length = n → (∀ j, 0 ≤ gd a j) → allF n d a layers = some b → Form n layers ∧ (∀ k ∈ layers.flatten, gd a k.toNat ≤ 0) ∧ ∀ j : Nat, gd b j = match posn layers (j : Int) with | some r => ((d + r : Nat) : Int) + 1 | none => gd a j := by
  intro layers
  induction layers with
  | nil => intro d a b ha h0 h; obtain rfl := Option.some.inj h; exact ⟨⟨by simp, by simp, by simp⟩, by simp, fun j => rfl⟩
  | cons row rest ih =>
    intro d a b ha h0 h
    unfold allF at h
    obtain ⟨c, h1, h2⟩ := obind h
    obtain ⟨_, g2, g3, g4⟩ := rowF_some ha h1
    obtain ⟨hF, h5, h6⟩ := ih ((rowF_len h1).trans ha) (fun j => by rw [g4 j]; split <;> first | omega | exact h0 j) h2
    have hdis : ∀ k ∈ rest.flatten, k ∉ row := fun k hk hr => by
      have hz := h5 k hk
      have hr0 := (hF.ran k hk).1
      rw [g4, if_pos (by rw [Int.toNat_of_nonneg hr0]; exact hr)] at hz
      omega
    refine ⟨⟨fun r hr => ?_, fun k hk => ?_, ?_⟩, fun k hk => ?_, fun j => ?_⟩
    · rcases List.mem_cons.1 hr with rfl | hr
      · exact g2
      · exact hF.up r hr
    · rw [List.flatten_cons, List.mem_append] at hk
      rcases hk with hk | hk
      · exact ⟨(g3 k hk).1, (g3 k hk).2.1⟩
      · exact hF.ran k hk
    · rw [List.flatten_cons, List.nodup_append]
      exact ⟨lt_nodup g2, hF.one, fun x hx y hy e => hdis y hy (e ▸ hx)⟩
    · rw [List.flatten_cons, List.mem_append] at hk
      rcases hk with hk | hk
      · exact (g3 k hk).2.2
      · have hz := h5 k hk
        have hr0 := (hF.ran k hk).1
        rw [g4, if_neg (by rw [Int.toNat_of_nonneg hr0]; exact hdis k hk)] at hz
        exact hz
    · rw [h6 j, posn_cons, g4 j]
      by_cases hj : (j : Int) ∈ row
      · rw [if_pos hj, if_pos hj]
        cases hp : posn rest (j : Int) with
        | none => simp
        | some r => exact absurd hj (hdis _ (posn_isSome.1 (by rw [hp]; rfl)))
      · rw [if_neg hj, if_neg hj]
        cases hp : posn rest (j : Int) with
        | none => rfl
        | some r => show ((d + 1 + r : Nat) : Int) + 1 = ((d + (r + 1) : Nat) : Int) + 1; congr 2; omega
theorem allF_of {n : Nat} : ∀ {layers : List (List Int)} {d : Nat} {a : List Int}, a.length = n → Form n layers → (∀ k ∈ layers.flatten, gd a k.toNat ≤ 0) → ∃ b, allF n d a layers = some b := by
  intro layers
  induction layers with
  | nil => intro d a _ _ _; exact ⟨a, rfl⟩
  | cons row rest ih =>
    intro d a ha hF h0
    have hone := hF.one
    rw [List.flatten_cons, List.nodup_append] at hone
    obtain ⟨c, hc⟩ := rowF_of (d := d) (p := none) ha (fun q hq => by cases hq) (hF.up row (by simp)) (fun k hk => ⟨(hF.ran k (by simp [hk])).1, (hF.ran k (by simp [hk])).2, h0 k (by simp [hk])⟩)
    obtain ⟨_, g2, g3, g4⟩ := rowF_some ha hc
    unfold allF
    rw [hc]
    simp only [Option.bind_some]
    refine ih ((rowF_len hc).trans ha) ⟨fun r hr => hF.up r (by simp [hr]), fun k hk => hF.ran k (by rw [List.flatten_cons]; simp [hk]), hone.2.1⟩ fun k hk => ?_
    have hr0 := (hF.ran k (by rw [List.flatten_cons]; exact List.mem_append_right _ hk)).1
    rw [g4, if_neg (by rw [Int.toNat_of_nonneg hr0]; exact fun hr => hone.2.2 k hr k hk rfl)]
    exact h0 k (by rw [List.flatten_cons]; exact List.mem_append_right _ hk)
/-- A right division. -/
structure Good (l : List api_System) (layers : List (List Int)) : Prop where
  form : Form l.length layers
  all : layers.flatten.length = l.length
  keep : ∀ i, i < l.length → ∀ j, j < i → cl l j i = true → ∀ a b, posn layers (j : Int) = some a → posn layers (i : Int) = some b → a < b
theorem Form.has {n : Nat} {layers : List (List Int)} (h : Form n layers) (hl : layers.flatten.length = n) {k : Nat} (hk : k < n) : (k : Int) ∈ layers.flatten :=
  nodup_all h.one (l2 := (List.range n).map fun k : Nat => (k : Int)) (fun x hx => mem_rangeI.2 (h.ran x hx)) (by simp [hl]) _ (mem_rangeI.2 ⟨by omega, by omega⟩)
theorem sum_flatten (layers : List (List Int)) : (layers.map List.length).sum = layers.flatten.length := by rw [List.length_flatten]
theorem right_l5 {l : List api_System} (hs : ∀ a ∈ l, sysOK a) (hn : l.length ≤ 1048576) {a : List Int} (ha : a.length = l.length) {i : Nat} (hi : i < l.length) :
    loop (σ := Int) (ρ := (Bool ⊕ Unit)) (fun s_ => plan_Right_l5 (i : Int) l a s_) 0 = some (if (List.range i).any (fun j => cl l j i && decide (gd a i ≤ gd a j)) = true then .inl false else .inr ()) :=
  loop_any (List.range i) (fun j => (j : Int)) (fun j => cl l j i && decide (gd a i ≤ gd a j)) false () (fun j hj => by
    show plan_Right_l5 (i : Int) l a (j : Int) = _
    have hj' : j < i := by simpa using hj
    have hjl : j < l.length := by omega
    unfold plan_Right_l5
    simp only [List.getElem_range]
    rw [cnd_dec, if_pos (by omega), idx_get hjl]
    simp only [Option.bind_some]
    rw [idx_get hi]
    simp only [Option.bind_some]
    rw [pconf (hs _ (List.getElem_mem hjl)) (hs _ (List.getElem_mem hi)), ← cl_eq hjl hi]
    simp only [Option.bind_some, cnd_ite]
    have hj6 : plan_Right_j6 (j : Int) = some (.inl ((j + 1 : Nat) : Int)) := by unfold plan_Right_j6; rw [i64ok (by omega) (by omega)]; rfl
    by_cases hc : cl l j i = true
    · rw [if_pos hc, idx_gd (by omega)]
      simp only [Option.bind_some]
      rw [idx_gd (by omega)]
      simp only [Option.bind_some, hc, Bool.true_and, decide_eq_true_eq]
      by_cases h : gd a i ≤ gd a j
      · rw [if_pos h, if_pos h]
      · rw [if_neg h, if_neg h, hj6]
    · rw [if_neg hc, hj6, if_neg (by simp [hc])]) (by
    show plan_Right_l5 (i : Int) l a ((List.range i).length : Int) = _
    unfold plan_Right_l5
    rw [cnd_dec, if_neg (by simp)])
theorem right_l3 {l : List api_System} (hs : ∀ a ∈ l, sysOK a) (hn : l.length ≤ 1048576) {a : List Int} (ha : a.length = l.length) :
    loop (σ := Int) (ρ := (Bool ⊕ Unit)) (fun s_ => plan_Right_l3 l a s_) 0 = some (if (List.range l.length).any (fun i => (List.range i).any (fun j => cl l j i && decide (gd a i ≤ gd a j))) = true then .inl false else .inr ()) :=
  loop_any (List.range l.length) (fun j => (j : Int)) (fun i => (List.range i).any (fun j => cl l j i && decide (gd a i ≤ gd a j))) false () (fun i hi => by
    show plan_Right_l3 l a (i : Int) = _
    have hi' : i < l.length := by simpa using hi
    unfold plan_Right_l3
    simp only [List.getElem_range]
    rw [cnd_dec, if_pos (by omega), right_l5 hs hn ha hi']
    simp only [Option.bind_some]
    by_cases h : (List.range i).any (fun j => cl l j i && decide (gd a i ≤ gd a j)) = true
    · rw [if_pos h, if_pos h]; rfl
    · rw [if_neg h, if_neg h]
      show plan_Right_j4 (i : Int) = _
      unfold plan_Right_j4
      rw [i64ok (by omega) (by omega)]; rfl) (by
    show plan_Right_l3 l a ((List.range l.length).length : Int) = _
    unfold plan_Right_l3
    rw [cnd_dec, if_neg (by simp)])
theorem right_ok {l : List api_System} {layers : List (List Int)} (hs : ∀ a ∈ l, sysOK a) (hn : l.length ≤ 1048576) (hd : layers.length ≤ 1048576) (hf : layers.flatten.length ≤ 1048576) : ∃ b, plan_Right l layers = some b ∧ (b = true ↔ Good l layers) := by
  have hrl : ∀ r ∈ layers, r.length ≤ 1048576 := fun r hr => by
    have := List.Sublist.length_le (List.sublist_flatten_of_mem hr); omega
  unfold plan_Right
  rw [mk_ok (by omega) (by omega)]
  simp only [Option.bind_some, Int.toNat_natCast]
  have e := right_rows (l := l) (layers := layers) hn hd layers.length 0 (List.replicate l.length 0) 0 (by omega) (by simp) (by rw [List.drop_zero, sum_flatten]; omega) hrl
  rw [List.drop_zero, sum_flatten, Nat.zero_add] at e
  have hz : ∀ j, gd (List.replicate l.length 0) j = 0 := fun j => by
    unfold gd List.getD; rw [List.getElem?_replicate]; split <;> rfl
  have e' : loop (σ := (List Int) × Int × Int) (ρ := (Bool ⊕ (List Int) × Int)) (fun s_ => plan_Right_l7 layers l s_.1 s_.2.1 s_.2.2) (List.replicate l.length 0, 0, 0) = _ := e
  rw [e']
  cases hA : allF l.length 0 (List.replicate l.length 0) layers with
  | none =>
    refine ⟨false, rfl, ?_⟩
    simp only [Bool.false_eq_true, false_iff]
    intro hG
    obtain ⟨b, hb⟩ := allF_of (d := 0) (a := List.replicate l.length 0) (by simp) hG.form (fun k _ => by have := hz k.toNat; show gd (List.replicate l.length 0) k.toNat ≤ 0; omega)
    rw [hA] at hb; cases hb
  | some a =>
    obtain ⟨hF, _, hg⟩ := allF_some (a := List.replicate l.length 0) (by simp) (fun j => by have := hz j; show 0 ≤ gd (List.replicate l.length 0) j; omega) hA
    have hal : a.length = l.length := by
      have : ∀ {layers : List (List Int)} {d : Nat} {a b : List Int}, allF l.length d a layers = some b → b.length = a.length := by
        intro layers
        induction layers with
        | nil => intro d a b h; rw [← Option.some.inj h]
        | cons row rest ih => intro d a b h; unfold allF at h; obtain ⟨c, h1, h2⟩ := obind h; rw [ih h2, rowF_len h1]
      rw [this hA, List.length_replicate]
    show ∃ b, plan_Right_j1 l a (layers.flatten.length : Int) = some b ∧ _
    unfold plan_Right_j1
    rw [cnd_not, cnd_beq]
    by_cases hl : (layers.flatten.length : Int) = (l.length : Int)
    · rw [if_pos hl]
      have hl' : layers.flatten.length = l.length := by omega
      rw [right_l3 hs hn hal]
      have hat : ∀ k, k < l.length → ∃ r, posn layers (k : Int) = some r ∧ gd a k = (r : Int) + 1 := fun k hk => by
        have h1 := posn_isSome.2 (hF.has hl' hk)
        have h2 := hg k
        cases hp : posn layers (k : Int) with
        | none => rw [hp] at h1; cases h1
        | some r => rw [hp] at h2; simp only [Nat.zero_add] at h2; exact ⟨r, rfl, h2⟩
      by_cases h : (List.range l.length).any (fun i => (List.range i).any (fun j => cl l j i && decide (gd a i ≤ gd a j))) = true
      · rw [if_pos h]
        refine ⟨false, rfl, ?_⟩
        simp only [Bool.false_eq_true, false_iff]
        intro hG
        simp only [List.any_eq_true, List.mem_range, Bool.and_eq_true, decide_eq_true_eq] at h
        obtain ⟨i, hi, j, hj, hc, hle⟩ := h
        obtain ⟨p, hp1, hp2⟩ := hat i hi
        obtain ⟨q, hq1, hq2⟩ := hat j (by omega)
        have := hG.keep i hi j hj hc q p hq1 hp1
        omega
      · rw [if_neg h]
        refine ⟨true, rfl, ?_⟩
        simp only [true_iff]
        refine ⟨hF, hl', fun i hi j hj hc q p hq hp => ?_⟩
        obtain ⟨p', hp1, hp2⟩ := hat i hi
        obtain ⟨q', hq1, hq2⟩ := hat j (by omega)
        rw [hp] at hp1; rw [hq] at hq1
        obtain rfl := Option.some.inj hp1
        obtain rfl := Option.some.inj hq1
        apply Classical.byContradiction
        intro hn
        refine h ?_
        simp only [List.any_eq_true, List.mem_range, Bool.and_eq_true, decide_eq_true_eq]
        exact ⟨i, hi, j, hj, hc, by omega⟩
    · rw [if_neg hl]
      refine ⟨false, rfl, ?_⟩
      simp only [Bool.false_eq_true, false_iff]
      intro hG
      exact hl (by rw [hG.all])
/-! ### The reference -/
def pairs : Nat → List (List Int) → List (Int × Int)
  | _, [] => []
  | d, row :: rest => row.map (fun k => (k, (d : Int))) ++ pairs (d + 1) rest
theorem pairs_keys : ∀ (layers : List (List Int)) (d : Nat), (pairs d layers).map (·.1) = layers.flatten := by
  intro layers
  induction layers with
  | nil => intro d; rfl
  | cons row rest ih => intro d; unfold pairs; rw [List.map_append, ih, List.flatten_cons, List.map_map]; congr 1; exact List.map_id'' (fun _ => rfl) _
def putAll (m ps : List (Int × Int)) : List (Int × Int) := ps.foldl (fun m p => mput m p.1 p.2) m
theorem mput_new {m : List (Int × Int)} {k v : Int} (h : k ∉ m.map (·.1)) : mput m k v = m ++ [(k, v)] := by
  unfold mput
  cases hm : mfind m k with
  | none => rfl
  | some i => obtain ⟨v', h1, _⟩ := mfind_some hm; exact absurd (List.mem_map.2 ⟨_, List.mem_of_getElem? h1, rfl⟩) h
theorem mput_old {m : List (Int × Int)} {k v : Int} (h : k ∈ m.map (·.1)) : (mput m k v).map (·.1) = m.map (·.1) := by
  unfold mput
  cases hm : mfind m k with
  | none => exact absurd h (mfind_none hm).2
  | some i =>
    obtain ⟨v', h1, _⟩ := mfind_some hm
    rw [List.map_set]
    obtain ⟨hlt, e⟩ := List.getElem?_eq_some_iff.1 h1
    apply List.ext_getElem?
    intro j
    rw [List.getElem?_set]
    by_cases hj : i = j
    · subst hj; simp [hlt, e]
    · simp [hj]
theorem putAll_new : ∀ (ps m : List (Int × Int)), (m.map (·.1) ++ ps.map (·.1)).Nodup → putAll m ps = m ++ ps := by
  intro ps
  induction ps with
  | nil => intro m _; simp [putAll]
  | cons p ps ih =>
    intro m h
    have hk : p.1 ∉ m.map (·.1) := fun hm => by
      rw [List.nodup_append] at h
      exact h.2.2 p.1 hm p.1 (by simp) rfl
    show putAll (mput m p.1 p.2) ps = _
    rw [mput_new hk, ih _ (by rw [List.map_append, List.append_assoc]; exact h), List.append_assoc]; rfl
theorem putAll_len : ∀ (ps m : List (Int × Int)), (m.map (·.1)).Nodup → (putAll m ps).length ≤ m.length + ps.length ∧ ((putAll m ps).length = m.length + ps.length → (m.map (·.1) ++ ps.map (·.1)).Nodup) := by
  intro ps
  induction ps with
  | nil => intro m h; exact ⟨by simp [putAll], fun _ => by simpa using h⟩
  | cons p ps ih =>
    intro m h
    show (putAll (mput m p.1 p.2) ps).length ≤ _ ∧ _
    by_cases hk : p.1 ∈ m.map (·.1)
    · have e := mput_old (v := p.2) hk
      have el : (mput m p.1 p.2).length = m.length := by have := congrArg List.length e; simpa using this
      obtain ⟨h1, _⟩ := ih (mput m p.1 p.2) (by rw [e]; exact h)
      rw [el] at h1
      simp only [List.length_cons]
      exact ⟨by omega, fun h2 => by have : (putAll (mput m p.1 p.2) ps).length = m.length + (ps.length + 1) := h2; omega⟩
    · have e := mput_new (v := p.2) hk
      obtain ⟨h1, h2⟩ := ih (mput m p.1 p.2) (by rw [e, List.map_append, List.nodup_append]; exact ⟨h, by simp, fun a ha b hb => by simp at hb; subst hb; exact fun e => hk (e ▸ ha)⟩)
      rw [e] at h1 h2
      simp only [List.length_append, List.length_cons, List.length_nil] at h1 h2
      simp only [List.length_cons]
      rw [e]
      refine ⟨by omega, fun h3 => ?_⟩
      have h3' : (putAll (m ++ [(p.1, p.2)]) ps).length = m.length + (ps.length + 1) := by rw [← e]; exact h3
      have := h2 (by omega)
      rw [List.map_append, List.append_assoc] at this
      exact this
theorem mget_pairs : ∀ (layers : List (List Int)) (d : Nat) (k : Int), mget (pairs d layers) k = (posn layers k).map fun r => ((d + r : Nat) : Int) := by
  intro layers
  induction layers with
  | nil => intro d k; rfl
  | cons row rest ih =>
    intro d k
    have hf : ∀ row : List Int, (row.map (fun k => (k, (d : Int)))).find? (fun p => decide (p.1 = k)) = if k ∈ row then some (k, (d : Int)) else none := by
      intro row
      induction row with
      | nil => rfl
      | cons x row ih2 =>
        rw [List.map_cons, List.find?_cons, ih2]
        by_cases h : x = k
        · subst h; simp
        · have h2 : ¬ k = x := fun e => h e.symm
          simp [h, h2]
    rw [posn_cons]
    have e : mget (pairs d (row :: rest)) k = if k ∈ row then some (d : Int) else mget (pairs (d + 1) rest) k := by
      unfold mget
      show Option.map _ ((row.map (fun k => (k, (d : Int))) ++ pairs (d + 1) rest).find? _) = _
      rw [List.find?_append, hf]
      by_cases h : k ∈ row
      · rw [if_pos h, if_pos h]; rfl
      · rw [if_neg h, if_neg h]; rfl
    rw [e]
    by_cases h : k ∈ row
    · rw [if_pos h, if_pos h]; simp
    · rw [if_neg h, if_neg h, ih]
      cases posn rest k with
      | none => rfl
      | some r => simp only [Option.map_some]; congr 1; omega
theorem sorted_ok {x : List Int} (hx : x.length ≤ 1048576) : ∃ b, slices_IsSorted_int_int x = some b ∧ (b = true ↔ x.Pairwise (· ≤ ·)) := by
  have hstep : ∀ i : Nat, 0 < i → i < x.length → slices_IsSorted_int_int_l2 x (i : Int) = some (if x[i]! < x[i - 1]! then .inr (.inl false) else .inl ((i - 1 : Nat) : Int)) := by
    intro i h0 hi
    unfold slices_IsSorted_int_int_l2 cmp_Less_int cmp_isNaN_int
    rw [cnd_dec, if_pos (by omega), idx_get hi]
    simp only [Option.bind_some]
    rw [i64ok (by omega) (by omega), show (i : Int) - 1 = ((i - 1 : Nat) : Int) by omega, idx_get (by omega)]
    simp only [Option.bind_some, cnd_dec]
    rw [getElem!_pos x i hi, getElem!_pos x (i - 1) (by omega)]
    split <;> rfl
  have key : ∀ i : Nat, i < x.length → loop (σ := Int) (ρ := (Bool ⊕ Unit)) (fun s_ => slices_IsSorted_int_int_l2 x s_) (i : Int) = some (.inr ()) ∧ (∀ j, j < i → x[j]! ≤ x[j + 1]!) ∨ loop (σ := Int) (ρ := (Bool ⊕ Unit)) (fun s_ => slices_IsSorted_int_int_l2 x s_) (i : Int) = some (.inl false) ∧ ¬ (∀ j, j < i → x[j]! ≤ x[j + 1]!) := by
    intro i
    induction i with
    | zero =>
      intro hi
      refine .inl ⟨loop_inr ?_, fun j h => absurd h (Nat.not_lt_zero _)⟩
      unfold slices_IsSorted_int_int_l2
      rw [cnd_dec, if_neg (by simp)]
    | succ i ih =>
      intro hi
      have hs := hstep (i + 1) (by omega) hi
      by_cases h : x[i + 1]! < x[i + 1 - 1]!
      · rw [if_pos h] at hs
        exact .inr ⟨loop_inr hs, fun hall => by have := hall i (by omega); rw [Nat.add_sub_cancel] at h; omega⟩
      · rw [if_neg h] at hs
        rw [loop_inl hs, Nat.add_sub_cancel]
        rw [Nat.add_sub_cancel] at h
        rcases ih (by omega) with ⟨h1, h2⟩ | ⟨h1, h2⟩
        · refine .inl ⟨h1, fun j hj => ?_⟩
          rcases Nat.lt_or_eq_of_le (Nat.le_of_lt_succ hj) with hj | rfl
          · exact h2 j hj
          · omega
        · exact .inr ⟨h1, fun hall => h2 fun j hj => hall j (by omega)⟩
  have hchain : (∀ j, j < x.length - 1 → x[j]! ≤ x[j + 1]!) ↔ x.Pairwise (· ≤ ·) := by
    constructor
    · intro h
      rw [List.pairwise_iff_getElem]
      intro i j hi hj hij
      have : ∀ d, i + d < x.length → x[i]! ≤ x[i + d]! := by
        intro d
        induction d with
        | zero => intro _; exact Int.le_refl _
        | succ d ih => intro hd; exact Int.le_trans (ih (by omega)) (h (i + d) (by omega))
      have h2 := this (j - i) (by omega)
      rw [show i + (j - i) = j by omega, getElem!_pos x i hi, getElem!_pos x j hj] at h2
      exact h2
    · intro h j hj
      rw [getElem!_pos x j (by omega), getElem!_pos x (j + 1) (by omega)]
      exact List.pairwise_iff_getElem.1 h j (j + 1) (by omega) (by omega) (by omega)
  unfold slices_IsSorted_int_int
  by_cases hx0 : x.length = 0
  · rw [i64ok (by omega) (by omega), loop_inr (r := .inr ()) (by unfold slices_IsSorted_int_int_l2; rw [cnd_dec, if_neg (by omega)])]
    refine ⟨true, rfl, ?_⟩
    rw [List.length_eq_zero_iff.1 hx0]; simp
  · rw [i64ok (by omega) (by omega), show (x.length : Int) - 1 = ((x.length - 1 : Nat) : Int) by omega]
    rcases key (x.length - 1) (by omega) with ⟨h1, h2⟩ | ⟨h1, h2⟩
    · rw [h1]; exact ⟨true, rfl, by simp only [true_iff]; exact hchain.1 h2⟩
    · rw [h1]; exact ⟨false, rfl, by simp only [Bool.false_eq_true, false_iff]; exact fun hp => h2 (hchain.2 hp)⟩
theorem div_l9 {x : List Int} {d : Nat} (hx : x.length ≤ 1048576) (m : List (Int × Int)) (c : Nat) (hc : c ≤ 1048576) :
    loop (σ := (List (Int × Int)) × Int × Int) (ρ := (List (Int × Int)) × Int) (fun s_ => tourref3_Divided_l9 x (d : Int) s_.1 s_.2.1 s_.2.2) (m, (c : Int), 0) = some (putAll m (x.map fun k => (k, (d : Int))), ((c + x.length : Nat) : Int)) := by
  have e := loop_to (step := fun s_ : (List (Int × Int)) × Int × Int => tourref3_Divided_l9 x (d : Int) s_.1 s_.2.1 s_.2.2) (fun i => (putAll m ((x.take i).map fun k => (k, (d : Int))), ((c + i : Nat) : Int), (i : Int))) x.length (r := (putAll m (x.map fun k => (k, (d : Int))), ((c + x.length : Nat) : Int))) (fun i hi => by
    show tourref3_Divided_l9 x (d : Int) (putAll m ((x.take i).map fun k => (k, (d : Int)))) ((c + i : Nat) : Int) (i : Int) = _
    unfold tourref3_Divided_l9
    rw [cnd_dec, if_pos (by omega), idx_get hi]
    simp only [Option.bind_some]
    rw [i64ok (by omega) (by omega), i64ok (by omega) (by omega), List.take_succ_eq_append_getElem hi, List.map_append]
    unfold putAll
    rw [List.foldl_append]; rfl) (by
    show tourref3_Divided_l9 x (d : Int) (putAll m ((x.take x.length).map fun k => (k, (d : Int)))) ((c + x.length : Nat) : Int) (x.length : Int) = _
    unfold tourref3_Divided_l9
    rw [cnd_dec, if_neg (by omega), List.take_length])
  exact e
theorem div_rows {layers : List (List Int)} (hd : layers.length ≤ 1048576) : ∀ (n d : Nat) (m : List (Int × Int)) (c : Nat), d + n = layers.length → c + ((layers.drop d).map List.length).sum ≤ 1048576 → (∀ r ∈ layers, r.length ≤ 1048576) →
    (loop (σ := (List (Int × Int)) × Int × Int) (ρ := (Bool ⊕ (List (Int × Int)) × Int)) (fun s_ => tourref3_Divided_l7 layers s_.1 s_.2.1 s_.2.2) (m, (c : Int), (d : Int)) = some (.inr (putAll m (pairs d (layers.drop d)), ((c + ((layers.drop d).map List.length).sum : Nat) : Int))) ∧ ∀ r ∈ layers.drop d, r.Pairwise (· ≤ ·)) ∨
    (loop (σ := (List (Int × Int)) × Int × Int) (ρ := (Bool ⊕ (List (Int × Int)) × Int)) (fun s_ => tourref3_Divided_l7 layers s_.1 s_.2.1 s_.2.2) (m, (c : Int), (d : Int)) = some (.inl false) ∧ ¬ ∀ r ∈ layers.drop d, r.Pairwise (· ≤ ·)) := by
  intro n
  induction n with
  | zero =>
    intro d m c hi hc hr
    rw [Nat.add_zero] at hi; subst hi
    refine .inl ⟨?_, by simp⟩
    rw [List.drop_length, loop_inr (r := .inr (m, (c : Int))) (by
      show tourref3_Divided_l7 layers m (c : Int) (layers.length : Int) = _
      unfold tourref3_Divided_l7
      rw [cnd_dec, if_neg (by omega)])]
    rfl
  | succ n ih =>
    intro d m c hi hc hr
    have hdl : d < layers.length := by omega
    have hrow := hr _ (List.getElem_mem hdl)
    rw [List.drop_eq_getElem_cons hdl] at hc ⊢
    simp only [List.map_cons, List.sum_cons] at hc ⊢
    obtain ⟨b, hb1, hb2⟩ := sorted_ok hrow
    have hstep : tourref3_Divided_l7 layers m (c : Int) (d : Int) = if b = true then some (.inl (putAll m (layers[d].map fun k => (k, (d : Int))), ((c + layers[d].length : Nat) : Int), ((d + 1 : Nat) : Int))) else some (.inr (.inl false)) := by
      unfold tourref3_Divided_l7
      rw [cnd_dec, if_pos (by omega), idx_get hdl]
      simp only [Option.bind_some]
      rw [hb1]
      simp only [Option.bind_some]
      rw [cnd_not, cnd_ite]
      by_cases h : b = true
      · rw [if_pos h, if_pos h, div_l9 hrow m c (by omega)]
        simp only [Option.bind_some]
        unfold tourref3_Divided_j8
        rw [i64ok (by omega) (by omega)]; rfl
      · rw [if_neg h, if_neg h]
    by_cases h : b = true
    · rw [if_pos h] at hstep
      rw [loop_inl hstep]
      have hp : putAll m (pairs d (layers[d] :: layers.drop (d + 1))) = putAll (putAll m (layers[d].map fun k => (k, (d : Int)))) (pairs (d + 1) (layers.drop (d + 1))) := by
        show putAll m (layers[d].map (fun k => (k, (d : Int))) ++ pairs (d + 1) (layers.drop (d + 1))) = _
        unfold putAll; rw [List.foldl_append]
      rcases ih (d + 1) (putAll m (layers[d].map fun k => (k, (d : Int)))) (c + layers[d].length) (by omega) (by omega) hr with ⟨h1, h2⟩ | ⟨h1, h2⟩
      · refine .inl ⟨?_, fun r hr' => ?_⟩
        · rw [h1, hp, show c + layers[d].length + ((layers.drop (d + 1)).map List.length).sum = c + (layers[d].length + ((layers.drop (d + 1)).map List.length).sum) by omega]
        · rcases List.mem_cons.1 hr' with rfl | hr'
          · exact hb2.1 h
          · exact h2 r hr'
      · exact .inr ⟨h1, fun hall => h2 fun r hr' => hall r (List.mem_cons_of_mem _ hr')⟩
    · rw [if_neg h] at hstep
      rw [loop_inr hstep]
      exact .inr ⟨rfl, fun hall => h (hb2.2 (hall _ List.mem_cons_self))⟩
theorem div_l5 {l : List api_System} (hs : ∀ a ∈ l, sysOK a) (hn : l.length ≤ 1048576) (W : List (Int × Int)) (x : Int) {i : Nat} (hi : i < l.length) :
    loop (σ := Int) (ρ := (Bool ⊕ Unit)) (fun s_ => tourref3_Divided_l5 (i : Int) l W x s_) 0 = some (if (List.range i).any (fun j => cl l j i && decide (x ≤ (mget W (j : Int)).getD 0)) = true then .inl false else .inr ()) :=
  loop_any (List.range i) (fun j => (j : Int)) (fun j => cl l j i && decide (x ≤ (mget W (j : Int)).getD 0)) false () (fun j hj => by
    show tourref3_Divided_l5 (i : Int) l W x (j : Int) = _
    have hj' : j < i := by simpa using hj
    have hjl : j < l.length := by omega
    unfold tourref3_Divided_l5
    simp only [List.getElem_range]
    rw [cnd_dec, if_pos (by omega), idx_get hi]
    simp only [Option.bind_some]
    rw [idx_get hjl]
    simp only [Option.bind_some]
    rw [rconf (hs _ (List.getElem_mem hi)) (hs _ (List.getElem_mem hjl)), clash_symm, ← cl_eq hjl hi]
    simp only [Option.bind_some, cnd_ite]
    have hj6 : tourref3_Divided_j6 (j : Int) = some (.inl ((j + 1 : Nat) : Int)) := by unfold tourref3_Divided_j6; rw [i64ok (by omega) (by omega)]; rfl
    by_cases hc : cl l j i = true
    · rw [if_pos hc]
      simp only [hc, Bool.true_and, decide_eq_true_eq]
      by_cases h : x ≤ (mget W (j : Int)).getD 0
      · rw [if_pos h, if_pos h]
      · rw [if_neg h, if_neg h, hj6]
    · rw [if_neg hc, hj6, if_neg (by simp [hc])]) (by
    show tourref3_Divided_l5 (i : Int) l W x ((List.range i).length : Int) = _
    unfold tourref3_Divided_l5
    rw [cnd_dec, if_neg (by simp)])
def divBad (l : List api_System) (W : List (Int × Int)) (i : Nat) : Bool := !(mget W (i : Int)).isSome || (List.range i).any (fun j => cl l j i && decide ((mget W (i : Int)).getD 0 ≤ (mget W (j : Int)).getD 0))
theorem div_l3 {l : List api_System} (hs : ∀ a ∈ l, sysOK a) (hn : l.length ≤ 1048576) (W : List (Int × Int)) :
    loop (σ := Int) (ρ := (Bool ⊕ Unit)) (fun s_ => tourref3_Divided_l3 l W s_) 0 = some (if (List.range l.length).any (divBad l W) = true then .inl false else .inr ()) :=
  loop_any (List.range l.length) (fun j => (j : Int)) (divBad l W) false () (fun i hi => by
    show tourref3_Divided_l3 l W (i : Int) = _
    have hi' : i < l.length := by simpa using hi
    unfold tourref3_Divided_l3 divBad
    simp only [List.getElem_range]
    rw [cnd_dec, if_pos (by omega)]
    simp only [Option.bind_some]
    rw [cnd_ite, div_l5 hs hn W _ hi']
    by_cases h0 : (!(mget W (i : Int)).isSome) = true
    · rw [if_pos h0, h0]; rfl
    · rw [if_neg h0, Bool.eq_false_iff.2 h0, Bool.false_or]
      simp only [Option.bind_some]
      by_cases h : (List.range i).any (fun j => cl l j i && decide ((mget W (i : Int)).getD 0 ≤ (mget W (j : Int)).getD 0)) = true
      · rw [if_pos h, if_pos h]; rfl
      · rw [if_neg h, if_neg h]
        show tourref3_Divided_j4 (i : Int) = _
        unfold tourref3_Divided_j4
        rw [i64ok (by omega) (by omega)]; rfl) (by
    show tourref3_Divided_l3 l W ((List.range l.length).length : Int) = _
    unfold tourref3_Divided_l3
    rw [cnd_dec, if_neg (by simp)])
theorem divided_ok {l : List api_System} {layers : List (List Int)} (hs : ∀ a ∈ l, sysOK a) (hn : l.length ≤ 1048576) (hd : layers.length ≤ 1048576) (hf : layers.flatten.length ≤ 1048576) : ∃ b, tourref3_Divided l layers = some b ∧ (b = true ↔ Good l layers) := by
  have hrl : ∀ r ∈ layers, r.length ≤ 1048576 := fun r hr => by
    have := List.Sublist.length_le (List.sublist_flatten_of_mem hr); omega
  unfold tourref3_Divided
  have e := div_rows (layers := layers) hd layers.length 0 [] 0 (by omega) (by rw [List.drop_zero, sum_flatten]; omega) hrl
  rw [List.drop_zero, sum_flatten, Nat.zero_add] at e
  rcases e with ⟨e, hso⟩ | ⟨e, hso⟩
  · have e' : loop (σ := (List (Int × Int)) × Int × Int) (ρ := (Bool ⊕ (List (Int × Int)) × Int)) (fun s_ => tourref3_Divided_l7 layers s_.1 s_.2.1 s_.2.2) (([] : List (Int × Int)), 0, 0) = _ := e
    rw [e']
    show ∃ b, tourref3_Divided_j1 l (putAll [] (pairs 0 layers)) (layers.flatten.length : Int) = some b ∧ _
    unfold tourref3_Divided_j1
    obtain ⟨g1, g2⟩ := putAll_len (pairs 0 layers) [] (by simp)
    have hpl : (pairs 0 layers).length = layers.flatten.length := by rw [← pairs_keys layers 0, List.length_map]
    rw [cnd_not, cnd_beq]
    by_cases hl : (layers.flatten.length : Int) = (l.length : Int)
    · rw [if_pos hl, cnd_not, cnd_beq]
      have hl' : layers.flatten.length = l.length := by omega
      by_cases hw : ((putAll [] (pairs 0 layers)).length : Int) = (l.length : Int)
      · rw [if_pos hw]
        have hnd := g2 (by simp only [List.length_nil]; omega)
        have hW : putAll [] (pairs 0 layers) = pairs 0 layers := putAll_new _ _ hnd
        rw [List.map_nil, List.nil_append, pairs_keys] at hnd
        rw [div_l3 hs hn, hW]
        have hfr : ∀ i, divBad l (pairs 0 layers) i = true ↔ (posn layers (i : Int) = none ∨ ∃ j, j < i ∧ cl l j i = true ∧ ((posn layers (i : Int)).getD 0 ≤ (posn layers (j : Int)).getD 0)) := by
          intro i
          unfold divBad
          have hm : ∀ k : Nat, (mget (pairs 0 layers) (k : Int)).getD 0 = (((posn layers (k : Int)).getD 0 : Nat) : Int) := fun k => by
            rw [mget_pairs]; cases posn layers (k : Int) <;> simp
          simp only [Bool.or_eq_true, Bool.not_eq_true', List.any_eq_true, List.mem_range, Bool.and_eq_true, decide_eq_true_eq, hm]
          rw [mget_pairs]
          constructor
          · rintro (h | ⟨j, h1, h2, h3⟩)
            · exact .inl (by cases hp : posn layers (i : Int) with | none => rfl | some r => rw [hp] at h; cases h)
            · exact .inr ⟨j, h1, h2, by omega⟩
          · rintro (h | ⟨j, h1, h2, h3⟩)
            · exact .inl (by rw [h]; rfl)
            · exact .inr ⟨j, h1, h2, by omega⟩
        by_cases h : (List.range l.length).any (divBad l (pairs 0 layers)) = true
        · rw [if_pos h]
          refine ⟨false, rfl, ?_⟩
          simp only [Bool.false_eq_true, false_iff]
          intro hG
          rw [List.any_eq_true] at h
          obtain ⟨i, hi, hb⟩ := h
          rw [List.mem_range] at hi
          have hpi := posn_isSome.2 (hG.form.has hl' hi)
          rcases (hfr i).1 hb with h0 | ⟨j, hj, hc, hle⟩
          · rw [h0] at hpi; cases hpi
          · have hpj := posn_isSome.2 (hG.form.has hl' (k := j) (by omega))
            obtain ⟨p, hp⟩ := Option.isSome_iff_exists.1 hpi
            obtain ⟨q, hq⟩ := Option.isSome_iff_exists.1 hpj
            have := hG.keep i hi j hj hc q p hq hp
            rw [hp, hq] at hle
            simp only [Option.getD_some] at hle; omega
        · rw [if_neg h]
          refine ⟨true, rfl, ?_⟩
          simp only [true_iff]
          have hall : ∀ i, i < l.length → (posn layers (i : Int)).isSome = true := fun i hi => by
            cases hp : posn layers (i : Int) with
            | some r => rfl
            | none => exact absurd (List.any_eq_true.2 ⟨i, List.mem_range.2 hi, (hfr i).2 (.inl hp)⟩) h
          refine ⟨⟨fun r hr => ?_, fun k hk => ?_, hnd⟩, hl', fun i hi j hj hc q p hq hp => ?_⟩
          · have hrn : r.Nodup := (List.sublist_flatten_of_mem hr).nodup hnd
            have h1 := hso r hr
            rw [List.nodup_iff_pairwise_ne] at hrn
            exact (h1.and hrn).imp fun ⟨a, b⟩ => by omega
          · exact mem_rangeI.1 (nodup_all (range_nodup l.length) (l2 := layers.flatten) (fun x hx => by
              obtain ⟨hx0, hx1⟩ := mem_rangeI.1 hx
              have := posn_isSome.1 (hall x.toNat (by omega))
              rwa [Int.toNat_of_nonneg hx0] at this) (by rw [List.length_map, List.length_range]; omega) k hk)
          · apply Classical.byContradiction
            intro hn2
            exact h (List.any_eq_true.2 ⟨i, List.mem_range.2 hi, (hfr i).2 (.inr ⟨j, hj, hc, by rw [hp, hq]; simp only [Option.getD_some]; omega⟩)⟩)
      · rw [if_neg hw]
        refine ⟨false, rfl, ?_⟩
        simp only [Bool.false_eq_true, false_iff]
        intro hG
        have hnd : (([] : List (Int × Int)).map (·.1) ++ (pairs 0 layers).map (·.1)).Nodup := by rw [pairs_keys]; exact hG.form.one
        rw [putAll_new _ _ hnd] at hw
        exact hw (by simp only [List.nil_append]; omega)
    · rw [if_neg hl]
      refine ⟨false, rfl, ?_⟩
      simp only [Bool.false_eq_true, false_iff]
      intro hG
      exact hl (by rw [hG.all])
  · have e' : loop (σ := (List (Int × Int)) × Int × Int) (ρ := (Bool ⊕ (List (Int × Int)) × Int)) (fun s_ => tourref3_Divided_l7 layers s_.1 s_.2.1 s_.2.2) (([] : List (Int × Int)), 0, 0) = _ := e
    rw [e']
    refine ⟨false, rfl, ?_⟩
    simp only [Bool.false_eq_true, false_iff]
    intro hG
    exact hso fun r hr => (hG.form.up r hr).imp fun h => Int.le_of_lt h
/-! ### Layers' own division is right, and no right one has fewer layers -/
theorem posn_of {layers : List (List Int)} (hn : layers.flatten.Nodup) {r : Nat} (hr : r < layers.length) {k : Int} (hk : k ∈ layers[r]) : posn layers k = some r := by
  unfold posn
  rw [List.findIdx?_eq_some_iff_getElem]
  refine ⟨hr, by simpa using hk, fun j hj => ?_⟩
  have hp := (List.pairwise_flatten.1 (List.nodup_iff_pairwise_ne.1 hn)).2
  have := List.pairwise_iff_getElem.1 hp j r (by omega) hr hj
  intro hc
  exact this k (by simpa using hc) k hk rfl
theorem posn_at {layers : List (List Int)} {r : Nat} {k : Int} (h : posn layers k = some r) : ∃ hr : r < layers.length, k ∈ layers[r] := by
  unfold posn at h
  rw [List.findIdx?_eq_some_iff_getElem] at h
  obtain ⟨hr, h1, _⟩ := h
  exact ⟨hr, by simpa using h1⟩
theorem rows_good {l : List api_System} {ds : List Int} (hd : Dep l ds l.length) : Good l (rowsOf ds l.length (topOf ds l.length)) := by
  have hlen : (rowsOf ds l.length (topOf ds l.length)).length = topOf ds l.length := by simp [rowsOf]
  have hget : ∀ r (h : r < (rowsOf ds l.length (topOf ds l.length)).length), (rowsOf ds l.length (topOf ds l.length))[r] = lay ds l.length r := fun r h => by simp [rowsOf]
  have hup : ∀ r ∈ rowsOf ds l.length (topOf ds l.length), r.Pairwise (· < ·) := fun r hr => by
    obtain ⟨q, _, rfl⟩ := List.mem_map.1 hr
    unfold lay
    rw [List.pairwise_map]
    exact (List.pairwise_lt_range.sublist List.filter_sublist).imp fun h => by omega
  have hnd : (rowsOf ds l.length (topOf ds l.length)).flatten.Nodup := by
    rw [List.nodup_iff_pairwise_ne, List.pairwise_flatten]
    refine ⟨fun r hr => List.nodup_iff_pairwise_ne.1 (lt_nodup (hup r hr)), ?_⟩
    rw [List.pairwise_iff_getElem]
    intro i j hi hj hij
    rw [hget i hi, hget j hj]
    intro x hx _ hx2 e0
    subst e0
    obtain ⟨k, rfl, _, h1⟩ := lay_mem.1 hx
    obtain ⟨k', e, _, h2⟩ := lay_mem.1 hx2
    obtain rfl : k = k' := by omega
    omega
  have hmem : ∀ k, k < l.length → ∃ hr : (gd ds k).toNat - 1 < (rowsOf ds l.length (topOf ds l.length)).length, (k : Int) ∈ (rowsOf ds l.length (topOf ds l.length))[(gd ds k).toNat - 1] := fun k hk => by
    have h1 := hd.pos k hk
    have h2 := topOf_ge ds l.length k hk
    refine ⟨by omega, ?_⟩
    rw [hget _ (by omega)]
    exact lay_mem.2 ⟨k, rfl, hk, by omega⟩
  have hran : ∀ k ∈ (rowsOf ds l.length (topOf ds l.length)).flatten, 0 ≤ k ∧ k < (l.length : Int) := fun k hk => by
    obtain ⟨r, hr, hkr⟩ := List.mem_flatten.1 hk
    obtain ⟨q, _, rfl⟩ := List.mem_map.1 hr
    obtain ⟨k', rfl, h1, _⟩ := lay_mem.1 hkr
    omega
  have hpos : ∀ k, k < l.length → posn (rowsOf ds l.length (topOf ds l.length)) (k : Int) = some ((gd ds k).toNat - 1) := fun k hk => by
    obtain ⟨hr, hk'⟩ := hmem k hk; exact posn_of hnd hr hk'
  refine ⟨⟨hup, hran, hnd⟩, ?_, fun i hi j hj hc a b ha hb => ?_⟩
  · apply Nat.le_antisymm
    · have := nodup_le hnd (l2 := (List.range l.length).map fun k : Nat => (k : Int)) (fun x hx => mem_rangeI.2 (hran x hx)); simpa using this
    · have := nodup_le (range_nodup l.length) (l2 := (rowsOf ds l.length (topOf ds l.length)).flatten) (fun x hx => by
        obtain ⟨h0, h1⟩ := mem_rangeI.1 hx
        refine posn_isSome.1 ?_
        have := hpos x.toNat (by omega)
        rw [Int.toNat_of_nonneg h0] at this
        rw [this]; rfl)
      simpa using this
  · rw [hpos i hi] at hb
    rw [hpos j (by omega)] at ha
    obtain rfl := Option.some.inj ha
    obtain rfl := Option.some.inj hb
    have := hd.up i hi j hj hc
    have := hd.pos j (by omega)
    have := hd.pos i hi
    omega
def full (layers : List (List Int)) : Nat := (layers.map fun r => min r.length 1).sum
theorem full_take_succ {layers : List (List Int)} {m : Nat} (h : m < layers.length) : full (layers.take (m + 1)) = full (layers.take m) + min layers[m].length 1 := by
  unfold full; rw [List.take_succ_eq_append_getElem h, List.map_append, List.sum_append]; simp
theorem full_mono {layers : List (List Int)} {m : Nat} : ∀ d, full (layers.take m) ≤ full (layers.take (m + d)) := by
  intro d
  induction d with
  | zero => exact Nat.le_refl _
  | succ d ih =>
    by_cases h : m + d < layers.length
    · rw [← Nat.add_assoc, full_take_succ h]; omega
    · rw [← Nat.add_assoc, List.take_of_length_le (i := m + d + 1) (by omega)]
      rw [List.take_of_length_le (i := m + d) (by omega)] at ih
      exact ih
theorem full_ge {l : List api_System} {layers : List (List Int)} (hG : Good l layers) {ds : List Int} (hd : Dep l ds l.length) : ∀ (i : Nat), i < l.length → ∀ r, posn layers (i : Int) = some r → gd ds i ≤ (full (layers.take (r + 1)) : Int) := by
  intro i
  induction i using Nat.strongRecOn with
  | _ i ih =>
    intro hi r hr
    obtain ⟨hrl, hm⟩ := posn_at hr
    have hne : 1 ≤ layers[r].length := List.length_pos_of_mem hm
    have h1 := full_take_succ hrl
    rw [Nat.min_eq_right hne] at h1
    rcases hd.why i hi with e | ⟨j, hj, hc, e⟩
    · omega
    · obtain ⟨q, hq⟩ := Option.isSome_iff_exists.1 (posn_isSome.2 (hG.form.has hG.all (k := j) (by omega)))
      have hlt := hG.keep i hi j hj hc q r hq hr
      have h2 := ih j hj (by omega) q hq
      have h3 := full_mono (layers := layers) (m := q + 1) (r - (q + 1))
      rw [show q + 1 + (r - (q + 1)) = r by omega] at h3
      omega
theorem full_top {l : List api_System} {layers : List (List Int)} (hG : Good l layers) {ds : List Int} (hd : Dep l ds l.length) : topOf ds l.length ≤ full layers := by
  rcases topOf_is ds l.length with e | ⟨k, hk, e⟩
  · omega
  · obtain ⟨q, hq⟩ := Option.isSome_iff_exists.1 (posn_isSome.2 (hG.form.has hG.all hk))
    have h1 := full_ge hG hd k hk q hq
    have h2 := full_mono (layers := layers) (m := q + 1) layers.length
    rw [List.take_of_length_le (i := q + 1 + layers.length) (by omega)] at h2
    omega
theorem full_loop {layers : List (List Int)} (hd : layers.length ≤ 1048576) : loop (σ := Int × Int) (ρ := Int) (fun s_ => tourlaw3_PlanRight_l3 layers s_.1 s_.2) (0, 0) = some (full layers : Int) := by
  have hle : ∀ m, full (layers.take m) ≤ m := fun m => by
    have : ∀ l : List (List Int), full l ≤ l.length := by
      intro l
      induction l with
      | nil => exact Nat.le_refl _
      | cons a l ih => unfold full at ih ⊢; simp only [List.map_cons, List.sum_cons, List.length_cons]; omega
    have h1 := this (layers.take m)
    have h2 := List.length_take_le m layers
    omega
  have e := loop_to (step := fun s_ : Int × Int => tourlaw3_PlanRight_l3 layers s_.1 s_.2) (fun i => ((full (layers.take i) : Int), (i : Int))) layers.length (r := (full layers : Int)) (fun i hi => by
    show tourlaw3_PlanRight_l3 layers (full (layers.take i) : Int) (i : Int) = _
    unfold tourlaw3_PlanRight_l3
    rw [cnd_dec, if_pos (by omega), idx_get hi]
    simp only [Option.bind_some]
    have := hle i
    rw [i64ok (by omega) (by omega), i64ok (by omega) (by omega), full_take_succ hi]
    congr 3
    omega) (by
    show tourlaw3_PlanRight_l3 layers (full (layers.take layers.length) : Int) (layers.length : Int) = _
    unfold tourlaw3_PlanRight_l3
    rw [cnd_dec, if_neg (by omega), List.take_length])
  exact e
theorem bkl_flatten {layers : List (List Int)} : layers.flatten.length ≤ (bkl (bkl bk1)) layers := by
  unfold bkl
  induction layers with
  | nil => simp
  | cons r l ih =>
    have h1 := bkl_len (b := @bk1 Int) (fun _ => Nat.le_refl 1) r
    simp only [List.flatten_cons, List.length_append, List.map_cons, List.sum_cons]
    unfold bkl at h1
    omega
theorem sys_ok {a : api_System} (h : ok_api_System a) : sysOK a := by
  obtain ⟨_, _, _, h1, h2, _, _⟩ := h
  have e1 := h1.1; have e2 := h2.1
  exact ⟨by omega, by omega⟩
theorem PlanRight_true (l : List api_System) (layers : List (List Int)) (h0 : (okl 160 ok_api_System) l) (h1 : (okl 24 (okl 8 (okk .i64))) layers) (hb : (bkl bk_api_System) l + (bkl (bkl bk1)) layers ≤ 1048576) : tourlaw3_PlanRight l layers = some true := by
  have hs : ∀ a ∈ l, sysOK a := fun a ha => sys_ok (h0.2 a ha)
  have hn : l.length ≤ 1048576 := by
    have := bkl_len (b := bk_api_System) (fun a => by unfold bk_api_System; omega) l; omega
  have hd : layers.length ≤ 1048576 := by
    have := bkl_len (b := bkl (@bk1 Int)) (fun a => by unfold bkl; omega) layers; omega
  have hf : layers.flatten.length ≤ 1048576 := by have := bkl_flatten (layers := layers); omega
  unfold tourlaw3_PlanRight
  rw [layered_ok]
  simp only [Option.bind_some]
  rw [cnd_not, cnd_true]
  unfold tourlaw3_older
  simp only [bnd2_some]
  obtain ⟨b0, e0, g0⟩ := right_ok (l := ([(api_System.mk (⟨#[111, 108, 100, 101, 114]⟩) [0] [] [] [0] [(api_Op.mk 1 (api_Ref.mk 0 0) (api_Arg.mk true 0 (api_Ref.mk 0 0)) (api_Arg.mk false 1 (api_Ref.mk 0 0))), (api_Op.mk 12 (api_Ref.mk 0 0) (api_Arg.mk false 1 (api_Ref.mk 0 0)) (api_Arg.mk true 0 (api_Ref.mk 0 0)))] [])] : List api_System)) (layers := ([([0] : List Int)] : List (List Int))) (fun a ha => by obtain rfl := List.mem_singleton.1 ha; exact ⟨by simp, by simp⟩) (by simp) (by simp) (by simp)
  obtain rfl : b0 = true := g0.2 ⟨⟨by simp, by simp, by simp⟩, by simp, fun i hi j hj => by simp at hi; omega⟩
  rw [e0]
  simp only [Option.bind_some]
  rw [cnd_not, cnd_true]
  obtain ⟨b1, e1, g1⟩ := right_ok hs hn hd hf
  obtain ⟨b2, e2, g2⟩ := divided_ok hs hn hd hf
  rw [e1]
  simp only [Option.bind_some]
  rw [e2]
  simp only [Option.bind_some]
  obtain rfl : b1 = b2 := by rw [Bool.eq_iff_iff, g1, g2]
  rw [cnd_neg (by simp)]
  by_cases hl : 24 < l.length
  · rw [layers_big hl]
    simp only [bnd2_some]
    rw [cnd_not, cnd_beq, if_neg (by decide)]
    exact congrArg some (decide_eq_true (by omega))
  · obtain ⟨ds, hdl, hD, e3⟩ := layers_ok hs (by omega)
    rw [e3]
    simp only [bnd2_some]
    rw [cnd_not, cnd_beq, if_pos rfl, full_loop hd]
    simp only [Option.bind_some]
    unfold tourlaw3_PlanRight_j1
    have hR := rows_good hD
    have htop : topOf ds l.length ≤ l.length := by
      rcases topOf_is ds l.length with e | ⟨k, hk, e⟩
      · omega
      · have := hD.pos k hk; omega
    obtain ⟨b3, e4, g4⟩ := right_ok (l := l) (layers := rowsOf ds l.length (topOf ds l.length)) hs hn (by simp [rowsOf]; omega) (by rw [hR.all]; exact hn)
    rw [e4, g4.2 hR]
    simp only [Option.bind_some]
    rw [cnd_true]
    unfold tourlaw3_PlanRight_j2
    by_cases hb1 : b1 = true
    · subst hb1
      rw [cnd_not, cnd_true]
      have := full_top (g1.1 rfl) hD
      exact congrArg some (decide_eq_true (by simp [rowsOf]; omega))
    · rw [cnd_pos (by simp [hb1])]
end Go.Proofs.Ytnnhijlgohlaeaa.P
