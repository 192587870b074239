/- A drawn region whose orders part and meet again: each set of operations that have come up is told once. No condition. -/
import Derived.Test.YtbfndcookgijfaaSxFast
namespace Go.Proofs.Ytbfndcookgijfaa.Sx
open Go
set_option linter.unusedVariables false
section
variable {P : Program} {n : NT} {ops : Array Oper} {Q : Exit → Act → World → Prop} {S : World → Prop}
/-- What is left to be shown where these operations have come up. -/
def Rest (P : Program) (ops : Array Oper) (Q : Exit → Act → World → Prop) (S : World → Prop) (f : Nat) (li : Array Bool) (a : Act) (w : World) : Prop := S w → anyF P ops Q S f li a w
def stepsOk (ops : Array Oper) : List (Nat × Bool) → Array Bool → Bool
  | [], _ => true
  | (i, q) :: r, li => (bif q then Region.free .any ops li i && (Region.ready .any ops li).contains i else Region.ready .any ops li == [i]) && stepsOk ops r (li.setIfInBounds i true)
def listedBy : List (Nat × Bool) → Array Bool → Array Bool
  | [], li => li
  | (i, _) :: r, li => listedBy r (li.setIfInBounds i true)
theorem takes (hs : Region.noSelect ops = true) (hQ : ∀ c (d : Option Tmp) v a w, Q (.panic c) (a.put d v) w → Q (.panic c) a w) {f : Nat} :
    ∀ (qs : List (Nat × Bool)) (li : Array Bool) (a : Act) (w : World), stepsOk ops qs li = true → S w → seqOps P ops (Exit.then (Rest P ops Q S f (listedBy qs li)) Q) S qs a w → anyF P ops Q S (qs.length + f) li a w := by
  intro qs
  induction qs with
  | nil =>
    intro li a w _ hS h
    have h' : Rest P ops Q S f li a w := h
    rw [List.length_nil, Nat.zero_add]
    exact h' hS
  | cons p r ih =>
    obtain ⟨i, q⟩ := p
    intro li a w ho hS h
    simp only [stepsOk, Bool.and_eq_true] at ho
    obtain ⟨ho1, ho2⟩ := ho
    simp only [seqOps] at h
    have e : ((i, q) :: r).length + f = (r.length + f) + 1 := by simp only [List.length_cons]; omega
    cases hi : ops[i]? with
    | none => rw [hi] at h; exact h.elim
    | some o =>
      rw [hi] at h
      rw [e]
      cases q with
      | true =>
        simp only [cond_true, Bool.and_eq_true] at h ho1
        obtain ⟨hS', v, hy, h⟩ := h
        exact anyF_take hi hs (fun c a w => hQ c _ _ a w) ho1.1 ho1.2 hy hS' (ih _ _ _ ho2 hS' h)
      | false =>
        simp only [cond_false, beq_iff_eq] at h ho1
        refine anyF_all ho1 (by simp) fun j hj => ?_
        obtain rfl := List.mem_singleton.1 hj
        exact wpF_mono (fun a' w' h' => ⟨h'.1, ih _ _ _ ho2 h'.1 h'.2⟩) (wpF_then h)
/-! ### The same by the table of bits -/
def Lr (ops : Array Oper) (L : Nat) (li : Array Bool) : Prop := (∀ j, L.testBit j = li.getD j false) ∧ li.size = ops.size
theorem Lr.set {L : Nat} {li : Array Bool} (h : Lr ops L li) {i : Nat} (hi : i < ops.size) : Lr ops (L ||| 2 ^ i) (li.setIfInBounds i true) := ⟨fun j => bit_set h.1 (h.2 ▸ hi) j, by simpa using h.2⟩
def RestF (P : Program) (ops : Array Oper) (Q : Exit → Act → World → Prop) (S : World → Prop) (f : Nat) (L : Nat) (a : Act) (w : World) : Prop := S w → ∀ li, Lr ops L li → anyF P ops Q S f li a w
def DagF (P : Program) (n : NT) (ops : Array Oper) (Q : Exit → Act → World → Prop) (S : World → Prop) (f : Nat) (L : Nat) (l : Slots) (M : World → Prop) : Prop :=
  ∀ a w, Knows n a l → M w → S w → ∀ li, Lr ops L li → anyF P ops Q S f li a w
def stepsF (T : List Row) : List (Nat × Bool) → Nat → Bool
  | [], _ => true
  | (i, q) :: r, L => stepF T L i q && stepsF T r (L ||| 2 ^ i)
def maskBy : List (Nat × Bool) → Nat → Nat
  | [], L => L
  | (i, _) :: r, L => maskBy r (L ||| 2 ^ i)
def readyF : Nat → List Row → Nat → List Nat
  | _, [], _ => []
  | j, r :: T, L => bif rdy L j r then j :: readyF (j + 1) T L else readyF (j + 1) T L
theorem readyF_eq {p : Nat → Bool} {L : Nat} : ∀ (T : List Row) (j : Nat), (∀ k r, T[k]? = some r → p (j + k) = rdy L (j + k) r) → (List.range' j T.length).filter p = readyF j T L
  | [], _, _ => rfl
  | x :: T, j, h => by
    have ih := readyF_eq (p := p) (L := L) T (j + 1) fun k r hk => by have := h (k + 1) r (by simpa using hk); rwa [show j + (k + 1) = j + 1 + k by omega] at this
    have h0 : p j = rdy L j x := h 0 x rfl
    rw [List.length_cons, List.range'_succ, List.filter_cons, h0, ih]
    show _ = bif rdy L j x then j :: readyF (j + 1) T L else readyF (j + 1) T L
    cases rdy L j x <;> rfl
theorem ready_eq {T : List Row} {L : Nat} {li : Array Bool} (hT : ops.toList.map (rowOf ops) = T) (hL : Lr ops L li) : Region.ready .any ops li = readyF 0 T L := by
  have hl : T.length = ops.size := by rw [← hT]; simp
  rw [← readyF_eq (p := fun j => !li.getD j true && ((ops[j]?).map (·.after.all fun e => !Region.binds .any e || li.getD e.on false)).getD false) T 0 fun k r hk => by
    obtain ⟨o, ho, rfl⟩ := row_get hT hk
    rw [Nat.zero_add]
    exact rdy_eq hL.1 hL.2 ho]
  unfold Region.ready
  rw [hl, List.range_eq_range']
theorem takesF {T : List Row} (hT : ops.toList.map (rowOf ops) = T) (hs : Region.noSelect ops = true) (hQ : ∀ c (d : Option Tmp) v a w, Q (.panic c) (a.put d v) w → Q (.panic c) a w) {f : Nat} :
    ∀ (qs : List (Nat × Bool)) (L : Nat) (li : Array Bool) (a : Act) (w : World), Lr ops L li → stepsF T qs L = true → S w → seqOps P ops (Exit.then (RestF P ops Q S f (maskBy qs L)) Q) S qs a w → anyF P ops Q S (qs.length + f) li a w := by
  intro qs
  induction qs with
  | nil =>
    intro L li a w hL _ hS h
    have h' : RestF P ops Q S f L a w := h
    rw [List.length_nil, Nat.zero_add]
    exact h' hS li hL
  | cons p r ih =>
    obtain ⟨i, q⟩ := p
    intro L li a w hL ho hS h
    simp only [stepsF, Bool.and_eq_true] at ho
    obtain ⟨hi', ho1⟩ := step_ok hT hL.1 hL.2 ho.1
    simp only [seqOps] at h
    have e : ((i, q) :: r).length + f = (r.length + f) + 1 := by simp only [List.length_cons]; omega
    cases hi : ops[i]? with
    | none => rw [hi] at h; exact h.elim
    | some o =>
      rw [hi] at h
      rw [e]
      cases q with
      | true =>
        simp only [cond_true, Bool.and_eq_true] at h ho1
        obtain ⟨hS', v, hy, h⟩ := h
        exact anyF_take hi hs (fun c a w => hQ c _ _ a w) ho1.1 ho1.2 hy hS' (ih _ _ _ _ (hL.set hi') ho.2 hS' h)
      | false =>
        simp only [cond_false, beq_iff_eq] at h ho1
        refine anyF_all ho1 (by simp) fun j hj => ?_
        obtain rfl := List.mem_singleton.1 hj
        exact wpF_mono (fun a' w' h' => ⟨h'.1, ih _ _ _ _ (hL.set hi') ho.2 h'.1 h'.2⟩) (wpF_then h)
theorem dagF_takes (qs : List (Nat × Bool)) {f L : Nat} {l : Slots} {M : World → Prop} {T : List Row} (hT : ops.toList.map (rowOf ops) = T) (hs : Region.noSelect ops = true) (hQ : ∀ c (d : Option Tmp) v a w, Q (.panic c) (a.put d v) w → Q (.panic c) a w)
    (ho : stepsF T qs L = true) (k : Ops P n ops (Exit.then (RestF P ops Q S f (maskBy qs L)) Q) S qs l M) : DagF P n ops Q S (qs.length + f) L l M := fun a w hk hM hS li hL => takesF hT hs hQ qs L li a w hL ho hS (k a w hk hM hS)
def WaysF (P : Program) (n : NT) (ops : Array Oper) (Q : Exit → Act → World → Prop) (S : World → Prop) (T : List Row) (f L : Nat) (l : Slots) (M : World → Prop) : List (Nat × List (Nat × Bool) × Nat) → Prop
  | [] => True
  | (i, qs, g) :: r => (Nat.beq (qs.length + g) f && stepsF T qs (L ||| 2 ^ i)) = true ∧ Ops P n ops (Exit.then (RestF P ops Q S g (maskBy qs (L ||| 2 ^ i))) Q) S ((i, false) :: qs) l M ∧ WaysF P n ops Q S T f L l M r
theorem waysF_at {f L : Nat} {l : Slots} {M : World → Prop} {T : List Row} : ∀ {alts : List (Nat × List (Nat × Bool) × Nat)}, WaysF P n ops Q S T f L l M alts → ∀ i ∈ alts.map (·.1), ∃ qs g, (Nat.beq (qs.length + g) f && stepsF T qs (L ||| 2 ^ i)) = true ∧ Ops P n ops (Exit.then (RestF P ops Q S g (maskBy qs (L ||| 2 ^ i))) Q) S ((i, false) :: qs) l M
  | [], _, i, h => by simp at h
  | (j, qs, g) :: r, hw, i, h => by
    simp only [List.map_cons, List.mem_cons] at h
    rcases h with rfl | h
    · exact ⟨qs, g, hw.1, hw.2.1⟩
    · exact waysF_at hw.2.2 i h
theorem dagF_ways (alts : List (Nat × List (Nat × Bool) × Nat)) {f L : Nat} {l : Slots} {M : World → Prop} {T : List Row} (hT : ops.toList.map (rowOf ops) = T) (hs : Region.noSelect ops = true) (hQ : ∀ c (d : Option Tmp) v a w, Q (.panic c) (a.put d v) w → Q (.panic c) a w)
    (hr : readyF 0 T L = alts.map (·.1)) (hne : (alts.map (·.1)).isEmpty = false) (k : WaysF P n ops Q S T f L l M alts) : DagF P n ops Q S (f + 1) L l M := by
  intro a w hk hM hS li hL
  refine anyF_all ((ready_eq hT hL).trans hr) (fun e => by rw [e] at hne; cases hne) fun i hi => ?_
  obtain ⟨qs, g, hok, ho⟩ := waysF_at k i hi
  simp only [Bool.and_eq_true] at hok
  have h := ho a w hk hM hS
  simp only [seqOps] at h
  cases hx : ops[i]? with
  | none => rw [hx] at h; exact h.elim
  | some o =>
    rw [hx] at h
    simp only [cond_false] at h
    have hi' : i < ops.size := (Array.getElem?_eq_some_iff.1 hx).1
    rw [← Nat.eq_of_beq_eq_true hok.1]
    exact wpF_mono (fun a' w' h' => ⟨h'.1, takesF hT hs hQ qs _ _ a' w' (hL.set hi') hok.2 h'.1 h'.2⟩) (wpF_then h)
theorem dagF_end {L : Nat} {l : Slots} {M : World → Prop} {T : List Row} (hT : ops.toList.map (rowOf ops) = T) (hr : (readyF 0 T L).isEmpty = true) (k : Fin n Q .normal l M) : DagF P n ops Q S 0 L l M :=
  fun a w hk hM _ li hL => ⟨(ready_eq hT hL).trans (List.isEmpty_iff.1 hr), k a w hk hM⟩
theorem dagF_conv {f L : Nat} {l l' : Slots} {M M' : World → Prop} (hl : l = l') (hM : ∀ w, M w → M' w) (k : DagF P n ops Q S f L l' M') : DagF P n ops Q S f L l M := by
  subst hl; exact fun a w hk h => k a w hk (hM w h)
/-- Told for whatever letters. -/
theorem dagF_have {f f0 L L0 : Nat} {l0 : Slots} {M0 : World → Prop} {σ : Type} {Lx : σ → Slots} {N : σ → World → Prop} {I : σ → Prop} (h1 : ∀ s, I s → DagF P n ops Q S f L (Lx s) (N s)) (h2 : (∀ s, I s → DagF P n ops Q S f L (Lx s) (N s)) → DagF P n ops Q S f0 L0 l0 M0) : DagF P n ops Q S f0 L0 l0 M0 := h2 h1
theorem to_dagF {f L X : Nat} {l : Slots} {M : World → Prop} {σ : Type} {Lx : σ → Slots} {N : σ → World → Prop} {I : σ → Prop} (H : ∀ s, I s → DagF P n ops Q S f L (Lx s) (N s)) (s : σ) (hI : I s) (hX : X = L) (hl : ∀ t v, look (Lx s) t = some v → look l t = some v) (hN : ∀ w, M w → N s w) : Fin n (Exit.then (RestF P ops Q S f X) Q) .normal l M := by
  subst hX; exact fun a w hk hM hS li hL => H s hI a w (hk.mono hl) (hN w hM) hS li hL
theorem st_region_dagF {ro : Option Nat} {id : Nat} {l : Slots} {M M' : World → Prop} (S : World → Prop) (T : List Row) {f : Nat} (hm : P.follows .mixedOrders = true) (hf : (ops.size, noDefer ops, Region.noSelect ops) = (f, true, true)) (hT : ops.toList.map (rowOf ops) = T) (hM : ∀ w, M w → M' w.drew ∧ S w.drew)
    (k : ops.toList.map (rowOf ops) = T → Region.noSelect ops = true → DagF P n ops Q S f 0 l M') : St P ro n (.region id ops true) Q l M := by
  obtain ⟨h1, h2⟩ := Prod.mk.inj hf
  obtain ⟨hd, hs⟩ := Prod.mk.inj h2
  subst h1
  refine fun a w hk hMw => wpR_region_held (S := S) hd hm (k hT hs a _ hk (hM w hMw).1 (hM w hMw).2 _ ⟨fun j => ?_, by simp⟩)
  rw [Nat.zero_testBit]
  simp only [Array.getD, Array.size_replicate]
  split <;> simp
end
end Go.Proofs.Ytbfndcookgijfaa.Sx
