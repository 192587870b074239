/- The check of a region's order, quickly: a table of bits, made once, in place of the operations. No condition. -/
import Derived.Test.YtbfndcookgijfaaSxOps
namespace Go.Proofs.Ytbfndcookgijfaa.Sx
open Go
set_option linter.unusedVariables false
def bits (l : List Nat) : Nat := l.foldr (fun k m => 2 ^ k ||| m) 0
theorem testBit_bits (l : List Nat) (k : Nat) : (bits l).testBit k = l.contains k := by
  induction l with
  | nil => simp [bits]
  | cons x l ih =>
    have e : bits (x :: l) = 2 ^ x ||| bits l := rfl
    rw [e, Nat.testBit_or, ih, Nat.testBit_two_pow, List.contains_cons]
    congr 1
    by_cases h : x = k
    · subst h; simp
    · have : ¬ k = x := fun e => h e.symm
      simp [h, this]
theorem bits_sub (l : List Nat) (L : Nat) : (bits l &&& L == bits l) = l.all (fun k => L.testBit k) := by
  rw [Bool.eq_iff_iff, beq_iff_eq, List.all_eq_true]
  constructor
  · intro h k hk
    have := congrArg (fun m => Nat.testBit m k) h
    simp only [Nat.testBit_and, testBit_bits] at this
    have hc : l.contains k = true := by simpa using hk
    rw [hc] at this
    simpa using this
  · intro h
    apply Nat.eq_of_testBit_eq
    intro k
    rw [Nat.testBit_and, testBit_bits]
    cases hc : l.contains k with
    | false => rfl
    | true => simp [h k (by simpa using hc)]
theorem bits_apart (d : Nat) (l : List Nat) : (2 ^ d &&& bits l == 0) = !l.contains d := by
  rw [← testBit_bits, Bool.eq_iff_iff, beq_iff_eq]
  constructor
  · intro h
    have := congrArg (fun m => Nat.testBit m d) h
    simpa [Nat.testBit_and, Nat.testBit_two_pow] using this
  · intro h
    apply Nat.eq_of_testBit_eq
    intro k
    rw [Nat.testBit_and, Nat.testBit_two_pow, Nat.zero_testBit]
    by_cases e : d = k
    · subst e; simpa using h
    · simp [e]
/-- What an operation needs, the slot that it writes, the slots that it looks at. -/
structure Row where
  need : Nat
  dst : Nat
  look : Nat
def needs (o : Oper) : List Nat := (o.after.toList.filter (fun e => Region.binds .any e)).map (fun e => e.on)
def dbit (d : Option Tmp) : Nat := match d with | some t => 2 ^ t | none => 0
def rowOf (ops : Array Oper) (o : Oper) : Row := ⟨bits (needs o), dbit o.dst, bits (o.looksAt ops)⟩
def rdy (L : Nat) (j : Nat) (r : Row) : Bool := !L.testBit j && (r.need &&& L == r.need)
def allFrom (f : Nat → Row → Bool) : Nat → List Row → Bool
  | _, [] => true
  | j, r :: T => f j r && allFrom f (j + 1) T
def freeOf (L i : Nat) (x : Row) (j : Nat) (y : Row) : Bool := j == i || (L.testBit j || (y.need.testBit i || ((x.dst &&& y.look == 0) && (x.dst &&& y.dst == 0) && (y.dst &&& x.look == 0))))
def fastOk (T : List Row) : List (Nat × Bool) → Nat → Bool
  | [], L => allFrom (fun j r => !rdy L j r) 0 T
  | (i, q) :: r, L => (match T[i]? with | none => false | some x => bif q then rdy L i x && allFrom (freeOf L i x) 0 T else allFrom (fun j y => rdy L j y == (j == i)) 0 T) && fastOk T r (L ||| 2 ^ i)
theorem allFrom_get {f : Nat → Row → Bool} : ∀ {T : List Row} {j : Nat}, allFrom f j T = true → ∀ {k : Nat} {r : Row}, T[k]? = some r → f (j + k) r = true
  | [], _, _, k, r, h => by simp at h
  | x :: T, j, h, 0, r, hr => by
    simp only [allFrom, Bool.and_eq_true] at h
    simp only [List.getElem?_cons_zero, Option.some.injEq] at hr
    subst hr; exact h.1
  | x :: T, j, h, k + 1, r, hr => by
    simp only [allFrom, Bool.and_eq_true] at h
    have := allFrom_get h.2 (k := k) (r := r) (by simpa using hr)
    rwa [Nat.add_right_comm] at this
section
variable {ops : Array Oper} {T : List Row} {L : Nat} {li : Array Bool}
theorem row_at (hT : ops.toList.map (rowOf ops) = T) {i : Nat} {o : Oper} (h : ops[i]? = some o) : T[i]? = some (rowOf ops o) := by
  rw [← hT, List.getElem?_map]
  have : ops.toList[i]? = some o := by rw [Array.getElem?_toList]; exact h
  rw [this]; rfl
theorem rdy_eq (hL : ∀ j, L.testBit j = li.getD j false) (hs : li.size = ops.size) {i : Nat} {o : Oper} (h : ops[i]? = some o) :
    (!li.getD i true && ((ops[i]?).map (·.after.all fun e => !Region.binds .any e || li.getD e.on false)).getD false) = rdy L i (rowOf ops o) := by
  have hi : i < li.size := by rw [hs]; exact (Array.getElem?_eq_some_iff.1 h).1
  unfold rdy rowOf
  simp only [h, Option.map_some, Option.getD_some]
  rw [bits_sub, hL i]
  have e1 : li.getD i true = li.getD i false := by simp [Array.getD, hi]
  rw [e1]
  congr 1
  unfold needs
  rw [List.all_map, List.all_filter, ← Array.all_toList]
  congr 1
  funext e
  simp only [Function.comp, hL]
  try rfl
theorem range_only {n i : Nat} (h : i < n) : (List.range n).filter (fun j => j == i) = [i] := by
  induction n with
  | zero => omega
  | succ n ih =>
    rw [List.range_succ, List.filter_append]
    by_cases e : i = n
    · subst e
      have : (List.range i).filter (fun j => j == i) = [] := by
        rw [List.filter_eq_nil_iff]; intro j hj; have := List.mem_range.1 hj; simp; omega
      rw [this]; simp
    · rw [ih (by omega)]
      have : ¬ n = i := fun h => e h.symm
      simp [this]
theorem apart_eq {x y : Oper} : ((dbit x.dst &&& bits (y.looksAt ops) == 0) && (dbit x.dst &&& dbit y.dst == 0) && (dbit y.dst &&& bits (x.looksAt ops) == 0)) = true → x.apart ops y = true := by
  intro h
  simp only [Bool.and_eq_true] at h
  obtain ⟨⟨h1, h2⟩, h3⟩ := h
  unfold Oper.apart
  rw [Bool.and_eq_true]
  constructor
  · cases hd : x.dst with
    | none => rfl
    | some d =>
      rw [hd] at h1 h2
      have h1' := h1
      rw [show dbit (some d) = 2 ^ d from rfl, bits_apart] at h1'
      show (!(y.looksAt ops).contains d && y.dst != some d) = true
      rw [h1', Bool.true_and]
      cases hy : y.dst with
      | none => rfl
      | some e =>
        rw [hy] at h2
        have := congrArg (fun m => Nat.testBit m d) (beq_iff_eq.1 h2)
        simp only [dbit, Nat.testBit_and, Nat.testBit_two_pow, decide_true, Bool.true_and, Nat.zero_testBit, decide_eq_false_iff_not] at this
        simp [this]
  · cases hd : y.dst with
    | none => rfl
    | some d =>
      rw [hd] at h3
      rw [show dbit (some d) = 2 ^ d from rfl, bits_apart] at h3
      exact h3
theorem fast_ok (hT : ops.toList.map (rowOf ops) = T) : ∀ (ord : List (Nat × Bool)) (L : Nat) (li : Array Bool), (∀ j, L.testBit j = li.getD j false) → li.size = ops.size → fastOk T ord L = true → orderOk ops ord li = true := by
  have hget : ∀ {i : Nat} {x : Row}, T[i]? = some x → ∃ o, ops[i]? = some o ∧ x = rowOf ops o := fun {i x} h => by
    rw [← hT, List.getElem?_map] at h
    cases ho : ops.toList[i]? with
    | none => rw [ho] at h; cases h
    | some o => rw [ho] at h; exact ⟨o, by rw [← Array.getElem?_toList]; exact ho, (Option.some.inj h).symm⟩
  intro ord
  induction ord with
  | nil =>
    intro L li hL hs h
    simp only [orderOk, List.isEmpty_iff]
    unfold Region.ready
    rw [List.filter_eq_nil_iff]
    intro j hj
    have hj := List.mem_range.1 hj
    have ho : ops[j]? = some ops[j] := Array.getElem?_eq_getElem hj
    have := allFrom_get h (row_at hT ho)
    rw [Nat.zero_add] at this
    rw [rdy_eq hL hs ho]
    simpa using this
  | cons p r ih =>
    obtain ⟨i, q⟩ := p
    intro L li hL hs h
    simp only [fastOk, Bool.and_eq_true] at h
    obtain ⟨h1, h2⟩ := h
    cases hx : T[i]? with
    | none => rw [hx] at h1; simp at h1
    | some x =>
      rw [hx] at h1
      obtain ⟨o, ho, rfl⟩ := hget hx
      have hi : i < ops.size := (Array.getElem?_eq_some_iff.1 ho).1
      simp only [orderOk, Bool.and_eq_true]
      refine ⟨?_, ih (L ||| 2 ^ i) (li.setIfInBounds i true) (fun j => ?_) (by simp [hs]) h2⟩
      · cases q with
        | true =>
          simp only [cond_true, Bool.and_eq_true] at h1 ⊢
          refine ⟨?_, ?_⟩
          · unfold Region.free
            simp only [ho, List.all_eq_true, List.mem_range]
            intro j hj
            have hoj : ops[j]? = some ops[j] := Array.getElem?_eq_getElem hj
            have := allFrom_get h1.2 (row_at hT hoj)
            rw [Nat.zero_add] at this
            unfold freeOf at this
            rw [hoj]
            simp only [Bool.or_eq_true] at this ⊢
            rcases this with a | a | a | a
            · exact .inl (.inl a)
            · left; right
              rw [hL] at a
              have hj' : j < li.size := by rw [hs]; exact hj
              simpa [Array.getD, hj'] using a
            · right; left
              rw [show (rowOf ops ops[j]).need = bits (needs ops[j]) from rfl, testBit_bits] at a
              rw [Array.any_eq_true']
              unfold needs at a
              simp only [List.contains_eq_mem, List.mem_map, List.mem_filter, decide_eq_true_eq] at a
              obtain ⟨e, ⟨he, hb⟩, hon⟩ := a
              exact ⟨e, by simpa using he, by simp [hb, hon]⟩
            · right; right
              exact apart_eq a
          · unfold Region.ready
            rw [List.contains_iff_mem, List.mem_filter]
            exact ⟨List.mem_range.2 hi, by rw [rdy_eq hL hs ho]; exact h1.1⟩
        | false =>
          simp only [cond_false] at h1 ⊢
          rw [beq_iff_eq, ← range_only hi]
          unfold Region.ready
          apply List.filter_congr
          intro j hj
          have hj := List.mem_range.1 hj
          have hoj : ops[j]? = some ops[j] := Array.getElem?_eq_getElem hj
          have := allFrom_get h1 (row_at hT hoj)
          rw [Nat.zero_add, beq_iff_eq] at this
          rw [rdy_eq hL hs hoj, this]
      · rw [Nat.testBit_or, Nat.testBit_two_pow, hL]
        by_cases e : i = j
        · subst e
          have hi' : i < li.size := by rw [hs]; exact hi
          simp [Array.getD, hi']
        · simp only [e, decide_false, Bool.or_false]
          by_cases hj : j < li.size
          · simp [Array.getD, hj, e]
          · simp [Array.getD, hj]
/-- One step of an order, by the table. -/
def stepF (T : List Row) (L i : Nat) (q : Bool) : Bool := match T[i]? with | none => false | some x => bif q then rdy L i x && allFrom (freeOf L i x) 0 T else allFrom (fun j y => rdy L j y == (j == i)) 0 T
theorem row_get (hT : ops.toList.map (rowOf ops) = T) {i : Nat} {x : Row} (h : T[i]? = some x) : ∃ o, ops[i]? = some o ∧ x = rowOf ops o := by
  rw [← hT, List.getElem?_map] at h
  cases ho : ops.toList[i]? with
  | none => rw [ho] at h; cases h
  | some o => rw [ho] at h; exact ⟨o, by rw [← Array.getElem?_toList]; exact ho, (Option.some.inj h).symm⟩
theorem bit_set (hL : ∀ j, L.testBit j = li.getD j false) {i : Nat} (hi : i < li.size) (j : Nat) : (L ||| 2 ^ i).testBit j = (li.setIfInBounds i true).getD j false := by
  rw [Nat.testBit_or, Nat.testBit_two_pow, hL]
  by_cases e : i = j
  · subst e; simp [Array.getD, hi]
  · simp only [e, decide_false, Bool.or_false]
    by_cases hj : j < li.size
    · simp [Array.getD, hj, e]
    · simp [Array.getD, hj]
theorem step_ok (hT : ops.toList.map (rowOf ops) = T) (hL : ∀ j, L.testBit j = li.getD j false) (hs : li.size = ops.size) {i : Nat} {q : Bool} (h1 : stepF T L i q = true) :
    i < ops.size ∧ (bif q then Region.free .any ops li i && (Region.ready .any ops li).contains i else Region.ready .any ops li == [i]) = true := by
  unfold stepF at h1
  cases hx : T[i]? with
  | none => rw [hx] at h1; simp at h1
  | some x =>
    rw [hx] at h1
    obtain ⟨o, ho, rfl⟩ := row_get hT hx
    have hi : i < ops.size := (Array.getElem?_eq_some_iff.1 ho).1
    refine ⟨hi, ?_⟩
    cases q with
    | true =>
      simp only [cond_true, Bool.and_eq_true] at h1 ⊢
      refine ⟨?_, ?_⟩
      · unfold Region.free
        simp only [ho, List.all_eq_true, List.mem_range]
        intro j hj
        have hoj : ops[j]? = some ops[j] := Array.getElem?_eq_getElem hj
        have := allFrom_get h1.2 (row_at hT hoj)
        rw [Nat.zero_add] at this
        unfold freeOf at this
        rw [hoj]
        simp only [Bool.or_eq_true] at this ⊢
        rcases this with a | a | a | a
        · exact .inl (.inl a)
        · left; right
          rw [hL] at a
          have hj' : j < li.size := by rw [hs]; exact hj
          simpa [Array.getD, hj'] using a
        · right; left
          rw [show (rowOf ops ops[j]).need = bits (needs ops[j]) from rfl, testBit_bits] at a
          rw [Array.any_eq_true']
          unfold needs at a
          simp only [List.contains_eq_mem, List.mem_map, List.mem_filter, decide_eq_true_eq] at a
          obtain ⟨e, ⟨he, hb⟩, hon⟩ := a
          exact ⟨e, by simpa using he, by simp [hb, hon]⟩
        · right; right
          exact apart_eq a
      · unfold Region.ready
        rw [List.contains_iff_mem, List.mem_filter]
        exact ⟨List.mem_range.2 hi, by rw [rdy_eq hL hs ho]; exact h1.1⟩
    | false =>
      simp only [cond_false] at h1 ⊢
      rw [beq_iff_eq, ← range_only hi]
      unfold Region.ready
      apply List.filter_congr
      intro j hj
      have hj := List.mem_range.1 hj
      have hoj : ops[j]? = some ops[j] := Array.getElem?_eq_getElem hj
      have := allFrom_get h1 (row_at hT hoj)
      rw [Nat.zero_add, beq_iff_eq] at this
      rw [rdy_eq hL hs hoj, this]
/-- The check of orders that part, by the table. -/
def treeF (T : List Row) : Nat → Tree → Nat → Bool
  | 0, t, L => (match t with | .leaf [] => true | _ => false) && allFrom (fun j r => !rdy L j r) 0 T
  | n + 1, t, L => match t with
    | .leaf [] => false
    | .leaf ((i, q) :: l) => stepF T L i q && treeF T n (.leaf l) (L ||| 2 ^ i)
    | .node ((i, q) :: l) a b => stepF T L i q && treeF T n (.node l a b) (L ||| 2 ^ i)
    | .node [] a b => !allFrom (fun j r => !rdy L j r) 0 T && allFrom (fun j r => !rdy L j r || (alts (.node [] a b)).any fun p => Nat.beq p.1 j && treeF T n p.2 (L ||| 2 ^ j)) 0 T
theorem ready_none (hT : ops.toList.map (rowOf ops) = T) (hL : ∀ j, L.testBit j = li.getD j false) (hs : li.size = ops.size) (h : allFrom (fun j r => !rdy L j r) 0 T = true) : Region.ready .any ops li = [] := by
  unfold Region.ready
  rw [List.filter_eq_nil_iff]
  intro j hj
  have hj := List.mem_range.1 hj
  have ho : ops[j]? = some ops[j] := Array.getElem?_eq_getElem hj
  have := allFrom_get h (row_at hT ho)
  rw [Nat.zero_add] at this
  rw [rdy_eq hL hs ho]
  simpa using this
theorem allFrom_mk {f : Nat → Row → Bool} : ∀ (T : List Row) (j : Nat), (∀ (k : Nat) (r : Row), T[k]? = some r → f (j + k) r = true) → allFrom f j T = true
  | [], _, _ => rfl
  | x :: T, j, h => by
    simp only [allFrom, Bool.and_eq_true]
    exact ⟨h 0 x rfl, allFrom_mk T (j + 1) fun k r hk => by have := h (k + 1) r (by simpa using hk); rwa [show j + 1 + k = j + (k + 1) by omega]⟩
theorem mem_rdy (hT : ops.toList.map (rowOf ops) = T) (hL : ∀ j, L.testBit j = li.getD j false) (hs : li.size = ops.size) {j : Nat} : j ∈ Region.ready .any ops li ↔ ∃ r, T[j]? = some r ∧ rdy L j r = true := by
  unfold Region.ready
  rw [List.mem_filter, List.mem_range]
  constructor
  · rintro ⟨hj, h⟩
    have ho : ops[j]? = some ops[j] := Array.getElem?_eq_getElem hj
    exact ⟨_, row_at hT ho, by rw [← rdy_eq hL hs ho]; exact h⟩
  · rintro ⟨r, hr, h⟩
    obtain ⟨o, ho, rfl⟩ := row_get hT hr
    exact ⟨(Array.getElem?_eq_some_iff.1 ho).1, by rw [rdy_eq hL hs ho]; exact h⟩
theorem tree_ok (hT : ops.toList.map (rowOf ops) = T) : ∀ (n : Nat) (t : Tree) (L : Nat) (li : Array Bool), (∀ j, L.testBit j = li.getD j false) → li.size = ops.size → treeF T n t L = true → treeOk ops n t li = true := by
  intro n
  induction n with
  | zero =>
    intro t L li hL hs h
    simp only [treeF, Bool.and_eq_true] at h
    simp only [treeOk, Bool.and_eq_true]
    exact ⟨h.1, by rw [ready_none hT hL hs h.2]; rfl⟩
  | succ n ih =>
    intro t L li hL hs h
    have step : ∀ (i : Nat) (q : Bool) (t' : Tree), (stepF T L i q && treeF T n t' (L ||| 2 ^ i)) = true → ((bif q then Region.free .any ops li i && (Region.ready .any ops li).contains i else Region.ready .any ops li == [i]) && treeOk ops n t' (li.setIfInBounds i true)) = true := by
      intro i q t' h
      rw [Bool.and_eq_true] at h ⊢
      obtain ⟨hi, h1⟩ := step_ok hT hL hs h.1
      exact ⟨h1, ih t' _ _ (fun j => bit_set hL (by rw [hs]; exact hi) j) (by simpa using hs) h.2⟩
    cases t with
    | leaf l =>
      cases l with
      | nil => simp [treeF] at h
      | cons p l => obtain ⟨i, q⟩ := p; exact step i q (.leaf l) h
    | node l a b =>
      cases l with
      | cons p l => obtain ⟨i, q⟩ := p; exact step i q (.node l a b) h
      | nil =>
        simp only [treeF, Bool.and_eq_true, Bool.not_eq_true'] at h
        simp only [treeOk, Bool.and_eq_true, Bool.not_eq_true']
        refine ⟨?_, List.all_eq_true.2 fun j hj => ?_⟩
        · cases he : (Region.ready .any ops li).isEmpty with
          | false => rfl
          | true =>
            exfalso
            have hn : allFrom (fun j r => !rdy L j r) 0 T = true := allFrom_mk T 0 fun k r hr => by
              cases hk : rdy L k r with
              | false => simp [hk]
              | true =>
                have := (mem_rdy (li := li) hT hL hs).2 ⟨r, hr, hk⟩
                rw [List.isEmpty_iff.1 he] at this
                cases this
            rw [hn] at h
            exact absurd h.1 (by simp)
        · obtain ⟨r, hr, hk⟩ := (mem_rdy hT hL hs).1 hj
          have hjs : j < ops.size := by obtain ⟨o, ho, _⟩ := row_get hT hr; exact (Array.getElem?_eq_some_iff.1 ho).1
          have h2 := allFrom_get h.2 hr
          rw [Nat.zero_add, hk, Bool.not_true, Bool.false_or] at h2
          obtain ⟨p, hp, hpj⟩ := List.any_eq_true.1 h2
          rw [Bool.and_eq_true] at hpj
          exact List.any_eq_true.2 ⟨p, hp, by rw [Bool.and_eq_true]; exact ⟨hpj.1, ih p.2 _ _ (fun k => bit_set hL (by rw [hs]; exact hjs) k) (by simpa using hs) hpj.2⟩⟩
end
section rules
variable {P : Program} {ro : Option Nat} {n : NT} {ops : Array Oper} {Q : Exit → Act → World → Prop}
theorem st_region_fast {id : Nat} {l : Slots} {M M' : World → Prop} (T : List Row) (ord : List (Nat × Bool)) (S : World → Prop) (hm : P.follows .mixedOrders = true) (hs : (Region.noSelect ops && noDefer ops) = true)
    (hT : ops.toList.map (rowOf ops) = T) (hl : Nat.beq ord.length ops.size = true) (ho : fastOk T ord 0 = true) (hQ : ∀ c (d : Option Tmp) v a w, Q (.panic c) (a.put d v) w → Q (.panic c) a w)
    (hM : ∀ w, M w → M' w.drew ∧ S w.drew) (k : Ops P n ops Q S ord l M') : St P ro n (.region id ops true) Q l M := by
  refine st_region_draw ord S hm hs ?_ hQ hM k
  rw [Bool.and_eq_true]
  refine ⟨by simpa using hl, fast_ok hT ord 0 _ (fun j => ?_) (by simp) ho⟩
  rw [Nat.zero_testBit]
  simp only [Array.getD, Array.size_replicate]
  split <;> simp
theorem st_region_treeF {id : Nat} {l : Slots} {M M' : World → Prop} (T : List Row) (sz : Nat) (t : Tree) (S : World → Prop) (hm : P.follows .mixedOrders = true) (hs : (Region.noSelect ops && noDefer ops) = true)
    (hT : ops.toList.map (rowOf ops) = T) (hz : ops.size = sz) (ho : treeF T sz t 0 = true) (hQ : ∀ c (d : Option Tmp) v a w, Q (.panic c) (a.put d v) w → Q (.panic c) a w)
    (hM : ∀ w, M w → M' w.drew ∧ S w.drew) (k : ∀ a w, Knows n a l → M' w → S w → seqTree P ops Q S t a w) : St P ro n (.region id ops true) Q l M := by
  subst hz
  refine st_region_tree t S hm hs (tree_ok hT _ t 0 _ (fun j => ?_) (by simp) ho) hQ hM k
  rw [Nat.zero_testBit]
  simp only [Array.getD, Array.size_replicate]
  split <;> simp
end rules
end Go.Proofs.Ytbfndcookgijfaa.Sx
