/- A calculus for walking Go code with named slots and a named memory: each operation's run is reckoned by the kernel; regions that leave their order open are walked in one order. No condition. -/
import Derived.Tactics
import Derived.OrdersHeld
import Derived.Below
import Derived.KernelRfl
import Derived.WalkKit
import Derived.RangeFuncIn
import Derived.RangeFuncLeaves
import Derived.OrdersIn
namespace Go.Proofs.Ytbfndcookgijfaa.Sx
open Go Go.RowKit
set_option linter.unusedVariables false
/-! ### Slots -/
abbrev Slots := List (Nat × Value)
abbrev vI (x : Int) : Value := .int .i64 x
abbrev vU (x : Int) : Value := .int .u64 x
abbrev vP (b off : Nat) : Value := .pointer (some ⟨b, off, none⟩)
abbrev oF (i : Nat) : Nat × Bool := (i, false)
abbrev oT (i : Nat) : Nat × Bool := (i, true)
def look : Slots → Nat → Option Value
  | [], _ => none
  | (i, v) :: r, t => bif Nat.beq i t then some v else look r t
def ev (l : Slots) : Operand → Value
  | .tmp t => (look l t).getD undef
  | .const v => v
  | .global g => .pointer (some ⟨g, 0, none⟩)
  | .func f => .func (.func f) #[] #[]
def known (l : Slots) (o : Op) : Bool := o.operands.toList.all fun | .tmp t => (look l t).isSome | _ => true
/-- A frame's slots: how many, and the deferred calls that it bears. -/
structure NT where
  sz : Nat
  df : List Deferred
instance (k : Nat) : OfNat NT k := ⟨⟨k, []⟩⟩
structure Knows (n : NT) (a : Act) (l : Slots) : Prop where
  defers : a.defers = n.df
  size : a.tmps.size = n.sz
  slot : ∀ t v, look l t = some v → a.tmps[t]? = some v
def drop (l : Slots) (d : Nat) : Slots := match l with | [] => [] | (i, v) :: r => bif Nat.beq i d then drop r d else (i, v) :: drop r d
def put (l : Slots) (d : Option Tmp) (v : Value) : Slots := match d with | none => l | some d => (d, v) :: drop l d
def keep (ks : List Nat) (l : Slots) : Slots := match l with | [] => [] | (i, v) :: r => bif ks.any (Nat.beq i) then (i, v) :: keep ks r else keep ks r
theorem beq_ne {i j : Nat} (h : ¬ i = j) : Nat.beq i j = false := Bool.eq_false_iff.2 fun e => h (Nat.eq_of_beq_eq_true e)
theorem look_cons (i : Nat) (v : Value) (r : Slots) (t : Nat) : look ((i, v) :: r) t = if i = t then some v else look r t := by
  simp only [look]
  by_cases h : i = t
  · subst h; simp
  · simp [h, beq_ne h]
theorem look_drop (l : Slots) (d t : Nat) : look (drop l d) t = if d = t then none else look l t := by
  induction l with
  | nil => simp [drop, look]
  | cons p r ih =>
    obtain ⟨i, v⟩ := p
    simp only [drop]
    by_cases h : i = d
    · subst h
      simp only [Nat.beq_refl, cond_true, ih, look_cons]
      by_cases h2 : i = t <;> simp [h2]
    · have : Nat.beq i d = false := beq_ne h
      simp only [this, cond_false, look_cons, ih]
      by_cases h2 : i = t
      · subst h2; simp [Ne.symm h]
      · simp [h2]
theorem look_keep (ks : List Nat) (l : Slots) (t : Nat) (v : Value) (h : look (keep ks l) t = some v) : look l t = some v := by
  induction l with
  | nil => simp [keep, look] at h
  | cons p r ih =>
    obtain ⟨i, w⟩ := p
    simp only [keep] at h
    rw [look_cons]
    by_cases hk : ks.any (Nat.beq i) = true
    · rw [hk, cond_true, look_cons] at h
      by_cases h2 : i = t
      · simp only [h2, if_true] at h ⊢; exact h
      · simp only [h2, if_false] at h ⊢; exact ih h
    · rw [Bool.not_eq_true] at hk
      rw [hk, cond_false] at h
      by_cases h2 : i = t
      · subst h2
        exfalso
        have : ∀ l : Slots, look (keep ks l) i = none := by
          intro l
          induction l with
          | nil => rfl
          | cons q s ih2 =>
            obtain ⟨j, x⟩ := q
            simp only [keep]
            by_cases hj : ks.any (Nat.beq j) = true
            · rw [hj, cond_true, look_cons]
              by_cases e : j = i
              · subst e; rw [hj] at hk; cases hk
              · simp [e, ih2]
            · rw [Bool.not_eq_true] at hj; rw [hj, cond_false]; exact ih2
        rw [this] at h; cases h
      · simp only [h2, if_false]; exact ih h
theorem Knows.mono {n : NT} {a : Act} {l l' : Slots} (h : Knows n a l) (hl : ∀ t v, look l' t = some v → look l t = some v) : Knows n a l' :=
  ⟨h.defers, h.size, fun t v e => h.slot t v (hl t v e)⟩
theorem Knows.keep {n : NT} {a : Act} {l : Slots} (ks : List Nat) (h : Knows n a l) : Knows n a (keep ks l) := h.mono (look_keep ks l)
theorem Knows.put {n : NT} {a : Act} {l : Slots} (h : Knows n a l) (d : Option Tmp) (hd : ∀ t, d = some t → t < n.sz) (v : Value) : Knows n (a.put d v) (put l d v) := by
  cases d with
  | none => exact h
  | some d =>
    refine ⟨h.defers, by simp [Act.put, h.size], fun t u e => ?_⟩
    simp only [Sx.put, look_cons] at e
    simp only [Act.put]
    by_cases hdt : d = t
    · subst hdt
      simp only [if_true] at e
      rw [Array.getElem?_setIfInBounds_self_of_lt (by rw [h.size]; exact hd _ rfl)]
      exact e
    · simp only [hdt, if_false, look_drop] at e
      rw [Array.getElem?_setIfInBounds_ne hdt]
      exact h.slot t u e
theorem Knows.eval {n : NT} {a : Act} {l : Slots} (h : Knows n a l) {x : Operand} (hx : (match x with | .tmp t => (look l t).isSome | _ => true) = true) : a.eval x = ev l x := by
  cases x with
  | tmp t =>
    simp only at hx
    obtain ⟨v, hv⟩ := Option.isSome_iff_exists.1 hx
    simp [Act.eval, ev, h.slot t v hv, hv]
  | _ => rfl
theorem Knows.exec {n : NT} {a : Act} {l : Slots} (h : Knows n a l) (o : Oper) (hs : ∀ cs b, o.op ≠ .select cs b) (hk : known l o.op = true) : execOp a.eval o = execOp (ev l) o :=
  execOp_congr o hs fun x hx => h.eval (by
    have := List.all_eq_true.1 hk x (Array.mem_toList_iff.2 hx)
    cases x <;> first | rfl | simpa using this)
/-! ### Runs -/
inductive Ans where
  | v (x : Value)
  | b (n : Nat)
  | o (x : Obj)
inductive Evt where
  | load (a : Addr) (x : Value)
  | store (a : Addr) (x : Value)
  | new (o : Obj) (n : Nat)
  | getObj (r : Nat) (o : Obj)
  | setObj (r : Nat) (o : Obj)
def onecell : Value → Bool | .agg _ => false | .tuple _ => false | _ => true
/-- What a run does to memory, its answers given. -/
def tr (P : Program) {α : Type} : Sem α → List Ans → Option (List Evt × α)
  | .pure x, [] => some ([], x)
  | .program k, as => tr P (k P) as
  | .mark _ k, as => tr P k as
  | .choose q k, as => bif q.forced then tr P (k 0) as else none
  | .load _ a k, .v x :: as => match tr P (k x) as with | some (l, r) => some (.load a x :: l, r) | none => none
  | .store _ a x k, as => bif onecell x then (match tr P k as with | some (l, r) => some (.store a x :: l, r) | none => none) else none
  | .new o k, .b n :: as => match tr P (k n) as with | some (l, r) => some (.new o n :: l, r) | none => none
  | .getObj r k, .o x :: as => match tr P (k x) as with | some (l, y) => some (.getObj r x :: l, y) | none => none
  | .setObj r o k, as => match tr P k as with | some (l, y) => some (.setObj r o :: l, y) | none => none
  | _, _ => none
def noCells : Obj → Prop | .cells .. => False | _ => True
def Evs : List Evt → World → World → Prop
  | [], w, w' => w = w'
  | .load a x :: l, w, w' => w.cell? a = some x ∧ Evs l w w'
  | .store a x :: l, w, w' => (∃ y, w.cell? a = some y) ∧ w.frozen? a = false ∧ Evs l (w.setCell a x) w'
  | .new o n :: l, w, w' => n = w.heap.size ∧ Evs l (w.alloc o) w'
  | .getObj r o :: l, w, w' => w.heap[r]? = some o ∧ noCells o ∧ Evs l w w'
  | .setObj r o :: l, w, w' => (∃ o', w.heap[r]? = some o' ∧ noCells o') ∧ Evs l { w with heap := w.heap.setIfInBounds r o } w'
theorem tr_run {P : Program} {α : Type} (s : Sem α) : ∀ (as : List Ans) (l : List Evt) (x : α) (w w' : World), tr P s as = some (l, x) → Evs l w w' → s.run P w = .ok x w' := by
  induction s with
  | pure a =>
    intro as l x w w' h he
    cases as with
    | nil => simp only [tr, Option.some.injEq, Prod.mk.injEq] at h; obtain ⟨rfl, rfl⟩ := h; simp only [Evs] at he; subst he; rfl
    | cons _ _ => simp [tr] at h
  | load m a k ih =>
    intro as l x w w' h he
    rcases as with _ | ⟨_ | _ | _, as⟩ <;> simp only [tr] at h <;> try (cases h; done)
    rename_i v
    cases ht : tr P (k v) as with
    | none => rw [ht] at h; cases h
    | some p =>
      obtain ⟨l', r⟩ := p
      rw [ht] at h
      simp only [Option.some.injEq, Prod.mk.injEq] at h
      obtain ⟨rfl, rfl⟩ := h
      obtain ⟨hc, he⟩ := he
      simp only [Sem.run, hc]
      exact ih _ _ _ _ _ _ ht he
  | store m a v k ih =>
    intro as l x w w' h he
    simp only [tr] at h
    cases hp : onecell v with
    | false => rw [hp] at h; cases h
    | true =>
      rw [hp, cond_true] at h
      cases ht : tr P k as with
      | none => rw [ht] at h; cases h
      | some p =>
        obtain ⟨l', r⟩ := p
        rw [ht] at h
        simp only [Option.some.injEq, Prod.mk.injEq] at h
        obtain ⟨rfl, rfl⟩ := h
        obtain ⟨⟨y, hy⟩, hf, he⟩ := he
        have := ih _ _ _ _ _ ht he
        cases v <;> simp only [onecell, Bool.false_eq_true] at hp <;> simp only [Sem.run, hy, hf, Bool.false_eq_true, if_false] <;> exact this
  | new o k ih =>
    intro as l x w w' h he
    rcases as with _ | ⟨_ | n | _, as⟩ <;> simp only [tr] at h <;> try (cases h; done)
    cases ht : tr P (k n) as with
    | none => rw [ht] at h; cases h
    | some p =>
      obtain ⟨l', r⟩ := p
      rw [ht] at h
      simp only [Option.some.injEq, Prod.mk.injEq] at h
      obtain ⟨rfl, rfl⟩ := h
      obtain ⟨rfl, he⟩ := he
      simp only [Sem.run]
      exact ih _ _ _ _ _ _ ht he
  | shape r k ih => intro as l x w w' h he; rcases as with _ | ⟨_ | _ | _, as⟩ <;> simp [tr] at h
  | freeze a n k ih => intro as l x w w' h he; rcases as with _ | ⟨_ | _ | _, as⟩ <;> simp [tr] at h
  | frozen a k ih => intro as l x w w' h he; rcases as with _ | ⟨_ | _ | _, as⟩ <;> simp [tr] at h
  | getObj r k ih =>
    intro as l x w w' h he
    rcases as with _ | ⟨_ | _ | o, as⟩ <;> simp only [tr] at h <;> try (cases h; done)
    cases ht : tr P (k o) as with
    | none => rw [ht] at h; cases h
    | some p =>
      obtain ⟨l', y⟩ := p
      rw [ht] at h
      simp only [Option.some.injEq, Prod.mk.injEq] at h
      obtain ⟨rfl, rfl⟩ := h
      obtain ⟨hc, hn, he⟩ := he
      have := ih _ _ _ _ _ _ ht he
      simp only [Sem.run, hc]
      cases o <;> simp only [noCells] at hn <;> exact this
  | setObj r o k ih =>
    intro as l x w w' h he
    simp only [tr] at h
    cases ht : tr P k as with
    | none => rw [ht] at h; cases h
    | some p =>
      obtain ⟨l', y⟩ := p
      rw [ht] at h
      simp only [Option.some.injEq, Prod.mk.injEq] at h
      obtain ⟨rfl, rfl⟩ := h
      obtain ⟨⟨o', hc, hn⟩, he⟩ := he
      have := ih _ _ _ _ _ ht he
      simp only [Sem.run, hc]
      cases o' <;> simp only [noCells] at hn <;> exact this
  | choose q k ih =>
    intro as l x w w' h he
    simp only [tr] at h
    cases hq : q.forced with
    | false => rw [hq] at h; cases h
    | true => rw [hq, cond_true] at h; simp only [Sem.run, hq, if_true]; exact ih _ _ _ _ _ _ h he
  | sys c k ih => intro as l x w w' h he; rcases as with _ | ⟨_ | _ | _, as⟩ <;> simp [tr] at h
  | program k ih => intro as l x w w' h he; simp only [tr] at h; simp only [Sem.run]; exact ih _ _ _ _ _ _ h he
  | mark m k ih => intro as l x w w' h he; simp only [tr] at h; simp only [Sem.run]; exact ih _ _ _ _ _ h he
  | halt h => intro as l x w w' h he; rcases as with _ | ⟨_ | _ | _, as⟩ <;> simp [tr] at h
/-- What one list of slots tells, another tells too. -/
def Has (l : Slots) : Slots → Prop
  | [] => True
  | (t, v) :: r => look l t = some v ∧ Has l r
theorem look_has {l l' : Slots} (h : Has l l') (t : Nat) (v : Value) (hv : look l' t = some v) : look l t = some v := by
  induction l' with
  | nil => cases hv
  | cons p r ih =>
    obtain ⟨i, x⟩ := p
    rw [look_cons] at hv
    by_cases e : i = t
    · subst e; simp only [if_true, Option.some.injEq] at hv; subst hv; exact h.1
    · simp only [e, if_false] at hv; exact ih h.2 hv
/-! ### Frames of rounds -/
/-- The frame's fence: nothing is fenced off; 'ro': the loop over a function whose round the frame is. -/
abbrev FR (ro : Option Nat) : Fence := { Fence.wide with round := ro }
theorem up_in {ro : Option Nat} {P : Program} {m m' : Machine} (h : Steps P m m') : StepsIn (Machine.fenced P (FR ro)) P m m' := stepsIn_wide.2 h
theorem callsIn_FR {ro : Option Nat} {m : Nat} {P : Program} {f : FuncId} {args : Array Value} {w : World} {R : Ending → World → Prop} : CallsIn (FR ro) m P f args w R ↔ Calls P f args w R := callsIn_wide
theorem roundIn_FR {ro ro' : Option Nat} {m m' : Nat} {P : Program} {l : Nat} {f : FuncId} {tmps : Array Value} {assign body : Code} {w : World} {R : Ending → World → Prop} (h : RoundIn (FR ro) m P l f tmps assign body w R) : RoundIn (FR ro') m' P l f tmps assign body w R :=
  ⟨trivial, fun c cs _ => let ⟨e, w', r, s⟩ := h.2 c cs (fun _ hd => by cases hd); ⟨e, w', r, comesIn_wide.2 (comesIn_wide.1 s)⟩⟩
def noDefer (ops : Array Oper) : Bool := ops.toList.all fun o => match o.op with | .defer _ => false | _ => true
theorem opNoDefer {ops : Array Oper} (hd : noDefer ops = true) {i : Nat} {o : Oper} (ho : ops[i]? = some o) : ∀ c, o.op ≠ .defer c := by
  intro c e
  have := List.all_eq_true.1 hd o (Array.mem_toList_iff.2 (Array.mem_of_getElem? ho))
  simp [e] at this
/-! ### One operation, a call of a loop's round among them -/
/-- What an operation's run is asked for. -/
def upF (P : Program) (o : Oper) (a : Act) (K : Act → World → Prop) (Q : Exit → Act → World → Prop) (r : Result Next) : Prop :=
  match r with
  | .ok (.round l f tmps assign body) w' => RoundIn (FR none) 0 P l f tmps assign body w' fun
      | .returned v, w'' => K (a.put o.dst v) w''
      | .panicked chain, w'' => Q (.panic chain) a w''
      | .outgrown, _ => LetsOut Q
  | r => o.upon P a K Q r
def wpF (P : Program) (ops : Array Oper) (Q : Exit → Act → World → Prop) (i : Nat) (K : Act → World → Prop) (a : Act) (w : World) : Prop :=
  match ops[i]? with
  | none => K a w
  | some o => if Region.wanted o (yielded ops a.tmps) then upF P o a K Q ((execOp a.eval o).run P w) else K (a.put o.dst undef) w
theorem upF_mono {P : Program} {o : Oper} {a : Act} {K K' : Act → World → Prop} {Q : Exit → Act → World → Prop} {r : Result Next} (h : ∀ a w, K a w → K' a w) (hh : upF P o a K Q r) : upF P o a K' Q r := by
  cases r with
  | halt x w' => cases x <;> exact hh
  | ok x w' =>
    cases x with
    | value v => exact h _ _ hh
    | skip => exact h _ _ hh
    | defer d => exact h _ _ hh
    | enter f args => exact Calls.mono hh fun e w'' he => by cases e <;> first | exact h _ _ he | exact he
    | row row args => exact Rows.mono hh fun _ _ he => h _ _ he
    | round l f tmps assign body => exact RoundIn.mono hh fun e w'' he => by cases e <;> first | exact h _ _ he | exact he
    | _ => exact hh
theorem wpF_mono {P : Program} {ops : Array Oper} {Q : Exit → Act → World → Prop} {i : Nat} {a : Act} {w : World} {K K' : Act → World → Prop} (h : ∀ a w, K a w → K' a w) (hh : wpF P ops Q i K a w) : wpF P ops Q i K' a w := by
  unfold wpF at *
  split
  · rename_i e; rw [e] at hh; exact h _ _ hh
  · rename_i o e
    rw [e] at hh
    simp only at hh
    split
    · rename_i hw; rw [if_pos hw] at hh; exact upF_mono h hh
    · rename_i hw; rw [if_neg hw] at hh; exact h _ _ hh
/-- It is one within the frame's fence. -/
theorem wpF_in {P : Program} {ops : Array Oper} {Q : Exit → Act → World → Prop} {ro : Option Nat} (hd : noDefer ops = true) {i : Nat} {a : Act} {w : World} {K : Act → World → Prop} (hh : wpF P ops Q i K a w) : wpOpIn (FR ro) 0 P ops Q i K a w := by
  unfold wpF at hh
  unfold wpOpIn
  split
  · rename_i e; rw [e] at hh; exact hh
  · rename_i o e
    rw [e] at hh
    simp only at hh
    split
    · rename_i hw
      rw [if_pos hw] at hh
      refine ⟨fun _ _ => trivial, ?_⟩
      rw [Oper.semAt_eq _ _ _ (opNoDefer hd e)]
      generalize (execOp a.eval o).run P w = r at hh ⊢
      cases r with
      | halt x w' => cases x <;> exact hh
      | ok x w' =>
        cases x with
        | value v => exact hh
        | skip => exact hh
        | defer d => exact hh
        | enter f args => exact ⟨(fun h => by cases h), callsIn_FR.2 hh⟩
        | row row args => exact ⟨(fun h => by cases h), fun c cs _ => let ⟨v, w'', r, s⟩ := hh c cs; ⟨v, w'', r, up_in s⟩⟩
        | round l f tmps assign body => exact ⟨(fun h => by cases h), roundIn_FR hh⟩
        | _ => exact hh
    · rename_i hw; rw [if_neg hw] at hh; exact ⟨fun _ _ => trivial, hh⟩
theorem yields_wpF {P : Program} {ops : Array Oper} {Q : Exit → Act → World → Prop} {S : World → Prop} {i : Nat} {o : Oper} {v : Value} {a : Act} (hy : YieldsIf P ops S o v a) (hi : ops[i]? = some o) {K : Act → World → Prop} {w : World} (hS : S w) (h : K (a.put o.dst v) w) : wpF P ops Q i K a w := by
  unfold wpF
  rw [hi]
  simp only
  rcases hy with ⟨hw, hv⟩ | ⟨hw, rfl⟩
  · rw [if_pos hw, hv w hS]; exact h
  · rw [if_neg (by rw [hw]; exact Bool.false_ne_true)]; exact h
/-- An operation that hangs together with neither may come behind a value that stands fast. -/
theorem wpF_put {P : Program} {ops : Array Oper} {Q : Exit → Act → World → Prop} {S : World → Prop} {j : Nat} {oi oj : Oper} {v : Value} (hj : ops[j]? = some oj) (hap : oi.apart ops oj = true)
    (hsi : ∀ cs b, oi.op ≠ .select cs b) (hsj : ∀ cs b, oj.op ≠ .select cs b) (hQ : ∀ c a w, Q (.panic c) (a.put oi.dst v) w → Q (.panic c) a w) {K : Act → World → Prop} {a : Act} {w : World}
    (hy : YieldsIf P ops S oi v a) (h : wpF P ops Q j K (a.put oi.dst v) w) : wpF P ops Q j (fun a' w' => YieldsIf P ops S oi v a' ∧ K (a'.put oi.dst v) w') a w := by
  obtain ⟨h1, h2, h3⟩ := Oper.apart_spec hap
  have stay : ∀ u, YieldsIf P ops S oi v (a.put oj.dst u) := fun u => hy.of_same (execOp_put oi hsi a oj.dst u h3) (wanted_put oi a oj.dst u h3)
  have back : ∀ u w', K ((a.put oi.dst v).put oj.dst u) w' → YieldsIf P ops S oi v (a.put oj.dst u) ∧ K ((a.put oj.dst u).put oi.dst v) w' := fun u w' hk => ⟨stay u, by rw [← Act.put_comm a v u h2]; exact hk⟩
  unfold wpF at *
  rw [hj] at h ⊢
  simp only at h ⊢
  rw [wanted_put oj a oi.dst v h1, execOp_put oj hsj a oi.dst v h1] at h
  split
  · rename_i hw
    rw [if_pos hw] at h
    generalize (execOp a.eval oj).run P w = r at h ⊢
    cases r with
    | halt x w' => cases x <;> first | exact h | exact hQ _ _ _ h
    | ok x w' =>
      cases x with
      | value u => exact back _ _ h
      | skip => exact back _ _ h
      | defer d =>
        have sd : YieldsIf P ops S oi v ({ a with defers := d :: a.defers } : Act) := hy.of_same rfl rfl
        refine ⟨sd.of_same (execOp_put oi hsi _ oj.dst undef h3) (wanted_put oi _ oj.dst undef h3), ?_⟩
        rw [← Act.put_comm _ v undef h2, ← Act.put_defers]
        exact h
      | enter f args => exact Calls.mono h fun e w'' he => by cases e <;> first | exact back _ _ he | exact hQ _ _ _ he | exact he
      | row row args => exact Rows.mono h fun u w'' he => back _ _ he
      | round l f tmps assign body => exact RoundIn.mono h fun e w'' he => by cases e <;> first | exact back _ _ he | exact hQ _ _ _ he | exact he
      | _ => exact h
  · rename_i hw; rw [if_neg hw] at h; exact back _ _ h
/-- Whatever order comes up from here on; S holds behind each operation. -/
def anyF (P : Program) (ops : Array Oper) (Q : Exit → Act → World → Prop) (S : World → Prop) : Nat → Array Bool → Act → World → Prop
  | 0, li, a, w => Region.ready .any ops li = [] ∧ Q .normal a w
  | f + 1, li, a, w => (Region.ready .any ops li = [] → Q .normal a w) ∧ ∀ i ∈ Region.ready .any ops li, wpF P ops Q i (fun a' w' => S w' ∧ anyF P ops Q S f (li.setIfInBounds i true) a' w') a w
theorem anyF_in {P : Program} {ops : Array Oper} {Q : Exit → Act → World → Prop} {S : World → Prop} {ro : Option Nat} (hd : noDefer ops = true) : ∀ (f : Nat) (li : Array Bool) (a : Act) (w : World), anyF P ops Q S f li a w → wpAnyIn (FR ro) 0 P .any ops Q f li a w
  | 0, _, _, _, h => h
  | f + 1, li, a, w, h => ⟨h.1, fun i hi => wpF_in hd (wpF_mono (fun a' w' h' => anyF_in hd f _ a' w' h'.2) (h.2 i hi))⟩
theorem anyF_take {P : Program} {ops : Array Oper} {Q : Exit → Act → World → Prop} {S : World → Prop} {i : Nat} {oi : Oper} {v : Value} (hi : ops[i]? = some oi) (hs : Region.noSelect ops = true)
    (hQ : ∀ c a w, Q (.panic c) (a.put oi.dst v) w → Q (.panic c) a w) :
    ∀ {f : Nat} {li : Array Bool} {a : Act} {w : World}, Region.free .any ops li i = true → (Region.ready .any ops li).contains i = true → YieldsIf P ops S oi v a → S w →
      anyF P ops Q S f (li.setIfInBounds i true) (a.put oi.dst v) w → anyF P ops Q S (f + 1) li a w := by
  have sel := Region.noSelect_spec hs
  have key : ∀ (f : Nat) (li : Array Bool) (a : Act) (w : World), (∀ j oj, ops[j]? = some oj → j ≠ i → li.getD j true = false → (∀ e ∈ oj.after, Region.binds .any e = true → e.on ≠ i) → oi.apart ops oj = true) →
      i ∈ Region.ready .any ops li → YieldsIf P ops S oi v a → S w → anyF P ops Q S f (li.setIfInBounds i true) (a.put oi.dst v) w → anyF P ops Q S (f + 1) li a w := by
    intro f
    induction f with
    | zero =>
      intro li a w _ hr hy hS H
      refine ⟨(fun h => by rw [h] at hr; cases hr), fun j hj => ?_⟩
      by_cases e : j = i
      · subst e; exact yields_wpF hy hi hS (And.intro hS H)
      · have := ready_mono hj e; rw [H.1] at this; cases this
    | succ f ih =>
      intro li a w hfree hr hy hS H
      refine ⟨(fun h => by rw [h] at hr; cases hr), fun j hj => ?_⟩
      by_cases e : j = i
      · subst e; exact yields_wpF hy hi hS (And.intro hS H)
      · obtain ⟨hun, oj, hoj, hall⟩ := mem_ready.1 hj
        have hi0 := (mem_ready.1 hr).1
        have hno : ∀ e ∈ oj.after, Region.binds .any e = true → e.on ≠ i := fun x hx hb he => by
          have hx1 := hall x hx hb
          rw [he] at hx1
          rcases Nat.lt_or_ge i li.size with hlt | hge
          · simp [hlt] at hi0 hx1; rw [hi0] at hx1; cases hx1
          · simp [Array.getElem?_eq_none hge] at hx1
        have h2 := wpF_put hoj (hfree j oj hoj e hun hno) (fun cs b => sel i oi cs b hi) (fun cs b => sel j oj cs b hoj) hQ hy (H.2 j (ready_mono hj e))
        refine wpF_mono (fun a' w' h3 => ⟨h3.2.1, ih (li.setIfInBounds j true) a' w' (fun k ok hk hki hku hkn => hfree k ok hk hki ?_ hkn) (ready_mono hr (Ne.symm e)) h3.1 h3.2.1 ?_⟩) h2
        · by_cases ejk : j = k
          · subst ejk; exact hun
          · rw [getD_set_ne true ejk] at hku; exact hku
        · rw [Array.setIfInBounds_comm _ _ e]; exact h3.2.2
  intro f li a w hf hr hy hS H
  exact key f li a w (Region.free_spec hi hf) (by simpa using hr) hy hS H
theorem anyF_all {P : Program} {ops : Array Oper} {Q : Exit → Act → World → Prop} {S : World → Prop} {rs : List Nat} {f : Nat} {li : Array Bool} {a : Act} {w : World} (hr : Region.ready .any ops li = rs) (hne : rs ≠ [])
    (h : ∀ i ∈ rs, wpF P ops Q i (fun a' w' => S w' ∧ anyF P ops Q S f (li.setIfInBounds i true) a' w') a w) : anyF P ops Q S (f + 1) li a w := ⟨fun h0 => absurd (hr ▸ h0) hne, hr ▸ h⟩
def listF (P : Program) (ops : Array Oper) (Q : Exit → Act → World → Prop) : List Nat → Act → World → Prop
  | [], a, w => Q .normal a w
  | i :: r, a, w => wpF P ops Q i (listF P ops Q r) a w
theorem listF_in {P : Program} {ops : Array Oper} {Q : Exit → Act → World → Prop} {ro : Option Nat} (hd : noDefer ops = true) : ∀ (l : List Nat) (a : Act) (w : World), listF P ops Q l a w → wpOpsIn (FR ro) 0 P ops Q l a w
  | [], _, _, h => h
  | i :: r, a, w, h => by rw [wpOpsIn_cons]; exact wpF_in hd (wpF_mono (fun a' w' h' => listF_in hd r a' w' h') h)
/-! ### Operations in a given order -/
/-- The operations in this order; the marked ones may have come up at any time, in whatever world meets S. -/
def seqOps (P : Program) (ops : Array Oper) (Q : Exit → Act → World → Prop) (S : World → Prop) : List (Nat × Bool) → Act → World → Prop
  | [], a, w => Q .normal a w
  | (i, q) :: r, a, w => match ops[i]? with
    | none => False
    | some o => bif q then S w ∧ ∃ v, YieldsIf P ops S o v a ∧ seqOps P ops Q S r (a.put o.dst v) w
      else wpF P ops Q i (fun a' w' => S w' ∧ seqOps P ops Q S r a' w') a w
/-- The order may be walked: each marked operation is free to come up first, each other one is the only one that may. -/
def orderOk (ops : Array Oper) : List (Nat × Bool) → Array Bool → Bool
  | [], li => (Region.ready .any ops li).isEmpty
  | (i, q) :: r, li => (bif q then Region.free .any ops li i && (Region.ready .any ops li).contains i else Region.ready .any ops li == [i]) && orderOk ops r (li.setIfInBounds i true)
theorem seq_any {P : Program} {ops : Array Oper} {Q : Exit → Act → World → Prop} {S : World → Prop} (hs : Region.noSelect ops = true)
    (hQ : ∀ c (d : Option Tmp) v a w, Q (.panic c) (a.put d v) w → Q (.panic c) a w) :
    ∀ (ord : List (Nat × Bool)) (li : Array Bool) (a : Act) (w : World), orderOk ops ord li = true → seqOps P ops Q S ord a w → anyF P ops Q S ord.length li a w := by
  intro ord
  induction ord with
  | nil =>
    intro li a w ho h
    simp only [orderOk, List.isEmpty_iff] at ho
    exact ⟨ho, h⟩
  | cons p r ih =>
    obtain ⟨i, q⟩ := p
    intro li a w ho h
    simp only [orderOk, Bool.and_eq_true] at ho
    obtain ⟨ho1, ho2⟩ := ho
    simp only [seqOps] at h
    cases hi : ops[i]? with
    | none => rw [hi] at h; exact h.elim
    | some o =>
      rw [hi] at h
      cases q with
      | true =>
        simp only [cond_true, Bool.and_eq_true] at ho1 h
        obtain ⟨hS, v, hy, h⟩ := h
        exact anyF_take hi hs (fun c a w => hQ c _ _ a w) ho1.1 ho1.2 hy hS (ih _ _ _ ho2 h)
      | false =>
        simp only [cond_false, beq_iff_eq] at ho1 h
        refine anyF_all ho1 (by simp) ?_
        intro j hj
        simp only [List.mem_singleton] at hj
        subst hj
        exact wpF_mono (fun a' w' h' => ⟨h'.1, ih _ _ _ ho2 h'.2⟩) h
/-- Orders that part: a stretch, and behind it, where several operations may come up, ways that begin with each. -/
inductive Tree where
  | leaf (l : List (Nat × Bool))
  | node (l : List (Nat × Bool)) (a b : Tree)
def seqTree (P : Program) (ops : Array Oper) (Q : Exit → Act → World → Prop) (S : World → Prop) : Tree → Act → World → Prop
  | .leaf l => seqOps P ops Q S l
  | .node l a b => seqOps P ops (Exit.then (fun x w => S w → seqTree P ops Q S a x w ∧ seqTree P ops Q S b x w) Q) S l
def alts : Tree → List (Nat × Tree)
  | .leaf ((i, false) :: l) => [(i, .leaf l)]
  | .node ((i, false) :: l) a b => [(i, .node l a b)]
  | .node [] a b => alts a ++ alts b
  | _ => []
def treeOk (ops : Array Oper) : Nat → Tree → Array Bool → Bool
  | 0, t, li => (match t with | .leaf [] => true | _ => false) && (Region.ready .any ops li).isEmpty
  | n + 1, t, li => match t with
    | .leaf [] => false
    | .leaf ((i, q) :: l) => (bif q then Region.free .any ops li i && (Region.ready .any ops li).contains i else Region.ready .any ops li == [i]) && treeOk ops n (.leaf l) (li.setIfInBounds i true)
    | .node ((i, q) :: l) a b => (bif q then Region.free .any ops li i && (Region.ready .any ops li).contains i else Region.ready .any ops li == [i]) && treeOk ops n (.node l a b) (li.setIfInBounds i true)
    | .node [] a b => !(Region.ready .any ops li).isEmpty && (Region.ready .any ops li).all (fun i => (alts (.node [] a b)).any fun p => Nat.beq p.1 i && treeOk ops n p.2 (li.setIfInBounds i true))
theorem wpF_then {P : Program} {ops : Array Oper} {Q : Exit → Act → World → Prop} {E K : Act → World → Prop} {i : Nat} {a : Act} {w : World} (h : wpF P ops (Exit.then E Q) i K a w) : wpF P ops Q i K a w := by
  unfold wpF at h ⊢
  split
  · rename_i e; rw [e] at h; exact h
  · rename_i o e
    rw [e] at h
    simp only at h
    split
    · rename_i hw
      rw [if_pos hw] at h
      generalize (execOp a.eval o).run P w = r at h ⊢
      cases r with
      | ok n w' => cases n <;> exact h
      | halt x w' => cases x <;> exact h
    · rename_i hw; rw [if_neg hw] at h; exact h
theorem alts_of {P : Program} {ops : Array Oper} {Q : Exit → Act → World → Prop} {S : World → Prop} {a : Act} {w : World} (hS : S w) :
    ∀ (t : Tree), seqTree P ops Q S t a w → ∀ p ∈ alts t, wpF P ops Q p.1 (fun a' w' => S w' ∧ seqTree P ops Q S p.2 a' w') a w := by
  intro t
  induction t with
  | leaf l =>
    intro h p hp
    cases l with
    | nil => cases hp
    | cons x l =>
      obtain ⟨i, q⟩ := x
      cases q with
      | true => cases hp
      | false =>
        obtain rfl := List.mem_singleton.1 hp
        simp only [seqTree, seqOps] at h
        cases hi : ops[i]? with
        | none => rw [hi] at h; exact h.elim
        | some o => rw [hi] at h; simp only [cond_false] at h; exact h
  | node l x y ihx ihy =>
    intro h p hp
    cases l with
    | nil =>
      simp only [seqTree, seqOps] at h
      have h' : S w → seqTree P ops Q S x a w ∧ seqTree P ops Q S y a w := h
      rcases List.mem_append.1 hp with hp | hp
      · exact ihx (h' hS).1 p hp
      · exact ihy (h' hS).2 p hp
    | cons z l =>
      obtain ⟨i, q⟩ := z
      cases q with
      | true => cases hp
      | false =>
        obtain rfl := List.mem_singleton.1 hp
        simp only [seqTree, seqOps] at h
        cases hi : ops[i]? with
        | none => rw [hi] at h; exact h.elim
        | some o =>
          rw [hi] at h
          simp only [cond_false] at h
          exact wpF_then h
theorem tree_any {P : Program} {ops : Array Oper} {Q : Exit → Act → World → Prop} {S : World → Prop} (hs : Region.noSelect ops = true)
    (hQ : ∀ c (d : Option Tmp) v a w, Q (.panic c) (a.put d v) w → Q (.panic c) a w) :
    ∀ (n : Nat) (t : Tree) (li : Array Bool) (a : Act) (w : World), treeOk ops n t li = true → S w → seqTree P ops Q S t a w → anyF P ops Q S n li a w := by
  intro n
  induction n with
  | zero =>
    intro t li a w ho hS h
    simp only [treeOk, Bool.and_eq_true, List.isEmpty_iff] at ho
    cases t with
    | leaf l =>
      cases l with
      | nil => exact ⟨ho.2, h⟩
      | cons _ _ => simp at ho
    | node _ _ _ => simp at ho
  | succ n ih =>
    intro t li a w ho hS h
    have step : ∀ (i : Nat) (q : Bool) (t' : Tree), ((bif q then Region.free .any ops li i && (Region.ready .any ops li).contains i else Region.ready .any ops li == [i]) && treeOk ops n t' (li.setIfInBounds i true)) = true →
        (match ops[i]? with | none => False | some o => bif q then S w ∧ ∃ v, YieldsIf P ops S o v a ∧ seqTree P ops Q S t' (a.put o.dst v) w else wpF P ops Q i (fun a' w' => S w' ∧ seqTree P ops Q S t' a' w') a w) →
        anyF P ops Q S (n + 1) li a w := by
      intro i q t' ho h
      simp only [Bool.and_eq_true] at ho
      obtain ⟨ho1, ho2⟩ := ho
      cases hi : ops[i]? with
      | none => rw [hi] at h; exact h.elim
      | some o =>
        rw [hi] at h
        cases q with
        | true =>
          simp only [cond_true, Bool.and_eq_true] at ho1 h
          obtain ⟨hS, v, hy, h⟩ := h
          exact anyF_take hi hs (fun c a w => hQ c _ _ a w) ho1.1 ho1.2 hy hS (ih _ _ _ _ ho2 hS h)
        | false =>
          simp only [cond_false, beq_iff_eq] at ho1 h
          refine anyF_all ho1 (by simp) ?_
          intro j hj
          simp only [List.mem_singleton] at hj
          subst hj
          exact wpF_mono (fun a' w' h' => ⟨h'.1, ih _ _ _ _ ho2 h'.1 h'.2⟩) h
    cases t with
    | leaf l =>
      cases l with
      | nil => simp [treeOk] at ho
      | cons p l =>
        obtain ⟨i, q⟩ := p
        exact step i q (.leaf l) ho h
    | node l x y =>
      cases l with
      | cons p l =>
        obtain ⟨i, q⟩ := p
        refine step i q (.node l x y) ho ?_
        simp only [seqTree, seqOps] at h
        cases hi : ops[i]? with
        | none => rw [hi] at h; exact h.elim
        | some o =>
          rw [hi] at h
          cases q with
          | true => exact h
          | false => simp only [cond_false] at h ⊢; exact wpF_then h
      | nil =>
        simp only [treeOk, Bool.and_eq_true, Bool.not_eq_true'] at ho
        obtain ⟨hne, hall⟩ := ho
        refine anyF_all rfl (by intro e; rw [e] at hne; simp at hne) ?_
        intro j hj
        have hj' := List.all_eq_true.1 hall j hj
        obtain ⟨p, hp, hpj⟩ := List.any_eq_true.1 hj'
        simp only [Bool.and_eq_true] at hpj
        obtain ⟨hb, hok⟩ := hpj
        obtain rfl := Nat.eq_of_beq_eq_true hb
        exact wpF_mono (fun a' w' h' => ⟨h'.1, ih _ _ _ _ hok h'.1 h'.2⟩) (alts_of hS _ h p hp)
theorem seq_ops {P : Program} {ops : Array Oper} {Q : Exit → Act → World → Prop} :
    ∀ (l : List Nat) (a : Act) (w : World), seqOps P ops Q (fun _ => True) (l.map fun i => (i, false)) a w → listF P ops Q l a w := by
  intro l
  induction l with
  | nil => intro a w h; exact h
  | cons i r ih =>
    intro a w h
    simp only [List.map_cons, seqOps] at h
    cases hi : ops[i]? with
    | none => rw [hi] at h; exact h.elim
    | some o => rw [hi] at h; simp only [cond_false] at h; exact wpF_mono (fun a' w' h' => ih _ _ h'.2) h
theorem wpR_region {ro : Option Nat} {P : Program} {id : Nat} {ops : Array Oper} {Q : Exit → Act → World → Prop} {a : Act} {w : World} (hd : noDefer ops = true)
    (h : listF P ops Q (List.range ops.size) a w) : (Code.region id ops false).wpIn (FR ro) 0 P Q a w := wpIn_region (listF_in hd _ a w h)
theorem wpR_region_held {ro : Option Nat} {P : Program} {id : Nat} {ops : Array Oper} {Q : Exit → Act → World → Prop} {S : World → Prop} {a : Act} {w : World} (hd : noDefer ops = true) (hm : P.follows .mixedOrders = true)
    (h : anyF P ops Q S ops.size (Array.replicate ops.size false) a { w with drawn := w.drawn + 1 }) : (Code.region id ops true).wpIn (FR ro) 0 P Q a w := wpIn_region_any hm (anyF_in hd _ _ _ _ h)
section rules
variable {P : Program} {ro : Option Nat} {n : NT} {ops : Array Oper} {Q : Exit → Act → World → Prop} {S : World → Prop}
/-- From these slots and this memory on, the operations come to Q. -/
def Ops (P : Program) (n : NT) (ops : Array Oper) (Q : Exit → Act → World → Prop) (S : World → Prop) (ord : List (Nat × Bool)) (l : Slots) (M : World → Prop) : Prop :=
  ∀ a w, Knows n a l → M w → S w → seqOps P ops Q S ord a w
/-- From these slots and this memory on, the code comes to Q. -/
def St (P : Program) (ro : Option Nat) (n : NT) (c : Code) (Q : Exit → Act → World → Prop) (l : Slots) (M : World → Prop) : Prop :=
  ∀ a w, Knows n a l → M w → c.wpIn (FR ro) 0 P Q a w
def guardOf (ops : Array Oper) (l : Slots) (o : Oper) : Option Bool :=
  match o.guard with
  | none => some true
  | some (g, want) => match (ops[g]?).bind (·.dst) with
    | none => none
    | some t => match look l t with
      | some (.bool b) => some (bif want then b else !b)
      | some (.tuple _) => some false
      | _ => none
theorem wanted_of {a : Act} {l : Slots} (hk : Knows n a l) {o : Oper} {b : Bool} (h : guardOf ops l o = some b) : Region.wanted o (yielded ops a.tmps) = b := by
  unfold guardOf at h
  unfold Region.wanted
  cases hg : o.guard with
  | none => rw [hg] at h; simpa using h
  | some p =>
    obtain ⟨g, want⟩ := p
    rw [hg] at h
    simp only at h ⊢
    cases hd : (ops[g]?).bind (·.dst) with
    | none => rw [hd] at h; cases h
    | some t =>
      rw [hd] at h
      simp only at h
      cases hl : look l t with
      | none => rw [hl] at h; cases h
      | some v =>
        have hv := hk.slot t v hl
        rw [hl] at h
        unfold yielded
        rw [hd]
        simp only [Option.bind_some, hv]
        split at h
        · rename_i b' e
          obtain rfl := Option.some.inj e
          obtain rfl := Option.some.inj h
          cases want <;> cases b' <;> rfl
        · rename_i e
          obtain rfl := Option.some.inj e
          obtain rfl := Option.some.inj h
          cases want <;> rfl
        · cases h
def dstOk (n : NT) (o : Oper) : Bool := match o.dst with | none => true | some d => Nat.blt d n.sz
theorem dstOk_lt {o : Oper} (h : dstOk n o = true) : ∀ t, o.dst = some t → t < n.sz := by
  intro t ht
  unfold dstOk at h
  rw [ht] at h
  simpa [Nat.blt_eq] using h
def isSelect : Op → Bool | .select .. => true | _ => false
theorem not_select {o : Op} (h : isSelect o = false) : ∀ cs b, o ≠ .select cs b := by
  intro cs b e; rw [e] at h; cases h
/-- One operation whose value hangs on nothing but its slots. -/
def pureStep (P : Program) (n : NT) (ops : Array Oper) (l : Slots) (i : Nat) : Option Slots :=
  match ops[i]? with
  | none => none
  | some o => bif dstOk n o then
      (match guardOf ops l o with
      | some true => bif known l o.op && !isSelect o.op then
          (match tr P (execOp (ev l) o) [] with
          | some ([], .value v) => some (put l o.dst v)
          | _ => none) else none
      | some false => some (put l o.dst undef)
      | none => none) else none
def stretch (P : Program) (n : NT) (ops : Array Oper) : List (Nat × Bool) → Slots → Option Slots
  | [], l => some l
  | (i, _) :: r, l => match pureStep P n ops l i with | some l' => stretch P n ops r l' | none => none
theorem ops_pure {i : Nat} {q : Bool} {r : List (Nat × Bool)} {l l' : Slots} {M : World → Prop} (h : pureStep P n ops l i = some l') (k : Ops P n ops Q S r l' M) : Ops P n ops Q S ((i, q) :: r) l M := by
  intro a w hk hM hS
  simp only [seqOps]
  unfold pureStep at h
  cases hi : ops[i]? with
  | none => rw [hi] at h; cases h
  | some o =>
    rw [hi] at h
    simp only at h ⊢
    cases hd : dstOk n o with
    | false => rw [hd] at h; cases h
    | true =>
      rw [hd, cond_true] at h
      cases hg : guardOf ops l o with
      | none => rw [hg] at h; cases h
      | some b =>
        rw [hg] at h
        have hw := wanted_of hk hg
        cases b with
        | false =>
          simp only [Option.some.injEq] at h
          subst h
          have hk' := hk.put o.dst (dstOk_lt hd) undef
          have hy : YieldsIf P ops S o undef a := .inr ⟨hw, rfl⟩
          cases q with
          | true => exact ⟨hS, _, hy, k _ _ hk' hM hS⟩
          | false => exact yields_wpF (K := fun a' w' => S w' ∧ seqOps P ops Q S r a' w') hy hi hS (And.intro hS (k _ _ hk' hM hS))
        | true =>
          simp only at h
          cases hkn : (known l o.op && !isSelect o.op) with
          | false => rw [hkn] at h; cases h
          | true =>
            rw [hkn, cond_true] at h
            simp only [Bool.and_eq_true, Bool.not_eq_true'] at hkn
            split at h
            · rename_i v ht
              obtain rfl := Option.some.inj h
              have hk' := hk.put o.dst (dstOk_lt hd) v
              have hy : YieldsIf P ops S o v a := .inl ⟨hw, fun w' _ => by rw [hk.exec o (not_select hkn.2) hkn.1]; exact tr_run _ _ _ _ _ _ ht rfl⟩
              cases q with
              | true => exact ⟨hS, _, hy, k _ _ hk' hM hS⟩
              | false => exact yields_wpF (K := fun a' w' => S w' ∧ seqOps P ops Q S r a' w') hy hi hS (And.intro hS (k _ _ hk' hM hS))
            · cases h
theorem ops_stretch {r : List (Nat × Bool)} {M : World → Prop} : ∀ (is : List (Nat × Bool)) {l l' : Slots}, stretch P n ops is l = some l' → Ops P n ops Q S r l' M → Ops P n ops Q S (is ++ r) l M := by
  intro is
  induction is with
  | nil => intro l l' h k; simp only [stretch, Option.some.injEq] at h; subst h; exact k
  | cons p is ih =>
    obtain ⟨i, q⟩ := p
    intro l l' h k
    simp only [stretch] at h
    cases hp : pureStep P n ops l i with
    | none => rw [hp] at h; cases h
    | some l1 => rw [hp] at h; exact ops_pure hp (ih h k)
/-- A stretch, and what is kept of its slots. -/
theorem ops_run {is r : List (Nat × Bool)} {l l' : Slots} {M : World → Prop} (ks : List Nat) (h : (stretch P n ops is l).map (keep ks) = some l') (k : Ops P n ops Q S r l' M) : Ops P n ops Q S (is ++ r) l M := by
  cases hs : stretch P n ops is l with
  | none => rw [hs] at h; cases h
  | some l1 =>
    rw [hs] at h
    obtain rfl := Option.some.inj h
    exact ops_stretch is hs fun a w hk => k a w (hk.keep ks)
theorem ops_nil {l : Slots} {M : World → Prop} (k : ∀ a w, Knows n a l → M w → Q .normal a w) : Ops P n ops Q S [] l M := fun a w hk hM _ => k a w hk hM
/-- Slots and memory told otherwise. -/
theorem ops_conv {r : List (Nat × Bool)} {l l' : Slots} {M M' : World → Prop} (hl : l = l') (hM : ∀ w, M w → M' w) (k : Ops P n ops Q S r l' M') : Ops P n ops Q S r l M := by
  subst hl; exact fun a w hk h hS => k a w hk (hM w h) hS
/-- An operation that is told as what it is at its place, wanted. -/
structure At (P : Program) (n : NT) (ops : Array Oper) (l : Slots) (i : Nat) (d : Option Tmp) (an : List Ans) (evs : List Evt) (x : Next) : Prop where
  ok : (match ops[i]? with
    | none => none
    | some o => bif dstOk n o && known l o.op && !isSelect o.op && (match guardOf ops l o with | some true => true | _ => false) then (tr P (execOp (ev l) o) an).map fun y => (o.dst, y) else none) = some (d, evs, x)
theorem At.get {l : Slots} {i : Nat} {d : Option Tmp} {an : List Ans} {evs : List Evt} {x : Next} (h : At P n ops l i d an evs x) :
    ∃ o, ops[i]? = some o ∧ o.dst = d ∧ (∀ t, d = some t → t < n.sz) ∧ ∀ a, Knows n a l → Region.wanted o (yielded ops a.tmps) = true ∧ ∀ w w', Evs evs w w' → (execOp a.eval o).run P w = .ok x w' := by
  have h := h.ok
  cases hi : ops[i]? with
  | none => rw [hi] at h; cases h
  | some o =>
    rw [hi] at h
    simp only at h
    cases hc : (dstOk n o && known l o.op && !isSelect o.op && (match guardOf ops l o with | some true => true | _ => false)) with
    | false => rw [hc] at h; cases h
    | true =>
      rw [hc, cond_true] at h
      simp only [Bool.and_eq_true, Bool.not_eq_true'] at hc
      obtain ⟨⟨⟨hd, hkn⟩, hsel⟩, hg⟩ := hc
      cases ht : tr P (execOp (ev l) o) an with
      | none => rw [ht] at h; cases h
      | some y =>
        rw [ht] at h
        simp only [Option.map_some, Option.some.injEq, Prod.mk.injEq] at h
        obtain ⟨hd', rfl⟩ := h
        refine ⟨o, rfl, hd', fun t e => dstOk_lt hd t (hd'.trans e), fun a hk => ⟨?_, fun w w' he => ?_⟩⟩
        · split at hg
          · rename_i e; exact wanted_of hk e
          · cases hg
        · rw [hk.exec o (not_select hsel) hkn]; exact tr_run _ _ _ _ _ _ ht he
/-- An operation that touches memory. -/
theorem ops_mem {i : Nat} {r : List (Nat × Bool)} {l : Slots} {d : Option Tmp} {an : List Ans} {evs : List Evt} {v : Value} {M M' : World → Prop} (h : At P n ops l i d an evs (.value v))
    (hM : ∀ w, M w → S w → ∃ w', Evs evs w w' ∧ M' w' ∧ S w') (k : Ops P n ops Q S r (put l d v) M') : Ops P n ops Q S ((i, false) :: r) l M := by
  intro a w hk hMw hS
  obtain ⟨o, hi, hd, hlt, h⟩ := h.get
  obtain ⟨hw, hr⟩ := h a hk
  obtain ⟨w', he, hM', hS'⟩ := hM w hMw hS
  simp only [seqOps, hi, cond_false, wpF, hw, if_true, hr w w' he, upF, Oper.upon, hd]
  exact ⟨hS', k _ _ (hk.put d hlt v) hM' hS'⟩
/-- A store: it hands nothing back. -/
theorem ops_store {i : Nat} {r : List (Nat × Bool)} {l : Slots} {an : List Ans} {evs : List Evt} {M M' : World → Prop} (h : At P n ops l i none an evs .skip)
    (hM : ∀ w, M w → S w → ∃ w', Evs evs w w' ∧ M' w' ∧ S w') (k : Ops P n ops Q S r l M') : Ops P n ops Q S ((i, false) :: r) l M := by
  intro a w hk hMw hS
  obtain ⟨o, hi, hd, hlt, h⟩ := h.get
  obtain ⟨hw, hr⟩ := h a hk
  obtain ⟨w', he, hM', hS'⟩ := hM w hMw hS
  simp only [seqOps, hi, cond_false, wpF, hw, if_true, hr w w' he, upF, Oper.upon, hd]
  exact ⟨hS', k _ _ hk hM' hS'⟩
/-- A load that may have come up at any time. -/
theorem ops_load {i : Nat} {r : List (Nat × Bool)} {l : Slots} {d : Option Tmp} {an : List Ans} {evs : List Evt} {v : Value} {M : World → Prop} (h : At P n ops l i d an evs (.value v))
    (hM : ∀ w, S w → Evs evs w w) (k : Ops P n ops Q S r (put l d v) M) : Ops P n ops Q S ((i, true) :: r) l M := by
  intro a w hk hMw hS
  obtain ⟨o, hi, hd, hlt, h⟩ := h.get
  obtain ⟨hw, hr⟩ := h a hk
  simp only [seqOps, hi, cond_true]
  refine ⟨hS, v, .inl ⟨hw, fun w' hS' => hr w' w' (hM w' hS')⟩, ?_⟩
  rw [hd]
  exact k _ _ (hk.put d hlt v) hMw hS
/-- New memory: its number is any. -/
theorem ops_new {i : Nat} {r : List (Nat × Bool)} {l : Slots} {d : Option Tmp} {o : Obj} {v : Nat → Value} {M : World → Prop} {M' : Nat → World → Prop} (h : ∀ b, At P n ops l i d [.b b] [.new o b] (.value (v b)))
    (hM : ∀ w, M w → S w → M' w.heap.size (w.alloc o) ∧ S (w.alloc o)) (k : ∀ b, Ops P n ops Q S r (put l d (v b)) (M' b)) : Ops P n ops Q S ((i, false) :: r) l M := by
  intro a w hk hMw hS
  obtain ⟨o', hi, hd, hlt, h⟩ := (h w.heap.size).get
  obtain ⟨hw, hr⟩ := h a hk
  obtain ⟨hM', hS'⟩ := hM w hMw hS
  have he : Evs [.new o w.heap.size] w (w.alloc o) := ⟨rfl, rfl⟩
  simp only [seqOps, hi, cond_false, wpF, hw, if_true, hr w _ he, upF, Oper.upon, hd]
  exact And.intro hS' (k _ _ _ (hk.put d hlt _) hM' hS')
/-! ### Code -/
theorem st_region {id : Nat} {l : Slots} {M : World → Prop} (ord : List (Nat × Bool)) (ho : (noDefer ops, (List.range ops.size).map (fun i => (i, false))) = (true, ord)) (k : Ops P n ops Q (fun _ => True) ord l M) : St P ro n (.region id ops false) Q l M := by
  obtain ⟨hd, rfl⟩ := Prod.mk.inj ho
  exact fun a w hk hM => wpR_region hd (seq_ops _ _ _ (k a w hk hM trivial))
theorem st_region_draw {id : Nat} {l : Slots} {M M' : World → Prop} (ord : List (Nat × Bool)) (S : World → Prop) (hm : P.follows .mixedOrders = true) (hs : (Region.noSelect ops && noDefer ops) = true)
    (ho : (ord.length == ops.size && orderOk ops ord (Array.replicate ops.size false)) = true) (hQ : ∀ c (d : Option Tmp) v a w, Q (.panic c) (a.put d v) w → Q (.panic c) a w)
    (hM : ∀ w, M w → M' w.drew ∧ S w.drew) (k : Ops P n ops Q S ord l M') : St P ro n (.region id ops true) Q l M := by
  intro a w hk hMw
  simp only [Bool.and_eq_true, beq_iff_eq] at ho hs
  refine wpR_region_held (S := S) hs.2 hm ?_
  rw [← ho.1]
  exact seq_any hs.1 hQ ord _ _ _ (by rw [ho.1]; exact ho.2) (k a _ hk (hM w hMw).1 (hM w hMw).2)
/-- A region whose orders part. -/
theorem st_region_tree {id : Nat} {l : Slots} {M M' : World → Prop} (t : Tree) (S : World → Prop) (hm : P.follows .mixedOrders = true) (hs : (Region.noSelect ops && noDefer ops) = true)
    (ho : treeOk ops ops.size t (Array.replicate ops.size false) = true) (hQ : ∀ c (d : Option Tmp) v a w, Q (.panic c) (a.put d v) w → Q (.panic c) a w)
    (hM : ∀ w, M w → M' w.drew ∧ S w.drew) (k : ∀ a w, Knows n a l → M' w → S w → seqTree P ops Q S t a w) : St P ro n (.region id ops true) Q l M := by
  intro a w hk hMw
  simp only [Bool.and_eq_true] at hs
  refine wpR_region_held (S := S) hs.2 hm ?_
  exact tree_any hs.1 hQ _ t _ _ _ ho (hM w hMw).2 (k a _ hk (hM w hMw).1 (hM w hMw).2)
theorem tree_leaf {l : Slots} {M : World → Prop} {o : List (Nat × Bool)} (k : Ops P n ops Q S o l M) : ∀ a w, Knows n a l → M w → S w → seqTree P ops Q S (.leaf o) a w := k
theorem tree_node {l : Slots} {M : World → Prop} {o : List (Nat × Bool)} {x y : Tree} (k : Ops P n ops (Exit.then (fun a w => S w → seqTree P ops Q S x a w ∧ seqTree P ops Q S y a w) Q) S o l M) : ∀ a w, Knows n a l → M w → S w → seqTree P ops Q S (.node o x y) a w := k
theorem tree_both {l : Slots} {M : World → Prop} {x y : Tree} (k1 : ∀ a w, Knows n a l → M w → S w → seqTree P ops Q S x a w) (k2 : ∀ a w, Knows n a l → M w → S w → seqTree P ops Q S y a w) :
    ∀ a w, Knows n a l → M w → Exit.then (fun a w => S w → seqTree P ops Q S x a w ∧ seqTree P ops Q S y a w) Q .normal a w := fun a w hk hM hS => ⟨k1 a w hk hM hS, k2 a w hk hM hS⟩
theorem tree_ways {l : Slots} {M : World → Prop} {x y : Tree} (k1 : ∀ a w, Knows n a l → M w → S w → seqTree P ops Q S x a w) (k2 : ∀ a w, Knows n a l → M w → S w → seqTree P ops Q S y a w) :
    ∀ a w, Knows n a l → M w → S w → seqTree P ops Q S (.node [] x y) a w := fun a w hk hM hS _ => ⟨k1 a w hk hM hS, k2 a w hk hM hS⟩
theorem st_seq {x y : Code} {l : Slots} {M : World → Prop} (h : St P ro n x (Exit.then (y.wpIn (FR ro) 0 P Q) Q) l M) : St P ro n (.seq x y) Q l M := fun a w hk hM => wpIn_seq (h a w hk hM)
theorem st_keep {c : Code} {l l' : Slots} {M : World → Prop} (ks : List Nat) (h : keep ks l = l') (k : St P ro n c Q l' M) : St P ro n c Q l M := by
  subst h; exact fun a w hk h => k a w (hk.keep ks) h
theorem st_true {t : Tmp} {x y : Code} {l : Slots} {M : World → Prop} (ht : look l t = some (.bool true)) (k : St P ro n x Q l M) : St P ro n (.cond (.tmp t) x y) Q l M :=
  fun a w hk hM => wpIn_cond_true (by simp [Act.eval, hk.slot t _ ht]) (k a w hk hM)
theorem st_false {t : Tmp} {x y : Code} {l : Slots} {M : World → Prop} (ht : look l t = some (.bool false)) (k : St P ro n y Q l M) : St P ro n (.cond (.tmp t) x y) Q l M :=
  fun a w hk hM => wpIn_cond_false (by simp [Act.eval, hk.slot t _ ht]) (k a w hk hM)
theorem st_if {t : Tmp} {x y : Code} {l : Slots} {M : World → Prop} {b : Bool} (ht : look l t = some (.bool b)) (k1 : b = true → St P ro n x Q l M) (k2 : b = false → St P ro n y Q l M) : St P ro n (.cond (.tmp t) x y) Q l M :=
  fun a w hk hM => wpIn_cond_split (by simp [Act.eval, hk.slot t _ ht]) (fun e => k1 e a w hk hM) (fun e => k2 e a w hk hM)
theorem st_block {id : Nat} {c : Code} {l : Slots} {M : World → Prop} (h : St P ro n c (Exit.inBlock id Q) l M) : St P ro n (.block id c) Q l M := fun a w hk hM => wpIn_block (h a w hk hM)
theorem st_skip {l : Slots} {M : World → Prop} (h : ∀ a w, Knows n a l → M w → Q .normal a w) : St P ro n .skip Q l M := fun a w hk hM => wpIn_skip (h a w hk hM)
theorem st_exit {id : Nat} {l : Slots} {M : World → Prop} (h : ∀ a w, Knows n a l → M w → Q (.exit id) a w) : St P ro n (.exit id) Q l M := fun a w hk hM => wpIn_exit (h a w hk hM)
end rules
end Go.Proofs.Ytbfndcookgijfaa.Sx
