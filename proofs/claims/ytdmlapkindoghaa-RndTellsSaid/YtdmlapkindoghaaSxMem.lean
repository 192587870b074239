/- Named memory for the walking calculus: blocks of the call's own, and facts that hang on blocks that nobody writes. No condition. -/
import Derived.Test.YtdmlapkindoghaaSx
import Derived.Laws.Rows
namespace Go.Proofs.Ytdmlapkindoghaa.Sx
open Go Go.RowKit
set_option linter.unusedVariables false

/-- A fact that hangs on these blocks alone. -/
def Local (F : Nat → Prop) (φ : World → Prop) : Prop := ∀ w w' : World, (∀ b, F b → w'.heap[b]? = w.heap[b]?) → φ w → φ w'
inductive Chunk where
  | blk (b : Nat) (vs : List Value) (T : TypeId)
  | obj (b : Nat) (o : Obj)
  | dat (F : Nat → Prop) (φ : World → Prop)
def Chunk.ok (B : Nat) (w : World) : Chunk → Prop
  | .blk b vs T => B ≤ b ∧ w.heap[b]? = some (.cells vs.toArray T (0, 0))
  | .obj b o => B ≤ b ∧ w.heap[b]? = some o
  | .dat F φ => (∀ b, F b → b < w.heap.size) ∧ Local F φ ∧ φ w
/-- The block that may be written. -/
def Chunk.own : Chunk → Option Nat
  | .blk b _ _ => some b
  | .obj b _ => some b
  | .dat _ _ => none
def Chunk.touches : Chunk → Nat → Prop
  | .blk b _ _, k => k = b
  | .obj b _, k => k = b
  | .dat F _, k => F k
def Chunk.apart (c d : Chunk) : Prop := (∀ b, c.own = some b → ¬ d.touches b) ∧ (∀ b, d.own = some b → ¬ c.touches b)
structure Mem (w0 : World) (cs : List Chunk) (w : World) : Prop where
  below : Below w0.heap.size w0 w
  holds : ∀ c ∈ cs, c.ok w0.heap.size w
  apart : cs.Pairwise Chunk.apart

theorem lt_of_get {w : World} {b : Nat} {o : Obj} (h : w.heap[b]? = some o) : b < w.heap.size := (Array.getElem?_eq_some_iff.1 h).1
theorem Chunk.ok.lt {B : Nat} {w : World} {c : Chunk} (h : c.ok B w) : ∀ b, c.touches b → b < w.heap.size := by
  intro b hb
  cases c with
  | blk b' vs T => obtain rfl : b = b' := hb; exact lt_of_get h.2
  | obj b' o => obtain rfl : b = b' := hb; exact lt_of_get h.2
  | dat F φ => exact h.1 b hb
/-- What a chunk says stays where its blocks stay. -/
theorem Chunk.ok.keep {B : Nat} {w w' : World} {c : Chunk} (h : c.ok B w) (hs : w.heap.size ≤ w'.heap.size) (hb : ∀ b, c.touches b → w'.heap[b]? = w.heap[b]?) : c.ok B w' := by
  cases c with
  | blk b' vs T => exact ⟨h.1, (hb b' rfl).trans h.2⟩
  | obj b' o => exact ⟨h.1, (hb b' rfl).trans h.2⟩
  | dat F φ => exact ⟨fun b hF => Nat.lt_of_lt_of_le (h.1 b hF) hs, h.2.1, h.2.1 w w' (fun b hF => hb b hF) h.2.2⟩

section
variable {w0 w w' : World} {cs cs' : List Chunk}
theorem Mem.nil (w : World) : Mem w [] w := ⟨Below.refl _ _, by simp, .nil⟩
theorem Mem.sub (h : Mem w0 cs w) (hs : cs'.Sublist cs) : Mem w0 cs' w := ⟨h.below, fun c hc => h.holds c (hs.subset hc), h.apart.sublist hs⟩
theorem Mem.size (h : Mem w0 cs w) : w0.heap.size ≤ w.heap.size := h.below.size
/-- Nothing that was there has turned: a call that only reads, a draw, new memory. -/
theorem Mem.step (h : Mem w0 cs w) (hb : Below w.heap.size w w') : Mem w0 cs w' :=
  ⟨h.below.trans (hb.mono h.size), fun c hc => (h.holds c hc).keep hb.size fun b ht => hb.block b ((h.holds c hc).lt b ht), h.apart⟩
theorem Mem.drew (h : Mem w0 cs w) : Mem w0 cs w.drew := h.step ⟨rfl, rfl, rfl, Nat.le_refl _, fun _ _ => rfl⟩
theorem alloc_get (w : World) (o : Obj) : (w.alloc o).heap[w.heap.size]? = some o := by show (w.heap.push o)[w.heap.size]? = _; simp
theorem Mem.alloc (h : Mem w0 cs w) (o : Obj) : Mem w0 cs (w.alloc o) := h.step ((Below.refl _ _).alloc (Nat.le_refl _) o)
theorem Mem.new (h : Mem w0 cs w) {o : Obj} {c : Chunk} (hc : c.ok w0.heap.size (w.alloc o)) (ht : ∀ b, c.touches b → b = w.heap.size) : Mem w0 (c :: cs) (w.alloc o) := by
  refine ⟨(h.alloc o).below, ?_, ?_⟩
  · intro d hd
    rcases List.mem_cons.1 hd with rfl | hd
    · exact hc
    · exact (h.alloc o).holds d hd
  · refine List.pairwise_cons.2 ⟨fun d hd => ?_, h.apart⟩
    have hd' := (h.holds d hd).lt
    have hown : ∀ {c : Chunk} {b : Nat}, c.own = some b → c.touches b := by
      intro c b e; cases c <;> simp only [Chunk.own, Option.some.injEq, reduceCtorEq] at e <;> exact e.symm
    refine ⟨fun b hb htd => ?_, fun b hb htc => ?_⟩
    · have := ht b (hown hb); have := hd' b htd; omega
    · have := ht b htc; have := hd' b (hown hb); omega
/-- New memory that is the call's own. -/
theorem Mem.blk (h : Mem w0 cs w) (vs : List Value) (T : TypeId) : Mem w0 (.blk w.heap.size vs T :: cs) (w.alloc (.cells vs.toArray T)) :=
  h.new ⟨h.size, alloc_get _ _⟩ fun b hb => hb
theorem Mem.objNew (h : Mem w0 cs w) (o : Obj) : Mem w0 (.obj w.heap.size o :: cs) (w.alloc o) :=
  h.new ⟨h.size, alloc_get _ _⟩ fun b hb => hb
/-- A fact on old memory. -/
theorem Mem.old (h : Mem w0 cs w) {φ : World → Prop} (hl : Local (fun b => b < w0.heap.size) φ) (hφ : φ w) : Mem w0 (.dat (fun b => b < w0.heap.size) φ :: cs) w := by
  refine ⟨h.below, ?_, ?_⟩
  · intro d hd
    rcases List.mem_cons.1 hd with rfl | hd
    · exact ⟨fun b hb => Nat.lt_of_lt_of_le hb h.size, hl, hφ⟩
    · exact h.holds d hd
  · refine List.pairwise_cons.2 ⟨fun d hd => ⟨fun b hb => (by cases hb), fun b hb ht => ?_⟩, h.apart⟩
    have hd := h.holds d hd
    cases d with
    | blk b' vs T => obtain rfl : b' = b := Option.some.inj hb; have := hd.1; have : b' < w0.heap.size := ht; omega
    | obj b' o => obtain rfl : b' = b := Option.some.inj hb; have := hd.1; have : b' < w0.heap.size := ht; omega
    | dat _ _ => cases hb
/-- A fact on memory that a call has made. -/
theorem Mem.call (h : Mem w0 cs w) (hb : Below w.heap.size w w') {φ : World → Prop} (hl : Local (fun b => w.heap.size ≤ b ∧ b < w'.heap.size) φ) (hφ : φ w') : Mem w0 (.dat (fun b => w.heap.size ≤ b ∧ b < w'.heap.size) φ :: cs) w' := by
  have h' := h.step hb
  refine ⟨h'.below, ?_, ?_⟩
  · intro d hd
    rcases List.mem_cons.1 hd with rfl | hd
    · exact ⟨fun b hb => hb.2, hl, hφ⟩
    · exact h'.holds d hd
  · refine List.pairwise_cons.2 ⟨fun d hd => ⟨fun b hb => (by cases hb), fun b hb ht => ?_⟩, h'.apart⟩
    have hd := (h.holds d hd).lt
    have : b < w.heap.size := by
      apply hd
      cases d <;> simp only [Chunk.own, Option.some.injEq, reduceCtorEq] at hb <;> exact hb.symm
    have := ht.1
    omega
theorem Chunk.apart.symm {c d : Chunk} (h : c.apart d) : d.apart c := ⟨h.2, h.1⟩
theorem Mem.perm (h : Mem w0 cs w) (hp : cs.Perm cs') : Mem w0 cs' w :=
  ⟨h.below, fun c hc => h.holds c (hp.mem_iff.2 hc), (hp.pairwise_iff (fun {_ _} h => h.symm)).1 h.apart⟩
/-- The chunks in another order, by their places. -/
theorem Mem.reorder (h : Mem w0 cs w) (ix : List Nat) (hn : ix.Nodup) (he : ix.filterMap (cs[·]?) = cs') : Mem w0 cs' w := by
  subst he
  refine ⟨h.below, fun c hc => ?_, ?_⟩
  · obtain ⟨i, _, hi⟩ := List.mem_filterMap.1 hc
    exact h.holds c (List.mem_of_getElem? hi)
  · rw [List.pairwise_filterMap]
    refine List.Pairwise.imp ?_ hn
    intro i j hij c hc d hd
    rcases Nat.lt_or_gt_of_ne hij with hlt | hlt
    · have := List.pairwise_iff_getElem.1 h.apart i j (List.getElem?_eq_some_iff.1 hc).1 (List.getElem?_eq_some_iff.1 hd).1 hlt
      rwa [(List.getElem?_eq_some_iff.1 hc).2, (List.getElem?_eq_some_iff.1 hd).2] at this
    · have := List.pairwise_iff_getElem.1 h.apart j i (List.getElem?_eq_some_iff.1 hd).1 (List.getElem?_eq_some_iff.1 hc).1 hlt
      rw [(List.getElem?_eq_some_iff.1 hc).2, (List.getElem?_eq_some_iff.1 hd).2] at this
      exact this.symm
theorem Mem.get (h : Mem w0 cs w) (i : Nat) {c : Chunk} (hi : cs[i]? = some c) : c.ok w0.heap.size w := h.holds c (List.mem_of_getElem? hi)
theorem Mem.cell (h : Mem w0 cs w) (i : Nat) {b off : Nat} {vs : List Value} {T : TypeId} {v : Value} (hi : cs[i]? = some (.blk b vs T)) (hv : vs[off]? = some v) : w.cell? ⟨b, off, none⟩ = some v := by
  have := (h.get i hi).2
  rw [cell_of_row w b off _ _ _ this]
  simpa using hv
theorem Mem.free (h : Mem w0 cs w) (i : Nat) {b off : Nat} {vs : List Value} {T : TypeId} (hi : cs[i]? = some (.blk b vs T)) : w.frozen? ⟨b, off, none⟩ = false := by
  have := (h.get i hi).2
  simp [World.frozen?, this]
theorem Mem.fact (h : Mem w0 cs w) (i : Nat) {F : Nat → Prop} {φ : World → Prop} (hi : cs[i]? = some (.dat F φ)) : φ w := (h.get i hi).2.2

theorem pairwise_set {α : Type} {R : α → α → Prop} : ∀ {l : List α} {i : Nat} {c d : α}, l.Pairwise R → l[i]? = some c → (∀ x ∈ l, R c x → R d x) → (∀ x ∈ l, R x c → R x d) → (l.set i d).Pairwise R
  | [], _, _, _, h, hi, _, _ => by simp at hi
  | a :: l, 0, c, d, h, hi, h1, h2 => by
    simp only [List.getElem?_cons_zero, Option.some.injEq] at hi
    subst hi
    simp only [List.set_cons_zero]
    rw [List.pairwise_cons] at h ⊢
    exact ⟨fun x hx => h1 x (List.mem_cons_of_mem _ hx) (h.1 x hx), h.2⟩
  | a :: l, i + 1, c, d, h, hi, h1, h2 => by
    simp only [List.getElem?_cons_succ] at hi
    simp only [List.set_cons_succ]
    rw [List.pairwise_cons] at h ⊢
    refine ⟨fun x hx => ?_, pairwise_set h.2 hi (fun x hx => h1 x (List.mem_cons_of_mem _ hx)) (fun x hx => h2 x (List.mem_cons_of_mem _ hx))⟩
    rcases List.mem_or_eq_of_mem_set hx with hx | rfl
    · exact h.1 x hx
    · exact h2 a (List.mem_cons_self ..) (h.1 c (List.mem_of_getElem? hi))
/-- A block of the call's own is turned, all others stay. -/
theorem Mem.turn (h : Mem w0 cs w) (i : Nat) {c d : Chunk} {b : Nat} (hi : cs[i]? = some c) (hb : c.own = some b) (hd : d.own = some b) (hsz : w'.heap.size = w.heap.size) (hos : w'.os = w.os ∧ w'.tape = w.tape ∧ w'.output = w.output)
    (hk : ∀ k, k ≠ b → w'.heap[k]? = w.heap[k]?) (hok : d.ok w0.heap.size w') : Mem w0 (cs.set i d) w' := by
  have hc := h.get i hi
  have hB : w0.heap.size ≤ b := by
    cases c with
    | blk b' _ _ => obtain rfl : b' = b := Option.some.inj hb; exact hc.1
    | obj b' _ => obtain rfl : b' = b := Option.some.inj hb; exact hc.1
    | dat _ _ => cases hb
  have same : ∀ x : Chunk, ∀ k, (x.own = some b → x.touches k → k = b) := by
    intro x k hx ht
    cases x with
    | blk b' _ _ => obtain rfl : b' = b := Option.some.inj hx; exact ht
    | obj b' _ => obtain rfl : b' = b := Option.some.inj hx; exact ht
    | dat _ _ => cases hx
  have same' : ∀ x : Chunk, x.own = some b → x.touches b := by
    intro x hx
    cases x with
    | blk b' _ _ => exact (Option.some.inj hx).symm
    | obj b' _ => exact (Option.some.inj hx).symm
    | dat _ _ => cases hx
  refine ⟨?_, ?_, ?_⟩
  · exact ⟨hos.1.trans h.below.os, hos.2.1.trans h.below.tape, hos.2.2.trans h.below.output, by rw [hsz]; exact h.size, fun k hk' => (hk k (by omega)).trans (h.below.block k hk')⟩
  · intro x hx
    rw [List.mem_iff_getElem?] at hx
    obtain ⟨j, hj⟩ := hx
    rw [List.getElem?_set] at hj
    by_cases hij : i = j
    · subst hij
      simp only [if_true] at hj
      split at hj
      · obtain rfl := Option.some.inj hj; exact hok
      · cases hj
    · rw [if_neg hij] at hj
      have hx := h.get j hj
      refine hx.keep (by omega) fun k ht => hk k ?_
      rintro rfl
      have hap : c.apart x ∨ x.apart c := by
        rcases Nat.lt_or_gt_of_ne hij with hlt | hlt
        · exact .inl (List.pairwise_iff_getElem.1 h.apart i j (List.getElem?_eq_some_iff.1 hi).1 (List.getElem?_eq_some_iff.1 hj).1 hlt |> fun z => by
            rwa [(List.getElem?_eq_some_iff.1 hi).2, (List.getElem?_eq_some_iff.1 hj).2] at z)
        · exact .inr (List.pairwise_iff_getElem.1 h.apart j i (List.getElem?_eq_some_iff.1 hj).1 (List.getElem?_eq_some_iff.1 hi).1 hlt |> fun z => by
            rwa [(List.getElem?_eq_some_iff.1 hi).2, (List.getElem?_eq_some_iff.1 hj).2] at z)
      rcases hap with hap | hap
      · exact hap.1 _ hb ht
      · exact hap.2 _ hb ht
  · refine pairwise_set h.apart hi (fun x hx hap => ⟨fun k hk' ht => ?_, fun k hk' ht => ?_⟩) (fun x hx hap => ⟨fun k hk' ht => ?_, fun k hk' ht => ?_⟩)
    · obtain rfl : b = k := Option.some.inj (hd.symm.trans hk'); exact hap.1 _ hb ht
    · obtain rfl := same d k hd ht; exact hap.2 _ hk' (same' c hb)
    · obtain rfl := same d k hd ht; exact hap.1 _ hk' (same' c hb)
    · obtain rfl : b = k := Option.some.inj (hd.symm.trans hk'); exact hap.2 _ hb ht
theorem setCell_get (w : World) (b off : Nat) (vs : List Value) (T : TypeId) (v : Value) (h : w.heap[b]? = some (.cells vs.toArray T (0, 0))) : (w.setCell ⟨b, off, none⟩ v).heap[b]? = some (.cells (vs.set off v).toArray T (0, 0)) := by
  simp [World.setCell, Array.getElem?_modify, h]
theorem Mem.set (h : Mem w0 cs w) (i : Nat) {b : Nat} {vs : List Value} {T : TypeId} (hi : cs[i]? = some (.blk b vs T)) (off : Nat) (v : Value) : Mem w0 (cs.set i (.blk b (vs.set off v) T)) (w.setCell ⟨b, off, none⟩ v) :=
  h.turn i hi rfl rfl (by simp [World.setCell]) ⟨rfl, rfl, rfl⟩ (fun k hk => Below.heap_setCell w ⟨b, off, none⟩ v k hk) ⟨(h.get i hi).1, setCell_get w b off vs T v (h.get i hi).2⟩
theorem Mem.setObj (h : Mem w0 cs w) (i : Nat) {b : Nat} {o : Obj} (hi : cs[i]? = some (.obj b o)) (o' : Obj) : Mem w0 (cs.set i (.obj b o')) { w with heap := w.heap.setIfInBounds b o' } := by
  have hb := (h.get i hi).2
  refine h.turn (w' := { w with heap := w.heap.setIfInBounds b o' }) i hi rfl rfl (by simp) ⟨rfl, rfl, rfl⟩ (fun k hk => ?_) ⟨(h.get i hi).1, ?_⟩
  · show (w.heap.setIfInBounds b o')[k]? = _
    rw [Array.getElem?_setIfInBounds_ne (Ne.symm hk)]
  · show (w.heap.setIfInBounds b o')[b]? = _
    rw [Array.getElem?_setIfInBounds_self_of_lt (lt_of_get hb)]

/-! ### Several cells at once -/
def loads (b : Nat) (off : Nat) : List Value → List Evt
  | [] => []
  | v :: vs => .load ⟨b, off, none⟩ v :: loads b (off + 1) vs
def stores (b : Nat) (off : Nat) : List Value → List Evt
  | [] => []
  | v :: vs => .store ⟨b, off, none⟩ v :: stores b (off + 1) vs
def setAll (vs : List Value) (off : Nat) : List Value → List Value
  | [] => vs
  | x :: xs => setAll (vs.set off x) (off + 1) xs
theorem setAll_length (xs : List Value) : ∀ (vs : List Value) (off : Nat), (setAll vs off xs).length = vs.length := by
  induction xs with
  | nil => intro vs off; rfl
  | cons x xs ih => intro vs off; simp [setAll, ih]
theorem Mem.evs_loads (h : Mem w0 cs w) (i : Nat) {b : Nat} {vs : List Value} {T : TypeId} (hi : cs[i]? = some (.blk b vs T)) (xs : List Value) : ∀ (off : Nat), (∀ j v, xs[j]? = some v → vs[off + j]? = some v) → Evs (loads b off xs) w w := by
  induction xs with
  | nil => intro off _; rfl
  | cons x xs ih =>
    intro off hx
    refine ⟨h.cell i hi (hx 0 x rfl), ih (off + 1) fun j v hj => ?_⟩
    have := hx (j + 1) v (by simpa using hj)
    rwa [show off + (j + 1) = off + 1 + j by omega] at this
theorem Mem.evs_stores {b : Nat} {T : TypeId} (xs : List Value) : ∀ {w : World} {cs : List Chunk} (h : Mem w0 cs w) (i : Nat) {vs : List Value} (hi : cs[i]? = some (.blk b vs T)) (off : Nat), off + xs.length ≤ vs.length →
    ∃ w', Evs (stores b off xs) w w' ∧ Mem w0 (cs.set i (.blk b (setAll vs off xs) T)) w' := by
  induction xs with
  | nil =>
    intro w cs h i vs hi off _
    refine ⟨w, rfl, ?_⟩
    have : cs.set i (.blk b (setAll vs off []) T) = cs := by
      apply List.ext_getElem?
      intro j
      rw [List.getElem?_set]
      by_cases e : i = j
      · subst e; simp only [if_true, setAll, hi, (List.getElem?_eq_some_iff.1 hi).1]
      · simp [e]
    rw [this]; exact h
  | cons x xs ih =>
    intro w cs h i vs hi off hl
    simp only [List.length_cons] at hl
    have hlt : i < cs.length := (List.getElem?_eq_some_iff.1 hi).1
    obtain ⟨w', he, hM⟩ := ih (h.set i hi off x) i (vs := vs.set off x) (by rw [List.getElem?_set]; simp [hlt]) (off + 1) (by simp; omega)
    refine ⟨w', ⟨⟨vs[off], h.cell i hi (by simp)⟩, h.free i hi, he⟩, ?_⟩
    simpa [setAll, List.set_set] using hM
end

/-! ### Where a body begins and ends -/
def ofArgs : Nat → List Value → Slots
  | _, [] => []
  | i, v :: vs => (i, v) :: ofArgs (i + 1) vs
theorem look_ofArgs (vs : List Value) : ∀ (i t : Nat) (v : Value), look (ofArgs i vs) t = some v → i ≤ t ∧ vs[t - i]? = some v := by
  induction vs with
  | nil => intro i t v h; simp [ofArgs, look] at h
  | cons x xs ih =>
    intro i t v h
    simp only [ofArgs, look_cons] at h
    by_cases e : i = t
    · subst e; simp only [if_true, Option.some.injEq] at h; subst h; exact ⟨Nat.le_refl _, by simp⟩
    · simp only [e, if_false] at h
      obtain ⟨h1, h2⟩ := ih _ _ _ h
      exact ⟨by omega, by rw [show t - i = (t - (i + 1)) + 1 by omega]; simpa using h2⟩
section
variable {P : Program} {n : Nat} {Q : Exit → Act → World → Prop}
theorem sx_calls {f : FuncId} {fn : Func} {c : Code} {args : Array Value} {w : World} {R : Ending → World → Prop} {l : Slots} {M : World → Prop} (hf : P.funcs[f]? = some fn) (hb : fn.body = some c) (hn : fn.ntmps = n) (hl : ofArgs 0 args.toList = l)
    (hsz : Nat.ble args.size n = true) (hM : M w) (h : St P n c (bodyPost P fn R) l M) : Calls P f args w R := by
  subst hn hl
  refine calls_of_wp hf hb (h _ w ⟨rfl, ?_, fun t v e => ?_⟩ hM)
  · have := Nat.le_of_ble_eq_true hsz
    simp; omega
  · obtain ⟨_, h2⟩ := look_ofArgs _ _ _ _ e
    simp only [Nat.sub_zero] at h2
    have hlt : t < args.size := by
      have := (List.getElem?_eq_some_iff.1 h2).1; simpa using this
    rw [Array.getElem?_append_left hlt]
    simpa using h2
/-- What is asked where the code has come to such an end. -/
def Fin (n : Nat) (Q : Exit → Act → World → Prop) (e : Exit) (l : Slots) (M : World → Prop) : Prop := ∀ a w, Knows n a l → M w → Q e a w
variable {l : Slots} {M : World → Prop} {e : Exit}
theorem fin_then {y : Code} (h : St P n y Q l M) : Fin n (Exit.then (y.wp P Q) Q) .normal l M := h
theorem fin_ret_then {K : Act → World → Prop} (h : Fin n Q .ret l M) : Fin n (Exit.then K Q) .ret l M := h
theorem fin_exit_then {K : Act → World → Prop} {id : Nat} (h : Fin n Q (.exit id) l M) : Fin n (Exit.then K Q) (.exit id) l M := h
theorem fin_block {id : Nat} (h : Fin n Q .normal l M) : Fin n (Exit.inBlock id Q) .normal l M := h
theorem fin_ret_block {id : Nat} (h : Fin n Q .ret l M) : Fin n (Exit.inBlock id Q) .ret l M := h
theorem fin_exit {id : Nat} (h : Fin n Q .normal l M) : Fin n (Exit.inBlock id Q) (.exit id) l M := fun a w hk hM => by simp only [Exit.inBlock, if_true]; exact h a w hk hM
theorem fin_exit_ne {id id' : Nat} (hne : Nat.beq id' id = false) (h : Fin n Q (.exit id') l M) : Fin n (Exit.inBlock id Q) (.exit id') l M := fun a w hk hM => by
  have : ¬ id' = id := fun e => by subst e; simp at hne
  simp only [Exit.inBlock, this, if_false]; exact h a w hk hM
theorem fin_round {σ : Type} {I : σ → Prop} {m : Nat} {μ : σ → Nat} {L : σ → Slots} {N : σ → World → Prop} (s : σ) (hI : I s) (hm : μ s < m) (hl : ∀ t v, look (L s) t = some v → look l t = some v) (hN : ∀ w, M w → N s w) :
    Fin n (Exit.then (fun a w => ∃ s', I s' ∧ μ s' < m ∧ Knows n a (L s') ∧ N s' w) Q) .normal l M := fun a w hk hM => ⟨s, hI, hm, hk.mono hl, hN w hM⟩
theorem fin_cut {σ : Type} {l' : σ → Slots} {M' : σ → World → Prop} (s : σ) (hl : ∀ t v, look (l' s) t = some v → look l t = some v) (hN : ∀ w, M w → M' s w) :
    Fin n (Exit.then (fun a w => ∃ s, Knows n a (l' s) ∧ M' s w) Q) .normal l M := fun a w hk hM => ⟨s, hk.mono hl, hN w hM⟩
theorem st_ret (h : Fin n Q .ret l M) : St P n .ret Q l M := fun a w hk hM => wp_ret (h a w hk hM)

/-- The results, out of the slots. -/
inductive ResVals (P : Program) (l : Slots) (w : World) : List ResultVar → List Value → Prop where
  | nil : ResVals P l w [] []
  | tmp {t : Tmp} {v : Value} {rs : List ResultVar} {vs : List Value} (h : look l t = some v) (r : ResVals P l w rs vs) : ResVals P l w (.tmp t :: rs) (v :: vs)
  | cell {t : Tmp} {ty : TypeId} {ad : Addr} {v : Value} {rs : List ResultVar} {vs : List Value} (h : look l t = some (.pointer (some ad))) (hv : (loadVar ty ad).run P w = .ok v w) (r : ResVals P l w rs vs) : ResVals P l w (.cell t ty :: rs) (v :: vs)
def theOne : List Value → Value | [v] => v | vs => .tuple vs.toArray
theorem resVals_run {w : World} {tmps : Array Value} (hl : ∀ t v, look l t = some v → tmps[t]? = some v) (f : ResultVar → Sem Value) (hf : ∀ u, f (.tmp u) = pure (tmps.getD u undef)) (hc : ∀ a t, f (.cell a t) = (do loadVar t (← asAddr (tmps.getD a undef))))
    {rs : List ResultVar} {vs : List Value} (h : ResVals P l w rs vs) : (rs.mapM f).run P w = .ok vs w := by
  induction h with
  | nil => simp
  | tmp h _ ih => simp [List.mapM_cons, hf, ih, hl _ _ h]
  | cell h hv _ ih =>
    rw [List.mapM_cons, hc]
    simp [hl _ _ h, asAddr, hv, ih]
theorem fin_ret {fn : Func} {R : Ending → World → Prop} {e : Exit} (rs : List ResultVar) (vs : List Value) (he : (match e with | .ret => true | .normal => true | _ => false) = true) (hrs : fn.results = rs.toArray) (hv : ∀ w, M w → ResVals P l w rs vs)
    (hR : ∀ w, M w → R (.returned (theOne vs)) w) : Fin n (bodyPost P fn R) e l M := by
  intro a w hk hM
  have key : a.defers = [] ∧ ∃ v, (results fn a.tmps).run P w = .ok v w ∧ R (.returned v) w := by
    refine ⟨hk.defers, theOne vs, ?_, hR w hM⟩
    unfold results
    rw [hrs, List.mapM_toArray]
    simp only [Sem.run_bind, Sem.run_map]
    rw [resVals_run hk.slot _ (fun _ => rfl) (fun _ _ => rfl) (hv w hM)]
    match vs with
    | [] => rfl
    | [v] => rfl
    | _ :: _ :: _ => simp [theOne]
  cases e <;> first | exact key | (simp at he)
end
/-- The old memory is as it was. -/
theorem Mem.done {w0 w : World} {cs : List Chunk} (h : Mem w0 cs w) : Below w0.heap.size w0 w := h.below
end Go.Proofs.Ytdmlapkindoghaa.Sx
