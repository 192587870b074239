/- Named memory for the walking calculus: blocks of the call's own, and facts that hang on blocks that nobody writes. No condition. -/
import Derived.Test.YtbfndcookgijfaaSx
import Derived.Laws.Rows
import Derived.Laws.OwnMore
import Derived.Laws.AppendOwn
namespace Go.Proofs.Ytbfndcookgijfaa.Sx
open Go Go.RowKit
set_option linter.unusedVariables false
/-- A fact that hangs on these blocks alone. -/
def Local (F : Nat → Prop) (φ : World → Prop) : Prop := ∀ w w' : World, (∀ b, F b → w'.heap[b]? = w.heap[b]?) → φ w → φ w'
inductive Chunk where
  | blk (b : Nat) (vs : List Value) (T : TypeId)
  | obj (b : Nat) (o : Obj)
  | dat (F : Nat → Prop) (φ : World → Prop)
  | row (A : Option Addr) (n cap : Nat) (e : TypeId) (z : Nat) (xs : List Value)
  | tree (T : Nat → Prop) (φ : World → Prop)
def Chunk.ok (B : Nat) (w : World) : Chunk → Prop
  | .blk b vs T => B ≤ b ∧ w.heap[b]? = some (.cells vs.toArray T (0, 0))
  | .obj b o => B ≤ b ∧ w.heap[b]? = some o
  | .dat F φ => (∀ b, F b → b < w.heap.size) ∧ Local F φ ∧ φ w
  | .row A n cap e z xs => w.ownsRow B e z (.slice A n cap) n xs
  | .tree T φ => (∀ b, T b → B ≤ b ∧ b < w.heap.size) ∧ Local T φ ∧ φ w
/-- The blocks that may be written. -/
def Chunk.own : Chunk → Nat → Prop
  | .blk b _ _, k => some b = some k
  | .obj b _, k => some b = some k
  | .dat _ _, _ => False
  | .row A _ _ _ _ _, k => A.map (·.block) = some k
  | .tree T _, k => T k
def Chunk.touches : Chunk → Nat → Prop
  | .blk b _ _, k => k = b
  | .obj b _, k => k = b
  | .dat F _, k => F k
  | .row A _ _ _ _ _, k => A.map (·.block) = some k
  | .tree T _, k => T k
theorem Chunk.own_touches {c : Chunk} {b : Nat} (h : c.own b) : c.touches b := by
  cases c with
  | blk b' _ _ => exact (Option.some.inj h).symm
  | obj b' _ => exact (Option.some.inj h).symm
  | dat _ _ => exact h.elim
  | row A _ _ _ _ _ => exact h
  | tree T _ => exact h
theorem ownBlock_slice (A : Option Addr) (n cap : Nat) : Value.ownBlock (.slice A n cap) = A.map (·.block) := by cases A <;> rfl
def Chunk.apart (c d : Chunk) : Prop := (∀ b, c.own b → ¬ d.touches b) ∧ (∀ b, d.own b → ¬ c.touches b)
structure Mem (w0 : World) (cs : List Chunk) (w : World) : Prop where
  below : Below w0.heap.size w0 w
  holds : ∀ c ∈ cs, c.ok w0.heap.size w
  apart : cs.Pairwise Chunk.apart
theorem lt_of_get {w : World} {b : Nat} {o : Obj} (h : w.heap[b]? = some o) : b < w.heap.size := (Array.getElem?_eq_some_iff.1 h).1
theorem Chunk.ok.lt {B : Nat} {w : World} {c : Chunk} (h : c.ok B w) : ∀ b, c.touches b → b < w.heap.size := by
  intro b hb
  cases c with
  | blk b' vs T => obtain rfl : b = b' := hb; exact lt_of_get h.2
  | obj b' o => obtain rfl : b = b' := hb; exact lt_of_get h.2
  | dat F φ => exact h.1 b hb
  | row A n cap e z xs => exact (World.ownsRow.lt h b ((ownBlock_slice A n cap).trans hb)).2
  | tree T φ => exact (h.1 b hb).2
theorem Chunk.ok.ge {B : Nat} {w : World} {c : Chunk} (h : c.ok B w) : ∀ b, c.own b → B ≤ b := by
  intro b hb
  cases c with
  | blk b' vs T => obtain rfl : b' = b := Option.some.inj hb; exact h.1
  | obj b' o => obtain rfl : b' = b := Option.some.inj hb; exact h.1
  | dat F φ => cases hb
  | row A n cap e z xs => exact (World.ownsRow.lt h b ((ownBlock_slice A n cap).trans hb)).1
  | tree T φ => exact (h.1 b hb).1
theorem ownsRow_mono {B B' : Nat} {w : World} {e : TypeId} {z : Nat} {v : Value} {n : Nat} {xs : List Value} (h : w.ownsRow B e z v n xs) (hB : B' ≤ B) : w.ownsRow B' e z v n xs := by
  refine ⟨h.1, ?_⟩
  rcases h.2 with hn | ⟨g, cap, cur, rfl, hb, r⟩
  · exact .inl hn
  · exact .inr ⟨g, cap, cur, rfl, Nat.le_trans hB hb, r⟩
theorem ownsRow_keep {B : Nat} {w w' : World} {e : TypeId} {z : Nat} {A : Option Addr} {n c m : Nat} {xs : List Value} (h : w.ownsRow B e z (.slice A n c) m xs) (hb : ∀ b, A.map (·.block) = some b → w'.heap[b]? = w.heap[b]?) : w'.ownsRow B e z (.slice A n c) m xs := by
  refine ⟨h.1, ?_⟩
  rcases h.2 with hn | ⟨g, cap, cur, he, hg, hh, r⟩
  · exact .inl hn
  · injection he with h1 h2 h3
    subst h1 h2 h3
    exact .inr ⟨g, _, cur, rfl, hg, by rw [hb g rfl]; exact hh, r⟩
/-- What a chunk says stays where its blocks stay. -/
theorem Chunk.ok.keep {B : Nat} {w w' : World} {c : Chunk} (h : c.ok B w) (hs : w.heap.size ≤ w'.heap.size) (hb : ∀ b, c.touches b → w'.heap[b]? = w.heap[b]?) : c.ok B w' := by
  cases c with
  | blk b' vs T => exact ⟨h.1, (hb b' rfl).trans h.2⟩
  | obj b' o => exact ⟨h.1, (hb b' rfl).trans h.2⟩
  | dat F φ => exact ⟨fun b hF => Nat.lt_of_lt_of_le (h.1 b hF) hs, h.2.1, h.2.1 w w' (fun b hF => hb b hF) h.2.2⟩
  | row A n cap e z xs => exact ownsRow_keep h hb
  | tree T φ => exact ⟨fun b hT => ⟨(h.1 b hT).1, Nat.lt_of_lt_of_le (h.1 b hT).2 hs⟩, h.2.1, h.2.1 w w' (fun b hT => hb b hT) h.2.2⟩
section
variable {w0 w w' : World} {cs cs' : List Chunk}
theorem Mem.nil (w : World) : Mem w [] w := ⟨Below.refl _ _, by simp, .nil⟩
theorem Mem.sub (h : Mem w0 cs w) (hs : cs'.Sublist cs) : Mem w0 cs' w := ⟨h.below, fun c hc => h.holds c (hs.subset hc), h.apart.sublist hs⟩
theorem Mem.size (h : Mem w0 cs w) : w0.heap.size ≤ w.heap.size := h.below.size
/-- Nothing that was there has turned: a call that only reads, a draw, new memory. -/
theorem Mem.step (h : Mem w0 cs w) (hb : Below w.heap.size w w') : Mem w0 cs w' :=
  ⟨h.below.trans (hb.mono h.size), fun c hc => (h.holds c hc).keep hb.size fun b ht => hb.block b ((h.holds c hc).lt b ht), h.apart⟩
theorem Mem.drew (h : Mem w0 cs w) : Mem w0 cs w.drew := h.step ⟨rfl, rfl, rfl, Nat.le_refl _, fun _ _ => rfl⟩
theorem alloc_get (w : World) (o : Obj) : (w.alloc o).heap[w.heap.size]? = some o := by show (w.heap.push o)[w.heap.size]? = _; simp
theorem Mem.alloc (h : Mem w0 cs w) (o : Obj) : Mem w0 cs (w.alloc o) := h.step ((Below.refl _ _).alloc (Nat.le_refl _) o)
theorem Mem.new (h : Mem w0 cs w) {o : Obj} {c : Chunk} (hc : c.ok w0.heap.size (w.alloc o)) (ht : ∀ b, c.touches b → b = w.heap.size) : Mem w0 (c :: cs) (w.alloc o) := by
  refine ⟨(h.alloc o).below, ?_, ?_⟩
  · intro d hd
    rcases List.mem_cons.1 hd with rfl | hd
    · exact hc
    · exact (h.alloc o).holds d hd
  · refine List.pairwise_cons.2 ⟨fun d hd => ?_, h.apart⟩
    have hd' := (h.holds d hd).lt
    refine ⟨fun b hb htd => ?_, fun b hb htc => ?_⟩
    · have := ht b (Chunk.own_touches hb); have := hd' b htd; omega
    · have := ht b htc; have := hd' b (Chunk.own_touches hb); omega
/-- New memory that is the call's own. -/
theorem Mem.blk (h : Mem w0 cs w) (vs : List Value) (T : TypeId) : Mem w0 (.blk w.heap.size vs T :: cs) (w.alloc (.cells vs.toArray T)) :=
  h.new ⟨h.size, alloc_get _ _⟩ fun b hb => hb
theorem Mem.objNew (h : Mem w0 cs w) (o : Obj) : Mem w0 (.obj w.heap.size o :: cs) (w.alloc o) :=
  h.new ⟨h.size, alloc_get _ _⟩ fun b hb => hb
/-- A fact on old memory. -/
theorem Mem.old (h : Mem w0 cs w) {φ : World → Prop} (hl : Local (fun b => b < w0.heap.size) φ) (hφ : φ w) : Mem w0 (.dat (fun b => b < w0.heap.size) φ :: cs) w := by
  refine ⟨h.below, ?_, ?_⟩
  · intro d hd
    rcases List.mem_cons.1 hd with rfl | hd
    · exact ⟨fun b hb => Nat.lt_of_lt_of_le hb h.size, hl, hφ⟩
    · exact h.holds d hd
  · refine List.pairwise_cons.2 ⟨fun d hd => ⟨fun b hb => (by cases hb), fun b hb ht => ?_⟩, h.apart⟩
    have := (h.holds d hd).ge b hb
    have : b < w0.heap.size := ht
    omega
/-- A fact on memory that a call has made. -/
theorem Mem.call (h : Mem w0 cs w) (hb : Below w.heap.size w w') {φ : World → Prop} (hl : Local (fun b => w.heap.size ≤ b ∧ b < w'.heap.size) φ) (hφ : φ w') : Mem w0 (.dat (fun b => w.heap.size ≤ b ∧ b < w'.heap.size) φ :: cs) w' := by
  have h' := h.step hb
  refine ⟨h'.below, ?_, ?_⟩
  · intro d hd
    rcases List.mem_cons.1 hd with rfl | hd
    · exact ⟨fun b hb => hb.2, hl, hφ⟩
    · exact h'.holds d hd
  · refine List.pairwise_cons.2 ⟨fun d hd => ⟨fun b hb => (by cases hb), fun b hb ht => ?_⟩, h'.apart⟩
    have hd := (h.holds d hd).lt
    have : b < w.heap.size := hd b (Chunk.own_touches hb)
    have := ht.1
    omega
theorem Chunk.apart.symm {c d : Chunk} (h : c.apart d) : d.apart c := ⟨h.2, h.1⟩
/-- The chunks in another order, by their places. -/
theorem Mem.reorder (h : Mem w0 cs w) (ix : List Nat) (hn : ix.Nodup) (he : ix.filterMap (cs[·]?) = cs') : Mem w0 cs' w := by
  subst he
  refine ⟨h.below, fun c hc => ?_, ?_⟩
  · obtain ⟨i, _, hi⟩ := List.mem_filterMap.1 hc
    exact h.holds c (List.mem_of_getElem? hi)
  · rw [List.pairwise_filterMap]
    refine List.Pairwise.imp ?_ hn
    intro i j hij c hc d hd
    rcases Nat.lt_or_gt_of_ne hij with hlt | hlt
    · have := List.pairwise_iff_getElem.1 h.apart i j (List.getElem?_eq_some_iff.1 hc).1 (List.getElem?_eq_some_iff.1 hd).1 hlt
      rwa [(List.getElem?_eq_some_iff.1 hc).2, (List.getElem?_eq_some_iff.1 hd).2] at this
    · have := List.pairwise_iff_getElem.1 h.apart j i (List.getElem?_eq_some_iff.1 hd).1 (List.getElem?_eq_some_iff.1 hc).1 hlt
      rw [(List.getElem?_eq_some_iff.1 hc).2, (List.getElem?_eq_some_iff.1 hd).2] at this
      exact this.symm
theorem Mem.get (h : Mem w0 cs w) (i : Nat) {c : Chunk} (hi : cs[i]? = some c) : c.ok w0.heap.size w := h.holds c (List.mem_of_getElem? hi)
theorem Mem.cell (h : Mem w0 cs w) (i : Nat) {b off : Nat} {vs : List Value} {T : TypeId} {v : Value} (hi : cs[i]? = some (.blk b vs T)) (hv : vs[off]? = some v) : w.cell? ⟨b, off, none⟩ = some v := by
  have := (h.get i hi).2
  rw [cell_of_row w b off _ _ _ this]
  simpa using hv
theorem Mem.free (h : Mem w0 cs w) (i : Nat) {b off : Nat} {vs : List Value} {T : TypeId} (hi : cs[i]? = some (.blk b vs T)) : w.frozen? ⟨b, off, none⟩ = false := by
  have := (h.get i hi).2
  simp [World.frozen?, this]
theorem Mem.fact (h : Mem w0 cs w) (i : Nat) {F : Nat → Prop} {φ : World → Prop} (hi : cs[i]? = some (.dat F φ)) : φ w := (h.get i hi).2.2
theorem Mem.apartAt (h : Mem w0 cs w) {i j : Nat} {c x : Chunk} (hi : cs[i]? = some c) (hj : cs[j]? = some x) (hij : i ≠ j) : c.apart x := by
  rcases Nat.lt_or_gt_of_ne hij with hlt | hlt
  · have z := List.pairwise_iff_getElem.1 h.apart i j (List.getElem?_eq_some_iff.1 hi).1 (List.getElem?_eq_some_iff.1 hj).1 hlt
    rwa [(List.getElem?_eq_some_iff.1 hi).2, (List.getElem?_eq_some_iff.1 hj).2] at z
  · have z := List.pairwise_iff_getElem.1 h.apart j i (List.getElem?_eq_some_iff.1 hj).1 (List.getElem?_eq_some_iff.1 hi).1 hlt
    rw [(List.getElem?_eq_some_iff.1 hj).2, (List.getElem?_eq_some_iff.1 hi).2] at z
    exact ⟨z.2, z.1⟩
/-- A chunk of the call's own is turned, all others stay; it may move to new memory. -/
theorem Mem.turn' (h : Mem w0 cs w) (i : Nat) {c d : Chunk} (hi : cs[i]? = some c) (hdk : ∀ k, d.touches k → c.own k ∨ w.heap.size ≤ k) (hsz : w.heap.size ≤ w'.heap.size) (hos : w'.os = w.os ∧ w'.tape = w.tape ∧ w'.output = w.output)
    (hk : ∀ k, k < w.heap.size → ¬ c.own k → w'.heap[k]? = w.heap[k]?) (hok : d.ok w0.heap.size w') : Mem w0 (cs.set i d) w' := by
  have hc := h.get i hi
  have keep : ∀ j x, cs[j]? = some x → i ≠ j → x.ok w0.heap.size w' := fun j x hj hij =>
    (h.get j hj).keep hsz fun k ht => hk k ((h.get j hj).lt k ht) fun hc' => (h.apartAt hi hj hij).1 k hc' ht
  refine ⟨?_, ?_, ?_⟩
  · exact ⟨hos.1.trans h.below.os, hos.2.1.trans h.below.tape, hos.2.2.trans h.below.output, Nat.le_trans h.size hsz, fun k hk' => (hk k (Nat.lt_of_lt_of_le hk' h.size) fun hc' => by have := hc.ge k hc'; omega).trans (h.below.block k hk')⟩
  · intro x hx
    rw [List.mem_iff_getElem?] at hx
    obtain ⟨j, hj⟩ := hx
    rw [List.getElem?_set] at hj
    by_cases hij : i = j
    · subst hij
      simp only [if_true] at hj
      split at hj
      · obtain rfl := Option.some.inj hj; exact hok
      · cases hj
    · rw [if_neg hij] at hj
      exact keep j x hj hij
  · rw [List.pairwise_iff_getElem]
    have key : ∀ j x, cs[j]? = some x → i ≠ j → d.apart x := fun j x hj hij => by
      have ha := h.apartAt hi hj hij
      have hx := h.get j hj
      refine ⟨fun b hb ht => ?_, fun b hb ht => ?_⟩
      · rcases hdk b (Chunk.own_touches hb) with h1 | h1
        · exact ha.1 b h1 ht
        · have := hx.lt b ht; omega
      · rcases hdk b ht with h1 | h1
        · exact ha.2 b hb (Chunk.own_touches h1)
        · have := hx.lt b (Chunk.own_touches hb); omega
    intro j k hj hk' hjk
    simp only [List.length_set] at hj hk'
    simp only [List.getElem_set]
    by_cases h1 : i = j
    · subst h1
      have : ¬ i = k := by omega
      simp only [if_true, this, if_false]
      exact key k _ (List.getElem?_eq_getElem hk') (by omega)
    · by_cases h2 : i = k
      · subst h2
        simp only [if_true, h1, if_false]
        exact (fun z => ⟨z.2, z.1⟩ : d.apart cs[j] → cs[j].apart d) (key j _ (List.getElem?_eq_getElem hj) h1)
      · simp only [h1, h2, if_false]
        exact List.pairwise_iff_getElem.1 h.apart j k hj hk' hjk
theorem Mem.turn (h : Mem w0 cs w) (i : Nat) {c d : Chunk} {b : Nat} (hi : cs[i]? = some c) (hb : c.own b) (hd : ∀ k, d.touches k → k = b) (hsz : w'.heap.size = w.heap.size) (hos : w'.os = w.os ∧ w'.tape = w.tape ∧ w'.output = w.output)
    (hk : ∀ k, k ≠ b → w'.heap[k]? = w.heap[k]?) (hok : d.ok w0.heap.size w') : Mem w0 (cs.set i d) w' :=
  h.turn' i hi (fun k ht => .inl (by rw [hd k ht]; exact hb)) (by omega) hos (fun k _ hne => hk k fun e => hne (by rw [e]; exact hb)) hok
theorem setCell_get (w : World) (b off : Nat) (vs : List Value) (T : TypeId) (v : Value) (h : w.heap[b]? = some (.cells vs.toArray T (0, 0))) : (w.setCell ⟨b, off, none⟩ v).heap[b]? = some (.cells (vs.set off v).toArray T (0, 0)) := by
  simp [World.setCell, Array.getElem?_modify, h]
theorem Mem.set (h : Mem w0 cs w) (i : Nat) {b : Nat} {vs : List Value} {T : TypeId} (hi : cs[i]? = some (.blk b vs T)) (off : Nat) (v : Value) : Mem w0 (cs.set i (.blk b (vs.set off v) T)) (w.setCell ⟨b, off, none⟩ v) :=
  h.turn i hi rfl (fun k hk => hk) (by simp [World.setCell]) ⟨rfl, rfl, rfl⟩ (fun k hk => Below.heap_setCell w ⟨b, off, none⟩ v k hk) ⟨(h.get i hi).1, setCell_get w b off vs T v (h.get i hi).2⟩
theorem Mem.setObj (h : Mem w0 cs w) (i : Nat) {b : Nat} {o : Obj} (hi : cs[i]? = some (.obj b o)) (o' : Obj) : Mem w0 (cs.set i (.obj b o')) { w with heap := w.heap.setIfInBounds b o' } := by
  have hb := (h.get i hi).2
  refine h.turn (w' := { w with heap := w.heap.setIfInBounds b o' }) i hi rfl (fun k hk => hk) (by simp) ⟨rfl, rfl, rfl⟩ (fun k hk => ?_) ⟨(h.get i hi).1, ?_⟩
  · show (w.heap.setIfInBounds b o')[k]? = _
    rw [Array.getElem?_setIfInBounds_ne (Ne.symm hk)]
  · show (w.heap.setIfInBounds b o')[b]? = _
    rw [Array.getElem?_setIfInBounds_self_of_lt (lt_of_get hb)]
/-! ### Several cells at once -/
def loads (b : Nat) (off : Nat) : List Value → List Evt
  | [] => []
  | v :: vs => .load ⟨b, off, none⟩ v :: loads b (off + 1) vs
def stores (b : Nat) (off : Nat) : List Value → List Evt
  | [] => []
  | v :: vs => .store ⟨b, off, none⟩ v :: stores b (off + 1) vs
def setAll (vs : List Value) (off : Nat) : List Value → List Value
  | [] => vs
  | x :: xs => setAll (vs.set off x) (off + 1) xs
theorem setAll_length (xs : List Value) : ∀ (vs : List Value) (off : Nat), (setAll vs off xs).length = vs.length := by
  induction xs with
  | nil => intro vs off; rfl
  | cons x xs ih => intro vs off; simp [setAll, ih]
theorem Mem.evs_stores {b : Nat} {T : TypeId} (xs : List Value) : ∀ {w : World} {cs : List Chunk} (h : Mem w0 cs w) (i : Nat) {vs : List Value} (hi : cs[i]? = some (.blk b vs T)) (off : Nat), off + xs.length ≤ vs.length →
    ∃ w', Evs (stores b off xs) w w' ∧ Mem w0 (cs.set i (.blk b (setAll vs off xs) T)) w' := by
  induction xs with
  | nil =>
    intro w cs h i vs hi off _
    refine ⟨w, rfl, ?_⟩
    have : cs.set i (.blk b (setAll vs off []) T) = cs := by
      apply List.ext_getElem?
      intro j
      rw [List.getElem?_set]
      by_cases e : i = j
      · subst e; simp only [if_true, setAll, hi, (List.getElem?_eq_some_iff.1 hi).1]
      · simp [e]
    rw [this]; exact h
  | cons x xs ih =>
    intro w cs h i vs hi off hl
    simp only [List.length_cons] at hl
    have hlt : i < cs.length := (List.getElem?_eq_some_iff.1 hi).1
    obtain ⟨w', he, hM⟩ := ih (h.set i hi off x) i (vs := vs.set off x) (by rw [List.getElem?_set]; simp [hlt]) (off + 1) (by simp; omega)
    refine ⟨w', ⟨⟨vs[off], h.cell i hi (by simp)⟩, h.free i hi, he⟩, ?_⟩
    simpa [setAll, List.set_set] using hM
end
/-! ### Rows -/
section
variable {w0 w w' : World} {cs cs' : List Chunk} {A : Option Addr} {n cap z : Nat} {e : TypeId} {xs : List Value} {g off : Nat} {v : Value}
theorem Mem.rowNil (h : Mem w0 cs w) (e : TypeId) (z : Nat) : Mem w0 (.row none 0 0 e z [] :: cs) w := by
  refine ⟨h.below, ?_, List.pairwise_cons.2 ⟨fun d hd => ⟨fun b hb => (by cases hb), fun b hb ht => (by cases ht)⟩, h.apart⟩⟩
  intro c hc
  rcases List.mem_cons.1 hc with rfl | hc
  · exact World.ownsRow_nil _ _ _ _
  · exact h.holds c hc
theorem Mem.rowLen (h : Mem w0 cs w) (i : Nat) (hi : cs[i]? = some (.row A n cap e z xs)) : xs.length = n * z := (h.get i hi).1
theorem Mem.rowSome (h : Mem w0 cs w) (i : Nat) (hi : cs[i]? = some (.row A n cap e z xs)) (hn : 0 < n) : ∃ g, A = some ⟨g, 0, none⟩ := by
  rcases (h.get i hi).2 with ⟨_, hz⟩ | ⟨g, cap', cur, he, _⟩
  · omega
  · injection he with h1; exact ⟨g, h1⟩
theorem Mem.rowCap (h : Mem w0 cs w) (i : Nat) (hi : cs[i]? = some (.row A n cap e z xs)) : n ≤ cap ∧ cap ≤ maxLen := by
  rcases (h.get i hi).2 with ⟨he, hz⟩ | ⟨g, cap', cur, he, _, _, h1, h2, _⟩
  · injection he with h1 h2 h3; subst h3; exact ⟨by omega, by decide⟩
  · injection he with _ _ h3; subst h3; exact ⟨h1, h2⟩
theorem Mem.rowcell (h : Mem w0 cs w) (i : Nat) (hi : cs[i]? = some (.row (some ⟨g, 0, none⟩) n cap e z xs)) (hv : xs[off]? = some v) : w.cell? ⟨g, off, none⟩ = some v := by
  have hr := h.get i hi
  have hlt : off < n * z := by rw [← hr.1]; exact (List.getElem?_eq_some_iff.1 hv).1
  rw [World.ownsRow.cellAt hr off hlt]; exact hv
theorem Mem.rowfree (h : Mem w0 cs w) (i : Nat) (hi : cs[i]? = some (.row (some ⟨g, 0, none⟩) n cap e z xs)) : w.frozen? ⟨g, off, none⟩ = false := World.ownsRow.frozenAt (h.get i hi) off
theorem Mem.rowset (h : Mem w0 cs w) (i : Nat) (hi : cs[i]? = some (.row (some ⟨g, 0, none⟩) n cap e z xs)) (off : Nat) (v : Value) : Mem w0 (cs.set i (.row (some ⟨g, 0, none⟩) n cap e z (xs.set off v))) (w.setCell ⟨g, off, none⟩ v) := by
  have hs := World.ownsRow.stored (h.get i hi) off v
  refine h.turn' i hi (fun k ht => .inl ht) hs.2.size ⟨hs.2.os, hs.2.tape, hs.2.output⟩ (fun k hk hne => hs.2.block k hk fun e => hne (Eq.symm e)) hs.1
theorem Mem.evs_rowstores (xs' : List Value) : ∀ {w : World} {cs : List Chunk} (h : Mem w0 cs w) (i : Nat) {xs : List Value} (hi : cs[i]? = some (.row (some ⟨g, 0, none⟩) n cap e z xs)) (off : Nat), off + xs'.length ≤ xs.length →
    ∃ w', Evs (stores g off xs') w w' ∧ Mem w0 (cs.set i (.row (some ⟨g, 0, none⟩) n cap e z (setAll xs off xs'))) w' := by
  induction xs' with
  | nil =>
    intro w cs h i xs hi off _
    refine ⟨w, rfl, ?_⟩
    have : cs.set i (.row (some ⟨g, 0, none⟩) n cap e z (setAll xs off [])) = cs := by
      apply List.ext_getElem?
      intro j
      rw [List.getElem?_set]
      by_cases e : i = j
      · subst e; simp only [if_true, setAll, hi, (List.getElem?_eq_some_iff.1 hi).1]
      · simp [e]
    rw [this]; exact h
  | cons x xs' ih =>
    intro w cs h i xs hi off hl
    simp only [List.length_cons] at hl
    have hlt : i < cs.length := (List.getElem?_eq_some_iff.1 hi).1
    obtain ⟨w', he, hM⟩ := ih (h.rowset i hi off x) i (xs := xs.set off x) (by rw [List.getElem?_set]; simp [hlt]) (off + 1) (by simp; omega)
    refine ⟨w', ⟨⟨xs[off], h.rowcell i hi (by simp)⟩, h.rowfree i hi, he⟩, ?_⟩
    simpa [setAll, List.set_set] using hM
theorem Mem.set_same (h : Mem w0 cs w) {i : Nat} {c d : Chunk} (hi : cs[i]? = some c) (hd : c = d) : Mem w0 (cs.set i d) w := by
  subst hd
  have : cs.set i c = cs := by
    apply List.ext_getElem?
    intro j
    rw [List.getElem?_set]
    by_cases e : i = j
    · subst e; simp only [if_true, hi, (List.getElem?_eq_some_iff.1 hi).1]
    · simp [e]
  rw [this]; exact h
/-- A block of the call's own, seen as a row. -/
theorem Mem.blkRow (h : Mem w0 cs w) (i : Nat) {b : Nat} {vs : List Value} {T : TypeId} (hi : cs[i]? = some (.blk b vs T)) (n z : Nat) (hz : vs.length = n * z) (hn : n ≤ maxLen) : Mem w0 (cs.set i (.row (some ⟨b, 0, none⟩) n n T z vs)) w := by
  have hb := h.get i hi
  refine h.turn' i hi (fun k ht => .inl ht) (Nat.le_refl _) ⟨rfl, rfl, rfl⟩ (fun _ _ _ => rfl) ⟨hz, .inr ⟨b, n, vs.toArray, rfl, hb.1, hb.2, Nat.le_refl _, hn, by simpa using hz, ?_⟩⟩
  rw [← hz]
  simp
/-- The memory that a call has made joins the caller's. -/
theorem Mem.join {cs2 : List Chunk} (h : Mem w0 cs w) (h2 : Mem w cs2 w') (hd : cs2.all (fun c => match c with | .dat .. => false | _ => true) = true) : Mem w0 (cs2 ++ cs) w' := by
  have hs := h.step h2.below
  have hnd : ∀ c ∈ cs2, ∀ k, c.touches k → c.own k := fun c hc k ht => by
    have := List.all_eq_true.1 hd c hc
    cases c <;> first | exact congrArg some (Eq.symm ht) | exact ht | (simp at this)
  refine ⟨hs.below, fun c hc => ?_, List.pairwise_append.2 ⟨h2.apart, h.apart, fun c hc d hd' => ?_⟩⟩
  · rcases List.mem_append.1 hc with hc | hc
    · have ho := h2.holds c hc
      have hsz := h.size
      have hdd := List.all_eq_true.1 hd c hc
      cases c with
      | blk b vs T => exact ⟨Nat.le_trans hsz ho.1, ho.2⟩
      | obj b o => exact ⟨Nat.le_trans hsz ho.1, ho.2⟩
      | dat F φ => simp at hdd
      | row A n cap e z xs => exact ownsRow_mono ho hsz
      | tree T φ => exact ⟨fun b hb => ⟨Nat.le_trans hsz (ho.1 b hb).1, (ho.1 b hb).2⟩, ho.2⟩
    · exact hs.holds c hc
  · have ho := h2.holds c hc
    have hx := h.holds d hd'
    refine ⟨fun b hb ht => ?_, fun b hb ht => ?_⟩
    · have := ho.ge b hb; have := hx.lt b ht; omega
    · have := ho.ge b (hnd c hc b ht); have := hx.lt b (Chunk.own_touches hb); omega
/-- A row is made. -/
theorem Mem.rowNew (h : Mem w0 cs w) (vs : List Value) (T : TypeId) (n z : Nat) (hz : vs.length = n * z) (hn : n ≤ maxLen) : Mem w0 (.row (some ⟨w.heap.size, 0, none⟩) n n T z vs :: cs) (w.alloc (.cells vs.toArray T)) :=
  (h.blk vs T).blkRow 0 rfl n z hz hn
theorem Mem.rowGrown (h : Mem w0 cs w) (i : Nat) (hi : cs[i]? = some (.row A n cap e z xs)) {A' : Option Addr} {n' cap' : Nat} {xs' : List Value} (ho : w'.ownsRow w.heap.size e z (.slice A' n' cap') n' xs' ∨ (A' = A ∧ w'.ownsRow w0.heap.size e z (.slice A' n' cap') n' xs')) (hg : w.grownBy w' (A.map (·.block))) :
    Mem w0 (cs.set i (.row A' n' cap' e z xs')) w' := by
  refine h.turn' i hi (fun k ht => ?_) hg.size ⟨hg.os, hg.tape, hg.output⟩ (fun k hk hne => hg.block k hk (fun e => hne (Eq.symm e))) ?_
  · rcases ho with ho | ⟨rfl, _⟩
    · exact .inr (World.ownsRow.lt ho k ((ownBlock_slice _ _ _).trans ht)).1
    · exact .inl ht
  · rcases ho with ho | ⟨_, ho⟩
    · exact ownsRow_mono ho h.size
    · exact ho
/-- Fewer elements of a row. -/
theorem Mem.rowTake (h : Mem w0 cs w) (i : Nat) (hi : cs[i]? = some (.row A n cap e z xs)) {m : Nat} (hm : m ≤ n) : Mem w0 (cs.set i (.row A m cap e z (xs.take (m * z)))) w := by
  refine h.turn' i hi (fun k ht => .inl ht) (Nat.le_refl _) ⟨rfl, rfl, rfl⟩ (fun _ _ _ => rfl) ?_
  have ho := h.get i hi
  have hmz : m * z ≤ n * z := Nat.mul_le_mul_right z hm
  refine ⟨by rw [List.length_take, ho.1]; omega, ?_⟩
  rcases ho.2 with ⟨he, hz⟩ | ⟨g, cap', cur, he, hb, hg, h1, h2, h3, h4⟩
  · injection he with e1 e2 e3
    subst e1 e3
    have : m = 0 := by omega
    subst this
    exact .inl ⟨rfl, rfl⟩
  · injection he with e1 e2 e3
    subst e1 e3
    exact .inr ⟨g, cap, cur, rfl, hb, hg, by omega, h2, h3, by rw [← h4, List.take_take, Nat.min_eq_left hmz]⟩
/-- Whole numbers in a row. -/
def iv (k : IntKind) (l : List Int) : List Value := l.map (.int k)
@[simp] theorem iv_length (k : IntKind) (l : List Int) : (iv k l).length = l.length := by simp [iv]
end
/-! ### Where a body begins and ends -/
def ofArgs : Nat → List Value → Slots
  | _, [] => []
  | i, v :: vs => (i, v) :: ofArgs (i + 1) vs
theorem look_ofArgs (vs : List Value) : ∀ (i t : Nat) (v : Value), look (ofArgs i vs) t = some v → i ≤ t ∧ vs[t - i]? = some v := by
  induction vs with
  | nil => intro i t v h; simp [ofArgs, look] at h
  | cons x xs ih =>
    intro i t v h
    simp only [ofArgs, look_cons] at h
    by_cases e : i = t
    · subst e; simp only [if_true, Option.some.injEq] at h; subst h; exact ⟨Nat.le_refl _, by simp⟩
    · simp only [e, if_false] at h
      obtain ⟨h1, h2⟩ := ih _ _ _ h
      exact ⟨by omega, by rw [show t - i = (t - (i + 1)) + 1 by omega]; simpa using h2⟩
section
variable {P : Program} {ro : Option Nat} {n : NT} {Q : Exit → Act → World → Prop}
theorem sx_calls {n : Nat} {f : FuncId} {fn : Func} {c : Code} {args : Array Value} {w : World} {R : Ending → World → Prop} {l : Slots} {M : World → Prop} (hf : P.funcs[f]? = some fn) (hb : fn.body = some c) (hn : fn.ntmps = n) (hl : ofArgs 0 args.toList = l)
    (hsz : Nat.ble args.size n = true) (hM : M w) (h : St P none ⟨n, []⟩ c (bodyPost P fn R) l M) : Calls P f args w R := by
  subst hn hl
  refine calls_of_wp hf hb (wpIn_wide.1 (h _ w ⟨rfl, ?_, fun t v e => ?_⟩ hM))
  · have := Nat.le_of_ble_eq_true hsz
    simp; omega
  · obtain ⟨_, h2⟩ := look_ofArgs _ _ _ _ e
    simp only [Nat.sub_zero] at h2
    have hlt : t < args.size := by
      have := (List.getElem?_eq_some_iff.1 h2).1; simpa using this
    rw [Array.getElem?_append_left hlt]
    simpa using h2
/-- What is asked where the code has come to such an end. -/
def Fin (n : NT) (Q : Exit → Act → World → Prop) (e : Exit) (l : Slots) (M : World → Prop) : Prop := ∀ a w, Knows n a l → M w → Q e a w
variable {l : Slots} {M : World → Prop} {e : Exit}
theorem fin_then {y : Code} (h : St P ro n y Q l M) : Fin n (Exit.then (y.wpIn (FR ro) 0 P Q) Q) .normal l M := h
theorem fin_ret_then {K : Act → World → Prop} (h : Fin n Q .ret l M) : Fin n (Exit.then K Q) .ret l M := h
theorem fin_exit_then {K : Act → World → Prop} {id : Nat} (h : Fin n Q (.exit id) l M) : Fin n (Exit.then K Q) (.exit id) l M := h
theorem fin_block {id : Nat} (h : Fin n Q .normal l M) : Fin n (Exit.inBlock id Q) .normal l M := h
theorem fin_ret_block {id : Nat} (h : Fin n Q .ret l M) : Fin n (Exit.inBlock id Q) .ret l M := h
theorem fin_exit {id : Nat} (h : Fin n Q .normal l M) : Fin n (Exit.inBlock id Q) (.exit id) l M := fun a w hk hM => by simp only [Exit.inBlock, if_true]; exact h a w hk hM
theorem st_ret (h : Fin n Q .ret l M) : St P ro n .ret Q l M := fun a w hk hM => wpIn_ret (h a w hk hM)
/-- The results, out of the slots. -/
inductive ResVals (P : Program) (l : Slots) (w : World) : List ResultVar → List Value → Prop where
  | nil : ResVals P l w [] []
  | tmp {t : Tmp} {v : Value} {rs : List ResultVar} {vs : List Value} (h : look l t = some v) (r : ResVals P l w rs vs) : ResVals P l w (.tmp t :: rs) (v :: vs)
  | cell {t : Tmp} {ty : TypeId} {ad : Addr} {v : Value} {rs : List ResultVar} {vs : List Value} (h : look l t = some (.pointer (some ad))) (hv : (loadVar ty ad).run P w = .ok v w) (r : ResVals P l w rs vs) : ResVals P l w (.cell t ty :: rs) (v :: vs)
def theOne : List Value → Value | [v] => v | vs => .tuple vs.toArray
theorem resVals_run {w : World} {tmps : Array Value} (hl : ∀ t v, look l t = some v → tmps[t]? = some v) (f : ResultVar → Sem Value) (hf : ∀ u, f (.tmp u) = pure (tmps.getD u undef)) (hc : ∀ a t, f (.cell a t) = (do loadVar t (← asAddr (tmps.getD a undef))))
    {rs : List ResultVar} {vs : List Value} (h : ResVals P l w rs vs) : (rs.mapM f).run P w = .ok vs w := by
  induction h with
  | nil => simp
  | tmp h _ ih => simp [List.mapM_cons, hf, ih, hl _ _ h]
  | cell h hv _ ih =>
    rw [List.mapM_cons, hc]
    simp [hl _ _ h, asAddr, hv, ih]
theorem fin_ret {n : Nat} {fn : Func} {R : Ending → World → Prop} {e : Exit} (rs : List ResultVar) (vs : List Value) (he : (match e with | .ret => true | .normal => true | _ => false) = true) (hrs : fn.results = rs.toArray) (hv : ∀ w, M w → ResVals P l w rs vs)
    (hR : ∀ w, M w → R (.returned (theOne vs)) w) : Fin ⟨n, []⟩ (bodyPost P fn R) e l M := by
  intro a w hk hM
  have key : a.defers = [] ∧ ∃ v, (results fn a.tmps).run P w = .ok v w ∧ R (.returned v) w := by
    refine ⟨hk.defers, theOne vs, ?_, hR w hM⟩
    unfold results
    rw [hrs, List.mapM_toArray]
    simp only [Sem.run_bind, Sem.run_map]
    rw [resVals_run hk.slot _ (fun _ => rfl) (fun _ _ => rfl) (hv w hM)]
    match vs with
    | [] => rfl
    | [v] => rfl
    | _ :: _ :: _ => simp [theOne]
  cases e <;> first | exact key | (simp at he)
end
/-- The old memory is as it was. -/
theorem Mem.done {w0 w : World} {cs : List Chunk} (h : Mem w0 cs w) : Below w0.heap.size w0 w := h.below
end Go.Proofs.Ytbfndcookgijfaa.Sx
