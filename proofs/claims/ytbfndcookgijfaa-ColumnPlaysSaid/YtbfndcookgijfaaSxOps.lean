/- Operations whose run hangs on a condition: division, shifts, places in slices and arrays, cuts. No condition but what each law names. -/
import Derived.Test.YtbfndcookgijfaaSxMem
import Derived.WideLaws
import Derived.LoopN
import Derived.Laws.StructEq
import Derived.Laws.BitsLemmas
import Derived.Laws.Slices
import Derived.Laws.MakeOwn
import Derived.Laws.OwnMore
import Derived.Laws.AppendOwn
namespace Go.Proofs.Ytbfndcookgijfaa.Sx
open Go Go.RowKit
set_option linter.unusedVariables false
set_option linter.unusedSimpArgs false
section
variable {P : Program} {n : NT} {ops : Array Oper} {Q : Exit → Act → World → Prop} {S : World → Prop}
structure OpAt (n : NT) (ops : Array Oper) (l : Slots) (i : Nat) (op : Op) (d : Option Tmp) : Prop where
  ok : (match ops[i]? with
    | none => none
    | some o => bif dstOk n o && known l o.op && !isSelect o.op && (match guardOf ops l o with | some true => true | _ => false) then some (o.op, o.dst) else none) = some (op, d)
theorem OpAt.get {l : Slots} {i : Nat} {op : Op} {d : Option Tmp} (h : OpAt n ops l i op d) :
    ∃ o, ops[i]? = some o ∧ o.op = op ∧ o.dst = d ∧ (∀ t, d = some t → t < n.sz) ∧ ∀ a, Knows n a l → Region.wanted o (yielded ops a.tmps) = true ∧ execOp a.eval o = execOp (ev l) o := by
  have h := h.ok
  cases hi : ops[i]? with
  | none => rw [hi] at h; cases h
  | some o =>
    rw [hi] at h
    simp only at h
    cases hc : (dstOk n o && known l o.op && !isSelect o.op && (match guardOf ops l o with | some true => true | _ => false)) with
    | false => rw [hc] at h; cases h
    | true =>
      rw [hc, cond_true] at h
      simp only [Bool.and_eq_true, Bool.not_eq_true'] at hc
      obtain ⟨⟨⟨hd, hkn⟩, hsel⟩, hg⟩ := hc
      simp only [Option.some.injEq, Prod.mk.injEq] at h
      obtain ⟨rfl, rfl⟩ := h
      refine ⟨o, rfl, rfl, rfl, dstOk_lt hd, fun a hk => ⟨?_, hk.exec o (not_select hsel) hkn⟩⟩
      split at hg
      · rename_i e; exact wanted_of hk e
      · cases hg
/-- An operation whose value is known by a law, whatever the world. -/
theorem ops_val {i : Nat} {q : Bool} {r : List (Nat × Bool)} {l : Slots} {op : Op} {d : Option Tmp} {v : Value} {M : World → Prop} (h : OpAt n ops l i op d)
    (hv : ∀ o w, o.op = op → (execOp (ev l) o).run P w = .ok (.value v) w) (k : Ops P n ops Q S r (put l d v) M) : Ops P n ops Q S ((i, q) :: r) l M := by
  intro a w hk hM hS
  obtain ⟨o, hi, ho, hd, hlt, h⟩ := h.get
  obtain ⟨hw, he⟩ := h a hk
  have hy : YieldsIf P ops S o v a := .inl ⟨hw, fun w' _ => by rw [he]; exact hv o w' ho⟩
  have hk' := hk.put d hlt v
  simp only [seqOps, hi]
  subst hd
  cases q with
  | true => exact ⟨hS, v, hy, k _ _ hk' hM hS⟩
  | false => exact yields_wpF (K := fun a' w' => S w' ∧ seqOps P ops Q S r a' w') hy hi hS (And.intro hS (k _ _ hk' hM hS))
/-- An operation that turns memory, by a law of its own. -/
theorem ops_law {i : Nat} {r : List (Nat × Bool)} {l : Slots} {op : Op} {d : Option Tmp} {σ : Type} {v : σ → Value} {M : World → Prop} {M' : σ → World → Prop} (h : OpAt n ops l i op d)
    (hv : ∀ o w, o.op = op → M w → S w → ∃ x w', (execOp (ev l) o).run P w = .ok (.value (v x)) w' ∧ M' x w' ∧ S w') (k : ∀ x, Ops P n ops Q S r (put l d (v x)) (M' x)) : Ops P n ops Q S ((i, false) :: r) l M := by
  intro a w hk hMw hS
  obtain ⟨o, hi, ho, hd, hlt, h⟩ := h.get
  obtain ⟨hw, he⟩ := h a hk
  obtain ⟨x, w', hr, hM', hS'⟩ := hv o w ho hMw hS
  simp only [seqOps, hi, cond_false, wpF, hw, if_true, he, hr, upF, Oper.upon, hd]
  exact (And.intro hS' (k x _ _ (hk.put d hlt _) hM' hS'))
variable {l : Slots} {x y : Operand} {t t' e : TypeId} {k yk : IntKind} {a b : Int}
theorem run_neq_same (hx : ev l x = .int k a) (hy : ev l y = .int k a) : ∀ (o : Oper) (w : World), o.op = .binOp .neq t x y t' → (execOp (ev l) o).run P w = .ok (.value (.bool false)) w := by
  intro o w ho
  simp [execOp, ho, hx, hy, eqGuard, binOp, Op.intCmp]
theorem run_underlying' {t : TypeId} {d : TypeDesc} (h : P.underlying t = some d) (w : World) : (Go.underlying t).run P w = .ok d w := run_underlying h w
theorem run_sizeOf {t : TypeId} {z : Nat} (h : (P.info? t).map (·.size) = some z) (w : World) : (sizeOf t).run P w = .ok z w := by
  cases hq : P.info? t with
  | none => rw [hq] at h; cases h
  | some i => rw [hq] at h; simp at h; simp [sizeOf, typeInfo, hq, h]
/-- A place in a slice. -/
theorem run_index {ad : Addr} {len cap z m : Nat} (ht : P.underlying t = some (.slice e)) (hz : (P.info? e).map (·.size) = some z) (hx : ev l x = .slice (some ad) len cap) (hy : ev l y = .int yk b) (hb : b = (m : Int)) (hm : m < len) :
    ∀ (o : Oper) (w : World), o.op = .indexAddr t x y → (execOp (ev l) o).run P w = .ok (.value (.pointer (some (ad.add (m * z))))) w := by
  intro o w ho
  subst hb
  have h1 : (0 : Int) ≤ (m : Int) ∧ (m : Int) < (len : Int) := ⟨by omega, by omega⟩
  have h2 : ∀ w, (sizeOf e).run P w = .ok z w := run_sizeOf hz
  simp [execOp, ho, hx, hy, Instr.indexAt, asIntOf, run_underlying' ht, h1, h2, hm]
end
/-! ### A loop of a known number of rounds -/
section
variable {P : Program} {n : NT} {Q : Exit → Act → World → Prop} {l : Slots} {M : World → Prop} {c : Code}
end
/-- A slice's elements, read: whole numbers. -/
def RInts (k : IntKind) (A : Option Addr) (l : List Int) (w : World) : Prop := ∀ j, j < l.length → ∃ ad, A = some ad ∧ w.cell? (ad.add j) = some (.int k (l.getD j 0))
theorem RInts.below {k : IntKind} {A : Option Addr} {l : List Int} {w w' : World} (h : RInts k A l w) (hb : Below w.heap.size w w') : RInts k A l w' := fun j hj => by
  obtain ⟨ad, hA, hc⟩ := h j hj
  exact ⟨ad, hA, (hb.cell (World.block_lt_of_cell? w _ hc)).trans hc⟩
theorem add_at (b off m : Nat) : (⟨b, off, none⟩ : Addr).add m = ⟨b, off + m, none⟩ := by
  unfold Addr.add; split <;> simp_all
/-! ### Rows: made, appended to, indexed -/
/-- The elements that an append takes. -/
def Src (w : World) (A : Option Addr) (m c : Nat) (news : List Value) : Prop := (A = none ∧ m = 0 ∧ c = 0 ∧ news = []) ∨ ∃ ad, A = some ad ∧ ∀ j u, news[j]? = some u → w.cell? (ad.add j) = some u
section
variable {P : Program} {ro : Option Nat} {n : NT} {ops : Array Oper} {Q : Exit → Act → World → Prop} {S : World → Prop}
theorem ops_fact {r : List (Nat × Bool)} {l : Slots} {M : World → Prop} {φ : Prop} (h : ∀ w, M w → φ) (k : φ → Ops P n ops Q S r l M) : Ops P n ops Q S r l M := fun a w hk hM => k (h w hM) a w hk hM
theorem Mem.src {w0 w : World} {cs : List Chunk} (h : Mem w0 cs w) (i : Nat) {b : Nat} {vs : List Value} {T : TypeId} (hi : cs[i]? = some (.blk b vs T)) (m c : Nat) : Src w (some ⟨b, 0, none⟩) m c vs :=
  .inr ⟨_, rfl, fun j u hj => by rw [add_at, Nat.zero_add]; exact h.cell i hi hj⟩
theorem Mem.srcRow {w0 w : World} {cs : List Chunk} (h : Mem w0 cs w) (i : Nat) {A : Option Addr} {m c z : Nat} {xs : List Value} {T : TypeId} (hi : cs[i]? = some (.row A m c T z xs)) : Src w A m c xs := by
  rcases (h.get i hi).2 with ⟨he, hz⟩ | ⟨g, cap', cur, he, _⟩
  · injection he with h1 h2 h3
    refine .inl ⟨h1, hz, h3, List.eq_nil_of_length_eq_zero ?_⟩
    rw [h.rowLen i hi, hz]; simp
  · injection he with h1
    subst h1
    exact .inr ⟨_, rfl, fun j u hj => by rw [add_at, Nat.zero_add]; exact h.rowcell i hi hj⟩
theorem Mem.append {w0 w : World} {cs : List Chunk} (h : Mem w0 cs w) (i : Nat) {A : Option Addr} {n cap z : Nat} {e : TypeId} {xs : List Value} (hi : cs[i]? = some (.row A n cap e z xs)) {t ty : TypeId} {ti : TypeInfo} {zv : Value} {bytes : Nat}
    (ht : P.underlying t = some (.slice e)) (hti : P.info? e = some ti) (hz : ti.zero = some zv) (hsize : ti.size = z) (hby : ti.bytes = bytes) (hzs : zv.cells.size = z) (hsz : 0 < z)
    {A2 : Option Addr} {m c : Nat} {news : List Value} (src : Src w A2 m c news) (hl : news.length = m * z) (h1 : ∀ u ∈ news, u.oneCell' = true) (hb : (n + m) * bytes ≤ 140737488355328) (hb0 : 0 < bytes) :
    ∃ A' cap' w', (Builtin.append_ #[t, t] ty #[.slice A n cap, .slice A2 m c]).run P w = .ok (.slice A' (n + m) cap') w' ∧ Mem w0 (cs.set i (.row A' (n + m) cap' e z (xs ++ news))) w' := by
  subst hsize hby
  have hsmall : n + m ≤ 140737488355328 := Nat.le_trans (Nat.le_mul_of_pos_right _ hb0) hb
  have h63 : n + m ≤ maxLen := by simp only [maxLen]; omega
  have hown := h.get i hi
  have hlen : (xs ++ news).length = (n + m) * ti.size := by rw [List.length_append, hown.1, hl, Nat.add_mul]
  have grown : ∀ (old : Nat), old < n + m → ∀ (row : Option Nat),
      (w.drew.alloc (.cells (xs.toArray ++ news.toArray ++ Builtin.zeroCells zv.cells (grownCap w (n + m) old e - (n + m))) e)).ownsRow w.heap.size e ti.size
        (.slice (some ⟨w.heap.size, 0, none⟩) (n + m) (grownCap w (n + m) old e)) (n + m) (xs ++ news) ∧
      w.grownBy (w.drew.alloc (.cells (xs.toArray ++ news.toArray ++ Builtin.zeroCells zv.cells (grownCap w (n + m) old e - (n + m))) e)) row := by
    intro old ho row
    have hge := grownCap_ge w (n + m) old e
    have hcm : grownCap w (n + m) old e ≤ maxLen := grownCap_le_maxLen w (n + m) old e h63
    refine ⟨⟨hlen, .inr ⟨w.heap.size, _, _, rfl, Nat.le_refl _, heap_alloc_new w.drew _, hge, hcm, ?_, ?_⟩⟩, ⟨rfl, rfl, rfl, by simp, fun k hk _ => ((Below.refl w.heap.size w.drew).alloc (Nat.le_refl _) _).block k hk⟩⟩
    · simp only [Array.size_append, List.size_toArray, size_zeroCells, hzs, hown.1, hl, ← Nat.add_mul]
      congr 1
      omega
    · simp only [Array.toList_append, List.append_assoc]
      rw [← List.append_assoc, ← hlen]
      exact List.take_left
  rcases src with ⟨rfl, rfl, rfl, rfl⟩ | ⟨ad, rfl, hnews⟩
  · refine ⟨A, cap, w, ?_, h.set_same hi (by simp)⟩
    rw [run_append_owned_none (P := P) w w0.heap.size t ty e ti ti.size ht hti (.slice A n cap) n xs hown]; simp
  rcases hown.2 with ⟨he, rfl⟩ | ⟨g, cap', cur, he, hbg, hg, hnc, hcm, hcs, htake⟩
  · injection he with he1 he2 he3
    subst he1 he3
    have hx : xs = [] := List.eq_nil_of_length_eq_zero (by simpa using hown.1)
    subst hx
    by_cases hm : m = 0
    · subst hm
      have hn : news = [] := List.eq_nil_of_length_eq_zero (by simpa using hl)
      subst hn
      refine ⟨none, 0, w, ?_, h.set_same hi rfl⟩
      simp [Builtin.append_, run_underlying ht, sizeOf, typeInfo, hti, Builtin.lenOf, Builtin.firstCells, loadCells, loadCellsFrom]
    · have hr := run_append_nil (P := P) w t ty e ti zv ht hti hz ad m c news hl hnews (by omega) (by omega) (by have hb := hb; simp only [Nat.zero_add] at hb; omega)
      have hgr := grown 0 (by omega) none
      simp only [Nat.zero_add, List.nil_append, Array.empty_append] at hgr ⊢
      exact ⟨_, _, _, hr, h.rowGrown i hi (.inl hgr.1) hgr.2⟩
  · injection he with he1 he2 he3
    subst he1 he3
    by_cases hroom : n + m ≤ cap
    · have hfit : n * ti.size + news.length ≤ cur.size := by rw [hl, hcs, ← Nat.add_mul]; exact Nat.mul_le_mul_right _ hroom
      have hr := run_append_room (P := P) w t ty e ti ht hti g n cap cur hg ad m c news hl hnews h1 hroom hfit
      refine ⟨_, _, _, hr, h.rowGrown i hi (.inr ⟨rfl, ⟨hlen, .inr ⟨g, cap, _, rfl, hbg, setRow_heap w g cur _ e _ hg, hroom, hcm, ?_, ?_⟩⟩⟩) ⟨rfl, rfl, rfl, by simp, fun k _ hk => setRow_other w g k _ (fun e => hk (by simp [e]))⟩⟩
      · simp only [List.size_toArray, List.length_append, List.length_take, List.length_drop, Array.length_toList]
        omega
      · rw [htake, ← hlen]
        exact List.take_left
    · have holds : ∀ j u, xs[j]? = some u → w.cell? ((⟨g, 0, none⟩ : Addr).add j) = some u := hown.cells (g := g) rfl
      have hr := run_append_grow (P := P) w t ty e ti zv ht hti hz ⟨g, 0, none⟩ n cap xs hown.1 holds ad m c news hl hnews (by omega) (by omega) (growslice_fits (by omega) hb)
      have hgr := grown cap (by omega) (some g)
      exact ⟨_, _, _, hr, h.rowGrown i hi (.inl hgr.1) hgr.2⟩
/-- A place in a row of the call's own. -/
theorem run_indexRow {l : Slots} {x y : Operand} {t e : TypeId} {yk : IntKind} {b : Int} {g len cap z m off : Nat} (ht : P.underlying t = some (.slice e)) (hz : (P.info? e).map (·.size) = some z) (hx : ev l x = .slice (some ⟨g, 0, none⟩) len cap) (hy : ev l y = .int yk b) (hb : b = (m : Int)) (hm : m < len) (ho : m * z = off) :
    ∀ (o : Oper) (w : World), o.op = .indexAddr t x y → (execOp (ev l) o).run P w = .ok (.value (.pointer (some ⟨g, off, none⟩))) w := by
  intro o w hop
  have := run_index (P := P) (ad := ⟨g, 0, none⟩) (z := z) ht hz hx hy hb hm o w hop
  rwa [add_at, Nat.zero_add, ho] at this
end
section
variable {P : Program} {l : Slots} {x y : Operand} {k k' yk : IntKind} {a b : Int} {ts : Array TypeId}
end
/-! ### Cuts -/
section
def cutA (A : Option Addr) (cap lo z : Nat) : Option Addr := if cap = lo then A else A.map (·.add (lo * z))
variable {P : Program} {l : Slots} {x y y2 : Operand} {k k' yk : IntKind} {a b : Int} {t e : TypeId} {A : Option Addr} {len cap lo hi z n' c' : Nat}
theorem run_cutH (ht : P.underlying t = some (.slice (P.elem t))) (hz : (P.info? (P.elem t)).map (·.size) = some z) (hx : ev l x = .slice A len cap) (hy : ev l y = .int k b) (hb : b = (hi : Int)) (h : hi ≤ cap) (hn : hi = n') :
    ∀ (o : Oper) (w : World), o.op = .slice t x none (some y) none → (execOp (ev l) o).run P w = .ok (.value (.slice (cutA A cap 0 z) n' cap)) w := by
  intro o w ho
  subst hb hn
  have h2 : ∀ w, (sizeOf (P.elem t)).run P w = .ok z w := run_sizeOf hz
  simp [execOp, ho, hx, hy, run_sliceAt_slice w t _ _ _ _ ht, run_slice_h w t A len cap ht k (hi : Int) (by omega) (by omega), h2, sliced, cutA]
theorem addr_add_add (a : Addr) (m n : Nat) : (a.add m).add n = a.add (m + n) := by
  unfold Addr.add
  by_cases h1 : m = 0
  · subst h1; simp
  · by_cases h2 : n = 0
    · subst h2; simp
    · simp [h1, h2, Nat.add_assoc]
theorem RInts.cut {k : IntKind} {A : Option Addr} {l : List Int} {w : World} (h : RInts k A l w) {cap lo n : Nat} (hn : n ≤ l.length - lo) (hc : l.length ≤ cap) : RInts k (cutA A cap lo 1) ((l.drop lo).take n) w := fun j hj => by
  simp only [List.length_take, List.length_drop] at hj
  obtain ⟨ad, rfl, hcell⟩ := h (lo + j) (by omega)
  have hne : cap ≠ lo := by omega
  refine ⟨ad.add lo, by simp [cutA, hne], ?_⟩
  rw [addr_add_add, hcell]
  have h1 : j < n := by omega
  have h2 : lo + j < l.length := by omega
  simp [List.getD, List.getElem?_take, h1, h2]
end
/-! ### The most used rules, with short names -/
section
variable {P : Program} {n : NT} {ops : Array Oper} {Q : Exit → Act → World → Prop} {S : World → Prop}
theorem oR {r : List (Nat × Bool)} {l : Slots} {M : World → Prop} (is : List (Nat × Bool)) (l' : Slots) (ks : List Nat) (h : (stretch P n ops is l).map (keep ks) = some l') (k : Ops P n ops Q S r l' M) : Ops P n ops Q S (is ++ r) l M := ops_run ks h k
end
end Go.Proofs.Ytbfndcookgijfaa.Sx
