/- Operations whose run hangs on a condition: division, shifts, places in slices and arrays, cuts. No condition but what each law names. -/
import Derived.Test.YtchadeflopbchaaSxMem
import Derived.WideLaws
import Derived.LoopN
import Derived.Laws.StructEq
import Derived.Laws.BitsLemmas
import Derived.Laws.Slices
import Derived.Laws.MakeOwn
import Derived.Laws.OwnMore
import Derived.Laws.AppendOwn
namespace Go.Proofs.Ytchadeflopbchaa.Sx
open Go Go.RowKit
set_option linter.unusedVariables false
set_option linter.unusedSimpArgs false

section
variable {P : Program} {n : NT} {ops : Array Oper} {Q : Exit → Act → World → Prop} {S : World → Prop}
structure OpAt (n : NT) (ops : Array Oper) (l : Slots) (i : Nat) (op : Op) (d : Option Tmp) : Prop where
  ok : (match ops[i]? with
    | none => none
    | some o => bif dstOk n o && known l o.op && !isSelect o.op && (match guardOf ops l o with | some true => true | _ => false) then some (o.op, o.dst) else none) = some (op, d)
theorem OpAt.get {l : Slots} {i : Nat} {op : Op} {d : Option Tmp} (h : OpAt n ops l i op d) :
    ∃ o, ops[i]? = some o ∧ o.op = op ∧ o.dst = d ∧ (∀ t, d = some t → t < n.sz) ∧ ∀ a, Knows n a l → Region.wanted o (yielded ops a.tmps) = true ∧ execOp a.eval o = execOp (ev l) o := by
  have h := h.ok
  cases hi : ops[i]? with
  | none => rw [hi] at h; cases h
  | some o =>
    rw [hi] at h
    simp only at h
    cases hc : (dstOk n o && known l o.op && !isSelect o.op && (match guardOf ops l o with | some true => true | _ => false)) with
    | false => rw [hc] at h; cases h
    | true =>
      rw [hc, cond_true] at h
      simp only [Bool.and_eq_true, Bool.not_eq_true'] at hc
      obtain ⟨⟨⟨hd, hkn⟩, hsel⟩, hg⟩ := hc
      simp only [Option.some.injEq, Prod.mk.injEq] at h
      obtain ⟨rfl, rfl⟩ := h
      refine ⟨o, rfl, rfl, rfl, dstOk_lt hd, fun a hk => ⟨?_, hk.exec o (not_select hsel) hkn⟩⟩
      split at hg
      · rename_i e; exact wanted_of hk e
      · cases hg
/-- An operation whose value is known by a law, whatever the world. -/
theorem ops_val {i : Nat} {q : Bool} {r : List (Nat × Bool)} {l : Slots} {op : Op} {d : Option Tmp} {v : Value} {M : World → Prop} (h : OpAt n ops l i op d)
    (hv : ∀ o w, o.op = op → (execOp (ev l) o).run P w = .ok (.value v) w) (k : Ops P n ops Q S r (put l d v) M) : Ops P n ops Q S ((i, q) :: r) l M := by
  intro a w hk hM hS
  obtain ⟨o, hi, ho, hd, hlt, h⟩ := h.get
  obtain ⟨hw, he⟩ := h a hk
  have hy : YieldsIf P ops S o v a := .inl ⟨hw, fun w' _ => by rw [he]; exact hv o w' ho⟩
  have hk' := hk.put d hlt v
  simp only [seqOps, hi]
  subst hd
  cases q with
  | true => exact ⟨hS, v, hy, k _ _ hk' hM hS⟩
  | false => exact yields_wpF (K := fun a' w' => S w' ∧ seqOps P ops Q S r a' w') hy hi hS (And.intro hS (k _ _ hk' hM hS))
/-- An operation that turns memory, by a law of its own. -/
theorem ops_law {i : Nat} {r : List (Nat × Bool)} {l : Slots} {op : Op} {d : Option Tmp} {σ : Type} {v : σ → Value} {M : World → Prop} {M' : σ → World → Prop} (h : OpAt n ops l i op d)
    (hv : ∀ o w, o.op = op → M w → S w → ∃ x w', (execOp (ev l) o).run P w = .ok (.value (v x)) w' ∧ M' x w' ∧ S w') (k : ∀ x, Ops P n ops Q S r (put l d (v x)) (M' x)) : Ops P n ops Q S ((i, false) :: r) l M := by
  intro a w hk hMw hS
  obtain ⟨o, hi, ho, hd, hlt, h⟩ := h.get
  obtain ⟨hw, he⟩ := h a hk
  obtain ⟨x, w', hr, hM', hS'⟩ := hv o w ho hMw hS
  simp only [seqOps, hi, cond_false, wpF, hw, if_true, he, hr, upF, Oper.upon, hd]
  exact (And.intro hS' (k x _ _ (hk.put d hlt _) hM' hS'))

variable {l : Slots} {x y : Operand} {t t' e : TypeId} {k yk : IntKind} {a b : Int}
theorem run_rem (hx : ev l x = .int k a) (hy : ev l y = .int k b) (hb : b ≠ 0) : ∀ (o : Oper) (w : World), o.op = .binOp .rem t x y t' → (execOp (ev l) o).run P w = .ok (.value (.int k (Int.tmod a b))) w := by
  intro o w ho
  simp [execOp, ho, hx, hy, eqGuard, binOp, Op.intDiv, hb]
theorem run_quo (hx : ev l x = .int k a) (hy : ev l y = .int k b) (hb : b ≠ 0) : ∀ (o : Oper) (w : World), o.op = .binOp .quo t x y t' → (execOp (ev l) o).run P w = .ok (.value (.int k (k.wrap (Int.tdiv a b)))) w := by
  intro o w ho
  simp [execOp, ho, hx, hy, eqGuard, binOp, Op.intDiv, hb]
theorem run_shl (hx : ev l x = .int k a) (hy : ev l y = .int yk b) (hb : 0 ≤ b) : ∀ (o : Oper) (w : World), o.op = .binOp .shl t x y t' → (execOp (ev l) o).run P w = .ok (.value (.int k (k.wrap (a * 2 ^ min b.toNat k.bits)))) w := by
  intro o w ho
  have : ¬ b < 0 := by omega
  simp [execOp, ho, hx, hy, eqGuard, binOp, Op.shift, this]
theorem run_shr (hx : ev l x = .int k a) (hy : ev l y = .int yk b) (hb : 0 ≤ b) : ∀ (o : Oper) (w : World), o.op = .binOp .shr t x y t' → (execOp (ev l) o).run P w = .ok (.value (.int k (Int.fdiv a (2 ^ min b.toNat k.bits)))) w := by
  intro o w ho
  have : ¬ b < 0 := by omega
  simp [execOp, ho, hx, hy, eqGuard, binOp, Op.shift, this]
theorem run_eql_same (hx : ev l x = .int k a) (hy : ev l y = .int k a) : ∀ (o : Oper) (w : World), o.op = .binOp .eql t x y t' → (execOp (ev l) o).run P w = .ok (.value (.bool true)) w := by
  intro o w ho
  simp [execOp, ho, hx, hy, eqGuard, binOp, Op.intCmp]
theorem run_neq_same (hx : ev l x = .int k a) (hy : ev l y = .int k a) : ∀ (o : Oper) (w : World), o.op = .binOp .neq t x y t' → (execOp (ev l) o).run P w = .ok (.value (.bool false)) w := by
  intro o w ho
  simp [execOp, ho, hx, hy, eqGuard, binOp, Op.intCmp]
theorem run_eql_agg {xs ys : Array Value} {r : Bool} (hx : ev l x = .agg xs) (hy : ev l y = .agg ys) (hm : P.eqGuardType P.depth t = false) (h : ∀ w, (Op.equalIn 10000 t (.agg xs) (.agg ys)).run P w = .ok r w) : ∀ (o : Oper) (w : World), o.op = .binOp .eql t x y t' → (execOp (ev l) o).run P w = .ok (.value (.bool r)) w := by
  intro o w ho
  simp only [execOp, ho, hx, hy, Sem.run_bind, run_eqGuard_agg _ _ _ _ _ _ _ hm, Result.andThen_ok, run_eql_struct, h, Sem.run_pure]
theorem run_neq_agg {xs ys : Array Value} {r : Bool} (hx : ev l x = .agg xs) (hy : ev l y = .agg ys) (hm : P.eqGuardType P.depth t = false) (h : ∀ w, (Op.equalIn 10000 t (.agg xs) (.agg ys)).run P w = .ok r w) : ∀ (o : Oper) (w : World), o.op = .binOp .neq t x y t' → (execOp (ev l) o).run P w = .ok (.value (.bool (!r))) w := by
  intro o w ho
  simp only [execOp, ho, hx, hy, Sem.run_bind, run_eqGuard_agg _ _ _ _ _ _ _ hm, Result.andThen_ok, run_neq_struct, h, Sem.run_pure]
theorem run_underlying' {t : TypeId} {d : TypeDesc} (h : P.underlying t = some d) (w : World) : (Go.underlying t).run P w = .ok d w := run_underlying h w
theorem run_sizeOf {t : TypeId} {z : Nat} (h : (P.info? t).map (·.size) = some z) (w : World) : (sizeOf t).run P w = .ok z w := by
  cases hq : P.info? t with
  | none => rw [hq] at h; cases h
  | some i => rw [hq] at h; simp at h; simp [sizeOf, typeInfo, hq, h]
/-- A place in a slice. -/
theorem run_index {ad : Addr} {len cap z m : Nat} (ht : P.underlying t = some (.slice e)) (hz : (P.info? e).map (·.size) = some z) (hx : ev l x = .slice (some ad) len cap) (hy : ev l y = .int yk b) (hb : b = (m : Int)) (hm : m < len) :
    ∀ (o : Oper) (w : World), o.op = .indexAddr t x y → (execOp (ev l) o).run P w = .ok (.value (.pointer (some (ad.add (m * z))))) w := by
  intro o w ho
  subst hb
  have h1 : (0 : Int) ≤ (m : Int) ∧ (m : Int) < (len : Int) := ⟨by omega, by omega⟩
  have h2 : ∀ w, (sizeOf e).run P w = .ok z w := run_sizeOf hz
  simp [execOp, ho, hx, hy, Instr.indexAt, asIntOf, run_underlying' ht, h1, h2, hm]
/-- A place in a slice of one-cell elements, whose address is told. -/
theorem run_index1 {A : Option Addr} {ad : Addr} {len cap m : Nat} (hA : A = some ad) (ht : P.underlying t = some (.slice e)) (hz : (P.info? e).map (·.size) = some 1) (hx : ev l x = .slice A len cap) (hy : ev l y = .int yk b) (hb : b = (m : Int)) (hm : m < len) :
    ∀ (o : Oper) (w : World), o.op = .indexAddr t x y → (execOp (ev l) o).run P w = .ok (.value (.pointer (some (ad.add m)))) w := by
  intro o w ho
  subst hA
  have := run_index (ad := ad) (z := 1) ht hz hx hy hb hm o w ho
  rwa [Nat.mul_one] at this
/-- A place in an array that is reached by its address. -/
theorem run_indexArr {ad : Addr} {len z m : Nat} (ht : P.underlying t = some (.array len e)) (hz : (P.info? e).map (·.size) = some z) (hx : ev l x = .pointer (some ad)) (hy : ev l y = .int yk b) (hb : b = (m : Int)) (hm : m < len) :
    ∀ (o : Oper) (w : World), o.op = .indexAddr t x y → (execOp (ev l) o).run P w = .ok (.value (.pointer (some (ad.add (m * z))))) w := by
  intro o w ho
  subst hb
  have h1 : (0 : Int) ≤ (m : Int) ∧ (m : Int) < (len : Int) := ⟨by omega, by omega⟩
  have h2 : ∀ w, (sizeOf e).run P w = .ok z w := run_sizeOf hz
  simp [execOp, ho, hx, hy, Instr.indexAt, Instr.sureAddr, asIntOf, run_underlying' ht, h1, h2, hm]
/-- A byte of a string. -/
theorem run_strIndex {s : ByteArray} {m : Nat} (ht : P.underlying t = some .string) (hx : ev l x = .string s) (hy : ev l y = .int yk b) (hb : b = (m : Int)) (hm : m < s.size) :
    ∀ (o : Oper) (w : World), o.op = .index t x y → (execOp (ev l) o).run P w = .ok (.value (.int .u8 ((s[m]'hm).toNat : Int))) w := by
  intro o w ho
  subst hb
  have h1 : (0 : Int) ≤ (m : Int) := by omega
  simp [execOp, ho, hx, hy, Instr.index, asIntOf, run_underlying' ht, h1, hm]
end
/-! ### A loop of a known number of rounds -/
section
variable {P : Program} {n : NT} {Q : Exit → Act → World → Prop} {l : Slots} {M : World → Prop} {c : Code}
end
/-- A slice's elements, read: whole numbers. -/
def RInts (k : IntKind) (A : Option Addr) (l : List Int) (w : World) : Prop := ∀ j, j < l.length → ∃ ad, A = some ad ∧ w.cell? (ad.add j) = some (.int k (l.getD j 0))
theorem Mem.oldcell {w0 w : World} {cs : List Chunk} {a : Addr} {v : Value} (h : Mem w0 cs w) (hc : w0.cell? a = some v) : w.cell? a = some v := (h.below.cell (World.block_lt_of_cell? w0 a hc)).trans hc
theorem RInts.below {k : IntKind} {A : Option Addr} {l : List Int} {w w' : World} (h : RInts k A l w) (hb : Below w.heap.size w w') : RInts k A l w' := fun j hj => by
  obtain ⟨ad, hA, hc⟩ := h j hj
  exact ⟨ad, hA, (hb.cell (World.block_lt_of_cell? w _ hc)).trans hc⟩
theorem RInts.mem {k : IntKind} {A : Option Addr} {l : List Int} {w0 w : World} {cs : List Chunk} (h : RInts k A l w0) (hM : Mem w0 cs w) : RInts k A l w := h.below hM.below
theorem succ_i64 {k : Nat} (h : k < 9223372036854775807) : IntKind.i64.wrap ((k : Int) + 1) = ((k + 1 : Nat) : Int) := by
  rw [IntKind.wrap_i64]; omega
theorem foldl_take {α β : Type} (f : β → α → β) (b : β) (l : List α) (d : α) (k : Nat) (h : k < l.length) : (l.take (k + 1)).foldl f b = f ((l.take k).foldl f b) (l.getD k d) := by
  rw [List.take_succ_eq_append_getElem h, List.foldl_append]
  simp [List.getD, h]
theorem add_at (b off m : Nat) : (⟨b, off, none⟩ : Addr).add m = ⟨b, off + m, none⟩ := by
  unfold Addr.add; split <;> simp_all
/-! ### Rows: made, appended to, indexed -/
/-- The elements that an append takes. -/
def Src (w : World) (A : Option Addr) (m c : Nat) (news : List Value) : Prop := (A = none ∧ m = 0 ∧ c = 0 ∧ news = []) ∨ ∃ ad, A = some ad ∧ ∀ j u, news[j]? = some u → w.cell? (ad.add j) = some u
section
variable {P : Program} {ro : Option Nat} {n : NT} {ops : Array Oper} {Q : Exit → Act → World → Prop} {S : World → Prop}
theorem ops_fact {r : List (Nat × Bool)} {l : Slots} {M : World → Prop} {φ : Prop} (h : ∀ w, M w → φ) (k : φ → Ops P n ops Q S r l M) : Ops P n ops Q S r l M := fun a w hk hM => k (h w hM) a w hk hM
theorem st_fact {c : Code} {l : Slots} {M : World → Prop} {φ : Prop} (h : ∀ w, M w → φ) (k : φ → St P ro n c Q l M) : St P ro n c Q l M := fun a w hk hM => k (h w hM) a w hk hM
theorem fin_fact {e : Exit} {l : Slots} {M : World → Prop} {φ : Prop} (h : ∀ w, M w → φ) (k : φ → Fin n Q e l M) : Fin n Q e l M := fun a w hk hM => k (h w hM) a w hk hM
theorem Mem.src {w0 w : World} {cs : List Chunk} (h : Mem w0 cs w) (i : Nat) {b : Nat} {vs : List Value} {T : TypeId} (hi : cs[i]? = some (.blk b vs T)) (m c : Nat) : Src w (some ⟨b, 0, none⟩) m c vs :=
  .inr ⟨_, rfl, fun j u hj => by rw [add_at, Nat.zero_add]; exact h.cell i hi hj⟩
theorem Mem.srcRow {w0 w : World} {cs : List Chunk} (h : Mem w0 cs w) (i : Nat) {A : Option Addr} {m c z : Nat} {xs : List Value} {T : TypeId} (hi : cs[i]? = some (.row A m c T z xs)) : Src w A m c xs := by
  rcases (h.get i hi).2 with ⟨he, hz⟩ | ⟨g, cap', cur, he, _⟩
  · injection he with h1 h2 h3
    refine .inl ⟨h1, hz, h3, List.eq_nil_of_length_eq_zero ?_⟩
    rw [h.rowLen i hi, hz]; simp
  · injection he with h1
    subst h1
    exact .inr ⟨_, rfl, fun j u hj => by rw [add_at, Nat.zero_add]; exact h.rowcell i hi hj⟩
theorem Mem.append {w0 w : World} {cs : List Chunk} (h : Mem w0 cs w) (i : Nat) {A : Option Addr} {n cap z : Nat} {e : TypeId} {xs : List Value} (hi : cs[i]? = some (.row A n cap e z xs)) {t ty : TypeId} {ti : TypeInfo} {zv : Value} {bytes : Nat}
    (ht : P.underlying t = some (.slice e)) (hti : P.info? e = some ti) (hz : ti.zero = some zv) (hsize : ti.size = z) (hby : ti.bytes = bytes) (hzs : zv.cells.size = z) (hsz : 0 < z)
    {A2 : Option Addr} {m c : Nat} {news : List Value} (src : Src w A2 m c news) (hl : news.length = m * z) (h1 : ∀ u ∈ news, u.oneCell' = true) (hb : (n + m) * bytes ≤ 140737488355328) (hb0 : 0 < bytes) :
    ∃ A' cap' w', (Builtin.append_ #[t, t] ty #[.slice A n cap, .slice A2 m c]).run P w = .ok (.slice A' (n + m) cap') w' ∧ Mem w0 (cs.set i (.row A' (n + m) cap' e z (xs ++ news))) w' := by
  subst hsize hby
  have hsmall : n + m ≤ 140737488355328 := Nat.le_trans (Nat.le_mul_of_pos_right _ hb0) hb
  have h63 : n + m ≤ maxLen := by simp only [maxLen]; omega
  have hown := h.get i hi
  have hlen : (xs ++ news).length = (n + m) * ti.size := by rw [List.length_append, hown.1, hl, Nat.add_mul]
  have grown : ∀ (old : Nat), old < n + m → ∀ (row : Option Nat),
      (w.drew.alloc (.cells (xs.toArray ++ news.toArray ++ Builtin.zeroCells zv.cells (grownCap w (n + m) old e - (n + m))) e)).ownsRow w.heap.size e ti.size
        (.slice (some ⟨w.heap.size, 0, none⟩) (n + m) (grownCap w (n + m) old e)) (n + m) (xs ++ news) ∧
      w.grownBy (w.drew.alloc (.cells (xs.toArray ++ news.toArray ++ Builtin.zeroCells zv.cells (grownCap w (n + m) old e - (n + m))) e)) row := by
    intro old ho row
    have hge := grownCap_ge w (n + m) old e
    have hcm : grownCap w (n + m) old e ≤ maxLen := grownCap_le_maxLen w (n + m) old e h63
    refine ⟨⟨hlen, .inr ⟨w.heap.size, _, _, rfl, Nat.le_refl _, heap_alloc_new w.drew _, hge, hcm, ?_, ?_⟩⟩, ⟨rfl, rfl, rfl, by simp, fun k hk _ => ((Below.refl w.heap.size w.drew).alloc (Nat.le_refl _) _).block k hk⟩⟩
    · simp only [Array.size_append, List.size_toArray, size_zeroCells, hzs, hown.1, hl, ← Nat.add_mul]
      congr 1
      omega
    · simp only [Array.toList_append, List.append_assoc]
      rw [← List.append_assoc, ← hlen]
      exact List.take_left
  rcases src with ⟨rfl, rfl, rfl, rfl⟩ | ⟨ad, rfl, hnews⟩
  · refine ⟨A, cap, w, ?_, h.set_same hi (by simp)⟩
    rw [run_append_owned_none (P := P) w w0.heap.size t ty e ti ti.size ht hti (.slice A n cap) n xs hown]; simp
  rcases hown.2 with ⟨he, rfl⟩ | ⟨g, cap', cur, he, hbg, hg, hnc, hcm, hcs, htake⟩
  · injection he with he1 he2 he3
    subst he1 he3
    have hx : xs = [] := List.eq_nil_of_length_eq_zero (by simpa using hown.1)
    subst hx
    by_cases hm : m = 0
    · subst hm
      have hn : news = [] := List.eq_nil_of_length_eq_zero (by simpa using hl)
      subst hn
      refine ⟨none, 0, w, ?_, h.set_same hi rfl⟩
      simp [Builtin.append_, run_underlying ht, sizeOf, typeInfo, hti, Builtin.lenOf, Builtin.firstCells, loadCells, loadCellsFrom]
    · have hr := run_append_nil (P := P) w t ty e ti zv ht hti hz ad m c news hl hnews (by omega) (by omega) (by have hb := hb; simp only [Nat.zero_add] at hb; omega)
      have hgr := grown 0 (by omega) none
      simp only [Nat.zero_add, List.nil_append, Array.empty_append] at hgr ⊢
      exact ⟨_, _, _, hr, h.rowGrown i hi (.inl hgr.1) hgr.2⟩
  · injection he with he1 he2 he3
    subst he1 he3
    by_cases hroom : n + m ≤ cap
    · have hfit : n * ti.size + news.length ≤ cur.size := by rw [hl, hcs, ← Nat.add_mul]; exact Nat.mul_le_mul_right _ hroom
      have hr := run_append_room (P := P) w t ty e ti ht hti g n cap cur hg ad m c news hl hnews h1 hroom hfit
      refine ⟨_, _, _, hr, h.rowGrown i hi (.inr ⟨rfl, ⟨hlen, .inr ⟨g, cap, _, rfl, hbg, setRow_heap w g cur _ e _ hg, hroom, hcm, ?_, ?_⟩⟩⟩) ⟨rfl, rfl, rfl, by simp, fun k _ hk => setRow_other w g k _ (fun e => hk (by simp [e]))⟩⟩
      · simp only [List.size_toArray, List.length_append, List.length_take, List.length_drop, Array.length_toList]
        omega
      · rw [htake, ← hlen]
        exact List.take_left
    · have holds : ∀ j u, xs[j]? = some u → w.cell? ((⟨g, 0, none⟩ : Addr).add j) = some u := hown.cells (g := g) rfl
      have hr := run_append_grow (P := P) w t ty e ti zv ht hti hz ⟨g, 0, none⟩ n cap xs hown.1 holds ad m c news hl hnews (by omega) (by omega) (growslice_fits (by omega) hb)
      have hgr := grown cap (by omega) (some g)
      exact ⟨_, _, _, hr, h.rowGrown i hi (.inl hgr.1) hgr.2⟩
theorem ops_append {i : Nat} {r : List (Nat × Bool)} {l : Slots} {x y : Operand} {t e : TypeId} {d : Option Tmp} {w0 : World} {cs : List Chunk} {A A2 : Option Addr} {nn n' cap z m c bytes : Nat} {xs xs' news : List Value} {zv : Value} (q : Nat)
    (h : OpAt n ops l i (.call { callee := .builtin .append, args := #[x, y], argTypes := #[t, t] }) d) (hx : ev l x = .slice A nn cap) (hy : ev l y = .slice A2 m c)
    (ht : P.underlying t = some (.slice e)) (hti : (P.info? e).map (fun i => (i.size, i.bytes, i.zero)) = some (z, bytes, some zv)) (hzs : (zv.cells.size == z && Nat.ble 1 z && Nat.ble 1 bytes) = true) (hi : cs[q]? = some (.row A nn cap e z xs))
    (src : ∀ w, Mem w0 cs w → Src w A2 m c news) (hl : news.length = m * z) (h1 : ∀ u ∈ news, u.oneCell' = true) (hb : (nn + m) * bytes ≤ 140737488355328) (hn : nn + m = n') (hx' : xs ++ news = xs')
    (hS : ∀ A' cap' w w', S w → Mem w0 (cs.set q (.row A' n' cap' e z xs')) w' → S w') (k : ∀ p : Option Addr × Nat, Ops P n ops Q S r (put l d (.slice p.1 n' p.2)) (Mem w0 (cs.set q (.row p.1 n' p.2 e z xs')))) : Ops P n ops Q S ((i, false) :: r) l (Mem w0 cs) := by
  simp only [Bool.and_eq_true, beq_iff_eq] at hzs
  refine ops_law (σ := Option Addr × Nat) (v := fun p => .slice p.1 n' p.2) (M' := fun p => Mem w0 (cs.set q (.row p.1 n' p.2 e z xs'))) h (fun o w ho hM hSw => ?_) k
  cases hti' : P.info? e with
  | none => rw [hti'] at hti; cases hti
  | some ti =>
    rw [hti'] at hti
    simp only [Option.map_some, Option.some.injEq, Prod.mk.injEq] at hti
    obtain ⟨A', cap', w', hr, hM'⟩ := hM.append (P := P) q hi (ty := o.type) ht hti' hti.2.2 hti.1 hti.2.1 hzs.1.1 (Nat.le_of_ble_eq_true hzs.1.2) (src w hM) hl h1 hb (Nat.le_of_ble_eq_true hzs.2)
    subst hn hx'
    refine ⟨(A', cap'), w', ?_, hM', hS A' cap' w w' hSw hM'⟩
    unfold execOp
    simp only [ho, resolve, invoke, builtin, Sem.run_bind, Sem.run_pure, Result.andThen_ok, List.map_toArray, List.map_cons, List.map_nil, hx, hy, hr]
theorem ops_make {i : Nat} {r : List (Nat × Bool)} {l : Slots} {x y : Operand} {t e : TypeId} {kl kc : IntKind} {a b : Int} {d : Option Tmp} {w0 : World} {cs : List Chunk} {nn z bytes : Nat} {zv : Value} {xs : List Value}
    (h : OpAt n ops l i (.makeSlice t x y) d) (hx : ev l x = .int kl a) (hy : ev l y = .int kc b) (ha : a = (nn : Int)) (hb : b = (nn : Int))
    (ht : P.underlying t = some (.slice e)) (hti : (P.info? e).map (fun i => (i.size, i.bytes, i.zero)) = some (z, bytes, some zv)) (hsz : nn * bytes ≤ 140737488355328) (hb1 : Nat.ble 1 bytes = true) (hxs : (madeCells zv.cells (nn * z)).toList = xs)
    (hS : ∀ g w w', S w → Mem w0 (.row (some ⟨g, 0, none⟩) nn nn e z xs :: cs) w' → S w') (k : ∀ g : Nat, Ops P n ops Q S r (put l d (.slice (some ⟨g, 0, none⟩) nn nn)) (Mem w0 (.row (some ⟨g, 0, none⟩) nn nn e z xs :: cs))) : Ops P n ops Q S ((i, false) :: r) l (Mem w0 cs) := by
  have hn : nn ≤ 140737488355328 := Nat.le_trans (Nat.le_mul_of_pos_right _ (Nat.le_of_ble_eq_true hb1)) hsz
  subst ha hb
  refine ops_law (σ := Nat) (v := fun g => .slice (some ⟨g, 0, none⟩) nn nn) (M' := fun g => Mem w0 (.row (some ⟨g, 0, none⟩) nn nn e z xs :: cs)) h (fun o w ho hM hSw => ?_) k
  cases hti' : P.info? e with
  | none => rw [hti'] at hti; cases hti
  | some ti =>
    rw [hti'] at hti
    simp only [Option.map_some, Option.some.injEq, Prod.mk.injEq] at hti
    obtain ⟨h1, h2, h3⟩ := hti
    subst h1 h2
    have hb' : (ti.bytes : Int) * (nn : Int) ≤ 281474976710656 := by
      have : ((ti.bytes * nn : Nat) : Int) ≤ 281474976710656 := by rw [Nat.mul_comm]; omega
      rwa [Int.natCast_mul] at this
    have hr := run_make (P := P) w t e ti zv ht hti' h3 kl kc (nn : Int) (nn : Int) (by omega) (Int.le_refl _) hb' (by omega)
    simp only [Int.toNat_natCast] at hr
    have hM' := hM.rowNew (madeCells zv.cells (nn * ti.size)).toList e nn ti.size (by simp [size_madeCells]) (by simp only [maxLen]; omega)
    rw [Array.toArray_toList, hxs] at hM'
    exact ⟨w.heap.size, _, by simp [execOp, ho, hx, hy, hr], hM', hS _ w _ hSw hM'⟩
theorem made_ints (k : IntKind) (n : Nat) : (madeCells (Value.cells (.int k 0)) (n * 1)).toList = iv k (List.replicate n 0) := by
  rw [Nat.mul_one, show Value.cells (.int k 0) = #[.int k 0] from rfl, toList_madeCells_one, iv, List.map_replicate]
/-- A place in a row of the call's own. -/
theorem run_indexRow {l : Slots} {x y : Operand} {t e : TypeId} {yk : IntKind} {b : Int} {g len cap z m off : Nat} (ht : P.underlying t = some (.slice e)) (hz : (P.info? e).map (·.size) = some z) (hx : ev l x = .slice (some ⟨g, 0, none⟩) len cap) (hy : ev l y = .int yk b) (hb : b = (m : Int)) (hm : m < len) (ho : m * z = off) :
    ∀ (o : Oper) (w : World), o.op = .indexAddr t x y → (execOp (ev l) o).run P w = .ok (.value (.pointer (some ⟨g, off, none⟩))) w := by
  intro o w hop
  have := run_index (P := P) (ad := ⟨g, 0, none⟩) (z := z) ht hz hx hy hb hm o w hop
  rwa [add_at, Nat.zero_add, ho] at this
end
theorem rints_none (k : IntKind) (w : World) : RInts k none [] w := fun j hj => absurd hj (Nat.not_lt_zero j)
theorem Mem.rints {w0 w : World} {cs : List Chunk} (h : Mem w0 cs w) (i : Nat) {A : Option Addr} {m c : Nat} {k : IntKind} {l : List Int} {T : TypeId} (hi : cs[i]? = some (.row A m c T 1 (iv k l))) : RInts k A l w := fun j hj => by
  have hl := h.rowLen i hi
  rw [iv_length] at hl
  obtain ⟨g, rfl⟩ := h.rowSome i hi (by omega)
  exact ⟨_, rfl, by rw [add_at, Nat.zero_add]; exact h.rowcell i hi (iv_get hj)⟩
theorem Mem.rintsBlk {w0 w : World} {cs : List Chunk} (h : Mem w0 cs w) (i : Nat) {b : Nat} {vs : List Value} {k : IntKind} {l : List Int} {T : TypeId} (hi : cs[i]? = some (.blk b vs T)) (hv : vs = iv k l) : RInts k (some ⟨b, 0, none⟩) l w := fun j hj => by
  subst hv
  exact ⟨_, rfl, by rw [add_at, Nat.zero_add]; exact h.cell i hi (iv_get hj)⟩
section
variable {P : Program} {l : Slots} {x y : Operand} {k k' yk : IntKind} {a b : Int} {ts : Array TypeId}
theorem run_min (hx : ev l x = .int k a) (hy : ev l y = .int k' b) : ∀ (o : Oper) (w : World), o.op = .call { callee := .builtin .min, args := #[x, y], argTypes := ts } → (execOp (ev l) o).run P w = .ok (.value (.int k (min a b))) w := by
  intro o w ho
  have e : (if b < a then b else a) = min a b := by rw [Int.min_def]; split <;> split <;> omega
  simp [execOp, ho, hx, hy, resolve, invoke, builtin, Builtin.min_, Builtin.min2, e]
theorem run_max (hx : ev l x = .int k a) (hy : ev l y = .int k' b) : ∀ (o : Oper) (w : World), o.op = .call { callee := .builtin .max, args := #[x, y], argTypes := ts } → (execOp (ev l) o).run P w = .ok (.value (.int k (max a b))) w := by
  intro o w ho
  have e : (if b > a then b else a) = max a b := by rw [Int.max_def]; split <;> split <;> omega
  simp [execOp, ho, hx, hy, resolve, invoke, builtin, Builtin.max_, Builtin.max2, e]
theorem run_max3 {z : Operand} {c : Int} {k'' : IntKind} (hx : ev l x = .int k a) (hy : ev l y = .int k' b) (hz : ev l z = .int k'' c) : ∀ (o : Oper) (w : World), o.op = .call { callee := .builtin .max, args := #[x, y, z], argTypes := ts } → (execOp (ev l) o).run P w = .ok (.value (.int k (max (max a b) c))) w := by
  intro o w ho
  have e : (if b > a then b else a) = max a b := by rw [Int.max_def]; split <;> split <;> omega
  have e2 : (if c > max a b then c else max a b) = max (max a b) c := by rw [Int.max_def (max a b) c]; split <;> split <;> omega
  by_cases h : b > a
  · have h2 : max a b = b := by omega
    rw [h2] at e2
    simp [execOp, ho, hx, hy, hz, resolve, invoke, builtin, Builtin.max_, Builtin.max2, h, h2, e2]
  · have h2 : max a b = a := by omega
    rw [h2] at e2
    simp [execOp, ho, hx, hy, hz, resolve, invoke, builtin, Builtin.max_, Builtin.max2, h, h2, e2]
/-- A place in an array of the call's own. -/
theorem run_indexArrRow {t e : TypeId} {g len z m off off' : Nat} (ht : P.underlying t = some (.array len e)) (hz : (P.info? e).map (·.size) = some z) (hx : ev l x = .pointer (some ⟨g, off, none⟩)) (hy : ev l y = .int yk b) (hb : b = (m : Int)) (hm : m < len) (ho : off + m * z = off') :
    ∀ (o : Oper) (w : World), o.op = .indexAddr t x y → (execOp (ev l) o).run P w = .ok (.value (.pointer (some ⟨g, off', none⟩))) w := by
  intro o w hop
  have := run_indexArr (P := P) (ad := ⟨g, off, none⟩) (z := z) ht hz hx hy hb hm o w hop
  rwa [add_at, ho] at this
end
theorem setAll_full (xs : List Value) : ∀ (vs pre : List Value), vs.length = xs.length → setAll (pre ++ vs) pre.length xs = pre ++ xs := by
  induction xs with
  | nil => intro vs pre h; have e : vs = [] := List.eq_nil_of_length_eq_zero (by simpa using h); subst e; simp [setAll]
  | cons x xs ih =>
    intro vs pre h
    cases vs with
    | nil => simp at h
    | cons v vs =>
      simp only [setAll]
      have := ih vs (pre ++ [x]) (by simpa using h)
      simp only [List.append_assoc, List.cons_append, List.nil_append, List.length_append, List.length_cons, List.length_nil, Nat.zero_add] at this
      rw [show (pre ++ v :: vs).set pre.length x = pre ++ x :: vs by simp]
      exact this
theorem setAll_all {vs xs : List Value} (h : vs.length = xs.length) : setAll vs 0 xs = xs := setAll_full xs vs [] h
theorem Mem.evs_rowloads {w0 w : World} {cs : List Chunk} (h : Mem w0 cs w) (i : Nat) {g n cap z : Nat} {e : TypeId} {vs : List Value} (hi : cs[i]? = some (.row (some ⟨g, 0, none⟩) n cap e z vs)) (xs : List Value) : ∀ (off : Nat), (∀ j v, xs[j]? = some v → vs[off + j]? = some v) → Evs (loads g off xs) w w := by
  induction xs with
  | nil => intro off _; rfl
  | cons x xs ih =>
    intro off hx
    refine ⟨h.rowcell i hi (hx 0 x rfl), ih (off + 1) fun j v hj => ?_⟩
    have := hx (j + 1) v (by simpa using hj)
    rwa [show off + (j + 1) = off + 1 + j by omega] at this
theorem Mem.evs_rowall {w0 w : World} {cs : List Chunk} (h : Mem w0 cs w) (i : Nat) {g n cap z : Nat} {e : TypeId} {vs : List Value} (hi : cs[i]? = some (.row (some ⟨g, 0, none⟩) n cap e z vs)) : Evs (loads g 0 vs) w w := h.evs_rowloads i hi vs 0 fun j v hj => by rwa [Nat.zero_add]
/-! ### Cuts -/
section
def cutA (A : Option Addr) (cap lo z : Nat) : Option Addr := if cap = lo then A else A.map (·.add (lo * z))
variable {P : Program} {l : Slots} {x y y2 : Operand} {k k' yk : IntKind} {a b : Int} {t e : TypeId} {A : Option Addr} {len cap lo hi z n' c' : Nat}
theorem run_cutH (ht : P.underlying t = some (.slice (P.elem t))) (hz : (P.info? (P.elem t)).map (·.size) = some z) (hx : ev l x = .slice A len cap) (hy : ev l y = .int k b) (hb : b = (hi : Int)) (h : hi ≤ cap) (hn : hi = n') :
    ∀ (o : Oper) (w : World), o.op = .slice t x none (some y) none → (execOp (ev l) o).run P w = .ok (.value (.slice (cutA A cap 0 z) n' cap)) w := by
  intro o w ho
  subst hb hn
  have h2 : ∀ w, (sizeOf (P.elem t)).run P w = .ok z w := run_sizeOf hz
  simp [execOp, ho, hx, hy, run_sliceAt_slice w t _ _ _ _ ht, run_slice_h w t A len cap ht k (hi : Int) (by omega) (by omega), h2, sliced, cutA]
theorem run_cutL (ht : P.underlying t = some (.slice (P.elem t))) (hz : (P.info? (P.elem t)).map (·.size) = some z) (hx : ev l x = .slice A len cap) (hy : ev l y = .int k b) (hb : b = (lo : Int)) (h : lo ≤ len) (hn : len - lo = n') (hc : cap - lo = c') :
    ∀ (o : Oper) (w : World), o.op = .slice t x (some y) none none → (execOp (ev l) o).run P w = .ok (.value (.slice (cutA A cap lo z) n' c')) w := by
  intro o w ho
  subst hb hn hc
  have h2 : ∀ w, (sizeOf (P.elem t)).run P w = .ok z w := run_sizeOf hz
  simp [execOp, ho, hx, hy, run_sliceAt_slice w t _ _ _ _ ht, run_slice_l w t A len cap ht k (lo : Int) (by omega) (by omega), h2, sliced, cutA]
theorem run_cutLH (ht : P.underlying t = some (.slice (P.elem t))) (hz : (P.info? (P.elem t)).map (·.size) = some z) (hx : ev l x = .slice A len cap) (hy : ev l y = .int k a) (hy2 : ev l y2 = .int k' b) (ha : a = (lo : Int)) (hb : b = (hi : Int)) (h1 : lo ≤ hi) (h : hi ≤ cap) (hn : hi - lo = n') (hc : cap - lo = c') :
    ∀ (o : Oper) (w : World), o.op = .slice t x (some y) (some y2) none → (execOp (ev l) o).run P w = .ok (.value (.slice (cutA A cap lo z) n' c')) w := by
  intro o w ho
  subst ha hb hn hc
  have h2 : ∀ w, (sizeOf (P.elem t)).run P w = .ok z w := run_sizeOf hz
  simp [execOp, ho, hx, hy, hy2, run_sliceAt_slice w t _ _ _ _ ht, run_slice_lh w t A len cap ht k k' (lo : Int) (hi : Int) (by omega) (by omega) (by omega), h2, sliced, cutA]
theorem addr_add_add (a : Addr) (m n : Nat) : (a.add m).add n = a.add (m + n) := by
  unfold Addr.add
  by_cases h1 : m = 0
  · subst h1; simp
  · by_cases h2 : n = 0
    · subst h2; simp
    · simp [h1, h2, Nat.add_assoc]
theorem RInts.cut {k : IntKind} {A : Option Addr} {l : List Int} {w : World} (h : RInts k A l w) {cap lo n : Nat} (hn : n ≤ l.length - lo) (hc : l.length ≤ cap) : RInts k (cutA A cap lo 1) ((l.drop lo).take n) w := fun j hj => by
  simp only [List.length_take, List.length_drop] at hj
  obtain ⟨ad, rfl, hcell⟩ := h (lo + j) (by omega)
  have hne : cap ≠ lo := by omega
  refine ⟨ad.add lo, by simp [cutA, hne], ?_⟩
  rw [addr_add_add, hcell]
  have h1 : j < n := by omega
  have h2 : lo + j < l.length := by omega
  simp [List.getD, List.getElem?_take, h1, h2]
end
theorem RInts.cutL {k : IntKind} {A : Option Addr} {l : List Int} {w : World} (h : RInts k A l w) {cap lo : Nat} (hc : l.length ≤ cap) : RInts k (cutA A cap lo 1) (l.drop lo) w := by
  have := h.cut (lo := lo) (n := l.length - lo) (Nat.le_refl _) hc
  rwa [List.take_of_length_le (by simp)] at this
/-! ### The most used rules, with short names -/
section
variable {P : Program} {n : NT} {ops : Array Oper} {Q : Exit → Act → World → Prop} {S : World → Prop}
theorem oR {r : List (Nat × Bool)} {l : Slots} {M : World → Prop} (is : List (Nat × Bool)) (l' : Slots) (ks : List Nat) (h : (stretch P n ops is l).map (keep ks) = some l') (k : Ops P n ops Q S r l' M) : Ops P n ops Q S (is ++ r) l M := ops_run ks h k
theorem oC {i : Nat} {r : List (Nat × Bool)} {l : Slots} {w0 : World} {cs : List Chunk} (d : Option Tmp) (f : FuncId) (args : Array Value) (v : Value) (h : At P n ops l i d [] [] (.enter f args))
    (hM : ∀ w, Mem w0 cs w → Calls P f args w fun e w' => e = .returned v ∧ Below w.heap.size w w') (k : Ops P n ops Q (fun _ => True) r (put l d v) (Mem w0 cs)) : Ops P n ops Q (fun _ => True) ((i, false) :: r) l (Mem w0 cs) :=
  ops_call (σ := Unit) (v := fun _ => v) (M' := fun _ => Mem w0 cs) h (fun w hm _ => (hM w hm).mono (by rintro e w' ⟨rfl, hb⟩; exact ⟨(), rfl, hm.step hb, trivial⟩)) (fun _ => k)
theorem oCS {i : Nat} {r : List (Nat × Bool)} {l : Slots} {w0 : World} {cs ds : List Chunk} (d : Option Tmp) (f : FuncId) (args : Array Value) (v : Value) (h : At P n ops l i d [] [] (.enter f args))
    (hM : ∀ w, Mem w0 cs w → Calls P f args w fun e w' => e = .returned v ∧ Below w.heap.size w w') (k : Ops P n ops Q (Mem w0 ds) r (put l d v) (Mem w0 cs)) : Ops P n ops Q (Mem w0 ds) ((i, false) :: r) l (Mem w0 cs) :=
  ops_call (σ := Unit) (v := fun _ => v) (M' := fun _ => Mem w0 cs) h (fun w hm hs => (hM w hm).mono (by rintro e w' ⟨rfl, hb⟩; exact ⟨(), rfl, hm.step hb, hs.step hb⟩)) (fun _ => k)
end
end Go.Proofs.Ytchadeflopbchaa.Sx
