/- Operations whose run hangs on a condition: division, shifts, places in slices and arrays, cuts. No condition but what each law names. -/
import Derived.Test.YtdmlapkindoghaaSxMem
import Derived.WideLaws
import Derived.LoopN
import Derived.Laws.StructEq
import Derived.Laws.BitsLemmas
import Derived.Laws.Slices
import Derived.Laws.MakeOwn
namespace Go.Proofs.Ytdmlapkindoghaa.Sx
open Go Go.RowKit
set_option linter.unusedVariables false

section
variable {P : Program} {n : Nat} {ops : Array Oper} {Q : Exit → Act → World → Prop} {S : World → Prop}
structure OpAt (n : Nat) (ops : Array Oper) (l : Slots) (i : Nat) (op : Op) (d : Option Tmp) : Prop where
  ok : (match ops[i]? with
    | none => none
    | some o => bif dstOk n o && known l o.op && !isSelect o.op && (match guardOf ops l o with | some true => true | _ => false) then some (o.op, o.dst) else none) = some (op, d)
theorem OpAt.get {l : Slots} {i : Nat} {op : Op} {d : Option Tmp} (h : OpAt n ops l i op d) :
    ∃ o, ops[i]? = some o ∧ o.op = op ∧ o.dst = d ∧ (∀ t, d = some t → t < n) ∧ ∀ a, Knows n a l → Region.wanted o (yielded ops a.tmps) = true ∧ execOp a.eval o = execOp (ev l) o := by
  have h := h.ok
  cases hi : ops[i]? with
  | none => rw [hi] at h; cases h
  | some o =>
    rw [hi] at h
    simp only at h
    cases hc : (dstOk n o && known l o.op && !isSelect o.op && (match guardOf ops l o with | some true => true | _ => false)) with
    | false => rw [hc] at h; cases h
    | true =>
      rw [hc, cond_true] at h
      simp only [Bool.and_eq_true, Bool.not_eq_true'] at hc
      obtain ⟨⟨⟨hd, hkn⟩, hsel⟩, hg⟩ := hc
      simp only [Option.some.injEq, Prod.mk.injEq] at h
      obtain ⟨rfl, rfl⟩ := h
      refine ⟨o, rfl, rfl, rfl, dstOk_lt hd, fun a hk => ⟨?_, hk.exec o (not_select hsel) hkn⟩⟩
      split at hg
      · rename_i e; exact wanted_of hk e
      · cases hg
/-- An operation whose value is known by a law, whatever the world. -/
theorem ops_val {i : Nat} {q : Bool} {r : List (Nat × Bool)} {l : Slots} {op : Op} {d : Option Tmp} {v : Value} {M : World → Prop} (h : OpAt n ops l i op d)
    (hv : ∀ o w, o.op = op → (execOp (ev l) o).run P w = .ok (.value v) w) (k : Ops P n ops Q S r (put l d v) M) : Ops P n ops Q S ((i, q) :: r) l M := by
  intro a w hk hM hS
  obtain ⟨o, hi, ho, hd, hlt, h⟩ := h.get
  obtain ⟨hw, he⟩ := h a hk
  have hy : YieldsIf P ops S o v a := .inl ⟨hw, fun w' _ => by rw [he]; exact hv o w' ho⟩
  have hk' := hk.put d hlt v
  simp only [seqOps, hi]
  subst hd
  cases q with
  | true => exact ⟨hS, v, hy, k _ _ hk' hM hS⟩
  | false => exact hy.wpOp (K := fun a' w' => S w' ∧ seqOps P ops Q S r a' w') hi hS (And.intro hS (k _ _ hk' hM hS))
/-- An operation that turns memory, by a law of its own. -/
theorem ops_law {i : Nat} {r : List (Nat × Bool)} {l : Slots} {op : Op} {d : Option Tmp} {σ : Type} {v : σ → Value} {M : World → Prop} {M' : σ → World → Prop} (h : OpAt n ops l i op d)
    (hv : ∀ o w, o.op = op → M w → S w → ∃ x w', (execOp (ev l) o).run P w = .ok (.value (v x)) w' ∧ M' x w' ∧ S w') (k : ∀ x, Ops P n ops Q S r (put l d (v x)) (M' x)) : Ops P n ops Q S ((i, false) :: r) l M := by
  intro a w hk hMw hS
  obtain ⟨o, hi, ho, hd, hlt, h⟩ := h.get
  obtain ⟨hw, he⟩ := h a hk
  obtain ⟨x, w', hr, hM', hS'⟩ := hv o w ho hMw hS
  simp only [seqOps, hi, cond_false, wpOp, hw, if_true, Oper.wp, he, hr, Oper.upon, hd]
  exact Or.inl (And.intro hS' (k x _ _ (hk.put d hlt _) hM' hS'))

variable {l : Slots} {x y : Operand} {t t' e : TypeId} {k yk : IntKind} {a b : Int}
theorem run_rem (hx : ev l x = .int k a) (hy : ev l y = .int k b) (hb : b ≠ 0) : ∀ (o : Oper) (w : World), o.op = .binOp .rem t x y t' → (execOp (ev l) o).run P w = .ok (.value (.int k (Int.tmod a b))) w := by
  intro o w ho
  simp [execOp, ho, hx, hy, eqGuard, binOp, Op.intDiv, hb]
theorem run_quo (hx : ev l x = .int k a) (hy : ev l y = .int k b) (hb : b ≠ 0) : ∀ (o : Oper) (w : World), o.op = .binOp .quo t x y t' → (execOp (ev l) o).run P w = .ok (.value (.int k (k.wrap (Int.tdiv a b)))) w := by
  intro o w ho
  simp [execOp, ho, hx, hy, eqGuard, binOp, Op.intDiv, hb]
theorem run_shl (hx : ev l x = .int k a) (hy : ev l y = .int yk b) (hb : 0 ≤ b) : ∀ (o : Oper) (w : World), o.op = .binOp .shl t x y t' → (execOp (ev l) o).run P w = .ok (.value (.int k (k.wrap (a * 2 ^ min b.toNat k.bits)))) w := by
  intro o w ho
  have : ¬ b < 0 := by omega
  simp [execOp, ho, hx, hy, eqGuard, binOp, Op.shift, this]
theorem run_shr (hx : ev l x = .int k a) (hy : ev l y = .int yk b) (hb : 0 ≤ b) : ∀ (o : Oper) (w : World), o.op = .binOp .shr t x y t' → (execOp (ev l) o).run P w = .ok (.value (.int k (Int.fdiv a (2 ^ min b.toNat k.bits)))) w := by
  intro o w ho
  have : ¬ b < 0 := by omega
  simp [execOp, ho, hx, hy, eqGuard, binOp, Op.shift, this]
theorem run_eql_same (hx : ev l x = .int k a) (hy : ev l y = .int k a) : ∀ (o : Oper) (w : World), o.op = .binOp .eql t x y t' → (execOp (ev l) o).run P w = .ok (.value (.bool true)) w := by
  intro o w ho
  simp [execOp, ho, hx, hy, eqGuard, binOp, Op.intCmp]
theorem run_neq_same (hx : ev l x = .int k a) (hy : ev l y = .int k a) : ∀ (o : Oper) (w : World), o.op = .binOp .neq t x y t' → (execOp (ev l) o).run P w = .ok (.value (.bool false)) w := by
  intro o w ho
  simp [execOp, ho, hx, hy, eqGuard, binOp, Op.intCmp]
theorem run_eql_agg {xs ys : Array Value} {r : Bool} (hx : ev l x = .agg xs) (hy : ev l y = .agg ys) (hm : P.eqGuardType P.depth t = false) (h : ∀ w, (Op.equalIn 10000 t (.agg xs) (.agg ys)).run P w = .ok r w) : ∀ (o : Oper) (w : World), o.op = .binOp .eql t x y t' → (execOp (ev l) o).run P w = .ok (.value (.bool r)) w := by
  intro o w ho
  simp only [execOp, ho, hx, hy, Sem.run_bind, run_eqGuard_agg _ _ _ _ _ _ _ hm, Result.andThen_ok, run_eql_struct, h, Sem.run_pure]
theorem run_neq_agg {xs ys : Array Value} {r : Bool} (hx : ev l x = .agg xs) (hy : ev l y = .agg ys) (hm : P.eqGuardType P.depth t = false) (h : ∀ w, (Op.equalIn 10000 t (.agg xs) (.agg ys)).run P w = .ok r w) : ∀ (o : Oper) (w : World), o.op = .binOp .neq t x y t' → (execOp (ev l) o).run P w = .ok (.value (.bool (!r))) w := by
  intro o w ho
  simp only [execOp, ho, hx, hy, Sem.run_bind, run_eqGuard_agg _ _ _ _ _ _ _ hm, Result.andThen_ok, run_neq_struct, h, Sem.run_pure]
theorem run_underlying' {t : TypeId} {d : TypeDesc} (h : P.underlying t = some d) (w : World) : (Go.underlying t).run P w = .ok d w := run_underlying h w
theorem run_sizeOf {t : TypeId} {z : Nat} (h : (P.info? t).map (·.size) = some z) (w : World) : (sizeOf t).run P w = .ok z w := by
  cases hq : P.info? t with
  | none => rw [hq] at h; cases h
  | some i => rw [hq] at h; simp at h; simp [sizeOf, typeInfo, hq, h]
/-- A place in a slice. -/
theorem run_index {ad : Addr} {len cap z m : Nat} (ht : P.underlying t = some (.slice e)) (hz : (P.info? e).map (·.size) = some z) (hx : ev l x = .slice (some ad) len cap) (hy : ev l y = .int yk b) (hb : b = (m : Int)) (hm : m < len) :
    ∀ (o : Oper) (w : World), o.op = .indexAddr t x y → (execOp (ev l) o).run P w = .ok (.value (.pointer (some (ad.add (m * z))))) w := by
  intro o w ho
  subst hb
  have h1 : (0 : Int) ≤ (m : Int) ∧ (m : Int) < (len : Int) := ⟨by omega, by omega⟩
  have h2 : ∀ w, (sizeOf e).run P w = .ok z w := run_sizeOf hz
  simp [execOp, ho, hx, hy, Instr.indexAt, asIntOf, run_underlying' ht, h1, h2, hm]
/-- A place in a slice of one-cell elements, whose address is told. -/
theorem run_index1 {A : Option Addr} {ad : Addr} {len cap m : Nat} (hA : A = some ad) (ht : P.underlying t = some (.slice e)) (hz : (P.info? e).map (·.size) = some 1) (hx : ev l x = .slice A len cap) (hy : ev l y = .int yk b) (hb : b = (m : Int)) (hm : m < len) :
    ∀ (o : Oper) (w : World), o.op = .indexAddr t x y → (execOp (ev l) o).run P w = .ok (.value (.pointer (some (ad.add m)))) w := by
  intro o w ho
  subst hA
  have := run_index (ad := ad) (z := 1) ht hz hx hy hb hm o w ho
  rwa [Nat.mul_one] at this
/-- A place in an array that is reached by its address. -/
theorem run_indexArr {ad : Addr} {len z m : Nat} (ht : P.underlying t = some (.array len e)) (hz : (P.info? e).map (·.size) = some z) (hx : ev l x = .pointer (some ad)) (hy : ev l y = .int yk b) (hb : b = (m : Int)) (hm : m < len) :
    ∀ (o : Oper) (w : World), o.op = .indexAddr t x y → (execOp (ev l) o).run P w = .ok (.value (.pointer (some (ad.add (m * z))))) w := by
  intro o w ho
  subst hb
  have h1 : (0 : Int) ≤ (m : Int) ∧ (m : Int) < (len : Int) := ⟨by omega, by omega⟩
  have h2 : ∀ w, (sizeOf e).run P w = .ok z w := run_sizeOf hz
  simp [execOp, ho, hx, hy, Instr.indexAt, Instr.sureAddr, asIntOf, run_underlying' ht, h1, h2, hm]
/-- A byte of a string. -/
theorem run_strIndex {s : ByteArray} {m : Nat} (ht : P.underlying t = some .string) (hx : ev l x = .string s) (hy : ev l y = .int yk b) (hb : b = (m : Int)) (hm : m < s.size) :
    ∀ (o : Oper) (w : World), o.op = .index t x y → (execOp (ev l) o).run P w = .ok (.value (.int .u8 ((s[m]'hm).toNat : Int))) w := by
  intro o w ho
  subst hb
  have h1 : (0 : Int) ≤ (m : Int) := by omega
  simp [execOp, ho, hx, hy, Instr.index, asIntOf, run_underlying' ht, h1, hm]
end
/-! ### A loop of a known number of rounds -/
section
variable {P : Program} {n : Nat} {Q : Exit → Act → World → Prop} {l : Slots} {M : World → Prop} {c : Code}
def StR (P : Program) (n : Nat) (c : Code) (m : Nat) (Q : Exit → Act → World → Prop) (l : Slots) (M : World → Prop) : Prop := ∀ a w, Knows n a l → M w → Code.rounds P c Q m a w
theorem st_unroll (m : Nat) (h : StR P n c m Q l M) : St P n (.loop c) Q l M := fun a w hk hM => wp_loop_rounds m (h a w hk hM)
theorem str_succ {m : Nat} (h : St P n c (Exit.then (Code.rounds P c Q m) Q) l M) : StR P n c (m + 1) Q l M := fun a w hk hM => by rw [rounds_succ]; exact h a w hk hM
theorem fin_rounds {m : Nat} (h : StR P n c m Q l M) : Fin n (Exit.then (Code.rounds P c Q m) Q) .normal l M := h
end
/-- A slice's elements, read: whole numbers. -/
def RInts (k : IntKind) (A : Option Addr) (l : List Int) (w : World) : Prop := ∀ j, j < l.length → ∃ ad, A = some ad ∧ w.cell? (ad.add j) = some (.int k (l.getD j 0))
theorem Mem.oldcell {w0 w : World} {cs : List Chunk} {a : Addr} {v : Value} (h : Mem w0 cs w) (hc : w0.cell? a = some v) : w.cell? a = some v := (h.below.cell (World.block_lt_of_cell? w0 a hc)).trans hc
theorem RInts.below {k : IntKind} {A : Option Addr} {l : List Int} {w w' : World} (h : RInts k A l w) (hb : Below w.heap.size w w') : RInts k A l w' := fun j hj => by
  obtain ⟨ad, hA, hc⟩ := h j hj
  exact ⟨ad, hA, (hb.cell (World.block_lt_of_cell? w _ hc)).trans hc⟩
theorem RInts.mem {k : IntKind} {A : Option Addr} {l : List Int} {w0 w : World} {cs : List Chunk} (h : RInts k A l w0) (hM : Mem w0 cs w) : RInts k A l w := h.below hM.below
theorem succ_i64 {k : Nat} (h : k < 9223372036854775807) : IntKind.i64.wrap ((k : Int) + 1) = ((k + 1 : Nat) : Int) := by
  rw [IntKind.wrap_i64]; omega
theorem foldl_take {α β : Type} (f : β → α → β) (b : β) (l : List α) (d : α) (k : Nat) (h : k < l.length) : (l.take (k + 1)).foldl f b = f ((l.take k).foldl f b) (l.getD k d) := by
  rw [List.take_succ_eq_append_getElem h, List.foldl_append]
  simp [List.getD, h]
theorem add_at (b off m : Nat) : (⟨b, off, none⟩ : Addr).add m = ⟨b, off + m, none⟩ := by
  unfold Addr.add; split <;> simp_all
end Go.Proofs.Ytdmlapkindoghaa.Sx
