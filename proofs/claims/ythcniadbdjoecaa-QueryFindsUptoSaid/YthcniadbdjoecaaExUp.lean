/- Arguments of bounded bulk, opened: what a claim's data tell is what the walks read, and its bulk. No condition. -/
import Derived.Test.YthcniadbdjoecaaExRow
import Derived.Test.YthcniadbdjoecaaRows
import Derived.Deep.CondSized
namespace Go.Proofs.Ythcniadbdjoecaa.Sx
open Go Go.RowKit Go.ChangeShapes Go.WideShapes
set_option linter.unusedVariables false
set_option linter.unusedSimpArgs false
theorem bulk_append {H : Type} (l r : List (DataW H)) : Rows.uptoBulkAll (l ++ r) = Rows.uptoBulkAll l + Rows.uptoBulkAll r := by
  induction l with
  | nil => simp [Rows.uptoBulkAll]
  | cons x l ih => simp only [List.cons_append, Rows.uptoBulkAll, ih]; omega
theorem bulk_take {H : Type} (l : List (DataW H)) (k : Nat) : Rows.uptoBulkAll (l.take k) ≤ Rows.uptoBulkAll l := by
  have := bulk_append (l.take k) (l.drop k)
  rw [List.take_append_drop] at this; omega
def OpensU {α : Type} (H : Type) (enc : TypeId × Value → H) (P : Program) (W : World) (t : TypeId) (R : Rep α) (ok : α → Prop) (bk : α → Nat) : Prop :=
  ∀ fuel cs x, DataW.trod enc P W 0 (fun _ => true) true fuel t cs = some x → (∀ n ∈ x.1.weights P t, n ≤ reachBytes) → ∃ a, R.rd (fun b => b < W.heap.size) W a cs ∧ ok a ∧ bk a ≤ Rows.uptoBulk x.1
section
variable {H : Type} {enc : TypeId × Value → H} {P : Program} {W : World} {t e : TypeId}
theorem bulk_one (d : DataW H) : 1 ≤ Rows.uptoBulk d := by
  cases d with
  | lit l => cases l <;> simp [Rows.uptoBulk]
  | nil => simp [Rows.uptoBulk]
  | ptr d => simp [Rows.uptoBulk]
  | slice elems spare => simp [Rows.uptoBulk]
  | agg parts => simp [Rows.uptoBulk]
  | iface t d => simp [Rows.uptoBulk]
  | map entries => simp [Rows.uptoBulk]
  | held h => simp [Rows.uptoBulk]
theorem OpensU.int {k : IntKind} (ht : P.underlying t = some (.int k)) : OpensU H enc P W t (Rep.int k) (okk k) bk1 := fun fuel cs x h hw => by
  obtain ⟨a, r, o⟩ := (Opens.int ht) fuel cs x h hw
  exact ⟨a, r, o, bulk_one _⟩
theorem OpensU.bool (ht : P.underlying t = some .bool) : OpensU H enc P W t Rep.bool okb bk1 := fun fuel cs x h hw => by
  obtain ⟨a, r, o⟩ := (Opens.bool ht) fuel cs x h hw
  exact ⟨a, r, o, bulk_one _⟩
theorem OpensU.str (ht : P.underlying t = some .string) : OpensU H enc P W t Rep.str oks bks := fun fuel cs x h hw => by
  obtain ⟨s, rfl, rfl, _⟩ := DataW.trod_string ht h
  refine ⟨s, rfl, ?_, ?_⟩
  · have := hw s.data.toList.length (by simp [DataW.weights])
    unfold oks
    have e : s.data.toList.length = s.size := Array.length_toList
    have hr : reachBytes = 140737488351232 := by decide
    omega
  · have e : s.data.toList.length = s.size := Array.length_toList
    simp only [Rows.uptoBulk, bks]; omega
theorem OpensU.sl {α : Type} {R : Rep α} {ok : α → Prop} {bk : α → Nat} {by_ : Nat} (ht : P.underlying t = some (.slice e)) (hz : P.cellsOf e = R.z) (hz0 : 0 < R.z) (hb : P.bytesOf e = by_) (h : OpensU H enc P W e R ok bk) : OpensU H enc P W t (Rep.sl R) (okl by_ ok) (bkl bk) := fun fuel cs x hx hw => by
  rcases DataW.trod_slice ht hx with ⟨rfl, rfl⟩ | ⟨a, len, cap, elems, rest, n, _, rfl, rfl, _, hl, hm, hlen, hel, _, _⟩
  · exact ⟨[], ⟨none, 0, rfl, RdS.empty none⟩, by simp [okl], by simp [bkl, Rows.uptoBulk]⟩
  · have hwe : ∀ y ∈ elems, ∀ m ∈ y.1.weights P e, m ≤ reachBytes := fun y hy m hm' => hw m (by
      simp only [DataW.weights, ht, List.mem_cons, List.mem_append]
      exact .inr (.inl (weights_all (List.mem_map_of_mem hy) m hm')))
    have hsz : len * by_ ≤ 140737488351232 := by
      have h1 := hw ((elems.map (·.1)).length + (rest.map (·.1)).length |> (· * P.bytesOf e)) (by simp [DataW.weights, ht])
      simp only [List.length_map, hlen, hb] at h1
      have hr : reachBytes = 140737488351232 := by decide
      have : len * by_ ≤ (len + rest.length) * by_ := Nat.mul_le_mul_right _ (Nat.le_add_right _ _)
      omega
    have key : ∀ k, k ≤ len → ∃ l : List α, l.length = k ∧ (∀ a ∈ l, ok a) ∧ (l.map bk).sum ≤ Rows.uptoBulkAll ((elems.map (·.1)).take k) ∧ ∀ j y, l[j]? = some y → ∃ cs', W.cells? 0 (a.add (j * P.cellsOf e)) (P.cellsOf e) = some cs' ∧ R.rd (fun b => b < W.heap.size) W y cs' := by
      intro k
      induction k with
      | zero => intro _; exact ⟨[], rfl, by simp, by simp, by simp⟩
      | succ k ih =>
        intro hk
        obtain ⟨l, h1, h2, h2b, h3⟩ := ih (by omega)
        have hk' := hel k (by omega)
        rw [List.getElem?_eq_getElem (by omega)] at hk'
        obtain ⟨cs', hc, ht'⟩ := Option.bind_eq_some_iff.1 hk'
        obtain ⟨y, hy, hoy, hby⟩ := h n cs' _ ht' (hwe _ (List.getElem_mem _))
        refine ⟨l ++ [y], by simp [h1], fun b hb => ?_, ?_, fun j z hj => ?_⟩
        · rcases List.mem_append.1 hb with hb | hb
          · exact h2 b hb
          · rw [List.mem_singleton.1 hb]; exact hoy
        · rw [List.take_add_one, bulk_append, List.getElem?_map, List.getElem?_eq_getElem (by omega)]
          simp only [List.map_append, List.sum_append, List.map_cons, List.map_nil, List.sum_cons, List.sum_nil, Option.map_some, Option.toList_some, Rows.uptoBulkAll]
          omega
        · by_cases hjl : j < l.length
          · rw [List.getElem?_append_left hjl] at hj; exact h3 j z hj
          · rw [List.getElem?_append_right (by omega)] at hj
            have hj0 : j - l.length = 0 := by
              have := (List.getElem?_eq_some_iff.1 hj).1
              simp at this; omega
            rw [hj0] at hj
            simp only [List.getElem?_cons_zero, Option.some.injEq] at hj
            subst hj
            have : j = k := by omega
            subst this
            exact ⟨cs', hc, hy⟩
    obtain ⟨l, hll, hok, hbl, hcl⟩ := key len (Nat.le_refl _)
    have hnn : some a = none → cap = 0 := fun hA => (by cases hA)
    refine ⟨l, ⟨some a, cap, by rw [hll], ⟨by omega, hm, hnn, fun j y hj => ?_⟩⟩, ⟨by rw [hll]; exact hsz, hok⟩, by have := bulk_take (elems.map (·.1)) len; simp only [bkl, Rows.uptoBulk]; omega⟩
    obtain ⟨cs', hc, hr⟩ := hcl j y hj
    have hcell : ∀ i u, cs'[i]? = some u → W.cell? ((a.add (j * R.z)).add i) = some u := fun i u hi => by
      rw [← hz]
      obtain ⟨_, hcl', hget⟩ := World.cells?_some hc
      have hil := (List.getElem?_eq_some_iff.1 hi).1
      rw [hget i (by omega)]; exact hi
    refine ⟨a, cs', rfl, ?_, hr, hcell⟩
    have hlen' := R.len hr
    have h0 : 0 < cs'.length := by omega
    have := World.block_lt_of_cell? W _ (hcell 0 cs'[0] (List.getElem?_eq_getElem h0))
    rwa [add_block, add_block] at this
theorem OpensU.fields {fs : Array Field} {fuel : Nat} {cs : List Value} {x : DataW H × List MemPlace} (ht : P.underlying t = some (.struct fs)) (h : DataW.trod enc P W 0 (fun _ => true) true fuel t cs = some x) (hw : ∀ n ∈ x.1.weights P t, n ≤ reachBytes) :
    cs.length = P.cellsOf t ∧ ∃ xs : List (DataW H × List MemPlace), xs.length = fs.size ∧ x.1 = .agg (xs.map (·.1)) ∧ ∃ n, ∀ (i : Nat) (f : Field), fs[i]? = some f → ∃ y, xs[i]? = some y ∧ DataW.trod enc P W 0 (fun _ => true) true n f.type ((cs.drop f.offset).take (P.cellsOf f.type)) = some y ∧ ∀ m ∈ y.1.weights P f.type, m ≤ reachBytes := by
  obtain ⟨xs, n, _, rfl, hl, hlen, hf⟩ := DataW.trod_struct ht h
  refine ⟨hl, xs, hlen, rfl, n, fun i f hi => ?_⟩
  have hil : i < xs.length := by rw [hlen]; exact (Array.getElem?_eq_some_iff.1 hi).1
  have := hf i f hi
  rw [List.getElem?_eq_getElem hil] at this
  refine ⟨xs[i], List.getElem?_eq_getElem hil, this, fun m hm => hw m ?_⟩
  simp only [DataW.weights, ht]
  exact DataW.weights_mem_each (j := i) (by rw [List.getElem?_map, Array.getElem?_toList, hi]; rfl) (by rw [List.getElem?_map, List.getElem?_eq_getElem hil]; rfl) m hm
theorem OpensU.items {k : Nat} {fuel : Nat} {cs : List Value} {x : DataW H × List MemPlace} (ht : P.underlying t = some (.array k e)) (h : DataW.trod enc P W 0 (fun _ => true) true fuel t cs = some x) (hw : ∀ n ∈ x.1.weights P t, n ≤ reachBytes) :
    cs.length = P.cellsOf t ∧ ∃ xs : List (DataW H × List MemPlace), xs.length = k ∧ x.1 = .agg (xs.map (·.1)) ∧ ∃ n, ∀ (i : Nat), i < k → ∃ y, xs[i]? = some y ∧ DataW.trod enc P W 0 (fun _ => true) true n e ((cs.drop (i * P.cellsOf e)).take (P.cellsOf e)) = some y ∧ ∀ m ∈ y.1.weights P e, m ≤ reachBytes := by
  obtain ⟨xs, n, _, rfl, hl, hlen, hf⟩ := DataW.trod_array ht h
  refine ⟨hl, xs, hlen, rfl, n, fun i hi => ?_⟩
  have hil : i < xs.length := by omega
  have := hf i hi
  rw [List.getElem?_eq_getElem hil] at this
  refine ⟨xs[i], List.getElem?_eq_getElem hil, this, fun m hm => hw m ?_⟩
  simp only [DataW.weights, ht]
  exact weights_all (List.mem_map_of_mem (List.getElem_mem hil)) m hm
theorem OpensU.field {fs : Array Field} {cs : List Value} {xs : List (DataW H × List MemPlace)} {n : Nat} (hf : ∀ (i : Nat) (f : Field), fs[i]? = some f → ∃ y, xs[i]? = some y ∧ DataW.trod enc P W 0 (fun _ => true) true n f.type ((cs.drop f.offset).take (P.cellsOf f.type)) = some y ∧ ∀ m ∈ y.1.weights P f.type, m ≤ reachBytes)
    (i : Nat) {f : Field} {ft o z : Nat} {y : DataW H × List MemPlace} (hi : fs[i]? = some f) (hy : xs[i]? = some y) (h1 : f.type = ft) (h2 : f.offset = o) (h3 : P.cellsOf ft = z) : DataW.trod enc P W 0 (fun _ => true) true n ft ((cs.drop o).take z) = some y ∧ ∀ m ∈ y.1.weights P ft, m ≤ reachBytes := by
  subst h1 h2 h3
  obtain ⟨y', e, h⟩ := hf i f hi
  rw [hy] at e; cases e; exact h
theorem OpensU.item {cs : List Value} {k : Nat} {xs : List (DataW H × List MemPlace)} {n : Nat} (hf : ∀ (i : Nat), i < k → ∃ y, xs[i]? = some y ∧ DataW.trod enc P W 0 (fun _ => true) true n e ((cs.drop (i * P.cellsOf e)).take (P.cellsOf e)) = some y ∧ ∀ m ∈ y.1.weights P e, m ≤ reachBytes)
    (i : Nat) {o z : Nat} {y : DataW H × List MemPlace} (hi : i < k) (hy : xs[i]? = some y) (h3 : P.cellsOf e = z) (h2 : i * z = o) : DataW.trod enc P W 0 (fun _ => true) true n e ((cs.drop o).take z) = some y ∧ ∀ m ∈ y.1.weights P e, m ≤ reachBytes := by
  subst h3 h2
  obtain ⟨y', e, h⟩ := hf i hi
  rw [hy] at e; cases e; exact h
end
end Go.Proofs.Ythcniadbdjoecaa.Sx
