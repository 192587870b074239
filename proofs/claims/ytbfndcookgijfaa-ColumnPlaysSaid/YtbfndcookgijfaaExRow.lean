/- Arguments, opened: what a claim's data tell is what the walks read. No condition. -/
import Derived.Test.YtbfndcookgijfaaExMem
import Derived.SizedLaws
import Derived.Deep.Slices
import Derived.OpenShut
import Derived.ChangeSame
import Derived.Lib.SmallJoins
namespace Go.Proofs.Ytbfndcookgijfaa.Sx
open Go Go.RowKit Go.ChangeShapes Go.WideShapes
set_option linter.unusedVariables false
set_option linter.unusedSimpArgs false
theorem okk_wf {k : IntKind} {n : Int} (h : (Lit.int k n).wf = true) : okk k n := by
  simp only [Lit.wf, Bool.and_eq_true, decide_eq_true_eq] at h
  cases k <;> simp only [okk] <;> (have h1 := h.1; have h2 := h.2; simp [IntKind.min, IntKind.max, IntKind.signed, IntKind.bits] at h1 h2; omega)
/-- A value that a claim's data tell is read as the walks read it. -/
def Opens {α : Type} (H : Type) (enc : TypeId × Value → H) (P : Program) (W : World) (t : TypeId) (R : Rep α) (ok : α → Prop) : Prop :=
  ∀ fuel cs x, DataW.trod enc P W 0 (fun _ => true) true fuel t cs = some x → (∀ n ∈ x.1.weights P t, n ≤ reachBytes) → ∃ a, R.rd (fun b => b < W.heap.size) W a cs ∧ ok a
section
variable {H : Type} {enc : TypeId × Value → H} {P : Program} {W : World} {t e : TypeId}
theorem Opens.int {k : IntKind} (ht : P.underlying t = some (.int k)) : Opens H enc P W t (Rep.int k) (okk k) := fun fuel cs x h _ => by
  obtain ⟨n, rfl, _, hw⟩ := DataW.trod_int ht h
  exact ⟨n, rfl, okk_wf hw⟩
theorem Opens.bool (ht : P.underlying t = some .bool) : Opens H enc P W t Rep.bool okb := fun fuel cs x h _ => by
  obtain ⟨n, rfl, _⟩ := DataW.trod_bool ht h
  exact ⟨n, rfl, trivial⟩
theorem Opens.str (ht : P.underlying t = some .string) : Opens H enc P W t Rep.str oks := fun fuel cs x h hw => by
  obtain ⟨s, rfl, rfl, _⟩ := DataW.trod_string ht h
  refine ⟨s, rfl, ?_⟩
  have := hw s.data.toList.length (by simp [DataW.weights])
  unfold oks
  have e : s.data.toList.length = s.size := Array.length_toList
  have hr : reachBytes = 140737488351232 := by decide
  omega
theorem weights_all {e : TypeId} : ∀ {ds : List (DataW H)} {d : DataW H}, d ∈ ds → ∀ n ∈ d.weights P e, n ∈ DataW.weightsAll P e ds
  | d0 :: ds, d, hd, n, hn => by
    simp only [DataW.weightsAll, List.mem_append]
    rcases List.mem_cons.1 hd with rfl | hd
    · exact .inl hn
    · exact .inr (weights_all hd n hn)
theorem Opens.sl {α : Type} {R : Rep α} {ok : α → Prop} {by_ : Nat} (ht : P.underlying t = some (.slice e)) (hz : P.cellsOf e = R.z) (hz0 : 0 < R.z) (hb : P.bytesOf e = by_) (h : Opens H enc P W e R ok) : Opens H enc P W t (Rep.sl R) (okl by_ ok) := fun fuel cs x hx hw => by
  rcases DataW.trod_slice ht hx with ⟨rfl, rfl⟩ | ⟨a, len, cap, elems, rest, n, _, rfl, rfl, _, hl, hm, hlen, hel, _, _⟩
  · exact ⟨[], ⟨none, 0, rfl, RdS.empty none⟩, by simp [okl]⟩
  · have hwe : ∀ y ∈ elems, ∀ m ∈ y.1.weights P e, m ≤ reachBytes := fun y hy m hm' => hw m (by
      simp only [DataW.weights, ht, List.mem_cons, List.mem_append]
      exact .inr (.inl (weights_all (List.mem_map_of_mem hy) m hm')))
    have hsz : len * by_ ≤ 140737488351232 := by
      have h1 := hw ((elems.map (·.1)).length + (rest.map (·.1)).length |> (· * P.bytesOf e)) (by simp [DataW.weights, ht])
      simp only [List.length_map, hlen, hb] at h1
      have hr : reachBytes = 140737488351232 := by decide
      have : len * by_ ≤ (len + rest.length) * by_ := Nat.mul_le_mul_right _ (Nat.le_add_right _ _)
      omega
    have key : ∀ k, k ≤ len → ∃ l : List α, l.length = k ∧ (∀ a ∈ l, ok a) ∧ ∀ j y, l[j]? = some y → ∃ cs', W.cells? 0 (a.add (j * P.cellsOf e)) (P.cellsOf e) = some cs' ∧ R.rd (fun b => b < W.heap.size) W y cs' := by
      intro k
      induction k with
      | zero => intro _; exact ⟨[], rfl, by simp, by simp⟩
      | succ k ih =>
        intro hk
        obtain ⟨l, h1, h2, h3⟩ := ih (by omega)
        have hk' := hel k (by omega)
        rw [List.getElem?_eq_getElem (by omega)] at hk'
        obtain ⟨cs', hc, ht'⟩ := Option.bind_eq_some_iff.1 hk'
        obtain ⟨y, hy, hoy⟩ := h n cs' _ ht' (hwe _ (List.getElem_mem _))
        refine ⟨l ++ [y], by simp [h1], fun b hb => ?_, fun j z hj => ?_⟩
        · rcases List.mem_append.1 hb with hb | hb
          · exact h2 b hb
          · rw [List.mem_singleton.1 hb]; exact hoy
        · by_cases hjl : j < l.length
          · rw [List.getElem?_append_left hjl] at hj; exact h3 j z hj
          · rw [List.getElem?_append_right (by omega)] at hj
            have hj0 : j - l.length = 0 := by
              have := (List.getElem?_eq_some_iff.1 hj).1
              simp at this; omega
            rw [hj0] at hj
            simp only [List.getElem?_cons_zero, Option.some.injEq] at hj
            subst hj
            have : j = k := by omega
            subst this
            exact ⟨cs', hc, hy⟩
    obtain ⟨l, hll, hok, hcl⟩ := key len (Nat.le_refl _)
    have hnn : some a = none → cap = 0 := fun hA => (by cases hA)
    refine ⟨l, ⟨some a, cap, by rw [hll], ⟨by omega, hm, hnn, fun j y hj => ?_⟩⟩, by rw [hll]; exact hsz, hok⟩
    obtain ⟨cs', hc, hr⟩ := hcl j y hj
    have hcell : ∀ i u, cs'[i]? = some u → W.cell? ((a.add (j * R.z)).add i) = some u := fun i u hi => by
      rw [← hz]
      obtain ⟨_, hcl', hget⟩ := World.cells?_some hc
      have hil := (List.getElem?_eq_some_iff.1 hi).1
      rw [hget i (by omega)]; exact hi
    refine ⟨a, cs', rfl, ?_, hr, hcell⟩
    have hlen' := R.len hr
    have h0 : 0 < cs'.length := by omega
    have := World.block_lt_of_cell? W _ (hcell 0 cs'[0] (List.getElem?_eq_getElem h0))
    rwa [add_block, add_block] at this
end
theorem Opens.item {H : Type} {enc : TypeId × Value → H} {P : Program} {W : World} {e k : Nat} {cs : List Value} (hf : ∀ (i : Nat), i < k → ∃ n y, DataW.trod enc P W 0 (fun _ => true) true n e ((cs.drop (i * P.cellsOf e)).take (P.cellsOf e)) = some y ∧ ∀ m ∈ y.1.weights P e, m ≤ reachBytes)
    (i : Nat) {o z : Nat} (hi : i < k) (h3 : P.cellsOf e = z) (h2 : i * z = o) : ∃ n y, DataW.trod enc P W 0 (fun _ => true) true n e ((cs.drop o).take z) = some y ∧ ∀ m ∈ y.1.weights P e, m ≤ reachBytes := by
  subst h3 h2; exact hf i hi
end Go.Proofs.Ytbfndcookgijfaa.Sx
