/- Taking elements out of a row of the call's own, in place: what memory holds behind it. No condition. -/
import Derived.Test.YtbfndcookgijfaaGreatDoorExMem
import Derived.WalkKit
import Derived.Shelf.RegionOpenPlain
import Derived.Deep.LoopGhost
import Derived.Deep.RegionLaw
import Derived.Lib.Walk
import Derived.Lib.SliceRun
import Derived.Lib.AppendZeros
namespace Go.Proofs.YtbfndcookgijfaaGreatDoor.Sx
open Go Go.RowKit
set_option linter.unusedVariables false
set_option linter.unusedSimpArgs false
theorem stores_world (g : Nat) : ∀ (us : List Value) (off : Nat) {w w' : World}, Evs (stores g off us) w w' → w' = w.setCells g off us
  | [], _, _, _, h => h.symm
  | v :: us, off, w, w', h => stores_world g us (off + 1) h.2.2
theorem run_clear_row {P : Program} (w : World) (t e ty : TypeId) (z : Value) (zs : List Value) (ht : P.underlying t = some (.slice e)) (hv : ∀ w, (zeroValue e).run P w = .ok z w) (b o n c : Nat) (hn : 0 < n)
    (hz : (Builtin.zeroCells z.cells n).toList = zs) (h1 : ∀ u ∈ zs, u.oneCell' = true)
    (hc : ∀ j, j < zs.length → (w.cell? ⟨b, o + j, none⟩).isSome = true) (hf : ∀ j, j < zs.length → w.frozen? ⟨b, o + j, none⟩ = false) :
    (Builtin.clear_ #[t] ty #[.slice (some ⟨b, o, none⟩) n c]).run P w = .ok (.tuple #[]) (w.setCells b o zs) := by
  have hst := run_storeCells_cells (P := P) b o zs 0 w (by simpa using hc) (by simpa using hf) h1
  simp only [Nat.add_zero] at hst
  obtain ⟨m, rfl⟩ : ∃ m, n = m + 1 := ⟨n - 1, by omega⟩
  simp [Builtin.clear_, run_underlying ht, hv, hz, hst]
theorem zero_ones {z : Value} (h : z.cells.toList.all Value.oneCell' = true) (n : Nat) : ∀ u ∈ (Builtin.zeroCells z.cells n).toList, u.oneCell' = true := by
  intro u hu
  unfold Builtin.zeroCells at hu
  simp only [Array.toList_map, List.mem_map, Array.toList_range, List.mem_range] at hu
  obtain ⟨i, hi, rfl⟩ := hu
  have hp : 0 < z.cells.size := by
    rcases Nat.eq_zero_or_pos z.cells.size with h0 | h0
    · rw [h0] at hi; simp at hi
    · exact h0
  have hm := Nat.mod_lt i hp
  rw [getElem!_pos z.cells _ hm]
  exact List.all_eq_true.1 h _ (by rw [Array.mem_toList_iff]; exact Array.getElem_mem hm)
theorem zero_len (z : Value) (n : Nat) : (Builtin.zeroCells z.cells n).toList.length = n * z.cells.size := by simp [Builtin.zeroCells]
/-- The row behind: what stood ahead, what is moved, what is zeroed. -/
theorem setAll_take (us : List Value) : ∀ (vs : List Value) (off k : Nat), k ≤ off → (setAll vs off us).take k = vs.take k := by
  induction us with
  | nil => intro vs off k _; rfl
  | cons u us ih =>
    intro vs off k h
    unfold setAll
    rw [ih _ _ _ (by omega)]
    apply List.ext_getElem?
    intro j
    rw [List.getElem?_take, List.getElem?_take]
    by_cases hj : j < k
    · rw [if_pos hj, if_pos hj, List.getElem?_set_ne (by omega)]
    · rw [if_neg hj, if_neg hj]
theorem setAll_mid (us : List Value) : ∀ (vs : List Value) (off : Nat), off + us.length ≤ vs.length → (setAll vs off us).take (off + us.length) = vs.take off ++ us := by
  induction us with
  | nil => intro vs off _; simp [setAll]
  | cons u us ih =>
    intro vs off h
    unfold setAll
    simp only [List.length_cons] at h ⊢
    rw [show off + (us.length + 1) = off + 1 + us.length by omega, ih _ _ (by simp; omega)]
    have : (vs.set off u).take (off + 1) = vs.take off ++ [u] := by
      rw [List.take_add_one, List.getElem?_set_self (by omega)]
      congr 1
      apply List.ext_getElem?
      intro j
      rw [List.getElem?_take, List.getElem?_take]
      by_cases hj : j < off
      · rw [if_pos hj, if_pos hj, List.getElem?_set_ne (by omega)]
      · rw [if_neg hj, if_neg hj]
    rw [this, List.append_assoc]; rfl
theorem Mem.moved {α : Type} {R : Rep α} {F : Nat → Prop} {W w0 w : World} {cs : List Chunk} {g c z a b : Nat} {e : TypeId} {l : List α} {y zs : List Value}
    (hM : Mem w0 (orow (some ⟨g, 0, none⟩) l.length c e z y :: cs) w) (hL : RepL R F W l y) (hab : a < b) (hb : b ≤ l.length) (hzs : zs.length = (b - a) * z) :
    ((∀ j u, (y.drop (b * z))[j]? = some u → w.cell? ⟨g, b * z + j, none⟩ = some u) ∧ (∀ j, j < (y.drop (b * z)).length → (w.cell? ⟨g, a * z + j, none⟩).isSome = true ∧ w.frozen? ⟨g, a * z + j, none⟩ = false)) ∧
    (y.drop (b * z)).length = (l.length - b) * z ∧
    (∀ j, j < zs.length → ((w.setCells g (a * z) (y.drop (b * z))).cell? ⟨g, (a + (l.length - b)) * z + j, none⟩).isSome = true ∧ (w.setCells g (a * z) (y.drop (b * z))).frozen? ⟨g, (a + (l.length - b)) * z + j, none⟩ = false) ∧
    Mem w0 (orow (some ⟨g, 0, none⟩) (l.take a ++ l.drop b).length c e z (y.take (a * z) ++ y.drop (b * z)) :: cs) ((w.setCells g (a * z) (y.drop (b * z))).setCells g ((a + (l.length - b)) * z) zs) := by
  have hcap := (hM.rowCap 0 rfl).1
  have hyl : y.length = l.length * z := hM.rowLen 0 rfl
  have hbz : b * z ≤ l.length * z := Nat.mul_le_mul_right _ hb
  have haz : a * z ≤ b * z := Nat.mul_le_mul_right _ (by omega)
  have hnl : (y.drop (b * z)).length = (l.length - b) * z := by rw [List.length_drop, hyl, Nat.sub_mul]
  have hsum : (a + (l.length - b)) * z + (b - a) * z = l.length * z := by rw [← Nat.add_mul]; congr 1; omega
  have hadd : (a + (l.length - b)) * z = a * z + (l.length - b) * z := Nat.add_mul ..
  have cellAt : ∀ {w' : World} {y' : List Value}, Mem w0 (orow (some ⟨g, 0, none⟩) l.length c e z y' :: cs) w' → ∀ o, o < l.length * z → (w'.cell? ⟨g, o, none⟩).isSome = true ∧ w'.frozen? ⟨g, o, none⟩ = false := fun {w' y'} hM' o ho => by
    have hl' : y'.length = l.length * z := hM'.rowLen 0 rfl
    have hc0 : 0 < c := by
      rcases Nat.eq_zero_or_pos c with h0 | h0
      · exfalso; have : l.length = 0 := by omega
        rw [this] at ho; simp at ho
      · exact h0
    have h1 := hM'.ocell 0 rfl (off := o) (v := y'[o]) (List.getElem?_eq_getElem (by omega))
    refine ⟨by rw [h1]; rfl, ?_⟩
    have hi : (orow (some ⟨g, 0, none⟩) l.length c e z y' :: cs)[0]? = some (.row (some ⟨g, 0, none⟩) l.length c e z y') := by
      show some (orow (some ⟨g, 0, none⟩) l.length c e z y') = _
      unfold orow; rw [rowA_pos hc0]
    exact hM'.rowfree 0 hi
  obtain ⟨w1, he1, hM1⟩ := hM.ostore 0 rfl (a * z) (y.drop (b * z)) (by omega)
  have e1 := stores_world _ _ _ he1
  subst e1
  have hM1 : Mem w0 (orow (some ⟨g, 0, none⟩) l.length c e z (setAll y (a * z) (y.drop (b * z))) :: cs) (w.setCells g (a * z) (y.drop (b * z))) := hM1
  obtain ⟨w2, he2, hM2⟩ := hM1.ostore 0 rfl ((a + (l.length - b)) * z) zs (by rw [setAll_length]; omega)
  have e2 := stores_world _ _ _ he2
  subst e2
  have hM2 : Mem w0 (orow (some ⟨g, 0, none⟩) l.length c e z (setAll (setAll y (a * z) (y.drop (b * z))) ((a + (l.length - b)) * z) zs) :: cs) _ := hM2
  have hM3 := hM2.otake 0 rfl (m := a + (l.length - b)) (by omega)
  have ht : (setAll (setAll y (a * z) (y.drop (b * z))) ((a + (l.length - b)) * z) zs).take ((a + (l.length - b)) * z) = y.take (a * z) ++ y.drop (b * z) := by
    rw [setAll_take _ _ _ _ (Nat.le_refl _), hadd, ← hnl, setAll_mid _ _ _ (by omega)]
  rw [ht] at hM3
  refine ⟨⟨fun j u hu => ?_, fun j hj => cellAt hM _ (by omega)⟩, hnl, fun j hj => cellAt hM1 _ (by omega), ?_⟩
  · rw [List.getElem?_drop] at hu
    exact hM.ocell 0 rfl hu
  · have hlen : (l.take a ++ l.drop b).length = a + (l.length - b) := by simp; omega
    rw [hlen]
    exact hM3
end Go.Proofs.YtbfndcookgijfaaGreatDoor.Sx
