/- The plain law of kinds: what checks, fits and comparisons of kinds come to, the program's and the reference's. No condition. -/
import Derived.Test.YthcniadbdjoecaaPuKindQ
namespace Go.Proofs.Ythcniadbdjoecaa.Q
open Go Go.RowKit Go.Proofs.Ythcniadbdjoecaa.Sx Classical
set_option linter.unusedVariables false
set_option linter.unusedSimpArgs false
/-- What is amiss at a field. -/
noncomputable def oneG (fs : List api_Field) (i : Nat) : Option Int := match fs[i]? with
  | none => none
  | some f => if fieldB f.Name f.Bits f.Low then (if f.Name ∈ (fs.take i).map api_Field.Name then some 5 else none) else some 3
noncomputable def oneV (nm : ByteArray) (fs : List api_Field) : Int := if nameB nm then (if 8 < fs.length then 2 else ((List.range fs.length).findSome? (oneG fs)).getD 0) else 3
theorem oneG_at {fs : List api_Field} {i : Nat} (h : i < fs.length) : oneG fs i = if fieldB fs[i].Name fs[i].Bits fs[i].Low then (if fs[i].Name ∈ (fs.take i).map api_Field.Name then some 5 else none) else some 3 := by
  unfold oneG; rw [List.getElem?_eq_getElem h]
theorem cut_take {α : Type} {l : List α} {i : Nat} (h : i ≤ l.length) : cut l 0 (i : Int) = some (l.take i) := by
  rw [cut_ok (by omega) (by omega) (by omega)]; simp
theorem okfs {fs : List api_Field} {w : Nat} (h : okl w ok_api_Field fs) {i : Nat} (hi : i < fs.length) : oks fs[i].Name := (h.2 _ (List.getElem_mem hi)).1
theorem oneV_ok {nm : ByteArray} {fs : List api_Field} (h : oneV nm fs = 0) : nameB nm = true ∧ fs.length ≤ 8 ∧ (∀ i (h : i < fs.length), fieldB fs[i].Name fs[i].Bits fs[i].Low = true) ∧ (∀ i (h : i < fs.length), fs[i].Name ∉ (fs.take i).map api_Field.Name) := by
  unfold oneV at h
  cases hn : nameB nm with
  | false => rw [hn] at h; simp at h
  | true =>
    rw [hn, if_pos rfl] at h
    by_cases h8 : 8 < fs.length
    · rw [if_pos h8] at h; cases h
    · rw [if_neg h8] at h
      have hall : ∀ i, i < fs.length → oneG fs i = none := by
        cases hf : (List.range fs.length).findSome? (oneG fs) with
        | none => exact fun i hi => List.findSome?_eq_none_iff.1 hf i (List.mem_range.2 hi)
        | some r =>
          rw [hf] at h
          obtain ⟨i, _, hi⟩ := List.exists_of_findSome?_eq_some hf
          simp only [Option.getD_some] at h
          subst h
          unfold oneG at hi
          split at hi
          · cases hi
          · split at hi
            · split at hi <;> cases hi
            · cases hi
      refine ⟨rfl, by omega, fun i hi => ?_, fun i hi => ?_⟩
      · have := hall i hi
        rw [oneG_at hi] at this
        cases hg : fieldB fs[i].Name fs[i].Bits fs[i].Low with
        | true => rfl
        | false => rw [hg] at this; cases this
      · have := hall i hi
        rw [oneG_at hi] at this
        intro hm
        rw [if_pos hm] at this
        split at this <;> cases this
theorem oneV_ne {nm : ByteArray} {fs : List api_Field} : oneV nm fs = 0 ∨ oneV nm fs = 2 ∨ oneV nm fs = 3 ∨ oneV nm fs = 5 := by
  unfold oneV
  split
  · split
    · simp
    · cases hf : (List.range fs.length).findSome? (oneG fs) with
      | none => simp
      | some r =>
        obtain ⟨i, _, hi⟩ := List.exists_of_findSome?_eq_some hf
        unfold oneG at hi
        split at hi
        · cases hi
        · split at hi
          · split at hi <;> cases hi; simp
          · cases hi; simp
  · simp
/-! ### Values that fit -/
def fitL (fs : List api_Field) (vs : List Int) : List Int := List.zipWith (fun f v => nearV f.Bits f.Low v) fs vs
theorem fitL_len {fs : List api_Field} {vs : List Int} (h : vs.length = fs.length) : (fitL fs vs).length = fs.length := by unfold fitL; simp [h]
noncomputable def fitV (nm : ByteArray) (fs : List api_Field) (vs : List Int) : List Int × Int := if oneV nm fs = 0 then (if vs.length = fs.length then (fitL fs vs, 0) else ([], 1)) else ([], oneV nm fs)
theorem fitL_at {fs : List api_Field} {vs : List Int} (h : vs.length = fs.length) {i : Nat} (hi : i < fs.length) : (fitL fs vs)[i]'(by rw [fitL_len h]; exact hi) = nearV fs[i].Bits fs[i].Low (vs[i]'(by omega)) := by simp [fitL]
theorem equal_ints {a b : List Int} (ha : a.length ≤ 140737488355328) : slices_Equal_int_int a b = some (decide (a = b)) := by
  unfold slices_Equal_int_int
  rw [cnd_not, cnd_beq]
  by_cases hl : a.length = b.length
  · rw [if_pos (by omega)]
    rcases loop_same (σ := Int) (υ := Unit) (step := fun s_ => slices_Equal_int_int_l2 a b s_) (fun i => (i : Int)) a b hl () (fun i h e => by
        show slices_Equal_int_int_l2 a b (i : Int) = _
        unfold slices_Equal_int_int_l2
        rw [cnd_dec, if_pos (by omega), idx_get h]
        simp only [Option.bind_some]
        rw [idx_get (hl ▸ h)]
        simp only [Option.bind_some, cnd_not, cnd_beq]
        rw [if_pos e, i64ok (by omega) (by omega)]; rfl) (fun i h e => by
        show slices_Equal_int_int_l2 a b (i : Int) = _
        unfold slices_Equal_int_int_l2
        rw [cnd_dec, if_pos (by omega), idx_get h]
        simp only [Option.bind_some]
        rw [idx_get (hl ▸ h)]
        simp only [Option.bind_some, cnd_not, cnd_beq]
        rw [if_neg e]) (by
        show slices_Equal_int_int_l2 a b (a.length : Int) = _
        unfold slices_Equal_int_int_l2
        rw [cnd_dec, if_neg (by omega)]) with ⟨h1, h2⟩ | ⟨h1, h2⟩
    · rw [show (0 : Int) = ((0 : Nat) : Int) from rfl, h2, decide_eq_true h1]; rfl
    · rw [show (0 : Int) = ((0 : Nat) : Int) from rfl, h2, decide_eq_false h1]; rfl
  · rw [if_neg (by omega), decide_eq_false (fun e => hl (by rw [e]))]
/-- The first place of a name. -/
def findV (l : List api_Kind) (nm : ByteArray) : Int := match l.findIdx? (fun k => decide (k.Name = nm)) with | some i => (i : Int) | none => -1
theorem findIdx_first {α : Type} {l : List α} {p : α → Bool} {k : Nat} (hk : k < l.length) (h1 : p l[k] = true) (h2 : ∀ j (h : j < k), p (l[j]'(by omega)) = false) : l.findIdx? p = some k := by
  rw [List.findIdx?_eq_some_iff_getElem]
  exact ⟨hk, h1, fun j hj => by simp [h2 j hj]⟩
theorem findV_nonneg (l : List api_Kind) (nm : ByteArray) : 0 ≤ findV l nm ↔ nm ∈ l.map api_Kind.Name := by
  unfold findV
  cases h : l.findIdx? (fun k => decide (k.Name = nm)) with
  | none =>
    simp only [show ¬ (0 : Int) ≤ -1 by omega, false_iff]
    intro hm
    obtain ⟨x, hx, e⟩ := List.mem_map.1 hm
    have := List.findIdx?_eq_none_iff.1 h x hx
    rw [decide_eq_true e] at this; cases this
  | some i =>
    rw [List.findIdx?_eq_some_iff_getElem] at h
    obtain ⟨hi, h1, _⟩ := h
    simp only [show (0 : Int) ≤ (i : Int) by omega, true_iff]
    exact List.mem_map.2 ⟨l[i], List.getElem_mem hi, of_decide_eq_true h1⟩
noncomputable def checkG (l : List api_Kind) (i : Nat) : Option Int := match l[i]? with
  | none => none
  | some k => if oneV k.Name k.Fields = 0 then (if k.Name ∈ (l.take i).map api_Kind.Name then some 5 else none) else some (oneV k.Name k.Fields)
noncomputable def checkV (l : List api_Kind) : Int := if 16 < l.length then 2 else ((List.range l.length).findSome? (checkG l)).getD 0
theorem checkG_at {l : List api_Kind} {i : Nat} (h : i < l.length) : checkG l i = if oneV l[i].Name l[i].Fields = 0 then (if l[i].Name ∈ (l.take i).map api_Kind.Name then some 5 else none) else some (oneV l[i].Name l[i].Fields) := by
  unfold checkG; rw [List.getElem?_eq_getElem h]
theorem okk_ks {l : List api_Kind} {w : Nat} (h : okl w ok_api_Kind l) {i : Nat} (hi : i < l.length) : oks l[i].Name ∧ ∀ j (hj : j < l[i].Fields.length), oks l[i].Fields[j].Name :=
  ⟨(h.2 _ (List.getElem_mem hi)).1, fun j hj => okfs (h.2 _ (List.getElem_mem hi)).2 hj⟩
theorem field_eq (x y : api_Field) : (x.Name.toList == y.Name.toList && (x.Bits == y.Bits && (x.Low == y.Low))) = decide (x = y) := by
  rw [bytes_eq]
  obtain ⟨a, b, c⟩ := x
  obtain ⟨d, e, f⟩ := y
  by_cases h1 : a = d <;> by_cases h2 : b = e <;> by_cases h3 : c = f <;> simp [h1, h2, h3]
end Go.Proofs.Ythcniadbdjoecaa.Q
