/- Bytes of a text, as a slice; results that are frozen at once. No condition. -/
import Derived.Test.YthcbepikeinglaaDoorExMem
import Derived.Lib.Strings
import Derived.Laws.IdiomStrings
namespace Go.Proofs.YthcbepikeinglaaDoor.Sx
open Go Go.RowKit
set_option linter.unusedVariables false
set_option linter.unusedSimpArgs false
def bytesL (s : ByteArray) : List Int := s.data.toList.map fun b => (b.toNat : Int)
theorem bytesL_len (s : ByteArray) : (bytesL s).length = s.size := by unfold bytesL; rw [List.length_map, Go.Lib.size_eq]
def tobytes (s : ByteArray) : Option (List Int) := if s.size ≤ 140737488355328 then some (bytesL s) else none
theorem tobytes_some {s : ByteArray} {l : List Int} (h : tobytes s = some l) : s.size ≤ 140737488355328 ∧ l = bytesL s := by
  unfold tobytes at h
  split at h
  · rename_i hb; exact ⟨hb, (Option.some.inj h).symm⟩
  · cases h
theorem perm_at {α : Type} {c : α} : ∀ {cs : List α} {q : Nat}, cs[q]? = some c → cs.Perm (c :: cs.eraseIdx q) := by
  intro cs
  induction cs with
  | nil => intro q h; simp at h
  | cons a cs ih =>
    intro q h
    cases q with
    | zero => simp at h; subst h; exact List.Perm.refl _
    | succ q =>
      simp at h
      rw [List.eraseIdx_cons_succ]
      exact ((ih h).cons a).trans (List.Perm.swap _ _ _)
theorem perm_set {α : Type} {d : α} : ∀ {cs : List α} {q : Nat}, q < cs.length → (cs.set q d).Perm (d :: cs.eraseIdx q) := by
  intro cs
  induction cs with
  | nil => intro q h; simp at h
  | cons a cs ih =>
    intro q h
    cases q with
    | zero => exact List.Perm.refl _
    | succ q =>
      rw [List.eraseIdx_cons_succ, List.set_cons_succ]
      exact ((ih (by simpa using h)).cons a).trans (List.Perm.swap _ _ _)
section
variable {w0 w : World} {cs : List Chunk} {F : Nat → Prop} {wF : World}
theorem Mem.freezeObj {b : Nat} {o : Obj} {q : Nat} (h : Mem w0 (.obj b o :: cs) w) (hi : cs[q]? = some (Fz F wF)) : Ext w0 F wF (fun x => F x ∨ x = b) w ∧ w.heap[b]? = some o ∧ Mem w0 (cs.set q (Fz (fun x => F x ∨ x = b) w)) w := by
  have hq : q < cs.length := by
    rcases Nat.lt_or_ge q cs.length with h1 | h1
    · exact h1
    · rw [List.getElem?_eq_none h1] at hi; cases hi
  have hp := h.perm ((perm_at hi).cons (.obj b o))
  have hfl := hp.fzlt 1 rfl
  have hfs := hp.fz 1 rfl
  have hb := hp.get 0 rfl
  have hbl : b < w.heap.size := lt_of_get hb.2
  refine ⟨⟨fun x hx => .inl hx, hfs, fun x hx => hx.elim .inl (fun e => .inr (by subst e; exact hb.1))⟩, hb.2, ?_⟩
  have hM : Mem w0 (Fz (fun x => F x ∨ x = b) w :: cs.eraseIdx q) w := by
    refine ⟨hp.below, ?_, ?_⟩
    · intro d hd
      rcases List.mem_cons.1 hd with rfl | hd
      · exact ⟨fun x hx => hx.elim (hfl x) (fun e => by subst e; exact hbl), fz_local _ _, fun _ _ => rfl⟩
      · exact hp.holds d (List.mem_cons_of_mem _ (List.mem_cons_of_mem _ hd))
    · have ha := hp.apart
      rw [List.pairwise_cons, List.pairwise_cons] at ha
      refine List.pairwise_cons.2 ⟨fun d hd => ⟨fun x hx => (by cases hx), fun x hx ht => ?_⟩, ha.2.2⟩
      rcases ht with ht | ht
      · exact (ha.2.1 d hd).2 x hx ht
      · subst ht; exact (ha.1 d (List.mem_cons_of_mem _ hd)).2 _ hx rfl
  exact hM.perm (perm_set hq).symm
theorem Mem.convBytes {P : Program} {q : Nat} {src dst e : TypeId} {s : ByteArray} (h : Mem w0 cs w) (hi : cs[q]? = some (Fz F wF)) (hs : P.underlying src = some .string) (hd : P.underlying dst = some (.slice e)) (he : P.underlying e = some (.int .u8)) (hz : s.size ≤ 140737488355328) :
    ∃ (F' : Nat → Prop) (w' : World) (A : Option Addr) (c : Nat), (convert src dst (.string s)).run P w = .ok (.slice A (bytesL s).length c) w' ∧ Ext w0 F wF F' w' ∧ RdS (Rep.int .u8) F' w' A c (bytesL s) ∧ Mem w0 (cs.set q (Fz F' w')) w' ∧ Below w.heap.size w w' := by
  have hM := h.drew.objNew (.cells (bytesRow s (grownCap w s.size 0 e)) e ((bytesRow s (grownCap w s.size 0 e)).size, (bytesRow s (grownCap w s.size 0 e)).size + 1))
  obtain ⟨h1, h2, h3⟩ := hM.freezeObj hi
  refine ⟨_, _, some ⟨w.heap.size, 0, none⟩, grownCap w s.size 0 e, by rw [run_bytes_of_string w src dst e s hs hd he, bytesL_len], h1, ?_, h3, ?_⟩
  · refine ⟨by rw [bytesL_len]; exact grownCap_ge _ _ _ _, grownCap_le_maxLen w s.size 0 e (by simp only [maxLen]; omega), fun hA => (by cases hA), fun j x hj => ?_⟩
    refine ⟨_, [.int .u8 x], rfl, .inr rfl, rfl, fun i u hu => ?_⟩
    have hi0 : i = 0 := by
      cases i with
      | zero => rfl
      | succ i => simp at hu
    subst hi0
    simp at hu
    subst hu
    have hjl : j < (bytesL s).length := by
      rcases Nat.lt_or_ge j (bytesL s).length with h1 | h1
      · exact h1
      · rw [List.getElem?_eq_none h1] at hj; cases hj
    rw [add_at2]
    have h2' : (w.drew.alloc (.cells (bytesRow s (grownCap w s.size 0 e)) e ((bytesRow s (grownCap w s.size 0 e)).size, (bytesRow s (grownCap w s.size 0 e)).size + 1))).heap[w.heap.size]? = some (.cells (bytesRow s (grownCap w s.size 0 e)) e ((bytesRow s (grownCap w s.size 0 e)).size, (bytesRow s (grownCap w s.size 0 e)).size + 1)) := h2
    have hjs : j < s.data.size := by rw [bytesL_len] at hjl; exact hjl
    have hx : x = ((s.data[j]).toNat : Int) := by
      unfold bytesL at hj
      rw [List.getElem?_map, Array.getElem?_toList, Array.getElem?_eq_getElem hjs] at hj
      exact (Option.some.inj hj).symm
    subst hx
    unfold World.cell?
    simp only [h2']
    unfold bytesRow
    have hjz : j < s.size := hjs
    simp [Array.getElem?_append, hjs, hjz, Rep.int]
  · have hb : Below w.heap.size w w.drew := ⟨rfl, rfl, rfl, Nat.le_refl _, fun _ _ => rfl⟩
    exact hb.trans ((Below.refl w.heap.size w.drew).alloc (Nat.le_refl _) _)
end
section
variable {P : Program} {ro : Option Nat} {n : Nat} {ops : Array Oper} {Q : Exit → Act → World → Prop} {S : World → Prop}
/-- An operation that turns memory, by a law of its own: with facts. -/
theorem ops_lawI {i : Nat} {r : List (Nat × Bool)} {l : Slots} {op : Op} {d : Option Tmp} {σ : Type} {I : σ → Prop} {v : σ → Value} {M : World → Prop} {M' : σ → World → Prop} (h : OpAt n ops l i op d)
    (hv : ∀ o w, o.op = op → M w → S w → ∃ x w', (execOp (ev l) o).run P w = .ok (.value (v x)) w' ∧ I x ∧ M' x w' ∧ S w') (k : ∀ x, I x → Ops P n ops Q S r (put l d (v x)) (M' x)) : Ops P n ops Q S ((i, false) :: r) l M := by
  intro a w hk hMw hS
  obtain ⟨o, hi, ho, hd, hlt, h⟩ := h.get
  obtain ⟨hw, he⟩ := h a hk
  obtain ⟨x, w', hr, hI, hM', hS'⟩ := hv o w ho hMw hS
  simp only [seqOps, hi, cond_false, wpOp, hw, if_true, Oper.wp, he, hr, Oper.upon, hd]
  exact Or.inl (And.intro hS' (k x hI _ _ (hk.put d hlt _) hM' hS'))
theorem run_convV {l : Slots} {x : Operand} {src dst : TypeId} {s v : Value} {w w' : World} (hx : ev l x = s) (h : (convert src dst s).run P w = .ok v w') : ∀ (o : Oper), o.op = .convert src dst x → (execOp (ev l) o).run P w = .ok (.value v) w' := by
  intro o ho; simp [execOp, ho, hx, h]
end
end Go.Proofs.YthcbepikeinglaaDoor.Sx
