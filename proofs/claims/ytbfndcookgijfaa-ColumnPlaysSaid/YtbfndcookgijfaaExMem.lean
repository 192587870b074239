/- Rows and frozen memory within the named memory; rules for loops, meeting ways and calls of walks that follow a plain function. No condition. -/
import Derived.Test.YtbfndcookgijfaaExRep
namespace Go.Proofs.Ytbfndcookgijfaa.Sx
open Go Go.RowKit
set_option linter.unusedVariables false
set_option linter.unusedSimpArgs false
theorem filterMap_range' {α : Type} (l : List α) : ∀ (m k : Nat), m + k = l.length → (List.range' m k).filterMap (l[·]?) = l.drop m := by
  intro m k
  induction k generalizing m with
  | zero => intro h; rw [show l.drop m = [] from List.drop_eq_nil_of_le (by omega)]; rfl
  | succ k ih =>
    intro h
    have hm : m < l.length := by omega
    rw [List.range'_succ, List.filterMap_cons, List.getElem?_eq_getElem hm]
    simp only
    rw [ih (m + 1) (by omega), ← List.drop_eq_getElem_cons hm]
/-- Some of the told chunks, in another order; those behind the first n stay. -/
theorem Mem.pick {w0 w : World} {cs cs' : List Chunk} (h : Mem w0 cs w) (n : Nat) (ix : List Nat) (hn : (Nat.ble n cs.length && ix.all (fun i => Nat.blt i n)) = true) (hd : ix.Nodup) (he : ix.filterMap (cs[·]?) ++ cs.drop n = cs') : Mem w0 cs' w := by
  rw [Bool.and_eq_true, List.all_eq_true] at hn
  have hnl := Nat.le_of_ble_eq_true hn.1
  refine h.reorder (ix ++ List.range' n (cs.length - n)) ?_ ?_
  · rw [List.nodup_append]
    refine ⟨hd, List.nodup_range', fun a ha b hb e => ?_⟩
    have h1 : a < n := by simpa [Nat.blt_eq] using hn.2 a ha
    have h2 := (List.mem_range'_1.1 hb).1
    omega
  · rw [List.filterMap_append, filterMap_range' _ _ _ (by omega)]; exact he
/-! ### Rows of the call's own; a slice without room has none -/
def rowA (A : Option Addr) (c : Nat) : Option Addr := if c = 0 then none else A
abbrev orow (A : Option Addr) (n c : Nat) (e : TypeId) (z : Nat) (xs : List Value) : Chunk := .row (rowA A c) n c e z xs
theorem rowA_pos {A : Option Addr} {c : Nat} (h : 0 < c) : rowA A c = A := by unfold rowA; rw [if_neg (by omega)]
section
variable {w0 w w' : World} {cs : List Chunk} {A : Option Addr} {n c z : Nat} {e : TypeId} {xs : List Value} {g : Nat}
theorem Mem.orowSome (h : Mem w0 cs w) (i : Nat) (hi : cs[i]? = some (orow A n c e z xs)) (hn : 0 < n) : ∃ g, A = some ⟨g, 0, none⟩ ∧ 0 < c := by
  have hc := (h.rowCap i hi).1
  obtain ⟨g, hg⟩ := h.rowSome i hi hn
  rw [rowA_pos (by omega)] at hg
  exact ⟨g, hg, by omega⟩
theorem Mem.ozero (h : Mem w0 cs w) (i : Nat) (hi : cs[i]? = some (orow A n c e z xs)) (hc : c = 0) : n = 0 ∧ xs = [] := by
  have h1 := (h.rowCap i hi).1
  have h2 := h.rowLen i hi
  have : n = 0 := by omega
  exact ⟨this, List.eq_nil_of_length_eq_zero (by rw [h2, this]; simp)⟩
theorem Mem.ocell (h : Mem w0 cs w) (i : Nat) (hi : cs[i]? = some (orow (some ⟨g, 0, none⟩) n c e z xs)) {off : Nat} {v : Value} (hv : xs[off]? = some v) : w.cell? ⟨g, off, none⟩ = some v := by
  by_cases hc : c = 0
  · rw [(h.ozero i hi hc).2] at hv; simp at hv
  · unfold orow at hi; rw [rowA_pos (by omega)] at hi
    exact h.rowcell i hi hv
theorem Mem.ostore (h : Mem w0 cs w) (i : Nat) (hi : cs[i]? = some (orow (some ⟨g, 0, none⟩) n c e z xs)) (off : Nat) (us : List Value) (hl : off + us.length ≤ xs.length) :
    ∃ w', Evs (stores g off us) w w' ∧ Mem w0 (cs.set i (orow (some ⟨g, 0, none⟩) n c e z (setAll xs off us))) w' := by
  by_cases hc : c = 0
  · have hx := (h.ozero i hi hc).2
    subst hx
    have hu : us = [] := List.eq_nil_of_length_eq_zero (by rw [List.length_nil] at hl; omega)
    subst hu
    exact ⟨w, rfl, h.set_same hi rfl⟩
  · unfold orow at hi ⊢; rw [rowA_pos (by omega)] at hi ⊢
    exact h.evs_rowstores us i hi off hl
theorem Mem.onil (h : Mem w0 cs w) (A : Option Addr) (e : TypeId) (z : Nat) : Mem w0 (orow A 0 0 e z [] :: cs) w := h.rowNil e z
theorem Mem.otake (h : Mem w0 cs w) (i : Nat) (hi : cs[i]? = some (orow A n c e z xs)) {m : Nat} (hm : m ≤ n) : Mem w0 (cs.set i (orow A m c e z (xs.take (m * z)))) w := h.rowTake i hi hm
theorem Mem.onew (h : Mem w0 cs w) (vs : List Value) (T : TypeId) (n z : Nat) (hz : vs.length = n * z) (hn : n ≤ maxLen) : Mem w0 (orow (some ⟨w.heap.size, 0, none⟩) n n T z vs :: cs) (w.alloc (.cells vs.toArray T)) := by
  by_cases hc : n = 0
  · subst hc
    have hv : vs = [] := List.eq_nil_of_length_eq_zero (by simpa using hz)
    subst hv
    exact (h.alloc _).rowNil T z
  · have := h.rowNew vs T n z hz hn
    unfold orow; rw [rowA_pos (by omega)]; exact this
theorem Mem.oappend {P : Program} (h : Mem w0 cs w) (i : Nat) (hi : cs[i]? = some (orow A n c e z xs)) {t ty : TypeId} {ti : TypeInfo} {zv : Value} {bytes : Nat}
    (ht : P.underlying t = some (.slice e)) (hti : P.info? e = some ti) (hz : ti.zero = some zv) (hsize : ti.size = z) (hby : ti.bytes = bytes) (hzs : zv.cells.size = z) (hsz : 0 < z)
    {A2 : Option Addr} {m c2 : Nat} {news : List Value} (src : Src w A2 m c2 news) (hl : news.length = m * z) (h1 : ∀ u ∈ news, u.oneCell' = true) (hb : (n + m) * bytes ≤ 140737488355328) (hb0 : 0 < bytes) :
    ∃ A' c' w', (Builtin.append_ #[t, t] ty #[.slice A n c, .slice A2 m c2]).run P w = .ok (.slice A' (n + m) c') w' ∧ Mem w0 (cs.set i (orow A' (n + m) c' e z (xs ++ news))) w' := by
  have fit : ∀ {A' : Option Addr} {c' k : Nat} {w' : World} {ys : List Value}, Mem w0 (cs.set i (.row A' k c' e z ys)) w' → Mem w0 (cs.set i (orow A' k c' e z ys)) w' := fun {A' c' k w' ys} hM => by
    by_cases hc : c' = 0
    · have hlt : i < cs.length := (List.getElem?_eq_some_iff.1 hi).1
      have hgi : (cs.set i (.row A' k c' e z ys))[i]? = some (.row A' k c' e z ys) := by simp [hlt]
      have h1 := (hM.rowCap i hgi).1
      have h2 := hM.rowLen i hgi
      have hk : k = 0 := by omega
      subst hk hc
      have hy : ys = [] := List.eq_nil_of_length_eq_zero (by simpa using h2)
      subst hy
      have := hM.turn' i hgi (d := .row none 0 0 e z []) (fun k ht => by cases ht) (Nat.le_refl _) ⟨rfl, rfl, rfl⟩ (fun _ _ _ => rfl) (World.ownsRow_nil _ _ _ _)
      rw [List.set_set] at this; exact this
    · unfold orow; rw [rowA_pos (by omega)]; exact hM
  by_cases hc : c = 0
  · obtain ⟨rfl, rfl⟩ := h.ozero i hi hc
    subst hc
    have hi' : cs[i]? = some (.row none 0 0 e z []) := hi
    cases A with
    | none =>
      obtain ⟨A', c', w', hr, hM⟩ := h.append (P := P) i hi' (ty := ty) ht hti hz hsize hby hzs hsz src hl h1 hb hb0
      exact ⟨A', c', w', hr, fit hM⟩
    | some ad =>
      subst hsize hby
      simp only [Nat.zero_add] at hb ⊢
      rcases Nat.eq_zero_or_pos m with hm | hm
      · subst hm
        have hn : news = [] := List.eq_nil_of_length_eq_zero (by simpa using hl)
        subst hn
        refine ⟨some ad, 0, w, ?_, ?_⟩
        · simp [Builtin.append_, run_underlying ht, sizeOf, typeInfo, hti, Builtin.lenOf, Builtin.firstCells, loadCells, loadCellsFrom]
          cases A2 <;> simp [Builtin.firstCells, loadCells, loadCellsFrom, storeCells]
        · exact h.set_same hi' rfl
      · rcases src with ⟨_, hm0, _⟩ | ⟨ad2, rfl, hnews⟩
        · omega
        have hmb : m ≤ m * ti.bytes := Nat.le_mul_of_pos_right _ hb0
        have hr := run_append_grow (P := P) w t ty e ti zv ht hti hz ad 0 0 [] (by simp) (fun j u hj => by simp at hj) ad2 m c2 news hl hnews (by omega) (by omega) (growslice_fits (by omega) (by simpa using hb))
        have hge := grownCap_ge w (0 + m) 0 e
        have hcm : grownCap w (0 + m) 0 e ≤ maxLen := grownCap_le_maxLen w (0 + m) 0 e (by simp only [maxLen]; omega)
        simp only [Nat.zero_add, List.nil_append, Array.empty_append] at hr hge hcm ⊢
        refine ⟨_, _, _, hr, fit (h.rowGrown i hi' (.inl ?_) ⟨rfl, rfl, rfl, by simp, fun k hk _ => ((Below.refl w.heap.size w.drew).alloc (Nat.le_refl _) _).block k hk⟩)⟩
        refine ⟨hl, .inr ⟨w.heap.size, _, _, rfl, Nat.le_refl _, heap_alloc_new w.drew _, hge, hcm, ?_, ?_⟩⟩
        · simp only [Array.size_append, List.size_toArray, size_zeroCells, hzs, hl, ← Nat.add_mul]
          congr 1
          omega
        · simp only [Array.toList_append]
          rw [← hl]
          exact List.take_left
  · have hi' : cs[i]? = some (.row A n c e z xs) := by unfold orow at hi; rw [rowA_pos (by omega)] at hi; exact hi
    obtain ⟨A', c', w', hr, hM⟩ := h.append (P := P) i hi' (ty := ty) ht hti hz hsize hby hzs hsz src hl h1 hb hb0
    exact ⟨A', c', w', hr, fit hM⟩
/-! ### Frozen memory -/
/-- These blocks are as they were in that world. -/
abbrev Fz (F : Nat → Prop) (wF : World) : Chunk := .dat F (fun w => ∀ b, F b → w.heap[b]? = wF.heap[b]?)
structure Ext (w0 : World) (F : Nat → Prop) (wF : World) (F' : Nat → Prop) (wF' : World) : Prop where
  sub : ∀ b, F b → F' b
  same : ∀ b, F b → wF'.heap[b]? = wF.heap[b]?
  new : ∀ b, F' b → F b ∨ w0.heap.size ≤ b
theorem Ext.refl (w0 : World) (F : Nat → Prop) (wF : World) : Ext w0 F wF F wF := ⟨fun _ h => h, fun _ _ => rfl, fun _ h => .inl h⟩
theorem Ext.trans {F1 F2 F3 : Nat → Prop} {w1 w2 w3 : World} (h : Ext w0 F1 w1 F2 w2) (h2 : Ext w0 F2 w2 F3 w3) : Ext w0 F1 w1 F3 w3 :=
  ⟨fun b hb => h2.sub b (h.sub b hb), fun b hb => (h2.same b (h.sub b hb)).trans (h.same b hb), fun b hb => (h2.new b hb).elim (fun x => h.new b x) .inr⟩
theorem RdS.ext {α : Type} {R : Rep α} {F F' : Nat → Prop} {wF wF' : World} {A : Option Addr} {c : Nat} {l : List α} (h : RdS R F wF A c l) (hx : Ext w0 F wF F' wF') : RdS R F' wF' A c l := h.move hx.sub hx.same
theorem RepL.move' {α : Type} {R : Rep α} (hf : ∀ {F F' : Nat → Prop} {w w' : World} {x : α} {vs : List Value}, R.rd F w x vs → R.rd F' w' x vs) {F F' : Nat → Prop} {w w' : World} {l : List α} {xs : List Value} (h : RepL R F w l xs) : RepL R F' w' l xs := ⟨h.len, fun j x hj => let ⟨vs, h1, h2⟩ := h.at_ j x hj; ⟨vs, hf h1, h2⟩⟩
theorem RepL.ext {α : Type} {R : Rep α} {F F' : Nat → Prop} {wF wF' : World} {l : List α} {xs : List Value} (h : RepL R F wF l xs) (hx : Ext w0 F wF F' wF') : RepL R F' wF' l xs := h.move hx.sub hx.same
section
variable {α : Type} {R : Rep α} {F : Nat → Prop} {wF : World} {l : List α}
theorem Mem.fz (h : Mem w0 cs w) (i : Nat) (hi : cs[i]? = some (Fz F wF)) : ∀ b, F b → w.heap[b]? = wF.heap[b]? := (h.get i hi).2.2
theorem Mem.fzlt (h : Mem w0 cs w) (i : Nat) (hi : cs[i]? = some (Fz F wF)) : ∀ b, F b → b < w.heap.size := (h.get i hi).1
theorem Mem.fzcell (h : Mem w0 cs w) (i : Nat) (hi : cs[i]? = some (Fz F wF)) {a : Addr} {v : Value} (hF : F a.block) (hc : wF.cell? a = some v) : w.cell? a = some v := (cell_at (h.fz i hi _ hF)).trans hc
theorem fz_local (F : Nat → Prop) (wF : World) : Local F (fun w => ∀ b, F b → w.heap[b]? = wF.heap[b]?) := fun w w' hb h b hF => (hb b hF).trans (h b hF)
/-- A call's memory at its begin. -/
theorem Mem.fz0 (w : World) : Mem w [Fz (fun b => b < w.heap.size) w] w := (Mem.nil w).old (fz_local _ _) (fun _ _ => rfl)
theorem add_at2 (g m i : Nat) : ((⟨g, 0, none⟩ : Addr).add m).add i = ⟨g, m + i, none⟩ := by rw [add_at, add_at, Nat.zero_add]
theorem Mem.ordS (h : Mem w0 cs w) (i j : Nat) (hi : cs[i]? = some (orow A n c e z xs)) (hj : cs[j]? = some (Fz F wF)) (hL : RepL R F wF l xs) (hn : n = l.length) (hz : z = R.z) : RdS R (fun b => b < w.heap.size) w A c l := by
  subst hn hz
  have hcap := h.rowCap i hi
  refine ⟨hcap.1, hcap.2, fun hA => ?_, fun j' x hj' => ?_⟩
  · by_cases hc : c = 0
    · exact hc
    · subst hA
      unfold orow at hi; rw [rowA_pos (by omega)] at hi
      rcases (h.get i hi).2 with ⟨he, _⟩ | ⟨g, cap, cur, he, _⟩
      · injection he
      · injection he with he; cases he
  · have hlt := (List.getElem?_eq_some_iff.1 hj').1
    obtain ⟨g, rfl, hc⟩ := h.orowSome i hi (by omega)
    obtain ⟨vs, h1, h2⟩ := hL.at_ j' x hj'
    refine ⟨_, vs, rfl, ?_, R.move h1 (h.fzlt j hj) (h.fz j hj), fun k u hk => ?_⟩
    · have hi' := hi
      unfold orow at hi'; rw [rowA_pos (by omega)] at hi'
      exact (h.get i hi').lt g rfl
    · rw [add_at2]; exact h.ocell i hi (h2 k u hk)
theorem Mem.freeze (h : Mem w0 (orow A n c e z xs :: Fz F wF :: cs) w) (hL : RepL R F wF l xs) (hn : n = l.length) (hz : z = R.z) : ∃ F', Ext w0 F wF F' w ∧ RdS R F' w A c l ∧ Mem w0 (Fz F' w :: cs) w := by
  have hr := h.ordS 0 1 rfl rfl hL hn hz
  have hlt := (h.get 0 rfl).lt
  have hfl := h.fzlt 1 rfl
  have hfs := h.fz 1 rfl
  have hge : ∀ b, (rowA A c).map (·.block) = some b → w0.heap.size ≤ b := fun b hb => (h.get 0 rfl).ge b hb
  refine ⟨fun b => F b ∨ (rowA A c).map (·.block) = some b, ⟨fun b hb => .inl hb, hfs, fun b hb => hb.elim .inl (fun x => .inr (hge b x))⟩, ?_, ?_⟩
  · refine ⟨hr.cap, hr.max, hr.nil, fun j x hj => ?_⟩
    obtain ⟨vs, h1, h2⟩ := hL.at_ j x hj
    have hjl := (List.getElem?_eq_some_iff.1 hj).1
    obtain ⟨g, rfl, hc⟩ := h.orowSome 0 rfl (by omega)
    refine ⟨_, vs, rfl, .inr (by rw [rowA_pos hc]; rfl), R.move h1 (fun b hb => .inl hb) hfs, fun k u hk => ?_⟩
    subst hz
    rw [add_at2]; exact h.ocell 0 rfl (h2 k u hk)
  · refine ⟨h.below, ?_, ?_⟩
    · intro d hd
      rcases List.mem_cons.1 hd with rfl | hd
      · exact ⟨fun b hb => hb.elim (hfl b) (hlt b), fz_local _ _, fun _ _ => rfl⟩
      · exact h.holds d (List.mem_cons_of_mem _ (List.mem_cons_of_mem _ hd))
    · have ha := h.apart
      rw [List.pairwise_cons, List.pairwise_cons] at ha
      refine List.pairwise_cons.2 ⟨fun d hd => ⟨fun b hb => (by cases hb), fun b hb ht => ?_⟩, ha.2.2⟩
      rcases ht with ht | ht
      · exact (ha.2.1 d hd).2 b hb ht
      · exact (ha.1 d (List.mem_cons_of_mem _ hd)).2 b hb ht
theorem RdS.len0 {A : Option Addr} (h : RdS R F wF A c l) (hA : A = none) : l = [] := List.eq_nil_of_length_eq_zero (by have := h.cap; have := h.nil hA; omega)
theorem RdS.src {A : Option Addr} {F : Nat → Prop} (h : RdS R F wF A c l) : ∃ ys, RepL R F wF l ys ∧ ((A = none ∧ l.length = 0 ∧ c = 0 ∧ ys = []) ∨ ∃ ad, A = some ad ∧ (0 < l.length → F ad.block) ∧ ∀ j u, ys[j]? = some u → wF.cell? (ad.add j) = some u) := by
  cases A with
  | none =>
    have hc := h.nil rfl
    have hl : l = [] := List.eq_nil_of_length_eq_zero (by have := h.cap; omega)
    subst hl
    exact ⟨[], RepL.nil, .inl ⟨rfl, rfl, hc, rfl⟩⟩
  | some ad =>
    have key : ∀ k, k ≤ l.length → ∃ ys, RepL R F wF (l.take k) ys ∧ (0 < k → F ad.block) ∧ ∀ j u, ys[j]? = some u → wF.cell? (ad.add j) = some u := by
      intro k
      induction k with
      | zero => intro _; exact ⟨[], RepL.nil, fun h => absurd h (by omega), fun j u hj => by simp at hj⟩
      | succ k ih =>
        intro hk
        obtain ⟨ys, h1, h2, h3⟩ := ih (by omega)
        obtain ⟨ad', vs, hA, hF, hr, hc⟩ := h.at_ k l[k] (List.getElem?_eq_getElem (by omega))
        obtain rfl := Option.some.inj hA
        refine ⟨ys ++ vs, ?_, fun _ => hF, fun j u hj => ?_⟩
        · rw [List.take_succ_eq_append_getElem (by omega)]
          exact h1.app (RepL.single hr)
        · by_cases hlt : j < ys.length
          · rw [List.getElem?_append_left hlt] at hj; exact h3 j u hj
          · rw [List.getElem?_append_right (by omega)] at hj
            have := hc _ u hj
            rw [addr_add_add] at this
            have hyl : ys.length = k * R.z := by rw [h1.len, List.length_take, Nat.min_eq_left (by omega)]
            rwa [show k * R.z + (j - ys.length) = j by omega] at this
    obtain ⟨ys, h1, h2, h3⟩ := key l.length (Nat.le_refl _)
    rw [List.take_length] at h1
    exact ⟨ys, h1, .inr ⟨ad, rfl, h2, h3⟩⟩
theorem Mem.srcS (h : Mem w0 cs w) (i : Nat) (hi : cs[i]? = some (Fz F wF)) {A : Option Addr} {ys : List Value} (hL : RepL R F wF l ys) (hs : (A = none ∧ l.length = 0 ∧ c = 0 ∧ ys = []) ∨ ∃ ad, A = some ad ∧ (0 < l.length → F ad.block) ∧ ∀ j u, ys[j]? = some u → wF.cell? (ad.add j) = some u) : Src w A l.length c ys := by
  rcases hs with ⟨h1, h2, h3, h4⟩ | ⟨ad, h1, h2, h3⟩
  · exact .inl ⟨h1, h2, h3, h4⟩
  · refine .inr ⟨ad, h1, fun j u hj => ?_⟩
    have hpos : 0 < l.length := by
      rcases Nat.eq_zero_or_pos l.length with e | e
      · have := (List.getElem?_eq_some_iff.1 hj).1
        rw [hL.len, e] at this; omega
      · exact e
    exact h.fzcell i hi (by rw [add_block]; exact h2 hpos) (h3 j u hj)
theorem Mem.srcO (h : Mem w0 cs w) (i : Nat) (hi : cs[i]? = some (orow A n c e z xs)) : Src w A n c xs := by
  by_cases hc : c = 0
  · obtain ⟨rfl, rfl⟩ := h.ozero i hi hc
    subst hc
    cases A with
    | none => exact .inl ⟨rfl, rfl, rfl, rfl⟩
    | some ad => exact .inr ⟨ad, rfl, fun j u hj => by simp at hj⟩
  · unfold orow at hi; rw [rowA_pos (by omega)] at hi
    exact h.srcRow i hi
/-- An element's cells in frozen memory. -/
def El (F : Nat → Prop) (w : World) (ad : Addr) (o : Nat) (vs : List Value) : Prop := F ad.block ∧ ∀ i u, vs[i]? = some u → w.cell? ((ad.add o).add i) = some u
theorem RdS.el {A : Option Addr} (h : RdS R F wF A c l) {m : Nat} {x : α} (hx : l[m]? = some x) : ∃ ad vs, A = some ad ∧ R.rd F wF x vs ∧ El F wF ad (m * R.z) vs := by
  obtain ⟨ad, vs, h1, h2, h3, h4⟩ := h.at_ m x hx
  exact ⟨ad, vs, h1, h3, h2, h4⟩
theorem El.ext {w0 : World} {F' : Nat → Prop} {wF' : World} {ad : Addr} {o : Nat} {vs : List Value} (h : El F wF ad o vs) (hx : Ext w0 F wF F' wF') : El F' wF' ad o vs :=
  ⟨hx.sub _ h.1, fun i u hi => (cell_at (by rw [add_block, add_block]; exact hx.same _ h.1)).trans (h.2 i u hi)⟩
theorem Mem.elcell (h : Mem w0 cs w) (j : Nat) (hj : cs[j]? = some (Fz F wF)) {ad : Addr} {o : Nat} {vs : List Value} (he : El F wF ad o vs) (i : Nat) {u : Value} (hi : vs[i]? = some u) : w.cell? ((ad.add o).add i) = some u :=
  h.fzcell j hj (by rw [add_block, add_block]; exact he.1) (he.2 i u hi)
theorem Mem.ostore' (h : Mem w0 cs w) (i : Nat) (hi : cs[i]? = some (orow (some ⟨g, 0, none⟩) n c e z xs)) (off : Nat) (us : List Value) (hl : off + us.length ≤ xs.length) {n' : Nat} {xs' : List Value} (hn : n = n') (hx : setAll xs off us = xs') :
    ∃ w', Evs (stores g off us) w w' ∧ Mem w0 (cs.set i (orow (some ⟨g, 0, none⟩) n' c e z xs')) w' := by subst hn hx; exact h.ostore i hi off us hl
theorem Mem.otake' (h : Mem w0 cs w) (i : Nat) (hi : cs[i]? = some (orow A n c e z xs)) {m : Nat} {xs' : List Value} (hm : m ≤ n) (hx : xs.take (m * z) = xs') : Mem w0 (cs.set i (orow A m c e z xs')) w := by subst hx; exact h.otake i hi hm
abbrev madeOf (vs : List Value) (n : Nat) : Array Value := madeCells vs.toArray n
theorem made_get (zs : List Value) (n k : Nat) (hk : k < n) : (madeCells zs.toArray n).toList[k]? = some (zs.toArray[k % zs.length]!) := by simp [madeCells, hk]
theorem RepL.made {x : α} {vs : List Value} (h : R.rd F wF x vs) (hz : 0 < R.z) (m : Nat) : RepL R F wF (List.replicate m x) (madeCells vs.toArray (m * R.z)).toList := by
  refine ⟨by simp [size_madeCells], fun j y hj => ?_⟩
  have hjl := (List.getElem?_eq_some_iff.1 hj).1
  rw [List.length_replicate] at hjl
  rw [List.getElem?_replicate, if_pos hjl] at hj
  obtain rfl := Option.some.inj hj
  refine ⟨vs, h, fun i u hi => ?_⟩
  have hil := (List.getElem?_eq_some_iff.1 hi).1
  have hvl := R.len h
  have hlt : j * R.z + i < m * R.z := by
    have : (j + 1) * R.z ≤ m * R.z := Nat.mul_le_mul_right _ hjl
    rw [Nat.add_mul] at this; omega
  rw [made_get _ _ _ hlt, hvl, Nat.add_comm, Nat.add_mul_mod_self_right, Nat.mod_eq_of_lt (by omega)]
  simp [hil, ← hi]
theorem cutA_zero (A : Option Addr) (c z : Nat) : cutA A c 0 z = A := by
  unfold cutA; rw [Nat.zero_mul]
  split
  · rfl
  · cases A <;> simp [Addr.add]
/-- A part of a slice that is read. -/
theorem RdS.cut {A : Option Addr} (h : RdS R F wF A c l) {m k : Nat} (hm : m ≤ k) (hk : k ≤ l.length) : RdS R F wF (cutA A c m R.z) (c - m) ((l.drop m).take (k - m)) := by
  have hcap := h.cap
  have hmax := h.max
  refine ⟨by simp; omega, by omega, fun hA => ?_, fun j x hj => ?_⟩
  · unfold cutA at hA
    split at hA
    · omega
    · cases A with
      | none => have := h.nil rfl; omega
      | some ad => cases hA
  · have hjl := (List.getElem?_eq_some_iff.1 hj).1
    simp only [List.length_take, List.length_drop] at hjl
    rw [List.getElem?_take, if_pos (by omega), List.getElem?_drop] at hj
    obtain ⟨ad, vs, rfl, hF, hr, hc⟩ := h.at_ _ x hj
    have hne : c ≠ m := by omega
    refine ⟨ad.add (m * R.z), vs, by simp [cutA, hne], by rw [add_block]; exact hF, hr, fun i u hi => ?_⟩
    have := hc i u hi
    rwa [addr_add_add ad, ← Nat.add_mul]
theorem RdS.empty (A : Option Addr) : RdS R F wF A 0 [] := ⟨Nat.le_refl 0, Nat.zero_le _, fun _ => rfl, fun j x hj => by simp at hj⟩
end
end
abbrev sa (g : Nat) : Option Addr := some ⟨g, 0, none⟩
abbrev ld (b o : Nat) (v : Value) : Evt := .load ⟨b, o, none⟩ v
abbrev sr (b o : Nat) (v : Value) : Evt := .store ⟨b, o, none⟩ v
abbrev sl {α : Type} (A : Option Addr) (l : List α) (c : Nat) : Value := .slice A l.length c
abbrev ow {α : Type} (A : Option Addr) (l : List α) (c : Nat) (e : TypeId) (z : Nat) (y : List Value) : Chunk := orow A l.length c e z y
/-! ### Rules -/
section
variable {P : Program} {ro : Option Nat} {n : NT} {ops : Array Oper} {Q : Exit → Act → World → Prop} {S : World → Prop}
theorem ops_newB {i : Nat} {r : List (Nat × Bool)} {l : Slots} {d : Option Tmp} {w0 : World} {cs : List Chunk} (vs : List Value) (T : TypeId) (h : ∀ b, At P n ops l i d [.b b] [.new (.cells vs.toArray T) b] (.value (vP b 0)))
    (hS : ∀ w, Mem w0 cs w → S w → S (w.alloc (.cells vs.toArray T))) (k : ∀ b, Ops P n ops Q S r (put l d (vP b 0)) (Mem w0 (.blk b vs T :: cs))) : Ops P n ops Q S ((i, false) :: r) l (Mem w0 cs) :=
  ops_new (M' := fun b => Mem w0 (.blk b vs T :: cs)) h (fun w hM hSw => ⟨hM.blk vs T, hS w hM hSw⟩) k
theorem oQ {r : List (Nat × Bool)} {l : Slots} {M : World → Prop} (is : List (Nat × Bool)) (l' : Slots) (h : (stretch P n ops is l).map (keep (l'.map (·.1))) = some l') (k : Ops P n ops Q S r l' M) : Ops P n ops Q S (is ++ r) l M := oR is l' (l'.map (·.1)) h k
theorem ops_ex {σ : Type} {r : List (Nat × Bool)} {l : Slots} {M : World → Prop} {M' : σ → World → Prop} {I : σ → Prop} (h : ∀ w, M w → ∃ x, I x ∧ M' x w) (k : ∀ x, I x → Ops P n ops Q S r l (M' x)) : Ops P n ops Q S r l M :=
  fun a w hk hM hS => let ⟨x, hI, hM'⟩ := h w hM; k x hI a w hk hM' hS
theorem ops_callI {i : Nat} {r : List (Nat × Bool)} {l : Slots} {d : Option Tmp} {f : FuncId} {args : Array Value} {σ : Type} {v : σ → Value} {I : σ → Prop} {M : World → Prop} {M' : σ → World → Prop} (h : At P n ops l i d [] [] (.enter f args))
    (hM : ∀ w, M w → S w → Calls P f args w fun e w' => ∃ x, I x ∧ e = .returned (v x) ∧ M' x w' ∧ S w') (k : ∀ x, I x → Ops P n ops Q S r (put l d (v x)) (M' x)) : Ops P n ops Q S ((i, false) :: r) l M := by
  intro a w hk hMw hS
  obtain ⟨o', hi, hd, hlt, h⟩ := h.get
  obtain ⟨hw, hr⟩ := h a hk
  have he : Evs [] w w := rfl
  simp only [seqOps, hi, cond_false, wpF, hw, if_true, hr w w he, upF, Oper.upon, hd]
  refine (hM w hMw hS).mono ?_
  rintro e w' ⟨x, hI, rfl, hM', hS'⟩
  exact And.intro hS' (k _ hI _ _ (hk.put d hlt _) hM' hS')
theorem ops_appendO {i : Nat} {r : List (Nat × Bool)} {l : Slots} {x y : Operand} {t e : TypeId} {d : Option Tmp} {w0 : World} {cs : List Chunk} {A A2 : Option Addr} {nn n' cap z m c bytes : Nat} {xs xs' news : List Value} {zv : Value} (q : Nat)
    (h : OpAt n ops l i (.call { callee := .builtin .append, args := #[x, y], argTypes := #[t, t] }) d) (hx : ev l x = .slice A nn cap) (hy : ev l y = .slice A2 m c)
    (ht : P.underlying t = some (.slice e)) (hti : (P.info? e).map (fun i => (i.size, i.bytes, i.zero)) = some (z, bytes, some zv)) (hzs : (zv.cells.size == z && Nat.ble 1 z && Nat.ble 1 bytes) = true) (hi : cs[q]? = some (orow A nn cap e z xs))
    (src : ∀ w, Mem w0 cs w → Src w A2 m c news) (hl : news.length = m * z) (h1 : ∀ u ∈ news, u.oneCell' = true) (hb : (nn + m) * bytes ≤ 140737488355328) (hn : nn + m = n') (hx' : xs ++ news = xs')
    (hS : ∀ A' cap' w w', S w → Mem w0 (cs.set q (orow A' n' cap' e z xs')) w' → S w') (k : ∀ p : Option Addr × Nat, Ops P n ops Q S r (put l d (.slice p.1 n' p.2)) (Mem w0 (cs.set q (orow p.1 n' p.2 e z xs')))) : Ops P n ops Q S ((i, false) :: r) l (Mem w0 cs) := by
  simp only [Bool.and_eq_true, beq_iff_eq] at hzs
  refine ops_law (σ := Option Addr × Nat) (v := fun p => .slice p.1 n' p.2) (M' := fun p => Mem w0 (cs.set q (orow p.1 n' p.2 e z xs'))) h (fun o w ho hM hSw => ?_) k
  cases hti' : P.info? e with
  | none => rw [hti'] at hti; cases hti
  | some ti =>
    rw [hti'] at hti
    simp only [Option.map_some, Option.some.injEq, Prod.mk.injEq] at hti
    obtain ⟨A', cap', w', hr, hM'⟩ := hM.oappend (P := P) q hi (ty := o.type) ht hti' hti.2.2 hti.1 hti.2.1 hzs.1.1 (Nat.le_of_ble_eq_true hzs.1.2) (src w hM) hl h1 hb (Nat.le_of_ble_eq_true hzs.2)
    subst hn hx'
    refine ⟨(A', cap'), w', ?_, hM', hS A' cap' w w' hSw hM'⟩
    unfold execOp
    simp only [ho, resolve, invoke, builtin, Sem.run_bind, Sem.run_pure, Result.andThen_ok, List.map_toArray, List.map_cons, List.map_nil, hx, hy, hr]
theorem ops_makeO {i : Nat} {r : List (Nat × Bool)} {l : Slots} {x y : Operand} {t e : TypeId} {kl kc : IntKind} {a b : Int} {d : Option Tmp} {w0 : World} {cs : List Chunk} {nn z bytes : Nat} {zv : Value} {xs : List Value}
    (h : OpAt n ops l i (.makeSlice t x y) d) (hx : ev l x = .int kl a) (hy : ev l y = .int kc b) (ha : a = (nn : Int)) (hb : b = (nn : Int))
    (ht : P.underlying t = some (.slice e)) (hti : (P.info? e).map (fun i => (i.size, i.bytes, i.zero)) = some (z, bytes, some zv)) (hsz : nn * bytes ≤ 140737488355328) (hb1 : Nat.ble 1 bytes = true) (hxs : (madeCells zv.cells (nn * z)).toList = xs)
    (hS : ∀ g w w', S w → Mem w0 (orow (some ⟨g, 0, none⟩) nn nn e z xs :: cs) w' → S w') (k : ∀ g : Nat, Ops P n ops Q S r (put l d (.slice (some ⟨g, 0, none⟩) nn nn)) (Mem w0 (orow (some ⟨g, 0, none⟩) nn nn e z xs :: cs))) : Ops P n ops Q S ((i, false) :: r) l (Mem w0 cs) := by
  have hn : nn ≤ 140737488355328 := Nat.le_trans (Nat.le_mul_of_pos_right _ (Nat.le_of_ble_eq_true hb1)) hsz
  subst ha hb
  refine ops_law (σ := Nat) (v := fun g => .slice (some ⟨g, 0, none⟩) nn nn) (M' := fun g => Mem w0 (orow (some ⟨g, 0, none⟩) nn nn e z xs :: cs)) h (fun o w ho hM hSw => ?_) k
  cases hti' : P.info? e with
  | none => rw [hti'] at hti; cases hti
  | some ti =>
    rw [hti'] at hti
    simp only [Option.map_some, Option.some.injEq, Prod.mk.injEq] at hti
    obtain ⟨h1, h2, h3⟩ := hti
    subst h1 h2
    have hb' : (ti.bytes : Int) * (nn : Int) ≤ 281474976710656 := by
      have : ((ti.bytes * nn : Nat) : Int) ≤ 281474976710656 := by rw [Nat.mul_comm]; omega
      rwa [Int.natCast_mul] at this
    have hr := run_make (P := P) w t e ti zv ht hti' h3 kl kc (nn : Int) (nn : Int) (by omega) (Int.le_refl _) hb' (by omega)
    simp only [Int.toNat_natCast] at hr
    have hM' := hM.onew (madeCells zv.cells (nn * ti.size)).toList e nn ti.size (by simp [size_madeCells]) (by simp only [maxLen]; omega)
    rw [Array.toArray_toList, hxs] at hM'
    exact ⟨w.heap.size, _, by simp [execOp, ho, hx, hy, hr], hM', hS _ w _ hSw hM'⟩
/-- What follows, said once. -/
theorem st_join1 {x y : Code} {l : Slots} {M : World → Prop} {σ : Type} {L : σ → Slots} {N : σ → World → Prop} {I : σ → Prop} (k : ∀ s, I s → St P ro n y Q (L s) (N s)) (h : (∀ s, I s → St P ro n y Q (L s) (N s)) → St P ro n (.seq x y) Q l M) : St P ro n (.seq x y) Q l M := h k
theorem fin_join {y : Code} {l : Slots} {M : World → Prop} {σ : Type} {L : σ → Slots} {N : σ → World → Prop} {I : σ → Prop} (H : ∀ s, I s → St P ro n y Q (L s) (N s)) (s : σ) (hI : I s) (hl : ∀ t v, look (L s) t = some v → look l t = some v) (hN : ∀ w, M w → N s w) : Fin n (Exit.then (y.wpIn (FR ro) 0 P Q) Q) .normal l M :=
  fun a w hk hM => H s hI a w (hk.mono hl) (hN w hM)
/-- A loop that follows the rounds of a plain function. -/
theorem st_loopP {c : Code} {l : Slots} {M : World → Prop} {σ ρ γ : Type} {step : σ → Option (σ ⊕ ρ)} {s0 : σ} {r : ρ} (h : loop step s0 = some r) (g0 : γ) (L : σ → γ → Slots) (N : σ → γ → World → Prop) (I : σ → γ → Prop) (h0 : I s0 g0)
    (hl : ∀ t v, look (L s0 g0) t = some v → look l t = some v) (hN : ∀ w, M w → N s0 g0 w)
    (round : ∀ s g o, I s g → step s = some o → (∀ r', o = .inr r' → r' = r) → St P ro n c (Exit.then (fun a w => ∃ s' g', o = .inl s' ∧ I s' g' ∧ Knows n a (L s' g') ∧ N s' g' w) Q) (L s g) (N s g)) : St P ro n (.loop c) Q l M := by
  intro a w hk hM b k cs hro hb0 hr0
  obtain ⟨m, hm⟩ := loop_some h
  have key : ∀ m s, loopK step m s = some r → ∀ g a w, I s g → Knows n a (L s g) → N s g w →
      ∃ e a' w', Q e a' w' ∧ ArrivesIn (Machine.fenced P (FR ro)) P (lone (b.atR a (.code c :: .inLoop c :: k)) cs w) b k cs e a' w' := by
    intro m
    induction m with
    | zero => intro s hm; cases hm
    | succ m ih =>
      intro s hm g a w hI hk hN
      simp only [loopK] at hm
      obtain ⟨o, ho, hr⟩ := obind hm
      obtain ⟨e, a₁, w₁, hq, harr⟩ := round s g o hI ho (fun r' e => by subst e; exact Option.some.inj hr) a w hk hN b (.inLoop c :: k) cs hro hb0 hr0
      cases e with
      | normal =>
        obtain ⟨s', g', rfl, hI', hk', hN'⟩ := hq
        obtain ⟨e₂, a₂, w₂, hq₂, harr₂⟩ := ih s' hr g' a₁ w₁ hI' hk' hN'
        exact ⟨e₂, a₂, w₂, hq₂, .of_steps (StepsIn.trans harr (up_in (.one stepR_inLoop))) harr₂⟩
      | exit id => exact ⟨_, a₁, w₁, hq, .pass (x := .inLoop c) rfl (fun _ _ => .inl (by simp)) harr⟩
      | goto l => exact ⟨_, a₁, w₁, hq, .pass (x := .inLoop c) rfl (fun _ _ => .inl (by simp)) harr⟩
      | ret => exact ⟨_, a₁, w₁, hq, .pass (x := .inLoop c) rfl (fun _ _ => .inl (by simp)) harr⟩
      | panic ch => exact ⟨_, a₁, w₁, hq, .pass (x := .inLoop c) rfl (fun _ _ => .inl (by simp)) harr⟩
      | outgrown => exact ⟨_, a₁, w₁, hq, .pass (x := .inLoop c) rfl (fun _ _ => .inl (by simp)) harr⟩
  obtain ⟨e, a', w', hq, harr⟩ := key m s0 hm g0 a w h0 (hk.mono hl) (hN w hM)
  exact ⟨e, a', w', hq, .of_steps (up_in (.one stepR_loop)) harr⟩
theorem fin_again {l : Slots} {M : World → Prop} {σ ρ γ : Type} {o : σ ⊕ ρ} {I : σ → γ → Prop} {L : σ → γ → Slots} {N : σ → γ → World → Prop} (s : σ) (g : γ) (ho : o = .inl s) (hI : I s g) (hl : ∀ t v, look (L s g) t = some v → look l t = some v) (hN : ∀ w, M w → N s g w) :
    Fin n (Exit.then (fun a w => ∃ s' g', o = .inl s' ∧ I s' g' ∧ Knows n a (L s' g') ∧ N s' g' w) Q) .normal l M := fun a w hk hM => ⟨s, g, ho, hI, hk.mono hl, hN w hM⟩
end
section
variable {P : Program} {l : Slots} {x y y2 : Operand} {k k' yk : IntKind} {a b : Int} {t e : TypeId} {A : Option Addr} {len cap lo hi z n' c' : Nat}
theorem run_indexA {ad : Addr} {m : Nat} (hA : A = some ad) (ht : P.underlying t = some (.slice e)) (hz : (P.info? e).map (·.size) = some z) (hx : ev l x = .slice A len cap) (hy : ev l y = .int yk b) (hb : b = (m : Int)) (hm : m < len) :
    ∀ (o : Oper) (w : World), o.op = .indexAddr t x y → (execOp (ev l) o).run P w = .ok (.value (.pointer (some (ad.add (m * z))))) w := by
  subst hA; exact run_index ht hz hx hy hb hm
theorem run_cutH0 (ht : P.underlying t = some (.slice (P.elem t))) (hz : (P.info? (P.elem t)).map (·.size) = some z) (hx : ev l x = .slice A len cap) (hy : ev l y = .int k b) (hb : b = (hi : Int)) (h : hi ≤ cap) (hn : hi = n') :
    ∀ (o : Oper) (w : World), o.op = .slice t x none (some y) none → (execOp (ev l) o).run P w = .ok (.value (.slice A n' cap)) w := by
  intro o w ho
  have := run_cutH (P := P) ht hz hx hy hb h hn o w ho
  rwa [cutA_zero] at this
theorem run_strIdx {s : ByteArray} {r : Int} {k : IntKind} {b : Int} (ht : P.underlying t = some .string) (hx : ev l x = .string s) (hy : ev l y = .int k b) (h : sidx s b = some r) :
    ∀ (o : Oper) (w : World), o.op = .index t x y → (execOp (ev l) o).run P w = .ok (.value (.int .u8 r)) w := by
  intro o w ho
  unfold sidx at h
  by_cases hb : 0 ≤ b
  · rw [if_pos hb] at h
    cases hs : s[b.toNat]? with
    | none => rw [hs] at h; cases h
    | some c =>
      rw [hs] at h
      obtain rfl := Option.some.inj h
      simp [execOp, ho, hx, hy, Instr.index, asIntOf, run_underlying' ht, hb, hs]
  · rw [if_neg hb] at h; cases h
end
/-- What is frozen later was frozen before. -/
theorem Mem.fzback {w0 w : World} {cs : List Chunk} {F F' : Nat → Prop} {W W' : World} (h : Mem w0 cs w) (i : Nat) (hi : cs[i]? = some (Fz F' W')) (hx : Ext w0 F W F' W') : Mem w0 (cs.set i (Fz F W)) w := by
  have hd : (Fz F W).ok w0.heap.size w := ⟨fun b hb => h.fzlt i hi b (hx.sub b hb), fz_local _ _, fun b hb => (h.fz i hi b (hx.sub b hb)).trans (hx.same b hb)⟩
  refine ⟨h.below, ?_, ?_⟩
  · intro x hx'
    rcases List.mem_or_eq_of_mem_set hx' with hm | rfl
    · exact h.holds x hm
    · exact hd
  · rw [List.pairwise_iff_getElem]
    intro a b ha hb hab
    rw [List.length_set] at ha hb
    have ea : cs[a]? = some cs[a] := List.getElem?_eq_getElem ha
    have eb : cs[b]? = some cs[b] := List.getElem?_eq_getElem hb
    rw [List.getElem_set, List.getElem_set]
    by_cases h1 : i = a
    · have hib : i ≠ b := by omega
      rw [if_pos h1, if_neg hib]
      exact ⟨fun k hk => (by cases hk), fun k hk ht => (h.apartAt hi eb hib).2 k hk (hx.sub k ht)⟩
    · rw [if_neg h1]
      by_cases h2 : i = b
      · rw [if_pos h2]
        exact ⟨fun k hk ht => (h.apartAt hi ea h1).2 k hk (hx.sub k ht), fun k hk => (by cases hk)⟩
      · rw [if_neg h2]
        exact List.pairwise_iff_getElem.1 h.apart a b ha hb hab
end Go.Proofs.Ytbfndcookgijfaa.Sx
