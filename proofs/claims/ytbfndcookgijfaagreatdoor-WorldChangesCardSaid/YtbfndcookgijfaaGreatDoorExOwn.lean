/- Trees of the call's own: rows whose elements are the call's own too. No condition. -/
import Derived.Test.YtbfndcookgijfaaGreatDoorExMem
namespace Go.Proofs.YtbfndcookgijfaaGreatDoor.Sx
open Go Go.RowKit
set_option linter.unusedVariables false
set_option linter.unusedSimpArgs false
/-! ### Bundles: several chunks as one -/
def Chunk.owning : Chunk → Prop
  | .dat _ _ => False
  | _ => True
theorem Chunk.owning.own {c : Chunk} (h : c.owning) {b : Nat} (ht : c.touches b) : c.own b := by
  cases c with
  | blk b' _ _ => exact congrArg some (Eq.symm ht)
  | obj b' _ => exact congrArg some (Eq.symm ht)
  | dat _ _ => exact h.elim
  | row A _ _ _ _ _ => exact ht
  | tree T _ => exact ht
theorem Chunk.ok.rebase {B B' : Nat} {w : World} {c : Chunk} (h : c.ok B w) (hb : ∀ b, c.own b → B' ≤ b) (ho : c.owning) : c.ok B' w := by
  cases c with
  | blk b' _ _ => exact ⟨hb b' rfl, h.2⟩
  | obj b' _ => exact ⟨hb b' rfl, h.2⟩
  | dat _ _ => exact ho.elim
  | row A n cap e z xs =>
    refine ⟨h.1, ?_⟩
    rcases h.2 with hn | ⟨g, cap', cur, he, hg, r⟩
    · exact .inl hn
    · refine .inr ⟨g, cap', cur, he, ?_, r⟩
      injection he with h1 h2 h3
      subst h1
      exact hb g rfl
  | tree T φ => exact ⟨fun b hT => ⟨hb b hT, (h.1 b hT).2⟩, h.2⟩
theorem Chunk.ok.keepOwn {B : Nat} {w w' : World} {c : Chunk} (h : c.ok B w) (ho : c.owning) (hb : ∀ b, c.own b → w'.heap[b]? = w.heap[b]?) : c.ok B w' := by
  cases c with
  | blk b' vs T => exact ⟨h.1, (hb b' rfl).trans h.2⟩
  | obj b' o => exact ⟨h.1, (hb b' rfl).trans h.2⟩
  | dat F φ => exact ho.elim
  | row A n cap e z xs => exact ownsRow_keep h hb
  | tree T φ =>
    refine ⟨fun b hT => ⟨(h.1 b hT).1, ?_⟩, h.2.1, h.2.1 w w' hb h.2.2⟩
    have h1 := hb b hT
    have h2 := (h.1 b hT).2
    rw [Array.getElem?_eq_getElem h2] at h1
    exact lt_of_get h1
def bundle (G : List Chunk) : Chunk := .tree (fun b => ∃ c ∈ G, c.own b) (fun w => (∀ c ∈ G, c.owning ∧ c.ok 0 w) ∧ G.Pairwise Chunk.apart)
section
variable {w0 w w' wF : World} {cs G : List Chunk}
theorem Mem.bundle (h : Mem w0 (G ++ cs) w) (hG : ∀ c ∈ G, c.owning) : Mem w0 (bundle G :: cs) w := by
  have hp := List.pairwise_append.1 h.apart
  refine ⟨h.below, fun c hc => ?_, List.pairwise_cons.2 ⟨fun d hd => ⟨fun b hb ht => ?_, fun b hb ht => ?_⟩, hp.2.1⟩⟩
  · rcases List.mem_cons.1 hc with rfl | hc
    · refine ⟨fun b ⟨c, hc, hb⟩ => ⟨(h.holds c (List.mem_append_left _ hc)).ge b hb, (h.holds c (List.mem_append_left _ hc)).lt b (Chunk.own_touches hb)⟩, fun u u' hu hφ => ⟨fun c hc => ⟨(hφ.1 c hc).1, (hφ.1 c hc).2.keepOwn (hφ.1 c hc).1 fun b hb => hu b ⟨c, hc, hb⟩⟩, hφ.2⟩, fun c hc => ⟨hG c hc, (h.holds c (List.mem_append_left _ hc)).rebase (fun _ _ => Nat.zero_le _) (hG c hc)⟩, hp.1⟩
    · exact h.holds c (List.mem_append_right _ hc)
  · obtain ⟨c, hc, hb⟩ := hb
    exact (hp.2.2 c hc d hd).1 b hb ht
  · obtain ⟨c, hc, ht⟩ := ht
    exact (hp.2.2 c hc d hd).2 b hb (Chunk.own_touches ht)
theorem Mem.unbundle (h : Mem w0 (Sx.bundle G :: cs) w) : Mem w0 (G ++ cs) w := by
  have hg := h.get 0 rfl
  have ha := List.pairwise_cons.1 h.apart
  refine ⟨h.below, fun c hc => ?_, List.pairwise_append.2 ⟨hg.2.2.2, ha.2, fun c hc d hd => ⟨fun b hb ht => (ha.1 d hd).1 b ⟨c, hc, hb⟩ ht, fun b hb ht => (ha.1 d hd).2 b hb ⟨c, hc, (hg.2.2.1 c hc).1.own ht⟩⟩⟩⟩
  rcases List.mem_append.1 hc with hc | hc
  · exact (hg.2.2.1 c hc).2.rebase (fun b hb => (hg.1 b ⟨c, hc, hb⟩).1) (hg.2.2.1 c hc).1
  · exact h.holds c (List.mem_cons_of_mem _ hc)
theorem Mem.bnil (h : Mem w0 cs w) : Mem w0 (Sx.bundle [] :: cs) w := Mem.bundle (G := []) h (by simp)
theorem Mem.refz {F : Nat → Prop} (h : Mem w0 (Fz F wF :: cs) w) : Ext w0 F wF F w ∧ Mem w0 (Fz F w :: cs) w := by
  refine ⟨⟨fun _ hb => hb, h.fz 0 rfl, fun _ hb => .inl hb⟩, h.below, fun d hd => ?_, List.pairwise_cons.2 ⟨fun d hd => ⟨fun b hb => hb.elim, ((List.pairwise_cons.1 h.apart).1 d hd).2⟩, (List.pairwise_cons.1 h.apart).2⟩⟩
  rcases List.mem_cons.1 hd with rfl | hd
  · exact ⟨h.fzlt 0 rfl, fz_local _ _, fun _ _ => rfl⟩
  · exact h.holds d (List.mem_cons_of_mem _ hd)
end
/-! ### A value with memory of the call's own -/
structure Own (α : Type) where
  R : Rep α
  at_ : (Nat → Prop) → World → α → List Value → List Chunk → Prop
  owns : ∀ {F w a vs K}, at_ F w a vs K → ∀ c ∈ K, c.owning
  len : ∀ {F w a vs K}, at_ F w a vs K → vs.length = R.z
  one : ∀ {F w a vs K}, at_ F w a vs K → ∀ u ∈ vs, u.oneCell' = true
  move : ∀ {F F' : Nat → Prop} {w w' : World} {a vs K}, at_ F w a vs K → (∀ b, F b → F' b) → (∀ b, F b → w'.heap[b]? = w.heap[b]?) → at_ F' w' a vs K
  frz : ∀ {w0 w wF : World} {F : Nat → Prop} {a vs K cs}, at_ F wF a vs K → Mem w0 (K ++ (Fz F wF :: cs)) w → ∃ F', Ext w0 F wF F' w ∧ R.rd F' w a vs ∧ Mem w0 (Fz F' w :: cs) w
def Own.rd {α : Type} (R : Rep α) : Own α where
  R := R
  at_ F w a vs K := R.rd F w a vs ∧ K = []
  owns h := by obtain ⟨_, rfl⟩ := h; simp
  len h := R.len h.1
  one h := R.one h.1
  move h hF hw := ⟨R.move h.1 hF hw, h.2⟩
  frz h hM := by
    obtain ⟨h1, rfl⟩ := h
    have hz := Mem.refz hM
    exact ⟨_, hz.1, R.move h1 hz.1.sub hz.1.same, hz.2⟩
theorem Ext.rd {α : Type} {R : Rep α} {w0 wF wF' : World} {F F' : Nat → Prop} {a : α} {vs : List Value} (hx : Ext w0 F wF F' wF') (h : R.rd F wF a vs) : R.rd F' wF' a vs := R.move h hx.sub hx.same
def Own.prod {α β : Type} (O : Own α) (O' : Own β) : Own (α × β) where
  R := Rep.prod O.R O'.R
  at_ F w p vs K := ∃ v1 v2 K1 K2, vs = v1 ++ v2 ∧ K = K1 ++ K2 ∧ O.at_ F w p.1 v1 K1 ∧ O'.at_ F w p.2 v2 K2
  owns h := by
    obtain ⟨v1, v2, K1, K2, rfl, rfl, h1, h2⟩ := h
    intro c hc
    rcases List.mem_append.1 hc with hc | hc
    · exact O.owns h1 c hc
    · exact O'.owns h2 c hc
  len h := by obtain ⟨v1, v2, K1, K2, rfl, rfl, h1, h2⟩ := h; rw [List.length_append, O.len h1, O'.len h2]; rfl
  one h := by
    obtain ⟨v1, v2, K1, K2, rfl, rfl, h1, h2⟩ := h
    intro u hu
    rcases List.mem_append.1 hu with hu | hu
    · exact O.one h1 u hu
    · exact O'.one h2 u hu
  move h hF hw := by obtain ⟨v1, v2, K1, K2, e1, e2, h1, h2⟩ := h; exact ⟨v1, v2, K1, K2, e1, e2, O.move h1 hF hw, O'.move h2 hF hw⟩
  frz {w0 w wF F a vs K cs} h hM := by
    obtain ⟨v1, v2, K1, K2, rfl, rfl, h1, h2⟩ := h
    have hM1 : Mem w0 (K1 ++ (Fz F wF :: (K2 ++ cs))) w := hM.perm (by rw [List.append_assoc]; exact List.Perm.append_left _ List.perm_middle)
    obtain ⟨F1, e1, r1, hM2⟩ := O.frz h1 hM1
    have hM3 : Mem w0 (K2 ++ (Fz F1 w :: cs)) w := hM2.perm List.perm_middle.symm
    obtain ⟨F2, e2, r2, hM4⟩ := O'.frz (O'.move h2 e1.sub e1.same) hM3
    exact ⟨F2, e1.trans e2, ⟨v1, v2, rfl, e2.rd r1, r2⟩, hM4⟩
def Own.iso {α β : Type} (f : β → α) (O : Own α) : Own β where
  R := Rep.iso f O.R
  at_ F w b vs K := O.at_ F w (f b) vs K
  owns h := O.owns h
  len h := O.len h
  one h := O.one h
  move h hF hw := O.move h hF hw
  frz h hM := O.frz h hM
/-! ### Elements -/
inductive EL {α : Type} (O : Own α) (F : Nat → Prop) (w : World) : List α → List Value → List Chunk → Prop where
  | nil : EL O F w [] [] []
  | cons {x : α} {vs ys : List Value} {K Ks : List Chunk} {l : List α} (h : O.at_ F w x vs K) (r : EL O F w l ys Ks) : EL O F w (x :: l) (vs ++ ys) (K ++ Ks)
section
variable {α : Type} {O : Own α} {F F' : Nat → Prop} {w0 w w' wF wF' : World} {l l1 l2 : List α} {ys ys1 ys2 vs us : List Value} {Ks K1 K2 Kx cs : List Chunk} {K Kr : Chunk} {x y : α} {m : Nat}
theorem EL.owns (h : EL O F w l ys Ks) : ∀ c ∈ Ks, c.owning := by
  induction h with
  | nil => simp
  | cons h r ih =>
    intro c hc
    rcases List.mem_append.1 hc with hc | hc
    · exact O.owns h c hc
    · exact ih c hc
theorem EL.len (h : EL O F w l ys Ks) : ys.length = l.length * O.R.z := by
  induction h with
  | nil => simp
  | cons h r ih => rw [List.length_append, O.len h, ih, List.length_cons, Nat.add_mul]; omega
theorem EL.one (h : EL O F w l ys Ks) : ∀ u ∈ ys, u.oneCell' = true := by
  induction h with
  | nil => simp
  | cons h r ih =>
    intro u hu
    rcases List.mem_append.1 hu with hu | hu
    · exact O.one h u hu
    · exact ih u hu
theorem EL.move (h : EL O F w l ys Ks) (hF : ∀ b, F b → F' b) (hw : ∀ b, F b → w'.heap[b]? = w.heap[b]?) : EL O F' w' l ys Ks := by
  induction h with
  | nil => exact .nil
  | cons h r ih => exact .cons (O.move h hF hw) ih
theorem EL.app (h : EL O F w l1 ys1 K1) (h2 : EL O F w l2 ys2 K2) : EL O F w (l1 ++ l2) (ys1 ++ ys2) (K1 ++ K2) := by
  induction h with
  | nil => exact h2
  | cons h r ih => rw [List.cons_append, List.append_assoc, List.append_assoc]; exact .cons h ih
theorem EL.split (h : EL O F w l ys Ks) : ∀ {m : Nat}, m ≤ l.length → ∃ ys1 ys2 K1 K2, ys = ys1 ++ ys2 ∧ Ks = K1 ++ K2 ∧ EL O F w (l.take m) ys1 K1 ∧ EL O F w (l.drop m) ys2 K2 := by
  induction h with
  | nil => intro m _; refine ⟨[], [], [], [], rfl, rfl, ?_, ?_⟩ <;> (cases m <;> exact .nil)
  | cons h r ih =>
    intro m hm
    cases m with
    | zero => exact ⟨[], _, [], _, rfl, rfl, .nil, .cons h r⟩
    | succ m =>
      obtain ⟨ys1, ys2, K1, K2, rfl, rfl, h1, h2⟩ := ih (m := m) (by simpa using hm)
      exact ⟨_, ys2, _, K2, (List.append_assoc ..).symm, (List.append_assoc ..).symm, .cons h h1, h2⟩
theorem EL.uncons (h : EL O F w (x :: l) ys Ks) : ∃ vs ys' K Ks', ys = vs ++ ys' ∧ Ks = K ++ Ks' ∧ O.at_ F w x vs K ∧ EL O F w l ys' Ks' := by
  cases h with
  | cons h r => exact ⟨_, _, _, _, rfl, rfl, h, r⟩
theorem EL.frz (h : EL O F wF l ys Ks) : ∀ {cs : List Chunk}, Mem w0 (Ks ++ (Fz F wF :: cs)) w → ∃ F', Ext w0 F wF F' w ∧ RepL O.R F' w l ys ∧ Mem w0 (Fz F' w :: cs) w := by
  induction l generalizing ys Ks F wF with
  | nil =>
    intro cs hM
    cases h
    have hz := Mem.refz hM
    exact ⟨_, hz.1, RepL.nil, hz.2⟩
  | cons x l ih =>
    intro cs hM
    obtain ⟨vs, ys', K, Ks', rfl, rfl, hx, hr⟩ := h.uncons
    have hM1 : Mem w0 (K ++ (Fz F wF :: (Ks' ++ cs))) w := hM.perm (by rw [List.append_assoc]; exact List.Perm.append_left _ List.perm_middle)
    obtain ⟨F1, e1, r1, hM2⟩ := O.frz hx hM1
    obtain ⟨F2, e2, r2, hM3⟩ := ih (hr.move e1.sub e1.same) (hM2.perm List.perm_middle.symm)
    exact ⟨F2, e1.trans e2, RepL.cons (e2.rd r1) r2, hM3⟩
theorem EL.replicate {Kz : List Chunk} (h : O.at_ F w x vs Kz) (n : Nat) : EL O F w (List.replicate n x) (List.replicate n vs).flatten (List.replicate n Kz).flatten := by
  induction n with
  | zero => exact .nil
  | succ n ih => rw [List.replicate_succ, List.replicate_succ, List.replicate_succ, List.flatten_cons, List.flatten_cons]; exact .cons h ih
/-- The elements of a row of the call's own, with what they own. -/
def OwL (O : Own α) (F : Nat → Prop) (w : World) (l : List α) (ys : List Value) (K : Chunk) : Prop := ∃ Ks, K = Sx.bundle Ks ∧ EL O F w l ys Ks
/-- One element is taken out: vs are its cells. -/
def OwO (O : Own α) (F : Nat → Prop) (w : World) (l : List α) (m : Nat) (ys vs : List Value) (Kr : Chunk) : Prop :=
  ∃ l1 x l2 ys1 ys2 K1 K2, l = l1 ++ x :: l2 ∧ l1.length = m ∧ ys = ys1 ++ (vs ++ ys2) ∧ vs.length = O.R.z ∧ EL O F w l1 ys1 K1 ∧ EL O F w l2 ys2 K2 ∧ Kr = Sx.bundle (K1 ++ K2)
theorem OwL.len (h : OwL O F w l ys K) : ys.length = l.length * O.R.z := by obtain ⟨_, _, h⟩ := h; exact h.len
theorem OwL.one (h : OwL O F w l ys K) : ∀ u ∈ ys, u.oneCell' = true := by obtain ⟨_, _, h⟩ := h; exact h.one
theorem OwL.ext (h : OwL O F wF l ys K) (hx : Ext w0 F wF F' wF') : OwL O F' wF' l ys K := by obtain ⟨Ks, e, h⟩ := h; exact ⟨Ks, e, h.move hx.sub hx.same⟩
theorem OwL.nil : OwL O F w [] [] (Sx.bundle []) := ⟨[], rfl, .nil⟩
theorem OwL.of (h : EL O F w l ys Ks) : OwL O F w l ys (Sx.bundle Ks) := ⟨Ks, rfl, h⟩
theorem Mem.ofEL (hM : Mem w0 (Ks ++ cs) w') (h : EL O F w l ys Ks) : Mem w0 (Sx.bundle Ks :: cs) w' := hM.bundle h.owns
theorem OwO.ext {Kr : Chunk} (h : OwO O F wF l m ys vs Kr) (hx : Ext w0 F wF F' wF') : OwO O F' wF' l m ys vs Kr := by
  obtain ⟨l1, x, l2, ys1, ys2, K1, K2, e1, e2, e3, e4, h1, h2, e5⟩ := h
  exact ⟨l1, x, l2, ys1, ys2, K1, K2, e1, e2, e3, e4, h1.move hx.sub hx.same, h2.move hx.sub hx.same, e5⟩
theorem OwL.open_ (h : OwL O F w l ys K) (hm : l[m]? = some x) : ∃ vs Kx Kr, OwO O F w l m ys vs Kr ∧ O.at_ F w x vs Kx ∧ ∀ {w0 : World} {cs : List Chunk} {u : World}, Mem w0 (K :: cs) u → Mem w0 (Kr :: (Kx ++ cs)) u := by
  obtain ⟨Ks, rfl, h⟩ := h
  obtain ⟨hlt, hx⟩ := List.getElem?_eq_some_iff.1 hm
  obtain ⟨ys1, ys2, K1, K2, rfl, rfl, h1, h2⟩ := h.split (m := m) (Nat.le_of_lt hlt)
  rw [List.drop_eq_getElem_cons hlt, hx] at h2
  obtain ⟨vs, ys3, Kx, K3, rfl, rfl, h3, h4⟩ := h2.uncons
  refine ⟨vs, Kx, _, ⟨l.take m, x, l.drop (m + 1), ys1, ys3, K1, K3, ?_, ?_, rfl, O.len h3, h1, h4, rfl⟩, h3, fun {w0 cs u} hM => ?_⟩
  · rw [← hx, ← List.drop_eq_getElem_cons hlt, List.take_append_drop]
  · rw [List.length_take]; omega
  · have h5 := hM.unbundle
    refine Mem.bundle (G := K1 ++ K3) (h5.perm ?_) fun c hc => ?_
    · have p : (K1 ++ (Kx ++ K3)).Perm ((K1 ++ K3) ++ Kx) := by
        rw [List.append_assoc]; exact List.Perm.append_left _ List.perm_append_comm
      exact (p.append_right cs).trans (by rw [List.append_assoc])
    · rcases List.mem_append.1 hc with hc | hc
      · exact h1.owns c hc
      · exact h4.owns c hc
theorem OwO.close (h : OwO O F w l m ys vs Kr) (hx : O.at_ F w x vs Kx) : ∃ K, OwL O F w (l.set m x) ys K ∧ ∀ {w0 : World} {cs : List Chunk} {u : World}, Mem w0 (Kr :: (Kx ++ cs)) u → Mem w0 (K :: cs) u := by
  obtain ⟨l1, x0, l2, ys1, ys2, K1, K2, rfl, rfl, rfl, hv, h1, h2, rfl⟩ := h
  refine ⟨Sx.bundle (K1 ++ (Kx ++ K2)), ⟨_, rfl, ?_⟩, fun {w0 cs u} hM => ?_⟩
  · rw [List.set_append_right _ _ (Nat.le_refl _), Nat.sub_self, List.set_cons_zero]
    exact h1.app (.cons hx h2)
  · have h5 := hM.unbundle
    refine Mem.bundle (h5.perm ?_) fun c hc => ?_
    · have p : (K1 ++ (Kx ++ K2)).Perm ((K1 ++ K2) ++ Kx) := by
        rw [List.append_assoc]; exact List.Perm.append_left _ List.perm_append_comm
      exact ((p.append_right cs).trans (by rw [List.append_assoc])).symm
    · rcases List.mem_append.1 hc with hc | hc
      · exact h1.owns c hc
      · rcases List.mem_append.1 hc with hc | hc
        · exact O.owns hx c hc
        · exact h2.owns c hc
theorem OwO.same (h : OwO O F w l m ys vs Kr) (hm : l[m]? = some x) : l.set m x = l := by
  obtain ⟨hlt, rfl⟩ := List.getElem?_eq_some_iff.1 hm
  exact List.set_getElem_self hlt
theorem OwO.lt (h : OwO O F w l m ys vs Kr) : m < l.length := by
  obtain ⟨l1, x0, l2, ys1, ys2, K1, K2, rfl, rfl, rfl, hv, h1, h2, rfl⟩ := h
  simp
theorem OwO.len (h : OwO O F w l m ys vs Kr) : ys.length = l.length * O.R.z := by
  obtain ⟨l1, x0, l2, ys1, ys2, K1, K2, rfl, rfl, rfl, hv, h1, h2, rfl⟩ := h
  simp only [List.length_append, List.length_cons, hv, h1.len, h2.len, Nat.add_mul]
  omega
theorem OwO.cell (h : OwO O F w l m ys vs Kr) {i : Nat} {u : Value} (hi : vs[i]? = some u) : ys[m * O.R.z + i]? = some u := by
  obtain ⟨l1, x0, l2, ys1, ys2, K1, K2, rfl, rfl, rfl, hv, h1, h2, rfl⟩ := h
  have hil := (List.getElem?_eq_some_iff.1 hi).1
  rw [← h1.len, List.getElem?_append_right (by omega), Nat.add_sub_cancel_left, List.getElem?_append_left hil]; exact hi
theorem setAll_pre (us : List Value) : ∀ (a b : List Value) (o : Nat), setAll (a ++ b) (a.length + o) us = a ++ setAll b o us := by
  induction us with
  | nil => intro a b o; rfl
  | cons u us ih => intro a b o; simp only [setAll]; rw [List.set_append_right _ _ (by omega), show a.length + o - a.length = o by omega, Nat.add_assoc]; exact ih a _ _
theorem setAll_post (us : List Value) : ∀ (a b : List Value) (o : Nat), o + us.length ≤ a.length → setAll (a ++ b) o us = setAll a o us ++ b := by
  induction us with
  | nil => intro a b o _; rfl
  | cons u us ih =>
    intro a b o h
    simp only [List.length_cons] at h
    simp only [setAll]; rw [List.set_append_left _ _ (by omega)]; exact ih _ b (o + 1) (by rw [List.length_set]; omega)
theorem OwO.put (h : OwO O F w l m ys vs Kr) {o : Nat} (ho : o + us.length ≤ O.R.z) : OwO O F w l m (setAll ys (m * O.R.z + o) us) (setAll vs o us) Kr := by
  obtain ⟨l1, x0, l2, ys1, ys2, K1, K2, rfl, rfl, rfl, hv, h1, h2, rfl⟩ := h
  refine ⟨l1, x0, l2, ys1, ys2, K1, K2, rfl, rfl, ?_, by rw [setAll_length]; exact hv, h1, h2, rfl⟩
  rw [← h1.len, setAll_pre, setAll_post _ _ _ _ (by omega)]
/-- The element that is taken out is forgotten, a new one is put in its place. -/
theorem OwL.app (h : OwL O F w l1 ys1 K) (h2 : OwL O F w l2 ys2 Kr) : ∃ K', OwL O F w (l1 ++ l2) (ys1 ++ ys2) K' ∧ ∀ {w0 : World} {cs : List Chunk} {u : World}, Mem w0 (K :: Kr :: cs) u → Mem w0 (K' :: cs) u := by
  obtain ⟨Ka, rfl, h⟩ := h
  obtain ⟨Kb, rfl, h2⟩ := h2
  refine ⟨_, .of (h.app h2), fun {w0 cs u} hM => ?_⟩
  have h3 := (hM.unbundle.perm List.perm_middle).unbundle
  refine Mem.ofEL (h3.perm ?_) (h.app h2)
  rw [← List.append_assoc]
  exact List.perm_append_comm.append_right cs
theorem OwL.take (h : OwL O F w l ys K) {m : Nat} (hm : m ≤ l.length) : ∃ K', OwL O F w (l.take m) (ys.take (m * O.R.z)) K' ∧ ∀ {w0 : World} {cs : List Chunk} {u : World}, Mem w0 (K :: cs) u → Mem w0 (K' :: cs) u := by
  obtain ⟨Ks, rfl, h⟩ := h
  obtain ⟨ys1, ys2, K1, K2, rfl, rfl, h1, h2⟩ := h.split hm
  have hl : ys1.length = m * O.R.z := by rw [h1.len, List.length_take, Nat.min_eq_left hm]
  refine ⟨_, by rw [← hl, List.take_left]; exact .of h1, fun {w0 cs u} hM => ?_⟩
  have h3 := hM.unbundle
  rw [List.append_assoc] at h3
  exact Mem.ofEL (h3.sub (List.Sublist.append_left (List.sublist_append_right _ _) _)) h1
theorem OwL.del (h : OwL O F w l ys K) {a b : Nat} (hab : a ≤ b) (hb : b ≤ l.length) : ∃ K', OwL O F w (l.take a ++ l.drop b) (ys.take (a * O.R.z) ++ ys.drop (b * O.R.z)) K' ∧ ∀ {w0 : World} {cs : List Chunk} {u : World}, Mem w0 (K :: cs) u → Mem w0 (K' :: cs) u := by
  obtain ⟨Ks, rfl, h⟩ := h
  obtain ⟨ys1, ys2, K1, K2, rfl, rfl, h1, h2⟩ := h.split (m := a) (by omega)
  obtain ⟨ys3, ys4, K3, K4, rfl, rfl, h3, h4⟩ := h2.split (m := b - a) (by rw [List.length_drop]; omega)
  have hl : ys1.length = a * O.R.z := by rw [h1.len, List.length_take, Nat.min_eq_left (by omega)]
  have hl3 : ys3.length = (b - a) * O.R.z := by rw [h3.len, List.length_take, List.length_drop, Nat.min_eq_left (by omega)]
  rw [List.drop_drop, show a + (b - a) = b by omega] at h4
  have hba : b * O.R.z = ys1.length + ys3.length := by rw [hl, hl3, ← Nat.add_mul]; congr 1; omega
  refine ⟨Sx.bundle (K1 ++ K4), ?_, fun {w0 cs u} hM => ?_⟩
  · rw [← hl, List.take_left, hba, ← List.append_assoc, ← List.length_append, List.drop_left]
    exact .of (h1.app h4)
  · have h5 := hM.unbundle
    refine Mem.ofEL (h5.sub ?_) (h1.app h4)
    rw [List.append_assoc, List.append_assoc, List.append_assoc]
    exact List.Sublist.append_left (List.sublist_append_right _ _) _
theorem OwL.made {Kz : List Chunk} (h : O.at_ F w x vs Kz) (hz : ∀ {w0 : World} {cs : List Chunk} {u : World}, Mem w0 cs u → Mem w0 (Kz ++ cs) u) (n : Nat) : ∃ K, OwL O F w (List.replicate n x) (List.replicate n vs).flatten K ∧ ∀ {w0 : World} {cs : List Chunk} {u : World}, Mem w0 cs u → Mem w0 (K :: cs) u := by
  have hE := EL.replicate h n
  refine ⟨_, .of hE, fun {w0 cs u} hM => Mem.ofEL ?_ hE⟩
  clear hE
  induction n with
  | zero => exact hM
  | succ n ih => rw [List.replicate_succ, List.flatten_cons, List.append_assoc]; exact hz ih
theorem flat_get (vs : List Value) : ∀ (m k : Nat), k < m * vs.length → (List.replicate m vs).flatten[k]? = vs[k % vs.length]? := by
  intro m
  induction m with
  | zero => intro k h; omega
  | succ m ih =>
    intro k h
    rw [List.replicate_succ, List.flatten_cons]
    rw [Nat.add_mul] at h
    by_cases hk : k < vs.length
    · rw [List.getElem?_append_left hk, Nat.mod_eq_of_lt hk]
    · rw [List.getElem?_append_right (by omega), ih _ (by omega), ← Nat.mod_eq_sub_mod (by omega)]
theorem made_flat (vs : List Value) (hz : 0 < vs.length) (m : Nat) : (madeCells vs.toArray (m * vs.length)).toList = (List.replicate m vs).flatten := by
  apply List.ext_getElem?
  intro k
  by_cases hk : k < m * vs.length
  · rw [made_get _ _ _ hk, flat_get _ _ _ hk]
    have := Nat.mod_lt k hz
    simp [this]
  · rw [List.getElem?_eq_none (by simp [size_madeCells]; omega), List.getElem?_eq_none (by simp; omega)]
theorem OwL.madeOf {Kz : List Chunk} (h : O.at_ F w x vs Kz) (hz : ∀ {w0 : World} {cs : List Chunk} {u : World}, Mem w0 cs u → Mem w0 (Kz ++ cs) u) (hp : 0 < O.R.z) (n : Nat) : ∃ K, OwL O F w (List.replicate n x) (madeCells vs.toArray (n * O.R.z)).toList K ∧ ∀ {w0 : World} {cs : List Chunk} {u : World}, Mem w0 cs u → Mem w0 (K :: cs) u := by
  have hl := O.len h
  rw [← hl] at hp ⊢
  rw [made_flat vs hp n]
  exact OwL.made h hz n
variable {A : Option Addr} {n c z : Nat} {e : TypeId}
/-- A row, with what its elements own, becomes a slice that is read. -/
theorem Mem.freezeOwn (hM : Mem w0 (orow A n c e z ys :: K :: Fz F wF :: cs) w) (h : OwL O F wF l ys K) (hn : n = l.length) (hz : z = O.R.z) : ∃ F', Ext w0 F wF F' w ∧ RdS O.R F' w A c l ∧ Mem w0 (Fz F' w :: cs) w := by
  obtain ⟨Ks, rfl, h⟩ := h
  have h1 : Mem w0 (Ks ++ (orow A n c e z ys :: Fz F wF :: cs)) w := (hM.perm (List.Perm.swap _ _ _)).unbundle
  obtain ⟨F1, e1, r1, hM2⟩ := h.frz (cs := orow A n c e z ys :: cs) (h1.perm (List.Perm.append_left _ (List.Perm.swap _ _ _)))
  obtain ⟨F2, e2, r2, hM3⟩ := (hM2.perm (List.Perm.swap _ _ _)).freeze r1 hn hz
  exact ⟨F2, e1.trans e2, r2, hM3⟩
/-- It is read as it is now. -/
theorem Mem.ownS (hM : Mem w0 (orow A n c e z ys :: K :: Fz F wF :: cs) w) (h : OwL O F wF l ys K) (hn : n = l.length) (hz : z = O.R.z) : RdS O.R (fun b => b < w.heap.size) w A c l := by
  obtain ⟨F', _, r, hM'⟩ := hM.freezeOwn h hn hz
  exact r.move (hM'.fzlt 0 rfl) (fun _ _ => rfl)
/-- Elements by their cells alone. -/
def Rep.cells (z : Nat) : Rep (List Value) where
  z := z
  rd _ _ a vs := vs = a ∧ vs.length = z ∧ ∀ u ∈ vs, u.oneCell' = true
  len h := h.2.1
  one h := h.2.2
  move h _ _ := h
theorem EL.cells (h : EL O F w l ys Ks) : ∃ lr : List (List Value), lr.length = l.length ∧ RepL (Rep.cells O.R.z) F w lr ys := by
  induction h with
  | nil => exact ⟨[], rfl, RepL.nil⟩
  | cons h r ih =>
    rename_i x vs ys K Ks l
    obtain ⟨lr, h1, h2⟩ := ih
    exact ⟨vs :: lr, by simp [h1], RepL.cons (R := Rep.cells O.R.z) (x := vs) ⟨rfl, O.len h, O.one h⟩ h2⟩
theorem OwL.cells (h : OwL O F w l ys K) : ∃ lr : List (List Value), lr.length = l.length ∧ RepL (Rep.cells O.R.z) F w lr ys := by obtain ⟨_, _, h⟩ := h; exact h.cells
theorem RepL.uniq {z : Nat} {lr : List (List Value)} {y1 y2 : List Value} (h1 : RepL (Rep.cells z) F w lr y1) (h2 : RepL (Rep.cells z) F' w' lr y2) : y1 = y2 := by
  have e1 : y1.length = lr.length * z := h1.len
  have e2 : y2.length = lr.length * z := h2.len
  apply List.ext_getElem?
  intro k
  by_cases hk : k < lr.length * z
  · have hz : 0 < z := by
      rcases Nat.eq_zero_or_pos z with e | e
      · rw [e] at hk; omega
      · exact e
    have hj : k / z < lr.length := Nat.div_lt_of_lt_mul (by rw [Nat.mul_comm]; exact hk)
    have hr := Nat.mod_lt k hz
    obtain ⟨v1, q1, q2⟩ := h1.at_ (k / z) _ (List.getElem?_eq_getElem hj)
    obtain ⟨v2, q3, q4⟩ := h2.at_ (k / z) _ (List.getElem?_eq_getElem hj)
    obtain ⟨rfl, q5, _⟩ := q1
    obtain ⟨q6, _, _⟩ := q3
    have hd : k / z * z + k % z = k := Nat.div_add_mod' k z
    have g1 := q2 (k % z) _ (List.getElem?_eq_getElem (by omega))
    have g2 := q4 (k % z) _ (by rw [q6]; exact List.getElem?_eq_getElem (by omega))
    simp only [Rep.cells] at g1 g2
    rw [hd] at g1 g2
    rw [g1, g2]
  · rw [List.getElem?_eq_none (by omega), List.getElem?_eq_none (by omega)]
/-- A row with own elements that are told apart is a row of cells. -/
def Own.sr {β : Type} (R : Rep β) (e : TypeId) : Own (List β) where
  R := Rep.sl R
  at_ F w l vs K := ∃ A c y, vs = [.slice A l.length c] ∧ K = [orow A l.length c e R.z y] ∧ RepL R F w l y
  owns h := by obtain ⟨A, c, y, rfl, rfl, _⟩ := h; intro d hd; obtain rfl := List.mem_singleton.1 hd; trivial
  len h := by obtain ⟨A, c, y, rfl, rfl, _⟩ := h; rfl
  one h := by obtain ⟨A, c, y, rfl, rfl, _⟩ := h; simp [Value.oneCell']
  move h hF hw := by obtain ⟨A, c, y, h1, h2, h3⟩ := h; exact ⟨A, c, y, h1, h2, h3.move hF hw⟩
  frz h hM := by
    obtain ⟨A, c, y, rfl, rfl, h3⟩ := h
    obtain ⟨F1, e1, r1, hM2⟩ := Mem.freeze hM h3 rfl rfl
    exact ⟨F1, e1, slrd r1, hM2⟩
def Own.sd {β : Type} (O : Own β) (e : TypeId) : Own (List β) where
  R := Rep.sl O.R
  at_ F w l vs K := ∃ A c y k, vs = [.slice A l.length c] ∧ K = [orow A l.length c e O.R.z y, k] ∧ OwL O F w l y k
  owns h := by
    obtain ⟨A, c, y, k, rfl, rfl, Ks, rfl, _⟩ := h
    intro d hd
    rcases List.mem_cons.1 hd with rfl | hd
    · trivial
    · obtain rfl := List.mem_singleton.1 hd; trivial
  len h := by obtain ⟨A, c, y, k, rfl, rfl, _⟩ := h; rfl
  one h := by obtain ⟨A, c, y, k, rfl, rfl, _⟩ := h; simp [Value.oneCell']
  move h hF hw := by obtain ⟨A, c, y, k, h1, h2, Ks, h4, h3⟩ := h; exact ⟨A, c, y, k, h1, h2, Ks, h4, h3.move hF hw⟩
  frz h hM := by
    obtain ⟨A, c, y, k, rfl, rfl, h3⟩ := h
    obtain ⟨F1, e1, r1, hM2⟩ := Mem.freezeOwn hM h3 rfl rfl
    exact ⟨F1, e1, slrd r1, hM2⟩
end
end Go.Proofs.YtbfndcookgijfaaGreatDoor.Sx
