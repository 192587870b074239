/- Maps of the call's own whose values are the call's own too. No condition. -/
import Derived.Test.YtbfndcookgijfaaGreatDoorExOwn
import Derived.Test.YtbfndcookgijfaaGreatDoorExMap
namespace Go.Proofs.YtbfndcookgijfaaGreatDoor.Sx
open Go Go.RowKit
set_option linter.unusedVariables false
set_option linter.unusedSimpArgs false
/-- A case that hangs on a value being there. -/
def oel {α γ : Type} (o : Option α) (a : Option γ) (f : α → Option γ) : Option γ := match o with | none => a | some x => f x
theorem oel_some {α γ : Type} {o : Option α} {a : Option γ} {f : α → Option γ} {r : γ} (h : oel o a f = some r) : (o = none ∧ a = some r) ∨ ∃ x, o = some x ∧ f x = some r := by
  cases o with
  | none => exact .inl ⟨rfl, h⟩
  | some x => exact .inr ⟨x, rfl, h⟩
theorem getD_some_some {α : Type} {o : Option (Option α)} {x : α} (h : o.getD none = some x) : o = some (some x) := by
  cases o with
  | none => cases h
  | some y => exact congrArg some h
/-- Values by their cells alone. -/
def Rep.raw (α : Type) (z : Nat) : Rep (α × List Value) where
  z := z
  rd _ _ p vs := vs = p.2 ∧ vs.length = z ∧ ∀ u ∈ vs, u.oneCell' = true
  len h := h.2.1
  one h := h.2.2
  move h _ _ := h
section
variable {κ ν : Type} [DecidableEq κ]
def un (l : List (κ × (ν × List Value))) : List (κ × ν) := l.map fun p => (p.1, p.2.1)
omit [DecidableEq κ] in
theorem un_app (a b : List (κ × (ν × List Value))) : un (a ++ b) = un a ++ un b := by unfold un; rw [List.map_append]
theorem un_mfind (l : List (κ × (ν × List Value))) (k : κ) : mfind (un l) k = mfind l k := by unfold mfind un; rw [List.findIdx?_map]; rfl
theorem un_mget (l : List (κ × (ν × List Value))) (k : κ) : mget (un l) k = (mget l k).map (·.1) := by
  unfold mget un
  rw [List.find?_map]
  have : ((fun p : κ × ν => decide (p.1 = k)) ∘ fun p : κ × (ν × List Value) => (p.1, p.2.1)) = fun p => decide (p.1 = k) := rfl
  rw [this]
  cases l.find? (fun p => decide (p.1 = k)) <;> rfl
theorem un_mput (l : List (κ × (ν × List Value))) (k : κ) (v : ν) (vs : List Value) : un (mput l k (v, vs)) = mput (un l) k v := by
  unfold mput
  rw [un_mfind]
  cases mfind l k with
  | none => exact un_app _ _
  | some i => unfold un; rw [List.map_set]
theorem un_mdel (l : List (κ × (ν × List Value))) (k : κ) : un (mdel l k) = mdel (un l) k := by
  unfold mdel
  rw [un_mfind]
  cases mfind l k with
  | none => rfl
  | some i => unfold un; rw [map_erase]
end
inductive ML {κ ν : Type} (O : Own ν) (F : Nat → Prop) (w : World) : List (κ × (ν × List Value)) → List Chunk → Prop where
  | nil : ML O F w [] []
  | cons {p : κ × (ν × List Value)} {K Ks : List Chunk} {l : List (κ × (ν × List Value))} (h : O.at_ F w p.2.1 p.2.2 K) (r : ML O F w l Ks) : ML O F w (p :: l) (K ++ Ks)
section
variable {κ ν : Type} {O : Own ν} {F F' : Nat → Prop} {w0 w w' wF wF' : World} {l l1 l2 : List (κ × (ν × List Value))} {Ks K1 K2 Kx cs : List Chunk}
theorem ML.owns (h : ML O F w l Ks) : ∀ c ∈ Ks, c.owning := by
  induction h with
  | nil => simp
  | cons h r ih =>
    intro c hc
    rcases List.mem_append.1 hc with hc | hc
    · exact O.owns h c hc
    · exact ih c hc
theorem ML.move (h : ML O F w l Ks) (hF : ∀ b, F b → F' b) (hw : ∀ b, F b → w'.heap[b]? = w.heap[b]?) : ML O F' w' l Ks := by
  induction h with
  | nil => exact .nil
  | cons h r ih => exact .cons (O.move h hF hw) ih
theorem ML.app (h : ML O F w l1 K1) (h2 : ML O F w l2 K2) : ML O F w (l1 ++ l2) (K1 ++ K2) := by
  induction h with
  | nil => exact h2
  | cons h r ih => rw [List.cons_append, List.append_assoc]; exact .cons h ih
theorem ML.split (h : ML O F w l Ks) : ∀ {m : Nat}, m ≤ l.length → ∃ K1 K2, Ks = K1 ++ K2 ∧ ML O F w (l.take m) K1 ∧ ML O F w (l.drop m) K2 := by
  induction h with
  | nil => intro m _; refine ⟨[], [], rfl, ?_, ?_⟩ <;> (cases m <;> exact .nil)
  | cons h r ih =>
    intro m hm
    cases m with
    | zero => exact ⟨[], _, rfl, .nil, .cons h r⟩
    | succ m =>
      obtain ⟨K1, K2, rfl, h1, h2⟩ := ih (m := m) (by simpa using hm)
      exact ⟨_, K2, (List.append_assoc ..).symm, .cons h h1, h2⟩
theorem ML.uncons {p : κ × (ν × List Value)} (h : ML O F w (p :: l) Ks) : ∃ K Ks', Ks = K ++ Ks' ∧ O.at_ F w p.2.1 p.2.2 K ∧ ML O F w l Ks' := by
  cases h with
  | cons h r => exact ⟨_, _, rfl, h, r⟩
theorem ML.frz (h : ML O F wF l Ks) : ∀ {cs : List Chunk}, Mem w0 (Ks ++ (Fz F wF :: cs)) w → ∃ F', Ext w0 F wF F' w ∧ (∀ p ∈ l, O.R.rd F' w p.2.1 p.2.2) ∧ Mem w0 (Fz F' w :: cs) w := by
  induction l generalizing Ks F wF with
  | nil =>
    intro cs hM
    cases h
    have hz := Mem.refz hM
    exact ⟨_, hz.1, by simp, hz.2⟩
  | cons p l ih =>
    intro cs hM
    obtain ⟨K, Ks', rfl, hx, hr⟩ := h.uncons
    have hM1 : Mem w0 (K ++ (Fz F wF :: (Ks' ++ cs))) w := hM.perm (by rw [List.append_assoc]; exact List.Perm.append_left _ List.perm_middle)
    obtain ⟨F1, e1, r1, hM2⟩ := O.frz hx hM1
    obtain ⟨F2, e2, r2, hM3⟩ := ih (hr.move e1.sub e1.same) (hM2.perm List.perm_middle.symm)
    refine ⟨F2, e1.trans e2, fun q hq => ?_, hM3⟩
    rcases List.mem_cons.1 hq with rfl | hq
    · exact e2.rd r1
    · exact r2 q hq
end
section
variable {κ ν : Type} [DecidableEq κ] {key : κ → Value} {O : Own ν} {agg : Bool} {F F' : Nat → Prop} {w0 w w' wF wF' : World} {l : List (κ × ν)} {es : Array MapEntry} {ck : Nat} {K Kr : Chunk} {Kx cs : List Chunk} {k : κ} {x : ν} {vs : List Value} {P : Program} {t kt vt : TypeId}
/-- A map of the call's own with own values: its object holds es; what the values own lies in K. -/
def MapW (key : κ → Value) (O : Own ν) (agg : Bool) (F : Nat → Prop) (w : World) (l : List (κ × ν)) (es : Array MapEntry) (ck : Nat) (K : Chunk) : Prop :=
  ∃ lp Ks, un lp = l ∧ MapOK key (Rep.raw ν O.R.z) agg F w lp es ck ∧ ML O F w lp Ks ∧ K = bundle Ks
/-- One value is taken out: vs are its cells. -/
def MapH (key : κ → Value) (O : Own ν) (agg : Bool) (F : Nat → Prop) (w : World) (l : List (κ × ν)) (k : κ) (es : Array MapEntry) (ck : Nat) (vs : List Value) (Kr : Chunk) : Prop :=
  ∃ l1 x l2 K1 K2, un (l1 ++ (k, (x, vs)) :: l2) = l ∧ mfind (l1 ++ (k, (x, vs)) :: l2) k = some l1.length ∧ MapOK key (Rep.raw ν O.R.z) agg F w (l1 ++ (k, (x, vs)) :: l2) es ck ∧ ML O F w l1 K1 ∧ ML O F w l2 K2 ∧ Kr = bundle (K1 ++ K2)
omit [DecidableEq κ] in
theorem MapW.ext (h : MapW key O agg F wF l es ck K) (hx : Ext w0 F wF F' wF') : MapW key O agg F' wF' l es ck K := by
  obtain ⟨lp, Ks, h1, h2, h3, h4⟩ := h; exact ⟨lp, Ks, h1, h2.ext hx, h3.move hx.sub hx.same, h4⟩
theorem MapH.ext (h : MapH key O agg F wF l k es ck vs Kr) (hx : Ext w0 F wF F' wF') : MapH key O agg F' wF' l k es ck vs Kr := by
  obtain ⟨l1, x, l2, K1, K2, h1, h2, h3, h4, h5, h6⟩ := h
  exact ⟨l1, x, l2, K1, K2, h1, h2, h3.ext hx, h4.move hx.sub hx.same, h5.move hx.sub hx.same, h6⟩
omit [DecidableEq κ] in
theorem MapW.nil : MapW key O agg F w ([] : List (κ × ν)) #[] 0 (bundle []) := ⟨[], [], rfl, MapOK.nil, .nil, rfl⟩
omit [DecidableEq κ] in
theorem MapW.len (h : MapW key O agg F w l es ck K) : es.size = l.length := by
  obtain ⟨lp, Ks, rfl, h2, _⟩ := h; rw [h2.len]; simp [un]
theorem MapW.look (h : MapW key O agg F w l es ck K) (hk : KeyLaw P kt key) (ht : P.underlying t = some (.map kt vt)) (hg : mget l k = some x) : ∃ vs Kx Kr, MapH key O agg F w l k es ck vs Kr ∧ O.at_ F w x vs Kx ∧ (∀ {w0 : World} {cs : List Chunk} {u : World}, Mem w0 (K :: cs) u → Mem w0 (Kr :: (Kx ++ cs)) u) ∧
    ∀ (ok : Bool) (b : Nat) (w2 : World), w2.heap[b]? = some (.map es ck) → (Instr.lookup t (.map (some b)) (key k) ok).run P w2 = .ok (if ok then .tuple #[vval agg vs, .bool true] else vval agg vs) w2 := by
  obtain ⟨lp, Ks, rfl, h2, h3, rfl⟩ := h
  rw [un_mget] at hg
  obtain ⟨⟨x', vs⟩, hv, rfl⟩ := Option.map_eq_some_iff.1 hg
  have hf : ∃ i, mfind lp k = some i := by
    cases hm : mfind lp k with
    | none => rw [(mfind_none hm).1] at hv; cases hv
    | some i => exact ⟨i, rfl⟩
  obtain ⟨i, hi⟩ := hf
  obtain ⟨v0, g1, g2⟩ := mfind_some hi
  rw [hv] at g2
  obtain rfl := Option.some.inj g2
  obtain ⟨hlt, hel⟩ := List.getElem?_eq_some_iff.1 g1
  obtain ⟨K1, K2, rfl, m1, m2⟩ := h3.split (m := i) (Nat.le_of_lt hlt)
  rw [List.drop_eq_getElem_cons hlt, hel] at m2
  obtain ⟨Kx, K3, rfl, hx, m3⟩ := m2.uncons
  have hsp : lp.take i ++ (k, (x', vs)) :: lp.drop (i + 1) = lp := by rw [← hel, ← List.drop_eq_getElem_cons hlt, List.take_append_drop]
  have htl : (lp.take i).length = i := by rw [List.length_take]; omega
  obtain ⟨e, vs', q1, q2, q3⟩ := h2.vals i _ g1
  obtain rfl : vs' = vs := q2.1
  refine ⟨vs', Kx, _, ⟨lp.take i, x', lp.drop (i + 1), K1, K3, by rw [hsp], by rw [hsp, htl]; exact hi, by rw [hsp]; exact h2, m1, m3, rfl⟩, hx, fun {w0 cs u} hM => ?_, fun ok b w2 hb => ?_⟩
  · have h5 := hM.unbundle
    refine Mem.bundle (G := K1 ++ K3) (h5.perm ?_) fun c hc => ?_
    · have p : (K1 ++ (Kx ++ K3)).Perm ((K1 ++ K3) ++ Kx) := by
        rw [List.append_assoc]; exact List.Perm.append_left _ List.perm_append_comm
      exact (p.append_right cs).trans (by rw [List.append_assoc])
    · rcases List.mem_append.1 hc with hc | hc
      · exact m1.owns c hc
      · exact m3.owns c hc
  · have hfnd := h2.found hk k w2
    rw [hi, Option.map_some, q1] at hfnd
    cases ok <;> simp [Instr.lookup, run_underlying ht, run_getMap hb, hk.check, hfnd, q3]
theorem MapW.miss (h : MapW key O agg F w l es ck K) (hk : KeyLaw P kt key) (ht : P.underlying t = some (.map kt vt)) (hg : mget l k = none) {zs : List Value} (hzv : ∀ u, (zeroValue vt).run P u = .ok (vval agg zs) u) :
    ∀ (ok : Bool) (b : Nat) (w2 : World), w2.heap[b]? = some (.map es ck) → (Instr.lookup t (.map (some b)) (key k) ok).run P w2 = .ok (if ok then .tuple #[vval agg zs, .bool false] else vval agg zs) w2 := by
  obtain ⟨lp, Ks, rfl, h2, h3, rfl⟩ := h
  rw [un_mget, Option.map_eq_none_iff] at hg
  intro ok b w2 hb
  have hf := h2.found hk k w2
  cases hm : mfind lp k with
  | some i => obtain ⟨v, _, g⟩ := mfind_some hm; rw [hg] at g; cases g
  | none =>
    rw [hm] at hf
    cases ok <;> simp [Instr.lookup, run_underlying ht, run_getMap hb, hk.check, hf, hzv]
theorem MapH.close (h : MapH key O agg F w l k es ck vs Kr) (hx : O.at_ F w x vs Kx) : ∃ K, MapW key O agg F w (mput l k x) es ck K ∧ ∀ {w0 : World} {cs : List Chunk} {u : World}, Mem w0 (Kr :: (Kx ++ cs)) u → Mem w0 (K :: cs) u := by
  obtain ⟨l1, x0, l2, K1, K2, rfl, hf, h3, m1, m2, rfl⟩ := h
  refine ⟨bundle (K1 ++ (Kx ++ K2)), ⟨l1 ++ (k, (x, vs)) :: l2, _, ?_, ?_, m1.app (.cons (p := (k, (x, vs))) hx m2), rfl⟩, fun {w0 cs u} hM => ?_⟩
  · rw [← un_mput _ k x vs]
    unfold mput
    rw [hf]
    show un (l1 ++ (k, (x, vs)) :: l2) = un ((l1 ++ (k, (x0, vs)) :: l2).set l1.length (k, (x, vs)))
    rw [List.set_append_right _ _ (Nat.le_refl _), Nat.sub_self, List.set_cons_zero]
  · refine ⟨?_, fun i p hp => ?_, h3.born, h3.nodup⟩
    · rw [h3.keys]; simp
    · by_cases hlt : i < l1.length
      · exact h3.vals i p (by rw [List.getElem?_append_left hlt] at hp ⊢; exact hp)
      · rw [List.getElem?_append_right (by omega)] at hp
        by_cases he : i - l1.length = 0
        · rw [he] at hp
          simp at hp
          subst hp
          obtain ⟨e, vs', q1, q2, q3⟩ := h3.vals i (k, (x0, vs)) (by rw [List.getElem?_append_right (by omega), he]; rfl)
          exact ⟨e, vs', q1, ⟨q2.1, q2.2⟩, q3⟩
        · obtain ⟨j, hj⟩ : ∃ j, i - l1.length = j + 1 := ⟨i - l1.length - 1, by omega⟩
          rw [hj, List.getElem?_cons_succ] at hp
          exact h3.vals i p (by rw [List.getElem?_append_right (by omega), hj, List.getElem?_cons_succ]; exact hp)
  · have h5 := hM.unbundle
    refine Mem.bundle (h5.perm ?_) fun c hc => ?_
    · have p : (K1 ++ (Kx ++ K2)).Perm ((K1 ++ K2) ++ Kx) := by
        rw [List.append_assoc]; exact List.Perm.append_left _ List.perm_append_comm
      exact ((p.append_right cs).trans (by rw [List.append_assoc])).symm
    · rcases List.mem_append.1 hc with hc | hc
      · exact m1.owns c hc
      · rcases List.mem_append.1 hc with hc | hc
        · exact O.owns hx c hc
        · exact m2.owns c hc
theorem mput_same {κ ν : Type} [DecidableEq κ] {l : List (κ × ν)} {k : κ} {x : ν} (h : mget l k = some x) : mput l k x = l := by
  unfold mput
  cases hm : mfind l k with
  | none => rw [(mfind_none hm).1] at h; cases h
  | some i =>
    obtain ⟨v, g1, g2⟩ := mfind_some hm
    rw [h] at g2
    obtain rfl := Option.some.inj g2
    obtain ⟨hlt, he⟩ := List.getElem?_eq_some_iff.1 g1
    show l.set i (k, x) = l
    rw [← he]; exact List.set_getElem_self hlt
theorem ML.put {lp : List (κ × (ν × List Value))} {Ks : List Chunk} (h : ML O F w lp Ks) (hx : O.at_ F w x vs Kx) : ∃ Ks', ML O F w (mput lp k (x, vs)) Ks' ∧ ∀ {w0 : World} {cs : List Chunk} {u : World}, Mem w0 (bundle Ks :: (Kx ++ cs)) u → Mem w0 (bundle Ks' :: cs) u := by
  unfold mput
  cases hm : mfind lp k with
  | none =>
    have h1 : ML O F w (lp ++ [(k, (x, vs))]) (Ks ++ (Kx ++ [])) := h.app (.cons (p := (k, (x, vs))) hx .nil)
    refine ⟨_, h1, fun {w0 cs u} hM => ?_⟩
    have h5 := hM.unbundle
    refine Mem.bundle (h5.perm ?_) h1.owns
    rw [List.append_nil, List.append_assoc]
  | some i =>
    obtain ⟨v0, g1, _⟩ := mfind_some hm
    obtain ⟨hlt, hel⟩ := List.getElem?_eq_some_iff.1 g1
    obtain ⟨K1, K2, rfl, m1, m2⟩ := h.split (m := i) (Nat.le_of_lt hlt)
    rw [List.drop_eq_getElem_cons hlt, hel] at m2
    obtain ⟨K0, K3, rfl, _, m3⟩ := m2.uncons
    have h1 : ML O F w (lp.set i (k, (x, vs))) (K1 ++ (Kx ++ K3)) := by
      rw [List.set_eq_take_append_cons_drop, if_pos hlt]
      exact m1.app (.cons (p := (k, (x, vs))) hx m3)
    refine ⟨_, h1, fun {w0 cs u} hM => ?_⟩
    have h5 := hM.unbundle
    have h6 : Mem w0 ((K1 ++ (Kx ++ K3)) ++ (K0 ++ cs)) u := h5.perm (by
      have p1 : (K1 ++ (K0 ++ K3)).Perm ((K1 ++ K3) ++ K0) := by rw [List.append_assoc]; exact List.Perm.append_left _ List.perm_append_comm
      have p2 : (K1 ++ (Kx ++ K3)).Perm ((K1 ++ K3) ++ Kx) := by rw [List.append_assoc]; exact List.Perm.append_left _ List.perm_append_comm
      refine (p1.append_right (Kx ++ cs)).trans ?_
      refine List.Perm.trans ?_ (p2.symm.append_right (K0 ++ cs))
      rw [List.append_assoc (K1 ++ K3), List.append_assoc (K1 ++ K3)]
      refine List.Perm.append_left _ ?_
      rw [← List.append_assoc, ← List.append_assoc]
      exact List.perm_append_comm.append_right cs)
    exact Mem.bundle (h6.sub (List.Sublist.append_left (List.sublist_append_right _ _) _)) h1.owns
theorem MapW.update (h : MapW key O agg F w l es ck K) (hk : KeyLaw P kt key) (ht : P.underlying t = some (.map kt vt)) (k : κ) (hx : O.at_ F w x vs Kx) : ∃ es' ck' K', MapW key O agg F w (mput l k x) es' ck' K' ∧ (∀ {w0 : World} {cs : List Chunk} {u : World}, Mem w0 (K :: (Kx ++ cs)) u → Mem w0 (K' :: cs) u) ∧
    ∀ (b : Nat) (w2 : World), w2.heap[b]? = some (.map es ck) → (Instr.mapUpdate t (.map (some b)) (key k) (vval agg vs)).run P w2 = .ok () { w2 with heap := w2.heap.setIfInBounds b (.map es' ck') } := by
  obtain ⟨lp, Ks, rfl, h2, h3, rfl⟩ := h
  obtain ⟨es', ck', g1, g2⟩ := h2.update (v := (x, vs)) hk ht k ⟨rfl, O.len hx, O.one hx⟩
  obtain ⟨Ks', m1, m2⟩ := h3.put (k := k) hx
  exact ⟨es', ck', _, ⟨_, Ks', un_mput _ _ _ _, g1, m1, rfl⟩, m2, g2⟩
theorem MapW.delete (h : MapW key O agg F w l es ck K) (hk : KeyLaw P kt key) (ht : P.underlying t = some (.map kt vt)) (k : κ) : ∃ es' ck' K', MapW key O agg F w (mdel l k) es' ck' K' ∧ (∀ {w0 : World} {cs : List Chunk} {u : World}, Mem w0 (K :: cs) u → Mem w0 (K' :: cs) u) ∧
    ∀ (b : Nat) (t2 ty : TypeId) (w2 : World), w2.heap[b]? = some (.map es ck) → (Builtin.delete_ #[t, t2] ty #[.map (some b), key k]).run P w2 = .ok (.tuple #[]) { w2 with heap := w2.heap.setIfInBounds b (.map es' ck') } := by
  obtain ⟨lp, Ks, rfl, h2, h3, rfl⟩ := h
  obtain ⟨es', ck', g1, g2⟩ := h2.delete hk ht k
  have hm : ∃ Ks', ML O F w (mdel lp k) Ks' ∧ Ks'.Sublist Ks := by
    unfold mdel
    cases hm : mfind lp k with
    | none => exact ⟨Ks, h3, List.Sublist.refl _⟩
    | some i =>
      obtain ⟨v0, q1, _⟩ := mfind_some hm
      obtain ⟨hlt, hel⟩ := List.getElem?_eq_some_iff.1 q1
      obtain ⟨K1, K2, rfl, m1, m2⟩ := h3.split (m := i) (Nat.le_of_lt hlt)
      rw [List.drop_eq_getElem_cons hlt, hel] at m2
      obtain ⟨K0, K3, rfl, _, m3⟩ := m2.uncons
      refine ⟨K1 ++ K3, ?_, List.Sublist.append_left (List.sublist_append_right _ _) _⟩
      show ML O F w (lp.eraseIdx i) _
      rw [List.eraseIdx_eq_take_drop_succ]
      exact m1.app m3
  obtain ⟨Ks', m1, m2⟩ := hm
  refine ⟨es', ck', _, ⟨_, Ks', un_mdel _ _, g1, m1, rfl⟩, fun {w0 cs u} hM => ?_, g2⟩
  exact Mem.bundle (hM.unbundle.sub (List.Sublist.append m2 (List.Sublist.refl _))) m1.owns
/-- A map that may be nil, with values that are read. -/
def Own.mr {κ' ν' : Type} (key' : κ' → Value) (R : Rep ν') (agg' : Bool) : Own (Option (List (κ' × ν'))) where
  R := Rep.map key' R agg'
  at_ F w x vs K := match x with
    | none => vs = [.map none] ∧ K = []
    | some l => ∃ b es ck, vs = [.map (some b)] ∧ K = [.obj b (.map es ck)] ∧ MapOK key' R agg' F w l es ck
  owns {F w a vs K} h := by
    cases a with
    | none => obtain ⟨_, rfl⟩ := h; simp
    | some l => obtain ⟨b, es, ck, _, rfl, _⟩ := h; intro d hd; obtain rfl := List.mem_singleton.1 hd; trivial
  len {F w a vs K} h := by
    cases a with
    | none => obtain ⟨rfl, _⟩ := h; rfl
    | some l => obtain ⟨b, es, ck, rfl, _⟩ := h; rfl
  one {F w a vs K} h := by
    cases a with
    | none => obtain ⟨rfl, _⟩ := h; simp [Value.oneCell']
    | some l => obtain ⟨b, es, ck, rfl, _⟩ := h; simp [Value.oneCell']
  move {F F' w w' a vs K} h hF hw := by
    cases a with
    | none => exact h
    | some l => obtain ⟨b, es, ck, h1, h2, h3⟩ := h; exact ⟨b, es, ck, h1, h2, h3.move hF hw⟩
  frz {w0 w wF F a vs K cs} h hM := by
    cases a with
    | none =>
      obtain ⟨rfl, rfl⟩ := h
      have hz := Mem.refz hM
      exact ⟨_, hz.1, ⟨none, rfl, rfl⟩, hz.2⟩
    | some l =>
      obtain ⟨b, es, ck, rfl, rfl, h3⟩ := h
      obtain ⟨F1, e1, r1, hM2⟩ := Mem.freezeMap hM h3
      exact ⟨F1, e1, ⟨some b, rfl, r1⟩, hM2⟩
/-- A look-up that finds no map. -/
theorem MapW.lookNil {κ' ν' : Type} {l : List (κ × Option (List (κ' × ν')))} {Om : Own (Option (List (κ' × ν')))} (hOm : ∀ {F w vs K}, Om.at_ F w none vs K → vs = [.map none]) (h : MapW key Om false F w l es ck K) (hk : KeyLaw P kt key) (ht : P.underlying t = some (.map kt vt)) (hg : (mget l k).getD none = none) (hzv : ∀ u, (zeroValue vt).run P u = .ok (.map none) u) :
    ∀ (ok : Bool) (b : Nat) (w2 : World), w2.heap[b]? = some (.map es ck) → (Instr.lookup t (.map (some b)) (key k) ok).run P w2 = .ok (if ok then .tuple #[.map none, .bool (mget l k).isSome] else .map none) w2 := by
  intro ok b w2 hb
  cases hm : mget l k with
  | none => exact h.miss hk ht hm (zs := [.map none]) hzv ok b w2 hb
  | some x =>
    rw [hm] at hg
    simp only [Option.getD_some] at hg
    subst hg
    obtain ⟨vs, Kx, Kr, _, h2, _, h4⟩ := h.look hk ht hm
    obtain rfl := hOm h2
    exact h4 ok b w2 hb
end
end Go.Proofs.YtbfndcookgijfaaGreatDoor.Sx
