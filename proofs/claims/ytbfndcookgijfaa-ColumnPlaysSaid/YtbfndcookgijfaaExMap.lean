/- Maps: plain lists of pairs, how they lie in memory, and the rules of the operations on them. No condition. -/
import Derived.Test.YtbfndcookgijfaaExMem
import Derived.Laws.StructEq
import Derived.Lib.Strings
namespace Go.Proofs.Ytbfndcookgijfaa.Sx
open Go Go.RowKit
set_option linter.unusedVariables false
set_option linter.unusedSimpArgs false
section
variable {κ ν : Type} [DecidableEq κ]
/-! ### Plain maps -/
def mfind (l : List (κ × ν)) (k : κ) : Option Nat := l.findIdx? fun p => decide (p.1 = k)
def mget (l : List (κ × ν)) (k : κ) : Option ν := (l.find? fun p => decide (p.1 = k)).map (·.2)
def mput (l : List (κ × ν)) (k : κ) (v : ν) : List (κ × ν) := match mfind l k with | some i => l.set i (k, v) | none => l ++ [(k, v)]
def mdel (l : List (κ × ν)) (k : κ) : List (κ × ν) := match mfind l k with | some i => l.eraseIdx i | none => l
theorem mfind_keys (l : List (κ × ν)) (k : κ) : (l.map (·.1)).findIdx? (fun x => decide (x = k)) = mfind l k := by unfold mfind; rw [List.findIdx?_map]; rfl
theorem mfind_some {l : List (κ × ν)} {k : κ} {i : Nat} (h : mfind l k = some i) : ∃ v, l[i]? = some (k, v) ∧ mget l k = some v := by
  unfold mfind at h
  rw [List.findIdx?_eq_some_iff_getElem] at h
  obtain ⟨hi, h1, h2⟩ := h
  have hk := of_decide_eq_true h1
  refine ⟨l[i].2, by rw [List.getElem?_eq_getElem hi, ← hk], ?_⟩
  unfold mget
  have hf : l.find? (fun p => decide (p.1 = k)) = some l[i] := List.find?_eq_some_iff_getElem.2 ⟨h1, i, hi, rfl, fun j hj => by have := h2 j hj; simpa using this⟩
  rw [hf]; rfl
theorem mfind_none {l : List (κ × ν)} {k : κ} (h : mfind l k = none) : mget l k = none ∧ k ∉ l.map (·.1) := by
  unfold mfind at h
  rw [List.findIdx?_eq_none_iff] at h
  refine ⟨?_, fun hm => ?_⟩
  · unfold mget; rw [List.find?_eq_none.2 fun x hx => by simpa using h x hx]; rfl
  · obtain ⟨p, hp, e⟩ := List.mem_map.1 hm
    have := h p hp
    rw [decide_eq_true e] at this; cases this
end
/-! ### Keys -/
structure KeyLaw (P : Program) (kt : TypeId) {κ : Type} [DecidableEq κ] (key : κ → Value) : Prop where
  check : ∀ (b : Bool) (k : κ) (w : World), (Instr.checkKey b 10000 kt (key k)).run P w = .ok () w
  find : ∀ (k : κ) (ks : List κ) (es : List MapEntry) (w : World), es.map (·.key) = ks.map key → (Instr.findKey kt (key k) es).run P w = .ok ((ks.findIdx? fun x => decide (x = k)).map fun i => (i, ((es[i]?).map (·.val)).getD undef)) w
  same : ∀ k, Instr.sameBits 10000 (key k) (key k) = true
theorem findNow_gen {κ : Type} [DecidableEq κ] {key : κ → Value} {d : TypeDesc} (hs : ∀ a b, Instr.sameNow d (key a) (key b) = some (decide (b = a))) (k : κ) : ∀ (ks : List κ) (es : List MapEntry) (i : Nat), es.map (·.key) = ks.map key →
    Instr.findNow d (key k) es i = some ((ks.findIdx? fun x => decide (x = k)).map fun j => (i + j, ((es[j]?).map (·.val)).getD undef)) := by
  intro ks
  induction ks with
  | nil => intro es i h; simp only [List.map_nil, List.map_eq_nil_iff] at h; subst h; rfl
  | cons x ks ih =>
    intro es i h
    cases es with
    | nil => simp at h
    | cons e es =>
      simp only [List.map_cons, List.cons.injEq] at h
      simp only [Instr.findNow, h.1, hs k x, List.findIdx?_cons]
      by_cases hx : x = k
      · simp [hx]
      · simp only [hx, decide_false, Bool.false_eq_true, if_false]
        rw [ih es (i + 1) h.2]
        cases ks.findIdx? (fun x => decide (x = k)) with
        | none => rfl
        | some j => simp [Nat.add_assoc, Nat.add_comm 1 j]
theorem bytes_dec (a b : ByteArray) : (a == b) = decide (a = b) := by
  rw [beq_toListBytes]
  by_cases h : a = b
  · subst h; simp
  · have h1 : ¬ a.toList = b.toList := fun e => h (by rw [Go.Lib.toList_data, Go.Lib.toList_data] at e; cases a; cases b; simp at e; rw [e])
    rw [decide_eq_false h]; exact beq_eq_false_iff_ne.2 h1
theorem KeyLaw.int {P : Program} {kt : TypeId} {q : IntKind} (h : P.underlying kt = some (.int q)) : KeyLaw P kt (fun x : Int => Value.int q x) where
  check b k w := by
    have z : ∀ n, (Instr.checkKey b (n + 1) kt (Value.int q k)).run P w = .ok () w := fun n => by simp only [Instr.checkKey, Sem.run_bind, run_underlying h, Result.andThen_ok]; rfl
    exact z 9999
  find k ks es w he := by
    have := findNow_gen (d := .int q) (key := fun x : Int => Value.int q x) (fun a b => by
      simp only [Instr.sameNow, if_true]
      congr 1
      by_cases e : a = b
      · subst e; simp
      · have e' : ¬ b = a := fun x => e x.symm
        simp [e, e']) k ks es 0 he
    simp only [Instr.findKey, Sem.run_bind, run_underlying h, Result.andThen_ok, this]
    simp
  same k := by simp [Instr.sameBits]
theorem KeyLaw.str {P : Program} {kt : TypeId} (h : P.underlying kt = some .string) : KeyLaw P kt (fun x : ByteArray => Value.string x) where
  check b k w := by
    have z : ∀ n, (Instr.checkKey b (n + 1) kt (Value.string k)).run P w = .ok () w := fun n => by simp only [Instr.checkKey, Sem.run_bind, run_underlying h, Result.andThen_ok]; rfl
    exact z 9999
  find k ks es w he := by
    have := findNow_gen (d := .string) (key := fun x : ByteArray => Value.string x) (fun a b => by
      simp only [Instr.sameNow, bytes_dec]
      congr 1
      by_cases e : a = b
      · subst e; simp
      · have e' : ¬ b = a := fun x => e x.symm
        simp [e, e']) k ks es 0 he
    simp only [Instr.findKey, Sem.run_bind, run_underlying h, Result.andThen_ok, this]
    simp
  same k := by simp [Instr.sameBits, bytes_dec]
/-! ### Maps in memory -/
def vval (agg : Bool) (vs : List Value) : Value := bif agg then .agg vs.toArray else vs.headD undef
structure MapOK {κ ν : Type} (key : κ → Value) (R : Rep ν) (agg : Bool) (F : Nat → Prop) (w : World) (l : List (κ × ν)) (es : Array MapEntry) (clock : Nat) : Prop where
  keys : es.toList.map (·.key) = l.map fun p => key p.1
  vals : ∀ (i : Nat) (p : κ × ν), l[i]? = some p → ∃ e vs, es[i]? = some e ∧ R.rd F w p.2 vs ∧ e.val = vval agg vs
  born : ∀ e ∈ es.toList, e.born < clock
  nodup : (es.toList.map (·.born)).Nodup
section
variable {κ ν : Type} [DecidableEq κ] {key : κ → Value} {R : Rep ν} {agg : Bool} {F F' : Nat → Prop} {w w' w0 : World} {l : List (κ × ν)} {es : Array MapEntry} {clock : Nat} {P : Program} {t kt vt : TypeId} {cs : List Chunk}
omit [DecidableEq κ] in
theorem MapOK.move (h : MapOK key R agg F w l es clock) (hF : ∀ b, F b → F' b) (hw : ∀ b, F b → w'.heap[b]? = w.heap[b]?) : MapOK key R agg F' w' l es clock :=
  ⟨h.keys, fun i p hp => let ⟨e, vs, h1, h2, h3⟩ := h.vals i p hp; ⟨e, vs, h1, R.move h2 hF hw, h3⟩, h.born, h.nodup⟩
omit [DecidableEq κ] in
theorem MapOK.ext {wF wF' : World} (h : MapOK key R agg F wF l es clock) (hx : Ext w0 F wF F' wF') : MapOK key R agg F' wF' l es clock := h.move hx.sub hx.same
omit [DecidableEq κ] in
theorem MapOK.nil : MapOK key R agg F w ([] : List (κ × ν)) #[] 0 := ⟨rfl, fun i p h => by simp at h, fun e h => by simp at h, by simp⟩
omit [DecidableEq κ] in
theorem MapOK.len (h : MapOK key R agg F w l es clock) : es.size = l.length := by
  have := congrArg List.length h.keys
  simpa using this
omit [DecidableEq κ] in
theorem run_getMap {w2 : World} {b : Nat} (hb : w2.heap[b]? = some (.map es clock)) : (getObj b).run P w2 = .ok (.map es clock) w2 := by simp [getObj, Sem.run, hb]
theorem MapOK.found (h : MapOK key R agg F w l es clock) (hk : KeyLaw P kt key) (k : κ) (w2 : World) : (Instr.findKey kt (key k) es.toList).run P w2 = .ok ((mfind l k).map fun i => (i, ((es[i]?).map (·.val)).getD undef)) w2 := by
  have := hk.find k (l.map (·.1)) es.toList w2 (by rw [h.keys, List.map_map]; rfl)
  rw [mfind_keys] at this
  simpa using this
/-- A look-up: what it gives. -/
theorem MapOK.get (h : MapOK key R agg F w l es clock) (hk : KeyLaw P kt key) (ht : P.underlying t = some (.map kt vt)) (k : κ) (d : ν) {zs : List Value} (hz : R.rd F w d zs) (hzv : ∀ u, (zeroValue vt).run P u = .ok (vval agg zs) u) :
    ∃ vs, R.rd F w ((mget l k).getD d) vs ∧ ∀ (ok : Bool) (b : Nat) (w2 : World), w2.heap[b]? = some (.map es clock) → (Instr.lookup t (.map (some b)) (key k) ok).run P w2 = .ok (if ok then .tuple #[vval agg vs, .bool (mget l k).isSome] else vval agg vs) w2 := by
  cases hm : mfind l k with
  | none =>
    have hg := (mfind_none hm).1
    refine ⟨zs, by rw [hg]; exact hz, fun ok b w2 hb => ?_⟩
    have hf := h.found hk k w2
    rw [hm] at hf
    cases ok <;> simp [Instr.lookup, run_underlying ht, run_getMap hb, hk.check, hf, hzv, hg]
  | some i =>
    obtain ⟨v, hv, hg⟩ := mfind_some hm
    obtain ⟨e, vs, h1, h2, h3⟩ := h.vals i _ hv
    refine ⟨vs, by rw [hg]; exact h2, fun ok b w2 hb => ?_⟩
    have hf := h.found hk k w2
    rw [hm, Option.map_some, h1] at hf
    cases ok <;> simp [Instr.lookup, run_underlying ht, run_getMap hb, hk.check, hf, hg, h3]
omit [DecidableEq κ] in
theorem getD_key (h : MapOK key R agg F w l es clock) {i : Nat} {k : κ} {v : ν} (hv : l[i]? = some (k, v)) : ∃ e, es[i]? = some e ∧ e.key = key k := by
  have hi := (List.getElem?_eq_some_iff.1 hv).1
  obtain ⟨e, vs, h1, _, _⟩ := h.vals i _ hv
  refine ⟨e, h1, ?_⟩
  have := congrArg (·[i]?) h.keys
  simp only [List.getElem?_map, hv, Option.map_some, Array.getElem?_toList, h1] at this
  exact Option.some.inj this
theorem keyStays (hk : KeyLaw P kt key) (k : κ) (w2 : World) : (Instr.keyThatStays (key k) (key k)).run P w2 = .ok (key k) w2 := by
  unfold Instr.keyThatStays; rw [hk.same]; rfl
omit [DecidableEq κ] in
theorem MapOK.set (h : MapOK key R agg F w l es clock) {i : Nat} {k : κ} {v0 v : ν} {vs : List Value} (hi : l[i]? = some (k, v0)) (hv : R.rd F w v vs) : MapOK key R agg F w (l.set i (k, v)) (es.modify i fun e => { e with key := key k, val := vval agg vs }) clock := by
  have hil := (List.getElem?_eq_some_iff.1 hi).1
  obtain ⟨e0, he0, hk0⟩ := getD_key h hi
  refine ⟨?_, fun j p hj => ?_, fun e he => ?_, ?_⟩
  · apply List.ext_getElem?
    intro j
    have := congrArg (·[j]?) h.keys
    simp only [List.getElem?_map, Array.getElem?_toList] at this ⊢
    rw [Array.getElem?_modify, List.getElem?_set]
    by_cases e : i = j
    · subst e; simp [he0, hil]
    · simp only [e, if_false]; exact this
  · rw [List.getElem?_set] at hj
    rw [Array.getElem?_modify]
    by_cases e : i = j
    · subst e
      simp only [if_true, hil, Option.some.injEq] at hj
      subst hj
      exact ⟨_, vs, by rw [if_pos rfl, he0]; rfl, hv, rfl⟩
    · simp only [e, if_false] at hj ⊢
      exact h.vals j p hj
  · obtain ⟨j, hj⟩ := List.mem_iff_getElem?.1 he
    rw [Array.getElem?_toList, Array.getElem?_modify] at hj
    by_cases e' : i = j
    · subst e'
      rw [if_pos rfl, he0] at hj
      obtain rfl := Option.some.inj hj
      exact h.born e0 (Array.mem_toList_iff.2 (Array.mem_of_getElem? he0))
    · rw [if_neg e'] at hj
      exact h.born e (Array.mem_toList_iff.2 (Array.mem_of_getElem? hj))
  · have : (es.modify i fun e => { e with key := key k, val := vval agg vs }).toList.map (·.born) = es.toList.map (·.born) := by
      apply List.ext_getElem?
      intro j
      simp only [List.getElem?_map, Array.getElem?_toList, Array.getElem?_modify]
      by_cases e : i = j
      · subst e; simp [he0]
      · simp [e]
    rw [this]; exact h.nodup
omit [DecidableEq κ] in
theorem MapOK.add (h : MapOK key R agg F w l es clock) {k : κ} {v : ν} {vs : List Value} (hv : R.rd F w v vs) : MapOK key R agg F w (l ++ [(k, v)]) (es.push { key := key k, val := vval agg vs, born := clock }) (clock + 1) := by
  have hl := h.len
  refine ⟨?_, fun j p hj => ?_, fun e he => ?_, ?_⟩
  · simp [h.keys]
  · by_cases hlt : j < l.length
    · rw [List.getElem?_append_left hlt] at hj
      obtain ⟨e, vs', h1, h2, h3⟩ := h.vals j p hj
      exact ⟨e, vs', by rw [Array.getElem?_push_lt (by omega)]; rw [← h1]; simp [show j < es.size by omega], h2, h3⟩
    · rw [List.getElem?_append_right (by omega)] at hj
      have hj0 : j - l.length = 0 := by
        have := (List.getElem?_eq_some_iff.1 hj).1
        simp at this; omega
      rw [hj0] at hj
      simp only [List.getElem?_cons_zero, Option.some.injEq] at hj
      subst hj
      exact ⟨_, vs, by rw [show j = es.size by omega, Array.getElem?_push_size], hv, rfl⟩
  · rw [Array.toList_push, List.mem_append, List.mem_singleton] at he
    rcases he with he | rfl
    · have := h.born e he; omega
    · exact Nat.lt_succ_self _
  · rw [Array.toList_push, List.map_append, List.nodup_append]
    refine ⟨h.nodup, by simp, fun a ha b hb => ?_⟩
    simp only [List.map_cons, List.map_nil, List.mem_singleton] at hb
    obtain ⟨e, he, rfl⟩ := List.mem_map.1 ha
    have := h.born e he
    omega
theorem map_erase {α β : Type} (f : α → β) (l : List α) : ∀ i, (l.eraseIdx i).map f = (l.map f).eraseIdx i := by
  induction l with
  | nil => intro i; rfl
  | cons a l ih => intro i; cases i with | zero => rfl | succ i => simp [ih]
omit [DecidableEq κ] in
theorem MapOK.del (h : MapOK key R agg F w l es clock) (i : Nat) : MapOK key R agg F w (l.eraseIdx i) (es.eraseIdxIfInBounds i) clock := by
  have hl := h.len
  have ht : (es.eraseIdxIfInBounds i).toList = es.toList.eraseIdx i := by
    unfold Array.eraseIdxIfInBounds
    split
    · simp
    · rw [List.eraseIdx_of_length_le (by simp; omega)]
  refine ⟨?_, fun j p hj => ?_, fun e he => ?_, ?_⟩
  · rw [ht, map_erase, h.keys, map_erase]
  · rw [List.getElem?_eraseIdx] at hj
    have e2 : (es.eraseIdxIfInBounds i)[j]? = (es.toList.eraseIdx i)[j]? := by rw [← ht, Array.getElem?_toList]
    rw [e2, List.getElem?_eraseIdx]
    by_cases hlt : j < i
    · rw [if_pos hlt] at hj ⊢
      obtain ⟨e, vs, h1, h2, h3⟩ := h.vals j p hj
      exact ⟨e, vs, by rw [Array.getElem?_toList]; exact h1, h2, h3⟩
    · rw [if_neg hlt] at hj ⊢
      obtain ⟨e, vs, h1, h2, h3⟩ := h.vals (j + 1) p hj
      exact ⟨e, vs, by rw [Array.getElem?_toList]; exact h1, h2, h3⟩
  · rw [ht] at he
    exact h.born e (List.mem_of_mem_eraseIdx he)
  · rw [ht, map_erase]
    exact h.nodup.sublist (List.eraseIdx_sublist ..)
/-- A map's object is written. -/
theorem run_setMap (w2 : World) (b : Nat) (o o' : Obj) (hb : w2.heap[b]? = some o) (hn : noCells o) : (setObj b o').run P w2 = .ok () { w2 with heap := w2.heap.setIfInBounds b o' } := by
  cases o <;> simp only [noCells] at hn <;> simp [setObj, Sem.run, hb]
theorem MapOK.update (h : MapOK key R agg F w l es clock) (hk : KeyLaw P kt key) (ht : P.underlying t = some (.map kt vt)) (k : κ) {v : ν} {vs : List Value} (hv : R.rd F w v vs) :
    ∃ es' clock', MapOK key R agg F w (mput l k v) es' clock' ∧ ∀ (b : Nat) (w2 : World), w2.heap[b]? = some (.map es clock) → (Instr.mapUpdate t (.map (some b)) (key k) (vval agg vs)).run P w2 = .ok () { w2 with heap := w2.heap.setIfInBounds b (.map es' clock') } := by
  cases hm : mfind l k with
  | none =>
    refine ⟨_, _, by unfold mput; rw [hm]; exact h.add hv, fun b w2 hb => ?_⟩
    have hf := h.found hk k w2
    rw [hm] at hf
    simp [Instr.mapUpdate, run_underlying ht, run_getMap hb, hk.check, hf, run_setMap w2 b _ _ hb trivial]
  | some i =>
    obtain ⟨v0, hv0, hg⟩ := mfind_some hm
    obtain ⟨e0, he0, hk0⟩ := getD_key h hv0
    refine ⟨_, _, by unfold mput; rw [hm]; exact h.set hv0 hv, fun b w2 hb => ?_⟩
    have hf := h.found hk k w2
    rw [hm, Option.map_some] at hf
    simp [Instr.mapUpdate, run_underlying ht, run_getMap hb, hk.check, hf, he0, hk0, keyStays hk k w2, run_setMap w2 b _ _ hb trivial]
theorem MapOK.delete (h : MapOK key R agg F w l es clock) (hk : KeyLaw P kt key) (ht : P.underlying t = some (.map kt vt)) (k : κ) :
    ∃ es' clock', MapOK key R agg F w (mdel l k) es' clock' ∧ ∀ (b : Nat) (t2 ty : TypeId) (w2 : World), w2.heap[b]? = some (.map es clock) → (Builtin.delete_ #[t, t2] ty #[.map (some b), key k]).run P w2 = .ok (.tuple #[]) { w2 with heap := w2.heap.setIfInBounds b (.map es' clock') } := by
  cases hm : mfind l k with
  | none =>
    refine ⟨es, clock, by unfold mdel; rw [hm]; exact h, fun b t2 ty w2 hb => ?_⟩
    have hf := h.found hk k w2
    rw [hm] at hf
    have hs := run_setMap (P := P) w2 b _ (.map es clock) hb trivial
    simp [Builtin.delete_, run_underlying ht, run_getMap hb, hk.check, hf, hs]
  | some i =>
    refine ⟨es.eraseIdxIfInBounds i, clock, by unfold mdel; rw [hm]; exact h.del i, fun b t2 ty w2 hb => ?_⟩
    have hf := h.found hk k w2
    rw [hm, Option.map_some] at hf
    have hs := run_setMap (P := P) w2 b _ (.map (es.eraseIdxIfInBounds i) clock) hb trivial
    simp [Builtin.delete_, run_underlying ht, run_getMap hb, hk.check, hf, hs]
/-- A place in a map: with a zero, if it wasn't there; then its value is set. -/
def mtouch (l : List (κ × ν)) (k : κ) (d : ν) : List (κ × ν) := match mfind l k with | some _ => l | none => l ++ [(k, d)]
theorem MapOK.entry (h : MapOK key R agg F w l es clock) (hk : KeyLaw P kt key) (ht : P.underlying t = some (.map kt vt)) (k : κ) (d : ν) {zs : List Value} (hz : R.rd F w d zs) (hzv : ∀ u, (zeroValue vt).run P u = .ok (vval agg zs) u) :
    ∃ es' clock' vs st, R.rd F w ((mget l k).getD d) vs ∧ MapOK key R agg F w (mtouch l k d) es' clock' ∧ (∃ i v e, (mtouch l k d)[i]? = some (k, v) ∧ mfind (mtouch l k d) k = some i ∧ es'[i]? = some e ∧ e.born = st) ∧
      ∀ (b : Nat) (w2 : World), w2.heap[b]? = some (.map es clock) → (Instr.mapEntry t (.map (some b)) (key k)).run P w2 = .ok (.tuple #[vval agg vs, .int .i64 (st : Nat)]) { w2 with heap := w2.heap.setIfInBounds b (.map es' clock') } := by
  cases hm : mfind l k with
  | none =>
    have hg := (mfind_none hm).1
    have hl := h.len
    have hmt : mtouch l k d = l ++ [(k, d)] := by unfold mtouch; rw [hm]
    refine ⟨_, _, zs, clock, by rw [hg]; exact hz, by rw [hmt]; exact h.add hz, ⟨l.length, d, _, by rw [hmt]; simp, ?_, by rw [← hl, Array.getElem?_push_size], rfl⟩, fun b w2 hb => ?_⟩
    · rw [hmt]; unfold mfind at hm ⊢; rw [List.findIdx?_append, hm]; simp
    · have hf := h.found hk k w2
      rw [hm] at hf
      simp [Instr.mapEntry, run_underlying ht, run_getMap hb, hk.check, hf, hzv, run_setMap w2 b _ _ hb trivial, goInt]
  | some i =>
    obtain ⟨v0, hv0, hg⟩ := mfind_some hm
    obtain ⟨e0, he0, hk0⟩ := getD_key h hv0
    obtain ⟨e1, vs, h1, h2, h3⟩ := h.vals i _ hv0
    obtain rfl : e1 = e0 := Option.some.inj (h1.symm.trans he0)
    have hmt : mtouch l k d = l := by unfold mtouch; rw [hm]
    have hset := h.set hv0 h2
    have hls : l.set i (k, v0) = l := by
      apply List.ext_getElem?
      intro j
      rw [List.getElem?_set]
      by_cases e : i = j
      · subst e; rw [if_pos rfl, if_pos (List.getElem?_eq_some_iff.1 hv0).1, hv0]
      · simp [e]
    rw [hls] at hset
    have hmod : (es.modify i fun e => { e with key := key k }) = (es.modify i fun e => { e with key := key k, val := vval agg vs }) := by
      apply Array.ext_getElem?
      intro j
      simp only [Array.getElem?_modify]
      by_cases e : i = j
      · subst e; simp [he0, h3]
      · simp [e]
    refine ⟨_, _, vs, e1.born, by rw [hg]; exact h2, by rw [hmt]; exact hset, ⟨i, v0, { e1 with key := key k, val := vval agg vs }, by rw [hmt]; exact hv0, by rw [hmt]; exact hm, by rw [Array.getElem?_modify, if_pos rfl, he0]; rfl, rfl⟩, fun b w2 hb => ?_⟩
    have hf := h.found hk k w2
    rw [hm, Option.map_some] at hf
    simp [Instr.mapEntry, run_underlying ht, run_getMap hb, hk.check, hf, he0, hk0, keyStays hk k w2, hmod, run_setMap w2 b _ _ hb trivial, h3, goInt]
end
/-! ### Rules -/
section
variable {P : Program} {n : NT} {ops : Array Oper} {Q : Exit → Act → World → Prop} {S : World → Prop}
/-- An operation that hands nothing back. -/
theorem ops_unit {i : Nat} {r : List (Nat × Bool)} {l : Slots} {op : Op} {σ : Type} {M : World → Prop} {M' : σ → World → Prop} (h : OpAt n ops l i op none)
    (hv : ∀ o w, o.op = op → M w → S w → ∃ x w', (execOp (ev l) o).run P w = .ok .skip w' ∧ M' x w' ∧ S w') (k : ∀ x, Ops P n ops Q S r l (M' x)) : Ops P n ops Q S ((i, false) :: r) l M := by
  intro a w hk hMw hS
  obtain ⟨o, hi, ho, hd, hlt, h⟩ := h.get
  obtain ⟨hw, he⟩ := h a hk
  obtain ⟨x, w', hr, hM', hS'⟩ := hv o w ho hMw hS
  simp only [seqOps, hi, cond_false, wpF, hw, if_true, he, hr, upF, Oper.upon, hd]
  exact (And.intro hS' (k x _ _ hk hM' hS'))
end
section
variable {P : Program} {l : Slots} {x y z : Operand} {t t2 : TypeId} {m k v v' : Value} {ok : Bool} {w w' : World} {yk : IntKind}
theorem run_lookupV (hx : ev l x = m) (hy : ev l y = k) (h : (Instr.lookup t m k ok).run P w = .ok v w) : ∀ (o : Oper), o.op = .lookup t x y ok → (execOp (ev l) o).run P w = .ok (.value v) w := by
  intro o ho; simp [execOp, ho, hx, hy, h]
theorem run_updateV (hx : ev l x = m) (hy : ev l y = k) (hz : ev l z = v) (h : (Instr.mapUpdate t m k v).run P w = .ok () w') : ∀ (o : Oper), o.op = .mapUpdate t x y z → (execOp (ev l) o).run P w = .ok .skip w' := by
  intro o ho; simp [execOp, ho, hx, hy, hz, h]
theorem run_deleteV (hx : ev l x = m) (hy : ev l y = k) (h : ∀ ty, (Builtin.delete_ #[t, t2] ty #[m, k]).run P w = .ok (.tuple #[]) w') : ∀ (o : Oper), o.op = .call { callee := .builtin .delete, args := #[x, y], argTypes := #[t, t2] } → (execOp (ev l) o).run P w = .ok (.value (.tuple #[])) w' := by
  intro o ho; simp [execOp, ho, resolve, invoke, builtin, hx, hy, h]
end
theorem Mem.mapAt {w0 w : World} {cs : List Chunk} (h : Mem w0 cs w) (i : Nat) {b : Nat} {o : Obj} (hi : cs[i]? = some (.obj b o)) : w.heap[b]? = some o := (h.get i hi).2
section
variable {κ ν : Type} [DecidableEq κ] {key : κ → Value} {R : Rep ν} {agg : Bool} {F F' : Nat → Prop} {w w0 : World} {cs : List Chunk}
/-- A map that is read: nil, or in frozen memory. -/
def RdM {κ ν : Type} (key : κ → Value) (R : Rep ν) (agg : Bool) (F : Nat → Prop) (w : World) (B : Option Nat) : Option (List (κ × ν)) → Prop
  | none => B = none
  | some l => ∃ b es clock, B = some b ∧ F b ∧ w.heap[b]? = some (.map es clock) ∧ MapOK key R agg F w l es clock
omit [DecidableEq κ] in
theorem RdM.move {w' : World} {B : Option Nat} : ∀ {x : Option (List (κ × ν))}, RdM key R agg F w B x → (∀ b, F b → F' b) → (∀ b, F b → w'.heap[b]? = w.heap[b]?) → RdM key R agg F' w' B x
  | none, h, _, _ => h
  | some l, h, hF, hw => let ⟨b, es, clock, h1, h2, h3, h4⟩ := h; ⟨b, es, clock, h1, hF b h2, (hw b h2).trans h3, h4.move hF hw⟩
def Rep.map {κ ν : Type} (key : κ → Value) (R : Rep ν) (agg : Bool) : Rep (Option (List (κ × ν))) where
  z := 1
  rd F w x vs := ∃ B, vs = [.map B] ∧ RdM key R agg F w B x
  len h := by obtain ⟨B, rfl, _⟩ := h; rfl
  one h := by obtain ⟨B, rfl, _⟩ := h; simp [Value.oneCell']
  move h hF hw := by obtain ⟨B, h1, h2⟩ := h; exact ⟨B, h1, h2.move hF hw⟩
omit [DecidableEq κ] in
theorem RdM.ext {wF wF' : World} {B : Option Nat} {x : Option (List (κ × ν))} (h : RdM key R agg F wF B x) (hx : Ext w0 F wF F' wF') : RdM key R agg F' wF' B x := h.move hx.sub hx.same
/-- A look-up in a map that is read. -/
theorem RdM.get {P : Program} {t kt vt : TypeId} {B : Option Nat} {x : Option (List (κ × ν))} (h : RdM key R agg F w B x) (hk : KeyLaw P kt key) (ht : P.underlying t = some (.map kt vt)) (k : κ) (d : ν) {zs : List Value} (hz : R.rd F w d zs) (hzv : ∀ u, (zeroValue vt).run P u = .ok (vval agg zs) u) :
    ∃ vs, R.rd F w ((mget (x.getD []) k).getD d) vs ∧ ∀ (ok : Bool) (w2 : World), (∀ b, F b → w2.heap[b]? = w.heap[b]?) → (Instr.lookup t (.map B) (key k) ok).run P w2 = .ok (if ok then .tuple #[vval agg vs, .bool (mget (x.getD []) k).isSome] else vval agg vs) w2 := by
  cases x with
  | none =>
    simp only [RdM] at h
    subst h
    refine ⟨zs, hz, fun ok w2 _ => ?_⟩
    have hf := hk.find k [] [] w2 rfl
    simp only [List.findIdx?_nil, Option.map_none] at hf
    simp only [Instr.lookup, Sem.run_bind, run_underlying ht, Result.andThen_ok, hk.check]
    simp [hf, hk.check, hzv, mget]
    try (cases ok <;> rfl)
  | some l =>
    obtain ⟨b, es, clock, rfl, h2, h3, h4⟩ := h
    obtain ⟨vs, g1, g2⟩ := h4.get hk ht k d hz hzv
    exact ⟨vs, g1, fun ok w2 hw => g2 ok b w2 ((hw b h2).trans h3)⟩
end
end Go.Proofs.Ytbfndcookgijfaa.Sx
