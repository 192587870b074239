/- Elements put into a row of the call's own: what memory holds behind it. No condition. -/
import Derived.Test.YtbfndcookgijfaaGreatDoorExDel
import Derived.Lib.Overlaps
import Derived.Lib.AppendZerosOnto
import Derived.Laws.Externs
import Derived.Laws.IdiomCopy
namespace Go.Proofs.YtbfndcookgijfaaGreatDoor.Sx
open Go Go.RowKit
set_option linter.unusedVariables false
set_option linter.unusedSimpArgs false
/-- A list with others put in at a place. -/
def ins {α : Type} (by_ : Nat) (l : List α) (i : Int) (v : List α) : Option (List α) := if 0 ≤ i ∧ i ≤ (l.length : Int) ∧ 0 < v.length ∧ (l.length + v.length) * by_ ≤ 140737488355328 then some (l.take i.toNat ++ v ++ l.drop i.toNat) else none
theorem ins_some {α : Type} {b : Nat} {l v r : List α} {i : Int} (h : ins b l i v = some r) : 0 ≤ i ∧ i ≤ (l.length : Int) ∧ 0 < v.length ∧ (l.length + v.length) * b ≤ 140737488355328 ∧ r = l.take i.toNat ++ v ++ l.drop i.toNat := by
  unfold ins at h
  split at h
  · rename_i hc; exact ⟨hc.1, hc.2.1, hc.2.2.1, hc.2.2.2, (Option.some.inj h).symm⟩
  · cases h
/-- The operation copy, where its run is known. -/
theorem wpList_copy_own {P : Program} (w : World) {ops : Array Oper} {rest : List Oper} {o : Oper} {a : Act} {Q : Exit → Act → World → Prop} (hgd : o.guard = none) (d s : Operand) (t t' : TypeId)
    (ho : o.op = .call { callee := .builtin .copy, args := #[d, s], argTypes := #[t, t'] }) (v u : Value) (hd : a.eval d = v) (hs : a.eval s = u) {v' : Value} {w' : World}
    (hr : (Builtin.copy_ #[t, t'] o.type #[v, u]).run P w = .ok v' w') (h : wpList P ops Q rest (a.put o.dst v') w') : wpList P ops Q (o :: rest) a w :=
  wpList_plain hgd fun _ hK => by
    unfold Oper.wp
    simp only [execOp, ho, resolve, invoke, builtin, Sem.run_bind, Sem.run_pure, Result.andThen_ok, List.map_toArray, List.map_cons, List.map_nil, hd, hs, hr]
    exact hK _ _ h
theorem step_copy_own {P : Program} {ops : Array Oper} {o : Oper} {a : Act} {w : World} {K : Act → World → Prop} {Q : Exit → Act → World → Prop} {E : Prop}
    (hg : o.guard = none) (d x : Operand) (dT sT : TypeId) (hop : o.op = Op.call { callee := Callee.builtin Builtin.copy, args := #[d, x], argTypes := #[dT, sT] })
    (v u : Value) (hd : a.eval d = v) (hx : a.eval x = u) {v' : Value} {w' : World} (hr : (Builtin.copy_ #[dT, sT] o.type #[v, u]).run P w = .ok v' w') (hK : K (a.put o.dst v') w') :
    if Region.wanted o (yielded ops a.tmps) = true then Oper.wp P o a w K Q else E := by
  rw [if_pos (by simp [Region.wanted, hg])]
  unfold Oper.wp
  simp only [execOp, hop, resolve, invoke, builtin, Sem.run_bind, Sem.run_pure, Result.andThen_ok, List.map_toArray, List.map_cons, List.map_nil, hd, hx, hr]
  exact hK
theorem run_copy_z {P : Program} (w : World) (dT sT ty elem : TypeId) (z b o dLen dCap : Nat) (a : Addr) (sLen sCap cnt : Nat) (cs : List Value)
    (hu : P.underlying dT = some (.slice elem)) (hs : (P.info? elem).map (·.size) = some z) (hn : Nat.min sLen dLen = cnt) (hl : cs.length = cnt * z)
    (hsrc : ∀ j v, cs[j]? = some v → w.cell? (a.add j) = some v) (hc : ∀ j, j < cs.length → (w.cell? ⟨b, o + j, none⟩).isSome = true) (hf : ∀ j, j < cs.length → w.frozen? ⟨b, o + j, none⟩ = false) (h1 : ∀ v ∈ cs, v.oneCell' = true) :
    (Builtin.copy_ #[dT, sT] ty #[.slice (some ⟨b, o, none⟩) dLen dCap, .slice (some a) sLen sCap]).run P w = .ok (goInt cnt) (w.setCells b o cs) := by
  have hl' := run_loadCells_list (P := P) w a cs hsrc
  have hst := run_storeCells_cells (P := P) b o cs 0 w (by simpa using hc) (by simpa using hf) h1
  cases hq : P.info? elem with
  | none => simp [hq] at hs
  | some i =>
    have hi : i.size = z := by simpa [hq] using hs
    rw [hl] at hl'
    simp [Builtin.copy_, run_underlying hu, Builtin.lenOf, Builtin.firstCells, sizeOf, typeInfo, hq, hi, hn, hl', hst]
theorem setAll_drop (us : List Value) : ∀ (vs : List Value) (off k : Nat), off + us.length ≤ k → (setAll vs off us).drop k = vs.drop k := by
  induction us with
  | nil => intro vs off k _; rfl
  | cons u us ih =>
    intro vs off k h
    simp only [List.length_cons] at h
    unfold setAll
    rw [ih _ _ _ (by omega), List.drop_set_of_lt (by omega)]
theorem setAll_eq (us vs : List Value) (off : Nat) (h : off + us.length ≤ vs.length) : setAll vs off us = vs.take off ++ us ++ vs.drop (off + us.length) := by
  rw [← List.take_append_drop (off + us.length) (setAll vs off us), setAll_mid us vs off h, setAll_drop us vs off _ (Nat.le_refl _)]
section
variable {w0 w : World} {cs : List Chunk} {g n c z : Nat} {e : TypeId} {xs : List Value}
/-- A row at its full room. -/
theorem Mem.owide (h : Mem w0 cs w) (i : Nat) (hi : cs[i]? = some (orow (some ⟨g, 0, none⟩) n c e z xs)) (hc : 0 < c) : ∃ ys, ys.take (n * z) = xs ∧ ys.length = c * z ∧ w.heap[g]? = some (.cells ys.toArray e (0, 0)) ∧ Mem w0 (cs.set i (orow (some ⟨g, 0, none⟩) c c e z ys)) w := by
  unfold orow at hi ⊢
  rw [rowA_pos hc] at hi ⊢
  have ho := h.get i hi
  rcases ho.2 with ⟨he, _⟩ | ⟨g', cap', cur, he, hb, hg, h1, h2, h3, h4⟩
  · cases he
  · injection he with e1 e2 e3
    injection e1 with e1
    injection e1 with e1 _ _
    subst e1 e3
    refine ⟨cur.toList, h4, by simpa using h3, by simpa using hg, ?_⟩
    refine h.turn' i hi (fun k ht => .inl ht) (Nat.le_refl _) ⟨rfl, rfl, rfl⟩ (fun _ _ _ => rfl) ⟨by simpa using h3, .inr ⟨g, c, cur, rfl, hb, hg, Nat.le_refl _, h2, h3, ?_⟩⟩
    rw [List.take_of_length_le (by simp [h3])]
theorem Mem.orowAt (h : Mem w0 cs w) (i : Nat) (hi : cs[i]? = some (orow (some ⟨g, 0, none⟩) n c e z xs)) (hc : 0 < c) : ∃ cur : Array Value, w.heap[g]? = some (.cells cur e (0, 0)) ∧ cur.size = c * z := by
  obtain ⟨ys, _, h2, h3, _⟩ := h.owide i hi hc
  exact ⟨_, h3, by simpa using h2⟩
theorem frozen_none {g : Nat} {cur : Array Value} {e : TypeId} (h : w.heap[g]? = some (.cells cur e (0, 0))) (o : Nat) : w.frozen? ⟨g, o, none⟩ = false := by simp [World.frozen?, h]
theorem shape_of {g : Nat} {cur : Array Value} {e : TypeId} (h : w.heap[g]? = some (.cells cur e (0, 0))) : w.shape? g = some (e, cur.size) := by simp [World.shape?, h]
/-- Two stretches written into a row at its full room: the first at the far end. -/
theorem Mem.twice (h : Mem w0 (orow (some ⟨g, 0, none⟩) c c e z xs :: cs) w) {a p q : Nat} {V B : List Value} (hV : V.length = p * z) (hB : B.length = q * z) (hf : a + p + q ≤ c) :
    Mem w0 (orow (some ⟨g, 0, none⟩) (a + p + q) c e z (xs.take (a * z) ++ V ++ B) :: cs) ((w.setCells g ((a + p) * z) B).setCells g (a * z) V) ∧
    Mem w0 (orow (some ⟨g, 0, none⟩) (a + p + q) c e z (xs.take (a * z) ++ V ++ B) :: cs) (((w.setCells g (a * z) V).drew).setCells g ((a + p) * z) B) ∧
    (∀ o, o < c * z → (w.cell? ⟨g, o, none⟩).isSome = true ∧ w.frozen? ⟨g, o, none⟩ = false) ∧
    (∀ o, o < c * z → ((w.setCells g ((a + p) * z) B).cell? ⟨g, o, none⟩).isSome = true ∧ (w.setCells g ((a + p) * z) B).frozen? ⟨g, o, none⟩ = false) ∧
    (∀ o, o < c * z → ((w.setCells g (a * z) V).cell? ⟨g, o, none⟩).isSome = true ∧ (w.setCells g (a * z) V).frozen? ⟨g, o, none⟩ = false) ∧
    Mem w0 (orow (some ⟨g, 0, none⟩) c c e z (setAll xs ((a + p) * z) B) :: cs) (w.setCells g ((a + p) * z) B) ∧ Mem w0 (orow (some ⟨g, 0, none⟩) c c e z (setAll xs (a * z) V) :: cs) (w.setCells g (a * z) V) := by
  have hxl : xs.length = c * z := h.rowLen 0 rfl
  have e1 : (a + p) * z = a * z + p * z := Nat.add_mul ..
  have e2 : (a + p + q) * z = a * z + p * z + q * z := by rw [Nat.add_mul, Nat.add_mul]
  have hcz : (a + p + q) * z ≤ c * z := Nat.mul_le_mul_right _ hf
  have cellAt : ∀ {w' : World} {y' : List Value}, Mem w0 (orow (some ⟨g, 0, none⟩) c c e z y' :: cs) w' → ∀ o, o < c * z → (w'.cell? ⟨g, o, none⟩).isSome = true ∧ w'.frozen? ⟨g, o, none⟩ = false := fun {w' y'} hM' o ho => by
    have hl' : y'.length = c * z := hM'.rowLen 0 rfl
    have hc0 : 0 < c := by
      rcases Nat.eq_zero_or_pos c with h0 | h0
      · exfalso; rw [h0] at ho; simp at ho
      · exact h0
    have h1 := hM'.ocell 0 rfl (off := o) (v := y'[o]) (List.getElem?_eq_getElem (by omega))
    obtain ⟨cur, h2, _⟩ := hM'.orowAt 0 rfl hc0
    exact ⟨by rw [h1]; rfl, frozen_none h2 o⟩
  have put : ∀ {w' : World} {y' : List Value}, Mem w0 (orow (some ⟨g, 0, none⟩) c c e z y' :: cs) w' → ∀ (off : Nat) (us : List Value), off + us.length ≤ c * z → Mem w0 (orow (some ⟨g, 0, none⟩) c c e z (setAll y' off us) :: cs) (w'.setCells g off us) := fun {w' y'} hM' off us ho => by
    have hl' : y'.length = c * z := hM'.rowLen 0 rfl
    obtain ⟨w1, he1, hM1⟩ := hM'.ostore 0 rfl off us (by omega)
    have e1 := stores_world _ _ _ he1
    subst e1
    exact hM1
  have hB1 := put h ((a + p) * z) B (by omega)
  have hV2 := put hB1 (a * z) V (by omega)
  have hV1 := put h (a * z) V (by omega)
  have hB2 := put hV1.drew ((a + p) * z) B (by omega)
  have r1 := hV2.otake 0 rfl (m := a + p + q) hf
  have r2 := hB2.otake 0 rfl (m := a + p + q) hf
  have t1 : (setAll (setAll xs ((a + p) * z) B) (a * z) V).take ((a + p + q) * z) = xs.take (a * z) ++ V ++ B := by
    rw [setAll_eq V _ _ (by rw [setAll_length]; omega), setAll_take _ _ _ _ (by omega), setAll_eq B xs _ (by omega)]
    have hx : (List.take ((a + p) * z) xs ++ B ++ List.drop ((a + p) * z + B.length) xs).drop (a * z + V.length) = B ++ List.drop ((a + p) * z + B.length) xs := by
      rw [List.append_assoc, List.drop_append_of_le_length (by rw [List.length_take]; omega), List.drop_eq_nil_of_le (by rw [List.length_take]; omega), List.nil_append]
    rw [hx, ← List.append_assoc, List.take_append_of_le_length (by simp only [List.length_append, List.length_take]; omega), List.take_of_length_le (by simp only [List.length_append, List.length_take]; omega)]
  have t2 : (setAll (setAll xs (a * z) V) ((a + p) * z) B).take ((a + p + q) * z) = xs.take (a * z) ++ V ++ B := by
    rw [setAll_eq B _ _ (by rw [setAll_length]; omega)]
    have hx : (setAll xs (a * z) V).take ((a + p) * z) = xs.take (a * z) ++ V := by rw [e1, ← hV]; exact setAll_mid V xs (a * z) (by omega)
    rw [hx, List.take_append_of_le_length (by simp only [List.length_append, List.length_take]; omega), List.take_of_length_le (by simp only [List.length_append, List.length_take]; omega)]
  rw [t1] at r1
  rw [t2] at r2
  exact ⟨r1, r2, cellAt h, cellAt hB1, cellAt hV1, hB1, hV1⟩
theorem RepL.ins {α : Type} {R : Rep α} {F : Nat → Prop} {W : World} {l v : List α} {y yv : List Value} (h : RepL R F W l y) (hv : RepL R F W v yv) (i : Nat) : RepL R F W (l.take i ++ v ++ l.drop i) (y.take (i * R.z) ++ yv ++ y.drop (i * R.z)) := ((h.take i).app hv).app (h.drop i)
end
end Go.Proofs.YtbfndcookgijfaaGreatDoor.Sx
