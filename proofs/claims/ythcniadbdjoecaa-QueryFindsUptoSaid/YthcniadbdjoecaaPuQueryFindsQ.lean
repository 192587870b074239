/- QueryFinds, in plain Lean: what matches, walked, counted; fields. Condition: the arguments' bulk is at most 1048576. -/
import Derived.Test.YthcniadbdjoecaaPuSameQ
namespace Go.Proofs.Ythcniadbdjoecaa.Q
open Go Go.RowKit Go.Proofs.Ythcniadbdjoecaa.Sx
set_option linter.unusedVariables false
set_option linter.unusedSimpArgs false
theorem contains_gen {α : Type} {l : List α} (hl : l.length ≤ 140737488355328) (p : α → Bool) (pe : α → Option Bool) (hp : ∀ x ∈ l, pe x = some (p x)) (step : Int → Option (Int ⊕ (Int ⊕ Unit)))
    (hs : ∀ i, step i = cnd (decide (i < (l.length : Int))) ((idx l i).bind fun x => (pe x).bind fun b => cnd b (some (.inr (.inl i))) (some (.inl (IntKind.i64.wrap (i + 1))))) (some (.inr (.inr ())))) :
    (((loop step 0).bind (Sum.elim (fun e_ => some e_) (fun _ => some (-1)))).bind fun x => some (decide (0 ≤ x))) = some (l.any p) := by
  have h := loop_at (step := step) l (fun i => (i : Int)) p () (fun i hi => by
    rw [hs, cnd_dec, if_pos (by omega), idx_get hi]
    simp only [Option.bind_some]
    rw [hp _ (List.getElem_mem hi)]
    simp only [Option.bind_some]
    rw [cnd_ite]
    by_cases hb : p l[i] = true
    · rw [if_pos hb, if_pos hb]
    · rw [if_neg hb, if_neg hb, i64ok (by omega) (by omega)]; rfl) (by rw [hs, cnd_dec, if_neg (by omega)])
  rw [show (0 : Int) = ((0 : Nat) : Int) from rfl, h]
  cases hf : l.findIdx? p with
  | some k =>
    simp only [Option.bind_some, Sum.elim_inl]
    have : l.any p = true := by
      rw [List.any_eq_true]
      obtain ⟨h1, h2, _⟩ := List.findIdx?_eq_some_iff_getElem.1 hf
      exact ⟨_, List.getElem_mem h1, h2⟩
    rw [this, decide_eq_true (by omega)]
  | none =>
    simp only [Option.bind_some, Sum.elim_inr]
    have : l.any p = false := by
      rw [List.any_eq_false]
      intro x hx
      have := List.findIdx?_eq_none_iff.1 hf x hx
      rw [this]; simp
    rw [this]; rfl
def hasK (cs : List api_Comp) (k : Int) : Bool := cs.any fun c => c.Kind == k
def matchB (cs : List api_Comp) (w o : List Int) : Bool := !(w.any fun k => !hasK cs k) && !(o.any (hasK cs))
theorem has_k {cs : List api_Comp} (h : cs.length ≤ 140737488355328) (k a b : Int) : query_Match_1 k a b cs = some (hasK cs k) := by
  unfold query_Match_1 slices_ContainsFunc_api_Comp_api_Comp slices_IndexFunc_api_Comp_api_Comp
  have := contains_gen h (fun c => c.Kind == k) (fun x3 => query_Match_1_1 x3.Kind x3.Vals k) (fun _ _ => rfl) (fun s_ => slices_IndexFunc_api_Comp_api_Comp_l2 cs k s_) (fun _ => rfl)
  rw [show ((loop (σ := Int) (ρ := (Int ⊕ Unit)) (fun s_ => slices_IndexFunc_api_Comp_api_Comp_l2 cs k s_) 0).bind (Sum.elim (fun e_ => some e_) (fun e_ => slices_IndexFunc_api_Comp_api_Comp_j1))).bind (fun x1 => some (decide (0 ≤ x1))) = _ from this]
  rfl
theorem match_ok {cs : List api_Comp} (h : cs.length ≤ 140737488355328) (a b : Int) {w o : List Int} (hw : w.length ≤ 140737488355328) (ho : o.length ≤ 140737488355328) : query_Match a b cs w o = some (matchB cs w o) := by
  unfold query_Match slices_ContainsFunc_int_int slices_IndexFunc_int_int
  have e1 := contains_gen hw (fun k => !hasK cs k) (fun x5 => query_Match_2 x5 a b cs) (fun x _ => by unfold query_Match_2; rw [has_k h]; rfl) (fun s_ => slices_IndexFunc_int_int_l2 w a b cs s_) (fun _ => rfl)
  rw [show ((loop (σ := Int) (ρ := (Int ⊕ Unit)) (fun s_ => slices_IndexFunc_int_int_l2 w a b cs s_) 0).bind (Sum.elim (fun e_ => some e_) (fun e_ => slices_IndexFunc_int_int_j1))).bind (fun x1 => some (decide (0 ≤ x1))) = _ from e1]
  simp only [Option.bind_some]
  unfold matchB query_Match_j1 slices_ContainsFunc_int_int_v2 slices_IndexFunc_int_int_v2
  cases hx : (w.any fun k => !hasK cs k) with
  | true => rfl
  | false =>
    have e2 := contains_gen ho (hasK cs) (fun x5 => query_Match_1 x5 a b cs) (fun x _ => has_k h x a b) (fun s_ => slices_IndexFunc_int_int_v2_l2 o a b cs s_) (fun _ => rfl)
    rw [show ((loop (σ := Int) (ρ := (Int ⊕ Unit)) (fun s_ => slices_IndexFunc_int_int_v2_l2 o a b cs s_) 0).bind (Sum.elim (fun e_ => some e_) (fun e_ => slices_IndexFunc_int_int_v2_j1))).bind (fun x1 => some (decide (0 ≤ x1))) = _ from e2]
    simp [cnd_true]
/-! ### The reference's test -/
theorem mget_mputQ {κ ν : Type} [DecidableEq κ] (l : List (κ × ν)) (k : κ) (v : ν) (n : κ) : mget (mput l k v) n = if n = k then some v else mget l n := by
  unfold mget mput
  cases hf : mfind l k with
  | none =>
    simp only
    have hno := mfind_none hf
    rw [List.find?_append]
    by_cases e : n = k
    · subst e
      rw [if_pos rfl]
      have : l.find? (fun p => decide (p.1 = n)) = none := by
        have := hno.1
        unfold mget at this
        simpa using this
      rw [this]; simp
    · rw [if_neg e]
      have : ([(k, v)] : List (κ × ν)).find? (fun p => decide (p.1 = n)) = none := by simp; exact fun h => e h.symm
      rw [this]; simp
  | some i =>
    simp only
    obtain ⟨v0, hi, _⟩ := mfind_some hf
    unfold mfind at hf
    obtain ⟨hlt, hp, hb⟩ := List.findIdx?_eq_some_iff_getElem.1 hf
    have hk : l[i].1 = k := by simpa using hp
    have key : ∀ (l : List (κ × ν)) (i : Nat) (h : i < l.length), l[i].1 = k → (∀ j (hj : j < i), ¬ (l[j]'(by omega)).1 = k) → ((l.set i (k, v)).find? fun p => decide (p.1 = n)).map (·.2) = if n = k then some v else (l.find? fun p => decide (p.1 = n)).map (·.2) := by
      intro l
      induction l with
      | nil => intro i h; simp at h
      | cons x l ih =>
        intro i h hk hb
        cases i with
        | zero =>
          simp only [List.set_cons_zero, List.find?_cons, List.getElem_cons_zero] at hk ⊢
          by_cases e : n = k
          · subst e; simp
          · have e1 : ¬ k = n := fun h => e h.symm
            have e2 : ¬ x.1 = n := by rw [hk]; exact e1
            simp [e, e1, e2]
        | succ i =>
          have hx : ¬ x.1 = k := hb 0 (by omega)
          have ih' := ih i (by simpa using h) hk fun j hj => hb (j + 1) (by omega)
          simp only [List.set_cons_succ, List.find?_cons]
          by_cases e : x.1 = n
          · have : ¬ n = k := fun h => hx (e.trans h)
            simp [e, this]
          · simp only [e, decide_false, cond_false]; exact ih'
    exact key l i hlt hk fun j hj => by have := hb j hj; simpa using this
theorem fold_put : ∀ (cs : List api_Comp) (m : List (Int × Bool)) (k : Int), (mget (cs.foldl (fun t c => mput t c.Kind true) m) k).getD false = (hasK cs k || (mget m k).getD false)
  | [], m, k => by simp [hasK]
  | c :: cs, m, k => by
    rw [List.foldl_cons, fold_put cs, mget_mputQ]
    unfold hasK
    rw [List.any_cons]
    by_cases e : k = c.Kind
    · rw [if_pos e]; simp [e]
    · rw [if_neg e, beq_eq_false_iff_ne.2 (fun h => e h.symm), Bool.false_or]
theorem fits_ok {cs : List api_Comp} (h : cs.length ≤ 140737488355328) (a b : Int) {w o : List Int} (hw : w.length ≤ 140737488355328) (ho : o.length ≤ 140737488355328) : tourref3_Fits a b cs w o = some (matchB cs w o) := by
  unfold tourref3_Fits
  have h1 := loop_fold (step := fun s_ => tourref3_Fits_l6 cs s_.1 s_.2) cs (fun i t => (t, (i : Int))) (fun t c => mput t c.Kind true) id (fun _ _ => True) (fun i t hi _ => by
    refine ⟨?_, trivial⟩
    show tourref3_Fits_l6 cs t (i : Int) = _
    unfold tourref3_Fits_l6
    rw [cnd_dec, if_pos (by omega), idx_get hi]
    simp only [Option.bind_some]
    rw [i64ok (by omega) (by omega)]; rfl) (fun t _ => by
    show tourref3_Fits_l6 cs t (cs.length : Int) = _
    unfold tourref3_Fits_l6
    rw [cnd_dec, if_neg (by omega)]; rfl) ([] : List (Int × Bool)) trivial
  rw [show ((([] : List (Int × Bool)), (0 : Int)) : List (Int × Bool) × Int) = (([] : List (Int × Bool)), ((0 : Nat) : Int)) from rfl, h1]
  simp only [Option.bind_some, id]
  have hm : ∀ k, (mget (cs.foldl (fun t c => mput t c.Kind true) ([] : List (Int × Bool))) k).getD false = hasK cs k := fun k => by rw [fold_put]; simp [mget]
  generalize cs.foldl (fun t c => mput t c.Kind true) ([] : List (Int × Bool)) = m at hm ⊢
  unfold tourref3_Fits_j1
  have h2 := loop_any (step := fun s_ => tourref3_Fits_l5 w m s_) w (fun i => (i : Int)) (fun k => !hasK cs k) false () (fun i hi => by
    show tourref3_Fits_l5 w m (i : Int) = _
    unfold tourref3_Fits_l5
    rw [cnd_dec, if_pos (by omega), idx_get hi]
    simp only [Option.bind_some]
    rw [hm, cnd_ite, i64ok (by omega) (by omega)]
    by_cases hb : (!hasK cs w[i]) = true
    · rw [if_pos hb, if_pos hb]
    · rw [if_neg hb, if_neg hb]; rfl) (by
    show tourref3_Fits_l5 w m (w.length : Int) = _
    unfold tourref3_Fits_l5
    rw [cnd_dec, if_neg (by omega)])
  rw [show (0 : Int) = ((0 : Nat) : Int) from rfl, h2]
  unfold matchB
  cases hx : (w.any fun k => !hasK cs k) with
  | true => rfl
  | false =>
    simp only [Bool.false_eq_true, if_false, Option.bind_some, Sum.elim_inr]
    unfold tourref3_Fits_j2 tourref3_Fits_j3
    have h3 := loop_any (step := fun s_ => tourref3_Fits_l4 o m s_) o (fun i => (i : Int)) (hasK cs) false () (fun i hi => by
      show tourref3_Fits_l4 o m (i : Int) = _
      unfold tourref3_Fits_l4
      rw [cnd_dec, if_pos (by omega), idx_get hi]
      simp only [Option.bind_some]
      rw [hm, cnd_ite, i64ok (by omega) (by omega)]
      by_cases hb : hasK cs o[i] = true
      · rw [if_pos hb, if_pos hb]
      · rw [if_neg hb, if_neg hb]; rfl) (by
      show tourref3_Fits_l4 o m (o.length : Int) = _
      unfold tourref3_Fits_l4
      rw [cnd_dec, if_neg (by omega)])
    rw [show (0 : Int) = ((0 : Nat) : Int) from rfl, h3]
    cases o.any (hasK cs) <;> rfl
/-! ### What matches -/
/-- The indices below n of the items that match. -/
def upto (l : List api_Item) (w o : List Int) (n : Nat) : List Nat := (List.range n).filter fun i => match l[i]? with | some it => matchB it.Comps w o | none => false
theorem upto_succ {l : List api_Item} {w o : List Int} {n : Nat} (h : n < l.length) : upto l w o (n + 1) = if matchB l[n].Comps w o = true then upto l w o n ++ [n] else upto l w o n := by
  unfold upto
  rw [List.range_succ, List.filter_append]
  by_cases hb : matchB l[n].Comps w o = true
  · rw [if_pos hb]; simp [hb, h]
  · rw [if_neg hb]; simp [hb, h]
theorem upto_len (l : List api_Item) (w o : List Int) (n : Nat) : (upto l w o n).length ≤ n := Nat.le_trans (List.length_filter_le _ _) (by simp)
theorem upto_lt {l : List api_Item} {w o : List Int} {n i : Nat} (h : i ∈ upto l w o n) : i < l.length := by
  have := (List.mem_filter.1 h).2
  rcases Nat.lt_or_ge i l.length with h1 | h1
  · exact h1
  · rw [List.getElem?_eq_none h1] at this; simp at this
def rowAt (l : List api_Item) (i : Nat) : query_row := query_row.mk (i : Int) (l.getD i (api_Item.mk (api_Ent.mk 0 0) []))
theorem getD_at {l : List api_Item} {i : Nat} (h : i < l.length) (d : api_Item) : l.getD i d = l[i] := by rw [List.getD_eq_getElem?_getD, List.getElem?_eq_getElem h]; rfl
theorem all_ok {k0 : List api_Kind} {g0 : List Int} {l : List api_Item} (hl : szI l) (hn : l.length * 48 ≤ 140737488355328) {w o : List Int} (hw : w.length ≤ 140737488355328) (ho : o.length ≤ 140737488355328) : query_All k0 g0 l w o = some ((upto l w o l.length).map (rowAt l)) := by
  unfold query_All
  have h := loop_to (step := fun s_ => query_All_l2 l w o s_.1 s_.2) (fun i => ((upto l w o i).map (rowAt l), (i : Int))) l.length (r := (upto l w o l.length).map (rowAt l)) (fun i hi => by
    show query_All_l2 l w o _ (i : Int) = _
    unfold query_All_l2
    have hc := hl.2 _ (List.getElem_mem hi)
    rw [cnd_dec, if_pos (by omega), idx_get hi]
    simp only [Option.bind_some]
    rw [match_ok (by have := hc.1; omega) _ _ hw ho]
    simp only [Option.bind_some]
    have hj : ∀ q, query_All_j3 (i : Int) q = some (.inl (q, ((i + 1 : Nat) : Int))) := fun q => by unfold query_All_j3; rw [i64ok (by omega) (by omega)]; rfl
    rw [cnd_ite, kcopycs hc, hj]
    simp only [Option.bind_some]
    rw [upto_succ hi]
    by_cases hb : matchB l[i].Comps w o = true
    · have := upto_len l w o i
      rw [if_pos hb, if_pos hb, app_ok (by simp only [List.length_map, List.length_cons, List.length_nil]; omega)]
      simp only [Option.bind_some]
      rw [hj, List.map_append]
      simp only [List.map_cons, List.map_nil, rowAt, getD_at hi]
    · rw [if_neg hb, if_neg hb]) (by
    show query_All_l2 l w o _ (l.length : Int) = _
    unfold query_All_l2
    rw [cnd_dec, if_neg (by omega)])
  rw [show ((([] : List query_row), (0 : Int)) : List query_row × Int) = (fun i : Nat => ((upto l w o i).map (rowAt l), (i : Int))) 0 from rfl, h]
  rfl
theorem rowAt_sz {l : List api_Item} (hl : szI l) {w o : List Int} {n : Nat} {r : query_row} (h : r ∈ (upto l w o n).map (rowAt l)) : szC r.it.Comps := by
  obtain ⟨i, hi, rfl⟩ := List.mem_map.1 h
  have := upto_lt hi
  unfold rowAt
  rw [getD_at this]
  exact hl.2 _ (List.getElem_mem this)
theorem count_ok {k0 : List api_Kind} {g0 : List Int} {l : List api_Item} (hl : szI l) (hn : l.length * 48 ≤ 140737488355328) {w o : List Int} (hw : w.length ≤ 140737488355328) (ho : o.length ≤ 140737488355328) : query_Count k0 g0 l w o = some ((upto l w o l.length).length : Int) := by
  unfold query_Count
  rw [all_ok hl hn hw ho]
  simp only [Option.bind_some]
  have hle := upto_len l w o l.length
  have h := loop_to (step := fun s_ => query_Count_l2 ((upto l w o l.length).map (rowAt l)) s_) (fun i => (i : Int)) (upto l w o l.length).length (r := ((upto l w o l.length).length : Int)) (fun i hi => by
    show query_Count_l2 _ (i : Int) = _
    unfold query_Count_l2
    have hi' : i < ((upto l w o l.length).map (rowAt l)).length := by rw [List.length_map]; exact hi
    rw [cnd_dec, if_pos (by omega), idx_get hi']
    simp only [Option.bind_some]
    rw [kcopycs (rowAt_sz hl (List.getElem_mem hi'))]
    simp only [Option.bind_some]
    rw [i64ok (by omega) (by omega)]; rfl) (by
    show query_Count_l2 _ ((upto l w o l.length).length : Int) = _
    unfold query_Count_l2
    rw [cnd_dec, if_neg (by rw [List.length_map]; omega)])
  rw [show (0 : Int) = ((0 : Nat) : Int) from rfl, h]
  rfl
/-! ### Fields -/
/-- A component's value of the field, if it has it. -/
def hit (rk rf : Int) (c : api_Comp) : List Int := if c.Kind = rk ∧ 0 ≤ rf ∧ rf < (c.Vals.length : Int) then [c.Vals.getD rf.toNat 0] else []
def hits (rk rf : Int) (cs : List api_Comp) : List Int := cs.flatMap (hit rk rf)
def allE (rk rf : Int) (l : List api_Item) : List api_Ent := l.flatMap fun it => (hits rk rf it.Comps).map fun _ => it.Ent
def allV (rk rf : Int) (l : List api_Item) : List Int := l.flatMap fun it => hits rk rf it.Comps
theorem hit_len (rk rf : Int) (c : api_Comp) : (hit rk rf c).length ≤ 1 := by unfold hit; split <;> simp
theorem hits_len (rk rf : Int) : ∀ cs : List api_Comp, (hits rk rf cs).length ≤ cs.length
  | [] => Nat.le_refl _
  | c :: cs => by
    have h1 := hit_len rk rf c
    have h2 := hits_len rk rf cs
    unfold hits at h2 ⊢
    rw [List.flatMap_cons, List.length_append, List.length_cons]
    omega
theorem allV_len (rk rf : Int) : ∀ l : List api_Item, (allV rk rf l).length ≤ (l.map fun it => it.Comps.length).sum
  | [] => Nat.le_refl _
  | it :: l => by
    have h1 := hits_len rk rf it.Comps
    have h2 := allV_len rk rf l
    unfold allV at h2 ⊢
    rw [List.flatMap_cons, List.length_append, List.map_cons, List.sum_cons]
    omega
theorem allE_len (rk rf : Int) : ∀ l : List api_Item, (allE rk rf l).length = (allV rk rf l).length
  | [] => rfl
  | it :: l => by
    have h2 := allE_len rk rf l
    unfold allE allV at h2 ⊢
    rw [List.flatMap_cons, List.flatMap_cons, List.length_append, List.length_append, List.length_map, h2]
theorem ent_eta (e : api_Ent) : api_Ent.mk e.N e.Gen = e := rfl
theorem map_const {α β : Type} (x : β) (l : List α) : (l.map fun _ => x) = List.replicate l.length x := by induction l with | nil => rfl | cons a l ih => rw [List.map_cons, ih]; rfl
/-- A round of the program's walk over an item's components. -/
theorem fields_comps {it : api_Item} (hc : it.Comps.length ≤ 1048576) (rk rf : Int) {e0 : List api_Ent} {v0 : List Int} (he : e0.length ≤ 1048576) (hv : v0.length ≤ 1048576) :
    loop (σ := (List api_Ent) × (List Int) × Int) (ρ := (List api_Ent) × (List Int)) (fun s_ => query_Fields_l4 it rk rf s_.1 s_.2.1 s_.2.2) (e0, v0, 0) = some (e0 ++ (hits rk rf it.Comps).map (fun _ => it.Ent), v0 ++ hits rk rf it.Comps) := by
  have h := loop_to (step := fun s_ => query_Fields_l4 it rk rf s_.1 s_.2.1 s_.2.2) (fun i => (e0 ++ (hits rk rf (it.Comps.take i)).map (fun _ => it.Ent), v0 ++ hits rk rf (it.Comps.take i), (i : Int))) it.Comps.length (r := (e0 ++ (hits rk rf it.Comps).map (fun _ => it.Ent), v0 ++ hits rk rf it.Comps)) (fun i hi => by
    show query_Fields_l4 it rk rf _ _ (i : Int) = _
    have hlen := hits_len rk rf (it.Comps.take i)
    rw [List.length_take] at hlen
    have hnext : hits rk rf (it.Comps.take (i + 1)) = hits rk rf (it.Comps.take i) ++ hit rk rf it.Comps[i] := by unfold hits; rw [List.take_succ_eq_append_getElem hi, List.flatMap_append]; simp
    have hj : ∀ a b, query_Fields_j5 (i : Int) a b = some (.inl (a, b, ((i + 1 : Nat) : Int))) := fun a b => by unfold query_Fields_j5; rw [i64ok (by omega) (by omega)]; rfl
    unfold query_Fields_l4
    rw [cnd_dec, if_pos (by omega), idx_get hi]
    simp only [Option.bind_some, cnd_beq, cnd_dec, hj]
    rw [hnext]
    unfold hit
    by_cases h1 : it.Comps[i].Kind = rk
    · rw [if_pos h1]
      by_cases h2 : 0 ≤ rf
      · rw [if_pos h2]
        by_cases h3 : rf < (it.Comps[i].Vals.length : Int)
        · rw [if_pos h3, if_pos ⟨h1, h2, h3⟩, idx_getD 0 h2 h3]
          simp only [Option.bind_some]
          rw [app_ok (by simp only [List.length_append, List.length_map, List.length_cons, List.length_nil]; omega)]
          simp only [Option.bind_some]
          rw [app_ok (by simp only [List.length_append, List.length_cons, List.length_nil]; omega)]
          simp only [Option.bind_some, List.map_append, List.map_cons, List.map_nil, List.append_assoc, ent_eta]
        · rw [if_neg h3, if_neg (fun h => h3 h.2.2)]; simp
      · rw [if_neg h2, if_neg (fun h => h2 h.2.1)]; simp
    · rw [if_neg h1, if_neg (fun h => h1 h.1)]; simp) (by
    show query_Fields_l4 it rk rf _ _ (it.Comps.length : Int) = _
    unfold query_Fields_l4
    rw [cnd_dec, if_neg (by omega), List.take_length])
  rw [show ((e0, v0, (0 : Int)) : List api_Ent × List Int × Int) = (fun i : Nat => (e0 ++ (hits rk rf (it.Comps.take i)).map (fun _ => it.Ent), v0 ++ hits rk rf (it.Comps.take i), (i : Int))) 0 from by simp [hits], h]
def small (l : List api_Item) : Prop := l.length ≤ 1048576 ∧ (l.map fun it => it.Comps.length).sum ≤ 1048576
theorem small_take {l : List api_Item} (h : small l) (i : Nat) : ((l.take i).map fun it => it.Comps.length).sum ≤ 1048576 := by
  have h2 := h.2
  rw [← List.take_append_drop i l, List.map_append, List.sum_append] at h2
  omega
theorem small_at {l : List api_Item} (h : small l) {i : Nat} (hi : i < l.length) : l[i].Comps.length ≤ 1048576 := by
  have h2 := small_take h (i + 1)
  rw [List.take_succ_eq_append_getElem hi, List.map_append, List.sum_append] at h2
  simp only [List.map_cons, List.map_nil, List.sum_cons, List.sum_nil] at h2
  omega
theorem allV_succ (rk rf : Int) {l : List api_Item} {i : Nat} (hi : i < l.length) : allV rk rf (l.take (i + 1)) = allV rk rf (l.take i) ++ hits rk rf l[i].Comps := by unfold allV; rw [List.take_succ_eq_append_getElem hi, List.flatMap_append]; simp
theorem allE_succ (rk rf : Int) {l : List api_Item} {i : Nat} (hi : i < l.length) : allE rk rf (l.take (i + 1)) = allE rk rf (l.take i) ++ (hits rk rf l[i].Comps).map (fun _ => l[i].Ent) := by unfold allE; rw [List.take_succ_eq_append_getElem hi, List.flatMap_append]; simp
theorem fields_ok {k0 : List api_Kind} {g0 : List Int} {l : List api_Item} (hs : small l) (rk rf : Int) : query_Fields k0 g0 l rk rf = some (allE rk rf l, allV rk rf l) := by
  unfold query_Fields
  have hs1 := hs.1
  have h := loop_to (step := fun s_ => query_Fields_l2 l rk rf s_.1 s_.2.1 s_.2.2) (fun i => (allE rk rf (l.take i), allV rk rf (l.take i), (i : Int))) l.length (r := (allE rk rf l, allV rk rf l)) (fun i hi => by
    show query_Fields_l2 l rk rf _ _ (i : Int) = _
    have h1 := allV_len rk rf (l.take i)
    have h2 := small_take hs i
    have h3 := allE_len rk rf (l.take i)
    unfold query_Fields_l2
    rw [cnd_dec, if_pos (by omega), idx_get hi]
    simp only [Option.bind_some]
    rw [fields_comps (small_at hs hi) rk rf (by omega) (by omega)]
    simp only [Option.bind_some]
    unfold query_Fields_j3
    rw [allV_succ rk rf hi, allE_succ rk rf hi, i64ok (by omega) (by omega)]; rfl) (by
    show query_Fields_l2 l rk rf _ _ (l.length : Int) = _
    unfold query_Fields_l2
    rw [cnd_dec, if_neg (by omega), List.take_length])
  rw [show ((([] : List api_Ent), ([] : List Int), (0 : Int)) : List api_Ent × List Int × Int) = (fun i : Nat => (allE rk rf (l.take i), allV rk rf (l.take i), (i : Int))) 0 from rfl, h]
  rfl
/-- A round of the law's own walk over a component's values. -/
theorem law_vals {c : api_Comp} {it : api_Item} (hv : c.Vals.length ≤ 140737488355328) (rk rf : Int) {e0 : List api_Ent} {v0 : List Int} (he : e0.length ≤ 1048577) (hv0 : v0.length ≤ 1048577) :
    loop (σ := (List api_Ent) × (List Int) × Int) (ρ := (List api_Ent) × (List Int)) (fun s_ => tourlaw3_QueryFinds_l9 c rk rf it s_.1 s_.2.1 s_.2.2) (e0, v0, 0) = some (e0 ++ (hit rk rf c).map (fun _ => it.Ent), v0 ++ hit rk rf c) := by
  let pre (i : Nat) : List Int := if c.Kind = rk ∧ 0 ≤ rf ∧ rf < (i : Int) then [c.Vals.getD rf.toNat 0] else []
  have hpre : ∀ i, (pre i).length ≤ 1 := fun i => by show (if _ then _ else _ : List Int).length ≤ 1; split <;> simp
  have h := loop_to (step := fun s_ => tourlaw3_QueryFinds_l9 c rk rf it s_.1 s_.2.1 s_.2.2) (fun i => (e0 ++ (pre i).map (fun _ => it.Ent), v0 ++ pre i, (i : Int))) c.Vals.length (r := (e0 ++ (hit rk rf c).map (fun _ => it.Ent), v0 ++ hit rk rf c)) (fun i hi => by
    show tourlaw3_QueryFinds_l9 c rk rf it _ _ (i : Int) = _
    have hl := hpre i
    have hj : ∀ a b, tourlaw3_QueryFinds_j10 (i : Int) a b = some (.inl (a, b, ((i + 1 : Nat) : Int))) := fun a b => by unfold tourlaw3_QueryFinds_j10; rw [i64ok (by omega) (by omega)]; rfl
    unfold tourlaw3_QueryFinds_l9
    rw [cnd_dec, if_pos (by omega), idx_get hi]
    simp only [Option.bind_some, cnd_beq, hj]
    by_cases h1 : c.Kind = rk
    · rw [if_pos h1]
      by_cases h2 : (i : Int) = rf
      · have e1 : pre i = [] := if_neg (fun h => by omega)
        have e2 : pre (i + 1) = [c.Vals[i]] := by
          show (if _ then _ else _ : List Int) = _
          rw [if_pos ⟨h1, by omega, by omega⟩, ← h2, Int.toNat_natCast, List.getD_eq_getElem?_getD, List.getElem?_eq_getElem hi]; rfl
        rw [if_pos h2, e1, e2, app_ok (by simp only [List.length_append, List.length_map, List.length_cons, List.length_nil]; omega)]
        simp only [Option.bind_some]
        rw [app_ok (by simp only [List.length_append, List.length_cons, List.length_nil]; omega)]
        simp only [Option.bind_some, List.map_nil, List.append_nil, List.map_cons, ent_eta]
      · have e2 : pre (i + 1) = pre i := by
          show (if _ then _ else _ : List Int) = (if _ then _ else _ : List Int)
          by_cases h : c.Kind = rk ∧ 0 ≤ rf ∧ rf < (i : Int)
          · rw [if_pos h, if_pos ⟨h.1, h.2.1, by omega⟩]
          · rw [if_neg h, if_neg (fun h' => h ⟨h'.1, h'.2.1, by omega⟩)]
        rw [if_neg h2, e2]
    · have e1 : ∀ j, pre j = [] := fun j => if_neg (fun h => h1 h.1)
      rw [if_neg h1, e1, e1]) (by
    show tourlaw3_QueryFinds_l9 c rk rf it _ _ (c.Vals.length : Int) = _
    unfold tourlaw3_QueryFinds_l9
    rw [cnd_dec, if_neg (by omega)]
    rfl)
  have e0' : pre 0 = [] := if_neg (fun h => by omega)
  rw [show ((e0, v0, (0 : Int)) : List api_Ent × List Int × Int) = (fun i : Nat => (e0 ++ (pre i).map (fun _ => it.Ent), v0 ++ pre i, (i : Int))) 0 from by simp [e0'], h]
theorem law_comps {it : api_Item} (hc : it.Comps.length ≤ 1048576) (hcv : ∀ c ∈ it.Comps, c.Vals.length ≤ 140737488355328) (rk rf : Int) (g : List Int) {e0 : List api_Ent} {v0 : List Int} (h0 : e0.length = v0.length) (hv : v0.length + it.Comps.length ≤ 1048576) :
    loop (σ := (List api_Ent) × (List Int) × Int) (ρ := (List Int) × (List api_Ent) × (List Int)) (fun s_ => tourlaw3_QueryFinds_l7 it rk rf g s_.1 s_.2.1 s_.2.2) (e0, v0, 0) = some (g, e0 ++ (hits rk rf it.Comps).map (fun _ => it.Ent), v0 ++ hits rk rf it.Comps) := by
  have h := loop_to (step := fun s_ => tourlaw3_QueryFinds_l7 it rk rf g s_.1 s_.2.1 s_.2.2) (fun i => (e0 ++ (hits rk rf (it.Comps.take i)).map (fun _ => it.Ent), v0 ++ hits rk rf (it.Comps.take i), (i : Int))) it.Comps.length (r := (g, e0 ++ (hits rk rf it.Comps).map (fun _ => it.Ent), v0 ++ hits rk rf it.Comps)) (fun i hi => by
    show tourlaw3_QueryFinds_l7 it rk rf g _ _ (i : Int) = _
    have hlen := hits_len rk rf (it.Comps.take i)
    rw [List.length_take] at hlen
    have hnext : hits rk rf (it.Comps.take (i + 1)) = hits rk rf (it.Comps.take i) ++ hit rk rf it.Comps[i] := by unfold hits; rw [List.take_succ_eq_append_getElem hi, List.flatMap_append]; simp
    unfold tourlaw3_QueryFinds_l7
    rw [cnd_dec, if_pos (by omega), idx_get hi]
    simp only [Option.bind_some]
    rw [law_vals (hcv _ (List.getElem_mem hi)) rk rf (by simp only [List.length_append, List.length_map]; omega) (by simp only [List.length_append]; omega)]
    simp only [Option.bind_some]
    unfold tourlaw3_QueryFinds_j8
    rw [hnext, i64ok (by omega) (by omega), List.map_append, List.append_assoc, List.append_assoc]; rfl) (by
    show tourlaw3_QueryFinds_l7 it rk rf g _ _ (it.Comps.length : Int) = _
    unfold tourlaw3_QueryFinds_l7
    rw [cnd_dec, if_neg (by omega), List.take_length])
  rw [show ((e0, v0, (0 : Int)) : List api_Ent × List Int × Int) = (fun i : Nat => (e0 ++ (hits rk rf (it.Comps.take i)).map (fun _ => it.Ent), v0 ++ hits rk rf (it.Comps.take i), (i : Int))) 0 from by simp [hits], h]
/-! ### The law -/
theorem law_all {l : List api_Item} (hl : szI l) (hs : small l) {w o : List Int} : loop (σ := Int × (List Int)) (ρ := (Bool ⊕ (List Int))) (fun s_ => tourlaw3_QueryFinds_l11 ((upto l w o l.length).map (rowAt l)) l s_.1 s_.2) (0, ([] : List Int)) = some (.inr ((upto l w o l.length).map fun (i : Nat) => (i : Int))) := by
  have hs1 := hs.1
  have hle := upto_len l w o l.length
  have h := loop_to (step := fun s_ => tourlaw3_QueryFinds_l11 ((upto l w o l.length).map (rowAt l)) l s_.1 s_.2) (fun i => ((i : Int), ((upto l w o l.length).take i).map fun (i : Nat) => (i : Int))) (upto l w o l.length).length (r := .inr ((upto l w o l.length).map fun (i : Nat) => (i : Int))) (fun i hi => by
    show tourlaw3_QueryFinds_l11 _ l (i : Int) _ = _
    unfold tourlaw3_QueryFinds_l11
    have hi' : i < ((upto l w o l.length).map (rowAt l)).length := by rw [List.length_map]; exact hi
    have hm := List.getElem_mem hi
    have hlt := upto_lt hm
    have hrow : ((upto l w o l.length).map (rowAt l))[i] = query_row.mk ((upto l w o l.length)[i] : Int) l[(upto l w o l.length)[i]] := by rw [List.getElem_map]; unfold rowAt; rw [getD_at hlt]
    have hsz := hl.2 _ (List.getElem_mem hlt)
    rw [cnd_dec, if_pos (by omega), idx_get hi', hrow]
    simp only [Option.bind_some]
    rw [kcopycs hsz]
    simp only [Option.bind_some, cnd_dec]
    rw [if_neg (by omega), if_neg (by omega), idx_get hlt]
    simp only [Option.bind_some]
    rw [rsamei hsz, decide_eq_true rfl]
    simp only [Option.bind_some, Bool.not_true, cnd_false]
    rw [app_ok (by simp only [List.length_map, List.length_take, List.length_cons, List.length_nil]; omega), i64ok (by omega) (by omega), List.take_succ_eq_append_getElem hi, List.map_append]
    rfl) (by
    show tourlaw3_QueryFinds_l11 _ l ((upto l w o l.length).length : Int) _ = _
    unfold tourlaw3_QueryFinds_l11
    rw [cnd_dec, if_neg (by rw [List.length_map]; omega), List.take_length])
  rw [show (((0 : Int), ([] : List Int)) : Int × List Int) = (fun i : Nat => ((i : Int), ((upto l w o l.length).take i).map fun (i : Nat) => (i : Int))) 0 from rfl, h]
theorem law_items {l : List api_Item} (hl : szI l) (hs : small l) {w o : List Int} (hw : w.length ≤ 140737488355328) (ho : o.length ≤ 140737488355328) (rk rf : Int) :
    loop (σ := (List Int) × (List api_Ent) × (List Int) × Int) (ρ := (Bool ⊕ (List Int) × (List api_Ent) × (List Int))) (fun s_ => tourlaw3_QueryFinds_l4 l w o rk rf s_.1 s_.2.1 s_.2.2.1 s_.2.2.2) (([] : List Int), ([] : List api_Ent), ([] : List Int), 0) = some (.inr ((upto l w o l.length).map (fun (i : Nat) => (i : Int)), allE rk rf l, allV rk rf l)) := by
  have hs1 := hs.1
  have h := loop_to (step := fun s_ => tourlaw3_QueryFinds_l4 l w o rk rf s_.1 s_.2.1 s_.2.2.1 s_.2.2.2) (fun i => ((upto l w o i).map (fun (i : Nat) => (i : Int)), allE rk rf (l.take i), allV rk rf (l.take i), (i : Int))) l.length (r := .inr ((upto l w o l.length).map (fun (i : Nat) => (i : Int)), allE rk rf l, allV rk rf l)) (fun i hi => by
    show tourlaw3_QueryFinds_l4 l w o rk rf _ _ _ (i : Int) = _
    have hc := hl.2 _ (List.getElem_mem hi)
    have hcl : l[i].Comps.length ≤ 140737488355328 := by have := hc.1; omega
    have h1 := allV_len rk rf (l.take i)
    have h2 := small_take hs (i + 1)
    rw [List.take_succ_eq_append_getElem hi, List.map_append, List.sum_append] at h2
    simp only [List.map_cons, List.map_nil, List.sum_cons, List.sum_nil] at h2
    have hcv : ∀ c ∈ l[i].Comps, c.Vals.length ≤ 140737488355328 := fun c hcm => by have := hc.2 c hcm; omega
    have hj6 : ∀ g, tourlaw3_QueryFinds_j6 l[i] rk rf (allE rk rf (l.take i)) (allV rk rf (l.take i)) (i : Int) g = some (.inl (g, allE rk rf (l.take (i + 1)), allV rk rf (l.take (i + 1)), ((i + 1 : Nat) : Int))) := fun g => by
      unfold tourlaw3_QueryFinds_j6
      rw [law_comps (small_at hs hi) hcv rk rf g (allE_len rk rf _) (by omega)]
      simp only [Option.bind_some]
      unfold tourlaw3_QueryFinds_j5
      rw [allV_succ rk rf hi, allE_succ rk rf hi, i64ok (by omega) (by omega)]; rfl
    unfold tourlaw3_QueryFinds_l4
    rw [cnd_dec, if_pos (by omega), idx_get hi]
    simp only [Option.bind_some]
    rw [fits_ok hcl _ _ hw ho]
    simp only [Option.bind_some]
    rw [match_ok hcl _ _ hw ho]
    simp only [Option.bind_some, beq_self_eq_true, Bool.not_true, cnd_false]
    rw [cnd_ite, upto_succ hi, hj6]
    by_cases hb : matchB l[i].Comps w o = true
    · have := upto_len l w o i
      rw [if_pos hb, if_pos hb, app_ok (by simp only [List.length_map, List.length_cons, List.length_nil]; omega)]
      simp only [Option.bind_some]
      rw [hj6, List.map_append]; rfl
    · rw [if_neg hb, if_neg hb]) (by
    show tourlaw3_QueryFinds_l4 l w o rk rf _ _ _ (l.length : Int) = _
    unfold tourlaw3_QueryFinds_l4
    rw [cnd_dec, if_neg (by omega), List.take_length])
  rw [show ((([] : List Int), ([] : List api_Ent), ([] : List Int), (0 : Int)) : List Int × List api_Ent × List Int × Int) = (fun i : Nat => ((upto l w o i).map (fun (i : Nat) => (i : Int)), allE rk rf (l.take i), allV rk rf (l.take i), (i : Int))) 0 from rfl, h]
theorem equal_nums {a b : List Int} (ha : a.length ≤ 140737488355328) : slices_Equal_int_int a b = some (decide (a = b)) := by
  have e := equal_gen (a := a) (b := b) ha (fun x y => some (x == y)) (fun x _ y => by congr 1)
  unfold slices_Equal_int_int slices_Equal_int_int_l2 slices_Equal_int_int_j1
  exact e
theorem equal_ents {a b : List api_Ent} (ha : a.length ≤ 140737488355328) : slices_Equal_api_Ent_api_Ent a b = some (decide (a = b)) := by
  have e := equal_gen (a := a) (b := b) ha (fun x y => some (x.N == y.N && (x.Gen == y.Gen))) (fun x _ y => by
    congr 1
    rw [Bool.eq_iff_iff]
    obtain ⟨p, q⟩ := x
    obtain ⟨r, s⟩ := y
    simp)
  unfold slices_Equal_api_Ent_api_Ent slices_Equal_api_Ent_api_Ent_l2 slices_Equal_api_Ent_api_Ent_j1
  exact e
theorem sum_comps : ∀ (l : List api_Item), (l.map fun it => it.Comps.length).sum + 1 ≤ bkl bk_api_Item l
  | [] => by simp [bkl]
  | it :: l => by
    have h := sum_comps l
    have h1 := bkl_len (b := bk_api_Comp) (fun a => by unfold bk_api_Comp; omega) it.Comps
    have h2 : bk_api_Item it = bk_api_Ent it.Ent + (bkl bk_api_Comp) it.Comps + 1 := rfl
    unfold bkl at h h1 h2 ⊢
    rw [List.map_cons, List.sum_cons, List.map_cons, List.sum_cons]
    omega
theorem QueryFinds_true (w_0 : List api_Kind) (w_1 : List Int) (w_2 : List api_Item) (with_1 : List Int) (without : List Int) (r_0 : Int) (r_1 : Int) (h0 : ok_api_World (api_World.mk w_0 w_1 w_2)) (h1 : (okl 8 (okk .i64)) with_1) (h2 : (okl 8 (okk .i64)) without) (h3 : ok_api_Ref (api_Ref.mk r_0 r_1)) (hb : bk_api_World (api_World.mk w_0 w_1 w_2) + (bkl bk1) with_1 + (bkl bk1) without + bk_api_Ref (api_Ref.mk r_0 r_1) ≤ 1048576) : tourlaw3_QueryFinds w_0 w_1 w_2 with_1 without r_0 r_1 = some true := by
  have hw : with_1.length ≤ 140737488355328 := by have := h1.1; omega
  have ho : without.length ≤ 140737488355328 := by have := h2.1; omega
  have hI : okl 40 ok_api_Item w_2 := h0.2.2
  have hl : szI w_2 := ⟨by have := hI.1; omega, fun it hit => ⟨by have := (hI.2 it hit).2.1; omega, fun c hc => by have := (((hI.2 it hit).2.2 c hc).2).1; omega⟩⟩
  have hbI : bkl bk_api_Item w_2 ≤ 1048576 := by
    have : bk_api_World (api_World.mk w_0 w_1 w_2) = (bkl bk_api_Kind) w_0 + (bkl bk1) w_1 + (bkl bk_api_Item) w_2 + 1 := rfl
    omega
  have hs : small w_2 := by
    have a1 := bkl_len (b := bk_api_Item) (fun a => by unfold bk_api_Item; omega) w_2
    have a2 := sum_comps w_2
    exact ⟨by omega, by omega⟩
  have hs1 := hs.1
  unfold tourlaw3_QueryFinds tourlaw3_pair tourlaw3_two
  simp only [Option.bind_some, bnd3_some]
  rw [count_ok (w := [1]) (o := [0]) ⟨by decide, by
    intro it hit
    simp only [List.mem_cons, List.not_mem_nil, or_false] at hit
    rcases hit with rfl | rfl
    · exact ⟨by decide, fun c hc => by
        simp only [List.mem_cons, List.not_mem_nil, or_false] at hc
        rcases hc with rfl | rfl <;> decide⟩
    · exact ⟨by decide, fun c hc => by
        simp only [List.mem_cons, List.not_mem_nil, or_false] at hc
        subst hc; decide⟩⟩ (by decide) (by decide) (by decide)]
  simp only [Option.bind_some]
  rw [cnd_neg (by rfl)]
  rw [all_ok hl (by omega) hw ho]
  simp only [Option.bind_some]
  rw [law_all hl hs]
  simp only [Option.bind_some, Sum.elim_inr]
  unfold tourlaw3_QueryFinds_j1
  rw [law_items hl hs hw ho]
  simp only [Option.bind_some, Sum.elim_inr]
  unfold tourlaw3_QueryFinds_j2 tourlaw3_QueryFinds_j3
  rw [fields_ok hs]
  simp only [bnd2_some]
  have hle := upto_len w_2 with_1 without w_2.length
  have hlv := allV_len r_0 r_1 w_2
  have hle2 := allE_len r_0 r_1 w_2
  have hs2 := hs.2
  rw [equal_nums (by rw [List.length_map]; omega), decide_eq_true rfl]
  simp only [Option.bind_some, cnd_true]
  rw [count_ok hl (by omega) hw ho]
  simp only [Option.bind_some, List.length_map, beq_self_eq_true, cnd_true]
  rw [equal_ents (by omega), decide_eq_true rfl]
  simp only [Option.bind_some, cnd_true]
  rw [equal_nums (by omega), decide_eq_true rfl]
  rfl
end Go.Proofs.Ythcniadbdjoecaa.Q
