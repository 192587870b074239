/- The plain law of moves: what a move makes of valid kinds, the program's and the reference's. No condition. -/
import Derived.Test.YtnnhijlgohlaeaaDoorPuKindsA
import Derived.Test.YtnnhijlgohlaeaaDoorExMap
namespace Go.Proofs.YtnnhijlgohlaeaaDoor.A
open Go Go.RowKit Go.Proofs.YtnnhijlgohlaeaaDoor.Sx Classical
set_option linter.unusedVariables false
set_option linter.unusedSimpArgs false
/-! ### Editing one place of a list -/
def editAt {α : Type} (j : Int) (g : α → List α) : Nat → List α → List α
  | _, [] => []
  | p, x :: xs => (if (p : Int) = j then g x else [x]) ++ editAt j g (p + 1) xs
theorem editAt_app {α : Type} {j : Int} {g : α → List α} : ∀ (a b : List α) (p : Nat), editAt j g p (a ++ b) = editAt j g p a ++ editAt j g (p + a.length) b := by
  intro a
  induction a with
  | nil => intro b p; rfl
  | cons x a ih =>
    intro b p
    show _ ++ editAt j g (p + 1) (a ++ b) = _ ++ editAt j g (p + 1) a ++ _
    rw [ih, List.append_assoc, List.length_cons, show p + 1 + a.length = p + (a.length + 1) by omega]
theorem editAt_no {α : Type} {j : Int} {g : α → List α} : ∀ (l : List α) (p : Nat), (∀ q, p ≤ q → q < p + l.length → (q : Int) ≠ j) → editAt j g p l = l := by
  intro l
  induction l with
  | nil => intro p _; rfl
  | cons x l ih =>
    intro p h
    show _ ++ editAt j g (p + 1) l = _
    rw [if_neg (h p (Nat.le_refl _) (by simp)), ih (p + 1) fun q h1 h2 => h q (by omega) (by simp only [List.length_cons]; omega)]; rfl
theorem editAt_id {α : Type} {j : Int} {g : α → List α} (hg : ∀ x, g x = [x]) : ∀ (l : List α) (p : Nat), editAt j g p l = l := by
  intro l
  induction l with
  | nil => intro p; rfl
  | cons x l ih => intro p; show _ ++ editAt j g (p + 1) l = _; rw [ih, hg]; simp
theorem editAt_at {α : Type} {g : α → List α} {l : List α} {i : Nat} (hi : i < l.length) : editAt (i : Int) g 0 l = l.take i ++ g l[i] ++ l.drop (i + 1) := by
  have hsp : l = l.take i ++ l[i] :: l.drop (i + 1) := by rw [← List.drop_eq_getElem_cons hi, List.take_append_drop]
  have htl : (l.take i).length = i := by rw [List.length_take]; omega
  conv => lhs; rw [hsp]
  rw [editAt_app, editAt_no _ _ (fun q _ h2 => by omega)]
  show _ ++ ((if ((0 + (l.take i).length : Nat) : Int) = (i : Int) then g l[i] else [l[i]]) ++ editAt (i : Int) g (0 + (l.take i).length + 1) (l.drop (i + 1))) = _
  rw [if_pos (by omega), editAt_no _ _ (fun q h1 _ => by omega), List.append_assoc]
theorem editAt_take {α : Type} {j : Int} {g : α → List α} {l : List α} {p : Nat} (hp : p < l.length) : editAt j g 0 (l.take (p + 1)) = editAt j g 0 (l.take p) ++ (if (p : Int) = j then g l[p] else [l[p]]) := by
  rw [List.take_succ_eq_append_getElem hp, editAt_app]
  have htl : (l.take p).length = p := by rw [List.length_take]; omega
  congr 1
  show (if ((0 + (l.take p).length : Nat) : Int) = j then g l[p] else [l[p]]) ++ [] = _
  rw [List.append_nil, htl, Nat.zero_add]
theorem set_app {α : Type} {l : List α} {i : Nat} {x : α} (hi : i < l.length) : l.set i x = l.take i ++ [x] ++ l.drop (i + 1) := by rw [List.set_eq_take_append_cons_drop, if_pos hi]; simp
/-! ### Places by names -/
def findF' (l : List api_Field) (nm : ByteArray) : Int := match l.findIdx? (fun f => decide (f.Name = nm)) with | some i => (i : Int) | none => -1
theorem kfieldf' {k0 : ByteArray} {l : List api_Field} {nm : ByteArray} (hl : l.length ≤ 140737488355328) : kind_Field k0 l nm = some (findF' l nm) := by
  have e : loop (σ := Int) (ρ := (Int ⊕ Unit)) (fun s_ => kind_Field_l2 l nm s_) 0 = _ := loop_at l (fun i => (i : Int)) (fun f => decide (f.Name = nm)) () (fun i hi => by
    show kind_Field_l2 l nm (i : Int) = _
    unfold kind_Field_l2
    rw [cnd_dec, if_pos (by omega), idx_get hi]
    simp only [Option.bind_some, bytes_eq, cnd_dec, decide_eq_true_eq]
    by_cases hp : l[i].Name = nm
    · rw [if_pos hp, if_pos hp]
    · rw [if_neg hp, if_neg hp, i64ok (by omega) (by omega)]; rfl) (by
    show kind_Field_l2 l nm (l.length : Int) = _
    unfold kind_Field_l2
    rw [cnd_dec, if_neg (by omega)])
  unfold kind_Field findF'
  rw [e]
  cases l.findIdx? (fun f => decide (f.Name = nm)) <;> rfl
theorem findV_at {l : List api_Kind} {nm : ByteArray} (h : ¬ findV l nm < 0) : ∃ i : Nat, findV l nm = (i : Int) ∧ i < l.length := by
  unfold findV at h ⊢
  cases hf : l.findIdx? (fun k => decide (k.Name = nm)) with
  | none => rw [hf] at h; exact absurd (by decide) h
  | some i =>
    rw [List.findIdx?_eq_some_iff_getElem] at hf
    exact ⟨i, rfl, hf.1⟩
theorem findF_at {l : List api_Field} {nm : ByteArray} (h : ¬ findF' l nm < 0) : ∃ i : Nat, findF' l nm = (i : Int) ∧ i < l.length := by
  unfold findF' at h ⊢
  cases hf : l.findIdx? (fun k => decide (k.Name = nm)) with
  | none => rw [hf] at h; exact absurd (by decide) h
  | some i =>
    rw [List.findIdx?_eq_some_iff_getElem] at hf
    exact ⟨i, rfl, hf.1⟩
/-- The field's place within the kind that is named. -/
def findJ (k : List api_Kind) (nm f : ByteArray) : Int := match k.findIdx? (fun k => decide (k.Name = nm)) with | some i => (match k[i]? with | some x => findF' x.Fields f | none => -1) | none => -1
theorem findJ_at {k : List api_Kind} {nm f : ByteArray} {i : Nat} (hi : i < k.length) (h : findV k nm = (i : Int)) : findJ k nm f = findF' k[i].Fields f := by
  unfold findV at h
  unfold findJ
  cases hf : k.findIdx? (fun k => decide (k.Name = nm)) with
  | none => rw [hf] at h; simp only at h; omega
  | some i' =>
    rw [hf] at h
    simp only at h
    obtain rfl : i' = i := by omega
    simp only [List.getElem?_eq_getElem hi]
theorem where_l4 {x : api_Kind} {f : ByteArray} (a : Int) (hl : x.Fields.length ≤ 140737488355328) : loop (σ := Int) (ρ := ((Int × Int) ⊕ Unit)) (fun s_ => tourref3_where_l4 x f a s_) 0 = some (if findF' x.Fields f < 0 then .inr () else .inl (a, findF' x.Fields f)) := by
  have e := loop_first (σ := Int) (ρ := Int × Int) (υ := Unit) (step := fun s_ => tourref3_where_l4 x f a s_) (fun i => (i : Int)) x.Fields.length (fun i => (x.Fields[i]?).map (·.Name) = some f) (fun i => (a, (i : Int))) () (fun i hi hp => by
      show tourref3_where_l4 x f a (i : Int) = _
      unfold tourref3_where_l4
      rw [List.getElem?_eq_getElem hi] at hp
      rw [cnd_dec, if_pos (by omega), idx_get hi]
      simp only [Option.bind_some, bytes_eq, cnd_dec]
      rw [if_pos (Option.some.inj hp)]) (fun i hi hp => by
      show tourref3_where_l4 x f a (i : Int) = _
      unfold tourref3_where_l4
      rw [List.getElem?_eq_getElem hi] at hp
      rw [cnd_dec, if_pos (by omega), idx_get hi]
      simp only [Option.bind_some, bytes_eq, cnd_dec]
      rw [if_neg (fun e => hp (congrArg some e)), i64ok (by omega) (by omega)]; rfl) (by
      show tourref3_where_l4 x f a (x.Fields.length : Int) = _
      unfold tourref3_where_l4
      rw [cnd_dec, if_neg (by omega)])
  rcases e with ⟨k, h1, h2, h3, h4⟩ | ⟨h1, h2⟩
  · have hf : findF' x.Fields f = (k : Int) := by
      unfold findF'
      rw [List.getElem?_eq_getElem h1] at h2
      rw [findIdx_first h1 (decide_eq_true (Option.some.inj h2)) (fun j hj => decide_eq_false (fun e => h3 j hj (by rw [List.getElem?_eq_getElem (by omega)]; exact congrArg some e)))]
    rw [hf, if_neg (by omega)]
    exact h4
  · have hf : findF' x.Fields f = -1 := by
      unfold findF'
      rw [List.findIdx?_eq_none_iff.2 (fun y hy => by
        obtain ⟨k, hk, rfl⟩ := List.mem_iff_getElem.1 hy
        exact decide_eq_false (fun e => h1 k hk (by rw [List.getElem?_eq_getElem hk]; exact congrArg some e)))]
    rw [hf, if_pos (by omega)]
    exact h2
theorem rwhere {k : List api_Kind} {nm f : ByteArray} (hl : k.length ≤ 1000000) (hf : ∀ i (h : i < k.length), k[i].Fields.length ≤ 140737488355328) : tourref3_where k nm f = some (findV k nm, findJ k nm f) := by
  have e := loop_first (σ := Int) (ρ := Int × Int) (υ := Unit) (step := fun s_ => tourref3_where_l2 k nm f s_) (fun i => (i : Int)) k.length (fun i => (k[i]?).map (·.Name) = some nm) (fun i => ((i : Int), match k[i]? with | some x => findF' x.Fields f | none => -1)) () (fun i hi hp => by
      show tourref3_where_l2 k nm f (i : Int) = _
      unfold tourref3_where_l2
      rw [List.getElem?_eq_getElem hi] at hp
      rw [cnd_dec, if_pos (by omega), idx_get hi]
      simp only [Option.bind_some, bytes_eq, cnd_not, cnd_dec]
      rw [if_pos (Option.some.inj hp), where_l4 _ (hf i hi), List.getElem?_eq_getElem hi]
      simp only [Option.bind_some]
      by_cases h : findF' k[i].Fields f < 0
      · rw [if_pos h]
        have : findF' k[i].Fields f = -1 := by
          unfold findF' at h ⊢
          cases hq : k[i].Fields.findIdx? (fun y => decide (y.Name = f)) with
          | none => rfl
          | some q => rw [hq] at h; simp only at h; omega
        rw [this]; rfl
      · rw [if_neg h]; rfl) (fun i hi hp => by
      show tourref3_where_l2 k nm f (i : Int) = _
      unfold tourref3_where_l2
      rw [List.getElem?_eq_getElem hi] at hp
      rw [cnd_dec, if_pos (by omega), idx_get hi]
      simp only [Option.bind_some, bytes_eq, cnd_not, cnd_dec]
      rw [if_neg (fun e => hp (congrArg some e)), i64ok (by omega) (by omega)]; rfl) (by
      show tourref3_where_l2 k nm f (k.length : Int) = _
      unfold tourref3_where_l2
      rw [cnd_dec, if_neg (by omega)])
  unfold tourref3_where
  rcases e with ⟨i, h1, h2, h3, h4⟩ | ⟨h1, h2⟩
  · have e4 : loop (σ := Int) (ρ := ((Int × Int) ⊕ Unit)) (fun s_ => tourref3_where_l2 k nm f s_) 0 = _ := h4
    rw [e4]
    have hv : k.findIdx? (fun k => decide (k.Name = nm)) = some i := by
      rw [List.getElem?_eq_getElem h1] at h2
      exact findIdx_first h1 (decide_eq_true (Option.some.inj h2)) (fun j hj => decide_eq_false (fun e => h3 j hj (by rw [List.getElem?_eq_getElem (by omega)]; exact congrArg some e)))
    unfold findV findJ
    rw [hv]; rfl
  · have e4 : loop (σ := Int) (ρ := ((Int × Int) ⊕ Unit)) (fun s_ => tourref3_where_l2 k nm f s_) 0 = _ := h2
    rw [e4]
    have hv : k.findIdx? (fun k => decide (k.Name = nm)) = none := List.findIdx?_eq_none_iff.2 (fun x hx => by
        obtain ⟨q, hq, rfl⟩ := List.mem_iff_getElem.1 hx
        exact decide_eq_false (fun e => h1 q hq (by rw [List.getElem?_eq_getElem hq]; exact congrArg some e)))
    unfold findV findJ
    rw [hv]; rfl
/-! ### One move -/
def chgF (m : migrate_Move) (f : api_Field) : List api_Field := if m.Do = 4 then [] else if m.Do = 5 then [api_Field.mk m.Name f.Bits f.Low] else if m.Do = 6 then [api_Field.mk f.Name m.New.Bits m.New.Low] else [f]
def chgK (m : migrate_Move) (j : Int) (x : api_Kind) : List api_Kind := if m.Do = 1 then [] else [api_Kind.mk (if m.Do = 2 then m.Name else x.Name) (editAt j (chgF m) 0 x.Fields ++ (if m.Do = 3 then [m.New] else []))]
def resK (k : List api_Kind) (m : migrate_Move) : List api_Kind := editAt (findV k m.Kind) (chgK m (findJ k m.Kind m.Field)) 0 k ++ (if m.Do = 0 then [m.Whole] else [])
noncomputable def finK (r : List api_Kind) : List api_Kind × Int := if checkV r = 0 then (r, 0) else ([], checkV r)
noncomputable def after (k : List api_Kind) (m : migrate_Move) : List api_Kind × Int := if m.Do < 0 ∨ 6 < m.Do then ([], 1) else if 0 < m.Do ∧ findV k m.Kind < 0 then ([], 4) else if 3 < m.Do ∧ findJ k m.Kind m.Field < 0 then ([], 4) else finK (resK k m)
/-- Texts no longer than memory. -/
def okK (k : List api_Kind) : Prop := ∀ i (h : i < k.length), oks k[i].Name ∧ ∀ j (hj : j < k[i].Fields.length), oks k[i].Fields[j].Name
def okM (m : migrate_Move) : Prop := oks m.Kind ∧ oks m.Field ∧ oks m.Name ∧ oks m.New.Name ∧ oks m.Whole.Name ∧ (∀ j (hj : j < m.Whole.Fields.length), oks m.Whole.Fields[j].Name) ∧ m.Whole.Fields.length ≤ 4398046511103
theorem okK_mem {k : List api_Kind} : okK k ↔ ∀ x ∈ k, oks x.Name ∧ ∀ f ∈ x.Fields, oks f.Name := by
  constructor
  · intro h x hx
    obtain ⟨i, hi, rfl⟩ := List.mem_iff_getElem.1 hx
    refine ⟨(h i hi).1, fun f hf => ?_⟩
    obtain ⟨j, hj, rfl⟩ := List.mem_iff_getElem.1 hf
    exact (h i hi).2 j hj
  · intro h i hi
    exact ⟨(h _ (List.getElem_mem hi)).1, fun j hj => (h _ (List.getElem_mem hi)).2 _ (List.getElem_mem hj)⟩
theorem editAt_mem {α : Type} {j : Int} {g : α → List α} : ∀ {l : List α} {p : Nat} {y : α}, y ∈ editAt j g p l → y ∈ l ∨ ∃ x ∈ l, y ∈ g x := by
  intro l
  induction l with
  | nil => intro p y h; cases h
  | cons x l ih =>
    intro p y h
    have h' : y ∈ (if (p : Int) = j then g x else [x]) ++ editAt j g (p + 1) l := h
    rcases List.mem_append.1 h' with h | h
    · split at h
      · exact .inr ⟨x, by simp, h⟩
      · exact .inl (by simp [List.mem_singleton.1 h])
    · rcases ih h with h | ⟨z, hz, h⟩
      · exact .inl (by simp [h])
      · exact .inr ⟨z, by simp [hz], h⟩
theorem resK_ok {k : List api_Kind} {m : migrate_Move} (hk : okK k) (hm : okM m) : okK (resK k m) := by
  rw [okK_mem] at hk ⊢
  obtain ⟨m1, m2, m3, m4, m5, m6, _⟩ := hm
  have hedit : ∀ x ∈ k, ∀ f ∈ editAt (findJ k m.Kind m.Field) (chgF m) 0 x.Fields, oks f.Name := fun x hx f hf => by
    rcases editAt_mem hf with h | ⟨g, hg, h⟩
    · exact (hk x hx).2 f h
    · unfold chgF at h
      split at h
      · cases h
      · split at h
        · rw [List.mem_singleton.1 h]; exact m3
        · split at h
          · rw [List.mem_singleton.1 h]; exact (hk x hx).2 g hg
          · rw [List.mem_singleton.1 h]; exact (hk x hx).2 g hg
  intro y hy
  unfold resK at hy
  rcases List.mem_append.1 hy with hy | hy
  · rcases editAt_mem hy with h | ⟨x, hx, h⟩
    · exact hk y h
    · unfold chgK at h
      split at h
      · cases h
      · rw [List.mem_singleton.1 h]
        refine ⟨?_, fun f hf => ?_⟩
        · show oks (if m.Do = 2 then m.Name else x.Name)
          split
          · exact m3
          · exact (hk x hx).1
        · rcases List.mem_append.1 hf with hf | hf
          · exact hedit x hx f hf
          · split at hf
            · rw [List.mem_singleton.1 hf]; exact m4
            · cases hf
  · split at hy
    · rw [List.mem_singleton.1 hy]
      refine ⟨m5, fun f hf => ?_⟩
      obtain ⟨j, hj, rfl⟩ := List.mem_iff_getElem.1 hf
      exact m6 j hj
    · cases hy
theorem checkV_ok {l : List api_Kind} (h : checkV l = 0) : l.length ≤ 16 ∧ ∀ i (hi : i < l.length), oneV l[i].Name l[i].Fields = 0 := by
  unfold checkV at h
  by_cases h8 : 16 < l.length
  · rw [if_pos h8] at h; cases h
  · rw [if_neg h8] at h
    refine ⟨by omega, fun i hi => ?_⟩
    have hall : checkG l i = none := by
      cases hf : (List.range l.length).findSome? (checkG l) with
      | none => exact List.findSome?_eq_none_iff.1 hf i (List.mem_range.2 hi)
      | some r =>
        rw [hf] at h
        obtain ⟨i, _, hi⟩ := List.exists_of_findSome?_eq_some hf
        simp only [Option.getD_some] at h
        subst h
        unfold checkG at hi
        split at hi
        · cases hi
        · split at hi
          · split at hi <;> cases hi
          · rename_i hne; exact absurd (Option.some.inj hi) hne
    rw [checkG_at hi] at hall
    by_cases h0 : oneV l[i].Name l[i].Fields = 0
    · exact h0
    · rw [if_neg h0] at hall; cases hall
theorem valid_len {k : List api_Kind} (h : checkV k = 0) : k.length ≤ 16 ∧ ∀ i (hi : i < k.length), k[i].Fields.length ≤ 8 :=
  ⟨(checkV_ok h).1, fun i hi => (oneV_ok ((checkV_ok h).2 i hi)).2.1⟩
theorem finK_eq (r : List api_Kind) : migrate_one_j1 r = some (finK r) := by
  unfold migrate_one_j1 finK
  rw [kcheck]
  simp only [Option.bind_some, cnd_not, cnd_beq]
  split <;> rfl
theorem one_ok {k : List api_Kind} (hv : checkV k = 0) {m : migrate_Move} (hm : okM m) : migrate_one k m.Do m.Kind m.Field m.Name m.Value m.New.Name m.New.Bits m.New.Low m.Whole.Name m.Whole.Fields = some (after k m) := by
  obtain ⟨hl, hf⟩ := valid_len hv
  have hcopy : kind_Copy k = some k := kcopy (by omega) (fun i hi => by have := hf i hi; omega)
  unfold migrate_one migrate_place after
  by_cases h1 : m.Do < 0
  · rw [cnd_dec, if_pos h1, if_pos (.inl h1)]; rfl
  rw [cnd_dec, if_neg h1]
  by_cases h2 : 6 < m.Do
  · rw [cnd_dec, if_pos h2, if_pos (.inr h2)]; rfl
  rw [cnd_dec, if_neg h2, if_neg (by omega), cnd_beq]
  by_cases h0 : m.Do = 0
  · rw [if_pos h0]
    simp only [bnd3_some]
    rw [cnd_not, cnd_beq, if_pos rfl, hcopy]
    simp only [Option.bind_some]
    rw [cnd_beq, if_pos h0, kcopy (l := [api_Kind.mk m.Whole.Name m.Whole.Fields]) (by simp) (fun i hi => by
      have : i = 0 := by simpa using hi
      subst this; exact hm.2.2.2.2.2.2)]
    simp only [Option.bind_some]
    rw [app_ok (by simp only [List.length_cons, List.length_nil]; omega)]
    simp only [Option.bind_some]
    rw [finK_eq, if_neg (by omega), if_neg (by omega)]
    congr 2
    unfold resK
    rw [if_pos h0, editAt_id (fun x => ?_)]
    unfold chgK
    rw [if_neg (by omega), if_neg (by omega), if_neg (by omega), List.append_nil, editAt_id (fun f => ?_)]
    unfold chgF
    rw [if_neg (by omega), if_neg (by omega), if_neg (by omega)]
  · rw [if_neg h0, kfind _ _ (by omega)]
    simp only [Option.bind_some]
    by_cases hi0 : findV k m.Kind < 0
    · rw [cnd_dec, if_pos hi0, if_pos ⟨by omega, hi0⟩]; rfl
    · rw [cnd_dec, if_neg hi0, if_neg (fun h => hi0 h.2)]
      obtain ⟨i, hi, hil⟩ := findV_at hi0
      have hfi := hf i hil
      by_cases h3 : m.Do ≤ 3
      · rw [cnd_dec, if_pos h3]
        simp only [bnd3_some]
        rw [cnd_not, cnd_beq, if_pos rfl, hcopy]
        simp only [Option.bind_some]
        rw [cnd_beq, if_neg h0, if_neg (by omega)]
        have hFid : ∀ f, chgF m f = [f] := fun f => by unfold chgF; rw [if_neg (by omega), if_neg (by omega), if_neg (by omega)]
        have hres : resK k m = k.take i ++ (if m.Do = 1 then [] else [api_Kind.mk (if m.Do = 2 then m.Name else k[i].Name) (k[i].Fields ++ (if m.Do = 3 then [m.New] else []))]) ++ k.drop (i + 1) := by
          unfold resK
          rw [if_neg h0, List.append_nil, hi, editAt_at hil]
          unfold chgK
          rw [editAt_id hFid]
        rw [hi]
        by_cases d1 : m.Do = 1
        · rw [cnd_beq, if_pos d1, i64ok (by omega) (by omega)]
          unfold slices_Delete_api_Kind_api_Kind del
          rw [if_pos ⟨by omega, by omega, by omega⟩]
          simp only [Option.bind_some]
          rw [finK_eq, hres, if_pos d1, List.append_nil, Int.toNat_natCast, show ((i : Int) + 1).toNat = i + 1 by omega]
        · rw [cnd_beq, if_neg d1]
          by_cases d2 : m.Do = 2
          · rw [cnd_beq, if_pos d2, idx_get hil]
            simp only [Option.bind_some]
            rw [upd_ok hil]
            simp only [Option.bind_some]
            rw [finK_eq, hres, if_neg d1, if_pos d2, if_neg (by omega), List.append_nil, set_app hil]
          · rw [cnd_beq, if_neg d2, cnd_beq, if_pos (by omega), idx_get hil]
            simp only [Option.bind_some]
            rw [app_ok (by simp only [List.length_cons, List.length_nil]; omega)]
            simp only [Option.bind_some]
            rw [upd_ok hil]
            simp only [Option.bind_some]
            rw [finK_eq, hres, if_neg d1, if_neg d2, if_pos (by omega), set_app hil]
      · rw [cnd_dec, if_neg h3, hi, idx_get hil]
        simp only [Option.bind_some]
        rw [kfieldf' (by omega)]
        simp only [Option.bind_some]
        rw [findJ_at hil hi]
        by_cases hj0 : findF' k[i].Fields m.Field < 0
        · rw [cnd_dec, if_pos hj0, if_pos ⟨by omega, hj0⟩]; rfl
        · rw [cnd_dec, if_neg hj0, if_neg (fun h => hj0 h.2)]
          obtain ⟨j, hj, hjl⟩ := findF_at hj0
          simp only [bnd3_some]
          rw [cnd_not, cnd_beq, if_pos rfl, hcopy]
          simp only [Option.bind_some]
          have hres : resK k m = k.set i (api_Kind.mk k[i].Name (k[i].Fields.take j ++ chgF m k[i].Fields[j] ++ k[i].Fields.drop (j + 1))) := by
            unfold resK
            rw [if_neg h0, List.append_nil, hi, editAt_at hil, findJ_at hil hi, hj]
            unfold chgK
            rw [if_neg (by omega), if_neg (by omega), if_neg (by omega), List.append_nil, editAt_at hjl, set_app hil]
          rw [cnd_beq, if_neg h0, cnd_beq, if_neg (by omega), cnd_beq, if_neg (by omega), cnd_beq, if_neg (by omega), hj]
          by_cases d4 : m.Do = 4
          · rw [cnd_beq, if_pos d4, idx_get hil]
            simp only [Option.bind_some]
            rw [i64ok (by omega) (by omega)]
            unfold slices_Delete_api_Field_api_Field del
            rw [if_pos ⟨by omega, by omega, by omega⟩]
            simp only [Option.bind_some]
            rw [upd_ok hil]
            simp only [Option.bind_some]
            rw [finK_eq, hres]
            unfold chgF
            rw [if_pos d4, List.append_nil, Int.toNat_natCast, show ((j : Int) + 1).toNat = j + 1 by omega]
          · rw [cnd_beq, if_neg d4]
            by_cases d5 : m.Do = 5
            · rw [cnd_beq, if_pos d5, idx_get hil]
              simp only [Option.bind_some]
              rw [idx_get hjl]
              simp only [Option.bind_some]
              rw [upd_ok hjl]
              simp only [Option.bind_some]
              rw [upd_ok hil]
              simp only [Option.bind_some]
              rw [finK_eq, hres]
              unfold chgF
              rw [if_neg d4, if_pos d5, set_app hjl]
            · have d6 : m.Do = 6 := by omega
              rw [cnd_beq, if_neg d5, cnd_beq, if_pos d6, idx_get hil]
              simp only [Option.bind_some]
              rw [idx_get hjl]
              simp only [Option.bind_some]
              rw [upd_ok hjl]
              simp only [Option.bind_some]
              rw [idx_get (by simpa using hjl)]
              simp only [Option.bind_some]
              rw [upd_ok (by simpa using hjl)]
              simp only [Option.bind_some]
              rw [upd_ok hil]
              simp only [Option.bind_some]
              rw [finK_eq, hres]
              unfold chgF
              rw [if_neg d4, if_neg d5, if_pos d6, List.set_set, set_app hjl]
              simp only [List.getElem_set_self]
theorem rone_l9 {x : api_Kind} (hx : x.Fields.length ≤ 8) {m : migrate_Move} (a i j : Int) : loop (σ := (List api_Field) × Int) (ρ := (List api_Field)) (fun s_ => tourref3_KindsAfter_l9 x a i m.Do m.New.Bits m.New.Low m.Name j s_.1 s_.2) (([] : List api_Field), 0) = some (if a = i then editAt j (chgF m) 0 x.Fields else x.Fields) := by
  have hlen : ∀ p, p ≤ x.Fields.length → (if a = i then editAt j (chgF m) 0 (x.Fields.take p) else x.Fields.take p).length ≤ p := by
    intro p
    induction p with
    | zero => intro _; split <;> simp [editAt]
    | succ p ih =>
      intro hp
      have h1 := ih (by omega)
      split
      · rename_i h; rw [if_pos h] at h1
        rw [editAt_take (by omega), List.length_append]
        have : (if (p : Int) = j then chgF m x.Fields[p] else [x.Fields[p]]).length ≤ 1 := by
          split
          · unfold chgF; repeat' split
            all_goals simp
          · simp
        omega
      · rw [List.length_take]; omega
  have e := loop_to (step := fun s_ : (List api_Field) × Int => tourref3_KindsAfter_l9 x a i m.Do m.New.Bits m.New.Low m.Name j s_.1 s_.2) (fun p => (if a = i then editAt j (chgF m) 0 (x.Fields.take p) else x.Fields.take p, (p : Int))) x.Fields.length (r := if a = i then editAt j (chgF m) 0 x.Fields else x.Fields) (fun p hp => by
    have hl := hlen p (by omega)
    show tourref3_KindsAfter_l9 x a i m.Do m.New.Bits m.New.Low m.Name j (if a = i then editAt j (chgF m) 0 (x.Fields.take p) else x.Fields.take p) (p : Int) = _
    have hpe : ∀ (out : List api_Field) (f : List api_Field), out.length ≤ 8 → f.length ≤ 1 → app 32 out f = some (out ++ f) := fun out f h1 h2 => app_ok (by omega)
    have hw : IntKind.i64.wrap ((p : Int) + 1) = ((p + 1 : Nat) : Int) := by rw [i64ok (by omega) (by omega)]; rfl
    by_cases h : a = i
    · rw [if_pos h] at hl ⊢
      rw [if_pos h, editAt_take hp]
      generalize editAt j (chgF m) 0 (x.Fields.take p) = out at hl ⊢
      unfold tourref3_KindsAfter_l9
      rw [cnd_dec, if_pos (by omega), idx_get hp]
      simp only [Option.bind_some]
      rw [cnd_beq, if_pos h]
      unfold tourref3_KindsAfter_j11 tourref3_KindsAfter_j12 tourref3_KindsAfter_j13 tourref3_KindsAfter_j14 tourref3_KindsAfter_j10
      have ha : ∀ y : api_Field, app 32 out [y] = some (out ++ [y]) := fun y => app_ok (by simp only [List.length_cons, List.length_nil]; omega)
      simp only [ha, Option.bind_some, hw, cnd_true, cnd_false, cnd_beq]
      by_cases hj : (p : Int) = j
      · rw [if_pos hj, if_pos hj]
        unfold chgF
        by_cases d4 : m.Do = 4
        · rw [if_pos d4, if_pos d4, List.append_nil]
        · rw [if_neg d4, if_neg d4]
          by_cases d5 : m.Do = 5
          · rw [if_pos d5, if_pos d5, if_neg (by omega)]
          · rw [if_neg d5, if_neg d5]
            by_cases d6 : m.Do = 6
            · rw [if_pos d6, if_pos d6]
            · rw [if_neg d6, if_neg d6]
      · rw [if_neg hj, if_neg hj]
    · rw [if_neg h] at hl ⊢
      rw [if_neg h, List.take_succ_eq_append_getElem hp]
      generalize x.Fields.take p = out at hl ⊢
      unfold tourref3_KindsAfter_l9
      rw [cnd_dec, if_pos (by omega), idx_get hp]
      simp only [Option.bind_some]
      rw [cnd_beq, if_neg h]
      unfold tourref3_KindsAfter_j11 tourref3_KindsAfter_j12 tourref3_KindsAfter_j13 tourref3_KindsAfter_j14 tourref3_KindsAfter_j10
      have ha : ∀ y : api_Field, app 32 out [y] = some (out ++ [y]) := fun y => app_ok (by simp only [List.length_cons, List.length_nil]; omega)
      simp only [ha, Option.bind_some, hw, cnd_true, cnd_false, cnd_beq]) (by
    show tourref3_KindsAfter_l9 x a i m.Do m.New.Bits m.New.Low m.Name j (if a = i then editAt j (chgF m) 0 (x.Fields.take x.Fields.length) else x.Fields.take x.Fields.length) (x.Fields.length : Int) = _
    unfold tourref3_KindsAfter_l9
    rw [cnd_dec, if_neg (by omega), List.take_length])
  have e0 : (if a = i then editAt j (chgF m) 0 (x.Fields.take 0) else x.Fields.take 0) = [] := by split <;> rfl
  have e' : loop (σ := (List api_Field) × Int) (ρ := (List api_Field)) (fun s_ => tourref3_KindsAfter_l9 x a i m.Do m.New.Bits m.New.Low m.Name j s_.1 s_.2) ((if a = i then editAt j (chgF m) 0 (x.Fields.take 0) else x.Fields.take 0), ((0 : Nat) : Int)) = _ := e
  rw [e0] at e'
  exact e'
theorem rone_l4 {k : List api_Kind} (hl : k.length ≤ 16) (hf : ∀ i (hi : i < k.length), k[i].Fields.length ≤ 8) {m : migrate_Move} (i j : Int) : loop (σ := (List api_Kind) × Int) (ρ := (List api_Kind)) (fun s_ => tourref3_KindsAfter_l4 k i m.Do m.New.Bits m.New.Low m.Name j m.New.Name s_.1 s_.2) (([] : List api_Kind), 0) = some (editAt i (chgK m j) 0 k) := by
  have hlen : ∀ p, p ≤ k.length → (editAt i (chgK m j) 0 (k.take p)).length ≤ p := by
    intro p
    induction p with
    | zero => intro _; simp [editAt]
    | succ p ih =>
      intro hp
      have h1 := ih (by omega)
      rw [editAt_take (by omega), List.length_append]
      have : (if (p : Int) = i then chgK m j k[p] else [k[p]]).length ≤ 1 := by
        split
        · unfold chgK; split <;> simp
        · simp
      omega
  have hel : ∀ (g : List api_Field), g.length ≤ 8 → (editAt j (chgF m) 0 g).length ≤ 8 := by
    have : ∀ (g : List api_Field) (p : Nat), (editAt j (chgF m) p g).length ≤ g.length := by
      intro g
      induction g with
      | nil => intro p; simp [editAt]
      | cons f g ih =>
        intro p
        show ((if (p : Int) = j then chgF m f else [f]) ++ editAt j (chgF m) (p + 1) g).length ≤ _
        rw [List.length_append, List.length_cons]
        have h1 := ih (p + 1)
        have : (if (p : Int) = j then chgF m f else [f]).length ≤ 1 := by
          split
          · unfold chgF; repeat' split
            all_goals simp
          · simp
        omega
    intro g hg; have := this g 0; omega
  have e := loop_to (step := fun s_ : (List api_Kind) × Int => tourref3_KindsAfter_l4 k i m.Do m.New.Bits m.New.Low m.Name j m.New.Name s_.1 s_.2) (fun p => (editAt i (chgK m j) 0 (k.take p), (p : Int))) k.length (r := editAt i (chgK m j) 0 k) (fun p hp => by
    have hl2 := hlen p (by omega)
    show tourref3_KindsAfter_l4 k i m.Do m.New.Bits m.New.Low m.Name j m.New.Name (editAt i (chgK m j) 0 (k.take p)) (p : Int) = _
    rw [editAt_take hp]
    generalize editAt i (chgK m j) 0 (k.take p) = out at hl2 ⊢
    have hfp := hf p hp
    unfold tourref3_KindsAfter_l4
    rw [cnd_dec, if_pos (by omega), idx_get hp]
    simp only [Option.bind_some]
    rw [rone_l9 hfp]
    simp only [Option.bind_some]
    have hw : IntKind.i64.wrap ((p : Int) + 1) = ((p + 1 : Nat) : Int) := by rw [i64ok (by omega) (by omega)]; rfl
    have ha : ∀ y : api_Kind, app 40 out [y] = some (out ++ [y]) := fun y => app_ok (by simp only [List.length_cons, List.length_nil]; omega)
    unfold tourref3_KindsAfter_j6 tourref3_KindsAfter_j7 tourref3_KindsAfter_j8 tourref3_KindsAfter_j5
    by_cases h : (p : Int) = i
    · have hg := hel k[p].Fields hfp
      simp only [if_pos h, cnd_beq, cnd_not, ha, Option.bind_some, hw]
      rw [app_ok (by simp only [List.length_cons, List.length_nil]; omega)]
      simp only [Option.bind_some]
      unfold chgK
      by_cases d1 : m.Do = 1
      · have n2 : ¬ m.Do = 2 := by omega
        have n3 : ¬ m.Do = 3 := by omega
        simp only [if_pos d1, if_neg n2, if_neg n3, List.append_nil]
      · by_cases d3 : m.Do = 3
        · have n2 : ¬ m.Do = 2 := by omega
          simp only [if_neg d1, if_neg n2, if_pos d3]
        · by_cases d2 : m.Do = 2
          · simp only [if_neg d1, if_pos d2, if_neg d3, List.append_nil]
          · simp only [if_neg d1, if_neg d2, if_neg d3, List.append_nil]
    · simp only [if_neg h, cnd_beq, cnd_not, ha, Option.bind_some, hw]) (by
    show tourref3_KindsAfter_l4 k i m.Do m.New.Bits m.New.Low m.Name j m.New.Name (editAt i (chgK m j) 0 (k.take k.length)) (k.length : Int) = _
    unfold tourref3_KindsAfter_l4
    rw [cnd_dec, if_neg (by omega), List.take_length])
  exact e
theorem rafter {k : List api_Kind} (hv : checkV k = 0) (hk : okK k) {m : migrate_Move} (hm : okM m) : tourref3_KindsAfter k m.Do m.Kind m.Field m.Name m.Value m.New.Name m.New.Bits m.New.Low m.Whole.Name m.Whole.Fields = some (after k m) := by
  obtain ⟨hl, hf⟩ := valid_len hv
  unfold tourref3_KindsAfter after
  by_cases h1 : m.Do < 0
  · rw [cnd_dec, if_pos h1, if_pos (.inl h1)]
  rw [cnd_dec, if_neg h1]
  by_cases h2 : 6 < m.Do
  · rw [cnd_dec, if_pos h2, if_pos (.inr h2)]
  rw [cnd_dec, if_neg h2, if_neg (by omega), rwhere (by omega) (fun i hi => by have := hf i hi; omega)]
  simp only [bnd2_some]
  have hj1 : tourref3_KindsAfter_j1 k (findV k m.Kind) m.Do m.New.Bits m.New.Low m.Name (findJ k m.Kind m.Field) m.New.Name m.Whole.Name m.Whole.Fields = some (finK (resK k m)) := by
    have hlen : (editAt (findV k m.Kind) (chgK m (findJ k m.Kind m.Field)) 0 k).length ≤ 16 := by
      have : ∀ (g : List api_Kind) (p : Nat), (editAt (findV k m.Kind) (chgK m (findJ k m.Kind m.Field)) p g).length ≤ g.length := by
        intro g
        induction g with
        | nil => intro p; simp [editAt]
        | cons f g ih =>
          intro p
          show ((if (p : Int) = findV k m.Kind then chgK m (findJ k m.Kind m.Field) f else [f]) ++ editAt (findV k m.Kind) (chgK m (findJ k m.Kind m.Field)) (p + 1) g).length ≤ _
          rw [List.length_append, List.length_cons]
          have h1 := ih (p + 1)
          have : (if (p : Int) = findV k m.Kind then chgK m (findJ k m.Kind m.Field) f else [f]).length ≤ 1 := by
            split
            · unfold chgK; split <;> simp
            · simp
          omega
      have := this k 0; omega
    have hj3 : tourref3_KindsAfter_j3 (resK k m) = some (finK (resK k m)) := by
      unfold tourref3_KindsAfter_j3 finK
      rw [rcheck (resK_ok hk hm)]
      simp only [Option.bind_some, cnd_not, cnd_beq]
      split <;> rfl
    unfold tourref3_KindsAfter_j1
    rw [rone_l4 hl hf]
    simp only [Option.bind_some]
    unfold tourref3_KindsAfter_j2
    rw [cnd_beq]
    by_cases h0 : m.Do = 0
    · rw [if_pos h0, app_ok (by simp only [List.length_cons, List.length_nil]; omega)]
      simp only [Option.bind_some]
      have : editAt (findV k m.Kind) (chgK m (findJ k m.Kind m.Field)) 0 k ++ [api_Kind.mk m.Whole.Name m.Whole.Fields] = resK k m := by unfold resK; rw [if_pos h0]
      rw [this]; exact hj3
    · rw [if_neg h0]
      have : editAt (findV k m.Kind) (chgK m (findJ k m.Kind m.Field)) 0 k = resK k m := by unfold resK; rw [if_neg h0, List.append_nil]
      rw [this]; exact hj3
  rw [hj1]
  simp only [cnd_dec]
  by_cases h0 : 0 < m.Do
  · rw [if_pos h0]
    by_cases hi0 : findV k m.Kind < 0
    · rw [if_pos hi0, if_pos ⟨h0, hi0⟩]
    · rw [if_neg hi0, if_neg (show ¬ (0 < m.Do ∧ findV k m.Kind < 0) from fun h => hi0 h.2)]
      by_cases h3 : 3 < m.Do
      · rw [if_pos h3]
        by_cases hj0 : findJ k m.Kind m.Field < 0
        · rw [if_pos hj0, if_pos ⟨h3, hj0⟩]
        · rw [if_neg hj0, if_neg (show ¬ (3 < m.Do ∧ findJ k m.Kind m.Field < 0) from fun h => hj0 h.2)]
      · rw [if_neg h3, if_neg (show ¬ (3 < m.Do ∧ findJ k m.Kind m.Field < 0) from fun h => h3 h.1)]
  · rw [if_neg h0, if_neg (show ¬ (0 < m.Do ∧ findV k m.Kind < 0) from fun h => h0 h.1), if_neg (show ¬ (3 < m.Do ∧ findJ k m.Kind m.Field < 0) from fun h => by omega), if_neg (show ¬ 3 < m.Do by omega)]
/-! ### Several moves -/
theorem after_ok {k : List api_Kind} (hk : okK k) {m : migrate_Move} (hm : okM m) (h : (after k m).2 = 0) : checkV (after k m).1 = 0 ∧ okK (after k m).1 ∧ (after k m).1 = resK k m ∧ 0 ≤ m.Do ∧ m.Do ≤ 6 ∧ (0 < m.Do → ¬ findV k m.Kind < 0) ∧ (3 < m.Do → ¬ findJ k m.Kind m.Field < 0) := by
  unfold after at h ⊢
  split at h
  · cases h
  rename_i h1
  rw [if_neg h1]
  split at h
  · cases h
  rename_i h2
  rw [if_neg h2]
  split at h
  · cases h
  rename_i h3
  rw [if_neg h3]
  unfold finK at h ⊢
  split at h
  · rename_i h4
    rw [if_pos h4]
    exact ⟨h4, resK_ok hk hm, rfl, by omega, by omega, fun a b => h2 ⟨a, b⟩, fun a b => h3 ⟨a, b⟩⟩
  · rename_i h4; exact absurd h h4
noncomputable def aft : List api_Kind → List migrate_Move → List api_Kind × Int
  | k, [] => (k, 0)
  | k, m :: ms => if (after k m).2 = 0 then aft (after k m).1 ms else ([], (after k m).2)
noncomputable def aftF (_ : Nat) (k : List api_Kind) (m : migrate_Move) : List api_Kind ⊕ (((List api_Kind) × Int) ⊕ (List api_Kind)) := if (after k m).2 = 0 then .inl (after k m).1 else .inr (.inl ([], (after k m).2))
theorem aft_for : ∀ (l : List migrate_Move) (i : Nat) (k : List api_Kind), forL aftF .inr i l k = if (aft k l).2 = 0 then .inr (aft k l).1 else .inl ([], (aft k l).2) := by
  intro l
  induction l with
  | nil => intro i k; show _ = if (0 : Int) = 0 then _ else _; rw [if_pos rfl]; rfl
  | cons m l ih =>
    intro i k
    by_cases h : (after k m).2 = 0
    · have e : aftF i k m = .inl (after k m).1 := by unfold aftF; rw [if_pos h]
      have e2 : aft k (m :: l) = aft (after k m).1 l := by rw [aft, if_pos h]
      simp only [forL, e, e2]
      exact ih (i + 1) _
    · have e : aftF i k m = .inr (.inl ([], (after k m).2)) := by unfold aftF; rw [if_neg h]
      have e2 : aft k (m :: l) = ([], (after k m).2) := by rw [aft, if_neg h]
      simp only [forL, e, e2]
      rw [if_neg h]
noncomputable def kindsV (k : List api_Kind) (l : List migrate_Move) : List api_Kind × Int := if checkV k = 0 then (if 100 < l.length then ([], 2) else if (aft k l).2 = 0 then ((aft k l).1, 0) else ([], (aft k l).2)) else ([], checkV k)
theorem kkinds {k : List api_Kind} (hk : okK k) {l : List migrate_Move} (hl : l.length ≤ 140737488355328) (hm : ∀ m ∈ l, okM m) : migrate_Kinds k l = some (kindsV k l) := by
  unfold migrate_Kinds kindsV
  rw [kcheck]
  simp only [Option.bind_some, cnd_not, cnd_beq]
  by_cases hv : checkV k = 0
  · rw [if_pos hv, if_pos hv, cnd_dec]
    by_cases h100 : 100 < l.length
    · rw [if_pos (by omega), if_pos h100]
    · obtain ⟨hl16, hf⟩ := valid_len hv
      rw [if_neg (by omega), if_neg h100, kcopy (by omega) (fun i hi => by have := hf i hi; omega)]
      simp only [Option.bind_some]
      have e := loop_for (step := fun s_ : (List api_Kind) × Int => migrate_Kinds_l2 l s_.1 s_.2) l (fun i k => (k, (i : Int))) aftF .inr (fun _ k => checkV k = 0 ∧ okK k) (fun i k hi hP => by
        have hmi := hm _ (List.getElem_mem hi)
        have hst : migrate_Kinds_l2 l k (i : Int) = if (after k l[i]).2 = 0 then some (.inl ((after k l[i]).1, ((i + 1 : Nat) : Int))) else some (.inr (.inl ([], (after k l[i]).2))) := by
          unfold migrate_Kinds_l2
          rw [cnd_dec, if_pos (by omega), idx_get hi]
          simp only [Option.bind_some]
          rw [one_ok hP.1 hmi]
          rw [show (some (after k l[i]) : Option (List api_Kind × Int)) = some ((after k l[i]).1, (after k l[i]).2) from rfl]
          simp only [bnd2_some]
          rw [cnd_not, cnd_beq, i64ok (by omega) (by omega)]
          split <;> rfl
        by_cases h : (after k l[i]).2 = 0
        · rw [if_pos h] at hst
          obtain ⟨a1, a2, _⟩ := after_ok hP.2 hmi h
          exact .inl ⟨(after k l[i]).1, by unfold aftF; rw [if_pos h], hst, a1, a2⟩
        · rw [if_neg h] at hst
          exact .inr ⟨_, by unfold aftF; rw [if_neg h], hst⟩) (fun k hP => by
        show migrate_Kinds_l2 l k (l.length : Int) = _
        unfold migrate_Kinds_l2
        rw [cnd_dec, if_neg (by omega)]) k ⟨hv, hk⟩
      have e' : loop (σ := (List api_Kind) × Int) (ρ := (((List api_Kind) × Int) ⊕ (List api_Kind))) (fun s_ => migrate_Kinds_l2 l s_.1 s_.2) (k, 0) = _ := e
      rw [e', aft_for]
      by_cases h : (aft k l).2 = 0
      · rw [if_pos h, if_pos h]; rfl
      · rw [if_neg h, if_neg h]; rfl
  · rw [if_neg hv, if_neg hv]
theorem rkinds {k : List api_Kind} (hk : okK k) {l : List migrate_Move} (hl : l.length ≤ 140737488355328) (hm : ∀ m ∈ l, okM m) : tourref3_After k l = some (kindsV k l) := by
  unfold tourref3_After kindsV
  rw [rcheck hk]
  simp only [Option.bind_some, cnd_not, cnd_beq]
  by_cases hv : checkV k = 0
  · rw [if_pos hv, if_pos hv, cnd_dec]
    by_cases h100 : 100 < l.length
    · rw [if_pos (by omega), if_pos h100]
    · rw [if_neg (by omega), if_neg h100]
      have e := loop_for (step := fun s_ : (List api_Kind) × Int => tourref3_After_l2 l s_.1 s_.2) l (fun i k => (k, (i : Int))) aftF .inr (fun _ k => checkV k = 0 ∧ okK k) (fun i k hi hP => by
        have hmi := hm _ (List.getElem_mem hi)
        have hst : tourref3_After_l2 l k (i : Int) = if (after k l[i]).2 = 0 then some (.inl ((after k l[i]).1, ((i + 1 : Nat) : Int))) else some (.inr (.inl ([], (after k l[i]).2))) := by
          unfold tourref3_After_l2
          rw [cnd_dec, if_pos (by omega), idx_get hi]
          simp only [Option.bind_some]
          rw [rafter hP.1 hP.2 hmi]
          rw [show (some (after k l[i]) : Option (List api_Kind × Int)) = some ((after k l[i]).1, (after k l[i]).2) from rfl]
          simp only [bnd2_some]
          rw [cnd_not, cnd_beq, i64ok (by omega) (by omega)]
          split <;> rfl
        by_cases h : (after k l[i]).2 = 0
        · rw [if_pos h] at hst
          obtain ⟨a1, a2, _⟩ := after_ok hP.2 hmi h
          exact .inl ⟨(after k l[i]).1, by unfold aftF; rw [if_pos h], hst, a1, a2⟩
        · rw [if_neg h] at hst
          exact .inr ⟨_, by unfold aftF; rw [if_neg h], hst⟩) (fun k hP => by
        show tourref3_After_l2 l k (l.length : Int) = _
        unfold tourref3_After_l2
        rw [cnd_dec, if_neg (by omega)]) k ⟨hv, hk⟩
      have e' : loop (σ := (List api_Kind) × Int) (ρ := (((List api_Kind) × Int) ⊕ (List api_Kind))) (fun s_ => tourref3_After_l2 l s_.1 s_.2) (k, 0) = _ := e
      rw [e', aft_for]
      by_cases h : (aft k l).2 = 0
      · rw [if_pos h, if_pos h]; rfl
      · rw [if_neg h, if_neg h]; rfl
  · rw [if_neg hv, if_neg hv]
theorem okm {m : migrate_Move} (h : ok_migrate_Move m) : okM m := by
  obtain ⟨_, h1, h2, h3, _, h4, h5⟩ := h
  have h6 := h5.2.1
  exact ⟨h1, h2, h3, h4.1, h5.1, fun j hj => (h5.2.2 _ (List.getElem_mem hj)).1, by omega⟩
theorem okk_all {k : List api_Kind} {w : Nat} (h : okl w ok_api_Kind k) : okK k := fun i hi => okk_ks h hi
end Go.Proofs.YtnnhijlgohlaeaaDoor.A
