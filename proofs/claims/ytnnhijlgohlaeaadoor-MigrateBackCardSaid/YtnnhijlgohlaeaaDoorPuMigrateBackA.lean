/- MigrateBack: the plain law. No condition. -/
import Derived.Test.YtnnhijlgohlaeaaDoorPuMovesA
namespace Go.Proofs.YtnnhijlgohlaeaaDoor.A
open Go Go.RowKit Go.Proofs.YtnnhijlgohlaeaaDoor.Sx Classical
set_option linter.unusedVariables false
set_option linter.unusedSimpArgs false
/-! ### The undoing move -/
abbrev MvT : Type := Int × ByteArray × ByteArray × ByteArray × Int × Int × (List api_Field) × Bool
noncomputable def invV (k : List api_Kind) (m : migrate_Move) : MvT := (migrate_inverse k m.Do m.Kind m.Field m.Name m.Value m.New.Name m.New.Bits m.New.Low m.Whole.Name m.Whole.Fields).getD (0, ByteArray.empty, ByteArray.empty, ByteArray.empty, 0, 0, [], false)
noncomputable def mvOf (v : MvT) : migrate_Move := migrate_Move.mk v.1 v.2.1 v.2.2.1 v.2.2.2.1 0 (api_Field.mk ByteArray.empty v.2.2.2.2.1 v.2.2.2.2.2.1) (api_Kind.mk ByteArray.empty v.2.2.2.2.2.2.1)
theorem place_at {k : List api_Kind} {m : migrate_Move} (hv : checkV k = 0) (hk : okK k) (hm : okM m) (h : (after k m).2 = 0) : migrate_place k m.Do m.Kind m.Field m.Name m.Value m.New.Name m.New.Bits m.New.Low m.Whole.Name m.Whole.Fields = some (if m.Do = 0 then 0 else findV k m.Kind, if 3 < m.Do then findJ k m.Kind m.Field else 0, 0) := by
  obtain ⟨hl, hf⟩ := valid_len hv
  obtain ⟨_, _, _, h1, h2, h3, h4⟩ := after_ok hk hm h
  unfold migrate_place
  rw [cnd_dec, if_neg (by omega), cnd_dec, if_neg (by omega), cnd_beq]
  by_cases h0 : m.Do = 0
  · rw [if_pos h0, if_pos h0, if_neg (by omega)]
  · have hi0 := h3 (by omega)
    obtain ⟨i, hi, hil⟩ := findV_at hi0
    rw [if_neg h0, if_neg h0, kfind _ _ (by omega)]
    simp only [Option.bind_some]
    rw [cnd_dec, if_neg hi0, cnd_dec]
    by_cases d3 : m.Do ≤ 3
    · rw [if_pos d3, if_neg (by omega)]
    · have hj0 := h4 (by omega)
      have hfi := hf i hil
      rw [if_neg d3, if_pos (by omega), hi, idx_get hil]
      simp only [Option.bind_some]
      rw [kfieldf' (by omega)]
      simp only [Option.bind_some]
      rw [findJ_at hil hi] at hj0 ⊢
      rw [cnd_dec, if_neg hj0]
theorem checkV_field {k : List api_Kind} (h : checkV k = 0) {x : api_Kind} (hx : x ∈ k) {f : api_Field} (hf : f ∈ x.Fields) : fieldB f.Name f.Bits f.Low = true := by
  obtain ⟨i, hi, rfl⟩ := List.mem_iff_getElem.1 hx
  obtain ⟨j, hj, rfl⟩ := List.mem_iff_getElem.1 hf
  exact (oneV_ok ((checkV_ok h).2 i hi)).2.2.1 j hj
theorem top_ge {b l : Int} : l ≤ topV b l := by
  unfold topV
  have := pow_ge b.toNat
  omega
theorem near_iff {b l v : Int} : nearV b l v = v ↔ l ≤ v ∧ v ≤ topV b l := by
  have := top_ge (b := b) (l := l)
  unfold nearV
  omega
theorem small_map (d : Int) (h0 : 0 ≤ d) (h6 : d ≤ 6) : (mget (mput (mput (mput (mput (mput ([] : List (Int × Int)) 0 1) 2 2) 3 4) 5 5) 6 6) d).getD 0 = if d = 0 then 1 else if d = 2 then 2 else if d = 3 then 4 else if d = 5 then 5 else if d = 6 then 6 else 0 := by
  have : d = 0 ∨ d = 1 ∨ d = 2 ∨ d = 3 ∨ d = 4 ∨ d = 5 ∨ d = 6 := by omega
  rcases this with h | h | h | h | h | h | h <;> subst h <;> decide
theorem inv_ex {k : List api_Kind} {m : migrate_Move} (hv : checkV k = 0) (hk : okK k) (hm : okM m) (h : (after k m).2 = 0) : ∃ v : MvT, migrate_inverse k m.Do m.Kind m.Field m.Name m.Value m.New.Name m.New.Bits m.New.Low m.Whole.Name m.Whole.Fields = some v ∧ tourref3_Undone k m.Do m.Kind m.Field m.Name m.Value m.New.Name m.New.Bits m.New.Low m.Whole.Name m.Whole.Fields = some v ∧ v.2.2.2.2.2.2.1 = [] ∧ (m.Do = 1 → v.2.2.2.2.2.2.2 = false) := by
  obtain ⟨hl, hf⟩ := valid_len hv
  obtain ⟨hv2, hk2, hr, h1, h2, h3, h4⟩ := after_ok hk hm h
  have hpl := place_at hv hk hm h
  have hw := rwhere (k := k) (nm := m.Kind) (f := m.Field) (by omega) (fun i hi => by have := hf i hi; omega)
  have hmap := small_map m.Do h1 h2
  unfold migrate_inverse tourref3_Undone
  rw [hpl, hw]
  simp only [bnd2_some, bnd3_some, Option.bind_some, hmap, cnd_beq]
  unfold tourref3_Undone_j1
  by_cases d0 : m.Do = 0
  · simp only [if_pos d0]
    exact ⟨_, rfl, rfl, rfl, fun e => by omega⟩
  simp only [if_neg d0]
  by_cases d2 : m.Do = 2
  · simp only [if_pos d2]
    exact ⟨_, rfl, rfl, rfl, fun e => by omega⟩
  simp only [if_neg d2]
  by_cases d3 : m.Do = 3
  · simp only [if_pos d3]
    exact ⟨_, rfl, rfl, rfl, fun e => by omega⟩
  simp only [if_neg d3]
  by_cases d5 : m.Do = 5
  · simp only [if_pos d5]
    exact ⟨_, rfl, rfl, rfl, fun e => by omega⟩
  simp only [if_neg d5]
  by_cases d6 : m.Do = 6
  · simp only [if_pos d6]
    have hi0 := h3 (by omega)
    have hj0 := h4 (by omega)
    obtain ⟨i, hi, hil⟩ := findV_at hi0
    have hj0' := hj0
    rw [findJ_at hil hi] at hj0'
    obtain ⟨j, hj, hjl⟩ := findF_at hj0'
    have hj2 : findJ k m.Kind m.Field = (j : Int) := by rw [findJ_at hil hi, hj]
    rw [if_pos (show 3 < m.Do by omega), hi, hj2, idx_get hil]
    simp only [Option.bind_some]
    rw [idx_get hjl]
    simp only [Option.bind_some]
    have hfk : fieldB k[i].Fields[j].Name k[i].Fields[j].Bits k[i].Fields[j].Low = true := checkV_field hv (List.getElem_mem hil) (List.getElem_mem hjl)
    have hgk : fieldB k[i].Fields[j].Name m.New.Bits m.New.Low = true := by
      rw [hr] at hv2
      have hx : api_Kind.mk k[i].Name (editAt (j : Int) (chgF m) 0 k[i].Fields) ∈ resK k m := by
        unfold resK
        rw [hi, editAt_at hil, hj2]
        have : chgK m (j : Int) k[i] = [api_Kind.mk k[i].Name (editAt (j : Int) (chgF m) 0 k[i].Fields)] := by
          unfold chgK
          rw [if_neg (by omega), if_neg (by omega), if_neg (by omega), List.append_nil]
        rw [this]; simp
      have hg : api_Field.mk k[i].Fields[j].Name m.New.Bits m.New.Low ∈ editAt (j : Int) (chgF m) 0 k[i].Fields := by
        rw [editAt_at hjl]
        have : chgF m k[i].Fields[j] = [api_Field.mk k[i].Fields[j].Name m.New.Bits m.New.Low] := by
          unfold chgF
          rw [if_neg (by omega), if_neg (by omega), if_pos d6]
        rw [this]; simp
      exact checkV_field hv2 hx hg
    have hs : oks k[i].Fields[j].Name := (hk i hil).2 j hjl
    have hb := fieldB_b hfk
    rw [khigh, khigh, if_pos hgk, if_pos hfk, rtop _ hb]
    simp only [Option.bind_some, rnear hs, if_pos hgk, cnd_beq, cnd_dec]
    unfold migrate_inverse_j1 tourref3_Undone_j2
    have ht := top_ge (b := k[i].Fields[j].Bits) (l := k[i].Fields[j].Low)
    by_cases hn : nearV m.New.Bits m.New.Low k[i].Fields[j].Low = k[i].Fields[j].Low
    · have hn' := near_iff.1 hn
      rw [if_pos hn, if_pos hn'.1]
      have : (nearV m.New.Bits m.New.Low (topV k[i].Fields[j].Bits k[i].Fields[j].Low) == topV k[i].Fields[j].Bits k[i].Fields[j].Low) = decide (topV k[i].Fields[j].Bits k[i].Fields[j].Low ≤ topV m.New.Bits m.New.Low) := by
        rw [show ∀ a b : Int, (a == b) = decide (a = b) from fun _ _ => rfl]
        apply decide_eq_decide.2
        rw [near_iff]
        omega
      rw [this]
      exact ⟨_, rfl, rfl, rfl, fun e => by omega⟩
    · have hn' : ¬ (m.New.Low ≤ k[i].Fields[j].Low ∧ k[i].Fields[j].Low ≤ topV m.New.Bits m.New.Low) := fun e => hn (near_iff.2 e)
      rw [if_neg hn]
      by_cases hq : m.New.Low ≤ k[i].Fields[j].Low
      · have : decide (topV k[i].Fields[j].Bits k[i].Fields[j].Low ≤ topV m.New.Bits m.New.Low) = false := decide_eq_false (by omega)
        rw [if_pos hq, this]
        exact ⟨_, rfl, rfl, rfl, fun e => by omega⟩
      · rw [if_neg hq]
        exact ⟨_, rfl, rfl, rfl, fun e => by omega⟩
  · simp only [if_neg d6]
    exact ⟨_, rfl, rfl, rfl, fun _ => rfl⟩
theorem inv_at {k : List api_Kind} {m : migrate_Move} (hv : checkV k = 0) (hk : okK k) (hm : okM m) (h : (after k m).2 = 0) : migrate_inverse k m.Do m.Kind m.Field m.Name m.Value m.New.Name m.New.Bits m.New.Low m.Whole.Name m.Whole.Fields = some (invV k m) ∧ tourref3_Undone k m.Do m.Kind m.Field m.Name m.Value m.New.Name m.New.Bits m.New.Low m.Whole.Name m.Whole.Fields = some (invV k m) ∧ (invV k m).2.2.2.2.2.2.1 = [] ∧ (m.Do = 1 → (invV k m).2.2.2.2.2.2.2 = false) := by
  obtain ⟨v, h1, h2, h3⟩ := inv_ex hv hk hm h
  have : invV k m = v := by unfold invV; rw [h1]; rfl
  rw [this]
  exact ⟨h1, h2, h3⟩
/-! ### Reversing -/
theorem rev_loop (l : List migrate_Move) (hl : l.length ≤ 140737488355328) : ∀ (d p : Nat) (L : List migrate_Move), l.length ≤ p + d → 2 * p ≤ l.length + 1 → L.length = l.length → (∀ q, q < l.length → L[q]? = if q < p ∨ l.length ≤ q + p then l[l.length - 1 - q]? else l[q]?) → loop (σ := (List migrate_Move) × Int × Int) (ρ := (List migrate_Move)) (fun s_ => slices_Reverse_migrate_Move_migrate_Move_l1 s_.1 s_.2.1 s_.2.2) (L, (p : Int), (l.length : Int) - 1 - p) = some l.reverse := by
  intro d
  have stop : ∀ (p : Nat) (L : List migrate_Move), ¬ ((p : Int) < (l.length : Int) - 1 - p) → L.length = l.length → (∀ q, q < l.length → L[q]? = if q < p ∨ l.length ≤ q + p then l[l.length - 1 - q]? else l[q]?) → loop (σ := (List migrate_Move) × Int × Int) (ρ := (List migrate_Move)) (fun s_ => slices_Reverse_migrate_Move_migrate_Move_l1 s_.1 s_.2.1 s_.2.2) (L, (p : Int), (l.length : Int) - 1 - p) = some l.reverse := by
    intro p L hp hL hq
    have : L = l.reverse := by
      apply List.ext_getElem?
      intro q
      by_cases h : q < l.length
      · rw [hq q h, List.getElem?_reverse h]
        split
        · rfl
        · have : l.length - 1 - q = q := by omega
          rw [this]
      · rw [List.getElem?_eq_none (by omega), List.getElem?_eq_none (by simp; omega)]
    apply loop_inr
    show slices_Reverse_migrate_Move_migrate_Move_l1 L (p : Int) ((l.length : Int) - 1 - p) = _
    unfold slices_Reverse_migrate_Move_migrate_Move_l1
    rw [cnd_dec, if_neg hp, this]
  induction d with
  | zero => intro p L h1 h2 hL hq; exact stop p L (by omega) hL hq
  | succ d ih =>
    intro p L h1 h2 hL hq
    by_cases hp : (p : Int) < (l.length : Int) - 1 - p
    · have hp1 : p < L.length := by omega
      have hp2 : l.length - 1 - p < L.length := by omega
      have e1 : (l.length : Int) - 1 - p = ((l.length - 1 - p : Nat) : Int) := by omega
      have e2 : (l.length : Int) - 1 - ((p + 1 : Nat) : Int) = IntKind.i64.wrap ((l.length : Int) - 1 - p - 1) := by rw [i64ok (by omega) (by omega)]; omega
      have hst : slices_Reverse_migrate_Move_migrate_Move_l1 L (p : Int) ((l.length : Int) - 1 - p) = some (.inl ((L.set p L[l.length - 1 - p]).set (l.length - 1 - p) L[p], ((p + 1 : Nat) : Int), (l.length : Int) - 1 - ((p + 1 : Nat) : Int))) := by
        unfold slices_Reverse_migrate_Move_migrate_Move_l1
        rw [cnd_dec, if_pos hp]
        rw [e2, e1, idx_get hp2]
        simp only [Option.bind_some]
        rw [idx_get hp1]
        simp only [Option.bind_some]
        rw [upd_ok hp1]
        simp only [Option.bind_some]
        rw [idx_get (by simpa using hp2)]
        simp only [Option.bind_some]
        rw [upd_ok (by simpa using hp2)]
        simp only [Option.bind_some]
        unfold slices_Reverse_migrate_Move_migrate_Move_j2
        rw [i64ok (x := (p : Int) + 1) (by omega) (by omega)]
        rfl
      rw [loop_inl hst]
      refine ih (p + 1) _ (by omega) (by omega) (by simp [hL]) fun q hq1 => ?_
      rw [List.getElem?_set, List.getElem?_set]
      simp only [List.length_set]
      by_cases g1 : l.length - 1 - p = q
      · rw [if_pos g1, if_pos (by omega), if_pos (by omega)]
        have := hq p (by omega)
        rw [if_neg (by omega), List.getElem?_eq_getElem hp1] at this
        rw [this]
        congr 1; omega
      · rw [if_neg g1]
        by_cases g2 : p = q
        · subst g2
          rw [if_pos rfl, if_pos (by omega), if_pos (by omega)]
          have := hq (l.length - 1 - p) (by omega)
          rw [if_neg (by omega), List.getElem?_eq_getElem hp2] at this
          exact this
        · rw [if_neg g2, hq q hq1]
          by_cases g3 : q < p ∨ l.length ≤ q + p
          · rw [if_pos g3, if_pos (by omega)]
          · rw [if_neg g3, if_neg (by omega)]
    · exact stop p L hp hL hq
theorem kreverse {l : List migrate_Move} (hl : l.length ≤ 140737488355328) : slices_Reverse_migrate_Move_migrate_Move l = some l.reverse := by
  unfold slices_Reverse_migrate_Move_migrate_Move
  rw [i64ok (by omega) (by omega)]
  have e := rev_loop l hl l.length 0 l (by omega) (by omega) rfl (fun q hq => by rw [if_neg (by omega)])
  have e' : loop (σ := (List migrate_Move) × Int × Int) (ρ := (List migrate_Move)) (fun s_ => slices_Reverse_migrate_Move_migrate_Move_l1 s_.1 s_.2.1 s_.2.2) (l, 0, (l.length : Int) - 1) = some l.reverse := by
    rw [show (l.length : Int) - 1 = (l.length : Int) - 1 - ((0 : Nat) : Int) by omega]; exact e
  rw [e']; rfl
/-! ### Equal moves -/
theorem same_self {m : migrate_Move} (h : m.Whole.Fields.length ≤ 140737488355328) : tourref3_SameMove m.Do m.Kind m.Field m.Name m.Value m.New.Name m.New.Bits m.New.Low m.Whole.Name m.Whole.Fields m.Do m.Kind m.Field m.Name m.Value m.New.Name m.New.Bits m.New.Low m.Whole.Name m.Whole.Fields = some true := by
  unfold tourref3_SameMove tourref3_SameMove_j1
  simp only [beq_self_eq_true, Bool.and_self, cnd_true]
  rw [rsamek (a := m.Whole) (b := m.Whole) h]
  simp
theorem equal_moves {a : List migrate_Move} (hl : a.length ≤ 140737488355328) (h : ∀ m ∈ a, m.Whole.Fields.length ≤ 140737488355328) : slices_EqualFunc_migrate_Move_migrate_Move_migrate_Move_migrate_Move a a = some true := by
  unfold slices_EqualFunc_migrate_Move_migrate_Move_migrate_Move_migrate_Move
  rw [cnd_not, cnd_beq, if_pos rfl]
  have e := loop_to (ρ := Bool ⊕ Unit) (step := fun s_ : Int => slices_EqualFunc_migrate_Move_migrate_Move_migrate_Move_migrate_Move_l2 a a s_) (fun p => (p : Int)) a.length (r := .inr ()) (fun p hp => by
    show slices_EqualFunc_migrate_Move_migrate_Move_migrate_Move_migrate_Move_l2 a a (p : Int) = _
    unfold slices_EqualFunc_migrate_Move_migrate_Move_migrate_Move_migrate_Move_l2
    rw [cnd_dec, if_pos (by omega), idx_get hp]
    simp only [Option.bind_some]
    rw [same_self (h _ (List.getElem_mem hp)), i64ok (by omega) (by omega)]
    rfl) (by
    show slices_EqualFunc_migrate_Move_migrate_Move_migrate_Move_migrate_Move_l2 a a (a.length : Int) = _
    unfold slices_EqualFunc_migrate_Move_migrate_Move_migrate_Move_migrate_Move_l2
    rw [cnd_dec, if_neg (by omega)])
  have e' : loop (σ := Int) (ρ := (Bool ⊕ Unit)) (fun s_ => slices_EqualFunc_migrate_Move_migrate_Move_migrate_Move_migrate_Move_l2 a a s_) 0 = _ := e
  rw [e']; rfl
/-! ### Undoing a list -/
noncomputable def back : List api_Kind → List migrate_Move → Option (List migrate_Move)
  | _, [] => some []
  | k, m :: ms => if (invV k m).2.2.2.2.2.2.2 = true then (back (after k m).1 ms).map (fun r => mvOf (invV k m) :: r) else none
theorem back_len : ∀ {l : List migrate_Move} {k : List api_Kind} {r : List migrate_Move}, back k l = some r → r.length = l.length := by
  intro l
  induction l with
  | nil => intro k r h; cases h; rfl
  | cons m l ih =>
    intro k r h
    rw [back] at h
    split at h
    · cases hb : back (after k m).1 l with
      | none => rw [hb] at h; cases h
      | some r' => rw [hb] at h; cases h; simp [ih hb]
    · cases h
theorem aft_cons {k : List api_Kind} {m : migrate_Move} {ms : List migrate_Move} (h : (aft k (m :: ms)).2 = 0) : (after k m).2 = 0 ∧ (aft (after k m).1 ms).2 = 0 := by
  rw [aft] at h
  split at h
  · rename_i h1; exact ⟨h1, h⟩
  · rename_i h1; exact absurd h h1
theorem back_fields : ∀ {l : List migrate_Move} {k : List api_Kind} {r : List migrate_Move}, checkV k = 0 → okK k → (∀ m ∈ l, okM m) → (aft k l).2 = 0 → back k l = some r → ∀ m ∈ r, m.Whole.Fields.length ≤ 140737488355328 := by
  intro l
  induction l with
  | nil => intro k r _ _ _ _ h; cases h; intro m hm; cases hm
  | cons m l ih =>
    intro k r hv hk hm ha h
    obtain ⟨ha1, ha2⟩ := aft_cons ha
    obtain ⟨hv2, hk2, _⟩ := after_ok hk (hm m (by simp)) ha1
    rw [back] at h
    split at h
    · cases hb : back (after k m).1 l with
      | none => rw [hb] at h; cases h
      | some r' =>
        rw [hb] at h; cases h
        intro x hx
        rcases List.mem_cons.1 hx with rfl | hx
        · show (invV k m).2.2.2.2.2.2.1.length ≤ _
          rw [(inv_at hv hk (hm m (by simp)) ha1).2.2.1]; simp
        · exact ih hv2 hk2 (fun y hy => hm y (by simp [hy])) ha2 hb x hx
    · cases h
theorem kback_loop {l : List migrate_Move} (hl : l.length ≤ 100) (hm : ∀ m ∈ l, okM m) : ∀ (d i : Nat) (k : List api_Kind) (acc : List migrate_Move), i + d = l.length → checkV k = 0 → okK k → (aft k (l.drop i)).2 = 0 → acc.length ≤ i → loop (σ := (List api_Kind) × (List migrate_Move) × Int) (ρ := (((List migrate_Move) × Int) ⊕ (List migrate_Move))) (fun s_ => migrate_Back_l2 l s_.1 s_.2.1 s_.2.2) (k, acc, (i : Int)) = some (match back k (l.drop i) with | some r => .inr (acc ++ r) | none => .inl ([], 4)) := by
  intro d
  induction d with
  | zero =>
    intro i k acc hi hv hk ha hacc
    rw [List.drop_eq_nil_of_le (by omega)]
    apply loop_inr
    show migrate_Back_l2 l k acc (i : Int) = _
    unfold migrate_Back_l2
    rw [cnd_dec, if_neg (by omega)]
    simp [back]
  | succ d ih =>
    intro i k acc hi hv hk ha hacc
    have hil : i < l.length := by omega
    rw [List.drop_eq_getElem_cons hil] at ha ⊢
    have hmi := hm _ (List.getElem_mem hil)
    obtain ⟨ha1, ha2⟩ := aft_cons ha
    obtain ⟨hv2, hk2, _⟩ := after_ok hk hmi ha1
    obtain ⟨g1, g2, g3, _⟩ := inv_at hv hk hmi ha1
    have hst : migrate_Back_l2 l k acc (i : Int) = if (invV k l[i]).2.2.2.2.2.2.2 = true then some (.inl ((after k l[i]).1, acc ++ [mvOf (invV k l[i])], ((i + 1 : Nat) : Int))) else some (.inr (.inl ([], 4))) := by
      unfold migrate_Back_l2
      rw [cnd_dec, if_pos (by omega), idx_get hil]
      simp only [Option.bind_some]
      rw [g1, one_ok hv hmi]
      rw [show (some (invV k l[i]) : Option MvT) = some ((invV k l[i]).1, (invV k l[i]).2.1, (invV k l[i]).2.2.1, (invV k l[i]).2.2.2.1, (invV k l[i]).2.2.2.2.1, (invV k l[i]).2.2.2.2.2.1, (invV k l[i]).2.2.2.2.2.2.1, (invV k l[i]).2.2.2.2.2.2.2) from rfl]
      rw [show (some (after k l[i]) : Option (List api_Kind × Int)) = some ((after k l[i]).1, (after k l[i]).2) from rfl]
      simp only [bnd8_some, bnd2_some]
      rw [cnd_not, app_ok (by simp only [List.length_cons, List.length_nil]; omega), i64ok (by omega) (by omega)]
      cases (invV k l[i]).2.2.2.2.2.2.2 <;> rfl
    by_cases hb : (invV k l[i]).2.2.2.2.2.2.2 = true
    · rw [if_pos hb] at hst
      rw [loop_inl hst]
      refine (ih (i + 1) _ _ (by omega) hv2 hk2 ha2 (by simp; omega)).trans ?_
      rw [back, if_pos hb]
      cases back (after k l[i]).1 (l.drop (i + 1)) with
      | none => rfl
      | some r => simp
    · rw [if_neg hb] at hst
      rw [loop_inr hst, back, if_neg hb]
noncomputable def backV (k : List api_Kind) (l : List migrate_Move) : List migrate_Move × Int := if (kindsV k l).2 = 0 then (match back k l with | some r => (r.reverse, 0) | none => ([], 4)) else ([], (kindsV k l).2)
theorem kinds_zero {k : List api_Kind} {l : List migrate_Move} (h : (kindsV k l).2 = 0) : checkV k = 0 ∧ l.length ≤ 100 ∧ (aft k l).2 = 0 := by
  unfold kindsV at h
  split at h
  · rename_i h1
    split at h
    · cases h
    · rename_i h2
      split at h
      · rename_i h3; exact ⟨h1, by omega, h3⟩
      · rename_i h3; exact absurd h h3
  · rename_i h1; exact absurd h h1
theorem kback {k : List api_Kind} (hk : okK k) {l : List migrate_Move} (hl : l.length ≤ 140737488355328) (hm : ∀ m ∈ l, okM m) : migrate_Back k l = some (backV k l) := by
  unfold migrate_Back backV
  rw [kkinds hk hl hm]
  rw [show (some (kindsV k l) : Option (List api_Kind × Int)) = some ((kindsV k l).1, (kindsV k l).2) from rfl]
  simp only [bnd2_some, cnd_not, cnd_beq]
  by_cases h : (kindsV k l).2 = 0
  · obtain ⟨hv, hl1, ha⟩ := kinds_zero h
    rw [if_pos h, if_pos h]
    have e := kback_loop hl1 hm l.length 0 k [] (by omega) hv hk ha (by simp)
    have e' : loop (σ := (List api_Kind) × (List migrate_Move) × Int) (ρ := (((List migrate_Move) × Int) ⊕ (List migrate_Move))) (fun s_ => migrate_Back_l2 l s_.1 s_.2.1 s_.2.2) (k, ([] : List migrate_Move), 0) = _ := e
    rw [e', List.drop_zero]
    cases hb : back k l with
    | none => rfl
    | some r =>
      have := back_len hb
      simp only [Option.bind_some, Sum.elim_inr, List.nil_append]
      unfold migrate_Back_j1
      rw [kreverse (by omega)]; rfl
  · rw [if_neg h, if_neg h]
theorem law_loop {l : List migrate_Move} (hl : l.length ≤ 100) (hm : ∀ m ∈ l, okM m) (x34 : Int) (x33 : List migrate_Move) : ∀ (d i : Nat) (k : List api_Kind) (acc : List migrate_Move), i + d = l.length → checkV k = 0 → okK k → (aft k (l.drop i)).2 = 0 → acc.length ≤ i → loop (σ := (List api_Kind) × (List migrate_Move) × Int) (ρ := (Bool ⊕ (List migrate_Move))) (fun s_ => tourlaw3_MigrateBack_l4 l x34 x33 s_.1 s_.2.1 s_.2.2) (k, acc, (i : Int)) = some (match back k (l.drop i) with | some r => .inr (r.reverse ++ acc) | none => .inl (decide (x34 = 4 ∧ x33.length = 0))) := by
  intro d
  induction d with
  | zero =>
    intro i k acc hi hv hk ha hacc
    rw [List.drop_eq_nil_of_le (by omega)]
    apply loop_inr
    show tourlaw3_MigrateBack_l4 l x34 x33 k acc (i : Int) = _
    unfold tourlaw3_MigrateBack_l4
    rw [cnd_dec, if_neg (by omega)]
    simp [back]
  | succ d ih =>
    intro i k acc hi hv hk ha hacc
    have hil : i < l.length := by omega
    rw [List.drop_eq_getElem_cons hil] at ha ⊢
    have hmi := hm _ (List.getElem_mem hil)
    obtain ⟨ha1, ha2⟩ := aft_cons ha
    obtain ⟨hv2, hk2, _⟩ := after_ok hk hmi ha1
    obtain ⟨g1, g2, g3, _⟩ := inv_at hv hk hmi ha1
    have hst : tourlaw3_MigrateBack_l4 l x34 x33 k acc (i : Int) = if (invV k l[i]).2.2.2.2.2.2.2 = true then some (.inl ((after k l[i]).1, [mvOf (invV k l[i])] ++ acc, ((i + 1 : Nat) : Int))) else some (.inr (.inl (decide (x34 = 4 ∧ x33.length = 0)))) := by
      unfold tourlaw3_MigrateBack_l4
      rw [cnd_dec, if_pos (by omega), idx_get hil]
      simp only [Option.bind_some]
      rw [g2, rafter hv hk hmi]
      rw [show (some (invV k l[i]) : Option MvT) = some ((invV k l[i]).1, (invV k l[i]).2.1, (invV k l[i]).2.2.1, (invV k l[i]).2.2.2.1, (invV k l[i]).2.2.2.2.1, (invV k l[i]).2.2.2.2.2.1, (invV k l[i]).2.2.2.2.2.2.1, (invV k l[i]).2.2.2.2.2.2.2) from rfl]
      rw [show (some (after k l[i]) : Option (List api_Kind × Int)) = some ((after k l[i]).1, (after k l[i]).2) from rfl]
      simp only [bnd8_some, bnd2_some]
      rw [cnd_not, app_ok (by simp only [List.length_cons, List.length_nil]; omega), i64ok (by omega) (by omega)]
      cases (invV k l[i]).2.2.2.2.2.2.2 with
      | true => rfl
      | false =>
        rw [cnd_false, if_neg (by decide), cnd_beq]
        unfold tourlaw3_MigrateBack_j5
        by_cases h4 : x34 = 4
        · rw [if_pos h4]
          have : ((x33.length : Int) == 0) = decide (x34 = 4 ∧ x33.length = 0) := by
            rw [show ∀ a b : Int, (a == b) = decide (a = b) from fun _ _ => rfl]
            apply decide_eq_decide.2; omega
          rw [this]
        · rw [if_neg h4, decide_eq_false (fun e => h4 e.1)]
    by_cases hb : (invV k l[i]).2.2.2.2.2.2.2 = true
    · rw [if_pos hb] at hst
      rw [loop_inl hst]
      refine (ih (i + 1) _ _ (by omega) hv2 hk2 ha2 (by simp; omega)).trans ?_
      rw [back, if_pos hb]
      cases back (after k l[i]).1 (l.drop (i + 1)) with
      | none => rfl
      | some r => simp
    · rw [if_neg hb] at hst
      rw [loop_inr hst, back, if_neg hb]
/-! ### The law's own kinds -/
def fX : api_Field := api_Field.mk (⟨#[120]⟩) 3 (-2)
def fY : api_Field := api_Field.mk (⟨#[120]⟩) 8 0
def nPlace : ByteArray := ⟨#[112, 108, 97, 99, 101]⟩
def nLife : ByteArray := ⟨#[108, 105, 102, 101]⟩
def twoL : List api_Kind := [api_Kind.mk nPlace [fX], api_Kind.mk nLife [fY]]
theorem two_eq : tourlaw3_two = some twoL := rfl
theorem fX_ok : fieldB fX.Name fX.Bits fX.Low = true := by decide +kernel
theorem fY_ok : fieldB fY.Name fY.Bits fY.Low = true := by decide +kernel
theorem place_ok : oneV nPlace [fX] = 0 := by
  unfold oneV
  rw [if_pos (by decide +kernel), if_neg (by decide), show List.range [fX].length = [0] from rfl]
  have : oneG [fX] 0 = none := by rw [oneG_at (by decide)]; simp [fX_ok]
  simp [this]
theorem life_ok : oneV nLife [fY] = 0 := by
  unfold oneV
  rw [if_pos (by decide +kernel), if_neg (by decide), show List.range [fY].length = [0] from rfl]
  have : oneG [fY] 0 = none := by rw [oneG_at (by decide)]; simp [fY_ok]
  simp [this]
theorem two_ok : checkV twoL = 0 := by
  unfold checkV
  rw [if_neg (by decide), show List.range twoL.length = [0, 1] from rfl]
  have h0 : checkG twoL 0 = none := by rw [checkG_at (by decide)]; simp [twoL, place_ok]
  have h1 : checkG twoL 1 = none := by
    rw [checkG_at (by decide)]
    simp [twoL, life_ok]
    decide
  simp [h0, h1]
theorem life1_ok : checkV [api_Kind.mk nLife [fY]] = 0 := by
  unfold checkV
  rw [if_neg (by decide), show List.range [api_Kind.mk nLife [fY]].length = [0] from rfl]
  have h0 : checkG [api_Kind.mk nLife [fY]] 0 = none := by rw [checkG_at (by decide)]; simp [life_ok]
  simp [h0]
def dropM : migrate_Move := migrate_Move.mk 1 nPlace ByteArray.empty ByteArray.empty 0 (api_Field.mk ByteArray.empty 0 0) (api_Kind.mk ByteArray.empty [])
theorem drop_eq : tourlaw3_drop = some [dropM] := rfl
theorem find_place : findV twoL nPlace = 0 := by
  unfold findV
  rw [findIdx_first (l := twoL) (k := 0) (by decide) (by decide +kernel) (fun j hj => absurd hj (by omega))]
  rfl
theorem after_drop : after twoL dropM = ([api_Kind.mk nLife [fY]], 0) := by
  unfold after
  have h : findV twoL dropM.Kind = 0 := find_place
  rw [if_neg (by decide), h, if_neg (by decide), if_neg (by decide)]
  have hr : resK twoL dropM = [api_Kind.mk nLife [fY]] := by
    unfold resK
    rw [h]; rfl
  unfold finK
  rw [hr, if_pos life1_ok]
theorem oks_small {s : ByteArray} (h : s.size ≤ 100) : oks s := by
  unfold oks
  omega
theorem two_okK : okK twoL := by
  rw [okK_mem]
  intro x hx
  simp only [twoL, List.mem_cons, List.not_mem_nil, or_false] at hx
  rcases hx with rfl | rfl
  · refine ⟨oks_small (by decide), fun f hf => ?_⟩
    simp only [List.mem_singleton] at hf; subst hf; exact oks_small (by decide)
  · refine ⟨oks_small (by decide), fun f hf => ?_⟩
    simp only [List.mem_singleton] at hf; subst hf; exact oks_small (by decide)
theorem drop_okM : okM dropM := ⟨oks_small (by decide), oks_small (by decide), oks_small (by decide), oks_small (by decide), oks_small (by decide), fun j hj => absurd hj (by show ¬ j < 0; omega), by decide⟩
theorem back_drop : backV twoL [dropM] = ([], 4) := by
  have ha : (aft twoL [dropM]).2 = 0 := by
    rw [aft, after_drop, if_pos rfl]; rfl
  have hz : (kindsV twoL [dropM]).2 = 0 := by
    unfold kindsV
    rw [if_pos two_ok, if_neg (by decide), if_pos ha]
  have hb : back twoL [dropM] = none := by
    rw [back, if_neg]
    rw [(inv_at two_ok two_okK drop_okM (by rw [after_drop])).2.2.2 rfl]
    decide
  unfold backV
  rw [if_pos hz, hb]
/-! ### The law -/
theorem MigrateBack_true (k : List api_Kind) (l : List migrate_Move) (h0 : (okl 40 ok_api_Kind) k) (h1 : (okl 136 ok_migrate_Move) l) : tourlaw3_MigrateBack k l = some true := by
  have hk : okK k := okk_all h0
  have hm : ∀ m ∈ l, okM m := fun m hm => okm (h1.2 m hm)
  have hl : l.length ≤ 140737488355328 := by have := h1.1; omega
  unfold tourlaw3_MigrateBack
  rw [two_eq, drop_eq]
  simp only [Option.bind_some]
  rw [kback two_okK (by decide) (fun m hm => by rw [List.mem_singleton.1 hm]; exact drop_okM), back_drop]
  simp only [bnd2_some]
  rw [cnd_not, cnd_beq, if_pos rfl, kback hk hl hm, rkinds hk hl hm]
  rw [show (some (kindsV k l) : Option (List api_Kind × Int)) = some ((kindsV k l).1, (kindsV k l).2) from rfl, show (some (backV k l) : Option (List migrate_Move × Int)) = some ((backV k l).1, (backV k l).2) from rfl]
  simp only [bnd2_some]
  rw [cnd_not, cnd_beq]
  unfold tourlaw3_MigrateBack_j1
  by_cases h : (kindsV k l).2 = 0
  · obtain ⟨hv, hl1, ha⟩ := kinds_zero h
    rw [if_pos h]
    have e := law_loop hl1 hm (backV k l).2 (backV k l).1 l.length 0 k [] (by omega) hv hk ha (by simp)
    have e' : loop (σ := (List api_Kind) × (List migrate_Move) × Int) (ρ := (Bool ⊕ (List migrate_Move))) (fun s_ => tourlaw3_MigrateBack_l4 l (backV k l).2 (backV k l).1 s_.1 s_.2.1 s_.2.2) (k, ([] : List migrate_Move), 0) = _ := e
    rw [e', List.drop_zero]
    have hbv : backV k l = match back k l with | some r => (r.reverse, 0) | none => ([], 4) := by unfold backV; rw [if_pos h]
    cases hb : back k l with
    | none =>
      rw [hb] at hbv
      simp only [Option.bind_some, Sum.elim_inl, hbv]
      rfl
    | some r =>
      rw [hb] at hbv
      have hlen := back_len hb
      have hfi := back_fields hv hk hm ha hb
      simp only [Option.bind_some, Sum.elim_inr, hbv, List.append_nil]
      unfold tourlaw3_MigrateBack_j2 tourlaw3_MigrateBack_j3
      rw [cnd_beq, if_pos rfl, equal_moves (by simp; omega) (fun m hm => hfi m (by simpa using hm))]
      rfl
  · rw [if_neg h]
    have hbv : backV k l = ([], (kindsV k l).2) := by unfold backV; rw [if_neg h]
    rw [hbv, cnd_beq, if_pos rfl]
    rfl
end Go.Proofs.YtnnhijlgohlaeaaDoor.A
