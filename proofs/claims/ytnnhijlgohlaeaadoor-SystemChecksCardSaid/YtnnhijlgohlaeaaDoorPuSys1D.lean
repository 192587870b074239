/- The plain law of systems, first part: lists of kinds, and the reference's marks of them. No condition. -/
import Derived.Test.YtnnhijlgohlaeaaDoorPuKindsD
import Derived.Test.YtnnhijlgohlaeaaDoorExMap
namespace Go.Proofs.YtnnhijlgohlaeaaDoor.D
open Go Go.RowKit Go.Proofs.YtnnhijlgohlaeaaDoor.Sx Classical
set_option linter.unusedVariables false
set_option linter.unusedSimpArgs false
/-! ### Lists of kinds -/
def setG (n : Int) : Int → List Int → Int
  | _, [] => 0
  | last, x :: xs => if x < 0 ∨ n ≤ x then 1 else if x ≤ last then 9 else setG n x xs
theorem setG_ok {n : Int} : ∀ {l : List Int} {last : Int}, setG n last l = 0 → ∀ x ∈ l, 0 ≤ x ∧ x < n ∧ last < x := by
  intro l
  induction l with
  | nil => intro last _ x hx; cases hx
  | cons y l ih =>
    intro last h x hx
    rw [setG] at h
    split at h
    · cases h
    · split at h
      · cases h
      · rcases List.mem_cons.1 hx with rfl | hx
        · omega
        · have := ih h x hx; omega
theorem setG_len {n : Int} : ∀ {l : List Int} {last : Int}, setG n last l = 0 → -1 ≤ last → last < n → (l.length : Int) + last + 1 ≤ n := by
  intro l
  induction l with
  | nil => intro last _ _ _; simp; omega
  | cons y l ih =>
    intro last h h1 h2
    rw [setG] at h
    split at h
    · cases h
    · split at h
      · cases h
      · have := ih h (by omega) (by omega)
        simp only [List.length_cons]; omega
theorem kset_loop (k : List api_Kind) (l : List Int) (hl : l.length ≤ 140737488355328) : ∀ (d i : Nat) (last : Int), i + d = l.length → (i = 0 → last = -1) → (∀ j, i = j + 1 → l[j]? = some last) → loop (σ := Int) (ρ := (Int ⊕ Unit)) (fun s_ => system_set_l2 l k s_) (i : Int) = some (if setG k.length last (l.drop i) = 0 then .inr () else .inl (setG k.length last (l.drop i))) := by
  intro d
  induction d with
  | zero =>
    intro i last hi _ _
    rw [List.drop_eq_nil_of_le (by omega)]
    apply loop_inr
    show system_set_l2 l k (i : Int) = _
    unfold system_set_l2
    rw [cnd_dec, if_neg (by omega)]; rfl
  | succ d ih =>
    intro i last hi h0 h1
    have hil : i < l.length := by omega
    rw [List.drop_eq_getElem_cons hil, setG]
    have hst : system_set_l2 l k (i : Int) = if l[i] < 0 ∨ (k.length : Int) ≤ l[i] then some (.inr (.inl 1)) else if l[i] ≤ last then some (.inr (.inl 9)) else some (.inl ((i + 1 : Nat) : Int)) := by
      unfold system_set_l2 system_set_j3
      rw [cnd_dec, if_pos (by omega), idx_get hil]
      simp only [Option.bind_some, cnd_dec]
      by_cases g1 : l[i] < 0
      · rw [if_pos g1, if_pos (.inl g1)]
      · rw [if_neg g1]
        by_cases g2 : (k.length : Int) ≤ l[i]
        · rw [if_pos g2, if_pos (.inr g2)]
        · have hno : ¬ (l[i] < 0 ∨ (k.length : Int) ≤ l[i]) := by omega
          rw [if_neg g2, if_neg hno]
          cases i with
          | zero =>
            have := h0 rfl
            rw [if_neg (by omega), if_neg (by omega), i64ok (by omega) (by omega)]; rfl
          | succ j =>
            have hj := h1 j rfl
            have hjl : j < l.length := by omega
            rw [List.getElem?_eq_getElem hjl] at hj
            rw [if_pos (by omega), i64ok (x := ((j + 1 : Nat) : Int) - 1) (by omega) (by omega), show ((j + 1 : Nat) : Int) - 1 = (j : Int) by omega, idx_get hjl, Option.some.inj hj]
            simp only [Option.bind_some, cnd_dec]
            rw [i64ok (by omega) (by omega)]
            rfl
    by_cases g1 : l[i] < 0 ∨ (k.length : Int) ≤ l[i]
    · rw [if_pos g1] at hst
      rw [loop_inr hst, if_pos g1]; rfl
    · rw [if_neg g1] at hst ⊢
      by_cases g2 : l[i] ≤ last
      · rw [if_pos g2] at hst
        rw [loop_inr hst, if_pos g2]; rfl
      · rw [if_neg g2] at hst ⊢
        rw [loop_inl hst]
        exact ih (i + 1) l[i] (by omega) (by omega) (fun j hj => by rw [show j = i by omega]; exact List.getElem?_eq_getElem hil)
theorem kset (k : List api_Kind) (l : List Int) (hl : l.length ≤ 140737488355328) : system_set k l = some (setG k.length (-1) l) := by
  have e : loop (σ := Int) (ρ := (Int ⊕ Unit)) (fun s_ => system_set_l2 l k s_) 0 = _ := kset_loop k l hl l.length 0 (-1) (by omega) (fun _ => rfl) (fun j hj => by omega)
  unfold system_set system_set_j1
  rw [e, List.drop_zero]
  by_cases h : setG k.length (-1) l = 0
  · rw [if_pos h, h]; rfl
  · rw [if_neg h]; rfl
/-! ### The reference's marks -/
theorem mput_cons' {κ ν : Type} [DecidableEq κ] (p : κ × ν) (l : List (κ × ν)) (k : κ) (v : ν) : mput (p :: l) k v = if p.1 = k then (k, v) :: l else p :: mput l k v := by
  unfold mput mfind
  rw [List.findIdx?_cons]
  by_cases h : p.1 = k
  · simp [h]
  · simp only [h, decide_false, Bool.false_eq_true, if_false]
    cases List.findIdx? (fun q => decide (q.1 = k)) l <;> rfl
theorem mget_mput' {κ ν : Type} [DecidableEq κ] (l : List (κ × ν)) (k : κ) (v : ν) (n : κ) : mget (mput l k v) n = if n = k then some v else mget l n := by
  induction l with
  | nil =>
    show mget [(k, v)] n = _
    unfold mget
    by_cases h : n = k
    · subst h; simp
    · have : ¬ k = n := fun e => h e.symm
      simp [h, this]
  | cons p l ih =>
    rw [mput_cons']
    by_cases h : p.1 = k
    · rw [if_pos h]
      by_cases h2 : n = k
      · subst h2; simp [mget]
      · have h3 : ¬ k = n := fun e => h2 e.symm
        have h4 : ¬ p.1 = n := fun e => h2 (e.symm.trans h)
        simp [mget, h2, h3, h4]
    · rw [if_neg h]
      by_cases h2 : p.1 = n
      · have h3 : ¬ n = k := fun e => h (h2.trans e)
        simp [mget, h2, h3]
      · have e1 : mget (p :: mput l k v) n = mget (mput l k v) n := by simp [mget, h2]
        have e2 : mget (p :: l) n = mget l n := by simp [mget, h2]
        rw [e1, e2, ih]
def putAll (c : Int) (m : List (Int × Bool)) (l : List Int) : List (Int × Bool) := l.foldl (fun m x => mput m (c + x) true) m
theorem putAll_get (c : Int) : ∀ (l : List Int) (m : List (Int × Bool)) (y : Int), (mget (putAll c m l) y).getD false = (decide (y - c ∈ l) || (mget m y).getD false) := by
  intro l
  induction l with
  | nil => intro m y; simp [putAll]
  | cons x l ih =>
    intro m y
    have e : putAll c m (x :: l) = putAll c (mput m (c + x) true) l := rfl
    rw [e, ih, mget_mput']
    by_cases h : y = c + x
    · rw [if_pos h]
      have h2 : y - c = x := by omega
      simp [h2]
    · rw [if_neg h]
      have h2 : ¬ y - c = x := by omega
      simp [h2]
theorem rset_loop (k : List api_Kind) (hk : k.length ≤ 16) (q : Nat) (hq : q ≤ 3) (l : List Int) (hl : l.length ≤ 140737488355328) : ∀ (d i : Nat) (last : Int) (m : List (Int × Bool)), i + d = l.length → loop (σ := (List (Int × Bool)) × Int × Int) (ρ := (Int ⊕ (List (Int × Bool)))) (fun s_ => tourref3_SystemError_l12 l k (q : Int) s_.1 s_.2.1 s_.2.2) (m, last, (i : Int)) = some (if setG k.length last (l.drop i) = 0 then .inr (putAll (100 * q) m (l.drop i)) else .inl (setG k.length last (l.drop i))) := by
  intro d
  induction d with
  | zero =>
    intro i last m hi
    rw [List.drop_eq_nil_of_le (by omega)]
    apply loop_inr
    show tourref3_SystemError_l12 l k (q : Int) m last (i : Int) = _
    unfold tourref3_SystemError_l12
    rw [cnd_dec, if_neg (by omega)]; rfl
  | succ d ih =>
    intro i last m hi
    have hil : i < l.length := by omega
    rw [List.drop_eq_getElem_cons hil, setG]
    have hst : tourref3_SystemError_l12 l k (q : Int) m last (i : Int) = if l[i] < 0 ∨ (k.length : Int) ≤ l[i] then some (.inr (.inl 1)) else if l[i] ≤ last then some (.inr (.inl 9)) else some (.inl (mput m (100 * q + l[i]) true, l[i], ((i + 1 : Nat) : Int))) := by
      unfold tourref3_SystemError_l12
      rw [cnd_dec, if_pos (by omega), idx_get hil]
      simp only [Option.bind_some, cnd_dec]
      by_cases g1 : l[i] < 0
      · rw [if_pos g1, if_pos (.inl g1)]
      · rw [if_neg g1, i64ok (x := (k.length : Int) - 1) (by omega) (by omega)]
        by_cases g2 : (k.length : Int) ≤ l[i]
        · rw [if_pos (by omega), if_pos (.inr g2)]
        · have hno : ¬ (l[i] < 0 ∨ (k.length : Int) ≤ l[i]) := by omega
          rw [if_neg (show ¬ (k.length : Int) - 1 < l[i] by omega), if_neg hno]
          by_cases g3 : l[i] ≤ last
          · rw [if_pos g3, if_pos g3]
          · rw [if_neg g3, if_neg g3, i64ok (x := 100 * (q : Int)) (by omega) (by omega), i64ok (x := 100 * (q : Int) + l[i]) (by omega) (by omega), i64ok (by omega) (by omega)]
            rfl
    by_cases g1 : l[i] < 0 ∨ (k.length : Int) ≤ l[i]
    · rw [if_pos g1] at hst
      rw [loop_inr hst, if_pos g1]; rfl
    · rw [if_neg g1] at hst ⊢
      by_cases g2 : l[i] ≤ last
      · rw [if_pos g2] at hst
        rw [loop_inr hst, if_pos g2]; rfl
      · rw [if_neg g2] at hst ⊢
        rw [loop_inl hst]
        exact ih (i + 1) l[i] _ (by omega)
/-- The first error of four lists. -/
def setsE (n : Int) (a b c d : List Int) : Int := if setG n (-1) a = 0 then (if setG n (-1) b = 0 then (if setG n (-1) c = 0 then setG n (-1) d else setG n (-1) c) else setG n (-1) b) else setG n (-1) a
def hasV (a b c d : List Int) : List (Int × Bool) := putAll 300 (putAll 200 (putAll 100 (putAll 0 [] a) b) c) d
theorem rsets (k : List api_Kind) (hk : k.length ≤ 16) (a b c d : List Int) (ha : a.length ≤ 140737488355328) (hb : b.length ≤ 140737488355328) (hc : c.length ≤ 140737488355328) (hd : d.length ≤ 140737488355328) : loop (σ := (List (Int × Bool)) × Int) (ρ := (Int ⊕ (List (Int × Bool)))) (fun s_ => tourref3_SystemError_l10 a b c d k s_.1 s_.2) (([] : List (Int × Bool)), 0) = some (if setsE k.length a b c d = 0 then .inr (hasV a b c d) else .inl (setsE k.length a b c d)) := by
  have hst : ∀ (q : Nat) (hq : q ≤ 3) (x : List Int) (hx : x.length ≤ 140737488355328) (hg : ([a, b, c, d] : List (List Int))[q]? = some x) (m : List (Int × Bool)), tourref3_SystemError_l10 a b c d k m (q : Int) = if setG k.length (-1) x = 0 then some (.inl (putAll (100 * q) m x, ((q + 1 : Nat) : Int))) else some (.inr (.inl (setG k.length (-1) x))) := by
    intro q hq x hx hg m
    have hql : q < ([a, b, c, d] : List (List Int)).length := by simp; omega
    unfold tourref3_SystemError_l10
    rw [cnd_dec, if_pos (by omega), idx_get hql]
    rw [List.getElem?_eq_getElem hql] at hg
    rw [Option.some.inj hg]
    simp only [Option.bind_some]
    have e : loop (σ := (List (Int × Bool)) × Int × Int) (ρ := (Int ⊕ (List (Int × Bool)))) (fun s_ => tourref3_SystemError_l12 x k (q : Int) s_.1 s_.2.1 s_.2.2) (m, (-1), 0) = _ := rset_loop k hk q hq x hx x.length 0 (-1) m (by omega)
    rw [e, List.drop_zero]
    unfold tourref3_SystemError_j11
    by_cases h : setG k.length (-1) x = 0
    · rw [if_pos h, if_pos h, i64ok (by omega) (by omega)]; rfl
    · rw [if_neg h, if_neg h]; rfl
  have hend : ∀ m, tourref3_SystemError_l10 a b c d k m ((4 : Nat) : Int) = some (.inr (.inr m)) := by
    intro m
    unfold tourref3_SystemError_l10
    rw [cnd_dec, if_neg (by simp)]
  unfold setsE hasV
  have h0 := hst 0 (by omega) a ha rfl []
  by_cases g0 : setG k.length (-1) a = 0
  · rw [if_pos g0] at h0 ⊢
    refine (loop_inl (s := (([] : List (Int × Bool)), (0 : Int))) h0).trans ?_
    have h1 := hst 1 (by omega) b hb rfl (putAll (100 * (0 : Nat)) [] a)
    by_cases g1 : setG k.length (-1) b = 0
    · rw [if_pos g1] at h1 ⊢
      refine (loop_inl (step := fun s_ : (List (Int × Bool)) × Int => tourref3_SystemError_l10 a b c d k s_.1 s_.2) h1).trans ?_
      have h2 := hst 2 (by omega) c hc rfl (putAll (100 * (1 : Nat)) (putAll (100 * (0 : Nat)) [] a) b)
      by_cases g2 : setG k.length (-1) c = 0
      · rw [if_pos g2] at h2 ⊢
        refine (loop_inl (step := fun s_ : (List (Int × Bool)) × Int => tourref3_SystemError_l10 a b c d k s_.1 s_.2) h2).trans ?_
        have h3 := hst 3 (by omega) d hd rfl (putAll (100 * (2 : Nat)) (putAll (100 * (1 : Nat)) (putAll (100 * (0 : Nat)) [] a) b) c)
        by_cases g3 : setG k.length (-1) d = 0
        · rw [if_pos g3] at h3 ⊢
          refine (loop_inl (step := fun s_ : (List (Int × Bool)) × Int => tourref3_SystemError_l10 a b c d k s_.1 s_.2) h3).trans ?_
          exact loop_inr (step := fun s_ : (List (Int × Bool)) × Int => tourref3_SystemError_l10 a b c d k s_.1 s_.2) (hend _)
        · rw [if_neg g3] at h3 ⊢
          exact loop_inr (step := fun s_ : (List (Int × Bool)) × Int => tourref3_SystemError_l10 a b c d k s_.1 s_.2) h3
      · rw [if_neg g2] at h2 ⊢
        rw [if_neg g2]
        exact loop_inr (step := fun s_ : (List (Int × Bool)) × Int => tourref3_SystemError_l10 a b c d k s_.1 s_.2) h2
    · rw [if_neg g1] at h1 ⊢
      rw [if_neg g1]
      exact loop_inr (step := fun s_ : (List (Int × Bool)) × Int => tourref3_SystemError_l10 a b c d k s_.1 s_.2) h1
  · rw [if_neg g0] at h0 ⊢
    rw [if_neg g0]
    exact loop_inr (step := fun s_ : (List (Int × Bool)) × Int => tourref3_SystemError_l10 a b c d k s_.1 s_.2) h0
theorem ksets (k : List api_Kind) (a b c d : List Int) (ha : a.length ≤ 140737488355328) (hb : b.length ≤ 140737488355328) (hc : c.length ≤ 140737488355328) (hd : d.length ≤ 140737488355328) : loop (σ := Int) (ρ := (Int ⊕ Unit)) (fun s_ => system_Check_l4 a b c d k s_) 0 = some (if setsE k.length a b c d = 0 then .inr () else .inl (setsE k.length a b c d)) := by
  have hst : ∀ (q : Nat) (hq : q ≤ 3) (x : List Int) (hx : x.length ≤ 140737488355328) (hg : ([a, b, c, d] : List (List Int))[q]? = some x), system_Check_l4 a b c d k (q : Int) = if setG k.length (-1) x = 0 then some (.inl ((q + 1 : Nat) : Int)) else some (.inr (.inl (setG k.length (-1) x))) := by
    intro q hq x hx hg
    have hql : q < ([a, b, c, d] : List (List Int)).length := by simp; omega
    unfold system_Check_l4
    rw [cnd_dec, if_pos (by omega), idx_get hql]
    rw [List.getElem?_eq_getElem hql] at hg
    rw [Option.some.inj hg]
    simp only [Option.bind_some]
    rw [kset k x hx]
    simp only [Option.bind_some]
    rw [cnd_not, cnd_beq, i64ok (by omega) (by omega)]
    split <;> rfl
  have hend : system_Check_l4 a b c d k ((4 : Nat) : Int) = some (.inr (.inr ())) := by
    unfold system_Check_l4
    rw [cnd_dec, if_neg (by simp)]
  unfold setsE
  have h0 := hst 0 (by omega) a ha rfl
  by_cases g0 : setG k.length (-1) a = 0
  · rw [if_pos g0] at h0 ⊢
    refine (loop_inl (s := (0 : Int)) h0).trans ?_
    have h1 := hst 1 (by omega) b hb rfl
    by_cases g1 : setG k.length (-1) b = 0
    · rw [if_pos g1] at h1 ⊢
      refine (loop_inl (step := fun s_ : Int => system_Check_l4 a b c d k s_) h1).trans ?_
      have h2 := hst 2 (by omega) c hc rfl
      by_cases g2 : setG k.length (-1) c = 0
      · rw [if_pos g2] at h2 ⊢
        refine (loop_inl (step := fun s_ : Int => system_Check_l4 a b c d k s_) h2).trans ?_
        have h3 := hst 3 (by omega) d hd rfl
        by_cases g3 : setG k.length (-1) d = 0
        · rw [if_pos g3] at h3 ⊢
          refine (loop_inl (step := fun s_ : Int => system_Check_l4 a b c d k s_) h3).trans ?_
          exact loop_inr (step := fun s_ : Int => system_Check_l4 a b c d k s_) hend
        · rw [if_neg g3] at h3 ⊢
          exact loop_inr (step := fun s_ : Int => system_Check_l4 a b c d k s_) h3
      · rw [if_neg g2] at h2 ⊢
        rw [if_neg g2]
        exact loop_inr (step := fun s_ : Int => system_Check_l4 a b c d k s_) h2
    · rw [if_neg g1] at h1 ⊢
      rw [if_neg g1]
      exact loop_inr (step := fun s_ : Int => system_Check_l4 a b c d k s_) h1
  · rw [if_neg g0] at h0 ⊢
    rw [if_neg g0]
    exact loop_inr (step := fun s_ : Int => system_Check_l4 a b c d k s_) h0
theorem setsE_ok {n : Int} {a b c d : List Int} (h : setsE n a b c d = 0) : setG n (-1) a = 0 ∧ setG n (-1) b = 0 ∧ setG n (-1) c = 0 ∧ setG n (-1) d = 0 := by
  unfold setsE at h
  split at h
  · split at h
    · split at h
      · rename_i h1 h2 h3; exact ⟨h1, h2, h3, h⟩
      · rename_i h3; exact absurd h h3
    · rename_i h3; exact absurd h h3
  · rename_i h3; exact absurd h h3
/-- What the marks tell of a kind. -/
theorem hasV_get {n : Int} (hn : n ≤ 16) {a b c d : List Int} (h : setsE n a b c d = 0) {x : Int} (h0 : 0 ≤ x) (h1 : x < 16) : (mget (hasV a b c d) x).getD false = decide (x ∈ a) ∧ (mget (hasV a b c d) (100 + x)).getD false = decide (x ∈ b) ∧ (mget (hasV a b c d) (200 + x)).getD false = decide (x ∈ c) ∧ (mget (hasV a b c d) (300 + x)).getD false = decide (x ∈ d) := by
  obtain ⟨ha, hb, hc, hd⟩ := setsE_ok h
  have far : ∀ {l : List Int}, setG n (-1) l = 0 → ∀ y : Int, y < 0 ∨ 16 ≤ y → decide (y ∈ l) = false := fun hl y hy => decide_eq_false fun hm => by have := setG_ok hl y hm; omega
  have hnil : ∀ y : Int, (mget ([] : List (Int × Bool)) y).getD false = false := fun y => rfl
  unfold hasV
  refine ⟨?_, ?_, ?_, ?_⟩
  · rw [putAll_get, putAll_get, putAll_get, putAll_get, hnil, far hd _ (by omega), far hc _ (by omega), far hb _ (by omega)]
    simp
  · rw [putAll_get, putAll_get, putAll_get, putAll_get, hnil, far hd _ (by omega), far hc _ (by omega), far ha _ (by omega), show 100 + x - 100 = x by omega]
    simp
  · rw [putAll_get, putAll_get, putAll_get, putAll_get, hnil, far hd _ (by omega), far hb _ (by omega), far ha _ (by omega), show 200 + x - 200 = x by omega]
    simp
  · rw [putAll_get, putAll_get, putAll_get, putAll_get, hnil, far hc _ (by omega), far hb _ (by omega), far ha _ (by omega), show 300 + x - 300 = x by omega]
    simp
end Go.Proofs.YtnnhijlgohlaeaaDoor.D
