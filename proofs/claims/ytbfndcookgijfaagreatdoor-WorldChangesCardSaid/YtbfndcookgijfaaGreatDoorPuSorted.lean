/- Rows sorted by a key: found by halves, changed, added to; and maps beside them. No condition. -/
import Derived.Test.YtbfndcookgijfaaGreatDoorPu
import Derived.Test.YtbfndcookgijfaaGreatDoorExMap
import Derived.Test.YtbfndcookgijfaaGreatDoorExIns
namespace Go.Proofs.YtbfndcookgijfaaGreatDoor.Sx
open Go Go.RowKit
set_option linter.unusedVariables false
set_option linter.unusedSimpArgs false
set_option linter.unusedSectionVars false
theorem mput_consS {κ ν : Type} [DecidableEq κ] (p : κ × ν) (l : List (κ × ν)) (k : κ) (v : ν) : mput (p :: l) k v = if p.1 = k then (k, v) :: l else p :: mput l k v := by
  unfold mput mfind
  rw [List.findIdx?_cons]
  by_cases h : p.1 = k
  · simp [h]
  · simp only [h, decide_false, if_false]
    cases List.findIdx? (fun p => decide (p.1 = k)) l <;> simp
theorem mget_putS {κ ν : Type} [DecidableEq κ] (l : List (κ × ν)) (k : κ) (v : ν) (n : κ) : mget (mput l k v) n = if n = k then some v else mget l n := by
  induction l with
  | nil =>
    unfold mput mfind mget
    by_cases h : n = k
    · subst h; simp
    · have : ¬ k = n := fun e => h e.symm
      simp [h, this]
  | cons p l ih =>
    rw [mput_consS]
    by_cases hp : p.1 = k
    · rw [if_pos hp]
      unfold mget
      by_cases h : n = k
      · subst h; simp
      · have h1 : ¬ k = n := fun e => h e.symm
        rw [if_neg h, List.find?_cons_of_neg (by simpa using h1), List.find?_cons_of_neg (by rw [hp]; simpa using h1)]
    · rw [if_neg hp]
      by_cases hn : p.1 = n
      · have h1 : ¬ n = k := fun e => hp (hn.trans e)
        rw [if_neg h1]
        unfold mget
        rw [List.find?_cons_of_pos (by simpa using hn), List.find?_cons_of_pos (by simpa using hn)]
      · have e1 : mget (p :: mput l k v) n = mget (mput l k v) n := by unfold mget; rw [List.find?_cons_of_neg (by simpa using hn)]
        have e2 : mget (p :: l) n = mget l n := by unfold mget; rw [List.find?_cons_of_neg (by simpa using hn)]
        rw [e1, e2, ih]
section
variable {α κ : Type} [DecidableEq κ]
/-- A comparison of keys. -/
structure Cmp3 (c : κ → κ → Int) : Prop where
  tr : ∀ x y z, c x y < 0 → c y z < 0 → c x z < 0
  eq : ∀ x y, c x y = 0 ↔ x = y
  tot : ∀ x y, ¬ c x y < 0 → x ≠ y → c y x < 0
theorem Cmp3.irr {c : κ → κ → Int} (ho : Cmp3 c) (x : κ) : ¬ c x x < 0 := by rw [(ho.eq x x).2 rfl]; omega
def Srt (c : κ → κ → Int) (kf : α → κ) (l : List α) : Prop := l.Pairwise fun a b => c (kf a) (kf b) < 0
theorem Srt.split {c : κ → κ → Int} {kf : α → κ} (ho : Cmp3 c) {l : List α} (hs : Srt c kf l) (k : κ) : ∃ a b, l = a ++ b ∧ (∀ x ∈ a, c (kf x) k < 0) ∧ (∀ x ∈ b, ¬ c (kf x) k < 0) := by
  induction l with
  | nil => exact ⟨[], [], rfl, by simp, by simp⟩
  | cons x l ih =>
    obtain ⟨h1, h2⟩ := List.pairwise_cons.1 hs
    by_cases hx : c (kf x) k < 0
    · obtain ⟨a, b, e, ha, hb⟩ := ih h2
      refine ⟨x :: a, b, by rw [e]; rfl, fun y hy => ?_, hb⟩
      rcases List.mem_cons.1 hy with rfl | hy
      · exact hx
      · exact ha y hy
    · refine ⟨[], x :: l, rfl, by simp, fun y hy => ?_⟩
      rcases List.mem_cons.1 hy with rfl | hy
      · exact hx
      · exact fun h => hx (ho.tr _ _ _ (h1 y hy) h)
/-- What is found under a key. -/
def getK (kf : α → κ) (l : List α) (k : κ) : Option α := l.find? fun x => decide (kf x = k)
theorem getK_append {kf : α → κ} {a b : List α} {k : κ} : getK kf (a ++ b) k = (getK kf a k).or (getK kf b k) := List.find?_append
theorem getK_none {kf : α → κ} {l : List α} {k : κ} (h : ∀ x ∈ l, kf x ≠ k) : getK kf l k = none := by
  unfold getK; rw [List.find?_eq_none]; intro x hx; simpa using h x hx
theorem getK_cons {kf : α → κ} {x : α} {l : List α} {k : κ} : getK kf (x :: l) k = if kf x = k then some x else getK kf l k := by
  unfold getK; rw [List.find?_cons]; by_cases h : kf x = k <;> simp [h]
/-- In the middle of a sorted row. -/
theorem Srt.mid {c : κ → κ → Int} {kf : α → κ} (ho : Cmp3 c) {a b : List α} {e : α} (hs : Srt c kf (a ++ b)) (ha : ∀ x ∈ a, c (kf x) (kf e) < 0) (hb : ∀ x ∈ b, c (kf e) (kf x) < 0) : Srt c kf (a ++ e :: b) := by
  obtain ⟨h1, h2, h3⟩ := List.pairwise_append.1 hs
  refine List.pairwise_append.2 ⟨h1, List.pairwise_cons.2 ⟨hb, h2⟩, fun x hx y hy => ?_⟩
  rcases List.mem_cons.1 hy with rfl | hy
  · exact ha x hx
  · exact h3 x hx y hy
theorem put_same {c : κ → κ → Int} {kf : α → κ} (ho : Cmp3 c) {a b : List α} {y e : α} (hs : Srt c kf (a ++ y :: b)) (hk : kf y = kf e) : Srt c kf (a ++ e :: b) ∧ ∀ k, getK kf (a ++ e :: b) k = if k = kf e then some e else getK kf (a ++ y :: b) k := by
  obtain ⟨h1, h2, h3⟩ := List.pairwise_append.1 hs
  obtain ⟨h4, h5⟩ := List.pairwise_cons.1 h2
  have ha : ∀ x ∈ a, c (kf x) (kf e) < 0 := fun x hx => hk ▸ h3 x hx y (by simp)
  have hb : ∀ x ∈ b, c (kf e) (kf x) < 0 := fun x hx => hk ▸ h4 x hx
  refine ⟨Srt.mid ho (List.pairwise_append.2 ⟨h1, h5, fun x hx z hz => h3 x hx z (by simp [hz])⟩) ha hb, fun k => ?_⟩
  rw [getK_append, getK_append, getK_cons, getK_cons, hk]
  by_cases e1 : k = kf e
  · subst e1
    rw [if_pos rfl, if_pos rfl, getK_none fun x hx e2 => ho.irr (kf e) (by have := ha x hx; rwa [e2] at this)]; rfl
  · rw [if_neg e1, if_neg (fun x => e1 x.symm), if_neg (fun x => e1 x.symm)]
theorem put_new {c : κ → κ → Int} {kf : α → κ} (ho : Cmp3 c) {a b : List α} {e : α} (hs : Srt c kf (a ++ b)) (ha : ∀ x ∈ a, c (kf x) (kf e) < 0) (hb : ∀ x ∈ b, ¬ c (kf x) (kf e) < 0) (hn : ∀ y, b.head? = some y → kf y ≠ kf e) :
    Srt c kf (a ++ e :: b) ∧ (∀ k, getK kf (a ++ e :: b) k = if k = kf e then some e else getK kf (a ++ b) k) ∧ getK kf (a ++ b) (kf e) = none := by
  obtain ⟨h1, h2, h3⟩ := List.pairwise_append.1 hs
  have hb' : ∀ x ∈ b, c (kf e) (kf x) < 0 := by
    cases b with
    | nil => simp
    | cons y b =>
      have hy : c (kf e) (kf y) < 0 := ho.tot _ _ (hb y (by simp)) (hn y rfl)
      intro x hx
      rcases List.mem_cons.1 hx with rfl | hx
      · exact hy
      · exact ho.tr _ _ _ hy ((List.pairwise_cons.1 h2).1 x hx)
  have na : getK kf a (kf e) = none := getK_none fun x hx e2 => ho.irr (kf e) (by have := ha x hx; rwa [e2] at this)
  have nb : getK kf b (kf e) = none := getK_none fun x hx e2 => ho.irr (kf e) (by have := hb' x hx; rwa [e2] at this)
  refine ⟨Srt.mid ho hs ha hb', fun k => ?_, by rw [getK_append, na, nb]; rfl⟩
  rw [getK_append, getK_append, getK_cons]
  by_cases e1 : k = kf e
  · subst e1; rw [if_pos rfl, if_pos rfl, na]; rfl
  · rw [if_neg e1, if_neg (fun x => e1 x.symm)]
end
/-- A place found by halves. -/
theorem loop_halves {α : Type} {a b : List α} {p : α → Bool} (ha : ∀ x ∈ a, p x = true) (hb : ∀ x ∈ b, p x = false) {step : Int × Int → Option ((Int × Int) ⊕ Int)}
    (hs : ∀ (i j : Nat) (h : i < j) (hj : j ≤ (a ++ b).length), step ((i : Int), (j : Int)) = some (.inl (if p ((a ++ b)[(i + j) / 2]'(by omega)) = true then ((((i + j) / 2 + 1 : Nat) : Int), (j : Int)) else ((i : Int), (((i + j) / 2 : Nat) : Int)))))
    (he : ∀ i : Nat, i ≤ (a ++ b).length → step ((i : Int), (i : Int)) = some (.inr (i : Int))) : loop step ((0 : Int), ((a ++ b).length : Int)) = some (a.length : Int) := by
  have key : ∀ (d i j : Nat), j - i ≤ d → i ≤ a.length → a.length ≤ j → j ≤ (a ++ b).length → loop step ((i : Int), (j : Int)) = some (a.length : Int) := by
    intro d
    induction d with
    | zero => intro i j hd h1 h2 h3; have e : j = i := by omega
              subst e; have e2 : j = a.length := by omega
              subst e2; exact loop_inr (he _ h3)
    | succ d ih =>
      intro i j hd h1 h2 h3
      by_cases e : j = i
      · subst e; have e2 : j = a.length := by omega
        subst e2; exact loop_inr (he _ h3)
      · have hm : (i + j) / 2 < (a ++ b).length := by omega
        have hm1 : i ≤ (i + j) / 2 := by omega
        have hm2 : (i + j) / 2 < j := by omega
        rw [loop_inl (hs i j (by omega) h3)]
        by_cases hl : (i + j) / 2 < a.length
        · have : (a ++ b)[(i + j) / 2]'hm ∈ a := by rw [List.getElem_append_left hl]; exact List.getElem_mem hl
          rw [if_pos (ha _ this)]
          exact ih _ _ (by omega) (by omega) h2 h3
        · have : (a ++ b)[(i + j) / 2]'hm ∈ b := by rw [List.getElem_append_right (by omega)]; exact List.getElem_mem _
          rw [if_neg (by rw [hb _ this]; simp)]
          exact ih _ _ (by omega) h1 (by omega) (by omega)
  exact key _ 0 _ (Nat.le_refl _) (Nat.zero_le _) (by simp) (Nat.le_refl _)
/-- The whole search by halves, of the shape that Go's library has. -/
theorem mid_ok {i j n : Nat} (hi : i < j) (hj : j ≤ n) (hn : n ≤ 4611686018427387904) : (IntKind.i64.wrap (Int.fdiv (IntKind.u64.wrap (IntKind.i64.wrap ((i : Int) + (j : Int)))) 2)) = (((i + j) / 2 : Nat) : Int) := by
  rw [i64ok (x := (i : Int) + j) (by omega) (by omega), show IntKind.u64.wrap ((i : Int) + j) = (i : Int) + j from by rw [IntKind.wrap_u64]; omega, fdiv_lit 2 (by omega), i64ok (by omega) (by omega)]
  omega
theorem loop_search {α : Type} {a b : List α} {p : α → Bool} {pe : α → Option Int} (hn : (a ++ b).length ≤ 4611686018427387904) (ha : ∀ x ∈ a, p x = true) (hb : ∀ x ∈ b, p x = false) {step : Int × Int → Option ((Int × Int) ⊕ Int)}
    (hp : ∀ x ∈ a ++ b, ∃ r, pe x = some r ∧ p x = decide (r < 0))
    (hs : ∀ i j, step (i, j) = cnd (decide (i < j)) ((some (IntKind.i64.wrap (Int.fdiv (IntKind.u64.wrap (IntKind.i64.wrap (i + j))) 2))).bind fun m => (idx (a ++ b) m).bind fun x => (pe x).bind fun r => cnd (decide (r < 0)) (some (.inl (IntKind.i64.wrap (m + 1), j))) (some (.inl (i, m)))) (some (.inr i))) :
    loop step ((0 : Int), ((a ++ b).length : Int)) = some (a.length : Int) := by
  refine loop_halves ha hb (fun i j h hj => ?_) (fun i hi => ?_)
  · rw [hs, cnd_dec, if_pos (by omega), Option.bind_some, mid_ok h hj hn, idx_get (by omega), Option.bind_some]
    obtain ⟨r, h1, h2⟩ := hp ((a ++ b)[(i + j) / 2]'(by omega)) (List.getElem_mem _)
    rw [h1, Option.bind_some, cnd_dec, h2]
    by_cases hr : r < 0
    · rw [if_pos hr, decide_eq_true hr, if_pos rfl, i64ok (by omega) (by omega)]; rfl
    · rw [if_neg hr, decide_eq_false hr, if_neg (by simp)]
  · rw [hs, cnd_dec, if_neg (by omega)]
theorem ins_at {α : Type} {w : Nat} {a b v : List α} (hv : 0 < v.length) (h : ((a ++ b).length + v.length) * w ≤ 140737488355328) : ins w (a ++ b) (a.length : Int) v = some (a ++ v ++ b) := by
  unfold ins
  rw [if_pos ⟨by omega, by rw [List.length_append]; omega, hv, h⟩]
  simp
def cmpI (x y : Int) : Int := if x < y then -1 else if y < x then 1 else 0
theorem cmpI_ord : Cmp3 cmpI where
  tr x y z h1 h2 := by unfold cmpI at *; split at h1 <;> split at h2 <;> (try split at h1) <;> (try split at h2) <;> split <;> omega
  eq x y := by unfold cmpI; split <;> (try split) <;> omega
  tot x y h1 h2 := by unfold cmpI at *; split at h1 <;> (try split at h1) <;> split <;> omega
theorem cmpI_lt (x y : Int) : cmpI x y < 0 ↔ x < y := by unfold cmpI; split <;> (try split) <;> omega
end Go.Proofs.YtbfndcookgijfaaGreatDoor.Sx
