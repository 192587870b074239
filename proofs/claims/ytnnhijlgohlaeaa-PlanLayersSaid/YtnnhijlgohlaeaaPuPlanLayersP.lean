/- The plain law of PlanLayers: layers are the reference's rounds; the chain is its lexicographically smallest longest one. No condition. -/
import Derived.Test.YtnnhijlgohlaeaaPuPlanP
namespace Go.Proofs.Ytnnhijlgohlaeaa.P
open Go Go.RowKit Go.Proofs.Ytnnhijlgohlaeaa.Sx
set_option linter.unusedVariables false
set_option linter.unusedSimpArgs false
/-! ### Rounds -/
def cnt (ds : List Int) (n r : Nat) : Nat := (List.range n).countP fun k => decide (gd ds k ≤ (r : Int))
theorem cnt_succ (ds : List Int) (n r : Nat) : cnt ds n (r + 1) = cnt ds n r + (lay ds n r).length := by
  unfold cnt lay
  rw [List.length_map, ← List.countP_eq_length_filter]
  induction n with
  | zero => rfl
  | succ n ih =>
    rw [List.range_succ, List.countP_append, List.countP_append, List.countP_append, ih]
    simp only [List.countP_cons, List.countP_nil, decide_eq_true_eq]
    by_cases h1 : gd ds n ≤ (r : Int)
    · rw [if_pos (show gd ds n ≤ ((r + 1 : Nat) : Int) by omega), if_pos h1, if_neg (by omega)]; omega
    · by_cases h2 : gd ds n = (r : Int) + 1
      · rw [if_pos (show gd ds n ≤ ((r + 1 : Nat) : Int) by omega), if_neg h1, if_pos h2]; omega
      · rw [if_neg (show ¬ gd ds n ≤ ((r + 1 : Nat) : Int) by omega), if_neg h1, if_neg h2]; omega
theorem cnt_le (ds : List Int) (n r : Nat) : cnt ds n r ≤ n := by
  have := List.countP_le_length (l := List.range n) (p := fun k => decide (gd ds k ≤ (r : Int)))
  rwa [List.length_range] at this
def doneL (ds : List Int) (n r : Nat) : List Bool := (List.range n).map fun k => decide (gd ds k ≤ (r : Int))
theorem done_at {ds : List Int} {n r k : Nat} (h : k < n) : idx (doneL ds n r) (k : Int) = some (decide (gd ds k ≤ (r : Int))) := by
  rw [idx_get (by simp [doneL, h])]
  simp [doneL]
theorem rounds_l9 {l : List api_System} (hs : ∀ a ∈ l, sysOK a) (hn : l.length ≤ 24) {ds : List Int} {r i : Nat} (hi : i < l.length) (t0 : Bool) :
    loop (σ := Bool × Int) (ρ := Bool) (fun s_ => tourref3_Rounds_l9 (i : Int) (doneL ds l.length r) l s_.1 s_.2) (t0, 0) = some (t0 && (List.range i).all fun j => decide (gd ds j ≤ (r : Int)) || !(cl l j i)) := by
  have key : ∀ (d j : Nat) (t : Bool), j + d = i → loop (σ := Bool × Int) (ρ := Bool) (fun s_ => tourref3_Rounds_l9 (i : Int) (doneL ds l.length r) l s_.1 s_.2) (t, (j : Int)) = some (t && (List.range' j d).all fun j => decide (gd ds j ≤ (r : Int)) || !(cl l j i)) := by
    intro d
    induction d with
    | zero =>
      intro j t hj
      rw [loop_inr (r := t) (by
        show tourref3_Rounds_l9 (i : Int) (doneL ds l.length r) l t (j : Int) = _
        unfold tourref3_Rounds_l9
        rw [cnd_dec, if_neg (by omega)])]
      simp
    | succ d ih =>
      intro j t hj
      have hjl : j < l.length := by omega
      have hstep : tourref3_Rounds_l9 (i : Int) (doneL ds l.length r) l t (j : Int) = some (.inl (t && (decide (gd ds j ≤ (r : Int)) || !(cl l j i)), ((j + 1 : Nat) : Int))) := by
        unfold tourref3_Rounds_l9 tourref3_Rounds_j10
        rw [cnd_dec, if_pos (by omega), i64ok (by omega) (by omega)]
        cases t with
        | false => rfl
        | true =>
          rw [cnd_true, done_at hjl]
          simp only [Option.bind_some, Bool.true_and]
          by_cases h : gd ds j ≤ (r : Int)
          · rw [decide_eq_true h, cnd_true]; rfl
          · rw [decide_eq_false h, cnd_false, idx_get hjl]
            simp only [Option.bind_some]
            rw [idx_get hi]
            simp only [Option.bind_some]
            rw [rconf (hs _ (List.getElem_mem hjl)) (hs _ (List.getElem_mem hi)), ← cl_eq hjl hi]
            rfl
      rw [loop_inl hstep, ih (j + 1) _ (by omega), List.range'_succ, List.all_cons, Bool.and_assoc]
  have := key i 0 t0 (by omega)
  rwa [← List.range_eq_range'] at this
theorem free_iff {l : List api_System} {ds : List Int} (hd : Dep l ds l.length) {r i : Nat} (hi : i < l.length) : (!(decide (gd ds i ≤ (r : Int))) && (List.range i).all fun j => decide (gd ds j ≤ (r : Int)) || !(cl l j i)) = decide (gd ds i = (r : Int) + 1) := by
  rw [Bool.eq_iff_iff]
  simp only [Bool.and_eq_true, Bool.not_eq_true', decide_eq_false_iff_not, List.all_eq_true, List.mem_range, Bool.or_eq_true, decide_eq_true_eq]
  constructor
  · rintro ⟨h1, h2⟩
    rcases hd.why i hi with e | ⟨j, hj, hc, e⟩
    · omega
    · rcases h2 j hj with h | h
      · omega
      · rw [hc] at h; cases h
  · intro e
    refine ⟨by omega, fun j hj => ?_⟩
    by_cases hc : cl l j i = true
    · have := hd.up i hi j hj hc; exact .inl (by omega)
    · exact .inr (Bool.eq_false_iff.2 hc)
theorem rounds_l6 {l : List api_System} (hs : ∀ a ∈ l, sysOK a) (hn : l.length ≤ 24) {ds : List Int} (hd : Dep l ds l.length) (r : Nat) :
    loop (σ := (List Int) × Int) (ρ := (List Int)) (fun s_ => tourref3_Rounds_l6 l (doneL ds l.length r) s_.1 s_.2) (([] : List Int), 0) = some (lay ds l.length r) := by
  have e := loop_to (step := fun s_ : (List Int) × Int => tourref3_Rounds_l6 l (doneL ds l.length r) s_.1 s_.2) (fun i => (lay ds i r, (i : Int))) l.length (r := lay ds l.length r) (fun i hi => by
    show tourref3_Rounds_l6 l (doneL ds l.length r) (lay ds i r) (i : Int) = _
    unfold tourref3_Rounds_l6
    rw [cnd_dec, if_pos (by omega), done_at hi]
    simp only [Option.bind_some]
    rw [rounds_l9 hs hn hi, free_iff hd hi]
    simp only [Option.bind_some]
    unfold tourref3_Rounds_j8 tourref3_Rounds_j7
    rw [cnd_dec, i64ok (by omega) (by omega), lay_succ]
    have := lay_len ds i r
    by_cases h : gd ds i = (r : Int) + 1
    · rw [if_pos h, if_pos h, app_ok (by simp only [List.length_cons, List.length_nil]; omega)]; rfl
    · rw [if_neg h, if_neg h]; rfl) (by
    show tourref3_Rounds_l6 l (doneL ds l.length r) (lay ds l.length r) (l.length : Int) = _
    unfold tourref3_Rounds_l6
    rw [cnd_dec, if_neg (by omega)])
  exact e
theorem rounds_l5 {l : List api_System} {ds : List Int} (hn : l.length ≤ 24) (r : Nat) :
    loop (σ := (List Bool) × Int) (ρ := (List Bool)) (fun s_ => tourref3_Rounds_l5 (lay ds l.length r) s_.1 s_.2) (doneL ds l.length r, 0) = some (doneL ds l.length (r + 1)) := by
  have hll := lay_len ds l.length r
  have key : ∀ (d i : Nat) (b : List Bool), i + d = (lay ds l.length r).length → b.length = l.length → (∀ k, k < l.length → b[k]? = some (decide (gd ds k ≤ (r : Int) ∨ (k : Int) ∈ (lay ds l.length r).take i))) →
      loop (σ := (List Bool) × Int) (ρ := (List Bool)) (fun s_ => tourref3_Rounds_l5 (lay ds l.length r) s_.1 s_.2) (b, (i : Int)) = some (doneL ds l.length (r + 1)) := by
    intro d
    induction d with
    | zero =>
      intro i b hi hb hk
      rw [loop_inr (r := b) (by
        show tourref3_Rounds_l5 (lay ds l.length r) b (i : Int) = _
        unfold tourref3_Rounds_l5
        rw [cnd_dec, if_neg (by omega)])]
      congr 1
      apply List.ext_getElem?
      intro k
      by_cases hkl : k < l.length
      · rw [hk k hkl, List.take_of_length_le (by omega)]
        rw [List.getElem?_eq_getElem (by simp [doneL, hkl])]
        simp only [doneL, List.getElem_map, List.getElem_range, Option.some.injEq, decide_eq_decide]
        constructor
        · rintro (h | h)
          · omega
          · obtain ⟨k', e, _, h2⟩ := lay_mem.1 h
            obtain rfl : k = k' := by omega
            omega
        · intro h
          by_cases h1 : gd ds k ≤ (r : Int)
          · exact .inl h1
          · exact .inr (lay_mem.2 ⟨k, rfl, hkl, by omega⟩)
      · rw [List.getElem?_eq_none (by omega), List.getElem?_eq_none (by simp [doneL]; omega)]
    | succ d ih =>
      intro i b hi hb hk
      have hil : i < (lay ds l.length r).length := by omega
      obtain ⟨x, hx, hxl, _⟩ := lay_mem.1 (List.getElem_mem hil)
      have hstep : tourref3_Rounds_l5 (lay ds l.length r) b (i : Int) = some (.inl (b.set x true, ((i + 1 : Nat) : Int))) := by
        unfold tourref3_Rounds_l5
        rw [cnd_dec, if_pos (by omega), idx_get hil]
        simp only [Option.bind_some]
        rw [hx, idx_get (by omega)]
        simp only [Option.bind_some]
        rw [upd_ok (by omega)]
        simp only [Option.bind_some]
        rw [i64ok (by omega) (by omega)]; rfl
      rw [loop_inl hstep]
      refine ih (i + 1) _ (by omega) (by simp [hb]) fun k hkl => ?_
      rw [List.getElem?_set, List.take_succ_eq_append_getElem hil, hx]
      by_cases e : x = k
      · subst e
        rw [if_pos rfl, if_pos (by omega)]
        simp
      · rw [if_neg e, hk k hkl]
        simp only [Option.some.injEq, decide_eq_decide, List.mem_append, List.mem_singleton]
        constructor
        · rintro (h | h)
          · exact .inl h
          · exact .inr (.inl h)
        · rintro (h | h | h)
          · exact .inl h
          · exact .inr h
          · exact absurd h (by omega)
  refine key (lay ds l.length r).length 0 _ (by omega) (by simp [doneL]) fun k hk => ?_
  rw [List.getElem?_eq_getElem (by simp [doneL, hk])]
  simp [doneL]
theorem rounds_ok {l : List api_System} (hs : ∀ a ∈ l, sysOK a) (hn : l.length ≤ 24) {ds : List Int} (hd : Dep l ds l.length) : tourref3_Rounds l = some (rowsOf ds l.length (topOf ds l.length)) := by
  unfold tourref3_Rounds
  rw [mk_ok (by omega) (by omega)]
  simp only [Option.bind_some, Int.toNat_natCast]
  have hc0 : cnt ds l.length 0 = 0 := by
    unfold cnt
    rw [List.countP_eq_zero]
    intro k hk
    have := hd.pos k (List.mem_range.1 hk)
    simp; omega
  have hd0 : List.replicate l.length false = doneL ds l.length 0 := by
    apply List.ext_getElem
    · simp [doneL]
    · intro k h1 h2
      have hk : k < l.length := by simpa using h1
      have := hd.pos k hk
      simp [doneL]; omega
  have hleft : ∀ r, r < topOf ds l.length → cnt ds l.length r < l.length := fun r hr => by
    rcases topOf_is ds l.length with e | ⟨k, hk, e⟩
    · omega
    · unfold cnt
      have h1 := List.countP_le_length (l := List.range l.length) (p := fun k => decide (gd ds k ≤ (r : Int)))
      rw [List.length_range] at h1
      rcases Nat.lt_or_eq_of_le h1 with h | h
      · exact h
      · have h' : List.countP (fun k => decide (gd ds k ≤ (r : Int))) (List.range l.length) = (List.range l.length).length := by rw [h, List.length_range]
        have := List.countP_eq_length.1 h' k (List.mem_range.2 hk)
        simp at this; omega
  have hend : cnt ds l.length (topOf ds l.length) = l.length := by
    unfold cnt
    have : List.countP (fun k => decide (gd ds k ≤ (topOf ds l.length : Int))) (List.range l.length) = (List.range l.length).length := List.countP_eq_length.2 fun k hk => by
      have := topOf_ge ds l.length k (List.mem_range.1 hk)
      simpa using this
    rw [this, List.length_range]
  have e := loop_to (step := fun s_ : (List Bool) × (List (List Int)) × Int => tourref3_Rounds_l2 l s_.1 s_.2.1 s_.2.2) (fun r => (doneL ds l.length r, rowsOf ds l.length r, (l.length : Int) - (cnt ds l.length r : Int))) (topOf ds l.length) (r := rowsOf ds l.length (topOf ds l.length)) (fun r hr => by
    show tourref3_Rounds_l2 l (doneL ds l.length r) (rowsOf ds l.length r) ((l.length : Int) - (cnt ds l.length r : Int)) = _
    have h1 := hleft r hr
    unfold tourref3_Rounds_l2
    rw [cnd_dec, if_pos (by omega), rounds_l6 hs hn hd r]
    simp only [Option.bind_some]
    unfold tourref3_Rounds_j3
    rw [rounds_l5 hn r]
    simp only [Option.bind_some]
    unfold tourref3_Rounds_j4
    have htop : topOf ds l.length ≤ l.length := by
      rcases topOf_is ds l.length with e | ⟨k, hk, e⟩
      · omega
      · have := hd.pos k hk; omega
    rw [app_ok (by simp only [rowsOf, List.length_map, List.length_range, List.length_cons, List.length_nil]; omega)]
    simp only [Option.bind_some]
    have h2 := cnt_succ ds l.length r
    have h3 := cnt_le ds l.length (r + 1)
    rw [i64ok (by omega) (by omega)]
    have h4 : rowsOf ds l.length r ++ [lay ds l.length r] = rowsOf ds l.length (r + 1) := by unfold rowsOf; rw [List.range_succ, List.map_append]; rfl
    rw [h4]
    congr 4
    omega) (by
    show tourref3_Rounds_l2 l (doneL ds l.length (topOf ds l.length)) (rowsOf ds l.length (topOf ds l.length)) ((l.length : Int) - (cnt ds l.length (topOf ds l.length) : Int)) = _
    unfold tourref3_Rounds_l2
    rw [cnd_dec, if_neg (by omega)])
  have e' : loop (σ := (List Bool) × (List (List Int)) × Int) (ρ := (List (List Int))) (fun s_ => tourref3_Rounds_l2 l s_.1 s_.2.1 s_.2.2) (List.replicate l.length false, ([] : List (List Int)), (l.length : Int)) = some (rowsOf ds l.length (topOf ds l.length)) := by
    rw [hd0]
    have : (l.length : Int) = (l.length : Int) - (cnt ds l.length 0 : Int) := by omega
    rw [this]
    exact e
  rw [e']; rfl
/-! ### The longest chain -/
def pickL (f : Nat → List Int) (js : List Nat) (b : List Int) : List Int := js.foldl (fun b j => if b.length < (f j).length then f j else b) b
def candTo (l : List api_System) (i m : Nat) : List Nat := (List.range m).filter fun j => decide (i < j) && cl l i j
def Lc (l : List api_System) : Nat → Nat → List Int
  | 0, _ => []
  | d + 1, i => (i : Int) :: pickL (Lc l d) (candTo l i l.length) []
def lng (l : List api_System) (i : Nat) : List Int := Lc l (l.length - i) i
theorem pickL_congr {f g : Nat → List Int} : ∀ {js : List Nat} {b : List Int}, (∀ j ∈ js, f j = g j) → pickL f js b = pickL g js b := by
  intro js
  induction js with
  | nil => intro b _; rfl
  | cons j js ih =>
    intro b h
    show pickL f js (if b.length < (f j).length then f j else b) = pickL g js (if b.length < (g j).length then g j else b)
    rw [h j (by simp), ih fun k hk => h k (by simp [hk])]
theorem cand_mem {l : List api_System} {i m j : Nat} : j ∈ candTo l i m ↔ j < m ∧ i < j ∧ cl l i j = true := by
  unfold candTo; simp [List.mem_filter]
theorem Lc_stable (l : List api_System) : ∀ (d i : Nat), i < l.length → l.length - i ≤ d → Lc l d i = Lc l (l.length - i) i := by
  intro d
  induction d using Nat.strongRecOn with
  | _ d ih =>
    intro i hi hd
    cases d with
    | zero => omega
    | succ d =>
      obtain ⟨e, he⟩ : ∃ e, l.length - i = e + 1 := ⟨l.length - i - 1, by omega⟩
      rw [he]
      show (i : Int) :: _ = (i : Int) :: _
      congr 1
      refine pickL_congr fun j hj => ?_
      obtain ⟨h1, h2, _⟩ := cand_mem.1 hj
      rw [ih d (by omega) j h1 (by omega), ih e (by omega) j h1 (by omega)]
theorem lng_eq {l : List api_System} {i : Nat} (hi : i < l.length) : lng l i = (i : Int) :: pickL (lng l) (candTo l i l.length) [] := by
  unfold lng
  obtain ⟨e, he⟩ : ∃ e, l.length - i = e + 1 := ⟨l.length - i - 1, by omega⟩
  rw [he]
  show (i : Int) :: _ = (i : Int) :: _
  congr 1
  refine pickL_congr fun j hj => ?_
  obtain ⟨h1, h2, _⟩ := cand_mem.1 hj
  exact Lc_stable l e j h1 (by omega)
theorem pick_spec (f : Nat → List Int) : ∀ (js : List Nat) (b : List Int), (pickL f js b = b ∧ ∀ x ∈ js, (f x).length ≤ b.length) ∨ ∃ js1 j js2, js = js1 ++ j :: js2 ∧ pickL f js b = f j ∧ b.length < (f j).length ∧ (∀ x ∈ js1, (f x).length < (f j).length) ∧ ∀ x ∈ js2, (f x).length ≤ (f j).length := by
  intro js
  induction js with
  | nil => intro b; exact .inl ⟨rfl, by simp⟩
  | cons j js ih =>
    intro b
    have e : pickL f (j :: js) b = pickL f js (if b.length < (f j).length then f j else b) := rfl
    rw [e]
    by_cases h : b.length < (f j).length
    · rw [if_pos h]
      rcases ih (f j) with ⟨h1, h2⟩ | ⟨js1, k, js2, h1, h2, h3, h4, h5⟩
      · exact .inr ⟨[], j, js, rfl, h1, h, by simp, h2⟩
      · refine .inr ⟨j :: js1, k, js2, by rw [h1]; rfl, h2, by omega, fun x hx => ?_, h5⟩
        rcases List.mem_cons.1 hx with rfl | hx
        · exact h3
        · exact h4 x hx
    · rw [if_neg h]
      rcases ih b with ⟨h1, h2⟩ | ⟨js1, k, js2, h1, h2, h3, h4, h5⟩
      · refine .inl ⟨h1, fun x hx => ?_⟩
        rcases List.mem_cons.1 hx with rfl | hx
        · omega
        · exact h2 x hx
      · refine .inr ⟨j :: js1, k, js2, by rw [h1]; rfl, h2, h3, fun x hx => ?_, h5⟩
        rcases List.mem_cons.1 hx with rfl | hx
        · omega
        · exact h4 x hx
theorem lng_pos {l : List api_System} {i : Nat} (hi : i < l.length) : 1 ≤ (lng l i).length := by rw [lng_eq hi]; simp
theorem pick_ge (f : Nat → List Int) {js : List Nat} {b : List Int} : b.length ≤ (pickL f js b).length ∧ ∀ x ∈ js, (f x).length ≤ (pickL f js b).length := by
  rcases pick_spec f js b with ⟨h1, h2⟩ | ⟨js1, j, js2, h1, h2, h3, h4, h5⟩
  · rw [h1]; exact ⟨Nat.le_refl _, h2⟩
  · rw [h2]
    refine ⟨by omega, fun x hx => ?_⟩
    rw [h1] at hx
    rcases List.mem_append.1 hx with hx | hx
    · exact Nat.le_of_lt (h4 x hx)
    · rcases List.mem_cons.1 hx with rfl | hx
      · exact Nat.le_refl _
      · exact h5 x hx
theorem pick_is (f : Nat → List Int) {js : List Nat} : pickL f js [] = [] ∨ ∃ j ∈ js, pickL f js [] = f j := by
  rcases pick_spec f js [] with ⟨h1, _⟩ | ⟨js1, j, js2, h1, h2, _⟩
  · exact .inl h1
  · exact .inr ⟨j, by rw [h1]; simp, h2⟩
theorem lng_len (l : List api_System) : ∀ (d i : Nat), l.length - i ≤ d → i < l.length → (lng l i).length ≤ l.length - i := by
  intro d
  induction d with
  | zero => intro i h hi; omega
  | succ d ih =>
    intro i h hi
    rw [lng_eq hi, List.length_cons]
    rcases pick_is (lng l) (js := candTo l i l.length) with e | ⟨j, hj, e⟩
    · rw [e]; simp; omega
    · obtain ⟨h1, h2, _⟩ := cand_mem.1 hj
      have := ih j (by omega) h1
      rw [e]; omega
def long (l : List api_System) : List Int := pickL (lng l) (List.range l.length) []
theorem long_len (l : List api_System) : (long l).length ≤ l.length := by
  unfold long
  rcases pick_is (lng l) (js := List.range l.length) with e | ⟨j, hj, e⟩
  · rw [e]; simp
  · have := lng_len l _ j (Nat.le_refl _) (List.mem_range.1 hj)
    rw [e]; omega
/-! ### The reference's search -/
theorem mget_mput {κ ν : Type} [DecidableEq κ] (m : List (κ × ν)) (k : κ) (v : ν) (k' : κ) : mget (mput m k v) k' = if k' = k then some v else mget m k' := by
  unfold mput
  cases hm : mfind m k with
  | none =>
    obtain ⟨h1, h2⟩ := mfind_none hm
    show mget (m ++ [(k, v)]) k' = _
    unfold mget at h1 ⊢
    rw [List.find?_append]
    by_cases e : k' = k
    · subst e
      have hf : m.find? (fun p => decide (p.1 = k')) = none := by simpa using h1
      rw [hf]; simp
    · rw [if_neg e]
      have e2 : ¬ k = k' := fun x => e x.symm
      cases m.find? (fun p => decide (p.1 = k')) with
      | none => simp [e2]
      | some p => rfl
  | some i =>
    obtain ⟨v0, h1, _⟩ := mfind_some hm
    have hlt := (List.getElem?_eq_some_iff.1 h1).1
    show mget (m.set i (k, v)) k' = _
    unfold mfind at hm
    rw [List.findIdx?_eq_some_iff_getElem] at hm
    obtain ⟨_, hp, hbef⟩ := hm
    have hk : m[i].1 = k := of_decide_eq_true hp
    unfold mget
    have hsp : m = m.take i ++ m[i] :: m.drop (i + 1) := by rw [← List.drop_eq_getElem_cons hlt, List.take_append_drop]
    have hset : m.set i (k, v) = m.take i ++ (k, v) :: m.drop (i + 1) := by rw [List.set_eq_take_append_cons_drop, if_pos hlt]
    have htk : ∀ k'', k'' = k → (m.take i).find? (fun p => decide (p.1 = k'')) = none := fun k'' e => by
      subst e
      rw [List.find?_eq_none]
      intro x hx
      obtain ⟨j, hj, rfl⟩ := List.mem_iff_getElem.1 hx
      have hj' : j < i := by rw [List.length_take] at hj; omega
      have := hbef j hj'
      rw [List.getElem_take]
      simpa using this
    rw [hset, List.find?_append, List.find?_cons]
    by_cases e : k' = k
    · rw [if_pos e, htk k' e]; simp [e]
    · have e2 : ¬ k = k' := fun x => e x.symm
      rw [if_neg e]
      conv => rhs; rw [hsp, List.find?_append, List.find?_cons]
      simp [e2, hk]
def MemoOK (l : List api_System) (m : List (Int × (List Int))) : Prop := ∀ k v, mget m k = some v → ∃ i : Nat, k = (i : Int) ∧ i < l.length ∧ v = lng l i
theorem memo_put {l : List api_System} {m : List (Int × (List Int))} (h : MemoOK l m) {i : Nat} (hi : i < l.length) : MemoOK l (mput m (i : Int) (lng l i)) := by
  intro k v hk
  rw [mget_mput] at hk
  by_cases e : k = (i : Int)
  · rw [if_pos e] at hk; exact ⟨i, e, hi, (Option.some.inj hk).symm⟩
  · rw [if_neg e] at hk; exact h k v hk
theorem candTo_succ {l : List api_System} {i j : Nat} : candTo l i (j + 1) = if i < j ∧ cl l i j = true then candTo l i j ++ [j] else candTo l i j := by
  unfold candTo
  rw [List.range_succ, List.filter_append]
  by_cases h : i < j ∧ cl l i j = true
  · rw [if_pos h]; simp [h.1, h.2]
  · rw [if_neg h]
    have : (decide (i < j) && cl l i j) = false := by
      rw [Bool.eq_false_iff]; intro e; exact h (by simpa using e)
    simp [this]
theorem from_ok {l : List api_System} (hs : ∀ a ∈ l, sysOK a) (hn : l.length ≤ 24) : ∀ (d i : Nat), l.length - i ≤ d → i < l.length → ∀ m, MemoOK l m → ∃ m', MemoOK l m' ∧ ∀ k', l.length - i + 1 ≤ k' → fixK tourref3_Longest_1_s k' ((i : Int), m, l) = some (lng l i, m') := by
  intro d
  induction d with
  | zero => intro i h hi; omega
  | succ d ih =>
    intro i hd hi m hm
    have hself : ∀ (n j : Nat) (m b), j + n = l.length → i < j → MemoOK l m → b = pickL (lng l) (candTo l i j) [] → ∃ m', MemoOK l m' ∧ ∀ k', l.length - i ≤ k' →
        loop (σ := (List (Int × (List Int))) × (List Int) × Int) (ρ := (List (Int × (List Int))) × (List Int)) (fun s_ => tourref3_Longest_1_l3 l (i : Int) (fun i p1_0 p2_0 => fixK tourref3_Longest_1_s k' (i, p1_0, p2_0)) s_.1 s_.2.1 s_.2.2) (m, b, (j : Int)) = some (m', pickL (lng l) (candTo l i l.length) []) := by
      intro n
      induction n with
      | zero =>
        intro j m b hj hij hm hb
        rw [Nat.add_zero] at hj; subst hj
        refine ⟨m, hm, fun k' hk' => ?_⟩
        rw [hb]
        refine loop_inr ?_
        show tourref3_Longest_1_l3 l (i : Int) _ m _ (l.length : Int) = _
        unfold tourref3_Longest_1_l3
        rw [cnd_dec, if_neg (by omega)]
      | succ n ihn =>
        intro j m b hj hij hm hb
        have hjl : j < l.length := by omega
        have hpre : ∀ (self_ : Int → (List (Int × (List Int))) → (List api_System) → Option ((List Int) × (List (Int × (List Int))))), tourref3_Longest_1_l3 l (i : Int) self_ m b (j : Int) = cnd (cl l i j) (bnd2 (self_ (j : Int) m l) fun x152 x153 =>
            cnd (decide ((b.length : Int) < (x152.length : Int))) (tourref3_Longest_1_j4 (j : Int) x153 x152) (tourref3_Longest_1_j4 (j : Int) x153 b)) (tourref3_Longest_1_j4 (j : Int) m b) := by
          intro self_
          unfold tourref3_Longest_1_l3
          rw [cnd_dec, if_pos (by omega), cnd_dec, if_neg (by omega), idx_get hi]
          simp only [Option.bind_some]
          rw [idx_get hjl]
          simp only [Option.bind_some]
          rw [rconf (hs _ (List.getElem_mem hi)) (hs _ (List.getElem_mem hjl)), ← cl_eq hi hjl]
          rfl
        by_cases hc : cl l i j = true
        · obtain ⟨m1, hm1, e1⟩ := ih j (by omega) hjl m hm
          obtain ⟨m2, hm2, e2⟩ := ihn (j + 1) m1 (if b.length < (lng l j).length then lng l j else b) (by omega) (by omega) hm1 (by
            have hcs := candTo_succ (l := l) (i := i) (j := j)
            rw [if_pos ⟨hij, hc⟩] at hcs
            rw [hcs]
            unfold pickL at hb ⊢
            rw [List.foldl_append, ← hb]; rfl)
          refine ⟨m2, hm2, fun k' hk' => ?_⟩
          rw [loop_inl (s' := (m1, (if b.length < (lng l j).length then lng l j else b), ((j + 1 : Nat) : Int))) (by
            show tourref3_Longest_1_l3 l (i : Int) _ m b (j : Int) = _
            rw [hpre, cnd_pos hc, e1 k' (by omega)]
            simp only [bnd2_some, cnd_dec]
            unfold tourref3_Longest_1_j4
            rw [i64ok (by omega) (by omega)]
            by_cases h : b.length < (lng l j).length
            · rw [if_pos (by omega), if_pos h]; rfl
            · rw [if_neg (by omega), if_neg h]; rfl)]
          exact e2 k' hk'
        · obtain ⟨m2, hm2, e2⟩ := ihn (j + 1) m b (by omega) (by omega) hm (by rw [candTo_succ, if_neg (fun h => hc h.2)]; exact hb)
          refine ⟨m2, hm2, fun k' hk' => ?_⟩
          rw [loop_inl (s' := (m, b, ((j + 1 : Nat) : Int))) (by
            show tourref3_Longest_1_l3 l (i : Int) _ m b (j : Int) = _
            rw [hpre, cnd_neg (Bool.eq_false_iff.2 hc)]
            unfold tourref3_Longest_1_j4
            rw [i64ok (by omega) (by omega)]; rfl)]
          exact e2 k' hk'
    cases hg : mget m (i : Int) with
    | some v =>
      obtain ⟨i', e, _, rfl⟩ := hm _ _ hg
      obtain rfl : i = i' := by omega
      refine ⟨m, hm, fun k' hk' => ?_⟩
      obtain ⟨k, rfl⟩ : ∃ k, k' = k + 1 := ⟨k' - 1, by omega⟩
      show tourref3_Longest_1_b _ (i : Int) m l = _
      unfold tourref3_Longest_1_b
      rw [hg]; rfl
    | none =>
      have hc0 : candTo l i (i + 1) = [] := by
        rw [List.eq_nil_iff_forall_not_mem]; intro x hx; have := cand_mem.1 hx; omega
      obtain ⟨m1, hm1, e1⟩ := hself (l.length - (i + 1)) (i + 1) m [] (by omega) (by omega) hm (by rw [hc0]; rfl)
      refine ⟨_, memo_put hm1 hi, fun k' hk' => ?_⟩
      obtain ⟨k, rfl⟩ : ∃ k, k' = k + 1 := ⟨k' - 1, by omega⟩
      show tourref3_Longest_1_b _ (i : Int) m l = _
      unfold tourref3_Longest_1_b
      rw [hg]
      simp only [Option.getD_none, Option.bind_some, Option.isSome_none]
      rw [cnd_false, i64ok (by omega) (by omega)]
      have e2 := e1 k (by omega)
      have e3 : loop (σ := (List (Int × (List Int))) × (List Int) × Int) (ρ := (List (Int × (List Int))) × (List Int)) (fun s_ => tourref3_Longest_1_l3 l (i : Int) (fun i p1_0 p2_0 => fixK tourref3_Longest_1_s k (i, p1_0, p2_0)) s_.1 s_.2.1 s_.2.2) (m, [], (i : Int) + 1) = _ := e2
      rw [e3]
      simp only [Option.bind_some]
      unfold tourref3_Longest_1_j1 tourref3_Longest_1_j2
      have hl := lng_len l _ i (Nat.le_refl _) hi
      rw [lng_eq hi, List.length_cons] at hl
      rw [cnd_dec, if_pos (by omega), app_ok (by simp only [List.length_cons, List.length_nil]; omega)]
      simp only [Option.bind_some]
      rw [List.singleton_append, ← lng_eq hi]
theorem longest_ok {l : List api_System} (hs : ∀ a ∈ l, sysOK a) (hn : l.length ≤ 24) : tourref3_Longest l = some (long l) := by
  have hself : ∀ (n j : Nat) (m b), j + n = l.length → MemoOK l m → b = pickL (lng l) (List.range j) [] → ∃ m', MemoOK l m' ∧ ∀ k', l.length + 1 ≤ k' →
      loop (σ := (List (Int × (List Int))) × (List Int) × Int) (ρ := (List (Int × (List Int))) × (List Int)) (fun s_ => tourref3_Longest_1_l3 l (-1) (fun i p1_0 p2_0 => fixK tourref3_Longest_1_s k' (i, p1_0, p2_0)) s_.1 s_.2.1 s_.2.2) (m, b, (j : Int)) = some (m', long l) := by
    intro n
    induction n with
    | zero =>
      intro j m b hj hm hb
      rw [Nat.add_zero] at hj; subst hj
      refine ⟨m, hm, fun k' hk' => ?_⟩
      rw [hb]
      refine loop_inr ?_
      show tourref3_Longest_1_l3 l (-1) _ m _ (l.length : Int) = _
      unfold tourref3_Longest_1_l3
      rw [cnd_dec, if_neg (by omega)]; rfl
    | succ n ihn =>
      intro j m b hj hm hb
      have hjl : j < l.length := by omega
      obtain ⟨m1, hm1, e1⟩ := from_ok hs hn _ j (Nat.le_refl _) hjl m hm
      obtain ⟨m2, hm2, e2⟩ := ihn (j + 1) m1 (if b.length < (lng l j).length then lng l j else b) (by omega) hm1 (by
        unfold pickL at hb ⊢
        rw [List.range_succ, List.foldl_append, ← hb]; rfl)
      refine ⟨m2, hm2, fun k' hk' => ?_⟩
      rw [loop_inl (s' := (m1, (if b.length < (lng l j).length then lng l j else b), ((j + 1 : Nat) : Int))) (by
        show tourref3_Longest_1_l3 l (-1) _ m b (j : Int) = _
        have hpre : ∀ (self_ : Int → (List (Int × (List Int))) → (List api_System) → Option ((List Int) × (List (Int × (List Int))))), tourref3_Longest_1_l3 l (-1) self_ m b (j : Int) = (bnd2 (self_ (j : Int) m l) fun x77 x78 =>
            cnd (decide ((b.length : Int) < (x77.length : Int))) (tourref3_Longest_1_j4 (j : Int) x78 x77) (tourref3_Longest_1_j4 (j : Int) x78 b)) := by
          intro self_
          unfold tourref3_Longest_1_l3
          rw [cnd_dec, if_pos (by omega), cnd_dec, if_pos (by omega)]
        rw [hpre, e1 k' (by omega)]
        simp only [bnd2_some, cnd_dec]
        unfold tourref3_Longest_1_j4
        rw [i64ok (by omega) (by omega)]
        by_cases h : b.length < (lng l j).length
        · rw [if_pos (by omega), if_pos h]; rfl
        · rw [if_neg (by omega), if_neg h]; rfl)]
      exact e2 k' hk'
  obtain ⟨m1, hm1, e1⟩ := hself l.length 0 [] [] (by omega) (fun k v h => by cases h) rfl
  unfold tourref3_Longest tourref3_Longest_1
  have e : fix tourref3_Longest_1_s ((-1 : Int), ([] : List (Int × (List Int))), l) = some (long l, mput m1 (-1) (long l)) := by
    refine fix_of (l.length + 2) fun k' hk' => ?_
    obtain ⟨k, rfl⟩ : ∃ k, k' = k + 1 := ⟨k' - 1, by omega⟩
    show tourref3_Longest_1_b _ (-1) ([] : List (Int × (List Int))) l = _
    unfold tourref3_Longest_1_b
    have hg : mget ([] : List (Int × (List Int))) (-1) = none := rfl
    rw [hg]
    simp only [Option.getD_none, Option.bind_some, Option.isSome_none]
    rw [cnd_false]
    have e3 : loop (σ := (List (Int × (List Int))) × (List Int) × Int) (ρ := (List (Int × (List Int))) × (List Int)) (fun s_ => tourref3_Longest_1_l3 l (-1) (fun i p1_0 p2_0 => fixK tourref3_Longest_1_s k (i, p1_0, p2_0)) s_.1 s_.2.1 s_.2.2) (([] : List (Int × (List Int))), [], IntKind.i64.wrap (-1 + 1)) = _ := e1 k (by omega)
    rw [e3]
    simp only [Option.bind_some]
    unfold tourref3_Longest_1_j1 tourref3_Longest_1_j2
    rw [cnd_dec, if_neg (by omega)]; rfl
  rw [e]; rfl
/-! ### Chain -/
def mxTo (l : List api_System) (i m : Nat) : Nat := (pickL (lng l) (candTo l i m) []).length
theorem mx_succ {l : List api_System} {i j : Nat} : mxTo l i (j + 1) = if i < j ∧ cl l i j = true then max (mxTo l i j) (lng l j).length else mxTo l i j := by
  unfold mxTo
  rw [candTo_succ]
  by_cases h : i < j ∧ cl l i j = true
  · rw [if_pos h, if_pos h]
    unfold pickL
    rw [List.foldl_append]
    simp only [List.foldl_cons, List.foldl_nil]
    split <;> omega
  · rw [if_neg h, if_neg h]
theorem chain_l7 {l : List api_System} (hs : ∀ a ∈ l, sysOK a) (hn : l.length ≤ 24) {i : Nat} (hi : i < l.length) : ∀ (n j : Nat) (rs : List Int), j + n = l.length → i < j → rs.length = l.length → (∀ k, i < k → k < l.length → gd rs k = ((lng l k).length : Int)) → gd rs i = (mxTo l i j : Int) + 1 →
    ∃ rs', loop (σ := (List Int) × Int) (ρ := (List Int)) (fun s_ => plan_Chain_l7 l (i : Int) s_.1 s_.2) (rs, (j : Int)) = some rs' ∧ rs'.length = l.length ∧ ∀ k, i ≤ k → k < l.length → gd rs' k = ((lng l k).length : Int) := by
  intro n
  induction n with
  | zero =>
    intro j rs hj hij hl hk h0
    rw [Nat.add_zero] at hj; subst hj
    refine ⟨rs, loop_inr ?_, hl, fun k h1 h2 => ?_⟩
    · show plan_Chain_l7 l (i : Int) rs (l.length : Int) = _
      unfold plan_Chain_l7
      rw [cnd_dec, if_neg (by omega)]
    · rcases Nat.lt_or_eq_of_le h1 with h | rfl
      · exact hk k h h2
      · rw [h0, lng_eq h2, List.length_cons]; unfold mxTo; omega
  | succ n ih =>
    intro j rs hj hij hl hk h0
    have hjl : j < l.length := by omega
    have hpre : plan_Chain_l7 l (i : Int) rs (j : Int) = cnd (cl l i j) (some (.inl (rs.set i (max (gd rs i) (gd rs j + 1)), ((j + 1 : Nat) : Int)))) (some (.inl (rs, ((j + 1 : Nat) : Int)))) := by
      unfold plan_Chain_l7 plan_Chain_j8
      have hlen := lng_len l _ j (Nat.le_refl _) hjl
      rw [cnd_dec, if_pos (by omega), idx_get hi]
      simp only [Option.bind_some]
      rw [idx_get hjl]
      simp only [Option.bind_some]
      rw [pconf (hs _ (List.getElem_mem hi)) (hs _ (List.getElem_mem hjl)), ← cl_eq hi hjl]
      simp only [Option.bind_some]
      rw [idx_gd (by omega)]
      simp only [Option.bind_some]
      rw [idx_gd (by omega)]
      simp only [Option.bind_some]
      rw [hk j hij hjl, i64ok (x := ((lng l j).length : Int) + 1) (by omega) (by omega), upd_ok (by omega)]
      simp only [Option.bind_some]
      rw [i64ok (by omega) (by omega)]; rfl
    by_cases hc : cl l i j = true
    · rw [cnd_pos hc] at hpre
      rw [loop_inl hpre]
      refine ih (j + 1) _ (by omega) (by omega) (by simp [hl]) (fun k h1 h2 => ?_) ?_
      · rw [gd_set (by omega), if_neg (by omega)]; exact hk k h1 h2
      · rw [gd_set (by omega), if_pos rfl, mx_succ, if_pos ⟨hij, hc⟩, h0, hk j hij hjl]; omega
    · rw [cnd_neg (Bool.eq_false_iff.2 hc)] at hpre
      rw [loop_inl hpre]
      refine ih (j + 1) _ (by omega) (by omega) hl hk ?_
      rw [mx_succ, if_neg (fun h => hc h.2)]; exact h0
theorem chain_l5 {l : List api_System} (hs : ∀ a ∈ l, sysOK a) (hn : l.length ≤ 24) : ∀ (i : Nat) (rs : List Int) (best : Nat), i ≤ l.length → rs.length = l.length → (∀ k, i ≤ k → k < l.length → gd rs k = ((lng l k).length : Int)) → (∀ k, i ≤ k → k < l.length → (lng l k).length ≤ best) → (best = 0 ∨ ∃ k, i ≤ k ∧ k < l.length ∧ best = (lng l k).length) →
    ∃ rs', loop (σ := (List Int) × Int × Int) (ρ := (List Int) × Int) (fun s_ => plan_Chain_l5 l s_.1 s_.2.1 s_.2.2) (rs, (best : Int), (i : Int) - 1) = some (rs', ((long l).length : Int)) ∧ rs'.length = l.length ∧ ∀ k, k < l.length → gd rs' k = ((lng l k).length : Int) := by
  intro i
  induction i with
  | zero =>
    intro rs best hi hl hk hb1 hb2
    refine ⟨rs, loop_inr ?_, hl, fun k h => hk k (Nat.zero_le _) h⟩
    show plan_Chain_l5 l rs (best : Int) (((0 : Nat) : Int) - 1) = _
    unfold plan_Chain_l5
    rw [cnd_dec, if_neg (by omega)]
    have hbl : best = (long l).length := by
      have hg := pick_ge (lng l) (js := List.range l.length) (b := [])
      rcases hb2 with rfl | ⟨k, _, h1, rfl⟩
      · unfold long
        rcases pick_is (lng l) (js := List.range l.length) with e | ⟨j, hj, e⟩
        · rw [e]; rfl
        · have h2 := hb1 j (Nat.zero_le _) (List.mem_range.1 hj)
          rw [e]; omega
      · apply Nat.le_antisymm
        · exact hg.2 k (List.mem_range.2 h1)
        · unfold long
          rcases pick_is (lng l) (js := List.range l.length) with e | ⟨j, hj, e⟩
          · rw [e]; simp
          · rw [e]; exact hb1 j (Nat.zero_le _) (List.mem_range.1 hj)
    rw [hbl]
  | succ i ih =>
    intro rs best hi hl hk hb1 hb2
    have hil : i < l.length := by omega
    have hc0 : candTo l i (i + 1) = [] := by
      rw [List.eq_nil_iff_forall_not_mem]; intro x hx; have := cand_mem.1 hx; omega
    obtain ⟨rs', e, h1, h2⟩ := chain_l7 hs hn hil (l.length - (i + 1)) (i + 1) (rs.set i 1) (by omega) (by omega) (by simp [hl]) (fun k h1 h2 => by rw [gd_set (by omega), if_neg (by omega)]; exact hk k (by omega) h2) (by rw [gd_set (by omega), if_pos rfl]; unfold mxTo; rw [hc0]; rfl)
    have hlen := lng_len l _ i (Nat.le_refl _) hil
    have hbb : best ≤ 24 := by
      rcases hb2 with rfl | ⟨k, _, h3, rfl⟩
      · omega
      · have := lng_len l _ k (Nat.le_refl _) h3; omega
    have hstep : plan_Chain_l5 l rs (best : Int) (((i + 1 : Nat) : Int) - 1) = some (.inl (rs', ((max best (lng l i).length : Nat) : Int), (i : Int) - 1)) := by
      rw [show ((i + 1 : Nat) : Int) - 1 = (i : Int) by omega]
      unfold plan_Chain_l5
      rw [cnd_dec, if_pos (by omega), idx_gd (by omega)]
      simp only [Option.bind_some]
      rw [upd_ok (by omega)]
      simp only [Option.bind_some]
      rw [i64ok (x := (i : Int) + 1) (by omega) (by omega)]
      have e' : loop (σ := (List Int) × Int) (ρ := (List Int)) (fun s_ => plan_Chain_l7 l (i : Int) s_.1 s_.2) (rs.set i 1, (i : Int) + 1) = some rs' := e
      rw [e']
      simp only [Option.bind_some]
      unfold plan_Chain_j6
      rw [idx_gd (by omega)]
      simp only [Option.bind_some]
      rw [h2 i (Nat.le_refl _) hil, i64ok (by omega) (by omega)]
      congr 4
      omega
    rw [loop_inl hstep]
    refine ih rs' _ (by omega) h1 h2 (fun k h3 h4 => ?_) ?_
    · rcases Nat.lt_or_eq_of_le h3 with h | rfl
      · have := hb1 k (by omega) h4; omega
      · omega
    · by_cases hm : best ≤ (lng l i).length
      · exact .inr ⟨i, Nat.le_refl _, hil, by omega⟩
      · rcases hb2 with e0 | ⟨k, h3, h4, h5⟩
        · omega
        · exact .inr ⟨k, by omega, h4, by omega⟩
/-- Where the m-th element of the longest chain comes from. -/
theorem long_at (l : List api_System) : ∀ m, m < (long l).length → ∃ c : Nat, c < l.length ∧ (long l).drop m = lng l c ∧ (m = 0 → lng l c = pickL (lng l) (List.range l.length) []) ∧ (∀ (p : Nat), 0 < m → (long l)[m - 1]? = some (p : Int) → p < c ∧ cl l p c = true ∧ lng l c = pickL (lng l) (candTo l p l.length) []) := by
  intro m
  induction m with
  | zero =>
    intro h
    rcases pick_is (lng l) (js := List.range l.length) with e | ⟨j, hj, e⟩
    · unfold long at h; rw [e] at h; simp at h
    · exact ⟨j, List.mem_range.1 hj, e, fun _ => e.symm, fun p h0 => absurd h0 (Nat.lt_irrefl _)⟩
  | succ m ih =>
    intro h
    obtain ⟨c, hc, e, _, _⟩ := ih (by omega)
    have e2 : (long l).drop (m + 1) = pickL (lng l) (candTo l c l.length) [] := by
      rw [← List.drop_drop, e, lng_eq hc]; rfl
    have hm : (long l)[m]? = some (c : Int) := by
      have := congrArg (·[0]?) e
      simp only [List.getElem?_drop, Nat.add_zero] at this
      rw [this, lng_eq hc]; rfl
    rcases pick_is (lng l) (js := candTo l c l.length) with e3 | ⟨j, hj, e3⟩
    · rw [e3] at e2
      have := congrArg List.length e2
      rw [List.length_drop] at this
      simp at this; omega
    · obtain ⟨h1, h2, h3⟩ := cand_mem.1 hj
      refine ⟨j, h1, by rw [e2, e3], fun h0 => by omega, fun p _ hp => ?_⟩
      rw [Nat.add_sub_cancel, hm] at hp
      have hp' := Option.some.inj hp
      obtain rfl : c = p := by omega
      exact ⟨h2, h3, e3.symm⟩
theorem pick_first {f : Nat → List Int} {js : List Nat} {c x : Nat} (hlt : js.Pairwise (· < ·)) (hinj : ∀ y ∈ js, f y = f c → y = c) (hc : pickL f js [] = f c) (hne : 0 < (f c).length) (hx : x ∈ js) (hl : (f x).length = (f c).length) : c ≤ x := by
  rcases pick_spec f js [] with ⟨h1, _⟩ | ⟨js1, j, js2, h1, h2, _, h4, _⟩
  · rw [h1] at hc; rw [← hc] at hne; simp at hne
  · have hj : j = c := hinj j (by rw [h1]; simp) (by rw [← h2, hc])
    subst hj
    rw [h1] at hx hlt
    rcases List.mem_append.1 hx with hx | hx
    · have := h4 x hx; omega
    · rcases List.mem_cons.1 hx with rfl | hx
      · exact Nat.le_refl _
      · have h5 := (List.pairwise_append.1 hlt).2.1
        exact Nat.le_of_lt ((List.pairwise_cons.1 h5).1 x hx)
theorem lng_inj {l : List api_System} {i j : Nat} (hi : i < l.length) (hj : j < l.length) (h : lng l i = lng l j) : i = j := by
  rw [lng_eq hi, lng_eq hj] at h
  have := (List.cons.inj h).1
  omega
theorem chain_ok {l : List api_System} (hs : ∀ a ∈ l, sysOK a) (hn : l.length ≤ 24) : plan_Chain l = some (long l, 0) := by
  unfold plan_Chain
  rw [cnd_dec, if_neg (by omega), mk_ok (by omega) (by omega)]
  simp only [Option.bind_some, Int.toNat_natCast]
  obtain ⟨rs, e, h1, h2⟩ := chain_l5 hs hn l.length (List.replicate l.length 0) 0 (Nat.le_refl _) (by simp) (fun k h h' => by omega) (fun k h h' => by omega) (.inl rfl)
  rw [i64ok (by omega) (by omega)]
  have e' : loop (σ := (List Int) × Int × Int) (ρ := (List Int) × Int) (fun s_ => plan_Chain_l5 l s_.1 s_.2.1 s_.2.2) (List.replicate l.length 0, 0, (l.length : Int) - 1) = _ := e
  rw [e']
  simp only [Option.bind_some]
  unfold plan_Chain_j1
  have hll := long_len l
  have key : ∀ (n i m : Nat), i + n = l.length → m ≤ (long l).length → (∀ c : Nat, (long l)[m]? = some (c : Int) → i ≤ c) → (∀ c : Nat, 0 < m → (long l)[m - 1]? = some (c : Int) → c < i) →
      loop (σ := (List Int) × Int) (ρ := (List Int)) (fun s_ => plan_Chain_l3 l ((long l).length : Int) rs s_.1 s_.2) ((long l).take m, (i : Int)) = some (long l) := by
    intro n
    induction n with
    | zero =>
      intro i m hi hm hge hlt
      have hmm : m = (long l).length := by
        apply Classical.byContradiction
        intro hne
        obtain ⟨c, hc, e1, _⟩ := long_at l m (by omega)
        have : (long l)[m]? = some (c : Int) := by
          have := congrArg (·[0]?) e1
          simp only [List.getElem?_drop, Nat.add_zero] at this
          rw [this, lng_eq hc]; rfl
        have := hge c this
        omega
      subst hmm
      rw [List.take_length]
      refine loop_inr ?_
      show plan_Chain_l3 l ((long l).length : Int) rs (long l) (i : Int) = _
      unfold plan_Chain_l3
      rw [cnd_dec, if_neg (by omega)]
    | succ n ih =>
      intro i m hi hm hge hlt
      have hil : i < l.length := by omega
      have htl : ((long l).take m).length = m := by rw [List.length_take]; omega
      have hno : plan_Chain_j4 (i : Int) ((long l).take m) = some (.inl ((long l).take m, ((i + 1 : Nat) : Int))) := by unfold plan_Chain_j4; rw [i64ok (by omega) (by omega)]; rfl
      by_cases hmb : m < (long l).length
      · obtain ⟨c, hc, e1, hsrc0, hsrc⟩ := long_at l m hmb
        have hcm : (long l)[m]? = some (c : Int) := by
          have := congrArg (·[0]?) e1
          simp only [List.getElem?_drop, Nat.add_zero] at this
          rw [this, lng_eq hc]; rfl
        have hcl : (lng l c).length = (long l).length - m := by rw [← e1, List.length_drop]
        have hic := hge c hcm
        have hyes : app 8 ((long l).take m) [(i : Int)] = some ((long l).take m ++ [(i : Int)]) := app_ok (by rw [htl]; simp only [List.length_cons, List.length_nil]; omega)
        have htk : i = c → (long l).take m ++ [(i : Int)] = (long l).take (m + 1) := fun e => by
          rw [List.take_succ_eq_append_getElem hmb]
          congr 2
          have := (List.getElem?_eq_some_iff.1 hcm).2
          rw [this, e]
        have hgo : i = c → loop (σ := (List Int) × Int) (ρ := (List Int)) (fun s_ => plan_Chain_l3 l ((long l).length : Int) rs s_.1 s_.2) ((long l).take (m + 1), ((i + 1 : Nat) : Int)) = some (long l) := fun e => by
          refine ih (i + 1) (m + 1) (by omega) hmb (fun c' hc' => ?_) (fun c' _ hc' => ?_)
          · have hlt' := (List.getElem?_eq_some_iff.1 hc').1
            obtain ⟨c2, hc2, e2, _, hs2⟩ := long_at l (m + 1) hlt'
            have h3 : (long l)[m + 1]? = some (c2 : Int) := by
              have := congrArg (·[0]?) e2
              simp only [List.getElem?_drop, Nat.add_zero] at this
              rw [this, lng_eq hc2]; rfl
            rw [h3] at hc'
            have := Option.some.inj hc'
            have := (hs2 c (by omega) (by rw [Nat.add_sub_cancel]; exact hcm)).1
            omega
          · rw [Nat.add_sub_cancel, hcm] at hc'
            have := Option.some.inj hc'
            omega
        have hskip : i ≠ c → loop (σ := (List Int) × Int) (ρ := (List Int)) (fun s_ => plan_Chain_l3 l ((long l).length : Int) rs s_.1 s_.2) ((long l).take m, ((i + 1 : Nat) : Int)) = some (long l) := fun e => by
          refine ih (i + 1) m (by omega) hm (fun c' hc' => ?_) (fun c' h0 hc' => ?_)
          · rw [hcm] at hc'; have := Option.some.inj hc'; omega
          · have := hlt c' h0 hc'; omega
        have hri := h2 i hil
        have hlen := lng_len l _ i (Nat.le_refl _) hil
        by_cases hr : (lng l i).length = (long l).length - m
        · by_cases hm0 : m = 0
          · have hci : c ≤ i := by
              refine pick_first (f := lng l) (js := List.range l.length) (List.pairwise_lt_range) (fun y hy h => lng_inj (List.mem_range.1 hy) hc h) (hsrc0 hm0).symm (by omega) (List.mem_range.2 hil) (by omega)
            have hic' : i = c := by omega
            rw [loop_inl (s' := ((long l).take (m + 1), ((i + 1 : Nat) : Int))) (by
              show plan_Chain_l3 l ((long l).length : Int) rs ((long l).take m) (i : Int) = _
              unfold plan_Chain_l3
              rw [cnd_dec, if_pos (by omega), cnd_dec, htl, if_pos (by omega), idx_gd (by omega)]
              simp only [Option.bind_some]
              rw [cnd_beq, hri, i64ok (by omega) (by omega), if_pos (by omega), cnd_beq, if_pos (by omega), hyes]
              simp only [Option.bind_some]
              unfold plan_Chain_j4
              rw [htk hic', i64ok (by omega) (by omega)]; rfl)]
            exact hgo hic'
          · obtain ⟨p, hp⟩ : ∃ p : Nat, (long l)[m - 1]? = some (p : Int) := by
              obtain ⟨p, hp, e2, _⟩ := long_at l (m - 1) (by omega)
              refine ⟨p, ?_⟩
              have := congrArg (·[0]?) e2
              simp only [List.getElem?_drop, Nat.add_zero] at this
              rw [this, lng_eq hp]; rfl
            have hpi := hlt p (by omega) hp
            obtain ⟨hpc, hpcl, hsr⟩ := hsrc p (by omega) hp
            have hpl : p < l.length := by omega
            have hlast : idx ((long l).take m) (IntKind.i64.wrap (((((long l).take m).length : Nat) : Int) - 1)) = some (p : Int) := by
              rw [htl, i64ok (by omega) (by omega), show (m : Int) - 1 = ((m - 1 : Nat) : Int) by omega, idx_nat, List.getElem?_take, if_pos (by omega), hp]
            have hhead : plan_Chain_l3 l ((long l).length : Int) rs ((long l).take m) (i : Int) = cnd (cl l p i) ((app 8 ((long l).take m) ([(i : Int)] : List Int)).bind fun l130 => plan_Chain_j4 (i : Int) l130) (plan_Chain_j4 (i : Int) ((long l).take m)) := by
              unfold plan_Chain_l3
              rw [cnd_dec, if_pos (by omega), cnd_dec, if_pos (by rw [htl]; omega), idx_gd (by omega)]
              simp only [Option.bind_some]
              rw [cnd_beq, hri, i64ok (by rw [htl]; omega) (by rw [htl]; omega), if_pos (by rw [htl]; omega), cnd_beq, if_neg (by rw [htl]; omega), hlast]
              simp only [Option.bind_some]
              rw [idx_get hpl]
              simp only [Option.bind_some]
              rw [idx_get hil]
              simp only [Option.bind_some]
              rw [pconf (hs _ (List.getElem_mem hpl)) (hs _ (List.getElem_mem hil)), ← cl_eq hpl hil]
              rfl
            by_cases hcc : cl l p i = true
            · have hci : c ≤ i := by
                refine pick_first (f := lng l) (js := candTo l p l.length) (List.pairwise_lt_range.sublist List.filter_sublist) (fun y hy h => lng_inj (cand_mem.1 hy).1 hc h) hsr.symm (by omega) (cand_mem.2 ⟨hil, hpi, hcc⟩) (by omega)
              have hic' : i = c := by omega
              rw [loop_inl (s' := ((long l).take (m + 1), ((i + 1 : Nat) : Int))) (by
                show plan_Chain_l3 l ((long l).length : Int) rs ((long l).take m) (i : Int) = _
                rw [hhead, cnd_pos hcc, hyes]
                simp only [Option.bind_some]
                unfold plan_Chain_j4
                rw [htk hic', i64ok (by omega) (by omega)]; rfl)]
              exact hgo hic'
            · have hne : i ≠ c := fun e => hcc (by rw [e]; exact hpcl)
              rw [loop_inl (s' := ((long l).take m, ((i + 1 : Nat) : Int))) (by
                show plan_Chain_l3 l ((long l).length : Int) rs ((long l).take m) (i : Int) = _
                rw [hhead, cnd_neg (Bool.eq_false_iff.2 hcc), hno])]
              exact hskip hne
        · have hne : i ≠ c := fun e => hr (by rw [e]; exact hcl)
          rw [loop_inl (s' := ((long l).take m, ((i + 1 : Nat) : Int))) (by
            show plan_Chain_l3 l ((long l).length : Int) rs ((long l).take m) (i : Int) = _
            unfold plan_Chain_l3
            rw [cnd_dec, if_pos (by omega), cnd_dec, if_pos (by rw [htl]; omega), idx_gd (by omega)]
            simp only [Option.bind_some]
            rw [cnd_beq, hri, i64ok (by rw [htl]; omega) (by rw [htl]; omega), if_neg (by rw [htl]; omega), hno])]
          exact hskip hne
      · have hmm : m = (long l).length := by omega
        rw [loop_inl (s' := ((long l).take m, ((i + 1 : Nat) : Int))) (by
          show plan_Chain_l3 l ((long l).length : Int) rs ((long l).take m) (i : Int) = _
          unfold plan_Chain_l3
          rw [cnd_dec, if_pos (by omega), cnd_dec, if_neg (by rw [htl]; omega), hno])]
        refine ih (i + 1) m (by omega) hm (fun c' hc' => ?_) (fun c' h0 hc' => ?_)
        · have := (List.getElem?_eq_some_iff.1 hc').1; omega
        · have := hlt c' h0 hc'; omega
  have e2 := key l.length 0 0 (by omega) (Nat.zero_le _) (fun c _ => Nat.zero_le _) (fun c h => absurd h (Nat.lt_irrefl _))
  have e3 : loop (σ := (List Int) × Int) (ρ := (List Int)) (fun s_ => plan_Chain_l3 l ((long l).length : Int) rs s_.1 s_.2) (([] : List Int), 0) = some (long l) := e2
  rw [e3]; rfl
theorem chain_big {l : List api_System} (h : 24 < l.length) : plan_Chain l = some ([], 2) := by
  unfold plan_Chain
  rw [cnd_dec, if_pos (by omega)]
/-! ### Its length -/
theorem long_le {l : List api_System} {ds : List Int} (hd : Dep l ds l.length) : ∀ (d i : Nat), l.length - i ≤ d → i < l.length → ∃ k, k < l.length ∧ gd ds i + (lng l i).length ≤ gd ds k + 1 := by
  intro d
  induction d with
  | zero => intro i h hi; omega
  | succ d ih =>
    intro i h hi
    rw [lng_eq hi, List.length_cons]
    rcases pick_is (lng l) (js := candTo l i l.length) with e | ⟨j, hj, e⟩
    · exact ⟨i, hi, by rw [e]; simp⟩
    · obtain ⟨h1, h2, h3⟩ := cand_mem.1 hj
      obtain ⟨k, hk, hle⟩ := ih j (by omega) h1
      have := hd.up j h1 i h2 h3
      exact ⟨k, hk, by rw [e]; omega⟩
theorem long_ge {l : List api_System} {ds : List Int} (hd : Dep l ds l.length) : ∀ (i : Nat), i < l.length → ∃ s, s < l.length ∧ gd ds i + (lng l i).length ≤ (lng l s).length + 1 := by
  intro i
  induction i using Nat.strongRecOn with
  | _ i ih =>
    intro hi
    rcases hd.why i hi with e | ⟨j, hj, hc, e⟩
    · exact ⟨i, hi, by omega⟩
    · obtain ⟨s, hs, hle⟩ := ih j hj (by omega)
      have h1 : (lng l i).length + 1 ≤ (lng l j).length := by
        have := (pick_ge (lng l) (js := candTo l j l.length) (b := [])).2 i (cand_mem.2 ⟨hi, hj, hc⟩)
        rw [lng_eq (i := j) (by omega), List.length_cons]; omega
      exact ⟨s, hs, by omega⟩
theorem long_top {l : List api_System} {ds : List Int} (hd : Dep l ds l.length) : (long l).length = topOf ds l.length := by
  have hg := pick_ge (lng l) (js := List.range l.length) (b := [])
  apply Nat.le_antisymm
  · unfold long
    rcases pick_is (lng l) (js := List.range l.length) with e | ⟨j, hj, e⟩
    · rw [e]; simp
    · obtain ⟨k, hk, hle⟩ := long_le hd _ j (Nat.le_refl _) (List.mem_range.1 hj)
      have := hd.pos j (List.mem_range.1 hj)
      have := topOf_ge ds l.length k hk
      rw [e]; omega
  · rcases topOf_is ds l.length with e | ⟨k, hk, e⟩
    · omega
    · obtain ⟨s, hs, hle⟩ := long_ge hd k hk
      have := hg.2 s (List.mem_range.2 hs)
      have := lng_pos hk
      unfold long; omega
/-! ### The law -/
theorem equal_self {a : List Int} (h : a.length ≤ 1000) : slices_Equal_int_int a a = some true := by
  unfold slices_Equal_int_int
  rw [cnd_not, cnd_beq, if_pos rfl]
  have e := loop_to (step := fun s_ : Int => slices_Equal_int_int_l2 a a s_) (ρ := (Bool ⊕ Unit)) (fun i => (i : Int)) a.length (r := .inr ()) (fun i hi => by
    show slices_Equal_int_int_l2 a a (i : Int) = _
    unfold slices_Equal_int_int_l2
    rw [cnd_dec, if_pos (by omega), idx_get hi]
    simp only [Option.bind_some]
    rw [cnd_not, cnd_beq, if_pos rfl, i64ok (by omega) (by omega)]; rfl) (by
    show slices_Equal_int_int_l2 a a (a.length : Int) = _
    unfold slices_Equal_int_int_l2
    rw [cnd_dec, if_neg (by omega)])
  have e' : loop (σ := Int) (ρ := (Bool ⊕ Unit)) (fun s_ => slices_Equal_int_int_l2 a a s_) 0 = some (.inr ()) := e
  rw [e']; rfl
theorem equalf_self {a : List (List Int)} (h : a.length ≤ 1000) (hr : ∀ r ∈ a, r.length ≤ 1000) : slices_EqualFunc_int_int_int_int a a = some true := by
  unfold slices_EqualFunc_int_int_int_int
  rw [cnd_not, cnd_beq, if_pos rfl]
  have e := loop_to (step := fun s_ : Int => slices_EqualFunc_int_int_int_int_l2 a a s_) (ρ := (Bool ⊕ Unit)) (fun i => (i : Int)) a.length (r := .inr ()) (fun i hi => by
    show slices_EqualFunc_int_int_int_int_l2 a a (i : Int) = _
    unfold slices_EqualFunc_int_int_int_int_l2
    rw [cnd_dec, if_pos (by omega), idx_get hi]
    simp only [Option.bind_some]
    rw [equal_self (hr _ (List.getElem_mem hi))]
    simp only [Option.bind_some]
    rw [cnd_not, cnd_true, i64ok (by omega) (by omega)]; rfl) (by
    show slices_EqualFunc_int_int_int_int_l2 a a (a.length : Int) = _
    unfold slices_EqualFunc_int_int_int_int_l2
    rw [cnd_dec, if_neg (by omega)])
  have e' : loop (σ := Int) (ρ := (Bool ⊕ Unit)) (fun s_ => slices_EqualFunc_int_int_int_int_l2 a a s_) 0 = some (.inr ()) := e
  rw [e']; rfl
theorem law_l6 {l : List api_System} (hs : ∀ a ∈ l, sysOK a) {i : Nat} (hi : i < l.length) : loop (σ := Int) (ρ := (Bool ⊕ Unit)) (fun s_ => tourlaw3_PlanLayers_l6 l (i : Int) s_) 0 = some (.inr ()) := by
  have e := loop_to (step := fun s_ : Int => tourlaw3_PlanLayers_l6 l (i : Int) s_) (ρ := (Bool ⊕ Unit)) (fun j => (j : Int)) (min l.length 30) (r := .inr ()) (fun j hj => by
    show tourlaw3_PlanLayers_l6 l (i : Int) (j : Int) = _
    have hjl : j < l.length := by omega
    unfold tourlaw3_PlanLayers_l6
    rw [cnd_dec, if_pos (by omega), idx_get hi]
    simp only [Option.bind_some]
    rw [idx_get hjl]
    simp only [Option.bind_some]
    rw [pconf (hs _ (List.getElem_mem hi)) (hs _ (List.getElem_mem hjl))]
    simp only [Option.bind_some]
    rw [rconf (hs _ (List.getElem_mem hi)) (hs _ (List.getElem_mem hjl))]
    simp only [Option.bind_some]
    rw [cnd_neg (by simp), i64ok (by omega) (by omega)]; rfl) (by
    show tourlaw3_PlanLayers_l6 l (i : Int) ((min l.length 30 : Nat) : Int) = _
    unfold tourlaw3_PlanLayers_l6
    rw [cnd_dec, if_neg (by omega)])
  exact e
theorem law_l4 {l : List api_System} (hs : ∀ a ∈ l, sysOK a) : loop (σ := Int) (ρ := (Bool ⊕ Unit)) (fun s_ => tourlaw3_PlanLayers_l4 l s_) 0 = some (.inr ()) := by
  have e := loop_to (step := fun s_ : Int => tourlaw3_PlanLayers_l4 l s_) (ρ := (Bool ⊕ Unit)) (fun j => (j : Int)) (min l.length 30) (r := .inr ()) (fun i hi => by
    show tourlaw3_PlanLayers_l4 l (i : Int) = _
    unfold tourlaw3_PlanLayers_l4
    rw [cnd_dec, if_pos (by omega), law_l6 hs (by omega)]
    simp only [Option.bind_some, Sum.elim_inr]
    unfold tourlaw3_PlanLayers_j5
    rw [i64ok (by omega) (by omega)]; rfl) (by
    show tourlaw3_PlanLayers_l4 l ((min l.length 30 : Nat) : Int) = _
    unfold tourlaw3_PlanLayers_l4
    rw [cnd_dec, if_neg (by omega)])
  exact e
theorem sys_ok {a : api_System} (h : ok_api_System a) : sysOK a := by
  obtain ⟨_, _, _, h1, h2, _, _⟩ := h
  have e1 := h1.1; have e2 := h2.1
  exact ⟨by omega, by omega⟩
theorem PlanLayers_true (l : List api_System) (h0 : (okl 160 ok_api_System) l) : tourlaw3_PlanLayers l = some true := by
  have hs : ∀ a ∈ l, sysOK a := fun a ha => sys_ok (h0.2 a ha)
  unfold tourlaw3_PlanLayers
  rw [layered_ok]
  simp only [Option.bind_some]
  rw [cnd_not, cnd_true]
  by_cases hl : 24 < l.length
  · rw [layers_big hl]
    simp only [bnd2_some]
    rw [chain_big hl]
    simp only [bnd2_some]
    rw [law_l4 hs]
    simp only [Option.bind_some, Sum.elim_inr]
    unfold tourlaw3_PlanLayers_j1
    rw [cnd_dec, if_pos (by omega)]
    rfl
  · obtain ⟨ds, hdl, hD, e3⟩ := layers_ok hs (by omega)
    rw [e3]
    simp only [bnd2_some]
    rw [chain_ok hs (by omega)]
    simp only [bnd2_some]
    rw [law_l4 hs]
    simp only [Option.bind_some, Sum.elim_inr]
    unfold tourlaw3_PlanLayers_j1
    have htop : topOf ds l.length ≤ l.length := by
      rcases topOf_is ds l.length with e | ⟨k, hk, e⟩
      · omega
      · have := hD.pos k hk; omega
    rw [cnd_dec, if_neg (by omega), cnd_beq, if_pos rfl, cnd_beq, if_pos rfl, rounds_ok hs (by omega) hD]
    simp only [Option.bind_some]
    rw [equalf_self (by simp [rowsOf]; omega) (fun r hr => by
      obtain ⟨q, _, rfl⟩ := List.mem_map.1 hr
      have := lay_len ds l.length q; omega)]
    simp only [Option.bind_some]
    rw [cnd_true, longest_ok hs (by omega)]
    simp only [Option.bind_some]
    have := long_len l
    rw [equal_self (by omega)]
    simp only [Option.bind_some]
    rw [cnd_true, long_top hD]
    unfold tourlaw3_PlanLayers_j3
    simp [rowsOf]
end Go.Proofs.Ytnnhijlgohlaeaa.P
