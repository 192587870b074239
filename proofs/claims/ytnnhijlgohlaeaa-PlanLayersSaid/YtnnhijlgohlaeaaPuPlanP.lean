/- The plain law of plans: conflicts, depths, layers, right divisions. No condition. -/
import Derived.Test.YtnnhijlgohlaeaaPu
import Derived.Test.YtnnhijlgohlaeaaExMap
import Derived.Test.YtnnhijlgohlaeaaFnP
namespace Go.Proofs.Ytnnhijlgohlaeaa.P
open Go Go.RowKit Go.Proofs.Ytnnhijlgohlaeaa.Sx
set_option linter.unusedVariables false
set_option linter.unusedSimpArgs false
/-! ### Conflicts -/
def hits (x y : List Int) : Bool := x.any fun k => y.any fun z => k == z
def clash (a b : api_System) : Bool := hits a.Writes b.Writes || hits a.Writes b.Reads || hits a.Reads b.Writes
def sysOK (a : api_System) : Prop := a.Reads.length ≤ 140737488355328 ∧ a.Writes.length ≤ 140737488355328
theorem any_isSome {α : Type} {l : List α} {p : α → Bool} : decide (0 ≤ (match l.findIdx? p with | some k => (k : Int) | none => -1)) = l.any p := by
  rw [← List.findIdx?_isSome]
  cases l.findIdx? p with
  | none => rfl
  | some k => simp
theorem index_ints {s : List Int} (v : Int) (h : s.length ≤ 140737488355328) : slices_Index_int_int s v = some (match s.findIdx? (fun x => v == x) with | some k => (k : Int) | none => -1) := by
  have e : loop (σ := Int) (ρ := (Int ⊕ Unit)) (fun s_ => slices_Index_int_int_l2 s v s_) 0 = _ := loop_at s (fun i => (i : Int)) (fun x => v == x) () (fun i hi => by
    show slices_Index_int_int_l2 s v (i : Int) = _
    unfold slices_Index_int_int_l2
    rw [cnd_dec, if_pos (by omega), idx_get hi]
    simp only [Option.bind_some, cnd_ite]
    by_cases hp : (v == s[i]) = true
    · rw [if_pos hp, if_pos hp]
    · rw [if_neg hp, if_neg hp, i64ok (by omega) (by omega)]; rfl) (by
    show slices_Index_int_int_l2 s v (s.length : Int) = _
    unfold slices_Index_int_int_l2
    rw [cnd_dec, if_neg (by omega)])
  unfold slices_Index_int_int
  rw [e]
  cases s.findIdx? (fun x => v == x) <;> rfl
theorem contains_ints {s : List Int} (v : Int) (h : s.length ≤ 140737488355328) : slices_Contains_int_int s v = some (s.any fun x => v == x) := by
  unfold slices_Contains_int_int
  rw [index_ints v h]
  simp only [Option.bind_some]
  rw [any_isSome]
theorem hit_at {x y : List Int} (hx : x.length ≤ 140737488355328) (hy : y.length ≤ 140737488355328) : slices_IndexFunc_int_int x y = some (match x.findIdx? (fun k => y.any fun z => k == z) with | some k => (k : Int) | none => -1) := by
  have e : loop (σ := Int) (ρ := (Int ⊕ Unit)) (fun s_ => slices_IndexFunc_int_int_l2 x y s_) 0 = _ := loop_at x (fun i => (i : Int)) (fun k => y.any fun z => k == z) () (fun i hi => by
    show slices_IndexFunc_int_int_l2 x y (i : Int) = _
    unfold slices_IndexFunc_int_int_l2 plan_Conflict_1_1
    rw [cnd_dec, if_pos (by omega), idx_get hi]
    simp only [Option.bind_some, cnd_ite, contains_ints x[i] hy]
    by_cases hp : (y.any fun z => x[i] == z) = true
    · rw [if_pos hp, if_pos hp]
    · rw [if_neg hp, if_neg hp, i64ok (by omega) (by omega)]; rfl) (by
    show slices_IndexFunc_int_int_l2 x y (x.length : Int) = _
    unfold slices_IndexFunc_int_int_l2
    rw [cnd_dec, if_neg (by omega)])
  unfold slices_IndexFunc_int_int
  rw [e]
  cases x.findIdx? (fun k => y.any fun z => k == z) <;> rfl
theorem hits_eq {x y : List Int} (hx : x.length ≤ 140737488355328) (hy : y.length ≤ 140737488355328) : plan_Conflict_1 x y = some (hits x y) := by
  unfold plan_Conflict_1 slices_ContainsFunc_int_int
  rw [hit_at hx hy]
  simp only [Option.bind_some]
  rw [any_isSome]; rfl
theorem pconf {a b : api_System} (ha : sysOK a) (hb : sysOK b) : plan_Conflict a.Name a.With a.Without a.Reads a.Writes a.Ops a.Spawn b.Name b.With b.Without b.Reads b.Writes b.Ops b.Spawn = some (clash a b) := by
  unfold plan_Conflict plan_Conflict_j1 clash
  rw [hits_eq ha.2 hb.2]
  simp only [Option.bind_some, cnd_ite, hits_eq ha.2 hb.1, hits_eq ha.1 hb.2]
  cases hits a.Writes b.Writes <;> cases hits a.Writes b.Reads <;> simp
theorem hits_iff {x y : List Int} : hits x y = true ↔ ∃ k, k ∈ x ∧ k ∈ y := by
  unfold hits
  simp only [List.any_eq_true, beq_iff_eq]
  constructor
  · rintro ⟨k, hk, z, hz, rfl⟩; exact ⟨k, hk, hz⟩
  · rintro ⟨k, hk, hz⟩; exact ⟨k, hk, k, hz, rfl⟩
theorem hits_symm (x y : List Int) : hits x y = hits y x := by
  rw [Bool.eq_iff_iff, hits_iff, hits_iff]
  exact ⟨fun ⟨k, a, b⟩ => ⟨k, b, a⟩, fun ⟨k, a, b⟩ => ⟨k, b, a⟩⟩
theorem clash_symm (a b : api_System) : clash a b = clash b a := by
  unfold clash
  rw [hits_symm a.Writes b.Writes, hits_symm a.Writes b.Reads, hits_symm a.Reads b.Writes]
  cases hits b.Writes a.Writes <;> cases hits b.Reads a.Writes <;> cases hits b.Writes a.Reads <;> rfl
theorem rclash_l10 {y : List Int} (k : Int) (h : y.length ≤ 140737488355328) : loop (σ := Int) (ρ := (Bool ⊕ Unit)) (fun s_ => tourref3_Clash_l10 y k s_) 0 = some (if (y.any fun z => k == z) = true then .inl true else .inr ()) :=
  loop_any y (fun i => (i : Int)) (fun z => k == z) true () (fun i hi => by
    show tourref3_Clash_l10 y k (i : Int) = _
    unfold tourref3_Clash_l10
    rw [cnd_dec, if_pos (by omega), idx_get hi]
    simp only [Option.bind_some, cnd_ite]
    by_cases hp : (k == y[i]) = true
    · rw [if_pos hp, if_pos hp]
    · rw [if_neg hp, if_neg hp, i64ok (by omega) (by omega)]; rfl) (by
    show tourref3_Clash_l10 y k (y.length : Int) = _
    unfold tourref3_Clash_l10
    rw [cnd_dec, if_neg (by omega)])
theorem rclash_l5 {y : List Int} (k : Int) (h : y.length ≤ 140737488355328) : loop (σ := Int) (ρ := (Bool ⊕ Unit)) (fun s_ => tourref3_Clash_l5 y k s_) 0 = some (if (y.any fun z => k == z) = true then .inl true else .inr ()) :=
  loop_any y (fun i => (i : Int)) (fun z => k == z) true () (fun i hi => by
    show tourref3_Clash_l5 y k (i : Int) = _
    unfold tourref3_Clash_l5
    rw [cnd_dec, if_pos (by omega), idx_get hi]
    simp only [Option.bind_some, cnd_ite]
    by_cases hp : (k == y[i]) = true
    · rw [if_pos hp, if_pos hp]
    · rw [if_neg hp, if_neg hp, i64ok (by omega) (by omega)]; rfl) (by
    show tourref3_Clash_l5 y k (y.length : Int) = _
    unfold tourref3_Clash_l5
    rw [cnd_dec, if_neg (by omega)])
theorem rclash_l8 {r w : List Int} (k : Int) (hr : r.length ≤ 140737488355328) (hw : w.length ≤ 140737488355328) : loop (σ := Int) (ρ := (Bool ⊕ Unit)) (fun s_ => tourref3_Clash_l8 r w k s_) 0 = some (if (([r, w] : List (List Int)).any fun y => y.any fun z => k == z) = true then .inl true else .inr ()) :=
  loop_any ([r, w] : List (List Int)) (fun i => (i : Int)) (fun y => y.any fun z => k == z) true () (fun i hi => by
    show tourref3_Clash_l8 r w k (i : Int) = _
    unfold tourref3_Clash_l8
    have hi2 : i < 2 := hi
    have hl : ([r, w] : List (List Int))[i].length ≤ 140737488355328 := by
      match i, hi2 with
      | 0, _ => exact hr
      | 1, _ => exact hw
    rw [cnd_dec, if_pos (by omega), idx_get hi]
    simp only [Option.bind_some]
    rw [rclash_l10 k hl]
    by_cases hp : (([r, w] : List (List Int))[i].any fun z => k == z) = true
    · rw [if_pos hp, if_pos hp]; rfl
    · rw [if_neg hp, if_neg hp]
      show tourref3_Clash_j9 (i : Int) = _
      unfold tourref3_Clash_j9
      rw [i64ok (by omega) (by omega)]; rfl) (by
    show tourref3_Clash_l8 r w k ((2 : Nat) : Int) = _
    unfold tourref3_Clash_l8
    rw [cnd_dec, if_neg (by simp)])
theorem rclash_l6 {x r w : List Int} (hx : x.length ≤ 140737488355328) (hr : r.length ≤ 140737488355328) (hw : w.length ≤ 140737488355328) : loop (σ := Int) (ρ := (Bool ⊕ Unit)) (fun s_ => tourref3_Clash_l6 x r w s_) 0 = some (if (x.any fun k => ([r, w] : List (List Int)).any fun y => y.any fun z => k == z) = true then .inl true else .inr ()) :=
  loop_any x (fun i => (i : Int)) (fun k => ([r, w] : List (List Int)).any fun y => y.any fun z => k == z) true () (fun i hi => by
    show tourref3_Clash_l6 x r w (i : Int) = _
    unfold tourref3_Clash_l6
    rw [cnd_dec, if_pos (by omega), idx_get hi]
    simp only [Option.bind_some]
    rw [rclash_l8 x[i] hr hw]
    by_cases hp : (([r, w] : List (List Int)).any fun y => y.any fun z => x[i] == z) = true
    · rw [if_pos hp, if_pos hp]; rfl
    · rw [if_neg hp, if_neg hp]
      show tourref3_Clash_j7 (i : Int) = _
      unfold tourref3_Clash_j7
      rw [i64ok (by omega) (by omega)]; rfl) (by
    show tourref3_Clash_l6 x r w (x.length : Int) = _
    unfold tourref3_Clash_l6
    rw [cnd_dec, if_neg (by omega)])
theorem rclash_l3 {x y : List Int} (hx : x.length ≤ 140737488355328) (hy : y.length ≤ 140737488355328) : loop (σ := Int) (ρ := (Bool ⊕ Unit)) (fun s_ => tourref3_Clash_l3 x y s_) 0 = some (if hits x y = true then .inl true else .inr ()) :=
  loop_any x (fun i => (i : Int)) (fun k => y.any fun z => k == z) true () (fun i hi => by
    show tourref3_Clash_l3 x y (i : Int) = _
    unfold tourref3_Clash_l3
    rw [cnd_dec, if_pos (by omega), idx_get hi]
    simp only [Option.bind_some]
    rw [rclash_l5 x[i] hy]
    by_cases hp : (y.any fun z => x[i] == z) = true
    · rw [if_pos hp, if_pos hp]; rfl
    · rw [if_neg hp, if_neg hp]
      show tourref3_Clash_j4 (i : Int) = _
      unfold tourref3_Clash_j4
      rw [i64ok (by omega) (by omega)]; rfl) (by
    show tourref3_Clash_l3 x y (x.length : Int) = _
    unfold tourref3_Clash_l3
    rw [cnd_dec, if_neg (by omega)])
theorem rconf {a b : api_System} (ha : sysOK a) (hb : sysOK b) : tourref3_Clash a.Name a.With a.Without a.Reads a.Writes a.Ops a.Spawn b.Name b.With b.Without b.Reads b.Writes b.Ops b.Spawn = some (clash a b) := by
  unfold tourref3_Clash
  rw [rclash_l6 ha.2 hb.1 hb.2]
  have e : (a.Writes.any fun k => ([b.Reads, b.Writes] : List (List Int)).any fun y => y.any fun z => k == z) = (hits a.Writes b.Writes || hits a.Writes b.Reads) := by
    rw [Bool.eq_iff_iff, Bool.or_eq_true, hits_iff, hits_iff]
    simp only [List.any_eq_true, beq_iff_eq]
    constructor
    · rintro ⟨k, hk, y, hy, z, hz, rfl⟩
      rcases List.mem_cons.1 hy with rfl | hy
      · exact .inr ⟨k, hk, hz⟩
      · obtain rfl := List.mem_singleton.1 hy; exact .inl ⟨k, hk, hz⟩
    · rintro (⟨k, hk, hz⟩ | ⟨k, hk, hz⟩)
      · exact ⟨k, hk, _, by simp, k, hz, rfl⟩
      · exact ⟨k, hk, _, by simp, k, hz, rfl⟩
  rw [e]
  unfold clash
  by_cases h : (hits a.Writes b.Writes || hits a.Writes b.Reads) = true
  · rw [if_pos h, h]; rfl
  · rw [if_neg h]
    show tourref3_Clash_j1 a.Reads b.Writes = _
    unfold tourref3_Clash_j1
    rw [rclash_l3 ha.1 hb.2, Bool.eq_false_iff.2 h, Bool.false_or]
    by_cases h2 : hits a.Reads b.Writes = true
    · rw [if_pos h2, h2]; rfl
    · rw [if_neg h2, Bool.eq_false_iff.2 h2]; rfl
/-! ### Depths -/
def gd (l : List Int) (k : Nat) : Int := l.getD k 0
theorem gd_eq {l : List Int} {k : Nat} (h : k < l.length) : gd l k = l[k] := by simp [gd, List.getD, h]
theorem gd_set {l : List Int} {i : Nat} {v : Int} (hi : i < l.length) (k : Nat) : gd (l.set i v) k = if k = i then v else gd l k := by
  unfold gd List.getD
  rw [List.getElem?_set]
  by_cases h : i = k
  · subst h; simp [hi]
  · have h2 : ¬ k = i := fun e => h e.symm
    simp [h, h2]
theorem idx_gd {l : List Int} {k : Nat} (h : k < l.length) : idx l (k : Int) = some (gd l k) := by rw [idx_get h, gd_eq h]
def cl (l : List api_System) (i j : Nat) : Bool := match l[i]?, l[j]? with | some a, some b => clash a b | _, _ => false
theorem cl_eq {l : List api_System} {i j : Nat} (hi : i < l.length) (hj : j < l.length) : cl l i j = clash l[i] l[j] := by unfold cl; rw [List.getElem?_eq_getElem hi, List.getElem?_eq_getElem hj]
theorem cl_symm (l : List api_System) (i j : Nat) : cl l i j = cl l j i := by
  unfold cl
  cases l[i]? <;> cases l[j]? <;> first | rfl | exact clash_symm _ _
/-- The depths of the first i systems. -/
structure Dep (l : List api_System) (ds : List Int) (i : Nat) : Prop where
  pos : ∀ k, k < i → 1 ≤ gd ds k ∧ gd ds k ≤ (k : Int) + 1
  up : ∀ k, k < i → ∀ j, j < k → cl l j k = true → gd ds j + 1 ≤ gd ds k
  why : ∀ k, k < i → gd ds k = 1 ∨ ∃ j, j < k ∧ cl l j k = true ∧ gd ds k = gd ds j + 1
theorem Dep.congr {l : List api_System} {ds ds' : List Int} {i : Nat} (h : Dep l ds i) (he : ∀ k, k < i → gd ds' k = gd ds k) : Dep l ds' i := by
  refine ⟨fun k hk => by rw [he k hk]; exact h.pos k hk, fun k hk j hj hc => by rw [he k hk, he j (by omega)]; exact h.up k hk j hj hc, fun k hk => ?_⟩
  rcases h.why k hk with e | ⟨j, hj, hc, e⟩
  · exact .inl (by rw [he k hk]; exact e)
  · exact .inr ⟨j, hj, hc, by rw [he k hk, he j (by omega)]; exact e⟩
theorem depths_l4 {l : List api_System} (hs : ∀ a ∈ l, sysOK a) {i : Nat} (hi : i < l.length) (hn : l.length ≤ 1048576) {ds : List Int} (hl : ds.length = l.length) (hd : Dep l ds i) (h1 : gd ds i = 1) :
    ∃ ds', loop (σ := (List Int) × Int) (ρ := (List Int)) (fun s_ => plan_depths_l4 (i : Int) l s_.1 s_.2) (ds, 0) = some ds' ∧ ds'.length = l.length ∧ Dep l ds' (i + 1) := by
  have := loop_inv (step := fun s_ : (List Int) × Int => plan_depths_l4 (i : Int) l s_.1 s_.2) (ρ := List Int)
    (fun s => ∃ j : Nat, s.2 = (j : Int) ∧ j ≤ i ∧ s.1.length = l.length ∧ Dep l s.1 i ∧ (1 ≤ gd s.1 i ∧ gd s.1 i ≤ (i : Int) + 1) ∧ (∀ j', j' < j → cl l j' i = true → gd s.1 j' + 1 ≤ gd s.1 i) ∧ (gd s.1 i = 1 ∨ ∃ j', j' < i ∧ cl l j' i = true ∧ gd s.1 i = gd s.1 j' + 1))
    (fun s => i - s.2.toNat) (fun ds' => ds'.length = l.length ∧ Dep l ds' (i + 1)) ?_ (s := (ds, 0)) ⟨0, rfl, Nat.zero_le _, hl, hd, ⟨by show 1 ≤ gd ds i; omega, by show gd ds i ≤ _; omega⟩, fun j' h => absurd h (Nat.not_lt_zero _), .inl h1⟩
  · obtain ⟨r, hr, h2, h3⟩ := this; exact ⟨r, hr, h2, h3⟩
  · rintro ⟨out, _⟩ ⟨j, rfl, hj, ho, hD, hb, hu, hw⟩
    simp only at ho hD hb hu hw ⊢
    unfold plan_depths_l4
    by_cases hji : j < i
    · have hjl : j < l.length := by omega
      rw [cnd_dec, if_pos (by omega), idx_get hjl]
      simp only [Option.bind_some]
      rw [idx_get hi]
      simp only [Option.bind_some]
      rw [pconf (hs _ (List.getElem_mem hjl)) (hs _ (List.getElem_mem hi)), ← cl_eq hjl hi]
      simp only [Option.bind_some, cnd_ite]
      have hjb := hD.pos j hji
      by_cases hc : cl l j i = true
      · rw [if_pos hc, idx_gd (by omega)]
        simp only [Option.bind_some]
        rw [idx_gd (by omega)]
        simp only [Option.bind_some]
        rw [upd_ok (by omega)]
        simp only [Option.bind_some]
        unfold plan_depths_j5
        rw [i64ok (x := gd out j + 1) (by omega) (by omega), i64ok (x := (j : Int) + 1) (by omega) (by omega)]
        refine ⟨_, rfl, ⟨j + 1, rfl, hji, by simp [ho], ?_, ?_, ?_, ?_⟩, ?_⟩
        · refine hD.congr fun k hk => ?_
          rw [gd_set (by omega), if_neg (by omega)]
        · rw [gd_set (by omega), if_pos rfl]; omega
        · intro j' hj' hc'
          rw [gd_set (by omega), if_neg (by omega), gd_set (by omega), if_pos rfl]
          rcases Nat.lt_or_eq_of_le (Nat.le_of_lt_succ hj') with h | rfl
          · have := hu j' h hc'; omega
          · omega
        · rw [gd_set (by omega), if_pos rfl]
          rcases Int.le_total (gd out i) (gd out j + 1) with h | h
          · exact .inr ⟨j, hji, hc, by rw [gd_set (by omega), if_neg (by omega)]; omega⟩
          · rcases hw with e | ⟨j', h1', h2', h3'⟩
            · exact .inl (by omega)
            · exact .inr ⟨j', h1', h2', by rw [gd_set (by omega), if_neg (by omega)]; omega⟩
        · simp only [Int.toNat_natCast]; omega
      · rw [if_neg hc]
        unfold plan_depths_j5
        rw [i64ok (x := (j : Int) + 1) (by omega) (by omega)]
        refine ⟨_, rfl, ⟨j + 1, rfl, hji, ho, hD, hb, fun j' hj' hc' => ?_, hw⟩, ?_⟩
        · rcases Nat.lt_or_eq_of_le (Nat.le_of_lt_succ hj') with h | rfl
          · exact hu j' h hc'
          · exact absurd hc' hc
        · simp only [Int.toNat_natCast]; omega
    · obtain rfl : j = i := by omega
      rw [cnd_dec, if_neg (by omega)]
      refine ⟨_, rfl, ho, ?_⟩
      refine ⟨fun k hk => ?_, fun k hk => ?_, fun k hk => ?_⟩ <;> rcases Nat.lt_or_eq_of_le (Nat.le_of_lt_succ hk) with h | rfl
      · exact hD.pos k h
      · exact hb
      · exact hD.up k h
      · exact hu
      · exact hD.why k h
      · exact hw
theorem depths_ok {l : List api_System} (hs : ∀ a ∈ l, sysOK a) (hn : l.length ≤ 1048576) : ∃ ds, plan_depths l = some ds ∧ ds.length = l.length ∧ Dep l ds l.length := by
  unfold plan_depths
  rw [mk_ok (by omega) (by omega)]
  simp only [Option.bind_some, Int.toNat_natCast]
  have := loop_inv (step := fun s_ : (List Int) × Int => plan_depths_l2 l s_.1 s_.2) (ρ := List Int)
    (fun s => ∃ i : Nat, s.2 = (i : Int) ∧ i ≤ l.length ∧ s.1.length = l.length ∧ Dep l s.1 i) (fun s => l.length - s.2.toNat) (fun ds' => ds'.length = l.length ∧ Dep l ds' l.length) ?_ (s := (List.replicate l.length 0, 0))
    ⟨0, rfl, Nat.zero_le _, by simp, ⟨fun k h => absurd h (Nat.not_lt_zero _), fun k h => absurd h (Nat.not_lt_zero _), fun k h => absurd h (Nat.not_lt_zero _)⟩⟩
  · obtain ⟨r, hr, h2, h3⟩ := this
    refine ⟨r, ?_, h2, h3⟩
    rw [hr]; rfl
  · rintro ⟨out, _⟩ ⟨i, rfl, hi, ho, hD⟩
    simp only at ho hD ⊢
    unfold plan_depths_l2
    by_cases hil : i < l.length
    · rw [cnd_dec, if_pos (by omega), idx_gd (by omega)]
      simp only [Option.bind_some]
      rw [upd_ok (by omega)]
      simp only [Option.bind_some]
      obtain ⟨ds', e, h2, h3⟩ := depths_l4 hs hil hn (ds := out.set i 1) (by simp [ho]) (hD.congr fun k hk => by rw [gd_set (by omega), if_neg (by omega)]) (by rw [gd_set (by omega), if_pos rfl])
      rw [e]
      simp only [Option.bind_some]
      unfold plan_depths_j3
      rw [i64ok (by omega) (by omega)]
      exact ⟨_, rfl, ⟨i + 1, rfl, hil, h2, h3⟩, by simp only [Int.toNat_natCast]; omega⟩
    · obtain rfl : i = l.length := by omega
      rw [cnd_dec, if_neg (by omega)]
      exact ⟨_, rfl, ho, hD⟩
/-! ### Layers -/
def lay (ds : List Int) (i r : Nat) : List Int := ((List.range i).filter fun k => decide (gd ds k = (r : Int) + 1)).map fun k : Nat => (k : Int)
def rowsOf (ds : List Int) (i m : Nat) : List (List Int) := (List.range m).map (lay ds i)
theorem lay_mem {ds : List Int} {i r : Nat} {x : Int} : x ∈ lay ds i r ↔ ∃ k : Nat, x = (k : Int) ∧ k < i ∧ gd ds k = (r : Int) + 1 := by
  unfold lay
  simp only [List.mem_map, List.mem_filter, List.mem_range, decide_eq_true_eq]
  exact ⟨fun ⟨k, ⟨h1, h2⟩, h3⟩ => ⟨k, h3.symm, h1, h2⟩, fun ⟨k, h3, h1, h2⟩ => ⟨k, ⟨h1, h2⟩, h3.symm⟩⟩
theorem lay_len (ds : List Int) (i r : Nat) : (lay ds i r).length ≤ i := by
  unfold lay
  rw [List.length_map]
  have := List.length_filter_le (fun k => decide (gd ds k = (r : Int) + 1)) (List.range i)
  rwa [List.length_range] at this
theorem lay_succ (ds : List Int) (i r : Nat) : lay ds (i + 1) r = if gd ds i = (r : Int) + 1 then lay ds i r ++ [(i : Int)] else lay ds i r := by
  unfold lay
  rw [List.range_succ, List.filter_append, List.map_append]
  by_cases h : gd ds i = (r : Int) + 1
  · rw [if_pos h]; simp [h]
  · rw [if_neg h]; simp [h]
theorem lay_high {ds : List Int} {i r m : Nat} (h : ∀ k, k < i → gd ds k ≤ (m : Int)) (hr : m ≤ r) : lay ds i r = [] := by
  rw [List.eq_nil_iff_forall_not_mem]
  intro x hx
  obtain ⟨k, _, h1, h2⟩ := lay_mem.1 hx
  have := h k h1
  omega
theorem rows_grow {ds : List Int} {i m : Nat} (h : ∀ k, k < i → gd ds k ≤ (m : Int)) : rowsOf ds i (m + 1) = rowsOf ds i m ++ [[]] := by
  unfold rowsOf
  rw [List.range_succ, List.map_append, List.map_cons, List.map_nil, lay_high h (Nat.le_refl _)]
theorem layers_l4 {ds : List Int} {i d : Nat} (hd : d ≤ 1000000) : ∀ (n m : Nat), m + n = max m d → (∀ k, k < i → gd ds k ≤ (m : Int)) →
    loop (σ := (List (List Int))) (ρ := (List (List Int))) (fun s_ => plan_Layers_l4 (d : Int) s_) (rowsOf ds i m) = some (rowsOf ds i (max m d)) := by
  intro n
  induction n with
  | zero =>
    intro m hm h
    rw [loop_inr (r := rowsOf ds i m) (by
      unfold plan_Layers_l4
      have hl : (rowsOf ds i m).length = m := by simp [rowsOf]
      rw [cnd_dec, if_neg (by rw [hl]; omega)]), ← hm, Nat.add_zero]
  | succ n ih =>
    intro m hm h
    have hl : (rowsOf ds i m).length = m := by simp [rowsOf]
    rw [loop_inl (s' := rowsOf ds i (m + 1)) (by
      unfold plan_Layers_l4
      rw [cnd_dec, if_pos (by rw [hl]; omega), app_ok (by rw [hl]; simp only [List.length_cons, List.length_nil]; omega), rows_grow h]; rfl), ih (m + 1) (by omega) (fun k hk => by have := h k hk; omega)]
    congr 2
    omega
def topOf (ds : List Int) (i : Nat) : Nat := (List.range i).foldl (fun m k => max m (gd ds k).toNat) 0
theorem topOf_succ (ds : List Int) (i : Nat) : topOf ds (i + 1) = max (topOf ds i) (gd ds i).toNat := by
  unfold topOf; rw [List.range_succ, List.foldl_append]; rfl
theorem topOf_ge (ds : List Int) : ∀ (i k : Nat), k < i → gd ds k ≤ (topOf ds i : Int) := by
  intro i
  induction i with
  | zero => intro k h; omega
  | succ i ih =>
    intro k h
    rw [topOf_succ]
    rcases Nat.lt_or_eq_of_le (Nat.le_of_lt_succ h) with h | rfl
    · have := ih k h; omega
    · omega
theorem topOf_is (ds : List Int) : ∀ (i : Nat), topOf ds i = 0 ∨ ∃ k, k < i ∧ gd ds k = (topOf ds i : Int) := by
  intro i
  induction i with
  | zero => exact .inl rfl
  | succ i ih =>
    rw [topOf_succ]
    by_cases h : (gd ds i).toNat ≤ topOf ds i
    · rw [Nat.max_eq_left h]
      rcases ih with e | ⟨k, hk, e⟩
      · exact .inl e
      · exact .inr ⟨k, by omega, e⟩
    · rw [Nat.max_eq_right (by omega)]
      exact .inr ⟨i, by omega, by omega⟩
theorem rows_set {ds : List Int} {i m : Nat} (h1 : 1 ≤ gd ds i) (h2 : gd ds i ≤ (m : Int)) : (rowsOf ds i m).set ((gd ds i).toNat - 1) (lay ds i ((gd ds i).toNat - 1) ++ [(i : Int)]) = rowsOf ds (i + 1) m := by
  apply List.ext_getElem
  · simp [rowsOf]
  · intro r ha hb
    have hr : r < m := by simpa [rowsOf] using hb
    rw [List.getElem_set]
    simp only [rowsOf, List.getElem_map, List.getElem_range]
    rw [lay_succ]
    by_cases e : (gd ds i).toNat - 1 = r
    · rw [if_pos e, if_pos (by omega), e]
    · rw [if_neg e, if_neg (by omega)]
theorem layers_ok {l : List api_System} (hs : ∀ a ∈ l, sysOK a) (hn : l.length ≤ 24) : ∃ ds, ds.length = l.length ∧ Dep l ds l.length ∧ plan_Layers l = some (rowsOf ds l.length (topOf ds l.length), 0) := by
  obtain ⟨ds, e, h1, h2⟩ := depths_ok hs (by omega)
  refine ⟨ds, h1, h2, ?_⟩
  unfold plan_Layers
  rw [cnd_dec, if_neg (by omega), e]
  simp only [Option.bind_some]
  have e2 : loop (σ := (List (List Int)) × Int) (ρ := (List (List Int))) (fun s_ => plan_Layers_l2 ds s_.1 s_.2) (([] : List (List Int)), 0) = some (rowsOf ds l.length (topOf ds l.length)) := by
    have e3 := loop_to (step := fun s_ : (List (List Int)) × Int => plan_Layers_l2 ds s_.1 s_.2) (fun i => (rowsOf ds i (topOf ds i), (i : Int))) l.length (r := rowsOf ds l.length (topOf ds l.length)) (fun i hi => by
      show plan_Layers_l2 ds (rowsOf ds i (topOf ds i)) (i : Int) = _
      have hp := h2.pos i hi
      unfold plan_Layers_l2
      rw [cnd_dec, if_pos (by omega), idx_gd (by omega)]
      simp only [Option.bind_some]
      obtain ⟨d, hd⟩ : ∃ d : Nat, gd ds i = (d : Int) := ⟨(gd ds i).toNat, by omega⟩
      have ht := topOf_succ ds i
      rw [hd, Int.toNat_natCast] at ht
      rw [hd, layers_l4 (by omega) (max (topOf ds i) d - topOf ds i) (topOf ds i) (by omega) (topOf_ge ds i), ← ht]
      simp only [Option.bind_some]
      unfold plan_Layers_j3
      have hlen : (rowsOf ds i (topOf ds (i + 1))).length = topOf ds (i + 1) := by simp [rowsOf]
      rw [i64ok (x := (d : Int) - 1) (by omega) (by omega), show (d : Int) - 1 = ((d - 1 : Nat) : Int) by omega, idx_get (by rw [hlen]; omega)]
      simp only [Option.bind_some]
      have hrow : (rowsOf ds i (topOf ds (i + 1)))[d - 1]'(by rw [hlen]; omega) = lay ds i (d - 1) := by simp [rowsOf]
      have hll := lay_len ds i (d - 1)
      rw [hrow, app_ok (by simp only [List.length_cons, List.length_nil]; omega)]
      simp only [Option.bind_some]
      rw [upd_ok (by rw [hlen]; omega)]
      simp only [Option.bind_some]
      have hset := rows_set (ds := ds) (i := i) (m := topOf ds (i + 1)) (by omega) (by omega)
      rw [hd, Int.toNat_natCast] at hset
      rw [hset, i64ok (by omega) (by omega)]; rfl) (by
      show plan_Layers_l2 ds (rowsOf ds l.length (topOf ds l.length)) (l.length : Int) = _
      unfold plan_Layers_l2
      rw [cnd_dec, if_neg (by omega)])
    exact e3
  rw [e2]; rfl
theorem layers_big {l : List api_System} (h : 24 < l.length) : plan_Layers l = some ([], 2) := by
  unfold plan_Layers
  rw [cnd_dec, if_pos (by omega)]
theorem layered_ok : tourlaw3_layered = some true := by
  unfold tourlaw3_layered tourlaw3_older
  simp only [bnd2_some]
  have h0 : ∀ a ∈ ([(api_System.mk (⟨#[111, 108, 100, 101, 114]⟩) [0] [] [] [0] [(api_Op.mk 1 (api_Ref.mk 0 0) (api_Arg.mk true 0 (api_Ref.mk 0 0)) (api_Arg.mk false 1 (api_Ref.mk 0 0))), (api_Op.mk 12 (api_Ref.mk 0 0) (api_Arg.mk false 1 (api_Ref.mk 0 0)) (api_Arg.mk true 0 (api_Ref.mk 0 0)))] []), (api_System.mk (⟨#[111, 108, 100, 101, 114]⟩) [0] [] [] [0] [(api_Op.mk 1 (api_Ref.mk 0 0) (api_Arg.mk true 0 (api_Ref.mk 0 0)) (api_Arg.mk false 1 (api_Ref.mk 0 0))), (api_Op.mk 12 (api_Ref.mk 0 0) (api_Arg.mk false 1 (api_Ref.mk 0 0)) (api_Arg.mk true 0 (api_Ref.mk 0 0)))] [])] : List api_System), sysOK a := by
    intro a ha
    simp only [List.mem_cons, List.not_mem_nil, or_false, or_self] at ha
    subst ha
    exact ⟨by simp, by simp⟩
  obtain ⟨ds, h1, h2, e⟩ := layers_ok h0 (by simp)
  rw [e]
  simp only [bnd2_some, List.length_cons, List.length_nil]
  have p0 := h2.pos 0 (by simp)
  have p1 := h2.pos 1 (by simp)
  have u := h2.up 1 (by simp) 0 (by simp) (by decide)
  have ht : topOf ds 2 = 2 := by
    rw [topOf_succ, topOf_succ]
    show max (max 0 (gd ds 0).toNat) (gd ds 1).toNat = 2
    omega
  rw [show (0 + 1 + 1 : Nat) = 2 from rfl, ht]
  simp [cnd, rowsOf, tourlaw3_layered_j1]
end Go.Proofs.Ytnnhijlgohlaeaa.P
