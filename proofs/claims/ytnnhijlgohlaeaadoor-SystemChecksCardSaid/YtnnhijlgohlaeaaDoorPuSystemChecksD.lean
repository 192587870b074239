/- SystemChecks: the plain law. No condition. -/
import Derived.Test.YtnnhijlgohlaeaaDoorPuSys2D
namespace Go.Proofs.YtnnhijlgohlaeaaDoor.D
open Go Go.RowKit Go.Proofs.YtnnhijlgohlaeaaDoor.Sx Classical
set_option linter.unusedVariables false
set_option linter.unusedSimpArgs false
/-! ### Operations -/
def setsB (d : Int) : Bool := decide (0 ≤ d ∧ d ≤ 7)
def twoB (d : Int) : Bool := decide (1 ≤ d ∧ d ≤ 6 ∨ d = 12)
def kindB (d : Int) : Bool := decide (d = 8 ∨ d = 9)
theorem ksetsop (d : Int) : system_sets d = some (setsB d) := by
  unfold system_sets system_sets_j1 setsB
  rw [cnd_dec]
  by_cases h : 0 ≤ d
  · rw [if_pos h]; simp [h]
  · rw [if_neg h]; simp [h]
theorem ktwo (d : Int) : system_two d = some (twoB d) := by
  unfold system_two system_two_j1 twoB
  rw [cnd_dec, cnd_dec]
  by_cases h : 1 ≤ d
  · rw [if_pos h]
    by_cases h2 : d ≤ 6
    · rw [if_pos h2]; simp [h, h2]
    · rw [if_neg h2]
      congr 1
      rw [show ∀ a b : Int, (a == b) = decide (a = b) from fun _ _ => rfl]
      apply decide_eq_decide.2; omega
  · rw [if_neg h]
    congr 1
    rw [show ∀ a b : Int, (a == b) = decide (a = b) from fun _ _ => rfl]
    apply decide_eq_decide.2; omega
theorem ruses {d : Int} (h0 : 0 ≤ d) (h1 : d ≤ 12) : tourref3_uses d = some (setsB d, kindB d, twoB d) := by
  have : d = 0 ∨ d = 1 ∨ d = 2 ∨ d = 3 ∨ d = 4 ∨ d = 5 ∨ d = 6 ∨ d = 7 ∨ d = 8 ∨ d = 9 ∨ d = 10 ∨ d = 11 ∨ d = 12 := by omega
  rcases this with h | h | h | h | h | h | h | h | h | h | h | h | h <;> subst h <;> rfl
def there (k : List api_Kind) (r : api_Ref) : Bool := decide (0 ≤ r.Kind ∧ r.Kind < (k.length : Int) ∧ 0 ≤ r.Field) && (match k[r.Kind.toNat]? with | some x => decide (r.Field < (x.Fields.length : Int)) | none => false)
theorem there_kind {k : List api_Kind} {r : api_Ref} (h : there k r = true) : 0 ≤ r.Kind ∧ r.Kind < (k.length : Int) := by
  unfold there at h
  simp only [Bool.and_eq_true, decide_eq_true_eq] at h
  exact ⟨h.1.1, h.1.2.1⟩
theorem kthere (k : List api_Kind) (a b : Int) : system_isField k a b = some (there k (api_Ref.mk a b)) := by
  unfold system_isField system_isField_j1 there
  simp only [cnd_dec]
  by_cases h1 : 0 ≤ a
  · rw [if_pos h1]
    by_cases h2 : a < (k.length : Int)
    · rw [if_pos h2]
      have hl : a.toNat < k.length := by omega
      have hidx : idx k a = some k[a.toNat] := by
        have := idx_get (l := k) hl
        rwa [Int.toNat_of_nonneg (by omega)] at this
      by_cases h3 : 0 ≤ b
      · rw [if_pos h3, hidx, List.getElem?_eq_getElem hl]
        simp [h1, h2, h3]
      · rw [if_neg h3]; simp [h3]
    · rw [if_neg h2]; simp [h2]
  · rw [if_neg h1]; simp [h1]
theorem rthere (k : List api_Kind) (a b : Int) : tourref3_opError_1 a b k = some (there k (api_Ref.mk a b)) := by
  rw [← kthere]; rfl
def arg1 (k : List api_Kind) (a : api_Arg) : Bool := if a.Has then !there k a.Ref else (decide (a.N < -1099511627776) || decide (1099511627776 < a.N))
def arg2 (a : api_Arg) : Bool := if a.Has then !(a.N == 0) else !(a.Ref.Kind == 0 && (a.Ref.Field == 0))
def arg3 (rd wr : List Int) (a : api_Arg) : Bool := a.Has && (!decide (a.Ref.Kind ∈ rd) && !decide (a.Ref.Kind ∈ wr))
theorem i1 (i : Nat) (h : i < 2) : IntKind.i64.wrap ((i : Int) + 1) = ((i + 1 : Nat) : Int) := by rw [i64ok (by omega) (by omega)]; rfl
section
variable (k : List api_Kind) (o_3 : Bool) (o_4 o_5 o_6 : Int) (o_7 : Bool) (o_8 o_9 o_10 : Int)
theorem kl12 : loop (σ := Int) (ρ := (Int ⊕ Unit)) (fun s_ => system_op_l12 2 o_3 o_4 o_5 o_6 o_7 o_8 o_9 o_10 k s_) 0 = some (if ([api_Arg.mk o_3 o_4 (api_Ref.mk o_5 o_6), api_Arg.mk o_7 o_8 (api_Ref.mk o_9 o_10)].any (arg1 k)) = true then .inl 1 else .inr ()) := by
  refine loop_any [api_Arg.mk o_3 o_4 (api_Ref.mk o_5 o_6), api_Arg.mk o_7 o_8 (api_Ref.mk o_9 o_10)] (fun i => (i : Int)) (arg1 k) 1 () (fun i hi => ?_) ?_
  · have h2 : i < 2 := hi
    show system_op_l12 2 o_3 o_4 o_5 o_6 o_7 o_8 o_9 o_10 k (i : Int) = _
    unfold system_op_l12 system_op_j13
    rw [cnd_dec, if_pos (by omega), idx_get hi]
    generalize [api_Arg.mk o_3 o_4 (api_Ref.mk o_5 o_6), api_Arg.mk o_7 o_8 (api_Ref.mk o_9 o_10)][i] = a
    simp only [Option.bind_some, i1 i h2, kthere, cnd_not, cnd_dec]
    unfold arg1
    cases a.Has with
    | true => rw [cnd_true]; cases hh : there k (api_Ref.mk a.Ref.Kind a.Ref.Field) <;> simp [hh, cnd_true, cnd_false]
    | false =>
      rw [cnd_false]
      by_cases h1 : a.N < -1099511627776
      · simp [h1]
      · by_cases h3 : 1099511627776 < a.N
        · simp [h1, h3]
        · simp [h1, h3]
  · show system_op_l12 2 o_3 o_4 o_5 o_6 o_7 o_8 o_9 o_10 k ((2 : Nat) : Int) = _
    unfold system_op_l12
    rw [cnd_dec, if_neg (by omega)]
theorem rl11 : loop (σ := Int) (ρ := (Int ⊕ Unit)) (fun s_ => tourref3_opError_l11 2 o_3 o_4 o_5 o_6 o_7 o_8 o_9 o_10 k s_) 0 = some (if ([api_Arg.mk o_3 o_4 (api_Ref.mk o_5 o_6), api_Arg.mk o_7 o_8 (api_Ref.mk o_9 o_10)].any (arg1 k)) = true then .inl 1 else .inr ()) := by
  refine loop_any [api_Arg.mk o_3 o_4 (api_Ref.mk o_5 o_6), api_Arg.mk o_7 o_8 (api_Ref.mk o_9 o_10)] (fun i => (i : Int)) (arg1 k) 1 () (fun i hi => ?_) ?_
  · have h2 : i < 2 := hi
    show tourref3_opError_l11 2 o_3 o_4 o_5 o_6 o_7 o_8 o_9 o_10 k (i : Int) = _
    unfold tourref3_opError_l11 tourref3_opError_j13 tourref3_opError_j12
    rw [cnd_dec, if_pos (by omega), idx_get hi]
    generalize [api_Arg.mk o_3 o_4 (api_Ref.mk o_5 o_6), api_Arg.mk o_7 o_8 (api_Ref.mk o_9 o_10)][i] = a
    simp only [Option.bind_some, i1 i h2, rthere, cnd_not, cnd_dec]
    unfold arg1
    cases a.Has with
    | true => simp only [cnd_true]; cases hh : there k (api_Ref.mk a.Ref.Kind a.Ref.Field) <;> simp [hh, cnd_true, cnd_false]
    | false =>
      simp only [cnd_false]
      by_cases h1 : a.N < -1099511627776
      · by_cases h3 : 1099511627776 < a.N
        · simp [h1, h3]
        · simp [h1, h3]
      · by_cases h3 : 1099511627776 < a.N
        · simp [h1, h3]
        · simp [h1, h3]
  · show tourref3_opError_l11 2 o_3 o_4 o_5 o_6 o_7 o_8 o_9 o_10 k ((2 : Nat) : Int) = _
    unfold tourref3_opError_l11
    rw [cnd_dec, if_neg (by omega)]
theorem kl10 : loop (σ := Int) (ρ := (Int ⊕ Unit)) (fun s_ => system_op_l10 2 o_3 o_4 o_5 o_6 o_7 o_8 o_9 o_10 s_) 0 = some (if ([api_Arg.mk o_3 o_4 (api_Ref.mk o_5 o_6), api_Arg.mk o_7 o_8 (api_Ref.mk o_9 o_10)].any arg2) = true then .inl 3 else .inr ()) := by
  refine loop_any [api_Arg.mk o_3 o_4 (api_Ref.mk o_5 o_6), api_Arg.mk o_7 o_8 (api_Ref.mk o_9 o_10)] (fun i => (i : Int)) arg2 3 () (fun i hi => ?_) ?_
  · have h2 : i < 2 := hi
    show system_op_l10 2 o_3 o_4 o_5 o_6 o_7 o_8 o_9 o_10 (i : Int) = _
    unfold system_op_l10 system_op_j11
    rw [cnd_dec, if_pos (by omega), idx_get hi]
    generalize [api_Arg.mk o_3 o_4 (api_Ref.mk o_5 o_6), api_Arg.mk o_7 o_8 (api_Ref.mk o_9 o_10)][i] = a
    simp only [Option.bind_some, i1 i h2, cnd_ite]
    unfold arg2
    generalize (a.N == 0) = b1
    generalize (a.Ref.Kind == 0 && (a.Ref.Field == 0)) = b2
    cases a.Has <;> cases b1 <;> cases b2 <;> rfl
  · show system_op_l10 2 o_3 o_4 o_5 o_6 o_7 o_8 o_9 o_10 ((2 : Nat) : Int) = _
    unfold system_op_l10
    rw [cnd_dec, if_neg (by omega)]
theorem rl9 : loop (σ := Int) (ρ := (Int ⊕ Unit)) (fun s_ => tourref3_opError_l9 2 o_3 o_4 o_5 o_6 o_7 o_8 o_9 o_10 s_) 0 = some (if ([api_Arg.mk o_3 o_4 (api_Ref.mk o_5 o_6), api_Arg.mk o_7 o_8 (api_Ref.mk o_9 o_10)].any arg2) = true then .inl 3 else .inr ()) := by
  refine loop_any [api_Arg.mk o_3 o_4 (api_Ref.mk o_5 o_6), api_Arg.mk o_7 o_8 (api_Ref.mk o_9 o_10)] (fun i => (i : Int)) arg2 3 () (fun i hi => ?_) ?_
  · have h2 : i < 2 := hi
    show tourref3_opError_l9 2 o_3 o_4 o_5 o_6 o_7 o_8 o_9 o_10 (i : Int) = _
    unfold tourref3_opError_l9 tourref3_opError_j10
    rw [cnd_dec, if_pos (by omega), idx_get hi]
    generalize [api_Arg.mk o_3 o_4 (api_Ref.mk o_5 o_6), api_Arg.mk o_7 o_8 (api_Ref.mk o_9 o_10)][i] = a
    simp only [Option.bind_some, i1 i h2, cnd_ite]
    unfold arg2
    generalize (a.N == 0) = b1
    generalize (a.Ref.Kind == 0 && (a.Ref.Field == 0)) = b2
    cases a.Has <;> cases b1 <;> cases b2 <;> rfl
  · show tourref3_opError_l9 2 o_3 o_4 o_5 o_6 o_7 o_8 o_9 o_10 ((2 : Nat) : Int) = _
    unfold tourref3_opError_l9
    rw [cnd_dec, if_neg (by omega)]
theorem kl8 (rd wr : List Int) (hr : rd.length ≤ 140737488355328) (hw : wr.length ≤ 140737488355328) : loop (σ := Int) (ρ := (Int ⊕ Unit)) (fun s_ => system_op_l8 2 o_3 o_4 o_5 o_6 o_7 o_8 o_9 o_10 rd wr s_) 0 = some (if ([api_Arg.mk o_3 o_4 (api_Ref.mk o_5 o_6), api_Arg.mk o_7 o_8 (api_Ref.mk o_9 o_10)].any (arg3 rd wr)) = true then .inl 8 else .inr ()) := by
  refine loop_any [api_Arg.mk o_3 o_4 (api_Ref.mk o_5 o_6), api_Arg.mk o_7 o_8 (api_Ref.mk o_9 o_10)] (fun i => (i : Int)) (arg3 rd wr) 8 () (fun i hi => ?_) ?_
  · have h2 : i < 2 := hi
    show system_op_l8 2 o_3 o_4 o_5 o_6 o_7 o_8 o_9 o_10 rd wr (i : Int) = _
    unfold system_op_l8 system_op_j9
    rw [cnd_dec, if_pos (by omega), idx_get hi]
    generalize [api_Arg.mk o_3 o_4 (api_Ref.mk o_5 o_6), api_Arg.mk o_7 o_8 (api_Ref.mk o_9 o_10)][i] = a
    simp only [Option.bind_some, i1 i h2, kcontains _ hr, kcontains _ hw]
    unfold arg3
    cases a.Has <;> cases decide (a.Ref.Kind ∈ rd) <;> cases decide (a.Ref.Kind ∈ wr) <;> rfl
  · show system_op_l8 2 o_3 o_4 o_5 o_6 o_7 o_8 o_9 o_10 rd wr ((2 : Nat) : Int) = _
    unfold system_op_l8
    rw [cnd_dec, if_neg (by omega)]
theorem rl7 (has : List (Int × Bool)) (rd wr : List Int) (hk : k.length ≤ 16) (h1 : ([api_Arg.mk o_3 o_4 (api_Ref.mk o_5 o_6), api_Arg.mk o_7 o_8 (api_Ref.mk o_9 o_10)].any (arg1 k)) = false) (hg : ∀ x : Int, 0 ≤ x → x < 16 → (mget has (200 + x)).getD false = decide (x ∈ rd) ∧ (mget has (300 + x)).getD false = decide (x ∈ wr)) : loop (σ := Int) (ρ := (Int ⊕ Unit)) (fun s_ => tourref3_opError_l7 2 o_3 o_4 o_5 o_6 o_7 o_8 o_9 o_10 has s_) 0 = some (if ([api_Arg.mk o_3 o_4 (api_Ref.mk o_5 o_6), api_Arg.mk o_7 o_8 (api_Ref.mk o_9 o_10)].any (arg3 rd wr)) = true then .inl 8 else .inr ()) := by
  refine loop_any [api_Arg.mk o_3 o_4 (api_Ref.mk o_5 o_6), api_Arg.mk o_7 o_8 (api_Ref.mk o_9 o_10)] (fun i => (i : Int)) (arg3 rd wr) 8 () (fun i hi => ?_) ?_
  · have h2 : i < 2 := hi
    have h3 := List.any_eq_false.1 h1 _ (List.getElem_mem hi)
    show tourref3_opError_l7 2 o_3 o_4 o_5 o_6 o_7 o_8 o_9 o_10 has (i : Int) = _
    unfold tourref3_opError_l7 tourref3_opError_j8
    rw [cnd_dec, if_pos (by omega), idx_get hi]
    generalize [api_Arg.mk o_3 o_4 (api_Ref.mk o_5 o_6), api_Arg.mk o_7 o_8 (api_Ref.mk o_9 o_10)][i] = a at h3 ⊢
    simp only [Option.bind_some, i1 i h2]
    unfold arg3
    unfold arg1 at h3
    cases hh : a.Has with
    | false => rfl
    | true =>
      rw [hh] at h3
      have h4 : there k a.Ref = true := by simpa using h3
      obtain ⟨g1, g2⟩ := there_kind h4
      obtain ⟨e1, e2⟩ := hg a.Ref.Kind g1 (by omega)
      rw [i64ok (x := 200 + a.Ref.Kind) (by omega) (by omega), i64ok (x := 300 + a.Ref.Kind) (by omega) (by omega), e1, e2]
      cases decide (a.Ref.Kind ∈ rd) <;> cases decide (a.Ref.Kind ∈ wr) <;> rfl
  · show tourref3_opError_l7 2 o_3 o_4 o_5 o_6 o_7 o_8 o_9 o_10 has ((2 : Nat) : Int) = _
    unfold tourref3_opError_l7
    rw [cnd_dec, if_neg (by omega)]
end
/-- The error of an operation. -/
def opE (k : List api_Kind) (rd wr : List Int) (o : api_Op) : Int :=
  if o.Do < 0 ∨ 12 < o.Do then 1 else
  if ([o.A, o.B].any (arg1 k)) = true then 1 else
  if ([o.A, o.B].any arg2) = true then 3 else
  if (!twoB o.Do && !(o.B.Has == false && (o.B.N == 0 && (o.B.Ref.Kind == 0 && (o.B.Ref.Field == 0))))) = true then 3 else
  if (!setsB o.Do && (!kindB o.Do && !(o.To.Kind == 0 && (o.To.Field == 0)))) = true then 3 else
  if (kindB o.Do && !(o.To.Field == 0)) = true then 3 else
  if (setsB o.Do && !there k o.To) = true then 1 else
  if (kindB o.Do && (decide (o.To.Kind < 0) || decide ((k.length : Int) ≤ o.To.Kind))) = true then 1 else
  if (setsB o.Do && !decide (o.To.Kind ∈ wr)) = true then 8 else
  if ([o.A, o.B].any (arg3 rd wr)) = true then 8 else 0
theorem kop (k : List api_Kind) {rd wr : List Int} (hr : rd.length ≤ 140737488355328) (hw : wr.length ≤ 140737488355328) (n : ByteArray) (a b : List Int) (ops : List api_Op) (sp : List api_Comp) (o : api_Op) : system_op k n a b rd wr ops sp o.Do o.To.Kind o.To.Field o.A.Has o.A.N o.A.Ref.Kind o.A.Ref.Field o.B.Has o.B.N o.B.Ref.Kind o.B.Ref.Field = some (opE k rd wr o) := by
  unfold system_op opE
  by_cases g1 : o.Do < 0
  · rw [cnd_dec, if_pos g1, if_pos (.inl g1)]
  rw [cnd_dec, if_neg g1, cnd_dec]
  by_cases g2 : 12 < o.Do
  · rw [if_pos g2, if_pos (.inr g2)]
  rw [if_neg g2, if_neg (show ¬ (o.Do < 0 ∨ 12 < o.Do) by omega)]
  show (loop (σ := Int) (ρ := (Int ⊕ Unit)) (fun s_ => system_op_l12 2 o.A.Has o.A.N o.A.Ref.Kind o.A.Ref.Field o.B.Has o.B.N o.B.Ref.Kind o.B.Ref.Field k s_) 0).bind _ = _
  rw [kl12]
  by_cases g3 : ([o.A, o.B].any (arg1 k)) = true
  · rw [if_pos g3, if_pos g3]; rfl
  rw [if_neg g3, if_neg g3]
  simp only [Option.bind_some, Sum.elim_inr]
  unfold system_op_j1
  show (loop (σ := Int) (ρ := (Int ⊕ Unit)) (fun s_ => system_op_l10 2 o.A.Has o.A.N o.A.Ref.Kind o.A.Ref.Field o.B.Has o.B.N o.B.Ref.Kind o.B.Ref.Field s_) 0).bind _ = _
  rw [kl10]
  by_cases g4 : ([o.A, o.B].any arg2) = true
  · rw [if_pos g4, if_pos g4]; rfl
  rw [if_neg g4, if_neg g4]
  simp only [Option.bind_some, Sum.elim_inr]
  have hj6 : system_op_j6 o.A.Has o.A.N o.A.Ref.Kind o.A.Ref.Field o.B.Has o.B.N o.B.Ref.Kind o.B.Ref.Field rd wr = some (if ([o.A, o.B].any (arg3 rd wr)) = true then 8 else 0) := by
    unfold system_op_j6
    show (loop (σ := Int) (ρ := (Int ⊕ Unit)) (fun s_ => system_op_l8 2 o.A.Has o.A.N o.A.Ref.Kind o.A.Ref.Field o.B.Has o.B.N o.B.Ref.Kind o.B.Ref.Field rd wr s_) 0).bind _ = _
    rw [kl8 _ _ _ _ _ _ _ _ rd wr hr hw]
    by_cases g5 : ([o.A, o.B].any (arg3 rd wr)) = true
    · rw [if_pos g5, if_pos g5]; rfl
    · rw [if_neg g5, if_neg g5]; rfl
  have hj2 : system_op_j2 o.Do o.B.Has o.B.N o.B.Ref.Kind o.B.Ref.Field o.To.Kind o.To.Field k wr o.A.Has o.A.N o.A.Ref.Kind o.A.Ref.Field rd = system_op_j3 o.Do o.B.Has o.B.N o.B.Ref.Kind o.B.Ref.Field o.To.Kind o.To.Field k wr o.A.Has o.A.N o.A.Ref.Kind o.A.Ref.Field rd (kindB o.Do) := by
    unfold system_op_j2 kindB
    rw [cnd_beq]
    by_cases h8 : o.Do = 8
    · rw [if_pos h8]; simp [h8]
    · rw [if_neg h8]
      congr 1
      rw [show ∀ a b : Int, (a == b) = decide (a = b) from fun _ _ => rfl]
      apply decide_eq_decide.2; omega
  rw [hj2]
  unfold system_op_j3 system_op_j4 system_op_j5
  rw [hj6]
  simp only [ktwo, ksetsop, kthere, kcontains _ hw, Option.bind_some, cnd_not]
  generalize twoB o.Do = tw
  generalize setsB o.Do = se
  generalize kindB o.Do = ki
  generalize (o.B.Has == false && (o.B.N == 0 && (o.B.Ref.Kind == 0 && (o.B.Ref.Field == 0)))) = bz
  generalize (o.To.Kind == 0 && (o.To.Field == 0)) = tz
  generalize (o.To.Field == 0) = fz
  generalize there k (api_Ref.mk o.To.Kind o.To.Field) = th
  generalize decide (o.To.Kind ∈ wr) = hw'
  generalize ([o.A, o.B].any (arg3 rd wr)) = a3
  generalize decide (o.To.Kind < 0) = d1
  generalize decide ((k.length : Int) ≤ o.To.Kind) = d2
  cases tw <;> cases se <;> cases ki <;> cases bz <;> cases tz <;> cases fz <;> cases th <;> cases hw' <;> cases a3 <;> cases d1 <;> cases d2 <;> rfl
theorem rop {k : List api_Kind} (hk : k.length ≤ 16) {has : List (Int × Bool)} {rd wr : List Int} (hg : ∀ x : Int, 0 ≤ x → x < 16 → (mget has (200 + x)).getD false = decide (x ∈ rd) ∧ (mget has (300 + x)).getD false = decide (x ∈ wr)) (o : api_Op) : tourref3_opError k has o.Do o.To.Kind o.To.Field o.A.Has o.A.N o.A.Ref.Kind o.A.Ref.Field o.B.Has o.B.N o.B.Ref.Kind o.B.Ref.Field = some (opE k rd wr o) := by
  unfold tourref3_opError opE
  by_cases g1 : o.Do < 0
  · rw [cnd_dec, if_pos g1, if_pos (.inl g1)]
  rw [cnd_dec, if_neg g1, cnd_dec]
  by_cases g2 : 12 < o.Do
  · rw [if_pos g2, if_pos (.inr g2)]
  rw [if_neg g2, if_neg (show ¬ (o.Do < 0 ∨ 12 < o.Do) by omega), ruses (by omega) (by omega)]
  simp only [bnd3_some]
  show (loop (σ := Int) (ρ := (Int ⊕ Unit)) (fun s_ => tourref3_opError_l11 2 o.A.Has o.A.N o.A.Ref.Kind o.A.Ref.Field o.B.Has o.B.N o.B.Ref.Kind o.B.Ref.Field k s_) 0).bind _ = _
  rw [rl11]
  by_cases g3 : ([o.A, o.B].any (arg1 k)) = true
  · rw [if_pos g3, if_pos g3]; rfl
  rw [if_neg g3, if_neg g3]
  simp only [Option.bind_some, Sum.elim_inr]
  unfold tourref3_opError_j1
  show (loop (σ := Int) (ρ := (Int ⊕ Unit)) (fun s_ => tourref3_opError_l9 2 o.A.Has o.A.N o.A.Ref.Kind o.A.Ref.Field o.B.Has o.B.N o.B.Ref.Kind o.B.Ref.Field s_) 0).bind _ = _
  rw [rl9]
  by_cases g4 : ([o.A, o.B].any arg2) = true
  · rw [if_pos g4, if_pos g4]; rfl
  rw [if_neg g4, if_neg g4]
  simp only [Option.bind_some, Sum.elim_inr]
  have hj5 : tourref3_opError_j5 o.A.Has o.A.N o.A.Ref.Kind o.A.Ref.Field o.B.Has o.B.N o.B.Ref.Kind o.B.Ref.Field has = some (if ([o.A, o.B].any (arg3 rd wr)) = true then 8 else 0) := by
    unfold tourref3_opError_j5
    show (loop (σ := Int) (ρ := (Int ⊕ Unit)) (fun s_ => tourref3_opError_l7 2 o.A.Has o.A.N o.A.Ref.Kind o.A.Ref.Field o.B.Has o.B.N o.B.Ref.Kind o.B.Ref.Field has s_) 0).bind _ = _
    rw [rl7 k _ _ _ _ _ _ _ _ has rd wr hk (Bool.eq_false_iff.2 g3) hg]
    by_cases g5 : ([o.A, o.B].any (arg3 rd wr)) = true
    · rw [if_pos g5, if_pos g5]; rfl
    · rw [if_neg g5, if_neg g5]; rfl
  have hlook : there k (api_Ref.mk o.To.Kind o.To.Field) = true → (mget has (IntKind.i64.wrap (300 + o.To.Kind))).getD false = decide (o.To.Kind ∈ wr) := fun h => by
    have a1 : 0 ≤ o.To.Kind := (there_kind h).1
    have a2 : o.To.Kind < (k.length : Int) := (there_kind h).2
    rw [i64ok (by omega) (by omega)]
    exact (hg o.To.Kind a1 (by omega)).2
  unfold tourref3_opError_j2 tourref3_opError_j3 tourref3_opError_j4
  rw [hj5]
  simp only [rthere, Option.bind_some, cnd_not]
  revert hlook
  generalize (mget has (IntKind.i64.wrap (300 + o.To.Kind))).getD false = lk
  generalize twoB o.Do = tw
  generalize setsB o.Do = se
  generalize kindB o.Do = ki
  generalize (o.B.Has == false && (o.B.N == 0 && (o.B.Ref.Kind == 0 && (o.B.Ref.Field == 0)))) = bz
  generalize (o.To.Kind == 0 && (o.To.Field == 0)) = tz
  generalize (o.To.Field == 0) = fz
  generalize there k (api_Ref.mk o.To.Kind o.To.Field) = th
  generalize decide (o.To.Kind ∈ wr) = hw'
  generalize ([o.A, o.B].any (arg3 rd wr)) = a3
  generalize decide (o.To.Kind < 0) = d1
  generalize decide ((k.length : Int) ≤ o.To.Kind) = d2
  intro hlook
  cases th with
  | false => clear hlook; cases tw <;> cases se <;> cases ki <;> cases bz <;> cases tz <;> cases fz <;> cases hw' <;> cases a3 <;> cases d1 <;> cases d2 <;> rfl
  | true => rw [hlook rfl]; clear hlook; cases tw <;> cases se <;> cases ki <;> cases bz <;> cases tz <;> cases fz <;> cases hw' <;> cases a3 <;> cases d1 <;> cases d2 <;> rfl
/-! ### A system -/
theorem checkV_16 {l : List api_Kind} (h : checkV l = 0) : l.length ≤ 16 := by
  unfold checkV at h
  by_cases h8 : 16 < l.length
  · rw [if_pos h8] at h; cases h
  · omega
def errs {α : Type} (f : α → Int) : List α → Int
  | [] => 0
  | x :: xs => if f x = 0 then errs f xs else f x
theorem loop_errs {α σ υ : Type} {step : σ → Option (σ ⊕ (Int ⊕ υ))} (l : List α) (S : Nat → σ) (f : α → Int) (u : υ) (hs : ∀ i (h : i < l.length), step (S i) = if f l[i] = 0 then some (.inl (S (i + 1))) else some (.inr (.inl (f l[i])))) (he : step (S l.length) = some (.inr (.inr u))) : loop step (S 0) = some (if errs f l = 0 then .inr u else .inl (errs f l)) := by
  have key : ∀ (d i : Nat), i + d = l.length → loop step (S i) = some (if errs f (l.drop i) = 0 then .inr u else .inl (errs f (l.drop i))) := by
    intro d
    induction d with
    | zero => intro i hi; rw [Nat.add_zero] at hi; subst hi; rw [List.drop_length, loop_inr he]; rfl
    | succ d ih =>
      intro i hi
      have hl : i < l.length := by omega
      rw [List.drop_eq_getElem_cons hl, errs]
      by_cases hp : f l[i] = 0
      · rw [loop_inl (by rw [hs i hl, if_pos hp]), ih (i + 1) (by omega), if_pos hp]
      · rw [loop_inr (by rw [hs i hl, if_neg hp]), if_neg hp, if_neg hp]
  exact key l.length 0 (by omega)
noncomputable def sysE (k : List api_Kind) (s : api_System) : Int :=
  if checkV k = 0 then (if nameB s.Name = true then (if 20 < s.Ops.length then 2 else
    if setsE k.length s.With s.Without s.Reads s.Writes = 0 then (if (s.With.any fun v => decide (v ∈ s.Without)) = true then 10 else
      if ((s.Reads ++ s.Writes).any fun v => !decide (v ∈ s.With)) = true then 8 else
      if fitE k [] s.Spawn = 0 then errs (opE k s.Reads s.Writes) s.Ops else fitE k [] s.Spawn)
    else setsE k.length s.With s.Without s.Reads s.Writes) else 3) else checkV k
def sysok (s : api_System) : Prop := oks s.Name ∧ s.With.length ≤ 140737488355328 ∧ s.Without.length ≤ 140737488355328 ∧ s.Reads.length ≤ 140737488355328 ∧ s.Writes.length ≤ 140737488355328 ∧ s.Spawn.length * 32 ≤ 140737488351232
theorem kvalid (k : List api_Kind) {s : api_System} (h : sysok s) : system_Check k s.Name s.With s.Without s.Reads s.Writes s.Ops s.Spawn = some (sysE k s) := by
  obtain ⟨h1, h2, h3, h4, h5, h6⟩ := h
  unfold system_Check sysE
  rw [kcheck]
  simp only [Option.bind_some, cnd_not, cnd_beq]
  by_cases g1 : checkV k = 0
  · rw [if_pos g1, if_pos g1, kname]
    simp only [Option.bind_some, cnd_ite]
    by_cases g2 : nameB s.Name = true
    · rw [if_pos g2, if_pos g2]
      simp only [decide_eq_true_eq]
      by_cases g3 : 20 < s.Ops.length
      · rw [if_pos (by omega), if_pos g3]
      · rw [if_neg (by omega), if_neg g3, ksets k _ _ _ _ h2 h3 h4 h5]
        by_cases g4 : setsE k.length s.With s.Without s.Reads s.Writes = 0
        · rw [if_pos g4, if_pos g4]
          simp only [Option.bind_some, Sum.elim_inr]
          obtain ⟨z1, z2, z3, z4⟩ := setsE_ok g4
          have hkl := checkV_16 g1
          have y3 := setG_len z3 (by omega)
          have y4 := setG_len z4 (by omega)
          unfold system_Check_j1
          rw [kclash h2 h3]
          simp only [Option.bind_some, cnd_ite]
          by_cases g5 : (s.With.any fun v => decide (v ∈ s.Without)) = true
          · rw [if_pos g5, if_pos g5]
          · rw [if_neg g5, if_neg g5]
            have l3 : s.Reads.length ≤ 1000 := by by_cases e : (-1 : Int) < k.length; (have := y3 e; omega); omega
            have l4 : s.Writes.length ≤ 1000 := by by_cases e : (-1 : Int) < k.length; (have := y4 e; omega); omega
            rw [kconcat l3 l4]
            simp only [Option.bind_some]
            rw [kmiss (by rw [List.length_append]; omega) h2]
            simp only [Option.bind_some, cnd_ite]
            by_cases g6 : ((s.Reads ++ s.Writes).any fun v => !decide (v ∈ s.With)) = true
            · rw [if_pos g6, if_pos g6]
            · rw [if_neg g6, if_neg g6]
              obtain ⟨r, hr⟩ := kfitall k h6
              rw [if_pos g1] at hr
              rw [hr]
              simp only [bnd2_some, ← cnd_ite, cnd_not, cnd_beq]
              by_cases g7 : fitE k [] s.Spawn = 0
              · rw [if_pos g7, if_pos g7]
                have e : loop (σ := Int) (ρ := (Int ⊕ Unit)) (fun s_ => system_Check_l3 s.Ops k s.Name s.With s.Without s.Reads s.Writes s.Spawn s_) 0 = _ := loop_errs s.Ops (fun i => (i : Int)) (opE k s.Reads s.Writes) () (fun i hi => by
                  show system_Check_l3 s.Ops k s.Name s.With s.Without s.Reads s.Writes s.Spawn (i : Int) = _
                  unfold system_Check_l3
                  rw [cnd_dec, if_pos (by omega), idx_get hi]
                  simp only [Option.bind_some]
                  rw [kop k h4 h5]
                  simp only [Option.bind_some]
                  rw [cnd_not, cnd_beq, i64ok (by omega) (by omega)]
                  rfl) (by
                  show system_Check_l3 s.Ops k s.Name s.With s.Without s.Reads s.Writes s.Spawn (s.Ops.length : Int) = _
                  unfold system_Check_l3
                  rw [cnd_dec, if_neg (by omega)])
                rw [e]
                by_cases g8 : errs (opE k s.Reads s.Writes) s.Ops = 0
                · rw [if_pos g8, g8]; rfl
                · rw [if_neg g8]; rfl
              · rw [if_neg g7, if_neg g7]
        · rw [if_neg g4, if_neg g4]; rfl
    · rw [if_neg g2, if_neg g2]
  · rw [if_neg g1, if_neg g1]
theorem rvalid {k : List api_Kind} (hk : ∀ i (h : i < k.length), oks k[i].Name ∧ ∀ j (hj : j < k[i].Fields.length), oks k[i].Fields[j].Name) {s : api_System} (h : sysok s) : tourref3_SystemError k s.Name s.With s.Without s.Reads s.Writes s.Ops s.Spawn = some (sysE k s) := by
  obtain ⟨h1, h2, h3, h4, h5, h6⟩ := h
  unfold tourref3_SystemError sysE
  rw [rcheck hk]
  simp only [Option.bind_some, cnd_not, cnd_beq]
  by_cases g1 : checkV k = 0
  · rw [if_pos g1, if_pos g1, rname h1]
    simp only [Option.bind_some, cnd_ite]
    have hkl := checkV_16 g1
    by_cases g2 : nameB s.Name = true
    · rw [if_pos g2, if_pos g2]
      simp only [decide_eq_true_eq]
      by_cases g3 : 20 < s.Ops.length
      · rw [if_pos (by omega), if_pos g3]
      · rw [if_neg (by omega), if_neg g3, rsets k hkl _ _ _ _ h2 h3 h4 h5]
        by_cases g4 : setsE k.length s.With s.Without s.Reads s.Writes = 0
        · rw [if_pos g4, if_pos g4]
          simp only [Option.bind_some, Sum.elim_inr]
          obtain ⟨z1, z2, z3, z4⟩ := setsE_ok g4
          have hget := fun x h0 h1 => hasV_get (n := k.length) (by omega) g4 (x := x) h0 h1
          have in1 : ∀ v ∈ s.With, ∃ i : Nat, i < k.length ∧ v = (i : Int) := fun v hv => ⟨v.toNat, by have := setG_ok z1 v hv; omega, by have := setG_ok z1 v hv; omega⟩
          have in3 : ∀ v ∈ s.Reads ++ s.Writes, ∃ i : Nat, i < k.length ∧ v = (i : Int) := fun v hv => by
            rcases List.mem_append.1 hv with hv | hv
            · exact ⟨v.toNat, by have := setG_ok z3 v hv; omega, by have := setG_ok z3 v hv; omega⟩
            · exact ⟨v.toNat, by have := setG_ok z4 v hv; omega, by have := setG_ok z4 v hv; omega⟩
          generalize hh : hasV s.With s.Without s.Reads s.Writes = has at hget ⊢
          unfold tourref3_SystemError_j1
          have e8 : loop (σ := Int) (ρ := (Int ⊕ Unit)) (fun s_ => tourref3_SystemError_l8 k has s_) 0 = _ := loop_any (List.range k.length) (fun i => (i : Int)) (fun x => decide ((x : Int) ∈ s.With) && decide ((x : Int) ∈ s.Without)) (10 : Int) () (fun i hi => by
            have hi' : i < k.length := by simpa using hi
            obtain ⟨a1, a2, _, _⟩ := hget (i : Int) (by omega) (by omega)
            rw [List.getElem_range]
            show tourref3_SystemError_l8 k has (i : Int) = _
            unfold tourref3_SystemError_l8 tourref3_SystemError_j9
            rw [cnd_dec, if_pos (by omega), i64ok (x := 100 + (i : Int)) (by omega) (by omega), a1, a2, i64ok (by omega) (by omega)]
            cases decide ((i : Int) ∈ s.With) <;> cases decide ((i : Int) ∈ s.Without) <;> rfl) (by
            rw [List.length_range]
            show tourref3_SystemError_l8 k has (k.length : Int) = _
            unfold tourref3_SystemError_l8
            rw [cnd_dec, if_neg (by omega)])
          have q8 : (List.range k.length).any (fun x => decide ((x : Int) ∈ s.With) && decide ((x : Int) ∈ s.Without)) = s.With.any fun v => decide (v ∈ s.Without) := by
            rw [Bool.eq_iff_iff]
            simp only [List.any_eq_true, Bool.and_eq_true, decide_eq_true_eq, List.mem_range]
            constructor
            · rintro ⟨x, _, a, b⟩; exact ⟨x, a, b⟩
            · rintro ⟨v, a, b⟩
              obtain ⟨i, hi, rfl⟩ := in1 v a
              exact ⟨i, hi, a, b⟩
          rw [e8, q8]
          by_cases g5 : (s.With.any fun v => decide (v ∈ s.Without)) = true
          · rw [if_pos g5, if_pos g5]; rfl
          · rw [if_neg g5, if_neg g5]
            simp only [Option.bind_some, Sum.elim_inr]
            unfold tourref3_SystemError_j2
            have e6 : loop (σ := Int) (ρ := (Int ⊕ Unit)) (fun s_ => tourref3_SystemError_l6 k has s_) 0 = _ := loop_any (List.range k.length) (fun i => (i : Int)) (fun x => !decide ((x : Int) ∈ s.With) && (decide ((x : Int) ∈ s.Reads) || decide ((x : Int) ∈ s.Writes))) (8 : Int) () (fun i hi => by
              have hi' : i < k.length := by simpa using hi
              obtain ⟨a1, _, a3, a4⟩ := hget (i : Int) (by omega) (by omega)
              rw [List.getElem_range]
              show tourref3_SystemError_l6 k has (i : Int) = _
              unfold tourref3_SystemError_l6 tourref3_SystemError_j7
              rw [cnd_dec, if_pos (by omega), i64ok (x := 200 + (i : Int)) (by omega) (by omega), i64ok (x := 300 + (i : Int)) (by omega) (by omega), a1, a3, a4, i64ok (by omega) (by omega)]
              cases decide ((i : Int) ∈ s.With) <;> cases decide ((i : Int) ∈ s.Reads) <;> cases decide ((i : Int) ∈ s.Writes) <;> rfl) (by
              rw [List.length_range]
              show tourref3_SystemError_l6 k has (k.length : Int) = _
              unfold tourref3_SystemError_l6
              rw [cnd_dec, if_neg (by omega)])
            have q6 : (List.range k.length).any (fun x => !decide ((x : Int) ∈ s.With) && (decide ((x : Int) ∈ s.Reads) || decide ((x : Int) ∈ s.Writes))) = (s.Reads ++ s.Writes).any fun v => !decide (v ∈ s.With) := by
              rw [Bool.eq_iff_iff]
              simp only [List.any_eq_true, Bool.and_eq_true, Bool.or_eq_true, decide_eq_true_eq, List.mem_range, List.mem_append]
              constructor
              · rintro ⟨x, _, a, b⟩; exact ⟨x, b, a⟩
              · rintro ⟨v, a, b⟩
                obtain ⟨i, hi, rfl⟩ := in3 v (List.mem_append.2 a)
                exact ⟨i, hi, b, a⟩
            rw [e6, q6]
            by_cases g6 : ((s.Reads ++ s.Writes).any fun v => !decide (v ∈ s.With)) = true
            · rw [if_pos g6, if_pos g6]; rfl
            · rw [if_neg g6, if_neg g6]
              simp only [Option.bind_some, Sum.elim_inr]
              unfold tourref3_SystemError_j3
              obtain ⟨r, hr⟩ := rfitall hk h6
              rw [hr]
              simp only [bnd2_some, cnd_not, cnd_beq]
              by_cases g7 : fitE k [] s.Spawn = 0
              · rw [if_pos g7, if_pos g7]
                have e : loop (σ := Int) (ρ := (Int ⊕ Unit)) (fun s_ => tourref3_SystemError_l5 s.Ops k has s_) 0 = _ := loop_errs s.Ops (fun i => (i : Int)) (opE k s.Reads s.Writes) () (fun i hi => by
                  show tourref3_SystemError_l5 s.Ops k has (i : Int) = _
                  unfold tourref3_SystemError_l5
                  rw [cnd_dec, if_pos (by omega), idx_get hi]
                  simp only [Option.bind_some]
                  rw [rop hkl (fun x h0 h1 => (hget x h0 h1).2.2)]
                  simp only [Option.bind_some]
                  rw [cnd_not, cnd_beq, i64ok (by omega) (by omega)]
                  rfl) (by
                  show tourref3_SystemError_l5 s.Ops k has (s.Ops.length : Int) = _
                  unfold tourref3_SystemError_l5
                  rw [cnd_dec, if_neg (by omega)])
                rw [e]
                by_cases g8 : errs (opE k s.Reads s.Writes) s.Ops = 0
                · rw [if_pos g8, g8]; rfl
                · rw [if_neg g8]; rfl
              · rw [if_neg g7, if_neg g7]
        · rw [if_neg g4, if_neg g4]; rfl
    · rw [if_neg g2, if_neg g2]
  · rw [if_neg g1, if_neg g1]
/-! ### The law -/
def fX : api_Field := api_Field.mk (⟨#[120]⟩) 3 (-2)
def fY : api_Field := api_Field.mk (⟨#[120]⟩) 8 0
def nPlace : ByteArray := ⟨#[112, 108, 97, 99, 101]⟩
def nLife : ByteArray := ⟨#[108, 105, 102, 101]⟩
def twoL : List api_Kind := [api_Kind.mk nPlace [fX], api_Kind.mk nLife [fY]]
theorem two_eq : tourlaw3_two = some twoL := rfl
theorem fX_ok : fieldB fX.Name fX.Bits fX.Low = true := by decide +kernel
theorem fY_ok : fieldB fY.Name fY.Bits fY.Low = true := by decide +kernel
theorem place_ok : oneV nPlace [fX] = 0 := by
  unfold oneV
  rw [if_pos (by decide +kernel), if_neg (by decide), show List.range [fX].length = [0] from rfl]
  have : oneG [fX] 0 = none := by rw [oneG_at (by decide)]; simp [fX_ok]
  simp [this]
theorem life_ok : oneV nLife [fY] = 0 := by
  unfold oneV
  rw [if_pos (by decide +kernel), if_neg (by decide), show List.range [fY].length = [0] from rfl]
  have : oneG [fY] 0 = none := by rw [oneG_at (by decide)]; simp [fY_ok]
  simp [this]
theorem two_ok : checkV twoL = 0 := by
  unfold checkV
  rw [if_neg (by decide), show List.range twoL.length = [0, 1] from rfl]
  have h0 : checkG twoL 0 = none := by rw [checkG_at (by decide)]; simp [twoL, place_ok]
  have h1 : checkG twoL 1 = none := by
    rw [checkG_at (by decide)]
    simp [twoL, life_ok]
    decide
  simp [h0, h1]
def nOlder : ByteArray := ⟨#[111, 108, 100, 101, 114]⟩
def olderOps : List api_Op := [(api_Op.mk 1 (api_Ref.mk 0 0) (api_Arg.mk true 0 (api_Ref.mk 0 0)) (api_Arg.mk false 1 (api_Ref.mk 0 0))), (api_Op.mk 12 (api_Ref.mk 0 0) (api_Arg.mk false 1 (api_Ref.mk 0 0)) (api_Arg.mk true 0 (api_Ref.mk 0 0)))]
theorem older_eq : tourlaw3_older = some ([0], olderOps) := rfl
theorem older_name : nameB nOlder = true := by decide +kernel
theorem older_sys (wr : List Int) (hw : wr = [] ∨ wr = [0]) : sysE twoL (api_System.mk nOlder [0] [] [] wr olderOps []) = errs (opE twoL [] wr) olderOps := by
  have hf : fitE twoL [] [] = 0 := rfl
  unfold sysE
  rw [if_pos two_ok, if_pos older_name, if_neg (show ¬ 20 < olderOps.length by decide)]
  rcases hw with rfl | rfl
  · rw [if_pos (by decide), if_neg (by decide), if_neg (by decide), if_pos hf]
  · rw [if_pos (by decide), if_neg (by decide), if_neg (by decide), if_pos hf]
theorem older_bad : errs (opE twoL [] []) olderOps = 8 := by decide +kernel
theorem older_good : errs (opE twoL [] [0]) olderOps = 0 := by decide +kernel
theorem older_ok (wr : List Int) (hw : wr.length ≤ 1) : sysok (api_System.mk nOlder [0] [] [] wr olderOps []) := by
  refine ⟨?_, ?_, ?_, ?_, ?_, ?_⟩
  · show nOlder.size ≤ 140737488351232; decide
  · show [(0 : Int)].length ≤ _; decide
  · show ([] : List Int).length ≤ _; decide
  · show ([] : List Int).length ≤ _; decide
  · show wr.length ≤ _; omega
  · show ([] : List api_Comp).length * 32 ≤ _; decide
theorem SystemChecks_true (k : List api_Kind) (s_0 : ByteArray) (s_1 : List Int) (s_2 : List Int) (s_3 : List Int) (s_4 : List Int) (s_5 : List api_Op) (s_6 : List api_Comp) (h0 : (okl 40 ok_api_Kind) k) (h1 : ok_api_System (api_System.mk s_0 s_1 s_2 s_3 s_4 s_5 s_6)) : tourlaw3_SystemChecks k s_0 s_1 s_2 s_3 s_4 s_5 s_6 = some true := by
  obtain ⟨a0, a1, a2, a3, a4, a5, a6⟩ := h1
  have hs : sysok (api_System.mk s_0 s_1 s_2 s_3 s_4 s_5 s_6) := by
    have b1 := a1.1; have b2 := a2.1; have b3 := a3.1; have b4 := a4.1; have b6 := a6.1
    exact ⟨a0, by omega, by omega, by omega, by omega, b6⟩
  have e1 : system_Check twoL nOlder [0] [] [] [] olderOps [] = some 8 := by
    have := kvalid twoL (older_ok [] (by simp))
    rw [older_sys [] (.inl rfl), older_bad] at this
    exact this
  have e2 : system_Check twoL nOlder [0] [] [] [0] olderOps [] = some 0 := by
    have := kvalid twoL (older_ok [0] (by simp))
    rw [older_sys [0] (.inr rfl), older_good] at this
    exact this
  have e3 := kvalid k hs
  have e4 := rvalid (k := k) (fun i hi => okk_ks h0 hi) hs
  unfold tourlaw3_SystemChecks
  rw [older_eq, two_eq]
  simp only [bnd2_some, Option.bind_some]
  have e1' : system_Check twoL (⟨#[111, 108, 100, 101, 114]⟩) [0] [] [] [] olderOps [] = some 8 := e1
  have e2' : system_Check twoL (⟨#[111, 108, 100, 101, 114]⟩) [0] [] [] [0] olderOps [] = some 0 := e2
  have e3' : system_Check k s_0 s_1 s_2 s_3 s_4 s_5 s_6 = _ := e3
  have e4' : tourref3_SystemError k s_0 s_1 s_2 s_3 s_4 s_5 s_6 = _ := e4
  rw [e1', e2', e3', e4']
  simp only [Option.bind_some, cnd_beq]
  unfold tourlaw3_SystemChecks_j1
  simp
end Go.Proofs.YtnnhijlgohlaeaaDoor.D
