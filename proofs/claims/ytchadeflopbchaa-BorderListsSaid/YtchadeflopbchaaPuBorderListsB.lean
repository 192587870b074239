/- BorderLists, in plain Lean. No condition. -/
import Derived.Test.YtchadeflopbchaaPuBorderB
namespace Go.Proofs.Ytchadeflopbchaa.B
open Go Go.RowKit Go.Proofs.Ytchadeflopbchaa.Sx
set_option linter.unusedVariables false
set_option linter.unusedSimpArgs false
/-! ### Lists -/
def okV (x : Int) : Bool := (fromV x.toNat).2 == 0
theorem equal_ints {a : List Int} (h : a.length ≤ 140737488355328) : slices_Equal_int_int a a = some true := by
  unfold slices_Equal_int_int
  rw [cnd_not, cnd_pos (by simp)]
  have := loop_to (step := fun s_ => slices_Equal_int_int_l2 a a s_) (fun i => (i : Int)) a.length (fun i hi => by
    unfold slices_Equal_int_int_l2
    rw [cnd_dec, if_pos (by omega), idx_get hi]
    simp only [Option.bind_some]
    rw [cnd_not, cnd_pos (by simp), i64ok (by omega) (by omega)]; rfl) (r := .inr ()) (by unfold slices_Equal_int_int_l2; rw [cnd_dec, if_neg (by omega)])
  rw [show (0 : Int) = ((0 : Nat) : Int) from rfl, this]
  rfl
/-- Both lists are gone through alike. -/
theorem lists_eq {l : List Int} (hl : l.length * 8 ≤ 140737488351232) (ho : ∀ x ∈ l, okk .u64 x) (x17 : Int) (x16 : List Int) :
    ∀ (d i : Nat), i + d = l.length →
    (∃ r, r.length ≤ 140737488355328 ∧ loop (σ := (List Int) × Int) (ρ := (((List Int) × Int) ⊕ (List Int))) (fun s_ => border_List_l2 l s_.1 s_.2) ((l.take i).map fun x => (fromV x.toNat).1, (i : Int)) = some (.inr r) ∧
      loop (σ := (List Int) × Int) (ρ := (Bool ⊕ (List Int))) (fun s_ => tourlaw1_BorderLists_l3 l x17 x16 s_.1 s_.2) ((l.take i).map fun x => (fromV x.toNat).1, (i : Int)) = some (.inr r)) ∨
    (∃ e, e ≠ 0 ∧ loop (σ := (List Int) × Int) (ρ := (((List Int) × Int) ⊕ (List Int))) (fun s_ => border_List_l2 l s_.1 s_.2) ((l.take i).map fun x => (fromV x.toNat).1, (i : Int)) = some (.inl ([], e)) ∧
      loop (σ := (List Int) × Int) (ρ := (Bool ⊕ (List Int))) (fun s_ => tourlaw1_BorderLists_l3 l x17 x16 s_.1 s_.2) ((l.take i).map fun x => (fromV x.toNat).1, (i : Int)) = some (.inl (decide (x17 = e ∧ x16.length = 0)))) := by
  intro d
  induction d with
  | zero =>
    intro i hi
    rw [Nat.add_zero] at hi
    subst hi
    refine .inl ⟨((l.take l.length).map fun x => (fromV x.toNat).1), ?_, loop_inr ?_, loop_inr ?_⟩
    · simp; omega
    · simp only; unfold border_List_l2; rw [cnd_dec, if_neg (by omega)]
    · simp only; unfold tourlaw1_BorderLists_l3; rw [cnd_dec, if_neg (by omega)]
  | succ d ih =>
    intro i hi
    have hlt : i < l.length := by omega
    have hx := ho _ (List.getElem_mem hlt)
    have htl : ((l.take i).map fun x => (fromV x.toNat).1).length = i := by simp; omega
    have hnext : (l.take i).map (fun x => (fromV x.toNat).1) ++ [(fromV (l[i]).toNat).1] = (l.take (i + 1)).map fun x => (fromV x.toNat).1 := by rw [List.take_succ_eq_append_getElem hlt, List.map_append]; rfl
    have happ : app 8 ((l.take i).map fun x => (fromV x.toNat).1) [(fromV (l[i]).toNat).1] = some ((l.take (i + 1)).map fun x => (fromV x.toNat).1) := by rw [app_ok (by rw [htl]; simp; omega), hnext]
    by_cases he : (fromV (l[i]).toNat).2 = 0
    · have s1 : border_List_l2 l ((l.take i).map fun x => (fromV x.toNat).1) (i : Int) = some (.inl ((l.take (i + 1)).map fun x => (fromV x.toNat).1, ((i + 1 : Nat) : Int))) := by
        unfold border_List_l2
        rw [cnd_dec, if_pos (by omega), idx_get hlt, Option.bind_some, from_eq hx]
        show cnd (!((fromV (l[i]).toNat).2 == 0)) _ _ = _
        rw [cnd_not, cnd_pos (by simp [he]), happ, Option.bind_some, i64ok (by omega) (by omega)]; rfl
      have s2 : tourlaw1_BorderLists_l3 l x17 x16 ((l.take i).map fun x => (fromV x.toNat).1) (i : Int) = some (.inl ((l.take (i + 1)).map fun x => (fromV x.toNat).1, ((i + 1 : Nat) : Int))) := by
        unfold tourlaw1_BorderLists_l3
        rw [cnd_dec, if_pos (by omega), idx_get hlt, Option.bind_some, ref_eq hx]
        show cnd (!((fromV (l[i]).toNat).2 == 0)) _ _ = _
        rw [cnd_not, cnd_pos (by simp [he]), happ, Option.bind_some, i64ok (by omega) (by omega)]; rfl
      rw [loop_inl (step := fun s_ => border_List_l2 l s_.1 s_.2) (s := (_, (i : Int))) s1, loop_inl (step := fun s_ => tourlaw1_BorderLists_l3 l x17 x16 s_.1 s_.2) (s := (_, (i : Int))) s2]
      exact ih (i + 1) (by omega)
    · refine .inr ⟨_, he, loop_inr ?_, loop_inr ?_⟩
      · show border_List_l2 l ((l.take i).map fun x => (fromV x.toNat).1) (i : Int) = _
        unfold border_List_l2
        rw [cnd_dec, if_pos (by omega), idx_get hlt, Option.bind_some, from_eq hx]
        show cnd (!((fromV (l[i]).toNat).2 == 0)) _ _ = _
        rw [cnd_not, cnd_neg (by simp [he])]
      · show tourlaw1_BorderLists_l3 l x17 x16 ((l.take i).map fun x => (fromV x.toNat).1) (i : Int) = _
        unfold tourlaw1_BorderLists_l3 tourlaw1_BorderLists_j4
        rw [cnd_dec, if_pos (by omega), idx_get hlt, Option.bind_some, ref_eq hx]
        show cnd (!((fromV (l[i]).toNat).2 == 0)) (cnd (x17 == (fromV (l[i]).toNat).2) _ _) _ = _
        rw [cnd_not, cnd_neg (by simp [he]), cnd_beq]
        by_cases h : x17 = (fromV (l[i]).toNat).2
        · rw [if_pos h]
          congr 3
          rw [Bool.eq_iff_iff, beq_iff_eq, decide_eq_true_iff]
          constructor
          · intro h2; exact ⟨h, by omega⟩
          · intro h2; have := h2.2; omega
        · rw [if_neg h, decide_eq_false (fun h2 => h h2.1)]
theorem BorderLists_true (l : List Int) (h0 : (okl 8 (okk .u64)) l) : tourlaw1_BorderLists l = some true := by
  have one : border_List [4609434218613702656] = some ([98304], 0) := by
    unfold border_List
    have s0 : border_List_l2 [4609434218613702656] [] 0 = some (.inl ([98304], 1)) := by
      unfold border_List_l2
      rw [cnd_dec, if_pos (by decide), show idx [(4609434218613702656 : Int)] 0 = some 4609434218613702656 from rfl, Option.bind_some, from_eq ⟨by decide, by decide⟩, show (4609434218613702656 : Int).toNat = 4609434218613702656 from rfl, half3, bnd2_some, cnd_not, cnd_pos (by rfl)]
      rfl
    have s1 : border_List_l2 [4609434218613702656] [98304] 1 = some (.inr (.inr [98304])) := by
      unfold border_List_l2
      rw [cnd_dec, if_neg (by decide)]
    rw [loop_inl (step := fun s_ => border_List_l2 [4609434218613702656] s_.1 s_.2) (s := ([], 0)) s0, loop_inr (step := fun s_ => border_List_l2 [4609434218613702656] s_.1 s_.2) (s := ([98304], 1)) s1]
    rfl
  unfold tourlaw1_BorderLists
  rw [one, bnd2_some, cnd_not, cnd_pos (by rfl), equal_ints (by simp), Option.bind_some, cnd_not, cnd_true]
  have z : ∀ x17 x16, _ := fun x17 x16 => lists_eq (l := l) h0.1 h0.2 x17 x16 l.length 0 (by omega)
  have hb : ∃ v, border_List l = some v := by
    unfold border_List
    rcases z 0 [] with ⟨r, _, h2, _⟩ | ⟨e, _, h2, _⟩
    · rw [show (([] : List Int), (0 : Int)) = ((l.take 0).map fun x => (fromV x.toNat).1, ((0 : Nat) : Int)) from rfl, h2]; exact ⟨_, rfl⟩
    · rw [show (([] : List Int), (0 : Int)) = ((l.take 0).map fun x => (fromV x.toNat).1, ((0 : Nat) : Int)) from rfl, h2]; exact ⟨_, rfl⟩
  obtain ⟨⟨x16, x17⟩, hv⟩ := hb
  rw [hv, bnd2_some]
  unfold border_List at hv
  rcases z x17 x16 with ⟨r, h1, h2, h3⟩ | ⟨e, h1, h2, h3⟩
  · rw [show (([] : List Int), (0 : Int)) = ((l.take 0).map fun x => (fromV x.toNat).1, ((0 : Nat) : Int)) from rfl] at hv ⊢
    rw [h2] at hv
    rw [h3]
    simp only [Option.bind_some, Sum.elim_inr, border_List_j1, Option.some.injEq, Prod.mk.injEq] at hv ⊢
    obtain ⟨rfl, rfl⟩ := hv
    unfold tourlaw1_BorderLists_j1 tourlaw1_BorderLists_j2
    rw [cnd_pos (by rfl), equal_ints h1]; rfl
  · rw [show (([] : List Int), (0 : Int)) = ((l.take 0).map fun x => (fromV x.toNat).1, ((0 : Nat) : Int)) from rfl] at hv ⊢
    rw [h2] at hv
    rw [h3]
    simp only [Option.bind_some, Sum.elim_inl, Option.some.injEq, Prod.mk.injEq] at hv ⊢
    obtain ⟨rfl, rfl⟩ := hv
    simp
end Go.Proofs.Ytchadeflopbchaa.B
