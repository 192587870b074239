/- The plain law of systems, second part: what is contained, components, operations. No condition. -/
import Derived.Test.YtnnhijlgohlaeaaDoorPuSys1D
import Derived.Test.YtnnhijlgohlaeaaDoorExSortF
namespace Go.Proofs.YtnnhijlgohlaeaaDoor.D
open Go Go.RowKit Go.Proofs.YtnnhijlgohlaeaaDoor.Sx Classical
set_option linter.unusedVariables false
set_option linter.unusedSimpArgs false
theorem any_isSome' {α : Type} {l : List α} {p : α → Bool} : decide (0 ≤ (match l.findIdx? p with | some k => (k : Int) | none => -1)) = l.any p := by
  rw [← List.findIdx?_isSome]
  cases l.findIdx? p with
  | none => rfl
  | some k => simp
theorem any_mem {s : List Int} {v : Int} : (s.any fun x => v == x) = decide (v ∈ s) := by
  rw [Bool.eq_iff_iff]
  simp only [List.any_eq_true, beq_iff_eq, decide_eq_true_eq]
  constructor
  · rintro ⟨x, hx, rfl⟩; exact hx
  · intro h; exact ⟨v, h, rfl⟩
theorem kcontains {s : List Int} (v : Int) (h : s.length ≤ 140737488355328) : slices_Contains_int_int s v = some (decide (v ∈ s)) := by
  have e : loop (σ := Int) (ρ := (Int ⊕ Unit)) (fun s_ => slices_Index_int_int_l2 s v s_) 0 = _ := loop_at s (fun i => (i : Int)) (fun x => v == x) () (fun i hi => by
    show slices_Index_int_int_l2 s v (i : Int) = _
    unfold slices_Index_int_int_l2
    rw [cnd_dec, if_pos (by omega), idx_get hi]
    simp only [Option.bind_some, cnd_ite]
    by_cases hp : (v == s[i]) = true
    · rw [if_pos hp, if_pos hp]
    · rw [if_neg hp, if_neg hp, i64ok (by omega) (by omega)]; rfl) (by
    show slices_Index_int_int_l2 s v (s.length : Int) = _
    unfold slices_Index_int_int_l2
    rw [cnd_dec, if_neg (by omega)])
  have e2 : slices_Index_int_int s v = some (match s.findIdx? (fun x => v == x) with | some k => (k : Int) | none => -1) := by
    unfold slices_Index_int_int
    rw [e]
    cases s.findIdx? (fun x => v == x) <;> rfl
  unfold slices_Contains_int_int
  rw [e2]
  simp only [Option.bind_some]
  rw [any_isSome', any_mem]
theorem kclash {a b : List Int} (ha : a.length ≤ 140737488355328) (hb : b.length ≤ 140737488355328) (n : ByteArray) (x y z : List Int) (o : List api_Op) (c : List api_Comp) : slices_ContainsFunc_int_int a n x b y z o c = some (a.any fun v => decide (v ∈ b)) := by
  have e : loop (σ := Int) (ρ := (Int ⊕ Unit)) (fun s_ => slices_IndexFunc_int_int_l2 a n x b y z o c s_) 0 = _ := loop_at a (fun i => (i : Int)) (fun v => decide (v ∈ b)) () (fun i hi => by
    show slices_IndexFunc_int_int_l2 a n x b y z o c (i : Int) = _
    unfold slices_IndexFunc_int_int_l2 system_Check_1
    rw [cnd_dec, if_pos (by omega), idx_get hi]
    simp only [Option.bind_some, cnd_ite, kcontains a[i] hb]
    by_cases hp : (decide (a[i] ∈ b)) = true
    · rw [if_pos hp, if_pos hp]
    · rw [if_neg hp, if_neg hp, i64ok (by omega) (by omega)]; rfl) (by
    show slices_IndexFunc_int_int_l2 a n x b y z o c (a.length : Int) = _
    unfold slices_IndexFunc_int_int_l2
    rw [cnd_dec, if_neg (by omega)])
  unfold slices_ContainsFunc_int_int slices_IndexFunc_int_int
  rw [e, ← any_isSome']
  cases a.findIdx? (fun v => decide (v ∈ b)) <;> rfl
theorem kmiss {a b : List Int} (ha : a.length ≤ 140737488355328) (hb : b.length ≤ 140737488355328) (n : ByteArray) (x y z : List Int) (o : List api_Op) (c : List api_Comp) : slices_ContainsFunc_int_int_v2 a n b x y z o c = some (a.any fun v => !decide (v ∈ b)) := by
  have e : loop (σ := Int) (ρ := (Int ⊕ Unit)) (fun s_ => slices_IndexFunc_int_int_v2_l2 a n b x y z o c s_) 0 = _ := loop_at a (fun i => (i : Int)) (fun v => !decide (v ∈ b)) () (fun i hi => by
    show slices_IndexFunc_int_int_v2_l2 a n b x y z o c (i : Int) = _
    unfold slices_IndexFunc_int_int_v2_l2 system_Check_2
    rw [cnd_dec, if_pos (by omega), idx_get hi]
    simp only [Option.bind_some, cnd_ite, kcontains a[i] hb]
    by_cases hp : (!decide (a[i] ∈ b)) = true
    · rw [if_pos hp, if_pos hp]
    · rw [if_neg hp, if_neg hp, i64ok (by omega) (by omega)]; rfl) (by
    show slices_IndexFunc_int_int_v2_l2 a n b x y z o c (a.length : Int) = _
    unfold slices_IndexFunc_int_int_v2_l2
    rw [cnd_dec, if_neg (by omega)])
  unfold slices_ContainsFunc_int_int_v2 slices_IndexFunc_int_int_v2
  rw [e, ← any_isSome']
  cases a.findIdx? (fun v => !decide (v ∈ b)) <;> rfl
theorem kconcat {c d : List Int} (hc : c.length ≤ 1000) (hd : d.length ≤ 1000) : slices_Concat_int_int ([c, d] : List (List Int)) = some (c ++ d) := by
  have e1 := loop_to (σ := Int × Int) (ρ := Int) (step := fun s_ => slices_Concat_int_int_l4 ([c, d] : List (List Int)) s_.1 s_.2) (fun p => (((([c, d] : List (List Int)).take p).flatten.length : Int), (p : Int))) 2 (r := ((c ++ d).length : Int)) (fun p hp => by
    have : p = 0 ∨ p = 1 := by omega
    rcases this with rfl | rfl
    · show slices_Concat_int_int_l4 ([c, d] : List (List Int)) 0 0 = _
      unfold slices_Concat_int_int_l4
      rw [cnd_dec, if_pos (by simp), show (0 : Int) = ((0 : Nat) : Int) from rfl, idx_get (by simp)]
      simp only [Option.bind_some, List.getElem_cons_zero]
      rw [cnd_dec, i64ok (by omega) (by omega), if_neg (by omega), i64ok (by omega) (by omega)]
      simp
    · show slices_Concat_int_int_l4 ([c, d] : List (List Int)) ((([c, d] : List (List Int)).take 1).flatten.length : Int) ((1 : Nat) : Int) = _
      have h1 : ((([c, d] : List (List Int)).take 1).flatten.length : Int) = (c.length : Int) := by simp
      rw [h1]
      unfold slices_Concat_int_int_l4
      rw [cnd_dec, if_pos (by simp), idx_get (by simp)]
      simp only [Option.bind_some, List.getElem_cons_succ, List.getElem_cons_zero]
      rw [cnd_dec, i64ok (by omega) (by omega), if_neg (by omega), i64ok (by omega) (by omega)]
      simp) (by
    show slices_Concat_int_int_l4 ([c, d] : List (List Int)) ((([c, d] : List (List Int)).take 2).flatten.length : Int) ((2 : Nat) : Int) = _
    unfold slices_Concat_int_int_l4
    rw [cnd_dec, if_neg (by simp)]
    simp)
  have e2 := loop_to (σ := (List Int) × Int) (ρ := List Int) (step := fun s_ => slices_Concat_int_int_l3 ([c, d] : List (List Int)) s_.1 s_.2) (fun p => ((([c, d] : List (List Int)).take p).flatten, (p : Int))) 2 (r := c ++ d) (fun p hp => by
    have : p = 0 ∨ p = 1 := by omega
    rcases this with rfl | rfl
    · show slices_Concat_int_int_l3 ([c, d] : List (List Int)) [] 0 = _
      unfold slices_Concat_int_int_l3
      rw [cnd_dec, if_pos (by simp), show (0 : Int) = ((0 : Nat) : Int) from rfl, idx_get (by simp)]
      simp only [Option.bind_some, List.getElem_cons_zero]
      rw [app_ok (by simp; omega), i64ok (by omega) (by omega)]
      simp
    · show slices_Concat_int_int_l3 ([c, d] : List (List Int)) (([c, d] : List (List Int)).take 1).flatten ((1 : Nat) : Int) = _
      have h1 : (([c, d] : List (List Int)).take 1).flatten = c := by simp
      rw [h1]
      unfold slices_Concat_int_int_l3
      rw [cnd_dec, if_pos (by simp), idx_get (by simp)]
      simp only [Option.bind_some, List.getElem_cons_succ, List.getElem_cons_zero]
      rw [app_ok (by omega), i64ok (by omega) (by omega)]
      simp) (by
    show slices_Concat_int_int_l3 ([c, d] : List (List Int)) (([c, d] : List (List Int)).take 2).flatten ((2 : Nat) : Int) = _
    unfold slices_Concat_int_int_l3
    rw [cnd_dec, if_neg (by simp)]
    simp)
  unfold slices_Concat_int_int
  have e1' : loop (σ := Int × Int) (ρ := Int) (fun s_ => slices_Concat_int_int_l4 ([c, d] : List (List Int)) s_.1 s_.2) (0, 0) = _ := e1
  rw [e1']
  simp only [Option.bind_some]
  unfold slices_Concat_int_int_j1 slices_Grow_int_int
  have hg : grow (α := Int) 8 (((c ++ d).length : Nat) : Int) = some [] := by
    unfold grow
    rw [if_pos]
    simp only [List.length_append]
    omega
  rw [hg]
  simp only [Option.bind_some]
  have e2' : loop (σ := (List Int) × Int) (ρ := List Int) (fun s_ => slices_Concat_int_int_l3 ([c, d] : List (List Int)) s_.1 s_.2) ([], 0) = _ := e2
  rw [e2']
  rfl
/-! ### Components -/
noncomputable def fitE (k : List api_Kind) : List Int → List api_Comp → Int
  | _, [] => 0
  | seen, c :: cs => if c.Kind < 0 ∨ (k.length : Int) ≤ c.Kind then 1 else if c.Kind ∈ seen then 5 else match k[c.Kind.toNat]? with
    | some x => if (fitV x.Name x.Fields c.Vals).2 = 0 then fitE k (seen ++ [c.Kind]) cs else (fitV x.Name x.Fields c.Vals).2
    | none => 0
theorem khaskind {l : List api_Comp} (hl : l.length ≤ 140737488355328) (n : Int) (v : List Int) : slices_ContainsFunc_api_Comp_api_Comp l n v = some (decide (n ∈ l.map api_Comp.Kind)) := by
  have e : loop (σ := Int) (ρ := (Int ⊕ Unit)) (fun s_ => slices_IndexFunc_api_Comp_api_Comp_l2 l n v s_) 0 = _ := loop_at l (fun i => (i : Int)) (fun c => c.Kind == n) () (fun i hi => by
    show slices_IndexFunc_api_Comp_api_Comp_l2 l n v (i : Int) = _
    unfold slices_IndexFunc_api_Comp_api_Comp_l2 world_Fit_1
    rw [cnd_dec, if_pos (by omega), idx_get hi]
    simp only [Option.bind_some, cnd_ite]
    by_cases hp : (l[i].Kind == n) = true
    · rw [if_pos hp, if_pos hp]
    · rw [if_neg hp, if_neg hp, i64ok (by omega) (by omega)]; rfl) (by
    show slices_IndexFunc_api_Comp_api_Comp_l2 l n v (l.length : Int) = _
    unfold slices_IndexFunc_api_Comp_api_Comp_l2
    rw [cnd_dec, if_neg (by omega)])
  have e3 : (l.any fun c => c.Kind == n) = decide (n ∈ l.map api_Comp.Kind) := by
    rw [Bool.eq_iff_iff]
    simp only [List.any_eq_true, beq_iff_eq, decide_eq_true_eq, List.mem_map]
  unfold slices_ContainsFunc_api_Comp_api_Comp slices_IndexFunc_api_Comp_api_Comp
  rw [e, ← e3, ← any_isSome']
  cases l.findIdx? (fun c => c.Kind == n) <;> rfl
theorem fit_loop (k : List api_Kind) (l : List api_Comp) (hl : l.length * 32 ≤ 140737488351232) : ∀ (d i : Nat) (out : List api_Comp), i + d = l.length → out.map api_Comp.Kind = (l.take i).map api_Comp.Kind → ((l.take i).map api_Comp.Kind).Nodup → ∃ R, loop (σ := (List api_Comp) × Int) (ρ := (((List api_Comp) × Int) ⊕ (List api_Comp))) (fun s_ => world_Fit_l2 l k s_.1 s_.2) (out, (i : Int)) = some R ∧ (fitE k ((l.take i).map api_Comp.Kind) (l.drop i) = 0 → ∃ out', R = .inr out' ∧ (out'.map api_Comp.Kind).Nodup ∧ out'.length ≤ l.length) ∧ (fitE k ((l.take i).map api_Comp.Kind) (l.drop i) ≠ 0 → ∃ r, R = .inl (r, fitE k ((l.take i).map api_Comp.Kind) (l.drop i))) := by
  intro d
  induction d with
  | zero =>
    intro i out hi hm hn
    rw [List.drop_eq_nil_of_le (by omega)]
    refine ⟨.inr out, ?_, fun _ => ⟨out, rfl, by rw [hm]; exact hn, ?_⟩, fun h => absurd rfl h⟩
    · apply loop_inr
      show world_Fit_l2 l k out (i : Int) = _
      unfold world_Fit_l2
      rw [cnd_dec, if_neg (by omega)]
    · have := congrArg List.length hm
      simp only [List.length_map, List.length_take] at this
      omega
  | succ d ih =>
    intro i out hi hm hn
    have hil : i < l.length := by omega
    rw [List.drop_eq_getElem_cons hil]
    have holen : out.length = i := by
      have := congrArg List.length hm
      simp only [List.length_map, List.length_take] at this
      omega
    by_cases g1 : l[i].Kind < 0 ∨ (k.length : Int) ≤ l[i].Kind
    · have e : fitE k ((l.take i).map api_Comp.Kind) (l[i] :: l.drop (i + 1)) = 1 := by rw [fitE, if_pos g1]
      rw [e]
      refine ⟨.inl ([], 1), ?_, fun h => absurd h (by decide), fun _ => ⟨[], rfl⟩⟩
      apply loop_inr
      show world_Fit_l2 l k out (i : Int) = _
      unfold world_Fit_l2
      rw [cnd_dec, if_pos (by omega), idx_get hil]
      simp only [Option.bind_some, cnd_dec]
      by_cases h : l[i].Kind < 0
      · rw [if_pos h]
      · rw [if_neg h, if_pos (by omega)]
    · have hn1 : ¬ l[i].Kind < 0 := fun h => g1 (.inl h)
      have hn2 : ¬ (k.length : Int) ≤ l[i].Kind := fun h => g1 (.inr h)
      have hkl : l[i].Kind.toNat < k.length := by omega
      have hcut : cut l 0 (i : Int) = some (l.take i) := cut_take (by omega)
      have hidx : idx k l[i].Kind = some k[l[i].Kind.toNat] := by
        have := idx_get (l := k) hkl
        rwa [Int.toNat_of_nonneg (by omega)] at this
      have hst : world_Fit_l2 l k out (i : Int) = if l[i].Kind ∈ (l.take i).map api_Comp.Kind then some (.inr (.inl ([], 5))) else if (fitV k[l[i].Kind.toNat].Name k[l[i].Kind.toNat].Fields l[i].Vals).2 = 0 then some (.inl (out ++ [api_Comp.mk l[i].Kind (fitV k[l[i].Kind.toNat].Name k[l[i].Kind.toNat].Fields l[i].Vals).1], ((i + 1 : Nat) : Int))) else some (.inr (.inl ([], (fitV k[l[i].Kind.toNat].Name k[l[i].Kind.toNat].Fields l[i].Vals).2))) := by
        unfold world_Fit_l2
        rw [cnd_dec, if_pos (by omega), idx_get hil]
        simp only [Option.bind_some, cnd_dec]
        rw [if_neg hn1, if_neg hn2, hcut]
        simp only [Option.bind_some]
        rw [khaskind (by rw [List.length_take]; omega)]
        simp only [Option.bind_some, cnd_dec]
        split
        · rfl
        · rw [hidx]
          simp only [Option.bind_some]
          rw [kfit]
          rw [show (some (fitV k[l[i].Kind.toNat].Name k[l[i].Kind.toNat].Fields l[i].Vals) : Option (List Int × Int)) = some ((fitV k[l[i].Kind.toNat].Name k[l[i].Kind.toNat].Fields l[i].Vals).1, (fitV k[l[i].Kind.toNat].Name k[l[i].Kind.toNat].Fields l[i].Vals).2) from rfl]
          simp only [bnd2_some]
          rw [cnd_not, cnd_beq, app_ok (by simp only [List.length_cons, List.length_nil]; omega), i64ok (by omega) (by omega)]
          split <;> rfl
      by_cases g2 : l[i].Kind ∈ (l.take i).map api_Comp.Kind
      · have e : fitE k ((l.take i).map api_Comp.Kind) (l[i] :: l.drop (i + 1)) = 5 := by rw [fitE, if_neg g1, if_pos g2]
        rw [e]
        rw [if_pos g2] at hst
        exact ⟨.inl ([], 5), loop_inr hst, fun h => absurd h (by decide), fun _ => ⟨[], rfl⟩⟩
      · rw [if_neg g2] at hst
        have e0 : fitE k ((l.take i).map api_Comp.Kind) (l[i] :: l.drop (i + 1)) = if (fitV k[l[i].Kind.toNat].Name k[l[i].Kind.toNat].Fields l[i].Vals).2 = 0 then fitE k ((l.take i).map api_Comp.Kind ++ [l[i].Kind]) (l.drop (i + 1)) else (fitV k[l[i].Kind.toNat].Name k[l[i].Kind.toNat].Fields l[i].Vals).2 := by
          rw [fitE, if_neg g1, if_neg g2, List.getElem?_eq_getElem hkl]
        by_cases g3 : (fitV k[l[i].Kind.toNat].Name k[l[i].Kind.toNat].Fields l[i].Vals).2 = 0
        · rw [if_pos g3] at hst e0
          have hmap : (l.take (i + 1)).map api_Comp.Kind = (l.take i).map api_Comp.Kind ++ [l[i].Kind] := by
            rw [List.take_succ_eq_append_getElem hil, List.map_append]; rfl
          obtain ⟨R, r1, r2, r3⟩ := ih (i + 1) (out ++ [api_Comp.mk l[i].Kind (fitV k[l[i].Kind.toNat].Name k[l[i].Kind.toNat].Fields l[i].Vals).1]) (by omega) (by rw [hmap, List.map_append, hm]; rfl) (by
            rw [hmap, List.nodup_append]
            exact ⟨hn, by simp, fun a ha b hb => by rw [List.mem_singleton.1 hb]; exact fun e => g2 (e ▸ ha)⟩)
          rw [hmap] at r2 r3
          rw [e0]
          exact ⟨R, by rw [loop_inl hst]; exact r1, r2, r3⟩
        · rw [if_neg g3] at hst e0
          rw [e0]
          exact ⟨.inl ([], _), loop_inr hst, fun h => absurd h g3, fun _ => ⟨[], rfl⟩⟩
theorem kfitall (k : List api_Kind) {l : List api_Comp} (hl : l.length * 32 ≤ 140737488351232) : ∃ r, world_Fit k l = some (r, if checkV k = 0 then fitE k [] l else checkV k) := by
  unfold world_Fit
  rw [kcheck]
  simp only [Option.bind_some, cnd_not, cnd_beq]
  by_cases hv : checkV k = 0
  · rw [if_pos hv, if_pos hv]
    obtain ⟨R, r1, r2, r3⟩ := fit_loop k l hl l.length 0 [] (by omega) rfl (by simp)
    have r1' : loop (σ := (List api_Comp) × Int) (ρ := (((List api_Comp) × Int) ⊕ (List api_Comp))) (fun s_ => world_Fit_l2 l k s_.1 s_.2) ([], 0) = some R := r1
    rw [r1']
    rw [List.drop_zero, List.take_zero, List.map_nil] at r2 r3
    by_cases h : fitE k [] l = 0
    · obtain ⟨out, rfl, h1, h2⟩ := r2 h
      rw [h]
      simp only [Option.bind_some, Sum.elim_inr]
      unfold world_Fit_j1 slices_SortFunc_api_Comp_api_Comp sortBy
      rw [if_pos ⟨h1, by omega⟩]
      exact ⟨_, rfl⟩
    · obtain ⟨r, rfl⟩ := r3 h
      exact ⟨r, rfl⟩
  · rw [if_neg hv, if_neg hv]
    exact ⟨_, rfl⟩
theorem rfit_loop {k : List api_Kind} (hk : ∀ i (h : i < k.length), oks k[i].Name ∧ ∀ j (hj : j < k[i].Fields.length), oks k[i].Fields[j].Name) (l : List api_Comp) (hl : l.length * 32 ≤ 140737488351232) : ∀ (d i : Nat) (m : List (Int × (List Int))), i + d = l.length → (∀ y, (mget m y).isSome = decide (y ∈ (l.take i).map api_Comp.Kind)) → ∃ R, loop (σ := (List (Int × (List Int))) × Int) (ρ := (((Option (List (Int × (List Int)))) × Int) ⊕ (List (Int × (List Int))))) (fun s_ => tourref3_FittedAll_l2 l k s_.1 s_.2) (m, (i : Int)) = some R ∧ (fitE k ((l.take i).map api_Comp.Kind) (l.drop i) = 0 → ∃ m', R = .inr m') ∧ (fitE k ((l.take i).map api_Comp.Kind) (l.drop i) ≠ 0 → R = .inl (none, fitE k ((l.take i).map api_Comp.Kind) (l.drop i))) := by
  intro d
  induction d with
  | zero =>
    intro i m hi hm
    rw [List.drop_eq_nil_of_le (by omega)]
    refine ⟨.inr m, ?_, fun _ => ⟨m, rfl⟩, fun h => absurd rfl h⟩
    apply loop_inr
    show tourref3_FittedAll_l2 l k m (i : Int) = _
    unfold tourref3_FittedAll_l2
    rw [cnd_dec, if_neg (by omega)]
  | succ d ih =>
    intro i m hi hm
    have hil : i < l.length := by omega
    rw [List.drop_eq_getElem_cons hil]
    by_cases g1 : l[i].Kind < 0 ∨ (k.length : Int) ≤ l[i].Kind
    · have e : fitE k ((l.take i).map api_Comp.Kind) (l[i] :: l.drop (i + 1)) = 1 := by rw [fitE, if_pos g1]
      rw [e]
      refine ⟨.inl (none, 1), ?_, fun h => absurd h (by decide), fun _ => rfl⟩
      apply loop_inr
      show tourref3_FittedAll_l2 l k m (i : Int) = _
      unfold tourref3_FittedAll_l2
      rw [cnd_dec, if_pos (by omega), idx_get hil]
      simp only [Option.bind_some, cnd_dec]
      by_cases h : l[i].Kind < 0
      · rw [if_pos h]
      · rw [if_neg h, if_pos (by omega)]
    · have hn1 : ¬ l[i].Kind < 0 := fun h => g1 (.inl h)
      have hn2 : ¬ (k.length : Int) ≤ l[i].Kind := fun h => g1 (.inr h)
      have hkl : l[i].Kind.toNat < k.length := by omega
      have hidx : idx k l[i].Kind = some k[l[i].Kind.toNat] := by
        have := idx_get (l := k) hkl
        rwa [Int.toNat_of_nonneg (by omega)] at this
      have hst : tourref3_FittedAll_l2 l k m (i : Int) = if l[i].Kind ∈ (l.take i).map api_Comp.Kind then some (.inr (.inl (none, 5))) else if (fitV k[l[i].Kind.toNat].Name k[l[i].Kind.toNat].Fields l[i].Vals).2 = 0 then some (.inl (mput m l[i].Kind (fitV k[l[i].Kind.toNat].Name k[l[i].Kind.toNat].Fields l[i].Vals).1, ((i + 1 : Nat) : Int))) else some (.inr (.inl (none, (fitV k[l[i].Kind.toNat].Name k[l[i].Kind.toNat].Fields l[i].Vals).2))) := by
        unfold tourref3_FittedAll_l2
        rw [cnd_dec, if_pos (by omega), idx_get hil]
        simp only [Option.bind_some, cnd_dec]
        rw [if_neg hn1, if_neg hn2, hm, cnd_dec]
        split
        · rfl
        · rw [hidx]
          simp only [Option.bind_some]
          rw [rfit (hk _ hkl).1 (hk _ hkl).2]
          rw [show (some (fitV k[l[i].Kind.toNat].Name k[l[i].Kind.toNat].Fields l[i].Vals) : Option (List Int × Int)) = some ((fitV k[l[i].Kind.toNat].Name k[l[i].Kind.toNat].Fields l[i].Vals).1, (fitV k[l[i].Kind.toNat].Name k[l[i].Kind.toNat].Fields l[i].Vals).2) from rfl]
          simp only [bnd2_some]
          rw [cnd_not, cnd_beq, i64ok (by omega) (by omega)]
          split <;> rfl
      by_cases g2 : l[i].Kind ∈ (l.take i).map api_Comp.Kind
      · have e : fitE k ((l.take i).map api_Comp.Kind) (l[i] :: l.drop (i + 1)) = 5 := by rw [fitE, if_neg g1, if_pos g2]
        rw [e]
        rw [if_pos g2] at hst
        exact ⟨.inl (none, 5), loop_inr hst, fun h => absurd h (by decide), fun _ => rfl⟩
      · rw [if_neg g2] at hst
        have e0 : fitE k ((l.take i).map api_Comp.Kind) (l[i] :: l.drop (i + 1)) = if (fitV k[l[i].Kind.toNat].Name k[l[i].Kind.toNat].Fields l[i].Vals).2 = 0 then fitE k ((l.take i).map api_Comp.Kind ++ [l[i].Kind]) (l.drop (i + 1)) else (fitV k[l[i].Kind.toNat].Name k[l[i].Kind.toNat].Fields l[i].Vals).2 := by
          rw [fitE, if_neg g1, if_neg g2, List.getElem?_eq_getElem hkl]
        by_cases g3 : (fitV k[l[i].Kind.toNat].Name k[l[i].Kind.toNat].Fields l[i].Vals).2 = 0
        · rw [if_pos g3] at hst e0
          have hmap : (l.take (i + 1)).map api_Comp.Kind = (l.take i).map api_Comp.Kind ++ [l[i].Kind] := by
            rw [List.take_succ_eq_append_getElem hil, List.map_append]; rfl
          obtain ⟨R, r1, r2, r3⟩ := ih (i + 1) (mput m l[i].Kind (fitV k[l[i].Kind.toNat].Name k[l[i].Kind.toNat].Fields l[i].Vals).1) (by omega) (fun y => by
            rw [mget_mput', hmap]
            by_cases hy : y = l[i].Kind
            · rw [if_pos hy]; simp [hy]
            · rw [if_neg hy, hm]; simp [hy])
          rw [hmap] at r2 r3
          rw [e0]
          exact ⟨R, by rw [loop_inl hst]; exact r1, r2, r3⟩
        · rw [if_neg g3] at hst e0
          rw [e0]
          exact ⟨.inl (none, _), loop_inr hst, fun h => absurd h g3, fun _ => rfl⟩
theorem rfitall {k : List api_Kind} (hk : ∀ i (h : i < k.length), oks k[i].Name ∧ ∀ j (hj : j < k[i].Fields.length), oks k[i].Fields[j].Name) {l : List api_Comp} (hl : l.length * 32 ≤ 140737488351232) : ∃ r, tourref3_FittedAll k l = some (r, fitE k [] l) := by
  unfold tourref3_FittedAll
  obtain ⟨R, r1, r2, r3⟩ := rfit_loop hk l hl l.length 0 [] (by omega) (fun y => rfl)
  have r1' : loop (σ := (List (Int × (List Int))) × Int) (ρ := (((Option (List (Int × (List Int)))) × Int) ⊕ (List (Int × (List Int))))) (fun s_ => tourref3_FittedAll_l2 l k s_.1 s_.2) ([], 0) = some R := r1
  rw [r1']
  rw [List.drop_zero, List.take_zero, List.map_nil] at r2 r3
  by_cases h : fitE k [] l = 0
  · obtain ⟨m, rfl⟩ := r2 h
    rw [h]
    exact ⟨_, rfl⟩
  · rw [r3 h]
    exact ⟨none, rfl⟩
end Go.Proofs.YtnnhijlgohlaeaaDoor.D
