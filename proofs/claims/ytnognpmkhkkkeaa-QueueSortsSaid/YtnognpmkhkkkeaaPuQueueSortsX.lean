/- The plain law of sorting by a queue. No condition. -/
import Derived.Test.YtnognpmkhkkkeaaPuSymX
import Derived.Test.YtnognpmkhkkkeaaPuHeapX
import Derived.Test.YtnognpmkhkkkeaaExRow
namespace Go.Proofs.Ytnognpmkhkkkeaa.X
open Go Go.RowKit Go.Proofs.Ytnognpmkhkkkeaa.Sx
set_option linter.unusedVariables false
set_option linter.unusedSimpArgs false
def iota (n : Nat) : List Int := (List.range n).map fun j => ((j : Nat) : Int)
theorem iota_len (n : Nat) : (iota n).length = n := by simp [iota]
theorem iota_get {n j : Nat} (h : j < (iota n).length) : (iota n)[j] = (j : Int) := by simp [iota]
theorem iota_nodup (n : Nat) : (iota n).Nodup := by
  unfold iota
  refine List.Pairwise.map _ (fun a b h => ?_) List.nodup_range
  omega
theorem mem_iota {n : Nat} {x : Int} (h : x ∈ iota n) : 0 ≤ x ∧ x < (n : Int) := by
  unfold iota at h
  obtain ⟨j, hj, rfl⟩ := List.mem_map.1 h
  have := List.mem_range.1 hj
  omega
theorem uniq {l r s : List Int} (hr : r.Pairwise (lt2 l)) (hs : s.Pairwise (lt2 l)) (h : r.Perm s) : r = s :=
  List.Perm.eq_of_pairwise (le := lt2 l) (fun a b _ _ h1 h2 => by unfold lt2 at h1 h2; omega) hr hs h
theorem equal_self (a : List Int) (h : a.length ≤ 5000) : slices_Equal_int_int a a = some true := by
  unfold slices_Equal_int_int
  rw [cnd_not, cnd_beq, if_pos rfl]
  have e := loop_to (σ := Int) (ρ := (Bool ⊕ Unit)) (step := fun s_ => slices_Equal_int_int_l2 a a s_) (fun i => (i : Int)) a.length (r := .inr ()) (fun i hi => by
    show slices_Equal_int_int_l2 a a (i : Int) = _
    unfold slices_Equal_int_int_l2
    rw [cnd_dec, if_pos (by omega), idx_get hi]
    simp only [Option.bind_some]
    rw [cnd_not, cnd_beq, if_pos rfl, i64ok (by omega) (by omega)]; rfl) (by
    show slices_Equal_int_int_l2 a a (a.length : Int) = _
    unfold slices_Equal_int_int_l2
    rw [cnd_dec, if_neg (by omega)])
  rw [show ((0 : Int)) = ((0 : Nat) : Int) from rfl, e]; rfl
/-! ### The queue -/
def itm (l : List Int) (j : Nat) : It := ⟨(j : Int), ky l (j : Int), (j : Int)⟩
theorem ky_nat {l : List Int} {j : Nat} (h : j < l.length) : l[j] = ky l (j : Int) := by simp [ky, List.getD, h]
theorem fill_loop {l : List Int} (hl : l.length ≤ 4096) : ∀ (n i : Nat) (h : List It), i + n = l.length → Heap h → h.Perm ((List.range i).map (itm l)) →
    ∃ h', loop (σ := (List queue_item_int) × Int × Int) (ρ := (List queue_item_int) × Int) (fun s_ => queue_Sort_l4 l s_.1 s_.2.1 s_.2.2) (h, (i : Int), (i : Int)) = some (h', (l.length : Int)) ∧ Heap h' ∧ h'.Perm ((List.range l.length).map (itm l)) := by
  intro n
  induction n with
  | zero =>
    intro i h hn hH hp
    have : i = l.length := by omega
    subst this
    refine ⟨h, loop_inr ?_, hH, hp⟩
    show queue_Sort_l4 l h (l.length : Int) (l.length : Int) = _
    unfold queue_Sort_l4
    rw [cnd_dec, if_neg (by omega)]
  | succ n ih =>
    intro i h hn hH hp
    have hlen : h.length = i := by rw [hp.length_eq]; simp
    obtain ⟨h1, e1, e2, e3⟩ := put_heap (l := h) (v := (i : Int)) (r := l[i]) (c := i) (by omega) hH (by omega)
    obtain ⟨h', f1, f2, f3⟩ := ih (i + 1) h1 (by omega) e3 (by
      refine e2.trans ?_
      rw [List.range_succ, List.map_append]
      refine (hp.append_right _).trans ?_
      rw [ky_nat (by omega)]; exact List.Perm.refl _)
    refine ⟨h', (loop_inl ?_).trans f1, f2, f3⟩
    show queue_Sort_l4 l h (i : Int) (i : Int) = _
    unfold queue_Sort_l4
    rw [cnd_dec, if_pos (by omega), idx_get (by omega)]
    simp only [Option.bind_some]
    rw [e1, bnd3_some, i64ok (by omega) (by omega)]; rfl
theorem root_mem {h : List It} (hH : Heap h) {y : It} (hy : y ∈ h) : ¬ ltI y (gi h 0) := by
  obtain ⟨j, hj, rfl⟩ := List.getElem_of_mem hy
  rw [← gi_eq hj]; exact hH.root j hj
theorem out_loop {l : List Int} {c : Int} {N : Nat} (hN : N ≤ 4096) : ∀ (n : Nat) (h : List It) (o : List Int), h.length = n → Heap h → (∀ x ∈ h, x.rank = ky l x.v ∧ x.came = x.v) → (o ++ h.map (·.v)).Perm (iota N) → o.Pairwise (lt2 l) → (∀ x ∈ o, ∀ y ∈ h, lt2 l x y.v) →
    ∃ r, loop (σ := (List queue_item_int) × (List Int)) (ρ := (List Int)) (fun s_ => queue_Sort_l3 c s_.1 s_.2) (h, o) = some r ∧ r.Perm (iota N) ∧ r.Pairwise (lt2 l) := by
  intro n
  induction n with
  | zero =>
    intro h o hn hH hx hp ho hoh
    have : h = [] := List.length_eq_zero_iff.1 hn
    subst this
    refine ⟨o, loop_inr ?_, by simpa using hp, ho⟩
    show queue_Sort_l3 c [] o = _
    unfold queue_Sort_l3 queue_Queue_int_Len
    simp only [Option.bind_some]
    rw [cnd_dec, if_neg (by simp)]
  | succ n ih =>
    intro h o hn hH hx hp ho hoh
    have hlen : o.length + h.length = N := by have := hp.length_eq; rw [iota_len] at this; simpa using this
    obtain ⟨h', e1, e2, e3⟩ := take_heap (l := h) (c := c) (by omega) (by omega) hH
    have hsub : ∀ y ∈ h', y ∈ h := fun y hy => e2.subset (List.mem_cons_of_mem _ hy)
    have hroot : gi h 0 ∈ h := e2.subset List.mem_cons_self
    have hp2 : ((o ++ [(gi h 0).v]) ++ h'.map (·.v)).Perm (iota N) := by
      refine List.Perm.trans ?_ hp
      rw [List.append_assoc]
      exact List.Perm.append_left o (show ((gi h 0 :: h').map (fun x : It => x.v)).Perm _ from e2.map (fun x : It => x.v))
    have hnd : ((o ++ [(gi h 0).v]) ++ h'.map (·.v)).Nodup := hp2.nodup_iff.2 (iota_nodup N)
    obtain ⟨r, f1, f2, f3⟩ := ih h' (o ++ [(gi h 0).v]) (by have := e2.length_eq; simp at this; omega) e3 (fun x hxm => hx x (hsub x hxm)) hp2
      (List.pairwise_append.2 ⟨ho, List.pairwise_singleton _ _, fun a ha b hb => by rw [List.mem_singleton.1 hb]; exact hoh a ha _ hroot⟩)
      (fun x hxm y hy => by
        rcases List.mem_append.1 hxm with hxm | hxm
        · exact hoh x hxm y (hsub y hy)
        · rw [List.mem_singleton.1 hxm]
          have g1 := root_mem hH (hsub y hy)
          have g2 := hx y (hsub y hy)
          have g3 := hx _ hroot
          have g4 : (gi h 0).v ≠ y.v := (List.pairwise_append.1 hnd).2.2 _ (by simp) _ (List.mem_map.2 ⟨y, hy, rfl⟩)
          unfold ltI at g1
          unfold lt2
          omega)
    refine ⟨r, (loop_inl ?_).trans f1, f2, f3⟩
    show queue_Sort_l3 c h o = _
    unfold queue_Sort_l3 queue_Queue_int_Len
    simp only [Option.bind_some]
    rw [cnd_dec, if_pos (by omega), e1, bnd4]
    simp only [Option.bind_some]
    rw [app_ok (by simp; omega)]; rfl
theorem sort_ok {l : List Int} (hl : l.length ≤ 4096) : ∃ r, queue_Sort l = some (r, 0) ∧ r.Perm (iota l.length) ∧ r.Pairwise (lt2 l) := by
  obtain ⟨h, e1, e2, e3⟩ := fill_loop hl l.length 0 [] (by omega) (fun j h0 hj => absurd hj (by simp)) (by simp)
  obtain ⟨r, f1, f2, f3⟩ := out_loop (l := l) (c := (l.length : Int)) hl h.length h [] rfl e2
    (fun x hx => by
      obtain ⟨j, hj, rfl⟩ := List.mem_map.1 (e3.subset hx)
      exact ⟨rfl, rfl⟩)
    (by
      have := e3.map (·.v)
      rw [List.map_map] at this
      exact this)
    List.Pairwise.nil (fun x hx => absurd hx (by simp))
  refine ⟨r, ?_, f2, f3⟩
  unfold queue_Sort
  rw [cnd_dec, if_neg (by omega)]
  have e1' : loop (σ := (List queue_item_int) × Int × Int) (ρ := (List queue_item_int) × Int) (fun s_ => queue_Sort_l4 l s_.1 s_.2.1 s_.2.2) (([] : List queue_item_int), 0, 0) = some (h, (l.length : Int)) := e1
  rw [e1']
  simp only [Option.bind_some]
  unfold queue_Sort_j1
  rw [f1]; rfl
theorem sort_long {l : List Int} (hl : 4096 < l.length) : queue_Sort l = some ([], 2) := by
  unfold queue_Sort
  rw [cnd_dec, if_pos (by omega)]
theorem first_two : queue_Sort [2, 1] = some ([1, 0], 0) := by
  obtain ⟨r, e1, e2, e3⟩ := sort_ok (l := [2, 1]) (by simp)
  rw [e1, uniq e3 (s := [1, 0]) (List.Pairwise.cons (fun a ha => by rw [List.mem_singleton.1 ha]; exact .inl (by decide)) (List.pairwise_singleton _ _)) (e2.trans (by show List.Perm [0, 1] [1, 0]; exact List.Perm.swap _ _ _))]
theorem ids_loop {n : Nat} (hn : n ≤ 4096) : loop (σ := (List Int) × Int) (ρ := (List Int)) (fun s_ => tourlaw1_QueueSorts_l4 (List.replicate n (0 : Int)) s_.1 s_.2) (List.replicate n 0, 0) = some (iota n) := by
  have e := loop_to (σ := (List Int) × Int) (ρ := (List Int)) (step := fun s_ => tourlaw1_QueueSorts_l4 (List.replicate n (0 : Int)) s_.1 s_.2) (fun i => (iota i ++ List.replicate (n - i) 0, (i : Int))) n (r := iota n) (fun i hi => by
    show tourlaw1_QueueSorts_l4 (List.replicate n (0 : Int)) (iota i ++ List.replicate (n - i) 0) (i : Int) = _
    unfold tourlaw1_QueueSorts_l4
    have hlen : i < (iota i ++ List.replicate (n - i) (0 : Int)).length := by simp [iota_len]; omega
    rw [List.length_replicate, cnd_dec, if_pos (by omega), idx_get hlen]
    simp only [Option.bind_some]
    rw [upd_ok hlen]
    simp only [Option.bind_some]
    rw [i64ok (by omega) (by omega)]
    have e1 : (iota i ++ List.replicate (n - i) (0 : Int)).set i (i : Int) = iota (i + 1) ++ List.replicate (n - (i + 1)) 0 := by
      rw [List.set_append_right _ _ (by rw [iota_len]; omega), iota_len, Nat.sub_self, show n - i = (n - (i + 1)) + 1 by omega, List.replicate_succ]
      simp [iota, List.range_succ]
    rw [e1]; rfl) (by
    show tourlaw1_QueueSorts_l4 (List.replicate n (0 : Int)) (iota n ++ List.replicate (n - n) 0) (n : Int) = _
    unfold tourlaw1_QueueSorts_l4
    rw [List.length_replicate, cnd_dec, if_neg (by omega), Nat.sub_self]; simp)
  have e0 : (iota 0 ++ List.replicate (n - 0) (0 : Int), ((0 : Nat) : Int)) = (List.replicate n 0, 0) := by simp [iota]
  rw [← e0]; exact e
theorem QueueSorts_true (l : List Int) (h0 : (okl 8 (okk .i64)) l) : tourlaw1_QueueSorts l = some true := by
  unfold tourlaw1_QueueSorts
  rw [first_two, bnd2_some, cnd_not, cnd_beq, if_pos rfl, equal_self _ (by simp)]
  simp only [Option.bind_some]
  rw [cnd_neg (b := !true) rfl]
  by_cases hl : l.length ≤ 4096
  · obtain ⟨r, e1, e2, e3⟩ := sort_ok hl
    have hr : r.length = l.length := by rw [e2.length_eq, iota_len]
    rw [e1, bnd2_some, cnd_dec, if_neg (by omega), mk_ok (by omega) (by omega), Int.toNat_natCast]
    simp only [Option.bind_some]
    rw [ids_loop hl]
    simp only [Option.bind_some]
    have hg : ∀ j, j < l.length → gv (iota l.length) j = (j : Int) := fun j hj => by rw [gv_eq (by rw [iota_len]; exact hj), iota_get]
    obtain ⟨d, f1, f2, f3⟩ := stable_ok (l := l) (d := iota l.length) ⟨by rw [iota_len]; exact hl, fun j hj => by rw [iota_len] at hj; rw [hg j hj]; omega⟩ (fun i hi => by rw [iota_len] at hi; exact hg i hi)
    have hd : d.Pairwise (lt2 l) := by
      rw [List.pairwise_iff_getElem]
      intro i j hi hj hij
      rw [← gv_eq hi, ← gv_eq hj]
      exact f3 i j (by omega) hij (by rw [← f2.length_eq]; exact hj)
    unfold tourlaw1_QueueSorts_j2
    rw [f1]
    simp only [Option.bind_some]
    rw [cnd_beq, if_pos rfl, ← uniq e3 hd (e2.trans f2.symm), equal_self _ (by omega)]; rfl
  · rw [sort_long (by omega), bnd2_some, cnd_dec, if_pos (by omega)]; rfl
end Go.Proofs.Ytnognpmkhkkkeaa.X
