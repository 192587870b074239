/- Kill, Put, Drop, Get and Find, in plain Lean: the program's and the reference's. No condition. -/
import Derived.Test.YtbfndcookgijfaaGreatDoorPuSpawnC
namespace Go.Proofs.YtbfndcookgijfaaGreatDoor.C
open Go Go.RowKit Go.Proofs.YtbfndcookgijfaaGreatDoor.Sx Classical
set_option linter.unusedVariables false
set_option linter.unusedSimpArgs false
/-! ### Maps without double keys -/
theorem mdel_cons {κ ν : Type} [DecidableEq κ] (p : κ × ν) (l : List (κ × ν)) (k : κ) : mdel (p :: l) k = if p.1 = k then l else p :: mdel l k := by
  unfold mdel mfind
  rw [List.findIdx?_cons]
  by_cases h : p.1 = k
  · simp [h]
  · simp only [h, decide_false, if_false]
    cases List.findIdx? (fun p => decide (p.1 = k)) l <;> simp
theorem mget_notin {κ ν : Type} [DecidableEq κ] {l : List (κ × ν)} {k : κ} (h : k ∉ l.map Prod.fst) : mget l k = none := by
  unfold mget
  rw [Option.map_eq_none_iff, List.find?_eq_none]
  intro p hp
  rw [decide_eq_true_iff]
  exact fun e => h (List.mem_map.2 ⟨p, hp, e⟩)
theorem mget_mdel {κ ν : Type} [DecidableEq κ] {l : List (κ × ν)} (hn : (l.map Prod.fst).Nodup) (k n : κ) : mget (mdel l k) n = if n = k then none else mget l n := by
  induction l with
  | nil => simp [mdel, mfind, mget]
  | cons p l ih =>
    rw [List.map_cons, List.nodup_cons] at hn
    rw [mdel_cons]
    by_cases hp : p.1 = k
    · rw [if_pos hp]
      by_cases h : n = k
      · rw [if_pos h]; exact mget_notin (by rw [h, ← hp]; exact hn.1)
      · rw [if_neg h]; unfold mget; rw [List.find?_cons_of_neg (by rw [hp]; simpa using fun e : k = n => h e.symm)]
    · rw [if_neg hp]
      by_cases h1 : p.1 = n
      · rw [if_neg (fun e => hp (h1.trans e))]; unfold mget; rw [List.find?_cons_of_pos (by simpa using h1), List.find?_cons_of_pos (by simpa using h1)]
      · have e1 : mget (p :: mdel l k) n = mget (mdel l k) n := by unfold mget; rw [List.find?_cons_of_neg (by simpa using h1)]
        have e2 : mget (p :: l) n = mget l n := by unfold mget; rw [List.find?_cons_of_neg (by simpa using h1)]
        rw [e1, e2, ih hn.2]
theorem mapC_nodup {ks : List api_Kind} {l : List api_Comp} (h : (l.map api_Comp.Kind).Nodup) : ((mapC ks l).map Prod.fst).Nodup := by
  unfold mapC; rw [List.map_map]; exact h
/-! ### Find -/
theorem ent_eq (x : api_Ent) (n g : Int) : (x.N == n && (x.Gen == g)) = decide (x = api_Ent.mk n g) := by
  obtain ⟨p, q⟩ := x
  rw [Bool.eq_iff_iff]
  simp
theorem kindex {items : List api_Item} (n g : Int) (hl : items.length ≤ 140737488355328) :
    (∃ a it b, items = a ++ it :: b ∧ it.Ent = api_Ent.mk n g ∧ slices_IndexFunc_api_Item_api_Item items n g = some (a.length : Int)) ∨ ((∀ it ∈ items, it.Ent ≠ api_Ent.mk n g) ∧ slices_IndexFunc_api_Item_api_Item items n g = some (-1)) := by
  unfold slices_IndexFunc_api_Item_api_Item
  rcases loop_first (step := fun s_ => slices_IndexFunc_api_Item_api_Item_l2 items n g s_) (fun i => (i : Int)) items.length (fun i => ∃ h : i < items.length, items[i].Ent = api_Ent.mk n g) (fun i => (i : Int)) () (fun i hi hp => by
      show slices_IndexFunc_api_Item_api_Item_l2 items n g (i : Int) = _
      unfold slices_IndexFunc_api_Item_api_Item_l2 world_Find_1
      rw [cnd_dec, if_pos (by omega), idx_get hi, Option.bind_some, Option.bind_some, ent_eq, cnd_dec, if_pos hp.2]) (fun i hi hp => by
      show slices_IndexFunc_api_Item_api_Item_l2 items n g (i : Int) = _
      unfold slices_IndexFunc_api_Item_api_Item_l2 world_Find_1
      rw [cnd_dec, if_pos (by omega), idx_get hi, Option.bind_some, Option.bind_some, ent_eq, cnd_dec, if_neg (fun e => hp ⟨hi, e⟩), i64ok (by omega) (by omega)]; rfl) (by
      show slices_IndexFunc_api_Item_api_Item_l2 items n g (items.length : Int) = _
      unfold slices_IndexFunc_api_Item_api_Item_l2
      rw [cnd_dec, if_neg (by omega)]) with ⟨k, k1, ⟨_, k2⟩, k3, k4⟩ | ⟨k1, k2⟩
  · refine .inl ⟨items.take k, items[k], items.drop (k + 1), ?_, k2, ?_⟩
    · rw [← List.drop_eq_getElem_cons k1, List.take_append_drop]
    · have k4' : loop (σ := Int) (ρ := (Int ⊕ Unit)) (fun s_ => slices_IndexFunc_api_Item_api_Item_l2 items n g s_) 0 = _ := k4
      rw [k4', Option.bind_some, Sum.elim_inl, List.length_take, Nat.min_eq_left (by omega)]
  · refine .inr ⟨fun it hit e => ?_, ?_⟩
    · obtain ⟨i, hi, rfl⟩ := List.getElem_of_mem hit
      exact k1 i hi ⟨hi, e⟩
    · have k2' : loop (σ := Int) (ρ := (Int ⊕ Unit)) (fun s_ => slices_IndexFunc_api_Item_api_Item_l2 items n g s_) 0 = _ := k2
      rw [k2', Option.bind_some]; rfl
theorem index_v2 (items : List api_Item) (n g : Int) : slices_IndexFunc_api_Item_api_Item_v2 items n g = slices_IndexFunc_api_Item_api_Item items n g := rfl
/-! ### A component's place -/
theorem up_srtC {l : List api_Comp} (h : Up2 api_Comp.Kind l) : Srt cmpI api_Comp.Kind l := h.imp fun h => (cmpI_lt _ _).2 h
theorem srt_upC {l : List api_Comp} (h : Srt cmpI api_Comp.Kind l) : Up2 api_Comp.Kind l := h.imp fun h => (cmpI_lt _ _).1 h
def headC (b : List api_Comp) (n : Int) : Bool := match b with | [] => false | y :: _ => decide (y.Kind = n)
theorem kat {a b : List api_Comp} {n : Int} (hn : (a ++ b).length ≤ 4611686018427387904) (ha : ∀ x ∈ a, cmpI x.Kind n < 0) (hb : ∀ x ∈ b, ¬ cmpI x.Kind n < 0) :
    world_at (a ++ b) n = some ((a.length : Int), headC b n) := by
  unfold world_at slices_BinarySearchFunc_api_Comp_api_Comp_int
  have oe : ∀ x : api_Comp, world_at_1 x.Kind x.Vals n = some (cmpI x.Kind n) := fun x => by unfold world_at_1; rw [compare_eqW]; rfl
  have h := loop_search (p := fun x : api_Comp => decide (cmpI x.Kind n < 0)) (pe := fun x => world_at_1 x.Kind x.Vals n) hn (fun x hx => decide_eq_true (ha x hx)) (fun x hx => decide_eq_false (hb x hx))
    (step := fun s_ => slices_BinarySearchFunc_api_Comp_api_Comp_int_l3 (a ++ b) n s_.1 s_.2) (fun x _ => ⟨_, oe x, rfl⟩) (fun _ _ => rfl)
  rw [h, Option.bind_some]
  unfold slices_BinarySearchFunc_api_Comp_api_Comp_int_j1 slices_BinarySearchFunc_api_Comp_api_Comp_int_j2
  cases b with
  | nil => rw [cnd_dec, if_neg (by simp)]; rfl
  | cons y b =>
    rw [cnd_dec, if_pos (by simp; omega), idx_get (by simp), Option.bind_some]
    have : (a ++ y :: b)[a.length]'(by simp) = y := by simp
    rw [this, oe, Option.bind_some, bnd2_some]
    congr 2
    unfold headC
    rw [Bool.eq_iff_iff, beq_iff_eq, decide_eq_true_iff]
    exact cmpI_ord.eq _ _
/-! ### A valid world with an entity that is there -/
structure Hit (ks : List api_Kind) (gens : List Int) (a : List api_Item) (it : api_Item) (b : List api_Item) (n : Nat) (g : Int) : Prop where
  v : VW ks gens (a ++ it :: b)
  e : it.Ent = api_Ent.mk (n : Int) g
  lt : n < gens.length
  ge : gens[n]'lt = g
  gr : 0 ≤ g ∧ g < 1073741824
  a : ∀ x ∈ a, x.Ent.N < (n : Int)
  b : ∀ x ∈ b, (n : Int) < x.Ent.N
theorem hit_of {ks : List api_Kind} {gens : List Int} {a b : List api_Item} {it : api_Item} {n g : Int} (h : VW ks gens (a ++ it :: b)) (he : it.Ent = api_Ent.mk n g) : ∃ m : Nat, n = (m : Int) ∧ Hit ks gens a it b m g := by
  obtain ⟨⟨h1, h2⟩, h3, h4⟩ := h.it it (by simp)
  rw [he] at h1 h2 h3
  simp only at h1 h2 h3
  obtain ⟨m, rfl⟩ := Int.eq_ofNat_of_zero_le h1
  rw [Int.toNat_natCast] at h2
  obtain ⟨hlt, hge⟩ := List.getElem?_eq_some_iff.1 h2
  have hgok := h.gok g (hge ▸ List.getElem_mem hlt)
  have hup := h.up
  unfold Up2 at hup
  rw [List.pairwise_append, List.pairwise_cons] at hup
  have hN : it.Ent.N = (m : Int) := by rw [he]
  refine ⟨m, rfl, ⟨h, he, hlt, hge, by omega, fun x hx => ?_, fun x hx => ?_⟩⟩
  · have z : x.Ent.N < it.Ent.N := hup.2.2 x hx it (by simp)
    omega
  · have z : it.Ent.N < x.Ent.N := hup.2.1.1 x hx
    omega
theorem Hit.part {ks : List api_Kind} {gens : List Int} {a b : List api_Item} {it : api_Item} {n : Nat} {g : Int} (h : Hit ks gens a it b n g) : partG (a ++ it :: b) (n : Int) = some it.Comps := by
  unfold partG
  rw [find_rev (fun it : api_Item => it.Ent.N) h.v.up, List.find?_append, List.find?_eq_none.2 (fun x hx => by have := h.a x hx; simp; omega), Option.none_or, List.find?_cons_of_pos (by rw [h.e]; simp)]
  rfl
theorem Hit.held {ks : List api_Kind} {gens : List Int} {a b : List api_Item} {it : api_Item} {n : Nat} {g : Int} (h : Hit ks gens a it b n g) : Up2 api_Comp.Kind it.Comps ∧ (∀ c ∈ it.Comps, 0 ≤ c.Kind ∧ c.Kind < 16) ∧ (∀ c ∈ it.Comps, goodC ks c ∧ fitC ks c = c.Vals) := by
  obtain ⟨_, _, h4⟩ := h.v.it it (by simp)
  obtain ⟨h1, _, h3⟩ := held_iff.1 h4
  exact ⟨h1, fun c hc => by have := good_range (h3 c hc).1; have := h.v.k16; omega, h3⟩
/-- Items of which one slot is told anew. -/
theorem closed_turn {ks : List api_Kind} {gens gens' : List Int} {items items' : List api_Item} {G' : Int → Option (List (Int × List Int))} {n : Nat} (hv : VW ks gens items) (hl : gens'.length = gens.length) (hup : Up2 (fun it : api_Item => it.Ent.N) items') (hr : ∀ it ∈ items', 0 ≤ it.Ent.N ∧ it.Ent.N < (gens.length : Int))
    (ho : ∀ k : Nat, k ≠ n → items'.find? (fun it => decide (it.Ent.N = (k : Int))) = items.find? (fun it => decide (it.Ent.N = (k : Int))) ∧ G' (k : Int) = (partG items (k : Int)).map (mapC ks) ∧ gens'.getD k 0 = gens.getD k 0)
    (hn : items'.find? (fun it => decide (it.Ent.N = (n : Int))) = (G' (n : Int)).map fun m => api_Item.mk (api_Ent.mk (n : Int) (gens'.getD n 0)) (listedM m)) : closedM gens' G' = items' :=
  closed_of hup (fun it hit => by rw [hl]; exact hr it hit) (fun k hk => by
    by_cases e : k = n
    · subst e; exact hn
    · obtain ⟨h1, h2, h3⟩ := ho k e
      rw [h1, h2, h3, hv.find k])
/-! ### What the program finds -/
theorem kfound {ks : List api_Kind} {gens : List Int} {items : List api_Item} (n g : Int) (hz : szK ks) (hg : gens.length * 8 ≤ 140737488351232) (hs : szI items) :
    (wcheckV ks gens items ≠ 0 ∧ world_found ks gens items n g = some ([], [], [], 0, wcheckV ks gens items)) ∨
    (wcheckV ks gens items = 0 ∧ VW ks gens items ∧ (∀ it ∈ items, it.Ent ≠ api_Ent.mk n g) ∧ world_found ks gens items n g = some ([], [], [], 0, 4)) ∨
    (wcheckV ks gens items = 0 ∧ ∃ a it b m, items = a ++ it :: b ∧ n = ((m : Nat) : Int) ∧ Hit ks gens a it b m g ∧ world_found ks gens items n g = some (ks, gens, items, (a.length : Int), 0)) := by
  have hc : ∀ it ∈ items, it.Comps.length ≤ 140737488355328 := fun it hit => by have := (hs.2 it hit).1; omega
  have hu : world_found ks gens items n g = cnd (!(wcheckV ks gens items == 0)) (some (([] : List api_Kind), ([] : List Int), ([] : List api_Item), 0, wcheckV ks gens items)) ((world_Find ks gens items n g).bind fun x7 =>
      cnd (decide (x7 < 0)) (some (([] : List api_Kind), ([] : List Int), ([] : List api_Item), 0, 4)) (bnd3 (world_Copy ks gens items) fun x10 x11 x12 => some (x10, x11, x12, x7, 0))) := by
    unfold world_found
    rw [kwcheck _ _ _ hc, Option.bind_some]
  by_cases h0 : wcheckV ks gens items = 0
  · have hv := vw_of h0
    have hl : items.length ≤ 140737488355328 := by have := hv.il; have := hv.g256; omega
    rw [cnd_not, cnd_beq, if_pos h0] at hu
    unfold world_Find at hu
    rcases kindex n g hl with ⟨a, it, b, rfl, he, hx⟩ | ⟨hno, hx⟩
    · obtain ⟨m, rfl, hh⟩ := hit_of hv he
      refine .inr (.inr ⟨h0, a, it, b, m, rfl, rfl, hh, ?_⟩)
      rw [hu, hx, Option.bind_some, Option.bind_some, cnd_dec, if_neg (by omega), kcopyw hz (by omega) hs, bnd3_some]
    · refine .inr (.inl ⟨h0, hv, hno, ?_⟩)
      rw [hu, hx, Option.bind_some, Option.bind_some, cnd_dec, if_pos (by omega)]
  · refine .inl ⟨h0, ?_⟩
    rw [hu, cnd_not, cnd_beq, if_neg h0]
/-! ### Whether the reference has it -/
theorem rhas_hit {ks ks0 : List api_Kind} {gens : List Int} {a b : List api_Item} {it : api_Item} {n : Nat} {g : Int} {parts : List (Int × Option (List (Int × List Int)))} (h : Hit ks gens a it b n g) (hG : ∀ n, (mget parts n).getD none = (partG (a ++ it :: b) n).map (mapC ks)) :
    tourref3_Flat_Has_v2 ks0 gens parts (n : Int) g = some true := by
  have := h.lt
  unfold tourref3_Flat_Has_v2 tourref3_Flat_Has_v2_j1
  rw [cnd_dec, if_pos (by omega), cnd_dec, if_pos (by omega), hG, h.part]
  show ((idx gens (n : Int)).bind fun x24 => some (x24 == g)) = some true
  rw [idx_get h.lt, h.ge, Option.bind_some, beq_self_eq_true]
theorem rhas_miss {ks ks0 : List api_Kind} {gens : List Int} {items : List api_Item} {n g : Int} {parts : List (Int × Option (List (Int × List Int)))} (h : VW ks gens items) (hno : ∀ it ∈ items, it.Ent ≠ api_Ent.mk n g) (hG : ∀ n, (mget parts n).getD none = (partG items n).map (mapC ks)) :
    tourref3_Flat_Has_v2 ks0 gens parts n g = some false := by
  unfold tourref3_Flat_Has_v2 tourref3_Flat_Has_v2_j1
  rw [cnd_dec]
  by_cases h0 : 0 ≤ n
  · rw [if_pos h0, cnd_dec]
    by_cases h1 : n < (gens.length : Int)
    · rw [if_pos h1, hG]
      cases hp : partG items n with
      | none => rfl
      | some l =>
        show ((idx gens n).bind fun x24 => some (x24 == g)) = some false
        obtain ⟨it, hit, hN, _⟩ := partG_mem hp
        obtain ⟨⟨_, h3⟩, _, _⟩ := h.it it hit
        obtain ⟨m, rfl⟩ := Int.eq_ofNat_of_zero_le h0
        rw [hN, Int.toNat_natCast] at h3
        obtain ⟨hlt, hge⟩ := List.getElem?_eq_some_iff.1 h3
        rw [idx_get hlt, hge, Option.bind_some]
        congr 1
        rw [beq_eq_false_iff_ne]
        intro e
        refine hno it hit ?_
        obtain ⟨⟨p, q⟩, c⟩ := it
        simp only at hN e ⊢
        rw [hN, e]
    · rw [if_neg h1]
  · rw [if_neg h0]
end Go.Proofs.YtbfndcookgijfaaGreatDoor.C
