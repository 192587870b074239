/- Free and Spawn, in plain Lean: the program's and the reference's. No condition. -/
import Derived.Test.YtbfndcookgijfaaGreatDoorPuFlatW
namespace Go.Proofs.YtbfndcookgijfaaGreatDoor.W
open Go Go.RowKit Go.Proofs.YtbfndcookgijfaaGreatDoor.Sx Classical
set_option linter.unusedVariables false
set_option linter.unusedSimpArgs false
theorem compare_eqW (x y : Int) : cmp_Compare_int x y = some (cmpI x y) := by
  unfold cmp_Compare_int cmp_isNaN_int cmpI
  simp only [Option.bind_some, cnd_dec]
  split
  · rfl
  · split <;> rfl
/-! ### The slot -/
def usedB (items : List api_Item) (n : Nat) : Bool := items.any fun it => it.Ent.N == (n : Int)
def freeB (gens : List Int) (items : List api_Item) (n : Nat) : Prop := usedB items n = false ∧ gens.getD n 0 < 1073741824
noncomputable def roomV (gens : List Int) (items : List api_Item) : Int × Bool := match (List.range gens.length).find? fun n => decide (freeB gens items n) with
  | some n => ((n : Int), true)
  | none => ((gens.length : Int), decide ((gens.length : Int) < 256))
theorem used_loop {items : List api_Item} {m : Nat} (hm : m ≤ 1000000) (hl : items.length ≤ 1000000) : ∃ r, loop (σ := (List Bool) × Int) (ρ := (List Bool)) (fun s_ => world_Free_l5 items s_.1 s_.2) (List.replicate m false, 0) = some r ∧ r.length = m ∧ ∀ n (h : n < r.length), r[n] = usedB items n := by
  obtain ⟨r, h1, h2⟩ := loop_keeps (step := fun s_ : List Bool × Int => world_Free_l5 items s_.1 s_.2) items.length (fun i s => s.2 = (i : Int) ∧ s.1.length = m ∧ ∀ n (h : n < s.1.length), s.1[n] = usedB (items.take i) n) (fun r => r.length = m ∧ ∀ n (h : n < r.length), r[n] = usedB items n)
    (fun i s hi ⟨e1, e2, e3⟩ => by
      obtain ⟨u, j⟩ := s
      simp only at e1 e2 e3; subst e1
      have hu : ∀ n, usedB (items.take (i + 1)) n = (usedB (items.take i) n || items[i].Ent.N == (n : Int)) := fun n => by
        unfold usedB; rw [List.take_succ_eq_append_getElem hi, List.any_append]; simp
      have hw : IntKind.i64.wrap ((i : Int) + 1) = ((i + 1 : Nat) : Int) := by rw [i64ok (by omega) (by omega)]; rfl
      show ∃ s', world_Free_l5 items u (i : Int) = _ ∧ _
      unfold world_Free_l5 world_Free_j6
      rw [cnd_dec, if_pos (by omega), idx_get hi, Option.bind_some, cnd_dec]
      by_cases h0 : 0 ≤ items[i].Ent.N
      · rw [if_pos h0, cnd_dec]
        by_cases h1 : items[i].Ent.N < (u.length : Int)
        · rw [if_pos h1, idx_getD false h0 h1, Option.bind_some, upd_int h0 h1, Option.bind_some, hw]
          refine ⟨_, rfl, rfl, by simp only [List.length_set]; exact e2, fun n h => ?_⟩
          simp only [List.length_set] at h
          show (u.set items[i].Ent.N.toNat true)[n]'_ = _
          rw [hu, List.getElem_set]
          by_cases he : items[i].Ent.N.toNat = n
          · rw [if_pos he]
            have : items[i].Ent.N = (n : Int) := by omega
            rw [this]; simp
          · rw [if_neg he, e3 n h]
            have : (items[i].Ent.N == (n : Int)) = false := beq_eq_false_iff_ne.2 (by omega)
            rw [this, Bool.or_false]
        · rw [if_neg h1, hw]
          refine ⟨_, rfl, rfl, e2, fun n h => ?_⟩
          simp only at h
          show u[n] = _
          have : (items[i].Ent.N == (n : Int)) = false := beq_eq_false_iff_ne.2 (by omega)
          rw [hu, e3 n h, this, Bool.or_false]
      · rw [if_neg h0, hw]
        refine ⟨_, rfl, rfl, e2, fun n h => ?_⟩
        simp only at h
        show u[n] = _
        have : (items[i].Ent.N == (n : Int)) = false := beq_eq_false_iff_ne.2 (by omega)
        rw [hu, e3 n h, this, Bool.or_false])
    (fun s ⟨e1, e2, e3⟩ => by
      obtain ⟨u, j⟩ := s
      simp only at e1 e2 e3; subst e1
      rw [List.take_length] at e3
      refine ⟨u, ?_, e2, e3⟩
      simp only
      unfold world_Free_l5
      rw [cnd_dec, if_neg (by omega)]) (s := (List.replicate m false, 0)) ⟨rfl, by simp, fun n h => by simp [usedB]⟩
  exact ⟨r, h1, h2⟩
theorem find_range {p : Nat → Bool} {m k : Nat} (hk : k < m) (hp : p k = true) (hn : ∀ j, j < k → p j = false) : (List.range m).find? p = some k := by
  rw [List.find?_range_eq_some]
  exact ⟨hp, by simpa using hk, fun j hj => by simp [hn j hj]⟩
theorem kfree {ks : List api_Kind} {gens : List Int} {items : List api_Item} (hg : gens.length ≤ 1000000) (hl : items.length ≤ 1000000) : world_Free ks gens items = some (roomV gens items) := by
  unfold world_Free
  rw [mk_ok (by omega) (by rw [Int.toNat_natCast]; omega), Int.toNat_natCast, Option.bind_some]
  obtain ⟨r, h1, h2, h3⟩ := used_loop (items := items) (m := gens.length) hg hl
  rw [h1, Option.bind_some]
  unfold world_Free_j1
  have hfree : ∀ i (hi : i < gens.length), world_Free_l3 gens r (i : Int) = if freeB gens items i then some (.inr (.inl ((i : Int), true))) else some (.inl ((i + 1 : Nat) : Int)) := fun i hi => by
    have hw : IntKind.i64.wrap ((i : Int) + 1) = ((i + 1 : Nat) : Int) := by rw [i64ok (by omega) (by omega)]; rfl
    have hgd : gens.getD i 0 = gens[i] := by rw [List.getD_eq_getElem?_getD, List.getElem?_eq_getElem hi]; rfl
    unfold world_Free_l3 world_Free_j4 freeB
    rw [cnd_dec, if_pos (by omega), idx_get hi, Option.bind_some, idx_get (by omega), Option.bind_some, h3 i (by omega), cnd_not, hw, hgd]
    cases hu : usedB items i
    · rw [cnd_false, cnd_dec]
      by_cases hlt : gens[i] < 1073741824
      · rw [if_pos hlt, if_pos ⟨rfl, hlt⟩]
      · rw [if_neg hlt, if_neg (fun h => hlt h.2)]
    · rw [cnd_true, if_neg (fun h => by cases h.1)]
  have hend : world_Free_l3 gens r (gens.length : Int) = some (.inr (.inr ())) := by unfold world_Free_l3; rw [cnd_dec, if_neg (by omega)]
  rcases loop_first (step := fun s_ => world_Free_l3 gens r s_) (fun i => (i : Int)) gens.length (fun i => freeB gens items i) (fun i => ((i : Int), true)) () (fun i hi hp => by rw [hfree i hi, if_pos hp]) (fun i hi hp => by rw [hfree i hi, if_neg hp]) hend with ⟨k, k1, k2, k3, k4⟩ | ⟨k1, k2⟩
  · rw [show (0 : Int) = ((0 : Nat) : Int) from rfl, k4]
    unfold roomV
    rw [find_range k1 (decide_eq_true k2) (fun j hj => decide_eq_false (k3 j hj))]
    rfl
  · rw [show (0 : Int) = ((0 : Nat) : Int) from rfl, k2]
    unfold roomV world_Free_j2
    rw [List.find?_eq_none.2 (fun n hn => by simpa using k1 n (List.mem_range.1 hn))]
    rfl
theorem used_part (items : List api_Item) (n : Nat) : (partG items (n : Int)).isNone = !usedB items n := by
  unfold partG usedB
  rw [Option.isNone_map, Bool.eq_iff_iff, Option.isNone_iff_eq_none, List.find?_eq_none, Bool.not_eq_true', List.any_eq_false]
  constructor
  · intro h x hx; have := h x (List.mem_reverse.2 hx); simpa using this
  · intro h x hx; have := h x (List.mem_reverse.1 hx); simpa using this
theorem rroom {ks : List api_Kind} {gens : List Int} {items : List api_Item} {ks0 : List api_Kind} {parts : List (Int × Option (List (Int × List Int)))} (hg : gens.length ≤ 256) (hG : ∀ n, (mget parts n).getD none = (partG items n).map (mapC ks0)) :
    tourref3_Flat_Room ks gens parts = some (roomV gens items) := by
  unfold tourref3_Flat_Room
  have hfree : ∀ i (hi : i < gens.length), tourref3_Flat_Room_l2 gens parts (i : Int) = if freeB gens items i then some (.inr (.inl ((i : Int), true))) else some (.inl ((i + 1 : Nat) : Int)) := fun i hi => by
    have hw : IntKind.i64.wrap ((i : Int) + 1) = ((i + 1 : Nat) : Int) := by rw [i64ok (by omega) (by omega)]; rfl
    have hgd : gens.getD i 0 = gens[i] := by rw [List.getD_eq_getElem?_getD, List.getElem?_eq_getElem hi]; rfl
    unfold tourref3_Flat_Room_l2 tourref3_Flat_Room_j3 freeB
    rw [cnd_dec, if_pos (by omega), cnd_dec, if_neg (by omega), Option.bind_some, hG, Option.isNone_map, used_part, cnd_not, idx_get hi, Option.bind_some, hw, hgd]
    cases hu : usedB items i
    · rw [cnd_false, cnd_dec]
      by_cases hlt : gens[i] < 1073741824
      · rw [if_pos hlt, if_pos ⟨rfl, hlt⟩]
      · rw [if_neg hlt, if_neg (fun h => hlt h.2)]
    · rw [cnd_true, if_neg (fun h => by cases h.1)]
  rw [show (0 : Int) = ((0 : Nat) : Int) from rfl]
  unfold roomV
  cases hf : (List.range gens.length).find? (fun n => decide (freeB gens items n)) with
  | some k =>
    obtain ⟨k1, k2, k3⟩ := List.find?_range_eq_some.1 hf
    have k2' : k < gens.length := by simpa using k2
    rw [loop_to (step := fun s_ => tourref3_Flat_Room_l2 gens parts s_) (fun i => (i : Int)) k (r := .inl ((k : Int), true)) (fun i hi => by
      show tourref3_Flat_Room_l2 gens parts (i : Int) = _
      have := k3 i hi
      rw [hfree i (by omega), if_neg (by simpa using this)]) (by
      show tourref3_Flat_Room_l2 gens parts (k : Int) = _
      rw [hfree k k2', if_pos (by simpa using k1)])]
    rfl
  | none =>
    have hall : ∀ i, i < gens.length → ¬ freeB gens items i := fun i hi => by
      have := List.find?_eq_none.1 hf i (List.mem_range.2 hi)
      simpa using this
    by_cases h : gens.length < 256
    · rw [loop_to (step := fun s_ => tourref3_Flat_Room_l2 gens parts s_) (fun i => (i : Int)) gens.length (r := .inl ((gens.length : Int), true)) (fun i hi => by
        show tourref3_Flat_Room_l2 gens parts (i : Int) = _
        rw [hfree i hi, if_neg (hall i hi)]) (by
        show tourref3_Flat_Room_l2 gens parts (gens.length : Int) = _
        unfold tourref3_Flat_Room_l2
        rw [cnd_dec, if_pos (by omega), cnd_dec, if_pos (by omega)])]
      have h2 : decide ((gens.length : Int) < 256) = true := decide_eq_true (by omega)
      simp only [Option.bind_some, Sum.elim_inl, h2]
    · rw [loop_to (step := fun s_ => tourref3_Flat_Room_l2 gens parts s_) (fun i => (i : Int)) gens.length (r := .inr ()) (fun i hi => by
        show tourref3_Flat_Room_l2 gens parts (i : Int) = _
        rw [hfree i hi, if_neg (hall i hi)]) (by
        show tourref3_Flat_Room_l2 gens parts (gens.length : Int) = _
        unfold tourref3_Flat_Room_l2
        rw [cnd_dec, if_neg (by omega)])]
      have h2 : decide ((gens.length : Int) < 256) = false := decide_eq_false (by omega)
      simp only [Option.bind_some, Sum.elim_inr, h2, tourref3_Flat_Room_j1]
theorem room_spec {gens : List Int} {items : List api_Item} {n : Int} {ok : Bool} (h : roomV gens items = (n, ok)) (hok : ok = true) : ∃ m : Nat, n = (m : Int) ∧ (m < gens.length ∧ freeB gens items m ∨ m = gens.length ∧ m < 256) := by
  unfold roomV at h
  cases hf : (List.range gens.length).find? (fun n => decide (freeB gens items n)) with
  | some k =>
    obtain ⟨k1, k2, k3⟩ := List.find?_range_eq_some.1 hf
    rw [hf] at h
    simp only [Prod.mk.injEq] at h
    exact ⟨k, h.1.symm, .inl ⟨by simpa using k2, by simpa using k1⟩⟩
  | none =>
    rw [hf] at h
    simp only [Prod.mk.injEq] at h
    obtain ⟨h1, h2⟩ := h
    rw [hok] at h2
    have := of_decide_eq_true h2
    exact ⟨gens.length, h1.symm, .inr ⟨rfl, by omega⟩⟩
/-! ### Spawn -/
theorem search_item {a b : List api_Item} {n : Int} (hn : (a ++ b).length ≤ 4611686018427387904) (ha : ∀ x ∈ a, cmpI x.Ent.N n < 0) (hb : ∀ x ∈ b, ¬ cmpI x.Ent.N n < 0) :
    slices_BinarySearchFunc_api_Item_api_Item_int (a ++ b) n = some ((a.length : Int), match b with | [] => false | y :: _ => decide (y.Ent.N = n)) := by
  unfold slices_BinarySearchFunc_api_Item_api_Item_int
  have oe : ∀ x : api_Item, world_Spawn_1 x.Ent.N x.Ent.Gen x.Comps n = some (cmpI x.Ent.N n) := fun x => by unfold world_Spawn_1; rw [compare_eqW]; rfl
  have h := loop_search (p := fun x : api_Item => decide (cmpI x.Ent.N n < 0)) (pe := fun x => world_Spawn_1 x.Ent.N x.Ent.Gen x.Comps n) hn (fun x hx => decide_eq_true (ha x hx)) (fun x hx => decide_eq_false (hb x hx))
    (step := fun s_ => slices_BinarySearchFunc_api_Item_api_Item_int_l3 (a ++ b) n s_.1 s_.2) (fun x _ => ⟨_, oe x, rfl⟩) (fun _ _ => rfl)
  rw [h, Option.bind_some]
  unfold slices_BinarySearchFunc_api_Item_api_Item_int_j1 slices_BinarySearchFunc_api_Item_api_Item_int_j2
  cases b with
  | nil => rw [cnd_dec, if_neg (by simp)]
  | cons y b =>
    rw [cnd_dec, if_pos (by simp; omega), idx_get (by simp), Option.bind_some]
    have : (a ++ y :: b)[a.length]'(by simp) = y := by simp
    rw [this, oe, Option.bind_some]
    congr 2
    rw [Bool.eq_iff_iff, beq_iff_eq, decide_eq_true_iff]
    exact cmpI_ord.eq _ _
theorem up_srt {items : List api_Item} (h : Up2 (fun it : api_Item => it.Ent.N) items) : Srt cmpI (fun it : api_Item => it.Ent.N) items := h.imp fun h => (cmpI_lt _ _).2 h
theorem srt_up {items : List api_Item} (h : Srt cmpI (fun it : api_Item => it.Ent.N) items) : Up2 (fun it : api_Item => it.Ent.N) items := h.imp fun h => (cmpI_lt _ _).1 h
def gensP (gens : List Int) (m : Nat) : List Int := if m = gens.length then gens ++ [0] else gens
/-- What the program and the reference make of a new entity, side by side. -/
theorem spawn_both {ks : List api_Kind} {gens : List Int} {items : List api_Item} {parts : List (Int × Option (List (Int × List Int)))} {l : List api_Comp} {m : Nat} (hv : VW ks gens items) (hz : szK ks) (hs : szI items) (hsl : ∀ c ∈ l, c.Vals.length * 8 ≤ 140737488355328)
    (hG : ∀ n, (mget parts n).getD none = (partG items n).map (mapC ks)) (hm : m < gens.length ∧ freeB gens items m ∨ m = gens.length ∧ m < 256) :
    ∃ items' g, world_Spawn_j1 (m : Int) items (listedC ks l) ks (gensP gens m) = some (ks, gensP gens m, items', (m : Int), g, 0) ∧
      tourref3_Flat_Spawn_j1 parts (m : Int) (some (mapC ks l)) (gensP gens m) = some ((m : Int), g, 0, gensP gens m, mput parts (m : Int) (some (mapC ks l))) ∧
      tourref3_Flat_Close ks (gensP gens m) (mput parts (m : Int) (some (mapC ks l))) = some (ks, gensP gens m, items') ∧ szI items' := by
  have hgl : m < (gensP gens m).length ∧ gens.length ≤ (gensP gens m).length ∧ (gensP gens m).length ≤ 256 := by
    have := hv.g256
    unfold gensP
    rcases hm with ⟨h1, _⟩ | ⟨h1, h2⟩
    · rw [if_neg (by omega)]; omega
    · rw [if_pos h1, List.length_append]; simp; omega
  have hgd : ∀ n, n < gens.length → (gensP gens m).getD n 0 = gens.getD n 0 := fun n hn => by
    unfold gensP
    split
    · rw [List.getD_eq_getElem?_getD, List.getElem?_append_left hn, List.getD_eq_getElem?_getD]
    · rfl
  have hun : ∀ it ∈ items, it.Ent.N ≠ (m : Int) := fun it hit e => by
    rcases hm with ⟨_, h2⟩ | ⟨h1, _⟩
    · have := h2.1
      unfold usedB at this
      rw [List.any_eq_false] at this
      have := this it hit
      rw [e] at this; simp at this
    · have := hv.range hit; omega
  obtain ⟨a, b, rfl, ha, hb⟩ := (up_srt hv.up).split cmpI_ord (m : Int)
  have hil := hv.il
  have hg2 := hv.g256
  obtain ⟨g, hg⟩ : ∃ g, (gensP gens m)[m]'hgl.1 = g := ⟨_, rfl⟩
  have hnew := put_new (kf := fun it : api_Item => it.Ent.N) (e := api_Item.mk (api_Ent.mk (m : Int) g) (listedC ks l)) cmpI_ord (up_srt hv.up) ha hb (fun y hy => hun y (List.mem_append_right _ (List.mem_of_mem_head? hy)))
  obtain ⟨n1, n2, n3⟩ := hnew
  have hszl : szC (listedC ks l) := by
    refine ⟨?_, fun c hc => ?_⟩
    · have := pickR_len 16 fun n => (l.find? fun c => decide (c.Kind = n)).map (normC ks)
      unfold listedC; omega
    · unfold listedC pickR at hc
      obtain ⟨n, _, hn⟩ := List.mem_filterMap.1 hc
      obtain ⟨x, hx, rfl⟩ := Option.map_eq_some_iff.1 hn
      have h1 := hsl x (List.mem_of_find?_eq_some hx)
      have h2 := fitC_len ks x
      show (fitC ks x).length * 8 ≤ _
      omega
  refine ⟨a ++ api_Item.mk (api_Ent.mk (m : Int) g) (listedC ks l) :: b, g, ?_, ?_, ?_, ?_⟩
  · unfold world_Spawn_j1
    rw [idx_get hgl.1, hg, Option.bind_some, search_item (by omega) ha hb, bnd2_some]
    unfold slices_Insert_api_Item_api_Item
    rw [ins_at (by simp) (by simp only [List.length_cons, List.length_nil]; omega), Option.bind_some, List.append_assoc, List.singleton_append]
  · unfold tourref3_Flat_Spawn_j1
    rw [Option.bind_some, idx_get hgl.1, hg, Option.bind_some]
  · have hG' : ∀ n, (mget (mput parts (m : Int) (some (mapC ks l))) n).getD none = if n = (m : Int) then some (mapC ks l) else (partG (a ++ b) n).map (mapC ks) := fun n => by
      rw [mget_putS]
      by_cases h : n = (m : Int)
      · rw [if_pos h, if_pos h]; rfl
      · rw [if_neg h, if_neg h, hG]
    rw [rcloseM hz (by omega) hG' (fun n mm hmm => by
      by_cases h : n = (m : Int)
      · rw [if_pos h] at hmm
        obtain rfl := Option.some.inj hmm
        exact fitC_szM hsl
      · rw [if_neg h] at hmm
        obtain ⟨l0, hl0, rfl⟩ := Option.map_eq_some_iff.1 hmm
        obtain ⟨it, hit, _, rfl⟩ := partG_mem hl0
        exact fitC_szM (hs.2 it hit).2)]
    congr 2
    congr 1
    refine closed_of (srt_up n1) (fun it hit => ?_) (fun n hn => ?_)
    · rcases List.mem_append.1 hit with h | h
      · have := hv.range (List.mem_append_left b h); omega
      · rcases List.mem_cons.1 h with rfl | h
        · show 0 ≤ (m : Int) ∧ (m : Int) < _; omega
        · have := hv.range (List.mem_append_right a h); omega
    · have := n2 (n : Int)
      unfold getK at this
      rw [this]
      by_cases h : (n : Int) = (m : Int)
      · have hnm : n = m := by omega
        subst hnm
        rw [if_pos rfl, if_pos rfl, Option.map_some, ← listedC_M]
        have : (gensP gens n).getD n 0 = g := by rw [List.getD_eq_getElem?_getD, List.getElem?_eq_getElem hgl.1, hg]; rfl
        rw [this]
      · rw [if_neg h, if_neg h]
        have hlt : n < gens.length := by
          unfold gensP at hn
          rcases hm with ⟨h1, _⟩ | ⟨h1, h2⟩
          · rw [if_neg (by omega)] at hn; exact hn
          · rw [if_pos h1, List.length_append] at hn; simp at hn; omega
        have hf := hv.find n
        rw [hf, hgd n hlt]
  · refine ⟨by simp only [List.length_append, List.length_cons] at hil ⊢; omega, fun it hit => ?_⟩
    rcases List.mem_append.1 hit with h | h
    · exact hs.2 it (List.mem_append_left _ h)
    · rcases List.mem_cons.1 h with rfl | h
      · exact hszl
      · exact hs.2 it (List.mem_append_right _ h)
end Go.Proofs.YtbfndcookgijfaaGreatDoor.W
