/- The plain law of Kill, Put, Drop, Get and Find. No condition. -/
import Derived.Test.YtbfndcookgijfaaGreatDoorPuChanges3C
namespace Go.Proofs.YtbfndcookgijfaaGreatDoor.C
open Go Go.RowKit Go.Proofs.YtbfndcookgijfaaGreatDoor.Sx Classical
set_option linter.unusedVariables false
set_option linter.unusedSimpArgs false
theorem sz_worldS {k : List api_Kind} {g : List Int} {l : List api_Item} (h : ok_api_World (api_World.mk k g l)) : szK k ∧ g.length * 8 ≤ 140737488351232 ∧ szI l := by
  obtain ⟨h1, h2, h3⟩ := h
  refine ⟨⟨h1.1, fun i hi => (h1.2 _ (List.getElem_mem hi)).2.1⟩, h2.1, ⟨Nat.le_trans h3.1 (by omega), fun it hit => ?_⟩⟩
  have h4 := (h3.2 it hit).2
  exact ⟨Nat.le_trans h4.1 (by omega), fun c hc => Nat.le_trans (h4.2 c hc).2.1 (by omega)⟩
theorem same_zero {e : Int} (he : e ≠ 0) : tourlaw3_same [] [] [] e = some true := by
  unfold tourlaw3_same
  rw [cnd_not, cnd_beq, if_neg he, rsamew ⟨by simp, fun i hi => by simp at hi⟩ (by simp) ⟨by simp, fun it hit => by simp at hit⟩]
  simp
theorem same_zero2 {e : Int} (he : e ≠ 0) (a : List api_Kind) (b : List Int) (c : List (Int × Option (List (Int × List Int)))) : tourlaw3_same_v2 [] [] [] a b c e = some true := by
  unfold tourlaw3_same_v2
  rw [cnd_not, cnd_beq, if_neg he, rsamew ⟨by simp, fun i hi => by simp at hi⟩ (by simp) ⟨by simp, fun it hit => by simp at hit⟩]
  simp
theorem same_eq {ks : List api_Kind} {gens : List Int} {items : List api_Item} {parts : List (Int × Option (List (Int × List Int)))} (hz : szK ks) (hg : gens.length ≤ 140737488355328) (hs : szI items) (h : tourref3_Flat_Close ks gens parts = some (ks, gens, items)) : tourlaw3_same_v2 ks gens items ks gens parts 0 = some true := by
  unfold tourlaw3_same_v2
  rw [cnd_not, cnd_beq, if_pos rfl, h, bnd3_some, rsamew hz hg hs]
  simp
section
variable {ks : List api_Kind} {gens : List Int} {items : List api_Item} {n g k : Int} {c : api_Comp}
/-- What stands ahead of all acts. -/
theorem ways (hk : ∀ i (h : i < ks.length), oks ks[i].Name ∧ ∀ j (hj : j < ks[i].Fields.length), oks ks[i].Fields[j].Name) (hz : szK ks) (hg : gens.length * 8 ≤ 140737488351232) (hs : szI items) (n g : Int) :
    (wcheckV ks gens items ≠ 0 ∧ world_found ks gens items n g = some ([], [], [], 0, wcheckV ks gens items) ∧ tourref3_Open ks gens items = some (.inl (wcheckV ks gens items))) ∨
    (∃ parts, VW ks gens items ∧ (∀ it ∈ items, it.Ent ≠ api_Ent.mk n g) ∧ world_found ks gens items n g = some ([], [], [], 0, 4) ∧ world_Check ks gens items = some 0 ∧ world_Find ks gens items n g = some (-1) ∧ (∀ n, (mget parts n).getD none = (partG items n).map (mapC ks)) ∧ tourref3_Open ks gens items = some (.inr (ks, gens, parts))) ∨
    (∃ parts a it b m, items = a ++ it :: b ∧ n = ((m : Nat) : Int) ∧ Hit ks gens a it b m g ∧ world_found ks gens items n g = some (ks, gens, items, (a.length : Int), 0) ∧ world_Check ks gens items = some 0 ∧ world_Find ks gens items n g = some (a.length : Int) ∧ (∀ n, (mget parts n).getD none = (partG items n).map (mapC ks)) ∧ (parts.map Prod.fst).Nodup ∧ tourref3_Open ks gens items = some (.inr (ks, gens, parts))) := by
  have hc : ∀ it ∈ items, it.Comps.length ≤ 140737488355328 := fun it hit => by have := (hs.2 it hit).1; omega
  rcases kfound n g hz hg hs with ⟨h0, h1⟩ | ⟨h0, hv, hno, h1⟩ | ⟨h0, a, it, b, m, rfl, rfl, hh, h1⟩
  · rcases ropen (gens := gens) (items := items) hk hz (by omega) hs with ⟨_, h2⟩ | ⟨h2, _⟩
    · exact .inl ⟨h0, h1, h2⟩
    · exact absurd h2 h0
  · rcases ropen (gens := gens) (items := items) hk hz (by omega) hs with ⟨h2, _⟩ | ⟨_, parts, hG, hn, h2⟩
    · exact absurd h0 h2
    · refine .inr (.inl ⟨parts, hv, hno, h1, by rw [kwcheck _ _ _ hc, h0], ?_, hG, h2⟩)
      have hl : items.length ≤ 140737488355328 := by have := hv.il; have := hv.g256; omega
      unfold world_Find
      rcases kindex n g hl with ⟨a, it, b, rfl, he, _⟩ | ⟨_, hx⟩
      · exact absurd he (hno it (by simp))
      · rw [hx]; rfl
  · rcases ropen (gens := gens) hk hz (by omega) hs with ⟨h2, _⟩ | ⟨_, parts, hG, hn, h2⟩
    · exact absurd h0 h2
    · refine .inr (.inr ⟨parts, a, it, b, m, rfl, rfl, hh, h1, by rw [kwcheck _ _ _ hc, h0], ?_, hG, hn, h2⟩)
      have hx := h1
      unfold world_found at hx
      rw [kwcheck _ _ _ hc, Option.bind_some, h0, cnd_not, cnd_beq, if_pos rfl] at hx
      obtain ⟨i, e1, hx⟩ := obind hx
      rw [e1]
      rw [cnd_dec] at hx
      by_cases hi : i < 0
      · rw [if_pos hi] at hx; simp at hx
      · rw [if_neg hi, kcopyw hz (by omega) hs, bnd3_some] at hx
        simp only [Option.some.injEq, Prod.mk.injEq] at hx
        rw [hx.2.2.2.1]
theorem get_law (hk : ∀ i (h : i < ks.length), oks ks[i].Name ∧ ∀ j (hj : j < ks[i].Fields.length), oks ks[i].Fields[j].Name) (hz : szK ks) (hg : gens.length * 8 ≤ 140737488351232) (hs : szI items) : tourlaw3_WorldChanges_j3 ks gens items n g k = some true := by
  have hc : ∀ it ∈ items, it.Comps.length ≤ 140737488355328 := fun it hit => by have := (hs.2 it hit).1; omega
  have e00 : slices_Equal_int_int ([] : List Int) [] = some true := by rw [equal_ints (by simp)]; rfl
  unfold tourlaw3_WorldChanges_j3
  rcases ways hk hz hg hs n g with ⟨h0, h1, h2⟩ | ⟨parts, hv, hno, h1, h3, h4, hG, h2⟩ | ⟨parts, a, it, b, m, rfl, rfl, hh, h1, h3, h4, hG, hn, h2⟩
  · rw [h2]
    unfold world_Get
    rw [kwcheck _ _ _ hc, Option.bind_some, cnd_not, cnd_beq, if_neg h0, bnd2_some, Option.bind_some, Sum.elim_inl, cnd_beq, if_neg h0]
    unfold tourlaw3_WorldChanges_j4 tourlaw3_WorldChanges_j5
    rw [cnd_pos (by simp), e00]; rfl
  · rw [h2]
    unfold world_Get
    rw [h3, Option.bind_some, cnd_not, cnd_pos (by rfl), h4, Option.bind_some, cnd_dec, if_pos (by omega), bnd2_some, Option.bind_some, Sum.elim_inr]
    simp only [un3]
    unfold tourref3_Flat_Get_v2
    rw [rhas_miss hv hno hG, Option.bind_some, cnd_not, cnd_false, bnd2_some, cnd_pos (by rfl), e00]; rfl
  · obtain ⟨r, e1, e2, e3⟩ := get_act hh hs hG k h3 h4
    obtain ⟨r1, r2⟩ := r
    rw [e1, bnd2_some, h2, Option.bind_some, Sum.elim_inr]
    simp only [un3]
    rw [e2, bnd2_some, cnd_pos (by simp), equal_ints e3]
    simp [tourlaw3_WorldChanges_j6]
theorem drop_law (hk : ∀ i (h : i < ks.length), oks ks[i].Name ∧ ∀ j (hj : j < ks[i].Fields.length), oks ks[i].Fields[j].Name) (hz : szK ks) (hg : gens.length * 8 ≤ 140737488351232) (hs : szI items) : tourlaw3_WorldChanges_j2 ks gens items n g k = some true := by
  have hget := get_law (n := n) (g := g) (k := k) hk hz hg hs
  unfold tourlaw3_WorldChanges_j2
  rcases ways hk hz hg hs n g with ⟨h0, h1, h2⟩ | ⟨parts, hv, hno, h1, h3, h4, hG, h2⟩ | ⟨parts, a, it, b, m, rfl, rfl, hh, h1, h3, h4, hG, hn, h2⟩
  · rw [h2]
    unfold world_Drop
    rw [h1, bnd5_some, cnd_not, cnd_beq, if_neg h0, bnd4_some, Option.bind_some, Sum.elim_inl, cnd_beq, if_neg h0]
    unfold tourlaw3_WorldChanges_j7
    rw [cnd_not, cnd_pos (by simp), same_zero h0, Option.bind_some, cnd_not, cnd_true, hget]
  · rw [h2]
    unfold world_Drop
    rw [h1, bnd5_some, cnd_not, cnd_beq, if_neg (by decide), bnd4_some, Option.bind_some, Sum.elim_inr]
    simp only [un3]
    unfold tourlaw3_WorldChanges_4_v2 tourref3_Flat_Drop_v2 tourref3_Flat_Get_v2
    rw [rhas_miss hv hno hG, Option.bind_some, cnd_not, cnd_false, bnd2_some, cnd_not, cnd_beq, if_neg (by decide), bnd2_some, bnd2_some, cnd_not, cnd_pos (by simp), same_zero2 (by decide), Option.bind_some, cnd_not, cnd_true, hget]
  · rw [h2]
    rcases drop_act hh hz hs hG k h1 with ⟨e1, e2⟩ | ⟨items', parts', e1, e2, e3, e4⟩
    · rw [e1, bnd4_some, Option.bind_some, Sum.elim_inr]
      simp only [un3]
      unfold tourlaw3_WorldChanges_4_v2
      rw [e2, bnd2_some, bnd2_some, cnd_not, cnd_pos (by simp), same_zero2 (by decide), Option.bind_some, cnd_not, cnd_true, hget]
    · rw [e1, bnd4_some, Option.bind_some, Sum.elim_inr]
      simp only [un3]
      unfold tourlaw3_WorldChanges_4_v2
      rw [e2, bnd2_some, bnd2_some, cnd_not, cnd_pos (by simp), same_eq hz (by omega) e4 e3, Option.bind_some, cnd_not, cnd_true, hget]
theorem put_law (hk : ∀ i (h : i < ks.length), oks ks[i].Name ∧ ∀ j (hj : j < ks[i].Fields.length), oks ks[i].Fields[j].Name) (hz : szK ks) (hg : gens.length * 8 ≤ 140737488351232) (hs : szI items) (hcl : c.Vals.length * 8 ≤ 140737488355328) : tourlaw3_WorldChanges_j1 ks gens items n g c.Kind c.Vals k = some true := by
  have hget := drop_law (n := n) (g := g) (k := k) hk hz hg hs
  unfold tourlaw3_WorldChanges_j1
  rcases ways hk hz hg hs n g with ⟨h0, h1, h2⟩ | ⟨parts, hv, hno, h1, h3, h4, hG, h2⟩ | ⟨parts, a, it, b, m, rfl, rfl, hh, h1, h3, h4, hG, hn, h2⟩
  · rw [h2]
    unfold world_Put
    rw [h1, bnd5_some, cnd_not, cnd_beq, if_neg h0, bnd4_some, Option.bind_some, Sum.elim_inl, cnd_beq, if_neg h0]
    unfold tourlaw3_WorldChanges_j8
    rw [cnd_not, cnd_pos (by simp), same_zero h0, Option.bind_some, cnd_not, cnd_true, hget]
  · rw [h2]
    unfold world_Put
    rw [h1, bnd5_some, cnd_not, cnd_beq, if_neg (by decide), bnd4_some, Option.bind_some, Sum.elim_inr]
    simp only [un3]
    unfold tourlaw3_WorldChanges_3_v2 tourref3_Flat_Put_v2
    rw [rhas_miss hv hno hG, Option.bind_some, cnd_not, cnd_false, bnd2_some, bnd2_some, cnd_not, cnd_pos (by simp), same_zero2 (by decide), Option.bind_some, cnd_not, cnd_true, hget]
  · rw [h2]
    rcases put_act hk hh hz hs hG h1 c hcl with ⟨e0, e1, e2⟩ | ⟨items', parts', e1, e2, e3, e4⟩
    · rw [e1, bnd4_some, Option.bind_some, Sum.elim_inr]
      simp only [un3]
      unfold tourlaw3_WorldChanges_3_v2
      rw [e2, bnd2_some, bnd2_some, cnd_not, cnd_pos (by simp), same_zero2 e0, Option.bind_some, cnd_not, cnd_true, hget]
    · rw [e1, bnd4_some, Option.bind_some, Sum.elim_inr]
      simp only [un3]
      unfold tourlaw3_WorldChanges_3_v2
      rw [e2, bnd2_some, bnd2_some, cnd_not, cnd_pos (by simp), same_eq hz (by omega) e4 e3, Option.bind_some, cnd_not, cnd_true, hget]
end
theorem pair_get : world_Get twoL [0, 2] pairItems 0 0 1 = some ([9], 0) := by
  have hv := vw_of pair_ok
  have hp : pairItems = [] ++ api_Item.mk (api_Ent.mk 0 0) [(api_Comp.mk 0 [4]), (api_Comp.mk 1 [9])] :: [api_Item.mk (api_Ent.mk 1 2) [(api_Comp.mk 1 [7])]] := rfl
  have hl : pairItems.length ≤ 140737488355328 := by decide
  obtain ⟨m, hm, hh⟩ := hit_of (n := 0) (g := 0) (hp ▸ hv) rfl
  have hm0 : m = 0 := by omega
  subst hm0
  have hf : world_Find twoL [0, 2] pairItems 0 0 = some ((([] : List api_Item).length : Nat) : Int) := by
    unfold world_Find
    rcases kindex 0 0 hl with ⟨a, it, b, h1, h2, h3⟩ | ⟨h1, _⟩
    · rw [h3]
      have : a = [] := by
        cases a with
        | nil => rfl
        | cons x a =>
          rw [hp] at h1
          simp only [List.nil_append, List.cons_append, List.cons.injEq] at h1
          obtain ⟨rfl, h1⟩ := h1
          cases a with
          | nil => simp only [List.nil_append, List.cons.injEq] at h1; obtain ⟨rfl, _⟩ := h1; simp at h2
          | cons y a => simp at h1
      rw [this]; rfl
    · exact absurd rfl (h1 (api_Item.mk (api_Ent.mk 0 0) [(api_Comp.mk 0 [4]), (api_Comp.mk 1 [9])]) (by rw [hp]; simp))
  unfold world_Get
  rw [pair_check, Option.bind_some, cnd_not, cnd_pos (by rfl), hf, Option.bind_some, cnd_dec, if_neg (by simp), hp, idx_at, Option.bind_some]
  rcases hh.comp 1 with ⟨a', c, b', hl2, hck, hat, hmg, _⟩ | ⟨i, hat, hmg⟩
  · have hc : c = api_Comp.mk 1 [9] := by
      simp only at hl2
      cases a' with
      | nil => simp only [List.nil_append, List.cons.injEq] at hl2; rw [← hl2.1] at hck; simp at hck
      | cons x a' =>
        simp only [List.cons_append, List.cons.injEq] at hl2
        cases a' with
        | nil => simp only [List.nil_append, List.cons.injEq] at hl2; exact hl2.2.1.symm
        | cons y a' => simp at hl2
    rw [hat, bnd2_some, cnd_not, cnd_true, Option.bind_some, hl2, idx_at, Option.bind_some, hc, clone_ints (by simp)]; rfl
  · rw [mget_mapC] at hmg; simp at hmg
theorem WorldChanges_true (w_0 : List api_Kind) (w_1 : List Int) (w_2 : List api_Item) (e_0 : Int) (e_1 : Int) (c_0 : Int) (c_1 : List Int) (k : Int) (h0 : ok_api_World (api_World.mk w_0 w_1 w_2)) (h1 : ok_api_Ent (api_Ent.mk e_0 e_1)) (h2 : ok_api_Comp (api_Comp.mk c_0 c_1)) (h3 : (okk .i64) k) : tourlaw3_WorldChanges w_0 w_1 w_2 e_0 e_1 c_0 c_1 k = some true := by
  obtain ⟨hz, hg, hs⟩ := sz_worldS h0
  have hk : ∀ i (h : i < w_0.length), oks w_0[i].Name ∧ ∀ j (hj : j < w_0[i].Fields.length), oks w_0[i].Fields[j].Name := fun i hi => okk_ks h0.1 hi
  have hcl : (api_Comp.mk c_0 c_1).Vals.length * 8 ≤ 140737488355328 := Nat.le_trans h2.2.1 (by omega)
  have hput : tourlaw3_WorldChanges_j1 w_0 w_1 w_2 e_0 e_1 c_0 c_1 k = some true := put_law (c := api_Comp.mk c_0 c_1) hk hz hg hs hcl
  have hl40 := hs.1
  unfold tourlaw3_WorldChanges
  rw [pair_eq, bnd3_some, pair_get, bnd2_some, cnd_not, cnd_pos (by rfl), equal_ints (by simp), Option.bind_some, cnd_not, cnd_pos (by simp)]
  have hfi : ∃ i, world_Find w_0 w_1 w_2 e_0 e_1 = some i ∧ slices_IndexFunc_api_Item_api_Item_v2 w_2 e_0 e_1 = some i := by
    rw [index_v2]
    unfold world_Find
    rcases kindex (items := w_2) e_0 e_1 (by omega) with ⟨a, it, b, _, _, hx⟩ | ⟨_, hx⟩
    · rw [hx]; exact ⟨_, rfl, rfl⟩
    · rw [hx]; exact ⟨_, rfl, rfl⟩
  obtain ⟨i, f1, f2⟩ := hfi
  rw [f1, Option.bind_some, f2, Option.bind_some, cnd_not, cnd_pos (by simp)]
  rcases ways hk hz hg hs e_0 e_1 with ⟨h0, h1, h2⟩ | ⟨parts, hv, hno, h1, h3, h4, hG, h2⟩ | ⟨parts, a, it, b, m, rfl, rfl, hh, h1, h3, h4, hG, hn, h2⟩
  · rw [h2]
    unfold world_Kill
    rw [h1, bnd5_some, cnd_not, cnd_beq, if_neg h0, bnd4_some, Option.bind_some, Sum.elim_inl, cnd_beq, if_neg h0]
    unfold tourlaw3_WorldChanges_j9
    rw [cnd_not, cnd_pos (by simp), same_zero h0, Option.bind_some, cnd_not, cnd_true, hput]
  · rw [h2]
    unfold world_Kill
    rw [h1, bnd5_some, cnd_not, cnd_beq, if_neg (by decide), bnd4_some, Option.bind_some, Sum.elim_inr]
    simp only [un3]
    unfold tourlaw3_WorldChanges_2_v2 tourref3_Flat_Kill_v2
    rw [rhas_miss hv hno hG, Option.bind_some, cnd_not, cnd_false, bnd3_some, bnd3_some, cnd_not, cnd_pos (by simp), same_zero2 (by decide), Option.bind_some, cnd_not, cnd_true, hput]
  · obtain ⟨gens', items', parts', e1, e2, e3, e4, e5⟩ := kill_act hh hz hs hG hn h1
    rw [h2, e1, bnd4_some, Option.bind_some, Sum.elim_inr]
    simp only [un3]
    unfold tourlaw3_WorldChanges_2_v2
    rw [e2, bnd3_some, bnd3_some, cnd_not, cnd_pos (by simp), same_eq hz (by omega) e4 e3, Option.bind_some, cnd_not, cnd_true, hput]
end Go.Proofs.YtbfndcookgijfaaGreatDoor.C
