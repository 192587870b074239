/- The plain law of worlds' checks. No condition. -/
import Derived.Test.YthcbepikeinglaaDoorPuOpenedN
import Derived.Test.YthcbepikeinglaaDoorPuIntsN
import Derived.Test.YthcbepikeinglaaDoorExRow
namespace Go.Proofs.YthcbepikeinglaaDoor.N
open Go Go.RowKit Go.Proofs.YthcbepikeinglaaDoor.Sx
set_option linter.unusedVariables false
set_option linter.unusedSimpArgs false
theorem sz_world {k : List api_Kind} {g : List Int} {l : List api_Item} (h : ok_api_World (api_World.mk k g l)) : szK k ∧ g.length * 8 ≤ 140737488351232 ∧ szI l := by
  obtain ⟨h1, h2, h3⟩ := h
  refine ⟨⟨h1.1, fun i hi => (h1.2 _ (List.getElem_mem hi)).2.1⟩, h2.1, ⟨Nat.le_trans h3.1 (by omega), fun it hit => ?_⟩⟩
  have h4 := (h3.2 it hit).2
  exact ⟨Nat.le_trans h4.1 (by omega), fun c hc => Nat.le_trans (h4.2 c hc).2.1 (by omega)⟩
theorem pair_desc : 0 < (descV twoL [0, 2] pairItems).length ∧ (descV twoL [0, 2] pairItems).length ≤ 1000 := by decide +kernel
theorem pair_sz : szK twoL ∧ szI pairItems := by
  refine ⟨⟨by decide, fun i hi => ?_⟩, by decide, fun it hit => ?_⟩
  · have : i = 0 ∨ i = 1 := by simp [twoL] at hi; omega
    rcases this with rfl | rfl <;> simp [twoL]
  · simp [pairItems] at hit
    rcases hit with rfl | rfl <;> exact ⟨by decide, fun c hc => by simp at hc; (try rcases hc with rfl | rfl) <;> (try subst hc) <;> decide⟩
theorem knew {l : List api_Kind} (hz : szK l) : world_New l = some (if checkV l = 0 then (l, 0) else ([], checkV l)) := by
  have hz1 := hz.1
  unfold world_New
  rw [kcheck]
  simp only [Option.bind_some, cnd_not, cnd_beq]
  by_cases h : checkV l = 0
  · rw [if_pos h, if_pos h, kcopy (by omega) (fun i hi => by have := hz.2 i hi; omega)]; rfl
  · rw [if_neg h, if_neg h]
theorem rest_ok {w_0 : List api_Kind} {w_1 : List Int} {w_2 : List api_Item} {v_0 : List api_Kind} {v_1 : List Int} {v_2 : List api_Item} (hz : szK w_0) (hg : w_1.length * 8 ≤ 140737488351232) (hs : szI w_2) (hd : (descV w_0 w_1 w_2).length ≤ 1099511627776) :
    tourlaw3_WorldChecks_j2 w_0 w_1 w_2 v_0 v_1 v_2 (wcheckV w_0 w_1 w_2) = some true := by
  unfold tourlaw3_WorldChecks_j2 tourlaw3_WorldChecks_j3
  obtain ⟨d, hd'⟩ := ints_some hd
  have hc : ∀ it ∈ w_2, it.Comps.length ≤ 140737488355328 := fun it hit => by have := (hs.2 it hit).1; omega
  rw [ksamew hz (by omega) hs, rsamew hz (by omega) hs]
  simp only [Option.bind_some]
  rw [cnd_not, cnd_beq, if_pos rfl, ksamew hz (by omega) hs]
  simp only [Option.bind_some, true_and]
  rw [cnd_not, cnd_pos (by simp), kcopyw hz (by omega) hs, bnd3_some, rsamew hz (by omega) hs]
  simp only [Option.bind_some]
  rw [cnd_not, cnd_pos (by simp), kwcheck _ _ _ hc]
  simp only [Option.bind_some]
  rw [cnd_beq, if_pos rfl, kints hz hs hd, rdesc hz hs hd]
  simp only [Option.bind_some]
  rw [equal_ints (by omega)]
  simp only [Option.bind_some]
  rw [cnd_pos (by simp)]
  unfold world_Digest
  rw [kints hz hs hd]
  simp only [Option.bind_some]
  rw [hd']
  simp
theorem new_ok {w_0 : List api_Kind} {w_1 : List Int} {w_2 : List api_Item} {v_0 : List api_Kind} {v_1 : List Int} {v_2 : List api_Item} (hk : ∀ i (h : i < w_0.length), oks w_0[i].Name ∧ ∀ j (hj : j < w_0[i].Fields.length), oks w_0[i].Fields[j].Name) (hz : szK w_0) (hg : w_1.length * 8 ≤ 140737488351232) (hs : szI w_2) (hd : (descV w_0 w_1 w_2).length ≤ 1099511627776) :
    tourlaw3_WorldChecks_j1 w_0 w_1 w_2 v_0 v_1 v_2 (wcheckV w_0 w_1 w_2) = some true := by
  have hsame : ∀ (x : List api_Kind) (hx : szK x), tourref3_SameWorld x [] [] x [] [] = some true := fun x hx => by
    rw [rsamew hx (by simp) ⟨by simp, fun it hit => by simp at hit⟩]; simp
  unfold tourlaw3_WorldChecks_j1
  rw [rest_ok hz hg hs hd, knew hz, bnd2, rcheck hk]
  simp only [Option.bind_some]
  by_cases hc : checkV w_0 = 0
  · rw [if_pos hc, hc]
    simp only [Option.bind_some]
    rw [hsame w_0 hz]; rfl
  · rw [if_neg hc]
    simp only [Option.bind_some]
    rw [cnd_not, cnd_beq, if_pos rfl, cnd_beq, if_neg hc, hsame [] ⟨by simp, fun i hi => by simp at hi⟩]; rfl
theorem WorldChecks_true (w_0 : List api_Kind) (w_1 : List Int) (w_2 : List api_Item) (v_0 : List api_Kind) (v_1 : List Int) (v_2 : List api_Item) (h0 : ok_api_World (api_World.mk w_0 w_1 w_2)) (h1 : ok_api_World (api_World.mk v_0 v_1 v_2)) (hb : bk_api_World (api_World.mk w_0 w_1 w_2) + bk_api_World (api_World.mk v_0 v_1 v_2) ≤ 1048576) : tourlaw3_WorldChecks w_0 w_1 w_2 v_0 v_1 v_2 = some true := by
  obtain ⟨hz, hg, hs⟩ := sz_world h0
  have hz1 := hz.1
  have hd := desc_le w_0 w_1 w_2
  have hk : ∀ i (h : i < w_0.length), oks w_0[i].Name ∧ ∀ j (hj : j < w_0[i].Fields.length), oks w_0[i].Fields[j].Name := fun i hi => okk_ks h0.1 hi
  unfold tourlaw3_WorldChecks
  rw [pair_eq, bnd3_some, pair_check]
  simp only [Option.bind_some]
  rw [cnd_not, cnd_beq, if_pos rfl, bnd3_some, kints pair_sz.1 pair_sz.2 (Nat.le_trans pair_desc.2 (by omega))]
  simp only [Option.bind_some]
  rw [cnd_neg (by have := pair_desc.1; rw [beq_eq_false_iff_ne]; omega)]
  rcases ropen (gens := w_1) hk hz (by omega) hs with ⟨hw, ho⟩ | ⟨hw, parts, _, ho⟩
  · rw [ho]
    simp only [Option.bind_some, Sum.elim_inl]
    exact new_ok hk hz hg hs (by omega)
  · rw [ho]
    simp only [Option.bind_some, Sum.elim_inr, un3]
    rw [← hw]
    exact new_ok hk hz hg hs (by omega)
end Go.Proofs.YthcbepikeinglaaDoor.N
