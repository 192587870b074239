/- The plain law of Fit, Free and Spawn. No condition. -/
import Derived.Test.YtbfndcookgijfaaGreatDoorPuSpawnW
namespace Go.Proofs.YtbfndcookgijfaaGreatDoor.W
open Go Go.RowKit Go.Proofs.YtbfndcookgijfaaGreatDoor.Sx Classical
set_option linter.unusedVariables false
set_option linter.unusedSimpArgs false
theorem sz_worldS {k : List api_Kind} {g : List Int} {l : List api_Item} (h : ok_api_World (api_World.mk k g l)) : szK k ∧ g.length * 8 ≤ 140737488351232 ∧ szI l := by
  obtain ⟨h1, h2, h3⟩ := h
  refine ⟨⟨h1.1, fun i hi => (h1.2 _ (List.getElem_mem hi)).2.1⟩, h2.1, ⟨Nat.le_trans h3.1 (by omega), fun it hit => ?_⟩⟩
  have h4 := (h3.2 it hit).2
  exact ⟨Nat.le_trans h4.1 (by omega), fun c hc => Nat.le_trans (h4.2 c hc).2.1 (by omega)⟩
theorem pair_szS : szK twoL ∧ szI pairItems := by
  refine ⟨⟨by decide, fun i hi => ?_⟩, by decide, fun it hit => ?_⟩
  · have : i = 0 ∨ i = 1 := by simp [twoL] at hi; omega
    rcases this with rfl | rfl <;> simp [twoL]
  · simp [pairItems] at hit
    rcases hit with rfl | rfl <;> exact ⟨by decide, fun c hc => by simp at hc; (try rcases hc with rfl | rfl) <;> (try subst hc) <;> decide⟩
theorem kspawn {ks : List api_Kind} {gens : List Int} {items : List api_Item} {l : List api_Comp} (hz : szK ks) (hg : gens.length * 8 ≤ 140737488351232) (hs : szI items) (hl : l.length * 32 ≤ 140737488351232) :
    world_Spawn ks gens items l = if wcheckV ks gens items ≠ 0 then some ([], [], [], 0, 0, wcheckV ks gens items) else if fitE ks [] l ≠ 0 then some ([], [], [], 0, 0, fitE ks [] l) else if (roomV gens items).2 = false then some ([], [], [], 0, 0, 6) else world_Spawn_j1 (roomV gens items).1 items (listedC ks l) ks (if (roomV gens items).1 = (gens.length : Int) then gens ++ [0] else gens) := by
  have hc : ∀ it ∈ items, it.Comps.length ≤ 140737488355328 := fun it hit => by have := (hs.2 it hit).1; omega
  unfold world_Spawn
  rw [kwcheck _ _ _ hc, Option.bind_some, cnd_not, cnd_beq]
  by_cases h0 : wcheckV ks gens items = 0
  · rw [if_pos h0, if_neg (fun h => h h0), kfitw ks hl]
    have hv := vw_of h0
    unfold fitW
    rw [if_pos hv.kc]
    by_cases h1 : fitE ks [] l = 0
    · rw [if_pos h1, if_neg (fun h => h h1), bnd2_some, cnd_not, cnd_pos (by rfl), sorted_listed hv.k16 (fitE_all.1 h1), kfree (by have := hv.g256; omega) (by have := hv.il; have := hv.g256; omega)]
      obtain ⟨n, ok⟩ := roomV gens items
      rw [bnd2_some, cnd_not]
      cases ok
      · rw [cnd_false, if_pos rfl]
      · rw [cnd_true, if_neg (by simp), kcopyw hz (by omega) hs, bnd3_some, cnd_beq, app_ok (by have := hv.g256; simp; omega), Option.bind_some]
        by_cases h2 : n = (gens.length : Int)
        · rw [if_pos h2, if_pos h2]
        · rw [if_neg h2, if_neg h2]
    · rw [if_neg h1, if_pos h1, bnd2_some, cnd_not, cnd_beq, if_neg h1]
  · rw [if_neg h0, if_pos h0]
theorem rspawn {ks : List api_Kind} {gens : List Int} {items : List api_Item} {parts : List (Int × Option (List (Int × List Int)))} {l : List api_Comp} (hk : ∀ i (h : i < ks.length), oks ks[i].Name ∧ ∀ j (hj : j < ks[i].Fields.length), oks ks[i].Fields[j].Name) (hv : VW ks gens items) (hl : l.length * 32 ≤ 140737488351232)
    (hG : ∀ n, (mget parts n).getD none = (partG items n).map (mapC ks)) :
    tourref3_Flat_Spawn ks gens parts l = if fitE ks [] l ≠ 0 then some (0, 0, fitE ks [] l, gens, parts) else if (roomV gens items).2 = false then some (0, 0, 6, gens, parts) else tourref3_Flat_Spawn_j1 parts (roomV gens items).1 (some (mapC ks l)) (if (roomV gens items).1 = (gens.length : Int) then gens ++ [0] else gens) := by
  unfold tourref3_Flat_Spawn
  rw [fittedE hk (by omega)]
  by_cases h1 : fitE ks [] l = 0
  · rw [if_pos h1, if_neg (fun h => h h1), bnd2_some, cnd_not, cnd_pos (by rfl), rroom hv.g256 hG]
    obtain ⟨n, ok⟩ := roomV gens items
    rw [bnd2_some, cnd_not]
    cases ok
    · rw [cnd_false, if_pos rfl]
    · rw [cnd_true, if_neg (by simp), cnd_beq, app_ok (by have := hv.g256; simp; omega), Option.bind_some]
      by_cases h2 : n = (gens.length : Int)
      · rw [if_pos h2, if_pos h2]
      · rw [if_neg h2, if_neg h2]
  · rw [if_neg h1, if_pos h1, bnd2_some, cnd_not, cnd_beq, if_neg h1]
theorem pair_room : roomV [0, 2] pairItems = (2, true) := by
  unfold roomV
  have h : (List.range ([0, 2] : List Int).length).find? (fun n => decide (freeB [0, 2] pairItems n)) = none := by
    rw [List.find?_eq_none]
    intro n hn
    have : n = 0 ∨ n = 1 := by have := List.mem_range.1 hn; simp at this; omega
    rw [decide_eq_true_iff]
    rintro ⟨h1, _⟩
    rcases this with rfl | rfl <;> exact absurd h1 (by decide)
  rw [h]
  rfl
theorem same_zero {e : Int} (he : e ≠ 0) : tourlaw3_same [] [] [] e = some true := by
  unfold tourlaw3_same
  rw [cnd_not, cnd_beq, if_neg he, rsamew ⟨by simp, fun i hi => by simp at hi⟩ (by simp) ⟨by simp, fun it hit => by simp at hit⟩]
  simp
theorem same_zero2 {e : Int} (he : e ≠ 0) (a : List api_Kind) (b : List Int) (c : List (Int × Option (List (Int × List Int)))) : tourlaw3_same_v2 [] [] [] a b c e = some true := by
  unfold tourlaw3_same_v2
  rw [cnd_not, cnd_beq, if_neg he, rsamew ⟨by simp, fun i hi => by simp at hi⟩ (by simp) ⟨by simp, fun it hit => by simp at hit⟩]
  simp
theorem spawn_law {ks : List api_Kind} {gens : List Int} {items : List api_Item} {l : List api_Comp} (hk : ∀ i (h : i < ks.length), oks ks[i].Name ∧ ∀ j (hj : j < ks[i].Fields.length), oks ks[i].Fields[j].Name) (hz : szK ks) (hg : gens.length * 8 ≤ 140737488351232) (hs : szI items) (hl : l.length * 32 ≤ 140737488351232) (hsl : ∀ c ∈ l, c.Vals.length * 8 ≤ 140737488355328) :
    tourlaw3_WorldSpawns_j1 ks gens items l = some true := by
  unfold tourlaw3_WorldSpawns_j1
  rw [kspawn hz hg hs hl]
  rcases ropen (gens := gens) hk hz (by omega) hs with ⟨h0, h1⟩ | ⟨h0, parts, hG, h1⟩
  · rw [if_pos h0, h1]
    rw [bnd6_some]
    simp only [Option.bind_some, Sum.elim_inl]
    rw [cnd_not, cnd_beq, if_neg h0, cnd_pos (by simp), cnd_pos (by rfl), same_zero h0, Option.bind_some]
    rfl
  · have hv := vw_of h0
    rw [if_neg (fun h => h h0), h1]
    have hr := rspawn hk hv hl hG
    by_cases h2 : fitE ks [] l = 0
    · rw [if_neg (fun h => h h2)] at hr ⊢
      obtain ⟨n, ok, hro⟩ : ∃ n ok, roomV gens items = (n, ok) := ⟨_, _, rfl⟩
      rw [hro] at hr ⊢
      cases ok
      · rw [if_pos rfl] at hr ⊢
        rw [bnd6_some]
        simp only [Option.bind_some, Sum.elim_inr, un3]
        rw [kfree (by have := hv.g256; omega) (by have := hv.il; have := hv.g256; omega), rroom hv.g256 hG, hro, bnd2_some, bnd2_some, cnd_not, cnd_pos (by simp), cnd_not, cnd_pos (by simp), hr]
        rw [bnd5_some, cnd_pos (by rfl), cnd_pos (by rfl), same_zero2 (by decide)]
        rfl
      · rw [if_neg (by simp)] at hr ⊢
        obtain ⟨m, rfl, hm⟩ := room_spec hro rfl
        have hgp : (if ((m : Nat) : Int) = (gens.length : Int) then gens ++ [0] else gens) = gensP gens m := by
          unfold gensP
          by_cases h : m = gens.length
          · rw [if_pos h, if_pos (by omega)]
          · rw [if_neg h, if_neg (by omega)]
        simp only [hgp] at hr ⊢
        obtain ⟨items', g, e1, e2, e3, e4⟩ := spawn_both hv hz hs hsl hG hm
        rw [e1]
        rw [e2] at hr
        rw [bnd6_some]
        simp only [Option.bind_some, Sum.elim_inr, un3]
        rw [kfree (by have := hv.g256; omega) (by have := hv.il; have := hv.g256; omega), rroom hv.g256 hG, hro, bnd2_some, bnd2_some, cnd_not, cnd_pos (by simp), cnd_not, cnd_pos (by simp), hr]
        rw [bnd5_some, cnd_pos (by rfl), cnd_pos (by simp)]
        unfold tourlaw3_same_v2
        rw [cnd_not, cnd_pos (by rfl), e3, bnd3_some, rsamew hz (by have := hv.g256; unfold gensP; split <;> simp <;> omega) e4]
        simp [tourlaw3_WorldSpawns_j3]
    · rw [if_pos h2] at hr ⊢
      rw [bnd6_some]
      simp only [Option.bind_some, Sum.elim_inr, un3]
      rw [kfree (by have := hv.g256; omega) (by have := hv.il; have := hv.g256; omega), rroom hv.g256 hG]
      obtain ⟨n, ok, hro⟩ : ∃ n ok, roomV gens items = (n, ok) := ⟨_, _, rfl⟩
      rw [hro, bnd2_some, bnd2_some, cnd_not, cnd_pos (by simp), cnd_not, cnd_pos (by simp), hr]
      rw [bnd5_some, cnd_pos (by simp), cnd_pos (by rfl), same_zero2 h2]
      rfl
theorem WorldSpawns_true (w_0 : List api_Kind) (w_1 : List Int) (w_2 : List api_Item) (l : List api_Comp) (h0 : ok_api_World (api_World.mk w_0 w_1 w_2)) (h1 : (okl 32 ok_api_Comp) l) : tourlaw3_WorldSpawns w_0 w_1 w_2 l = some true := by
  obtain ⟨hz, hg, hs⟩ := sz_worldS h0
  have hl := h1.1
  have hsl : ∀ c ∈ l, c.Vals.length * 8 ≤ 140737488355328 := fun c hc => Nat.le_trans (h1.2 c hc).2.1 (by omega)
  have hk : ∀ i (h : i < w_0.length), oks w_0[i].Name ∧ ∀ j (hj : j < w_0[i].Fields.length), oks w_0[i].Fields[j].Name := fun i hi => okk_ks h0.1 hi
  have hj1 := spawn_law hk hz hg hs hl hsl
  unfold tourlaw3_WorldSpawns
  rw [pair_eq, bnd3_some, kspawn pair_szS.1 (by simp) pair_szS.2 (by simp), if_neg (fun h => h pair_ok), if_neg (by unfold fitE; simp), pair_room, if_neg (by simp)]
  have hp := spawn_both (l := []) (m := 2) (vw_of pair_ok) pair_szS.1 pair_szS.2 (by simp) (parts := [(0, some (mapC twoL [(api_Comp.mk 0 [4]), (api_Comp.mk 1 [9])])), (1, some (mapC twoL [(api_Comp.mk 1 [7])]))]) (fun n => by
    by_cases h0 : n = 0
    · subst h0; rfl
    · by_cases h1 : n = 1
      · subst h1; rfl
      · have e1 : partG pairItems n = none := by
          unfold partG pairItems
          rw [Option.map_eq_none_iff, List.find?_eq_none]
          intro x hx
          simp at hx
          rcases hx with rfl | rfl <;> simp <;> omega
        rw [e1]
        unfold mget
        rw [List.find?_eq_none.2 (fun x hx => by
          simp at hx
          rcases hx with rfl | rfl <;> simp <;> omega)]
        rfl) (.inr ⟨rfl, by omega⟩)
  obtain ⟨items', g, e1, _⟩ := hp
  have e1' : world_Spawn_j1 2 pairItems (listedC twoL []) twoL (if (2 : Int) = (([0, 2] : List Int).length : Int) then [0, 2] ++ [0] else [0, 2]) = some (twoL, gensP [0, 2] 2, items', ((2 : Nat) : Int), g, 0) := e1
  rw [e1', bnd6_some, cnd_not, cnd_pos (by rfl), cnd_not, cnd_pos (by rfl), kfitw w_0 hl, rcheck hk]
  unfold fitW
  by_cases hc : checkV w_0 = 0
  · rw [if_pos hc, hc]
    have hk16 : w_0.length ≤ 16 := by
      rcases Nat.lt_or_ge 16 w_0.length with h | h
      · unfold checkV at hc; rw [if_pos h] at hc; omega
      · exact h
    by_cases h2 : fitE w_0 [] l = 0
    · rw [if_pos h2, bnd2_some, Option.bind_some, cnd_pos (by rfl), fittedE hk (by omega), if_pos h2, bnd2_some, cnd_not, cnd_pos (by rfl), cnd_pos (by rfl), rlistedM (fitC_szM hsl), ← listedC_M, Option.bind_some, sorted_listed hk16 (fitE_all.1 h2), requal_comps (listed_sz ⟨by omega, hsl⟩), Option.bind_some, cnd_not, cnd_pos (by simp)]
      exact hj1
    · rw [if_neg h2, bnd2_some, Option.bind_some, cnd_pos (by rfl), fittedE hk (by omega), if_neg h2, bnd2_some, cnd_not, cnd_pos (by simp), cnd_beq, if_neg h2, cnd_neg (by rfl)]
      exact hj1
  · rw [if_neg hc, bnd2_some, Option.bind_some, cnd_beq, if_neg hc, cnd_not, cnd_pos (by simp), cnd_neg (by rfl)]
    exact hj1
end Go.Proofs.YtbfndcookgijfaaGreatDoor.W
