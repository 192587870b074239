/- The plain law of world.Fit: the fitted components in the order of their kinds, or the first error. No condition. -/
import Derived.Test.YtbfndcookgijfaaGreatDoorPuSys2C
namespace Go.Proofs.YtbfndcookgijfaaGreatDoor.C
open Go Go.RowKit Go.Proofs.YtbfndcookgijfaaGreatDoor.Sx Classical
set_option linter.unusedVariables false
set_option linter.unusedSimpArgs false
noncomputable def fitCV (k : List api_Kind) (c : api_Comp) : api_Comp := api_Comp.mk c.Kind (match k[c.Kind.toNat]? with | some x => (fitV x.Name x.Fields c.Vals).1 | none => [])
theorem fitCV_kinds (k : List api_Kind) (l : List api_Comp) : (l.map (fitCV k)).map api_Comp.Kind = l.map api_Comp.Kind := by
  rw [List.map_map]; rfl
theorem fit_loop2 (k : List api_Kind) (l : List api_Comp) (hl : l.length * 32 ≤ 140737488351232) : ∀ (d i : Nat), i + d = l.length → ((l.take i).map api_Comp.Kind).Nodup → loop (σ := (List api_Comp) × Int) (ρ := (((List api_Comp) × Int) ⊕ (List api_Comp))) (fun s_ => world_Fit_l2 l k s_.1 s_.2) ((l.take i).map (fitCV k), (i : Int)) = some (if fitE k ((l.take i).map api_Comp.Kind) (l.drop i) = 0 then .inr (l.map (fitCV k)) else .inl ([], fitE k ((l.take i).map api_Comp.Kind) (l.drop i))) ∧ (fitE k ((l.take i).map api_Comp.Kind) (l.drop i) = 0 → (l.map api_Comp.Kind).Nodup ∧ ∀ c ∈ l.drop i, 0 ≤ c.Kind ∧ c.Kind < (k.length : Int)) := by
  intro d
  induction d with
  | zero =>
    intro i hi hn
    have hil : i = l.length := by omega
    subst hil
    rw [List.drop_length, List.take_length]
    refine ⟨?_, fun _ => ⟨by rw [List.take_length] at hn; exact hn, fun c hc => by cases hc⟩⟩
    rw [if_pos (show fitE k (l.map api_Comp.Kind) [] = 0 from rfl)]
    apply loop_inr
    show world_Fit_l2 l k (l.map (fitCV k)) (l.length : Int) = _
    unfold world_Fit_l2
    rw [cnd_dec, if_neg (by omega)]
  | succ d ih =>
    intro i hi hn
    have hil : i < l.length := by omega
    rw [List.drop_eq_getElem_cons hil]
    by_cases g1 : l[i].Kind < 0 ∨ (k.length : Int) ≤ l[i].Kind
    · have e : fitE k ((l.take i).map api_Comp.Kind) (l[i] :: l.drop (i + 1)) = 1 := by rw [fitE, if_pos g1]
      rw [e]
      refine ⟨?_, fun h => absurd h (by decide)⟩
      rw [if_neg (by decide)]
      apply loop_inr
      show world_Fit_l2 l k ((l.take i).map (fitCV k)) (i : Int) = _
      unfold world_Fit_l2
      rw [cnd_dec, if_pos (by omega), idx_get hil]
      simp only [Option.bind_some, cnd_dec]
      by_cases h : l[i].Kind < 0
      · rw [if_pos h]
      · rw [if_neg h, if_pos (by omega)]
    · have hn1 : ¬ l[i].Kind < 0 := fun h => g1 (.inl h)
      have hn2 : ¬ (k.length : Int) ≤ l[i].Kind := fun h => g1 (.inr h)
      have hkl : l[i].Kind.toNat < k.length := by omega
      have hcut : cut l 0 (i : Int) = some (l.take i) := cut_take (by omega)
      have hidx : idx k l[i].Kind = some k[l[i].Kind.toNat] := by
        have := idx_get (l := k) hkl
        rwa [Int.toNat_of_nonneg (by omega)] at this
      have hfit : fitCV k l[i] = api_Comp.mk l[i].Kind (fitV k[l[i].Kind.toNat].Name k[l[i].Kind.toNat].Fields l[i].Vals).1 := by
        unfold fitCV
        rw [List.getElem?_eq_getElem hkl]
      have hst : world_Fit_l2 l k ((l.take i).map (fitCV k)) (i : Int) = if l[i].Kind ∈ (l.take i).map api_Comp.Kind then some (.inr (.inl ([], 5))) else if (fitV k[l[i].Kind.toNat].Name k[l[i].Kind.toNat].Fields l[i].Vals).2 = 0 then some (.inl ((l.take (i + 1)).map (fitCV k), ((i + 1 : Nat) : Int))) else some (.inr (.inl ([], (fitV k[l[i].Kind.toNat].Name k[l[i].Kind.toNat].Fields l[i].Vals).2))) := by
        have hmap : (l.take (i + 1)).map (fitCV k) = (l.take i).map (fitCV k) ++ [fitCV k l[i]] := by
          rw [List.take_succ_eq_append_getElem hil, List.map_append]; rfl
        rw [hmap, hfit]
        unfold world_Fit_l2
        rw [cnd_dec, if_pos (by omega), idx_get hil]
        simp only [Option.bind_some, cnd_dec]
        rw [if_neg hn1, if_neg hn2, hcut]
        simp only [Option.bind_some]
        rw [khaskind (by rw [List.length_take]; omega)]
        simp only [Option.bind_some, cnd_dec]
        split
        · rfl
        · rw [hidx]
          simp only [Option.bind_some]
          rw [kfit]
          rw [show (some (fitV k[l[i].Kind.toNat].Name k[l[i].Kind.toNat].Fields l[i].Vals) : Option (List Int × Int)) = some ((fitV k[l[i].Kind.toNat].Name k[l[i].Kind.toNat].Fields l[i].Vals).1, (fitV k[l[i].Kind.toNat].Name k[l[i].Kind.toNat].Fields l[i].Vals).2) from rfl]
          simp only [bnd2_some]
          rw [cnd_not, cnd_beq, app_ok (by simp only [List.length_map, List.length_take, List.length_cons, List.length_nil]; omega), i64ok (by omega) (by omega)]
          split <;> rfl
      by_cases g2 : l[i].Kind ∈ (l.take i).map api_Comp.Kind
      · have e : fitE k ((l.take i).map api_Comp.Kind) (l[i] :: l.drop (i + 1)) = 5 := by rw [fitE, if_neg g1, if_pos g2]
        rw [e]
        rw [if_pos g2] at hst
        refine ⟨?_, fun h => absurd h (by decide)⟩
        rw [if_neg (by decide)]
        exact loop_inr hst
      · rw [if_neg g2] at hst
        have e0 : fitE k ((l.take i).map api_Comp.Kind) (l[i] :: l.drop (i + 1)) = if (fitV k[l[i].Kind.toNat].Name k[l[i].Kind.toNat].Fields l[i].Vals).2 = 0 then fitE k ((l.take i).map api_Comp.Kind ++ [l[i].Kind]) (l.drop (i + 1)) else (fitV k[l[i].Kind.toNat].Name k[l[i].Kind.toNat].Fields l[i].Vals).2 := by
          rw [fitE, if_neg g1, if_neg g2, List.getElem?_eq_getElem hkl]
        by_cases g3 : (fitV k[l[i].Kind.toNat].Name k[l[i].Kind.toNat].Fields l[i].Vals).2 = 0
        · rw [if_pos g3] at hst e0
          have hmap : (l.take (i + 1)).map api_Comp.Kind = (l.take i).map api_Comp.Kind ++ [l[i].Kind] := by
            rw [List.take_succ_eq_append_getElem hil, List.map_append]; rfl
          obtain ⟨r1, r2⟩ := ih (i + 1) (by omega) (by
            rw [hmap, List.nodup_append]
            exact ⟨hn, by simp, fun a ha b hb => by rw [List.mem_singleton.1 hb]; exact fun e => g2 (e ▸ ha)⟩)
          rw [hmap] at r1 r2
          rw [e0]
          refine ⟨by rw [loop_inl hst]; exact r1, fun h => ⟨(r2 h).1, fun c hc => ?_⟩⟩
          rcases List.mem_cons.1 hc with rfl | hc
          · omega
          · exact (r2 h).2 c hc
        · rw [if_neg g3] at hst e0
          rw [e0, if_neg g3]
          exact ⟨loop_inr hst, fun h => absurd h g3⟩
/-- Fit's answer: the error of the kinds, the first error of the components, or all, fitted and in order. -/
noncomputable def fitW (k : List api_Kind) (l : List api_Comp) : List api_Comp × Int := if checkV k = 0 then (if fitE k [] l = 0 then ((l.map (fitCV k)).mergeSort fun a b => decide (a.Kind ≤ b.Kind), 0) else ([], fitE k [] l)) else ([], checkV k)
theorem kfitw (k : List api_Kind) {l : List api_Comp} (hl : l.length * 32 ≤ 140737488351232) : world_Fit k l = some (fitW k l) := by
  unfold world_Fit fitW
  rw [kcheck]
  simp only [Option.bind_some, cnd_not, cnd_beq]
  by_cases hv : checkV k = 0
  · rw [if_pos hv, if_pos hv]
    obtain ⟨r1, r2⟩ := fit_loop2 k l hl l.length 0 (by omega) (by simp)
    have r1' : loop (σ := (List api_Comp) × Int) (ρ := (((List api_Comp) × Int) ⊕ (List api_Comp))) (fun s_ => world_Fit_l2 l k s_.1 s_.2) ([], 0) = _ := r1
    rw [List.drop_zero, List.take_zero, List.map_nil] at r1' r2
    rw [r1']
    by_cases h : fitE k [] l = 0
    · rw [if_pos h, if_pos h]
      simp only [Option.bind_some, Sum.elim_inr]
      unfold world_Fit_j1 slices_SortFunc_api_Comp_api_Comp sortBy
      rw [if_pos ⟨by rw [show (fun x : api_Comp => x.Kind) = api_Comp.Kind from rfl, fitCV_kinds]; exact (r2 h).1, by rw [List.length_map]; omega⟩]
      rfl
    · rw [if_neg h, if_neg h]; rfl
  · rw [if_neg hv, if_neg hv]
end Go.Proofs.YtbfndcookgijfaaGreatDoor.C
