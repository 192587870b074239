/- What the acts do, side by side: removing and reading. No condition. -/
import Derived.Test.YtbfndcookgijfaaGreatDoorPuChanges2C
namespace Go.Proofs.YtbfndcookgijfaaGreatDoor.C
open Go Go.RowKit Go.Proofs.YtbfndcookgijfaaGreatDoor.Sx Classical
set_option linter.unusedVariables false
set_option linter.unusedSimpArgs false
variable {ks : List api_Kind} {gens : List Int} {a b : List api_Item} {it : api_Item} {n : Nat} {g : Int} {parts : List (Int × Option (List (Int × List Int)))}
/-- A component of the kind k: there, or not. -/
theorem Hit.comp (h : Hit ks gens a it b n g) (k : Int) :
    (∃ a' c b', it.Comps = a' ++ c :: b' ∧ c.Kind = k ∧ world_at it.Comps k = some ((a'.length : Int), true) ∧ mget (mapC ks it.Comps) k = some c.Vals ∧ a'.length ≤ 16) ∨
    (∃ i : Int, world_at it.Comps k = some (i, false) ∧ mget (mapC ks it.Comps) k = none) := by
  obtain ⟨hup, hr, hgd⟩ := h.held
  have h16 := held_len hup hr
  obtain ⟨a', b', hl, ha, hb⟩ := (up_srtC hup).split cmpI_ord k
  have hat := kat (a := a') (b := b') (n := k) (by rw [← hl]; omega) ha hb
  rw [← hl] at hat
  have hll : it.Comps.length = a'.length + b'.length := by rw [hl, List.length_append]
  have hg := held_get (ks := ks) hgd k
  have ha2 : ∀ x ∈ a', x.Kind ≠ k := fun x hx e => by have := (cmpI_lt _ _).1 (ha x hx); omega
  have none_ : (∀ x ∈ b', x.Kind ≠ k) → mget (mapC ks it.Comps) k = none := fun hb2 => by
    have e : getK api_Comp.Kind it.Comps k = none := getK_none fun x hx => by
      rw [hl] at hx
      rcases List.mem_append.1 hx with hx | hx
      · exact ha2 x hx
      · exact hb2 x hx
    rw [e] at hg
    exact Option.map_eq_none_iff.1 hg.symm
  cases b' with
  | nil => exact .inr ⟨_, hat, none_ (fun x hx => by simp at hx)⟩
  | cons y b' =>
    by_cases hy : y.Kind = k
    · refine .inl ⟨a', y, b', hl, hy, ?_, ?_, by simp at hll; omega⟩
      · rw [hat, show headC (y :: b') k = true from decide_eq_true hy]
      · have e : getK api_Comp.Kind it.Comps k = some y := by
          rw [hl, getK_append, getK_none ha2, Option.none_or, getK_cons, if_pos hy]
        rw [e] at hg
        obtain ⟨v, hv, he⟩ := Option.map_eq_some_iff.1 hg.symm
        rw [hv, ← he]
    · refine .inr ⟨(a'.length : Int), ?_, none_ fun x hx => ?_⟩
      · rw [hat, show headC (y :: b') k = false from decide_eq_false hy]
      · rw [hl] at hup
        unfold Up2 at hup
        rw [List.pairwise_append, List.pairwise_cons] at hup
        have h1 : ¬ y.Kind < k := fun e => hb y (by simp) ((cmpI_lt _ _).2 e)
        rcases List.mem_cons.1 hx with rfl | hx
        · exact hy
        · have := hup.2.1.1 x hx; omega
theorem rget_hit (h : Hit ks gens a it b n g) (hs : szI (a ++ it :: b)) (hG : ∀ n, (mget parts n).getD none = (partG (a ++ it :: b) n).map (mapC ks)) (k : Int) :
    tourref3_Flat_Get_v2 ks gens parts (n : Int) g k = some (match mget (mapC ks it.Comps) k with | some v => (v, 0) | none => ([], 4)) := by
  have hsz : szM (mapC ks it.Comps) := fitC_szM (hs.2 it (by simp)).2
  unfold tourref3_Flat_Get_v2
  rw [rhas_hit h hG, Option.bind_some, cnd_not, cnd_true, hG, h.part]
  show (((some ((mget (mapC ks it.Comps) k).getD ([] : List Int))).bind fun x43 => cnd (!((mget (mapC ks it.Comps) k).isSome)) (some (([] : List Int), 4)) ((slices_Clone_int_int x43).bind fun x55 => some (x55, 0)))) = _
  rw [Option.bind_some]
  cases hm : mget (mapC ks it.Comps) k with
  | none => rfl
  | some v =>
    rw [Option.getD_some, clone_ints (hsz k v hm)]; rfl
theorem get_act (h : Hit ks gens a it b n g) (hs : szI (a ++ it :: b)) (hG : ∀ n, (mget parts n).getD none = (partG (a ++ it :: b) n).map (mapC ks)) (k : Int)
    (hc : world_Check ks gens (a ++ it :: b) = some 0) (hf : world_Find ks gens (a ++ it :: b) (n : Int) g = some (a.length : Int)) :
    ∃ r, world_Get ks gens (a ++ it :: b) (n : Int) g k = some r ∧ tourref3_Flat_Get_v2 ks gens parts (n : Int) g k = some r ∧ r.1.length ≤ 140737488355328 := by
  rw [rget_hit h hs hG]
  refine ⟨_, ?_, rfl, ?_⟩
  · unfold world_Get
    rw [hc, Option.bind_some, cnd_not, cnd_beq, if_pos rfl, hf, Option.bind_some, cnd_dec, if_neg (by omega), idx_at, Option.bind_some]
    rcases h.comp k with ⟨a', c, b', hl, hck, hat, hm, _⟩ | ⟨i, hat, hm⟩
    · rw [hat, bnd2_some, cnd_not, cnd_true, Option.bind_some, hl, idx_at, Option.bind_some, clone_ints ((hs.2 it (by simp)).2 c (by rw [hl]; simp)), ← hl, hm]; rfl
    · rw [hat, bnd2_some, cnd_not, cnd_false, hm]
  · cases hm : mget (mapC ks it.Comps) k with
    | none => show ([] : List Int).length ≤ _; simp
    | some v => have := fitC_szM (hs.2 it (by simp)).2 k v hm; show v.length ≤ _; omega
theorem drop_act (h : Hit ks gens a it b n g) (hz : szK ks) (hs : szI (a ++ it :: b)) (hG : ∀ n, (mget parts n).getD none = (partG (a ++ it :: b) n).map (mapC ks)) (k : Int)
    (hf : world_found ks gens (a ++ it :: b) (n : Int) g = some (ks, gens, a ++ it :: b, (a.length : Int), 0)) :
    (world_Drop ks gens (a ++ it :: b) (n : Int) g k = some ([], [], [], 4) ∧ tourref3_Flat_Drop_v2 ks gens parts (n : Int) g k = some (4, parts)) ∨
    ∃ items' parts', world_Drop ks gens (a ++ it :: b) (n : Int) g k = some (ks, gens, items', 0) ∧ tourref3_Flat_Drop_v2 ks gens parts (n : Int) g k = some (0, parts') ∧ tourref3_Flat_Close ks gens parts' = some (ks, gens, items') ∧ szI items' := by
  obtain ⟨hup, hr, hgd⟩ := h.held
  have hget := rget_hit h hs hG k
  rcases h.comp k with ⟨a', c, b', hl, hck, hat, hm, h16⟩ | ⟨i, hat, hm⟩
  · refine .inr ?_
    rw [hm] at hget
    have hnd : (it.Comps.map api_Comp.Kind).Nodup := nodup_up hup
    have hsub : (a' ++ b').Sublist it.Comps := by rw [hl]; exact List.Sublist.append (List.Sublist.refl _) (List.sublist_cons_self _ _)
    have hup' : Up2 api_Comp.Kind (a' ++ b') := List.Pairwise.sublist hsub hup
    have hr' : ∀ x ∈ a' ++ b', 0 ≤ x.Kind ∧ x.Kind < 16 := fun x hx => hr x (hsub.subset hx)
    have hls : listedM (mdel (mapC ks it.Comps) k) = a' ++ b' := listed_turn hup' hr' (fun q => by
      rw [mget_mdel (mapC_nodup hnd)]
      by_cases e : q = k
      · rw [if_pos e]
        refine getK_none fun x hx e2 => ?_
        rw [hl] at hup
        unfold Up2 at hup
        rw [List.pairwise_append, List.pairwise_cons] at hup
        rcases List.mem_append.1 hx with hx | hx
        · have := hup.2.2 x hx c (by simp); omega
        · have := hup.2.1.1 x hx; omega
      · rw [if_neg e, ← held_get hgd, hl]
        unfold getK
        rw [List.find?_append, List.find?_append, List.find?_cons_of_neg (by rw [hck]; simp; exact fun e2 => e e2.symm)])
    have hsz : szM (mdel (mapC ks it.Comps) k) := fun q v hv => by
      rw [mget_mdel (mapC_nodup hnd)] at hv
      by_cases e : q = k
      · rw [if_pos e] at hv; cases hv
      · rw [if_neg e] at hv; exact fitC_szM (hs.2 it (by simp)).2 q v hv
    have hsc : szC (a' ++ b') := ⟨by have := (hs.2 it (by simp)).1; have := hsub.length_le; omega, fun x hx => (hs.2 it (by simp)).2 x (hsub.subset hx)⟩
    obtain ⟨q1, q2⟩ := turn_close h hz hs hG hsz hls hsc
    refine ⟨_, _, ?_, ?_, q1, q2⟩
    · unfold world_Drop slices_Delete_api_Comp_api_Comp
      rw [hf, bnd5_some, cnd_not, cnd_beq, if_pos rfl, idx_at, Option.bind_some, hat, bnd2_some, cnd_not, cnd_true, hl, del_at (by omega), Option.bind_some, upd_at, Option.bind_some]
    · unfold tourref3_Flat_Drop_v2
      rw [hget, bnd2_some, cnd_not, cnd_beq, if_pos rfl, hG, h.part]; rfl
  · refine .inl ⟨?_, ?_⟩
    · unfold world_Drop
      rw [hf, bnd5_some, cnd_not, cnd_beq, if_pos rfl, idx_at, Option.bind_some, hat, bnd2_some, cnd_not, cnd_false, upd_at, Option.bind_some]
    · unfold tourref3_Flat_Drop_v2
      rw [hget, hm, bnd2_some, cnd_not, cnd_beq, if_neg (by decide)]
end Go.Proofs.YtbfndcookgijfaaGreatDoor.C
