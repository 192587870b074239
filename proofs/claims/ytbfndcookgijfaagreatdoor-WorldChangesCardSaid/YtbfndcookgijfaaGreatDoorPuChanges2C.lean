/- What the acts do, side by side. No condition. -/
import Derived.Test.YtbfndcookgijfaaGreatDoorPuChangesC
namespace Go.Proofs.YtbfndcookgijfaaGreatDoor.C
open Go Go.RowKit Go.Proofs.YtbfndcookgijfaaGreatDoor.Sx Classical
set_option linter.unusedVariables false
set_option linter.unusedSimpArgs false
theorem del_at {α : Type} {a b : List α} {x : α} (h : a.length ≤ 1000000) : del (a ++ x :: b) (a.length : Int) (IntKind.i64.wrap ((a.length : Int) + 1)) = some (a ++ b) := by
  have hw : IntKind.i64.wrap ((a.length : Int) + 1) = ((a.length + 1 : Nat) : Int) := by rw [i64ok (by omega) (by omega)]; rfl
  rw [hw]
  unfold del
  rw [if_pos ⟨by omega, by omega, by simp; omega⟩, Int.toNat_natCast, Int.toNat_natCast]
  congr 1
  rw [List.take_left', List.drop_append]
  · simp
  · rfl
theorem upd_at {α : Type} {a b : List α} {x y : α} : upd (a ++ x :: b) (a.length : Int) y = some (a ++ y :: b) := by
  rw [upd_ok (by simp)]
  congr 1
  rw [List.set_append_right _ _ (by omega)]
  simp
theorem idx_at {α : Type} {a b : List α} {x : α} : idx (a ++ x :: b) (a.length : Int) = some x := by
  rw [idx_get (by simp)]
  congr 1
  simp
theorem listed_turn {m : List (Int × List Int)} {l : List api_Comp} (hup : Up2 api_Comp.Kind l) (hr : ∀ c ∈ l, 0 ≤ c.Kind ∧ c.Kind < 16) (hf : ∀ n : Int, getK api_Comp.Kind l n = (mget m n).map (api_Comp.mk n)) : listedM m = l := by
  have hp := pick_find api_Comp.Kind 16 0 l hup (fun c hc => by have := hr c hc; constructor <;> omega)
  rw [← hp]
  unfold listedM
  congr 1
  funext n
  exact (hf n).symm
theorem held_len {l : List api_Comp} (hup : Up2 api_Comp.Kind l) (hr : ∀ c ∈ l, 0 ≤ c.Kind ∧ c.Kind < 16) : l.length ≤ 16 := by
  have hp := pick_find api_Comp.Kind 16 0 l hup (fun c hc => by have := hr c hc; constructor <;> omega)
  rw [← hp]
  exact pickR_len 16 _
theorem held_get {ks : List api_Kind} {l : List api_Comp} (h : ∀ c ∈ l, goodC ks c ∧ fitC ks c = c.Vals) (n : Int) : getK api_Comp.Kind l n = (mget (mapC ks l) n).map (api_Comp.mk n) := by
  unfold getK
  rw [mget_mapC, Option.map_map]
  cases hf : l.find? (fun c => decide (c.Kind = n)) with
  | none => rfl
  | some c =>
    have hk : c.Kind = n := by simpa using List.find?_some hf
    rw [Option.map_some, Function.comp, (h c (List.mem_of_find?_eq_some hf)).2, ← hk]
variable {ks : List api_Kind} {gens : List Int} {a b : List api_Item} {it : api_Item} {n : Nat} {g : Int} {parts : List (Int × Option (List (Int × List Int)))}
theorem Hit.other (h : Hit ks gens a it b n g) {k : Nat} (hk : k ≠ n) : (a ++ b).find? (fun x => decide (x.Ent.N = (k : Int))) = (a ++ it :: b).find? (fun x => decide (x.Ent.N = (k : Int))) := by
  rw [List.find?_append, List.find?_append, List.find?_cons_of_neg (by rw [h.e]; simp; omega)]
theorem Hit.szM (h : Hit ks gens a it b n g) (hs : szI (a ++ it :: b)) {k : Int} {m : List (Int × List Int)} (hm : (partG (a ++ it :: b) k).map (mapC ks) = some m) : szM m := by
  obtain ⟨l, hl, rfl⟩ := Option.map_eq_some_iff.1 hm
  obtain ⟨x, hx, _, rfl⟩ := partG_mem hl
  exact fitC_szM (hs.2 x hx).2
theorem Hit.al (h : Hit ks gens a it b n g) : a.length ≤ 256 ∧ (a ++ it :: b).length ≤ 256 := by
  have h1 := h.v.il
  have h2 := h.v.g256
  simp only [List.length_append, List.length_cons] at h1 ⊢
  omega
/-! ### Kill -/
theorem kill_act (h : Hit ks gens a it b n g) (hz : szK ks) (hs : szI (a ++ it :: b)) (hG : ∀ n, (mget parts n).getD none = (partG (a ++ it :: b) n).map (mapC ks)) (hn : (parts.map Prod.fst).Nodup)
    (hf : world_found ks gens (a ++ it :: b) (n : Int) g = some (ks, gens, a ++ it :: b, (a.length : Int), 0)) :
    ∃ gens' items' parts', world_Kill ks gens (a ++ it :: b) (n : Int) g = some (ks, gens', items', 0) ∧ tourref3_Flat_Kill_v2 ks gens parts (n : Int) g = some (0, gens', parts') ∧
      tourref3_Flat_Close ks gens' parts' = some (ks, gens', items') ∧ szI items' ∧ gens'.length ≤ 256 := by
  have hal := h.al
  have hlt := h.lt
  have hgr := h.gr
  have hg2 := h.v.g256
  have hw : IntKind.i64.wrap (g + 1) = g + 1 := i64ok (by omega) (by omega)
  refine ⟨gens.set n (g + 1), a ++ b, mdel parts (n : Int), ?_, ?_, ?_, ?_, by simpa using hg2⟩
  · unfold world_Kill slices_Delete_api_Item_api_Item
    rw [hf, bnd5_some, cnd_not, cnd_beq, if_pos rfl, idx_get hlt, h.ge, Option.bind_some, Option.bind_some, hw, upd_ok hlt, Option.bind_some, del_at (by omega), Option.bind_some]
  · unfold tourref3_Flat_Kill_v2
    rw [rhas_hit h hG, Option.bind_some, cnd_not, cnd_true, Option.bind_some, idx_get hlt, h.ge, Option.bind_some, Option.bind_some, hw, upd_ok hlt, Option.bind_some]
  · have hG' : ∀ k, (mget (mdel parts (n : Int)) k).getD none = if k = (n : Int) then none else (partG (a ++ it :: b) k).map (mapC ks) := fun k => by
      rw [mget_mdel hn]
      by_cases e : k = (n : Int)
      · rw [if_pos e, if_pos e]; rfl
      · rw [if_neg e, if_neg e, hG]
    rw [rcloseM hz (by simp; omega) hG' (fun k m hm => by
      by_cases e : k = (n : Int)
      · rw [if_pos e] at hm; cases hm
      · rw [if_neg e] at hm; exact h.szM hs hm)]
    congr 2
    congr 1
    have hup : Up2 (fun it : api_Item => it.Ent.N) (a ++ b) := List.Pairwise.sublist (List.Sublist.append (List.Sublist.refl a) (List.sublist_cons_self it b)) h.v.up
    refine closed_turn (n := n) h.v (by simp) hup (fun x hx => h.v.range (by
      rcases List.mem_append.1 hx with hx | hx
      · exact List.mem_append_left _ hx
      · exact List.mem_append_right _ (List.mem_cons_of_mem _ hx))) (fun k hk => ⟨h.other hk, by rw [if_neg (by omega)], ?_⟩) ?_
    · rw [List.getD_eq_getElem?_getD, List.getD_eq_getElem?_getD, List.getElem?_set_ne (by omega)]
    · rw [if_pos rfl, List.find?_eq_none.2 (fun x hx => by
        rcases List.mem_append.1 hx with hx | hx
        · have := h.a x hx; simp; omega
        · have := h.b x hx; simp; omega)]
      rfl
  · refine ⟨by have := hs.1; simp only [List.length_append, List.length_cons] at this ⊢; omega, fun x hx => hs.2 x ?_⟩
    rcases List.mem_append.1 hx with hx | hx
    · exact List.mem_append_left _ hx
    · exact List.mem_append_right _ (List.mem_cons_of_mem _ hx)
/-! ### An item told anew -/
theorem turn_close {l' : List api_Comp} {m' : List (Int × List Int)} (h : Hit ks gens a it b n g) (hz : szK ks) (hs : szI (a ++ it :: b)) (hG : ∀ n, (mget parts n).getD none = (partG (a ++ it :: b) n).map (mapC ks)) (hm : szM m') (hl : listedM m' = l') (hsl : szC l') :
    tourref3_Flat_Close ks gens (mput parts (n : Int) (some m')) = some (ks, gens, a ++ api_Item.mk (api_Ent.mk it.Ent.N it.Ent.Gen) l' :: b) ∧ szI (a ++ api_Item.mk (api_Ent.mk it.Ent.N it.Ent.Gen) l' :: b) := by
  have hlt := h.lt
  have hg2 := h.v.g256
  constructor
  · have hG' : ∀ k, (mget (mput parts (n : Int) (some m')) k).getD none = if k = (n : Int) then some m' else (partG (a ++ it :: b) k).map (mapC ks) := fun k => by
      rw [mget_putS]
      by_cases e : k = (n : Int)
      · rw [if_pos e, if_pos e]; rfl
      · rw [if_neg e, if_neg e, hG]
    rw [rcloseM hz (by omega) hG' (fun k m hk => by
      by_cases e : k = (n : Int)
      · rw [if_pos e] at hk; obtain rfl := Option.some.inj hk; exact hm
      · rw [if_neg e] at hk; exact h.szM hs hk)]
    congr 2
    congr 1
    have hN : it.Ent.N = (n : Int) := by rw [h.e]
    have hup := h.v.up
    unfold Up2 at hup
    rw [List.pairwise_append, List.pairwise_cons] at hup
    refine closed_turn (n := n) h.v rfl ?_ (fun x hx => ?_) (fun k hk => ⟨?_, by rw [if_neg (by omega)], rfl⟩) ?_
    · unfold Up2
      rw [List.pairwise_append, List.pairwise_cons]
      refine ⟨hup.1, ⟨fun x hx => hup.2.1.1 x hx, hup.2.1.2⟩, fun x hx y hy => ?_⟩
      rcases List.mem_cons.1 hy with rfl | hy
      · exact hup.2.2 x hx it (by simp)
      · exact hup.2.2 x hx y (by simp [hy])
    · rcases List.mem_append.1 hx with hx | hx
      · exact h.v.range (List.mem_append_left _ hx)
      · rcases List.mem_cons.1 hx with rfl | hx
        · exact h.v.range (it := it) (by simp)
        · exact h.v.range (List.mem_append_right _ (List.mem_cons_of_mem _ hx))
    · rw [List.find?_append, List.find?_append, List.find?_cons_of_neg (by simp; omega), List.find?_cons_of_neg (by simp; omega)]
    · rw [if_pos rfl, List.find?_append, List.find?_eq_none.2 (fun x hx => by have := h.a x hx; simp; omega), Option.none_or, List.find?_cons_of_pos (by simp [hN]), Option.map_some, hl]
      have : gens.getD n 0 = g := by rw [List.getD_eq_getElem?_getD, List.getElem?_eq_getElem hlt, h.ge]; rfl
      rw [this, h.e]
  · refine ⟨by have := hs.1; simpa using this, fun x hx => ?_⟩
    rcases List.mem_append.1 hx with hx | hx
    · exact hs.2 x (List.mem_append_left _ hx)
    · rcases List.mem_cons.1 hx with rfl | hx
      · exact hsl
      · exact hs.2 x (List.mem_append_right _ (List.mem_cons_of_mem _ hx))
/-! ### Put -/
theorem fit_one {c : api_Comp} (hc : fitE ks [] [c] = 0) (hk : checkV ks = 0) : goodC ks c ∧ fitW ks [c] = ([normC ks c], 0) := by
  have hall := fitE_all.1 hc
  have hg := hall.1 c (by simp)
  refine ⟨hg, ?_⟩
  unfold fitW
  rw [if_pos hk, if_pos hc, List.map_cons, List.map_nil, List.mergeSort_singleton, fitCV_norm hg]
theorem put_act (hk : ∀ i (h : i < ks.length), oks ks[i].Name ∧ ∀ j (hj : j < ks[i].Fields.length), oks ks[i].Fields[j].Name) (h : Hit ks gens a it b n g) (hz : szK ks) (hs : szI (a ++ it :: b)) (hG : ∀ n, (mget parts n).getD none = (partG (a ++ it :: b) n).map (mapC ks))
    (hf : world_found ks gens (a ++ it :: b) (n : Int) g = some (ks, gens, a ++ it :: b, (a.length : Int), 0)) (c : api_Comp) (hcl : c.Vals.length * 8 ≤ 140737488355328) :
    (fitE ks [] [c] ≠ 0 ∧ world_Put ks gens (a ++ it :: b) (n : Int) g c.Kind c.Vals = some ([], [], [], fitE ks [] [c]) ∧ tourref3_Flat_Put_v2 ks gens parts (n : Int) g c.Kind c.Vals = some (fitE ks [] [c], parts)) ∨
    ∃ items' parts', world_Put ks gens (a ++ it :: b) (n : Int) g c.Kind c.Vals = some (ks, gens, items', 0) ∧ tourref3_Flat_Put_v2 ks gens parts (n : Int) g c.Kind c.Vals = some (0, parts') ∧
      tourref3_Flat_Close ks gens parts' = some (ks, gens, items') ∧ szI items' := by
  have hc1 : api_Comp.mk c.Kind c.Vals = c := rfl
  by_cases h0 : fitE ks [] [c] = 0
  · obtain ⟨hg, hw⟩ := fit_one h0 h.v.kc
    obtain ⟨hup, hr, hgd⟩ := h.held
    have h16 := held_len hup hr
    obtain ⟨a', b', hl, ha, hb⟩ := (up_srtC hup).split cmpI_ord c.Kind
    have hkr := good_range hg
    have hk16 := h.v.k16
    have hgl := held_get (ks := ks) hgd
    have hsit := hs.2 it (by simp)
    have hP : ∀ l', world_Put_j1 ks gens l' = some (ks, gens, l', 0) := fun _ => rfl
    have href : tourref3_Flat_Put_v2 ks gens parts (n : Int) g c.Kind c.Vals = some (0, mput parts (n : Int) (some (mput (mapC ks it.Comps) c.Kind (fitC ks c)))) := by
      unfold tourref3_Flat_Put_v2
      rw [rhas_hit h hG, Option.bind_some, cnd_not, cnd_true, hc1, fittedE hk (by simp), if_pos h0, Option.bind_some, Sum.elim_inl, Option.bind_some, hG, h.part]
      have : (mget (mapC ks [c]) c.Kind).getD [] = fitC ks c := by rw [mget_mapC, List.find?_cons_of_pos (by simp)]; rfl
      rw [this]; rfl
    have hszm : szM (mput (mapC ks it.Comps) c.Kind (fitC ks c)) := fun k v hv => by
      rw [mget_putS] at hv
      by_cases e : k = c.Kind
      · rw [if_pos e] at hv; obtain rfl := Option.some.inj hv; have := fitC_len ks c; omega
      · rw [if_neg e] at hv; exact fitC_szM hsit.2 k v hv
    have hsn : (normC ks c).Vals.length * 8 ≤ 140737488355328 := by have := fitC_len ks c; show (fitC ks c).length * 8 ≤ _; omega
    have hprog : ∀ l', (bnd2 (world_at it.Comps c.Kind) fun x67 x68 =>
        cnd x68 ((idx [normC ks c] 0).bind fun x83 => (idx it.Comps x67).bind fun x96 => (upd it.Comps x67 x83).bind fun l109 => some l109) ((idx [normC ks c] 0).bind fun x135 => (slices_Insert_api_Comp_api_Comp it.Comps x67 ([x135] : List api_Comp)).bind fun x150 => some x150)) = some l' →
        world_Put ks gens (a ++ it :: b) (n : Int) g c.Kind c.Vals = some (ks, gens, a ++ api_Item.mk (api_Ent.mk it.Ent.N it.Ent.Gen) l' :: b, 0) := fun l' hl' => by
      unfold world_Put
      rw [hf, bnd5_some, cnd_not, cnd_beq, if_pos rfl, hc1, kfitw ks (by simp), hw, bnd2_some, cnd_not, cnd_beq, if_pos rfl, idx_at, Option.bind_some]
      generalize hat : world_at it.Comps c.Kind = A at hl'
      cases A with
      | none => cases hl'
      | some p =>
        obtain ⟨x67, x68⟩ := p
        rw [bnd2_some] at hl' ⊢
        cases x68
        · rw [cnd_false] at hl' ⊢
          obtain ⟨x135, e1, hl'⟩ := obind hl'
          obtain ⟨x150, e2, hl'⟩ := obind hl'
          obtain rfl := Option.some.inj hl'
          rw [e1, Option.bind_some, e2, Option.bind_some, upd_at, Option.bind_some, hP]
        · rw [cnd_true] at hl' ⊢
          obtain ⟨x83, e1, hl'⟩ := obind hl'
          obtain ⟨x96, e2, hl'⟩ := obind hl'
          obtain ⟨l109, e3, hl'⟩ := obind hl'
          obtain rfl := Option.some.inj hl'
          rw [e1, Option.bind_some, e2, Option.bind_some, e3, Option.bind_some, upd_at, Option.bind_some, hP]
    have i0 : idx [normC ks c] 0 = some (normC ks c) := rfl
    have fin : ∀ l', world_Put ks gens (a ++ it :: b) (n : Int) g c.Kind c.Vals = some (ks, gens, a ++ api_Item.mk (api_Ent.mk it.Ent.N it.Ent.Gen) l' :: b, 0) → Srt cmpI api_Comp.Kind l' → (∀ k, getK api_Comp.Kind l' k = if k = c.Kind then some (normC ks c) else getK api_Comp.Kind it.Comps k) → (∀ x ∈ l', x = normC ks c ∨ x ∈ it.Comps) →
        ∃ items' parts', world_Put ks gens (a ++ it :: b) (n : Int) g c.Kind c.Vals = some (ks, gens, items', 0) ∧ tourref3_Flat_Put_v2 ks gens parts (n : Int) g c.Kind c.Vals = some (0, parts') ∧ tourref3_Flat_Close ks gens parts' = some (ks, gens, items') ∧ szI items' := fun l' e1 e2 e3 e4 => by
      have hr' : ∀ x ∈ l', 0 ≤ x.Kind ∧ x.Kind < 16 := fun x hx => by
        rcases e4 x hx with rfl | hx
        · show 0 ≤ c.Kind ∧ c.Kind < 16; omega
        · exact hr x hx
      have hlen := held_len (srt_upC e2) hr'
      have hls := listed_turn (m := mput (mapC ks it.Comps) c.Kind (fitC ks c)) (srt_upC e2) hr' (fun k => by
        rw [e3, mget_putS]
        by_cases e : k = c.Kind
        · rw [if_pos e, if_pos e, Option.map_some, e]; rfl
        · rw [if_neg e, if_neg e, hgl])
      obtain ⟨q1, q2⟩ := turn_close h hz hs hG hszm hls ⟨by omega, fun x hx => by
        rcases e4 x hx with rfl | hx
        · exact hsn
        · exact hsit.2 x hx⟩
      exact ⟨_, _, e1, href, q1, q2⟩
    have hll : it.Comps.length = a'.length + b'.length := by rw [hl, List.length_append]
    have hat := kat (a := a') (b := b') (n := c.Kind) (by rw [← hl]; omega) ha hb
    rw [← hl] at hat
    refine .inr ?_
    have new : (∀ y, b'.head? = some y → y.Kind ≠ c.Kind) → ∃ items' parts', world_Put ks gens (a ++ it :: b) (n : Int) g c.Kind c.Vals = some (ks, gens, items', 0) ∧ tourref3_Flat_Put_v2 ks gens parts (n : Int) g c.Kind c.Vals = some (0, parts') ∧ tourref3_Flat_Close ks gens parts' = some (ks, gens, items') ∧ szI items' := fun hne => by
      have hat' : world_at it.Comps c.Kind = some ((a'.length : Int), false) := by
        rw [hat]
        cases b' with
        | nil => rfl
        | cons z b' => rw [show headC (z :: b') c.Kind = false from decide_eq_false (hne z rfl)]
      obtain ⟨n1, n2, n3⟩ := put_new (kf := api_Comp.Kind) (e := normC ks c) cmpI_ord (by rw [← hl]; exact up_srtC hup) ha hb hne
      refine fin (a' ++ normC ks c :: b') (hprog _ ?_) n1 (fun k => by rw [n2, hl]; rfl) (fun x hx => ?_)
      · rw [hat', bnd2_some, cnd_false, i0, Option.bind_some]
        unfold slices_Insert_api_Comp_api_Comp
        rw [hl, ins_at (by simp) (by rw [← hl]; simp; omega), Option.bind_some, List.append_assoc, List.singleton_append]
      · rw [hl]
        rcases List.mem_append.1 hx with hx | hx
        · exact .inr (List.mem_append_left _ hx)
        · rcases List.mem_cons.1 hx with rfl | hx
          · exact .inl rfl
          · exact .inr (List.mem_append_right _ hx)
    cases b' with
    | nil => exact new (fun y hy => by simp at hy)
    | cons y b' =>
      by_cases hy : y.Kind = c.Kind
      · have hat' : world_at it.Comps c.Kind = some ((a'.length : Int), true) := by rw [hat, show headC (y :: b') c.Kind = true from decide_eq_true hy]
        obtain ⟨n1, n2⟩ := put_same (kf := api_Comp.Kind) (e := normC ks c) cmpI_ord (by rw [← hl]; exact up_srtC hup) hy
        refine fin (a' ++ normC ks c :: b') (hprog _ ?_) n1 (fun k => by rw [n2, hl]; rfl) (fun x hx => ?_)
        · rw [hat', bnd2_some, cnd_true, i0, Option.bind_some, hl, idx_at, Option.bind_some, upd_at, Option.bind_some]
        · rw [hl]
          rcases List.mem_append.1 hx with hx | hx
          · exact .inr (List.mem_append_left _ hx)
          · rcases List.mem_cons.1 hx with rfl | hx
            · exact .inl rfl
            · exact .inr (List.mem_append_right _ (List.mem_cons_of_mem _ hx))
      · exact new (fun z hz' => by simp only [List.head?_cons, Option.some.injEq] at hz'; subst hz'; exact hy)
  · refine .inl ⟨h0, ?_, ?_⟩
    · unfold world_Put
      rw [hf, bnd5_some, cnd_not, cnd_beq, if_pos rfl, hc1, kfitw ks (by simp)]
      unfold fitW
      rw [if_pos h.v.kc, if_neg h0, bnd2_some, cnd_not, cnd_beq, if_neg h0]
    · unfold tourref3_Flat_Put_v2
      rw [rhas_hit h hG, Option.bind_some, cnd_not, cnd_true, hc1, fittedE hk (by simp), if_neg h0, Option.bind_some, Sum.elim_inr, cnd_not, cnd_beq, if_neg h0]
end Go.Proofs.YtbfndcookgijfaaGreatDoor.C
