/- Sorting a row of the call's own by a whole number of each element: what memory holds behind it. No condition. -/
import Derived.Test.YtbfndcookgijfaaGreatDoorExDel
import Derived.Test.YtbfndcookgijfaaGreatDoorExSortF
import Derived.Shelf.SlSortCmp.NoneTotal
namespace Go.Proofs.YtbfndcookgijfaaGreatDoor.Sx
open Go Go.RowKit Go.Shelf
set_option linter.unusedVariables false
set_option linter.unusedSimpArgs false
theorem RepL.pairs {α : Type} {R : Rep α} {F : Nat → Prop} {w : World} : ∀ {l : List α} {y : List Value}, RepL R F w l y → ∃ zs : List (α × List Value), zs.map (·.1) = l ∧ (zs.map (·.2)).flatten = y ∧ ∀ e ∈ zs, R.rd F w e.1 e.2 := by
  intro l
  induction l with
  | nil => intro y h; exact ⟨[], rfl, (List.eq_nil_of_length_eq_zero (by rw [h.len]; simp)).symm, by simp⟩
  | cons x l ih =>
    intro y h
    have h2 := h.drop 1
    obtain ⟨zs, e1, e2, e3⟩ := ih h2
    obtain ⟨vs, hr, hv⟩ := h.at_ 0 x rfl
    have hlen := R.len hr
    have hyl := h.len
    have ht : y.take (1 * R.z) = vs := by
      rw [Nat.one_mul]
      rw [List.length_cons, Nat.add_mul, Nat.one_mul] at hyl
      apply List.ext_getElem?
      intro i
      rw [List.getElem?_take]
      by_cases hi : i < R.z
      · rw [if_pos hi, List.getElem?_eq_getElem (show i < vs.length by omega)]
        have := hv i vs[i] (List.getElem?_eq_getElem (show i < vs.length by omega))
        rw [Nat.zero_mul, Nat.zero_add] at this
        exact this
      · rw [if_neg hi, List.getElem?_eq_none (by omega)]
    refine ⟨(x, vs) :: zs, by simp [e1], ?_, ?_⟩
    · rw [List.map_cons, List.flatten_cons, e2, ← ht, List.take_append_drop]
    · intro e he
      rcases List.mem_cons.1 he with rfl | he
      · exact hr
      · exact e3 e he
theorem RepL.ofPairs {α : Type} {R : Rep α} {F : Nat → Prop} {w : World} : ∀ (zs : List (α × List Value)), (∀ e ∈ zs, R.rd F w e.1 e.2) → RepL R F w (zs.map (·.1)) (zs.map (·.2)).flatten := by
  intro zs
  induction zs with
  | nil => intro _; exact RepL.nil
  | cons e zs ih => intro h; exact RepL.cons (h e (by simp)) (ih fun e he => h e (by simp [he]))
theorem flat_len {k : Nat} : ∀ (L : List (List Value)), (∀ v ∈ L, v.length = k) → L.flatten.length = L.length * k := by
  intro L
  induction L with
  | nil => intro _; simp
  | cons v L ih => intro h; rw [List.flatten_cons, List.length_append, h v (by simp), ih fun u hu => h u (by simp [hu]), List.length_cons, Nat.add_mul, Nat.one_mul, Nat.add_comm]
theorem flat_getS {k : Nat} : ∀ (L : List (List Value)) (t : Nat), (∀ v ∈ L, v.length = k) → t < L.length * k → L.flatten[t]? = (L[t / k]?).bind fun v => v[t % k]? := by
  intro L
  induction L with
  | nil => intro t _ h; simp at h
  | cons v L ih =>
    intro t hk h
    have hv := hk v (by simp)
    rw [List.flatten_cons]
    by_cases ht : t < k
    · rw [List.getElem?_append_left (by omega), Nat.div_eq_of_lt ht, Nat.mod_eq_of_lt ht]; rfl
    · rw [List.getElem?_append_right (by omega), hv, ih (t - k) (fun u hu => hk u (by simp [hu])) (by rw [List.length_cons, Nat.add_mul, Nat.one_mul] at h; omega)]
      have hk0 : 0 < k := by
        rcases Nat.eq_zero_or_pos k with h0 | h0
        · subst h0; simp at h
        · exact h0
      have e1 : t / k = (t - k) / k + 1 := by rw [Nat.div_eq t k, if_pos ⟨hk0, by omega⟩]
      have e2 : t % k = (t - k) % k := by rw [Nat.mod_eq t k, if_pos ⟨hk0, by omega⟩]
      rw [e1, e2]; rfl
theorem flatK_list {α : Type} [Inhabited α] (enc : α → List Value) (k : Nat) (hk : ∀ x, (enc x).length = k) (d : Array α) : Go.Sort.flatK enc k d = ((d.toList.map enc).flatten).toArray := by
  have hall : ∀ v ∈ d.toList.map enc, v.length = k := fun v hv => by
    obtain ⟨x, _, rfl⟩ := List.mem_map.1 hv
    exact hk x
  have hl : ((d.toList.map enc).flatten).length = d.size * k := by
    rw [flat_len _ hall, List.length_map]; simp
  refine Go.Sort.ext_get! (by rw [Go.Sort.size_flatK]; exact hl.symm) fun t ht => ?_
  rw [Go.Sort.size_flatK] at ht
  rw [Go.Sort.get_flatK _ _ _ _ ht]
  have hk0 : 0 < k := by
    rcases Nat.eq_zero_or_pos k with h0 | h0
    · subst h0; simp at ht
    · exact h0
  have htk : t / k < d.size := Nat.div_lt_of_lt_mul (by rwa [Nat.mul_comm] at ht)
  have hx : d.toList[t / k]? = some d[t / k] := by rw [List.getElem?_eq_getElem (by simpa using htk)]; simp
  have h2 := flat_getS _ t hall (by rw [List.length_map]; simpa using ht)
  rw [List.getElem?_map, hx] at h2
  simp only [Option.map_some, Option.bind_some] at h2
  have hm : t % k < (enc d[t / k]).length := by rw [hk]; exact Nat.mod_lt _ hk0
  rw [List.getElem?_eq_getElem hm] at h2
  have ht2 : t < ((d.toList.map enc).flatten).toArray.size := by show t < ((d.toList.map enc).flatten).length; rw [hl]; exact ht
  rw [getElem!_pos d _ htk, getElem!_pos (enc d[t / k]) _ hm, getElem!_pos ((d.toList.map enc).flatten).toArray t ht2]
  have ht3 : t < ((d.toList.map enc).flatten).length := by rw [hl]; exact ht
  rw [List.getElem?_eq_getElem ht3] at h2
  exact (Option.some.inj h2).symm
section
variable {w0 w W : World} {cs : List Chunk} {A : Option Addr} {n c z : Nat} {e : TypeId} {y y' : List Value} {g : Nat}
theorem Mem.holdsFlat (hM : Mem w0 (orow (some ⟨g, 0, none⟩) n c e z y :: cs) w) (hc : 0 < c) : Go.Sort.Holds id w g 0 y.toArray := by
  intro j hj
  have hj' : j < y.length := by simpa using hj
  rw [Nat.zero_add]
  refine ⟨?_, ?_⟩
  · have := hM.ocell 0 rfl (off := j) (List.getElem?_eq_getElem hj')
    rw [this, getElem!_pos y.toArray j hj]
    simp
  · have hi : (orow (some ⟨g, 0, none⟩) n c e z y :: cs)[0]? = some (.row (some ⟨g, 0, none⟩) n c e z y) := by
      show some (orow (some ⟨g, 0, none⟩) n c e z y) = _
      unfold orow; rw [rowA_pos hc]
    exact hM.rowfree 0 hi
theorem Mem.putFlat (hM : Mem w0 (orow (some ⟨g, 0, none⟩) n c e z y :: cs) w) (hc : 0 < c) (hl : y'.length = y.length) : Mem w0 (orow (some ⟨g, 0, none⟩) n c e z y' :: cs) (Go.Sort.putRow id w g 0 y'.toArray) := by
  have hH := hM.holdsFlat hc
  obtain ⟨w1, he, hM1⟩ := hM.ostore 0 rfl 0 y' (by omega)
  have e1 := stores_world _ _ _ he
  have e2 := Go.Sort.setCells_putRow w g 0 y' 0 y.toArray (by simp; omega)
  rw [Go.Sort.putRow_self id w g 0 _ hH, Nat.add_zero] at e2
  have e3 : Go.Sort.setMany y.toArray 0 y' = y'.toArray := by
    refine Go.Sort.ext_get! (by simp [hl]) fun t ht => ?_
    have ht' : t < y.length := by simpa using ht
    rw [Go.Sort.get_setMany _ _ _ _ (by simpa using ht'), if_pos ⟨by omega, by omega⟩, Nat.sub_zero]
    rw [getElem!_pos y' _ (by omega), getElem!_pos y'.toArray _ (by simp; omega)]
    simp
  have e4 : setAll y 0 y' = y' := by
    have := setAll_mid y' y 0 (by omega)
    rw [Nat.zero_add, List.take_zero, List.nil_append, hl, List.take_of_length_le (by rw [setAll_length]; omega)] at this
    exact this
  rw [e1, e2, e3, e4] at hM1
  exact hM1
theorem below_grow (w : World) (n : Nat) (os : Array Obj) : Below w.heap.size w (Go.Sort.grow (Go.Sort.ahead w n) os) := by
  refine ⟨rfl, rfl, rfl, ?_, fun b hb => ?_⟩
  · show w.heap.size ≤ (w.heap ++ os).size
    rw [Array.size_append]; omega
  · show (w.heap ++ os)[b]? = w.heap[b]?
    exact Array.getElem?_append_left hb
end
theorem cmp_lt (a b : Int) : decide (Lib.compareInt a b < 0) = decide (a < b) := by
  unfold Lib.compareInt
  by_cases h1 : a < b
  · simp [h1]
  · by_cases h2 : b < a <;> simp [h1, h2]
set_option maxHeartbeats 1000000 in
theorem sort_row {P : Program} {ρ : Ren} (L : SlLaysF0.n6 P ρ) {α : Type} {R : Rep α} (aE : ∀ w, (isAgg (ρ.t 24)).run P w = .ok true w) (zE : ∀ w, (Go.sizeOf (ρ.t 24)).run P w = .ok R.z w) (key : α → Int) (gc : Nat) (eg : ∀ args w, (callFunc gc args).run P w = .ok (.enter gc args) w)
    (hcmp : ∀ (F : Nat → Prop) (W : World) (x y : α) (vx vy : List Value), R.rd F W x vx → R.rd F W y vy → ∀ W', Calls P gc #[.agg vx.toArray, .agg vy.toArray] W' fun e w' => e = .returned (.int .i64 (Lib.compareInt (key x) (key y))) ∧ ∃ q os', w' = Go.Sort.grow (W'.drewN q) os')
    {w0 w W : World} {cs : List Chunk} {A : Option Addr} {c : Nat} {e : TypeId} {l r : List α} {y : List Value} {F : Nat → Prop} (hM : Mem w0 (orow A l.length c e R.z y :: cs) w) (hL : RepL R F W l y) (hr : sortBy key l = some r) :
    Calls P (ρ.f 6) #[.slice A l.length c, .func (.func gc) #[] #[]] w fun ex w' => ex = .returned (.tuple #[]) ∧ ∃ y', RepL R F W r y' ∧ Mem w0 (orow A r.length c e R.z y' :: cs) w' := by
  obtain ⟨hnd, hlt, rfl⟩ := sortBy_some hr
  by_cases h0 : l.length = 0
  · obtain rfl := List.eq_nil_of_length_eq_zero h0
    refine (AnyF.slices_SortFunc_none (P := P) (ρ := ρ) { L with } A c (.func (.func gc) #[] #[]) w).mono ?_
    rintro ex w' ⟨rfl, rfl⟩
    rw [List.mergeSort_nil]
    exact ⟨rfl, y, hL, hM⟩
  · obtain ⟨g, rfl, hc0⟩ := hM.orowSome 0 rfl (by omega)
    obtain ⟨zs, z1, z2, z3⟩ := hL.pairs
    have hzl : zs.length = l.length := by rw [← z1, List.length_map]
    have hz0 : 0 < zs.length := by omega
    haveI : Inhabited {p : α × List Value // p ∈ zs} := ⟨⟨zs[0], List.getElem_mem hz0⟩⟩
    obtain ⟨d, hd⟩ : ∃ d : Array {p : α × List Value // p ∈ zs}, d = zs.attach.toArray := ⟨_, rfl⟩
    have hdl : d.toList = zs.attach := by rw [hd]
    have hds : d.size = l.length := by rw [← Array.length_toList, hdl, List.length_attach, hzl]
    let enc : {p : α × List Value // p ∈ zs} → List Value := fun p => p.1.2
    have hk : ∀ p, (enc p).length = R.z := fun p => R.len (z3 p.1 p.2)
    have h1 : ∀ p, ∀ v ∈ enc p, v.oneCell' = true := fun p => R.one (z3 p.1 p.2)
    let cf : {p : α × List Value // p ∈ zs} → {p : α × List Value // p ∈ zs} → Int := fun a b => Lib.compareInt (key a.1.1) (key b.1.1)
    have hltf : ∀ a b, Go.Proofs.ltOf cf a b = decide (key a.1.1 < key b.1.1) := fun a b => cmp_lt _ _
    have hO : Go.Sort.SWO (Go.Proofs.ltOf cf) := by
      refine ⟨fun x => ?_, fun x y z h1 h2 => ?_, fun x y z h1 h2 => ?_⟩
      · rw [hltf]; simp
      · rw [hltf] at *; simp at *; omega
      · rw [hltf] at *; simp at *; omega
    have hT : ∀ x y, (Go.Proofs.ltOf cf) x y = false → (Go.Proofs.ltOf cf) y x = false → x = y := by
      intro x y hx hy
      rw [hltf] at hx hy
      simp at hx hy
      have hxy : key x.1.1 = key y.1.1 := by omega
      obtain ⟨i, hi, hix⟩ := List.mem_iff_getElem.1 x.2
      obtain ⟨j, hj, hjy⟩ := List.mem_iff_getElem.1 y.2
      have hil : i < l.length := by omega
      have hjl : j < l.length := by omega
      have hli : l[i] = x.1.1 := by subst z1; simp [hix]
      have hlj : l[j] = y.1.1 := by subst z1; simp [hjy]
      have : i = j := by
        have hn := List.nodup_iff_pairwise_ne.1 hnd
        rw [List.pairwise_iff_getElem] at hn
        rcases Nat.lt_trichotomy i j with h | h | h
        · exact absurd (by rw [List.getElem_map, List.getElem_map, hli, hlj, hxy]) (hn i j (by rw [List.length_map]; exact hil) (by rw [List.length_map]; exact hjl) h)
        · exact h
        · exact absurd (by rw [List.getElem_map, List.getElem_map, hli, hlj, hxy]) (hn j i (by rw [List.length_map]; exact hjl) (by rw [List.length_map]; exact hil) h)
      subst this
      exact Subtype.ext (hix.symm.trans hjy)
    have hflat : Go.Sort.flatK enc R.z d = y.toArray := by
      rw [flatK_list enc R.z hk, hdl, ← z2]
      congr 2
      show zs.attach.map (fun p => p.1.2) = _
      rw [show (fun p : {p : α × List Value // p ∈ zs} => p.1.2) = (fun q : α × List Value => q.2) ∘ Subtype.val from rfl, ← List.map_map, List.attach_map_subtype_val]
    have hH : Go.Sort.HoldsK enc R.z w g 0 d := by
      unfold Go.Sort.HoldsK
      rw [hflat]
      exact hM.holdsFlat hc0
    have hblk : g < w.heap.size := by
      have hi : (orow (some ⟨g, 0, none⟩) l.length c e R.z y :: cs)[0]? = some (.row (some ⟨g, 0, none⟩) l.length c e R.z y) := by
        show some (orow (some ⟨g, 0, none⟩) l.length c e R.z y) = _
        unfold orow; rw [rowA_pos hc0]
      exact (hM.get 0 hi).lt g rfl
    have hcl : Go.Proofs.CmpLays P gc #[] enc R.z cf g 0 d.size w := fun m os dk _ x y => by
      have := hcmp F W x.1.1 y.1.1 x.1.2 y.1.2 (z3 x.1 x.2) (z3 y.1 y.2) (Go.Proofs.sortWorldK enc R.z w g 0 m dk os)
      simpa using this
    have hcon := AnyQ.slices_SortFunc_total L R.z aE zE enc hk h1 cf hO gc #[] g 0 c d w eg hcl hH hblk (by omega) hT
    rw [hds] at hcon
    refine hcon.mono ?_
    rintro ex w' ⟨rfl, n, os, rfl⟩
    obtain ⟨d2, hd2⟩ : ∃ d2, d2 = d.toList.mergeSort fun x y => !(Go.Proofs.ltOf cf) y x := ⟨_, rfl⟩
    rw [← hd2]
    have hmap : d2.map (fun p => p.1.1) = l.mergeSort fun a b => decide (key a ≤ key b) := by
      rw [hd2, hdl, List.map_mergeSort (s := fun a b => decide (key a ≤ key b)) (f := fun p : {p : α × List Value // p ∈ zs} => p.1.1)]
      · rw [show (fun p : {p : α × List Value // p ∈ zs} => p.1.1) = (fun q : α × List Value => q.1) ∘ Subtype.val from rfl, ← List.map_map, List.attach_map_subtype_val, z1]
      · intro a _ b _
        rw [hltf]
        by_cases h : key a.1.1 ≤ key b.1.1
        · simp [h]
        · simp [h, show key b.1.1 < key a.1.1 by omega]
    have hd2l : d2.length = l.length := by rw [hd2, List.length_mergeSort, hdl, List.length_attach, hzl]
    have hrep : RepL R F W (l.mergeSort fun a b => decide (key a ≤ key b)) (d2.map enc).flatten := by
      have := RepL.ofPairs (R := R) (F := F) (w := W) (d2.map (·.1)) (fun p hp => by
        obtain ⟨q, _, rfl⟩ := List.mem_map.1 hp
        exact z3 q.1 q.2)
      rw [List.map_map, List.map_map] at this
      rw [← hmap]
      exact this
    refine ⟨rfl, _, hrep, ?_⟩
    rw [List.length_mergeSort]
    unfold Go.Proofs.sortWorldK Go.Sort.putRowK
    rw [flatK_list enc R.z hk]
    have hlen : (d2.map enc).flatten.length = y.length := by
      rw [flat_len (k := R.z) _ (fun v hv => by obtain ⟨x, _, rfl⟩ := List.mem_map.1 hv; exact hk x), List.length_map, hd2l, hL.len]
    have hM1 : Mem w0 (orow (some ⟨g, 0, none⟩) l.length c e R.z y :: cs) (Go.Sort.ahead w n) := hM.step ⟨rfl, rfl, rfl, Nat.le_refl _, fun _ _ => rfl⟩
    have hM2 := hM1.putFlat hc0 hlen
    exact hM2.step (below_grow _ 0 os)
end Go.Proofs.YtbfndcookgijfaaGreatDoor.Sx
