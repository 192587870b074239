/- The plain law of worlds: the numbers that describe one. No condition. -/
import Derived.Test.YthcbepikeinglaaDoorPuSameN
import Derived.Test.YthcbepikeinglaaDoorExStr
namespace Go.Proofs.YthcbepikeinglaaDoor.N
open Go Go.RowKit Go.Proofs.YthcbepikeinglaaDoor.Sx
set_option linter.unusedVariables false
set_option linter.unusedSimpArgs false
theorem app_loop {α : Type} {step : (List Int) × Int → Option (((List Int) × Int) ⊕ (List Int))} {l : List α} {h : α → List Int} {B : Nat}
    (h1 : ∀ i (hi : i < l.length) o, o.length + (h l[i]).length ≤ B → step (o, (i : Int)) = some (.inl (o ++ h l[i], ((i + 1 : Nat) : Int)))) (h2 : ∀ o, step (o, (l.length : Int)) = some (.inr o)) (o : List Int) (hB : o.length + (l.flatMap h).length ≤ B) : loop step (o, 0) = some (o ++ l.flatMap h) := by
  have key : ∀ d i o, i + d = l.length → o.length + ((l.drop i).flatMap h).length ≤ B → loop step (o, (i : Int)) = some (o ++ (l.drop i).flatMap h) := by
    intro d
    induction d with
    | zero =>
      intro i o hi hb
      have : i = l.length := by omega
      subst this
      rw [loop_inr (h2 o), List.drop_length]; simp
    | succ d ih =>
      intro i o hi hb
      have hil : i < l.length := by omega
      rw [List.drop_eq_getElem_cons hil, List.flatMap_cons, List.length_append] at hb
      rw [loop_inl (h1 i hil o (by omega)), ih (i + 1) _ (by omega) (by rw [List.length_append]; omega), List.drop_eq_getElem_cons hil, List.flatMap_cons, List.append_assoc]
  have := key l.length 0 o (by omega) (by simpa using hB)
  simpa using this
def txtV (s : ByteArray) : List Int := (s.size : Int) :: bytesL s
def fldV (f : api_Field) : List Int := txtV f.Name ++ [f.Bits, f.Low]
def kndV (k : api_Kind) : List Int := txtV k.Name ++ [(k.Fields.length : Int)] ++ k.Fields.flatMap fldV
def cmpV (c : api_Comp) : List Int := [c.Kind, (c.Vals.length : Int)] ++ c.Vals
def itmV (it : api_Item) : List Int := [it.Ent.N, it.Ent.Gen, (it.Comps.length : Int)] ++ it.Comps.flatMap cmpV
def descV (ks : List api_Kind) (gens : List Int) (items : List api_Item) : List Int := [(ks.length : Int)] ++ ks.flatMap kndV ++ [(gens.length : Int)] ++ gens ++ [(items.length : Int)] ++ items.flatMap itmV
theorem txtV_len (s : ByteArray) : (txtV s).length = s.size + 1 := by unfold txtV; rw [List.length_cons, bytesL_len]
theorem single_flat (l : List Int) : l.flatMap (fun x => [x]) = l := by simp
theorem bytesL_at {s : ByteArray} {i : Nat} (h : i < (bytesL s).length) : sidx s (i : Int) = some (bytesL s)[i] ∧ 0 ≤ (bytesL s)[i] ∧ (bytesL s)[i] < 256 := by
  have h' : i < s.data.toList.length := by unfold bytesL at h; simpa using h
  have e : (bytesL s)[i] = ((s.data.toList[i]).toNat : Int) := by simp [bytesL]
  rw [sidx_ok h', e]
  have := (s.data.toList[i]).toNat_lt
  exact ⟨rfl, by omega, by omega⟩
theorem kints1 {s : ByteArray} {o : List Int} (h : o.length + (txtV s).length ≤ 1099511627776) : world_Ints_1 s o = some (o ++ txtV s) := by
  rw [txtV_len] at h
  have hb := bytesL_len s
  unfold world_Ints_1
  rw [app_ok (by rw [List.length_singleton]; omega)]
  simp only [Option.bind_some]
  rw [app_loop (step := fun s_ => world_Ints_1_l1 s s_.1 s_.2) (l := bytesL s) (h := fun x => [x]) (B := 1099511627776) (fun i hi o hB => by
    obtain ⟨h1, h2, h3⟩ := bytesL_at hi
    show world_Ints_1_l1 s o (i : Int) = _
    unfold world_Ints_1_l1 world_Ints_1_j2
    rw [cnd_dec, if_pos (by omega), h1]
    simp only [Option.bind_some]
    rw [i64ok (by omega) (by omega), app_ok (by simp at hB ⊢; omega), i64ok (by omega) (by omega)]; rfl) (fun o => by
    show world_Ints_1_l1 s o ((bytesL s).length : Int) = _
    unfold world_Ints_1_l1
    rw [cnd_dec, if_neg (by omega)]) _ (by rw [single_flat, List.length_append, List.length_singleton]; omega), single_flat]
  simp [txtV]
theorem rdesc1 {s : ByteArray} {o : List Int} (h : o.length + (txtV s).length ≤ 1099511627776) : tourref3_Described_1 s o = some (o ++ txtV s) := by
  rw [txtV_len] at h
  have hb := bytesL_len s
  unfold tourref3_Described_1 tobytes
  rw [app_ok (by rw [List.length_singleton]; omega), if_pos (by omega)]
  simp only [Option.bind_some]
  rw [app_loop (step := fun s_ => tourref3_Described_1_l1 (bytesL s) s_.1 s_.2) (l := bytesL s) (h := fun x => [x]) (B := 1099511627776) (fun i hi o hB => by
    obtain ⟨h1, h2, h3⟩ := bytesL_at hi
    show tourref3_Described_1_l1 (bytesL s) o (i : Int) = _
    unfold tourref3_Described_1_l1
    rw [cnd_dec, if_pos (by omega), idx_get hi]
    simp only [Option.bind_some]
    rw [i64ok (by omega) (by omega), app_ok (by simp at hB ⊢; omega), i64ok (by omega) (by omega)]; rfl) (fun o => by
    show tourref3_Described_1_l1 (bytesL s) o ((bytesL s).length : Int) = _
    unfold tourref3_Described_1_l1
    rw [cnd_dec, if_neg (by omega)]) _ (by rw [single_flat, List.length_append, List.length_singleton]; omega), single_flat]
  simp [txtV]
theorem kints {ks : List api_Kind} {gens : List Int} {items : List api_Item} (hz : szK ks) (hs : szI items) (h : (descV ks gens items).length ≤ 1099511627776) : world_Ints ks gens items = some (descV ks gens items) := by
  have hd : (descV ks gens items).length = 1 + (ks.flatMap kndV).length + 1 + gens.length + 1 + (items.flatMap itmV).length := by unfold descV; simp only [List.length_append, List.length_singleton]
  rw [hd] at h
  have hz1 := hz.1
  have hs1 := hs.1
  unfold world_Ints world_Ints_j1 world_Ints_j2
  rw [app_loop (step := fun s_ => world_Ints_l6 ks s_.1 s_.2) (l := ks) (h := kndV) (B := 1099511627776) (fun i hi o hB => by
    show world_Ints_l6 ks o (i : Int) = _
    have e : (kndV ks[i]).length = (txtV ks[i].Name).length + 1 + (ks[i].Fields.flatMap fldV).length := by unfold kndV; simp only [List.length_append, List.length_singleton]
    rw [e] at hB
    have hz2 := hz.2 i hi
    unfold world_Ints_l6 world_Ints_j7
    rw [cnd_dec, if_pos (by omega), idx_get hi]
    simp only [Option.bind_some]
    rw [kints1 (by omega)]
    simp only [Option.bind_some]
    rw [app_ok (by rw [List.length_append, List.length_singleton]; omega)]
    simp only [Option.bind_some]
    rw [app_loop (step := fun s_ => world_Ints_l8 ks[i] s_.1 s_.2) (l := ks[i].Fields) (h := fldV) (B := 1099511627776) (fun j hj o hB => by
      show world_Ints_l8 ks[i] o (j : Int) = _
      have e : (fldV ks[i].Fields[j]).length = (txtV ks[i].Fields[j].Name).length + 2 := by unfold fldV; simp only [List.length_append, List.length_cons, List.length_nil]
      rw [e] at hB
      unfold world_Ints_l8
      rw [cnd_dec, if_pos (by omega), idx_get hj]
      simp only [Option.bind_some]
      rw [kints1 (by omega)]
      simp only [Option.bind_some]
      rw [app_ok (by simp only [List.length_append, List.length_cons, List.length_nil]; omega), i64ok (by omega) (by omega), List.append_assoc]; rfl) (fun o => by
      show world_Ints_l8 ks[i] o (ks[i].Fields.length : Int) = _
      unfold world_Ints_l8
      rw [cnd_dec, if_neg (by omega)]) _ (by simp only [List.length_append, List.length_singleton]; omega)]
    simp only [Option.bind_some]
    rw [i64ok (by omega) (by omega)]
    simp [kndV]) (fun o => by
    show world_Ints_l6 ks o (ks.length : Int) = _
    unfold world_Ints_l6
    rw [cnd_dec, if_neg (by omega)]) _ (by simp only [List.length_singleton]; omega)]
  simp only [Option.bind_some]
  rw [app_ok (by simp only [List.length_append, List.length_singleton]; omega)]
  simp only [Option.bind_some]
  rw [app_ok (by simp only [List.length_append, List.length_singleton]; omega)]
  simp only [Option.bind_some]
  rw [app_ok (by simp only [List.length_append, List.length_singleton]; omega)]
  simp only [Option.bind_some]
  rw [app_loop (step := fun s_ => world_Ints_l3 items s_.1 s_.2) (l := items) (h := itmV) (B := 1099511627776) (fun i hi o hB => by
    show world_Ints_l3 items o (i : Int) = _
    have e : (itmV items[i]).length = 3 + (items[i].Comps.flatMap cmpV).length := by unfold itmV; simp only [List.length_append, List.length_cons, List.length_nil]
    rw [e] at hB
    have hs2 := (hs.2 _ (List.getElem_mem hi)).1
    unfold world_Ints_l3 world_Ints_j4
    rw [cnd_dec, if_pos (by omega), idx_get hi]
    simp only [Option.bind_some]
    rw [app_ok (by simp only [List.length_cons, List.length_nil]; omega)]
    simp only [Option.bind_some]
    rw [app_loop (step := fun s_ => world_Ints_l5 items[i] s_.1 s_.2) (l := items[i].Comps) (h := cmpV) (B := 1099511627776) (fun j hj o hB => by
      show world_Ints_l5 items[i] o (j : Int) = _
      have e : (cmpV items[i].Comps[j]).length = 2 + items[i].Comps[j].Vals.length := by unfold cmpV; simp only [List.length_append, List.length_cons, List.length_nil]
      rw [e] at hB
      unfold world_Ints_l5
      rw [cnd_dec, if_pos (by omega), idx_get hj]
      simp only [Option.bind_some]
      rw [app_ok (by simp only [List.length_cons, List.length_nil]; omega)]
      simp only [Option.bind_some]
      rw [app_ok (by simp only [List.length_append, List.length_cons, List.length_nil]; omega), i64ok (by omega) (by omega), List.append_assoc]; rfl) (fun o => by
      show world_Ints_l5 items[i] o (items[i].Comps.length : Int) = _
      unfold world_Ints_l5
      rw [cnd_dec, if_neg (by omega)]) _ (by simp only [List.length_append, List.length_cons, List.length_nil]; omega)]
    simp only [Option.bind_some]
    rw [i64ok (by omega) (by omega), List.append_assoc]; rfl) (fun o => by
    show world_Ints_l3 items o (items.length : Int) = _
    unfold world_Ints_l3
    rw [cnd_dec, if_neg (by omega)]) _ (by simp only [List.length_append, List.length_singleton]; omega)]
  rfl
theorem rdesc {ks : List api_Kind} {gens : List Int} {items : List api_Item} (hz : szK ks) (hs : szI items) (h : (descV ks gens items).length ≤ 1099511627776) : tourref3_Described ks gens items = some (descV ks gens items) := by
  have hd : (descV ks gens items).length = 1 + (ks.flatMap kndV).length + 1 + gens.length + 1 + (items.flatMap itmV).length := by unfold descV; simp only [List.length_append, List.length_singleton]
  rw [hd] at h
  have hz1 := hz.1
  have hs1 := hs.1
  unfold tourref3_Described tourref3_Described_j1 tourref3_Described_j2 tourref3_Described_j3
  rw [app_ok (by simp)]
  simp only [Option.bind_some, List.nil_append]
  rw [app_loop (step := fun s_ => tourref3_Described_l8 ks s_.1 s_.2) (l := ks) (h := kndV) (B := 1099511627776) (fun i hi o hB => by
    show tourref3_Described_l8 ks o (i : Int) = _
    have e : (kndV ks[i]).length = (txtV ks[i].Name).length + 1 + (ks[i].Fields.flatMap fldV).length := by unfold kndV; simp only [List.length_append, List.length_singleton]
    rw [e] at hB
    have hz2 := hz.2 i hi
    unfold tourref3_Described_l8 tourref3_Described_j9
    rw [cnd_dec, if_pos (by omega), idx_get hi]
    simp only [Option.bind_some]
    rw [rdesc1 (by omega)]
    simp only [Option.bind_some]
    rw [app_ok (by rw [List.length_append, List.length_singleton]; omega)]
    simp only [Option.bind_some]
    rw [app_loop (step := fun s_ => tourref3_Described_l10 ks[i] s_.1 s_.2) (l := ks[i].Fields) (h := fldV) (B := 1099511627776) (fun j hj o hB => by
      show tourref3_Described_l10 ks[i] o (j : Int) = _
      have e : (fldV ks[i].Fields[j]).length = (txtV ks[i].Fields[j].Name).length + 2 := by unfold fldV; simp only [List.length_append, List.length_cons, List.length_nil]
      rw [e] at hB
      unfold tourref3_Described_l10
      rw [cnd_dec, if_pos (by omega), idx_get hj]
      simp only [Option.bind_some]
      rw [rdesc1 (by omega)]
      simp only [Option.bind_some]
      rw [app_ok (by simp only [List.length_append, List.length_cons, List.length_nil]; omega), i64ok (by omega) (by omega), List.append_assoc]; rfl) (fun o => by
      show tourref3_Described_l10 ks[i] o (ks[i].Fields.length : Int) = _
      unfold tourref3_Described_l10
      rw [cnd_dec, if_neg (by omega)]) _ (by simp only [List.length_append, List.length_singleton]; omega)]
    simp only [Option.bind_some]
    rw [i64ok (by omega) (by omega)]
    simp [kndV]) (fun o => by
    show tourref3_Described_l8 ks o (ks.length : Int) = _
    unfold tourref3_Described_l8
    rw [cnd_dec, if_neg (by omega)]) _ (by simp only [List.length_singleton]; omega)]
  simp only [Option.bind_some]
  rw [app_ok (by simp only [List.length_append, List.length_singleton]; omega)]
  simp only [Option.bind_some]
  rw [app_ok (by simp only [List.length_append, List.length_singleton]; omega)]
  simp only [Option.bind_some]
  rw [app_ok (by simp only [List.length_append, List.length_singleton]; omega)]
  simp only [Option.bind_some]
  rw [app_loop (step := fun s_ => tourref3_Described_l4 items s_.1 s_.2) (l := items) (h := itmV) (B := 1099511627776) (fun i hi o hB => by
    show tourref3_Described_l4 items o (i : Int) = _
    have e : (itmV items[i]).length = 3 + (items[i].Comps.flatMap cmpV).length := by unfold itmV; simp only [List.length_append, List.length_cons, List.length_nil]
    rw [e] at hB
    have hs2 := (hs.2 _ (List.getElem_mem hi)).1
    unfold tourref3_Described_l4 tourref3_Described_j5
    rw [cnd_dec, if_pos (by omega), idx_get hi]
    simp only [Option.bind_some]
    rw [app_ok (by simp only [List.length_cons, List.length_nil]; omega)]
    simp only [Option.bind_some]
    rw [app_loop (step := fun s_ => tourref3_Described_l6 items[i] s_.1 s_.2) (l := items[i].Comps) (h := cmpV) (B := 1099511627776) (fun j hj o hB => by
      show tourref3_Described_l6 items[i] o (j : Int) = _
      have e : (cmpV items[i].Comps[j]).length = 2 + items[i].Comps[j].Vals.length := by unfold cmpV; simp only [List.length_append, List.length_cons, List.length_nil]
      rw [e] at hB
      unfold tourref3_Described_l6 tourref3_Described_j7
      rw [cnd_dec, if_pos (by omega), idx_get hj]
      simp only [Option.bind_some]
      rw [app_ok (by simp only [List.length_cons, List.length_nil]; omega)]
      simp only [Option.bind_some]
      rw [app_ok (by simp only [List.length_append, List.length_cons, List.length_nil]; omega), i64ok (by omega) (by omega), List.append_assoc]; rfl) (fun o => by
      show tourref3_Described_l6 items[i] o (items[i].Comps.length : Int) = _
      unfold tourref3_Described_l6
      rw [cnd_dec, if_neg (by omega)]) _ (by simp only [List.length_append, List.length_cons, List.length_nil]; omega)]
    simp only [Option.bind_some]
    rw [i64ok (by omega) (by omega), List.append_assoc]; rfl) (fun o => by
    show tourref3_Described_l4 items o (items.length : Int) = _
    unfold tourref3_Described_l4
    rw [cnd_dec, if_neg (by omega)]) _ (by simp only [List.length_append, List.length_singleton]; omega)]
  rfl
/-! ### Digests come to an end -/
theorem join_some (a b : Int) : ∃ v, sum_Join a b = some v := ⟨_, rfl⟩
theorem words_some {l : List Int} (h : l.length ≤ 1099511627776) : ∃ v, sum_Words l = some v := by
  unfold sum_Words sum_Words_j1
  obtain ⟨v0, hv0⟩ := join_some 5840696475078001361 (IntKind.u64.wrap (l.length : Int))
  rw [hv0]
  simp only [Option.bind_some]
  have key : ∀ d i v, i + d = l.length → ∃ r, loop (σ := Int × Int) (ρ := Int) (fun s_ => sum_Words_l2 l s_.1 s_.2) (v, (i : Int)) = some r := by
    intro d
    induction d with
    | zero =>
      intro i v hi
      refine ⟨v, loop_inr ?_⟩
      show sum_Words_l2 l v (i : Int) = _
      unfold sum_Words_l2
      rw [cnd_dec, if_neg (by omega)]
    | succ d ih =>
      intro i v hi
      obtain ⟨v', hv'⟩ := join_some v (l[i]'(by omega))
      obtain ⟨r, hr⟩ := ih (i + 1) v' (by omega)
      refine ⟨r, (loop_inl ?_).trans hr⟩
      show sum_Words_l2 l v (i : Int) = _
      unfold sum_Words_l2
      rw [cnd_dec, if_pos (by omega), idx_get (by omega)]
      simp only [Option.bind_some]
      rw [hv', i64ok (by omega) (by omega)]; rfl
  obtain ⟨r, hr⟩ := key l.length 0 v0 (by omega)
  exact ⟨r, by rw [show (0 : Int) = ((0 : Nat) : Int) from rfl, hr]; rfl⟩
theorem ints_some {l : List Int} (h : l.length ≤ 1099511627776) : ∃ v, sum_Ints l = some v := by
  obtain ⟨v, hv⟩ := words_some (l := l.map IntKind.u64.wrap) (by simpa using h)
  refine ⟨v, ?_⟩
  unfold sum_Ints sum_Ints_j1
  rw [mk_ok (by omega) (by omega), Int.toNat_natCast]
  simp only [Option.bind_some]
  have e := fill_copy (l := l.map IntKind.u64.wrap) (step := fun s_ => sum_Ints_l2 l s_.1 s_.2) (0 : Int) (by simp; omega) (fun i o hi ho => by
    show sum_Ints_l2 l o (i : Int) = _
    have hil : i < l.length := by simpa using hi
    unfold sum_Ints_l2
    rw [cnd_dec, if_pos (by omega), idx_get hil]
    simp only [Option.bind_some]
    rw [idx_get ho]
    simp only [Option.bind_some]
    rw [upd_ok ho, i64ok (by omega) (by omega)]; simp) (fun o => by
    show sum_Ints_l2 l o ((l.map IntKind.u64.wrap).length : Int) = _
    unfold sum_Ints_l2
    rw [List.length_map, cnd_dec, if_neg (by omega)])
  rw [List.length_map] at e
  rw [e]
  simp only [Option.bind_some]
  rw [hv]; rfl
/-! ### How long the numbers are -/
theorem flat_le {α : Type} {h : α → List Int} {b : α → Nat} (hb : ∀ a, (h a).length ≤ b a) : ∀ l : List α, (l.flatMap h).length + 1 ≤ bkl b l := by
  intro l
  induction l with
  | nil => simp [bkl]
  | cons a l ih =>
    have e : bkl b (a :: l) = b a + bkl b l := by
      show ((a :: l).map b).sum + 1 = b a + ((l.map b).sum + 1)
      rw [List.map_cons, List.sum_cons]; omega
    rw [List.flatMap_cons, List.length_append, e]
    have := hb a
    omega
theorem ones_le (l : List Int) : l.length + 1 ≤ bkl bk1 l := bkl_len (fun _ => Nat.le_refl 1) l
theorem fld_le (f : api_Field) : (fldV f).length ≤ bk_api_Field f := by
  unfold fldV bk_api_Field bks bk1
  rw [List.length_append, txtV_len]; simp
theorem knd_le (k : api_Kind) : (kndV k).length ≤ bk_api_Kind k := by
  have := flat_le fld_le k.Fields
  unfold kndV bk_api_Kind bks
  simp only [List.length_append, txtV_len, List.length_singleton]; omega
theorem cmp_le (c : api_Comp) : (cmpV c).length ≤ bk_api_Comp c := by
  have := ones_le c.Vals
  have e : bk1 c.Kind = 1 := rfl
  unfold cmpV bk_api_Comp
  simp only [List.length_append, List.length_cons, List.length_nil]; omega
theorem itm_le (it : api_Item) : (itmV it).length ≤ bk_api_Item it := by
  have := flat_le cmp_le it.Comps
  have e : bk_api_Ent it.Ent = 3 := rfl
  unfold itmV bk_api_Item
  simp only [List.length_append, List.length_cons, List.length_nil]; omega
theorem desc_le (ks : List api_Kind) (gens : List Int) (items : List api_Item) : (descV ks gens items).length ≤ bk_api_World (api_World.mk ks gens items) := by
  have h1 := flat_le knd_le ks
  have h2 := flat_le itm_le items
  have h3 := ones_le gens
  unfold descV bk_api_World
  simp only [List.length_append, List.length_singleton]; omega
end Go.Proofs.YthcbepikeinglaaDoor.N
