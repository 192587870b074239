/- The plain law of kinds: what checks, fits and comparisons of kinds come to, the program's and the reference's. No condition. -/
import Derived.Test.YtbfndcookgijfaaGreatDoorPuKindC
namespace Go.Proofs.YtbfndcookgijfaaGreatDoor.C
open Go Go.RowKit Go.Proofs.YtbfndcookgijfaaGreatDoor.Sx Classical
set_option linter.unusedVariables false
set_option linter.unusedSimpArgs false
/-- What is amiss at a field. -/
noncomputable def oneG (fs : List api_Field) (i : Nat) : Option Int := match fs[i]? with
  | none => none
  | some f => if fieldB f.Name f.Bits f.Low then (if f.Name ∈ (fs.take i).map api_Field.Name then some 5 else none) else some 3
noncomputable def oneV (nm : ByteArray) (fs : List api_Field) : Int := if nameB nm then (if 8 < fs.length then 2 else ((List.range fs.length).findSome? (oneG fs)).getD 0) else 3
theorem oneG_at {fs : List api_Field} {i : Nat} (h : i < fs.length) : oneG fs i = if fieldB fs[i].Name fs[i].Bits fs[i].Low then (if fs[i].Name ∈ (fs.take i).map api_Field.Name then some 5 else none) else some 3 := by
  unfold oneG; rw [List.getElem?_eq_getElem h]
theorem cut_take {α : Type} {l : List α} {i : Nat} (h : i ≤ l.length) : cut l 0 (i : Int) = some (l.take i) := by
  rw [cut_ok (by omega) (by omega) (by omega)]; simp
theorem one_l4 (l : List api_Field) (f : api_Field) (hl : l.length ≤ 1000) : loop (σ := Int) (ρ := (Int ⊕ Unit)) (fun s_ => kind_One_l4 l f s_) 0 = some (if f.Name ∈ l.map api_Field.Name then .inl 5 else .inr ()) := by
  rcases loop_first (σ := Int) (ρ := Int) (υ := Unit) (step := fun s_ => kind_One_l4 l f s_) (fun i => (i : Int)) l.length (fun i => (l[i]?).map (·.Name) = some f.Name) (fun _ => 5) () (fun i hi hp => by
      show kind_One_l4 l f (i : Int) = _
      unfold kind_One_l4
      rw [List.getElem?_eq_getElem hi] at hp
      rw [cnd_dec, if_pos (by omega), idx_get hi]
      simp only [Option.bind_some, bytes_eq, cnd_dec]
      rw [if_pos (Option.some.inj hp)]) (fun i hi hp => by
      show kind_One_l4 l f (i : Int) = _
      unfold kind_One_l4
      rw [List.getElem?_eq_getElem hi] at hp
      rw [cnd_dec, if_pos (by omega), idx_get hi]
      simp only [Option.bind_some, bytes_eq, cnd_dec]
      rw [if_neg (fun e => hp (congrArg some e)), i64ok (by omega) (by omega)]; rfl) (by
      show kind_One_l4 l f (l.length : Int) = _
      unfold kind_One_l4
      rw [cnd_dec, if_neg (by omega)]) with ⟨k, h1, h2, _, h4⟩ | ⟨h1, h2⟩
  · rw [show (0 : Int) = ((0 : Nat) : Int) from rfl, h4, if_pos]
    rw [List.getElem?_eq_getElem h1] at h2
    exact List.mem_map.2 ⟨l[k], List.getElem_mem h1, Option.some.inj h2⟩
  · rw [show (0 : Int) = ((0 : Nat) : Int) from rfl, h2, if_neg]
    intro hm
    obtain ⟨x, hx, e⟩ := List.mem_map.1 hm
    obtain ⟨k, hk, rfl⟩ := List.mem_iff_getElem.1 hx
    exact h1 k hk (by rw [List.getElem?_eq_getElem hk]; exact congrArg some e)
theorem kone (nm : ByteArray) (fs : List api_Field) : kind_One nm fs = some (oneV nm fs) := by
  unfold kind_One oneV
  rw [kname]
  simp only [Option.bind_some, cnd_not, cnd_dec]
  cases nameB nm with
  | false => rfl
  | true =>
    simp only [cnd_true, if_true]
    by_cases h8 : 8 < fs.length
    · rw [if_pos (by omega), if_pos h8]
    · rw [if_neg (by omega), if_neg h8]
      have h := loop_find (σ := Int) (ρ := Int) (υ := Unit) (step := fun s_ => kind_One_l2 fs s_) (fun i => (i : Int)) fs.length (oneG fs) () (fun i hi r hr => by
        show kind_One_l2 fs (i : Int) = _
        unfold kind_One_l2
        rw [oneG_at hi] at hr
        rw [cnd_dec, if_pos (by omega), idx_get hi]
        simp only [Option.bind_some]
        rw [kfield]
        simp only [Option.bind_some]
        by_cases hf : fieldB fs[i].Name fs[i].Bits fs[i].Low = true
        · rw [if_pos hf] at hr ⊢
          rw [cnd_not, cnd_beq, if_pos rfl, cut_take (by omega)]
          simp only [Option.bind_some]
          rw [one_l4 _ _ (by simp; omega)]
          by_cases hm : fs[i].Name ∈ (fs.take i).map api_Field.Name
          · rw [if_pos hm] at hr ⊢; obtain rfl := Option.some.inj hr; rfl
          · rw [if_neg hm] at hr; cases hr
        · rw [if_neg hf] at hr ⊢; obtain rfl := Option.some.inj hr; rfl) (fun i hi hr => by
        show kind_One_l2 fs (i : Int) = _
        unfold kind_One_l2
        rw [oneG_at hi] at hr
        rw [cnd_dec, if_pos (by omega), idx_get hi]
        simp only [Option.bind_some]
        rw [kfield]
        simp only [Option.bind_some]
        by_cases hf : fieldB fs[i].Name fs[i].Bits fs[i].Low = true
        · rw [if_pos hf] at hr ⊢
          rw [cnd_not, cnd_beq, if_pos rfl, cut_take (by omega)]
          simp only [Option.bind_some]
          rw [one_l4 _ _ (by simp; omega)]
          by_cases hm : fs[i].Name ∈ (fs.take i).map api_Field.Name
          · rw [if_pos hm] at hr; cases hr
          · rw [if_neg hm]; unfold kind_One_j3; simp only [Option.bind_some, Sum.elim_inr]; rw [i64ok (by omega) (by omega)]; rfl
        · rw [if_neg hf] at hr; cases hr) (by
        show kind_One_l2 fs (fs.length : Int) = _
        unfold kind_One_l2
        rw [cnd_dec, if_neg (by omega)])
      rw [show (0 : Int) = ((0 : Nat) : Int) from rfl, h]
      simp only [Option.bind_some]
      cases (List.range fs.length).findSome? (oneG fs) <;> rfl
/-- The reference's test of a name among others. -/
theorem rtwice (l : List ByteArray) (s : ByteArray) (hl : l.length ≤ 1000000) : tourref3_twice l s = some (decide (s ∈ l)) := by
  unfold tourref3_twice slices_Contains_string_string slices_Index_string_string
  rcases loop_first (σ := Int) (ρ := Int) (υ := Unit) (step := fun s_ => slices_Index_string_string_l2 l s s_) (fun i => (i : Int)) l.length (fun i => l[i]? = some s) (fun i => (i : Int)) () (fun i hi hp => by
      show slices_Index_string_string_l2 l s (i : Int) = _
      unfold slices_Index_string_string_l2
      rw [List.getElem?_eq_getElem hi] at hp
      rw [cnd_dec, if_pos (by omega), idx_get hi]
      simp only [Option.bind_some, bytes_eq, cnd_dec]
      rw [if_pos (Option.some.inj hp).symm]) (fun i hi hp => by
      show slices_Index_string_string_l2 l s (i : Int) = _
      unfold slices_Index_string_string_l2
      rw [List.getElem?_eq_getElem hi] at hp
      rw [cnd_dec, if_pos (by omega), idx_get hi]
      simp only [Option.bind_some, bytes_eq, cnd_dec]
      rw [if_neg (fun e => hp (congrArg some e.symm)), i64ok (by omega) (by omega)]; rfl) (by
      show slices_Index_string_string_l2 l s (l.length : Int) = _
      unfold slices_Index_string_string_l2
      rw [cnd_dec, if_neg (by omega)]) with ⟨k, h1, h2, _, h4⟩ | ⟨h1, h2⟩
  · rw [show (0 : Int) = ((0 : Nat) : Int) from rfl, h4, decide_eq_true (List.mem_iff_getElem?.2 ⟨k, h2⟩)]
    simp [show (0 : Int) ≤ (k : Int) by omega]
  · rw [show (0 : Int) = ((0 : Nat) : Int) from rfl, h2, decide_eq_false (fun hm => by obtain ⟨k, hk⟩ := List.mem_iff_getElem?.1 hm; exact h1 k (List.getElem?_eq_some_iff.1 hk).1 hk)]
    rfl
theorem okfs {fs : List api_Field} {w : Nat} (h : okl w ok_api_Field fs) {i : Nat} (hi : i < fs.length) : oks fs[i].Name := (h.2 _ (List.getElem_mem hi)).1
theorem rone {nm : ByteArray} {fs : List api_Field} (hs : oks nm) (hf : ∀ i (h : i < fs.length), oks fs[i].Name) : tourref3_KindError nm fs = some (oneV nm fs) := by
  unfold tourref3_KindError oneV
  rw [rname hs]
  simp only [Option.bind_some, cnd_not, cnd_dec]
  cases nameB nm with
  | false => rfl
  | true =>
    simp only [cnd_true, if_true]
    by_cases h8 : 8 < fs.length
    · rw [if_pos (by omega), if_pos h8]
    · rw [if_neg (by omega), if_neg h8]
      have h := loop_find (σ := (List ByteArray) × Int) (ρ := Int) (υ := Unit) (step := fun s_ => tourref3_KindError_l2 fs s_.1 s_.2) (fun i => ((fs.take i).map api_Field.Name, (i : Int))) fs.length (oneG fs) () (fun i hi r hr => by
        show tourref3_KindError_l2 fs ((fs.take i).map api_Field.Name) (i : Int) = _
        unfold tourref3_KindError_l2
        rw [oneG_at hi] at hr
        rw [cnd_dec, if_pos (by omega), idx_get hi]
        simp only [Option.bind_some]
        rw [rfield (hf i hi)]
        simp only [Option.bind_some, cnd_not]
        cases hg : fieldB fs[i].Name fs[i].Bits fs[i].Low with
        | false => rw [hg] at hr; obtain rfl := Option.some.inj hr; rfl
        | true =>
          rw [hg, if_pos rfl] at hr
          simp only [cnd_true]
          rw [rtwice _ _ (by simp; omega)]
          simp only [Option.bind_some, cnd_dec]
          by_cases hm : fs[i].Name ∈ (fs.take i).map api_Field.Name
          · rw [if_pos hm] at hr ⊢; obtain rfl := Option.some.inj hr; rfl
          · rw [if_neg hm] at hr; cases hr) (fun i hi hr => by
        show tourref3_KindError_l2 fs ((fs.take i).map api_Field.Name) (i : Int) = _
        unfold tourref3_KindError_l2
        rw [oneG_at hi] at hr
        rw [cnd_dec, if_pos (by omega), idx_get hi]
        simp only [Option.bind_some]
        rw [rfield (hf i hi)]
        simp only [Option.bind_some, cnd_not]
        cases hg : fieldB fs[i].Name fs[i].Bits fs[i].Low with
        | false => rw [hg] at hr; cases hr
        | true =>
          rw [hg, if_pos rfl] at hr
          simp only [cnd_true]
          rw [rtwice _ _ (by simp; omega)]
          simp only [Option.bind_some, cnd_dec]
          by_cases hm : fs[i].Name ∈ (fs.take i).map api_Field.Name
          · rw [if_pos hm] at hr; cases hr
          · rw [if_neg hm, app_ok (by simp; omega)]
            simp only [Option.bind_some]
            rw [i64ok (by omega) (by omega), List.take_succ_eq_append_getElem hi, List.map_append]; rfl) (by
        show tourref3_KindError_l2 fs ((fs.take fs.length).map api_Field.Name) (fs.length : Int) = _
        unfold tourref3_KindError_l2
        rw [cnd_dec, if_neg (by omega)])
      have h' : loop (σ := (List ByteArray) × Int) (ρ := (Int ⊕ Unit)) (fun s_ => tourref3_KindError_l2 fs s_.1 s_.2) (([] : List ByteArray), 0) = _ := h
      rw [h']
      simp only [Option.bind_some]
      cases (List.range fs.length).findSome? (oneG fs) <;> rfl
theorem oneV_ok {nm : ByteArray} {fs : List api_Field} (h : oneV nm fs = 0) : nameB nm = true ∧ fs.length ≤ 8 ∧ (∀ i (h : i < fs.length), fieldB fs[i].Name fs[i].Bits fs[i].Low = true) ∧ (∀ i (h : i < fs.length), fs[i].Name ∉ (fs.take i).map api_Field.Name) := by
  unfold oneV at h
  cases hn : nameB nm with
  | false => rw [hn] at h; simp at h
  | true =>
    rw [hn, if_pos rfl] at h
    by_cases h8 : 8 < fs.length
    · rw [if_pos h8] at h; cases h
    · rw [if_neg h8] at h
      have hall : ∀ i, i < fs.length → oneG fs i = none := by
        cases hf : (List.range fs.length).findSome? (oneG fs) with
        | none => exact fun i hi => List.findSome?_eq_none_iff.1 hf i (List.mem_range.2 hi)
        | some r =>
          rw [hf] at h
          obtain ⟨i, _, hi⟩ := List.exists_of_findSome?_eq_some hf
          simp only [Option.getD_some] at h
          subst h
          unfold oneG at hi
          split at hi
          · cases hi
          · split at hi
            · split at hi <;> cases hi
            · cases hi
      refine ⟨rfl, by omega, fun i hi => ?_, fun i hi => ?_⟩
      · have := hall i hi
        rw [oneG_at hi] at this
        cases hg : fieldB fs[i].Name fs[i].Bits fs[i].Low with
        | true => rfl
        | false => rw [hg] at this; cases this
      · have := hall i hi
        rw [oneG_at hi] at this
        intro hm
        rw [if_pos hm] at this
        split at this <;> cases this
/-! ### Values that fit -/
def fitL (fs : List api_Field) (vs : List Int) : List Int := List.zipWith (fun f v => nearV f.Bits f.Low v) fs vs
theorem fitL_len {fs : List api_Field} {vs : List Int} (h : vs.length = fs.length) : (fitL fs vs).length = fs.length := by unfold fitL; simp [h]
noncomputable def fitV (nm : ByteArray) (fs : List api_Field) (vs : List Int) : List Int × Int := if oneV nm fs = 0 then (if vs.length = fs.length then (fitL fs vs, 0) else ([], 1)) else ([], oneV nm fs)
theorem fitL_at {fs : List api_Field} {vs : List Int} (h : vs.length = fs.length) {i : Nat} (hi : i < fs.length) : (fitL fs vs)[i]'(by rw [fitL_len h]; exact hi) = nearV fs[i].Bits fs[i].Low (vs[i]'(by omega)) := by simp [fitL]
theorem kfit (nm : ByteArray) (fs : List api_Field) (vs : List Int) : kind_Fit nm fs vs = some (fitV nm fs vs) := by
  unfold kind_Fit fitV
  rw [kone]
  simp only [Option.bind_some, cnd_not, cnd_beq]
  by_cases h0 : oneV nm fs = 0
  · rw [if_pos h0, if_pos h0]
    obtain ⟨hn, h8, hf, _⟩ := oneV_ok h0
    by_cases hl : vs.length = fs.length
    · rw [if_pos (by omega), if_pos hl, mk_ok (by omega) (by omega), Int.toNat_natCast]
      simp only [Option.bind_some]
      have h := loop_to (σ := (List Int) × Int) (ρ := List Int) (step := fun s_ => kind_Fit_l2 fs vs s_.1 s_.2) (fun i => ((fitL fs vs).take i ++ List.replicate (vs.length - i) 0, (i : Int))) fs.length (r := fitL fs vs) (fun i hi => by
        show kind_Fit_l2 fs vs ((fitL fs vs).take i ++ List.replicate (vs.length - i) 0) (i : Int) = _
        have hlen : ((fitL fs vs).take i ++ List.replicate (vs.length - i) (0 : Int)).length = vs.length := by simp [fitL_len hl]; omega
        have hset : ((fitL fs vs).take i ++ List.replicate (vs.length - i) (0 : Int)).set i (nearV fs[i].Bits fs[i].Low (vs[i]'(by omega))) = (fitL fs vs).take (i + 1) ++ List.replicate (vs.length - (i + 1)) 0 := by
          rw [show vs.length - i = (vs.length - (i + 1)) + 1 by omega, List.replicate_succ, List.set_append, if_neg (by simp [fitL_len hl]; omega), show i - ((fitL fs vs).take i).length = 0 by simp [fitL_len hl]; omega, List.set_cons_zero, List.take_succ_eq_append_getElem (by rw [fitL_len hl]; exact hi), List.append_assoc, fitL_at hl hi]
          rfl
        unfold kind_Fit_l2
        rw [cnd_dec, if_pos (by omega), idx_get hi]
        simp only [Option.bind_some]
        rw [idx_get (show i < vs.length by omega)]
        simp only [Option.bind_some]
        rw [knear, if_pos (hf i hi)]
        simp only [Option.bind_some]
        rw [idx_get (by omega)]
        simp only [Option.bind_some]
        rw [upd_ok (by omega)]
        simp only [Option.bind_some]
        rw [hset, i64ok (by omega) (by omega)]; rfl) (by
        show kind_Fit_l2 fs vs ((fitL fs vs).take fs.length ++ List.replicate (vs.length - fs.length) 0) (fs.length : Int) = _
        unfold kind_Fit_l2
        rw [cnd_dec, if_neg (by omega), show vs.length - fs.length = 0 by omega, List.take_of_length_le (by rw [fitL_len hl]; omega)]
        simp)
      have h' : loop (σ := (List Int) × Int) (ρ := List Int) (fun s_ => kind_Fit_l2 fs vs s_.1 s_.2) (List.replicate vs.length 0, 0) = some (fitL fs vs) := by simpa using h
      rw [h']; rfl
    · rw [if_neg (by omega), if_neg hl]
  · rw [if_neg h0, if_neg h0]
theorem rfit {nm : ByteArray} {fs : List api_Field} (hs : oks nm) (hfs : ∀ i (h : i < fs.length), oks fs[i].Name) (vs : List Int) : tourref3_Fitted nm fs vs = some (fitV nm fs vs) := by
  unfold tourref3_Fitted fitV
  rw [rone hs hfs]
  simp only [Option.bind_some, cnd_not, cnd_beq]
  by_cases h0 : oneV nm fs = 0
  · rw [if_pos h0, if_pos h0]
    obtain ⟨hn, h8, hf, _⟩ := oneV_ok h0
    by_cases hl : vs.length = fs.length
    · rw [if_pos (by omega), if_pos hl]
      have h := loop_to (σ := (List Int) × Int) (ρ := List Int) (step := fun s_ => tourref3_Fitted_l2 vs fs s_.1 s_.2) (fun i => ((fitL fs vs).take i, (i : Int))) vs.length (r := fitL fs vs) (fun i hi => by
        show tourref3_Fitted_l2 vs fs ((fitL fs vs).take i) (i : Int) = _
        unfold tourref3_Fitted_l2
        rw [cnd_dec, if_pos (by omega), idx_get (show i < fs.length by omega)]
        simp only [Option.bind_some]
        rw [idx_get hi]
        simp only [Option.bind_some]
        rw [rnear (hfs i (by omega)), if_pos (hf i (by omega))]
        simp only [Option.bind_some]
        rw [app_ok (by simp; omega)]
        simp only [Option.bind_some]
        rw [i64ok (by omega) (by omega), List.take_succ_eq_append_getElem (by rw [fitL_len hl]; omega), fitL_at hl (by omega)]; rfl) (by
        show tourref3_Fitted_l2 vs fs ((fitL fs vs).take vs.length) (vs.length : Int) = _
        unfold tourref3_Fitted_l2
        rw [cnd_dec, if_neg (by omega), List.take_of_length_le (by rw [fitL_len hl]; omega)])
      have h' : loop (σ := (List Int) × Int) (ρ := List Int) (fun s_ => tourref3_Fitted_l2 vs fs s_.1 s_.2) (([] : List Int), 0) = some (fitL fs vs) := h
      rw [h']; rfl
    · rw [if_neg (by omega), if_neg hl]
  · rw [if_neg h0, if_neg h0]
theorem equal_ints {a b : List Int} (ha : a.length ≤ 140737488355328) : slices_Equal_int_int a b = some (decide (a = b)) := by
  unfold slices_Equal_int_int
  rw [cnd_not, cnd_beq]
  by_cases hl : a.length = b.length
  · rw [if_pos (by omega)]
    rcases loop_same (σ := Int) (υ := Unit) (step := fun s_ => slices_Equal_int_int_l2 a b s_) (fun i => (i : Int)) a b hl () (fun i h e => by
        show slices_Equal_int_int_l2 a b (i : Int) = _
        unfold slices_Equal_int_int_l2
        rw [cnd_dec, if_pos (by omega), idx_get h]
        simp only [Option.bind_some]
        rw [idx_get (hl ▸ h)]
        simp only [Option.bind_some, cnd_not, cnd_beq]
        rw [if_pos e, i64ok (by omega) (by omega)]; rfl) (fun i h e => by
        show slices_Equal_int_int_l2 a b (i : Int) = _
        unfold slices_Equal_int_int_l2
        rw [cnd_dec, if_pos (by omega), idx_get h]
        simp only [Option.bind_some]
        rw [idx_get (hl ▸ h)]
        simp only [Option.bind_some, cnd_not, cnd_beq]
        rw [if_neg e]) (by
        show slices_Equal_int_int_l2 a b (a.length : Int) = _
        unfold slices_Equal_int_int_l2
        rw [cnd_dec, if_neg (by omega)]) with ⟨h1, h2⟩ | ⟨h1, h2⟩
    · rw [show (0 : Int) = ((0 : Nat) : Int) from rfl, h2, decide_eq_true h1]; rfl
    · rw [show (0 : Int) = ((0 : Nat) : Int) from rfl, h2, decide_eq_false h1]; rfl
  · rw [if_neg (by omega), decide_eq_false (fun e => hl (by rw [e]))]
theorem kholds (nm : ByteArray) (fs : List api_Field) (vs : List Int) : kind_Holds nm fs vs = some (decide (oneV nm fs = 0 ∧ vs.length = fs.length ∧ fitL fs vs = vs)) := by
  unfold kind_Holds
  rw [kfit]
  unfold fitV bnd2
  by_cases h0 : oneV nm fs = 0
  · obtain ⟨hn, h8, hf, _⟩ := oneV_ok h0
    rw [if_pos h0]
    by_cases hl : vs.length = fs.length
    · rw [if_pos hl]
      simp only [Option.bind_some]
      rw [cnd_not, cnd_beq, if_pos rfl]
      have hle : (fitL fs vs).length = vs.length := by rw [fitL_len hl, hl]
      rcases loop_same (σ := Int) (υ := Unit) (step := fun s_ => kind_Holds_l2 (fitL fs vs) vs s_) (fun i => (i : Int)) (fitL fs vs) vs hle () (fun i h e => by
          show kind_Holds_l2 (fitL fs vs) vs (i : Int) = _
          unfold kind_Holds_l2
          rw [cnd_dec, if_pos (by omega), idx_get h]
          simp only [Option.bind_some]
          rw [idx_get (hle ▸ h)]
          simp only [Option.bind_some, cnd_not, cnd_beq]
          rw [if_pos e, i64ok (by omega) (by omega)]; rfl) (fun i h e => by
          show kind_Holds_l2 (fitL fs vs) vs (i : Int) = _
          unfold kind_Holds_l2
          rw [cnd_dec, if_pos (by omega), idx_get h]
          simp only [Option.bind_some]
          rw [idx_get (hle ▸ h)]
          simp only [Option.bind_some, cnd_not, cnd_beq]
          rw [if_neg e]) (by
          show kind_Holds_l2 (fitL fs vs) vs ((fitL fs vs).length : Int) = _
          unfold kind_Holds_l2
          rw [cnd_dec, if_neg (by omega)]) with ⟨h1, h2⟩ | ⟨h1, h2⟩
      · rw [show (0 : Int) = ((0 : Nat) : Int) from rfl, h2, decide_eq_true ⟨h0, hl, h1⟩]; rfl
      · rw [show (0 : Int) = ((0 : Nat) : Int) from rfl, h2, decide_eq_false (fun e => h1 e.2.2)]; rfl
    · rw [if_neg hl, decide_eq_false (fun e => hl e.2.1)]; rfl
  · rw [if_neg h0, decide_eq_false (fun e => h0 e.1)]
    simp only [Option.bind_some]
    rw [cnd_not, cnd_beq, if_neg h0]
/-! ### Lists of kinds -/
/-- The first place of a name. -/
def findV (l : List api_Kind) (nm : ByteArray) : Int := match l.findIdx? (fun k => decide (k.Name = nm)) with | some i => (i : Int) | none => -1
theorem findIdx_first {α : Type} {l : List α} {p : α → Bool} {k : Nat} (hk : k < l.length) (h1 : p l[k] = true) (h2 : ∀ j (h : j < k), p (l[j]'(by omega)) = false) : l.findIdx? p = some k := by
  rw [List.findIdx?_eq_some_iff_getElem]
  exact ⟨hk, h1, fun j hj => by simp [h2 j hj]⟩
theorem kfind (l : List api_Kind) (nm : ByteArray) (hl : l.length ≤ 140737488355328) : kind_Find l nm = some (findV l nm) := by
  unfold kind_Find findV
  rcases loop_first (σ := Int) (ρ := Int) (υ := Unit) (step := fun s_ => kind_Find_l2 l nm s_) (fun i => (i : Int)) l.length (fun i => (l[i]?).map (·.Name) = some nm) (fun i => (i : Int)) () (fun i hi hp => by
      show kind_Find_l2 l nm (i : Int) = _
      unfold kind_Find_l2
      rw [List.getElem?_eq_getElem hi] at hp
      rw [cnd_dec, if_pos (by omega), idx_get hi]
      simp only [Option.bind_some, bytes_eq, cnd_dec]
      rw [if_pos (Option.some.inj hp)]) (fun i hi hp => by
      show kind_Find_l2 l nm (i : Int) = _
      unfold kind_Find_l2
      rw [List.getElem?_eq_getElem hi] at hp
      rw [cnd_dec, if_pos (by omega), idx_get hi]
      simp only [Option.bind_some, bytes_eq, cnd_dec]
      rw [if_neg (fun e => hp (congrArg some e)), i64ok (by omega) (by omega)]; rfl) (by
      show kind_Find_l2 l nm (l.length : Int) = _
      unfold kind_Find_l2
      rw [cnd_dec, if_neg (by omega)]) with ⟨k, h1, h2, h3, h4⟩ | ⟨h1, h2⟩
  · rw [show (0 : Int) = ((0 : Nat) : Int) from rfl, h4]
    rw [List.getElem?_eq_getElem h1] at h2
    rw [findIdx_first h1 (decide_eq_true (Option.some.inj h2)) (fun j hj => decide_eq_false (fun e => h3 j hj (by rw [List.getElem?_eq_getElem (by omega)]; exact congrArg some e)))]
    rfl
  · rw [show (0 : Int) = ((0 : Nat) : Int) from rfl, h2]
    rw [List.findIdx?_eq_none_iff.2 (fun x hx => by
      obtain ⟨k, hk, rfl⟩ := List.mem_iff_getElem.1 hx
      exact decide_eq_false (fun e => h1 k hk (by rw [List.getElem?_eq_getElem hk]; exact congrArg some e)))]
    rfl
theorem findV_nonneg (l : List api_Kind) (nm : ByteArray) : 0 ≤ findV l nm ↔ nm ∈ l.map api_Kind.Name := by
  unfold findV
  cases h : l.findIdx? (fun k => decide (k.Name = nm)) with
  | none =>
    simp only [show ¬ (0 : Int) ≤ -1 by omega, false_iff]
    intro hm
    obtain ⟨x, hx, e⟩ := List.mem_map.1 hm
    have := List.findIdx?_eq_none_iff.1 h x hx
    rw [decide_eq_true e] at this; cases this
  | some i =>
    rw [List.findIdx?_eq_some_iff_getElem] at h
    obtain ⟨hi, h1, _⟩ := h
    simp only [show (0 : Int) ≤ (i : Int) by omega, true_iff]
    exact List.mem_map.2 ⟨l[i], List.getElem_mem hi, of_decide_eq_true h1⟩
noncomputable def checkG (l : List api_Kind) (i : Nat) : Option Int := match l[i]? with
  | none => none
  | some k => if oneV k.Name k.Fields = 0 then (if k.Name ∈ (l.take i).map api_Kind.Name then some 5 else none) else some (oneV k.Name k.Fields)
noncomputable def checkV (l : List api_Kind) : Int := if 16 < l.length then 2 else ((List.range l.length).findSome? (checkG l)).getD 0
theorem checkG_at {l : List api_Kind} {i : Nat} (h : i < l.length) : checkG l i = if oneV l[i].Name l[i].Fields = 0 then (if l[i].Name ∈ (l.take i).map api_Kind.Name then some 5 else none) else some (oneV l[i].Name l[i].Fields) := by
  unfold checkG; rw [List.getElem?_eq_getElem h]
theorem kcheck (l : List api_Kind) : kind_Check l = some (checkV l) := by
  unfold kind_Check checkV
  rw [cnd_dec]
  by_cases h8 : 16 < l.length
  · rw [if_pos (by omega), if_pos h8]
  · rw [if_neg (by omega), if_neg h8]
    have step : ∀ i (hi : i < l.length), kind_Check_l2 l (i : Int) = if oneV l[i].Name l[i].Fields = 0 then (if l[i].Name ∈ (l.take i).map api_Kind.Name then some (.inr (.inl 5)) else some (.inl ((i + 1 : Nat) : Int))) else some (.inr (.inl (oneV l[i].Name l[i].Fields))) := fun i hi => by
      unfold kind_Check_l2
      rw [cnd_dec, if_pos (by omega), idx_get hi]
      simp only [Option.bind_some]
      rw [kone]
      simp only [Option.bind_some, cnd_not, cnd_beq]
      by_cases h0 : oneV l[i].Name l[i].Fields = 0
      · rw [if_pos h0, if_pos h0, cut_take (by omega)]
        simp only [Option.bind_some]
        rw [kfind _ _ (by simp; omega)]
        simp only [Option.bind_some, cnd_dec, findV_nonneg]
        rw [i64ok (by omega) (by omega)]; rfl
      · rw [if_neg h0, if_neg h0]
    have h := loop_find (σ := Int) (ρ := Int) (υ := Unit) (step := fun s_ => kind_Check_l2 l s_) (fun i => (i : Int)) l.length (checkG l) () (fun i hi r hr => by
      show kind_Check_l2 l (i : Int) = _
      rw [checkG_at hi] at hr
      rw [step i hi]
      split at hr
      · rw [if_pos (by assumption)]
        split at hr
        · rw [if_pos (by assumption)]; obtain rfl := Option.some.inj hr; rfl
        · cases hr
      · rw [if_neg (by assumption)]; obtain rfl := Option.some.inj hr; rfl) (fun i hi hr => by
      show kind_Check_l2 l (i : Int) = _
      rw [checkG_at hi] at hr
      rw [step i hi]
      split at hr
      · rw [if_pos (by assumption)]
        split at hr
        · cases hr
        · rw [if_neg (by assumption)]
      · cases hr) (by
      show kind_Check_l2 l (l.length : Int) = _
      unfold kind_Check_l2
      rw [cnd_dec, if_neg (by omega)])
    rw [show (0 : Int) = ((0 : Nat) : Int) from rfl, h]
    simp only [Option.bind_some]
    cases (List.range l.length).findSome? (checkG l) <;> rfl
theorem okk_ks {l : List api_Kind} {w : Nat} (h : okl w ok_api_Kind l) {i : Nat} (hi : i < l.length) : oks l[i].Name ∧ ∀ j (hj : j < l[i].Fields.length), oks l[i].Fields[j].Name :=
  ⟨(h.2 _ (List.getElem_mem hi)).1, fun j hj => okfs (h.2 _ (List.getElem_mem hi)).2 hj⟩
theorem rcheck {l : List api_Kind} (hk : ∀ i (h : i < l.length), oks l[i].Name ∧ ∀ j (hj : j < l[i].Fields.length), oks l[i].Fields[j].Name) : tourref3_KindsError l = some (checkV l) := by
  unfold tourref3_KindsError checkV
  rw [cnd_dec]
  by_cases h8 : 16 < l.length
  · rw [if_pos (by omega), if_pos h8]
  · rw [if_neg (by omega), if_neg h8]
    have step : ∀ i (hi : i < l.length), tourref3_KindsError_l2 l ((l.take i).map api_Kind.Name) (i : Int) = if oneV l[i].Name l[i].Fields = 0 then (if l[i].Name ∈ (l.take i).map api_Kind.Name then some (.inr (.inl 5)) else some (.inl ((l.take (i + 1)).map api_Kind.Name, ((i + 1 : Nat) : Int)))) else some (.inr (.inl (oneV l[i].Name l[i].Fields))) := fun i hi => by
      unfold tourref3_KindsError_l2
      rw [cnd_dec, if_pos (by omega), idx_get hi]
      simp only [Option.bind_some]
      rw [rone (hk i hi).1 (hk i hi).2]
      simp only [Option.bind_some, cnd_not, cnd_beq]
      by_cases h0 : oneV l[i].Name l[i].Fields = 0
      · rw [if_pos h0, if_pos h0, rtwice _ _ (by simp; omega)]
        simp only [Option.bind_some, cnd_dec]
        rw [app_ok (by simp; omega)]
        simp only [Option.bind_some]
        rw [i64ok (by omega) (by omega), List.take_succ_eq_append_getElem hi, List.map_append]; rfl
      · rw [if_neg h0, if_neg h0]
    have h := loop_find (σ := (List ByteArray) × Int) (ρ := Int) (υ := Unit) (step := fun s_ => tourref3_KindsError_l2 l s_.1 s_.2) (fun i => ((l.take i).map api_Kind.Name, (i : Int))) l.length (checkG l) () (fun i hi r hr => by
      show tourref3_KindsError_l2 l ((l.take i).map api_Kind.Name) (i : Int) = _
      rw [checkG_at hi] at hr
      rw [step i hi]
      split at hr
      · rw [if_pos (by assumption)]
        split at hr
        · rw [if_pos (by assumption)]; obtain rfl := Option.some.inj hr; rfl
        · cases hr
      · rw [if_neg (by assumption)]; obtain rfl := Option.some.inj hr; rfl) (fun i hi hr => by
      show tourref3_KindsError_l2 l ((l.take i).map api_Kind.Name) (i : Int) = _
      rw [checkG_at hi] at hr
      rw [step i hi]
      split at hr
      · rw [if_pos (by assumption)]
        split at hr
        · cases hr
        · rw [if_neg (by assumption)]
      · cases hr) (by
      show tourref3_KindsError_l2 l ((l.take l.length).map api_Kind.Name) (l.length : Int) = _
      unfold tourref3_KindsError_l2
      rw [cnd_dec, if_neg (by omega)])
    have h' : loop (σ := (List ByteArray) × Int) (ρ := (Int ⊕ Unit)) (fun s_ => tourref3_KindsError_l2 l s_.1 s_.2) (([] : List ByteArray), 0) = _ := h
    rw [h']
    simp only [Option.bind_some]
    cases (List.range l.length).findSome? (checkG l) <;> rfl
theorem kcopy {l : List api_Kind} (hl : l.length ≤ 3518437208883) (hf : ∀ i (h : i < l.length), l[i].Fields.length ≤ 4398046511103) : kind_Copy l = some l := by
  unfold kind_Copy
  rw [mk_ok (by omega) (by omega), Int.toNat_natCast]
  simp only [Option.bind_some]
  have h := loop_to (σ := (List api_Kind) × Int) (ρ := List api_Kind) (step := fun s_ => kind_Copy_l2 l s_.1 s_.2) (fun i => (l.take i ++ List.replicate (l.length - i) (api_Kind.mk ByteArray.empty []), (i : Int))) l.length (r := l) (fun i hi => by
    show kind_Copy_l2 l (l.take i ++ List.replicate (l.length - i) (api_Kind.mk ByteArray.empty [])) (i : Int) = _
    have hlen : (l.take i ++ List.replicate (l.length - i) (api_Kind.mk ByteArray.empty [])).length = l.length := by simp; omega
    have hset : (l.take i ++ List.replicate (l.length - i) (api_Kind.mk ByteArray.empty [])).set i (api_Kind.mk l[i].Name l[i].Fields) = l.take (i + 1) ++ List.replicate (l.length - (i + 1)) (api_Kind.mk ByteArray.empty []) := by
      rw [show l.length - i = (l.length - (i + 1)) + 1 by omega, List.replicate_succ, List.set_append, if_neg (by simp; omega), show i - (l.take i).length = 0 by simp; omega, List.set_cons_zero, List.take_succ_eq_append_getElem hi, List.append_assoc]
      rfl
    unfold kind_Copy_l2
    rw [cnd_dec, if_pos (by omega), idx_get hi]
    simp only [Option.bind_some]
    rw [app_ok (by have := hf i hi; simp; omega)]
    simp only [Option.bind_some, List.nil_append]
    rw [idx_get (by omega)]
    simp only [Option.bind_some]
    rw [upd_ok (by omega)]
    simp only [Option.bind_some]
    rw [hset, i64ok (by omega) (by omega)]; rfl) (by
    show kind_Copy_l2 l (l.take l.length ++ List.replicate (l.length - l.length) (api_Kind.mk ByteArray.empty [])) (l.length : Int) = _
    unfold kind_Copy_l2
    rw [cnd_dec, if_neg (by omega), Nat.sub_self, List.take_of_length_le (Nat.le_refl _)]
    simp)
  have h' : loop (σ := (List api_Kind) × Int) (ρ := List api_Kind) (fun s_ => kind_Copy_l2 l s_.1 s_.2) (List.replicate l.length (api_Kind.mk ByteArray.empty []), 0) = some l := by simpa using h
  rw [h']; rfl
theorem field_eq (x y : api_Field) : (x.Name.toList == y.Name.toList && (x.Bits == y.Bits && (x.Low == y.Low))) = decide (x = y) := by
  rw [bytes_eq]
  obtain ⟨a, b, c⟩ := x
  obtain ⟨d, e, f⟩ := y
  by_cases h1 : a = d <;> by_cases h2 : b = e <;> by_cases h3 : c = f <;> simp [h1, h2, h3]
theorem equal_fields {a b : List api_Field} (ha : a.length ≤ 140737488355328) : slices_Equal_api_Field_api_Field a b = some (decide (a = b)) := by
  unfold slices_Equal_api_Field_api_Field
  rw [cnd_not, cnd_beq]
  by_cases hl : a.length = b.length
  · rw [if_pos (by omega)]
    rcases loop_same (σ := Int) (υ := Unit) (step := fun s_ => slices_Equal_api_Field_api_Field_l2 a b s_) (fun i => (i : Int)) a b hl () (fun i h e => by
        show slices_Equal_api_Field_api_Field_l2 a b (i : Int) = _
        unfold slices_Equal_api_Field_api_Field_l2
        rw [cnd_dec, if_pos (by omega), idx_get h]
        simp only [Option.bind_some]
        rw [idx_get (hl ▸ h)]
        simp only [Option.bind_some, cnd_not, field_eq, cnd_dec]
        rw [if_pos e, i64ok (by omega) (by omega)]; rfl) (fun i h e => by
        show slices_Equal_api_Field_api_Field_l2 a b (i : Int) = _
        unfold slices_Equal_api_Field_api_Field_l2
        rw [cnd_dec, if_pos (by omega), idx_get h]
        simp only [Option.bind_some]
        rw [idx_get (hl ▸ h)]
        simp only [Option.bind_some, cnd_not, field_eq, cnd_dec]
        rw [if_neg e]) (by
        show slices_Equal_api_Field_api_Field_l2 a b (a.length : Int) = _
        unfold slices_Equal_api_Field_api_Field_l2
        rw [cnd_dec, if_neg (by omega)]) with ⟨h1, h2⟩ | ⟨h1, h2⟩
    · rw [show (0 : Int) = ((0 : Nat) : Int) from rfl, h2, decide_eq_true h1]; rfl
    · rw [show (0 : Int) = ((0 : Nat) : Int) from rfl, h2, decide_eq_false h1]; rfl
  · rw [if_neg (by omega), decide_eq_false (fun e => hl (by rw [e]))]
theorem rsamek {a b : api_Kind} (ha : a.Fields.length ≤ 140737488355328) : tourref3_SameKind a.Name a.Fields b.Name b.Fields = some (decide (a = b)) := by
  unfold tourref3_SameKind tourref3_SameKind_j1
  rw [equal_fields ha, bytes_eq, cnd_dec]
  simp only [Option.bind_some]
  obtain ⟨an, af⟩ := a
  obtain ⟨bn, bf⟩ := b
  by_cases h : an = bn
  · rw [if_pos h]; simp [h]
  · rw [if_neg h]; simp [h]
theorem requal_kinds {a b : List api_Kind} (hla : a.length ≤ 140737488355328) (ha : ∀ i (h : i < a.length), a[i].Fields.length ≤ 140737488355328) : slices_EqualFunc_api_Kind_api_Kind_api_Kind_api_Kind a b = some (decide (a = b)) := by
  unfold slices_EqualFunc_api_Kind_api_Kind_api_Kind_api_Kind
  rw [cnd_not, cnd_beq]
  by_cases hl : a.length = b.length
  · rw [if_pos (by omega)]
    rcases loop_same (σ := Int) (υ := Unit) (step := fun s_ => slices_EqualFunc_api_Kind_api_Kind_api_Kind_api_Kind_l2 a b s_) (fun i => (i : Int)) a b hl () (fun i h e => by
        show slices_EqualFunc_api_Kind_api_Kind_api_Kind_api_Kind_l2 a b (i : Int) = _
        unfold slices_EqualFunc_api_Kind_api_Kind_api_Kind_api_Kind_l2
        rw [cnd_dec, if_pos (by omega), idx_get h]
        simp only [Option.bind_some]
        rw [idx_get (hl ▸ h)]
        simp only [Option.bind_some]
        rw [rsamek (ha i h)]
        simp only [Option.bind_some, cnd_not, cnd_dec]
        rw [if_pos e, i64ok (by omega) (by omega)]; rfl) (fun i h e => by
        show slices_EqualFunc_api_Kind_api_Kind_api_Kind_api_Kind_l2 a b (i : Int) = _
        unfold slices_EqualFunc_api_Kind_api_Kind_api_Kind_api_Kind_l2
        rw [cnd_dec, if_pos (by omega), idx_get h]
        simp only [Option.bind_some]
        rw [idx_get (hl ▸ h)]
        simp only [Option.bind_some]
        rw [rsamek (ha i h)]
        simp only [Option.bind_some, cnd_not, cnd_dec]
        rw [if_neg e]) (by
        show slices_EqualFunc_api_Kind_api_Kind_api_Kind_api_Kind_l2 a b (a.length : Int) = _
        unfold slices_EqualFunc_api_Kind_api_Kind_api_Kind_api_Kind_l2
        rw [cnd_dec, if_neg (by omega)]) with ⟨h1, h2⟩ | ⟨h1, h2⟩
    · rw [show (0 : Int) = ((0 : Nat) : Int) from rfl, h2, decide_eq_true h1]; rfl
    · rw [show (0 : Int) = ((0 : Nat) : Int) from rfl, h2, decide_eq_false h1]; rfl
  · rw [if_neg (by omega), decide_eq_false (fun e => hl (by rw [e]))]
end Go.Proofs.YtbfndcookgijfaaGreatDoor.C
