/- The plain law of package kind. No condition. -/
import Derived.Test.YthcbepikeinglaaDoorPuKindsL
namespace Go.Proofs.YthcbepikeinglaaDoor.L
open Go Go.RowKit Go.Proofs.YthcbepikeinglaaDoor.Sx Classical
set_option linter.unusedVariables false
set_option linter.unusedSimpArgs false
def fX : api_Field := api_Field.mk (⟨#[120]⟩) 3 (-2)
def nPlace : ByteArray := ⟨#[112, 108, 97, 99, 101]⟩
theorem two_eq : tourlaw3_two = some [(api_Kind.mk nPlace [fX]), (api_Kind.mk (⟨#[108, 105, 102, 101]⟩) [(api_Field.mk (⟨#[120]⟩) 8 0)])] := rfl
theorem fX_ok : fieldB fX.Name fX.Bits fX.Low = true := by decide +kernel
theorem place_ok : oneV nPlace [fX] = 0 := by
  unfold oneV
  rw [if_pos (by decide +kernel), if_neg (by decide), show List.range [fX].length = [0] from rfl]
  have : oneG [fX] 0 = none := by rw [oneG_at (by decide)]; simp [fX_ok]
  simp [this]
theorem place_fit : fitV nPlace [fX] [9] = ([5], 0) := by
  unfold fitV
  rw [if_pos place_ok, if_pos (show ([9] : List Int).length = [fX].length from rfl)]; rfl
def bitsV (l : List api_Field) : Int := l.foldl (fun n f => IntKind.i64.wrap (n + f.Bits)) 0
theorem bits_succ {fs : List api_Field} {i : Nat} (h : i < fs.length) : bitsV (fs.take (i + 1)) = IntKind.i64.wrap (bitsV (fs.take i) + fs[i].Bits) := by
  unfold bitsV; rw [List.take_succ_eq_append_getElem h, List.foldl_append]; rfl
theorem kwidth {nm : ByteArray} {fs : List api_Field} : kind_Width nm fs = some (if oneV nm fs = 0 then (bitsV fs, 0) else (0, oneV nm fs)) := by
  unfold kind_Width
  rw [kone]
  simp only [Option.bind_some, cnd_not, cnd_beq]
  by_cases h0 : oneV nm fs = 0
  · rw [if_pos h0, if_pos h0]
    obtain ⟨_, h8, _⟩ := oneV_ok h0
    have h := loop_to (σ := Int × Int) (ρ := Int) (step := fun s_ => kind_Width_l2 fs s_.1 s_.2) (fun i => (bitsV (fs.take i), (i : Int))) fs.length (r := bitsV fs) (fun i hi => by
      show kind_Width_l2 fs (bitsV (fs.take i)) (i : Int) = _
      unfold kind_Width_l2
      rw [cnd_dec, if_pos (by omega), idx_get hi]
      simp only [Option.bind_some]
      rw [← bits_succ hi, i64ok (by omega) (by omega)]; rfl) (by
      show kind_Width_l2 fs (bitsV (fs.take fs.length)) (fs.length : Int) = _
      unfold kind_Width_l2
      rw [cnd_dec, if_neg (by omega), List.take_of_length_le (Nat.le_refl _)])
    have h' : loop (σ := Int × Int) (ρ := Int) (fun s_ => kind_Width_l2 fs s_.1 s_.2) (0, 0) = some (bitsV fs) := h
    rw [h']; rfl
  · rw [if_neg h0, if_neg h0]
theorem law_bits {fs : List api_Field} (hl : fs.length ≤ 140737488355328) : loop (σ := Int × Int) (ρ := Int) (fun s_ => tourlaw3_KindSays_l5 fs s_.1 s_.2) (0, 0) = some (bitsV fs) := by
  have h := loop_to (σ := Int × Int) (ρ := Int) (step := fun s_ => tourlaw3_KindSays_l5 fs s_.1 s_.2) (fun i => (bitsV (fs.take i), (i : Int))) fs.length (r := bitsV fs) (fun i hi => by
    show tourlaw3_KindSays_l5 fs (bitsV (fs.take i)) (i : Int) = _
    unfold tourlaw3_KindSays_l5
    rw [cnd_dec, if_pos (by omega), idx_get hi]
    simp only [Option.bind_some]
    rw [← bits_succ hi, i64ok (by omega) (by omega)]; rfl) (by
    show tourlaw3_KindSays_l5 fs (bitsV (fs.take fs.length)) (fs.length : Int) = _
    unfold tourlaw3_KindSays_l5
    rw [cnd_dec, if_neg (by omega), List.take_of_length_le (Nat.le_refl _)])
  exact h
theorem kdefault {nm : ByteArray} {fs : List api_Field} (hl : fs.length ≤ 17592186044416) : kind_Default nm fs = some (fitV nm fs (List.replicate fs.length 0)).1 := by
  unfold kind_Default
  rw [mk_ok (by omega) (by omega), Int.toNat_natCast]
  simp only [Option.bind_some]
  rw [kfit]; rfl
def findF (l : List api_Field) (nm : ByteArray) : Int := match l.findIdx? (fun k => decide (k.Name = nm)) with | some i => (i : Int) | none => -1
theorem first_field {l : List api_Field} {nm : ByteArray} {ρ : Type} {step : Int → Option (Int ⊕ (Int ⊕ Unit))} (hl : l.length ≤ 140737488355328)
    (hy : ∀ i (h : i < l.length), l[i].Name = nm → step (i : Int) = some (.inr (.inl (i : Int)))) (hn : ∀ i (h : i < l.length), ¬ l[i].Name = nm → step (i : Int) = some (.inl ((i + 1 : Nat) : Int))) (he : step (l.length : Int) = some (.inr (.inr ()))) :
    (loop (σ := Int) (ρ := (Int ⊕ Unit)) step 0).bind (Sum.elim (fun e_ => some e_) (fun e_ => some (-1))) = some (findF l nm) := by
  unfold findF
  rcases loop_first (σ := Int) (ρ := Int) (υ := Unit) (step := step) (fun i => (i : Int)) l.length (fun i => (l[i]?).map (·.Name) = some nm) (fun i => (i : Int)) () (fun i hi hp => by
      rw [List.getElem?_eq_getElem hi] at hp; exact hy i hi (Option.some.inj hp)) (fun i hi hp => by
      rw [List.getElem?_eq_getElem hi] at hp; exact hn i hi (fun e => hp (congrArg some e))) he with ⟨k, h1, h2, h3, h4⟩ | ⟨h1, h2⟩
  · rw [show (0 : Int) = ((0 : Nat) : Int) from rfl, h4]
    rw [List.getElem?_eq_getElem h1] at h2
    rw [findIdx_first h1 (decide_eq_true (Option.some.inj h2)) (fun j hj => decide_eq_false (fun e => h3 j hj (by rw [List.getElem?_eq_getElem (by omega)]; exact congrArg some e)))]
    rfl
  · rw [show (0 : Int) = ((0 : Nat) : Int) from rfl, h2]
    rw [List.findIdx?_eq_none_iff.2 (fun x hx => by
      obtain ⟨k, hk, rfl⟩ := List.mem_iff_getElem.1 hx
      exact decide_eq_false (fun e => h1 k hk (by rw [List.getElem?_eq_getElem hk]; exact congrArg some e)))]
    rfl
theorem first_kind {l : List api_Kind} {nm : ByteArray} {step : Int → Option (Int ⊕ (Int ⊕ Unit))} (hl : l.length ≤ 140737488355328)
    (hy : ∀ i (h : i < l.length), l[i].Name = nm → step (i : Int) = some (.inr (.inl (i : Int)))) (hn : ∀ i (h : i < l.length), ¬ l[i].Name = nm → step (i : Int) = some (.inl ((i + 1 : Nat) : Int))) (he : step (l.length : Int) = some (.inr (.inr ()))) :
    (loop (σ := Int) (ρ := (Int ⊕ Unit)) step 0).bind (Sum.elim (fun e_ => some e_) (fun e_ => some (-1))) = some (findV l nm) := by
  unfold findV
  rcases loop_first (σ := Int) (ρ := Int) (υ := Unit) (step := step) (fun i => (i : Int)) l.length (fun i => (l[i]?).map (·.Name) = some nm) (fun i => (i : Int)) () (fun i hi hp => by
      rw [List.getElem?_eq_getElem hi] at hp; exact hy i hi (Option.some.inj hp)) (fun i hi hp => by
      rw [List.getElem?_eq_getElem hi] at hp; exact hn i hi (fun e => hp (congrArg some e))) he with ⟨k, h1, h2, h3, h4⟩ | ⟨h1, h2⟩
  · rw [show (0 : Int) = ((0 : Nat) : Int) from rfl, h4]
    rw [List.getElem?_eq_getElem h1] at h2
    rw [findIdx_first h1 (decide_eq_true (Option.some.inj h2)) (fun j hj => decide_eq_false (fun e => h3 j hj (by rw [List.getElem?_eq_getElem (by omega)]; exact congrArg some e)))]
    rfl
  · rw [show (0 : Int) = ((0 : Nat) : Int) from rfl, h2]
    rw [List.findIdx?_eq_none_iff.2 (fun x hx => by
      obtain ⟨k, hk, rfl⟩ := List.mem_iff_getElem.1 hx
      exact decide_eq_false (fun e => h1 k hk (by rw [List.getElem?_eq_getElem hk]; exact congrArg some e)))]
    rfl
theorem rfieldf {l : List api_Field} {nm : ByteArray} (hl : l.length ≤ 140737488355328) : slices_IndexFunc_api_Field_api_Field l nm = some (findF l nm) := by
  refine first_field (ρ := Unit) (step := fun s_ => slices_IndexFunc_api_Field_api_Field_l2 l nm s_) hl (fun i h e => ?_) (fun i h e => ?_) ?_
  · show slices_IndexFunc_api_Field_api_Field_l2 l nm (i : Int) = _
    unfold slices_IndexFunc_api_Field_api_Field_l2 tourlaw3_KindSays_2
    rw [cnd_dec, if_pos (by omega), idx_get h]
    simp only [Option.bind_some, bytes_eq, cnd_dec]
    rw [if_pos e]
  · show slices_IndexFunc_api_Field_api_Field_l2 l nm (i : Int) = _
    unfold slices_IndexFunc_api_Field_api_Field_l2 tourlaw3_KindSays_2
    rw [cnd_dec, if_pos (by omega), idx_get h]
    simp only [Option.bind_some, bytes_eq, cnd_dec]
    rw [if_neg e, i64ok (by omega) (by omega)]; rfl
  · show slices_IndexFunc_api_Field_api_Field_l2 l nm (l.length : Int) = _
    unfold slices_IndexFunc_api_Field_api_Field_l2
    rw [cnd_dec, if_neg (by omega)]
theorem kfieldf {k0 : ByteArray} {l : List api_Field} {nm : ByteArray} (hl : l.length ≤ 140737488355328) : kind_Field k0 l nm = some (findF l nm) := by
  refine first_field (ρ := Unit) (step := fun s_ => kind_Field_l2 l nm s_) hl (fun i h e => ?_) (fun i h e => ?_) ?_
  · show kind_Field_l2 l nm (i : Int) = _
    unfold kind_Field_l2
    rw [cnd_dec, if_pos (by omega), idx_get h]
    simp only [Option.bind_some, bytes_eq, cnd_dec]
    rw [if_pos e]
  · show kind_Field_l2 l nm (i : Int) = _
    unfold kind_Field_l2
    rw [cnd_dec, if_pos (by omega), idx_get h]
    simp only [Option.bind_some, bytes_eq, cnd_dec]
    rw [if_neg e, i64ok (by omega) (by omega)]; rfl
  · show kind_Field_l2 l nm (l.length : Int) = _
    unfold kind_Field_l2
    rw [cnd_dec, if_neg (by omega)]
theorem rfind {l : List api_Kind} {nm : ByteArray} (hl : l.length ≤ 140737488355328) : slices_IndexFunc_api_Kind_api_Kind l nm = some (findV l nm) := by
  refine first_kind (step := fun s_ => slices_IndexFunc_api_Kind_api_Kind_l2 l nm s_) hl (fun i h e => ?_) (fun i h e => ?_) ?_
  · show slices_IndexFunc_api_Kind_api_Kind_l2 l nm (i : Int) = _
    unfold slices_IndexFunc_api_Kind_api_Kind_l2 tourlaw3_KindSays_1
    rw [cnd_dec, if_pos (by omega), idx_get h]
    simp only [Option.bind_some, bytes_eq, cnd_dec]
    rw [if_pos e]
  · show slices_IndexFunc_api_Kind_api_Kind_l2 l nm (i : Int) = _
    unfold slices_IndexFunc_api_Kind_api_Kind_l2 tourlaw3_KindSays_1
    rw [cnd_dec, if_pos (by omega), idx_get h]
    simp only [Option.bind_some, bytes_eq, cnd_dec]
    rw [if_neg e, i64ok (by omega) (by omega)]; rfl
  · show slices_IndexFunc_api_Kind_api_Kind_l2 l nm (l.length : Int) = _
    unfold slices_IndexFunc_api_Kind_api_Kind_l2
    rw [cnd_dec, if_neg (by omega)]
theorem fitV_len {nm : ByteArray} {fs : List api_Field} {vs : List Int} : (fitV nm fs vs).1.length ≤ vs.length := by
  unfold fitV
  split
  · split
    · rename_i h; rw [show (fitL fs vs, (0 : Int)).1 = fitL fs vs from rfl, fitL_len h]; omega
    · simp
  · simp
theorem tail_ok {l : List api_Kind} {k_0 : ByteArray} {k_1 : List api_Field} {s : ByteArray} (h0 : (okl 40 ok_api_Kind) l) (h1 : ok_api_Kind (api_Kind.mk k_0 k_1)) : tourlaw3_KindSays_j3 k_1 s l k_0 = some true := by
  have hl : l.length ≤ 3518437208780 := by have := h0.1; omega
  have hf : ∀ x : api_Kind, ok_api_Kind x → x.Fields.length ≤ 4398046511103 := fun x hx => by have : x.Fields.length * 32 ≤ 140737488351232 := hx.2.1; omega
  have hk : k_1.length ≤ 4398046511103 := hf (api_Kind.mk k_0 k_1) h1
  have hlf : ∀ i (h : i < l.length), l[i].Fields.length ≤ 4398046511103 := fun i h => hf _ (h0.2 _ (List.getElem_mem h))
  unfold tourlaw3_KindSays_j3 tourlaw3_KindSays_j4
  rw [rfieldf (by omega), kfind _ _ (by omega), rfind (by omega), kfieldf (by omega), kcopy (by omega) hlf, app_ok (by simp; omega)]
  simp only [Option.bind_some, cnd_beq, if_true]
  rw [requal_kinds (by omega) (fun i h => by have := hlf i h; omega), ksame (by omega) (fun i h => by have := hlf i h; omega), ksame (by omega) (fun i h => by have := hlf i h; omega)]
  simp only [Option.bind_some, cnd_dec, if_true]
  rw [requal_kinds (by omega) (fun i h => by have := hlf i h; omega)]
  simp
theorem KindSays_true (l : List api_Kind) (k_0 : ByteArray) (k_1 : List api_Field) (vals : List Int) (s : ByteArray) (h0 : (okl 40 ok_api_Kind) l) (h1 : ok_api_Kind (api_Kind.mk k_0 k_1)) (h2 : (okl 8 (okk .i64)) vals) (h3 : oks s) : tourlaw3_KindSays l k_0 k_1 vals s = some true := by
  have hs : oks k_0 := h1.1
  have hfs : ∀ i (h : i < k_1.length), oks k_1[i].Name := fun i h => okfs (fs := k_1) h1.2 h
  have hkl : k_1.length ≤ 4398046511103 := by have : k_1.length * 32 ≤ 140737488351232 := h1.2.1; omega
  have hvl : vals.length ≤ 17592186044416 := by have := h2.1; omega
  have tail := tail_ok (l := l) (k_0 := k_0) (k_1 := k_1) (s := s) h0 h1
  unfold tourlaw3_KindSays
  rw [two_eq]
  simp only [Option.bind_some]
  rw [show idx [(api_Kind.mk nPlace [fX]), (api_Kind.mk (⟨#[108, 105, 102, 101]⟩) [(api_Field.mk (⟨#[120]⟩) 8 0)])] 0 = some (api_Kind.mk nPlace [fX]) from rfl]
  simp only [Option.bind_some]
  rw [kfit, place_fit]
  simp only [bnd2, Option.bind_some, cnd_not, cnd_beq, if_true]
  rw [equal_ints (by decide), kfit, rfit hs hfs]
  simp only [Option.bind_some, cnd_dec, cnd_not, cnd_beq, if_true, decide_true, cnd_true]
  have hfl := fitV_len (nm := k_0) (fs := k_1) (vs := vals)
  rw [equal_ints (by omega)]
  simp only [Option.bind_some, cnd_dec, decide_true, cnd_true]
  rw [kholds]
  simp only [Option.bind_some]
  have hh : (if (fitV k_0 k_1 vals).2 = 0 then slices_Equal_int_int (fitV k_0 k_1 vals).1 vals else some false) = some (decide (oneV k_0 k_1 = 0 ∧ vals.length = k_1.length ∧ fitL k_1 vals = vals)) := by
    unfold fitV
    by_cases h0 : oneV k_0 k_1 = 0
    · rw [if_pos h0]
      by_cases hl : vals.length = k_1.length
      · rw [if_pos hl, if_pos rfl, equal_ints (by rw [fitL_len hl]; omega)]; simp [h0, hl]
      · rw [if_neg hl, if_neg (by decide)]; simp [hl]
    · rw [if_neg h0, if_neg h0]; simp [h0]
  have rest : tourlaw3_KindSays_j1 k_1 k_0 s l = some true := by
    unfold tourlaw3_KindSays_j1 tourlaw3_KindSays_j2
    rw [mk_ok (by omega) (by omega), Int.toNat_natCast]
    simp only [Option.bind_some]
    rw [rfit hs hfs, kwidth, law_bits (by omega)]
    simp only [bnd2, Option.bind_some]
    rw [rone hs hfs, kdefault (by omega)]
    simp only [Option.bind_some]
    have hfl0 := fitV_len (nm := k_0) (fs := k_1) (vs := List.replicate k_1.length 0)
    rw [List.length_replicate] at hfl0
    rw [equal_ints (by omega)]
    simp only [Option.bind_some, decide_true, cnd_not, cnd_true, tail]
    by_cases h0 : oneV k_0 k_1 = 0
    · rw [if_pos h0, h0]; simp [cnd]
    · rw [if_neg h0, cnd_beq, if_pos rfl, cnd_beq, if_neg h0]; simp [cnd]
  rw [kname, rname h3, kone, rone hs hfs, kcheck, rcheck (fun i h => okk_ks h0 h), rest]
  simp only [Option.bind_some, cnd_not, cnd_beq, if_true]
  by_cases hz : (fitV k_0 k_1 vals).2 = 0
  · rw [if_pos hz] at hh ⊢
    rw [hh]
    simp
  · rw [if_neg hz] at hh ⊢
    have := Option.some.inj hh
    rw [← this]
    simp
end Go.Proofs.YthcbepikeinglaaDoor.L
