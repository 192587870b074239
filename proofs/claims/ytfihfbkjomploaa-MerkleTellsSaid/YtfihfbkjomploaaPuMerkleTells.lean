/- The law MerkleTells over the plain functions. No condition. -/
import Derived.Test.YtfihfbkjomploaaPuMerkleNarrows
import Derived.Test.YtfihfbkjomploaaPuVerify
namespace Go.Proofs.Ytfihfbkjomploaa.X
open Go Go.RowKit Go.Proofs.Ytfihfbkjomploaa.Sx Go.Proofs.Ytfihfbkjomploaa.Rnd Go.Proofs.Ytfihfbkjomploaa.Sum
set_option linter.unusedVariables false
set_option linter.unusedSimpArgs false
/-- The proof of a leaf, by halves. -/
def prvH (l : List Int) (i : Nat) : List Int :=
  if h : l.length ≤ 1 then []
  else if i < hf l.length then prvH (l.take (hf l.length)) i ++ [top (l.drop (hf l.length))]
  else prvH (l.drop (hf l.length)) (i - hf l.length) ++ [top (l.take (hf l.length))]
termination_by l.length
decreasing_by
  · have := hf_ok (n := l.length) (by omega); rw [List.length_take]; omega
  · have := hf_ok (n := l.length) (by omega); rw [List.length_drop]; omega
theorem prvH_one {l : List Int} {i : Nat} (h : l.length ≤ 1) : prvH l i = [] := by rw [prvH, dif_pos h]
theorem prvH_more {l : List Int} {i : Nat} (h : ¬ l.length ≤ 1) : prvH l i = if i < hf l.length then prvH (l.take (hf l.length)) i ++ [top (l.drop (hf l.length))] else prvH (l.drop (hf l.length)) (i - hf l.length) ++ [top (l.take (hf l.length))] := by
  rw [prvH, dif_neg h]
theorem prvH_length : ∀ (n : Nat) (l : List Int) (i : Nat), l.length = n → (prvH l i).length ≤ n := by
  intro n
  induction n using Nat.strongRecOn with
  | _ n ih =>
    intro l i hl
    by_cases h : l.length ≤ 1
    · rw [prvH_one h]; simp
    · have hh := hf_ok (n := l.length) (by omega)
      rw [prvH_more h]
      split
      · have := ih (l.take (hf l.length)).length (by rw [List.length_take]; omega) _ i rfl
        rw [List.length_take] at this
        simp; omega
      · have := ih (l.drop (hf l.length)).length (by rw [List.length_drop]; omega) _ (i - hf l.length) rfl
        rw [List.length_drop] at this
        simp; omega
theorem top_up (l : List Int) (h : 1 ≤ l.length) : top (pairUp l) = top l := by
  have hp := pairUp_length l
  have hb : l.length < 2 ^ l.length := Nat.lt_two_pow_self
  have h1 := lvl_get (pairUp l) l.length 0 (by omega)
  have h2 := lvl_get l (l.length + 1) 0 (by omega)
  rw [lvl_succ, h1, sg_all (by omega), sg_all (by rw [Nat.pow_succ]; omega)] at h2
  exact Option.some.inj h2
theorem pairUp_take (l : List Int) (k : Nat) (hk : k % 2 = 0) (hl : k ≤ l.length) : (pairUp l).take (k / 2) = pairUp (l.take k) ∧ (pairUp l).drop (k / 2) = pairUp (l.drop k) := by
  have e : pairUp l = pairUp (l.take k) ++ pairUp (l.drop k) := by
    have := pairUp_append (l.take k) (l.drop k) (by rw [List.length_take, Nat.min_eq_left hl]; exact hk)
    rwa [List.take_append_drop] at this
  have hlen : (pairUp (l.take k)).length = k / 2 := by rw [pairUp_length, List.length_take, Nat.min_eq_left hl]; omega
  rw [e, ← hlen]
  exact ⟨List.take_left, List.drop_left⟩
def sbl (l : List Int) (i : Nat) : List Int := if sb i < l.length then [l.getD (sb i) 0] else []
theorem sbl_left {l : List Int} {i k : Nat} (he : k % 2 = 0) (hk : k ≤ l.length) (hi : i < k) : sbl (l.take k) i = sbl l i := by
  have hs := sbA he hi
  unfold sbl
  rw [List.length_take, if_pos (by omega), if_pos (by omega)]
  simp [List.getD, List.getElem?_take, hs]
theorem sbl_right {l : List Int} {i k : Nat} (he : k % 2 = 0) (hk : k ≤ i) (hi : i < l.length) : sbl (l.drop k) (i - k) = sbl l i := by
  have hs := sbB he hk hi
  unfold sbl
  rw [List.length_drop]
  by_cases h : sb i < l.length
  · rw [if_pos (hs.2 h), if_pos h]
    have e : k + sb (i - k) = sb i := by unfold sb; split <;> split <;> omega
    simp [List.getD, List.getElem?_drop, e]
  · rw [if_neg (fun x => h (hs.1 x)), if_neg h]
theorem sbl_last {l : List Int} {i k : Nat} (he : k % 2 = 0) (hk : k ≤ i) (hi : i < l.length) (hn : l.length - k < 2) : sbl l i = [] := by unfold sbl; rw [if_neg (sbC he hk hi hn)]
theorem prvH_two (l : List Int) (hl : l.length = 2) (i : Nat) (hi : i < 2) : prvH l i = sbl l i ++ prvH (pairUp l) (i / 2) := by
  match l, hl with
  | [a, b], _ =>
    rw [prvH_more (by simp), prvH_one (l := pairUp [a, b]) (by simp [pairUp])]
    simp only [List.length_cons, List.length_nil, Nat.zero_add, Nat.reduceAdd, hf2, List.take_succ_cons, List.take_zero, List.drop_succ_cons, List.drop_zero]
    rw [prvH_one (l := [a]) (by simp), prvH_one (l := [b]) (by simp), top_one (l := [a]) (by simp), top_one (l := [b]) (by simp)]
    rcases (show i = 0 ∨ i = 1 by omega) with rfl | rfl
    · simp [sbl, sb]
    · simp [sbl, sb]
theorem prvH_up : ∀ (n : Nat) (l : List Int) (i : Nat), l.length = n → 2 ≤ n → i < n → prvH l i = sbl l i ++ prvH (pairUp l) (i / 2) := by
  intro n
  induction n using Nat.strongRecOn with
  | _ n ih =>
    intro l i hl hn hi
    rcases Nat.lt_or_ge n 3 with h3 | h3
    · exact prvH_two l (by omega) i (by omega)
    · have hk := hf_ok hn
      have he := hf_even h3
      have hh := hf_half h3
      have hm2 : 2 ≤ (n + 1) / 2 := by omega
      have hlen : (pairUp l).length = (n + 1) / 2 := by rw [pairUp_length, hl]
      have hfn : hf l.length = hf n := by rw [hl]
      have hfm : hf (pairUp l).length = hf n / 2 := by rw [hlen, hh]; omega
      rw [prvH_more (l := l) (by omega), prvH_more (l := pairUp l) (by omega), hfn, hfm]
      generalize hf n = k at hk he
      obtain ⟨pt, pd⟩ := pairUp_take l k he (by omega)
      rw [pt, pd]
      have h2k : 2 ≤ k := by omega
      rw [top_up (l.take k) (by rw [List.length_take]; omega), top_up (l.drop k) (by rw [List.length_drop]; omega)]
      by_cases hik : i < k
      · rw [if_pos hik, if_pos (by omega), ih k hk.1 (l.take k) i (by rw [List.length_take]; omega) h2k hik, sbl_left he (by omega) hik, List.append_assoc]
      · have hki : k ≤ i := Nat.le_of_not_lt hik
        rw [if_neg hik, if_neg (by omega)]
        rcases Nat.lt_or_ge (n - k) 2 with hm1 | hm3
        · rw [sbl_last he hki (by omega) (by omega), List.nil_append, prvH_one (by rw [List.length_drop]; omega), prvH_one (l := pairUp (l.drop k)) (by rw [pairUp_length, List.length_drop]; omega)]
        · rw [ih (n - k) (by omega) (l.drop k) (i - k) (by rw [List.length_drop]; omega) hm3 (by omega), sbl_right he hki (by omega), List.append_assoc, show (i - k) / 2 = i / 2 - k / 2 by omega]
theorem proof_loop (n0 : Nat) (X : List (List Int)) (hX : X.length ≤ 5000) : ∀ (n : Nat) (l : List Int) (i m : Nat) (pre : List (List Int)) (acc : List Int), l.length = n → 1 ≤ n → n ≤ 4096 → i < n → X = pre ++ lv l → pre.length = m → acc.length ≤ m →
    loop (σ := Int × (List Int) × Int) (ρ := (List Int)) (fun s_ => merkle_Proof_l2 X s_.1 s_.2.1 s_.2.2) ((i : Int), acc, (m : Int)) = some (acc ++ prvH l i) := by
  intro n
  induction n using Nat.strongRecOn with
  | _ n ih =>
    intro l i m pre acc hl h1 h4 hi hx hm ha
    have hll := (lv_length l).2
    have hXl : X.length = m + (lv l).length := by rw [hx, List.length_append, hm]
    have w1 : IntKind.i64.wrap (Int.tdiv (i : Int) 2) = ((i / 2 : Nat) : Int) := by rw [Int.tdiv_eq_ediv_of_nonneg (by omega), i64ok (by omega) (by omega)]; omega
    have w2 : IntKind.i64.wrap ((m : Int) + 1) = ((m + 1 : Nat) : Int) := by rw [i64ok (by omega) (by omega)]; omega
    have xm : idx X (m : Int) = some l := by
      rw [idx_nat, hx, List.getElem?_append_right (by omega), hm, Nat.sub_self]
      have := lv_get _ l rfl 0 (by omega)
      exact this
    have hst : merkle_Proof_l2 X (i : Int) acc (m : Int) = some (.inl (((i / 2 : Nat) : Int), acc ++ sbl l i, ((m + 1 : Nat) : Int))) := by
      unfold merkle_Proof_l2
      rw [cnd_dec, if_pos (by omega), xm]
      simp only [Option.bind_some]
      rw [sb_eq (by omega), cnd_dec]
      unfold sbl
      by_cases h : sb i < l.length
      · rw [if_pos (by omega), if_pos h, idx_get h]
        simp only [Option.bind_some]
        rw [app_ok (by simp; omega)]
        simp only [Option.bind_some, merkle_Proof_j3, w1, w2]
        simp [List.getD, h]
      · rw [if_neg (by omega), if_neg h]
        simp only [merkle_Proof_j3, w1, w2, List.append_nil]
    rw [loop_inl (s := ((i : Int), acc, (m : Int))) hst]
    by_cases h : l.length ≤ 1
    · rw [lv_one h] at hXl hx
      have hX1 : X.length = m + 1 := by rw [hXl]; rfl
      have hs : merkle_Proof_l2 X ((i / 2 : Nat) : Int) (acc ++ sbl l i) ((m + 1 : Nat) : Int) = some (.inr (acc ++ sbl l i)) := by
        unfold merkle_Proof_l2; rw [cnd_dec, if_neg (by omega)]
      rw [loop_inr (s := (((i / 2 : Nat) : Int), acc ++ sbl l i, ((m + 1 : Nat) : Int))) hs, prvH_one h]
      have : i = 0 := by omega
      subst this
      unfold sbl
      rw [if_neg (by simp [sb]; omega)]
    · have hp := pairUp_length l
      rw [ih (pairUp l).length (by omega) (pairUp l) (i / 2) (m + 1) (pre ++ [l]) (acc ++ sbl l i) rfl (by omega) (by omega) (by omega) (by rw [hx, lv_more h]; simp) (by simp [hm]) (by
        rw [List.length_append]
        have : (sbl l i).length ≤ 1 := by unfold sbl; split <;> simp
        omega), prvH_up _ l i rfl (by omega) (by omega), List.append_assoc]
theorem proof_eq {l : List Int} {i : Nat} (h4 : l.length ≤ 4096) (hi : i < l.length) : merkle_Proof l (i : Int) = some (prvH l i, 0) := by
  unfold merkle_Proof
  rw [cnd_dec, if_neg (by omega), cnd_dec, if_neg (by omega), cnd_dec, if_neg (by omega), levels_eq h4]
  simp only [Option.bind_some]
  have := proof_loop 0 (lv l) (by have := lv_length l; omega) l.length l i 0 [] [] rfl (by omega) h4 hi rfl rfl (by simp)
  rw [List.nil_append] at this
  exact congrArg (fun o => o.bind fun e_ => merkle_Proof_j1 e_) this
theorem provedK : ∀ (n : Nat) (l : List Int) (i : Nat), l.length = n → 1 ≤ n → n ≤ 4096 → i < n → ∀ k, n < k → fixK tourref1_Proved_s k (l, (i : Int)) = some (prvH l i) := by
  intro n
  induction n using Nat.strongRecOn with
  | _ n ih =>
    intro l i hl h1 h4 hi k hk
    obtain ⟨m, rfl⟩ : ∃ m, k = m + 1 := ⟨k - 1, by omega⟩
    show tourref1_Proved_b (fun l i => fixK tourref1_Proved_s m (l, i)) l (i : Int) = _
    unfold tourref1_Proved_b
    rw [cnd_beq]
    by_cases h : n = 1
    · rw [if_pos (by omega), prvH_one (by omega)]
    · have hh := hf_ok (n := l.length) (by omega)
      have c1 : cut l 0 (hf l.length : Int) = some (l.take (hf l.length)) := by rw [cut_ok (by omega) (by omega) (by omega)]; simp
      have c2 : cut l (hf l.length : Int) (l.length : Int) = some (l.drop (hf l.length)) := by
        rw [cut_ok (by omega) (by omega) (by omega)]; simp only [Int.toNat_natCast]; rw [List.take_of_length_le (by rw [List.length_drop]; omega)]
      have w : IntKind.i64.wrap ((i : Int) - (hf l.length : Int)) = (i : Int) - (hf l.length : Int) := i64ok (by omega) (by omega)
      rw [if_neg (by omega), half_eq (by omega) (by omega)]
      simp only [Option.bind_some]
      rw [cnd_dec, prvH_more (by omega), c1, c2]
      simp only [Option.bind_some]
      by_cases hik : i < hf l.length
      · rw [if_pos (by omega), if_pos hik, ih (l.take (hf l.length)).length (by rw [List.length_take]; omega) _ i rfl (by rw [List.length_take]; omega) (by rw [List.length_take]; omega) (by rw [List.length_take]; omega) m (by rw [List.length_take]; omega)]
        simp only [Option.bind_some]
        rw [top_eq (by rw [List.length_drop]; omega)]
        simp only [Option.bind_some]
        have := prvH_length _ (l.take (hf l.length)) i rfl
        rw [List.length_take] at this
        rw [app_ok (by simp; omega)]; rfl
      · rw [if_neg (by omega), if_neg hik, w, show (i : Int) - (hf l.length : Int) = ((i - hf l.length : Nat) : Int) by omega, ih (l.drop (hf l.length)).length (by rw [List.length_drop]; omega) _ (i - hf l.length) rfl (by rw [List.length_drop]; omega) (by rw [List.length_drop]; omega) (by rw [List.length_drop]; omega) m (by rw [List.length_drop]; omega)]
        simp only [Option.bind_some]
        rw [top_eq (by rw [List.length_take]; omega)]
        simp only [Option.bind_some]
        have := prvH_length _ (l.drop (hf l.length)) (i - hf l.length) rfl
        rw [List.length_drop] at this
        rw [app_ok (by simp; omega)]; rfl
theorem proved_eq {l : List Int} {i : Nat} (h4 : l.length ≤ 4096) (hi : i < l.length) : tourref1_Proved l (i : Int) = some (prvH l i) := fix_of (l.length + 1) fun k hk => provedK _ l i rfl (by omega) h4 hi k (by omega)
theorem equal64 (l : List Int) (h : l.length ≤ 140737488355328) : slices_Equal_uint64_uint64 l l = some true := by
  unfold slices_Equal_uint64_uint64
  rw [cnd_not, cnd_beq, if_pos rfl]
  have key : ∀ (d i : Nat), l.length ≤ i + d → i ≤ l.length → loop (σ := Int) (ρ := (Bool ⊕ Unit)) (fun s_ => slices_Equal_uint64_uint64_l2 l l s_) (i : Int) = some (.inr ()) := by
    intro d
    induction d with
    | zero => intro i hd hi; exact loop_inr (s := (i : Int)) (by show slices_Equal_uint64_uint64_l2 l l (i : Int) = _; unfold slices_Equal_uint64_uint64_l2; rw [cnd_dec, if_neg (by omega)])
    | succ d ih =>
      intro i hd hi
      by_cases hlt : i < l.length
      · rw [loop_inl (s := (i : Int)) (s' := ((i + 1 : Nat) : Int)) (by
          show slices_Equal_uint64_uint64_l2 l l (i : Int) = _
          unfold slices_Equal_uint64_uint64_l2
          rw [cnd_dec, if_pos (by omega), idx_get hlt]
          simp only [Option.bind_some]
          rw [cnd_not, cnd_beq, if_pos rfl, i64ok (by omega) (by omega)]; rfl)]
        exact ih (i + 1) (by omega) (by omega)
      · exact loop_inr (s := (i : Int)) (by show slices_Equal_uint64_uint64_l2 l l (i : Int) = _; unfold slices_Equal_uint64_uint64_l2; rw [cnd_dec, if_neg (by omega)])
  exact congrArg (fun o => o.bind (Sum.elim (fun e_ => some e_) fun e_ => slices_Equal_uint64_uint64_j1)) (key l.length 0 (by omega) (by omega))
theorem MerkleTells_true (l : List Int) (i : Int) (h0 : (okl 8 (okk .u64)) l) (h1 : (okk .i64) i) : tourlaw1_MerkleTells l i = some true := by
  unfold tourlaw1_MerkleTells
  rw [begun_eq]
  simp only [Option.bind_some, cnd_not, cnd_true]
  by_cases h4 : 4096 < l.length
  · have e1 : merkle_Root l = some (0, 2) := by unfold merkle_Root; rw [cnd_dec, if_pos (by omega)]
    have e2 : merkle_Proof l i = some ([], 2) := by unfold merkle_Proof; rw [cnd_dec, if_pos (by omega)]
    rw [e1, e2, bnd2_some, bnd2_some, cnd_dec, if_pos (by omega)]; rfl
  · have ht := top_eq (l := l) (by omega)
    rw [root_eq (by omega), bnd2_some]
    by_cases hi : i < 0
    · have e2 : merkle_Proof l i = some ([], 4) := by unfold merkle_Proof; rw [cnd_dec, if_neg (by omega), cnd_dec, if_pos (by omega)]
      rw [e2, bnd2_some, cnd_dec, if_neg (by omega), cnd_dec, if_pos hi, ht]
      simp only [Option.bind_some, beq_self_eq_true, cnd_true]; rfl
    · by_cases hl : (l.length : Int) ≤ i
      · have e2 : merkle_Proof l i = some ([], 4) := by unfold merkle_Proof; rw [cnd_dec, if_neg (by omega), cnd_dec, if_neg (by omega), cnd_dec, if_pos (by omega)]
        rw [e2, bnd2_some, cnd_dec, if_neg (by omega), cnd_dec, if_neg hi, cnd_dec, if_pos hl, ht]
        simp only [Option.bind_some, beq_self_eq_true, cnd_true]; rfl
      · obtain ⟨j, rfl⟩ := Int.eq_ofNat_of_zero_le (show 0 ≤ i by omega)
        have e2 := proof_eq (l := l) (i := j) (by omega) (by omega)
        have e3 := proved_eq (l := l) (i := j) (by omega) (by omega)
        have hpl := prvH_length _ l j rfl
        show bnd2 (merkle_Proof l (j : Int)) _ = _
        rw [e2, bnd2_some, cnd_dec, if_neg (by omega), cnd_dec, if_neg (by omega), cnd_dec, if_neg (by omega), ht]
        simp only [Option.bind_some, beq_self_eq_true, cnd_true]
        show ((tourref1_Proved l (j : Int)).bind _) = _
        rw [e3]
        simp only [Option.bind_some]
        rw [equal64 _ (by omega)]; rfl
end Go.Proofs.Ytfihfbkjomploaa.X
