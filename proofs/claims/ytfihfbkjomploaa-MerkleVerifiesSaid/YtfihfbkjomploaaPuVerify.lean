/- The plain functions of proofs in trees of digests: Verify and Verified. No condition. -/
import Derived.Test.YtfihfbkjomploaaPuMerkle
namespace Go.Proofs.Ytfihfbkjomploaa.X
open Go Go.RowKit Go.Proofs.Ytfihfbkjomploaa.Sx Go.Proofs.Ytfihfbkjomploaa.Rnd Go.Proofs.Ytfihfbkjomploaa.Sum
set_option linter.unusedVariables false
set_option linter.unusedSimpArgs false
theorem i64_xor_nat (a b : Nat) (ha : a < 9223372036854775808) (hb : b < 9223372036854775808) : Go.bits .xor .i64 (a : Int) (b : Int) = ((a ^^^ b : Nat) : Int) := by
  show IntKind.i64.wrap ((BitVec.ofInt 64 (a : Int) ^^^ BitVec.ofInt 64 (b : Int)).toNat : Int) = _
  rw [BitVec.toNat_xor, ofInt_u64 a (by omega), ofInt_u64 b (by omega)]
  have : a ^^^ b < 2 ^ 63 := Nat.xor_lt_two_pow (by omega) (by omega)
  rw [i64ok (by omega) (by omega)]
/-- The place beside. -/
def sb (i : Nat) : Nat := if i % 2 = 0 then i + 1 else i - 1
theorem xor_one (i : Nat) : i ^^^ 1 = sb i := by
  apply Nat.eq_of_testBit_eq
  intro k
  unfold sb
  cases k with
  | zero =>
    rw [Nat.testBit_xor]
    simp only [Nat.testBit_zero]
    split <;> (rename_i h; simp [show i % 2 = 0 ∨ i % 2 = 1 by omega]; try omega)
    all_goals (rcases (show i % 2 = 0 ∨ i % 2 = 1 by omega) with h1 | h1 <;> simp [h1] <;> omega)
  | succ k =>
    rw [Nat.testBit_succ, Nat.testBit_succ, Nat.xor_div_two]
    simp only [Nat.reduceDiv, Nat.xor_zero]
    congr 1
    split <;> omega
theorem sb_eq {i : Nat} (h : i < 4611686018427387904) : Go.bits .xor .i64 (i : Int) 1 = (sb i : Int) := by
  rw [show (1 : Int) = ((1 : Nat) : Int) from rfl, i64_xor_nat i 1 (by omega) (by omega), xor_one]
/-- By halves. -/
def verO (n i : Nat) (leaf : Int) (p : List Int) : Option Int :=
  if h : n ≤ 1 then (if p = [] then some leaf else none)
  else if p = [] then none
  else if i < hf n then (verO (hf n) i leaf p.dropLast).map fun d => joinv d (p.getLast?.getD 0)
  else (verO (n - hf n) (i - hf n) leaf p.dropLast).map fun d => joinv (p.getLast?.getD 0) d
termination_by n
decreasing_by
  · have := hf_ok (n := n) (by omega); omega
  · have := hf_ok (n := n) (by omega); omega
/-- One level up. -/
def up1 (i : Nat) (leaf x : Int) : Int := if i % 2 = 0 then joinv leaf x else joinv x leaf
theorem verO_one {n i : Nat} {leaf : Int} {p : List Int} (h : n ≤ 1) : verO n i leaf p = if p = [] then some leaf else none := by rw [verO, dif_pos h]
theorem verO_nil {n i : Nat} {leaf : Int} (h : 2 ≤ n) : verO n i leaf [] = none := by rw [verO, dif_neg (by omega), if_pos rfl]
theorem verO_snoc {n i : Nat} {leaf z : Int} {q : List Int} (h : 2 ≤ n) : verO n i leaf (q ++ [z]) = if i < hf n then (verO (hf n) i leaf q).map (joinv · z) else (verO (n - hf n) (i - hf n) leaf q).map (joinv z ·) := by
  rw [verO, dif_neg (by omega), if_neg (by simp)]
  simp
theorem snoc_cases {α : Type} (p : List α) : p = [] ∨ ∃ q z, p = q ++ [z] := by
  rcases List.eq_nil_or_concat p with h | ⟨q, z, h⟩
  · exact .inl h
  · exact .inr ⟨q, z, by rw [h, List.concat_eq_append]⟩
theorem hf_even {n : Nat} (h : 3 ≤ n) : hf n % 2 = 0 := by rw [hf_half h]; omega
theorem sbA {i k : Nat} (he : k % 2 = 0) (h : i < k) : sb i < k := by unfold sb; split <;> omega
theorem sbB {i k n : Nat} (he : k % 2 = 0) (hk : k ≤ i) (hi : i < n) : sb (i - k) < n - k ↔ sb i < n := by unfold sb; split <;> split <;> omega
theorem sbC {i k n : Nat} (he : k % 2 = 0) (hk : k ≤ i) (hi : i < n) (hn : n - k < 2) : ¬ sb i < n := by unfold sb; split <;> omega
theorem sbD {i : Nat} (h : i < 2) : sb i < 2 := by unfold sb; split <;> omega
theorem up1_sub {i k : Nat} (he : k % 2 = 0) (hk : k ≤ i) (leaf x : Int) : up1 (i - k) leaf x = up1 i leaf x := by unfold up1; rw [show (i - k) % 2 = i % 2 by omega]
theorem halfA {k j : Nat} (h : k = 2 * j) : (k + 1) / 2 = j := by omega
theorem halfB {n k j : Nat} (h : k = 2 * j) (hk : k < n) : (n - k + 1) / 2 = (n + 1) / 2 - j := by omega
theorem halfC {i k j : Nat} (h : k = 2 * j) (hk : k ≤ i) : (i - k) / 2 = i / 2 - j := by omega
theorem halfD {i k j : Nat} (h : k = 2 * j) (hi : i < k) : i / 2 < j := by omega
theorem halfE {i k j : Nat} (h : k = 2 * j) (hi : ¬ i < k) : ¬ i / 2 < j := by omega
theorem halfF {n k j : Nat} (h : k = 2 * j) (hk : k < n) (hn : n - k < 2) : (n + 1) / 2 - j ≤ 1 := by omega
theorem verO_two (i : Nat) (hi : i < 2) (leaf : Int) (p : List Int) : verO 2 i leaf p = if sb i < 2 then (match p with | [] => none | x :: r => verO ((2 + 1) / 2) (i / 2) (up1 i leaf x) r) else verO ((2 + 1) / 2) (i / 2) leaf p := by
  have hh : hf 2 = 1 := by decide
  have h11 : (2 + 1) / 2 = 1 := by omega
  rw [if_pos (sbD hi), h11]
  rcases snoc_cases p with rfl | ⟨q, z, rfl⟩
  · rw [verO_nil (Nat.le_refl 2)]
  · rw [verO_snoc (Nat.le_refl 2), hh, show 2 - 1 = 1 from rfl]
    have h1 : ∀ (j : Nat) (y : Int), verO 1 j y [] = some y := fun j y => by rw [verO_one (Nat.le_refl 1), if_pos rfl]
    have h2 : ∀ (j : Nat) (y : Int) (r : List Int), r ≠ [] → verO 1 j y r = none := fun j y r hr => by rw [verO_one (Nat.le_refl 1), if_neg hr]
    have h3 : q ++ [z] ≠ [] := by simp
    rcases (show i = 0 ∨ i = 1 by omega) with hi0 | hi1
    · rw [if_pos (by omega)]
      cases q with
      | nil => simp only [List.nil_append]; rw [h1, h1, Option.map_some]; unfold up1; rw [if_pos (by omega)]
      | cons x q => simp only [List.cons_append]; rw [h2 _ _ _ (by simp), h2 _ _ _ (by simp), Option.map_none]
    · rw [if_neg (by omega)]
      cases q with
      | nil => simp only [List.nil_append]; rw [h1, h1, Option.map_some]; unfold up1; rw [if_neg (by omega)]
      | cons x q => simp only [List.cons_append]; rw [h2 _ _ _ (by simp), h2 _ _ _ (by simp), Option.map_none]
/-- By halves, one level up. -/
theorem verO_up : ∀ (n i : Nat) (leaf : Int) (p : List Int), 2 ≤ n → i < n →
    verO n i leaf p = if sb i < n then (match p with | [] => none | x :: r => verO ((n + 1) / 2) (i / 2) (up1 i leaf x) r) else verO ((n + 1) / 2) (i / 2) leaf p := by
  intro n
  induction n using Nat.strongRecOn with
  | _ n ih =>
    intro i leaf p hn hi
    rcases Nat.lt_or_ge n 3 with h3 | h3
    · have h2 : n = 2 := by omega
      subst h2
      exact verO_two i hi leaf p
    · have hk := hf_ok hn
      have he := hf_even h3
      have hh := hf_half h3
      have hm2 : 2 ≤ (n + 1) / 2 := by omega
      generalize hf n = k at hk he hh
      have hfn : hf n = 2 * hf ((n + 1) / 2) := hf_half h3
      rw [← hh] at hfn
      have h2k : 2 ≤ k := by omega
      rcases snoc_cases p with rfl | ⟨q, z, rfl⟩
      · rw [verO_nil (by omega)]
        split
        · rfl
        · rw [verO_nil hm2]
      · rw [verO_snoc hn, hfn]
        by_cases hik : i < k
        · have hs := sbA he hik
          rw [if_pos hik, if_pos (Nat.lt_trans hs hk.1), ih k hk.1 i leaf q h2k hik, if_pos hs]
          cases q with
          | nil => simp only [List.nil_append]; rw [verO_nil hm2]; rfl
          | cons x q =>
            simp only [List.cons_append]
            rw [verO_snoc hm2, if_pos (halfD hh hik), halfA hh]
        · have hki : k ≤ i := Nat.le_of_not_lt hik
          rw [if_neg hik]
          rcases Nat.lt_or_ge (n - k) 2 with hm1 | hm3
          · rw [if_neg (sbC he hki hi hm1), verO_snoc hm2, if_neg (halfE hh hik), verO_one (Nat.le_of_lt_succ hm1), verO_one (halfF hh hk.1 hm1)]
          · have hi3 : i - k < n - k := Nat.sub_lt_sub_right hki hi
            have hlt : n - k < n := by omega
            rw [ih (n - k) hlt (i - k) leaf q hm3 hi3]
            by_cases hsb : sb i < n
            · rw [if_pos ((sbB he hki hi).2 hsb), if_pos hsb]
              cases q with
              | nil => simp only [List.nil_append]; rw [verO_nil hm2]; rfl
              | cons x q =>
                simp only [List.cons_append]
                rw [verO_snoc hm2, if_neg (halfE hh hik), halfB hh hk.1, halfC hh hki, up1_sub he hki]
            · rw [if_neg (fun h => hsb ((sbB he hki hi).1 h)), if_neg hsb, verO_snoc hm2, if_neg (halfE hh hik), halfB hh hk.1, halfC hh hki]
/-! ### What the functions come to -/
theorem verify_loop (root : Int) : ∀ (n i : Nat) (leaf : Int) (p : List Int), 1 ≤ n → n ≤ 4096 → i < n →
    ((loop (σ := Int × Int × Int × (List Int)) (ρ := (Bool ⊕ Int × (List Int))) (fun s_ => merkle_Verify_l3 s_.1 s_.2.1 s_.2.2.1 s_.2.2.2) ((n : Int), (i : Int), leaf, p)).bind (Sum.elim (fun e_ => some e_) (fun e_ => merkle_Verify_j1 root e_.1 e_.2))) = some (verO n i leaf p == some root) := by
  intro n
  induction n using Nat.strongRecOn with
  | _ n ih =>
    intro i leaf p h1 h2 hi
    by_cases h : n ≤ 1
    · have hs : merkle_Verify_l3 (n : Int) (i : Int) leaf p = some (.inr (.inr (leaf, p))) := by
        unfold merkle_Verify_l3; rw [cnd_dec, if_neg (by omega)]
      rw [loop_inr (s := ((n : Int), (i : Int), leaf, p)) hs, verO_one h]
      simp only [Option.bind_some, Sum.elim_inr, merkle_Verify_j1, merkle_Verify_j2]
      rw [cnd_beq]
      by_cases hp : p = []
      · subst hp; simp
      · have : p.length ≠ 0 := fun e => hp (List.eq_nil_of_length_eq_zero e)
        rw [if_neg (by omega), if_neg hp]; rfl
    · have w1 : IntKind.i64.wrap (Int.tdiv (IntKind.i64.wrap ((n : Int) + 1)) 2) = (((n + 1) / 2 : Nat) : Int) := by
        rw [i64ok (x := (n : Int) + 1) (by omega) (by omega), Int.tdiv_eq_ediv_of_nonneg (by omega), i64ok (by omega) (by omega)]; omega
      have w2 : IntKind.i64.wrap (Int.tdiv (i : Int) 2) = ((i / 2 : Nat) : Int) := by
        rw [Int.tdiv_eq_ediv_of_nonneg (by omega), i64ok (by omega) (by omega)]; omega
      have w3 : Int.tmod (i : Int) 2 = ((i % 2 : Nat) : Int) := by rw [Int.tmod_eq_emod_of_nonneg (by omega)]; omega
      rw [verO_up n i leaf p (by omega) hi]
      by_cases hsb : sb i < n
      · rw [if_pos hsb]
        cases p with
        | nil =>
          have hs : merkle_Verify_l3 (n : Int) (i : Int) leaf [] = some (.inr (.inl false)) := by
            unfold merkle_Verify_l3
            rw [cnd_dec, if_pos (by omega), sb_eq (by omega), cnd_dec, if_pos (by omega), cnd_beq, if_pos (by simp)]
          rw [loop_inr (s := ((n : Int), (i : Int), leaf, ([] : List Int))) hs]
          rfl
        | cons x r =>
          have hs : merkle_Verify_l3 (n : Int) (i : Int) leaf (x :: r) = some (.inl ((((n + 1) / 2 : Nat) : Int), ((i / 2 : Nat) : Int), up1 i leaf x, r)) := by
            unfold merkle_Verify_l3
            rw [cnd_dec, if_pos (by omega), sb_eq (by omega), cnd_dec, if_pos (by omega), cnd_beq, if_neg (by simp; omega), w3, cnd_beq]
            have hx : idx (x :: r) 0 = some x := rfl
            have hc : cut (x :: r) 1 ((x :: r).length : Int) = some r := by
              rw [cut_ok (by omega) (by simp; omega) (by omega)]; simp
            simp only [hx, Option.bind_some, join_eq, merkle_Verify_j5, hc, merkle_Verify_j4, w1, w2]
            unfold up1
            by_cases hev : i % 2 = 0
            · rw [if_pos (by omega), if_pos hev]
            · rw [if_neg (by omega), if_neg hev]
          rw [loop_inl (s := ((n : Int), (i : Int), leaf, x :: r)) hs]
          exact ih _ (by omega) _ _ _ (by omega) (by omega) (by omega)
      · rw [if_neg hsb]
        have hs : merkle_Verify_l3 (n : Int) (i : Int) leaf p = some (.inl ((((n + 1) / 2 : Nat) : Int), ((i / 2 : Nat) : Int), leaf, p)) := by
          unfold merkle_Verify_l3
          rw [cnd_dec, if_pos (by omega), sb_eq (by omega), cnd_dec, if_neg (by omega)]
          simp only [merkle_Verify_j4, w1, w2]
        rw [loop_inl (s := ((n : Int), (i : Int), leaf, p)) hs]
        exact ih _ (by omega) _ _ _ (by omega) (by omega) (by omega)
theorem verified_eq : ∀ (n i : Nat) (leaf : Int) (p : List Int), 1 ≤ n → n ≤ 4096 → i < n → p.length * 8 ≤ 140737488351232 →
    ∃ d ok, (∀ k, n < k → fixK tourref1_Verified_s k ((n : Int), (i : Int), leaf, p) = some (d, ok)) ∧ verO n i leaf p = if ok then some d else none := by
  intro n
  induction n using Nat.strongRecOn with
  | _ n ih =>
    intro i leaf p h1 h2 hi hp
    have unf : ∀ {d ok}, (∀ k, n ≤ k → tourref1_Verified_b (fun n i leaf proof => fixK tourref1_Verified_s k (n, i, leaf, proof)) (n : Int) (i : Int) leaf p = some (d, ok)) → ∀ k, n < k → fixK tourref1_Verified_s k ((n : Int), (i : Int), leaf, p) = some (d, ok) := fun h k hk => by
      obtain ⟨m, rfl⟩ : ∃ m, k = m + 1 := ⟨k - 1, by omega⟩
      exact h m (by omega)
    by_cases h : n ≤ 1
    · have hn : n = 1 := by omega
      subst hn
      refine ⟨leaf, ((p.length : Int) == 0), unf fun k hk => by unfold tourref1_Verified_b; rw [cnd_beq, if_pos (by simp)], ?_⟩
      rw [verO_one (by omega)]
      by_cases hp : p = []
      · subst hp; simp
      · have : p.length ≠ 0 := fun e => hp (List.eq_nil_of_length_eq_zero e)
        rw [if_neg hp, if_neg (by simp; omega)]
    · rcases snoc_cases p with rfl | ⟨q, z, rfl⟩
      · refine ⟨0, false, unf fun k hk => by unfold tourref1_Verified_b; rw [cnd_beq, if_neg (by omega), cnd_beq, if_pos (by simp)], ?_⟩
        rw [verO_nil (by omega)]; rfl
      · have hh := hf_ok (n := n) (by omega)
        have hl : (q ++ [z]).length = q.length + 1 := by simp
        have w : IntKind.i64.wrap (((q ++ [z]).length : Int) - 1) = (q.length : Int) := by rw [hl, i64ok (by omega) (by omega)]; omega
        have hx : idx (q ++ [z]) (q.length : Int) = some z := by rw [idx_nat]; simp
        have hc : cut (q ++ [z]) 0 (q.length : Int) = some q := by rw [cut_ok (by omega) (by omega) (by omega)]; simp
        rw [verO_snoc (by omega)]
        by_cases hik : i < hf n
        · obtain ⟨d, ok, h3, h4⟩ := ih (hf n) (by omega) i leaf q (by omega) (by omega) hik (by omega)
          refine ⟨_, ok, unf fun k hk => ?_, by rw [if_pos hik, h4]; cases ok <;> rfl⟩
          unfold tourref1_Verified_b
          rw [cnd_beq, if_neg (by omega), cnd_beq, if_neg (by omega), half_eq (by omega) (by omega)]
          simp only [Option.bind_some, w, hx, hc]
          rw [cnd_dec, if_pos (by omega), h3 k (by omega), bnd2_some, tied_eq]
          rfl
        · have w1 : IntKind.i64.wrap ((n : Int) - (hf n : Int)) = ((n - hf n : Nat) : Int) := by rw [i64ok (by omega) (by omega)]; omega
          have w2 : IntKind.i64.wrap ((i : Int) - (hf n : Int)) = ((i - hf n : Nat) : Int) := by rw [i64ok (by omega) (by omega)]; omega
          obtain ⟨d, ok, h3, h4⟩ := ih (n - hf n) (by omega) (i - hf n) leaf q (by omega) (by omega) (by omega) (by omega)
          refine ⟨_, ok, unf fun k hk => ?_, by rw [if_neg hik, h4]; cases ok <;> rfl⟩
          unfold tourref1_Verified_b
          rw [cnd_beq, if_neg (by omega), cnd_beq, if_neg (by omega), half_eq (by omega) (by omega)]
          simp only [Option.bind_some, w, hx, hc]
          rw [cnd_dec, if_neg (by omega), w1, w2, h3 k (by omega), bnd2_some, tied_eq]
          rfl
theorem verified_ok (n i : Nat) (leaf : Int) (p : List Int) (h1 : 1 ≤ n) (h2 : n ≤ 4096) (hi : i < n) (hp : p.length * 8 ≤ 140737488351232) : ∃ d ok, tourref1_Verified (n : Int) (i : Int) leaf p = some (d, ok) ∧ verO n i leaf p = if ok then some d else none := by
  obtain ⟨d, ok, h3, h4⟩ := verified_eq n i leaf p h1 h2 hi hp
  exact ⟨d, ok, fix_of (n + 1) fun k' hk' => h3 k' (by omega), h4⟩
theorem verify_ok (root : Int) (n i : Nat) (leaf : Int) (p : List Int) (h1 : 1 ≤ n) (h2 : n ≤ 4096) (hi : i < n) : merkle_Verify root (n : Int) (i : Int) leaf p = some (verO n i leaf p == some root) := by
  unfold merkle_Verify
  rw [cnd_dec, if_neg (by omega), cnd_dec, if_neg (by omega), cnd_dec, if_neg (by omega), cnd_dec, if_neg (by omega)]
  exact verify_loop root n i leaf p h1 h2 hi
end Go.Proofs.Ytfihfbkjomploaa.X
