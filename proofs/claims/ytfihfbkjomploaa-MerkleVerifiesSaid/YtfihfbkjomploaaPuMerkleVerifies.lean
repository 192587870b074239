/- The law MerkleVerifies over the plain functions. No condition. -/
import Derived.Test.YtfihfbkjomploaaPuMerkleNarrows
import Derived.Test.YtfihfbkjomploaaPuVerify
namespace Go.Proofs.Ytfihfbkjomploaa.X
open Go Go.RowKit Go.Proofs.Ytfihfbkjomploaa.Sx Go.Proofs.Ytfihfbkjomploaa.Rnd Go.Proofs.Ytfihfbkjomploaa.Sum
set_option linter.unusedVariables false
set_option linter.unusedSimpArgs false
theorem MerkleVerifies_true (root : Int) (n : Int) (i : Int) (leaf : Int) (proof : List Int) (h0 : (okk .u64) root) (h1 : (okk .i64) n) (h2 : (okk .i64) i) (h3 : (okk .u64) leaf) (h4 : (okl 8 (okk .u64)) proof) : tourlaw1_MerkleVerifies root n i leaf proof = some true := by
  unfold tourlaw1_MerkleVerifies
  rw [begun_eq]
  simp only [Option.bind_some, cnd_not, cnd_true]
  have bad : n < 1 ∨ 4096 < n ∨ i < 0 ∨ n ≤ i → merkle_Verify root n i leaf proof = some false := fun h => by
    unfold merkle_Verify
    simp only [cnd_dec]
    by_cases a : n < 1
    · rw [if_pos a]
    · by_cases b : 4096 < n
      · rw [if_neg a, if_pos b]
      · by_cases c : i < 0
        · rw [if_neg a, if_neg b, if_pos c]
        · rw [if_neg a, if_neg b, if_neg c, if_pos (by omega)]
  simp only [cnd_dec]
  by_cases a : n < 1
  · rw [bad (.inl a)]; simp only [Option.bind_some]; rw [if_pos a]; rfl
  · by_cases b : 4096 < n
    · rw [bad (.inr (.inl b))]; simp only [Option.bind_some]; rw [if_neg a, if_pos b]; rfl
    · by_cases c : i < 0
      · rw [bad (.inr (.inr (.inl c)))]; simp only [Option.bind_some]; rw [if_neg a, if_neg b, if_pos c]; rfl
      · by_cases d : n ≤ i
        · rw [bad (.inr (.inr (.inr d)))]; simp only [Option.bind_some]; rw [if_neg a, if_neg b, if_neg c, if_pos d]; rfl
        · obtain ⟨m, rfl⟩ := Int.eq_ofNat_of_zero_le (show 0 ≤ n by omega)
          obtain ⟨j, rfl⟩ := Int.eq_ofNat_of_zero_le (show 0 ≤ i by omega)
          have hp := h4.1
          obtain ⟨x, ok, hv, hO⟩ := verified_ok m j leaf proof (by omega) (by omega) (by omega) hp
          have hV : ∀ r : Int, merkle_Verify r ((m : Nat) : Int) ((j : Nat) : Int) leaf proof = some (verO m j leaf proof == some r) := fun r => verify_ok r m j leaf proof (by omega) (by omega) (by omega)
          rw [hV]
          simp only [Option.bind_some]
          rw [if_neg a, if_neg b, if_neg c, if_neg d, hv, bnd2_some, hV, hO]
          cases ok with
          | true =>
            have e1 : ((if true = true then some x else none : Option Int) == some root) = (x == root) := rfl
            have e2 : ((if true = true then some x else none : Option Int) == some x) = true := by simp
            rw [e1, e2]
            simp only [cnd_true, Option.bind_some, beq_self_eq_true, tourlaw1_MerkleVerifies_j1]
          | false =>
            have e1 : ∀ z : Int, ((if false = true then some x else none : Option Int) == some z) = false := fun z => rfl
            rw [e1, e1]
            simp only [cnd_false, Option.bind_some, beq_self_eq_true, tourlaw1_MerkleVerifies_j1, cnd_true]
end Go.Proofs.Ytfihfbkjomploaa.X
