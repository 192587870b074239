/- BorderTells, in plain Lean. No condition. -/
import Derived.Test.YtchadeflopbchaaPuBorderB
namespace Go.Proofs.Ytchadeflopbchaa.B
open Go Go.RowKit Go.Proofs.Ytchadeflopbchaa.Sx
set_option linter.unusedVariables false
set_option linter.unusedSimpArgs false
theorem BorderTells_true (b : Int) (a : Int) (h0 : (okk .u64) b) (h1 : (okk .i64) a) : tourlaw1_BorderTells b a = some true := by
  unfold tourlaw1_BorderTells
  rw [from_eq (b := 4609434218613702656) ⟨by decide, by decide⟩, show (4609434218613702656 : Int).toNat = 4609434218613702656 from rfl, half3, bnd2_some, cnd_not, cnd_pos (by rfl), cnd_not, cnd_pos (by rfl), from_eq h0, ref_eq h0]
  generalize fromV b.toNat = v
  obtain ⟨v1, v2⟩ := v
  rw [bnd2_some, bnd2_some, cnd_not, cnd_pos (by simp), cnd_not, cnd_pos (by simp)]
  unfold tourref1_Limit
  simp only [cnd_dec]
  by_cases h2 : 1099511627776 < a
  · rw [if_pos h2]
    unfold border_To fix_Clamp
    rw [Option.bind_some, cnd_not, cnd_neg (by simp; omega), bnd2_some, Option.bind_some, cnd_not, cnd_neg (by simp; omega)]
    rfl
  · rw [if_neg h2]
    by_cases h3 : a < -1099511627776
    · rw [if_pos h3]
      unfold border_To fix_Clamp
      rw [Option.bind_some, cnd_not, cnd_neg (by simp; omega), bnd2_some, Option.bind_some, cnd_not, cnd_neg (by simp; omega)]
      rfl
    · rw [if_neg h3]
      obtain ⟨x, e1, e2⟩ := to_eq (a := a) (by omega) (by omega)
      rw [e1, bnd2_some, Option.bind_some, cnd_not, cnd_pos (by simp), cnd_pos (by rfl), e2, Option.bind_some]
      unfold tourlaw1_BorderTells_j2
      simp
end Go.Proofs.Ytchadeflopbchaa.B
