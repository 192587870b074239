/- The plain law of the ranges of fields. No condition. -/
import Derived.Test.YthcbepikeinglaaDoorPuKindK
namespace Go.Proofs.YthcbepikeinglaaDoor.K
open Go Go.RowKit Go.Proofs.YthcbepikeinglaaDoor.Sx
set_option linter.unusedVariables false
theorem two_eq : tourlaw3_two = some [(api_Kind.mk (⟨#[112, 108, 97, 99, 101]⟩) [(api_Field.mk (⟨#[120]⟩) 3 (-2))]), (api_Kind.mk (⟨#[108, 105, 102, 101]⟩) [(api_Field.mk (⟨#[120]⟩) 8 0)])] := rfl
theorem KindRanges_true (f_0 : ByteArray) (f_1 : Int) (f_2 : Int) (v : Int) (h0 : ok_api_Field (api_Field.mk f_0 f_1 f_2)) (h1 : (okk .i64) v) : tourlaw3_KindRanges f_0 f_1 f_2 v = some true := by
  obtain ⟨hs, hb, hl⟩ := h0
  unfold tourlaw3_KindRanges
  rw [two_eq]
  simp only [Option.bind_some]
  rw [show idx [(api_Kind.mk (⟨#[112, 108, 97, 99, 101]⟩) [(api_Field.mk (⟨#[120]⟩) 3 (-2))]), (api_Kind.mk (⟨#[108, 105, 102, 101]⟩) [(api_Field.mk (⟨#[120]⟩) 8 0)])] 0 = some (api_Kind.mk (⟨#[112, 108, 97, 99, 101]⟩) [(api_Field.mk (⟨#[120]⟩) 3 (-2))]) from rfl]
  simp only [Option.bind_some]
  rw [show idx [(api_Field.mk (⟨#[120]⟩) 3 (-2))] 0 = some (api_Field.mk (⟨#[120]⟩) 3 (-2)) from rfl]
  simp only [Option.bind_some]
  rw [khigh, show fieldB (⟨#[120]⟩ : ByteArray) 3 (-2) = true by decide +kernel, show topV 3 (-2) = 5 by decide]
  simp only [Option.bind_some, if_true]
  have fin : tourlaw3_KindRanges_j1 f_0 f_1 f_2 v (if fieldB f_0 f_1 f_2 then topV f_1 f_2 else 0) = some true := by
    unfold tourlaw3_KindRanges_j1 tourlaw3_KindRanges_j2
    rw [khigh, knear, rnear hs]
    simp [cnd]
  rw [rfield hs]
  simp only [Option.bind_some]
  cases h : fieldB f_0 f_1 f_2 with
  | false => rw [h] at fin; simpa [cnd] using fin
  | true =>
    rw [h] at fin
    rw [rtop f_0 (fieldB_b h)]
    simpa [cnd] using fin
end Go.Proofs.YthcbepikeinglaaDoor.K
