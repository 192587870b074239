/- Keys of maps. No condition. -/
import Derived.Test.YthcniadbdjoecaaProg
import Derived.Test.YthcniadbdjoecaaExKey
import Derived.Test.YthcniadbdjoecaaTyE
import Derived.Test.YthcniadbdjoecaaEqE
namespace Go.Proofs.Ythcniadbdjoecaa.E
open Go Go.RowKit Go.Proofs.Ythcniadbdjoecaa.Sx
set_option linter.unusedVariables false
theorem keyLaw_94 : KeyLaw Try.prog 94 key_94 := by
  refine KeyLaw.wide (by rw [Try.underlying94]) (fun b k w => ?_) (fun a b w => ?_) (fun k => ?_)
  · exact (chk_struct Try.underlying94 (chk_any (x := vI k.System) (by go_simp) (chk_int0 (k := .i64) Try.underlying3) (chk_any (x := .agg #[vI k.Ent.N, vI k.Ent.Gen]) (by go_simp) (chk_struct Try.underlying35 (chk_any (x := vI k.Ent.N) (by go_simp) (chk_int0 (k := .i64) Try.underlying3) (chk_any (x := vI k.Ent.Gen) (by go_simp) (chk_int0 (k := .i64) Try.underlying3) chk_no))) (chk_any (x := vI k.Value) (by go_simp) (chk_int0 (k := .i64) Try.underlying3) chk_no))))
  · refine (eqA94 9997 w (a.System) (b.System) (a.Ent.N) (b.Ent.N) (a.Ent.Gen) (b.Ent.Gen) (a.Value) (b.Value)).trans ?_
    congr 1
    rw [Bool.eq_iff_iff]
    simp only [Bool.and_eq_true, beq_iff_eq, decide_eq_true_eq]
    constructor
    · intro h
      obtain ⟨h0, h1, h2, h3⟩ := h
      obtain ⟨p0, ⟨p1, p2⟩, p3⟩ := a; obtain ⟨q0, ⟨q1, q2⟩, q3⟩ := b; simp only at h0 h1 h2 h3; subst h0 h1 h2 h3; rfl
    · rintro rfl; exact ⟨rfl, rfl, rfl, rfl⟩
  · simp [Instr.sameBits]
end Go.Proofs.Ythcniadbdjoecaa.E
