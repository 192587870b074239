/- Types as plain structures, and how their values lie in cells. No condition. -/
import Derived.Test.YthcniadbdjoecaaExMem
namespace Go.Proofs.Ythcniadbdjoecaa.R
open Go Go.RowKit Go.Proofs.Ythcniadbdjoecaa.Sx
set_option linter.unusedVariables false
structure api_Ent where
  N : Int
  Gen : Int
  deriving DecidableEq
def R_api_Ent : Rep api_Ent := Rep.iso (fun x => (x.N, x.Gen)) (Rep.prod (Rep.int .i64) (Rep.int .i64))
theorem dec_api_Ent {F : Nat → Prop} {w : World} {x : api_Ent} {vs : List Value} (h : R_api_Ent.rd F w x vs) : vs = [vI x.N, vI x.Gen] := by
  obtain ⟨a, b, e, p, q⟩ := h
  have E0 := p
  have E1 := q
  rw [e, E0, E1]; rfl
theorem enc_api_Ent {F : Nat → Prop} {w : World} {x0 : Int} {x1 : Int}   : R_api_Ent.rd F w (api_Ent.mk x0 x1) [vI x0, vI x1] := by
  exact ⟨[vI x0], [vI x1], rfl, rfl, rfl⟩
theorem flat_api_Ent {F F' : Nat → Prop} {w w' : World} {x : api_Ent} {vs : List Value} (h : R_api_Ent.rd F w x vs) : R_api_Ent.rd F' w' x vs := by
  have e := dec_api_Ent h; subst e; exact enc_api_Ent
def ok_api_Ent (x : api_Ent) : Prop := (okk .i64) x.N ∧ (okk .i64) x.Gen
def bk_api_Ent (x : api_Ent) : Nat := bk1 x.N + bk1 x.Gen + 1
end Go.Proofs.Ythcniadbdjoecaa.R
