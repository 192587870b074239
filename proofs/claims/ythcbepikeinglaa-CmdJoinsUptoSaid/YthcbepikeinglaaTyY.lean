/- Types as plain structures, and how their values lie in cells. No condition. -/
import Derived.Test.YthcbepikeinglaaExMem
namespace Go.Proofs.Ythcbepikeinglaa.Y
open Go Go.RowKit Go.Proofs.Ythcbepikeinglaa.Sx
set_option linter.unusedVariables false
structure api_Ent where
  N : Int
  Gen : Int
  deriving DecidableEq
def R_api_Ent : Rep api_Ent := Rep.iso (fun x => (x.N, x.Gen)) (Rep.prod (Rep.int .i64) (Rep.int .i64))
theorem dec_api_Ent {F : Nat → Prop} {w : World} {x : api_Ent} {vs : List Value} (h : R_api_Ent.rd F w x vs) : vs = [vI x.N, vI x.Gen] := by
  obtain ⟨a, b, e, p, q⟩ := h
  have E0 := p
  have E1 := q
  rw [e, E0, E1]; rfl
theorem enc_api_Ent {F : Nat → Prop} {w : World} {x0 : Int} {x1 : Int}   : R_api_Ent.rd F w (api_Ent.mk x0 x1) [vI x0, vI x1] := by
  exact ⟨[vI x0], [vI x1], rfl, rfl, rfl⟩
theorem flat_api_Ent {F F' : Nat → Prop} {w w' : World} {x : api_Ent} {vs : List Value} (h : R_api_Ent.rd F w x vs) : R_api_Ent.rd F' w' x vs := by
  have e := dec_api_Ent h; subst e; exact enc_api_Ent
structure api_Comp where
  Kind : Int
  Vals : List Int
  deriving DecidableEq
def R_api_Comp : Rep api_Comp := Rep.iso (fun x => (x.Kind, x.Vals)) (Rep.prod (Rep.int .i64) (Rep.sl (Rep.int .i64)))
theorem dec_api_Comp {F : Nat → Prop} {w : World} {x : api_Comp} {vs : List Value} (h : R_api_Comp.rd F w x vs) : ∃ A1 c1, vs = [vI x.Kind, .slice A1 x.Vals.length c1] ∧ RdS (Rep.int .i64) F w A1 c1 x.Vals := by
  obtain ⟨a, b, e, p, q⟩ := h
  have E0 := p
  obtain ⟨X1, Y1, E1, Z1⟩ := q
  refine ⟨X1, Y1, ?_, Z1⟩
  rw [e, E0, E1]; rfl
theorem enc_api_Comp {F : Nat → Prop} {w : World} {x0 : Int} {x1 : List Int} {A1 : Option Addr} {c1 : Nat} (h1 : RdS (Rep.int .i64) F w A1 c1 x1) : R_api_Comp.rd F w (api_Comp.mk x0 x1) [vI x0, .slice A1 x1.length c1] := by
  exact ⟨[vI x0], [.slice A1 x1.length c1], rfl, rfl, ⟨_, _, rfl, h1⟩⟩
structure api_Cmd where
  Do : Int
  Ent : api_Ent
  Kind : Int
  Comps : List api_Comp
  deriving DecidableEq
def R_api_Cmd : Rep api_Cmd := Rep.iso (fun x => (x.Do, x.Ent, x.Kind, x.Comps)) (Rep.prod (Rep.int .i64) (Rep.prod R_api_Ent (Rep.prod (Rep.int .i64) (Rep.sl R_api_Comp))))
theorem dec_api_Cmd {F : Nat → Prop} {w : World} {x : api_Cmd} {vs : List Value} (h : R_api_Cmd.rd F w x vs) : ∃ A4 c4, vs = [vI x.Do, vI x.Ent.N, vI x.Ent.Gen, vI x.Kind, .slice A4 x.Comps.length c4] ∧ RdS R_api_Comp F w A4 c4 x.Comps := by
  obtain ⟨a, b, e, p, q⟩ := h
  have E0 := p
  obtain ⟨a1, b1, e1, p1, q1⟩ := q
  have E10 := dec_api_Ent p1
  obtain ⟨a11, b11, e11, p11, q11⟩ := q1
  have E110 := p11
  obtain ⟨X111, Y111, E111, Z111⟩ := q11
  refine ⟨X111, Y111, ?_, Z111⟩
  rw [e, e1, e11, E0, E10, E110, E111]; rfl
theorem enc_api_Cmd {F : Nat → Prop} {w : World} {x0 : Int} {x1 : api_Ent} {x2 : Int} {x3 : List api_Comp} {A4 : Option Addr} {c4 : Nat} (h4 : RdS R_api_Comp F w A4 c4 x3) : R_api_Cmd.rd F w (api_Cmd.mk x0 x1 x2 x3) [vI x0, vI x1.N, vI x1.Gen, vI x2, .slice A4 x3.length c4] := by
  exact ⟨[vI x0], ([vI x1.N, vI x1.Gen] ++ [vI x2] ++ [.slice A4 x3.length c4]), rfl, rfl, ⟨[vI x1.N, vI x1.Gen], ([vI x2] ++ [.slice A4 x3.length c4]), rfl, enc_api_Ent , ⟨[vI x2], [.slice A4 x3.length c4], rfl, rfl, ⟨_, _, rfl, h4⟩⟩⟩⟩
def ok_api_Ent (x : api_Ent) : Prop := (okk .i64) x.N ∧ (okk .i64) x.Gen
def ok_api_Comp (x : api_Comp) : Prop := (okk .i64) x.Kind ∧ (okl 8 (okk .i64)) x.Vals
def ok_api_Cmd (x : api_Cmd) : Prop := (okk .i64) x.Do ∧ ok_api_Ent x.Ent ∧ (okk .i64) x.Kind ∧ (okl 32 ok_api_Comp) x.Comps
def bk_api_Ent (x : api_Ent) : Nat := bk1 x.N + bk1 x.Gen + 1
def bk_api_Comp (x : api_Comp) : Nat := bk1 x.Kind + (bkl bk1) x.Vals + 1
def bk_api_Cmd (x : api_Cmd) : Nat := bk1 x.Do + bk_api_Ent x.Ent + bk1 x.Kind + (bkl bk_api_Comp) x.Comps + 1
end Go.Proofs.Ythcbepikeinglaa.Y
