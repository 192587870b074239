/- Types as plain structures, and how their values lie in cells. No condition. -/
import Derived.Test.YthcbepikeinglaaDoorExMem
namespace Go.Proofs.YthcbepikeinglaaDoor.L
open Go Go.RowKit Go.Proofs.YthcbepikeinglaaDoor.Sx
set_option linter.unusedVariables false
structure api_Field where
  Name : ByteArray
  Bits : Int
  Low : Int
  deriving DecidableEq
def R_api_Field : Rep api_Field := Rep.iso (fun x => (x.Name, x.Bits, x.Low)) (Rep.prod Rep.str (Rep.prod (Rep.int .i64) (Rep.int .i64)))
theorem dec_api_Field {F : Nat → Prop} {w : World} {x : api_Field} {vs : List Value} (h : R_api_Field.rd F w x vs) : vs = [.string x.Name, vI x.Bits, vI x.Low] := by
  obtain ⟨a, b, e, p, q⟩ := h
  have E0 := p
  obtain ⟨a1, b1, e1, p1, q1⟩ := q
  have E10 := p1
  have E11 := q1
  rw [e, e1, E0, E10, E11]; rfl
theorem enc_api_Field {F : Nat → Prop} {w : World} {x0 : ByteArray} {x1 : Int} {x2 : Int}   : R_api_Field.rd F w (api_Field.mk x0 x1 x2) [.string x0, vI x1, vI x2] := by
  exact ⟨[.string x0], ([vI x1] ++ [vI x2]), rfl, rfl, ⟨[vI x1], [vI x2], rfl, rfl, rfl⟩⟩
theorem flat_api_Field {F F' : Nat → Prop} {w w' : World} {x : api_Field} {vs : List Value} (h : R_api_Field.rd F w x vs) : R_api_Field.rd F' w' x vs := by
  have e := dec_api_Field h; subst e; exact enc_api_Field
structure api_Kind where
  Name : ByteArray
  Fields : List api_Field
  deriving DecidableEq
def R_api_Kind : Rep api_Kind := Rep.iso (fun x => (x.Name, x.Fields)) (Rep.prod Rep.str (Rep.sl R_api_Field))
theorem dec_api_Kind {F : Nat → Prop} {w : World} {x : api_Kind} {vs : List Value} (h : R_api_Kind.rd F w x vs) : ∃ A1 c1, vs = [.string x.Name, .slice A1 x.Fields.length c1] ∧ RdS R_api_Field F w A1 c1 x.Fields := by
  obtain ⟨a, b, e, p, q⟩ := h
  have E0 := p
  obtain ⟨X1, Y1, E1, Z1⟩ := q
  refine ⟨X1, Y1, ?_, Z1⟩
  rw [e, E0, E1]; rfl
theorem enc_api_Kind {F : Nat → Prop} {w : World} {x0 : ByteArray} {x1 : List api_Field} {A1 : Option Addr} {c1 : Nat} (h1 : RdS R_api_Field F w A1 c1 x1) : R_api_Kind.rd F w (api_Kind.mk x0 x1) [.string x0, .slice A1 x1.length c1] := by
  exact ⟨[.string x0], [.slice A1 x1.length c1], rfl, rfl, ⟨_, _, rfl, h1⟩⟩
def ok_api_Field (x : api_Field) : Prop := oks x.Name ∧ (okk .i64) x.Bits ∧ (okk .i64) x.Low
def ok_api_Kind (x : api_Kind) : Prop := oks x.Name ∧ (okl 32 ok_api_Field) x.Fields
def bk_api_Field (x : api_Field) : Nat := bks x.Name + bk1 x.Bits + bk1 x.Low + 1
def bk_api_Kind (x : api_Kind) : Nat := bks x.Name + (bkl bk_api_Field) x.Fields + 1
end Go.Proofs.YthcbepikeinglaaDoor.L
