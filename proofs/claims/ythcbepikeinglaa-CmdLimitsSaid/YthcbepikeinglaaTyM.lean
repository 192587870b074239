/- Types as plain structures, and how their values lie in cells. No condition. -/
import Derived.Test.YthcbepikeinglaaExMem
namespace Go.Proofs.Ythcbepikeinglaa.M
open Go Go.RowKit Go.Proofs.Ythcbepikeinglaa.Sx
set_option linter.unusedVariables false
structure api_Ent where
  N : Int
  Gen : Int
  deriving DecidableEq
def R_api_Ent : Rep api_Ent := Rep.iso (fun x => (x.N, x.Gen)) (Rep.prod (Rep.int .i64) (Rep.int .i64))
theorem dec_api_Ent {F : Nat → Prop} {w : World} {x : api_Ent} {vs : List Value} (h : R_api_Ent.rd F w x vs) : vs = [vI x.N, vI x.Gen] := by
  obtain ⟨a, b, e, p, q⟩ := h
  have E0 := p
  have E1 := q
  rw [e, E0, E1]; rfl
theorem enc_api_Ent {F : Nat → Prop} {w : World} {x0 : Int} {x1 : Int}   : R_api_Ent.rd F w (api_Ent.mk x0 x1) [vI x0, vI x1] := by
  exact ⟨[vI x0], [vI x1], rfl, rfl, rfl⟩
theorem flat_api_Ent {F F' : Nat → Prop} {w w' : World} {x : api_Ent} {vs : List Value} (h : R_api_Ent.rd F w x vs) : R_api_Ent.rd F' w' x vs := by
  have e := dec_api_Ent h; subst e; exact enc_api_Ent
structure api_Comp where
  Kind : Int
  Vals : List Int
  deriving DecidableEq
def R_api_Comp : Rep api_Comp := Rep.iso (fun x => (x.Kind, x.Vals)) (Rep.prod (Rep.int .i64) (Rep.sl (Rep.int .i64)))
theorem dec_api_Comp {F : Nat → Prop} {w : World} {x : api_Comp} {vs : List Value} (h : R_api_Comp.rd F w x vs) : ∃ A1 c1, vs = [vI x.Kind, .slice A1 x.Vals.length c1] ∧ RdS (Rep.int .i64) F w A1 c1 x.Vals := by
  obtain ⟨a, b, e, p, q⟩ := h
  have E0 := p
  obtain ⟨X1, Y1, E1, Z1⟩ := q
  refine ⟨X1, Y1, ?_, Z1⟩
  rw [e, E0, E1]; rfl
theorem enc_api_Comp {F : Nat → Prop} {w : World} {x0 : Int} {x1 : List Int} {A1 : Option Addr} {c1 : Nat} (h1 : RdS (Rep.int .i64) F w A1 c1 x1) : R_api_Comp.rd F w (api_Comp.mk x0 x1) [vI x0, .slice A1 x1.length c1] := by
  exact ⟨[vI x0], [.slice A1 x1.length c1], rfl, rfl, ⟨_, _, rfl, h1⟩⟩
structure api_Cmd where
  Do : Int
  Ent : api_Ent
  Kind : Int
  Comps : List api_Comp
  deriving DecidableEq
def R_api_Cmd : Rep api_Cmd := Rep.iso (fun x => (x.Do, x.Ent, x.Kind, x.Comps)) (Rep.prod (Rep.int .i64) (Rep.prod R_api_Ent (Rep.prod (Rep.int .i64) (Rep.sl R_api_Comp))))
theorem dec_api_Cmd {F : Nat → Prop} {w : World} {x : api_Cmd} {vs : List Value} (h : R_api_Cmd.rd F w x vs) : ∃ A4 c4, vs = [vI x.Do, vI x.Ent.N, vI x.Ent.Gen, vI x.Kind, .slice A4 x.Comps.length c4] ∧ RdS R_api_Comp F w A4 c4 x.Comps := by
  obtain ⟨a, b, e, p, q⟩ := h
  have E0 := p
  obtain ⟨a1, b1, e1, p1, q1⟩ := q
  have E10 := dec_api_Ent p1
  obtain ⟨a11, b11, e11, p11, q11⟩ := q1
  have E110 := p11
  obtain ⟨X111, Y111, E111, Z111⟩ := q11
  refine ⟨X111, Y111, ?_, Z111⟩
  rw [e, e1, e11, E0, E10, E110, E111]; rfl
theorem enc_api_Cmd {F : Nat → Prop} {w : World} {x0 : Int} {x1 : api_Ent} {x2 : Int} {x3 : List api_Comp} {A4 : Option Addr} {c4 : Nat} (h4 : RdS R_api_Comp F w A4 c4 x3) : R_api_Cmd.rd F w (api_Cmd.mk x0 x1 x2 x3) [vI x0, vI x1.N, vI x1.Gen, vI x2, .slice A4 x3.length c4] := by
  exact ⟨[vI x0], ([vI x1.N, vI x1.Gen] ++ [vI x2] ++ [.slice A4 x3.length c4]), rfl, rfl, ⟨[vI x1.N, vI x1.Gen], ([vI x2] ++ [.slice A4 x3.length c4]), rfl, enc_api_Ent , ⟨[vI x2], [.slice A4 x3.length c4], rfl, rfl, ⟨_, _, rfl, h4⟩⟩⟩⟩
structure api_Field where
  Name : ByteArray
  Bits : Int
  Low : Int
  deriving DecidableEq
def R_api_Field : Rep api_Field := Rep.iso (fun x => (x.Name, x.Bits, x.Low)) (Rep.prod Rep.str (Rep.prod (Rep.int .i64) (Rep.int .i64)))
theorem dec_api_Field {F : Nat → Prop} {w : World} {x : api_Field} {vs : List Value} (h : R_api_Field.rd F w x vs) : vs = [.string x.Name, vI x.Bits, vI x.Low] := by
  obtain ⟨a, b, e, p, q⟩ := h
  have E0 := p
  obtain ⟨a1, b1, e1, p1, q1⟩ := q
  have E10 := p1
  have E11 := q1
  rw [e, e1, E0, E10, E11]; rfl
theorem enc_api_Field {F : Nat → Prop} {w : World} {x0 : ByteArray} {x1 : Int} {x2 : Int}   : R_api_Field.rd F w (api_Field.mk x0 x1 x2) [.string x0, vI x1, vI x2] := by
  exact ⟨[.string x0], ([vI x1] ++ [vI x2]), rfl, rfl, ⟨[vI x1], [vI x2], rfl, rfl, rfl⟩⟩
theorem flat_api_Field {F F' : Nat → Prop} {w w' : World} {x : api_Field} {vs : List Value} (h : R_api_Field.rd F w x vs) : R_api_Field.rd F' w' x vs := by
  have e := dec_api_Field h; subst e; exact enc_api_Field
structure api_Kind where
  Name : ByteArray
  Fields : List api_Field
  deriving DecidableEq
def R_api_Kind : Rep api_Kind := Rep.iso (fun x => (x.Name, x.Fields)) (Rep.prod Rep.str (Rep.sl R_api_Field))
theorem dec_api_Kind {F : Nat → Prop} {w : World} {x : api_Kind} {vs : List Value} (h : R_api_Kind.rd F w x vs) : ∃ A1 c1, vs = [.string x.Name, .slice A1 x.Fields.length c1] ∧ RdS R_api_Field F w A1 c1 x.Fields := by
  obtain ⟨a, b, e, p, q⟩ := h
  have E0 := p
  obtain ⟨X1, Y1, E1, Z1⟩ := q
  refine ⟨X1, Y1, ?_, Z1⟩
  rw [e, E0, E1]; rfl
theorem enc_api_Kind {F : Nat → Prop} {w : World} {x0 : ByteArray} {x1 : List api_Field} {A1 : Option Addr} {c1 : Nat} (h1 : RdS R_api_Field F w A1 c1 x1) : R_api_Kind.rd F w (api_Kind.mk x0 x1) [.string x0, .slice A1 x1.length c1] := by
  exact ⟨[.string x0], [.slice A1 x1.length c1], rfl, rfl, ⟨_, _, rfl, h1⟩⟩
structure api_Item where
  Ent : api_Ent
  Comps : List api_Comp
  deriving DecidableEq
def R_api_Item : Rep api_Item := Rep.iso (fun x => (x.Ent, x.Comps)) (Rep.prod R_api_Ent (Rep.sl R_api_Comp))
theorem dec_api_Item {F : Nat → Prop} {w : World} {x : api_Item} {vs : List Value} (h : R_api_Item.rd F w x vs) : ∃ A2 c2, vs = [vI x.Ent.N, vI x.Ent.Gen, .slice A2 x.Comps.length c2] ∧ RdS R_api_Comp F w A2 c2 x.Comps := by
  obtain ⟨a, b, e, p, q⟩ := h
  have E0 := dec_api_Ent p
  obtain ⟨X1, Y1, E1, Z1⟩ := q
  refine ⟨X1, Y1, ?_, Z1⟩
  rw [e, E0, E1]; rfl
theorem enc_api_Item {F : Nat → Prop} {w : World} {x0 : api_Ent} {x1 : List api_Comp} {A2 : Option Addr} {c2 : Nat} (h2 : RdS R_api_Comp F w A2 c2 x1) : R_api_Item.rd F w (api_Item.mk x0 x1) [vI x0.N, vI x0.Gen, .slice A2 x1.length c2] := by
  exact ⟨[vI x0.N, vI x0.Gen], [.slice A2 x1.length c2], rfl, enc_api_Ent , ⟨_, _, rfl, h2⟩⟩
end Go.Proofs.Ythcbepikeinglaa.M
