/- Types as plain structures, and how their values lie in cells. No condition. -/
import Derived.Test.YtnnhijlgohlaeaaDoorExMem
namespace Go.Proofs.YtnnhijlgohlaeaaDoor.D
open Go Go.RowKit Go.Proofs.YtnnhijlgohlaeaaDoor.Sx
set_option linter.unusedVariables false
structure api_Field where
  Name : ByteArray
  Bits : Int
  Low : Int
  deriving DecidableEq
def R_api_Field : Rep api_Field := Rep.iso (fun x => (x.Name, x.Bits, x.Low)) (Rep.prod Rep.str (Rep.prod (Rep.int .i64) (Rep.int .i64)))
theorem dec_api_Field {F : Nat → Prop} {w : World} {x : api_Field} {vs : List Value} (h : R_api_Field.rd F w x vs) : vs = [.string x.Name, vI x.Bits, vI x.Low] := by
  obtain ⟨a, b, e, p, q⟩ := h
  have E0 := p
  obtain ⟨a1, b1, e1, p1, q1⟩ := q
  have E10 := p1
  have E11 := q1
  rw [e, e1, E0, E10, E11]; rfl
theorem enc_api_Field {F : Nat → Prop} {w : World} {x0 : ByteArray} {x1 : Int} {x2 : Int}   : R_api_Field.rd F w (api_Field.mk x0 x1 x2) [.string x0, vI x1, vI x2] := by
  exact ⟨[.string x0], ([vI x1] ++ [vI x2]), rfl, rfl, ⟨[vI x1], [vI x2], rfl, rfl, rfl⟩⟩
theorem flat_api_Field {F F' : Nat → Prop} {w w' : World} {x : api_Field} {vs : List Value} (h : R_api_Field.rd F w x vs) : R_api_Field.rd F' w' x vs := by
  have e := dec_api_Field h; subst e; exact enc_api_Field
structure api_Kind where
  Name : ByteArray
  Fields : List api_Field
  deriving DecidableEq
def R_api_Kind : Rep api_Kind := Rep.iso (fun x => (x.Name, x.Fields)) (Rep.prod Rep.str (Rep.sl R_api_Field))
theorem dec_api_Kind {F : Nat → Prop} {w : World} {x : api_Kind} {vs : List Value} (h : R_api_Kind.rd F w x vs) : ∃ A1 c1, vs = [.string x.Name, .slice A1 x.Fields.length c1] ∧ RdS R_api_Field F w A1 c1 x.Fields := by
  obtain ⟨a, b, e, p, q⟩ := h
  have E0 := p
  obtain ⟨X1, Y1, E1, Z1⟩ := q
  refine ⟨X1, Y1, ?_, Z1⟩
  rw [e, E0, E1]; rfl
theorem enc_api_Kind {F : Nat → Prop} {w : World} {x0 : ByteArray} {x1 : List api_Field} {A1 : Option Addr} {c1 : Nat} (h1 : RdS R_api_Field F w A1 c1 x1) : R_api_Kind.rd F w (api_Kind.mk x0 x1) [.string x0, .slice A1 x1.length c1] := by
  exact ⟨[.string x0], [.slice A1 x1.length c1], rfl, rfl, ⟨_, _, rfl, h1⟩⟩
structure api_Ref where
  Kind : Int
  Field : Int
  deriving DecidableEq
def R_api_Ref : Rep api_Ref := Rep.iso (fun x => (x.Kind, x.Field)) (Rep.prod (Rep.int .i64) (Rep.int .i64))
theorem dec_api_Ref {F : Nat → Prop} {w : World} {x : api_Ref} {vs : List Value} (h : R_api_Ref.rd F w x vs) : vs = [vI x.Kind, vI x.Field] := by
  obtain ⟨a, b, e, p, q⟩ := h
  have E0 := p
  have E1 := q
  rw [e, E0, E1]; rfl
theorem enc_api_Ref {F : Nat → Prop} {w : World} {x0 : Int} {x1 : Int}   : R_api_Ref.rd F w (api_Ref.mk x0 x1) [vI x0, vI x1] := by
  exact ⟨[vI x0], [vI x1], rfl, rfl, rfl⟩
theorem flat_api_Ref {F F' : Nat → Prop} {w w' : World} {x : api_Ref} {vs : List Value} (h : R_api_Ref.rd F w x vs) : R_api_Ref.rd F' w' x vs := by
  have e := dec_api_Ref h; subst e; exact enc_api_Ref
structure api_Arg where
  Has : Bool
  N : Int
  Ref : api_Ref
  deriving DecidableEq
def R_api_Arg : Rep api_Arg := Rep.iso (fun x => (x.Has, x.N, x.Ref)) (Rep.prod Rep.bool (Rep.prod (Rep.int .i64) R_api_Ref))
theorem dec_api_Arg {F : Nat → Prop} {w : World} {x : api_Arg} {vs : List Value} (h : R_api_Arg.rd F w x vs) : vs = [.bool x.Has, vI x.N, vI x.Ref.Kind, vI x.Ref.Field] := by
  obtain ⟨a, b, e, p, q⟩ := h
  have E0 := p
  obtain ⟨a1, b1, e1, p1, q1⟩ := q
  have E10 := p1
  have E11 := dec_api_Ref q1
  rw [e, e1, E0, E10, E11]; rfl
theorem enc_api_Arg {F : Nat → Prop} {w : World} {x0 : Bool} {x1 : Int} {x2 : api_Ref}   : R_api_Arg.rd F w (api_Arg.mk x0 x1 x2) [.bool x0, vI x1, vI x2.Kind, vI x2.Field] := by
  exact ⟨[.bool x0], ([vI x1] ++ [vI x2.Kind, vI x2.Field]), rfl, rfl, ⟨[vI x1], [vI x2.Kind, vI x2.Field], rfl, rfl, enc_api_Ref ⟩⟩
theorem flat_api_Arg {F F' : Nat → Prop} {w w' : World} {x : api_Arg} {vs : List Value} (h : R_api_Arg.rd F w x vs) : R_api_Arg.rd F' w' x vs := by
  have e := dec_api_Arg h; subst e; exact enc_api_Arg
structure api_Op where
  Do : Int
  To : api_Ref
  A : api_Arg
  B : api_Arg
  deriving DecidableEq
def R_api_Op : Rep api_Op := Rep.iso (fun x => (x.Do, x.To, x.A, x.B)) (Rep.prod (Rep.int .i64) (Rep.prod R_api_Ref (Rep.prod R_api_Arg R_api_Arg)))
theorem dec_api_Op {F : Nat → Prop} {w : World} {x : api_Op} {vs : List Value} (h : R_api_Op.rd F w x vs) : vs = [vI x.Do, vI x.To.Kind, vI x.To.Field, .bool x.A.Has, vI x.A.N, vI x.A.Ref.Kind, vI x.A.Ref.Field, .bool x.B.Has, vI x.B.N, vI x.B.Ref.Kind, vI x.B.Ref.Field] := by
  obtain ⟨a, b, e, p, q⟩ := h
  have E0 := p
  obtain ⟨a1, b1, e1, p1, q1⟩ := q
  have E10 := dec_api_Ref p1
  obtain ⟨a11, b11, e11, p11, q11⟩ := q1
  have E110 := dec_api_Arg p11
  have E111 := dec_api_Arg q11
  rw [e, e1, e11, E0, E10, E110, E111]; rfl
theorem enc_api_Op {F : Nat → Prop} {w : World} {x0 : Int} {x1 : api_Ref} {x2 : api_Arg} {x3 : api_Arg}   : R_api_Op.rd F w (api_Op.mk x0 x1 x2 x3) [vI x0, vI x1.Kind, vI x1.Field, .bool x2.Has, vI x2.N, vI x2.Ref.Kind, vI x2.Ref.Field, .bool x3.Has, vI x3.N, vI x3.Ref.Kind, vI x3.Ref.Field] := by
  exact ⟨[vI x0], ([vI x1.Kind, vI x1.Field] ++ [.bool x2.Has, vI x2.N, vI x2.Ref.Kind, vI x2.Ref.Field] ++ [.bool x3.Has, vI x3.N, vI x3.Ref.Kind, vI x3.Ref.Field]), rfl, rfl, ⟨[vI x1.Kind, vI x1.Field], ([.bool x2.Has, vI x2.N, vI x2.Ref.Kind, vI x2.Ref.Field] ++ [.bool x3.Has, vI x3.N, vI x3.Ref.Kind, vI x3.Ref.Field]), rfl, enc_api_Ref , ⟨[.bool x2.Has, vI x2.N, vI x2.Ref.Kind, vI x2.Ref.Field], [.bool x3.Has, vI x3.N, vI x3.Ref.Kind, vI x3.Ref.Field], rfl, enc_api_Arg , enc_api_Arg ⟩⟩⟩
theorem flat_api_Op {F F' : Nat → Prop} {w w' : World} {x : api_Op} {vs : List Value} (h : R_api_Op.rd F w x vs) : R_api_Op.rd F' w' x vs := by
  have e := dec_api_Op h; subst e; exact enc_api_Op
structure api_Comp where
  Kind : Int
  Vals : List Int
  deriving DecidableEq
def R_api_Comp : Rep api_Comp := Rep.iso (fun x => (x.Kind, x.Vals)) (Rep.prod (Rep.int .i64) (Rep.sl (Rep.int .i64)))
theorem dec_api_Comp {F : Nat → Prop} {w : World} {x : api_Comp} {vs : List Value} (h : R_api_Comp.rd F w x vs) : ∃ A1 c1, vs = [vI x.Kind, .slice A1 x.Vals.length c1] ∧ RdS (Rep.int .i64) F w A1 c1 x.Vals := by
  obtain ⟨a, b, e, p, q⟩ := h
  have E0 := p
  obtain ⟨X1, Y1, E1, Z1⟩ := q
  refine ⟨X1, Y1, ?_, Z1⟩
  rw [e, E0, E1]; rfl
theorem enc_api_Comp {F : Nat → Prop} {w : World} {x0 : Int} {x1 : List Int} {A1 : Option Addr} {c1 : Nat} (h1 : RdS (Rep.int .i64) F w A1 c1 x1) : R_api_Comp.rd F w (api_Comp.mk x0 x1) [vI x0, .slice A1 x1.length c1] := by
  exact ⟨[vI x0], [.slice A1 x1.length c1], rfl, rfl, ⟨_, _, rfl, h1⟩⟩
def ok_api_Field (x : api_Field) : Prop := oks x.Name ∧ (okk .i64) x.Bits ∧ (okk .i64) x.Low
def ok_api_Kind (x : api_Kind) : Prop := oks x.Name ∧ (okl 32 ok_api_Field) x.Fields
def bk_api_Field (x : api_Field) : Nat := bks x.Name + bk1 x.Bits + bk1 x.Low + 1
def bk_api_Kind (x : api_Kind) : Nat := bks x.Name + (bkl bk_api_Field) x.Fields + 1
structure api_System where
  Name : ByteArray
  With : List Int
  Without : List Int
  Reads : List Int
  Writes : List Int
  Ops : List api_Op
  Spawn : List api_Comp
  deriving DecidableEq
def R_api_System : Rep api_System := Rep.iso (fun x => (x.Name, x.With, x.Without, x.Reads, x.Writes, x.Ops, x.Spawn)) (Rep.prod Rep.str (Rep.prod (Rep.sl (Rep.int .i64)) (Rep.prod (Rep.sl (Rep.int .i64)) (Rep.prod (Rep.sl (Rep.int .i64)) (Rep.prod (Rep.sl (Rep.int .i64)) (Rep.prod (Rep.sl R_api_Op) (Rep.sl R_api_Comp)))))))
theorem dec_api_System {F : Nat → Prop} {w : World} {x : api_System} {vs : List Value} (h : R_api_System.rd F w x vs) : ∃ A1 c1 A2 c2 A3 c3 A4 c4 A5 c5 A6 c6, vs = [.string x.Name, .slice A1 x.With.length c1, .slice A2 x.Without.length c2, .slice A3 x.Reads.length c3, .slice A4 x.Writes.length c4, .slice A5 x.Ops.length c5, .slice A6 x.Spawn.length c6] ∧ RdS (Rep.int .i64) F w A1 c1 x.With ∧ RdS (Rep.int .i64) F w A2 c2 x.Without ∧ RdS (Rep.int .i64) F w A3 c3 x.Reads ∧ RdS (Rep.int .i64) F w A4 c4 x.Writes ∧ RdS R_api_Op F w A5 c5 x.Ops ∧ RdS R_api_Comp F w A6 c6 x.Spawn := by
  obtain ⟨a, b, e, p, q⟩ := h
  have E0 := p
  obtain ⟨a1, b1, e1, p1, q1⟩ := q
  obtain ⟨X10, Y10, E10, Z10⟩ := p1
  obtain ⟨a11, b11, e11, p11, q11⟩ := q1
  obtain ⟨X110, Y110, E110, Z110⟩ := p11
  obtain ⟨a111, b111, e111, p111, q111⟩ := q11
  obtain ⟨X1110, Y1110, E1110, Z1110⟩ := p111
  obtain ⟨a1111, b1111, e1111, p1111, q1111⟩ := q111
  obtain ⟨X11110, Y11110, E11110, Z11110⟩ := p1111
  obtain ⟨a11111, b11111, e11111, p11111, q11111⟩ := q1111
  obtain ⟨X111110, Y111110, E111110, Z111110⟩ := p11111
  obtain ⟨X111111, Y111111, E111111, Z111111⟩ := q11111
  refine ⟨X10, Y10, X110, Y110, X1110, Y1110, X11110, Y11110, X111110, Y111110, X111111, Y111111, ?_, Z10, Z110, Z1110, Z11110, Z111110, Z111111⟩
  rw [e, e1, e11, e111, e1111, e11111, E0, E10, E110, E1110, E11110, E111110, E111111]; rfl
theorem enc_api_System {F : Nat → Prop} {w : World} {x0 : ByteArray} {x1 : List Int} {x2 : List Int} {x3 : List Int} {x4 : List Int} {x5 : List api_Op} {x6 : List api_Comp} {A1 : Option Addr} {c1 : Nat} {A2 : Option Addr} {c2 : Nat} {A3 : Option Addr} {c3 : Nat} {A4 : Option Addr} {c4 : Nat} {A5 : Option Addr} {c5 : Nat} {A6 : Option Addr} {c6 : Nat} (h1 : RdS (Rep.int .i64) F w A1 c1 x1) (h2 : RdS (Rep.int .i64) F w A2 c2 x2) (h3 : RdS (Rep.int .i64) F w A3 c3 x3) (h4 : RdS (Rep.int .i64) F w A4 c4 x4) (h5 : RdS R_api_Op F w A5 c5 x5) (h6 : RdS R_api_Comp F w A6 c6 x6) : R_api_System.rd F w (api_System.mk x0 x1 x2 x3 x4 x5 x6) [.string x0, .slice A1 x1.length c1, .slice A2 x2.length c2, .slice A3 x3.length c3, .slice A4 x4.length c4, .slice A5 x5.length c5, .slice A6 x6.length c6] := by
  exact ⟨[.string x0], ([.slice A1 x1.length c1] ++ [.slice A2 x2.length c2] ++ [.slice A3 x3.length c3] ++ [.slice A4 x4.length c4] ++ [.slice A5 x5.length c5] ++ [.slice A6 x6.length c6]), rfl, rfl, ⟨[.slice A1 x1.length c1], ([.slice A2 x2.length c2] ++ [.slice A3 x3.length c3] ++ [.slice A4 x4.length c4] ++ [.slice A5 x5.length c5] ++ [.slice A6 x6.length c6]), rfl, ⟨_, _, rfl, h1⟩, ⟨[.slice A2 x2.length c2], ([.slice A3 x3.length c3] ++ [.slice A4 x4.length c4] ++ [.slice A5 x5.length c5] ++ [.slice A6 x6.length c6]), rfl, ⟨_, _, rfl, h2⟩, ⟨[.slice A3 x3.length c3], ([.slice A4 x4.length c4] ++ [.slice A5 x5.length c5] ++ [.slice A6 x6.length c6]), rfl, ⟨_, _, rfl, h3⟩, ⟨[.slice A4 x4.length c4], ([.slice A5 x5.length c5] ++ [.slice A6 x6.length c6]), rfl, ⟨_, _, rfl, h4⟩, ⟨[.slice A5 x5.length c5], [.slice A6 x6.length c6], rfl, ⟨_, _, rfl, h5⟩, ⟨_, _, rfl, h6⟩⟩⟩⟩⟩⟩⟩
def ok_api_Ref (x : api_Ref) : Prop := (okk .i64) x.Kind ∧ (okk .i64) x.Field
def ok_api_Arg (x : api_Arg) : Prop := okb x.Has ∧ (okk .i64) x.N ∧ ok_api_Ref x.Ref
def ok_api_Op (x : api_Op) : Prop := (okk .i64) x.Do ∧ ok_api_Ref x.To ∧ ok_api_Arg x.A ∧ ok_api_Arg x.B
def ok_api_Comp (x : api_Comp) : Prop := (okk .i64) x.Kind ∧ (okl 8 (okk .i64)) x.Vals
def ok_api_System (x : api_System) : Prop := oks x.Name ∧ (okl 8 (okk .i64)) x.With ∧ (okl 8 (okk .i64)) x.Without ∧ (okl 8 (okk .i64)) x.Reads ∧ (okl 8 (okk .i64)) x.Writes ∧ (okl 88 ok_api_Op) x.Ops ∧ (okl 32 ok_api_Comp) x.Spawn
def bk_api_Ref (x : api_Ref) : Nat := bk1 x.Kind + bk1 x.Field + 1
def bk_api_Arg (x : api_Arg) : Nat := bk1 x.Has + bk1 x.N + bk_api_Ref x.Ref + 1
def bk_api_Op (x : api_Op) : Nat := bk1 x.Do + bk_api_Ref x.To + bk_api_Arg x.A + bk_api_Arg x.B + 1
def bk_api_Comp (x : api_Comp) : Nat := bk1 x.Kind + (bkl bk1) x.Vals + 1
def bk_api_System (x : api_System) : Nat := bks x.Name + (bkl bk1) x.With + (bkl bk1) x.Without + (bkl bk1) x.Reads + (bkl bk1) x.Writes + (bkl bk_api_Op) x.Ops + (bkl bk_api_Comp) x.Spawn + 1
end Go.Proofs.YtnnhijlgohlaeaaDoor.D
