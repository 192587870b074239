/- Types as plain structures, and how their values lie in cells. No condition. -/
import Derived.Test.YtnnhijlgohlaeaaDoorExMem
import Derived.Test.YtnnhijlgohlaeaaDoorExOwnM
namespace Go.Proofs.YtnnhijlgohlaeaaDoor.A
open Go Go.RowKit Go.Proofs.YtnnhijlgohlaeaaDoor.Sx
set_option linter.unusedVariables false
structure api_Field where
  Name : ByteArray
  Bits : Int
  Low : Int
  deriving DecidableEq
def R_api_Field : Rep api_Field := Rep.iso (fun x => (x.Name, x.Bits, x.Low)) (Rep.prod Rep.str (Rep.prod (Rep.int .i64) (Rep.int .i64)))
theorem dec_api_Field {F : Nat → Prop} {w : World} {x : api_Field} {vs : List Value} (h : R_api_Field.rd F w x vs) : vs = [.string x.Name, vI x.Bits, vI x.Low] := by
  obtain ⟨a, b, e, p, q⟩ := h
  have E0 := p
  obtain ⟨a1, b1, e1, p1, q1⟩ := q
  have E10 := p1
  have E11 := q1
  rw [e, e1, E0, E10, E11]; rfl
theorem enc_api_Field {F : Nat → Prop} {w : World} {x0 : ByteArray} {x1 : Int} {x2 : Int}   : R_api_Field.rd F w (api_Field.mk x0 x1 x2) [.string x0, vI x1, vI x2] := by
  exact ⟨[.string x0], ([vI x1] ++ [vI x2]), rfl, rfl, ⟨[vI x1], [vI x2], rfl, rfl, rfl⟩⟩
theorem flat_api_Field {F F' : Nat → Prop} {w w' : World} {x : api_Field} {vs : List Value} (h : R_api_Field.rd F w x vs) : R_api_Field.rd F' w' x vs := by
  have e := dec_api_Field h; subst e; exact enc_api_Field
structure api_Kind where
  Name : ByteArray
  Fields : List api_Field
  deriving DecidableEq
def R_api_Kind : Rep api_Kind := Rep.iso (fun x => (x.Name, x.Fields)) (Rep.prod Rep.str (Rep.sl R_api_Field))
theorem dec_api_Kind {F : Nat → Prop} {w : World} {x : api_Kind} {vs : List Value} (h : R_api_Kind.rd F w x vs) : ∃ A1 c1, vs = [.string x.Name, .slice A1 x.Fields.length c1] ∧ RdS R_api_Field F w A1 c1 x.Fields := by
  obtain ⟨a, b, e, p, q⟩ := h
  have E0 := p
  obtain ⟨X1, Y1, E1, Z1⟩ := q
  refine ⟨X1, Y1, ?_, Z1⟩
  rw [e, E0, E1]; rfl
theorem enc_api_Kind {F : Nat → Prop} {w : World} {x0 : ByteArray} {x1 : List api_Field} {A1 : Option Addr} {c1 : Nat} (h1 : RdS R_api_Field F w A1 c1 x1) : R_api_Kind.rd F w (api_Kind.mk x0 x1) [.string x0, .slice A1 x1.length c1] := by
  exact ⟨[.string x0], [.slice A1 x1.length c1], rfl, rfl, ⟨_, _, rfl, h1⟩⟩
structure migrate_Move where
  Do : Int
  Kind : ByteArray
  Field : ByteArray
  Name : ByteArray
  Value : Int
  New : api_Field
  Whole : api_Kind
  deriving DecidableEq
def R_migrate_Move : Rep migrate_Move := Rep.iso (fun x => (x.Do, x.Kind, x.Field, x.Name, x.Value, x.New, x.Whole)) (Rep.prod (Rep.int .i64) (Rep.prod Rep.str (Rep.prod Rep.str (Rep.prod Rep.str (Rep.prod (Rep.int .i64) (Rep.prod R_api_Field R_api_Kind))))))
theorem dec_migrate_Move {F : Nat → Prop} {w : World} {x : migrate_Move} {vs : List Value} (h : R_migrate_Move.rd F w x vs) : ∃ A9 c9, vs = [vI x.Do, .string x.Kind, .string x.Field, .string x.Name, vI x.Value, .string x.New.Name, vI x.New.Bits, vI x.New.Low, .string x.Whole.Name, .slice A9 x.Whole.Fields.length c9] ∧ RdS R_api_Field F w A9 c9 x.Whole.Fields := by
  obtain ⟨a, b, e, p, q⟩ := h
  have E0 := p
  obtain ⟨a1, b1, e1, p1, q1⟩ := q
  have E10 := p1
  obtain ⟨a11, b11, e11, p11, q11⟩ := q1
  have E110 := p11
  obtain ⟨a111, b111, e111, p111, q111⟩ := q11
  have E1110 := p111
  obtain ⟨a1111, b1111, e1111, p1111, q1111⟩ := q111
  have E11110 := p1111
  obtain ⟨a11111, b11111, e11111, p11111, q11111⟩ := q1111
  have E111110 := dec_api_Field p11111
  obtain ⟨X111111_0, Y111111_0, E111111, Z111111_0⟩ := dec_api_Kind q11111
  refine ⟨X111111_0, Y111111_0, ?_, Z111111_0⟩
  rw [e, e1, e11, e111, e1111, e11111, E0, E10, E110, E1110, E11110, E111110, E111111]; rfl
theorem enc_migrate_Move {F : Nat → Prop} {w : World} {x0 : Int} {x1 : ByteArray} {x2 : ByteArray} {x3 : ByteArray} {x4 : Int} {x5 : api_Field} {x6 : api_Kind} {A9 : Option Addr} {c9 : Nat} (h9 : RdS R_api_Field F w A9 c9 x6.Fields) : R_migrate_Move.rd F w (migrate_Move.mk x0 x1 x2 x3 x4 x5 x6) [vI x0, .string x1, .string x2, .string x3, vI x4, .string x5.Name, vI x5.Bits, vI x5.Low, .string x6.Name, .slice A9 x6.Fields.length c9] := by
  exact ⟨[vI x0], ([.string x1] ++ [.string x2] ++ [.string x3] ++ [vI x4] ++ [.string x5.Name, vI x5.Bits, vI x5.Low] ++ [.string x6.Name, .slice A9 x6.Fields.length c9]), rfl, rfl, ⟨[.string x1], ([.string x2] ++ [.string x3] ++ [vI x4] ++ [.string x5.Name, vI x5.Bits, vI x5.Low] ++ [.string x6.Name, .slice A9 x6.Fields.length c9]), rfl, rfl, ⟨[.string x2], ([.string x3] ++ [vI x4] ++ [.string x5.Name, vI x5.Bits, vI x5.Low] ++ [.string x6.Name, .slice A9 x6.Fields.length c9]), rfl, rfl, ⟨[.string x3], ([vI x4] ++ [.string x5.Name, vI x5.Bits, vI x5.Low] ++ [.string x6.Name, .slice A9 x6.Fields.length c9]), rfl, rfl, ⟨[vI x4], ([.string x5.Name, vI x5.Bits, vI x5.Low] ++ [.string x6.Name, .slice A9 x6.Fields.length c9]), rfl, rfl, ⟨[.string x5.Name, vI x5.Bits, vI x5.Low], [.string x6.Name, .slice A9 x6.Fields.length c9], rfl, enc_api_Field , enc_api_Kind h9⟩⟩⟩⟩⟩⟩
def O_api_Kind_rw : Own api_Kind := Own.iso (fun x => (x.Name, x.Fields)) (Own.prod (Own.rd Rep.str) (Own.sr R_api_Field 32))
theorem odec_api_Kind_rw {F : Nat → Prop} {w : World} {x : api_Kind} {vs : List Value} {K : List Chunk} (h : O_api_Kind_rw.at_ F w x vs K) : ∃ A1 c1 y1, vs = [.string x.Name, .slice A1 x.Fields.length c1] ∧ K = [orow A1 x.Fields.length c1 32 3 y1] ∧ RepL R_api_Field F w x.Fields y1 := by
  obtain ⟨a, b, C, D, rfl, rfl, p, q⟩ := h
  obtain ⟨e0, rfl⟩ := p
  obtain rfl := e0
  obtain ⟨A1, c1, y1, rfl, rfl, h1⟩ := q
  exact ⟨A1, c1, y1, rfl, rfl, h1⟩
theorem oenc_api_Kind_rw {F : Nat → Prop} {w : World} {x0 : ByteArray} {x1 : List api_Field} {A1 : Option Addr} {c1 : Nat} {y1 : List Value} (h1 : RepL R_api_Field F w x1 y1) : O_api_Kind_rw.at_ F w (api_Kind.mk x0 x1) [.string x0, .slice A1 x1.length c1] [orow A1 x1.length c1 32 3 y1] := by
  exact ⟨[.string x0], [.slice A1 x1.length c1], [], [orow A1 x1.length c1 32 3 y1], rfl, rfl, ⟨rfl, rfl⟩, ⟨_, _, _, rfl, rfl, h1⟩⟩
def ok_api_Field (x : api_Field) : Prop := oks x.Name ∧ (okk .i64) x.Bits ∧ (okk .i64) x.Low
def ok_api_Kind (x : api_Kind) : Prop := oks x.Name ∧ (okl 32 ok_api_Field) x.Fields
def bk_api_Field (x : api_Field) : Nat := bks x.Name + bk1 x.Bits + bk1 x.Low + 1
def bk_api_Kind (x : api_Kind) : Nat := bks x.Name + (bkl bk_api_Field) x.Fields + 1
def ok_migrate_Move (x : migrate_Move) : Prop := (okk .i64) x.Do ∧ oks x.Kind ∧ oks x.Field ∧ oks x.Name ∧ (okk .i64) x.Value ∧ ok_api_Field x.New ∧ ok_api_Kind x.Whole
def bk_migrate_Move (x : migrate_Move) : Nat := bk1 x.Do + bks x.Kind + bks x.Field + bks x.Name + bk1 x.Value + bk_api_Field x.New + bk_api_Kind x.Whole + 1
end Go.Proofs.YtnnhijlgohlaeaaDoor.A
