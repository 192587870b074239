/- Types as plain structures, and how their values lie in cells. No condition. -/
import Derived.Test.YtbfndcookgijfaaGreatDoorExMem
import Derived.Test.YtbfndcookgijfaaGreatDoorExOwnM
namespace Go.Proofs.YtbfndcookgijfaaGreatDoor.C
open Go Go.RowKit Go.Proofs.YtbfndcookgijfaaGreatDoor.Sx
set_option linter.unusedVariables false
structure api_Field where
  Name : ByteArray
  Bits : Int
  Low : Int
  deriving DecidableEq
def R_api_Field : Rep api_Field := Rep.iso (fun x => (x.Name, x.Bits, x.Low)) (Rep.prod Rep.str (Rep.prod (Rep.int .i64) (Rep.int .i64)))
theorem dec_api_Field {F : Nat → Prop} {w : World} {x : api_Field} {vs : List Value} (h : R_api_Field.rd F w x vs) : vs = [.string x.Name, vI x.Bits, vI x.Low] := by
  obtain ⟨a, b, e, p, q⟩ := h
  have E0 := p
  obtain ⟨a1, b1, e1, p1, q1⟩ := q
  have E10 := p1
  have E11 := q1
  rw [e, e1, E0, E10, E11]; rfl
theorem enc_api_Field {F : Nat → Prop} {w : World} {x0 : ByteArray} {x1 : Int} {x2 : Int}   : R_api_Field.rd F w (api_Field.mk x0 x1 x2) [.string x0, vI x1, vI x2] := by
  exact ⟨[.string x0], ([vI x1] ++ [vI x2]), rfl, rfl, ⟨[vI x1], [vI x2], rfl, rfl, rfl⟩⟩
structure api_Kind where
  Name : ByteArray
  Fields : List api_Field
  deriving DecidableEq
def R_api_Kind : Rep api_Kind := Rep.iso (fun x => (x.Name, x.Fields)) (Rep.prod Rep.str (Rep.sl R_api_Field))
theorem dec_api_Kind {F : Nat → Prop} {w : World} {x : api_Kind} {vs : List Value} (h : R_api_Kind.rd F w x vs) : ∃ A1 c1, vs = [.string x.Name, .slice A1 x.Fields.length c1] ∧ RdS R_api_Field F w A1 c1 x.Fields := by
  obtain ⟨a, b, e, p, q⟩ := h
  have E0 := p
  obtain ⟨X1, Y1, E1, Z1⟩ := q
  refine ⟨X1, Y1, ?_, Z1⟩
  rw [e, E0, E1]; rfl
theorem enc_api_Kind {F : Nat → Prop} {w : World} {x0 : ByteArray} {x1 : List api_Field} {A1 : Option Addr} {c1 : Nat} (h1 : RdS R_api_Field F w A1 c1 x1) : R_api_Kind.rd F w (api_Kind.mk x0 x1) [.string x0, .slice A1 x1.length c1] := by
  exact ⟨[.string x0], [.slice A1 x1.length c1], rfl, rfl, ⟨_, _, rfl, h1⟩⟩
structure api_Ent where
  N : Int
  Gen : Int
  deriving DecidableEq
def R_api_Ent : Rep api_Ent := Rep.iso (fun x => (x.N, x.Gen)) (Rep.prod (Rep.int .i64) (Rep.int .i64))
theorem dec_api_Ent {F : Nat → Prop} {w : World} {x : api_Ent} {vs : List Value} (h : R_api_Ent.rd F w x vs) : vs = [vI x.N, vI x.Gen] := by
  obtain ⟨a, b, e, p, q⟩ := h
  have E0 := p
  have E1 := q
  rw [e, E0, E1]; rfl
theorem enc_api_Ent {F : Nat → Prop} {w : World} {x0 : Int} {x1 : Int}   : R_api_Ent.rd F w (api_Ent.mk x0 x1) [vI x0, vI x1] := by
  exact ⟨[vI x0], [vI x1], rfl, rfl, rfl⟩
structure api_Comp where
  Kind : Int
  Vals : List Int
  deriving DecidableEq
def R_api_Comp : Rep api_Comp := Rep.iso (fun x => (x.Kind, x.Vals)) (Rep.prod (Rep.int .i64) (Rep.sl (Rep.int .i64)))
theorem dec_api_Comp {F : Nat → Prop} {w : World} {x : api_Comp} {vs : List Value} (h : R_api_Comp.rd F w x vs) : ∃ A1 c1, vs = [vI x.Kind, .slice A1 x.Vals.length c1] ∧ RdS (Rep.int .i64) F w A1 c1 x.Vals := by
  obtain ⟨a, b, e, p, q⟩ := h
  have E0 := p
  obtain ⟨X1, Y1, E1, Z1⟩ := q
  refine ⟨X1, Y1, ?_, Z1⟩
  rw [e, E0, E1]; rfl
theorem enc_api_Comp {F : Nat → Prop} {w : World} {x0 : Int} {x1 : List Int} {A1 : Option Addr} {c1 : Nat} (h1 : RdS (Rep.int .i64) F w A1 c1 x1) : R_api_Comp.rd F w (api_Comp.mk x0 x1) [vI x0, .slice A1 x1.length c1] := by
  exact ⟨[vI x0], [.slice A1 x1.length c1], rfl, rfl, ⟨_, _, rfl, h1⟩⟩
structure api_Item where
  Ent : api_Ent
  Comps : List api_Comp
  deriving DecidableEq
def R_api_Item : Rep api_Item := Rep.iso (fun x => (x.Ent, x.Comps)) (Rep.prod R_api_Ent (Rep.sl R_api_Comp))
theorem dec_api_Item {F : Nat → Prop} {w : World} {x : api_Item} {vs : List Value} (h : R_api_Item.rd F w x vs) : ∃ A2 c2, vs = [vI x.Ent.N, vI x.Ent.Gen, .slice A2 x.Comps.length c2] ∧ RdS R_api_Comp F w A2 c2 x.Comps := by
  obtain ⟨a, b, e, p, q⟩ := h
  have E0 := dec_api_Ent p
  obtain ⟨X1, Y1, E1, Z1⟩ := q
  refine ⟨X1, Y1, ?_, Z1⟩
  rw [e, E0, E1]; rfl
theorem enc_api_Item {F : Nat → Prop} {w : World} {x0 : api_Ent} {x1 : List api_Comp} {A2 : Option Addr} {c2 : Nat} (h2 : RdS R_api_Comp F w A2 c2 x1) : R_api_Item.rd F w (api_Item.mk x0 x1) [vI x0.N, vI x0.Gen, .slice A2 x1.length c2] := by
  exact ⟨[vI x0.N, vI x0.Gen], [.slice A2 x1.length c2], rfl, enc_api_Ent , ⟨_, _, rfl, h2⟩⟩
def O_api_Item_rrw : Own api_Item := Own.iso (fun x => (x.Ent, x.Comps)) (Own.prod (Own.rd R_api_Ent) (Own.sr R_api_Comp 42))
theorem odec_api_Item_rrw {F : Nat → Prop} {w : World} {x : api_Item} {vs : List Value} {K : List Chunk} (h : O_api_Item_rrw.at_ F w x vs K) : ∃ A2 c2 y2, vs = [vI x.Ent.N, vI x.Ent.Gen, .slice A2 x.Comps.length c2] ∧ K = [orow A2 x.Comps.length c2 42 2 y2] ∧ RepL R_api_Comp F w x.Comps y2 := by
  obtain ⟨a, b, C, D, rfl, rfl, p, q⟩ := h
  obtain ⟨e0, rfl⟩ := p
  obtain rfl := dec_api_Ent e0
  obtain ⟨A2, c2, y2, rfl, rfl, h2⟩ := q
  exact ⟨A2, c2, y2, rfl, rfl, h2⟩
theorem oenc_api_Item_rrw {F : Nat → Prop} {w : World} {x0 : api_Ent} {x1 : List api_Comp} {A2 : Option Addr} {c2 : Nat} {y2 : List Value} (h2 : RepL R_api_Comp F w x1 y2) : O_api_Item_rrw.at_ F w (api_Item.mk x0 x1) [vI x0.N, vI x0.Gen, .slice A2 x1.length c2] [orow A2 x1.length c2 42 2 y2] := by
  exact ⟨[vI x0.N, vI x0.Gen], [.slice A2 x1.length c2], [], [orow A2 x1.length c2 42 2 y2], rfl, rfl, ⟨enc_api_Ent, rfl⟩, ⟨_, _, _, rfl, rfl, h2⟩⟩
structure api_World where
  Kinds : List api_Kind
  Gens : List Int
  Items : List api_Item
  deriving DecidableEq
def R_api_World : Rep api_World := Rep.iso (fun x => (x.Kinds, x.Gens, x.Items)) (Rep.prod (Rep.sl R_api_Kind) (Rep.prod (Rep.sl (Rep.int .i64)) (Rep.sl R_api_Item)))
theorem dec_api_World {F : Nat → Prop} {w : World} {x : api_World} {vs : List Value} (h : R_api_World.rd F w x vs) : ∃ A0 c0 A1 c1 A2 c2, vs = [.slice A0 x.Kinds.length c0, .slice A1 x.Gens.length c1, .slice A2 x.Items.length c2] ∧ RdS R_api_Kind F w A0 c0 x.Kinds ∧ RdS (Rep.int .i64) F w A1 c1 x.Gens ∧ RdS R_api_Item F w A2 c2 x.Items := by
  obtain ⟨a, b, e, p, q⟩ := h
  obtain ⟨X0, Y0, E0, Z0⟩ := p
  obtain ⟨a1, b1, e1, p1, q1⟩ := q
  obtain ⟨X10, Y10, E10, Z10⟩ := p1
  obtain ⟨X11, Y11, E11, Z11⟩ := q1
  refine ⟨X0, Y0, X10, Y10, X11, Y11, ?_, Z0, Z10, Z11⟩
  rw [e, e1, E0, E10, E11]; rfl
def ok_api_Field (x : api_Field) : Prop := oks x.Name ∧ (okk .i64) x.Bits ∧ (okk .i64) x.Low
def ok_api_Kind (x : api_Kind) : Prop := oks x.Name ∧ (okl 32 ok_api_Field) x.Fields
def ok_api_Ent (x : api_Ent) : Prop := (okk .i64) x.N ∧ (okk .i64) x.Gen
def ok_api_Comp (x : api_Comp) : Prop := (okk .i64) x.Kind ∧ (okl 8 (okk .i64)) x.Vals
def ok_api_Item (x : api_Item) : Prop := ok_api_Ent x.Ent ∧ (okl 32 ok_api_Comp) x.Comps
def ok_api_World (x : api_World) : Prop := (okl 40 ok_api_Kind) x.Kinds ∧ (okl 8 (okk .i64)) x.Gens ∧ (okl 40 ok_api_Item) x.Items
end Go.Proofs.YtbfndcookgijfaaGreatDoor.C
