/- Types as plain structures, and how their values lie in cells. No condition. -/
import Derived.Test.YtfihfbkjomploaaExMem
namespace Go.Proofs.Ytfihfbkjomploaa.X
open Go Go.RowKit Go.Proofs.Ytfihfbkjomploaa.Sx
set_option linter.unusedVariables false
def R_arr2_Int : Rep (Int × Int) := (Rep.prod (Rep.int .i64) (Rep.int .i64))
theorem dec_arr2_Int {F : Nat → Prop} {w : World} {x : Int × Int} {vs : List Value} (h : R_arr2_Int.rd F w x vs) : vs = [vI x.1, vI x.2] := by
  obtain ⟨a, b, e, p, q⟩ := h
  have E0 := p
  have E1 := q
  rw [e, E0, E1]; rfl
theorem enc_arr2_Int {F : Nat → Prop} {w : World} {x0 : Int} {x1 : Int}   : R_arr2_Int.rd F w (x0, x1) [vI x0, vI x1] := by
  exact ⟨[vI x0], [vI x1], rfl, rfl, rfl⟩
theorem flat_arr2_Int {F F' : Nat → Prop} {w w' : World} {x : Int × Int} {vs : List Value} (h : R_arr2_Int.rd F w x vs) : R_arr2_Int.rd F' w' x vs := by
  have e := dec_arr2_Int h; subst e; exact enc_arr2_Int
def ok_arr2_Int (x : Int × Int) : Prop := (okk .i64) x.1 ∧ (okk .i64) x.2
def bk_arr2_Int (x : Int × Int) : Nat := bk1 x.1 + bk1 x.2 + 1
def R_arr3_Int : Rep (Int × Int × Int) := (Rep.prod (Rep.int .i64) (Rep.prod (Rep.int .i64) (Rep.int .i64)))
theorem dec_arr3_Int {F : Nat → Prop} {w : World} {x : Int × Int × Int} {vs : List Value} (h : R_arr3_Int.rd F w x vs) : vs = [vI x.1, vI x.2.1, vI x.2.2] := by
  obtain ⟨a, b, e, p, q⟩ := h
  have E0 := p
  obtain ⟨a1, b1, e1, p1, q1⟩ := q
  have E10 := p1
  have E11 := q1
  rw [e, e1, E0, E10, E11]; rfl
theorem enc_arr3_Int {F : Nat → Prop} {w : World} {x0 : Int} {x1 : Int} {x2 : Int}   : R_arr3_Int.rd F w (x0, x1, x2) [vI x0, vI x1, vI x2] := by
  exact ⟨[vI x0], ([vI x1] ++ [vI x2]), rfl, rfl, ⟨[vI x1], [vI x2], rfl, rfl, rfl⟩⟩
theorem flat_arr3_Int {F F' : Nat → Prop} {w w' : World} {x : Int × Int × Int} {vs : List Value} (h : R_arr3_Int.rd F w x vs) : R_arr3_Int.rd F' w' x vs := by
  have e := dec_arr3_Int h; subst e; exact enc_arr3_Int
def ok_arr3_Int (x : Int × Int × Int) : Prop := (okk .i64) x.1 ∧ (okk .i64) x.2.1 ∧ (okk .i64) x.2.2
def bk_arr3_Int (x : Int × Int × Int) : Nat := bk1 x.1 + bk1 x.2.1 + bk1 x.2.2 + 1
structure api_Field where
  Name : ByteArray
  Bits : Int
  Low : Int
  deriving DecidableEq
def R_api_Field : Rep api_Field := Rep.iso (fun x => (x.Name, x.Bits, x.Low)) (Rep.prod Rep.str (Rep.prod (Rep.int .i64) (Rep.int .i64)))
theorem dec_api_Field {F : Nat → Prop} {w : World} {x : api_Field} {vs : List Value} (h : R_api_Field.rd F w x vs) : vs = [.string x.Name, vI x.Bits, vI x.Low] := by
  obtain ⟨a, b, e, p, q⟩ := h
  have E0 := p
  obtain ⟨a1, b1, e1, p1, q1⟩ := q
  have E10 := p1
  have E11 := q1
  rw [e, e1, E0, E10, E11]; rfl
theorem enc_api_Field {F : Nat → Prop} {w : World} {x0 : ByteArray} {x1 : Int} {x2 : Int}   : R_api_Field.rd F w (api_Field.mk x0 x1 x2) [.string x0, vI x1, vI x2] := by
  exact ⟨[.string x0], ([vI x1] ++ [vI x2]), rfl, rfl, ⟨[vI x1], [vI x2], rfl, rfl, rfl⟩⟩
theorem flat_api_Field {F F' : Nat → Prop} {w w' : World} {x : api_Field} {vs : List Value} (h : R_api_Field.rd F w x vs) : R_api_Field.rd F' w' x vs := by
  have e := dec_api_Field h; subst e; exact enc_api_Field
def ok_api_Field (x : api_Field) : Prop := oks x.Name ∧ (okk .i64) x.Bits ∧ (okk .i64) x.Low
def bk_api_Field (x : api_Field) : Nat := bks x.Name + bk1 x.Bits + bk1 x.Low + 1
def R_arr2_Intu64 : Rep (Int × Int) := (Rep.prod (Rep.int .u64) (Rep.int .u64))
theorem dec_arr2_Intu64 {F : Nat → Prop} {w : World} {x : Int × Int} {vs : List Value} (h : R_arr2_Intu64.rd F w x vs) : vs = [vU x.1, vU x.2] := by
  obtain ⟨a, b, e, p, q⟩ := h
  have E0 := p
  have E1 := q
  rw [e, E0, E1]; rfl
theorem enc_arr2_Intu64 {F : Nat → Prop} {w : World} {x0 : Int} {x1 : Int}   : R_arr2_Intu64.rd F w (x0, x1) [vU x0, vU x1] := by
  exact ⟨[vU x0], [vU x1], rfl, rfl, rfl⟩
theorem flat_arr2_Intu64 {F F' : Nat → Prop} {w w' : World} {x : Int × Int} {vs : List Value} (h : R_arr2_Intu64.rd F w x vs) : R_arr2_Intu64.rd F' w' x vs := by
  have e := dec_arr2_Intu64 h; subst e; exact enc_arr2_Intu64
structure queue_item_string where
  v : ByteArray
  rank : Int
  came : Int
  deriving DecidableEq
def R_queue_item_string : Rep queue_item_string := Rep.iso (fun x => (x.v, x.rank, x.came)) (Rep.prod Rep.str (Rep.prod (Rep.int .i64) (Rep.int .i64)))
theorem dec_queue_item_string {F : Nat → Prop} {w : World} {x : queue_item_string} {vs : List Value} (h : R_queue_item_string.rd F w x vs) : vs = [.string x.v, vI x.rank, vI x.came] := by
  obtain ⟨a, b, e, p, q⟩ := h
  have E0 := p
  obtain ⟨a1, b1, e1, p1, q1⟩ := q
  have E10 := p1
  have E11 := q1
  rw [e, e1, E0, E10, E11]; rfl
theorem enc_queue_item_string {F : Nat → Prop} {w : World} {x0 : ByteArray} {x1 : Int} {x2 : Int}   : R_queue_item_string.rd F w (queue_item_string.mk x0 x1 x2) [.string x0, vI x1, vI x2] := by
  exact ⟨[.string x0], ([vI x1] ++ [vI x2]), rfl, rfl, ⟨[vI x1], [vI x2], rfl, rfl, rfl⟩⟩
theorem flat_queue_item_string {F F' : Nat → Prop} {w w' : World} {x : queue_item_string} {vs : List Value} (h : R_queue_item_string.rd F w x vs) : R_queue_item_string.rd F' w' x vs := by
  have e := dec_queue_item_string h; subst e; exact enc_queue_item_string
structure queue_item_int where
  v : Int
  rank : Int
  came : Int
  deriving DecidableEq
def R_queue_item_int : Rep queue_item_int := Rep.iso (fun x => (x.v, x.rank, x.came)) (Rep.prod (Rep.int .i64) (Rep.prod (Rep.int .i64) (Rep.int .i64)))
theorem dec_queue_item_int {F : Nat → Prop} {w : World} {x : queue_item_int} {vs : List Value} (h : R_queue_item_int.rd F w x vs) : vs = [vI x.v, vI x.rank, vI x.came] := by
  obtain ⟨a, b, e, p, q⟩ := h
  have E0 := p
  obtain ⟨a1, b1, e1, p1, q1⟩ := q
  have E10 := p1
  have E11 := q1
  rw [e, e1, E0, E10, E11]; rfl
theorem enc_queue_item_int {F : Nat → Prop} {w : World} {x0 : Int} {x1 : Int} {x2 : Int}   : R_queue_item_int.rd F w (queue_item_int.mk x0 x1 x2) [vI x0, vI x1, vI x2] := by
  exact ⟨[vI x0], ([vI x1] ++ [vI x2]), rfl, rfl, ⟨[vI x1], [vI x2], rfl, rfl, rfl⟩⟩
theorem flat_queue_item_int {F F' : Nat → Prop} {w w' : World} {x : queue_item_int} {vs : List Value} (h : R_queue_item_int.rd F w x vs) : R_queue_item_int.rd F' w' x vs := by
  have e := dec_queue_item_int h; subst e; exact enc_queue_item_int
structure tourref1_Waiting where
  V : Int
  Rank : Int
  deriving DecidableEq
def R_tourref1_Waiting : Rep tourref1_Waiting := Rep.iso (fun x => (x.V, x.Rank)) (Rep.prod (Rep.int .i64) (Rep.int .i64))
theorem dec_tourref1_Waiting {F : Nat → Prop} {w : World} {x : tourref1_Waiting} {vs : List Value} (h : R_tourref1_Waiting.rd F w x vs) : vs = [vI x.V, vI x.Rank] := by
  obtain ⟨a, b, e, p, q⟩ := h
  have E0 := p
  have E1 := q
  rw [e, E0, E1]; rfl
theorem enc_tourref1_Waiting {F : Nat → Prop} {w : World} {x0 : Int} {x1 : Int}   : R_tourref1_Waiting.rd F w (tourref1_Waiting.mk x0 x1) [vI x0, vI x1] := by
  exact ⟨[vI x0], [vI x1], rfl, rfl, rfl⟩
theorem flat_tourref1_Waiting {F F' : Nat → Prop} {w w' : World} {x : tourref1_Waiting} {vs : List Value} (h : R_tourref1_Waiting.rd F w x vs) : R_tourref1_Waiting.rd F' w' x vs := by
  have e := dec_tourref1_Waiting h; subst e; exact enc_tourref1_Waiting
end Go.Proofs.Ytfihfbkjomploaa.X
