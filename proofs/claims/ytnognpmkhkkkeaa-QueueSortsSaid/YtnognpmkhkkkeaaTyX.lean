/- Types as plain structures, and how their values lie in cells. No condition. -/
import Derived.Test.YtnognpmkhkkkeaaExMem
namespace Go.Proofs.Ytnognpmkhkkkeaa.X
open Go Go.RowKit Go.Proofs.Ytnognpmkhkkkeaa.Sx
set_option linter.unusedVariables false
structure queue_item_int where
  v : Int
  rank : Int
  came : Int
  deriving DecidableEq
def R_queue_item_int : Rep queue_item_int := Rep.iso (fun x => (x.v, x.rank, x.came)) (Rep.prod (Rep.int .i64) (Rep.prod (Rep.int .i64) (Rep.int .i64)))
theorem dec_queue_item_int {F : Nat → Prop} {w : World} {x : queue_item_int} {vs : List Value} (h : R_queue_item_int.rd F w x vs) : vs = [vI x.v, vI x.rank, vI x.came] := by
  obtain ⟨a, b, e, p, q⟩ := h
  have E0 := p
  obtain ⟨a1, b1, e1, p1, q1⟩ := q
  have E10 := p1
  have E11 := q1
  rw [e, e1, E0, E10, E11]; rfl
theorem enc_queue_item_int {F : Nat → Prop} {w : World} {x0 : Int} {x1 : Int} {x2 : Int}   : R_queue_item_int.rd F w (queue_item_int.mk x0 x1 x2) [vI x0, vI x1, vI x2] := by
  exact ⟨[vI x0], ([vI x1] ++ [vI x2]), rfl, rfl, ⟨[vI x1], [vI x2], rfl, rfl, rfl⟩⟩
theorem flat_queue_item_int {F F' : Nat → Prop} {w w' : World} {x : queue_item_int} {vs : List Value} (h : R_queue_item_int.rd F w x vs) : R_queue_item_int.rd F' w' x vs := by
  have e := dec_queue_item_int h; subst e; exact enc_queue_item_int
end Go.Proofs.Ytnognpmkhkkkeaa.X
