/- Walks of the reference's share and of the function in it. No condition. -/
import Derived.Test.YtioijglogoppnaaProg
import Derived.Test.YtioijglogoppnaaSxOps
import Derived.Test.YtioijglogoppnaaQuantSpec
import Derived.Test.YtioijglogoppnaaWNat
import Derived.Test.YtioijglogoppnaaWClamp
namespace Go.Proofs.Ytioijglogoppnaa.WSharing
open Go Go.RowKit Go.Proofs.Ytioijglogoppnaa.Sx Go.Proofs.Ytioijglogoppnaa.Rnd Go.Proofs.Ytioijglogoppnaa.Nats Go.Proofs.Ytioijglogoppnaa.Trig Go.Proofs.Ytioijglogoppnaa.Quant Go.Proofs.Ytioijglogoppnaa.WNat
set_option linter.unusedVariables false
set_option linter.unusedSimpArgs false
theorem times_digs (A1 : Option Addr) (c1 : Nat) (x : Nat) (A2 : Option Addr) (c2 : Nat) (y : Nat) (w : World) (hr1 : RInts .i64 A1 (digs x) w) (hr2 : RInts .i64 A2 (digs y) w) (h1 : (digs x).length ≤ 1000) (h2 : (digs y).length ≤ 1000) :
    Calls Try.prog 88 #[.slice A1 (digs x).length c1, .slice A2 (digs y).length c2] w fun e w' => ∃ x_ : Option Addr × Nat, e = .returned (match x_ with | (A, c) => .slice A (digs (x * y)).length c) ∧ Mem w (match x_ with | (A, c) => [.row A (digs (x * y)).length c 3 1 (iv .i64 (digs (x * y)))]) w' := by
  have z := times_calls A1 c1 (digs x) A2 c2 (digs y) w hr1 hr2 (digs_dig x) (digs_dig y) h1 h2
  rwa [digs_val, digs_val, show ((x : Int) * (y : Int)).toNat = x * y by rw [← Int.natCast_mul, Int.toNat_natCast]] at z
theorem cell_below {w w' : World} {a : Addr} {v : Value} (hb : Below w.heap.size w w') (h : w.cell? a = some v) : w'.cell? a = some v := (hb.cell (World.block_lt_of_cell? w a h)).trans h
end Go.Proofs.Ytioijglogoppnaa.WSharing
