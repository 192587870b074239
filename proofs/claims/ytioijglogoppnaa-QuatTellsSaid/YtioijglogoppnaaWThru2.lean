/- Walks of the reference's Through. No condition. -/
import Derived.Test.YtioijglogoppnaaProg
import Derived.Test.YtioijglogoppnaaSxOps
import Derived.Test.YtioijglogoppnaaDivSpec
import Derived.Test.YtioijglogoppnaaWThru
import Derived.Test.YtioijglogoppnaaWClamp
import Derived.Test.YtioijglogoppnaaWNat
import Derived.Test.YtioijglogoppnaaWSharing
namespace Go.Proofs.Ytioijglogoppnaa.WThru2
open Go Go.RowKit Go.Proofs.Ytioijglogoppnaa.Sx Go.Proofs.Ytioijglogoppnaa.Rnd Go.Proofs.Ytioijglogoppnaa.Nats Go.Proofs.Ytioijglogoppnaa.Trig Go.Proofs.Ytioijglogoppnaa.Vecs Go.Proofs.Ytioijglogoppnaa.Divs Go.Proofs.Ytioijglogoppnaa.WThru Go.Proofs.Ytioijglogoppnaa.WClamp Go.Proofs.Ytioijglogoppnaa.WNat Go.Proofs.Ytioijglogoppnaa.WSharing
set_option linter.unusedVariables false
set_option linter.unusedSimpArgs false
theorem Limit_as (a x : Int) (w : World) (h : min (max a (-1099511627776)) 1099511627776 = x) : Calls Try.prog 19 #[.int .i64 a] w fun e w' => e = .returned (.int .i64 x) ∧ Below w.heap.size w w' := by
  subst h; exact Limit_calls a w
theorem digs_mid {n : Nat} (h : n ≤ 2199023255552 * 1099511627776) : (digs n).length ≤ 1000 := Nat.le_trans (digs_length (k := 6) (by omega)) (by decide)
set_option maxHeartbeats 4000000 in
set_option maxRecDepth 100000 in
theorem Through1_calls (n D tw : Nat) (p1 p2 : Addr) (Ax : Option Addr) (cx : Nat) (Ay : Option Addr) (cy : Nat) (w : World) (h1 : w.cell? p1 = some (.slice Ax (digs D).length cx)) (h2 : w.cell? p2 = some (.slice Ay (digs tw).length cy)) (hr1 : RInts .i64 Ax (digs D) w) (hr2 : RInts .i64 Ay (digs tw) w) (hn0 : 0 < n) (hn : n ≤ 1099511627776) (hDM : D ≤ 1099511627776) (htw : (digs tw).length ≤ 1000) : Calls Try.prog 90 #[vI (n : Int), .pointer (some (p1)), .pointer (some (p2))] w fun e w' => e = .returned (.bool (decide ((2 * n - 1) * D ≤ tw))) ∧ Below w.heap.size w w' := by
 have hd : IntKind.i64.wrap (2 * (n : Int)) = 2 * (n : Int) := by rw [i64w]; omega
 have hd1 : IntKind.i64.wrap (2 * (n : Int) - 1) = ((2 * n - 1 : Nat) : Int) := by rw [i64w]; omega
 have hL : (digs ((2 * n - 1) * D)).length ≤ 1000 := digs_mid (Nat.mul_le_mul (show 2 * n - 1 ≤ 2199023255552 by omega) hDM)
 have hLD : (digs D).length ≤ 1000 := Nat.le_trans (digs_length (k := 5) (by omega)) (by decide)
 refine sx_calls Try.func90 rfl (n := 13) (by kernel_rfl) (l := [(0, vI (n : Int)), (1, .pointer (some (p1))), (2, .pointer (some (p2)))]) rfl (by rfl) (Mem.nil w) ?_
 refine st_seq ?_
 refine st_region [oF 0] (by rfl) ?_
 refine oR [oF 0] [(0, vI (n : Int)), (1, .pointer (some (p1))), (2, .pointer (some (p2)))] [0, 1, 2] (by kernel_rfl) ?_
 refine ops_nil ?_
 refine fin_then ?_
 refine st_seq ?_
 refine st_region_draw [oT 0, oT 1, oT 2, oT 4, oT 6, oF 3, oF 5, oF 7, oT 8] (Mem w []) (by kernel_rfl) (by kernel_rfl) (by kernel_rfl) (fun _ d _ _ _ h => by cases d <;> exact h) (M' := Mem w []) (fun w_ hM => ⟨hM.drew, hM.drew.sub .slnil⟩) ?_
 refine oR [oT 0, oT 1] [(6, vI (IntKind.i64.wrap (2 * (n : Int)))), (1, .pointer (some (p1))), (2, .pointer (some (p2)))] [6, 1, 2] (by kernel_rfl) ?_
 refine ops_conv (l' := [(6, vI (2 * (n : Int))), (1, .pointer (some (p1))), (2, .pointer (some (p2)))]) (by rw [hd]) (fun _ h => h) ?_
 refine oR [oT 2] [(7, vI (IntKind.i64.wrap ((2 * (n : Int)) - 1))), (1, .pointer (some (p1))), (2, .pointer (some (p2)))] [7, 1, 2] (by kernel_rfl) ?_
 refine ops_conv (l' := [(7, vI ((2 * n - 1 : Nat) : Int)), (1, .pointer (some (p1))), (2, .pointer (some (p2)))]) (by rw [hd1]) (fun _ h => h) ?_
 refine ops_load (d := some 9) (an := [.v (.slice Ax ((digs D).length) cx)]) (evs := [.load (p1) (.slice Ax ((digs D).length) cx)]) (v := .slice Ax ((digs D).length) cx) ⟨by kernel_rfl⟩ (fun w_ hM => ⟨hM.oldcell h1, rfl⟩) ?_
 refine oR [] [(9, .slice Ax ((digs D).length) cx), (7, vI ((2 * n - 1 : Nat) : Int)), (2, .pointer (some (p2)))] [9, 7, 2] (by kernel_rfl) ?_
 refine ops_load (d := some 11) (an := [.v (.slice Ay ((digs tw).length) cy)]) (evs := [.load (p2) (.slice Ay ((digs tw).length) cy)]) (v := .slice Ay ((digs tw).length) cy) ⟨by kernel_rfl⟩ (fun w_ hM => ⟨hM.oldcell h2, rfl⟩) ?_
 refine oR [] [(11, .slice Ay ((digs tw).length) cy), (9, .slice Ax ((digs D).length) cx), (7, vI ((2 * n - 1 : Nat) : Int))] [11, 9, 7] (by kernel_rfl) ?_
 refine ops_call (σ := Option Addr × Nat) (d := some 8) (f := 87) (args := #[vI ((2 * n - 1 : Nat) : Int)]) (v := fun x_ => match x_ with | (A1, c2) => .slice A1 ((digs (2 * n - 1)).length) c2) (M' := fun x_ => match x_ with | (A1, c2) => Mem w [.row A1 ((digs (2 * n - 1)).length) c2 3 1 (iv .i64 (digs (2 * n - 1)))]) ⟨by kernel_rfl⟩ (fun w_ hM hS => (natOf_calls (2 * n - 1) w_ (by omega)).mono (by rintro e w' ⟨x_, rfl, h2⟩; exact ⟨x_, rfl, hM.join h2 rfl, hS.step h2.below⟩)) ?_
 rintro ⟨A1, c2⟩
 refine ops_conv (l' := [(8, .slice A1 ((digs (2 * n - 1)).length) c2), (11, .slice Ay ((digs tw).length) cy), (9, .slice Ax ((digs D).length) cx), (7, vI ((2 * n - 1 : Nat) : Int))]) (M' := Mem w [.row A1 ((digs (2 * n - 1)).length) c2 3 1 (iv .i64 (digs (2 * n - 1)))]) rfl (fun _ h => h) ?_
 refine oR [] [(8, .slice A1 ((digs (2 * n - 1)).length) c2), (11, .slice Ay ((digs tw).length) cy), (9, .slice Ax ((digs D).length) cx)] [8, 11, 9] (by kernel_rfl) ?_
 refine ops_call (σ := Option Addr × Nat) (d := some 10) (f := 88) (args := #[.slice A1 ((digs (2 * n - 1)).length) c2, .slice Ax ((digs D).length) cx]) (v := fun x_ => match x_ with | (A3, c4) => .slice A3 ((digs ((2 * n - 1) * D)).length) c4) (M' := fun x_ => match x_ with | (A3, c4) => Mem w [.row A3 ((digs ((2 * n - 1) * D)).length) c4 3 1 (iv .i64 (digs ((2 * n - 1) * D))), .row A1 ((digs (2 * n - 1)).length) c2 3 1 (iv .i64 (digs (2 * n - 1)))]) ⟨by kernel_rfl⟩ (fun w_ hM hS => (times_digs A1 c2 (2 * n - 1) Ax cx D w_ (hM.rints 0 rfl) (hr1.mem hM) (by first | assumption | exact Nat.le_trans (digs_length (k := 5) (by omega)) (by decide)) (by first | assumption | exact Nat.le_trans (digs_length (k := 5) (by omega)) (by decide))).mono (by rintro e w' ⟨x_, rfl, h2⟩; exact ⟨x_, rfl, hM.join h2 rfl, hS.step h2.below⟩)) ?_
 rintro ⟨A3, c4⟩
 refine ops_conv (l' := [(10, .slice A3 ((digs ((2 * n - 1) * D)).length) c4), (8, .slice A1 ((digs (2 * n - 1)).length) c2), (11, .slice Ay ((digs tw).length) cy), (9, .slice Ax ((digs D).length) cx)]) (M' := Mem w [.row A3 ((digs ((2 * n - 1) * D)).length) c4 3 1 (iv .i64 (digs ((2 * n - 1) * D))), .row A1 ((digs (2 * n - 1)).length) c2 3 1 (iv .i64 (digs (2 * n - 1)))]) rfl (fun _ h => h) ?_
 refine oR [] [(10, .slice A3 ((digs ((2 * n - 1) * D)).length) c4), (11, .slice Ay ((digs tw).length) cy)] [10, 11] (by kernel_rfl) ?_
 refine oCS (some 12) 91 #[.slice A3 ((digs ((2 * n - 1) * D)).length) c4, .slice Ay ((digs tw).length) cy] (.bool (decide ((2 * n - 1) * D ≤ tw))) ⟨by kernel_rfl⟩ (fun w_ hM => atMost_calls A3 c4 ((2 * n - 1) * D) Ay cy tw w_ (hM.rints 0 rfl) (hr2.mem hM) (by first | assumption | exact Nat.le_trans (digs_length (k := 5) (by omega)) (by decide)) (by first | assumption | exact Nat.le_trans (digs_length (k := 5) (by omega)) (by decide))) ?_
 refine oR [oT 8] [(4, .bool (decide ((2 * n - 1) * D ≤ tw)))] [4] (by kernel_rfl) ?_
 refine ops_nil ?_
 refine fin_then ?_
 refine st_ret ?_
 refine fin_ret [.tmp 4] [.bool (decide ((2 * n - 1) * D ≤ tw))] rfl rfl (fun w_ hM => (.tmp rfl .nil)) (fun w_ hM => ?_)
 refine ⟨?_, hM.done⟩
 rfl
set_option maxHeartbeats 4000000 in
set_option maxRecDepth 100000 in
theorem Through2_calls (n D tw : Nat) (p1 p2 : Addr) (Ax : Option Addr) (cx : Nat) (Ay : Option Addr) (cy : Nat) (w : World) (h1 : w.cell? p1 = some (.slice Ay (digs tw).length cy)) (h2 : w.cell? p2 = some (.slice Ax (digs D).length cx)) (hr1 : RInts .i64 Ax (digs D) w) (hr2 : RInts .i64 Ay (digs tw) w) (hn0 : 0 < n) (hn : n ≤ 1099511627776) (hDM : D ≤ 1099511627776) (htw : (digs tw).length ≤ 1000) : Calls Try.prog 92 #[vI (n : Int), .pointer (some (p1)), .pointer (some (p2))] w fun e w' => e = .returned (.bool (!decide (tw ≤ (2 * n - 1) * D))) ∧ Below w.heap.size w w' := by
 have hd : IntKind.i64.wrap (2 * (n : Int)) = 2 * (n : Int) := by rw [i64w]; omega
 have hd1 : IntKind.i64.wrap (2 * (n : Int) - 1) = ((2 * n - 1 : Nat) : Int) := by rw [i64w]; omega
 have hL : (digs ((2 * n - 1) * D)).length ≤ 1000 := digs_mid (Nat.mul_le_mul (show 2 * n - 1 ≤ 2199023255552 by omega) hDM)
 have hLD : (digs D).length ≤ 1000 := Nat.le_trans (digs_length (k := 5) (by omega)) (by decide)
 refine sx_calls Try.func92 rfl (n := 14) (by kernel_rfl) (l := [(0, vI (n : Int)), (1, .pointer (some (p1))), (2, .pointer (some (p2)))]) rfl (by rfl) (Mem.nil w) ?_
 refine st_seq ?_
 refine st_region [oF 0] (by rfl) ?_
 refine oR [oF 0] [(0, vI (n : Int)), (1, .pointer (some (p1))), (2, .pointer (some (p2)))] [0, 1, 2] (by kernel_rfl) ?_
 refine ops_nil ?_
 refine fin_then ?_
 refine st_seq ?_
 refine st_region_draw [oT 0, oT 1, oT 2, oT 3, oT 5, oF 4, oF 6, oF 7, oT 8, oT 9] (Mem w []) (by kernel_rfl) (by kernel_rfl) (by kernel_rfl) (fun _ d _ _ _ h => by cases d <;> exact h) (M' := Mem w []) (fun w_ hM => ⟨hM.drew, hM.drew.sub .slnil⟩) ?_
 refine ops_load (d := some 5) (an := [.v (.slice Ay ((digs tw).length) cy)]) (evs := [.load (p1) (.slice Ay ((digs tw).length) cy)]) (v := .slice Ay ((digs tw).length) cy) ⟨by kernel_rfl⟩ (fun w_ hM => ⟨hM.oldcell h1, rfl⟩) ?_
 refine oR [oT 1, oT 2] [(7, vI (IntKind.i64.wrap (2 * (n : Int)))), (5, .slice Ay ((digs tw).length) cy), (2, .pointer (some (p2)))] [7, 5, 2] (by kernel_rfl) ?_
 refine ops_conv (l' := [(7, vI (2 * (n : Int))), (5, .slice Ay ((digs tw).length) cy), (2, .pointer (some (p2)))]) (by rw [hd]) (fun _ h => h) ?_
 refine oR [oT 3] [(8, vI (IntKind.i64.wrap ((2 * (n : Int)) - 1))), (5, .slice Ay ((digs tw).length) cy), (2, .pointer (some (p2)))] [8, 5, 2] (by kernel_rfl) ?_
 refine ops_conv (l' := [(8, vI ((2 * n - 1 : Nat) : Int)), (5, .slice Ay ((digs tw).length) cy), (2, .pointer (some (p2)))]) (by rw [hd1]) (fun _ h => h) ?_
 refine ops_load (d := some 10) (an := [.v (.slice Ax ((digs D).length) cx)]) (evs := [.load (p2) (.slice Ax ((digs D).length) cx)]) (v := .slice Ax ((digs D).length) cx) ⟨by kernel_rfl⟩ (fun w_ hM => ⟨hM.oldcell h2, rfl⟩) ?_
 refine oR [] [(10, .slice Ax ((digs D).length) cx), (8, vI ((2 * n - 1 : Nat) : Int)), (5, .slice Ay ((digs tw).length) cy)] [10, 8, 5] (by kernel_rfl) ?_
 refine ops_call (σ := Option Addr × Nat) (d := some 9) (f := 87) (args := #[vI ((2 * n - 1 : Nat) : Int)]) (v := fun x_ => match x_ with | (A1, c2) => .slice A1 ((digs (2 * n - 1)).length) c2) (M' := fun x_ => match x_ with | (A1, c2) => Mem w [.row A1 ((digs (2 * n - 1)).length) c2 3 1 (iv .i64 (digs (2 * n - 1)))]) ⟨by kernel_rfl⟩ (fun w_ hM hS => (natOf_calls (2 * n - 1) w_ (by omega)).mono (by rintro e w' ⟨x_, rfl, h2⟩; exact ⟨x_, rfl, hM.join h2 rfl, hS.step h2.below⟩)) ?_
 rintro ⟨A1, c2⟩
 refine ops_conv (l' := [(9, .slice A1 ((digs (2 * n - 1)).length) c2), (10, .slice Ax ((digs D).length) cx), (8, vI ((2 * n - 1 : Nat) : Int)), (5, .slice Ay ((digs tw).length) cy)]) (M' := Mem w [.row A1 ((digs (2 * n - 1)).length) c2 3 1 (iv .i64 (digs (2 * n - 1)))]) rfl (fun _ h => h) ?_
 refine oR [] [(9, .slice A1 ((digs (2 * n - 1)).length) c2), (10, .slice Ax ((digs D).length) cx), (5, .slice Ay ((digs tw).length) cy)] [9, 10, 5] (by kernel_rfl) ?_
 refine ops_call (σ := Option Addr × Nat) (d := some 11) (f := 88) (args := #[.slice A1 ((digs (2 * n - 1)).length) c2, .slice Ax ((digs D).length) cx]) (v := fun x_ => match x_ with | (A3, c4) => .slice A3 ((digs ((2 * n - 1) * D)).length) c4) (M' := fun x_ => match x_ with | (A3, c4) => Mem w [.row A3 ((digs ((2 * n - 1) * D)).length) c4 3 1 (iv .i64 (digs ((2 * n - 1) * D))), .row A1 ((digs (2 * n - 1)).length) c2 3 1 (iv .i64 (digs (2 * n - 1)))]) ⟨by kernel_rfl⟩ (fun w_ hM hS => (times_digs A1 c2 (2 * n - 1) Ax cx D w_ (hM.rints 0 rfl) (hr1.mem hM) (by first | assumption | exact Nat.le_trans (digs_length (k := 5) (by omega)) (by decide)) (by first | assumption | exact Nat.le_trans (digs_length (k := 5) (by omega)) (by decide))).mono (by rintro e w' ⟨x_, rfl, h2⟩; exact ⟨x_, rfl, hM.join h2 rfl, hS.step h2.below⟩)) ?_
 rintro ⟨A3, c4⟩
 refine ops_conv (l' := [(11, .slice A3 ((digs ((2 * n - 1) * D)).length) c4), (9, .slice A1 ((digs (2 * n - 1)).length) c2), (10, .slice Ax ((digs D).length) cx), (5, .slice Ay ((digs tw).length) cy)]) (M' := Mem w [.row A3 ((digs ((2 * n - 1) * D)).length) c4 3 1 (iv .i64 (digs ((2 * n - 1) * D))), .row A1 ((digs (2 * n - 1)).length) c2 3 1 (iv .i64 (digs (2 * n - 1)))]) rfl (fun _ h => h) ?_
 refine oR [] [(11, .slice A3 ((digs ((2 * n - 1) * D)).length) c4), (5, .slice Ay ((digs tw).length) cy)] [11, 5] (by kernel_rfl) ?_
 refine oCS (some 12) 91 #[.slice Ay ((digs tw).length) cy, .slice A3 ((digs ((2 * n - 1) * D)).length) c4] (.bool (decide (tw ≤ (2 * n - 1) * D))) ⟨by kernel_rfl⟩ (fun w_ hM => atMost_calls Ay cy tw A3 c4 ((2 * n - 1) * D) w_ (hr2.mem hM) (hM.rints 0 rfl) (by first | assumption | exact Nat.le_trans (digs_length (k := 5) (by omega)) (by decide)) (by first | assumption | exact Nat.le_trans (digs_length (k := 5) (by omega)) (by decide))) ?_
 refine oR [oT 8, oT 9] [(4, .bool (!(decide (tw ≤ (2 * n - 1) * D))))] [4] (by kernel_rfl) ?_
 refine ops_nil ?_
 refine fin_then ?_
 refine st_ret ?_
 refine fin_ret [.tmp 4] [.bool (!(decide (tw ≤ (2 * n - 1) * D)))] rfl rfl (fun w_ hM => (.tmp rfl .nil)) (fun w_ hM => ?_)
 refine ⟨?_, hM.done⟩
 rfl
end Go.Proofs.Ytioijglogoppnaa.WThru2
