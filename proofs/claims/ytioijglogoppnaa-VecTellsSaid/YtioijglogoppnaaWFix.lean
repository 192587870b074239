/- Walks of package fix's Add, Sub, Mul and Div and of the reference's. No condition. -/
import Derived.Test.YtioijglogoppnaaProg
import Derived.Test.YtioijglogoppnaaSxOps
import Derived.Test.YtioijglogoppnaaDivSpec
import Derived.Test.YtioijglogoppnaaWThru
import Derived.Test.YtioijglogoppnaaWThru3
import Derived.Test.YtioijglogoppnaaWClamp
namespace Go.Proofs.Ytioijglogoppnaa.WFix
open Go Go.RowKit Go.Proofs.Ytioijglogoppnaa.Sx Go.Proofs.Ytioijglogoppnaa.Rnd Go.Proofs.Ytioijglogoppnaa.Nats Go.Proofs.Ytioijglogoppnaa.Trig Go.Proofs.Ytioijglogoppnaa.Vecs Go.Proofs.Ytioijglogoppnaa.Divs Go.Proofs.Ytioijglogoppnaa.WThru Go.Proofs.Ytioijglogoppnaa.WThru3 Go.Proofs.Ytioijglogoppnaa.WClamp
set_option linter.unusedVariables false
set_option linter.unusedSimpArgs false
set_option maxHeartbeats 4000000 in
set_option maxRecDepth 100000 in
theorem Add_calls (a b : Int) (w : World) : Calls Try.prog 20 #[.int .i64 a, .int .i64 b] w fun e w' => e = .returned (.int .i64 (min (max (min (max a (-1099511627776)) 1099511627776 + min (max b (-1099511627776)) 1099511627776) (-1099511627776)) 1099511627776)) ∧ Below w.heap.size w w' := by
  refine sx_calls Try.func20 rfl (n := 11) (by kernel_rfl) (l := [(0, .int .i64 a), (1, .int .i64 b)]) rfl (by rfl) (Mem.nil w) ?_
  refine st_seq ?_
  refine st_region [(0, false)] (by rfl) ?_
  refine ops_run (is := [(0, false)]) (r := []) (l' := [(0, .int .i64 a), (1, .int .i64 b)]) [0, 1] (by kernel_rfl) ?_
  refine ops_nil ?_
  refine fin_then ?_
  refine st_seq ?_
  refine st_region [(0, false), (1, false), (2, false), (3, false), (4, false), (5, false), (6, false)] (by rfl) ?_
  refine ops_run (is := [(0, false)]) (r := [(1, false), (2, false), (3, false), (4, false), (5, false), (6, false)]) (l' := [(5, .int .i64 a), (1, .int .i64 b)]) [5, 1] (by kernel_rfl) ?_
  refine ops_call (σ := Unit) (d := some 6) (f := 18) (args := #[.int .i64 a]) (v := fun _ => .int .i64 (min (max a (-1099511627776)) 1099511627776)) (M' := fun _ => Mem w []) ⟨by kernel_rfl⟩ (fun w_ hM hS => (Clamp_calls a w_).mono (by rintro e w' ⟨rfl, hb⟩; exact ⟨(), rfl, hM.step hb, trivial⟩)) (fun _ => ?_)
  refine ops_run (is := [(2, false)]) (r := [(3, false), (4, false), (5, false), (6, false)]) (l' := [(7, .int .i64 b), (6, .int .i64 (min (max a (-1099511627776)) 1099511627776))]) [7, 6] (by kernel_rfl) ?_
  refine ops_call (σ := Unit) (d := some 8) (f := 18) (args := #[.int .i64 b]) (v := fun _ => .int .i64 (min (max b (-1099511627776)) 1099511627776)) (M' := fun _ => Mem w []) ⟨by kernel_rfl⟩ (fun w_ hM hS => (Clamp_calls b w_).mono (by rintro e w' ⟨rfl, hb⟩; exact ⟨(), rfl, hM.step hb, trivial⟩)) (fun _ => ?_)
  refine ops_run (is := [(4, false)]) (r := [(5, false), (6, false)]) (l' := [(9, .int .i64 (IntKind.i64.wrap (min (max a (-1099511627776)) 1099511627776 + min (max b (-1099511627776)) 1099511627776)))]) [9] (by kernel_rfl) ?_
  refine ops_conv (l' := [(9, .int .i64 (min (max a (-1099511627776)) 1099511627776 + min (max b (-1099511627776)) 1099511627776))]) (by rw [(i64in (x := min (max a (-1099511627776)) 1099511627776 + min (max b (-1099511627776)) 1099511627776) (by omega) (by omega))]) (fun _ h => h) ?_
  refine ops_call (σ := Unit) (d := some 10) (f := 18) (args := #[.int .i64 (min (max a (-1099511627776)) 1099511627776 + min (max b (-1099511627776)) 1099511627776)]) (v := fun _ => .int .i64 (min (max (min (max a (-1099511627776)) 1099511627776 + min (max b (-1099511627776)) 1099511627776) (-1099511627776)) 1099511627776)) (M' := fun _ => Mem w []) ⟨by kernel_rfl⟩ (fun w_ hM hS => (Clamp_calls (min (max a (-1099511627776)) 1099511627776 + min (max b (-1099511627776)) 1099511627776) w_).mono (by rintro e w' ⟨rfl, hb⟩; exact ⟨(), rfl, hM.step hb, trivial⟩)) (fun _ => ?_)
  refine ops_run (is := [(6, false)]) (r := []) (l' := [(4, .int .i64 (min (max (min (max a (-1099511627776)) 1099511627776 + min (max b (-1099511627776)) 1099511627776) (-1099511627776)) 1099511627776))]) [4] (by kernel_rfl) ?_
  refine ops_nil ?_
  refine fin_then ?_
  refine st_ret ?_
  refine fin_ret [.tmp 4] [.int .i64 (min (max (min (max a (-1099511627776)) 1099511627776 + min (max b (-1099511627776)) 1099511627776) (-1099511627776)) 1099511627776)] rfl rfl (fun w_ hM => (.tmp rfl .nil)) (fun w_ hM => ?_)
  refine ⟨?_, hM.done⟩
  rfl
set_option maxHeartbeats 4000000 in
set_option maxRecDepth 100000 in
theorem Sub_calls (a b : Int) (w : World) : Calls Try.prog 22 #[.int .i64 a, .int .i64 b] w fun e w' => e = .returned (.int .i64 (min (max (min (max a (-1099511627776)) 1099511627776 - min (max b (-1099511627776)) 1099511627776) (-1099511627776)) 1099511627776)) ∧ Below w.heap.size w w' := by
  refine sx_calls Try.func22 rfl (n := 11) (by kernel_rfl) (l := [(0, .int .i64 a), (1, .int .i64 b)]) rfl (by rfl) (Mem.nil w) ?_
  refine st_seq ?_
  refine st_region [(0, false)] (by rfl) ?_
  refine ops_run (is := [(0, false)]) (r := []) (l' := [(0, .int .i64 a), (1, .int .i64 b)]) [0, 1] (by kernel_rfl) ?_
  refine ops_nil ?_
  refine fin_then ?_
  refine st_seq ?_
  refine st_region [(0, false), (1, false), (2, false), (3, false), (4, false), (5, false), (6, false)] (by rfl) ?_
  refine ops_run (is := [(0, false)]) (r := [(1, false), (2, false), (3, false), (4, false), (5, false), (6, false)]) (l' := [(5, .int .i64 a), (1, .int .i64 b)]) [5, 1] (by kernel_rfl) ?_
  refine ops_call (σ := Unit) (d := some 6) (f := 18) (args := #[.int .i64 a]) (v := fun _ => .int .i64 (min (max a (-1099511627776)) 1099511627776)) (M' := fun _ => Mem w []) ⟨by kernel_rfl⟩ (fun w_ hM hS => (Clamp_calls a w_).mono (by rintro e w' ⟨rfl, hb⟩; exact ⟨(), rfl, hM.step hb, trivial⟩)) (fun _ => ?_)
  refine ops_run (is := [(2, false)]) (r := [(3, false), (4, false), (5, false), (6, false)]) (l' := [(7, .int .i64 b), (6, .int .i64 (min (max a (-1099511627776)) 1099511627776))]) [7, 6] (by kernel_rfl) ?_
  refine ops_call (σ := Unit) (d := some 8) (f := 18) (args := #[.int .i64 b]) (v := fun _ => .int .i64 (min (max b (-1099511627776)) 1099511627776)) (M' := fun _ => Mem w []) ⟨by kernel_rfl⟩ (fun w_ hM hS => (Clamp_calls b w_).mono (by rintro e w' ⟨rfl, hb⟩; exact ⟨(), rfl, hM.step hb, trivial⟩)) (fun _ => ?_)
  refine ops_run (is := [(4, false)]) (r := [(5, false), (6, false)]) (l' := [(9, .int .i64 (IntKind.i64.wrap (min (max a (-1099511627776)) 1099511627776 - min (max b (-1099511627776)) 1099511627776)))]) [9] (by kernel_rfl) ?_
  refine ops_conv (l' := [(9, .int .i64 (min (max a (-1099511627776)) 1099511627776 - min (max b (-1099511627776)) 1099511627776))]) (by rw [(i64in (x := min (max a (-1099511627776)) 1099511627776 - min (max b (-1099511627776)) 1099511627776) (by omega) (by omega))]) (fun _ h => h) ?_
  refine ops_call (σ := Unit) (d := some 10) (f := 18) (args := #[.int .i64 (min (max a (-1099511627776)) 1099511627776 - min (max b (-1099511627776)) 1099511627776)]) (v := fun _ => .int .i64 (min (max (min (max a (-1099511627776)) 1099511627776 - min (max b (-1099511627776)) 1099511627776) (-1099511627776)) 1099511627776)) (M' := fun _ => Mem w []) ⟨by kernel_rfl⟩ (fun w_ hM hS => (Clamp_calls (min (max a (-1099511627776)) 1099511627776 - min (max b (-1099511627776)) 1099511627776) w_).mono (by rintro e w' ⟨rfl, hb⟩; exact ⟨(), rfl, hM.step hb, trivial⟩)) (fun _ => ?_)
  refine ops_run (is := [(6, false)]) (r := []) (l' := [(4, .int .i64 (min (max (min (max a (-1099511627776)) 1099511627776 - min (max b (-1099511627776)) 1099511627776) (-1099511627776)) 1099511627776))]) [4] (by kernel_rfl) ?_
  refine ops_nil ?_
  refine fin_then ?_
  refine st_ret ?_
  refine fin_ret [.tmp 4] [.int .i64 (min (max (min (max a (-1099511627776)) 1099511627776 - min (max b (-1099511627776)) 1099511627776) (-1099511627776)) 1099511627776)] rfl rfl (fun w_ hM => (.tmp rfl .nil)) (fun w_ hM => ?_)
  refine ⟨?_, hM.done⟩
  rfl
set_option maxHeartbeats 4000000 in
set_option maxRecDepth 100000 in
theorem Sum_calls (a b : Int) (w : World) : Calls Try.prog 21 #[.int .i64 a, .int .i64 b] w fun e w' => e = .returned (.int .i64 (min (max (min (max a (-1099511627776)) 1099511627776 + min (max b (-1099511627776)) 1099511627776) (-1099511627776)) 1099511627776)) ∧ Below w.heap.size w w' := by
  refine sx_calls Try.func21 rfl (n := 11) (by kernel_rfl) (l := [(0, .int .i64 a), (1, .int .i64 b)]) rfl (by rfl) (Mem.nil w) ?_
  refine st_seq ?_
  refine st_region [(0, false)] (by rfl) ?_
  refine ops_run (is := [(0, false)]) (r := []) (l' := [(0, .int .i64 a), (1, .int .i64 b)]) [0, 1] (by kernel_rfl) ?_
  refine ops_nil ?_
  refine fin_then ?_
  refine st_seq ?_
  refine st_region [(0, false), (1, false), (2, false), (3, false), (4, false), (5, false), (6, false)] (by rfl) ?_
  refine ops_run (is := [(0, false)]) (r := [(1, false), (2, false), (3, false), (4, false), (5, false), (6, false)]) (l' := [(5, .int .i64 a), (1, .int .i64 b)]) [5, 1] (by kernel_rfl) ?_
  refine ops_call (σ := Unit) (d := some 6) (f := 19) (args := #[.int .i64 a]) (v := fun _ => .int .i64 (min (max a (-1099511627776)) 1099511627776)) (M' := fun _ => Mem w []) ⟨by kernel_rfl⟩ (fun w_ hM hS => (Limit_calls a w_).mono (by rintro e w' ⟨rfl, hb⟩; exact ⟨(), rfl, hM.step hb, trivial⟩)) (fun _ => ?_)
  refine ops_run (is := [(2, false)]) (r := [(3, false), (4, false), (5, false), (6, false)]) (l' := [(7, .int .i64 b), (6, .int .i64 (min (max a (-1099511627776)) 1099511627776))]) [7, 6] (by kernel_rfl) ?_
  refine ops_call (σ := Unit) (d := some 8) (f := 19) (args := #[.int .i64 b]) (v := fun _ => .int .i64 (min (max b (-1099511627776)) 1099511627776)) (M' := fun _ => Mem w []) ⟨by kernel_rfl⟩ (fun w_ hM hS => (Limit_calls b w_).mono (by rintro e w' ⟨rfl, hb⟩; exact ⟨(), rfl, hM.step hb, trivial⟩)) (fun _ => ?_)
  refine ops_run (is := [(4, false)]) (r := [(5, false), (6, false)]) (l' := [(9, .int .i64 (IntKind.i64.wrap (min (max a (-1099511627776)) 1099511627776 + min (max b (-1099511627776)) 1099511627776)))]) [9] (by kernel_rfl) ?_
  refine ops_conv (l' := [(9, .int .i64 (min (max a (-1099511627776)) 1099511627776 + min (max b (-1099511627776)) 1099511627776))]) (by rw [(i64in (x := min (max a (-1099511627776)) 1099511627776 + min (max b (-1099511627776)) 1099511627776) (by omega) (by omega))]) (fun _ h => h) ?_
  refine ops_call (σ := Unit) (d := some 10) (f := 19) (args := #[.int .i64 (min (max a (-1099511627776)) 1099511627776 + min (max b (-1099511627776)) 1099511627776)]) (v := fun _ => .int .i64 (min (max (min (max a (-1099511627776)) 1099511627776 + min (max b (-1099511627776)) 1099511627776) (-1099511627776)) 1099511627776)) (M' := fun _ => Mem w []) ⟨by kernel_rfl⟩ (fun w_ hM hS => (Limit_calls (min (max a (-1099511627776)) 1099511627776 + min (max b (-1099511627776)) 1099511627776) w_).mono (by rintro e w' ⟨rfl, hb⟩; exact ⟨(), rfl, hM.step hb, trivial⟩)) (fun _ => ?_)
  refine ops_run (is := [(6, false)]) (r := []) (l' := [(4, .int .i64 (min (max (min (max a (-1099511627776)) 1099511627776 + min (max b (-1099511627776)) 1099511627776) (-1099511627776)) 1099511627776))]) [4] (by kernel_rfl) ?_
  refine ops_nil ?_
  refine fin_then ?_
  refine st_ret ?_
  refine fin_ret [.tmp 4] [.int .i64 (min (max (min (max a (-1099511627776)) 1099511627776 + min (max b (-1099511627776)) 1099511627776) (-1099511627776)) 1099511627776)] rfl rfl (fun w_ hM => (.tmp rfl .nil)) (fun w_ hM => ?_)
  refine ⟨?_, hM.done⟩
  rfl
set_option maxHeartbeats 4000000 in
set_option maxRecDepth 100000 in
theorem Less_calls (a b : Int) (w : World) : Calls Try.prog 23 #[.int .i64 a, .int .i64 b] w fun e w' => e = .returned (.int .i64 (min (max (min (max a (-1099511627776)) 1099511627776 - min (max b (-1099511627776)) 1099511627776) (-1099511627776)) 1099511627776)) ∧ Below w.heap.size w w' := by
  refine sx_calls Try.func23 rfl (n := 11) (by kernel_rfl) (l := [(0, .int .i64 a), (1, .int .i64 b)]) rfl (by rfl) (Mem.nil w) ?_
  refine st_seq ?_
  refine st_region [(0, false)] (by rfl) ?_
  refine ops_run (is := [(0, false)]) (r := []) (l' := [(0, .int .i64 a), (1, .int .i64 b)]) [0, 1] (by kernel_rfl) ?_
  refine ops_nil ?_
  refine fin_then ?_
  refine st_seq ?_
  refine st_region [(0, false), (1, false), (2, false), (3, false), (4, false), (5, false), (6, false)] (by rfl) ?_
  refine ops_run (is := [(0, false)]) (r := [(1, false), (2, false), (3, false), (4, false), (5, false), (6, false)]) (l' := [(5, .int .i64 a), (1, .int .i64 b)]) [5, 1] (by kernel_rfl) ?_
  refine ops_call (σ := Unit) (d := some 6) (f := 19) (args := #[.int .i64 a]) (v := fun _ => .int .i64 (min (max a (-1099511627776)) 1099511627776)) (M' := fun _ => Mem w []) ⟨by kernel_rfl⟩ (fun w_ hM hS => (Limit_calls a w_).mono (by rintro e w' ⟨rfl, hb⟩; exact ⟨(), rfl, hM.step hb, trivial⟩)) (fun _ => ?_)
  refine ops_run (is := [(2, false)]) (r := [(3, false), (4, false), (5, false), (6, false)]) (l' := [(7, .int .i64 b), (6, .int .i64 (min (max a (-1099511627776)) 1099511627776))]) [7, 6] (by kernel_rfl) ?_
  refine ops_call (σ := Unit) (d := some 8) (f := 19) (args := #[.int .i64 b]) (v := fun _ => .int .i64 (min (max b (-1099511627776)) 1099511627776)) (M' := fun _ => Mem w []) ⟨by kernel_rfl⟩ (fun w_ hM hS => (Limit_calls b w_).mono (by rintro e w' ⟨rfl, hb⟩; exact ⟨(), rfl, hM.step hb, trivial⟩)) (fun _ => ?_)
  refine ops_run (is := [(4, false)]) (r := [(5, false), (6, false)]) (l' := [(9, .int .i64 (IntKind.i64.wrap (min (max a (-1099511627776)) 1099511627776 - min (max b (-1099511627776)) 1099511627776)))]) [9] (by kernel_rfl) ?_
  refine ops_conv (l' := [(9, .int .i64 (min (max a (-1099511627776)) 1099511627776 - min (max b (-1099511627776)) 1099511627776))]) (by rw [(i64in (x := min (max a (-1099511627776)) 1099511627776 - min (max b (-1099511627776)) 1099511627776) (by omega) (by omega))]) (fun _ h => h) ?_
  refine ops_call (σ := Unit) (d := some 10) (f := 19) (args := #[.int .i64 (min (max a (-1099511627776)) 1099511627776 - min (max b (-1099511627776)) 1099511627776)]) (v := fun _ => .int .i64 (min (max (min (max a (-1099511627776)) 1099511627776 - min (max b (-1099511627776)) 1099511627776) (-1099511627776)) 1099511627776)) (M' := fun _ => Mem w []) ⟨by kernel_rfl⟩ (fun w_ hM hS => (Limit_calls (min (max a (-1099511627776)) 1099511627776 - min (max b (-1099511627776)) 1099511627776) w_).mono (by rintro e w' ⟨rfl, hb⟩; exact ⟨(), rfl, hM.step hb, trivial⟩)) (fun _ => ?_)
  refine ops_run (is := [(6, false)]) (r := []) (l' := [(4, .int .i64 (min (max (min (max a (-1099511627776)) 1099511627776 - min (max b (-1099511627776)) 1099511627776) (-1099511627776)) 1099511627776))]) [4] (by kernel_rfl) ?_
  refine ops_nil ?_
  refine fin_then ?_
  refine st_ret ?_
  refine fin_ret [.tmp 4] [.int .i64 (min (max (min (max a (-1099511627776)) 1099511627776 - min (max b (-1099511627776)) 1099511627776) (-1099511627776)) 1099511627776)] rfl rfl (fun w_ hM => (.tmp rfl .nil)) (fun w_ hM => ?_)
  refine ⟨?_, hM.done⟩
  rfl
set_option maxHeartbeats 4000000 in
set_option maxRecDepth 100000 in
theorem Mul_calls (a b : Int) (w : World) : Calls Try.prog 15 #[.int .i64 a, .int .i64 b] w fun e w' => e = .returned (.int .i64 (thruV a b 65536)) ∧ Below w.heap.size w w' := by
  refine sx_calls Try.func15 rfl (n := 8) (by kernel_rfl) (l := [(0, .int .i64 a), (1, .int .i64 b)]) rfl (by rfl) (Mem.nil w) ?_
  refine st_seq ?_
  refine st_region [(0, false)] (by rfl) ?_
  refine ops_run (is := [(0, false)]) (r := []) (l' := [(0, .int .i64 a), (1, .int .i64 b)]) [0, 1] (by kernel_rfl) ?_
  refine ops_nil ?_
  refine fin_then ?_
  refine st_seq ?_
  refine st_region [(0, false), (1, false), (2, false), (3, false)] (by rfl) ?_
  refine ops_run (is := [(0, false), (1, false)]) (r := [(2, false), (3, false)]) (l' := [(6, .int .i64 b), (5, .int .i64 a)]) [6, 5] (by kernel_rfl) ?_
  refine ops_call (σ := Unit) (d := some 7) (f := 25) (args := #[.int .i64 a, .int .i64 b, .int .i64 65536]) (v := fun _ => .int .i64 (thruV a b 65536)) (M' := fun _ => Mem w []) ⟨by kernel_rfl⟩ (fun w_ hM hS => (MulDiv_calls a b 65536 w_).mono (by rintro e w' ⟨rfl, hb⟩; exact ⟨(), rfl, hM.step hb, trivial⟩)) (fun _ => ?_)
  refine ops_run (is := [(3, false)]) (r := []) (l' := [(4, .int .i64 (thruV a b 65536))]) [4] (by kernel_rfl) ?_
  refine ops_nil ?_
  refine fin_then ?_
  refine st_ret ?_
  refine fin_ret [.tmp 4] [.int .i64 (thruV a b 65536)] rfl rfl (fun w_ hM => (.tmp rfl .nil)) (fun w_ hM => ?_)
  refine ⟨?_, hM.done⟩
  rfl
set_option maxHeartbeats 4000000 in
set_option maxRecDepth 100000 in
theorem Product_calls (a b : Int) (w : World) : Calls Try.prog 24 #[.int .i64 a, .int .i64 b] w fun e w' => e = .returned (.int .i64 (thruV a b 65536)) ∧ Below w.heap.size w w' := by
  refine sx_calls Try.func24 rfl (n := 8) (by kernel_rfl) (l := [(0, .int .i64 a), (1, .int .i64 b)]) rfl (by rfl) (Mem.nil w) ?_
  refine st_seq ?_
  refine st_region [(0, false)] (by rfl) ?_
  refine ops_run (is := [(0, false)]) (r := []) (l' := [(0, .int .i64 a), (1, .int .i64 b)]) [0, 1] (by kernel_rfl) ?_
  refine ops_nil ?_
  refine fin_then ?_
  refine st_seq ?_
  refine st_region [(0, false), (1, false), (2, false), (3, false)] (by rfl) ?_
  refine ops_run (is := [(0, false), (1, false)]) (r := [(2, false), (3, false)]) (l' := [(6, .int .i64 b), (5, .int .i64 a)]) [6, 5] (by kernel_rfl) ?_
  refine ops_call (σ := Unit) (d := some 7) (f := 17) (args := #[.int .i64 a, .int .i64 b, .int .i64 65536]) (v := fun _ => .int .i64 (thruV a b 65536)) (M' := fun _ => Mem w []) ⟨by kernel_rfl⟩ (fun w_ hM hS => (Through_calls a b 65536 w_).mono (by rintro e w' ⟨rfl, hb⟩; exact ⟨(), rfl, hM.step hb, trivial⟩)) (fun _ => ?_)
  refine ops_run (is := [(3, false)]) (r := []) (l' := [(4, .int .i64 (thruV a b 65536))]) [4] (by kernel_rfl) ?_
  refine ops_nil ?_
  refine fin_then ?_
  refine st_ret ?_
  refine fin_ret [.tmp 4] [.int .i64 (thruV a b 65536)] rfl rfl (fun w_ hM => (.tmp rfl .nil)) (fun w_ hM => ?_)
  refine ⟨?_, hM.done⟩
  rfl
set_option maxHeartbeats 4000000 in
set_option maxRecDepth 100000 in
theorem Div_zero (a : Int) (w : World) : Calls Try.prog 16 #[.int .i64 a, .int .i64 0] w fun e w' => e = .returned (.tuple #[.int .i64 0, .int .i64 17]) ∧ Below w.heap.size w w' := by
  refine sx_calls Try.func16 rfl (n := 11) (by kernel_rfl) (l := [(0, .int .i64 a), (1, .int .i64 0)]) rfl (by rfl) (Mem.nil w) ?_
  refine st_seq ?_
  refine st_region [(0, false), (1, false)] (by rfl) ?_
  refine ops_run (is := [(0, false), (1, false)]) (r := []) (l' := [(0, .int .i64 a), (1, .int .i64 0)]) [0, 1] (by kernel_rfl) ?_
  refine ops_nil ?_
  refine fin_then ?_
  refine st_seq ?_
  refine st_seq ?_
  refine st_region [(0, false), (1, false)] (by rfl) ?_
  refine ops_run (is := [(0, false), (1, false)]) (r := []) (l' := [(7, .bool true), (0, .int .i64 a), (1, .int .i64 0)]) [7, 0, 1] (by kernel_rfl) ?_
  refine ops_nil ?_
  refine fin_then ?_
  refine st_true rfl ?_
  refine st_seq ?_
  refine st_region [(0, false), (1, false)] (by rfl) ?_
  refine ops_run (is := [(0, false), (1, false)]) (r := []) (l' := [(5, .int .i64 17), (4, .int .i64 0)]) [5, 4] (by kernel_rfl) ?_
  refine ops_nil ?_
  refine fin_then ?_
  refine st_ret ?_
  refine fin_ret_then ?_
  refine fin_ret [.tmp 4, .tmp 5] [.int .i64 0, .int .i64 17] rfl rfl (fun w_ hM => (.tmp rfl (.tmp rfl .nil))) (fun w_ hM => ?_)
  refine ⟨?_, hM.done⟩
  rfl
set_option maxHeartbeats 4000000 in
set_option maxRecDepth 100000 in
theorem Div_some (a b : Int) (w : World) (hb : b ≠ 0) : Calls Try.prog 16 #[.int .i64 a, .int .i64 b] w fun e w' => e = .returned (.tuple #[.int .i64 (thruV a 65536 b), .int .i64 0]) ∧ Below w.heap.size w w' := by
  refine sx_calls Try.func16 rfl (n := 11) (by kernel_rfl) (l := [(0, .int .i64 a), (1, .int .i64 b)]) rfl (by rfl) (Mem.nil w) ?_
  refine st_seq ?_
  refine st_region [(0, false), (1, false)] (by rfl) ?_
  refine ops_run (is := [(0, false), (1, false)]) (r := []) (l' := [(0, .int .i64 a), (1, .int .i64 b)]) [0, 1] (by kernel_rfl) ?_
  refine ops_nil ?_
  refine fin_then ?_
  refine st_seq ?_
  refine st_seq ?_
  refine st_region [(0, false), (1, false)] (by rfl) ?_
  refine ops_run (is := [(0, false), (1, false)]) (r := []) (l' := [(7, .bool (b == 0)), (0, .int .i64 a), (1, .int .i64 b)]) [7, 0, 1] (by kernel_rfl) ?_
  refine ops_nil ?_
  refine fin_then ?_
  refine st_conv (l' := [(7, .bool false), (0, .int .i64 a), (1, .int .i64 b)]) (by rw [(show (b == 0) = false by simp; omega)]) (fun _ h => h) ?_
  refine st_false rfl ?_
  refine st_skip ?_
  refine fin_then ?_
  refine st_seq ?_
  refine st_region [(0, false), (1, false), (2, false), (3, false), (4, false)] (by rfl) ?_
  refine ops_run (is := [(0, false), (1, false)]) (r := [(2, false), (3, false), (4, false)]) (l' := [(9, .int .i64 b), (8, .int .i64 a)]) [9, 8] (by kernel_rfl) ?_
  refine ops_call (σ := Unit) (d := some 10) (f := 25) (args := #[.int .i64 a, .int .i64 65536, .int .i64 b]) (v := fun _ => .int .i64 (thruV a 65536 b)) (M' := fun _ => Mem w []) ⟨by kernel_rfl⟩ (fun w_ hM hS => (MulDiv_calls a 65536 b w_).mono (by rintro e w' ⟨rfl, hb⟩; exact ⟨(), rfl, hM.step hb, trivial⟩)) (fun _ => ?_)
  refine ops_run (is := [(3, false), (4, false)]) (r := []) (l' := [(5, .int .i64 0), (4, .int .i64 (thruV a 65536 b))]) [5, 4] (by kernel_rfl) ?_
  refine ops_nil ?_
  refine fin_then ?_
  refine st_ret ?_
  refine fin_ret [.tmp 4, .tmp 5] [.int .i64 (thruV a 65536 b), .int .i64 0] rfl rfl (fun w_ hM => (.tmp rfl (.tmp rfl .nil))) (fun w_ hM => ?_)
  refine ⟨?_, hM.done⟩
  rfl
theorem Mul_begun1 (w : World) : Calls Try.prog 15 #[.int .i64 32768, .int .i64 3] w fun e w' => e = .returned (.int .i64 2) ∧ Below w.heap.size w w' := by
  have h := Mul_calls 32768 3 w
  rwa [show thruV 32768 3 65536 = 2 by decide +kernel] at h
theorem Mul_begun2 (w : World) : Calls Try.prog 15 #[.int .i64 32768, .int .i64 (-3)] w fun e w' => e = .returned (.int .i64 (-1)) ∧ Below w.heap.size w w' := by
  have h := Mul_calls 32768 (-3) w
  rwa [show thruV 32768 (-3) 65536 = -1 by decide +kernel] at h
set_option maxHeartbeats 4000000 in
set_option maxRecDepth 100000 in
theorem FixTells_z (a c : Int) (w : World) : Calls Try.prog 3 #[.int .i64 a, .int .i64 0, .int .i64 c] w fun e w' => e = .returned (.bool true) ∧ Below w.heap.size w w' := by
  refine sx_calls Try.func3 rfl (n := 81) (by kernel_rfl) (l := [(0, .int .i64 a), (1, .int .i64 0), (2, .int .i64 c)]) rfl (by rfl) (Mem.nil w) ?_
  refine st_seq ?_
  refine st_region [(0, false)] (by rfl) ?_
  refine ops_run (is := [(0, false)]) (r := []) (l' := [(0, .int .i64 a), (1, .int .i64 0), (2, .int .i64 c)]) [0, 1, 2] (by kernel_rfl) ?_
  refine ops_nil ?_
  refine fin_then ?_
  refine st_seq ?_
  refine st_seq ?_
  refine st_region [(0, false), (1, false), (2, false), (3, false), (4, false), (5, false)] (by rfl) ?_
  refine ops_call (σ := Unit) (d := some 9) (f := 15) (args := #[.int .i64 32768, .int .i64 3]) (v := fun _ => .int .i64 2) (M' := fun _ => Mem w []) ⟨by kernel_rfl⟩ (fun w_ hM hS => (Mul_begun1 w_).mono (by rintro e w' ⟨rfl, hb⟩; exact ⟨(), rfl, hM.step hb, trivial⟩)) (fun _ => ?_)
  refine ops_run (is := [(1, false), (2, false)]) (r := [(3, false), (4, false), (5, false)]) (l' := [(11, .bool false), (0, .int .i64 a), (1, .int .i64 0), (2, .int .i64 c)]) [11, 0, 1, 2] (by kernel_rfl) ?_
  refine ops_call (σ := Unit) (d := some 12) (f := 15) (args := #[.int .i64 32768, .int .i64 (-3)]) (v := fun _ => .int .i64 (-1)) (M' := fun _ => Mem w []) ⟨by kernel_rfl⟩ (fun w_ hM hS => (Mul_begun2 w_).mono (by rintro e w' ⟨rfl, hb⟩; exact ⟨(), rfl, hM.step hb, trivial⟩)) (fun _ => ?_)
  refine ops_run (is := [(4, false), (5, false)]) (r := []) (l' := [(14, .bool false), (0, .int .i64 a), (1, .int .i64 0), (2, .int .i64 c)]) [14, 0, 1, 2] (by kernel_rfl) ?_
  refine ops_nil ?_
  refine fin_then ?_
  refine st_false rfl ?_
  refine st_skip ?_
  refine fin_then ?_
  refine st_seq ?_
  refine st_region [(0, false), (1, false), (2, false), (3, false), (4, false), (5, false), (6, false), (7, false)] (by rfl) ?_
  refine ops_run (is := [(0, false), (1, false)]) (r := [(2, false), (3, false), (4, false), (5, false), (6, false), (7, false)]) (l' := [(17, .int .i64 0), (16, .int .i64 a), (0, .int .i64 a), (1, .int .i64 0), (2, .int .i64 c)]) [17, 16, 0, 1, 2] (by kernel_rfl) ?_
  refine ops_call (σ := Unit) (d := some 18) (f := 16) (args := #[.int .i64 a, .int .i64 0]) (v := fun _ => .tuple #[.int .i64 0, .int .i64 17]) (M' := fun _ => Mem w []) ⟨by kernel_rfl⟩ (fun w_ hM hS => (Div_zero a w_).mono (by rintro e w' ⟨rfl, hb⟩; exact ⟨(), rfl, hM.step hb, trivial⟩)) (fun _ => ?_)
  refine ops_run (is := [(3, false), (4, false), (5, false), (6, false), (7, false)]) (r := []) (l' := [(8, .int .i64 17), (7, .int .i64 0), (0, .int .i64 a), (1, .int .i64 0), (2, .int .i64 c)]) [8, 7, 0, 1, 2] (by kernel_rfl) ?_
  refine ops_nil ?_
  refine fin_then ?_
  refine st_seq ?_
  refine st_seq ?_
  refine st_region [(0, false), (1, false)] (by rfl) ?_
  refine ops_run (is := [(0, false), (1, false)]) (r := []) (l' := [(22, .bool true), (8, .int .i64 17), (7, .int .i64 0), (0, .int .i64 a), (1, .int .i64 0), (2, .int .i64 c)]) [22, 8, 7, 0, 1, 2] (by kernel_rfl) ?_
  refine ops_nil ?_
  refine fin_then ?_
  refine st_true rfl ?_
  refine st_seq ?_
  refine st_region [(0, false), (1, false), (2, false), (3, false), (4, false), (5, false)] (by rfl) ?_
  refine ops_run (is := [(0, false), (1, false), (2, false), (3, false), (4, false), (5, false)]) (r := []) (l' := [(28, .bool false), (0, .int .i64 a), (1, .int .i64 0), (2, .int .i64 c)]) [28, 0, 1, 2] (by kernel_rfl) ?_
  refine ops_nil ?_
  refine fin_then ?_
  refine st_false rfl ?_
  refine st_skip ?_
  refine fin_then ?_
  refine st_seq ?_
  refine st_region [(0, false), (1, false), (2, false), (3, false), (4, false), (5, false), (6, false), (7, false), (8, false), (9, false), (10, false), (11, false), (12, false), (13, false), (14, false), (15, false), (16, false), (17, false), (18, false), (19, false), (20, false), (21, false), (22, false), (23, false), (24, false), (25, false), (26, false), (27, false), (28, false), (29, false), (30, false), (31, false), (32, false), (33, false), (34, false), (35, false), (36, false), (37, false), (38, false), (39, false), (40, false), (41, false), (42, false), (43, false)] (by rfl) ?_
  refine ops_run (is := [(0, false)]) (r := [(1, false), (2, false), (3, false), (4, false), (5, false), (6, false), (7, false), (8, false), (9, false), (10, false), (11, false), (12, false), (13, false), (14, false), (15, false), (16, false), (17, false), (18, false), (19, false), (20, false), (21, false), (22, false), (23, false), (24, false), (25, false), (26, false), (27, false), (28, false), (29, false), (30, false), (31, false), (32, false), (33, false), (34, false), (35, false), (36, false), (37, false), (38, false), (39, false), (40, false), (41, false), (42, false), (43, false)]) (l' := [(38, .int .i64 a), (0, .int .i64 a), (1, .int .i64 0), (2, .int .i64 c)]) [38, 0, 1, 2] (by kernel_rfl) ?_
  refine ops_call (σ := Unit) (d := some 39) (f := 18) (args := #[.int .i64 a]) (v := fun _ => .int .i64 (min (max a (-1099511627776)) 1099511627776)) (M' := fun _ => Mem w []) ⟨by kernel_rfl⟩ (fun w_ hM hS => (Clamp_calls a w_).mono (by rintro e w' ⟨rfl, hb⟩; exact ⟨(), rfl, hM.step hb, trivial⟩)) (fun _ => ?_)
  refine ops_run (is := [(2, false)]) (r := [(3, false), (4, false), (5, false), (6, false), (7, false), (8, false), (9, false), (10, false), (11, false), (12, false), (13, false), (14, false), (15, false), (16, false), (17, false), (18, false), (19, false), (20, false), (21, false), (22, false), (23, false), (24, false), (25, false), (26, false), (27, false), (28, false), (29, false), (30, false), (31, false), (32, false), (33, false), (34, false), (35, false), (36, false), (37, false), (38, false), (39, false), (40, false), (41, false), (42, false), (43, false)]) (l' := [(40, .int .i64 a), (39, .int .i64 (min (max a (-1099511627776)) 1099511627776)), (0, .int .i64 a), (1, .int .i64 0), (2, .int .i64 c)]) [40, 39, 0, 1, 2] (by kernel_rfl) ?_
  refine ops_call (σ := Unit) (d := some 41) (f := 19) (args := #[.int .i64 a]) (v := fun _ => .int .i64 (min (max a (-1099511627776)) 1099511627776)) (M' := fun _ => Mem w []) ⟨by kernel_rfl⟩ (fun w_ hM hS => (Limit_calls a w_).mono (by rintro e w' ⟨rfl, hb⟩; exact ⟨(), rfl, hM.step hb, trivial⟩)) (fun _ => ?_)
  refine ops_run (is := []) (r := [(4, false), (5, false), (6, false), (7, false), (8, false), (9, false), (10, false), (11, false), (12, false), (13, false), (14, false), (15, false), (16, false), (17, false), (18, false), (19, false), (20, false), (21, false), (22, false), (23, false), (24, false), (25, false), (26, false), (27, false), (28, false), (29, false), (30, false), (31, false), (32, false), (33, false), (34, false), (35, false), (36, false), (37, false), (38, false), (39, false), (40, false), (41, false), (42, false), (43, false)]) (l' := [(41, .int .i64 (min (max a (-1099511627776)) 1099511627776)), (39, .int .i64 (min (max a (-1099511627776)) 1099511627776)), (0, .int .i64 a), (1, .int .i64 0), (2, .int .i64 c)]) [41, 39, 0, 1, 2] (by kernel_rfl) ?_
  refine ops_val (op := (Go.Op.binOp Go.BinOp.eql 3 (Go.Operand.tmp 39) (Go.Operand.tmp 41) 3)) (d := some 42) (v := .bool true) ⟨by kernel_rfl⟩ (run_eql_same rfl rfl) ?_
  refine ops_run (is := [(5, false), (6, false), (7, false)]) (r := [(8, false), (9, false), (10, false), (11, false), (12, false), (13, false), (14, false), (15, false), (16, false), (17, false), (18, false), (19, false), (20, false), (21, false), (22, false), (23, false), (24, false), (25, false), (26, false), (27, false), (28, false), (29, false), (30, false), (31, false), (32, false), (33, false), (34, false), (35, false), (36, false), (37, false), (38, false), (39, false), (40, false), (41, false), (42, false), (43, false)]) (l' := [(45, .int .i64 0), (44, .int .i64 a), (43, .bool true), (0, .int .i64 a), (1, .int .i64 0), (2, .int .i64 c)]) [45, 44, 43, 0, 1, 2] (by kernel_rfl) ?_
  refine ops_call (σ := Unit) (d := some 46) (f := 20) (args := #[.int .i64 a, .int .i64 0]) (v := fun _ => .int .i64 (min (max (min (max a (-1099511627776)) 1099511627776 + min (max 0 (-1099511627776)) 1099511627776) (-1099511627776)) 1099511627776)) (M' := fun _ => Mem w []) ⟨by kernel_rfl⟩ (fun w_ hM hS => (Add_calls a 0 w_).mono (by rintro e w' ⟨rfl, hb⟩; exact ⟨(), rfl, hM.step hb, trivial⟩)) (fun _ => ?_)
  refine ops_run (is := [(9, false), (10, false)]) (r := [(11, false), (12, false), (13, false), (14, false), (15, false), (16, false), (17, false), (18, false), (19, false), (20, false), (21, false), (22, false), (23, false), (24, false), (25, false), (26, false), (27, false), (28, false), (29, false), (30, false), (31, false), (32, false), (33, false), (34, false), (35, false), (36, false), (37, false), (38, false), (39, false), (40, false), (41, false), (42, false), (43, false)]) (l' := [(48, .int .i64 0), (47, .int .i64 a), (46, .int .i64 (min (max (min (max a (-1099511627776)) 1099511627776 + min (max 0 (-1099511627776)) 1099511627776) (-1099511627776)) 1099511627776)), (43, .bool true), (0, .int .i64 a), (1, .int .i64 0), (2, .int .i64 c)]) [48, 47, 46, 43, 0, 1, 2] (by kernel_rfl) ?_
  refine ops_call (σ := Unit) (d := some 49) (f := 21) (args := #[.int .i64 a, .int .i64 0]) (v := fun _ => .int .i64 (min (max (min (max a (-1099511627776)) 1099511627776 + min (max 0 (-1099511627776)) 1099511627776) (-1099511627776)) 1099511627776)) (M' := fun _ => Mem w []) ⟨by kernel_rfl⟩ (fun w_ hM hS => (Sum_calls a 0 w_).mono (by rintro e w' ⟨rfl, hb⟩; exact ⟨(), rfl, hM.step hb, trivial⟩)) (fun _ => ?_)
  refine ops_run (is := []) (r := [(12, false), (13, false), (14, false), (15, false), (16, false), (17, false), (18, false), (19, false), (20, false), (21, false), (22, false), (23, false), (24, false), (25, false), (26, false), (27, false), (28, false), (29, false), (30, false), (31, false), (32, false), (33, false), (34, false), (35, false), (36, false), (37, false), (38, false), (39, false), (40, false), (41, false), (42, false), (43, false)]) (l' := [(49, .int .i64 (min (max (min (max a (-1099511627776)) 1099511627776 + min (max 0 (-1099511627776)) 1099511627776) (-1099511627776)) 1099511627776)), (46, .int .i64 (min (max (min (max a (-1099511627776)) 1099511627776 + min (max 0 (-1099511627776)) 1099511627776) (-1099511627776)) 1099511627776)), (43, .bool true), (0, .int .i64 a), (1, .int .i64 0), (2, .int .i64 c)]) [49, 46, 43, 0, 1, 2] (by kernel_rfl) ?_
  refine ops_val (op := (Go.Op.binOp Go.BinOp.eql 3 (Go.Operand.tmp 46) (Go.Operand.tmp 49) 3)) (d := some 50) (v := .bool true) ⟨by kernel_rfl⟩ (run_eql_same rfl rfl) ?_
  refine ops_run (is := [(13, false), (14, false), (15, false), (16, false)]) (r := [(17, false), (18, false), (19, false), (20, false), (21, false), (22, false), (23, false), (24, false), (25, false), (26, false), (27, false), (28, false), (29, false), (30, false), (31, false), (32, false), (33, false), (34, false), (35, false), (36, false), (37, false), (38, false), (39, false), (40, false), (41, false), (42, false), (43, false)]) (l' := [(54, .int .i64 0), (53, .int .i64 a), (52, .bool true), (0, .int .i64 a), (1, .int .i64 0), (2, .int .i64 c)]) [54, 53, 52, 0, 1, 2] (by kernel_rfl) ?_
  refine ops_call (σ := Unit) (d := some 55) (f := 22) (args := #[.int .i64 a, .int .i64 0]) (v := fun _ => .int .i64 (min (max (min (max a (-1099511627776)) 1099511627776 - min (max 0 (-1099511627776)) 1099511627776) (-1099511627776)) 1099511627776)) (M' := fun _ => Mem w []) ⟨by kernel_rfl⟩ (fun w_ hM hS => (Sub_calls a 0 w_).mono (by rintro e w' ⟨rfl, hb⟩; exact ⟨(), rfl, hM.step hb, trivial⟩)) (fun _ => ?_)
  refine ops_run (is := [(18, false), (19, false)]) (r := [(20, false), (21, false), (22, false), (23, false), (24, false), (25, false), (26, false), (27, false), (28, false), (29, false), (30, false), (31, false), (32, false), (33, false), (34, false), (35, false), (36, false), (37, false), (38, false), (39, false), (40, false), (41, false), (42, false), (43, false)]) (l' := [(57, .int .i64 0), (56, .int .i64 a), (55, .int .i64 (min (max (min (max a (-1099511627776)) 1099511627776 - min (max 0 (-1099511627776)) 1099511627776) (-1099511627776)) 1099511627776)), (52, .bool true), (0, .int .i64 a), (1, .int .i64 0), (2, .int .i64 c)]) [57, 56, 55, 52, 0, 1, 2] (by kernel_rfl) ?_
  refine ops_call (σ := Unit) (d := some 58) (f := 23) (args := #[.int .i64 a, .int .i64 0]) (v := fun _ => .int .i64 (min (max (min (max a (-1099511627776)) 1099511627776 - min (max 0 (-1099511627776)) 1099511627776) (-1099511627776)) 1099511627776)) (M' := fun _ => Mem w []) ⟨by kernel_rfl⟩ (fun w_ hM hS => (Less_calls a 0 w_).mono (by rintro e w' ⟨rfl, hb⟩; exact ⟨(), rfl, hM.step hb, trivial⟩)) (fun _ => ?_)
  refine ops_run (is := []) (r := [(21, false), (22, false), (23, false), (24, false), (25, false), (26, false), (27, false), (28, false), (29, false), (30, false), (31, false), (32, false), (33, false), (34, false), (35, false), (36, false), (37, false), (38, false), (39, false), (40, false), (41, false), (42, false), (43, false)]) (l' := [(58, .int .i64 (min (max (min (max a (-1099511627776)) 1099511627776 - min (max 0 (-1099511627776)) 1099511627776) (-1099511627776)) 1099511627776)), (55, .int .i64 (min (max (min (max a (-1099511627776)) 1099511627776 - min (max 0 (-1099511627776)) 1099511627776) (-1099511627776)) 1099511627776)), (52, .bool true), (0, .int .i64 a), (1, .int .i64 0), (2, .int .i64 c)]) [58, 55, 52, 0, 1, 2] (by kernel_rfl) ?_
  refine ops_val (op := (Go.Op.binOp Go.BinOp.eql 3 (Go.Operand.tmp 55) (Go.Operand.tmp 58) 3)) (d := some 59) (v := .bool true) ⟨by kernel_rfl⟩ (run_eql_same rfl rfl) ?_
  refine ops_run (is := [(22, false), (23, false), (24, false), (25, false)]) (r := [(26, false), (27, false), (28, false), (29, false), (30, false), (31, false), (32, false), (33, false), (34, false), (35, false), (36, false), (37, false), (38, false), (39, false), (40, false), (41, false), (42, false), (43, false)]) (l' := [(63, .int .i64 0), (62, .int .i64 a), (61, .bool true), (0, .int .i64 a), (1, .int .i64 0), (2, .int .i64 c)]) [63, 62, 61, 0, 1, 2] (by kernel_rfl) ?_
  refine ops_call (σ := Unit) (d := some 64) (f := 15) (args := #[.int .i64 a, .int .i64 0]) (v := fun _ => .int .i64 (thruV a 0 65536)) (M' := fun _ => Mem w []) ⟨by kernel_rfl⟩ (fun w_ hM hS => (Mul_calls a 0 w_).mono (by rintro e w' ⟨rfl, hb⟩; exact ⟨(), rfl, hM.step hb, trivial⟩)) (fun _ => ?_)
  refine ops_run (is := [(27, false), (28, false)]) (r := [(29, false), (30, false), (31, false), (32, false), (33, false), (34, false), (35, false), (36, false), (37, false), (38, false), (39, false), (40, false), (41, false), (42, false), (43, false)]) (l' := [(66, .int .i64 0), (65, .int .i64 a), (64, .int .i64 (thruV a 0 65536)), (61, .bool true), (0, .int .i64 a), (1, .int .i64 0), (2, .int .i64 c)]) [66, 65, 64, 61, 0, 1, 2] (by kernel_rfl) ?_
  refine ops_call (σ := Unit) (d := some 67) (f := 24) (args := #[.int .i64 a, .int .i64 0]) (v := fun _ => .int .i64 (thruV a 0 65536)) (M' := fun _ => Mem w []) ⟨by kernel_rfl⟩ (fun w_ hM hS => (Product_calls a 0 w_).mono (by rintro e w' ⟨rfl, hb⟩; exact ⟨(), rfl, hM.step hb, trivial⟩)) (fun _ => ?_)
  refine ops_run (is := []) (r := [(30, false), (31, false), (32, false), (33, false), (34, false), (35, false), (36, false), (37, false), (38, false), (39, false), (40, false), (41, false), (42, false), (43, false)]) (l' := [(67, .int .i64 (thruV a 0 65536)), (64, .int .i64 (thruV a 0 65536)), (61, .bool true), (0, .int .i64 a), (1, .int .i64 0), (2, .int .i64 c)]) [67, 64, 61, 0, 1, 2] (by kernel_rfl) ?_
  refine ops_val (op := (Go.Op.binOp Go.BinOp.eql 3 (Go.Operand.tmp 64) (Go.Operand.tmp 67) 3)) (d := some 68) (v := .bool true) ⟨by kernel_rfl⟩ (run_eql_same rfl rfl) ?_
  refine ops_run (is := [(31, false), (32, false), (33, false), (34, false), (35, false)]) (r := [(36, false), (37, false), (38, false), (39, false), (40, false), (41, false), (42, false), (43, false)]) (l' := [(73, .int .i64 c), (72, .int .i64 0), (71, .int .i64 a), (70, .bool true), (0, .int .i64 a), (1, .int .i64 0), (2, .int .i64 c)]) [73, 72, 71, 70, 0, 1, 2] (by kernel_rfl) ?_
  refine ops_call (σ := Unit) (d := some 74) (f := 25) (args := #[.int .i64 a, .int .i64 0, .int .i64 c]) (v := fun _ => .int .i64 (thruV a 0 c)) (M' := fun _ => Mem w []) ⟨by kernel_rfl⟩ (fun w_ hM hS => (MulDiv_calls a 0 c w_).mono (by rintro e w' ⟨rfl, hb⟩; exact ⟨(), rfl, hM.step hb, trivial⟩)) (fun _ => ?_)
  refine ops_run (is := [(37, false), (38, false), (39, false)]) (r := [(40, false), (41, false), (42, false), (43, false)]) (l' := [(77, .int .i64 c), (76, .int .i64 0), (75, .int .i64 a), (74, .int .i64 (thruV a 0 c)), (70, .bool true)]) [77, 76, 75, 74, 70] (by kernel_rfl) ?_
  refine ops_call (σ := Unit) (d := some 78) (f := 17) (args := #[.int .i64 a, .int .i64 0, .int .i64 c]) (v := fun _ => .int .i64 (thruV a 0 c)) (M' := fun _ => Mem w []) ⟨by kernel_rfl⟩ (fun w_ hM hS => (Through_calls a 0 c w_).mono (by rintro e w' ⟨rfl, hb⟩; exact ⟨(), rfl, hM.step hb, trivial⟩)) (fun _ => ?_)
  refine ops_run (is := []) (r := [(41, false), (42, false), (43, false)]) (l' := [(78, .int .i64 (thruV a 0 c)), (74, .int .i64 (thruV a 0 c)), (70, .bool true)]) [78, 74, 70] (by kernel_rfl) ?_
  refine ops_val (op := (Go.Op.binOp Go.BinOp.eql 3 (Go.Operand.tmp 74) (Go.Operand.tmp 78) 3)) (d := some 79) (v := .bool true) ⟨by kernel_rfl⟩ (run_eql_same rfl rfl) ?_
  refine ops_run (is := [(42, false), (43, false)]) (r := []) (l' := [(6, .bool true)]) [6] (by kernel_rfl) ?_
  refine ops_nil ?_
  refine fin_then ?_
  refine st_ret ?_
  refine fin_ret [.tmp 6] [.bool true] rfl rfl (fun w_ hM => (.tmp rfl .nil)) (fun w_ hM => ?_)
  refine ⟨?_, hM.done⟩
  rfl
set_option maxHeartbeats 4000000 in
set_option maxRecDepth 100000 in
theorem FixTells_s (a b c : Int) (w : World) (hb : b ≠ 0) : Calls Try.prog 3 #[.int .i64 a, .int .i64 b, .int .i64 c] w fun e w' => e = .returned (.bool true) ∧ Below w.heap.size w w' := by
  refine sx_calls Try.func3 rfl (n := 81) (by kernel_rfl) (l := [(0, .int .i64 a), (1, .int .i64 b), (2, .int .i64 c)]) rfl (by rfl) (Mem.nil w) ?_
  refine st_seq ?_
  refine st_region [(0, false)] (by rfl) ?_
  refine ops_run (is := [(0, false)]) (r := []) (l' := [(0, .int .i64 a), (1, .int .i64 b), (2, .int .i64 c)]) [0, 1, 2] (by kernel_rfl) ?_
  refine ops_nil ?_
  refine fin_then ?_
  refine st_seq ?_
  refine st_seq ?_
  refine st_region [(0, false), (1, false), (2, false), (3, false), (4, false), (5, false)] (by rfl) ?_
  refine ops_call (σ := Unit) (d := some 9) (f := 15) (args := #[.int .i64 32768, .int .i64 3]) (v := fun _ => .int .i64 2) (M' := fun _ => Mem w []) ⟨by kernel_rfl⟩ (fun w_ hM hS => (Mul_begun1 w_).mono (by rintro e w' ⟨rfl, hb⟩; exact ⟨(), rfl, hM.step hb, trivial⟩)) (fun _ => ?_)
  refine ops_run (is := [(1, false), (2, false)]) (r := [(3, false), (4, false), (5, false)]) (l' := [(11, .bool false), (0, .int .i64 a), (1, .int .i64 b), (2, .int .i64 c)]) [11, 0, 1, 2] (by kernel_rfl) ?_
  refine ops_call (σ := Unit) (d := some 12) (f := 15) (args := #[.int .i64 32768, .int .i64 (-3)]) (v := fun _ => .int .i64 (-1)) (M' := fun _ => Mem w []) ⟨by kernel_rfl⟩ (fun w_ hM hS => (Mul_begun2 w_).mono (by rintro e w' ⟨rfl, hb⟩; exact ⟨(), rfl, hM.step hb, trivial⟩)) (fun _ => ?_)
  refine ops_run (is := [(4, false), (5, false)]) (r := []) (l' := [(14, .bool false), (0, .int .i64 a), (1, .int .i64 b), (2, .int .i64 c)]) [14, 0, 1, 2] (by kernel_rfl) ?_
  refine ops_nil ?_
  refine fin_then ?_
  refine st_false rfl ?_
  refine st_skip ?_
  refine fin_then ?_
  refine st_seq ?_
  refine st_region [(0, false), (1, false), (2, false), (3, false), (4, false), (5, false), (6, false), (7, false)] (by rfl) ?_
  refine ops_run (is := [(0, false), (1, false)]) (r := [(2, false), (3, false), (4, false), (5, false), (6, false), (7, false)]) (l' := [(17, .int .i64 b), (16, .int .i64 a), (0, .int .i64 a), (1, .int .i64 b), (2, .int .i64 c)]) [17, 16, 0, 1, 2] (by kernel_rfl) ?_
  refine ops_call (σ := Unit) (d := some 18) (f := 16) (args := #[.int .i64 a, .int .i64 b]) (v := fun _ => .tuple #[.int .i64 (thruV a 65536 b), .int .i64 0]) (M' := fun _ => Mem w []) ⟨by kernel_rfl⟩ (fun w_ hM hS => (Div_some a b w_ hb).mono (by rintro e w' ⟨rfl, hb⟩; exact ⟨(), rfl, hM.step hb, trivial⟩)) (fun _ => ?_)
  refine ops_run (is := [(3, false), (4, false), (5, false), (6, false), (7, false)]) (r := []) (l' := [(8, .int .i64 0), (7, .int .i64 (thruV a 65536 b)), (0, .int .i64 a), (1, .int .i64 b), (2, .int .i64 c)]) [8, 7, 0, 1, 2] (by kernel_rfl) ?_
  refine ops_nil ?_
  refine fin_then ?_
  refine st_seq ?_
  refine st_seq ?_
  refine st_region [(0, false), (1, false)] (by rfl) ?_
  refine ops_run (is := [(0, false), (1, false)]) (r := []) (l' := [(22, .bool (b == 0)), (8, .int .i64 0), (7, .int .i64 (thruV a 65536 b)), (0, .int .i64 a), (1, .int .i64 b), (2, .int .i64 c)]) [22, 8, 7, 0, 1, 2] (by kernel_rfl) ?_
  refine ops_nil ?_
  refine fin_then ?_
  refine st_conv (l' := [(22, .bool false), (8, .int .i64 0), (7, .int .i64 (thruV a 65536 b)), (0, .int .i64 a), (1, .int .i64 b), (2, .int .i64 c)]) (by rw [(show (b == 0) = false by simp; omega)]) (fun _ h => h) ?_
  refine st_false rfl ?_
  refine st_seq ?_
  refine st_region [(0, false), (1, false), (2, false), (3, false), (4, false), (5, false), (6, false), (7, false), (8, false)] (by rfl) ?_
  refine ops_run (is := [(0, false), (1, false), (2, false), (3, false), (4, false), (5, false)]) (r := [(6, false), (7, false), (8, false)]) (l' := [(34, .int .i64 b), (33, .int .i64 a), (32, .int .i64 (thruV a 65536 b)), (31, .bool false), (0, .int .i64 a), (1, .int .i64 b), (2, .int .i64 c)]) [34, 33, 32, 31, 0, 1, 2] (by kernel_rfl) ?_
  refine ops_call (σ := Unit) (d := some 35) (f := 17) (args := #[.int .i64 a, .int .i64 65536, .int .i64 b]) (v := fun _ => .int .i64 (thruV a 65536 b)) (M' := fun _ => Mem w []) ⟨by kernel_rfl⟩ (fun w_ hM hS => (Through_calls a 65536 b w_).mono (by rintro e w' ⟨rfl, hb⟩; exact ⟨(), rfl, hM.step hb, trivial⟩)) (fun _ => ?_)
  refine ops_run (is := []) (r := [(7, false), (8, false)]) (l' := [(35, .int .i64 (thruV a 65536 b)), (32, .int .i64 (thruV a 65536 b)), (31, .bool false), (0, .int .i64 a), (1, .int .i64 b), (2, .int .i64 c)]) [35, 32, 31, 0, 1, 2] (by kernel_rfl) ?_
  refine ops_val (op := (Go.Op.binOp Go.BinOp.neq 3 (Go.Operand.tmp 32) (Go.Operand.tmp 35) 3)) (d := some 36) (v := .bool false) ⟨by kernel_rfl⟩ (run_neq_same rfl rfl) ?_
  refine ops_run (is := [(8, false)]) (r := []) (l' := [(37, .bool false), (0, .int .i64 a), (1, .int .i64 b), (2, .int .i64 c)]) [37, 0, 1, 2] (by kernel_rfl) ?_
  refine ops_nil ?_
  refine fin_then ?_
  refine st_false rfl ?_
  refine st_skip ?_
  refine fin_then ?_
  refine st_seq ?_
  refine st_region [(0, false), (1, false), (2, false), (3, false), (4, false), (5, false), (6, false), (7, false), (8, false), (9, false), (10, false), (11, false), (12, false), (13, false), (14, false), (15, false), (16, false), (17, false), (18, false), (19, false), (20, false), (21, false), (22, false), (23, false), (24, false), (25, false), (26, false), (27, false), (28, false), (29, false), (30, false), (31, false), (32, false), (33, false), (34, false), (35, false), (36, false), (37, false), (38, false), (39, false), (40, false), (41, false), (42, false), (43, false)] (by rfl) ?_
  refine ops_run (is := [(0, false)]) (r := [(1, false), (2, false), (3, false), (4, false), (5, false), (6, false), (7, false), (8, false), (9, false), (10, false), (11, false), (12, false), (13, false), (14, false), (15, false), (16, false), (17, false), (18, false), (19, false), (20, false), (21, false), (22, false), (23, false), (24, false), (25, false), (26, false), (27, false), (28, false), (29, false), (30, false), (31, false), (32, false), (33, false), (34, false), (35, false), (36, false), (37, false), (38, false), (39, false), (40, false), (41, false), (42, false), (43, false)]) (l' := [(38, .int .i64 a), (0, .int .i64 a), (1, .int .i64 b), (2, .int .i64 c)]) [38, 0, 1, 2] (by kernel_rfl) ?_
  refine ops_call (σ := Unit) (d := some 39) (f := 18) (args := #[.int .i64 a]) (v := fun _ => .int .i64 (min (max a (-1099511627776)) 1099511627776)) (M' := fun _ => Mem w []) ⟨by kernel_rfl⟩ (fun w_ hM hS => (Clamp_calls a w_).mono (by rintro e w' ⟨rfl, hb⟩; exact ⟨(), rfl, hM.step hb, trivial⟩)) (fun _ => ?_)
  refine ops_run (is := [(2, false)]) (r := [(3, false), (4, false), (5, false), (6, false), (7, false), (8, false), (9, false), (10, false), (11, false), (12, false), (13, false), (14, false), (15, false), (16, false), (17, false), (18, false), (19, false), (20, false), (21, false), (22, false), (23, false), (24, false), (25, false), (26, false), (27, false), (28, false), (29, false), (30, false), (31, false), (32, false), (33, false), (34, false), (35, false), (36, false), (37, false), (38, false), (39, false), (40, false), (41, false), (42, false), (43, false)]) (l' := [(40, .int .i64 a), (39, .int .i64 (min (max a (-1099511627776)) 1099511627776)), (0, .int .i64 a), (1, .int .i64 b), (2, .int .i64 c)]) [40, 39, 0, 1, 2] (by kernel_rfl) ?_
  refine ops_call (σ := Unit) (d := some 41) (f := 19) (args := #[.int .i64 a]) (v := fun _ => .int .i64 (min (max a (-1099511627776)) 1099511627776)) (M' := fun _ => Mem w []) ⟨by kernel_rfl⟩ (fun w_ hM hS => (Limit_calls a w_).mono (by rintro e w' ⟨rfl, hb⟩; exact ⟨(), rfl, hM.step hb, trivial⟩)) (fun _ => ?_)
  refine ops_run (is := []) (r := [(4, false), (5, false), (6, false), (7, false), (8, false), (9, false), (10, false), (11, false), (12, false), (13, false), (14, false), (15, false), (16, false), (17, false), (18, false), (19, false), (20, false), (21, false), (22, false), (23, false), (24, false), (25, false), (26, false), (27, false), (28, false), (29, false), (30, false), (31, false), (32, false), (33, false), (34, false), (35, false), (36, false), (37, false), (38, false), (39, false), (40, false), (41, false), (42, false), (43, false)]) (l' := [(41, .int .i64 (min (max a (-1099511627776)) 1099511627776)), (39, .int .i64 (min (max a (-1099511627776)) 1099511627776)), (0, .int .i64 a), (1, .int .i64 b), (2, .int .i64 c)]) [41, 39, 0, 1, 2] (by kernel_rfl) ?_
  refine ops_val (op := (Go.Op.binOp Go.BinOp.eql 3 (Go.Operand.tmp 39) (Go.Operand.tmp 41) 3)) (d := some 42) (v := .bool true) ⟨by kernel_rfl⟩ (run_eql_same rfl rfl) ?_
  refine ops_run (is := [(5, false), (6, false), (7, false)]) (r := [(8, false), (9, false), (10, false), (11, false), (12, false), (13, false), (14, false), (15, false), (16, false), (17, false), (18, false), (19, false), (20, false), (21, false), (22, false), (23, false), (24, false), (25, false), (26, false), (27, false), (28, false), (29, false), (30, false), (31, false), (32, false), (33, false), (34, false), (35, false), (36, false), (37, false), (38, false), (39, false), (40, false), (41, false), (42, false), (43, false)]) (l' := [(45, .int .i64 b), (44, .int .i64 a), (43, .bool true), (0, .int .i64 a), (1, .int .i64 b), (2, .int .i64 c)]) [45, 44, 43, 0, 1, 2] (by kernel_rfl) ?_
  refine ops_call (σ := Unit) (d := some 46) (f := 20) (args := #[.int .i64 a, .int .i64 b]) (v := fun _ => .int .i64 (min (max (min (max a (-1099511627776)) 1099511627776 + min (max b (-1099511627776)) 1099511627776) (-1099511627776)) 1099511627776)) (M' := fun _ => Mem w []) ⟨by kernel_rfl⟩ (fun w_ hM hS => (Add_calls a b w_).mono (by rintro e w' ⟨rfl, hb⟩; exact ⟨(), rfl, hM.step hb, trivial⟩)) (fun _ => ?_)
  refine ops_run (is := [(9, false), (10, false)]) (r := [(11, false), (12, false), (13, false), (14, false), (15, false), (16, false), (17, false), (18, false), (19, false), (20, false), (21, false), (22, false), (23, false), (24, false), (25, false), (26, false), (27, false), (28, false), (29, false), (30, false), (31, false), (32, false), (33, false), (34, false), (35, false), (36, false), (37, false), (38, false), (39, false), (40, false), (41, false), (42, false), (43, false)]) (l' := [(48, .int .i64 b), (47, .int .i64 a), (46, .int .i64 (min (max (min (max a (-1099511627776)) 1099511627776 + min (max b (-1099511627776)) 1099511627776) (-1099511627776)) 1099511627776)), (43, .bool true), (0, .int .i64 a), (1, .int .i64 b), (2, .int .i64 c)]) [48, 47, 46, 43, 0, 1, 2] (by kernel_rfl) ?_
  refine ops_call (σ := Unit) (d := some 49) (f := 21) (args := #[.int .i64 a, .int .i64 b]) (v := fun _ => .int .i64 (min (max (min (max a (-1099511627776)) 1099511627776 + min (max b (-1099511627776)) 1099511627776) (-1099511627776)) 1099511627776)) (M' := fun _ => Mem w []) ⟨by kernel_rfl⟩ (fun w_ hM hS => (Sum_calls a b w_).mono (by rintro e w' ⟨rfl, hb⟩; exact ⟨(), rfl, hM.step hb, trivial⟩)) (fun _ => ?_)
  refine ops_run (is := []) (r := [(12, false), (13, false), (14, false), (15, false), (16, false), (17, false), (18, false), (19, false), (20, false), (21, false), (22, false), (23, false), (24, false), (25, false), (26, false), (27, false), (28, false), (29, false), (30, false), (31, false), (32, false), (33, false), (34, false), (35, false), (36, false), (37, false), (38, false), (39, false), (40, false), (41, false), (42, false), (43, false)]) (l' := [(49, .int .i64 (min (max (min (max a (-1099511627776)) 1099511627776 + min (max b (-1099511627776)) 1099511627776) (-1099511627776)) 1099511627776)), (46, .int .i64 (min (max (min (max a (-1099511627776)) 1099511627776 + min (max b (-1099511627776)) 1099511627776) (-1099511627776)) 1099511627776)), (43, .bool true), (0, .int .i64 a), (1, .int .i64 b), (2, .int .i64 c)]) [49, 46, 43, 0, 1, 2] (by kernel_rfl) ?_
  refine ops_val (op := (Go.Op.binOp Go.BinOp.eql 3 (Go.Operand.tmp 46) (Go.Operand.tmp 49) 3)) (d := some 50) (v := .bool true) ⟨by kernel_rfl⟩ (run_eql_same rfl rfl) ?_
  refine ops_run (is := [(13, false), (14, false), (15, false), (16, false)]) (r := [(17, false), (18, false), (19, false), (20, false), (21, false), (22, false), (23, false), (24, false), (25, false), (26, false), (27, false), (28, false), (29, false), (30, false), (31, false), (32, false), (33, false), (34, false), (35, false), (36, false), (37, false), (38, false), (39, false), (40, false), (41, false), (42, false), (43, false)]) (l' := [(54, .int .i64 b), (53, .int .i64 a), (52, .bool true), (0, .int .i64 a), (1, .int .i64 b), (2, .int .i64 c)]) [54, 53, 52, 0, 1, 2] (by kernel_rfl) ?_
  refine ops_call (σ := Unit) (d := some 55) (f := 22) (args := #[.int .i64 a, .int .i64 b]) (v := fun _ => .int .i64 (min (max (min (max a (-1099511627776)) 1099511627776 - min (max b (-1099511627776)) 1099511627776) (-1099511627776)) 1099511627776)) (M' := fun _ => Mem w []) ⟨by kernel_rfl⟩ (fun w_ hM hS => (Sub_calls a b w_).mono (by rintro e w' ⟨rfl, hb⟩; exact ⟨(), rfl, hM.step hb, trivial⟩)) (fun _ => ?_)
  refine ops_run (is := [(18, false), (19, false)]) (r := [(20, false), (21, false), (22, false), (23, false), (24, false), (25, false), (26, false), (27, false), (28, false), (29, false), (30, false), (31, false), (32, false), (33, false), (34, false), (35, false), (36, false), (37, false), (38, false), (39, false), (40, false), (41, false), (42, false), (43, false)]) (l' := [(57, .int .i64 b), (56, .int .i64 a), (55, .int .i64 (min (max (min (max a (-1099511627776)) 1099511627776 - min (max b (-1099511627776)) 1099511627776) (-1099511627776)) 1099511627776)), (52, .bool true), (0, .int .i64 a), (1, .int .i64 b), (2, .int .i64 c)]) [57, 56, 55, 52, 0, 1, 2] (by kernel_rfl) ?_
  refine ops_call (σ := Unit) (d := some 58) (f := 23) (args := #[.int .i64 a, .int .i64 b]) (v := fun _ => .int .i64 (min (max (min (max a (-1099511627776)) 1099511627776 - min (max b (-1099511627776)) 1099511627776) (-1099511627776)) 1099511627776)) (M' := fun _ => Mem w []) ⟨by kernel_rfl⟩ (fun w_ hM hS => (Less_calls a b w_).mono (by rintro e w' ⟨rfl, hb⟩; exact ⟨(), rfl, hM.step hb, trivial⟩)) (fun _ => ?_)
  refine ops_run (is := []) (r := [(21, false), (22, false), (23, false), (24, false), (25, false), (26, false), (27, false), (28, false), (29, false), (30, false), (31, false), (32, false), (33, false), (34, false), (35, false), (36, false), (37, false), (38, false), (39, false), (40, false), (41, false), (42, false), (43, false)]) (l' := [(58, .int .i64 (min (max (min (max a (-1099511627776)) 1099511627776 - min (max b (-1099511627776)) 1099511627776) (-1099511627776)) 1099511627776)), (55, .int .i64 (min (max (min (max a (-1099511627776)) 1099511627776 - min (max b (-1099511627776)) 1099511627776) (-1099511627776)) 1099511627776)), (52, .bool true), (0, .int .i64 a), (1, .int .i64 b), (2, .int .i64 c)]) [58, 55, 52, 0, 1, 2] (by kernel_rfl) ?_
  refine ops_val (op := (Go.Op.binOp Go.BinOp.eql 3 (Go.Operand.tmp 55) (Go.Operand.tmp 58) 3)) (d := some 59) (v := .bool true) ⟨by kernel_rfl⟩ (run_eql_same rfl rfl) ?_
  refine ops_run (is := [(22, false), (23, false), (24, false), (25, false)]) (r := [(26, false), (27, false), (28, false), (29, false), (30, false), (31, false), (32, false), (33, false), (34, false), (35, false), (36, false), (37, false), (38, false), (39, false), (40, false), (41, false), (42, false), (43, false)]) (l' := [(63, .int .i64 b), (62, .int .i64 a), (61, .bool true), (0, .int .i64 a), (1, .int .i64 b), (2, .int .i64 c)]) [63, 62, 61, 0, 1, 2] (by kernel_rfl) ?_
  refine ops_call (σ := Unit) (d := some 64) (f := 15) (args := #[.int .i64 a, .int .i64 b]) (v := fun _ => .int .i64 (thruV a b 65536)) (M' := fun _ => Mem w []) ⟨by kernel_rfl⟩ (fun w_ hM hS => (Mul_calls a b w_).mono (by rintro e w' ⟨rfl, hb⟩; exact ⟨(), rfl, hM.step hb, trivial⟩)) (fun _ => ?_)
  refine ops_run (is := [(27, false), (28, false)]) (r := [(29, false), (30, false), (31, false), (32, false), (33, false), (34, false), (35, false), (36, false), (37, false), (38, false), (39, false), (40, false), (41, false), (42, false), (43, false)]) (l' := [(66, .int .i64 b), (65, .int .i64 a), (64, .int .i64 (thruV a b 65536)), (61, .bool true), (0, .int .i64 a), (1, .int .i64 b), (2, .int .i64 c)]) [66, 65, 64, 61, 0, 1, 2] (by kernel_rfl) ?_
  refine ops_call (σ := Unit) (d := some 67) (f := 24) (args := #[.int .i64 a, .int .i64 b]) (v := fun _ => .int .i64 (thruV a b 65536)) (M' := fun _ => Mem w []) ⟨by kernel_rfl⟩ (fun w_ hM hS => (Product_calls a b w_).mono (by rintro e w' ⟨rfl, hb⟩; exact ⟨(), rfl, hM.step hb, trivial⟩)) (fun _ => ?_)
  refine ops_run (is := []) (r := [(30, false), (31, false), (32, false), (33, false), (34, false), (35, false), (36, false), (37, false), (38, false), (39, false), (40, false), (41, false), (42, false), (43, false)]) (l' := [(67, .int .i64 (thruV a b 65536)), (64, .int .i64 (thruV a b 65536)), (61, .bool true), (0, .int .i64 a), (1, .int .i64 b), (2, .int .i64 c)]) [67, 64, 61, 0, 1, 2] (by kernel_rfl) ?_
  refine ops_val (op := (Go.Op.binOp Go.BinOp.eql 3 (Go.Operand.tmp 64) (Go.Operand.tmp 67) 3)) (d := some 68) (v := .bool true) ⟨by kernel_rfl⟩ (run_eql_same rfl rfl) ?_
  refine ops_run (is := [(31, false), (32, false), (33, false), (34, false), (35, false)]) (r := [(36, false), (37, false), (38, false), (39, false), (40, false), (41, false), (42, false), (43, false)]) (l' := [(73, .int .i64 c), (72, .int .i64 b), (71, .int .i64 a), (70, .bool true), (0, .int .i64 a), (1, .int .i64 b), (2, .int .i64 c)]) [73, 72, 71, 70, 0, 1, 2] (by kernel_rfl) ?_
  refine ops_call (σ := Unit) (d := some 74) (f := 25) (args := #[.int .i64 a, .int .i64 b, .int .i64 c]) (v := fun _ => .int .i64 (thruV a b c)) (M' := fun _ => Mem w []) ⟨by kernel_rfl⟩ (fun w_ hM hS => (MulDiv_calls a b c w_).mono (by rintro e w' ⟨rfl, hb⟩; exact ⟨(), rfl, hM.step hb, trivial⟩)) (fun _ => ?_)
  refine ops_run (is := [(37, false), (38, false), (39, false)]) (r := [(40, false), (41, false), (42, false), (43, false)]) (l' := [(77, .int .i64 c), (76, .int .i64 b), (75, .int .i64 a), (74, .int .i64 (thruV a b c)), (70, .bool true)]) [77, 76, 75, 74, 70] (by kernel_rfl) ?_
  refine ops_call (σ := Unit) (d := some 78) (f := 17) (args := #[.int .i64 a, .int .i64 b, .int .i64 c]) (v := fun _ => .int .i64 (thruV a b c)) (M' := fun _ => Mem w []) ⟨by kernel_rfl⟩ (fun w_ hM hS => (Through_calls a b c w_).mono (by rintro e w' ⟨rfl, hb⟩; exact ⟨(), rfl, hM.step hb, trivial⟩)) (fun _ => ?_)
  refine ops_run (is := []) (r := [(41, false), (42, false), (43, false)]) (l' := [(78, .int .i64 (thruV a b c)), (74, .int .i64 (thruV a b c)), (70, .bool true)]) [78, 74, 70] (by kernel_rfl) ?_
  refine ops_val (op := (Go.Op.binOp Go.BinOp.eql 3 (Go.Operand.tmp 74) (Go.Operand.tmp 78) 3)) (d := some 79) (v := .bool true) ⟨by kernel_rfl⟩ (run_eql_same rfl rfl) ?_
  refine ops_run (is := [(42, false), (43, false)]) (r := []) (l' := [(6, .bool true)]) [6] (by kernel_rfl) ?_
  refine ops_nil ?_
  refine fin_then ?_
  refine st_ret ?_
  refine fin_ret [.tmp 6] [.bool true] rfl rfl (fun w_ hM => (.tmp rfl .nil)) (fun w_ hM => ?_)
  refine ⟨?_, hM.done⟩
  rfl
theorem FixTells_calls (a b c : Int) (w : World) (h1 : (Lit.int .i64 a).wf = true) (h2 : (Lit.int .i64 b).wf = true) (h3 : (Lit.int .i64 c).wf = true) : Calls Try.prog 3 #[.int .i64 a, .int .i64 b, .int .i64 c] w fun e w' => e = .returned (.bool true) ∧ Below w.heap.size w w' := by
  by_cases hb : b = 0
  · subst hb; exact FixTells_z a c w
  · exact FixTells_s a b c w hb
end Go.Proofs.Ytioijglogoppnaa.WFix
