/- Walks of package sum and of the reference's digests: each comes to its plain sum. No condition. -/
import Derived.Test.YtdmlapkindoghaaProg
import Derived.Test.YtdmlapkindoghaaSxOps
import Derived.Test.YtdmlapkindoghaaSumSpec
import Derived.Test.YtdmlapkindoghaaWRnd
import Derived.Test.YtdmlapkindoghaaWWords
namespace Go.Proofs.Ytdmlapkindoghaa.WSum
open Go Go.RowKit Go.Proofs.Ytdmlapkindoghaa.Sx Go.Proofs.Ytdmlapkindoghaa.Rnd Go.Proofs.Ytdmlapkindoghaa.Sum Go.Proofs.YtdmlapkindoghaaW.PrintWords
set_option linter.unusedVariables false
set_option linter.unusedSimpArgs false
set_option maxRecDepth 100000 in
theorem Join_calls (a b : Int) (w : World) : Calls Try.prog 25 #[.int .u64 a, .int .u64 b] w fun e w' => e = .returned (.int .u64 (joinv a b)) ∧ Below w.heap.size w w' := by
  refine sx_calls Try.func25 rfl (n := 12) (by kernel_rfl) (l := [(0, .int .u64 a), (1, .int .u64 b)]) rfl (by rfl) (Mem.nil w) ?_
  refine st_seq ?_
  refine st_region [(0, false)] (by rfl) ?_
  refine ops_run (is := [(0, false)]) (r := []) (l' := [(0, .int .u64 a), (1, .int .u64 b)]) [0, 1] (by kernel_rfl) ?_
  refine ops_nil ?_
  refine fin_then ?_
  refine st_seq ?_
  refine st_region [(0, false), (1, false), (2, false), (3, false), (4, false), (5, false), (6, false), (7, false)] (by rfl) ?_
  refine ops_run (is := [(0, false), (1, false)]) (r := [(2, false), (3, false), (4, false), (5, false), (6, false), (7, false)]) (l' := [(6, .int .u64 (IntKind.u64.wrap (a + 5840696475078001361))), (1, .int .u64 b)]) [6, 1] (by kernel_rfl) ?_
  refine ops_call (σ := Unit) (d := some 7) (f := 33) (args := #[.int .u64 (IntKind.u64.wrap (a + 5840696475078001361))]) (v := fun _ => .int .u64 (mixv (IntKind.u64.wrap (a + 5840696475078001361)))) (M' := fun _ => Mem w []) ⟨by kernel_rfl⟩ (fun w_ hM hS => (Mix_calls (IntKind.u64.wrap (a + 5840696475078001361)) w_).mono (by rintro e w' ⟨rfl, hb⟩; exact ⟨(), rfl, hM.step hb, trivial⟩)) (fun _ => ?_)
  refine ops_run (is := [(3, false), (4, false), (5, false)]) (r := [(6, false), (7, false)]) (l' := [(10, .int .u64 (IntKind.u64.wrap (IntKind.u64.wrap (mixv (IntKind.u64.wrap (a + 5840696475078001361)) * 11170449401992604703) + b)))]) [10] (by kernel_rfl) ?_
  refine ops_call (σ := Unit) (d := some 11) (f := 33) (args := #[.int .u64 (IntKind.u64.wrap (IntKind.u64.wrap (mixv (IntKind.u64.wrap (a + 5840696475078001361)) * 11170449401992604703) + b))]) (v := fun _ => .int .u64 (mixv (IntKind.u64.wrap (IntKind.u64.wrap (mixv (IntKind.u64.wrap (a + 5840696475078001361)) * 11170449401992604703) + b)))) (M' := fun _ => Mem w []) ⟨by kernel_rfl⟩ (fun w_ hM hS => (Mix_calls (IntKind.u64.wrap (IntKind.u64.wrap (mixv (IntKind.u64.wrap (a + 5840696475078001361)) * 11170449401992604703) + b)) w_).mono (by rintro e w' ⟨rfl, hb⟩; exact ⟨(), rfl, hM.step hb, trivial⟩)) (fun _ => ?_)
  refine ops_run (is := [(7, false)]) (r := []) (l' := [(4, .int .u64 (mixv (IntKind.u64.wrap (IntKind.u64.wrap (mixv (IntKind.u64.wrap (a + 5840696475078001361)) * 11170449401992604703) + b))))]) [4] (by kernel_rfl) ?_
  refine ops_nil ?_
  refine fin_then ?_
  refine st_ret ?_
  refine fin_ret [.tmp 4] [.int .u64 (mixv (IntKind.u64.wrap (IntKind.u64.wrap (mixv (IntKind.u64.wrap (a + 5840696475078001361)) * 11170449401992604703) + b)))] rfl rfl (fun w_ hM => (.tmp rfl .nil)) (fun w_ hM => ?_)
  refine ⟨?_, hM.done⟩
  rfl
set_option maxRecDepth 100000 in
theorem Tied_calls (a b : Int) (w : World) : Calls Try.prog 26 #[.int .u64 a, .int .u64 b] w fun e w' => e = .returned (.int .u64 (joinv a b)) ∧ Below w.heap.size w w' := by
  refine sx_calls Try.func26 rfl (n := 12) (by kernel_rfl) (l := [(0, .int .u64 a), (1, .int .u64 b)]) rfl (by rfl) (Mem.nil w) ?_
  refine st_seq ?_
  refine st_region [(0, false)] (by rfl) ?_
  refine ops_run (is := [(0, false)]) (r := []) (l' := [(0, .int .u64 a), (1, .int .u64 b)]) [0, 1] (by kernel_rfl) ?_
  refine ops_nil ?_
  refine fin_then ?_
  refine st_seq ?_
  refine st_region [(0, false), (1, false), (2, false), (3, false), (4, false), (5, false), (6, false), (7, false)] (by rfl) ?_
  refine ops_run (is := [(0, false), (1, false)]) (r := [(2, false), (3, false), (4, false), (5, false), (6, false), (7, false)]) (l' := [(6, .int .u64 (IntKind.u64.wrap (a + 5840696475078001361))), (1, .int .u64 b)]) [6, 1] (by kernel_rfl) ?_
  refine ops_call (σ := Unit) (d := some 7) (f := 34) (args := #[.int .u64 (IntKind.u64.wrap (a + 5840696475078001361))]) (v := fun _ => .int .u64 (mixv (IntKind.u64.wrap (a + 5840696475078001361)))) (M' := fun _ => Mem w []) ⟨by kernel_rfl⟩ (fun w_ hM hS => ((scrv_eq (w64_lo _) (w64_hi _) ▸ Scrambled_calls (IntKind.u64.wrap (a + 5840696475078001361)) w_)).mono (by rintro e w' ⟨rfl, hb⟩; exact ⟨(), rfl, hM.step hb, trivial⟩)) (fun _ => ?_)
  refine ops_run (is := [(3, false), (4, false), (5, false)]) (r := [(6, false), (7, false)]) (l' := [(10, .int .u64 (IntKind.u64.wrap (IntKind.u64.wrap (mixv (IntKind.u64.wrap (a + 5840696475078001361)) * 11170449401992604703) + b)))]) [10] (by kernel_rfl) ?_
  refine ops_call (σ := Unit) (d := some 11) (f := 34) (args := #[.int .u64 (IntKind.u64.wrap (IntKind.u64.wrap (mixv (IntKind.u64.wrap (a + 5840696475078001361)) * 11170449401992604703) + b))]) (v := fun _ => .int .u64 (mixv (IntKind.u64.wrap (IntKind.u64.wrap (mixv (IntKind.u64.wrap (a + 5840696475078001361)) * 11170449401992604703) + b)))) (M' := fun _ => Mem w []) ⟨by kernel_rfl⟩ (fun w_ hM hS => ((scrv_eq (w64_lo _) (w64_hi _) ▸ Scrambled_calls (IntKind.u64.wrap (IntKind.u64.wrap (mixv (IntKind.u64.wrap (a + 5840696475078001361)) * 11170449401992604703) + b)) w_)).mono (by rintro e w' ⟨rfl, hb⟩; exact ⟨(), rfl, hM.step hb, trivial⟩)) (fun _ => ?_)
  refine ops_run (is := [(7, false)]) (r := []) (l' := [(4, .int .u64 (mixv (IntKind.u64.wrap (IntKind.u64.wrap (mixv (IntKind.u64.wrap (a + 5840696475078001361)) * 11170449401992604703) + b))))]) [4] (by kernel_rfl) ?_
  refine ops_nil ?_
  refine fin_then ?_
  refine st_ret ?_
  refine fin_ret [.tmp 4] [.int .u64 (mixv (IntKind.u64.wrap (IntKind.u64.wrap (mixv (IntKind.u64.wrap (a + 5840696475078001361)) * 11170449401992604703) + b)))] rfl rfl (fun w_ hM => (.tmp rfl .nil)) (fun w_ hM => ?_)
  refine ⟨?_, hM.done⟩
  rfl
set_option maxRecDepth 100000 in
theorem Words_calls (A : Option Addr) (c n : Nat) (l : List Int) (w : World) (hr : RInts .u64 A l w) (hn : l.length = n) (hlen : n ≤ 140737488351232) : Calls Try.prog 23 #[.slice A n c] w fun e w' => e = .returned (.int .u64 (dig l)) ∧ Below w.heap.size w w' := by
  refine sx_calls Try.func23 rfl (n := 21) (by kernel_rfl) (l := [(0, .slice A n c)]) rfl (by rfl) (Mem.nil w) ?_
  refine st_seq ?_
  refine st_region [(0, false)] (by rfl) ?_
  refine ops_run (is := [(0, false)]) (r := []) (l' := [(0, .slice A n c)]) [0] (by kernel_rfl) ?_
  refine ops_nil ?_
  refine fin_then ?_
  refine st_seq ?_
  refine st_region [(0, false), (1, false), (2, false), (3, false), (4, false)] (by rfl) ?_
  refine ops_run (is := [(0, false), (1, false), (2, false)]) (r := [(3, false), (4, false)]) (l' := [(8, .int .u64 (IntKind.u64.wrap (n : Int))), (0, .slice A n c)]) [8, 0] (by kernel_rfl) ?_
  refine ops_call (σ := Unit) (d := some 9) (f := 25) (args := #[.int .u64 5840696475078001361, .int .u64 (IntKind.u64.wrap (n : Int))]) (v := fun _ => .int .u64 (joinv 5840696475078001361 (IntKind.u64.wrap (n : Int)))) (M' := fun _ => Mem w []) ⟨by kernel_rfl⟩ (fun w_ hM hS => (Join_calls 5840696475078001361 (IntKind.u64.wrap (n : Int)) w_).mono (by rintro e w' ⟨rfl, hb⟩; exact ⟨(), rfl, hM.step hb, trivial⟩)) (fun _ => ?_)
  refine ops_run (is := []) (r := [(4, false)]) (l' := [(9, .int .u64 (joinv 5840696475078001361 (IntKind.u64.wrap (n : Int)))), (0, .slice A n c)]) [9, 0] (by kernel_rfl) ?_
  refine ops_conv (l' := [(9, .int .u64 (digAt l 0)), (0, .slice A n c)]) (by rw [(digAt_zero hn)]) (fun _ h => h) ?_
  refine ops_run (is := [(4, false)]) (r := []) (l' := [(3, .int .u64 (digAt l 0)), (0, .slice A n c)]) [3, 0] (by kernel_rfl) ?_
  refine ops_nil ?_
  refine fin_then ?_
  refine st_seq ?_
  refine st_seq ?_
  refine st_region [(0, false), (1, false), (2, false)] (by rfl) ?_
  refine ops_run (is := [(0, false), (1, false), (2, false)]) (r := []) (l' := [(12, .int .i64 0), (11, .int .i64 (n : Int)), (10, .slice A n c), (3, .int .u64 (digAt l 0))]) [12, 11, 10, 3] (by kernel_rfl) ?_
  refine ops_nil ?_
  refine fin_then ?_
  refine st_block ?_
  refine st_loop (σ := Nat) 0 (fun k => [(12, .int .i64 (k : Int)), (11, .int .i64 (n : Int)), (10, .slice A n c), (3, .int .u64 (digAt l k))]) (fun k => Mem w []) (fun k => k ≤ n) (fun k => n - k) (by exact Nat.zero_le _) (look_has ⟨rfl, rfl, rfl, rfl, trivial⟩) (fun w_ hM => by exact hM) ?_
  rintro k hI
  have hIk : k ≤ n := hI
  refine st_seq ?_
  refine st_region [(0, false)] (by rfl) ?_
  refine ops_run (is := [(0, false)]) (r := []) (l' := [(13, .bool (decide ((k : Int) < (n : Int)))), (12, .int .i64 (k : Int)), (11, .int .i64 (n : Int)), (10, .slice A n c), (3, .int .u64 (digAt l k))]) [13, 12, 11, 10, 3] (by kernel_rfl) ?_
  refine ops_nil ?_
  refine fin_then ?_
  refine st_seq ?_
  refine st_if (b := decide ((k : Int) < (n : Int))) rfl (fun hc1 => ?_) (fun hc1 => ?_)
  · --
    have hk : k < n := by have := of_decide_eq_true hc1; omega
    have hk1 : IntKind.i64.wrap ((k : Int) + 1) = ((k + 1 : Nat) : Int) := succ_i64 (by omega)
    refine st_skip ?_
    refine fin_then ?_
    refine st_seq ?_
    refine st_block ?_
    refine st_seq ?_
    refine st_region [(0, false), (1, false), (2, false)] (by rfl) ?_
    refine ops_run (is := []) (r := [(0, false), (1, false), (2, false)]) (l' := [(12, .int .i64 (k : Int)), (11, .int .i64 (n : Int)), (10, .slice A n c), (3, .int .u64 (digAt l k))]) [12, 11, 10, 3] (by kernel_rfl) ?_
    obtain ⟨ad2, hA3, hx4⟩ := hr k (by omega)
    refine ops_val (op := (Go.Op.indexAddr 36 (Go.Operand.tmp 10) (Go.Operand.tmp 12))) (d := some 14) (v := .pointer (some (ad2.add k))) ⟨by kernel_rfl⟩ (run_index1 hA3 Try.underlying36 (by kernel_rfl) rfl rfl (m := k) (by first | rfl | omega) (by omega)) ?_
    refine ops_run (is := []) (r := [(1, false), (2, false)]) (l' := [(14, .pointer (some (ad2.add k))), (12, .int .i64 (k : Int)), (11, .int .i64 (n : Int)), (10, .slice A n c), (3, .int .u64 (digAt l k))]) [14, 12, 11, 10, 3] (by kernel_rfl) ?_
    refine ops_mem (d := some 15) (an := [.v (.int .u64 (l.getD k 0))]) (evs := [.load (ad2.add k) (.int .u64 (l.getD k 0))]) (v := .int .u64 (l.getD k 0)) (M' := Mem w []) ⟨by kernel_rfl⟩ (fun w_ hM hS => ⟨w_, ⟨hM.oldcell hx4, rfl⟩, hM, trivial⟩) ?_
    refine ops_run (is := [(2, false)]) (r := []) (l' := [(5, .int .u64 (l.getD k 0)), (12, .int .i64 (k : Int)), (11, .int .i64 (n : Int)), (10, .slice A n c), (3, .int .u64 (digAt l k))]) [5, 12, 11, 10, 3] (by kernel_rfl) ?_
    refine ops_nil ?_
    refine fin_then ?_
    refine st_region [(0, false), (1, false), (2, false), (3, false)] (by rfl) ?_
    refine ops_run (is := [(0, false), (1, false)]) (r := [(2, false), (3, false)]) (l' := [(17, .int .u64 (l.getD k 0)), (16, .int .u64 (digAt l k)), (12, .int .i64 (k : Int)), (11, .int .i64 (n : Int)), (10, .slice A n c), (3, .int .u64 (digAt l k))]) [17, 16, 12, 11, 10, 3] (by kernel_rfl) ?_
    refine ops_call (σ := Unit) (d := some 18) (f := 25) (args := #[.int .u64 (digAt l k), .int .u64 (l.getD k 0)]) (v := fun _ => .int .u64 (joinv (digAt l k) (l.getD k 0))) (M' := fun _ => Mem w []) ⟨by kernel_rfl⟩ (fun w_ hM hS => (Join_calls (digAt l k) (l.getD k 0) w_).mono (by rintro e w' ⟨rfl, hb⟩; exact ⟨(), rfl, hM.step hb, trivial⟩)) (fun _ => ?_)
    refine ops_run (is := []) (r := [(3, false)]) (l' := [(18, .int .u64 (joinv (digAt l k) (l.getD k 0))), (12, .int .i64 (k : Int)), (11, .int .i64 (n : Int)), (10, .slice A n c), (3, .int .u64 (digAt l k))]) [18, 12, 11, 10, 3] (by kernel_rfl) ?_
    refine ops_conv (l' := [(18, .int .u64 (digAt l (k + 1))), (12, .int .i64 (k : Int)), (11, .int .i64 (n : Int)), (10, .slice A n c), (3, .int .u64 (digAt l k))]) (by rw [(digAt_succ l k (by omega))]) (fun _ h => h) ?_
    refine ops_run (is := [(3, false)]) (r := []) (l' := [(3, .int .u64 (digAt l (k + 1))), (12, .int .i64 (k : Int)), (11, .int .i64 (n : Int)), (10, .slice A n c)]) [3, 12, 11, 10] (by kernel_rfl) ?_
    refine ops_nil ?_
    refine fin_block ?_
    refine fin_then ?_
    refine st_region [(0, false), (1, false)] (by rfl) ?_
    refine ops_run (is := [(0, false)]) (r := [(1, false)]) (l' := [(19, .int .i64 (IntKind.i64.wrap ((k : Int) + 1))), (3, .int .u64 (digAt l (k + 1))), (12, .int .i64 (k : Int)), (11, .int .i64 (n : Int)), (10, .slice A n c)]) [19, 3, 12, 11, 10] (by kernel_rfl) ?_
    refine ops_conv (l' := [(19, .int .i64 ((k + 1 : Nat) : Int)), (3, .int .u64 (digAt l (k + 1))), (12, .int .i64 (k : Int)), (11, .int .i64 (n : Int)), (10, .slice A n c)]) (by rw [hk1]) (fun _ h => h) ?_
    refine ops_run (is := [(1, false)]) (r := []) (l' := [(12, .int .i64 ((k + 1 : Nat) : Int)), (3, .int .u64 (digAt l (k + 1))), (11, .int .i64 (n : Int)), (10, .slice A n c)]) [12, 3, 11, 10] (by kernel_rfl) ?_
    refine ops_nil ?_
    refine fin_round (k + 1) (by omega) (by omega) (look_has ⟨rfl, rfl, rfl, rfl, trivial⟩) (fun w_ hM => by exact hM)
  · --
    have hk : k = n := by have := of_decide_eq_false hc1; omega
    refine st_exit ?_
    refine fin_exit_then ?_
    refine fin_exit_then ?_
    refine fin_exit ?_
    refine fin_then ?_
    refine st_seq ?_
    refine st_region [(0, false), (1, false)] (by rfl) ?_
    refine ops_run (is := [(0, false), (1, false)]) (r := []) (l' := [(2, .int .u64 (digAt l k))]) [2] (by kernel_rfl) ?_
    refine ops_nil ?_
    refine fin_then ?_
    refine st_ret ?_
    refine fin_ret [.tmp 2] [.int .u64 (digAt l k)] rfl rfl (fun w_ hM => (.tmp rfl .nil)) (fun w_ hM => ?_)
    refine ⟨?_, hM.done⟩
    rw [hk, ← hn]
    rfl
set_option maxRecDepth 100000 in
theorem Digest_calls (A : Option Addr) (c n : Nat) (l : List Int) (w : World) (hr : RInts .u64 A l w) (hn : l.length = n) (hlen : n ≤ 140737488351232) : Calls Try.prog 27 #[.slice A n c] w fun e w' => e = .returned (.int .u64 (dig l)) ∧ Below w.heap.size w w' := by
  refine sx_calls Try.func27 rfl (n := 21) (by kernel_rfl) (l := [(0, .slice A n c)]) rfl (by rfl) (Mem.nil w) ?_
  refine st_seq ?_
  refine st_region [(0, false)] (by rfl) ?_
  refine ops_run (is := [(0, false)]) (r := []) (l' := [(0, .slice A n c)]) [0] (by kernel_rfl) ?_
  refine ops_nil ?_
  refine fin_then ?_
  refine st_seq ?_
  refine st_region [(0, false), (1, false), (2, false), (3, false), (4, false)] (by rfl) ?_
  refine ops_run (is := [(0, false), (1, false), (2, false)]) (r := [(3, false), (4, false)]) (l' := [(8, .int .u64 (IntKind.u64.wrap (n : Int))), (0, .slice A n c)]) [8, 0] (by kernel_rfl) ?_
  refine ops_call (σ := Unit) (d := some 9) (f := 26) (args := #[.int .u64 5840696475078001361, .int .u64 (IntKind.u64.wrap (n : Int))]) (v := fun _ => .int .u64 (joinv 5840696475078001361 (IntKind.u64.wrap (n : Int)))) (M' := fun _ => Mem w []) ⟨by kernel_rfl⟩ (fun w_ hM hS => (Tied_calls 5840696475078001361 (IntKind.u64.wrap (n : Int)) w_).mono (by rintro e w' ⟨rfl, hb⟩; exact ⟨(), rfl, hM.step hb, trivial⟩)) (fun _ => ?_)
  refine ops_run (is := []) (r := [(4, false)]) (l' := [(9, .int .u64 (joinv 5840696475078001361 (IntKind.u64.wrap (n : Int)))), (0, .slice A n c)]) [9, 0] (by kernel_rfl) ?_
  refine ops_conv (l' := [(9, .int .u64 (digAt l 0)), (0, .slice A n c)]) (by rw [(digAt_zero hn)]) (fun _ h => h) ?_
  refine ops_run (is := [(4, false)]) (r := []) (l' := [(3, .int .u64 (digAt l 0)), (0, .slice A n c)]) [3, 0] (by kernel_rfl) ?_
  refine ops_nil ?_
  refine fin_then ?_
  refine st_seq ?_
  refine st_seq ?_
  refine st_region [(0, false), (1, false), (2, false)] (by rfl) ?_
  refine ops_run (is := [(0, false), (1, false), (2, false)]) (r := []) (l' := [(12, .int .i64 0), (11, .int .i64 (n : Int)), (10, .slice A n c), (3, .int .u64 (digAt l 0))]) [12, 11, 10, 3] (by kernel_rfl) ?_
  refine ops_nil ?_
  refine fin_then ?_
  refine st_block ?_
  refine st_loop (σ := Nat) 0 (fun k => [(12, .int .i64 (k : Int)), (11, .int .i64 (n : Int)), (10, .slice A n c), (3, .int .u64 (digAt l k))]) (fun k => Mem w []) (fun k => k ≤ n) (fun k => n - k) (by exact Nat.zero_le _) (look_has ⟨rfl, rfl, rfl, rfl, trivial⟩) (fun w_ hM => by exact hM) ?_
  rintro k hI
  have hIk : k ≤ n := hI
  refine st_seq ?_
  refine st_region [(0, false)] (by rfl) ?_
  refine ops_run (is := [(0, false)]) (r := []) (l' := [(13, .bool (decide ((k : Int) < (n : Int)))), (12, .int .i64 (k : Int)), (11, .int .i64 (n : Int)), (10, .slice A n c), (3, .int .u64 (digAt l k))]) [13, 12, 11, 10, 3] (by kernel_rfl) ?_
  refine ops_nil ?_
  refine fin_then ?_
  refine st_seq ?_
  refine st_if (b := decide ((k : Int) < (n : Int))) rfl (fun hc1 => ?_) (fun hc1 => ?_)
  · --
    have hk : k < n := by have := of_decide_eq_true hc1; omega
    have hk1 : IntKind.i64.wrap ((k : Int) + 1) = ((k + 1 : Nat) : Int) := succ_i64 (by omega)
    refine st_skip ?_
    refine fin_then ?_
    refine st_seq ?_
    refine st_block ?_
    refine st_seq ?_
    refine st_region [(0, false), (1, false), (2, false)] (by rfl) ?_
    refine ops_run (is := []) (r := [(0, false), (1, false), (2, false)]) (l' := [(12, .int .i64 (k : Int)), (11, .int .i64 (n : Int)), (10, .slice A n c), (3, .int .u64 (digAt l k))]) [12, 11, 10, 3] (by kernel_rfl) ?_
    obtain ⟨ad2, hA3, hx4⟩ := hr k (by omega)
    refine ops_val (op := (Go.Op.indexAddr 36 (Go.Operand.tmp 10) (Go.Operand.tmp 12))) (d := some 14) (v := .pointer (some (ad2.add k))) ⟨by kernel_rfl⟩ (run_index1 hA3 Try.underlying36 (by kernel_rfl) rfl rfl (m := k) (by first | rfl | omega) (by omega)) ?_
    refine ops_run (is := []) (r := [(1, false), (2, false)]) (l' := [(14, .pointer (some (ad2.add k))), (12, .int .i64 (k : Int)), (11, .int .i64 (n : Int)), (10, .slice A n c), (3, .int .u64 (digAt l k))]) [14, 12, 11, 10, 3] (by kernel_rfl) ?_
    refine ops_mem (d := some 15) (an := [.v (.int .u64 (l.getD k 0))]) (evs := [.load (ad2.add k) (.int .u64 (l.getD k 0))]) (v := .int .u64 (l.getD k 0)) (M' := Mem w []) ⟨by kernel_rfl⟩ (fun w_ hM hS => ⟨w_, ⟨hM.oldcell hx4, rfl⟩, hM, trivial⟩) ?_
    refine ops_run (is := [(2, false)]) (r := []) (l' := [(5, .int .u64 (l.getD k 0)), (12, .int .i64 (k : Int)), (11, .int .i64 (n : Int)), (10, .slice A n c), (3, .int .u64 (digAt l k))]) [5, 12, 11, 10, 3] (by kernel_rfl) ?_
    refine ops_nil ?_
    refine fin_then ?_
    refine st_region [(0, false), (1, false), (2, false), (3, false)] (by rfl) ?_
    refine ops_run (is := [(0, false), (1, false)]) (r := [(2, false), (3, false)]) (l' := [(17, .int .u64 (l.getD k 0)), (16, .int .u64 (digAt l k)), (12, .int .i64 (k : Int)), (11, .int .i64 (n : Int)), (10, .slice A n c), (3, .int .u64 (digAt l k))]) [17, 16, 12, 11, 10, 3] (by kernel_rfl) ?_
    refine ops_call (σ := Unit) (d := some 18) (f := 26) (args := #[.int .u64 (digAt l k), .int .u64 (l.getD k 0)]) (v := fun _ => .int .u64 (joinv (digAt l k) (l.getD k 0))) (M' := fun _ => Mem w []) ⟨by kernel_rfl⟩ (fun w_ hM hS => (Tied_calls (digAt l k) (l.getD k 0) w_).mono (by rintro e w' ⟨rfl, hb⟩; exact ⟨(), rfl, hM.step hb, trivial⟩)) (fun _ => ?_)
    refine ops_run (is := []) (r := [(3, false)]) (l' := [(18, .int .u64 (joinv (digAt l k) (l.getD k 0))), (12, .int .i64 (k : Int)), (11, .int .i64 (n : Int)), (10, .slice A n c), (3, .int .u64 (digAt l k))]) [18, 12, 11, 10, 3] (by kernel_rfl) ?_
    refine ops_conv (l' := [(18, .int .u64 (digAt l (k + 1))), (12, .int .i64 (k : Int)), (11, .int .i64 (n : Int)), (10, .slice A n c), (3, .int .u64 (digAt l k))]) (by rw [(digAt_succ l k (by omega))]) (fun _ h => h) ?_
    refine ops_run (is := [(3, false)]) (r := []) (l' := [(3, .int .u64 (digAt l (k + 1))), (12, .int .i64 (k : Int)), (11, .int .i64 (n : Int)), (10, .slice A n c)]) [3, 12, 11, 10] (by kernel_rfl) ?_
    refine ops_nil ?_
    refine fin_block ?_
    refine fin_then ?_
    refine st_region [(0, false), (1, false)] (by rfl) ?_
    refine ops_run (is := [(0, false)]) (r := [(1, false)]) (l' := [(19, .int .i64 (IntKind.i64.wrap ((k : Int) + 1))), (3, .int .u64 (digAt l (k + 1))), (12, .int .i64 (k : Int)), (11, .int .i64 (n : Int)), (10, .slice A n c)]) [19, 3, 12, 11, 10] (by kernel_rfl) ?_
    refine ops_conv (l' := [(19, .int .i64 ((k + 1 : Nat) : Int)), (3, .int .u64 (digAt l (k + 1))), (12, .int .i64 (k : Int)), (11, .int .i64 (n : Int)), (10, .slice A n c)]) (by rw [hk1]) (fun _ h => h) ?_
    refine ops_run (is := [(1, false)]) (r := []) (l' := [(12, .int .i64 ((k + 1 : Nat) : Int)), (3, .int .u64 (digAt l (k + 1))), (11, .int .i64 (n : Int)), (10, .slice A n c)]) [12, 3, 11, 10] (by kernel_rfl) ?_
    refine ops_nil ?_
    refine fin_round (k + 1) (by omega) (by omega) (look_has ⟨rfl, rfl, rfl, rfl, trivial⟩) (fun w_ hM => by exact hM)
  · --
    have hk : k = n := by have := of_decide_eq_false hc1; omega
    refine st_exit ?_
    refine fin_exit_then ?_
    refine fin_exit_then ?_
    refine fin_exit ?_
    refine fin_then ?_
    refine st_seq ?_
    refine st_region [(0, false), (1, false)] (by rfl) ?_
    refine ops_run (is := [(0, false), (1, false)]) (r := []) (l' := [(2, .int .u64 (digAt l k))]) [2] (by kernel_rfl) ?_
    refine ops_nil ?_
    refine fin_then ?_
    refine st_ret ?_
    refine fin_ret [.tmp 2] [.int .u64 (digAt l k)] rfl rfl (fun w_ hM => (.tmp rfl .nil)) (fun w_ hM => ?_)
    refine ⟨?_, hM.done⟩
    rw [hk, ← hn]
    rfl
set_option maxRecDepth 100000 in
theorem Ints_calls (A : Option Addr) (c : Nat) (l : List Int) (w : World) (hr : RInts .i64 A l w) (hlen : l.length * 8 ≤ 140737488351232) : Calls Try.prog 28 #[.slice A l.length c] w fun e w' => e = .returned (.int .u64 (dig (turned l))) ∧ Below w.heap.size w w' := by
  refine sx_calls Try.func28 rfl (n := 24) (by kernel_rfl) (l := [(0, .slice A l.length c)]) rfl (by rfl) (Mem.nil w) ?_
  refine st_seq ?_
  refine st_region [(0, false)] (by rfl) ?_
  refine ops_run (is := [(0, false)]) (r := []) (l' := [(0, .slice A l.length c)]) [0] (by kernel_rfl) ?_
  refine ops_nil ?_
  refine fin_then ?_
  refine st_seq ?_
  refine st_region [(0, false), (1, false), (2, false), (3, false)] (by rfl) ?_
  refine ops_run (is := [(0, false), (1, false)]) (r := [(2, false), (3, false)]) (l' := [(7, .int .i64 (l.length : Int)), (0, .slice A l.length c)]) [7, 0] (by kernel_rfl) ?_
  refine ops_make (t := 36) (x := (Go.Operand.tmp 7)) (y := (Go.Operand.tmp 7)) (d := some 8) (nn := l.length) (z := 1) (bytes := 8) (xs := iv .u64 (List.replicate l.length 0)) ⟨by kernel_rfl⟩ rfl rfl (by first | rfl | omega) (by first | rfl | omega) Try.underlying36 (by kernel_rfl) (by omega) (by rfl) (made_ints _ _) (fun _ _ _ hS h' => trivial) (fun b1 => ?_)
  refine ops_run (is := [(3, false)]) (r := []) (l' := [(3, .slice (some ⟨b1, 0, none⟩) l.length l.length), (0, .slice A l.length c)]) [3, 0] (by kernel_rfl) ?_
  refine ops_nil ?_
  refine fin_then ?_
  refine st_seq ?_
  refine st_seq ?_
  refine st_region [(0, false), (1, false), (2, false)] (by rfl) ?_
  refine ops_run (is := [(0, false), (1, false), (2, false)]) (r := []) (l' := [(11, .int .i64 0), (10, .int .i64 (l.length : Int)), (9, .slice A l.length c), (3, .slice (some ⟨b1, 0, none⟩) l.length l.length)]) [11, 10, 9, 3] (by kernel_rfl) ?_
  refine ops_nil ?_
  refine fin_then ?_
  refine st_block ?_
  refine st_loop (σ := Nat) 0 (fun k => [(11, .int .i64 (k : Int)), (10, .int .i64 (l.length : Int)), (9, .slice A l.length c), (3, .slice (some ⟨b1, 0, none⟩) l.length l.length)]) (fun k => Mem w [.row (some ⟨b1, 0, none⟩) l.length l.length 25 1 (iv .u64 (fillM l k))]) (fun k => k ≤ l.length) (fun k => l.length - k) (by exact Nat.zero_le _) (look_has ⟨rfl, rfl, rfl, rfl, trivial⟩) (fun w_ hM => by rw [fillM_zero] at hM; exact hM) ?_
  rintro k hI
  have hIk : k ≤ l.length := hI
  refine st_seq ?_
  refine st_region [(0, false)] (by rfl) ?_
  refine ops_run (is := [(0, false)]) (r := []) (l' := [(12, .bool (decide ((k : Int) < (l.length : Int)))), (11, .int .i64 (k : Int)), (10, .int .i64 (l.length : Int)), (9, .slice A l.length c), (3, .slice (some ⟨b1, 0, none⟩) l.length l.length)]) [12, 11, 10, 9, 3] (by kernel_rfl) ?_
  refine ops_nil ?_
  refine fin_then ?_
  refine st_seq ?_
  refine st_if (b := decide ((k : Int) < (l.length : Int))) rfl (fun hc2 => ?_) (fun hc2 => ?_)
  · --
    have hk : k < l.length := by have := of_decide_eq_true hc2; omega
    have hk1 : IntKind.i64.wrap ((k : Int) + 1) = ((k + 1 : Nat) : Int) := succ_i64 (by omega)
    refine st_skip ?_
    refine fin_then ?_
    refine st_seq ?_
    refine st_block ?_
    refine st_seq ?_
    refine st_region [(0, false), (1, false), (2, false), (3, false), (4, false)] (by rfl) ?_
    refine ops_run (is := [(0, false)]) (r := [(1, false), (2, false), (3, false), (4, false)]) (l' := [(13, .int .i64 (k : Int)), (11, .int .i64 (k : Int)), (10, .int .i64 (l.length : Int)), (9, .slice A l.length c), (3, .slice (some ⟨b1, 0, none⟩) l.length l.length)]) [13, 11, 10, 9, 3] (by kernel_rfl) ?_
    obtain ⟨ad3, hA4, hx5⟩ := hr k (by first | omega | (simp only [fillM_length, List.length_set, List.length_append, List.length_cons, List.length_nil, List.length_replicate] at *; omega) | (simp [fillM_length, List.length_set, List.length_append, List.length_cons, List.length_nil, List.length_replicate]; done))
    refine ops_val (op := (Go.Op.indexAddr 37 (Go.Operand.tmp 9) (Go.Operand.tmp 11))) (d := some 14) (v := .pointer (some (ad3.add k))) ⟨by kernel_rfl⟩ (run_index1 hA4 Try.underlying37 (by kernel_rfl) rfl rfl (m := k) (by first | rfl | omega) (by first | omega | (simp only [fillM_length, List.length_set, List.length_append, List.length_cons, List.length_nil, List.length_replicate] at *; omega) | (simp [fillM_length, List.length_set, List.length_append, List.length_cons, List.length_nil, List.length_replicate]; done))) ?_
    refine ops_run (is := []) (r := [(2, false), (3, false), (4, false)]) (l' := [(14, .pointer (some (ad3.add k))), (13, .int .i64 (k : Int)), (11, .int .i64 (k : Int)), (10, .int .i64 (l.length : Int)), (9, .slice A l.length c), (3, .slice (some ⟨b1, 0, none⟩) l.length l.length)]) [14, 13, 11, 10, 9, 3] (by kernel_rfl) ?_
    refine ops_mem (d := some 15) (an := [.v (.int .i64 (l.getD k 0))]) (evs := [.load (ad3.add k) (.int .i64 (l.getD k 0))]) (v := .int .i64 (l.getD k 0)) (M' := Mem w [.row (some ⟨b1, 0, none⟩) l.length l.length 25 1 (iv .u64 (fillM l k))]) ⟨by kernel_rfl⟩ (fun w_ hM hS => ⟨w_, ⟨hM.oldcell hx5, rfl⟩, hM, trivial⟩) ?_
    refine ops_run (is := [(3, false), (4, false)]) (r := []) (l' := [(5, .int .i64 (l.getD k 0)), (4, .int .i64 (k : Int)), (11, .int .i64 (k : Int)), (10, .int .i64 (l.length : Int)), (9, .slice A l.length c), (3, .slice (some ⟨b1, 0, none⟩) l.length l.length)]) [5, 4, 11, 10, 9, 3] (by kernel_rfl) ?_
    refine ops_nil ?_
    refine fin_then ?_
    refine st_region [(0, false), (1, false), (2, false), (3, false), (4, false), (5, false)] (by rfl) ?_
    refine ops_run (is := [(0, false), (1, false), (2, false), (3, false)]) (r := [(4, false), (5, false)]) (l' := [(19, .int .u64 (IntKind.u64.wrap (l.getD k 0))), (17, .int .i64 (k : Int)), (16, .slice (some ⟨b1, 0, none⟩) l.length l.length), (11, .int .i64 (k : Int)), (10, .int .i64 (l.length : Int)), (9, .slice A l.length c), (3, .slice (some ⟨b1, 0, none⟩) l.length l.length)]) [19, 17, 16, 11, 10, 9, 3] (by kernel_rfl) ?_
    refine ops_val (op := (Go.Op.indexAddr 36 (Go.Operand.tmp 16) (Go.Operand.tmp 17))) (d := some 20) (v := .pointer (some ⟨b1, k, none⟩)) ⟨by kernel_rfl⟩ (run_indexRow Try.underlying36 (z := 1) (by kernel_rfl) rfl rfl (m := k) (by first | rfl | omega) (by first | omega | (simp only [fillM_length, List.length_set, List.length_append, List.length_cons, List.length_nil, List.length_replicate] at *; omega) | (simp [fillM_length, List.length_set, List.length_append, List.length_cons, List.length_nil, List.length_replicate]; done)) (by exact Nat.mul_one _)) ?_
    refine ops_run (is := []) (r := [(5, false)]) (l' := [(20, .pointer (some ⟨b1, k, none⟩)), (19, .int .u64 (IntKind.u64.wrap (l.getD k 0))), (11, .int .i64 (k : Int)), (10, .int .i64 (l.length : Int)), (9, .slice A l.length c), (3, .slice (some ⟨b1, 0, none⟩) l.length l.length)]) [20, 19, 11, 10, 9, 3] (by kernel_rfl) ?_
    refine ops_store (an := []) (evs := [.store ⟨b1, k, none⟩ (.int .u64 (IntKind.u64.wrap (l.getD k 0)))]) (M' := Mem w [.row (some ⟨b1, 0, none⟩) l.length l.length 25 1 (iv .u64 ((fillM l k).set k (IntKind.u64.wrap (l.getD k 0))))]) ⟨by kernel_rfl⟩ (fun w_ hM hS => let ⟨w', he, h'⟩ := hM.rowstore 0 rfl (k) (.int .u64 (IntKind.u64.wrap (l.getD k 0))) (by rw [iv_length]; first | omega | (simp only [fillM_length, List.length_set, List.length_append, List.length_cons, List.length_nil, List.length_replicate] at *; omega) | (simp [fillM_length, List.length_set, List.length_append, List.length_cons, List.length_nil, List.length_replicate]; done)); ⟨w', he, (by rw [iv_set] at h'; exact h'), trivial⟩) ?_
    refine ops_run (is := []) (r := []) (l' := [(11, .int .i64 (k : Int)), (10, .int .i64 (l.length : Int)), (9, .slice A l.length c), (3, .slice (some ⟨b1, 0, none⟩) l.length l.length)]) [11, 10, 9, 3] (by kernel_rfl) ?_
    refine ops_nil ?_
    refine fin_block ?_
    refine fin_then ?_
    refine st_region [(0, false), (1, false)] (by rfl) ?_
    refine ops_run (is := [(0, false)]) (r := [(1, false)]) (l' := [(21, .int .i64 (IntKind.i64.wrap ((k : Int) + 1))), (11, .int .i64 (k : Int)), (10, .int .i64 (l.length : Int)), (9, .slice A l.length c), (3, .slice (some ⟨b1, 0, none⟩) l.length l.length)]) [21, 11, 10, 9, 3] (by kernel_rfl) ?_
    refine ops_conv (l' := [(21, .int .i64 ((k + 1 : Nat) : Int)), (11, .int .i64 (k : Int)), (10, .int .i64 (l.length : Int)), (9, .slice A l.length c), (3, .slice (some ⟨b1, 0, none⟩) l.length l.length)]) (by rw [hk1]) (fun _ h => h) ?_
    refine ops_run (is := [(1, false)]) (r := []) (l' := [(11, .int .i64 ((k + 1 : Nat) : Int)), (10, .int .i64 (l.length : Int)), (9, .slice A l.length c), (3, .slice (some ⟨b1, 0, none⟩) l.length l.length)]) [11, 10, 9, 3] (by kernel_rfl) ?_
    refine ops_nil ?_
    refine fin_round (k + 1) (by omega) (by omega) (look_has ⟨rfl, rfl, rfl, rfl, trivial⟩) (fun w_ hM => by exact (by rw [fillM_set hk] at hM; exact hM))
  · --
    have hk : k = l.length := by have := of_decide_eq_false hc2; omega
    refine st_exit ?_
    refine fin_exit_then ?_
    refine fin_exit_then ?_
    refine fin_exit ?_
    refine fin_then ?_
    refine st_seq ?_
    refine st_region [(0, false), (1, false), (2, false)] (by rfl) ?_
    refine ops_run (is := [(0, false)]) (r := [(1, false), (2, false)]) (l' := [(22, .slice (some ⟨b1, 0, none⟩) l.length l.length)]) [22] (by kernel_rfl) ?_
    refine ops_conv (l' := [(22, .slice (some ⟨b1, 0, none⟩) l.length l.length)]) (M' := Mem w [.row (some ⟨b1, 0, none⟩) l.length l.length 25 1 (iv .u64 (turned l))]) rfl (fun w_ hM => by rw [hk, fillM_all] at hM; exact hM) ?_
    refine ops_call (σ := Unit) (d := some 23) (f := 23) (args := #[.slice (some ⟨b1, 0, none⟩) l.length l.length]) (v := fun _ => .int .u64 (dig (turned l))) (M' := fun _ => Mem w [.row (some ⟨b1, 0, none⟩) l.length l.length 25 1 (iv .u64 (turned l))]) ⟨by kernel_rfl⟩ (fun w_ hM hS => (Words_calls (some ⟨b1, 0, none⟩) l.length l.length (turned l) w_ (hM.rints 0 rfl) (by first | omega | (simp only [turned, List.length_map, List.length_set, List.length_append, List.length_cons, List.length_nil, List.length_replicate] at *; omega) | (simp [turned, List.length_map, List.length_set, List.length_append, List.length_cons, List.length_nil, List.length_replicate]; done)) (by first | omega | (simp only [turned, List.length_map, List.length_set, List.length_append, List.length_cons, List.length_nil, List.length_replicate] at *; omega) | (simp [turned, List.length_map, List.length_set, List.length_append, List.length_cons, List.length_nil, List.length_replicate]; done))).mono (by rintro e w' ⟨rfl, hb⟩; exact ⟨(), rfl, hM.step hb, trivial⟩)) (fun _ => ?_)
    refine ops_run (is := [(2, false)]) (r := []) (l' := [(2, .int .u64 (dig (turned l)))]) [2] (by kernel_rfl) ?_
    refine ops_nil ?_
    refine fin_then ?_
    refine st_ret ?_
    refine fin_ret [.tmp 2] [.int .u64 (dig (turned l))] rfl rfl (fun w_ hM => (.tmp rfl .nil)) (fun w_ hM => ?_)
    refine ⟨?_, hM.done⟩
    rfl
theorem rints_skip {k : IntKind} {A : Option Addr} {l : List Int} {w : World} {n : Nat} (h : n = 0 ∨ l = []) (hr : RInts k A l w) : RInts k A (l.drop n) w := by
  rcases h with rfl | rfl
  · simpa using hr
  · simpa using hr
set_option maxRecDepth 100000 in
theorem Bytes_calls (A : Option Addr) (c : Nat) (l : List Int) (w : World) (hr : RInts .u8 A l w) (hc : l.length ≤ c) (hlen : l.length ≤ 140737488351232) (hb : Bytes l) : Calls Try.prog 24 #[.slice A l.length c] w fun e w' => e = .returned (.int .u64 (bd l ((l.length + 7) / 8))) ∧ Below w.heap.size w w' := by
  refine sx_calls Try.func24 rfl (n := 42) (by kernel_rfl) (l := [(0, .slice A l.length c)]) rfl (by rfl) (Mem.nil w) ?_
  refine st_seq ?_
  refine st_region [(0, false)] (by rfl) ?_
  refine ops_run (is := [(0, false)]) (r := []) (l' := [(0, .slice A l.length c)]) [0] (by kernel_rfl) ?_
  refine ops_nil ?_
  refine fin_then ?_
  refine st_seq ?_
  refine st_region [(0, false), (1, false), (2, false), (3, false), (4, false)] (by rfl) ?_
  refine ops_run (is := [(0, false), (1, false), (2, false)]) (r := [(3, false), (4, false)]) (l' := [(9, .int .u64 (IntKind.u64.wrap (l.length : Int))), (0, .slice A l.length c)]) [9, 0] (by kernel_rfl) ?_
  refine ops_call (σ := Unit) (d := some 10) (f := 25) (args := #[.int .u64 11170449401992604703, .int .u64 (IntKind.u64.wrap (l.length : Int))]) (v := fun _ => .int .u64 (joinv 11170449401992604703 (IntKind.u64.wrap (l.length : Int)))) (M' := fun _ => Mem w []) ⟨by kernel_rfl⟩ (fun w_ hM hS => (Join_calls 11170449401992604703 (IntKind.u64.wrap (l.length : Int)) w_).mono (by rintro e w' ⟨rfl, hb⟩; exact ⟨(), rfl, hM.step hb, trivial⟩)) (fun _ => ?_)
  refine ops_run (is := [(4, false)]) (r := []) (l' := [(3, .int .u64 (joinv 11170449401992604703 (IntKind.u64.wrap (l.length : Int)))), (0, .slice A l.length c)]) [3, 0] (by kernel_rfl) ?_
  refine ops_nil ?_
  refine fin_then ?_
  refine st_seq ?_
  refine st_block ?_
  refine st_loop (σ := Nat × Option Addr × Nat) (0, A, c) (fun x_ => match x_ with | (t, A, c) => [(3, .int .u64 (bd l t)), (0, .slice A (l.length - 8 * t) c)]) (fun x_ => match x_ with | (t, A, c) => Mem w []) (fun x_ => match x_ with | (t, A, c) => t ≤ (l.length + 7) / 8 ∧ RInts .u8 A (l.drop (8 * t)) w ∧ l.length - 8 * t ≤ c) (fun x_ => match x_ with | (t, A, c) => (l.length + 7) / 8 - t) (by exact ⟨Nat.zero_le _, by simpa using hr, by simpa using hc⟩) (look_has ⟨rfl, rfl, trivial⟩) (fun w_ hM => by exact hM) ?_
  rintro ⟨t, A, c⟩ hI
  obtain ⟨hI1, hrt, hct⟩ := hI
  have hI1 : t ≤ (l.length + 7) / 8 := hI1
  have hrt : RInts .u8 A (l.drop (8 * t)) w := hrt
  have hct : l.length - 8 * t ≤ c := hct
  refine st_seq ?_
  refine st_seq ?_
  refine st_region [(0, false), (1, false), (2, false)] (by rfl) ?_
  refine ops_run (is := [(0, false), (1, false), (2, false)]) (r := []) (l' := [(13, .bool (decide (0 < ((l.length - 8 * t : Nat) : Int)))), (3, .int .u64 (bd l t)), (0, .slice A (l.length - 8 * t) c)]) [13, 3, 0] (by kernel_rfl) ?_
  refine ops_nil ?_
  refine fin_then ?_
  refine st_if (b := decide (0 < ((l.length - 8 * t : Nat) : Int))) rfl (fun hc1 => ?_) (fun hc1 => ?_)
  · --
    have hpos : 8 * t < l.length := by have := of_decide_eq_true hc1; omega
    have hmin : min ((l.length - 8 * t : Nat) : Int) 8 = ((min (l.length - 8 * t) 8 : Nat) : Int) := by omega
    refine st_skip ?_
    refine fin_then ?_
    refine st_block ?_
    refine st_seq ?_
    refine st_region [(0, false)] (by rfl) ?_
    refine ops_run (is := [(0, false)]) (r := []) (l' := [(4, .int .u64 0), (3, .int .u64 (bd l t)), (0, .slice A (l.length - 8 * t) c)]) [4, 3, 0] (by kernel_rfl) ?_
    refine ops_nil ?_
    refine fin_then ?_
    refine st_seq ?_
    refine st_seq ?_
    refine st_region [(0, false), (1, false), (2, false), (3, false), (4, false), (5, false), (6, false)] (by rfl) ?_
    refine ops_run (is := [(0, false), (1, false), (2, false)]) (r := [(3, false), (4, false), (5, false), (6, false)]) (l' := [(16, .int .i64 ((l.length - 8 * t : Nat) : Int)), (14, .slice A (l.length - 8 * t) c), (4, .int .u64 0), (3, .int .u64 (bd l t)), (0, .slice A (l.length - 8 * t) c)]) [16, 14, 4, 3, 0] (by kernel_rfl) ?_
    refine ops_val (op := (Go.Op.call { callee := (Go.Callee.builtin Go.Builtin.min), args := #[(Go.Operand.tmp 16), (Go.Operand.const (Go.Value.int Go.IntKind.i64 8))], argTypes := #[3, 3] })) (d := some 17) (v := .int .i64 (min ((l.length - 8 * t : Nat) : Int) 8)) ⟨by kernel_rfl⟩ (run_min rfl rfl) ?_
    refine ops_run (is := []) (r := [(4, false), (5, false), (6, false)]) (l' := [(17, .int .i64 (min ((l.length - 8 * t : Nat) : Int) 8)), (14, .slice A (l.length - 8 * t) c), (4, .int .u64 0), (3, .int .u64 (bd l t)), (0, .slice A (l.length - 8 * t) c)]) [17, 14, 4, 3, 0] (by kernel_rfl) ?_
    refine ops_conv (l' := [(17, .int .i64 ((min (l.length - 8 * t) 8 : Nat) : Int)), (14, .slice A (l.length - 8 * t) c), (4, .int .u64 0), (3, .int .u64 (bd l t)), (0, .slice A (l.length - 8 * t) c)]) (by rw [hmin]) (fun _ h => h) ?_
    refine ops_val (op := (Go.Op.slice 38 (Go.Operand.tmp 14) none (some (Go.Operand.tmp 17)) none)) (d := some 18) (v := .slice (cutA A c 0 1) (min (l.length - 8 * t) 8) c) ⟨by kernel_rfl⟩ (run_cutH (by kernel_rfl) (z := 1) (by kernel_rfl) rfl rfl (by first | rfl | omega) (by first | omega | (simp only [List.length_drop, List.length_take, List.length_set, List.length_append, List.length_cons, List.length_nil, List.length_replicate] at *; omega) | (simp [List.length_drop, List.length_take, List.length_set, List.length_append, List.length_cons, List.length_nil, List.length_replicate]; done)) rfl) ?_
    have hr2 : RInts .u8 (cutA A c 0 1) ((l.drop (8 * t)).take (min (l.length - 8 * t) 8)) w := by simpa only [List.drop_zero] using RInts.cut (lo := 0) (n := min (l.length - 8 * t) 8) hrt (by first | omega | (simp only [List.length_drop, List.length_take, List.length_set, List.length_append, List.length_cons, List.length_nil, List.length_replicate] at *; omega) | (simp [List.length_drop, List.length_take, List.length_set, List.length_append, List.length_cons, List.length_nil, List.length_replicate]; done)) (by first | omega | (simp only [List.length_drop, List.length_take, List.length_set, List.length_append, List.length_cons, List.length_nil, List.length_replicate] at *; omega) | (simp [List.length_drop, List.length_take, List.length_set, List.length_append, List.length_cons, List.length_nil, List.length_replicate]; done))
    refine ops_run (is := [(5, false), (6, false)]) (r := []) (l' := [(20, .int .i64 0), (19, .int .i64 ((min (l.length - 8 * t) 8 : Nat) : Int)), (18, .slice (cutA A c 0 1) (min (l.length - 8 * t) 8) c), (4, .int .u64 0), (3, .int .u64 (bd l t)), (0, .slice A (l.length - 8 * t) c)]) [20, 19, 18, 4, 3, 0] (by kernel_rfl) ?_
    refine ops_nil ?_
    refine fin_then ?_
    refine st_block ?_
    refine st_loop (σ := Nat) 0 (fun k => [(20, .int .i64 (k : Int)), (19, .int .i64 ((min (l.length - 8 * t) 8 : Nat) : Int)), (18, .slice (cutA A c 0 1) (min (l.length - 8 * t) 8) c), (4, .int .u64 (leV (((l.drop (8 * t)).take (min (l.length - 8 * t) 8)).take k))), (3, .int .u64 (bd l t)), (0, .slice A (l.length - 8 * t) c)]) (fun k => Mem w []) (fun k => k ≤ min (l.length - 8 * t) 8) (fun k => min (l.length - 8 * t) 8 - k) (by exact Nat.zero_le _) (look_has ⟨rfl, rfl, rfl, rfl, rfl, rfl, trivial⟩) (fun w_ hM => by exact hM) ?_
    rintro k hI
    have hIk : k ≤ min (l.length - 8 * t) 8 := hI
    refine st_seq ?_
    refine st_region [(0, false)] (by rfl) ?_
    refine ops_run (is := [(0, false)]) (r := []) (l' := [(21, .bool (decide ((k : Int) < ((min (l.length - 8 * t) 8 : Nat) : Int)))), (20, .int .i64 (k : Int)), (19, .int .i64 ((min (l.length - 8 * t) 8 : Nat) : Int)), (18, .slice (cutA A c 0 1) (min (l.length - 8 * t) 8) c), (4, .int .u64 (leV (((l.drop (8 * t)).take (min (l.length - 8 * t) 8)).take k))), (3, .int .u64 (bd l t)), (0, .slice A (l.length - 8 * t) c)]) [21, 20, 19, 18, 4, 3, 0] (by kernel_rfl) ?_
    refine ops_nil ?_
    refine fin_then ?_
    refine st_seq ?_
    refine st_if (b := decide ((k : Int) < ((min (l.length - 8 * t) 8 : Nat) : Int))) rfl (fun hc3 => ?_) (fun hc3 => ?_)
    · --
      have hk : k < min (l.length - 8 * t) 8 := by have := of_decide_eq_true hc3; omega
      have hk1 : IntKind.i64.wrap ((k : Int) + 1) = ((k + 1 : Nat) : Int) := succ_i64 (by omega)
      have hsh : 0 ≤ IntKind.i64.wrap (8 * (k : Int)) := by rw [i64w]; omega
      refine st_skip ?_
      refine fin_then ?_
      refine st_seq ?_
      refine st_block ?_
      refine st_seq ?_
      refine st_region [(0, false), (1, false), (2, false), (3, false), (4, false)] (by rfl) ?_
      refine ops_run (is := [(0, false)]) (r := [(1, false), (2, false), (3, false), (4, false)]) (l' := [(22, .int .i64 (k : Int)), (20, .int .i64 (k : Int)), (19, .int .i64 ((min (l.length - 8 * t) 8 : Nat) : Int)), (18, .slice (cutA A c 0 1) (min (l.length - 8 * t) 8) c), (4, .int .u64 (leV (((l.drop (8 * t)).take (min (l.length - 8 * t) 8)).take k))), (3, .int .u64 (bd l t)), (0, .slice A (l.length - 8 * t) c)]) [22, 20, 19, 18, 4, 3, 0] (by kernel_rfl) ?_
      obtain ⟨ad4, hA5, hx6⟩ := hr2 k (by first | omega | (simp only [List.length_drop, List.length_take, List.length_set, List.length_append, List.length_cons, List.length_nil, List.length_replicate] at *; omega) | (simp [List.length_drop, List.length_take, List.length_set, List.length_append, List.length_cons, List.length_nil, List.length_replicate]; done))
      refine ops_val (op := (Go.Op.indexAddr 38 (Go.Operand.tmp 18) (Go.Operand.tmp 20))) (d := some 23) (v := .pointer (some (ad4.add k))) ⟨by kernel_rfl⟩ (run_index1 hA5 Try.underlying38 (by kernel_rfl) rfl rfl (m := k) (by first | rfl | omega) (by first | omega | (simp only [List.length_drop, List.length_take, List.length_set, List.length_append, List.length_cons, List.length_nil, List.length_replicate] at *; omega) | (simp [List.length_drop, List.length_take, List.length_set, List.length_append, List.length_cons, List.length_nil, List.length_replicate]; done))) ?_
      refine ops_run (is := []) (r := [(2, false), (3, false), (4, false)]) (l' := [(23, .pointer (some (ad4.add k))), (22, .int .i64 (k : Int)), (20, .int .i64 (k : Int)), (19, .int .i64 ((min (l.length - 8 * t) 8 : Nat) : Int)), (18, .slice (cutA A c 0 1) (min (l.length - 8 * t) 8) c), (4, .int .u64 (leV (((l.drop (8 * t)).take (min (l.length - 8 * t) 8)).take k))), (3, .int .u64 (bd l t)), (0, .slice A (l.length - 8 * t) c)]) [23, 22, 20, 19, 18, 4, 3, 0] (by kernel_rfl) ?_
      refine ops_mem (d := some 24) (an := [.v (.int .u8 (((l.drop (8 * t)).take (min (l.length - 8 * t) 8)).getD k 0))]) (evs := [.load (ad4.add k) (.int .u8 (((l.drop (8 * t)).take (min (l.length - 8 * t) 8)).getD k 0))]) (v := .int .u8 (((l.drop (8 * t)).take (min (l.length - 8 * t) 8)).getD k 0)) (M' := Mem w []) ⟨by kernel_rfl⟩ (fun w_ hM hS => ⟨w_, ⟨hM.oldcell hx6, rfl⟩, hM, trivial⟩) ?_
      refine ops_run (is := [(3, false), (4, false)]) (r := []) (l' := [(6, .int .u8 (((l.drop (8 * t)).take (min (l.length - 8 * t) 8)).getD k 0)), (5, .int .i64 (k : Int)), (20, .int .i64 (k : Int)), (19, .int .i64 ((min (l.length - 8 * t) 8 : Nat) : Int)), (18, .slice (cutA A c 0 1) (min (l.length - 8 * t) 8) c), (4, .int .u64 (leV (((l.drop (8 * t)).take (min (l.length - 8 * t) 8)).take k))), (3, .int .u64 (bd l t)), (0, .slice A (l.length - 8 * t) c)]) [6, 5, 20, 19, 18, 4, 3, 0] (by kernel_rfl) ?_
      refine ops_nil ?_
      refine fin_then ?_
      refine st_region [(0, false), (1, false), (2, false), (3, false), (4, false), (5, false), (6, false), (7, false)] (by rfl) ?_
      refine ops_run (is := [(0, false), (1, false), (2, false), (3, false), (4, false)]) (r := [(5, false), (6, false), (7, false)]) (l' := [(29, .int .i64 (IntKind.i64.wrap (8 * (k : Int)))), (27, .int .u64 (IntKind.u64.wrap (((l.drop (8 * t)).take (min (l.length - 8 * t) 8)).getD k 0))), (25, .int .u64 (leV (((l.drop (8 * t)).take (min (l.length - 8 * t) 8)).take k))), (20, .int .i64 (k : Int)), (19, .int .i64 ((min (l.length - 8 * t) 8 : Nat) : Int)), (18, .slice (cutA A c 0 1) (min (l.length - 8 * t) 8) c), (4, .int .u64 (leV (((l.drop (8 * t)).take (min (l.length - 8 * t) 8)).take k))), (3, .int .u64 (bd l t)), (0, .slice A (l.length - 8 * t) c)]) [29, 27, 25, 20, 19, 18, 4, 3, 0] (by kernel_rfl) ?_
      refine ops_val (op := (Go.Op.binOp Go.BinOp.shl 25 (Go.Operand.tmp 27) (Go.Operand.tmp 29) 3)) (d := some 30) (v := .int .u64 (IntKind.u64.wrap (IntKind.u64.wrap (((l.drop (8 * t)).take (min (l.length - 8 * t) 8)).getD k 0) * 2 ^ min (IntKind.i64.wrap (8 * (k : Int))).toNat 64))) ⟨by kernel_rfl⟩ (run_shl rfl rfl (by first | omega | (simp only [List.length_drop, List.length_take, List.length_set, List.length_append, List.length_cons, List.length_nil, List.length_replicate] at *; omega) | (simp [List.length_drop, List.length_take, List.length_set, List.length_append, List.length_cons, List.length_nil, List.length_replicate]; done))) ?_
      refine ops_run (is := [(6, false)]) (r := [(7, false)]) (l' := [(31, .int .u64 (Go.bits .or .u64 (leV (((l.drop (8 * t)).take (min (l.length - 8 * t) 8)).take k)) (IntKind.u64.wrap (IntKind.u64.wrap (((l.drop (8 * t)).take (min (l.length - 8 * t) 8)).getD k 0) * 2 ^ min (IntKind.i64.wrap (8 * (k : Int))).toNat 64)))), (20, .int .i64 (k : Int)), (19, .int .i64 ((min (l.length - 8 * t) 8 : Nat) : Int)), (18, .slice (cutA A c 0 1) (min (l.length - 8 * t) 8) c), (4, .int .u64 (leV (((l.drop (8 * t)).take (min (l.length - 8 * t) 8)).take k))), (3, .int .u64 (bd l t)), (0, .slice A (l.length - 8 * t) c)]) [31, 20, 19, 18, 4, 3, 0] (by kernel_rfl) ?_
      refine ops_conv (l' := [(31, .int .u64 (leV (((l.drop (8 * t)).take (min (l.length - 8 * t) 8)).take (k + 1)))), (20, .int .i64 (k : Int)), (19, .int .i64 ((min (l.length - 8 * t) 8 : Nat) : Int)), (18, .slice (cutA A c 0 1) (min (l.length - 8 * t) 8) c), (4, .int .u64 (leV (((l.drop (8 * t)).take (min (l.length - 8 * t) 8)).take k))), (3, .int .u64 (bd l t)), (0, .slice A (l.length - 8 * t) c)]) (by rw [(le_or ((hb.drop _).take _) (by rw [List.length_take, List.length_drop]; omega) (by rw [List.length_take]; omega))]) (fun _ h => h) ?_
      refine ops_run (is := [(7, false)]) (r := []) (l' := [(4, .int .u64 (leV (((l.drop (8 * t)).take (min (l.length - 8 * t) 8)).take (k + 1)))), (20, .int .i64 (k : Int)), (19, .int .i64 ((min (l.length - 8 * t) 8 : Nat) : Int)), (18, .slice (cutA A c 0 1) (min (l.length - 8 * t) 8) c), (3, .int .u64 (bd l t)), (0, .slice A (l.length - 8 * t) c)]) [4, 20, 19, 18, 3, 0] (by kernel_rfl) ?_
      refine ops_nil ?_
      refine fin_block ?_
      refine fin_then ?_
      refine st_region [(0, false), (1, false)] (by rfl) ?_
      refine ops_run (is := [(0, false)]) (r := [(1, false)]) (l' := [(32, .int .i64 (IntKind.i64.wrap ((k : Int) + 1))), (4, .int .u64 (leV (((l.drop (8 * t)).take (min (l.length - 8 * t) 8)).take (k + 1)))), (20, .int .i64 (k : Int)), (19, .int .i64 ((min (l.length - 8 * t) 8 : Nat) : Int)), (18, .slice (cutA A c 0 1) (min (l.length - 8 * t) 8) c), (3, .int .u64 (bd l t)), (0, .slice A (l.length - 8 * t) c)]) [32, 4, 20, 19, 18, 3, 0] (by kernel_rfl) ?_
      refine ops_conv (l' := [(32, .int .i64 ((k + 1 : Nat) : Int)), (4, .int .u64 (leV (((l.drop (8 * t)).take (min (l.length - 8 * t) 8)).take (k + 1)))), (20, .int .i64 (k : Int)), (19, .int .i64 ((min (l.length - 8 * t) 8 : Nat) : Int)), (18, .slice (cutA A c 0 1) (min (l.length - 8 * t) 8) c), (3, .int .u64 (bd l t)), (0, .slice A (l.length - 8 * t) c)]) (by rw [hk1]) (fun _ h => h) ?_
      refine ops_run (is := [(1, false)]) (r := []) (l' := [(20, .int .i64 ((k + 1 : Nat) : Int)), (4, .int .u64 (leV (((l.drop (8 * t)).take (min (l.length - 8 * t) 8)).take (k + 1)))), (19, .int .i64 ((min (l.length - 8 * t) 8 : Nat) : Int)), (18, .slice (cutA A c 0 1) (min (l.length - 8 * t) 8) c), (3, .int .u64 (bd l t)), (0, .slice A (l.length - 8 * t) c)]) [20, 4, 19, 18, 3, 0] (by kernel_rfl) ?_
      refine ops_nil ?_
      refine fin_round (k + 1) (by omega) (by omega) (look_has ⟨rfl, rfl, rfl, rfl, rfl, rfl, trivial⟩) (fun w_ hM => by exact hM)
    · --
      have hk : k = min (l.length - 8 * t) 8 := by have := of_decide_eq_false hc3; omega
      refine st_exit ?_
      refine fin_exit_then ?_
      refine fin_exit_then ?_
      refine fin_exit ?_
      refine fin_then ?_
      refine st_region_draw [(0, true), (1, true), (3, true), (4, true), (5, true), (6, true), (7, true), (2, false), (8, true), (9, true)] (Mem w []) (by kernel_rfl) (by kernel_rfl) (by kernel_rfl) (fun _ d _ _ _ h => by cases d <;> exact h) (M' := Mem w []) (fun w_ hM => ⟨hM.drew, hM.drew.sub (by simp)⟩) ?_
      refine ops_run (is := [(0, true), (1, true), (3, true), (4, true), (5, true)]) (r := [(6, true), (7, true), (2, false), (8, true), (9, true)]) (l' := [(38, .int .i64 ((l.length - 8 * t : Nat) : Int)), (36, .slice A (l.length - 8 * t) c), (34, .int .u64 (leV (((l.drop (8 * t)).take (min (l.length - 8 * t) 8)).take k))), (33, .int .u64 (bd l t)), (3, .int .u64 (bd l t)), (0, .slice A (l.length - 8 * t) c)]) [38, 36, 34, 33, 3, 0] (by kernel_rfl) ?_
      refine ops_val (op := (Go.Op.call { callee := (Go.Callee.builtin Go.Builtin.min), args := #[(Go.Operand.tmp 38), (Go.Operand.const (Go.Value.int Go.IntKind.i64 8))], argTypes := #[3, 3] })) (d := some 39) (v := .int .i64 (min ((l.length - 8 * t : Nat) : Int) 8)) ⟨by kernel_rfl⟩ (run_min rfl rfl) ?_
      refine ops_run (is := []) (r := [(7, true), (2, false), (8, true), (9, true)]) (l' := [(39, .int .i64 (min ((l.length - 8 * t : Nat) : Int) 8)), (36, .slice A (l.length - 8 * t) c), (34, .int .u64 (leV (((l.drop (8 * t)).take (min (l.length - 8 * t) 8)).take k))), (33, .int .u64 (bd l t)), (3, .int .u64 (bd l t)), (0, .slice A (l.length - 8 * t) c)]) [39, 36, 34, 33, 3, 0] (by kernel_rfl) ?_
      refine ops_conv (l' := [(39, .int .i64 ((min (l.length - 8 * t) 8 : Nat) : Int)), (36, .slice A (l.length - 8 * t) c), (34, .int .u64 (leV (((l.drop (8 * t)).take (min (l.length - 8 * t) 8)).take k))), (33, .int .u64 (bd l t)), (3, .int .u64 (bd l t)), (0, .slice A (l.length - 8 * t) c)]) (by rw [hmin]) (fun _ h => h) ?_
      refine ops_val (op := (Go.Op.slice 38 (Go.Operand.tmp 36) (some (Go.Operand.tmp 39)) none none)) (d := some 40) (v := .slice (cutA A c (min (l.length - 8 * t) 8) 1) ((l.length - 8 * t) - min (l.length - 8 * t) 8) (c - min (l.length - 8 * t) 8)) ⟨by kernel_rfl⟩ (run_cutL (by kernel_rfl) (z := 1) (by kernel_rfl) rfl rfl (by first | rfl | omega) (by first | omega | (simp only [List.length_drop, List.length_take, List.length_set, List.length_append, List.length_cons, List.length_nil, List.length_replicate] at *; omega) | (simp [List.length_drop, List.length_take, List.length_set, List.length_append, List.length_cons, List.length_nil, List.length_replicate]; done)) rfl rfl) ?_
      have hr7 : RInts .u8 (cutA A c (min (l.length - 8 * t) 8) 1) ((l.drop (8 * t)).drop (min (l.length - 8 * t) 8)) w := RInts.cutL (lo := min (l.length - 8 * t) 8) hrt (by first | omega | (simp only [List.length_drop, List.length_take, List.length_set, List.length_append, List.length_cons, List.length_nil, List.length_replicate] at *; omega) | (simp [List.length_drop, List.length_take, List.length_set, List.length_append, List.length_cons, List.length_nil, List.length_replicate]; done))
      refine ops_run (is := []) (r := [(2, false), (8, true), (9, true)]) (l' := [(40, .slice (cutA A c (min (l.length - 8 * t) 8) 1) ((l.length - 8 * t) - min (l.length - 8 * t) 8) (c - min (l.length - 8 * t) 8)), (34, .int .u64 (leV (((l.drop (8 * t)).take (min (l.length - 8 * t) 8)).take k))), (33, .int .u64 (bd l t)), (3, .int .u64 (bd l t)), (0, .slice A (l.length - 8 * t) c)]) [40, 34, 33, 3, 0] (by kernel_rfl) ?_
      refine ops_conv (l' := [(40, .slice (cutA A c (min (l.length - 8 * t) 8) 1) ((l.length - 8 * t) - min (l.length - 8 * t) 8) (c - min (l.length - 8 * t) 8)), (34, .int .u64 (leV ((l.drop (8 * t)).take 8))), (33, .int .u64 (bd l t)), (3, .int .u64 (bd l t)), (0, .slice A (l.length - 8 * t) c)]) (by rw [hk, List.take_of_length_le (by rw [List.length_take]; omega), take_word rfl]) (fun _ h => h) ?_
      refine ops_call (σ := Unit) (d := some 35) (f := 25) (args := #[.int .u64 (bd l t), .int .u64 (leV ((l.drop (8 * t)).take 8))]) (v := fun _ => .int .u64 (joinv (bd l t) (leV ((l.drop (8 * t)).take 8)))) (M' := fun _ => Mem w []) ⟨by kernel_rfl⟩ (fun w_ hM hS => (Join_calls (bd l t) (leV ((l.drop (8 * t)).take 8)) w_).mono (by rintro e w' ⟨rfl, hb⟩; exact ⟨(), rfl, hM.step hb, hS.step hb⟩)) (fun _ => ?_)
      refine ops_run (is := []) (r := [(8, true), (9, true)]) (l' := [(35, .int .u64 (joinv (bd l t) (leV ((l.drop (8 * t)).take 8)))), (40, .slice (cutA A c (min (l.length - 8 * t) 8) 1) ((l.length - 8 * t) - min (l.length - 8 * t) 8) (c - min (l.length - 8 * t) 8)), (3, .int .u64 (bd l t)), (0, .slice A (l.length - 8 * t) c)]) [35, 40, 3, 0] (by kernel_rfl) ?_
      refine ops_conv (l' := [(35, .int .u64 (bd l (t + 1))), (40, .slice (cutA A c (min (l.length - 8 * t) 8) 1) ((l.length - 8 * t) - min (l.length - 8 * t) 8) (c - min (l.length - 8 * t) 8)), (3, .int .u64 (bd l t)), (0, .slice A (l.length - 8 * t) c)]) (by rw [(bd_succ l t)]) (fun _ h => h) ?_
      refine ops_run (is := [(8, true), (9, true)]) (r := []) (l' := [(0, .slice (cutA A c (min (l.length - 8 * t) 8) 1) ((l.length - 8 * t) - min (l.length - 8 * t) 8) (c - min (l.length - 8 * t) 8)), (3, .int .u64 (bd l (t + 1)))]) [0, 3] (by kernel_rfl) ?_
      refine ops_nil ?_
      refine fin_block ?_
      have hr2 : RInts .u8 (cutA A c (min (l.length - 8 * t) 8) 1) (l.drop (8 * (t + 1))) w := by have z := hr7; rw [List.drop_drop] at z; rw [show 8 * (t + 1) = 8 * t + min (l.length - 8 * t) 8 + (8 - min (l.length - 8 * t) 8) by omega, ← List.drop_drop] ; exact rints_skip (by simp; omega) z
      refine fin_conv (l' := [(0, .slice (cutA A c (min (l.length - 8 * t) 8) 1) (l.length - 8 * (t + 1)) (c - min (l.length - 8 * t) 8)), (3, .int .u64 (bd l (t + 1)))]) (M' := Mem w []) (by rw [show l.length - 8 * t - min (l.length - 8 * t) 8 = l.length - 8 * (t + 1) by omega]) (fun w_ hM => hM) ?_
      refine fin_round (t + 1, (cutA A c (min (l.length - 8 * t) 8) 1), (c - min (l.length - 8 * t) 8)) (by exact ⟨show t + 1 ≤ (l.length + 7) / 8 by omega, hr2, show l.length - 8 * (t + 1) ≤ _ by omega⟩) (by first | omega | (dsimp only; omega)) (look_has ⟨rfl, rfl, trivial⟩) (fun w_ hM => by exact hM)
  · --
    have hend : t = (l.length + 7) / 8 := by have := of_decide_eq_false hc1; omega
    refine st_exit ?_
    refine fin_exit_then ?_
    refine fin_exit_then ?_
    refine fin_exit ?_
    refine fin_then ?_
    refine st_seq ?_
    refine st_region [(0, false), (1, false)] (by rfl) ?_
    refine ops_run (is := [(0, false), (1, false)]) (r := []) (l' := [(2, .int .u64 (bd l t))]) [2] (by kernel_rfl) ?_
    refine ops_nil ?_
    refine fin_then ?_
    refine st_ret ?_
    refine fin_ret [.tmp 2] [.int .u64 (bd l t)] rfl rfl (fun w_ hM => (.tmp rfl .nil)) (fun w_ hM => ?_)
    refine ⟨?_, hM.done⟩
    rw [hend]
    rfl
set_option maxRecDepth 100000 in
theorem ByteDigest_calls (A : Option Addr) (c : Nat) (l : List Int) (w : World) (hr : RInts .u8 A l w) (hc : l.length ≤ c) (hlen : l.length ≤ 140737488351232) (hb : Bytes l) : Calls Try.prog 29 #[.slice A l.length c] w fun e w' => e = .returned (.int .u64 (bd l ((l.length + 7) / 8))) ∧ Below w.heap.size w w' := by
  refine sx_calls Try.func29 rfl (n := 40) (by kernel_rfl) (l := [(0, .slice A l.length c)]) rfl (by rfl) (Mem.nil w) ?_
  refine st_seq ?_
  refine st_region [(0, false)] (by rfl) ?_
  refine ops_run (is := [(0, false)]) (r := []) (l' := [(0, .slice A l.length c)]) [0] (by kernel_rfl) ?_
  refine ops_nil ?_
  refine fin_then ?_
  refine st_seq ?_
  refine st_region [(0, false), (1, false), (2, false), (3, false), (4, false)] (by rfl) ?_
  refine ops_run (is := [(0, false), (1, false), (2, false)]) (r := [(3, false), (4, false)]) (l' := [(9, .int .u64 (IntKind.u64.wrap (l.length : Int))), (0, .slice A l.length c)]) [9, 0] (by kernel_rfl) ?_
  refine ops_call (σ := Unit) (d := some 10) (f := 26) (args := #[.int .u64 11170449401992604703, .int .u64 (IntKind.u64.wrap (l.length : Int))]) (v := fun _ => .int .u64 (joinv 11170449401992604703 (IntKind.u64.wrap (l.length : Int)))) (M' := fun _ => Mem w []) ⟨by kernel_rfl⟩ (fun w_ hM hS => (Tied_calls 11170449401992604703 (IntKind.u64.wrap (l.length : Int)) w_).mono (by rintro e w' ⟨rfl, hb⟩; exact ⟨(), rfl, hM.step hb, trivial⟩)) (fun _ => ?_)
  refine ops_run (is := [(4, false)]) (r := []) (l' := [(3, .int .u64 (joinv 11170449401992604703 (IntKind.u64.wrap (l.length : Int)))), (0, .slice A l.length c)]) [3, 0] (by kernel_rfl) ?_
  refine ops_nil ?_
  refine fin_then ?_
  refine st_seq ?_
  refine st_seq ?_
  refine st_region [(0, false)] (by rfl) ?_
  refine ops_run (is := [(0, false)]) (r := []) (l' := [(4, .int .i64 0), (3, .int .u64 (joinv 11170449401992604703 (IntKind.u64.wrap (l.length : Int)))), (0, .slice A l.length c)]) [4, 3, 0] (by kernel_rfl) ?_
  refine ops_nil ?_
  refine fin_then ?_
  refine st_block ?_
  refine st_loop (σ := Nat) 0 (fun t => [(4, .int .i64 ((8 * t : Nat) : Int)), (3, .int .u64 (bd l t)), (0, .slice A l.length c)]) (fun t => Mem w []) (fun t => t ≤ (l.length + 7) / 8) (fun t => (l.length + 7) / 8 - t) (by exact Nat.zero_le _) (look_has ⟨rfl, rfl, rfl, trivial⟩) (fun w_ hM => by exact hM) ?_
  rintro t hI
  have hI1 : t ≤ (l.length + 7) / 8 := hI
  refine st_seq ?_
  refine st_seq ?_
  refine st_region [(0, false), (1, false), (2, false), (3, false)] (by rfl) ?_
  refine ops_run (is := [(0, false), (1, false), (2, false), (3, false)]) (r := []) (l' := [(14, .bool (decide (((8 * t : Nat) : Int) < (l.length : Int)))), (4, .int .i64 ((8 * t : Nat) : Int)), (3, .int .u64 (bd l t)), (0, .slice A l.length c)]) [14, 4, 3, 0] (by kernel_rfl) ?_
  refine ops_nil ?_
  refine fin_then ?_
  refine st_if (b := decide (((8 * t : Nat) : Int) < (l.length : Int))) rfl (fun hc1 => ?_) (fun hc1 => ?_)
  · --
    have hpos : 8 * t < l.length := by have := of_decide_eq_true hc1; omega
    have h8 : IntKind.i64.wrap (((8 * t : Nat) : Int) + 8) = ((8 * t + 8 : Nat) : Int) := by rw [i64w]; omega
    have hmin : min ((8 * t + 8 : Nat) : Int) (l.length : Int) = ((min (8 * t + 8) l.length : Nat) : Int) := by omega
    have hm1 : IntKind.i64.wrap (((min (8 * t + 8) l.length : Nat) : Int) - 1) = ((min (8 * t + 8) l.length : Nat) : Int) - 1 := by rw [i64w]; omega
    refine st_skip ?_
    refine fin_then ?_
    refine st_seq ?_
    refine st_block ?_
    refine st_seq ?_
    refine st_region [(0, false)] (by rfl) ?_
    refine ops_run (is := [(0, false)]) (r := []) (l' := [(5, .int .u64 0), (4, .int .i64 ((8 * t : Nat) : Int)), (3, .int .u64 (bd l t)), (0, .slice A l.length c)]) [5, 4, 3, 0] (by kernel_rfl) ?_
    refine ops_nil ?_
    refine fin_then ?_
    refine st_seq ?_
    refine st_seq ?_
    refine st_region [(0, false), (1, false), (2, false), (3, false), (4, false), (5, false), (6, false)] (by rfl) ?_
    refine ops_run (is := [(0, false), (1, false)]) (r := [(2, false), (3, false), (4, false), (5, false), (6, false)]) (l' := [(18, .int .i64 (IntKind.i64.wrap (((8 * t : Nat) : Int) + 8))), (5, .int .u64 0), (4, .int .i64 ((8 * t : Nat) : Int)), (3, .int .u64 (bd l t)), (0, .slice A l.length c)]) [18, 5, 4, 3, 0] (by kernel_rfl) ?_
    refine ops_conv (l' := [(18, .int .i64 ((8 * t + 8 : Nat) : Int)), (5, .int .u64 0), (4, .int .i64 ((8 * t : Nat) : Int)), (3, .int .u64 (bd l t)), (0, .slice A l.length c)]) (by rw [h8]) (fun _ h => h) ?_
    refine ops_run (is := [(2, false), (3, false)]) (r := [(4, false), (5, false), (6, false)]) (l' := [(20, .int .i64 (l.length : Int)), (18, .int .i64 ((8 * t + 8 : Nat) : Int)), (5, .int .u64 0), (4, .int .i64 ((8 * t : Nat) : Int)), (3, .int .u64 (bd l t)), (0, .slice A l.length c)]) [20, 18, 5, 4, 3, 0] (by kernel_rfl) ?_
    refine ops_val (op := (Go.Op.call { callee := (Go.Callee.builtin Go.Builtin.min), args := #[(Go.Operand.tmp 18), (Go.Operand.tmp 20)], argTypes := #[3, 3] })) (d := some 21) (v := .int .i64 (min ((8 * t + 8 : Nat) : Int) (l.length : Int))) ⟨by kernel_rfl⟩ (run_min rfl rfl) ?_
    refine ops_run (is := []) (r := [(5, false), (6, false)]) (l' := [(21, .int .i64 (min ((8 * t + 8 : Nat) : Int) (l.length : Int))), (5, .int .u64 0), (4, .int .i64 ((8 * t : Nat) : Int)), (3, .int .u64 (bd l t)), (0, .slice A l.length c)]) [21, 5, 4, 3, 0] (by kernel_rfl) ?_
    refine ops_conv (l' := [(21, .int .i64 ((min (8 * t + 8) l.length : Nat) : Int)), (5, .int .u64 0), (4, .int .i64 ((8 * t : Nat) : Int)), (3, .int .u64 (bd l t)), (0, .slice A l.length c)]) (by rw [hmin]) (fun _ h => h) ?_
    refine ops_run (is := [(5, false)]) (r := [(6, false)]) (l' := [(22, .int .i64 (IntKind.i64.wrap (((min (8 * t + 8) l.length : Nat) : Int) - 1))), (5, .int .u64 0), (4, .int .i64 ((8 * t : Nat) : Int)), (3, .int .u64 (bd l t)), (0, .slice A l.length c)]) [22, 5, 4, 3, 0] (by kernel_rfl) ?_
    refine ops_conv (l' := [(22, .int .i64 (((min (8 * t + 8) l.length : Nat) : Int) - 1)), (5, .int .u64 0), (4, .int .i64 ((8 * t : Nat) : Int)), (3, .int .u64 (bd l t)), (0, .slice A l.length c)]) (by rw [hm1]) (fun _ h => h) ?_
    refine ops_run (is := [(6, false)]) (r := []) (l' := [(6, .int .i64 (((min (8 * t + 8) l.length : Nat) : Int) - 1)), (5, .int .u64 0), (4, .int .i64 ((8 * t : Nat) : Int)), (3, .int .u64 (bd l t)), (0, .slice A l.length c)]) [6, 5, 4, 3, 0] (by kernel_rfl) ?_
    refine ops_nil ?_
    refine fin_then ?_
    refine st_block ?_
    refine st_conv (l' := [(6, .int .i64 (((min (8 * t + 8) l.length : Nat) : Int) - 1)), (5, .int .u64 (leV (seg l (min (8 * t + 8) l.length) (min (8 * t + 8) l.length)))), (4, .int .i64 ((8 * t : Nat) : Int)), (3, .int .u64 (bd l t)), (0, .slice A l.length c)]) (M' := Mem w []) (by rw [← seg_nil]) (fun w_ hM => hM) ?_
    refine st_loop (σ := Nat) (min (8 * t + 8) l.length) (fun k => [(6, .int .i64 (((k : Nat) : Int) - 1)), (5, .int .u64 (leV (seg l k (min (8 * t + 8) l.length)))), (4, .int .i64 ((8 * t : Nat) : Int)), (3, .int .u64 (bd l t)), (0, .slice A l.length c)]) (fun k => Mem w []) (fun k => 8 * t ≤ k ∧ k ≤ (min (8 * t + 8) l.length)) (fun k => k) (by show 8 * t ≤ (min (8 * t + 8) l.length) ∧ (min (8 * t + 8) l.length) ≤ (min (8 * t + 8) l.length); omega) (look_has ⟨rfl, rfl, rfl, rfl, rfl, trivial⟩) (fun w_ hM => by exact hM) ?_
    rintro k hI
    have hI2 : 8 * t ≤ k ∧ k ≤ (min (8 * t + 8) l.length) := hI
    refine st_seq ?_
    refine st_seq ?_
    refine st_region [(0, false), (1, false), (2, false)] (by rfl) ?_
    refine ops_run (is := [(0, false), (1, false), (2, false)]) (r := []) (l' := [(25, .bool (decide (((8 * t : Nat) : Int) ≤ (((k : Nat) : Int) - 1)))), (6, .int .i64 (((k : Nat) : Int) - 1)), (5, .int .u64 (leV (seg l k (min (8 * t + 8) l.length)))), (4, .int .i64 ((8 * t : Nat) : Int)), (3, .int .u64 (bd l t)), (0, .slice A l.length c)]) [25, 6, 5, 4, 3, 0] (by kernel_rfl) ?_
    refine ops_nil ?_
    refine fin_then ?_
    refine st_if (b := decide (((8 * t : Nat) : Int) ≤ (((k : Nat) : Int) - 1))) rfl (fun hc2 => ?_) (fun hc2 => ?_)
    · --
      have hkt : 8 * t < k := by have := of_decide_eq_true hc2; omega
      have hk1 : ((k : Nat) : Int) - 1 = ((k - 1 : Nat) : Int) := by omega
      have hk2 : IntKind.i64.wrap (((k - 1 : Nat) : Int) - 1) = ((k - 1 : Nat) : Int) - 1 := by rw [i64w]; omega
      have hle : IntKind.u64.wrap (IntKind.u64.wrap (256 * leV (seg l k (min (8 * t + 8) l.length))) + IntKind.u64.wrap (l.getD (k - 1) 0)) = leV (seg l (k - 1) (min (8 * t + 8) l.length)) := by have z := le_mul (l := l) (lo := k - 1) (hi := (min (8 * t + 8) l.length)) hb (by omega) (by omega) (by omega); rwa [show k - 1 + 1 = k by omega] at z
      refine st_skip ?_
      refine fin_then ?_
      refine st_seq ?_
      refine st_block ?_
      refine st_region [(0, false), (1, false), (2, false), (3, false), (4, false), (5, false), (6, false), (7, false), (8, false)] (by rfl) ?_
      refine ops_run (is := []) (r := [(0, false), (1, false), (2, false), (3, false), (4, false), (5, false), (6, false), (7, false), (8, false)]) (l' := [(6, .int .i64 (((k : Nat) : Int) - 1)), (5, .int .u64 (leV (seg l k (min (8 * t + 8) l.length)))), (4, .int .i64 ((8 * t : Nat) : Int)), (3, .int .u64 (bd l t)), (0, .slice A l.length c)]) [6, 5, 4, 3, 0] (by kernel_rfl) ?_
      refine ops_conv (l' := [(6, .int .i64 ((k - 1 : Nat) : Int)), (5, .int .u64 (leV (seg l k (min (8 * t + 8) l.length)))), (4, .int .i64 ((8 * t : Nat) : Int)), (3, .int .u64 (bd l t)), (0, .slice A l.length c)]) (by rw [hk1]) (fun _ h => h) ?_
      refine ops_run (is := [(0, false), (1, false), (2, false), (3, false)]) (r := [(4, false), (5, false), (6, false), (7, false), (8, false)]) (l' := [(31, .int .i64 ((k - 1 : Nat) : Int)), (30, .slice A l.length c), (29, .int .u64 (IntKind.u64.wrap (256 * leV (seg l k (min (8 * t + 8) l.length))))), (6, .int .i64 ((k - 1 : Nat) : Int)), (5, .int .u64 (leV (seg l k (min (8 * t + 8) l.length)))), (4, .int .i64 ((8 * t : Nat) : Int)), (3, .int .u64 (bd l t)), (0, .slice A l.length c)]) [31, 30, 29, 6, 5, 4, 3, 0] (by kernel_rfl) ?_
      obtain ⟨ad3, hA4, hx5⟩ := hr (k - 1) (by omega)
      refine ops_val (op := (Go.Op.indexAddr 38 (Go.Operand.tmp 30) (Go.Operand.tmp 31))) (d := some 32) (v := .pointer (some (ad3.add (k - 1)))) ⟨by kernel_rfl⟩ (run_index1 hA4 Try.underlying38 (by kernel_rfl) rfl rfl (m := k - 1) (by first | rfl | omega) (by omega)) ?_
      refine ops_run (is := []) (r := [(5, false), (6, false), (7, false), (8, false)]) (l' := [(32, .pointer (some (ad3.add (k - 1)))), (29, .int .u64 (IntKind.u64.wrap (256 * leV (seg l k (min (8 * t + 8) l.length))))), (6, .int .i64 ((k - 1 : Nat) : Int)), (5, .int .u64 (leV (seg l k (min (8 * t + 8) l.length)))), (4, .int .i64 ((8 * t : Nat) : Int)), (3, .int .u64 (bd l t)), (0, .slice A l.length c)]) [32, 29, 6, 5, 4, 3, 0] (by kernel_rfl) ?_
      refine ops_mem (d := some 33) (an := [.v (.int .u8 (l.getD (k - 1) 0))]) (evs := [.load (ad3.add (k - 1)) (.int .u8 (l.getD (k - 1) 0))]) (v := .int .u8 (l.getD (k - 1) 0)) (M' := Mem w []) ⟨by kernel_rfl⟩ (fun w_ hM hS => ⟨w_, ⟨hM.oldcell hx5, rfl⟩, hM, trivial⟩) ?_
      refine ops_run (is := [(6, false), (7, false)]) (r := [(8, false)]) (l' := [(35, .int .u64 (IntKind.u64.wrap (IntKind.u64.wrap (256 * leV (seg l k (min (8 * t + 8) l.length))) + IntKind.u64.wrap (l.getD (k - 1) 0)))), (6, .int .i64 ((k - 1 : Nat) : Int)), (5, .int .u64 (leV (seg l k (min (8 * t + 8) l.length)))), (4, .int .i64 ((8 * t : Nat) : Int)), (3, .int .u64 (bd l t)), (0, .slice A l.length c)]) [35, 6, 5, 4, 3, 0] (by kernel_rfl) ?_
      refine ops_conv (l' := [(35, .int .u64 (leV (seg l (k - 1) (min (8 * t + 8) l.length)))), (6, .int .i64 ((k - 1 : Nat) : Int)), (5, .int .u64 (leV (seg l k (min (8 * t + 8) l.length)))), (4, .int .i64 ((8 * t : Nat) : Int)), (3, .int .u64 (bd l t)), (0, .slice A l.length c)]) (by rw [hle]) (fun _ h => h) ?_
      refine ops_run (is := [(8, false)]) (r := []) (l' := [(5, .int .u64 (leV (seg l (k - 1) (min (8 * t + 8) l.length)))), (6, .int .i64 ((k - 1 : Nat) : Int)), (4, .int .i64 ((8 * t : Nat) : Int)), (3, .int .u64 (bd l t)), (0, .slice A l.length c)]) [5, 6, 4, 3, 0] (by kernel_rfl) ?_
      refine ops_nil ?_
      refine fin_block ?_
      refine fin_then ?_
      refine st_region [(0, false), (1, false), (2, false)] (by rfl) ?_
      refine ops_run (is := [(0, false), (1, false)]) (r := [(2, false)]) (l' := [(27, .int .i64 (IntKind.i64.wrap (((k - 1 : Nat) : Int) - 1))), (5, .int .u64 (leV (seg l (k - 1) (min (8 * t + 8) l.length)))), (6, .int .i64 ((k - 1 : Nat) : Int)), (4, .int .i64 ((8 * t : Nat) : Int)), (3, .int .u64 (bd l t)), (0, .slice A l.length c)]) [27, 5, 6, 4, 3, 0] (by kernel_rfl) ?_
      refine ops_conv (l' := [(27, .int .i64 (((k - 1 : Nat) : Int) - 1)), (5, .int .u64 (leV (seg l (k - 1) (min (8 * t + 8) l.length)))), (6, .int .i64 ((k - 1 : Nat) : Int)), (4, .int .i64 ((8 * t : Nat) : Int)), (3, .int .u64 (bd l t)), (0, .slice A l.length c)]) (by rw [hk2]) (fun _ h => h) ?_
      refine ops_run (is := [(2, false)]) (r := []) (l' := [(6, .int .i64 (((k - 1 : Nat) : Int) - 1)), (5, .int .u64 (leV (seg l (k - 1) (min (8 * t + 8) l.length)))), (4, .int .i64 ((8 * t : Nat) : Int)), (3, .int .u64 (bd l t)), (0, .slice A l.length c)]) [6, 5, 4, 3, 0] (by kernel_rfl) ?_
      refine ops_nil ?_
      refine fin_round (k - 1) (by show 8 * t ≤ k - 1 ∧ k - 1 ≤ (min (8 * t + 8) l.length); omega) (by omega) (look_has ⟨rfl, rfl, rfl, rfl, rfl, trivial⟩) (fun w_ hM => by exact hM)
    · --
      have hend : k = 8 * t := by have := of_decide_eq_false hc2; omega
      refine st_exit ?_
      refine fin_exit_then ?_
      refine fin_exit_then ?_
      refine fin_exit ?_
      refine fin_then ?_
      refine st_region [(0, false), (1, false), (2, false), (3, false)] (by rfl) ?_
      refine ops_run (is := []) (r := [(0, false), (1, false), (2, false), (3, false)]) (l' := [(5, .int .u64 (leV (seg l k (min (8 * t + 8) l.length)))), (4, .int .i64 ((8 * t : Nat) : Int)), (3, .int .u64 (bd l t)), (0, .slice A l.length c)]) [5, 4, 3, 0] (by kernel_rfl) ?_
      refine ops_run (is := [(0, false), (1, false)]) (r := [(2, false), (3, false)]) (l' := [(37, .int .u64 (leV (seg l k (min (8 * t + 8) l.length)))), (36, .int .u64 (bd l t)), (4, .int .i64 ((8 * t : Nat) : Int)), (3, .int .u64 (bd l t)), (0, .slice A l.length c)]) [37, 36, 4, 3, 0] (by kernel_rfl) ?_
      refine ops_conv (l' := [(37, .int .u64 (leV ((l.drop (8 * t)).take 8))), (36, .int .u64 (bd l t)), (4, .int .i64 ((8 * t : Nat) : Int)), (3, .int .u64 (bd l t)), (0, .slice A l.length c)]) (by rw [hend, seg_word rfl]) (fun _ h => h) ?_
      refine ops_call (σ := Unit) (d := some 38) (f := 26) (args := #[.int .u64 (bd l t), .int .u64 (leV ((l.drop (8 * t)).take 8))]) (v := fun _ => .int .u64 (joinv (bd l t) (leV ((l.drop (8 * t)).take 8)))) (M' := fun _ => Mem w []) ⟨by kernel_rfl⟩ (fun w_ hM hS => (Tied_calls (bd l t) (leV ((l.drop (8 * t)).take 8)) w_).mono (by rintro e w' ⟨rfl, hb⟩; exact ⟨(), rfl, hM.step hb, trivial⟩)) (fun _ => ?_)
      refine ops_run (is := []) (r := [(3, false)]) (l' := [(38, .int .u64 (joinv (bd l t) (leV ((l.drop (8 * t)).take 8)))), (4, .int .i64 ((8 * t : Nat) : Int)), (3, .int .u64 (bd l t)), (0, .slice A l.length c)]) [38, 4, 3, 0] (by kernel_rfl) ?_
      refine ops_conv (l' := [(38, .int .u64 (bd l (t + 1))), (4, .int .i64 ((8 * t : Nat) : Int)), (3, .int .u64 (bd l t)), (0, .slice A l.length c)]) (by rw [(bd_succ l t)]) (fun _ h => h) ?_
      refine ops_run (is := [(3, false)]) (r := []) (l' := [(3, .int .u64 (bd l (t + 1))), (4, .int .i64 ((8 * t : Nat) : Int)), (0, .slice A l.length c)]) [3, 4, 0] (by kernel_rfl) ?_
      refine ops_nil ?_
      refine fin_block ?_
      refine fin_then ?_
      refine st_region [(0, false), (1, false), (2, false)] (by rfl) ?_
      refine ops_run (is := [(0, false), (1, false)]) (r := [(2, false)]) (l' := [(16, .int .i64 (IntKind.i64.wrap (((8 * t : Nat) : Int) + 8))), (3, .int .u64 (bd l (t + 1))), (4, .int .i64 ((8 * t : Nat) : Int)), (0, .slice A l.length c)]) [16, 3, 4, 0] (by kernel_rfl) ?_
      refine ops_conv (l' := [(16, .int .i64 ((8 * t + 8 : Nat) : Int)), (3, .int .u64 (bd l (t + 1))), (4, .int .i64 ((8 * t : Nat) : Int)), (0, .slice A l.length c)]) (by rw [h8]) (fun _ h => h) ?_
      refine ops_run (is := [(2, false)]) (r := []) (l' := [(4, .int .i64 ((8 * t + 8 : Nat) : Int)), (3, .int .u64 (bd l (t + 1))), (0, .slice A l.length c)]) [4, 3, 0] (by kernel_rfl) ?_
      refine ops_nil ?_
      refine fin_round (t + 1) (by show t + 1 ≤ (l.length + 7) / 8; omega) (by omega) (look_has ⟨rfl, rfl, rfl, trivial⟩) (fun w_ hM => by exact hM)
  · --
    have hend : t = (l.length + 7) / 8 := by have := of_decide_eq_false hc1; omega
    refine st_exit ?_
    refine fin_exit_then ?_
    refine fin_exit_then ?_
    refine fin_exit ?_
    refine fin_then ?_
    refine st_seq ?_
    refine st_region [(0, false), (1, false)] (by rfl) ?_
    refine ops_run (is := [(0, false), (1, false)]) (r := []) (l' := [(2, .int .u64 (bd l t))]) [2] (by kernel_rfl) ?_
    refine ops_nil ?_
    refine fin_then ?_
    refine st_ret ?_
    refine fin_ret [.tmp 2] [.int .u64 (bd l t)] rfl rfl (fun w_ hM => (.tmp rfl .nil)) (fun w_ hM => ?_)
    refine ⟨?_, hM.done⟩
    rw [hend]
    rfl
theorem Words_nil (w : World) : Calls Try.prog 23 #[.slice none 0 0] w fun e w' => e = .returned (.int .u64 (joinv 5840696475078001361 0)) ∧ Below w.heap.size w w' := Words_calls none 0 0 [] w (rints_none _ _) rfl (by decide)
theorem Bytes_nil (w : World) : Calls Try.prog 24 #[.slice none 0 0] w fun e w' => e = .returned (.int .u64 (joinv 11170449401992604703 0)) ∧ Below w.heap.size w w' := Bytes_calls none 0 [] w (rints_none _ _) (by decide) (by decide) (fun x hx => by cases hx)
set_option maxRecDepth 100000 in
theorem SumTells_calls0 (a b : Int) (A1 : Option Addr) (c1 : Nat) (l : List Int) (A2 : Option Addr) (c2 : Nat) (m : List Int) (A3 : Option Addr) (c3 : Nat) (data : List Int) (w : World) (hr1 : RInts .u64 A1 l w) (hlen1 : l.length * 8 ≤ 140737488351232) (hr2 : RInts .i64 A2 m w) (hlen2 : m.length * 8 ≤ 140737488351232) (hr3 : RInts .u8 A3 data w) (hc3 : data.length ≤ c3) (hlen3 : data.length ≤ 140737488351232) (hb3 : Bytes data) : Calls Try.prog 6 #[.int .u64 a, .int .u64 b, .slice A1 l.length c1, .slice A2 m.length c2, .slice A3 data.length c3] w fun e w' => e = .returned (.bool true) ∧ Below w.heap.size w w' := by
  have hne : (joinv 5840696475078001361 0 == joinv 11170449401992604703 0) = false := by simpa using sums_differ
  refine sx_calls Try.func6 rfl (n := 57) (by kernel_rfl) (l := [(0, .int .u64 a), (1, .int .u64 b), (2, .slice A1 l.length c1), (3, .slice A2 m.length c2), (4, .slice A3 data.length c3)]) rfl (by rfl) (Mem.nil w) ?_
  refine st_seq ?_
  refine st_region [(0, false)] (by rfl) ?_
  refine ops_run (is := [(0, false)]) (r := []) (l' := [(0, .int .u64 a), (1, .int .u64 b), (2, .slice A1 l.length c1), (3, .slice A2 m.length c2), (4, .slice A3 data.length c3)]) [0, 1, 2, 3, 4] (by kernel_rfl) ?_
  refine ops_nil ?_
  refine fin_then ?_
  refine st_seq ?_
  refine st_seq ?_
  refine st_region [(0, false), (1, false), (2, false)] (by rfl) ?_
  refine ops_call (σ := Unit) (d := some 14) (f := 23) (args := #[.slice none 0 0]) (v := fun _ => .int .u64 (joinv 5840696475078001361 0)) (M' := fun _ => Mem w []) ⟨by kernel_rfl⟩ (fun w_ hM hS => (Words_nil w_).mono (by rintro e w' ⟨rfl, hb⟩; exact ⟨(), rfl, hM.step hb, trivial⟩)) (fun _ => ?_)
  refine ops_run (is := []) (r := [(1, false), (2, false)]) (l' := [(14, .int .u64 (joinv 5840696475078001361 0)), (0, .int .u64 a), (1, .int .u64 b), (2, .slice A1 l.length c1), (3, .slice A2 m.length c2), (4, .slice A3 data.length c3)]) [14, 0, 1, 2, 3, 4] (by kernel_rfl) ?_
  refine ops_call (σ := Unit) (d := some 15) (f := 24) (args := #[.slice none 0 0]) (v := fun _ => .int .u64 (joinv 11170449401992604703 0)) (M' := fun _ => Mem w []) ⟨by kernel_rfl⟩ (fun w_ hM hS => (Bytes_nil w_).mono (by rintro e w' ⟨rfl, hb⟩; exact ⟨(), rfl, hM.step hb, trivial⟩)) (fun _ => ?_)
  refine ops_run (is := [(2, false)]) (r := []) (l' := [(16, .bool (joinv 5840696475078001361 0 == joinv 11170449401992604703 0)), (0, .int .u64 a), (1, .int .u64 b), (2, .slice A1 l.length c1), (3, .slice A2 m.length c2), (4, .slice A3 data.length c3)]) [16, 0, 1, 2, 3, 4] (by kernel_rfl) ?_
  refine ops_nil ?_
  refine fin_then ?_
  refine st_conv (l' := [(16, .bool false), (0, .int .u64 a), (1, .int .u64 b), (2, .slice A1 l.length c1), (3, .slice A2 m.length c2), (4, .slice A3 data.length c3)]) (by rw [hne]) (fun _ h => h) ?_
  refine st_false rfl ?_
  refine st_skip ?_
  refine fin_then ?_
  refine st_seq ?_
  refine st_region [(0, false)] (by rfl) ?_
  refine ops_run (is := [(0, false)]) (r := []) (l' := [(11, .slice none 0 0), (0, .int .u64 a), (1, .int .u64 b), (2, .slice A1 l.length c1), (3, .slice A2 m.length c2), (4, .slice A3 data.length c3)]) [11, 0, 1, 2, 3, 4] (by kernel_rfl) ?_
  refine ops_nil ?_
  refine fin_then ?_
  refine st_seq ?_
  refine st_seq ?_
  refine st_region [(0, false), (1, false), (2, false)] (by rfl) ?_
  refine ops_run (is := [(0, false), (1, false), (2, false)]) (r := []) (l' := [(19, .int .i64 0), (18, .int .i64 (m.length : Int)), (17, .slice A2 m.length c2), (11, .slice none 0 0), (0, .int .u64 a), (1, .int .u64 b), (2, .slice A1 l.length c1), (3, .slice A2 m.length c2), (4, .slice A3 data.length c3)]) [19, 18, 17, 11, 0, 1, 2, 3, 4] (by kernel_rfl) ?_
  refine ops_nil ?_
  refine fin_then ?_
  refine st_block ?_
  refine st_conv (l' := [(19, .int .i64 0), (18, .int .i64 (m.length : Int)), (17, .slice A2 m.length c2), (11, .slice none 0 0), (0, .int .u64 a), (1, .int .u64 b), (2, .slice A1 l.length c1), (3, .slice A2 m.length c2), (4, .slice A3 data.length c3)]) (M' := Mem w [.row none 0 0 25 1 (iv .u64 [])]) rfl (fun w_ h => h.rowNil 25 1) ?_
  refine st_loop (σ := Nat × Option Addr × Nat) (0, none, 0) (fun x_ => match x_ with | (k, A, c) => [(19, .int .i64 (k : Int)), (18, .int .i64 (m.length : Int)), (17, .slice A2 m.length c2), (11, .slice A k c), (0, .int .u64 a), (1, .int .u64 b), (2, .slice A1 l.length c1), (3, .slice A2 m.length c2), (4, .slice A3 data.length c3)]) (fun x_ => match x_ with | (k, A, c) => Mem w [.row A k c 25 1 (iv .u64 (turned (m.take k)))]) (fun x_ => match x_ with | (k, A, c) => k ≤ m.length) (fun x_ => match x_ with | (k, A, c) => m.length - k) (by exact Nat.zero_le _) (look_has ⟨rfl, rfl, rfl, rfl, rfl, rfl, rfl, rfl, rfl, trivial⟩) (fun w_ hM => by exact hM) ?_
  rintro ⟨k, A, c⟩ hI
  have hIk : k ≤ m.length := hI
  refine st_seq ?_
  refine st_region [(0, false)] (by rfl) ?_
  refine ops_run (is := [(0, false)]) (r := []) (l' := [(20, .bool (decide ((k : Int) < (m.length : Int)))), (19, .int .i64 (k : Int)), (18, .int .i64 (m.length : Int)), (17, .slice A2 m.length c2), (11, .slice A k c), (0, .int .u64 a), (1, .int .u64 b), (2, .slice A1 l.length c1), (3, .slice A2 m.length c2), (4, .slice A3 data.length c3)]) [20, 19, 18, 17, 11, 0, 1, 2, 3, 4] (by kernel_rfl) ?_
  refine ops_nil ?_
  refine fin_then ?_
  refine st_seq ?_
  refine st_if (b := decide ((k : Int) < (m.length : Int))) rfl (fun hc1 => ?_) (fun hc1 => ?_)
  · --
    have hk : k < m.length := by have := of_decide_eq_true hc1; omega
    have hk1 : IntKind.i64.wrap ((k : Int) + 1) = ((k + 1 : Nat) : Int) := succ_i64 (by omega)
    refine st_skip ?_
    refine fin_then ?_
    refine st_seq ?_
    refine st_block ?_
    refine st_seq ?_
    refine st_region [(0, false), (1, false), (2, false)] (by rfl) ?_
    refine ops_run (is := []) (r := [(0, false), (1, false), (2, false)]) (l' := [(19, .int .i64 (k : Int)), (18, .int .i64 (m.length : Int)), (17, .slice A2 m.length c2), (11, .slice A k c), (0, .int .u64 a), (1, .int .u64 b), (2, .slice A1 l.length c1), (3, .slice A2 m.length c2), (4, .slice A3 data.length c3)]) [19, 18, 17, 11, 0, 1, 2, 3, 4] (by kernel_rfl) ?_
    obtain ⟨ad2, hA3, hx4⟩ := hr2 k (by omega)
    refine ops_val (op := (Go.Op.indexAddr 37 (Go.Operand.tmp 17) (Go.Operand.tmp 19))) (d := some 21) (v := .pointer (some (ad2.add k))) ⟨by kernel_rfl⟩ (run_index1 hA3 Try.underlying37 (by kernel_rfl) rfl rfl (m := k) (by first | rfl | omega) (by omega)) ?_
    refine ops_run (is := []) (r := [(1, false), (2, false)]) (l' := [(21, .pointer (some (ad2.add k))), (19, .int .i64 (k : Int)), (18, .int .i64 (m.length : Int)), (17, .slice A2 m.length c2), (11, .slice A k c), (0, .int .u64 a), (1, .int .u64 b), (2, .slice A1 l.length c1), (3, .slice A2 m.length c2), (4, .slice A3 data.length c3)]) [21, 19, 18, 17, 11, 0, 1, 2, 3, 4] (by kernel_rfl) ?_
    refine ops_mem (d := some 22) (an := [.v (.int .i64 (m.getD k 0))]) (evs := [.load (ad2.add k) (.int .i64 (m.getD k 0))]) (v := .int .i64 (m.getD k 0)) (M' := Mem w [.row A k c 25 1 (iv .u64 (turned (m.take k)))]) ⟨by kernel_rfl⟩ (fun w_ hM hS => ⟨w_, ⟨hM.oldcell hx4, rfl⟩, hM, trivial⟩) ?_
    refine ops_run (is := [(2, false)]) (r := []) (l' := [(13, .int .i64 (m.getD k 0)), (19, .int .i64 (k : Int)), (18, .int .i64 (m.length : Int)), (17, .slice A2 m.length c2), (11, .slice A k c), (0, .int .u64 a), (1, .int .u64 b), (2, .slice A1 l.length c1), (3, .slice A2 m.length c2), (4, .slice A3 data.length c3)]) [13, 19, 18, 17, 11, 0, 1, 2, 3, 4] (by kernel_rfl) ?_
    refine ops_nil ?_
    refine fin_then ?_
    refine st_region [(0, false), (1, false), (2, false), (3, false), (4, false), (5, false)] (by rfl) ?_
    refine ops_run (is := [(0, false), (1, false), (2, false)]) (r := [(3, false), (4, false), (5, false)]) (l' := [(25, .int .u64 (IntKind.u64.wrap (m.getD k 0))), (23, .slice A k c), (19, .int .i64 (k : Int)), (18, .int .i64 (m.length : Int)), (17, .slice A2 m.length c2), (11, .slice A k c), (0, .int .u64 a), (1, .int .u64 b), (2, .slice A1 l.length c1), (3, .slice A2 m.length c2), (4, .slice A3 data.length c3)]) [25, 23, 19, 18, 17, 11, 0, 1, 2, 3, 4] (by kernel_rfl) ?_
    refine ops_new (d := some 26) (o := .cells #[.int .u64 (IntKind.u64.wrap (m.getD k 0))] 25) (v := fun b5 => .slice (some ⟨b5, 0, none⟩) 1 1) (M' := fun b5 => Mem w [.blk b5 [.int .u64 (IntKind.u64.wrap (m.getD k 0))] 25, .row A k c 25 1 (iv .u64 (turned (m.take k)))]) (fun b5 => ⟨by kernel_rfl⟩) (fun w_ hM hS => ⟨hM.blk [.int .u64 (IntKind.u64.wrap (m.getD k 0))] 25, trivial⟩) (fun b5 => ?_)
    refine ops_run (is := []) (r := [(4, false), (5, false)]) (l' := [(26, .slice (some ⟨b5, 0, none⟩) 1 1), (23, .slice A k c), (19, .int .i64 (k : Int)), (18, .int .i64 (m.length : Int)), (17, .slice A2 m.length c2), (11, .slice A k c), (0, .int .u64 a), (1, .int .u64 b), (2, .slice A1 l.length c1), (3, .slice A2 m.length c2), (4, .slice A3 data.length c3)]) [26, 23, 19, 18, 17, 11, 0, 1, 2, 3, 4] (by kernel_rfl) ?_
    refine ops_append (x := (Go.Operand.tmp 23)) (y := (Go.Operand.tmp 26)) (t := 36) (e := 25) (d := some 27) (n' := (k + 1)) (z := 1) (m := 1) (bytes := 8) (xs' := (iv .u64 ((turned (m.take k)) ++ [IntKind.u64.wrap (m.getD k 0)]))) (news := ([.int .u64 (IntKind.u64.wrap (m.getD k 0))])) (zv := .int .u64 0) 1 ⟨by kernel_rfl⟩ rfl rfl Try.underlying36 (by kernel_rfl) (by rfl) rfl (fun w_ hM => hM.src 0 rfl _ _) (rfl) (by simp [Value.oneCell']) (by omega) (by first | rfl | omega) ((by simp [iv])) (fun _ _ _ _ hS h' => trivial) ?_
    rintro ⟨A6, c7⟩
    refine ops_conv (l' := [(27, .slice A6 (k + 1) c7), (26, .slice (some ⟨b5, 0, none⟩) 1 1), (23, .slice A k c), (19, .int .i64 (k : Int)), (18, .int .i64 (m.length : Int)), (17, .slice A2 m.length c2), (11, .slice A k c), (0, .int .u64 a), (1, .int .u64 b), (2, .slice A1 l.length c1), (3, .slice A2 m.length c2), (4, .slice A3 data.length c3)]) (M' := Mem w [.blk b5 [.int .u64 (IntKind.u64.wrap (m.getD k 0))] 25, .row A6 (k + 1) c7 25 1 (iv .u64 ((turned (m.take k)) ++ [IntKind.u64.wrap (m.getD k 0)]))]) rfl (fun _ h => h) ?_
    refine ops_run (is := [(5, false)]) (r := []) (l' := [(11, .slice A6 (k + 1) c7), (19, .int .i64 (k : Int)), (18, .int .i64 (m.length : Int)), (17, .slice A2 m.length c2), (0, .int .u64 a), (1, .int .u64 b), (2, .slice A1 l.length c1), (3, .slice A2 m.length c2), (4, .slice A3 data.length c3)]) [11, 19, 18, 17, 0, 1, 2, 3, 4] (by kernel_rfl) ?_
    refine ops_nil ?_
    refine fin_block ?_
    refine fin_then ?_
    refine st_region [(0, false), (1, false)] (by rfl) ?_
    refine ops_run (is := [(0, false)]) (r := [(1, false)]) (l' := [(28, .int .i64 (IntKind.i64.wrap ((k : Int) + 1))), (11, .slice A6 (k + 1) c7), (19, .int .i64 (k : Int)), (18, .int .i64 (m.length : Int)), (17, .slice A2 m.length c2), (0, .int .u64 a), (1, .int .u64 b), (2, .slice A1 l.length c1), (3, .slice A2 m.length c2), (4, .slice A3 data.length c3)]) [28, 11, 19, 18, 17, 0, 1, 2, 3, 4] (by kernel_rfl) ?_
    refine ops_conv (l' := [(28, .int .i64 ((k + 1 : Nat) : Int)), (11, .slice A6 (k + 1) c7), (19, .int .i64 (k : Int)), (18, .int .i64 (m.length : Int)), (17, .slice A2 m.length c2), (0, .int .u64 a), (1, .int .u64 b), (2, .slice A1 l.length c1), (3, .slice A2 m.length c2), (4, .slice A3 data.length c3)]) (by rw [hk1]) (fun _ h => h) ?_
    refine ops_run (is := [(1, false)]) (r := []) (l' := [(19, .int .i64 ((k + 1 : Nat) : Int)), (11, .slice A6 (k + 1) c7), (18, .int .i64 (m.length : Int)), (17, .slice A2 m.length c2), (0, .int .u64 a), (1, .int .u64 b), (2, .slice A1 l.length c1), (3, .slice A2 m.length c2), (4, .slice A3 data.length c3)]) [19, 11, 18, 17, 0, 1, 2, 3, 4] (by kernel_rfl) ?_
    refine ops_nil ?_
    refine fin_round (k + 1, A6, c7) (by first | omega | (dsimp only; omega)) (by first | omega | (dsimp only; omega)) (look_has ⟨rfl, rfl, rfl, rfl, rfl, rfl, rfl, rfl, rfl, trivial⟩) (fun w_ hM => by exact (by have hM : Mem w [.row A6 (k + 1) c7 25 1 (iv .u64 ((turned (m.take k)) ++ [IntKind.u64.wrap (m.getD k 0)]))] w_ := hM.reorder [1] (by decide) rfl; exact (by rw [turned_take m k hk] at hM; exact hM)))
  · --
    have hk : k = m.length := by have := of_decide_eq_false hc1; omega
    refine st_exit ?_
    refine fin_exit_then ?_
    refine fin_exit_then ?_
    refine fin_exit ?_
    refine fin_then ?_
    refine st_seq ?_
    refine st_region [(0, false), (1, false), (2, false), (3, false), (4, false), (5, false), (6, false), (7, false), (8, false), (9, false), (10, false), (11, false), (12, false), (13, false), (14, false), (15, false), (16, false), (17, false), (18, false), (19, false), (20, false), (21, false), (22, false), (23, false), (24, false), (25, false), (26, false), (27, false), (28, false)] (by rfl) ?_
    refine ops_run (is := [(0, false), (1, false)]) (r := [(2, false), (3, false), (4, false), (5, false), (6, false), (7, false), (8, false), (9, false), (10, false), (11, false), (12, false), (13, false), (14, false), (15, false), (16, false), (17, false), (18, false), (19, false), (20, false), (21, false), (22, false), (23, false), (24, false), (25, false), (26, false), (27, false), (28, false)]) (l' := [(30, .int .u64 b), (29, .int .u64 a), (11, .slice A k c), (0, .int .u64 a), (1, .int .u64 b), (2, .slice A1 l.length c1), (3, .slice A2 m.length c2), (4, .slice A3 data.length c3)]) [30, 29, 11, 0, 1, 2, 3, 4] (by kernel_rfl) ?_
    refine ops_call (σ := Unit) (d := some 31) (f := 25) (args := #[.int .u64 a, .int .u64 b]) (v := fun _ => .int .u64 (joinv a b)) (M' := fun _ => Mem w [.row A k c 25 1 (iv .u64 (turned (m.take k)))]) ⟨by kernel_rfl⟩ (fun w_ hM hS => (Join_calls a b w_).mono (by rintro e w' ⟨rfl, hb⟩; exact ⟨(), rfl, hM.step hb, trivial⟩)) (fun _ => ?_)
    refine ops_run (is := [(3, false), (4, false)]) (r := [(5, false), (6, false), (7, false), (8, false), (9, false), (10, false), (11, false), (12, false), (13, false), (14, false), (15, false), (16, false), (17, false), (18, false), (19, false), (20, false), (21, false), (22, false), (23, false), (24, false), (25, false), (26, false), (27, false), (28, false)]) (l' := [(33, .int .u64 b), (32, .int .u64 a), (31, .int .u64 (joinv a b)), (11, .slice A k c), (2, .slice A1 l.length c1), (3, .slice A2 m.length c2), (4, .slice A3 data.length c3)]) [33, 32, 31, 11, 2, 3, 4] (by kernel_rfl) ?_
    refine ops_call (σ := Unit) (d := some 34) (f := 26) (args := #[.int .u64 a, .int .u64 b]) (v := fun _ => .int .u64 (joinv a b)) (M' := fun _ => Mem w [.row A k c 25 1 (iv .u64 (turned (m.take k)))]) ⟨by kernel_rfl⟩ (fun w_ hM hS => (Tied_calls a b w_).mono (by rintro e w' ⟨rfl, hb⟩; exact ⟨(), rfl, hM.step hb, trivial⟩)) (fun _ => ?_)
    refine ops_run (is := []) (r := [(6, false), (7, false), (8, false), (9, false), (10, false), (11, false), (12, false), (13, false), (14, false), (15, false), (16, false), (17, false), (18, false), (19, false), (20, false), (21, false), (22, false), (23, false), (24, false), (25, false), (26, false), (27, false), (28, false)]) (l' := [(34, .int .u64 (joinv a b)), (31, .int .u64 (joinv a b)), (11, .slice A k c), (2, .slice A1 l.length c1), (3, .slice A2 m.length c2), (4, .slice A3 data.length c3)]) [34, 31, 11, 2, 3, 4] (by kernel_rfl) ?_
    refine ops_val (op := (Go.Op.binOp Go.BinOp.eql 25 (Go.Operand.tmp 31) (Go.Operand.tmp 34) 25)) (d := some 35) (v := .bool true) ⟨by kernel_rfl⟩ (run_eql_same rfl rfl) ?_
    refine ops_run (is := [(7, false), (8, false)]) (r := [(9, false), (10, false), (11, false), (12, false), (13, false), (14, false), (15, false), (16, false), (17, false), (18, false), (19, false), (20, false), (21, false), (22, false), (23, false), (24, false), (25, false), (26, false), (27, false), (28, false)]) (l' := [(37, .slice A1 l.length c1), (36, .bool true), (11, .slice A k c), (2, .slice A1 l.length c1), (3, .slice A2 m.length c2), (4, .slice A3 data.length c3)]) [37, 36, 11, 2, 3, 4] (by kernel_rfl) ?_
    refine ops_call (σ := Unit) (d := some 38) (f := 23) (args := #[.slice A1 l.length c1]) (v := fun _ => .int .u64 (dig l)) (M' := fun _ => Mem w [.row A k c 25 1 (iv .u64 (turned (m.take k)))]) ⟨by kernel_rfl⟩ (fun w_ hM hS => (Words_calls A1 c1 l.length l w_ (hr1.mem hM) (by omega) (by omega)).mono (by rintro e w' ⟨rfl, hb⟩; exact ⟨(), rfl, hM.step hb, trivial⟩)) (fun _ => ?_)
    refine ops_run (is := [(10, false)]) (r := [(11, false), (12, false), (13, false), (14, false), (15, false), (16, false), (17, false), (18, false), (19, false), (20, false), (21, false), (22, false), (23, false), (24, false), (25, false), (26, false), (27, false), (28, false)]) (l' := [(39, .slice A1 l.length c1), (38, .int .u64 (dig l)), (36, .bool true), (11, .slice A k c), (3, .slice A2 m.length c2), (4, .slice A3 data.length c3)]) [39, 38, 36, 11, 3, 4] (by kernel_rfl) ?_
    refine ops_call (σ := Unit) (d := some 40) (f := 27) (args := #[.slice A1 l.length c1]) (v := fun _ => .int .u64 (dig l)) (M' := fun _ => Mem w [.row A k c 25 1 (iv .u64 (turned (m.take k)))]) ⟨by kernel_rfl⟩ (fun w_ hM hS => (Digest_calls A1 c1 l.length l w_ (hr1.mem hM) (by omega) (by omega)).mono (by rintro e w' ⟨rfl, hb⟩; exact ⟨(), rfl, hM.step hb, trivial⟩)) (fun _ => ?_)
    refine ops_run (is := []) (r := [(12, false), (13, false), (14, false), (15, false), (16, false), (17, false), (18, false), (19, false), (20, false), (21, false), (22, false), (23, false), (24, false), (25, false), (26, false), (27, false), (28, false)]) (l' := [(40, .int .u64 (dig l)), (38, .int .u64 (dig l)), (36, .bool true), (11, .slice A k c), (3, .slice A2 m.length c2), (4, .slice A3 data.length c3)]) [40, 38, 36, 11, 3, 4] (by kernel_rfl) ?_
    refine ops_val (op := (Go.Op.binOp Go.BinOp.eql 25 (Go.Operand.tmp 38) (Go.Operand.tmp 40) 25)) (d := some 41) (v := .bool true) ⟨by kernel_rfl⟩ (run_eql_same rfl rfl) ?_
    refine ops_run (is := [(13, false), (14, false), (15, false)]) (r := [(16, false), (17, false), (18, false), (19, false), (20, false), (21, false), (22, false), (23, false), (24, false), (25, false), (26, false), (27, false), (28, false)]) (l' := [(44, .slice A2 m.length c2), (43, .bool true), (11, .slice A k c), (4, .slice A3 data.length c3)]) [44, 43, 11, 4] (by kernel_rfl) ?_
    refine ops_call (σ := Unit) (d := some 45) (f := 28) (args := #[.slice A2 m.length c2]) (v := fun _ => .int .u64 (dig (turned m))) (M' := fun _ => Mem w [.row A k c 25 1 (iv .u64 (turned (m.take k)))]) ⟨by kernel_rfl⟩ (fun w_ hM hS => (Ints_calls A2 c2 m w_ (hr2.mem hM) hlen2).mono (by rintro e w' ⟨rfl, hb⟩; exact ⟨(), rfl, hM.step hb, trivial⟩)) (fun _ => ?_)
    refine ops_run (is := [(17, false)]) (r := [(18, false), (19, false), (20, false), (21, false), (22, false), (23, false), (24, false), (25, false), (26, false), (27, false), (28, false)]) (l' := [(46, .slice A k c), (45, .int .u64 (dig (turned m))), (43, .bool true), (4, .slice A3 data.length c3)]) [46, 45, 43, 4] (by kernel_rfl) ?_
    subst hk
    refine ops_conv (l' := [(46, .slice A m.length c), (45, .int .u64 (dig (turned m))), (43, .bool true), (4, .slice A3 data.length c3)]) (M' := Mem w [.row A m.length c 25 1 (iv .u64 (turned m))]) rfl (fun w_ hM => by rw [List.take_of_length_le (Nat.le_refl _)] at hM; exact hM) ?_
    refine ops_call (σ := Unit) (d := some 47) (f := 27) (args := #[.slice A m.length c]) (v := fun _ => .int .u64 (dig (turned m))) (M' := fun _ => Mem w [.row A m.length c 25 1 (iv .u64 (turned m))]) ⟨by kernel_rfl⟩ (fun w_ hM hS => (Digest_calls A c m.length (turned m) w_ (hM.rints 0 rfl) (by first | omega | (simp only [turned, List.length_map, List.length_set, List.length_append, List.length_cons, List.length_nil, List.length_replicate] at *; omega) | (simp [turned, List.length_map, List.length_set, List.length_append, List.length_cons, List.length_nil, List.length_replicate]; done)) (by first | omega | (simp only [turned, List.length_map, List.length_set, List.length_append, List.length_cons, List.length_nil, List.length_replicate] at *; omega) | (simp [turned, List.length_map, List.length_set, List.length_append, List.length_cons, List.length_nil, List.length_replicate]; done))).mono (by rintro e w' ⟨rfl, hb⟩; exact ⟨(), rfl, hM.step hb, trivial⟩)) (fun _ => ?_)
    refine ops_run (is := []) (r := [(19, false), (20, false), (21, false), (22, false), (23, false), (24, false), (25, false), (26, false), (27, false), (28, false)]) (l' := [(47, .int .u64 (dig (turned m))), (45, .int .u64 (dig (turned m))), (43, .bool true), (4, .slice A3 data.length c3)]) [47, 45, 43, 4] (by kernel_rfl) ?_
    refine ops_val (op := (Go.Op.binOp Go.BinOp.eql 25 (Go.Operand.tmp 45) (Go.Operand.tmp 47) 25)) (d := some 48) (v := .bool true) ⟨by kernel_rfl⟩ (run_eql_same rfl rfl) ?_
    refine ops_run (is := [(20, false), (21, false), (22, false)]) (r := [(23, false), (24, false), (25, false), (26, false), (27, false), (28, false)]) (l' := [(51, .slice A3 data.length c3), (50, .bool true), (4, .slice A3 data.length c3)]) [51, 50, 4] (by kernel_rfl) ?_
    refine ops_call (σ := Unit) (d := some 52) (f := 24) (args := #[.slice A3 data.length c3]) (v := fun _ => .int .u64 (bd data ((data.length + 7) / 8))) (M' := fun _ => Mem w [.row A m.length c 25 1 (iv .u64 (turned m))]) ⟨by kernel_rfl⟩ (fun w_ hM hS => (Bytes_calls A3 c3 data w_ (hr3.mem hM) hc3 hlen3 hb3).mono (by rintro e w' ⟨rfl, hb⟩; exact ⟨(), rfl, hM.step hb, trivial⟩)) (fun _ => ?_)
    refine ops_run (is := [(24, false)]) (r := [(25, false), (26, false), (27, false), (28, false)]) (l' := [(53, .slice A3 data.length c3), (52, .int .u64 (bd data ((data.length + 7) / 8))), (50, .bool true)]) [53, 52, 50] (by kernel_rfl) ?_
    refine ops_call (σ := Unit) (d := some 54) (f := 29) (args := #[.slice A3 data.length c3]) (v := fun _ => .int .u64 (bd data ((data.length + 7) / 8))) (M' := fun _ => Mem w [.row A m.length c 25 1 (iv .u64 (turned m))]) ⟨by kernel_rfl⟩ (fun w_ hM hS => (ByteDigest_calls A3 c3 data w_ (hr3.mem hM) hc3 hlen3 hb3).mono (by rintro e w' ⟨rfl, hb⟩; exact ⟨(), rfl, hM.step hb, trivial⟩)) (fun _ => ?_)
    refine ops_run (is := []) (r := [(26, false), (27, false), (28, false)]) (l' := [(54, .int .u64 (bd data ((data.length + 7) / 8))), (52, .int .u64 (bd data ((data.length + 7) / 8))), (50, .bool true)]) [54, 52, 50] (by kernel_rfl) ?_
    refine ops_val (op := (Go.Op.binOp Go.BinOp.eql 25 (Go.Operand.tmp 52) (Go.Operand.tmp 54) 25)) (d := some 55) (v := .bool true) ⟨by kernel_rfl⟩ (run_eql_same rfl rfl) ?_
    refine ops_run (is := [(27, false), (28, false)]) (r := []) (l' := [(10, .bool true)]) [10] (by kernel_rfl) ?_
    refine ops_nil ?_
    refine fin_then ?_
    refine st_ret ?_
    refine fin_ret [.tmp 10] [.bool true] rfl rfl (fun w_ hM => (.tmp rfl .nil)) (fun w_ hM => ?_)
    refine ⟨?_, hM.done⟩
    rfl
theorem bytes_of {l : List Int} (h : ∀ x ∈ l, (Lit.int .u8 x).wf = true) : Bytes l := fun x hx => by
  have h := h x hx
  simp [Lit.wf, IntKind.min, IntKind.max, IntKind.signed, IntKind.bits] at h
  omega
theorem SumTells_calls (a b : Int) (A1 : Option Addr) (c1 : Nat) (l : List Int) (A2 : Option Addr) (c2 : Nat) (m : List Int) (A3 : Option Addr) (c3 : Nat) (data : List Int) (w : World) (ha : (Lit.int .u64 a).wf = true) (hb : (Lit.int .u64 b).wf = true)
    (h1 : ReadsInt w .u64 A1 l.length l) (hc1 : l.length ≤ c1) (hl1 : l.length * 8 ≤ 140737488351232) (hw1 : ∀ x ∈ l, (Lit.int .u64 x).wf = true) (h2 : ReadsInt w .i64 A2 m.length m) (hc2 : m.length ≤ c2) (hl2 : m.length * 8 ≤ 140737488351232) (hw2 : ∀ x ∈ m, (Lit.int .i64 x).wf = true)
    (h3 : ReadsInt w .u8 A3 data.length data) (hc3 : data.length ≤ c3) (hl3 : data.length * 1 ≤ 140737488351232) (hw3 : ∀ x ∈ data, (Lit.int .u8 x).wf = true) :
    Calls Try.prog 6 #[.int .u64 a, .int .u64 b, .slice A1 l.length c1, .slice A2 m.length c2, .slice A3 data.length c3] w fun e w' => e = .returned (.bool true) ∧ Below w.heap.size w w' :=
  SumTells_calls0 a b A1 c1 l A2 c2 m A3 c3 data w (rints_of h1) hl1 (rints_of h2) hl2 (rints_of h3) hc3 (by omega) (bytes_of hw3)
end Go.Proofs.Ytdmlapkindoghaa.WSum
