/- Walks of the reference's Angle; the law TrigAngles. No condition. -/
import Derived.Test.YtdmlapkindoghaaProg
import Derived.Test.YtdmlapkindoghaaSxOps
import Derived.Test.YtdmlapkindoghaaAngSpec
import Derived.Test.YtdmlapkindoghaaWTrig
import Derived.Test.YtdmlapkindoghaaWClamp
import Derived.Test.YtdmlapkindoghaaWAng
namespace Go.Proofs.Ytdmlapkindoghaa.WAng2
open Go Go.RowKit Go.Proofs.Ytdmlapkindoghaa.Sx Go.Proofs.Ytdmlapkindoghaa.Rnd Go.Proofs.Ytdmlapkindoghaa.Trig Go.Proofs.Ytdmlapkindoghaa.Ang Go.Proofs.Ytdmlapkindoghaa.WTrig Go.Proofs.Ytdmlapkindoghaa.WClamp Go.Proofs.Ytdmlapkindoghaa.WAng
set_option linter.unusedVariables false
set_option linter.unusedSimpArgs false
set_option maxHeartbeats 4000000 in
set_option maxRecDepth 100000 in
theorem Angle1_calls (r : Nat) (p1 : Addr) (A : Option Addr) (c : Nat) (w : World) (h : r ≤ 16384) (h1 : w.cell? p1 = some (.slice A 65 c)) (hr : RInts .i64 A tab w) : Calls Try.prog 89 #[.int .i64 (r : Int), .pointer (some (p1))] w fun e w' => e = .returned (.int .i64 (firstV r)) ∧ Below w.heap.size w w' := by
  have hq : IntKind.i64.wrap (Int.tdiv (r : Int) 256) = ((r / 256 : Nat) : Int) := by rw [Int.tdiv_eq_ediv_of_nonneg (by omega), i64in (by omega) (by omega)]; omega
  have hf : Int.tmod (r : Int) 256 = ((r % 256 : Nat) : Int) := by rw [Int.tmod_eq_emod_of_nonneg (by omega)]; omega
  have hq1 : IntKind.i64.wrap (((r / 256 : Nat) : Int) + 1) = ((r / 256 + 1 : Nat) : Int) := by rw [i64in (by omega) (by omega)]; omega
  have htl : tab.length = 65 := rfl
  refine sx_calls Try.func89 rfl (n := 33) (by kernel_rfl) (l := [(0, .int .i64 (r : Int)), (1, .pointer (some (p1)))]) rfl (by rfl) (Mem.nil w) ?_
  refine st_seq ?_
  refine st_region [(0, false)] (by rfl) ?_
  refine ops_run (is := [(0, false)]) (r := []) (l' := [(0, .int .i64 (r : Int)), (1, .pointer (some (p1)))]) [0, 1] (by kernel_rfl) ?_
  refine ops_nil ?_
  refine fin_then ?_
  refine st_seq ?_
  refine st_region [(0, false), (1, false), (2, false), (3, false), (4, false), (5, false)] (by rfl) ?_
  refine ops_run (is := [(0, false), (1, false)]) (r := [(2, false), (3, false), (4, false), (5, false)]) (l' := [(7, .int .i64 (IntKind.i64.wrap (Int.tdiv (r : Int) 256))), (0, .int .i64 (r : Int)), (1, .pointer (some (p1)))]) [7, 0, 1] (by kernel_rfl) ?_
  refine ops_conv (l' := [(7, .int .i64 ((r / 256 : Nat) : Int)), (0, .int .i64 (r : Int)), (1, .pointer (some (p1)))]) (by rw [hq]) (fun _ h => h) ?_
  refine ops_run (is := [(2, false), (3, false)]) (r := [(4, false), (5, false)]) (l' := [(9, .int .i64 (Int.tmod (r : Int) 256)), (7, .int .i64 ((r / 256 : Nat) : Int)), (1, .pointer (some (p1)))]) [9, 7, 1] (by kernel_rfl) ?_
  refine ops_conv (l' := [(9, .int .i64 ((r % 256 : Nat) : Int)), (7, .int .i64 ((r / 256 : Nat) : Int)), (1, .pointer (some (p1)))]) (by rw [hf]) (fun _ h => h) ?_
  refine ops_run (is := [(4, false), (5, false)]) (r := []) (l' := [(5, .int .i64 ((r % 256 : Nat) : Int)), (4, .int .i64 ((r / 256 : Nat) : Int)), (1, .pointer (some (p1)))]) [5, 4, 1] (by kernel_rfl) ?_
  refine ops_nil ?_
  refine fin_then ?_
  refine st_seq ?_
  refine st_seq ?_
  refine st_region [(0, false), (1, false)] (by rfl) ?_
  refine ops_run (is := [(0, false), (1, false)]) (r := []) (l' := [(11, .bool (((r % 256 : Nat) : Int) == 0)), (5, .int .i64 ((r % 256 : Nat) : Int)), (4, .int .i64 ((r / 256 : Nat) : Int)), (1, .pointer (some (p1)))]) [11, 5, 4, 1] (by kernel_rfl) ?_
  refine ops_nil ?_
  refine fin_then ?_
  refine st_if (b := (((r % 256 : Nat) : Int) == 0)) rfl (fun hc1 => ?_) (fun hc1 => ?_)
  · --
    have hz : r % 256 = 0 := by have := beq_iff_eq.1 hc1; omega
    have hlt2 : r % 256 = 0 ∨ r < 16384 := by omega
    refine st_seq ?_
    refine st_region [(0, false), (1, false), (2, false), (3, false), (4, false)] (by rfl) ?_
    refine ops_run (is := []) (r := [(0, false), (1, false), (2, false), (3, false), (4, false)]) (l' := [(4, .int .i64 ((r / 256 : Nat) : Int)), (1, .pointer (some (p1)))]) [4, 1] (by kernel_rfl) ?_
    refine ops_mem (d := some 12) (an := [.v (.slice A 65 c)]) (evs := [.load (p1) (.slice A 65 c)]) (v := .slice A 65 c) (M' := Mem w []) ⟨by kernel_rfl⟩ (fun w_ hM hS => ⟨w_, ⟨hM.oldcell h1, rfl⟩, hM, trivial⟩) ?_
    refine ops_run (is := [(1, false)]) (r := [(2, false), (3, false), (4, false)]) (l' := [(13, .int .i64 ((r / 256 : Nat) : Int)), (12, .slice A 65 c)]) [13, 12] (by kernel_rfl) ?_
    obtain ⟨ad2, hA3, hx4⟩ := hr (r / 256) (by first | omega | (simp only [htl, List.length_set, List.length_append, List.length_cons, List.length_nil, List.length_replicate] at *; omega) | (simp [htl, List.length_set, List.length_append, List.length_cons, List.length_nil, List.length_replicate]; done))
    refine ops_val (op := (Go.Op.indexAddr 37 (Go.Operand.tmp 12) (Go.Operand.tmp 13))) (d := some 14) (v := .pointer (some (ad2.add (r / 256)))) ⟨by kernel_rfl⟩ (run_index1 hA3 Try.underlying37 (by kernel_rfl) rfl rfl (m := r / 256) (by first | rfl | omega) (by first | omega | (simp only [htl, List.length_set, List.length_append, List.length_cons, List.length_nil, List.length_replicate] at *; omega) | (simp [htl, List.length_set, List.length_append, List.length_cons, List.length_nil, List.length_replicate]; done))) ?_
    refine ops_run (is := []) (r := [(3, false), (4, false)]) (l' := [(14, .pointer (some (ad2.add (r / 256))))]) [14] (by kernel_rfl) ?_
    refine ops_mem (d := some 15) (an := [.v (.int .i64 (tab.getD (r / 256) 0))]) (evs := [.load (ad2.add (r / 256)) (.int .i64 (tab.getD (r / 256) 0))]) (v := .int .i64 (tab.getD (r / 256) 0)) (M' := Mem w []) ⟨by kernel_rfl⟩ (fun w_ hM hS => ⟨w_, ⟨hM.oldcell hx4, rfl⟩, hM, trivial⟩) ?_
    refine ops_run (is := [(4, false)]) (r := []) (l' := [(3, .int .i64 (tab.getD (r / 256) 0))]) [3] (by kernel_rfl) ?_
    refine ops_nil ?_
    refine fin_then ?_
    refine st_ret ?_
    refine fin_ret_then ?_
    refine fin_ret [.tmp 3] [.int .i64 (tab.getD (r / 256) 0)] rfl rfl (fun w_ hM => (.tmp rfl .nil)) (fun w_ hM => ?_)
    refine ⟨?_, hM.done⟩
    simp only [theOne, firstV, if_pos hz]
  · --
    have hz : r % 256 ≠ 0 := by have := beq_eq_false_iff_ne.1 hc1; omega
    have hlt2 : r % 256 = 0 ∨ r < 16384 := by omega
    refine st_skip ?_
    refine fin_then ?_
    refine st_seq ?_
    refine st_region_draw [(0, true), (1, true), (2, true), (3, true), (4, true), (5, true), (6, true), (7, true), (8, true), (9, true), (10, true), (11, true), (12, true), (13, true), (14, true), (15, true), (16, true), (17, true)] (Mem w []) (by kernel_rfl) (by kernel_rfl) (by kernel_rfl) (fun _ d _ _ _ h => by cases d <;> exact h) (M' := Mem w []) (fun w_ hM => ⟨hM.drew, hM.drew.sub (by simp)⟩) ?_
    refine ops_run (is := []) (r := [(0, true), (1, true), (2, true), (3, true), (4, true), (5, true), (6, true), (7, true), (8, true), (9, true), (10, true), (11, true), (12, true), (13, true), (14, true), (15, true), (16, true), (17, true)]) (l' := [(5, .int .i64 ((r % 256 : Nat) : Int)), (4, .int .i64 ((r / 256 : Nat) : Int)), (1, .pointer (some (p1)))]) [5, 4, 1] (by kernel_rfl) ?_
    refine ops_load (d := some 16) (an := [.v (.slice A 65 c)]) (evs := [.load (p1) (.slice A 65 c)]) (v := .slice A 65 c) ⟨by kernel_rfl⟩ (fun w_ hM => ⟨hM.oldcell h1, rfl⟩) ?_
    refine ops_run (is := [(1, true)]) (r := [(2, true), (3, true), (4, true), (5, true), (6, true), (7, true), (8, true), (9, true), (10, true), (11, true), (12, true), (13, true), (14, true), (15, true), (16, true), (17, true)]) (l' := [(17, .int .i64 ((r / 256 : Nat) : Int)), (16, .slice A 65 c), (5, .int .i64 ((r % 256 : Nat) : Int)), (4, .int .i64 ((r / 256 : Nat) : Int)), (1, .pointer (some (p1)))]) [17, 16, 5, 4, 1] (by kernel_rfl) ?_
    obtain ⟨ad5, hA6, hx7⟩ := hr (r / 256) (by first | omega | (simp only [htl, List.length_set, List.length_append, List.length_cons, List.length_nil, List.length_replicate] at *; omega) | (simp [htl, List.length_set, List.length_append, List.length_cons, List.length_nil, List.length_replicate]; done))
    refine ops_val (op := (Go.Op.indexAddr 37 (Go.Operand.tmp 16) (Go.Operand.tmp 17))) (d := some 18) (v := .pointer (some (ad5.add (r / 256)))) ⟨by kernel_rfl⟩ (run_index1 hA6 Try.underlying37 (by kernel_rfl) rfl rfl (m := r / 256) (by first | rfl | omega) (by first | omega | (simp only [htl, List.length_set, List.length_append, List.length_cons, List.length_nil, List.length_replicate] at *; omega) | (simp [htl, List.length_set, List.length_append, List.length_cons, List.length_nil, List.length_replicate]; done))) ?_
    refine ops_run (is := []) (r := [(3, true), (4, true), (5, true), (6, true), (7, true), (8, true), (9, true), (10, true), (11, true), (12, true), (13, true), (14, true), (15, true), (16, true), (17, true)]) (l' := [(18, .pointer (some (ad5.add (r / 256)))), (5, .int .i64 ((r % 256 : Nat) : Int)), (4, .int .i64 ((r / 256 : Nat) : Int)), (1, .pointer (some (p1)))]) [18, 5, 4, 1] (by kernel_rfl) ?_
    refine ops_load (d := some 19) (an := [.v (.int .i64 (tab.getD (r / 256) 0))]) (evs := [.load (ad5.add (r / 256)) (.int .i64 (tab.getD (r / 256) 0))]) (v := .int .i64 (tab.getD (r / 256) 0)) ⟨by kernel_rfl⟩ (fun w_ hM => ⟨hM.oldcell hx7, rfl⟩) ?_
    refine ops_run (is := [(4, true), (5, true), (6, true)]) (r := [(7, true), (8, true), (9, true), (10, true), (11, true), (12, true), (13, true), (14, true), (15, true), (16, true), (17, true)]) (l' := [(22, .int .i64 (IntKind.i64.wrap (tab.getD (r / 256) 0 * IntKind.i64.wrap (256 - ((r % 256 : Nat) : Int))))), (5, .int .i64 ((r % 256 : Nat) : Int)), (4, .int .i64 ((r / 256 : Nat) : Int)), (1, .pointer (some (p1)))]) [22, 5, 4, 1] (by kernel_rfl) ?_
    refine ops_load (d := some 23) (an := [.v (.slice A 65 c)]) (evs := [.load (p1) (.slice A 65 c)]) (v := .slice A 65 c) ⟨by kernel_rfl⟩ (fun w_ hM => ⟨hM.oldcell h1, rfl⟩) ?_
    refine ops_run (is := [(8, true), (9, true)]) (r := [(10, true), (11, true), (12, true), (13, true), (14, true), (15, true), (16, true), (17, true)]) (l' := [(25, .int .i64 (IntKind.i64.wrap (((r / 256 : Nat) : Int) + 1))), (23, .slice A 65 c), (22, .int .i64 (IntKind.i64.wrap (tab.getD (r / 256) 0 * IntKind.i64.wrap (256 - ((r % 256 : Nat) : Int))))), (5, .int .i64 ((r % 256 : Nat) : Int))]) [25, 23, 22, 5] (by kernel_rfl) ?_
    refine ops_conv (l' := [(25, .int .i64 ((r / 256 + 1 : Nat) : Int)), (23, .slice A 65 c), (22, .int .i64 (IntKind.i64.wrap (tab.getD (r / 256) 0 * IntKind.i64.wrap (256 - ((r % 256 : Nat) : Int))))), (5, .int .i64 ((r % 256 : Nat) : Int))]) (by rw [hq1]) (fun _ h => h) ?_
    obtain ⟨ad8, hA9, hx10⟩ := hr (r / 256 + 1) (by first | omega | (simp only [htl, List.length_set, List.length_append, List.length_cons, List.length_nil, List.length_replicate] at *; omega) | (simp [htl, List.length_set, List.length_append, List.length_cons, List.length_nil, List.length_replicate]; done))
    refine ops_val (op := (Go.Op.indexAddr 37 (Go.Operand.tmp 23) (Go.Operand.tmp 25))) (d := some 26) (v := .pointer (some (ad8.add (r / 256 + 1)))) ⟨by kernel_rfl⟩ (run_index1 hA9 Try.underlying37 (by kernel_rfl) rfl rfl (m := r / 256 + 1) (by first | rfl | omega) (by first | omega | (simp only [htl, List.length_set, List.length_append, List.length_cons, List.length_nil, List.length_replicate] at *; omega) | (simp [htl, List.length_set, List.length_append, List.length_cons, List.length_nil, List.length_replicate]; done))) ?_
    refine ops_run (is := []) (r := [(11, true), (12, true), (13, true), (14, true), (15, true), (16, true), (17, true)]) (l' := [(26, .pointer (some (ad8.add (r / 256 + 1)))), (22, .int .i64 (IntKind.i64.wrap (tab.getD (r / 256) 0 * IntKind.i64.wrap (256 - ((r % 256 : Nat) : Int))))), (5, .int .i64 ((r % 256 : Nat) : Int))]) [26, 22, 5] (by kernel_rfl) ?_
    refine ops_load (d := some 27) (an := [.v (.int .i64 (tab.getD (r / 256 + 1) 0))]) (evs := [.load (ad8.add (r / 256 + 1)) (.int .i64 (tab.getD (r / 256 + 1) 0))]) (v := .int .i64 (tab.getD (r / 256 + 1) 0)) ⟨by kernel_rfl⟩ (fun w_ hM => ⟨hM.oldcell hx10, rfl⟩) ?_
    refine ops_run (is := [(12, true), (13, true), (14, true), (15, true), (16, true), (17, true)]) (r := []) (l' := [(3, .int .i64 (IntKind.i64.wrap (Int.tdiv (IntKind.i64.wrap (IntKind.i64.wrap (IntKind.i64.wrap (tab.getD (r / 256) 0 * IntKind.i64.wrap (256 - ((r % 256 : Nat) : Int))) + IntKind.i64.wrap (tab.getD (r / 256 + 1) 0 * ((r % 256 : Nat) : Int))) + 128)) 256)))]) [3] (by kernel_rfl) ?_
    refine ops_nil ?_
    refine fin_then ?_
    refine st_ret ?_
    refine fin_ret [.tmp 3] [.int .i64 (IntKind.i64.wrap (Int.tdiv (IntKind.i64.wrap (IntKind.i64.wrap (IntKind.i64.wrap (tab.getD (r / 256) 0 * IntKind.i64.wrap (256 - ((r % 256 : Nat) : Int))) + IntKind.i64.wrap (tab.getD (r / 256 + 1) 0 * ((r % 256 : Nat) : Int))) + 128)) 256))] rfl rfl (fun w_ hM => (.tmp rfl .nil)) (fun w_ hM => ?_)
    refine ⟨?_, hM.done⟩
    exact congrArg (fun z => Ending.returned (.int .i64 z)) (ref_walk r (by omega))
set_option maxHeartbeats 4000000 in
set_option maxRecDepth 100000 in
theorem Angle_z (y x u v : Int) (w : World) (hu : min (max x (-1099511627776)) 1099511627776 = u) (hv : min (max y (-1099511627776)) 1099511627776 = v) (hq : u = 0 ∧ v = 0) : Calls Try.prog 74 #[.int .i64 y, .int .i64 x] w fun e w' => e = .returned (.int .i64 0) ∧ Below w.heap.size w w' := by
  have hu0 : -1099511627776 ≤ u ∧ u ≤ 1099511627776 := by omega
  have hv0 : -1099511627776 ≤ v ∧ v ≤ 1099511627776 := by omega
  have h00 : 0 - (0 - u) = u := by omega
  have h01 : IntKind.i64.wrap (0 - (0 - u)) = u := by rw [i64in (by omega) (by omega)]; omega
  have hkn0 : (u == 0) = true := by simp; omega
  have hkn1 : (v == 0) = true := by simp; omega
  refine sx_calls Try.func74 rfl (n := 70) (by kernel_rfl) (l := [(0, .int .i64 y), (1, .int .i64 x)]) rfl (by rfl) (Mem.nil w) ?_
  refine st_seq ?_
  refine st_region [(0, false)] (by rfl) ?_
  refine ops_run (is := [(0, false)]) (r := []) (l' := [(0, .int .i64 y), (1, .int .i64 x)]) [0, 1] (by kernel_rfl) ?_
  refine ops_nil ?_
  refine fin_then ?_
  refine st_seq ?_
  refine st_region [(0, false), (1, false), (2, false), (3, false), (4, false), (5, false)] (by rfl) ?_
  refine ops_run (is := [(0, false)]) (r := [(1, false), (2, false), (3, false), (4, false), (5, false)]) (l' := [(11, .int .i64 x), (0, .int .i64 y), (1, .int .i64 x)]) [11, 0, 1] (by kernel_rfl) ?_
  refine ops_call (σ := Unit) (d := some 12) (f := 77) (args := #[.int .i64 x]) (v := fun _ => .int .i64 (min (max x (-1099511627776)) 1099511627776)) (M' := fun _ => Mem w []) ⟨by kernel_rfl⟩ (fun w_ hM hS => (Limit_calls x w_).mono (by rintro e w' ⟨rfl, hb⟩; exact ⟨(), rfl, hM.step hb, trivial⟩)) (fun _ => ?_)
  refine ops_run (is := []) (r := [(2, false), (3, false), (4, false), (5, false)]) (l' := [(12, .int .i64 (min (max x (-1099511627776)) 1099511627776)), (0, .int .i64 y), (1, .int .i64 x)]) [12, 0, 1] (by kernel_rfl) ?_
  refine ops_conv (l' := [(12, .int .i64 u), (0, .int .i64 y), (1, .int .i64 x)]) (by rw [hu]) (fun _ h => h) ?_
  refine ops_run (is := [(2, false)]) (r := [(3, false), (4, false), (5, false)]) (l' := [(13, .int .i64 y), (12, .int .i64 u), (0, .int .i64 y), (1, .int .i64 x)]) [13, 12, 0, 1] (by kernel_rfl) ?_
  refine ops_call (σ := Unit) (d := some 14) (f := 77) (args := #[.int .i64 y]) (v := fun _ => .int .i64 (min (max y (-1099511627776)) 1099511627776)) (M' := fun _ => Mem w []) ⟨by kernel_rfl⟩ (fun w_ hM hS => (Limit_calls y w_).mono (by rintro e w' ⟨rfl, hb⟩; exact ⟨(), rfl, hM.step hb, trivial⟩)) (fun _ => ?_)
  refine ops_run (is := []) (r := [(4, false), (5, false)]) (l' := [(14, .int .i64 (min (max y (-1099511627776)) 1099511627776)), (12, .int .i64 u), (0, .int .i64 y), (1, .int .i64 x)]) [14, 12, 0, 1] (by kernel_rfl) ?_
  refine ops_conv (l' := [(14, .int .i64 v), (12, .int .i64 u), (0, .int .i64 y), (1, .int .i64 x)]) (by rw [hv]) (fun _ h => h) ?_
  refine ops_run (is := [(4, false), (5, false)]) (r := []) (l' := [(0, .int .i64 v), (1, .int .i64 u)]) [0, 1] (by kernel_rfl) ?_
  refine ops_nil ?_
  refine fin_then ?_
  refine st_seq ?_
  refine st_seq ?_
  refine st_region [(0, false), (1, false), (2, false), (3, false), (4, false), (5, false)] (by rfl) ?_
  refine ops_run (is := [(0, false), (1, false), (2, false)]) (r := [(3, false), (4, false), (5, false)]) (l' := [(17, .bool (u == 0)), (0, .int .i64 v), (1, .int .i64 u)]) [17, 0, 1] (by kernel_rfl) ?_
  refine ops_conv (l' := [(17, .bool true), (0, .int .i64 v), (1, .int .i64 u)]) (by rw [hkn0]) (fun _ h => h) ?_
  refine ops_run (is := [(3, false), (4, false), (5, false)]) (r := []) (l' := [(20, .bool (v == 0)), (0, .int .i64 v), (1, .int .i64 u)]) [20, 0, 1] (by kernel_rfl) ?_
  refine ops_nil ?_
  refine fin_then ?_
  refine st_conv (l' := [(20, .bool true), (0, .int .i64 v), (1, .int .i64 u)]) (by rw [hkn1]) (fun _ h => h) ?_
  refine st_true rfl ?_
  refine st_seq ?_
  refine st_region [(0, false)] (by rfl) ?_
  refine ops_run (is := [(0, false)]) (r := []) (l' := [(4, .int .i64 0)]) [4] (by kernel_rfl) ?_
  refine ops_nil ?_
  refine fin_then ?_
  refine st_ret ?_
  refine fin_ret_then ?_
  refine fin_ret [.tmp 4] [.int .i64 0] rfl rfl (fun w_ hM => (.tmp rfl .nil)) (fun w_ hM => ?_)
  refine ⟨?_, hM.done⟩
  rfl
set_option maxHeartbeats 4000000 in
set_option maxRecDepth 100000 in
theorem Angle_0 (y x u v : Int) (w : World) (hu : min (max x (-1099511627776)) 1099511627776 = u) (hv : min (max y (-1099511627776)) 1099511627776 = v) (hq : 0 < u ∧ 0 ≤ v) : Calls Try.prog 74 #[.int .i64 y, .int .i64 x] w fun e w' => e = .returned (.int .i64 (ang u v)) ∧ Below w.heap.size w w' := by
  have hu0 : -1099511627776 ≤ u ∧ u ≤ 1099511627776 := by omega
  have hv0 : -1099511627776 ≤ v ∧ v ≤ 1099511627776 := by omega
  have h00 : 0 - (0 - u) = u := by omega
  have h01 : IntKind.i64.wrap (0 - (0 - u)) = u := by rw [i64in (by omega) (by omega)]; omega
  have hkn0 : (u == 0) = false := by simp; omega
  have hkn1 : decide (u ≤ 0) = false := by simp; omega
  have hkn2 : decide (v < 0) = false := by simp; omega
  refine sx_calls Try.func74 rfl (n := 70) (by kernel_rfl) (l := [(0, .int .i64 y), (1, .int .i64 x)]) rfl (by rfl) (Mem.nil w) ?_
  refine st_seq ?_
  refine st_region [(0, false)] (by rfl) ?_
  refine ops_run (is := [(0, false)]) (r := []) (l' := [(0, .int .i64 y), (1, .int .i64 x)]) [0, 1] (by kernel_rfl) ?_
  refine ops_nil ?_
  refine fin_then ?_
  refine st_seq ?_
  refine st_region [(0, false), (1, false), (2, false), (3, false), (4, false), (5, false)] (by rfl) ?_
  refine ops_run (is := [(0, false)]) (r := [(1, false), (2, false), (3, false), (4, false), (5, false)]) (l' := [(11, .int .i64 x), (0, .int .i64 y), (1, .int .i64 x)]) [11, 0, 1] (by kernel_rfl) ?_
  refine ops_call (σ := Unit) (d := some 12) (f := 77) (args := #[.int .i64 x]) (v := fun _ => .int .i64 (min (max x (-1099511627776)) 1099511627776)) (M' := fun _ => Mem w []) ⟨by kernel_rfl⟩ (fun w_ hM hS => (Limit_calls x w_).mono (by rintro e w' ⟨rfl, hb⟩; exact ⟨(), rfl, hM.step hb, trivial⟩)) (fun _ => ?_)
  refine ops_run (is := []) (r := [(2, false), (3, false), (4, false), (5, false)]) (l' := [(12, .int .i64 (min (max x (-1099511627776)) 1099511627776)), (0, .int .i64 y), (1, .int .i64 x)]) [12, 0, 1] (by kernel_rfl) ?_
  refine ops_conv (l' := [(12, .int .i64 u), (0, .int .i64 y), (1, .int .i64 x)]) (by rw [hu]) (fun _ h => h) ?_
  refine ops_run (is := [(2, false)]) (r := [(3, false), (4, false), (5, false)]) (l' := [(13, .int .i64 y), (12, .int .i64 u), (0, .int .i64 y), (1, .int .i64 x)]) [13, 12, 0, 1] (by kernel_rfl) ?_
  refine ops_call (σ := Unit) (d := some 14) (f := 77) (args := #[.int .i64 y]) (v := fun _ => .int .i64 (min (max y (-1099511627776)) 1099511627776)) (M' := fun _ => Mem w []) ⟨by kernel_rfl⟩ (fun w_ hM hS => (Limit_calls y w_).mono (by rintro e w' ⟨rfl, hb⟩; exact ⟨(), rfl, hM.step hb, trivial⟩)) (fun _ => ?_)
  refine ops_run (is := []) (r := [(4, false), (5, false)]) (l' := [(14, .int .i64 (min (max y (-1099511627776)) 1099511627776)), (12, .int .i64 u), (0, .int .i64 y), (1, .int .i64 x)]) [14, 12, 0, 1] (by kernel_rfl) ?_
  refine ops_conv (l' := [(14, .int .i64 v), (12, .int .i64 u), (0, .int .i64 y), (1, .int .i64 x)]) (by rw [hv]) (fun _ h => h) ?_
  refine ops_run (is := [(4, false), (5, false)]) (r := []) (l' := [(0, .int .i64 v), (1, .int .i64 u)]) [0, 1] (by kernel_rfl) ?_
  refine ops_nil ?_
  refine fin_then ?_
  refine st_seq ?_
  refine st_seq ?_
  refine st_region [(0, false), (1, false), (2, false), (3, false), (4, false), (5, false)] (by rfl) ?_
  refine ops_run (is := [(0, false), (1, false), (2, false)]) (r := [(3, false), (4, false), (5, false)]) (l' := [(17, .bool (u == 0)), (0, .int .i64 v), (1, .int .i64 u)]) [17, 0, 1] (by kernel_rfl) ?_
  refine ops_conv (l' := [(17, .bool false), (0, .int .i64 v), (1, .int .i64 u)]) (by rw [hkn0]) (fun _ h => h) ?_
  refine ops_run (is := [(3, false), (4, false), (5, false)]) (r := []) (l' := [(20, .bool false), (0, .int .i64 v), (1, .int .i64 u)]) [20, 0, 1] (by kernel_rfl) ?_
  refine ops_nil ?_
  refine fin_then ?_
  refine st_false rfl ?_
  refine st_skip ?_
  refine fin_then ?_
  refine st_seq ?_
  refine st_region [(0, false)] (by rfl) ?_
  refine ops_run (is := [(0, false)]) (r := []) (l' := [(5, .int .i64 0), (0, .int .i64 v), (1, .int .i64 u)]) [5, 0, 1] (by kernel_rfl) ?_
  refine ops_nil ?_
  refine fin_then ?_
  refine st_seq ?_
  refine st_block ?_
  refine st_unroll 6 ?_
  refine str_succ ?_
  refine st_seq ?_
  refine st_seq ?_
  refine st_region [(0, false), (1, false), (2, false), (3, false), (4, false), (5, false)] (by rfl) ?_
  refine ops_run (is := [(0, false), (1, false), (2, false)]) (r := [(3, false), (4, false), (5, false)]) (l' := [(23, .bool (decide (u ≤ 0))), (5, .int .i64 0), (0, .int .i64 v), (1, .int .i64 u)]) [23, 5, 0, 1] (by kernel_rfl) ?_
  refine ops_conv (l' := [(23, .bool false), (5, .int .i64 0), (0, .int .i64 v), (1, .int .i64 u)]) (by rw [hkn1]) (fun _ h => h) ?_
  refine ops_run (is := [(3, false), (4, false), (5, false)]) (r := []) (l' := [(26, .bool (decide (v < 0))), (5, .int .i64 0), (0, .int .i64 v), (1, .int .i64 u)]) [26, 5, 0, 1] (by kernel_rfl) ?_
  refine ops_nil ?_
  refine fin_then ?_
  refine st_conv (l' := [(26, .bool false), (5, .int .i64 0), (0, .int .i64 v), (1, .int .i64 u)]) (by rw [hkn2]) (fun _ h => h) ?_
  refine st_false rfl ?_
  refine st_exit ?_
  refine fin_exit_then ?_
  refine fin_exit_then ?_
  refine fin_exit ?_
  refine fin_then ?_
  refine st_seq ?_
  refine st_region [(0, false), (1, false), (2, false)] (by rfl) ?_
  refine ops_run (is := []) (r := [(0, false), (1, false), (2, false)]) (l' := [(5, .int .i64 0), (0, .int .i64 v), (1, .int .i64 u)]) [5, 0, 1] (by kernel_rfl) ?_
  refine ops_call (σ := Option Addr × Nat) (d := some 32) (f := 81) (args := #[]) (v := fun x_ => match x_ with | (A1, c2) => .slice A1 65 c2) (M' := fun x_ => match x_ with | (A1, c2) => Mem w [.row A1 65 c2 3 1 (iv .i64 tab)]) ⟨by kernel_rfl⟩ (fun w_ hM hS => (sines_calls w_).mono (by rintro e w' ⟨x_, rfl, h2⟩; exact ⟨x_, rfl, hM.join h2 rfl, trivial⟩)) ?_
  rintro ⟨A1, c2⟩
  refine ops_conv (l' := [(32, .slice A1 65 c2), (5, .int .i64 0), (0, .int .i64 v), (1, .int .i64 u)]) (M' := Mem w [.row A1 65 c2 3 1 (iv .i64 tab)]) rfl (fun _ h => h) ?_
  refine ops_run (is := []) (r := [(1, false), (2, false)]) (l' := [(32, .slice A1 65 c2), (5, .int .i64 0), (0, .int .i64 v), (1, .int .i64 u)]) [32, 5, 0, 1] (by kernel_rfl) ?_
  refine ops_new (d := some 6) (o := .cells #[.slice none 0 0] 37) (v := fun b3 => .pointer (some ⟨b3, 0, none⟩)) (M' := fun b3 => Mem w [.blk b3 [.slice none 0 0] 37, .row A1 65 c2 3 1 (iv .i64 tab)]) (fun b3 => ⟨by kernel_rfl⟩) (fun w_ hM hS => ⟨hM.blk [.slice none 0 0] 37, trivial⟩) (fun b3 => ?_)
  refine ops_run (is := []) (r := [(2, false)]) (l' := [(6, .pointer (some ⟨b3, 0, none⟩)), (32, .slice A1 65 c2), (5, .int .i64 0), (0, .int .i64 v), (1, .int .i64 u)]) [6, 32, 5, 0, 1] (by kernel_rfl) ?_
  refine ops_store (an := []) (evs := [.store ⟨b3, 0, none⟩ (.slice A1 65 c2)]) (M' := Mem w [.blk b3 [.slice A1 65 c2] 37, .row A1 65 c2 3 1 (iv .i64 tab)]) ⟨by kernel_rfl⟩ (fun w_ hM hS => let ⟨w', he, h'⟩ := hM.evs_stores [.slice A1 65 c2] 0 rfl 0 (Nat.le_of_ble_eq_true rfl); ⟨w', he, h', trivial⟩) ?_
  refine ops_run (is := []) (r := []) (l' := [(6, .pointer (some ⟨b3, 0, none⟩)), (5, .int .i64 0), (0, .int .i64 v), (1, .int .i64 u)]) [6, 5, 0, 1] (by kernel_rfl) ?_
  refine ops_nil ?_
  refine fin_then ?_
  refine st_seq ?_
  refine st_region [(0, false), (1, false)] (by rfl) ?_
  refine ops_run (is := [(0, false), (1, false)]) (r := []) (l' := [(7, .func (.func 89) #[] #[.pointer (some ⟨b3, 0, none⟩)]), (5, .int .i64 0), (0, .int .i64 v), (1, .int .i64 u)]) [7, 5, 0, 1] (by kernel_rfl) ?_
  refine ops_nil ?_
  refine fin_then ?_
  refine st_seq ?_
  refine st_region [(0, false)] (by rfl) ?_
  refine ops_run (is := [(0, false)]) (r := []) (l' := [(8, .int .i64 0), (7, .func (.func 89) #[] #[.pointer (some ⟨b3, 0, none⟩)]), (5, .int .i64 0), (0, .int .i64 v), (1, .int .i64 u)]) [8, 7, 5, 0, 1] (by kernel_rfl) ?_
  refine ops_nil ?_
  refine fin_then ?_
  refine st_seq ?_
  refine st_seq ?_
  refine st_region [(0, false), (1, false), (2, false)] (by rfl) ?_
  refine ops_new (d := some 34) (o := .cells #[.int .i64 256, .int .i64 1] 3) (v := fun b4 => .slice (some ⟨b4, 0, none⟩) 2 2) (M' := fun b4 => Mem w [.blk b4 [.int .i64 256, .int .i64 1] 3, .blk b3 [.slice A1 65 c2] 37, .row A1 65 c2 3 1 (iv .i64 tab)]) (fun b4 => ⟨by kernel_rfl⟩) (fun w_ hM hS => ⟨hM.blk [.int .i64 256, .int .i64 1] 3, trivial⟩) (fun b4 => ?_)
  refine ops_run (is := [(1, false), (2, false)]) (r := []) (l' := [(36, .int .i64 0), (35, .int .i64 2), (34, .slice (some ⟨b4, 0, none⟩) 2 2), (8, .int .i64 0), (7, .func (.func 89) #[] #[.pointer (some ⟨b3, 0, none⟩)]), (5, .int .i64 0), (0, .int .i64 v), (1, .int .i64 u)]) [36, 35, 34, 8, 7, 5, 0, 1] (by kernel_rfl) ?_
  refine ops_nil ?_
  refine fin_then ?_
  refine st_block ?_
  have hX : 0 < u := by omega
  have hY : 0 ≤ v := by omega
  have hX1 : u ≤ 1099511627776 := by omega
  have hY1 : v ≤ 1099511627776 := by omega
  refine st_unroll 4 ?_
  refine str_succ ?_
  refine st_seq ?_
  refine st_region [(0, false)] (by rfl) ?_
  refine ops_run (is := [(0, false)]) (r := []) (l' := [(37, .bool true), (36, .int .i64 0), (35, .int .i64 2), (34, .slice (some ⟨b4, 0, none⟩) 2 2), (8, .int .i64 0), (7, .func (.func 89) #[] #[.pointer (some ⟨b3, 0, none⟩)]), (5, .int .i64 0), (0, .int .i64 v), (1, .int .i64 u)]) [37, 36, 35, 34, 8, 7, 5, 0, 1] (by kernel_rfl) ?_
  refine ops_nil ?_
  refine fin_then ?_
  refine st_seq ?_
  refine st_true rfl ?_
  refine st_skip ?_
  refine fin_then ?_
  refine st_seq ?_
  refine st_block ?_
  refine st_seq ?_
  refine st_region [(0, false), (1, false), (2, false)] (by rfl) ?_
  refine ops_run (is := [(0, false)]) (r := [(1, false), (2, false)]) (l' := [(38, .pointer (some ⟨b4, 0, none⟩)), (36, .int .i64 0), (35, .int .i64 2), (34, .slice (some ⟨b4, 0, none⟩) 2 2), (8, .int .i64 0), (7, .func (.func 89) #[] #[.pointer (some ⟨b3, 0, none⟩)]), (5, .int .i64 0), (0, .int .i64 v), (1, .int .i64 u)]) [38, 36, 35, 34, 8, 7, 5, 0, 1] (by kernel_rfl) ?_
  refine ops_mem (d := some 39) (an := [.v (.int .i64 256)]) (evs := [.load ⟨b4, 0, none⟩ (.int .i64 256)]) (v := .int .i64 256) (M' := Mem w [.blk b4 [.int .i64 256, .int .i64 1] 3, .blk b3 [.slice A1 65 c2] 37, .row A1 65 c2 3 1 (iv .i64 tab)]) ⟨by kernel_rfl⟩ (fun w_ hM hS => ⟨w_, ⟨hM.cell 0 rfl rfl, rfl⟩, hM, trivial⟩) ?_
  refine ops_run (is := [(2, false)]) (r := []) (l' := [(10, .int .i64 256), (36, .int .i64 0), (35, .int .i64 2), (34, .slice (some ⟨b4, 0, none⟩) 2 2), (8, .int .i64 0), (7, .func (.func 89) #[] #[.pointer (some ⟨b3, 0, none⟩)]), (5, .int .i64 0), (0, .int .i64 v), (1, .int .i64 u)]) [10, 36, 35, 34, 8, 7, 5, 0, 1] (by kernel_rfl) ?_
  refine ops_nil ?_
  refine fin_then ?_
  refine st_block ?_
  refine st_loop (σ := Nat) 0 (fun a1 => [(10, .int .i64 256), (36, .int .i64 0), (35, .int .i64 2), (34, .slice (some ⟨b4, 0, none⟩) 2 2), (8, .int .i64 (a1 : Int)), (7, .func (.func 89) #[] #[.pointer (some ⟨b3, 0, none⟩)]), (5, .int .i64 0), (0, .int .i64 v), (1, .int .i64 u)]) (fun a1 => Mem w [.blk b4 [.int .i64 256, .int .i64 1] 3, .blk b3 [.slice A1 65 c2] 37, .row A1 65 c2 3 1 (iv .i64 tab)]) (fun a1 => a1 ≤ 16383 ∧ Not u v a1) (fun a1 => 16384 - a1) (by exact ⟨by decide, not_zero hX hY⟩) (look_has ⟨rfl, rfl, rfl, rfl, rfl, rfl, rfl, rfl, rfl, trivial⟩) (fun w_ hM => by exact hM) ?_
  rintro a1 hI
  obtain ⟨hba1, hloa1⟩ := hI
  have hba1 : a1 ≤ 16383 := hba1
  have hloa1 : Not u v a1 := hloa1
  have ha1 : IntKind.i64.wrap ((a1 : Int) + 256) = ((a1 + 256 : Nat) : Int) := by rw [i64in (by omega) (by omega)]; omega
  have ha2 : IntKind.i64.wrap (16384 - (a1 : Int)) = ((16384 - a1 : Nat) : Int) := by rw [i64in (by omega) (by omega)]; omega
  refine st_seq ?_
  refine st_seq ?_
  refine st_region [(0, false), (1, false), (2, false), (3, false), (4, false), (5, false), (6, false), (7, false), (8, false), (9, false), (10, false), (11, false), (12, false), (13, false), (14, false), (15, false), (16, false), (17, false), (18, false), (19, false), (20, false), (21, false)] (by rfl) ?_
  refine ops_run (is := [(0, false), (1, false), (2, false)]) (r := [(3, false), (4, false), (5, false), (6, false), (7, false), (8, false), (9, false), (10, false), (11, false), (12, false), (13, false), (14, false), (15, false), (16, false), (17, false), (18, false), (19, false), (20, false), (21, false)]) (l' := [(42, .int .i64 (IntKind.i64.wrap ((a1 : Int) + 256))), (10, .int .i64 256), (36, .int .i64 0), (35, .int .i64 2), (34, .slice (some ⟨b4, 0, none⟩) 2 2), (8, .int .i64 (a1 : Int)), (7, .func (.func 89) #[] #[.pointer (some ⟨b3, 0, none⟩)]), (5, .int .i64 0), (0, .int .i64 v), (1, .int .i64 u)]) [42, 10, 36, 35, 34, 8, 7, 5, 0, 1] (by kernel_rfl) ?_
  refine ops_conv (l' := [(42, .int .i64 ((a1 + 256 : Nat) : Int)), (10, .int .i64 256), (36, .int .i64 0), (35, .int .i64 2), (34, .slice (some ⟨b4, 0, none⟩) 2 2), (8, .int .i64 (a1 : Int)), (7, .func (.func 89) #[] #[.pointer (some ⟨b3, 0, none⟩)]), (5, .int .i64 0), (0, .int .i64 v), (1, .int .i64 u)]) (by rw [ha1]) (fun _ h => h) ?_
  refine ops_run (is := [(3, false), (4, false)]) (r := [(5, false), (6, false), (7, false), (8, false), (9, false), (10, false), (11, false), (12, false), (13, false), (14, false), (15, false), (16, false), (17, false), (18, false), (19, false), (20, false), (21, false)]) (l' := [(44, .bool (decide (((a1 + 256 : Nat) : Int) < 16384))), (10, .int .i64 256), (36, .int .i64 0), (35, .int .i64 2), (34, .slice (some ⟨b4, 0, none⟩) 2 2), (8, .int .i64 (a1 : Int)), (7, .func (.func 89) #[] #[.pointer (some ⟨b3, 0, none⟩)]), (5, .int .i64 0), (0, .int .i64 v), (1, .int .i64 u)]) [44, 10, 36, 35, 34, 8, 7, 5, 0, 1] (by kernel_rfl) ?_
  refine ops_bool (t := decide (((a1 + 256 : Nat) : Int) < 16384)) (l1 := [(44, .bool true), (10, .int .i64 256), (36, .int .i64 0), (35, .int .i64 2), (34, .slice (some ⟨b4, 0, none⟩) 2 2), (8, .int .i64 (a1 : Int)), (7, .func (.func 89) #[] #[.pointer (some ⟨b3, 0, none⟩)]), (5, .int .i64 0), (0, .int .i64 v), (1, .int .i64 u)]) (l2 := [(44, .bool false), (10, .int .i64 256), (36, .int .i64 0), (35, .int .i64 2), (34, .slice (some ⟨b4, 0, none⟩) 2 2), (8, .int .i64 (a1 : Int)), (7, .func (.func 89) #[] #[.pointer (some ⟨b3, 0, none⟩)]), (5, .int .i64 0), (0, .int .i64 v), (1, .int .i64 u)]) (fun h => by rw [h]) (fun h => by rw [h]) (fun hc5 => ?_) (fun hc5 => ?_)
  · --decide (((a1 + 256 : Nat) : Int) < 16384)
    have hlt : a1 + 256 < 16384 := by have := of_decide_eq_true hc5; omega
    have ha3 : IntKind.i64.wrap (((16384 - a1 : Nat) : Int) - 256) = ((16384 - a1 - 256 : Nat) : Int) := by rw [i64in (by omega) (by omega)]; omega
    have hq1 := prod_ok (a := (16384 - a1 - 256)) (y := v) (by omega) hY hY1
    have hq2 := prod_ok (a := (a1 + 256)) (y := u) (by omega) (by omega) hX1
    have hp1 : IntKind.i64.wrap (firstV (16384 - a1 - 256) * v) = firstV (16384 - a1 - 256) * v := i64in (by omega) (by omega)
    have hp2 : IntKind.i64.wrap (firstV (a1 + 256) * u) = firstV (a1 + 256) * u := i64in (by omega) (by omega)
    refine ops_run (is := [(5, false), (6, false), (7, false)]) (r := [(8, false), (9, false), (10, false), (11, false), (12, false), (13, false), (14, false), (15, false), (16, false), (17, false), (18, false), (19, false), (20, false), (21, false)]) (l' := [(47, .int .i64 (IntKind.i64.wrap (16384 - (a1 : Int)))), (45, .func (.func 89) #[] #[.pointer (some ⟨b3, 0, none⟩)]), (44, .bool true), (10, .int .i64 256), (36, .int .i64 0), (35, .int .i64 2), (34, .slice (some ⟨b4, 0, none⟩) 2 2), (8, .int .i64 (a1 : Int)), (7, .func (.func 89) #[] #[.pointer (some ⟨b3, 0, none⟩)]), (5, .int .i64 0), (0, .int .i64 v), (1, .int .i64 u)]) [47, 45, 44, 10, 36, 35, 34, 8, 7, 5, 0, 1] (by kernel_rfl) ?_
    refine ops_conv (l' := [(47, .int .i64 ((16384 - a1 : Nat) : Int)), (45, .func (.func 89) #[] #[.pointer (some ⟨b3, 0, none⟩)]), (44, .bool true), (10, .int .i64 256), (36, .int .i64 0), (35, .int .i64 2), (34, .slice (some ⟨b4, 0, none⟩) 2 2), (8, .int .i64 (a1 : Int)), (7, .func (.func 89) #[] #[.pointer (some ⟨b3, 0, none⟩)]), (5, .int .i64 0), (0, .int .i64 v), (1, .int .i64 u)]) (by rw [ha2]) (fun _ h => h) ?_
    refine ops_run (is := [(8, false), (9, false)]) (r := [(10, false), (11, false), (12, false), (13, false), (14, false), (15, false), (16, false), (17, false), (18, false), (19, false), (20, false), (21, false)]) (l' := [(49, .int .i64 (IntKind.i64.wrap (((16384 - a1 : Nat) : Int) - 256))), (45, .func (.func 89) #[] #[.pointer (some ⟨b3, 0, none⟩)]), (44, .bool true), (10, .int .i64 256), (36, .int .i64 0), (35, .int .i64 2), (34, .slice (some ⟨b4, 0, none⟩) 2 2), (8, .int .i64 (a1 : Int)), (7, .func (.func 89) #[] #[.pointer (some ⟨b3, 0, none⟩)]), (5, .int .i64 0), (0, .int .i64 v), (1, .int .i64 u)]) [49, 45, 44, 10, 36, 35, 34, 8, 7, 5, 0, 1] (by kernel_rfl) ?_
    refine ops_conv (l' := [(49, .int .i64 ((16384 - a1 - 256 : Nat) : Int)), (45, .func (.func 89) #[] #[.pointer (some ⟨b3, 0, none⟩)]), (44, .bool true), (10, .int .i64 256), (36, .int .i64 0), (35, .int .i64 2), (34, .slice (some ⟨b4, 0, none⟩) 2 2), (8, .int .i64 (a1 : Int)), (7, .func (.func 89) #[] #[.pointer (some ⟨b3, 0, none⟩)]), (5, .int .i64 0), (0, .int .i64 v), (1, .int .i64 u)]) (by rw [ha3]) (fun _ h => h) ?_
    refine ops_call (σ := Unit) (d := some 50) (f := 89) (args := #[.int .i64 ((16384 - a1 - 256 : Nat) : Int), .pointer (some ⟨b3, 0, none⟩)]) (v := fun _ => .int .i64 (firstV (16384 - a1 - 256))) (M' := fun _ => Mem w [.blk b4 [.int .i64 256, .int .i64 1] 3, .blk b3 [.slice A1 65 c2] 37, .row A1 65 c2 3 1 (iv .i64 tab)]) ⟨by kernel_rfl⟩ (fun w_ hM hS => (Angle1_calls (16384 - a1 - 256) _ A1 c2 w_ (by omega) (hM.cell 1 rfl rfl) (hM.rints 2 rfl)).mono (by rintro e w' ⟨rfl, hb⟩; exact ⟨(), rfl, hM.step hb, trivial⟩)) (fun _ => ?_)
    refine ops_run (is := [(11, false), (12, false)]) (r := [(13, false), (14, false), (15, false), (16, false), (17, false), (18, false), (19, false), (20, false), (21, false)]) (l' := [(52, .int .i64 (IntKind.i64.wrap (firstV (16384 - a1 - 256) * v))), (44, .bool true), (10, .int .i64 256), (36, .int .i64 0), (35, .int .i64 2), (34, .slice (some ⟨b4, 0, none⟩) 2 2), (8, .int .i64 (a1 : Int)), (7, .func (.func 89) #[] #[.pointer (some ⟨b3, 0, none⟩)]), (5, .int .i64 0), (0, .int .i64 v), (1, .int .i64 u)]) [52, 44, 10, 36, 35, 34, 8, 7, 5, 0, 1] (by kernel_rfl) ?_
    refine ops_conv (l' := [(52, .int .i64 (firstV (16384 - a1 - 256) * v)), (44, .bool true), (10, .int .i64 256), (36, .int .i64 0), (35, .int .i64 2), (34, .slice (some ⟨b4, 0, none⟩) 2 2), (8, .int .i64 (a1 : Int)), (7, .func (.func 89) #[] #[.pointer (some ⟨b3, 0, none⟩)]), (5, .int .i64 0), (0, .int .i64 v), (1, .int .i64 u)]) (by rw [hp1]) (fun _ h => h) ?_
    refine ops_run (is := [(13, false), (14, false), (15, false), (16, false)]) (r := [(17, false), (18, false), (19, false), (20, false), (21, false)]) (l' := [(56, .int .i64 (IntKind.i64.wrap ((a1 : Int) + 256))), (53, .func (.func 89) #[] #[.pointer (some ⟨b3, 0, none⟩)]), (52, .int .i64 (firstV (16384 - a1 - 256) * v)), (44, .bool true), (10, .int .i64 256), (36, .int .i64 0), (35, .int .i64 2), (34, .slice (some ⟨b4, 0, none⟩) 2 2), (8, .int .i64 (a1 : Int)), (7, .func (.func 89) #[] #[.pointer (some ⟨b3, 0, none⟩)]), (5, .int .i64 0), (0, .int .i64 v), (1, .int .i64 u)]) [56, 53, 52, 44, 10, 36, 35, 34, 8, 7, 5, 0, 1] (by kernel_rfl) ?_
    refine ops_conv (l' := [(56, .int .i64 ((a1 + 256 : Nat) : Int)), (53, .func (.func 89) #[] #[.pointer (some ⟨b3, 0, none⟩)]), (52, .int .i64 (firstV (16384 - a1 - 256) * v)), (44, .bool true), (10, .int .i64 256), (36, .int .i64 0), (35, .int .i64 2), (34, .slice (some ⟨b4, 0, none⟩) 2 2), (8, .int .i64 (a1 : Int)), (7, .func (.func 89) #[] #[.pointer (some ⟨b3, 0, none⟩)]), (5, .int .i64 0), (0, .int .i64 v), (1, .int .i64 u)]) (by rw [ha1]) (fun _ h => h) ?_
    refine ops_call (σ := Unit) (d := some 57) (f := 89) (args := #[.int .i64 ((a1 + 256 : Nat) : Int), .pointer (some ⟨b3, 0, none⟩)]) (v := fun _ => .int .i64 (firstV (a1 + 256))) (M' := fun _ => Mem w [.blk b4 [.int .i64 256, .int .i64 1] 3, .blk b3 [.slice A1 65 c2] 37, .row A1 65 c2 3 1 (iv .i64 tab)]) ⟨by kernel_rfl⟩ (fun w_ hM hS => (Angle1_calls (a1 + 256) _ A1 c2 w_ (by omega) (hM.cell 1 rfl rfl) (hM.rints 2 rfl)).mono (by rintro e w' ⟨rfl, hb⟩; exact ⟨(), rfl, hM.step hb, trivial⟩)) (fun _ => ?_)
    refine ops_run (is := [(18, false), (19, false)]) (r := [(20, false), (21, false)]) (l' := [(59, .int .i64 (IntKind.i64.wrap (firstV (a1 + 256) * u))), (52, .int .i64 (firstV (16384 - a1 - 256) * v)), (44, .bool true), (10, .int .i64 256), (36, .int .i64 0), (35, .int .i64 2), (34, .slice (some ⟨b4, 0, none⟩) 2 2), (8, .int .i64 (a1 : Int)), (7, .func (.func 89) #[] #[.pointer (some ⟨b3, 0, none⟩)]), (5, .int .i64 0), (0, .int .i64 v), (1, .int .i64 u)]) [59, 52, 44, 10, 36, 35, 34, 8, 7, 5, 0, 1] (by kernel_rfl) ?_
    refine ops_conv (l' := [(59, .int .i64 (firstV (a1 + 256) * u)), (52, .int .i64 (firstV (16384 - a1 - 256) * v)), (44, .bool true), (10, .int .i64 256), (36, .int .i64 0), (35, .int .i64 2), (34, .slice (some ⟨b4, 0, none⟩) 2 2), (8, .int .i64 (a1 : Int)), (7, .func (.func 89) #[] #[.pointer (some ⟨b3, 0, none⟩)]), (5, .int .i64 0), (0, .int .i64 v), (1, .int .i64 u)]) (by rw [hp2]) (fun _ h => h) ?_
    refine ops_run (is := [(20, false), (21, false)]) (r := []) (l' := [(61, .bool (decide ((firstV (a1 + 256) * u) ≤ (firstV (16384 - a1 - 256) * v)))), (10, .int .i64 256), (36, .int .i64 0), (35, .int .i64 2), (34, .slice (some ⟨b4, 0, none⟩) 2 2), (8, .int .i64 (a1 : Int)), (7, .func (.func 89) #[] #[.pointer (some ⟨b3, 0, none⟩)]), (5, .int .i64 0), (0, .int .i64 v), (1, .int .i64 u)]) [61, 10, 36, 35, 34, 8, 7, 5, 0, 1] (by kernel_rfl) ?_
    refine ops_nil ?_
    refine fin_then ?_
    refine st_if (b := decide ((firstV (a1 + 256) * u) ≤ (firstV (16384 - a1 - 256) * v))) rfl (fun hc6 => ?_) (fun hc6 => ?_)
    · --
      refine st_skip ?_
      refine fin_then ?_
      refine st_block ?_
      refine st_region [(0, false), (1, false), (2, false), (3, false)] (by rfl) ?_
      refine ops_run (is := [(0, false), (1, false), (2, false)]) (r := [(3, false)]) (l' := [(64, .int .i64 (IntKind.i64.wrap ((a1 : Int) + 256))), (10, .int .i64 256), (36, .int .i64 0), (35, .int .i64 2), (34, .slice (some ⟨b4, 0, none⟩) 2 2), (8, .int .i64 (a1 : Int)), (7, .func (.func 89) #[] #[.pointer (some ⟨b3, 0, none⟩)]), (5, .int .i64 0), (0, .int .i64 v), (1, .int .i64 u)]) [64, 10, 36, 35, 34, 8, 7, 5, 0, 1] (by kernel_rfl) ?_
      refine ops_conv (l' := [(64, .int .i64 ((a1 + 256 : Nat) : Int)), (10, .int .i64 256), (36, .int .i64 0), (35, .int .i64 2), (34, .slice (some ⟨b4, 0, none⟩) 2 2), (8, .int .i64 (a1 : Int)), (7, .func (.func 89) #[] #[.pointer (some ⟨b3, 0, none⟩)]), (5, .int .i64 0), (0, .int .i64 v), (1, .int .i64 u)]) (by rw [ha1]) (fun _ h => h) ?_
      refine ops_run (is := [(3, false)]) (r := []) (l' := [(8, .int .i64 ((a1 + 256 : Nat) : Int)), (10, .int .i64 256), (36, .int .i64 0), (35, .int .i64 2), (34, .slice (some ⟨b4, 0, none⟩) 2 2), (7, .func (.func 89) #[] #[.pointer (some ⟨b3, 0, none⟩)]), (5, .int .i64 0), (0, .int .i64 v), (1, .int .i64 u)]) [8, 10, 36, 35, 34, 7, 5, 0, 1] (by kernel_rfl) ?_
      refine ops_nil ?_
      refine fin_block ?_
      refine fin_round (a1 + 256) (by exact ⟨show a1 + 256 ≤ 16383 by omega, by have z := of_decide_eq_true hc6; rwa [show 16384 - a1 - 256 = 16384 - (a1 + 256) by omega] at z⟩) (by (show 16384 - (a1 + 256) < 16384 - a1; omega)) (look_has ⟨rfl, rfl, rfl, rfl, rfl, rfl, rfl, rfl, rfl, trivial⟩) (fun w_ hM => by exact hM)
    · --
      refine st_exit ?_
      refine fin_exit_then ?_
      refine fin_exit_then ?_
      refine fin_exit ?_
      refine fin_block ?_
      refine fin_then ?_
      refine st_region [(0, false), (1, false)] (by rfl) ?_
      refine ops_run (is := [(0, false), (1, false)]) (r := []) (l' := [(36, .int .i64 1), (35, .int .i64 2), (34, .slice (some ⟨b4, 0, none⟩) 2 2), (8, .int .i64 (a1 : Int)), (7, .func (.func 89) #[] #[.pointer (some ⟨b3, 0, none⟩)]), (5, .int .i64 0), (0, .int .i64 v), (1, .int .i64 u)]) [36, 35, 34, 8, 7, 5, 0, 1] (by kernel_rfl) ?_
      refine ops_nil ?_
      refine fin_rounds ?_
      refine str_succ ?_
      refine st_seq ?_
      refine st_region [(0, false)] (by rfl) ?_
      refine ops_run (is := [(0, false)]) (r := []) (l' := [(37, .bool true), (36, .int .i64 1), (35, .int .i64 2), (34, .slice (some ⟨b4, 0, none⟩) 2 2), (8, .int .i64 (a1 : Int)), (7, .func (.func 89) #[] #[.pointer (some ⟨b3, 0, none⟩)]), (5, .int .i64 0), (0, .int .i64 v), (1, .int .i64 u)]) [37, 36, 35, 34, 8, 7, 5, 0, 1] (by kernel_rfl) ?_
      refine ops_nil ?_
      refine fin_then ?_
      refine st_seq ?_
      refine st_true rfl ?_
      refine st_skip ?_
      refine fin_then ?_
      refine st_seq ?_
      refine st_block ?_
      refine st_seq ?_
      refine st_region [(0, false), (1, false), (2, false)] (by rfl) ?_
      refine ops_run (is := [(0, false)]) (r := [(1, false), (2, false)]) (l' := [(38, .pointer (some ⟨b4, 1, none⟩)), (36, .int .i64 1), (35, .int .i64 2), (34, .slice (some ⟨b4, 0, none⟩) 2 2), (8, .int .i64 (a1 : Int)), (7, .func (.func 89) #[] #[.pointer (some ⟨b3, 0, none⟩)]), (5, .int .i64 0), (0, .int .i64 v), (1, .int .i64 u)]) [38, 36, 35, 34, 8, 7, 5, 0, 1] (by kernel_rfl) ?_
      refine ops_mem (d := some 39) (an := [.v (.int .i64 1)]) (evs := [.load ⟨b4, 1, none⟩ (.int .i64 1)]) (v := .int .i64 1) (M' := Mem w [.blk b4 [.int .i64 256, .int .i64 1] 3, .blk b3 [.slice A1 65 c2] 37, .row A1 65 c2 3 1 (iv .i64 tab)]) ⟨by kernel_rfl⟩ (fun w_ hM hS => ⟨w_, ⟨hM.cell 0 rfl rfl, rfl⟩, hM, trivial⟩) ?_
      refine ops_run (is := [(2, false)]) (r := []) (l' := [(10, .int .i64 1), (36, .int .i64 1), (35, .int .i64 2), (34, .slice (some ⟨b4, 0, none⟩) 2 2), (8, .int .i64 (a1 : Int)), (7, .func (.func 89) #[] #[.pointer (some ⟨b3, 0, none⟩)]), (5, .int .i64 0), (0, .int .i64 v), (1, .int .i64 u)]) [10, 36, 35, 34, 8, 7, 5, 0, 1] (by kernel_rfl) ?_
      refine ops_nil ?_
      refine fin_then ?_
      refine st_block ?_
      refine st_loop (σ := Nat) a1 (fun a => [(10, .int .i64 1), (36, .int .i64 1), (35, .int .i64 2), (34, .slice (some ⟨b4, 0, none⟩) 2 2), (8, .int .i64 (a : Int)), (7, .func (.func 89) #[] #[.pointer (some ⟨b3, 0, none⟩)]), (5, .int .i64 0), (0, .int .i64 v), (1, .int .i64 u)]) (fun a => Mem w [.blk b4 [.int .i64 256, .int .i64 1] 3, .blk b3 [.slice A1 65 c2] 37, .row A1 65 c2 3 1 (iv .i64 tab)]) (fun a => a ≤ 16383 ∧ Not u v a) (fun a => 16384 - a) (by exact ⟨hba1, hloa1⟩) (look_has ⟨rfl, rfl, rfl, rfl, rfl, rfl, rfl, rfl, rfl, trivial⟩) (fun w_ hM => by exact hM) ?_
      rintro a hI
      obtain ⟨hba, hloa⟩ := hI
      have hba : a ≤ 16383 := hba
      have hloa : Not u v a := hloa
      have ha1 : IntKind.i64.wrap ((a : Int) + 1) = ((a + 1 : Nat) : Int) := by rw [i64in (by omega) (by omega)]; omega
      have ha2 : IntKind.i64.wrap (16384 - (a : Int)) = ((16384 - a : Nat) : Int) := by rw [i64in (by omega) (by omega)]; omega
      refine st_seq ?_
      refine st_seq ?_
      refine st_region [(0, false), (1, false), (2, false), (3, false), (4, false), (5, false), (6, false), (7, false), (8, false), (9, false), (10, false), (11, false), (12, false), (13, false), (14, false), (15, false), (16, false), (17, false), (18, false), (19, false), (20, false), (21, false)] (by rfl) ?_
      refine ops_run (is := [(0, false), (1, false), (2, false)]) (r := [(3, false), (4, false), (5, false), (6, false), (7, false), (8, false), (9, false), (10, false), (11, false), (12, false), (13, false), (14, false), (15, false), (16, false), (17, false), (18, false), (19, false), (20, false), (21, false)]) (l' := [(42, .int .i64 (IntKind.i64.wrap ((a : Int) + 1))), (10, .int .i64 1), (36, .int .i64 1), (35, .int .i64 2), (34, .slice (some ⟨b4, 0, none⟩) 2 2), (8, .int .i64 (a : Int)), (7, .func (.func 89) #[] #[.pointer (some ⟨b3, 0, none⟩)]), (5, .int .i64 0), (0, .int .i64 v), (1, .int .i64 u)]) [42, 10, 36, 35, 34, 8, 7, 5, 0, 1] (by kernel_rfl) ?_
      refine ops_conv (l' := [(42, .int .i64 ((a + 1 : Nat) : Int)), (10, .int .i64 1), (36, .int .i64 1), (35, .int .i64 2), (34, .slice (some ⟨b4, 0, none⟩) 2 2), (8, .int .i64 (a : Int)), (7, .func (.func 89) #[] #[.pointer (some ⟨b3, 0, none⟩)]), (5, .int .i64 0), (0, .int .i64 v), (1, .int .i64 u)]) (by rw [ha1]) (fun _ h => h) ?_
      refine ops_run (is := [(3, false), (4, false)]) (r := [(5, false), (6, false), (7, false), (8, false), (9, false), (10, false), (11, false), (12, false), (13, false), (14, false), (15, false), (16, false), (17, false), (18, false), (19, false), (20, false), (21, false)]) (l' := [(44, .bool (decide (((a + 1 : Nat) : Int) < 16384))), (10, .int .i64 1), (36, .int .i64 1), (35, .int .i64 2), (34, .slice (some ⟨b4, 0, none⟩) 2 2), (8, .int .i64 (a : Int)), (7, .func (.func 89) #[] #[.pointer (some ⟨b3, 0, none⟩)]), (5, .int .i64 0), (0, .int .i64 v), (1, .int .i64 u)]) [44, 10, 36, 35, 34, 8, 7, 5, 0, 1] (by kernel_rfl) ?_
      refine ops_bool (t := decide (((a + 1 : Nat) : Int) < 16384)) (l1 := [(44, .bool true), (10, .int .i64 1), (36, .int .i64 1), (35, .int .i64 2), (34, .slice (some ⟨b4, 0, none⟩) 2 2), (8, .int .i64 (a : Int)), (7, .func (.func 89) #[] #[.pointer (some ⟨b3, 0, none⟩)]), (5, .int .i64 0), (0, .int .i64 v), (1, .int .i64 u)]) (l2 := [(44, .bool false), (10, .int .i64 1), (36, .int .i64 1), (35, .int .i64 2), (34, .slice (some ⟨b4, 0, none⟩) 2 2), (8, .int .i64 (a : Int)), (7, .func (.func 89) #[] #[.pointer (some ⟨b3, 0, none⟩)]), (5, .int .i64 0), (0, .int .i64 v), (1, .int .i64 u)]) (fun h => by rw [h]) (fun h => by rw [h]) (fun hc7 => ?_) (fun hc7 => ?_)
      · --decide (((a + 1 : Nat) : Int) < 16384)
        have hlt : a + 1 < 16384 := by have := of_decide_eq_true hc7; omega
        have ha3 : IntKind.i64.wrap (((16384 - a : Nat) : Int) - 1) = ((16384 - a - 1 : Nat) : Int) := by rw [i64in (by omega) (by omega)]; omega
        have hq1 := prod_ok (a := (16384 - a - 1)) (y := v) (by omega) hY hY1
        have hq2 := prod_ok (a := (a + 1)) (y := u) (by omega) (by omega) hX1
        have hp1 : IntKind.i64.wrap (firstV (16384 - a - 1) * v) = firstV (16384 - a - 1) * v := i64in (by omega) (by omega)
        have hp2 : IntKind.i64.wrap (firstV (a + 1) * u) = firstV (a + 1) * u := i64in (by omega) (by omega)
        refine ops_run (is := [(5, false), (6, false), (7, false)]) (r := [(8, false), (9, false), (10, false), (11, false), (12, false), (13, false), (14, false), (15, false), (16, false), (17, false), (18, false), (19, false), (20, false), (21, false)]) (l' := [(47, .int .i64 (IntKind.i64.wrap (16384 - (a : Int)))), (45, .func (.func 89) #[] #[.pointer (some ⟨b3, 0, none⟩)]), (44, .bool true), (10, .int .i64 1), (36, .int .i64 1), (35, .int .i64 2), (34, .slice (some ⟨b4, 0, none⟩) 2 2), (8, .int .i64 (a : Int)), (7, .func (.func 89) #[] #[.pointer (some ⟨b3, 0, none⟩)]), (5, .int .i64 0), (0, .int .i64 v), (1, .int .i64 u)]) [47, 45, 44, 10, 36, 35, 34, 8, 7, 5, 0, 1] (by kernel_rfl) ?_
        refine ops_conv (l' := [(47, .int .i64 ((16384 - a : Nat) : Int)), (45, .func (.func 89) #[] #[.pointer (some ⟨b3, 0, none⟩)]), (44, .bool true), (10, .int .i64 1), (36, .int .i64 1), (35, .int .i64 2), (34, .slice (some ⟨b4, 0, none⟩) 2 2), (8, .int .i64 (a : Int)), (7, .func (.func 89) #[] #[.pointer (some ⟨b3, 0, none⟩)]), (5, .int .i64 0), (0, .int .i64 v), (1, .int .i64 u)]) (by rw [ha2]) (fun _ h => h) ?_
        refine ops_run (is := [(8, false), (9, false)]) (r := [(10, false), (11, false), (12, false), (13, false), (14, false), (15, false), (16, false), (17, false), (18, false), (19, false), (20, false), (21, false)]) (l' := [(49, .int .i64 (IntKind.i64.wrap (((16384 - a : Nat) : Int) - 1))), (45, .func (.func 89) #[] #[.pointer (some ⟨b3, 0, none⟩)]), (44, .bool true), (10, .int .i64 1), (36, .int .i64 1), (35, .int .i64 2), (34, .slice (some ⟨b4, 0, none⟩) 2 2), (8, .int .i64 (a : Int)), (7, .func (.func 89) #[] #[.pointer (some ⟨b3, 0, none⟩)]), (5, .int .i64 0), (0, .int .i64 v), (1, .int .i64 u)]) [49, 45, 44, 10, 36, 35, 34, 8, 7, 5, 0, 1] (by kernel_rfl) ?_
        refine ops_conv (l' := [(49, .int .i64 ((16384 - a - 1 : Nat) : Int)), (45, .func (.func 89) #[] #[.pointer (some ⟨b3, 0, none⟩)]), (44, .bool true), (10, .int .i64 1), (36, .int .i64 1), (35, .int .i64 2), (34, .slice (some ⟨b4, 0, none⟩) 2 2), (8, .int .i64 (a : Int)), (7, .func (.func 89) #[] #[.pointer (some ⟨b3, 0, none⟩)]), (5, .int .i64 0), (0, .int .i64 v), (1, .int .i64 u)]) (by rw [ha3]) (fun _ h => h) ?_
        refine ops_call (σ := Unit) (d := some 50) (f := 89) (args := #[.int .i64 ((16384 - a - 1 : Nat) : Int), .pointer (some ⟨b3, 0, none⟩)]) (v := fun _ => .int .i64 (firstV (16384 - a - 1))) (M' := fun _ => Mem w [.blk b4 [.int .i64 256, .int .i64 1] 3, .blk b3 [.slice A1 65 c2] 37, .row A1 65 c2 3 1 (iv .i64 tab)]) ⟨by kernel_rfl⟩ (fun w_ hM hS => (Angle1_calls (16384 - a - 1) _ A1 c2 w_ (by omega) (hM.cell 1 rfl rfl) (hM.rints 2 rfl)).mono (by rintro e w' ⟨rfl, hb⟩; exact ⟨(), rfl, hM.step hb, trivial⟩)) (fun _ => ?_)
        refine ops_run (is := [(11, false), (12, false)]) (r := [(13, false), (14, false), (15, false), (16, false), (17, false), (18, false), (19, false), (20, false), (21, false)]) (l' := [(52, .int .i64 (IntKind.i64.wrap (firstV (16384 - a - 1) * v))), (44, .bool true), (10, .int .i64 1), (36, .int .i64 1), (35, .int .i64 2), (34, .slice (some ⟨b4, 0, none⟩) 2 2), (8, .int .i64 (a : Int)), (7, .func (.func 89) #[] #[.pointer (some ⟨b3, 0, none⟩)]), (5, .int .i64 0), (0, .int .i64 v), (1, .int .i64 u)]) [52, 44, 10, 36, 35, 34, 8, 7, 5, 0, 1] (by kernel_rfl) ?_
        refine ops_conv (l' := [(52, .int .i64 (firstV (16384 - a - 1) * v)), (44, .bool true), (10, .int .i64 1), (36, .int .i64 1), (35, .int .i64 2), (34, .slice (some ⟨b4, 0, none⟩) 2 2), (8, .int .i64 (a : Int)), (7, .func (.func 89) #[] #[.pointer (some ⟨b3, 0, none⟩)]), (5, .int .i64 0), (0, .int .i64 v), (1, .int .i64 u)]) (by rw [hp1]) (fun _ h => h) ?_
        refine ops_run (is := [(13, false), (14, false), (15, false), (16, false)]) (r := [(17, false), (18, false), (19, false), (20, false), (21, false)]) (l' := [(56, .int .i64 (IntKind.i64.wrap ((a : Int) + 1))), (53, .func (.func 89) #[] #[.pointer (some ⟨b3, 0, none⟩)]), (52, .int .i64 (firstV (16384 - a - 1) * v)), (44, .bool true), (10, .int .i64 1), (36, .int .i64 1), (35, .int .i64 2), (34, .slice (some ⟨b4, 0, none⟩) 2 2), (8, .int .i64 (a : Int)), (7, .func (.func 89) #[] #[.pointer (some ⟨b3, 0, none⟩)]), (5, .int .i64 0), (0, .int .i64 v), (1, .int .i64 u)]) [56, 53, 52, 44, 10, 36, 35, 34, 8, 7, 5, 0, 1] (by kernel_rfl) ?_
        refine ops_conv (l' := [(56, .int .i64 ((a + 1 : Nat) : Int)), (53, .func (.func 89) #[] #[.pointer (some ⟨b3, 0, none⟩)]), (52, .int .i64 (firstV (16384 - a - 1) * v)), (44, .bool true), (10, .int .i64 1), (36, .int .i64 1), (35, .int .i64 2), (34, .slice (some ⟨b4, 0, none⟩) 2 2), (8, .int .i64 (a : Int)), (7, .func (.func 89) #[] #[.pointer (some ⟨b3, 0, none⟩)]), (5, .int .i64 0), (0, .int .i64 v), (1, .int .i64 u)]) (by rw [ha1]) (fun _ h => h) ?_
        refine ops_call (σ := Unit) (d := some 57) (f := 89) (args := #[.int .i64 ((a + 1 : Nat) : Int), .pointer (some ⟨b3, 0, none⟩)]) (v := fun _ => .int .i64 (firstV (a + 1))) (M' := fun _ => Mem w [.blk b4 [.int .i64 256, .int .i64 1] 3, .blk b3 [.slice A1 65 c2] 37, .row A1 65 c2 3 1 (iv .i64 tab)]) ⟨by kernel_rfl⟩ (fun w_ hM hS => (Angle1_calls (a + 1) _ A1 c2 w_ (by omega) (hM.cell 1 rfl rfl) (hM.rints 2 rfl)).mono (by rintro e w' ⟨rfl, hb⟩; exact ⟨(), rfl, hM.step hb, trivial⟩)) (fun _ => ?_)
        refine ops_run (is := [(18, false), (19, false)]) (r := [(20, false), (21, false)]) (l' := [(59, .int .i64 (IntKind.i64.wrap (firstV (a + 1) * u))), (52, .int .i64 (firstV (16384 - a - 1) * v)), (44, .bool true), (10, .int .i64 1), (36, .int .i64 1), (35, .int .i64 2), (34, .slice (some ⟨b4, 0, none⟩) 2 2), (8, .int .i64 (a : Int)), (7, .func (.func 89) #[] #[.pointer (some ⟨b3, 0, none⟩)]), (5, .int .i64 0), (0, .int .i64 v), (1, .int .i64 u)]) [59, 52, 44, 10, 36, 35, 34, 8, 7, 5, 0, 1] (by kernel_rfl) ?_
        refine ops_conv (l' := [(59, .int .i64 (firstV (a + 1) * u)), (52, .int .i64 (firstV (16384 - a - 1) * v)), (44, .bool true), (10, .int .i64 1), (36, .int .i64 1), (35, .int .i64 2), (34, .slice (some ⟨b4, 0, none⟩) 2 2), (8, .int .i64 (a : Int)), (7, .func (.func 89) #[] #[.pointer (some ⟨b3, 0, none⟩)]), (5, .int .i64 0), (0, .int .i64 v), (1, .int .i64 u)]) (by rw [hp2]) (fun _ h => h) ?_
        refine ops_run (is := [(20, false), (21, false)]) (r := []) (l' := [(61, .bool (decide ((firstV (a + 1) * u) ≤ (firstV (16384 - a - 1) * v)))), (10, .int .i64 1), (36, .int .i64 1), (35, .int .i64 2), (34, .slice (some ⟨b4, 0, none⟩) 2 2), (8, .int .i64 (a : Int)), (7, .func (.func 89) #[] #[.pointer (some ⟨b3, 0, none⟩)]), (5, .int .i64 0), (0, .int .i64 v), (1, .int .i64 u)]) [61, 10, 36, 35, 34, 8, 7, 5, 0, 1] (by kernel_rfl) ?_
        refine ops_nil ?_
        refine fin_then ?_
        refine st_if (b := decide ((firstV (a + 1) * u) ≤ (firstV (16384 - a - 1) * v))) rfl (fun hc8 => ?_) (fun hc8 => ?_)
        · --
          refine st_skip ?_
          refine fin_then ?_
          refine st_block ?_
          refine st_region [(0, false), (1, false), (2, false), (3, false)] (by rfl) ?_
          refine ops_run (is := [(0, false), (1, false), (2, false)]) (r := [(3, false)]) (l' := [(64, .int .i64 (IntKind.i64.wrap ((a : Int) + 1))), (10, .int .i64 1), (36, .int .i64 1), (35, .int .i64 2), (34, .slice (some ⟨b4, 0, none⟩) 2 2), (8, .int .i64 (a : Int)), (7, .func (.func 89) #[] #[.pointer (some ⟨b3, 0, none⟩)]), (5, .int .i64 0), (0, .int .i64 v), (1, .int .i64 u)]) [64, 10, 36, 35, 34, 8, 7, 5, 0, 1] (by kernel_rfl) ?_
          refine ops_conv (l' := [(64, .int .i64 ((a + 1 : Nat) : Int)), (10, .int .i64 1), (36, .int .i64 1), (35, .int .i64 2), (34, .slice (some ⟨b4, 0, none⟩) 2 2), (8, .int .i64 (a : Int)), (7, .func (.func 89) #[] #[.pointer (some ⟨b3, 0, none⟩)]), (5, .int .i64 0), (0, .int .i64 v), (1, .int .i64 u)]) (by rw [ha1]) (fun _ h => h) ?_
          refine ops_run (is := [(3, false)]) (r := []) (l' := [(8, .int .i64 ((a + 1 : Nat) : Int)), (10, .int .i64 1), (36, .int .i64 1), (35, .int .i64 2), (34, .slice (some ⟨b4, 0, none⟩) 2 2), (7, .func (.func 89) #[] #[.pointer (some ⟨b3, 0, none⟩)]), (5, .int .i64 0), (0, .int .i64 v), (1, .int .i64 u)]) [8, 10, 36, 35, 34, 7, 5, 0, 1] (by kernel_rfl) ?_
          refine ops_nil ?_
          refine fin_block ?_
          refine fin_round (a + 1) (by exact ⟨show a + 1 ≤ 16383 by omega, by have z := of_decide_eq_true hc8; rwa [show 16384 - a - 1 = 16384 - (a + 1) by omega] at z⟩) (by (show 16384 - (a + 1) < 16384 - a; omega)) (look_has ⟨rfl, rfl, rfl, rfl, rfl, rfl, rfl, rfl, rfl, trivial⟩) (fun w_ hM => by exact hM)
        · --
          refine st_exit ?_
          refine fin_exit_then ?_
          refine fin_exit_then ?_
          refine fin_exit ?_
          refine fin_block ?_
          refine fin_then ?_
          refine st_region [(0, false), (1, false)] (by rfl) ?_
          refine ops_run (is := [(0, false), (1, false)]) (r := []) (l' := [(36, .int .i64 2), (35, .int .i64 2), (34, .slice (some ⟨b4, 0, none⟩) 2 2), (8, .int .i64 (a : Int)), (7, .func (.func 89) #[] #[.pointer (some ⟨b3, 0, none⟩)]), (5, .int .i64 0), (0, .int .i64 v), (1, .int .i64 u)]) [36, 35, 34, 8, 7, 5, 0, 1] (by kernel_rfl) ?_
          refine ops_nil ?_
          refine fin_rounds ?_
          refine str_succ ?_
          refine st_seq ?_
          refine st_region [(0, false)] (by rfl) ?_
          refine ops_run (is := [(0, false)]) (r := []) (l' := [(37, .bool false), (36, .int .i64 2), (35, .int .i64 2), (34, .slice (some ⟨b4, 0, none⟩) 2 2), (8, .int .i64 (a : Int)), (7, .func (.func 89) #[] #[.pointer (some ⟨b3, 0, none⟩)]), (5, .int .i64 0), (0, .int .i64 v), (1, .int .i64 u)]) [37, 36, 35, 34, 8, 7, 5, 0, 1] (by kernel_rfl) ?_
          refine ops_nil ?_
          refine fin_then ?_
          refine st_seq ?_
          refine st_false rfl ?_
          refine st_exit ?_
          refine fin_exit_then ?_
          refine fin_exit_then ?_
          refine fin_exit ?_
          refine fin_then ?_
          refine st_seq ?_
          refine st_region [(0, false), (1, false), (2, false), (3, false), (4, false)] (by rfl) ?_
          refine ops_run (is := [(0, false), (1, false), (2, false), (3, false)]) (r := [(4, false)]) (l' := [(69, .int .i64 (IntKind.i64.wrap (0 + (a : Int))))]) [69] (by kernel_rfl) ?_
          refine ops_conv (l' := [(69, .int .i64 (0 + (a : Int)))]) (by rw [(i64in (x := 0 + (a : Int)) (by omega) (by omega))]) (fun _ h => h) ?_
          refine ops_run (is := [(4, false)]) (r := []) (l' := [(4, .int .i64 (0 + (a : Int)))]) [4] (by kernel_rfl) ?_
          refine ops_nil ?_
          refine fin_then ?_
          refine st_ret ?_
          refine fin_ret [.tmp 4] [.int .i64 (0 + (a : Int))] rfl rfl (fun w_ hM => (.tmp rfl .nil)) (fun w_ hM => ?_)
          refine ⟨?_, hM.done⟩
          have z := ang_eq hX hY hloa hba (by right; intro hc; have z := of_decide_eq_false hc8; rw [show 16384 - a - 1 = 16384 - (a + 1) by omega] at z; exact z hc)
          rw [← z]
          first | rfl | (simp only [theOne]; congr 2; omega)
      · --decide (((a + 1 : Nat) : Int) < 16384)
        refine ops_run (is := [(5, false), (6, false), (7, false), (8, false), (9, false), (10, false), (11, false), (12, false), (13, false), (14, false), (15, false), (16, false), (17, false), (18, false), (19, false), (20, false), (21, false)]) (r := []) (l' := [(61, .bool false), (10, .int .i64 1), (36, .int .i64 1), (35, .int .i64 2), (34, .slice (some ⟨b4, 0, none⟩) 2 2), (8, .int .i64 (a : Int)), (7, .func (.func 89) #[] #[.pointer (some ⟨b3, 0, none⟩)]), (5, .int .i64 0), (0, .int .i64 v), (1, .int .i64 u)]) [61, 10, 36, 35, 34, 8, 7, 5, 0, 1] (by kernel_rfl) ?_
        refine ops_nil ?_
        refine fin_then ?_
        refine st_false rfl ?_
        refine st_exit ?_
        refine fin_exit_then ?_
        refine fin_exit_then ?_
        refine fin_exit ?_
        refine fin_block ?_
        refine fin_then ?_
        refine st_region [(0, false), (1, false)] (by rfl) ?_
        refine ops_run (is := [(0, false), (1, false)]) (r := []) (l' := [(36, .int .i64 2), (35, .int .i64 2), (34, .slice (some ⟨b4, 0, none⟩) 2 2), (8, .int .i64 (a : Int)), (7, .func (.func 89) #[] #[.pointer (some ⟨b3, 0, none⟩)]), (5, .int .i64 0), (0, .int .i64 v), (1, .int .i64 u)]) [36, 35, 34, 8, 7, 5, 0, 1] (by kernel_rfl) ?_
        refine ops_nil ?_
        refine fin_rounds ?_
        refine str_succ ?_
        refine st_seq ?_
        refine st_region [(0, false)] (by rfl) ?_
        refine ops_run (is := [(0, false)]) (r := []) (l' := [(37, .bool false), (36, .int .i64 2), (35, .int .i64 2), (34, .slice (some ⟨b4, 0, none⟩) 2 2), (8, .int .i64 (a : Int)), (7, .func (.func 89) #[] #[.pointer (some ⟨b3, 0, none⟩)]), (5, .int .i64 0), (0, .int .i64 v), (1, .int .i64 u)]) [37, 36, 35, 34, 8, 7, 5, 0, 1] (by kernel_rfl) ?_
        refine ops_nil ?_
        refine fin_then ?_
        refine st_seq ?_
        refine st_false rfl ?_
        refine st_exit ?_
        refine fin_exit_then ?_
        refine fin_exit_then ?_
        refine fin_exit ?_
        refine fin_then ?_
        refine st_seq ?_
        refine st_region [(0, false), (1, false), (2, false), (3, false), (4, false)] (by rfl) ?_
        refine ops_run (is := [(0, false), (1, false), (2, false), (3, false)]) (r := [(4, false)]) (l' := [(69, .int .i64 (IntKind.i64.wrap (0 + (a : Int))))]) [69] (by kernel_rfl) ?_
        refine ops_conv (l' := [(69, .int .i64 (0 + (a : Int)))]) (by rw [(i64in (x := 0 + (a : Int)) (by omega) (by omega))]) (fun _ h => h) ?_
        refine ops_run (is := [(4, false)]) (r := []) (l' := [(4, .int .i64 (0 + (a : Int)))]) [4] (by kernel_rfl) ?_
        refine ops_nil ?_
        refine fin_then ?_
        refine st_ret ?_
        refine fin_ret [.tmp 4] [.int .i64 (0 + (a : Int))] rfl rfl (fun w_ hM => (.tmp rfl .nil)) (fun w_ hM => ?_)
        refine ⟨?_, hM.done⟩
        have z := ang_eq hX hY hloa hba (by left; have := of_decide_eq_false hc7; omega)
        rw [← z]
        first | rfl | (simp only [theOne]; congr 2; omega)
  · --decide (((a1 + 256 : Nat) : Int) < 16384)
    refine ops_run (is := [(5, false), (6, false), (7, false), (8, false), (9, false), (10, false), (11, false), (12, false), (13, false), (14, false), (15, false), (16, false), (17, false), (18, false), (19, false), (20, false), (21, false)]) (r := []) (l' := [(61, .bool false), (10, .int .i64 256), (36, .int .i64 0), (35, .int .i64 2), (34, .slice (some ⟨b4, 0, none⟩) 2 2), (8, .int .i64 (a1 : Int)), (7, .func (.func 89) #[] #[.pointer (some ⟨b3, 0, none⟩)]), (5, .int .i64 0), (0, .int .i64 v), (1, .int .i64 u)]) [61, 10, 36, 35, 34, 8, 7, 5, 0, 1] (by kernel_rfl) ?_
    refine ops_nil ?_
    refine fin_then ?_
    refine st_false rfl ?_
    refine st_exit ?_
    refine fin_exit_then ?_
    refine fin_exit_then ?_
    refine fin_exit ?_
    refine fin_block ?_
    refine fin_then ?_
    refine st_region [(0, false), (1, false)] (by rfl) ?_
    refine ops_run (is := [(0, false), (1, false)]) (r := []) (l' := [(36, .int .i64 1), (35, .int .i64 2), (34, .slice (some ⟨b4, 0, none⟩) 2 2), (8, .int .i64 (a1 : Int)), (7, .func (.func 89) #[] #[.pointer (some ⟨b3, 0, none⟩)]), (5, .int .i64 0), (0, .int .i64 v), (1, .int .i64 u)]) [36, 35, 34, 8, 7, 5, 0, 1] (by kernel_rfl) ?_
    refine ops_nil ?_
    refine fin_rounds ?_
    refine str_succ ?_
    refine st_seq ?_
    refine st_region [(0, false)] (by rfl) ?_
    refine ops_run (is := [(0, false)]) (r := []) (l' := [(37, .bool true), (36, .int .i64 1), (35, .int .i64 2), (34, .slice (some ⟨b4, 0, none⟩) 2 2), (8, .int .i64 (a1 : Int)), (7, .func (.func 89) #[] #[.pointer (some ⟨b3, 0, none⟩)]), (5, .int .i64 0), (0, .int .i64 v), (1, .int .i64 u)]) [37, 36, 35, 34, 8, 7, 5, 0, 1] (by kernel_rfl) ?_
    refine ops_nil ?_
    refine fin_then ?_
    refine st_seq ?_
    refine st_true rfl ?_
    refine st_skip ?_
    refine fin_then ?_
    refine st_seq ?_
    refine st_block ?_
    refine st_seq ?_
    refine st_region [(0, false), (1, false), (2, false)] (by rfl) ?_
    refine ops_run (is := [(0, false)]) (r := [(1, false), (2, false)]) (l' := [(38, .pointer (some ⟨b4, 1, none⟩)), (36, .int .i64 1), (35, .int .i64 2), (34, .slice (some ⟨b4, 0, none⟩) 2 2), (8, .int .i64 (a1 : Int)), (7, .func (.func 89) #[] #[.pointer (some ⟨b3, 0, none⟩)]), (5, .int .i64 0), (0, .int .i64 v), (1, .int .i64 u)]) [38, 36, 35, 34, 8, 7, 5, 0, 1] (by kernel_rfl) ?_
    refine ops_mem (d := some 39) (an := [.v (.int .i64 1)]) (evs := [.load ⟨b4, 1, none⟩ (.int .i64 1)]) (v := .int .i64 1) (M' := Mem w [.blk b4 [.int .i64 256, .int .i64 1] 3, .blk b3 [.slice A1 65 c2] 37, .row A1 65 c2 3 1 (iv .i64 tab)]) ⟨by kernel_rfl⟩ (fun w_ hM hS => ⟨w_, ⟨hM.cell 0 rfl rfl, rfl⟩, hM, trivial⟩) ?_
    refine ops_run (is := [(2, false)]) (r := []) (l' := [(10, .int .i64 1), (36, .int .i64 1), (35, .int .i64 2), (34, .slice (some ⟨b4, 0, none⟩) 2 2), (8, .int .i64 (a1 : Int)), (7, .func (.func 89) #[] #[.pointer (some ⟨b3, 0, none⟩)]), (5, .int .i64 0), (0, .int .i64 v), (1, .int .i64 u)]) [10, 36, 35, 34, 8, 7, 5, 0, 1] (by kernel_rfl) ?_
    refine ops_nil ?_
    refine fin_then ?_
    refine st_block ?_
    refine st_loop (σ := Nat) a1 (fun a => [(10, .int .i64 1), (36, .int .i64 1), (35, .int .i64 2), (34, .slice (some ⟨b4, 0, none⟩) 2 2), (8, .int .i64 (a : Int)), (7, .func (.func 89) #[] #[.pointer (some ⟨b3, 0, none⟩)]), (5, .int .i64 0), (0, .int .i64 v), (1, .int .i64 u)]) (fun a => Mem w [.blk b4 [.int .i64 256, .int .i64 1] 3, .blk b3 [.slice A1 65 c2] 37, .row A1 65 c2 3 1 (iv .i64 tab)]) (fun a => a ≤ 16383 ∧ Not u v a) (fun a => 16384 - a) (by exact ⟨hba1, hloa1⟩) (look_has ⟨rfl, rfl, rfl, rfl, rfl, rfl, rfl, rfl, rfl, trivial⟩) (fun w_ hM => by exact hM) ?_
    rintro a hI
    obtain ⟨hba, hloa⟩ := hI
    have hba : a ≤ 16383 := hba
    have hloa : Not u v a := hloa
    have ha1 : IntKind.i64.wrap ((a : Int) + 1) = ((a + 1 : Nat) : Int) := by rw [i64in (by omega) (by omega)]; omega
    have ha2 : IntKind.i64.wrap (16384 - (a : Int)) = ((16384 - a : Nat) : Int) := by rw [i64in (by omega) (by omega)]; omega
    refine st_seq ?_
    refine st_seq ?_
    refine st_region [(0, false), (1, false), (2, false), (3, false), (4, false), (5, false), (6, false), (7, false), (8, false), (9, false), (10, false), (11, false), (12, false), (13, false), (14, false), (15, false), (16, false), (17, false), (18, false), (19, false), (20, false), (21, false)] (by rfl) ?_
    refine ops_run (is := [(0, false), (1, false), (2, false)]) (r := [(3, false), (4, false), (5, false), (6, false), (7, false), (8, false), (9, false), (10, false), (11, false), (12, false), (13, false), (14, false), (15, false), (16, false), (17, false), (18, false), (19, false), (20, false), (21, false)]) (l' := [(42, .int .i64 (IntKind.i64.wrap ((a : Int) + 1))), (10, .int .i64 1), (36, .int .i64 1), (35, .int .i64 2), (34, .slice (some ⟨b4, 0, none⟩) 2 2), (8, .int .i64 (a : Int)), (7, .func (.func 89) #[] #[.pointer (some ⟨b3, 0, none⟩)]), (5, .int .i64 0), (0, .int .i64 v), (1, .int .i64 u)]) [42, 10, 36, 35, 34, 8, 7, 5, 0, 1] (by kernel_rfl) ?_
    refine ops_conv (l' := [(42, .int .i64 ((a + 1 : Nat) : Int)), (10, .int .i64 1), (36, .int .i64 1), (35, .int .i64 2), (34, .slice (some ⟨b4, 0, none⟩) 2 2), (8, .int .i64 (a : Int)), (7, .func (.func 89) #[] #[.pointer (some ⟨b3, 0, none⟩)]), (5, .int .i64 0), (0, .int .i64 v), (1, .int .i64 u)]) (by rw [ha1]) (fun _ h => h) ?_
    refine ops_run (is := [(3, false), (4, false)]) (r := [(5, false), (6, false), (7, false), (8, false), (9, false), (10, false), (11, false), (12, false), (13, false), (14, false), (15, false), (16, false), (17, false), (18, false), (19, false), (20, false), (21, false)]) (l' := [(44, .bool (decide (((a + 1 : Nat) : Int) < 16384))), (10, .int .i64 1), (36, .int .i64 1), (35, .int .i64 2), (34, .slice (some ⟨b4, 0, none⟩) 2 2), (8, .int .i64 (a : Int)), (7, .func (.func 89) #[] #[.pointer (some ⟨b3, 0, none⟩)]), (5, .int .i64 0), (0, .int .i64 v), (1, .int .i64 u)]) [44, 10, 36, 35, 34, 8, 7, 5, 0, 1] (by kernel_rfl) ?_
    refine ops_bool (t := decide (((a + 1 : Nat) : Int) < 16384)) (l1 := [(44, .bool true), (10, .int .i64 1), (36, .int .i64 1), (35, .int .i64 2), (34, .slice (some ⟨b4, 0, none⟩) 2 2), (8, .int .i64 (a : Int)), (7, .func (.func 89) #[] #[.pointer (some ⟨b3, 0, none⟩)]), (5, .int .i64 0), (0, .int .i64 v), (1, .int .i64 u)]) (l2 := [(44, .bool false), (10, .int .i64 1), (36, .int .i64 1), (35, .int .i64 2), (34, .slice (some ⟨b4, 0, none⟩) 2 2), (8, .int .i64 (a : Int)), (7, .func (.func 89) #[] #[.pointer (some ⟨b3, 0, none⟩)]), (5, .int .i64 0), (0, .int .i64 v), (1, .int .i64 u)]) (fun h => by rw [h]) (fun h => by rw [h]) (fun hc9 => ?_) (fun hc9 => ?_)
    · --decide (((a + 1 : Nat) : Int) < 16384)
      have hlt : a + 1 < 16384 := by have := of_decide_eq_true hc9; omega
      have ha3 : IntKind.i64.wrap (((16384 - a : Nat) : Int) - 1) = ((16384 - a - 1 : Nat) : Int) := by rw [i64in (by omega) (by omega)]; omega
      have hq1 := prod_ok (a := (16384 - a - 1)) (y := v) (by omega) hY hY1
      have hq2 := prod_ok (a := (a + 1)) (y := u) (by omega) (by omega) hX1
      have hp1 : IntKind.i64.wrap (firstV (16384 - a - 1) * v) = firstV (16384 - a - 1) * v := i64in (by omega) (by omega)
      have hp2 : IntKind.i64.wrap (firstV (a + 1) * u) = firstV (a + 1) * u := i64in (by omega) (by omega)
      refine ops_run (is := [(5, false), (6, false), (7, false)]) (r := [(8, false), (9, false), (10, false), (11, false), (12, false), (13, false), (14, false), (15, false), (16, false), (17, false), (18, false), (19, false), (20, false), (21, false)]) (l' := [(47, .int .i64 (IntKind.i64.wrap (16384 - (a : Int)))), (45, .func (.func 89) #[] #[.pointer (some ⟨b3, 0, none⟩)]), (44, .bool true), (10, .int .i64 1), (36, .int .i64 1), (35, .int .i64 2), (34, .slice (some ⟨b4, 0, none⟩) 2 2), (8, .int .i64 (a : Int)), (7, .func (.func 89) #[] #[.pointer (some ⟨b3, 0, none⟩)]), (5, .int .i64 0), (0, .int .i64 v), (1, .int .i64 u)]) [47, 45, 44, 10, 36, 35, 34, 8, 7, 5, 0, 1] (by kernel_rfl) ?_
      refine ops_conv (l' := [(47, .int .i64 ((16384 - a : Nat) : Int)), (45, .func (.func 89) #[] #[.pointer (some ⟨b3, 0, none⟩)]), (44, .bool true), (10, .int .i64 1), (36, .int .i64 1), (35, .int .i64 2), (34, .slice (some ⟨b4, 0, none⟩) 2 2), (8, .int .i64 (a : Int)), (7, .func (.func 89) #[] #[.pointer (some ⟨b3, 0, none⟩)]), (5, .int .i64 0), (0, .int .i64 v), (1, .int .i64 u)]) (by rw [ha2]) (fun _ h => h) ?_
      refine ops_run (is := [(8, false), (9, false)]) (r := [(10, false), (11, false), (12, false), (13, false), (14, false), (15, false), (16, false), (17, false), (18, false), (19, false), (20, false), (21, false)]) (l' := [(49, .int .i64 (IntKind.i64.wrap (((16384 - a : Nat) : Int) - 1))), (45, .func (.func 89) #[] #[.pointer (some ⟨b3, 0, none⟩)]), (44, .bool true), (10, .int .i64 1), (36, .int .i64 1), (35, .int .i64 2), (34, .slice (some ⟨b4, 0, none⟩) 2 2), (8, .int .i64 (a : Int)), (7, .func (.func 89) #[] #[.pointer (some ⟨b3, 0, none⟩)]), (5, .int .i64 0), (0, .int .i64 v), (1, .int .i64 u)]) [49, 45, 44, 10, 36, 35, 34, 8, 7, 5, 0, 1] (by kernel_rfl) ?_
      refine ops_conv (l' := [(49, .int .i64 ((16384 - a - 1 : Nat) : Int)), (45, .func (.func 89) #[] #[.pointer (some ⟨b3, 0, none⟩)]), (44, .bool true), (10, .int .i64 1), (36, .int .i64 1), (35, .int .i64 2), (34, .slice (some ⟨b4, 0, none⟩) 2 2), (8, .int .i64 (a : Int)), (7, .func (.func 89) #[] #[.pointer (some ⟨b3, 0, none⟩)]), (5, .int .i64 0), (0, .int .i64 v), (1, .int .i64 u)]) (by rw [ha3]) (fun _ h => h) ?_
      refine ops_call (σ := Unit) (d := some 50) (f := 89) (args := #[.int .i64 ((16384 - a - 1 : Nat) : Int), .pointer (some ⟨b3, 0, none⟩)]) (v := fun _ => .int .i64 (firstV (16384 - a - 1))) (M' := fun _ => Mem w [.blk b4 [.int .i64 256, .int .i64 1] 3, .blk b3 [.slice A1 65 c2] 37, .row A1 65 c2 3 1 (iv .i64 tab)]) ⟨by kernel_rfl⟩ (fun w_ hM hS => (Angle1_calls (16384 - a - 1) _ A1 c2 w_ (by omega) (hM.cell 1 rfl rfl) (hM.rints 2 rfl)).mono (by rintro e w' ⟨rfl, hb⟩; exact ⟨(), rfl, hM.step hb, trivial⟩)) (fun _ => ?_)
      refine ops_run (is := [(11, false), (12, false)]) (r := [(13, false), (14, false), (15, false), (16, false), (17, false), (18, false), (19, false), (20, false), (21, false)]) (l' := [(52, .int .i64 (IntKind.i64.wrap (firstV (16384 - a - 1) * v))), (44, .bool true), (10, .int .i64 1), (36, .int .i64 1), (35, .int .i64 2), (34, .slice (some ⟨b4, 0, none⟩) 2 2), (8, .int .i64 (a : Int)), (7, .func (.func 89) #[] #[.pointer (some ⟨b3, 0, none⟩)]), (5, .int .i64 0), (0, .int .i64 v), (1, .int .i64 u)]) [52, 44, 10, 36, 35, 34, 8, 7, 5, 0, 1] (by kernel_rfl) ?_
      refine ops_conv (l' := [(52, .int .i64 (firstV (16384 - a - 1) * v)), (44, .bool true), (10, .int .i64 1), (36, .int .i64 1), (35, .int .i64 2), (34, .slice (some ⟨b4, 0, none⟩) 2 2), (8, .int .i64 (a : Int)), (7, .func (.func 89) #[] #[.pointer (some ⟨b3, 0, none⟩)]), (5, .int .i64 0), (0, .int .i64 v), (1, .int .i64 u)]) (by rw [hp1]) (fun _ h => h) ?_
      refine ops_run (is := [(13, false), (14, false), (15, false), (16, false)]) (r := [(17, false), (18, false), (19, false), (20, false), (21, false)]) (l' := [(56, .int .i64 (IntKind.i64.wrap ((a : Int) + 1))), (53, .func (.func 89) #[] #[.pointer (some ⟨b3, 0, none⟩)]), (52, .int .i64 (firstV (16384 - a - 1) * v)), (44, .bool true), (10, .int .i64 1), (36, .int .i64 1), (35, .int .i64 2), (34, .slice (some ⟨b4, 0, none⟩) 2 2), (8, .int .i64 (a : Int)), (7, .func (.func 89) #[] #[.pointer (some ⟨b3, 0, none⟩)]), (5, .int .i64 0), (0, .int .i64 v), (1, .int .i64 u)]) [56, 53, 52, 44, 10, 36, 35, 34, 8, 7, 5, 0, 1] (by kernel_rfl) ?_
      refine ops_conv (l' := [(56, .int .i64 ((a + 1 : Nat) : Int)), (53, .func (.func 89) #[] #[.pointer (some ⟨b3, 0, none⟩)]), (52, .int .i64 (firstV (16384 - a - 1) * v)), (44, .bool true), (10, .int .i64 1), (36, .int .i64 1), (35, .int .i64 2), (34, .slice (some ⟨b4, 0, none⟩) 2 2), (8, .int .i64 (a : Int)), (7, .func (.func 89) #[] #[.pointer (some ⟨b3, 0, none⟩)]), (5, .int .i64 0), (0, .int .i64 v), (1, .int .i64 u)]) (by rw [ha1]) (fun _ h => h) ?_
      refine ops_call (σ := Unit) (d := some 57) (f := 89) (args := #[.int .i64 ((a + 1 : Nat) : Int), .pointer (some ⟨b3, 0, none⟩)]) (v := fun _ => .int .i64 (firstV (a + 1))) (M' := fun _ => Mem w [.blk b4 [.int .i64 256, .int .i64 1] 3, .blk b3 [.slice A1 65 c2] 37, .row A1 65 c2 3 1 (iv .i64 tab)]) ⟨by kernel_rfl⟩ (fun w_ hM hS => (Angle1_calls (a + 1) _ A1 c2 w_ (by omega) (hM.cell 1 rfl rfl) (hM.rints 2 rfl)).mono (by rintro e w' ⟨rfl, hb⟩; exact ⟨(), rfl, hM.step hb, trivial⟩)) (fun _ => ?_)
      refine ops_run (is := [(18, false), (19, false)]) (r := [(20, false), (21, false)]) (l' := [(59, .int .i64 (IntKind.i64.wrap (firstV (a + 1) * u))), (52, .int .i64 (firstV (16384 - a - 1) * v)), (44, .bool true), (10, .int .i64 1), (36, .int .i64 1), (35, .int .i64 2), (34, .slice (some ⟨b4, 0, none⟩) 2 2), (8, .int .i64 (a : Int)), (7, .func (.func 89) #[] #[.pointer (some ⟨b3, 0, none⟩)]), (5, .int .i64 0), (0, .int .i64 v), (1, .int .i64 u)]) [59, 52, 44, 10, 36, 35, 34, 8, 7, 5, 0, 1] (by kernel_rfl) ?_
      refine ops_conv (l' := [(59, .int .i64 (firstV (a + 1) * u)), (52, .int .i64 (firstV (16384 - a - 1) * v)), (44, .bool true), (10, .int .i64 1), (36, .int .i64 1), (35, .int .i64 2), (34, .slice (some ⟨b4, 0, none⟩) 2 2), (8, .int .i64 (a : Int)), (7, .func (.func 89) #[] #[.pointer (some ⟨b3, 0, none⟩)]), (5, .int .i64 0), (0, .int .i64 v), (1, .int .i64 u)]) (by rw [hp2]) (fun _ h => h) ?_
      refine ops_run (is := [(20, false), (21, false)]) (r := []) (l' := [(61, .bool (decide ((firstV (a + 1) * u) ≤ (firstV (16384 - a - 1) * v)))), (10, .int .i64 1), (36, .int .i64 1), (35, .int .i64 2), (34, .slice (some ⟨b4, 0, none⟩) 2 2), (8, .int .i64 (a : Int)), (7, .func (.func 89) #[] #[.pointer (some ⟨b3, 0, none⟩)]), (5, .int .i64 0), (0, .int .i64 v), (1, .int .i64 u)]) [61, 10, 36, 35, 34, 8, 7, 5, 0, 1] (by kernel_rfl) ?_
      refine ops_nil ?_
      refine fin_then ?_
      refine st_if (b := decide ((firstV (a + 1) * u) ≤ (firstV (16384 - a - 1) * v))) rfl (fun hc10 => ?_) (fun hc10 => ?_)
      · --
        refine st_skip ?_
        refine fin_then ?_
        refine st_block ?_
        refine st_region [(0, false), (1, false), (2, false), (3, false)] (by rfl) ?_
        refine ops_run (is := [(0, false), (1, false), (2, false)]) (r := [(3, false)]) (l' := [(64, .int .i64 (IntKind.i64.wrap ((a : Int) + 1))), (10, .int .i64 1), (36, .int .i64 1), (35, .int .i64 2), (34, .slice (some ⟨b4, 0, none⟩) 2 2), (8, .int .i64 (a : Int)), (7, .func (.func 89) #[] #[.pointer (some ⟨b3, 0, none⟩)]), (5, .int .i64 0), (0, .int .i64 v), (1, .int .i64 u)]) [64, 10, 36, 35, 34, 8, 7, 5, 0, 1] (by kernel_rfl) ?_
        refine ops_conv (l' := [(64, .int .i64 ((a + 1 : Nat) : Int)), (10, .int .i64 1), (36, .int .i64 1), (35, .int .i64 2), (34, .slice (some ⟨b4, 0, none⟩) 2 2), (8, .int .i64 (a : Int)), (7, .func (.func 89) #[] #[.pointer (some ⟨b3, 0, none⟩)]), (5, .int .i64 0), (0, .int .i64 v), (1, .int .i64 u)]) (by rw [ha1]) (fun _ h => h) ?_
        refine ops_run (is := [(3, false)]) (r := []) (l' := [(8, .int .i64 ((a + 1 : Nat) : Int)), (10, .int .i64 1), (36, .int .i64 1), (35, .int .i64 2), (34, .slice (some ⟨b4, 0, none⟩) 2 2), (7, .func (.func 89) #[] #[.pointer (some ⟨b3, 0, none⟩)]), (5, .int .i64 0), (0, .int .i64 v), (1, .int .i64 u)]) [8, 10, 36, 35, 34, 7, 5, 0, 1] (by kernel_rfl) ?_
        refine ops_nil ?_
        refine fin_block ?_
        refine fin_round (a + 1) (by exact ⟨show a + 1 ≤ 16383 by omega, by have z := of_decide_eq_true hc10; rwa [show 16384 - a - 1 = 16384 - (a + 1) by omega] at z⟩) (by (show 16384 - (a + 1) < 16384 - a; omega)) (look_has ⟨rfl, rfl, rfl, rfl, rfl, rfl, rfl, rfl, rfl, trivial⟩) (fun w_ hM => by exact hM)
      · --
        refine st_exit ?_
        refine fin_exit_then ?_
        refine fin_exit_then ?_
        refine fin_exit ?_
        refine fin_block ?_
        refine fin_then ?_
        refine st_region [(0, false), (1, false)] (by rfl) ?_
        refine ops_run (is := [(0, false), (1, false)]) (r := []) (l' := [(36, .int .i64 2), (35, .int .i64 2), (34, .slice (some ⟨b4, 0, none⟩) 2 2), (8, .int .i64 (a : Int)), (7, .func (.func 89) #[] #[.pointer (some ⟨b3, 0, none⟩)]), (5, .int .i64 0), (0, .int .i64 v), (1, .int .i64 u)]) [36, 35, 34, 8, 7, 5, 0, 1] (by kernel_rfl) ?_
        refine ops_nil ?_
        refine fin_rounds ?_
        refine str_succ ?_
        refine st_seq ?_
        refine st_region [(0, false)] (by rfl) ?_
        refine ops_run (is := [(0, false)]) (r := []) (l' := [(37, .bool false), (36, .int .i64 2), (35, .int .i64 2), (34, .slice (some ⟨b4, 0, none⟩) 2 2), (8, .int .i64 (a : Int)), (7, .func (.func 89) #[] #[.pointer (some ⟨b3, 0, none⟩)]), (5, .int .i64 0), (0, .int .i64 v), (1, .int .i64 u)]) [37, 36, 35, 34, 8, 7, 5, 0, 1] (by kernel_rfl) ?_
        refine ops_nil ?_
        refine fin_then ?_
        refine st_seq ?_
        refine st_false rfl ?_
        refine st_exit ?_
        refine fin_exit_then ?_
        refine fin_exit_then ?_
        refine fin_exit ?_
        refine fin_then ?_
        refine st_seq ?_
        refine st_region [(0, false), (1, false), (2, false), (3, false), (4, false)] (by rfl) ?_
        refine ops_run (is := [(0, false), (1, false), (2, false), (3, false)]) (r := [(4, false)]) (l' := [(69, .int .i64 (IntKind.i64.wrap (0 + (a : Int))))]) [69] (by kernel_rfl) ?_
        refine ops_conv (l' := [(69, .int .i64 (0 + (a : Int)))]) (by rw [(i64in (x := 0 + (a : Int)) (by omega) (by omega))]) (fun _ h => h) ?_
        refine ops_run (is := [(4, false)]) (r := []) (l' := [(4, .int .i64 (0 + (a : Int)))]) [4] (by kernel_rfl) ?_
        refine ops_nil ?_
        refine fin_then ?_
        refine st_ret ?_
        refine fin_ret [.tmp 4] [.int .i64 (0 + (a : Int))] rfl rfl (fun w_ hM => (.tmp rfl .nil)) (fun w_ hM => ?_)
        refine ⟨?_, hM.done⟩
        have z := ang_eq hX hY hloa hba (by right; intro hc; have z := of_decide_eq_false hc10; rw [show 16384 - a - 1 = 16384 - (a + 1) by omega] at z; exact z hc)
        rw [← z]
        first | rfl | (simp only [theOne]; congr 2; omega)
    · --decide (((a + 1 : Nat) : Int) < 16384)
      refine ops_run (is := [(5, false), (6, false), (7, false), (8, false), (9, false), (10, false), (11, false), (12, false), (13, false), (14, false), (15, false), (16, false), (17, false), (18, false), (19, false), (20, false), (21, false)]) (r := []) (l' := [(61, .bool false), (10, .int .i64 1), (36, .int .i64 1), (35, .int .i64 2), (34, .slice (some ⟨b4, 0, none⟩) 2 2), (8, .int .i64 (a : Int)), (7, .func (.func 89) #[] #[.pointer (some ⟨b3, 0, none⟩)]), (5, .int .i64 0), (0, .int .i64 v), (1, .int .i64 u)]) [61, 10, 36, 35, 34, 8, 7, 5, 0, 1] (by kernel_rfl) ?_
      refine ops_nil ?_
      refine fin_then ?_
      refine st_false rfl ?_
      refine st_exit ?_
      refine fin_exit_then ?_
      refine fin_exit_then ?_
      refine fin_exit ?_
      refine fin_block ?_
      refine fin_then ?_
      refine st_region [(0, false), (1, false)] (by rfl) ?_
      refine ops_run (is := [(0, false), (1, false)]) (r := []) (l' := [(36, .int .i64 2), (35, .int .i64 2), (34, .slice (some ⟨b4, 0, none⟩) 2 2), (8, .int .i64 (a : Int)), (7, .func (.func 89) #[] #[.pointer (some ⟨b3, 0, none⟩)]), (5, .int .i64 0), (0, .int .i64 v), (1, .int .i64 u)]) [36, 35, 34, 8, 7, 5, 0, 1] (by kernel_rfl) ?_
      refine ops_nil ?_
      refine fin_rounds ?_
      refine str_succ ?_
      refine st_seq ?_
      refine st_region [(0, false)] (by rfl) ?_
      refine ops_run (is := [(0, false)]) (r := []) (l' := [(37, .bool false), (36, .int .i64 2), (35, .int .i64 2), (34, .slice (some ⟨b4, 0, none⟩) 2 2), (8, .int .i64 (a : Int)), (7, .func (.func 89) #[] #[.pointer (some ⟨b3, 0, none⟩)]), (5, .int .i64 0), (0, .int .i64 v), (1, .int .i64 u)]) [37, 36, 35, 34, 8, 7, 5, 0, 1] (by kernel_rfl) ?_
      refine ops_nil ?_
      refine fin_then ?_
      refine st_seq ?_
      refine st_false rfl ?_
      refine st_exit ?_
      refine fin_exit_then ?_
      refine fin_exit_then ?_
      refine fin_exit ?_
      refine fin_then ?_
      refine st_seq ?_
      refine st_region [(0, false), (1, false), (2, false), (3, false), (4, false)] (by rfl) ?_
      refine ops_run (is := [(0, false), (1, false), (2, false), (3, false)]) (r := [(4, false)]) (l' := [(69, .int .i64 (IntKind.i64.wrap (0 + (a : Int))))]) [69] (by kernel_rfl) ?_
      refine ops_conv (l' := [(69, .int .i64 (0 + (a : Int)))]) (by rw [(i64in (x := 0 + (a : Int)) (by omega) (by omega))]) (fun _ h => h) ?_
      refine ops_run (is := [(4, false)]) (r := []) (l' := [(4, .int .i64 (0 + (a : Int)))]) [4] (by kernel_rfl) ?_
      refine ops_nil ?_
      refine fin_then ?_
      refine st_ret ?_
      refine fin_ret [.tmp 4] [.int .i64 (0 + (a : Int))] rfl rfl (fun w_ hM => (.tmp rfl .nil)) (fun w_ hM => ?_)
      refine ⟨?_, hM.done⟩
      have z := ang_eq hX hY hloa hba (by left; have := of_decide_eq_false hc9; omega)
      rw [← z]
      first | rfl | (simp only [theOne]; congr 2; omega)
set_option maxHeartbeats 4000000 in
set_option maxRecDepth 100000 in
theorem Angle_1 (y x u v : Int) (w : World) (hu : min (max x (-1099511627776)) 1099511627776 = u) (hv : min (max y (-1099511627776)) 1099511627776 = v) (hq : u < 0 ∧ 0 < v) : Calls Try.prog 74 #[.int .i64 y, .int .i64 x] w fun e w' => e = .returned (.int .i64 (16384 + ang v (0 - u))) ∧ Below w.heap.size w w' := by
  have hu0 : -1099511627776 ≤ u ∧ u ≤ 1099511627776 := by omega
  have hv0 : -1099511627776 ≤ v ∧ v ≤ 1099511627776 := by omega
  have h00 : 0 - (0 - u) = u := by omega
  have h01 : IntKind.i64.wrap (0 - (0 - u)) = u := by rw [i64in (by omega) (by omega)]; omega
  have hkn0 : (v == 0) = false := by simp; omega
  have hkn1 : decide (u ≤ 0) = true := by simp; omega
  have hkn2 : decide (v ≤ 0) = false := by simp; omega
  have hkn3 : decide ((0 - u) < 0) = false := by simp; omega
  have hkn4 : (u == 0) = false := by simp; omega
  refine sx_calls Try.func74 rfl (n := 70) (by kernel_rfl) (l := [(0, .int .i64 y), (1, .int .i64 x)]) rfl (by rfl) (Mem.nil w) ?_
  refine st_seq ?_
  refine st_region [(0, false)] (by rfl) ?_
  refine ops_run (is := [(0, false)]) (r := []) (l' := [(0, .int .i64 y), (1, .int .i64 x)]) [0, 1] (by kernel_rfl) ?_
  refine ops_nil ?_
  refine fin_then ?_
  refine st_seq ?_
  refine st_region [(0, false), (1, false), (2, false), (3, false), (4, false), (5, false)] (by rfl) ?_
  refine ops_run (is := [(0, false)]) (r := [(1, false), (2, false), (3, false), (4, false), (5, false)]) (l' := [(11, .int .i64 x), (0, .int .i64 y), (1, .int .i64 x)]) [11, 0, 1] (by kernel_rfl) ?_
  refine ops_call (σ := Unit) (d := some 12) (f := 77) (args := #[.int .i64 x]) (v := fun _ => .int .i64 (min (max x (-1099511627776)) 1099511627776)) (M' := fun _ => Mem w []) ⟨by kernel_rfl⟩ (fun w_ hM hS => (Limit_calls x w_).mono (by rintro e w' ⟨rfl, hb⟩; exact ⟨(), rfl, hM.step hb, trivial⟩)) (fun _ => ?_)
  refine ops_run (is := []) (r := [(2, false), (3, false), (4, false), (5, false)]) (l' := [(12, .int .i64 (min (max x (-1099511627776)) 1099511627776)), (0, .int .i64 y), (1, .int .i64 x)]) [12, 0, 1] (by kernel_rfl) ?_
  refine ops_conv (l' := [(12, .int .i64 u), (0, .int .i64 y), (1, .int .i64 x)]) (by rw [hu]) (fun _ h => h) ?_
  refine ops_run (is := [(2, false)]) (r := [(3, false), (4, false), (5, false)]) (l' := [(13, .int .i64 y), (12, .int .i64 u), (0, .int .i64 y), (1, .int .i64 x)]) [13, 12, 0, 1] (by kernel_rfl) ?_
  refine ops_call (σ := Unit) (d := some 14) (f := 77) (args := #[.int .i64 y]) (v := fun _ => .int .i64 (min (max y (-1099511627776)) 1099511627776)) (M' := fun _ => Mem w []) ⟨by kernel_rfl⟩ (fun w_ hM hS => (Limit_calls y w_).mono (by rintro e w' ⟨rfl, hb⟩; exact ⟨(), rfl, hM.step hb, trivial⟩)) (fun _ => ?_)
  refine ops_run (is := []) (r := [(4, false), (5, false)]) (l' := [(14, .int .i64 (min (max y (-1099511627776)) 1099511627776)), (12, .int .i64 u), (0, .int .i64 y), (1, .int .i64 x)]) [14, 12, 0, 1] (by kernel_rfl) ?_
  refine ops_conv (l' := [(14, .int .i64 v), (12, .int .i64 u), (0, .int .i64 y), (1, .int .i64 x)]) (by rw [hv]) (fun _ h => h) ?_
  refine ops_run (is := [(4, false), (5, false)]) (r := []) (l' := [(0, .int .i64 v), (1, .int .i64 u)]) [0, 1] (by kernel_rfl) ?_
  refine ops_nil ?_
  refine fin_then ?_
  refine st_seq ?_
  refine st_seq ?_
  refine st_region [(0, false), (1, false), (2, false), (3, false), (4, false), (5, false)] (by rfl) ?_
  refine ops_run (is := [(0, false), (1, false), (2, false)]) (r := [(3, false), (4, false), (5, false)]) (l' := [(17, .bool (u == 0)), (0, .int .i64 v), (1, .int .i64 u)]) [17, 0, 1] (by kernel_rfl) ?_
  refine ops_conv (l' := [(17, .bool false), (0, .int .i64 v), (1, .int .i64 u)]) (by rw [hkn4]) (fun _ h => h) ?_
  refine ops_run (is := [(3, false), (4, false), (5, false)]) (r := []) (l' := [(20, .bool false), (0, .int .i64 v), (1, .int .i64 u)]) [20, 0, 1] (by kernel_rfl) ?_
  refine ops_nil ?_
  refine fin_then ?_
  refine st_false rfl ?_
  refine st_skip ?_
  refine fin_then ?_
  refine st_seq ?_
  refine st_region [(0, false)] (by rfl) ?_
  refine ops_run (is := [(0, false)]) (r := []) (l' := [(5, .int .i64 0), (0, .int .i64 v), (1, .int .i64 u)]) [5, 0, 1] (by kernel_rfl) ?_
  refine ops_nil ?_
  refine fin_then ?_
  refine st_seq ?_
  refine st_block ?_
  refine st_unroll 6 ?_
  refine str_succ ?_
  refine st_seq ?_
  refine st_seq ?_
  refine st_region [(0, false), (1, false), (2, false), (3, false), (4, false), (5, false)] (by rfl) ?_
  refine ops_run (is := [(0, false), (1, false), (2, false)]) (r := [(3, false), (4, false), (5, false)]) (l' := [(23, .bool (decide (u ≤ 0))), (5, .int .i64 0), (0, .int .i64 v), (1, .int .i64 u)]) [23, 5, 0, 1] (by kernel_rfl) ?_
  refine ops_conv (l' := [(23, .bool true), (5, .int .i64 0), (0, .int .i64 v), (1, .int .i64 u)]) (by rw [hkn1]) (fun _ h => h) ?_
  refine ops_run (is := [(3, false), (4, false), (5, false)]) (r := []) (l' := [(26, .bool true), (5, .int .i64 0), (0, .int .i64 v), (1, .int .i64 u)]) [26, 5, 0, 1] (by kernel_rfl) ?_
  refine ops_nil ?_
  refine fin_then ?_
  refine st_true rfl ?_
  refine st_skip ?_
  refine fin_then ?_
  refine st_block ?_
  refine st_region [(0, false), (1, false), (2, false), (3, false), (4, false), (5, false), (6, false), (7, false)] (by rfl) ?_
  refine ops_run (is := [(0, false), (1, false), (2, false)]) (r := [(3, false), (4, false), (5, false), (6, false), (7, false)]) (l' := [(29, .int .i64 (IntKind.i64.wrap (0 - u))), (27, .int .i64 v), (5, .int .i64 0), (0, .int .i64 v), (1, .int .i64 u)]) [29, 27, 5, 0, 1] (by kernel_rfl) ?_
  refine ops_conv (l' := [(29, .int .i64 (0 - u)), (27, .int .i64 v), (5, .int .i64 0), (0, .int .i64 v), (1, .int .i64 u)]) (by rw [(i64in (x := 0 - u) (by omega) (by omega))]) (fun _ h => h) ?_
  refine ops_run (is := [(3, false), (4, false), (5, false), (6, false), (7, false)]) (r := []) (l' := [(5, .int .i64 1), (0, .int .i64 (0 - u)), (1, .int .i64 v)]) [5, 0, 1] (by kernel_rfl) ?_
  refine ops_nil ?_
  refine fin_block ?_
  refine fin_rounds ?_
  refine str_succ ?_
  refine st_seq ?_
  refine st_seq ?_
  refine st_region [(0, false), (1, false), (2, false), (3, false), (4, false), (5, false)] (by rfl) ?_
  refine ops_run (is := [(0, false), (1, false), (2, false)]) (r := [(3, false), (4, false), (5, false)]) (l' := [(23, .bool (decide (v ≤ 0))), (5, .int .i64 1), (0, .int .i64 (0 - u)), (1, .int .i64 v)]) [23, 5, 0, 1] (by kernel_rfl) ?_
  refine ops_conv (l' := [(23, .bool false), (5, .int .i64 1), (0, .int .i64 (0 - u)), (1, .int .i64 v)]) (by rw [hkn2]) (fun _ h => h) ?_
  refine ops_run (is := [(3, false), (4, false), (5, false)]) (r := []) (l' := [(26, .bool (decide ((0 - u) < 0))), (5, .int .i64 1), (0, .int .i64 (0 - u)), (1, .int .i64 v)]) [26, 5, 0, 1] (by kernel_rfl) ?_
  refine ops_nil ?_
  refine fin_then ?_
  refine st_conv (l' := [(26, .bool false), (5, .int .i64 1), (0, .int .i64 (0 - u)), (1, .int .i64 v)]) (by rw [hkn3]) (fun _ h => h) ?_
  refine st_false rfl ?_
  refine st_exit ?_
  refine fin_exit_then ?_
  refine fin_exit_then ?_
  refine fin_exit ?_
  refine fin_then ?_
  refine st_seq ?_
  refine st_region [(0, false), (1, false), (2, false)] (by rfl) ?_
  refine ops_run (is := []) (r := [(0, false), (1, false), (2, false)]) (l' := [(5, .int .i64 1), (0, .int .i64 (0 - u)), (1, .int .i64 v)]) [5, 0, 1] (by kernel_rfl) ?_
  refine ops_call (σ := Option Addr × Nat) (d := some 32) (f := 81) (args := #[]) (v := fun x_ => match x_ with | (A1, c2) => .slice A1 65 c2) (M' := fun x_ => match x_ with | (A1, c2) => Mem w [.row A1 65 c2 3 1 (iv .i64 tab)]) ⟨by kernel_rfl⟩ (fun w_ hM hS => (sines_calls w_).mono (by rintro e w' ⟨x_, rfl, h2⟩; exact ⟨x_, rfl, hM.join h2 rfl, trivial⟩)) ?_
  rintro ⟨A1, c2⟩
  refine ops_conv (l' := [(32, .slice A1 65 c2), (5, .int .i64 1), (0, .int .i64 (0 - u)), (1, .int .i64 v)]) (M' := Mem w [.row A1 65 c2 3 1 (iv .i64 tab)]) rfl (fun _ h => h) ?_
  refine ops_run (is := []) (r := [(1, false), (2, false)]) (l' := [(32, .slice A1 65 c2), (5, .int .i64 1), (0, .int .i64 (0 - u)), (1, .int .i64 v)]) [32, 5, 0, 1] (by kernel_rfl) ?_
  refine ops_new (d := some 6) (o := .cells #[.slice none 0 0] 37) (v := fun b3 => .pointer (some ⟨b3, 0, none⟩)) (M' := fun b3 => Mem w [.blk b3 [.slice none 0 0] 37, .row A1 65 c2 3 1 (iv .i64 tab)]) (fun b3 => ⟨by kernel_rfl⟩) (fun w_ hM hS => ⟨hM.blk [.slice none 0 0] 37, trivial⟩) (fun b3 => ?_)
  refine ops_run (is := []) (r := [(2, false)]) (l' := [(6, .pointer (some ⟨b3, 0, none⟩)), (32, .slice A1 65 c2), (5, .int .i64 1), (0, .int .i64 (0 - u)), (1, .int .i64 v)]) [6, 32, 5, 0, 1] (by kernel_rfl) ?_
  refine ops_store (an := []) (evs := [.store ⟨b3, 0, none⟩ (.slice A1 65 c2)]) (M' := Mem w [.blk b3 [.slice A1 65 c2] 37, .row A1 65 c2 3 1 (iv .i64 tab)]) ⟨by kernel_rfl⟩ (fun w_ hM hS => let ⟨w', he, h'⟩ := hM.evs_stores [.slice A1 65 c2] 0 rfl 0 (Nat.le_of_ble_eq_true rfl); ⟨w', he, h', trivial⟩) ?_
  refine ops_run (is := []) (r := []) (l' := [(6, .pointer (some ⟨b3, 0, none⟩)), (5, .int .i64 1), (0, .int .i64 (0 - u)), (1, .int .i64 v)]) [6, 5, 0, 1] (by kernel_rfl) ?_
  refine ops_nil ?_
  refine fin_then ?_
  refine st_seq ?_
  refine st_region [(0, false), (1, false)] (by rfl) ?_
  refine ops_run (is := [(0, false), (1, false)]) (r := []) (l' := [(7, .func (.func 89) #[] #[.pointer (some ⟨b3, 0, none⟩)]), (5, .int .i64 1), (0, .int .i64 (0 - u)), (1, .int .i64 v)]) [7, 5, 0, 1] (by kernel_rfl) ?_
  refine ops_nil ?_
  refine fin_then ?_
  refine st_seq ?_
  refine st_region [(0, false)] (by rfl) ?_
  refine ops_run (is := [(0, false)]) (r := []) (l' := [(8, .int .i64 0), (7, .func (.func 89) #[] #[.pointer (some ⟨b3, 0, none⟩)]), (5, .int .i64 1), (0, .int .i64 (0 - u)), (1, .int .i64 v)]) [8, 7, 5, 0, 1] (by kernel_rfl) ?_
  refine ops_nil ?_
  refine fin_then ?_
  refine st_seq ?_
  refine st_seq ?_
  refine st_region [(0, false), (1, false), (2, false)] (by rfl) ?_
  refine ops_new (d := some 34) (o := .cells #[.int .i64 256, .int .i64 1] 3) (v := fun b4 => .slice (some ⟨b4, 0, none⟩) 2 2) (M' := fun b4 => Mem w [.blk b4 [.int .i64 256, .int .i64 1] 3, .blk b3 [.slice A1 65 c2] 37, .row A1 65 c2 3 1 (iv .i64 tab)]) (fun b4 => ⟨by kernel_rfl⟩) (fun w_ hM hS => ⟨hM.blk [.int .i64 256, .int .i64 1] 3, trivial⟩) (fun b4 => ?_)
  refine ops_run (is := [(1, false), (2, false)]) (r := []) (l' := [(36, .int .i64 0), (35, .int .i64 2), (34, .slice (some ⟨b4, 0, none⟩) 2 2), (8, .int .i64 0), (7, .func (.func 89) #[] #[.pointer (some ⟨b3, 0, none⟩)]), (5, .int .i64 1), (0, .int .i64 (0 - u)), (1, .int .i64 v)]) [36, 35, 34, 8, 7, 5, 0, 1] (by kernel_rfl) ?_
  refine ops_nil ?_
  refine fin_then ?_
  refine st_block ?_
  have hX : 0 < v := by omega
  have hY : 0 ≤ (0 - u) := by omega
  have hX1 : v ≤ 1099511627776 := by omega
  have hY1 : (0 - u) ≤ 1099511627776 := by omega
  refine st_unroll 4 ?_
  refine str_succ ?_
  refine st_seq ?_
  refine st_region [(0, false)] (by rfl) ?_
  refine ops_run (is := [(0, false)]) (r := []) (l' := [(37, .bool true), (36, .int .i64 0), (35, .int .i64 2), (34, .slice (some ⟨b4, 0, none⟩) 2 2), (8, .int .i64 0), (7, .func (.func 89) #[] #[.pointer (some ⟨b3, 0, none⟩)]), (5, .int .i64 1), (0, .int .i64 (0 - u)), (1, .int .i64 v)]) [37, 36, 35, 34, 8, 7, 5, 0, 1] (by kernel_rfl) ?_
  refine ops_nil ?_
  refine fin_then ?_
  refine st_seq ?_
  refine st_true rfl ?_
  refine st_skip ?_
  refine fin_then ?_
  refine st_seq ?_
  refine st_block ?_
  refine st_seq ?_
  refine st_region [(0, false), (1, false), (2, false)] (by rfl) ?_
  refine ops_run (is := [(0, false)]) (r := [(1, false), (2, false)]) (l' := [(38, .pointer (some ⟨b4, 0, none⟩)), (36, .int .i64 0), (35, .int .i64 2), (34, .slice (some ⟨b4, 0, none⟩) 2 2), (8, .int .i64 0), (7, .func (.func 89) #[] #[.pointer (some ⟨b3, 0, none⟩)]), (5, .int .i64 1), (0, .int .i64 (0 - u)), (1, .int .i64 v)]) [38, 36, 35, 34, 8, 7, 5, 0, 1] (by kernel_rfl) ?_
  refine ops_mem (d := some 39) (an := [.v (.int .i64 256)]) (evs := [.load ⟨b4, 0, none⟩ (.int .i64 256)]) (v := .int .i64 256) (M' := Mem w [.blk b4 [.int .i64 256, .int .i64 1] 3, .blk b3 [.slice A1 65 c2] 37, .row A1 65 c2 3 1 (iv .i64 tab)]) ⟨by kernel_rfl⟩ (fun w_ hM hS => ⟨w_, ⟨hM.cell 0 rfl rfl, rfl⟩, hM, trivial⟩) ?_
  refine ops_run (is := [(2, false)]) (r := []) (l' := [(10, .int .i64 256), (36, .int .i64 0), (35, .int .i64 2), (34, .slice (some ⟨b4, 0, none⟩) 2 2), (8, .int .i64 0), (7, .func (.func 89) #[] #[.pointer (some ⟨b3, 0, none⟩)]), (5, .int .i64 1), (0, .int .i64 (0 - u)), (1, .int .i64 v)]) [10, 36, 35, 34, 8, 7, 5, 0, 1] (by kernel_rfl) ?_
  refine ops_nil ?_
  refine fin_then ?_
  refine st_block ?_
  refine st_loop (σ := Nat) 0 (fun a1 => [(10, .int .i64 256), (36, .int .i64 0), (35, .int .i64 2), (34, .slice (some ⟨b4, 0, none⟩) 2 2), (8, .int .i64 (a1 : Int)), (7, .func (.func 89) #[] #[.pointer (some ⟨b3, 0, none⟩)]), (5, .int .i64 1), (0, .int .i64 (0 - u)), (1, .int .i64 v)]) (fun a1 => Mem w [.blk b4 [.int .i64 256, .int .i64 1] 3, .blk b3 [.slice A1 65 c2] 37, .row A1 65 c2 3 1 (iv .i64 tab)]) (fun a1 => a1 ≤ 16383 ∧ Not v (0 - u) a1) (fun a1 => 16384 - a1) (by exact ⟨by decide, not_zero hX hY⟩) (look_has ⟨rfl, rfl, rfl, rfl, rfl, rfl, rfl, rfl, rfl, trivial⟩) (fun w_ hM => by exact hM) ?_
  rintro a1 hI
  obtain ⟨hba1, hloa1⟩ := hI
  have hba1 : a1 ≤ 16383 := hba1
  have hloa1 : Not v (0 - u) a1 := hloa1
  have ha1 : IntKind.i64.wrap ((a1 : Int) + 256) = ((a1 + 256 : Nat) : Int) := by rw [i64in (by omega) (by omega)]; omega
  have ha2 : IntKind.i64.wrap (16384 - (a1 : Int)) = ((16384 - a1 : Nat) : Int) := by rw [i64in (by omega) (by omega)]; omega
  refine st_seq ?_
  refine st_seq ?_
  refine st_region [(0, false), (1, false), (2, false), (3, false), (4, false), (5, false), (6, false), (7, false), (8, false), (9, false), (10, false), (11, false), (12, false), (13, false), (14, false), (15, false), (16, false), (17, false), (18, false), (19, false), (20, false), (21, false)] (by rfl) ?_
  refine ops_run (is := [(0, false), (1, false), (2, false)]) (r := [(3, false), (4, false), (5, false), (6, false), (7, false), (8, false), (9, false), (10, false), (11, false), (12, false), (13, false), (14, false), (15, false), (16, false), (17, false), (18, false), (19, false), (20, false), (21, false)]) (l' := [(42, .int .i64 (IntKind.i64.wrap ((a1 : Int) + 256))), (10, .int .i64 256), (36, .int .i64 0), (35, .int .i64 2), (34, .slice (some ⟨b4, 0, none⟩) 2 2), (8, .int .i64 (a1 : Int)), (7, .func (.func 89) #[] #[.pointer (some ⟨b3, 0, none⟩)]), (5, .int .i64 1), (0, .int .i64 (0 - u)), (1, .int .i64 v)]) [42, 10, 36, 35, 34, 8, 7, 5, 0, 1] (by kernel_rfl) ?_
  refine ops_conv (l' := [(42, .int .i64 ((a1 + 256 : Nat) : Int)), (10, .int .i64 256), (36, .int .i64 0), (35, .int .i64 2), (34, .slice (some ⟨b4, 0, none⟩) 2 2), (8, .int .i64 (a1 : Int)), (7, .func (.func 89) #[] #[.pointer (some ⟨b3, 0, none⟩)]), (5, .int .i64 1), (0, .int .i64 (0 - u)), (1, .int .i64 v)]) (by rw [ha1]) (fun _ h => h) ?_
  refine ops_run (is := [(3, false), (4, false)]) (r := [(5, false), (6, false), (7, false), (8, false), (9, false), (10, false), (11, false), (12, false), (13, false), (14, false), (15, false), (16, false), (17, false), (18, false), (19, false), (20, false), (21, false)]) (l' := [(44, .bool (decide (((a1 + 256 : Nat) : Int) < 16384))), (10, .int .i64 256), (36, .int .i64 0), (35, .int .i64 2), (34, .slice (some ⟨b4, 0, none⟩) 2 2), (8, .int .i64 (a1 : Int)), (7, .func (.func 89) #[] #[.pointer (some ⟨b3, 0, none⟩)]), (5, .int .i64 1), (0, .int .i64 (0 - u)), (1, .int .i64 v)]) [44, 10, 36, 35, 34, 8, 7, 5, 0, 1] (by kernel_rfl) ?_
  refine ops_bool (t := decide (((a1 + 256 : Nat) : Int) < 16384)) (l1 := [(44, .bool true), (10, .int .i64 256), (36, .int .i64 0), (35, .int .i64 2), (34, .slice (some ⟨b4, 0, none⟩) 2 2), (8, .int .i64 (a1 : Int)), (7, .func (.func 89) #[] #[.pointer (some ⟨b3, 0, none⟩)]), (5, .int .i64 1), (0, .int .i64 (0 - u)), (1, .int .i64 v)]) (l2 := [(44, .bool false), (10, .int .i64 256), (36, .int .i64 0), (35, .int .i64 2), (34, .slice (some ⟨b4, 0, none⟩) 2 2), (8, .int .i64 (a1 : Int)), (7, .func (.func 89) #[] #[.pointer (some ⟨b3, 0, none⟩)]), (5, .int .i64 1), (0, .int .i64 (0 - u)), (1, .int .i64 v)]) (fun h => by rw [h]) (fun h => by rw [h]) (fun hc5 => ?_) (fun hc5 => ?_)
  · --decide (((a1 + 256 : Nat) : Int) < 16384)
    have hlt : a1 + 256 < 16384 := by have := of_decide_eq_true hc5; omega
    have ha3 : IntKind.i64.wrap (((16384 - a1 : Nat) : Int) - 256) = ((16384 - a1 - 256 : Nat) : Int) := by rw [i64in (by omega) (by omega)]; omega
    have hq1 := prod_ok (a := (16384 - a1 - 256)) (y := (0 - u)) (by omega) hY hY1
    have hq2 := prod_ok (a := (a1 + 256)) (y := v) (by omega) (by omega) hX1
    have hp1 : IntKind.i64.wrap (firstV (16384 - a1 - 256) * (0 - u)) = firstV (16384 - a1 - 256) * (0 - u) := i64in (by omega) (by omega)
    have hp2 : IntKind.i64.wrap (firstV (a1 + 256) * v) = firstV (a1 + 256) * v := i64in (by omega) (by omega)
    refine ops_run (is := [(5, false), (6, false), (7, false)]) (r := [(8, false), (9, false), (10, false), (11, false), (12, false), (13, false), (14, false), (15, false), (16, false), (17, false), (18, false), (19, false), (20, false), (21, false)]) (l' := [(47, .int .i64 (IntKind.i64.wrap (16384 - (a1 : Int)))), (45, .func (.func 89) #[] #[.pointer (some ⟨b3, 0, none⟩)]), (44, .bool true), (10, .int .i64 256), (36, .int .i64 0), (35, .int .i64 2), (34, .slice (some ⟨b4, 0, none⟩) 2 2), (8, .int .i64 (a1 : Int)), (7, .func (.func 89) #[] #[.pointer (some ⟨b3, 0, none⟩)]), (5, .int .i64 1), (0, .int .i64 (0 - u)), (1, .int .i64 v)]) [47, 45, 44, 10, 36, 35, 34, 8, 7, 5, 0, 1] (by kernel_rfl) ?_
    refine ops_conv (l' := [(47, .int .i64 ((16384 - a1 : Nat) : Int)), (45, .func (.func 89) #[] #[.pointer (some ⟨b3, 0, none⟩)]), (44, .bool true), (10, .int .i64 256), (36, .int .i64 0), (35, .int .i64 2), (34, .slice (some ⟨b4, 0, none⟩) 2 2), (8, .int .i64 (a1 : Int)), (7, .func (.func 89) #[] #[.pointer (some ⟨b3, 0, none⟩)]), (5, .int .i64 1), (0, .int .i64 (0 - u)), (1, .int .i64 v)]) (by rw [ha2]) (fun _ h => h) ?_
    refine ops_run (is := [(8, false), (9, false)]) (r := [(10, false), (11, false), (12, false), (13, false), (14, false), (15, false), (16, false), (17, false), (18, false), (19, false), (20, false), (21, false)]) (l' := [(49, .int .i64 (IntKind.i64.wrap (((16384 - a1 : Nat) : Int) - 256))), (45, .func (.func 89) #[] #[.pointer (some ⟨b3, 0, none⟩)]), (44, .bool true), (10, .int .i64 256), (36, .int .i64 0), (35, .int .i64 2), (34, .slice (some ⟨b4, 0, none⟩) 2 2), (8, .int .i64 (a1 : Int)), (7, .func (.func 89) #[] #[.pointer (some ⟨b3, 0, none⟩)]), (5, .int .i64 1), (0, .int .i64 (0 - u)), (1, .int .i64 v)]) [49, 45, 44, 10, 36, 35, 34, 8, 7, 5, 0, 1] (by kernel_rfl) ?_
    refine ops_conv (l' := [(49, .int .i64 ((16384 - a1 - 256 : Nat) : Int)), (45, .func (.func 89) #[] #[.pointer (some ⟨b3, 0, none⟩)]), (44, .bool true), (10, .int .i64 256), (36, .int .i64 0), (35, .int .i64 2), (34, .slice (some ⟨b4, 0, none⟩) 2 2), (8, .int .i64 (a1 : Int)), (7, .func (.func 89) #[] #[.pointer (some ⟨b3, 0, none⟩)]), (5, .int .i64 1), (0, .int .i64 (0 - u)), (1, .int .i64 v)]) (by rw [ha3]) (fun _ h => h) ?_
    refine ops_call (σ := Unit) (d := some 50) (f := 89) (args := #[.int .i64 ((16384 - a1 - 256 : Nat) : Int), .pointer (some ⟨b3, 0, none⟩)]) (v := fun _ => .int .i64 (firstV (16384 - a1 - 256))) (M' := fun _ => Mem w [.blk b4 [.int .i64 256, .int .i64 1] 3, .blk b3 [.slice A1 65 c2] 37, .row A1 65 c2 3 1 (iv .i64 tab)]) ⟨by kernel_rfl⟩ (fun w_ hM hS => (Angle1_calls (16384 - a1 - 256) _ A1 c2 w_ (by omega) (hM.cell 1 rfl rfl) (hM.rints 2 rfl)).mono (by rintro e w' ⟨rfl, hb⟩; exact ⟨(), rfl, hM.step hb, trivial⟩)) (fun _ => ?_)
    refine ops_run (is := [(11, false), (12, false)]) (r := [(13, false), (14, false), (15, false), (16, false), (17, false), (18, false), (19, false), (20, false), (21, false)]) (l' := [(52, .int .i64 (IntKind.i64.wrap (firstV (16384 - a1 - 256) * (0 - u)))), (44, .bool true), (10, .int .i64 256), (36, .int .i64 0), (35, .int .i64 2), (34, .slice (some ⟨b4, 0, none⟩) 2 2), (8, .int .i64 (a1 : Int)), (7, .func (.func 89) #[] #[.pointer (some ⟨b3, 0, none⟩)]), (5, .int .i64 1), (0, .int .i64 (0 - u)), (1, .int .i64 v)]) [52, 44, 10, 36, 35, 34, 8, 7, 5, 0, 1] (by kernel_rfl) ?_
    refine ops_conv (l' := [(52, .int .i64 (firstV (16384 - a1 - 256) * (0 - u))), (44, .bool true), (10, .int .i64 256), (36, .int .i64 0), (35, .int .i64 2), (34, .slice (some ⟨b4, 0, none⟩) 2 2), (8, .int .i64 (a1 : Int)), (7, .func (.func 89) #[] #[.pointer (some ⟨b3, 0, none⟩)]), (5, .int .i64 1), (0, .int .i64 (0 - u)), (1, .int .i64 v)]) (by rw [hp1]) (fun _ h => h) ?_
    refine ops_run (is := [(13, false), (14, false), (15, false), (16, false)]) (r := [(17, false), (18, false), (19, false), (20, false), (21, false)]) (l' := [(56, .int .i64 (IntKind.i64.wrap ((a1 : Int) + 256))), (53, .func (.func 89) #[] #[.pointer (some ⟨b3, 0, none⟩)]), (52, .int .i64 (firstV (16384 - a1 - 256) * (0 - u))), (44, .bool true), (10, .int .i64 256), (36, .int .i64 0), (35, .int .i64 2), (34, .slice (some ⟨b4, 0, none⟩) 2 2), (8, .int .i64 (a1 : Int)), (7, .func (.func 89) #[] #[.pointer (some ⟨b3, 0, none⟩)]), (5, .int .i64 1), (0, .int .i64 (0 - u)), (1, .int .i64 v)]) [56, 53, 52, 44, 10, 36, 35, 34, 8, 7, 5, 0, 1] (by kernel_rfl) ?_
    refine ops_conv (l' := [(56, .int .i64 ((a1 + 256 : Nat) : Int)), (53, .func (.func 89) #[] #[.pointer (some ⟨b3, 0, none⟩)]), (52, .int .i64 (firstV (16384 - a1 - 256) * (0 - u))), (44, .bool true), (10, .int .i64 256), (36, .int .i64 0), (35, .int .i64 2), (34, .slice (some ⟨b4, 0, none⟩) 2 2), (8, .int .i64 (a1 : Int)), (7, .func (.func 89) #[] #[.pointer (some ⟨b3, 0, none⟩)]), (5, .int .i64 1), (0, .int .i64 (0 - u)), (1, .int .i64 v)]) (by rw [ha1]) (fun _ h => h) ?_
    refine ops_call (σ := Unit) (d := some 57) (f := 89) (args := #[.int .i64 ((a1 + 256 : Nat) : Int), .pointer (some ⟨b3, 0, none⟩)]) (v := fun _ => .int .i64 (firstV (a1 + 256))) (M' := fun _ => Mem w [.blk b4 [.int .i64 256, .int .i64 1] 3, .blk b3 [.slice A1 65 c2] 37, .row A1 65 c2 3 1 (iv .i64 tab)]) ⟨by kernel_rfl⟩ (fun w_ hM hS => (Angle1_calls (a1 + 256) _ A1 c2 w_ (by omega) (hM.cell 1 rfl rfl) (hM.rints 2 rfl)).mono (by rintro e w' ⟨rfl, hb⟩; exact ⟨(), rfl, hM.step hb, trivial⟩)) (fun _ => ?_)
    refine ops_run (is := [(18, false), (19, false)]) (r := [(20, false), (21, false)]) (l' := [(59, .int .i64 (IntKind.i64.wrap (firstV (a1 + 256) * v))), (52, .int .i64 (firstV (16384 - a1 - 256) * (0 - u))), (44, .bool true), (10, .int .i64 256), (36, .int .i64 0), (35, .int .i64 2), (34, .slice (some ⟨b4, 0, none⟩) 2 2), (8, .int .i64 (a1 : Int)), (7, .func (.func 89) #[] #[.pointer (some ⟨b3, 0, none⟩)]), (5, .int .i64 1), (0, .int .i64 (0 - u)), (1, .int .i64 v)]) [59, 52, 44, 10, 36, 35, 34, 8, 7, 5, 0, 1] (by kernel_rfl) ?_
    refine ops_conv (l' := [(59, .int .i64 (firstV (a1 + 256) * v)), (52, .int .i64 (firstV (16384 - a1 - 256) * (0 - u))), (44, .bool true), (10, .int .i64 256), (36, .int .i64 0), (35, .int .i64 2), (34, .slice (some ⟨b4, 0, none⟩) 2 2), (8, .int .i64 (a1 : Int)), (7, .func (.func 89) #[] #[.pointer (some ⟨b3, 0, none⟩)]), (5, .int .i64 1), (0, .int .i64 (0 - u)), (1, .int .i64 v)]) (by rw [hp2]) (fun _ h => h) ?_
    refine ops_run (is := [(20, false), (21, false)]) (r := []) (l' := [(61, .bool (decide ((firstV (a1 + 256) * v) ≤ (firstV (16384 - a1 - 256) * (0 - u))))), (10, .int .i64 256), (36, .int .i64 0), (35, .int .i64 2), (34, .slice (some ⟨b4, 0, none⟩) 2 2), (8, .int .i64 (a1 : Int)), (7, .func (.func 89) #[] #[.pointer (some ⟨b3, 0, none⟩)]), (5, .int .i64 1), (0, .int .i64 (0 - u)), (1, .int .i64 v)]) [61, 10, 36, 35, 34, 8, 7, 5, 0, 1] (by kernel_rfl) ?_
    refine ops_nil ?_
    refine fin_then ?_
    refine st_if (b := decide ((firstV (a1 + 256) * v) ≤ (firstV (16384 - a1 - 256) * (0 - u)))) rfl (fun hc6 => ?_) (fun hc6 => ?_)
    · --
      refine st_skip ?_
      refine fin_then ?_
      refine st_block ?_
      refine st_region [(0, false), (1, false), (2, false), (3, false)] (by rfl) ?_
      refine ops_run (is := [(0, false), (1, false), (2, false)]) (r := [(3, false)]) (l' := [(64, .int .i64 (IntKind.i64.wrap ((a1 : Int) + 256))), (10, .int .i64 256), (36, .int .i64 0), (35, .int .i64 2), (34, .slice (some ⟨b4, 0, none⟩) 2 2), (8, .int .i64 (a1 : Int)), (7, .func (.func 89) #[] #[.pointer (some ⟨b3, 0, none⟩)]), (5, .int .i64 1), (0, .int .i64 (0 - u)), (1, .int .i64 v)]) [64, 10, 36, 35, 34, 8, 7, 5, 0, 1] (by kernel_rfl) ?_
      refine ops_conv (l' := [(64, .int .i64 ((a1 + 256 : Nat) : Int)), (10, .int .i64 256), (36, .int .i64 0), (35, .int .i64 2), (34, .slice (some ⟨b4, 0, none⟩) 2 2), (8, .int .i64 (a1 : Int)), (7, .func (.func 89) #[] #[.pointer (some ⟨b3, 0, none⟩)]), (5, .int .i64 1), (0, .int .i64 (0 - u)), (1, .int .i64 v)]) (by rw [ha1]) (fun _ h => h) ?_
      refine ops_run (is := [(3, false)]) (r := []) (l' := [(8, .int .i64 ((a1 + 256 : Nat) : Int)), (10, .int .i64 256), (36, .int .i64 0), (35, .int .i64 2), (34, .slice (some ⟨b4, 0, none⟩) 2 2), (7, .func (.func 89) #[] #[.pointer (some ⟨b3, 0, none⟩)]), (5, .int .i64 1), (0, .int .i64 (0 - u)), (1, .int .i64 v)]) [8, 10, 36, 35, 34, 7, 5, 0, 1] (by kernel_rfl) ?_
      refine ops_nil ?_
      refine fin_block ?_
      refine fin_round (a1 + 256) (by exact ⟨show a1 + 256 ≤ 16383 by omega, by have z := of_decide_eq_true hc6; rwa [show 16384 - a1 - 256 = 16384 - (a1 + 256) by omega] at z⟩) (by (show 16384 - (a1 + 256) < 16384 - a1; omega)) (look_has ⟨rfl, rfl, rfl, rfl, rfl, rfl, rfl, rfl, rfl, trivial⟩) (fun w_ hM => by exact hM)
    · --
      refine st_exit ?_
      refine fin_exit_then ?_
      refine fin_exit_then ?_
      refine fin_exit ?_
      refine fin_block ?_
      refine fin_then ?_
      refine st_region [(0, false), (1, false)] (by rfl) ?_
      refine ops_run (is := [(0, false), (1, false)]) (r := []) (l' := [(36, .int .i64 1), (35, .int .i64 2), (34, .slice (some ⟨b4, 0, none⟩) 2 2), (8, .int .i64 (a1 : Int)), (7, .func (.func 89) #[] #[.pointer (some ⟨b3, 0, none⟩)]), (5, .int .i64 1), (0, .int .i64 (0 - u)), (1, .int .i64 v)]) [36, 35, 34, 8, 7, 5, 0, 1] (by kernel_rfl) ?_
      refine ops_nil ?_
      refine fin_rounds ?_
      refine str_succ ?_
      refine st_seq ?_
      refine st_region [(0, false)] (by rfl) ?_
      refine ops_run (is := [(0, false)]) (r := []) (l' := [(37, .bool true), (36, .int .i64 1), (35, .int .i64 2), (34, .slice (some ⟨b4, 0, none⟩) 2 2), (8, .int .i64 (a1 : Int)), (7, .func (.func 89) #[] #[.pointer (some ⟨b3, 0, none⟩)]), (5, .int .i64 1), (0, .int .i64 (0 - u)), (1, .int .i64 v)]) [37, 36, 35, 34, 8, 7, 5, 0, 1] (by kernel_rfl) ?_
      refine ops_nil ?_
      refine fin_then ?_
      refine st_seq ?_
      refine st_true rfl ?_
      refine st_skip ?_
      refine fin_then ?_
      refine st_seq ?_
      refine st_block ?_
      refine st_seq ?_
      refine st_region [(0, false), (1, false), (2, false)] (by rfl) ?_
      refine ops_run (is := [(0, false)]) (r := [(1, false), (2, false)]) (l' := [(38, .pointer (some ⟨b4, 1, none⟩)), (36, .int .i64 1), (35, .int .i64 2), (34, .slice (some ⟨b4, 0, none⟩) 2 2), (8, .int .i64 (a1 : Int)), (7, .func (.func 89) #[] #[.pointer (some ⟨b3, 0, none⟩)]), (5, .int .i64 1), (0, .int .i64 (0 - u)), (1, .int .i64 v)]) [38, 36, 35, 34, 8, 7, 5, 0, 1] (by kernel_rfl) ?_
      refine ops_mem (d := some 39) (an := [.v (.int .i64 1)]) (evs := [.load ⟨b4, 1, none⟩ (.int .i64 1)]) (v := .int .i64 1) (M' := Mem w [.blk b4 [.int .i64 256, .int .i64 1] 3, .blk b3 [.slice A1 65 c2] 37, .row A1 65 c2 3 1 (iv .i64 tab)]) ⟨by kernel_rfl⟩ (fun w_ hM hS => ⟨w_, ⟨hM.cell 0 rfl rfl, rfl⟩, hM, trivial⟩) ?_
      refine ops_run (is := [(2, false)]) (r := []) (l' := [(10, .int .i64 1), (36, .int .i64 1), (35, .int .i64 2), (34, .slice (some ⟨b4, 0, none⟩) 2 2), (8, .int .i64 (a1 : Int)), (7, .func (.func 89) #[] #[.pointer (some ⟨b3, 0, none⟩)]), (5, .int .i64 1), (0, .int .i64 (0 - u)), (1, .int .i64 v)]) [10, 36, 35, 34, 8, 7, 5, 0, 1] (by kernel_rfl) ?_
      refine ops_nil ?_
      refine fin_then ?_
      refine st_block ?_
      refine st_loop (σ := Nat) a1 (fun a => [(10, .int .i64 1), (36, .int .i64 1), (35, .int .i64 2), (34, .slice (some ⟨b4, 0, none⟩) 2 2), (8, .int .i64 (a : Int)), (7, .func (.func 89) #[] #[.pointer (some ⟨b3, 0, none⟩)]), (5, .int .i64 1), (0, .int .i64 (0 - u)), (1, .int .i64 v)]) (fun a => Mem w [.blk b4 [.int .i64 256, .int .i64 1] 3, .blk b3 [.slice A1 65 c2] 37, .row A1 65 c2 3 1 (iv .i64 tab)]) (fun a => a ≤ 16383 ∧ Not v (0 - u) a) (fun a => 16384 - a) (by exact ⟨hba1, hloa1⟩) (look_has ⟨rfl, rfl, rfl, rfl, rfl, rfl, rfl, rfl, rfl, trivial⟩) (fun w_ hM => by exact hM) ?_
      rintro a hI
      obtain ⟨hba, hloa⟩ := hI
      have hba : a ≤ 16383 := hba
      have hloa : Not v (0 - u) a := hloa
      have ha1 : IntKind.i64.wrap ((a : Int) + 1) = ((a + 1 : Nat) : Int) := by rw [i64in (by omega) (by omega)]; omega
      have ha2 : IntKind.i64.wrap (16384 - (a : Int)) = ((16384 - a : Nat) : Int) := by rw [i64in (by omega) (by omega)]; omega
      refine st_seq ?_
      refine st_seq ?_
      refine st_region [(0, false), (1, false), (2, false), (3, false), (4, false), (5, false), (6, false), (7, false), (8, false), (9, false), (10, false), (11, false), (12, false), (13, false), (14, false), (15, false), (16, false), (17, false), (18, false), (19, false), (20, false), (21, false)] (by rfl) ?_
      refine ops_run (is := [(0, false), (1, false), (2, false)]) (r := [(3, false), (4, false), (5, false), (6, false), (7, false), (8, false), (9, false), (10, false), (11, false), (12, false), (13, false), (14, false), (15, false), (16, false), (17, false), (18, false), (19, false), (20, false), (21, false)]) (l' := [(42, .int .i64 (IntKind.i64.wrap ((a : Int) + 1))), (10, .int .i64 1), (36, .int .i64 1), (35, .int .i64 2), (34, .slice (some ⟨b4, 0, none⟩) 2 2), (8, .int .i64 (a : Int)), (7, .func (.func 89) #[] #[.pointer (some ⟨b3, 0, none⟩)]), (5, .int .i64 1), (0, .int .i64 (0 - u)), (1, .int .i64 v)]) [42, 10, 36, 35, 34, 8, 7, 5, 0, 1] (by kernel_rfl) ?_
      refine ops_conv (l' := [(42, .int .i64 ((a + 1 : Nat) : Int)), (10, .int .i64 1), (36, .int .i64 1), (35, .int .i64 2), (34, .slice (some ⟨b4, 0, none⟩) 2 2), (8, .int .i64 (a : Int)), (7, .func (.func 89) #[] #[.pointer (some ⟨b3, 0, none⟩)]), (5, .int .i64 1), (0, .int .i64 (0 - u)), (1, .int .i64 v)]) (by rw [ha1]) (fun _ h => h) ?_
      refine ops_run (is := [(3, false), (4, false)]) (r := [(5, false), (6, false), (7, false), (8, false), (9, false), (10, false), (11, false), (12, false), (13, false), (14, false), (15, false), (16, false), (17, false), (18, false), (19, false), (20, false), (21, false)]) (l' := [(44, .bool (decide (((a + 1 : Nat) : Int) < 16384))), (10, .int .i64 1), (36, .int .i64 1), (35, .int .i64 2), (34, .slice (some ⟨b4, 0, none⟩) 2 2), (8, .int .i64 (a : Int)), (7, .func (.func 89) #[] #[.pointer (some ⟨b3, 0, none⟩)]), (5, .int .i64 1), (0, .int .i64 (0 - u)), (1, .int .i64 v)]) [44, 10, 36, 35, 34, 8, 7, 5, 0, 1] (by kernel_rfl) ?_
      refine ops_bool (t := decide (((a + 1 : Nat) : Int) < 16384)) (l1 := [(44, .bool true), (10, .int .i64 1), (36, .int .i64 1), (35, .int .i64 2), (34, .slice (some ⟨b4, 0, none⟩) 2 2), (8, .int .i64 (a : Int)), (7, .func (.func 89) #[] #[.pointer (some ⟨b3, 0, none⟩)]), (5, .int .i64 1), (0, .int .i64 (0 - u)), (1, .int .i64 v)]) (l2 := [(44, .bool false), (10, .int .i64 1), (36, .int .i64 1), (35, .int .i64 2), (34, .slice (some ⟨b4, 0, none⟩) 2 2), (8, .int .i64 (a : Int)), (7, .func (.func 89) #[] #[.pointer (some ⟨b3, 0, none⟩)]), (5, .int .i64 1), (0, .int .i64 (0 - u)), (1, .int .i64 v)]) (fun h => by rw [h]) (fun h => by rw [h]) (fun hc7 => ?_) (fun hc7 => ?_)
      · --decide (((a + 1 : Nat) : Int) < 16384)
        have hlt : a + 1 < 16384 := by have := of_decide_eq_true hc7; omega
        have ha3 : IntKind.i64.wrap (((16384 - a : Nat) : Int) - 1) = ((16384 - a - 1 : Nat) : Int) := by rw [i64in (by omega) (by omega)]; omega
        have hq1 := prod_ok (a := (16384 - a - 1)) (y := (0 - u)) (by omega) hY hY1
        have hq2 := prod_ok (a := (a + 1)) (y := v) (by omega) (by omega) hX1
        have hp1 : IntKind.i64.wrap (firstV (16384 - a - 1) * (0 - u)) = firstV (16384 - a - 1) * (0 - u) := i64in (by omega) (by omega)
        have hp2 : IntKind.i64.wrap (firstV (a + 1) * v) = firstV (a + 1) * v := i64in (by omega) (by omega)
        refine ops_run (is := [(5, false), (6, false), (7, false)]) (r := [(8, false), (9, false), (10, false), (11, false), (12, false), (13, false), (14, false), (15, false), (16, false), (17, false), (18, false), (19, false), (20, false), (21, false)]) (l' := [(47, .int .i64 (IntKind.i64.wrap (16384 - (a : Int)))), (45, .func (.func 89) #[] #[.pointer (some ⟨b3, 0, none⟩)]), (44, .bool true), (10, .int .i64 1), (36, .int .i64 1), (35, .int .i64 2), (34, .slice (some ⟨b4, 0, none⟩) 2 2), (8, .int .i64 (a : Int)), (7, .func (.func 89) #[] #[.pointer (some ⟨b3, 0, none⟩)]), (5, .int .i64 1), (0, .int .i64 (0 - u)), (1, .int .i64 v)]) [47, 45, 44, 10, 36, 35, 34, 8, 7, 5, 0, 1] (by kernel_rfl) ?_
        refine ops_conv (l' := [(47, .int .i64 ((16384 - a : Nat) : Int)), (45, .func (.func 89) #[] #[.pointer (some ⟨b3, 0, none⟩)]), (44, .bool true), (10, .int .i64 1), (36, .int .i64 1), (35, .int .i64 2), (34, .slice (some ⟨b4, 0, none⟩) 2 2), (8, .int .i64 (a : Int)), (7, .func (.func 89) #[] #[.pointer (some ⟨b3, 0, none⟩)]), (5, .int .i64 1), (0, .int .i64 (0 - u)), (1, .int .i64 v)]) (by rw [ha2]) (fun _ h => h) ?_
        refine ops_run (is := [(8, false), (9, false)]) (r := [(10, false), (11, false), (12, false), (13, false), (14, false), (15, false), (16, false), (17, false), (18, false), (19, false), (20, false), (21, false)]) (l' := [(49, .int .i64 (IntKind.i64.wrap (((16384 - a : Nat) : Int) - 1))), (45, .func (.func 89) #[] #[.pointer (some ⟨b3, 0, none⟩)]), (44, .bool true), (10, .int .i64 1), (36, .int .i64 1), (35, .int .i64 2), (34, .slice (some ⟨b4, 0, none⟩) 2 2), (8, .int .i64 (a : Int)), (7, .func (.func 89) #[] #[.pointer (some ⟨b3, 0, none⟩)]), (5, .int .i64 1), (0, .int .i64 (0 - u)), (1, .int .i64 v)]) [49, 45, 44, 10, 36, 35, 34, 8, 7, 5, 0, 1] (by kernel_rfl) ?_
        refine ops_conv (l' := [(49, .int .i64 ((16384 - a - 1 : Nat) : Int)), (45, .func (.func 89) #[] #[.pointer (some ⟨b3, 0, none⟩)]), (44, .bool true), (10, .int .i64 1), (36, .int .i64 1), (35, .int .i64 2), (34, .slice (some ⟨b4, 0, none⟩) 2 2), (8, .int .i64 (a : Int)), (7, .func (.func 89) #[] #[.pointer (some ⟨b3, 0, none⟩)]), (5, .int .i64 1), (0, .int .i64 (0 - u)), (1, .int .i64 v)]) (by rw [ha3]) (fun _ h => h) ?_
        refine ops_call (σ := Unit) (d := some 50) (f := 89) (args := #[.int .i64 ((16384 - a - 1 : Nat) : Int), .pointer (some ⟨b3, 0, none⟩)]) (v := fun _ => .int .i64 (firstV (16384 - a - 1))) (M' := fun _ => Mem w [.blk b4 [.int .i64 256, .int .i64 1] 3, .blk b3 [.slice A1 65 c2] 37, .row A1 65 c2 3 1 (iv .i64 tab)]) ⟨by kernel_rfl⟩ (fun w_ hM hS => (Angle1_calls (16384 - a - 1) _ A1 c2 w_ (by omega) (hM.cell 1 rfl rfl) (hM.rints 2 rfl)).mono (by rintro e w' ⟨rfl, hb⟩; exact ⟨(), rfl, hM.step hb, trivial⟩)) (fun _ => ?_)
        refine ops_run (is := [(11, false), (12, false)]) (r := [(13, false), (14, false), (15, false), (16, false), (17, false), (18, false), (19, false), (20, false), (21, false)]) (l' := [(52, .int .i64 (IntKind.i64.wrap (firstV (16384 - a - 1) * (0 - u)))), (44, .bool true), (10, .int .i64 1), (36, .int .i64 1), (35, .int .i64 2), (34, .slice (some ⟨b4, 0, none⟩) 2 2), (8, .int .i64 (a : Int)), (7, .func (.func 89) #[] #[.pointer (some ⟨b3, 0, none⟩)]), (5, .int .i64 1), (0, .int .i64 (0 - u)), (1, .int .i64 v)]) [52, 44, 10, 36, 35, 34, 8, 7, 5, 0, 1] (by kernel_rfl) ?_
        refine ops_conv (l' := [(52, .int .i64 (firstV (16384 - a - 1) * (0 - u))), (44, .bool true), (10, .int .i64 1), (36, .int .i64 1), (35, .int .i64 2), (34, .slice (some ⟨b4, 0, none⟩) 2 2), (8, .int .i64 (a : Int)), (7, .func (.func 89) #[] #[.pointer (some ⟨b3, 0, none⟩)]), (5, .int .i64 1), (0, .int .i64 (0 - u)), (1, .int .i64 v)]) (by rw [hp1]) (fun _ h => h) ?_
        refine ops_run (is := [(13, false), (14, false), (15, false), (16, false)]) (r := [(17, false), (18, false), (19, false), (20, false), (21, false)]) (l' := [(56, .int .i64 (IntKind.i64.wrap ((a : Int) + 1))), (53, .func (.func 89) #[] #[.pointer (some ⟨b3, 0, none⟩)]), (52, .int .i64 (firstV (16384 - a - 1) * (0 - u))), (44, .bool true), (10, .int .i64 1), (36, .int .i64 1), (35, .int .i64 2), (34, .slice (some ⟨b4, 0, none⟩) 2 2), (8, .int .i64 (a : Int)), (7, .func (.func 89) #[] #[.pointer (some ⟨b3, 0, none⟩)]), (5, .int .i64 1), (0, .int .i64 (0 - u)), (1, .int .i64 v)]) [56, 53, 52, 44, 10, 36, 35, 34, 8, 7, 5, 0, 1] (by kernel_rfl) ?_
        refine ops_conv (l' := [(56, .int .i64 ((a + 1 : Nat) : Int)), (53, .func (.func 89) #[] #[.pointer (some ⟨b3, 0, none⟩)]), (52, .int .i64 (firstV (16384 - a - 1) * (0 - u))), (44, .bool true), (10, .int .i64 1), (36, .int .i64 1), (35, .int .i64 2), (34, .slice (some ⟨b4, 0, none⟩) 2 2), (8, .int .i64 (a : Int)), (7, .func (.func 89) #[] #[.pointer (some ⟨b3, 0, none⟩)]), (5, .int .i64 1), (0, .int .i64 (0 - u)), (1, .int .i64 v)]) (by rw [ha1]) (fun _ h => h) ?_
        refine ops_call (σ := Unit) (d := some 57) (f := 89) (args := #[.int .i64 ((a + 1 : Nat) : Int), .pointer (some ⟨b3, 0, none⟩)]) (v := fun _ => .int .i64 (firstV (a + 1))) (M' := fun _ => Mem w [.blk b4 [.int .i64 256, .int .i64 1] 3, .blk b3 [.slice A1 65 c2] 37, .row A1 65 c2 3 1 (iv .i64 tab)]) ⟨by kernel_rfl⟩ (fun w_ hM hS => (Angle1_calls (a + 1) _ A1 c2 w_ (by omega) (hM.cell 1 rfl rfl) (hM.rints 2 rfl)).mono (by rintro e w' ⟨rfl, hb⟩; exact ⟨(), rfl, hM.step hb, trivial⟩)) (fun _ => ?_)
        refine ops_run (is := [(18, false), (19, false)]) (r := [(20, false), (21, false)]) (l' := [(59, .int .i64 (IntKind.i64.wrap (firstV (a + 1) * v))), (52, .int .i64 (firstV (16384 - a - 1) * (0 - u))), (44, .bool true), (10, .int .i64 1), (36, .int .i64 1), (35, .int .i64 2), (34, .slice (some ⟨b4, 0, none⟩) 2 2), (8, .int .i64 (a : Int)), (7, .func (.func 89) #[] #[.pointer (some ⟨b3, 0, none⟩)]), (5, .int .i64 1), (0, .int .i64 (0 - u)), (1, .int .i64 v)]) [59, 52, 44, 10, 36, 35, 34, 8, 7, 5, 0, 1] (by kernel_rfl) ?_
        refine ops_conv (l' := [(59, .int .i64 (firstV (a + 1) * v)), (52, .int .i64 (firstV (16384 - a - 1) * (0 - u))), (44, .bool true), (10, .int .i64 1), (36, .int .i64 1), (35, .int .i64 2), (34, .slice (some ⟨b4, 0, none⟩) 2 2), (8, .int .i64 (a : Int)), (7, .func (.func 89) #[] #[.pointer (some ⟨b3, 0, none⟩)]), (5, .int .i64 1), (0, .int .i64 (0 - u)), (1, .int .i64 v)]) (by rw [hp2]) (fun _ h => h) ?_
        refine ops_run (is := [(20, false), (21, false)]) (r := []) (l' := [(61, .bool (decide ((firstV (a + 1) * v) ≤ (firstV (16384 - a - 1) * (0 - u))))), (10, .int .i64 1), (36, .int .i64 1), (35, .int .i64 2), (34, .slice (some ⟨b4, 0, none⟩) 2 2), (8, .int .i64 (a : Int)), (7, .func (.func 89) #[] #[.pointer (some ⟨b3, 0, none⟩)]), (5, .int .i64 1), (0, .int .i64 (0 - u)), (1, .int .i64 v)]) [61, 10, 36, 35, 34, 8, 7, 5, 0, 1] (by kernel_rfl) ?_
        refine ops_nil ?_
        refine fin_then ?_
        refine st_if (b := decide ((firstV (a + 1) * v) ≤ (firstV (16384 - a - 1) * (0 - u)))) rfl (fun hc8 => ?_) (fun hc8 => ?_)
        · --
          refine st_skip ?_
          refine fin_then ?_
          refine st_block ?_
          refine st_region [(0, false), (1, false), (2, false), (3, false)] (by rfl) ?_
          refine ops_run (is := [(0, false), (1, false), (2, false)]) (r := [(3, false)]) (l' := [(64, .int .i64 (IntKind.i64.wrap ((a : Int) + 1))), (10, .int .i64 1), (36, .int .i64 1), (35, .int .i64 2), (34, .slice (some ⟨b4, 0, none⟩) 2 2), (8, .int .i64 (a : Int)), (7, .func (.func 89) #[] #[.pointer (some ⟨b3, 0, none⟩)]), (5, .int .i64 1), (0, .int .i64 (0 - u)), (1, .int .i64 v)]) [64, 10, 36, 35, 34, 8, 7, 5, 0, 1] (by kernel_rfl) ?_
          refine ops_conv (l' := [(64, .int .i64 ((a + 1 : Nat) : Int)), (10, .int .i64 1), (36, .int .i64 1), (35, .int .i64 2), (34, .slice (some ⟨b4, 0, none⟩) 2 2), (8, .int .i64 (a : Int)), (7, .func (.func 89) #[] #[.pointer (some ⟨b3, 0, none⟩)]), (5, .int .i64 1), (0, .int .i64 (0 - u)), (1, .int .i64 v)]) (by rw [ha1]) (fun _ h => h) ?_
          refine ops_run (is := [(3, false)]) (r := []) (l' := [(8, .int .i64 ((a + 1 : Nat) : Int)), (10, .int .i64 1), (36, .int .i64 1), (35, .int .i64 2), (34, .slice (some ⟨b4, 0, none⟩) 2 2), (7, .func (.func 89) #[] #[.pointer (some ⟨b3, 0, none⟩)]), (5, .int .i64 1), (0, .int .i64 (0 - u)), (1, .int .i64 v)]) [8, 10, 36, 35, 34, 7, 5, 0, 1] (by kernel_rfl) ?_
          refine ops_nil ?_
          refine fin_block ?_
          refine fin_round (a + 1) (by exact ⟨show a + 1 ≤ 16383 by omega, by have z := of_decide_eq_true hc8; rwa [show 16384 - a - 1 = 16384 - (a + 1) by omega] at z⟩) (by (show 16384 - (a + 1) < 16384 - a; omega)) (look_has ⟨rfl, rfl, rfl, rfl, rfl, rfl, rfl, rfl, rfl, trivial⟩) (fun w_ hM => by exact hM)
        · --
          refine st_exit ?_
          refine fin_exit_then ?_
          refine fin_exit_then ?_
          refine fin_exit ?_
          refine fin_block ?_
          refine fin_then ?_
          refine st_region [(0, false), (1, false)] (by rfl) ?_
          refine ops_run (is := [(0, false), (1, false)]) (r := []) (l' := [(36, .int .i64 2), (35, .int .i64 2), (34, .slice (some ⟨b4, 0, none⟩) 2 2), (8, .int .i64 (a : Int)), (7, .func (.func 89) #[] #[.pointer (some ⟨b3, 0, none⟩)]), (5, .int .i64 1), (0, .int .i64 (0 - u)), (1, .int .i64 v)]) [36, 35, 34, 8, 7, 5, 0, 1] (by kernel_rfl) ?_
          refine ops_nil ?_
          refine fin_rounds ?_
          refine str_succ ?_
          refine st_seq ?_
          refine st_region [(0, false)] (by rfl) ?_
          refine ops_run (is := [(0, false)]) (r := []) (l' := [(37, .bool false), (36, .int .i64 2), (35, .int .i64 2), (34, .slice (some ⟨b4, 0, none⟩) 2 2), (8, .int .i64 (a : Int)), (7, .func (.func 89) #[] #[.pointer (some ⟨b3, 0, none⟩)]), (5, .int .i64 1), (0, .int .i64 (0 - u)), (1, .int .i64 v)]) [37, 36, 35, 34, 8, 7, 5, 0, 1] (by kernel_rfl) ?_
          refine ops_nil ?_
          refine fin_then ?_
          refine st_seq ?_
          refine st_false rfl ?_
          refine st_exit ?_
          refine fin_exit_then ?_
          refine fin_exit_then ?_
          refine fin_exit ?_
          refine fin_then ?_
          refine st_seq ?_
          refine st_region [(0, false), (1, false), (2, false), (3, false), (4, false)] (by rfl) ?_
          refine ops_run (is := [(0, false), (1, false), (2, false), (3, false)]) (r := [(4, false)]) (l' := [(69, .int .i64 (IntKind.i64.wrap (16384 + (a : Int))))]) [69] (by kernel_rfl) ?_
          refine ops_conv (l' := [(69, .int .i64 (16384 + (a : Int)))]) (by rw [(i64in (x := 16384 + (a : Int)) (by omega) (by omega))]) (fun _ h => h) ?_
          refine ops_run (is := [(4, false)]) (r := []) (l' := [(4, .int .i64 (16384 + (a : Int)))]) [4] (by kernel_rfl) ?_
          refine ops_nil ?_
          refine fin_then ?_
          refine st_ret ?_
          refine fin_ret [.tmp 4] [.int .i64 (16384 + (a : Int))] rfl rfl (fun w_ hM => (.tmp rfl .nil)) (fun w_ hM => ?_)
          refine ⟨?_, hM.done⟩
          have z := ang_eq hX hY hloa hba (by right; intro hc; have z := of_decide_eq_false hc8; rw [show 16384 - a - 1 = 16384 - (a + 1) by omega] at z; exact z hc)
          rw [← z]
          first | rfl | (simp only [theOne]; congr 2; omega)
      · --decide (((a + 1 : Nat) : Int) < 16384)
        refine ops_run (is := [(5, false), (6, false), (7, false), (8, false), (9, false), (10, false), (11, false), (12, false), (13, false), (14, false), (15, false), (16, false), (17, false), (18, false), (19, false), (20, false), (21, false)]) (r := []) (l' := [(61, .bool false), (10, .int .i64 1), (36, .int .i64 1), (35, .int .i64 2), (34, .slice (some ⟨b4, 0, none⟩) 2 2), (8, .int .i64 (a : Int)), (7, .func (.func 89) #[] #[.pointer (some ⟨b3, 0, none⟩)]), (5, .int .i64 1), (0, .int .i64 (0 - u)), (1, .int .i64 v)]) [61, 10, 36, 35, 34, 8, 7, 5, 0, 1] (by kernel_rfl) ?_
        refine ops_nil ?_
        refine fin_then ?_
        refine st_false rfl ?_
        refine st_exit ?_
        refine fin_exit_then ?_
        refine fin_exit_then ?_
        refine fin_exit ?_
        refine fin_block ?_
        refine fin_then ?_
        refine st_region [(0, false), (1, false)] (by rfl) ?_
        refine ops_run (is := [(0, false), (1, false)]) (r := []) (l' := [(36, .int .i64 2), (35, .int .i64 2), (34, .slice (some ⟨b4, 0, none⟩) 2 2), (8, .int .i64 (a : Int)), (7, .func (.func 89) #[] #[.pointer (some ⟨b3, 0, none⟩)]), (5, .int .i64 1), (0, .int .i64 (0 - u)), (1, .int .i64 v)]) [36, 35, 34, 8, 7, 5, 0, 1] (by kernel_rfl) ?_
        refine ops_nil ?_
        refine fin_rounds ?_
        refine str_succ ?_
        refine st_seq ?_
        refine st_region [(0, false)] (by rfl) ?_
        refine ops_run (is := [(0, false)]) (r := []) (l' := [(37, .bool false), (36, .int .i64 2), (35, .int .i64 2), (34, .slice (some ⟨b4, 0, none⟩) 2 2), (8, .int .i64 (a : Int)), (7, .func (.func 89) #[] #[.pointer (some ⟨b3, 0, none⟩)]), (5, .int .i64 1), (0, .int .i64 (0 - u)), (1, .int .i64 v)]) [37, 36, 35, 34, 8, 7, 5, 0, 1] (by kernel_rfl) ?_
        refine ops_nil ?_
        refine fin_then ?_
        refine st_seq ?_
        refine st_false rfl ?_
        refine st_exit ?_
        refine fin_exit_then ?_
        refine fin_exit_then ?_
        refine fin_exit ?_
        refine fin_then ?_
        refine st_seq ?_
        refine st_region [(0, false), (1, false), (2, false), (3, false), (4, false)] (by rfl) ?_
        refine ops_run (is := [(0, false), (1, false), (2, false), (3, false)]) (r := [(4, false)]) (l' := [(69, .int .i64 (IntKind.i64.wrap (16384 + (a : Int))))]) [69] (by kernel_rfl) ?_
        refine ops_conv (l' := [(69, .int .i64 (16384 + (a : Int)))]) (by rw [(i64in (x := 16384 + (a : Int)) (by omega) (by omega))]) (fun _ h => h) ?_
        refine ops_run (is := [(4, false)]) (r := []) (l' := [(4, .int .i64 (16384 + (a : Int)))]) [4] (by kernel_rfl) ?_
        refine ops_nil ?_
        refine fin_then ?_
        refine st_ret ?_
        refine fin_ret [.tmp 4] [.int .i64 (16384 + (a : Int))] rfl rfl (fun w_ hM => (.tmp rfl .nil)) (fun w_ hM => ?_)
        refine ⟨?_, hM.done⟩
        have z := ang_eq hX hY hloa hba (by left; have := of_decide_eq_false hc7; omega)
        rw [← z]
        first | rfl | (simp only [theOne]; congr 2; omega)
  · --decide (((a1 + 256 : Nat) : Int) < 16384)
    refine ops_run (is := [(5, false), (6, false), (7, false), (8, false), (9, false), (10, false), (11, false), (12, false), (13, false), (14, false), (15, false), (16, false), (17, false), (18, false), (19, false), (20, false), (21, false)]) (r := []) (l' := [(61, .bool false), (10, .int .i64 256), (36, .int .i64 0), (35, .int .i64 2), (34, .slice (some ⟨b4, 0, none⟩) 2 2), (8, .int .i64 (a1 : Int)), (7, .func (.func 89) #[] #[.pointer (some ⟨b3, 0, none⟩)]), (5, .int .i64 1), (0, .int .i64 (0 - u)), (1, .int .i64 v)]) [61, 10, 36, 35, 34, 8, 7, 5, 0, 1] (by kernel_rfl) ?_
    refine ops_nil ?_
    refine fin_then ?_
    refine st_false rfl ?_
    refine st_exit ?_
    refine fin_exit_then ?_
    refine fin_exit_then ?_
    refine fin_exit ?_
    refine fin_block ?_
    refine fin_then ?_
    refine st_region [(0, false), (1, false)] (by rfl) ?_
    refine ops_run (is := [(0, false), (1, false)]) (r := []) (l' := [(36, .int .i64 1), (35, .int .i64 2), (34, .slice (some ⟨b4, 0, none⟩) 2 2), (8, .int .i64 (a1 : Int)), (7, .func (.func 89) #[] #[.pointer (some ⟨b3, 0, none⟩)]), (5, .int .i64 1), (0, .int .i64 (0 - u)), (1, .int .i64 v)]) [36, 35, 34, 8, 7, 5, 0, 1] (by kernel_rfl) ?_
    refine ops_nil ?_
    refine fin_rounds ?_
    refine str_succ ?_
    refine st_seq ?_
    refine st_region [(0, false)] (by rfl) ?_
    refine ops_run (is := [(0, false)]) (r := []) (l' := [(37, .bool true), (36, .int .i64 1), (35, .int .i64 2), (34, .slice (some ⟨b4, 0, none⟩) 2 2), (8, .int .i64 (a1 : Int)), (7, .func (.func 89) #[] #[.pointer (some ⟨b3, 0, none⟩)]), (5, .int .i64 1), (0, .int .i64 (0 - u)), (1, .int .i64 v)]) [37, 36, 35, 34, 8, 7, 5, 0, 1] (by kernel_rfl) ?_
    refine ops_nil ?_
    refine fin_then ?_
    refine st_seq ?_
    refine st_true rfl ?_
    refine st_skip ?_
    refine fin_then ?_
    refine st_seq ?_
    refine st_block ?_
    refine st_seq ?_
    refine st_region [(0, false), (1, false), (2, false)] (by rfl) ?_
    refine ops_run (is := [(0, false)]) (r := [(1, false), (2, false)]) (l' := [(38, .pointer (some ⟨b4, 1, none⟩)), (36, .int .i64 1), (35, .int .i64 2), (34, .slice (some ⟨b4, 0, none⟩) 2 2), (8, .int .i64 (a1 : Int)), (7, .func (.func 89) #[] #[.pointer (some ⟨b3, 0, none⟩)]), (5, .int .i64 1), (0, .int .i64 (0 - u)), (1, .int .i64 v)]) [38, 36, 35, 34, 8, 7, 5, 0, 1] (by kernel_rfl) ?_
    refine ops_mem (d := some 39) (an := [.v (.int .i64 1)]) (evs := [.load ⟨b4, 1, none⟩ (.int .i64 1)]) (v := .int .i64 1) (M' := Mem w [.blk b4 [.int .i64 256, .int .i64 1] 3, .blk b3 [.slice A1 65 c2] 37, .row A1 65 c2 3 1 (iv .i64 tab)]) ⟨by kernel_rfl⟩ (fun w_ hM hS => ⟨w_, ⟨hM.cell 0 rfl rfl, rfl⟩, hM, trivial⟩) ?_
    refine ops_run (is := [(2, false)]) (r := []) (l' := [(10, .int .i64 1), (36, .int .i64 1), (35, .int .i64 2), (34, .slice (some ⟨b4, 0, none⟩) 2 2), (8, .int .i64 (a1 : Int)), (7, .func (.func 89) #[] #[.pointer (some ⟨b3, 0, none⟩)]), (5, .int .i64 1), (0, .int .i64 (0 - u)), (1, .int .i64 v)]) [10, 36, 35, 34, 8, 7, 5, 0, 1] (by kernel_rfl) ?_
    refine ops_nil ?_
    refine fin_then ?_
    refine st_block ?_
    refine st_loop (σ := Nat) a1 (fun a => [(10, .int .i64 1), (36, .int .i64 1), (35, .int .i64 2), (34, .slice (some ⟨b4, 0, none⟩) 2 2), (8, .int .i64 (a : Int)), (7, .func (.func 89) #[] #[.pointer (some ⟨b3, 0, none⟩)]), (5, .int .i64 1), (0, .int .i64 (0 - u)), (1, .int .i64 v)]) (fun a => Mem w [.blk b4 [.int .i64 256, .int .i64 1] 3, .blk b3 [.slice A1 65 c2] 37, .row A1 65 c2 3 1 (iv .i64 tab)]) (fun a => a ≤ 16383 ∧ Not v (0 - u) a) (fun a => 16384 - a) (by exact ⟨hba1, hloa1⟩) (look_has ⟨rfl, rfl, rfl, rfl, rfl, rfl, rfl, rfl, rfl, trivial⟩) (fun w_ hM => by exact hM) ?_
    rintro a hI
    obtain ⟨hba, hloa⟩ := hI
    have hba : a ≤ 16383 := hba
    have hloa : Not v (0 - u) a := hloa
    have ha1 : IntKind.i64.wrap ((a : Int) + 1) = ((a + 1 : Nat) : Int) := by rw [i64in (by omega) (by omega)]; omega
    have ha2 : IntKind.i64.wrap (16384 - (a : Int)) = ((16384 - a : Nat) : Int) := by rw [i64in (by omega) (by omega)]; omega
    refine st_seq ?_
    refine st_seq ?_
    refine st_region [(0, false), (1, false), (2, false), (3, false), (4, false), (5, false), (6, false), (7, false), (8, false), (9, false), (10, false), (11, false), (12, false), (13, false), (14, false), (15, false), (16, false), (17, false), (18, false), (19, false), (20, false), (21, false)] (by rfl) ?_
    refine ops_run (is := [(0, false), (1, false), (2, false)]) (r := [(3, false), (4, false), (5, false), (6, false), (7, false), (8, false), (9, false), (10, false), (11, false), (12, false), (13, false), (14, false), (15, false), (16, false), (17, false), (18, false), (19, false), (20, false), (21, false)]) (l' := [(42, .int .i64 (IntKind.i64.wrap ((a : Int) + 1))), (10, .int .i64 1), (36, .int .i64 1), (35, .int .i64 2), (34, .slice (some ⟨b4, 0, none⟩) 2 2), (8, .int .i64 (a : Int)), (7, .func (.func 89) #[] #[.pointer (some ⟨b3, 0, none⟩)]), (5, .int .i64 1), (0, .int .i64 (0 - u)), (1, .int .i64 v)]) [42, 10, 36, 35, 34, 8, 7, 5, 0, 1] (by kernel_rfl) ?_
    refine ops_conv (l' := [(42, .int .i64 ((a + 1 : Nat) : Int)), (10, .int .i64 1), (36, .int .i64 1), (35, .int .i64 2), (34, .slice (some ⟨b4, 0, none⟩) 2 2), (8, .int .i64 (a : Int)), (7, .func (.func 89) #[] #[.pointer (some ⟨b3, 0, none⟩)]), (5, .int .i64 1), (0, .int .i64 (0 - u)), (1, .int .i64 v)]) (by rw [ha1]) (fun _ h => h) ?_
    refine ops_run (is := [(3, false), (4, false)]) (r := [(5, false), (6, false), (7, false), (8, false), (9, false), (10, false), (11, false), (12, false), (13, false), (14, false), (15, false), (16, false), (17, false), (18, false), (19, false), (20, false), (21, false)]) (l' := [(44, .bool (decide (((a + 1 : Nat) : Int) < 16384))), (10, .int .i64 1), (36, .int .i64 1), (35, .int .i64 2), (34, .slice (some ⟨b4, 0, none⟩) 2 2), (8, .int .i64 (a : Int)), (7, .func (.func 89) #[] #[.pointer (some ⟨b3, 0, none⟩)]), (5, .int .i64 1), (0, .int .i64 (0 - u)), (1, .int .i64 v)]) [44, 10, 36, 35, 34, 8, 7, 5, 0, 1] (by kernel_rfl) ?_
    refine ops_bool (t := decide (((a + 1 : Nat) : Int) < 16384)) (l1 := [(44, .bool true), (10, .int .i64 1), (36, .int .i64 1), (35, .int .i64 2), (34, .slice (some ⟨b4, 0, none⟩) 2 2), (8, .int .i64 (a : Int)), (7, .func (.func 89) #[] #[.pointer (some ⟨b3, 0, none⟩)]), (5, .int .i64 1), (0, .int .i64 (0 - u)), (1, .int .i64 v)]) (l2 := [(44, .bool false), (10, .int .i64 1), (36, .int .i64 1), (35, .int .i64 2), (34, .slice (some ⟨b4, 0, none⟩) 2 2), (8, .int .i64 (a : Int)), (7, .func (.func 89) #[] #[.pointer (some ⟨b3, 0, none⟩)]), (5, .int .i64 1), (0, .int .i64 (0 - u)), (1, .int .i64 v)]) (fun h => by rw [h]) (fun h => by rw [h]) (fun hc9 => ?_) (fun hc9 => ?_)
    · --decide (((a + 1 : Nat) : Int) < 16384)
      have hlt : a + 1 < 16384 := by have := of_decide_eq_true hc9; omega
      have ha3 : IntKind.i64.wrap (((16384 - a : Nat) : Int) - 1) = ((16384 - a - 1 : Nat) : Int) := by rw [i64in (by omega) (by omega)]; omega
      have hq1 := prod_ok (a := (16384 - a - 1)) (y := (0 - u)) (by omega) hY hY1
      have hq2 := prod_ok (a := (a + 1)) (y := v) (by omega) (by omega) hX1
      have hp1 : IntKind.i64.wrap (firstV (16384 - a - 1) * (0 - u)) = firstV (16384 - a - 1) * (0 - u) := i64in (by omega) (by omega)
      have hp2 : IntKind.i64.wrap (firstV (a + 1) * v) = firstV (a + 1) * v := i64in (by omega) (by omega)
      refine ops_run (is := [(5, false), (6, false), (7, false)]) (r := [(8, false), (9, false), (10, false), (11, false), (12, false), (13, false), (14, false), (15, false), (16, false), (17, false), (18, false), (19, false), (20, false), (21, false)]) (l' := [(47, .int .i64 (IntKind.i64.wrap (16384 - (a : Int)))), (45, .func (.func 89) #[] #[.pointer (some ⟨b3, 0, none⟩)]), (44, .bool true), (10, .int .i64 1), (36, .int .i64 1), (35, .int .i64 2), (34, .slice (some ⟨b4, 0, none⟩) 2 2), (8, .int .i64 (a : Int)), (7, .func (.func 89) #[] #[.pointer (some ⟨b3, 0, none⟩)]), (5, .int .i64 1), (0, .int .i64 (0 - u)), (1, .int .i64 v)]) [47, 45, 44, 10, 36, 35, 34, 8, 7, 5, 0, 1] (by kernel_rfl) ?_
      refine ops_conv (l' := [(47, .int .i64 ((16384 - a : Nat) : Int)), (45, .func (.func 89) #[] #[.pointer (some ⟨b3, 0, none⟩)]), (44, .bool true), (10, .int .i64 1), (36, .int .i64 1), (35, .int .i64 2), (34, .slice (some ⟨b4, 0, none⟩) 2 2), (8, .int .i64 (a : Int)), (7, .func (.func 89) #[] #[.pointer (some ⟨b3, 0, none⟩)]), (5, .int .i64 1), (0, .int .i64 (0 - u)), (1, .int .i64 v)]) (by rw [ha2]) (fun _ h => h) ?_
      refine ops_run (is := [(8, false), (9, false)]) (r := [(10, false), (11, false), (12, false), (13, false), (14, false), (15, false), (16, false), (17, false), (18, false), (19, false), (20, false), (21, false)]) (l' := [(49, .int .i64 (IntKind.i64.wrap (((16384 - a : Nat) : Int) - 1))), (45, .func (.func 89) #[] #[.pointer (some ⟨b3, 0, none⟩)]), (44, .bool true), (10, .int .i64 1), (36, .int .i64 1), (35, .int .i64 2), (34, .slice (some ⟨b4, 0, none⟩) 2 2), (8, .int .i64 (a : Int)), (7, .func (.func 89) #[] #[.pointer (some ⟨b3, 0, none⟩)]), (5, .int .i64 1), (0, .int .i64 (0 - u)), (1, .int .i64 v)]) [49, 45, 44, 10, 36, 35, 34, 8, 7, 5, 0, 1] (by kernel_rfl) ?_
      refine ops_conv (l' := [(49, .int .i64 ((16384 - a - 1 : Nat) : Int)), (45, .func (.func 89) #[] #[.pointer (some ⟨b3, 0, none⟩)]), (44, .bool true), (10, .int .i64 1), (36, .int .i64 1), (35, .int .i64 2), (34, .slice (some ⟨b4, 0, none⟩) 2 2), (8, .int .i64 (a : Int)), (7, .func (.func 89) #[] #[.pointer (some ⟨b3, 0, none⟩)]), (5, .int .i64 1), (0, .int .i64 (0 - u)), (1, .int .i64 v)]) (by rw [ha3]) (fun _ h => h) ?_
      refine ops_call (σ := Unit) (d := some 50) (f := 89) (args := #[.int .i64 ((16384 - a - 1 : Nat) : Int), .pointer (some ⟨b3, 0, none⟩)]) (v := fun _ => .int .i64 (firstV (16384 - a - 1))) (M' := fun _ => Mem w [.blk b4 [.int .i64 256, .int .i64 1] 3, .blk b3 [.slice A1 65 c2] 37, .row A1 65 c2 3 1 (iv .i64 tab)]) ⟨by kernel_rfl⟩ (fun w_ hM hS => (Angle1_calls (16384 - a - 1) _ A1 c2 w_ (by omega) (hM.cell 1 rfl rfl) (hM.rints 2 rfl)).mono (by rintro e w' ⟨rfl, hb⟩; exact ⟨(), rfl, hM.step hb, trivial⟩)) (fun _ => ?_)
      refine ops_run (is := [(11, false), (12, false)]) (r := [(13, false), (14, false), (15, false), (16, false), (17, false), (18, false), (19, false), (20, false), (21, false)]) (l' := [(52, .int .i64 (IntKind.i64.wrap (firstV (16384 - a - 1) * (0 - u)))), (44, .bool true), (10, .int .i64 1), (36, .int .i64 1), (35, .int .i64 2), (34, .slice (some ⟨b4, 0, none⟩) 2 2), (8, .int .i64 (a : Int)), (7, .func (.func 89) #[] #[.pointer (some ⟨b3, 0, none⟩)]), (5, .int .i64 1), (0, .int .i64 (0 - u)), (1, .int .i64 v)]) [52, 44, 10, 36, 35, 34, 8, 7, 5, 0, 1] (by kernel_rfl) ?_
      refine ops_conv (l' := [(52, .int .i64 (firstV (16384 - a - 1) * (0 - u))), (44, .bool true), (10, .int .i64 1), (36, .int .i64 1), (35, .int .i64 2), (34, .slice (some ⟨b4, 0, none⟩) 2 2), (8, .int .i64 (a : Int)), (7, .func (.func 89) #[] #[.pointer (some ⟨b3, 0, none⟩)]), (5, .int .i64 1), (0, .int .i64 (0 - u)), (1, .int .i64 v)]) (by rw [hp1]) (fun _ h => h) ?_
      refine ops_run (is := [(13, false), (14, false), (15, false), (16, false)]) (r := [(17, false), (18, false), (19, false), (20, false), (21, false)]) (l' := [(56, .int .i64 (IntKind.i64.wrap ((a : Int) + 1))), (53, .func (.func 89) #[] #[.pointer (some ⟨b3, 0, none⟩)]), (52, .int .i64 (firstV (16384 - a - 1) * (0 - u))), (44, .bool true), (10, .int .i64 1), (36, .int .i64 1), (35, .int .i64 2), (34, .slice (some ⟨b4, 0, none⟩) 2 2), (8, .int .i64 (a : Int)), (7, .func (.func 89) #[] #[.pointer (some ⟨b3, 0, none⟩)]), (5, .int .i64 1), (0, .int .i64 (0 - u)), (1, .int .i64 v)]) [56, 53, 52, 44, 10, 36, 35, 34, 8, 7, 5, 0, 1] (by kernel_rfl) ?_
      refine ops_conv (l' := [(56, .int .i64 ((a + 1 : Nat) : Int)), (53, .func (.func 89) #[] #[.pointer (some ⟨b3, 0, none⟩)]), (52, .int .i64 (firstV (16384 - a - 1) * (0 - u))), (44, .bool true), (10, .int .i64 1), (36, .int .i64 1), (35, .int .i64 2), (34, .slice (some ⟨b4, 0, none⟩) 2 2), (8, .int .i64 (a : Int)), (7, .func (.func 89) #[] #[.pointer (some ⟨b3, 0, none⟩)]), (5, .int .i64 1), (0, .int .i64 (0 - u)), (1, .int .i64 v)]) (by rw [ha1]) (fun _ h => h) ?_
      refine ops_call (σ := Unit) (d := some 57) (f := 89) (args := #[.int .i64 ((a + 1 : Nat) : Int), .pointer (some ⟨b3, 0, none⟩)]) (v := fun _ => .int .i64 (firstV (a + 1))) (M' := fun _ => Mem w [.blk b4 [.int .i64 256, .int .i64 1] 3, .blk b3 [.slice A1 65 c2] 37, .row A1 65 c2 3 1 (iv .i64 tab)]) ⟨by kernel_rfl⟩ (fun w_ hM hS => (Angle1_calls (a + 1) _ A1 c2 w_ (by omega) (hM.cell 1 rfl rfl) (hM.rints 2 rfl)).mono (by rintro e w' ⟨rfl, hb⟩; exact ⟨(), rfl, hM.step hb, trivial⟩)) (fun _ => ?_)
      refine ops_run (is := [(18, false), (19, false)]) (r := [(20, false), (21, false)]) (l' := [(59, .int .i64 (IntKind.i64.wrap (firstV (a + 1) * v))), (52, .int .i64 (firstV (16384 - a - 1) * (0 - u))), (44, .bool true), (10, .int .i64 1), (36, .int .i64 1), (35, .int .i64 2), (34, .slice (some ⟨b4, 0, none⟩) 2 2), (8, .int .i64 (a : Int)), (7, .func (.func 89) #[] #[.pointer (some ⟨b3, 0, none⟩)]), (5, .int .i64 1), (0, .int .i64 (0 - u)), (1, .int .i64 v)]) [59, 52, 44, 10, 36, 35, 34, 8, 7, 5, 0, 1] (by kernel_rfl) ?_
      refine ops_conv (l' := [(59, .int .i64 (firstV (a + 1) * v)), (52, .int .i64 (firstV (16384 - a - 1) * (0 - u))), (44, .bool true), (10, .int .i64 1), (36, .int .i64 1), (35, .int .i64 2), (34, .slice (some ⟨b4, 0, none⟩) 2 2), (8, .int .i64 (a : Int)), (7, .func (.func 89) #[] #[.pointer (some ⟨b3, 0, none⟩)]), (5, .int .i64 1), (0, .int .i64 (0 - u)), (1, .int .i64 v)]) (by rw [hp2]) (fun _ h => h) ?_
      refine ops_run (is := [(20, false), (21, false)]) (r := []) (l' := [(61, .bool (decide ((firstV (a + 1) * v) ≤ (firstV (16384 - a - 1) * (0 - u))))), (10, .int .i64 1), (36, .int .i64 1), (35, .int .i64 2), (34, .slice (some ⟨b4, 0, none⟩) 2 2), (8, .int .i64 (a : Int)), (7, .func (.func 89) #[] #[.pointer (some ⟨b3, 0, none⟩)]), (5, .int .i64 1), (0, .int .i64 (0 - u)), (1, .int .i64 v)]) [61, 10, 36, 35, 34, 8, 7, 5, 0, 1] (by kernel_rfl) ?_
      refine ops_nil ?_
      refine fin_then ?_
      refine st_if (b := decide ((firstV (a + 1) * v) ≤ (firstV (16384 - a - 1) * (0 - u)))) rfl (fun hc10 => ?_) (fun hc10 => ?_)
      · --
        refine st_skip ?_
        refine fin_then ?_
        refine st_block ?_
        refine st_region [(0, false), (1, false), (2, false), (3, false)] (by rfl) ?_
        refine ops_run (is := [(0, false), (1, false), (2, false)]) (r := [(3, false)]) (l' := [(64, .int .i64 (IntKind.i64.wrap ((a : Int) + 1))), (10, .int .i64 1), (36, .int .i64 1), (35, .int .i64 2), (34, .slice (some ⟨b4, 0, none⟩) 2 2), (8, .int .i64 (a : Int)), (7, .func (.func 89) #[] #[.pointer (some ⟨b3, 0, none⟩)]), (5, .int .i64 1), (0, .int .i64 (0 - u)), (1, .int .i64 v)]) [64, 10, 36, 35, 34, 8, 7, 5, 0, 1] (by kernel_rfl) ?_
        refine ops_conv (l' := [(64, .int .i64 ((a + 1 : Nat) : Int)), (10, .int .i64 1), (36, .int .i64 1), (35, .int .i64 2), (34, .slice (some ⟨b4, 0, none⟩) 2 2), (8, .int .i64 (a : Int)), (7, .func (.func 89) #[] #[.pointer (some ⟨b3, 0, none⟩)]), (5, .int .i64 1), (0, .int .i64 (0 - u)), (1, .int .i64 v)]) (by rw [ha1]) (fun _ h => h) ?_
        refine ops_run (is := [(3, false)]) (r := []) (l' := [(8, .int .i64 ((a + 1 : Nat) : Int)), (10, .int .i64 1), (36, .int .i64 1), (35, .int .i64 2), (34, .slice (some ⟨b4, 0, none⟩) 2 2), (7, .func (.func 89) #[] #[.pointer (some ⟨b3, 0, none⟩)]), (5, .int .i64 1), (0, .int .i64 (0 - u)), (1, .int .i64 v)]) [8, 10, 36, 35, 34, 7, 5, 0, 1] (by kernel_rfl) ?_
        refine ops_nil ?_
        refine fin_block ?_
        refine fin_round (a + 1) (by exact ⟨show a + 1 ≤ 16383 by omega, by have z := of_decide_eq_true hc10; rwa [show 16384 - a - 1 = 16384 - (a + 1) by omega] at z⟩) (by (show 16384 - (a + 1) < 16384 - a; omega)) (look_has ⟨rfl, rfl, rfl, rfl, rfl, rfl, rfl, rfl, rfl, trivial⟩) (fun w_ hM => by exact hM)
      · --
        refine st_exit ?_
        refine fin_exit_then ?_
        refine fin_exit_then ?_
        refine fin_exit ?_
        refine fin_block ?_
        refine fin_then ?_
        refine st_region [(0, false), (1, false)] (by rfl) ?_
        refine ops_run (is := [(0, false), (1, false)]) (r := []) (l' := [(36, .int .i64 2), (35, .int .i64 2), (34, .slice (some ⟨b4, 0, none⟩) 2 2), (8, .int .i64 (a : Int)), (7, .func (.func 89) #[] #[.pointer (some ⟨b3, 0, none⟩)]), (5, .int .i64 1), (0, .int .i64 (0 - u)), (1, .int .i64 v)]) [36, 35, 34, 8, 7, 5, 0, 1] (by kernel_rfl) ?_
        refine ops_nil ?_
        refine fin_rounds ?_
        refine str_succ ?_
        refine st_seq ?_
        refine st_region [(0, false)] (by rfl) ?_
        refine ops_run (is := [(0, false)]) (r := []) (l' := [(37, .bool false), (36, .int .i64 2), (35, .int .i64 2), (34, .slice (some ⟨b4, 0, none⟩) 2 2), (8, .int .i64 (a : Int)), (7, .func (.func 89) #[] #[.pointer (some ⟨b3, 0, none⟩)]), (5, .int .i64 1), (0, .int .i64 (0 - u)), (1, .int .i64 v)]) [37, 36, 35, 34, 8, 7, 5, 0, 1] (by kernel_rfl) ?_
        refine ops_nil ?_
        refine fin_then ?_
        refine st_seq ?_
        refine st_false rfl ?_
        refine st_exit ?_
        refine fin_exit_then ?_
        refine fin_exit_then ?_
        refine fin_exit ?_
        refine fin_then ?_
        refine st_seq ?_
        refine st_region [(0, false), (1, false), (2, false), (3, false), (4, false)] (by rfl) ?_
        refine ops_run (is := [(0, false), (1, false), (2, false), (3, false)]) (r := [(4, false)]) (l' := [(69, .int .i64 (IntKind.i64.wrap (16384 + (a : Int))))]) [69] (by kernel_rfl) ?_
        refine ops_conv (l' := [(69, .int .i64 (16384 + (a : Int)))]) (by rw [(i64in (x := 16384 + (a : Int)) (by omega) (by omega))]) (fun _ h => h) ?_
        refine ops_run (is := [(4, false)]) (r := []) (l' := [(4, .int .i64 (16384 + (a : Int)))]) [4] (by kernel_rfl) ?_
        refine ops_nil ?_
        refine fin_then ?_
        refine st_ret ?_
        refine fin_ret [.tmp 4] [.int .i64 (16384 + (a : Int))] rfl rfl (fun w_ hM => (.tmp rfl .nil)) (fun w_ hM => ?_)
        refine ⟨?_, hM.done⟩
        have z := ang_eq hX hY hloa hba (by right; intro hc; have z := of_decide_eq_false hc10; rw [show 16384 - a - 1 = 16384 - (a + 1) by omega] at z; exact z hc)
        rw [← z]
        first | rfl | (simp only [theOne]; congr 2; omega)
    · --decide (((a + 1 : Nat) : Int) < 16384)
      refine ops_run (is := [(5, false), (6, false), (7, false), (8, false), (9, false), (10, false), (11, false), (12, false), (13, false), (14, false), (15, false), (16, false), (17, false), (18, false), (19, false), (20, false), (21, false)]) (r := []) (l' := [(61, .bool false), (10, .int .i64 1), (36, .int .i64 1), (35, .int .i64 2), (34, .slice (some ⟨b4, 0, none⟩) 2 2), (8, .int .i64 (a : Int)), (7, .func (.func 89) #[] #[.pointer (some ⟨b3, 0, none⟩)]), (5, .int .i64 1), (0, .int .i64 (0 - u)), (1, .int .i64 v)]) [61, 10, 36, 35, 34, 8, 7, 5, 0, 1] (by kernel_rfl) ?_
      refine ops_nil ?_
      refine fin_then ?_
      refine st_false rfl ?_
      refine st_exit ?_
      refine fin_exit_then ?_
      refine fin_exit_then ?_
      refine fin_exit ?_
      refine fin_block ?_
      refine fin_then ?_
      refine st_region [(0, false), (1, false)] (by rfl) ?_
      refine ops_run (is := [(0, false), (1, false)]) (r := []) (l' := [(36, .int .i64 2), (35, .int .i64 2), (34, .slice (some ⟨b4, 0, none⟩) 2 2), (8, .int .i64 (a : Int)), (7, .func (.func 89) #[] #[.pointer (some ⟨b3, 0, none⟩)]), (5, .int .i64 1), (0, .int .i64 (0 - u)), (1, .int .i64 v)]) [36, 35, 34, 8, 7, 5, 0, 1] (by kernel_rfl) ?_
      refine ops_nil ?_
      refine fin_rounds ?_
      refine str_succ ?_
      refine st_seq ?_
      refine st_region [(0, false)] (by rfl) ?_
      refine ops_run (is := [(0, false)]) (r := []) (l' := [(37, .bool false), (36, .int .i64 2), (35, .int .i64 2), (34, .slice (some ⟨b4, 0, none⟩) 2 2), (8, .int .i64 (a : Int)), (7, .func (.func 89) #[] #[.pointer (some ⟨b3, 0, none⟩)]), (5, .int .i64 1), (0, .int .i64 (0 - u)), (1, .int .i64 v)]) [37, 36, 35, 34, 8, 7, 5, 0, 1] (by kernel_rfl) ?_
      refine ops_nil ?_
      refine fin_then ?_
      refine st_seq ?_
      refine st_false rfl ?_
      refine st_exit ?_
      refine fin_exit_then ?_
      refine fin_exit_then ?_
      refine fin_exit ?_
      refine fin_then ?_
      refine st_seq ?_
      refine st_region [(0, false), (1, false), (2, false), (3, false), (4, false)] (by rfl) ?_
      refine ops_run (is := [(0, false), (1, false), (2, false), (3, false)]) (r := [(4, false)]) (l' := [(69, .int .i64 (IntKind.i64.wrap (16384 + (a : Int))))]) [69] (by kernel_rfl) ?_
      refine ops_conv (l' := [(69, .int .i64 (16384 + (a : Int)))]) (by rw [(i64in (x := 16384 + (a : Int)) (by omega) (by omega))]) (fun _ h => h) ?_
      refine ops_run (is := [(4, false)]) (r := []) (l' := [(4, .int .i64 (16384 + (a : Int)))]) [4] (by kernel_rfl) ?_
      refine ops_nil ?_
      refine fin_then ?_
      refine st_ret ?_
      refine fin_ret [.tmp 4] [.int .i64 (16384 + (a : Int))] rfl rfl (fun w_ hM => (.tmp rfl .nil)) (fun w_ hM => ?_)
      refine ⟨?_, hM.done⟩
      have z := ang_eq hX hY hloa hba (by left; have := of_decide_eq_false hc9; omega)
      rw [← z]
      first | rfl | (simp only [theOne]; congr 2; omega)
set_option maxHeartbeats 4000000 in
set_option maxRecDepth 100000 in
theorem Angle_1z (y x u v : Int) (w : World) (hu : min (max x (-1099511627776)) 1099511627776 = u) (hv : min (max y (-1099511627776)) 1099511627776 = v) (hq : u = 0 ∧ 0 < v) : Calls Try.prog 74 #[.int .i64 y, .int .i64 x] w fun e w' => e = .returned (.int .i64 (16384 + ang v (0 - u))) ∧ Below w.heap.size w w' := by
  have hu0 : -1099511627776 ≤ u ∧ u ≤ 1099511627776 := by omega
  have hv0 : -1099511627776 ≤ v ∧ v ≤ 1099511627776 := by omega
  have h00 : 0 - (0 - u) = u := by omega
  have h01 : IntKind.i64.wrap (0 - (0 - u)) = u := by rw [i64in (by omega) (by omega)]; omega
  have hkn0 : (v == 0) = false := by simp; omega
  have hkn1 : decide (u ≤ 0) = true := by simp; omega
  have hkn2 : decide (v ≤ 0) = false := by simp; omega
  have hkn3 : decide ((0 - u) < 0) = false := by simp; omega
  have hkn4 : (u == 0) = true := by simp; omega
  refine sx_calls Try.func74 rfl (n := 70) (by kernel_rfl) (l := [(0, .int .i64 y), (1, .int .i64 x)]) rfl (by rfl) (Mem.nil w) ?_
  refine st_seq ?_
  refine st_region [(0, false)] (by rfl) ?_
  refine ops_run (is := [(0, false)]) (r := []) (l' := [(0, .int .i64 y), (1, .int .i64 x)]) [0, 1] (by kernel_rfl) ?_
  refine ops_nil ?_
  refine fin_then ?_
  refine st_seq ?_
  refine st_region [(0, false), (1, false), (2, false), (3, false), (4, false), (5, false)] (by rfl) ?_
  refine ops_run (is := [(0, false)]) (r := [(1, false), (2, false), (3, false), (4, false), (5, false)]) (l' := [(11, .int .i64 x), (0, .int .i64 y), (1, .int .i64 x)]) [11, 0, 1] (by kernel_rfl) ?_
  refine ops_call (σ := Unit) (d := some 12) (f := 77) (args := #[.int .i64 x]) (v := fun _ => .int .i64 (min (max x (-1099511627776)) 1099511627776)) (M' := fun _ => Mem w []) ⟨by kernel_rfl⟩ (fun w_ hM hS => (Limit_calls x w_).mono (by rintro e w' ⟨rfl, hb⟩; exact ⟨(), rfl, hM.step hb, trivial⟩)) (fun _ => ?_)
  refine ops_run (is := []) (r := [(2, false), (3, false), (4, false), (5, false)]) (l' := [(12, .int .i64 (min (max x (-1099511627776)) 1099511627776)), (0, .int .i64 y), (1, .int .i64 x)]) [12, 0, 1] (by kernel_rfl) ?_
  refine ops_conv (l' := [(12, .int .i64 u), (0, .int .i64 y), (1, .int .i64 x)]) (by rw [hu]) (fun _ h => h) ?_
  refine ops_run (is := [(2, false)]) (r := [(3, false), (4, false), (5, false)]) (l' := [(13, .int .i64 y), (12, .int .i64 u), (0, .int .i64 y), (1, .int .i64 x)]) [13, 12, 0, 1] (by kernel_rfl) ?_
  refine ops_call (σ := Unit) (d := some 14) (f := 77) (args := #[.int .i64 y]) (v := fun _ => .int .i64 (min (max y (-1099511627776)) 1099511627776)) (M' := fun _ => Mem w []) ⟨by kernel_rfl⟩ (fun w_ hM hS => (Limit_calls y w_).mono (by rintro e w' ⟨rfl, hb⟩; exact ⟨(), rfl, hM.step hb, trivial⟩)) (fun _ => ?_)
  refine ops_run (is := []) (r := [(4, false), (5, false)]) (l' := [(14, .int .i64 (min (max y (-1099511627776)) 1099511627776)), (12, .int .i64 u), (0, .int .i64 y), (1, .int .i64 x)]) [14, 12, 0, 1] (by kernel_rfl) ?_
  refine ops_conv (l' := [(14, .int .i64 v), (12, .int .i64 u), (0, .int .i64 y), (1, .int .i64 x)]) (by rw [hv]) (fun _ h => h) ?_
  refine ops_run (is := [(4, false), (5, false)]) (r := []) (l' := [(0, .int .i64 v), (1, .int .i64 u)]) [0, 1] (by kernel_rfl) ?_
  refine ops_nil ?_
  refine fin_then ?_
  refine st_seq ?_
  refine st_seq ?_
  refine st_region [(0, false), (1, false), (2, false), (3, false), (4, false), (5, false)] (by rfl) ?_
  refine ops_run (is := [(0, false), (1, false), (2, false)]) (r := [(3, false), (4, false), (5, false)]) (l' := [(17, .bool (u == 0)), (0, .int .i64 v), (1, .int .i64 u)]) [17, 0, 1] (by kernel_rfl) ?_
  refine ops_conv (l' := [(17, .bool true), (0, .int .i64 v), (1, .int .i64 u)]) (by rw [hkn4]) (fun _ h => h) ?_
  refine ops_run (is := [(3, false), (4, false), (5, false)]) (r := []) (l' := [(20, .bool (v == 0)), (0, .int .i64 v), (1, .int .i64 u)]) [20, 0, 1] (by kernel_rfl) ?_
  refine ops_nil ?_
  refine fin_then ?_
  refine st_conv (l' := [(20, .bool false), (0, .int .i64 v), (1, .int .i64 u)]) (by rw [hkn0]) (fun _ h => h) ?_
  refine st_false rfl ?_
  refine st_skip ?_
  refine fin_then ?_
  refine st_seq ?_
  refine st_region [(0, false)] (by rfl) ?_
  refine ops_run (is := [(0, false)]) (r := []) (l' := [(5, .int .i64 0), (0, .int .i64 v), (1, .int .i64 u)]) [5, 0, 1] (by kernel_rfl) ?_
  refine ops_nil ?_
  refine fin_then ?_
  refine st_seq ?_
  refine st_block ?_
  refine st_unroll 6 ?_
  refine str_succ ?_
  refine st_seq ?_
  refine st_seq ?_
  refine st_region [(0, false), (1, false), (2, false), (3, false), (4, false), (5, false)] (by rfl) ?_
  refine ops_run (is := [(0, false), (1, false), (2, false)]) (r := [(3, false), (4, false), (5, false)]) (l' := [(23, .bool (decide (u ≤ 0))), (5, .int .i64 0), (0, .int .i64 v), (1, .int .i64 u)]) [23, 5, 0, 1] (by kernel_rfl) ?_
  refine ops_conv (l' := [(23, .bool true), (5, .int .i64 0), (0, .int .i64 v), (1, .int .i64 u)]) (by rw [hkn1]) (fun _ h => h) ?_
  refine ops_run (is := [(3, false), (4, false), (5, false)]) (r := []) (l' := [(26, .bool true), (5, .int .i64 0), (0, .int .i64 v), (1, .int .i64 u)]) [26, 5, 0, 1] (by kernel_rfl) ?_
  refine ops_nil ?_
  refine fin_then ?_
  refine st_true rfl ?_
  refine st_skip ?_
  refine fin_then ?_
  refine st_block ?_
  refine st_region [(0, false), (1, false), (2, false), (3, false), (4, false), (5, false), (6, false), (7, false)] (by rfl) ?_
  refine ops_run (is := [(0, false), (1, false), (2, false)]) (r := [(3, false), (4, false), (5, false), (6, false), (7, false)]) (l' := [(29, .int .i64 (IntKind.i64.wrap (0 - u))), (27, .int .i64 v), (5, .int .i64 0), (0, .int .i64 v), (1, .int .i64 u)]) [29, 27, 5, 0, 1] (by kernel_rfl) ?_
  refine ops_conv (l' := [(29, .int .i64 (0 - u)), (27, .int .i64 v), (5, .int .i64 0), (0, .int .i64 v), (1, .int .i64 u)]) (by rw [(i64in (x := 0 - u) (by omega) (by omega))]) (fun _ h => h) ?_
  refine ops_run (is := [(3, false), (4, false), (5, false), (6, false), (7, false)]) (r := []) (l' := [(5, .int .i64 1), (0, .int .i64 (0 - u)), (1, .int .i64 v)]) [5, 0, 1] (by kernel_rfl) ?_
  refine ops_nil ?_
  refine fin_block ?_
  refine fin_rounds ?_
  refine str_succ ?_
  refine st_seq ?_
  refine st_seq ?_
  refine st_region [(0, false), (1, false), (2, false), (3, false), (4, false), (5, false)] (by rfl) ?_
  refine ops_run (is := [(0, false), (1, false), (2, false)]) (r := [(3, false), (4, false), (5, false)]) (l' := [(23, .bool (decide (v ≤ 0))), (5, .int .i64 1), (0, .int .i64 (0 - u)), (1, .int .i64 v)]) [23, 5, 0, 1] (by kernel_rfl) ?_
  refine ops_conv (l' := [(23, .bool false), (5, .int .i64 1), (0, .int .i64 (0 - u)), (1, .int .i64 v)]) (by rw [hkn2]) (fun _ h => h) ?_
  refine ops_run (is := [(3, false), (4, false), (5, false)]) (r := []) (l' := [(26, .bool (decide ((0 - u) < 0))), (5, .int .i64 1), (0, .int .i64 (0 - u)), (1, .int .i64 v)]) [26, 5, 0, 1] (by kernel_rfl) ?_
  refine ops_nil ?_
  refine fin_then ?_
  refine st_conv (l' := [(26, .bool false), (5, .int .i64 1), (0, .int .i64 (0 - u)), (1, .int .i64 v)]) (by rw [hkn3]) (fun _ h => h) ?_
  refine st_false rfl ?_
  refine st_exit ?_
  refine fin_exit_then ?_
  refine fin_exit_then ?_
  refine fin_exit ?_
  refine fin_then ?_
  refine st_seq ?_
  refine st_region [(0, false), (1, false), (2, false)] (by rfl) ?_
  refine ops_run (is := []) (r := [(0, false), (1, false), (2, false)]) (l' := [(5, .int .i64 1), (0, .int .i64 (0 - u)), (1, .int .i64 v)]) [5, 0, 1] (by kernel_rfl) ?_
  refine ops_call (σ := Option Addr × Nat) (d := some 32) (f := 81) (args := #[]) (v := fun x_ => match x_ with | (A1, c2) => .slice A1 65 c2) (M' := fun x_ => match x_ with | (A1, c2) => Mem w [.row A1 65 c2 3 1 (iv .i64 tab)]) ⟨by kernel_rfl⟩ (fun w_ hM hS => (sines_calls w_).mono (by rintro e w' ⟨x_, rfl, h2⟩; exact ⟨x_, rfl, hM.join h2 rfl, trivial⟩)) ?_
  rintro ⟨A1, c2⟩
  refine ops_conv (l' := [(32, .slice A1 65 c2), (5, .int .i64 1), (0, .int .i64 (0 - u)), (1, .int .i64 v)]) (M' := Mem w [.row A1 65 c2 3 1 (iv .i64 tab)]) rfl (fun _ h => h) ?_
  refine ops_run (is := []) (r := [(1, false), (2, false)]) (l' := [(32, .slice A1 65 c2), (5, .int .i64 1), (0, .int .i64 (0 - u)), (1, .int .i64 v)]) [32, 5, 0, 1] (by kernel_rfl) ?_
  refine ops_new (d := some 6) (o := .cells #[.slice none 0 0] 37) (v := fun b3 => .pointer (some ⟨b3, 0, none⟩)) (M' := fun b3 => Mem w [.blk b3 [.slice none 0 0] 37, .row A1 65 c2 3 1 (iv .i64 tab)]) (fun b3 => ⟨by kernel_rfl⟩) (fun w_ hM hS => ⟨hM.blk [.slice none 0 0] 37, trivial⟩) (fun b3 => ?_)
  refine ops_run (is := []) (r := [(2, false)]) (l' := [(6, .pointer (some ⟨b3, 0, none⟩)), (32, .slice A1 65 c2), (5, .int .i64 1), (0, .int .i64 (0 - u)), (1, .int .i64 v)]) [6, 32, 5, 0, 1] (by kernel_rfl) ?_
  refine ops_store (an := []) (evs := [.store ⟨b3, 0, none⟩ (.slice A1 65 c2)]) (M' := Mem w [.blk b3 [.slice A1 65 c2] 37, .row A1 65 c2 3 1 (iv .i64 tab)]) ⟨by kernel_rfl⟩ (fun w_ hM hS => let ⟨w', he, h'⟩ := hM.evs_stores [.slice A1 65 c2] 0 rfl 0 (Nat.le_of_ble_eq_true rfl); ⟨w', he, h', trivial⟩) ?_
  refine ops_run (is := []) (r := []) (l' := [(6, .pointer (some ⟨b3, 0, none⟩)), (5, .int .i64 1), (0, .int .i64 (0 - u)), (1, .int .i64 v)]) [6, 5, 0, 1] (by kernel_rfl) ?_
  refine ops_nil ?_
  refine fin_then ?_
  refine st_seq ?_
  refine st_region [(0, false), (1, false)] (by rfl) ?_
  refine ops_run (is := [(0, false), (1, false)]) (r := []) (l' := [(7, .func (.func 89) #[] #[.pointer (some ⟨b3, 0, none⟩)]), (5, .int .i64 1), (0, .int .i64 (0 - u)), (1, .int .i64 v)]) [7, 5, 0, 1] (by kernel_rfl) ?_
  refine ops_nil ?_
  refine fin_then ?_
  refine st_seq ?_
  refine st_region [(0, false)] (by rfl) ?_
  refine ops_run (is := [(0, false)]) (r := []) (l' := [(8, .int .i64 0), (7, .func (.func 89) #[] #[.pointer (some ⟨b3, 0, none⟩)]), (5, .int .i64 1), (0, .int .i64 (0 - u)), (1, .int .i64 v)]) [8, 7, 5, 0, 1] (by kernel_rfl) ?_
  refine ops_nil ?_
  refine fin_then ?_
  refine st_seq ?_
  refine st_seq ?_
  refine st_region [(0, false), (1, false), (2, false)] (by rfl) ?_
  refine ops_new (d := some 34) (o := .cells #[.int .i64 256, .int .i64 1] 3) (v := fun b4 => .slice (some ⟨b4, 0, none⟩) 2 2) (M' := fun b4 => Mem w [.blk b4 [.int .i64 256, .int .i64 1] 3, .blk b3 [.slice A1 65 c2] 37, .row A1 65 c2 3 1 (iv .i64 tab)]) (fun b4 => ⟨by kernel_rfl⟩) (fun w_ hM hS => ⟨hM.blk [.int .i64 256, .int .i64 1] 3, trivial⟩) (fun b4 => ?_)
  refine ops_run (is := [(1, false), (2, false)]) (r := []) (l' := [(36, .int .i64 0), (35, .int .i64 2), (34, .slice (some ⟨b4, 0, none⟩) 2 2), (8, .int .i64 0), (7, .func (.func 89) #[] #[.pointer (some ⟨b3, 0, none⟩)]), (5, .int .i64 1), (0, .int .i64 (0 - u)), (1, .int .i64 v)]) [36, 35, 34, 8, 7, 5, 0, 1] (by kernel_rfl) ?_
  refine ops_nil ?_
  refine fin_then ?_
  refine st_block ?_
  have hX : 0 < v := by omega
  have hY : 0 ≤ (0 - u) := by omega
  have hX1 : v ≤ 1099511627776 := by omega
  have hY1 : (0 - u) ≤ 1099511627776 := by omega
  refine st_unroll 4 ?_
  refine str_succ ?_
  refine st_seq ?_
  refine st_region [(0, false)] (by rfl) ?_
  refine ops_run (is := [(0, false)]) (r := []) (l' := [(37, .bool true), (36, .int .i64 0), (35, .int .i64 2), (34, .slice (some ⟨b4, 0, none⟩) 2 2), (8, .int .i64 0), (7, .func (.func 89) #[] #[.pointer (some ⟨b3, 0, none⟩)]), (5, .int .i64 1), (0, .int .i64 (0 - u)), (1, .int .i64 v)]) [37, 36, 35, 34, 8, 7, 5, 0, 1] (by kernel_rfl) ?_
  refine ops_nil ?_
  refine fin_then ?_
  refine st_seq ?_
  refine st_true rfl ?_
  refine st_skip ?_
  refine fin_then ?_
  refine st_seq ?_
  refine st_block ?_
  refine st_seq ?_
  refine st_region [(0, false), (1, false), (2, false)] (by rfl) ?_
  refine ops_run (is := [(0, false)]) (r := [(1, false), (2, false)]) (l' := [(38, .pointer (some ⟨b4, 0, none⟩)), (36, .int .i64 0), (35, .int .i64 2), (34, .slice (some ⟨b4, 0, none⟩) 2 2), (8, .int .i64 0), (7, .func (.func 89) #[] #[.pointer (some ⟨b3, 0, none⟩)]), (5, .int .i64 1), (0, .int .i64 (0 - u)), (1, .int .i64 v)]) [38, 36, 35, 34, 8, 7, 5, 0, 1] (by kernel_rfl) ?_
  refine ops_mem (d := some 39) (an := [.v (.int .i64 256)]) (evs := [.load ⟨b4, 0, none⟩ (.int .i64 256)]) (v := .int .i64 256) (M' := Mem w [.blk b4 [.int .i64 256, .int .i64 1] 3, .blk b3 [.slice A1 65 c2] 37, .row A1 65 c2 3 1 (iv .i64 tab)]) ⟨by kernel_rfl⟩ (fun w_ hM hS => ⟨w_, ⟨hM.cell 0 rfl rfl, rfl⟩, hM, trivial⟩) ?_
  refine ops_run (is := [(2, false)]) (r := []) (l' := [(10, .int .i64 256), (36, .int .i64 0), (35, .int .i64 2), (34, .slice (some ⟨b4, 0, none⟩) 2 2), (8, .int .i64 0), (7, .func (.func 89) #[] #[.pointer (some ⟨b3, 0, none⟩)]), (5, .int .i64 1), (0, .int .i64 (0 - u)), (1, .int .i64 v)]) [10, 36, 35, 34, 8, 7, 5, 0, 1] (by kernel_rfl) ?_
  refine ops_nil ?_
  refine fin_then ?_
  refine st_block ?_
  refine st_loop (σ := Nat) 0 (fun a1 => [(10, .int .i64 256), (36, .int .i64 0), (35, .int .i64 2), (34, .slice (some ⟨b4, 0, none⟩) 2 2), (8, .int .i64 (a1 : Int)), (7, .func (.func 89) #[] #[.pointer (some ⟨b3, 0, none⟩)]), (5, .int .i64 1), (0, .int .i64 (0 - u)), (1, .int .i64 v)]) (fun a1 => Mem w [.blk b4 [.int .i64 256, .int .i64 1] 3, .blk b3 [.slice A1 65 c2] 37, .row A1 65 c2 3 1 (iv .i64 tab)]) (fun a1 => a1 ≤ 16383 ∧ Not v (0 - u) a1) (fun a1 => 16384 - a1) (by exact ⟨by decide, not_zero hX hY⟩) (look_has ⟨rfl, rfl, rfl, rfl, rfl, rfl, rfl, rfl, rfl, trivial⟩) (fun w_ hM => by exact hM) ?_
  rintro a1 hI
  obtain ⟨hba1, hloa1⟩ := hI
  have hba1 : a1 ≤ 16383 := hba1
  have hloa1 : Not v (0 - u) a1 := hloa1
  have ha1 : IntKind.i64.wrap ((a1 : Int) + 256) = ((a1 + 256 : Nat) : Int) := by rw [i64in (by omega) (by omega)]; omega
  have ha2 : IntKind.i64.wrap (16384 - (a1 : Int)) = ((16384 - a1 : Nat) : Int) := by rw [i64in (by omega) (by omega)]; omega
  refine st_seq ?_
  refine st_seq ?_
  refine st_region [(0, false), (1, false), (2, false), (3, false), (4, false), (5, false), (6, false), (7, false), (8, false), (9, false), (10, false), (11, false), (12, false), (13, false), (14, false), (15, false), (16, false), (17, false), (18, false), (19, false), (20, false), (21, false)] (by rfl) ?_
  refine ops_run (is := [(0, false), (1, false), (2, false)]) (r := [(3, false), (4, false), (5, false), (6, false), (7, false), (8, false), (9, false), (10, false), (11, false), (12, false), (13, false), (14, false), (15, false), (16, false), (17, false), (18, false), (19, false), (20, false), (21, false)]) (l' := [(42, .int .i64 (IntKind.i64.wrap ((a1 : Int) + 256))), (10, .int .i64 256), (36, .int .i64 0), (35, .int .i64 2), (34, .slice (some ⟨b4, 0, none⟩) 2 2), (8, .int .i64 (a1 : Int)), (7, .func (.func 89) #[] #[.pointer (some ⟨b3, 0, none⟩)]), (5, .int .i64 1), (0, .int .i64 (0 - u)), (1, .int .i64 v)]) [42, 10, 36, 35, 34, 8, 7, 5, 0, 1] (by kernel_rfl) ?_
  refine ops_conv (l' := [(42, .int .i64 ((a1 + 256 : Nat) : Int)), (10, .int .i64 256), (36, .int .i64 0), (35, .int .i64 2), (34, .slice (some ⟨b4, 0, none⟩) 2 2), (8, .int .i64 (a1 : Int)), (7, .func (.func 89) #[] #[.pointer (some ⟨b3, 0, none⟩)]), (5, .int .i64 1), (0, .int .i64 (0 - u)), (1, .int .i64 v)]) (by rw [ha1]) (fun _ h => h) ?_
  refine ops_run (is := [(3, false), (4, false)]) (r := [(5, false), (6, false), (7, false), (8, false), (9, false), (10, false), (11, false), (12, false), (13, false), (14, false), (15, false), (16, false), (17, false), (18, false), (19, false), (20, false), (21, false)]) (l' := [(44, .bool (decide (((a1 + 256 : Nat) : Int) < 16384))), (10, .int .i64 256), (36, .int .i64 0), (35, .int .i64 2), (34, .slice (some ⟨b4, 0, none⟩) 2 2), (8, .int .i64 (a1 : Int)), (7, .func (.func 89) #[] #[.pointer (some ⟨b3, 0, none⟩)]), (5, .int .i64 1), (0, .int .i64 (0 - u)), (1, .int .i64 v)]) [44, 10, 36, 35, 34, 8, 7, 5, 0, 1] (by kernel_rfl) ?_
  refine ops_bool (t := decide (((a1 + 256 : Nat) : Int) < 16384)) (l1 := [(44, .bool true), (10, .int .i64 256), (36, .int .i64 0), (35, .int .i64 2), (34, .slice (some ⟨b4, 0, none⟩) 2 2), (8, .int .i64 (a1 : Int)), (7, .func (.func 89) #[] #[.pointer (some ⟨b3, 0, none⟩)]), (5, .int .i64 1), (0, .int .i64 (0 - u)), (1, .int .i64 v)]) (l2 := [(44, .bool false), (10, .int .i64 256), (36, .int .i64 0), (35, .int .i64 2), (34, .slice (some ⟨b4, 0, none⟩) 2 2), (8, .int .i64 (a1 : Int)), (7, .func (.func 89) #[] #[.pointer (some ⟨b3, 0, none⟩)]), (5, .int .i64 1), (0, .int .i64 (0 - u)), (1, .int .i64 v)]) (fun h => by rw [h]) (fun h => by rw [h]) (fun hc5 => ?_) (fun hc5 => ?_)
  · --decide (((a1 + 256 : Nat) : Int) < 16384)
    have hlt : a1 + 256 < 16384 := by have := of_decide_eq_true hc5; omega
    have ha3 : IntKind.i64.wrap (((16384 - a1 : Nat) : Int) - 256) = ((16384 - a1 - 256 : Nat) : Int) := by rw [i64in (by omega) (by omega)]; omega
    have hq1 := prod_ok (a := (16384 - a1 - 256)) (y := (0 - u)) (by omega) hY hY1
    have hq2 := prod_ok (a := (a1 + 256)) (y := v) (by omega) (by omega) hX1
    have hp1 : IntKind.i64.wrap (firstV (16384 - a1 - 256) * (0 - u)) = firstV (16384 - a1 - 256) * (0 - u) := i64in (by omega) (by omega)
    have hp2 : IntKind.i64.wrap (firstV (a1 + 256) * v) = firstV (a1 + 256) * v := i64in (by omega) (by omega)
    refine ops_run (is := [(5, false), (6, false), (7, false)]) (r := [(8, false), (9, false), (10, false), (11, false), (12, false), (13, false), (14, false), (15, false), (16, false), (17, false), (18, false), (19, false), (20, false), (21, false)]) (l' := [(47, .int .i64 (IntKind.i64.wrap (16384 - (a1 : Int)))), (45, .func (.func 89) #[] #[.pointer (some ⟨b3, 0, none⟩)]), (44, .bool true), (10, .int .i64 256), (36, .int .i64 0), (35, .int .i64 2), (34, .slice (some ⟨b4, 0, none⟩) 2 2), (8, .int .i64 (a1 : Int)), (7, .func (.func 89) #[] #[.pointer (some ⟨b3, 0, none⟩)]), (5, .int .i64 1), (0, .int .i64 (0 - u)), (1, .int .i64 v)]) [47, 45, 44, 10, 36, 35, 34, 8, 7, 5, 0, 1] (by kernel_rfl) ?_
    refine ops_conv (l' := [(47, .int .i64 ((16384 - a1 : Nat) : Int)), (45, .func (.func 89) #[] #[.pointer (some ⟨b3, 0, none⟩)]), (44, .bool true), (10, .int .i64 256), (36, .int .i64 0), (35, .int .i64 2), (34, .slice (some ⟨b4, 0, none⟩) 2 2), (8, .int .i64 (a1 : Int)), (7, .func (.func 89) #[] #[.pointer (some ⟨b3, 0, none⟩)]), (5, .int .i64 1), (0, .int .i64 (0 - u)), (1, .int .i64 v)]) (by rw [ha2]) (fun _ h => h) ?_
    refine ops_run (is := [(8, false), (9, false)]) (r := [(10, false), (11, false), (12, false), (13, false), (14, false), (15, false), (16, false), (17, false), (18, false), (19, false), (20, false), (21, false)]) (l' := [(49, .int .i64 (IntKind.i64.wrap (((16384 - a1 : Nat) : Int) - 256))), (45, .func (.func 89) #[] #[.pointer (some ⟨b3, 0, none⟩)]), (44, .bool true), (10, .int .i64 256), (36, .int .i64 0), (35, .int .i64 2), (34, .slice (some ⟨b4, 0, none⟩) 2 2), (8, .int .i64 (a1 : Int)), (7, .func (.func 89) #[] #[.pointer (some ⟨b3, 0, none⟩)]), (5, .int .i64 1), (0, .int .i64 (0 - u)), (1, .int .i64 v)]) [49, 45, 44, 10, 36, 35, 34, 8, 7, 5, 0, 1] (by kernel_rfl) ?_
    refine ops_conv (l' := [(49, .int .i64 ((16384 - a1 - 256 : Nat) : Int)), (45, .func (.func 89) #[] #[.pointer (some ⟨b3, 0, none⟩)]), (44, .bool true), (10, .int .i64 256), (36, .int .i64 0), (35, .int .i64 2), (34, .slice (some ⟨b4, 0, none⟩) 2 2), (8, .int .i64 (a1 : Int)), (7, .func (.func 89) #[] #[.pointer (some ⟨b3, 0, none⟩)]), (5, .int .i64 1), (0, .int .i64 (0 - u)), (1, .int .i64 v)]) (by rw [ha3]) (fun _ h => h) ?_
    refine ops_call (σ := Unit) (d := some 50) (f := 89) (args := #[.int .i64 ((16384 - a1 - 256 : Nat) : Int), .pointer (some ⟨b3, 0, none⟩)]) (v := fun _ => .int .i64 (firstV (16384 - a1 - 256))) (M' := fun _ => Mem w [.blk b4 [.int .i64 256, .int .i64 1] 3, .blk b3 [.slice A1 65 c2] 37, .row A1 65 c2 3 1 (iv .i64 tab)]) ⟨by kernel_rfl⟩ (fun w_ hM hS => (Angle1_calls (16384 - a1 - 256) _ A1 c2 w_ (by omega) (hM.cell 1 rfl rfl) (hM.rints 2 rfl)).mono (by rintro e w' ⟨rfl, hb⟩; exact ⟨(), rfl, hM.step hb, trivial⟩)) (fun _ => ?_)
    refine ops_run (is := [(11, false), (12, false)]) (r := [(13, false), (14, false), (15, false), (16, false), (17, false), (18, false), (19, false), (20, false), (21, false)]) (l' := [(52, .int .i64 (IntKind.i64.wrap (firstV (16384 - a1 - 256) * (0 - u)))), (44, .bool true), (10, .int .i64 256), (36, .int .i64 0), (35, .int .i64 2), (34, .slice (some ⟨b4, 0, none⟩) 2 2), (8, .int .i64 (a1 : Int)), (7, .func (.func 89) #[] #[.pointer (some ⟨b3, 0, none⟩)]), (5, .int .i64 1), (0, .int .i64 (0 - u)), (1, .int .i64 v)]) [52, 44, 10, 36, 35, 34, 8, 7, 5, 0, 1] (by kernel_rfl) ?_
    refine ops_conv (l' := [(52, .int .i64 (firstV (16384 - a1 - 256) * (0 - u))), (44, .bool true), (10, .int .i64 256), (36, .int .i64 0), (35, .int .i64 2), (34, .slice (some ⟨b4, 0, none⟩) 2 2), (8, .int .i64 (a1 : Int)), (7, .func (.func 89) #[] #[.pointer (some ⟨b3, 0, none⟩)]), (5, .int .i64 1), (0, .int .i64 (0 - u)), (1, .int .i64 v)]) (by rw [hp1]) (fun _ h => h) ?_
    refine ops_run (is := [(13, false), (14, false), (15, false), (16, false)]) (r := [(17, false), (18, false), (19, false), (20, false), (21, false)]) (l' := [(56, .int .i64 (IntKind.i64.wrap ((a1 : Int) + 256))), (53, .func (.func 89) #[] #[.pointer (some ⟨b3, 0, none⟩)]), (52, .int .i64 (firstV (16384 - a1 - 256) * (0 - u))), (44, .bool true), (10, .int .i64 256), (36, .int .i64 0), (35, .int .i64 2), (34, .slice (some ⟨b4, 0, none⟩) 2 2), (8, .int .i64 (a1 : Int)), (7, .func (.func 89) #[] #[.pointer (some ⟨b3, 0, none⟩)]), (5, .int .i64 1), (0, .int .i64 (0 - u)), (1, .int .i64 v)]) [56, 53, 52, 44, 10, 36, 35, 34, 8, 7, 5, 0, 1] (by kernel_rfl) ?_
    refine ops_conv (l' := [(56, .int .i64 ((a1 + 256 : Nat) : Int)), (53, .func (.func 89) #[] #[.pointer (some ⟨b3, 0, none⟩)]), (52, .int .i64 (firstV (16384 - a1 - 256) * (0 - u))), (44, .bool true), (10, .int .i64 256), (36, .int .i64 0), (35, .int .i64 2), (34, .slice (some ⟨b4, 0, none⟩) 2 2), (8, .int .i64 (a1 : Int)), (7, .func (.func 89) #[] #[.pointer (some ⟨b3, 0, none⟩)]), (5, .int .i64 1), (0, .int .i64 (0 - u)), (1, .int .i64 v)]) (by rw [ha1]) (fun _ h => h) ?_
    refine ops_call (σ := Unit) (d := some 57) (f := 89) (args := #[.int .i64 ((a1 + 256 : Nat) : Int), .pointer (some ⟨b3, 0, none⟩)]) (v := fun _ => .int .i64 (firstV (a1 + 256))) (M' := fun _ => Mem w [.blk b4 [.int .i64 256, .int .i64 1] 3, .blk b3 [.slice A1 65 c2] 37, .row A1 65 c2 3 1 (iv .i64 tab)]) ⟨by kernel_rfl⟩ (fun w_ hM hS => (Angle1_calls (a1 + 256) _ A1 c2 w_ (by omega) (hM.cell 1 rfl rfl) (hM.rints 2 rfl)).mono (by rintro e w' ⟨rfl, hb⟩; exact ⟨(), rfl, hM.step hb, trivial⟩)) (fun _ => ?_)
    refine ops_run (is := [(18, false), (19, false)]) (r := [(20, false), (21, false)]) (l' := [(59, .int .i64 (IntKind.i64.wrap (firstV (a1 + 256) * v))), (52, .int .i64 (firstV (16384 - a1 - 256) * (0 - u))), (44, .bool true), (10, .int .i64 256), (36, .int .i64 0), (35, .int .i64 2), (34, .slice (some ⟨b4, 0, none⟩) 2 2), (8, .int .i64 (a1 : Int)), (7, .func (.func 89) #[] #[.pointer (some ⟨b3, 0, none⟩)]), (5, .int .i64 1), (0, .int .i64 (0 - u)), (1, .int .i64 v)]) [59, 52, 44, 10, 36, 35, 34, 8, 7, 5, 0, 1] (by kernel_rfl) ?_
    refine ops_conv (l' := [(59, .int .i64 (firstV (a1 + 256) * v)), (52, .int .i64 (firstV (16384 - a1 - 256) * (0 - u))), (44, .bool true), (10, .int .i64 256), (36, .int .i64 0), (35, .int .i64 2), (34, .slice (some ⟨b4, 0, none⟩) 2 2), (8, .int .i64 (a1 : Int)), (7, .func (.func 89) #[] #[.pointer (some ⟨b3, 0, none⟩)]), (5, .int .i64 1), (0, .int .i64 (0 - u)), (1, .int .i64 v)]) (by rw [hp2]) (fun _ h => h) ?_
    refine ops_run (is := [(20, false), (21, false)]) (r := []) (l' := [(61, .bool (decide ((firstV (a1 + 256) * v) ≤ (firstV (16384 - a1 - 256) * (0 - u))))), (10, .int .i64 256), (36, .int .i64 0), (35, .int .i64 2), (34, .slice (some ⟨b4, 0, none⟩) 2 2), (8, .int .i64 (a1 : Int)), (7, .func (.func 89) #[] #[.pointer (some ⟨b3, 0, none⟩)]), (5, .int .i64 1), (0, .int .i64 (0 - u)), (1, .int .i64 v)]) [61, 10, 36, 35, 34, 8, 7, 5, 0, 1] (by kernel_rfl) ?_
    refine ops_nil ?_
    refine fin_then ?_
    refine st_if (b := decide ((firstV (a1 + 256) * v) ≤ (firstV (16384 - a1 - 256) * (0 - u)))) rfl (fun hc6 => ?_) (fun hc6 => ?_)
    · --
      refine st_skip ?_
      refine fin_then ?_
      refine st_block ?_
      refine st_region [(0, false), (1, false), (2, false), (3, false)] (by rfl) ?_
      refine ops_run (is := [(0, false), (1, false), (2, false)]) (r := [(3, false)]) (l' := [(64, .int .i64 (IntKind.i64.wrap ((a1 : Int) + 256))), (10, .int .i64 256), (36, .int .i64 0), (35, .int .i64 2), (34, .slice (some ⟨b4, 0, none⟩) 2 2), (8, .int .i64 (a1 : Int)), (7, .func (.func 89) #[] #[.pointer (some ⟨b3, 0, none⟩)]), (5, .int .i64 1), (0, .int .i64 (0 - u)), (1, .int .i64 v)]) [64, 10, 36, 35, 34, 8, 7, 5, 0, 1] (by kernel_rfl) ?_
      refine ops_conv (l' := [(64, .int .i64 ((a1 + 256 : Nat) : Int)), (10, .int .i64 256), (36, .int .i64 0), (35, .int .i64 2), (34, .slice (some ⟨b4, 0, none⟩) 2 2), (8, .int .i64 (a1 : Int)), (7, .func (.func 89) #[] #[.pointer (some ⟨b3, 0, none⟩)]), (5, .int .i64 1), (0, .int .i64 (0 - u)), (1, .int .i64 v)]) (by rw [ha1]) (fun _ h => h) ?_
      refine ops_run (is := [(3, false)]) (r := []) (l' := [(8, .int .i64 ((a1 + 256 : Nat) : Int)), (10, .int .i64 256), (36, .int .i64 0), (35, .int .i64 2), (34, .slice (some ⟨b4, 0, none⟩) 2 2), (7, .func (.func 89) #[] #[.pointer (some ⟨b3, 0, none⟩)]), (5, .int .i64 1), (0, .int .i64 (0 - u)), (1, .int .i64 v)]) [8, 10, 36, 35, 34, 7, 5, 0, 1] (by kernel_rfl) ?_
      refine ops_nil ?_
      refine fin_block ?_
      refine fin_round (a1 + 256) (by exact ⟨show a1 + 256 ≤ 16383 by omega, by have z := of_decide_eq_true hc6; rwa [show 16384 - a1 - 256 = 16384 - (a1 + 256) by omega] at z⟩) (by (show 16384 - (a1 + 256) < 16384 - a1; omega)) (look_has ⟨rfl, rfl, rfl, rfl, rfl, rfl, rfl, rfl, rfl, trivial⟩) (fun w_ hM => by exact hM)
    · --
      refine st_exit ?_
      refine fin_exit_then ?_
      refine fin_exit_then ?_
      refine fin_exit ?_
      refine fin_block ?_
      refine fin_then ?_
      refine st_region [(0, false), (1, false)] (by rfl) ?_
      refine ops_run (is := [(0, false), (1, false)]) (r := []) (l' := [(36, .int .i64 1), (35, .int .i64 2), (34, .slice (some ⟨b4, 0, none⟩) 2 2), (8, .int .i64 (a1 : Int)), (7, .func (.func 89) #[] #[.pointer (some ⟨b3, 0, none⟩)]), (5, .int .i64 1), (0, .int .i64 (0 - u)), (1, .int .i64 v)]) [36, 35, 34, 8, 7, 5, 0, 1] (by kernel_rfl) ?_
      refine ops_nil ?_
      refine fin_rounds ?_
      refine str_succ ?_
      refine st_seq ?_
      refine st_region [(0, false)] (by rfl) ?_
      refine ops_run (is := [(0, false)]) (r := []) (l' := [(37, .bool true), (36, .int .i64 1), (35, .int .i64 2), (34, .slice (some ⟨b4, 0, none⟩) 2 2), (8, .int .i64 (a1 : Int)), (7, .func (.func 89) #[] #[.pointer (some ⟨b3, 0, none⟩)]), (5, .int .i64 1), (0, .int .i64 (0 - u)), (1, .int .i64 v)]) [37, 36, 35, 34, 8, 7, 5, 0, 1] (by kernel_rfl) ?_
      refine ops_nil ?_
      refine fin_then ?_
      refine st_seq ?_
      refine st_true rfl ?_
      refine st_skip ?_
      refine fin_then ?_
      refine st_seq ?_
      refine st_block ?_
      refine st_seq ?_
      refine st_region [(0, false), (1, false), (2, false)] (by rfl) ?_
      refine ops_run (is := [(0, false)]) (r := [(1, false), (2, false)]) (l' := [(38, .pointer (some ⟨b4, 1, none⟩)), (36, .int .i64 1), (35, .int .i64 2), (34, .slice (some ⟨b4, 0, none⟩) 2 2), (8, .int .i64 (a1 : Int)), (7, .func (.func 89) #[] #[.pointer (some ⟨b3, 0, none⟩)]), (5, .int .i64 1), (0, .int .i64 (0 - u)), (1, .int .i64 v)]) [38, 36, 35, 34, 8, 7, 5, 0, 1] (by kernel_rfl) ?_
      refine ops_mem (d := some 39) (an := [.v (.int .i64 1)]) (evs := [.load ⟨b4, 1, none⟩ (.int .i64 1)]) (v := .int .i64 1) (M' := Mem w [.blk b4 [.int .i64 256, .int .i64 1] 3, .blk b3 [.slice A1 65 c2] 37, .row A1 65 c2 3 1 (iv .i64 tab)]) ⟨by kernel_rfl⟩ (fun w_ hM hS => ⟨w_, ⟨hM.cell 0 rfl rfl, rfl⟩, hM, trivial⟩) ?_
      refine ops_run (is := [(2, false)]) (r := []) (l' := [(10, .int .i64 1), (36, .int .i64 1), (35, .int .i64 2), (34, .slice (some ⟨b4, 0, none⟩) 2 2), (8, .int .i64 (a1 : Int)), (7, .func (.func 89) #[] #[.pointer (some ⟨b3, 0, none⟩)]), (5, .int .i64 1), (0, .int .i64 (0 - u)), (1, .int .i64 v)]) [10, 36, 35, 34, 8, 7, 5, 0, 1] (by kernel_rfl) ?_
      refine ops_nil ?_
      refine fin_then ?_
      refine st_block ?_
      refine st_loop (σ := Nat) a1 (fun a => [(10, .int .i64 1), (36, .int .i64 1), (35, .int .i64 2), (34, .slice (some ⟨b4, 0, none⟩) 2 2), (8, .int .i64 (a : Int)), (7, .func (.func 89) #[] #[.pointer (some ⟨b3, 0, none⟩)]), (5, .int .i64 1), (0, .int .i64 (0 - u)), (1, .int .i64 v)]) (fun a => Mem w [.blk b4 [.int .i64 256, .int .i64 1] 3, .blk b3 [.slice A1 65 c2] 37, .row A1 65 c2 3 1 (iv .i64 tab)]) (fun a => a ≤ 16383 ∧ Not v (0 - u) a) (fun a => 16384 - a) (by exact ⟨hba1, hloa1⟩) (look_has ⟨rfl, rfl, rfl, rfl, rfl, rfl, rfl, rfl, rfl, trivial⟩) (fun w_ hM => by exact hM) ?_
      rintro a hI
      obtain ⟨hba, hloa⟩ := hI
      have hba : a ≤ 16383 := hba
      have hloa : Not v (0 - u) a := hloa
      have ha1 : IntKind.i64.wrap ((a : Int) + 1) = ((a + 1 : Nat) : Int) := by rw [i64in (by omega) (by omega)]; omega
      have ha2 : IntKind.i64.wrap (16384 - (a : Int)) = ((16384 - a : Nat) : Int) := by rw [i64in (by omega) (by omega)]; omega
      refine st_seq ?_
      refine st_seq ?_
      refine st_region [(0, false), (1, false), (2, false), (3, false), (4, false), (5, false), (6, false), (7, false), (8, false), (9, false), (10, false), (11, false), (12, false), (13, false), (14, false), (15, false), (16, false), (17, false), (18, false), (19, false), (20, false), (21, false)] (by rfl) ?_
      refine ops_run (is := [(0, false), (1, false), (2, false)]) (r := [(3, false), (4, false), (5, false), (6, false), (7, false), (8, false), (9, false), (10, false), (11, false), (12, false), (13, false), (14, false), (15, false), (16, false), (17, false), (18, false), (19, false), (20, false), (21, false)]) (l' := [(42, .int .i64 (IntKind.i64.wrap ((a : Int) + 1))), (10, .int .i64 1), (36, .int .i64 1), (35, .int .i64 2), (34, .slice (some ⟨b4, 0, none⟩) 2 2), (8, .int .i64 (a : Int)), (7, .func (.func 89) #[] #[.pointer (some ⟨b3, 0, none⟩)]), (5, .int .i64 1), (0, .int .i64 (0 - u)), (1, .int .i64 v)]) [42, 10, 36, 35, 34, 8, 7, 5, 0, 1] (by kernel_rfl) ?_
      refine ops_conv (l' := [(42, .int .i64 ((a + 1 : Nat) : Int)), (10, .int .i64 1), (36, .int .i64 1), (35, .int .i64 2), (34, .slice (some ⟨b4, 0, none⟩) 2 2), (8, .int .i64 (a : Int)), (7, .func (.func 89) #[] #[.pointer (some ⟨b3, 0, none⟩)]), (5, .int .i64 1), (0, .int .i64 (0 - u)), (1, .int .i64 v)]) (by rw [ha1]) (fun _ h => h) ?_
      refine ops_run (is := [(3, false), (4, false)]) (r := [(5, false), (6, false), (7, false), (8, false), (9, false), (10, false), (11, false), (12, false), (13, false), (14, false), (15, false), (16, false), (17, false), (18, false), (19, false), (20, false), (21, false)]) (l' := [(44, .bool (decide (((a + 1 : Nat) : Int) < 16384))), (10, .int .i64 1), (36, .int .i64 1), (35, .int .i64 2), (34, .slice (some ⟨b4, 0, none⟩) 2 2), (8, .int .i64 (a : Int)), (7, .func (.func 89) #[] #[.pointer (some ⟨b3, 0, none⟩)]), (5, .int .i64 1), (0, .int .i64 (0 - u)), (1, .int .i64 v)]) [44, 10, 36, 35, 34, 8, 7, 5, 0, 1] (by kernel_rfl) ?_
      refine ops_bool (t := decide (((a + 1 : Nat) : Int) < 16384)) (l1 := [(44, .bool true), (10, .int .i64 1), (36, .int .i64 1), (35, .int .i64 2), (34, .slice (some ⟨b4, 0, none⟩) 2 2), (8, .int .i64 (a : Int)), (7, .func (.func 89) #[] #[.pointer (some ⟨b3, 0, none⟩)]), (5, .int .i64 1), (0, .int .i64 (0 - u)), (1, .int .i64 v)]) (l2 := [(44, .bool false), (10, .int .i64 1), (36, .int .i64 1), (35, .int .i64 2), (34, .slice (some ⟨b4, 0, none⟩) 2 2), (8, .int .i64 (a : Int)), (7, .func (.func 89) #[] #[.pointer (some ⟨b3, 0, none⟩)]), (5, .int .i64 1), (0, .int .i64 (0 - u)), (1, .int .i64 v)]) (fun h => by rw [h]) (fun h => by rw [h]) (fun hc7 => ?_) (fun hc7 => ?_)
      · --decide (((a + 1 : Nat) : Int) < 16384)
        have hlt : a + 1 < 16384 := by have := of_decide_eq_true hc7; omega
        have ha3 : IntKind.i64.wrap (((16384 - a : Nat) : Int) - 1) = ((16384 - a - 1 : Nat) : Int) := by rw [i64in (by omega) (by omega)]; omega
        have hq1 := prod_ok (a := (16384 - a - 1)) (y := (0 - u)) (by omega) hY hY1
        have hq2 := prod_ok (a := (a + 1)) (y := v) (by omega) (by omega) hX1
        have hp1 : IntKind.i64.wrap (firstV (16384 - a - 1) * (0 - u)) = firstV (16384 - a - 1) * (0 - u) := i64in (by omega) (by omega)
        have hp2 : IntKind.i64.wrap (firstV (a + 1) * v) = firstV (a + 1) * v := i64in (by omega) (by omega)
        refine ops_run (is := [(5, false), (6, false), (7, false)]) (r := [(8, false), (9, false), (10, false), (11, false), (12, false), (13, false), (14, false), (15, false), (16, false), (17, false), (18, false), (19, false), (20, false), (21, false)]) (l' := [(47, .int .i64 (IntKind.i64.wrap (16384 - (a : Int)))), (45, .func (.func 89) #[] #[.pointer (some ⟨b3, 0, none⟩)]), (44, .bool true), (10, .int .i64 1), (36, .int .i64 1), (35, .int .i64 2), (34, .slice (some ⟨b4, 0, none⟩) 2 2), (8, .int .i64 (a : Int)), (7, .func (.func 89) #[] #[.pointer (some ⟨b3, 0, none⟩)]), (5, .int .i64 1), (0, .int .i64 (0 - u)), (1, .int .i64 v)]) [47, 45, 44, 10, 36, 35, 34, 8, 7, 5, 0, 1] (by kernel_rfl) ?_
        refine ops_conv (l' := [(47, .int .i64 ((16384 - a : Nat) : Int)), (45, .func (.func 89) #[] #[.pointer (some ⟨b3, 0, none⟩)]), (44, .bool true), (10, .int .i64 1), (36, .int .i64 1), (35, .int .i64 2), (34, .slice (some ⟨b4, 0, none⟩) 2 2), (8, .int .i64 (a : Int)), (7, .func (.func 89) #[] #[.pointer (some ⟨b3, 0, none⟩)]), (5, .int .i64 1), (0, .int .i64 (0 - u)), (1, .int .i64 v)]) (by rw [ha2]) (fun _ h => h) ?_
        refine ops_run (is := [(8, false), (9, false)]) (r := [(10, false), (11, false), (12, false), (13, false), (14, false), (15, false), (16, false), (17, false), (18, false), (19, false), (20, false), (21, false)]) (l' := [(49, .int .i64 (IntKind.i64.wrap (((16384 - a : Nat) : Int) - 1))), (45, .func (.func 89) #[] #[.pointer (some ⟨b3, 0, none⟩)]), (44, .bool true), (10, .int .i64 1), (36, .int .i64 1), (35, .int .i64 2), (34, .slice (some ⟨b4, 0, none⟩) 2 2), (8, .int .i64 (a : Int)), (7, .func (.func 89) #[] #[.pointer (some ⟨b3, 0, none⟩)]), (5, .int .i64 1), (0, .int .i64 (0 - u)), (1, .int .i64 v)]) [49, 45, 44, 10, 36, 35, 34, 8, 7, 5, 0, 1] (by kernel_rfl) ?_
        refine ops_conv (l' := [(49, .int .i64 ((16384 - a - 1 : Nat) : Int)), (45, .func (.func 89) #[] #[.pointer (some ⟨b3, 0, none⟩)]), (44, .bool true), (10, .int .i64 1), (36, .int .i64 1), (35, .int .i64 2), (34, .slice (some ⟨b4, 0, none⟩) 2 2), (8, .int .i64 (a : Int)), (7, .func (.func 89) #[] #[.pointer (some ⟨b3, 0, none⟩)]), (5, .int .i64 1), (0, .int .i64 (0 - u)), (1, .int .i64 v)]) (by rw [ha3]) (fun _ h => h) ?_
        refine ops_call (σ := Unit) (d := some 50) (f := 89) (args := #[.int .i64 ((16384 - a - 1 : Nat) : Int), .pointer (some ⟨b3, 0, none⟩)]) (v := fun _ => .int .i64 (firstV (16384 - a - 1))) (M' := fun _ => Mem w [.blk b4 [.int .i64 256, .int .i64 1] 3, .blk b3 [.slice A1 65 c2] 37, .row A1 65 c2 3 1 (iv .i64 tab)]) ⟨by kernel_rfl⟩ (fun w_ hM hS => (Angle1_calls (16384 - a - 1) _ A1 c2 w_ (by omega) (hM.cell 1 rfl rfl) (hM.rints 2 rfl)).mono (by rintro e w' ⟨rfl, hb⟩; exact ⟨(), rfl, hM.step hb, trivial⟩)) (fun _ => ?_)
        refine ops_run (is := [(11, false), (12, false)]) (r := [(13, false), (14, false), (15, false), (16, false), (17, false), (18, false), (19, false), (20, false), (21, false)]) (l' := [(52, .int .i64 (IntKind.i64.wrap (firstV (16384 - a - 1) * (0 - u)))), (44, .bool true), (10, .int .i64 1), (36, .int .i64 1), (35, .int .i64 2), (34, .slice (some ⟨b4, 0, none⟩) 2 2), (8, .int .i64 (a : Int)), (7, .func (.func 89) #[] #[.pointer (some ⟨b3, 0, none⟩)]), (5, .int .i64 1), (0, .int .i64 (0 - u)), (1, .int .i64 v)]) [52, 44, 10, 36, 35, 34, 8, 7, 5, 0, 1] (by kernel_rfl) ?_
        refine ops_conv (l' := [(52, .int .i64 (firstV (16384 - a - 1) * (0 - u))), (44, .bool true), (10, .int .i64 1), (36, .int .i64 1), (35, .int .i64 2), (34, .slice (some ⟨b4, 0, none⟩) 2 2), (8, .int .i64 (a : Int)), (7, .func (.func 89) #[] #[.pointer (some ⟨b3, 0, none⟩)]), (5, .int .i64 1), (0, .int .i64 (0 - u)), (1, .int .i64 v)]) (by rw [hp1]) (fun _ h => h) ?_
        refine ops_run (is := [(13, false), (14, false), (15, false), (16, false)]) (r := [(17, false), (18, false), (19, false), (20, false), (21, false)]) (l' := [(56, .int .i64 (IntKind.i64.wrap ((a : Int) + 1))), (53, .func (.func 89) #[] #[.pointer (some ⟨b3, 0, none⟩)]), (52, .int .i64 (firstV (16384 - a - 1) * (0 - u))), (44, .bool true), (10, .int .i64 1), (36, .int .i64 1), (35, .int .i64 2), (34, .slice (some ⟨b4, 0, none⟩) 2 2), (8, .int .i64 (a : Int)), (7, .func (.func 89) #[] #[.pointer (some ⟨b3, 0, none⟩)]), (5, .int .i64 1), (0, .int .i64 (0 - u)), (1, .int .i64 v)]) [56, 53, 52, 44, 10, 36, 35, 34, 8, 7, 5, 0, 1] (by kernel_rfl) ?_
        refine ops_conv (l' := [(56, .int .i64 ((a + 1 : Nat) : Int)), (53, .func (.func 89) #[] #[.pointer (some ⟨b3, 0, none⟩)]), (52, .int .i64 (firstV (16384 - a - 1) * (0 - u))), (44, .bool true), (10, .int .i64 1), (36, .int .i64 1), (35, .int .i64 2), (34, .slice (some ⟨b4, 0, none⟩) 2 2), (8, .int .i64 (a : Int)), (7, .func (.func 89) #[] #[.pointer (some ⟨b3, 0, none⟩)]), (5, .int .i64 1), (0, .int .i64 (0 - u)), (1, .int .i64 v)]) (by rw [ha1]) (fun _ h => h) ?_
        refine ops_call (σ := Unit) (d := some 57) (f := 89) (args := #[.int .i64 ((a + 1 : Nat) : Int), .pointer (some ⟨b3, 0, none⟩)]) (v := fun _ => .int .i64 (firstV (a + 1))) (M' := fun _ => Mem w [.blk b4 [.int .i64 256, .int .i64 1] 3, .blk b3 [.slice A1 65 c2] 37, .row A1 65 c2 3 1 (iv .i64 tab)]) ⟨by kernel_rfl⟩ (fun w_ hM hS => (Angle1_calls (a + 1) _ A1 c2 w_ (by omega) (hM.cell 1 rfl rfl) (hM.rints 2 rfl)).mono (by rintro e w' ⟨rfl, hb⟩; exact ⟨(), rfl, hM.step hb, trivial⟩)) (fun _ => ?_)
        refine ops_run (is := [(18, false), (19, false)]) (r := [(20, false), (21, false)]) (l' := [(59, .int .i64 (IntKind.i64.wrap (firstV (a + 1) * v))), (52, .int .i64 (firstV (16384 - a - 1) * (0 - u))), (44, .bool true), (10, .int .i64 1), (36, .int .i64 1), (35, .int .i64 2), (34, .slice (some ⟨b4, 0, none⟩) 2 2), (8, .int .i64 (a : Int)), (7, .func (.func 89) #[] #[.pointer (some ⟨b3, 0, none⟩)]), (5, .int .i64 1), (0, .int .i64 (0 - u)), (1, .int .i64 v)]) [59, 52, 44, 10, 36, 35, 34, 8, 7, 5, 0, 1] (by kernel_rfl) ?_
        refine ops_conv (l' := [(59, .int .i64 (firstV (a + 1) * v)), (52, .int .i64 (firstV (16384 - a - 1) * (0 - u))), (44, .bool true), (10, .int .i64 1), (36, .int .i64 1), (35, .int .i64 2), (34, .slice (some ⟨b4, 0, none⟩) 2 2), (8, .int .i64 (a : Int)), (7, .func (.func 89) #[] #[.pointer (some ⟨b3, 0, none⟩)]), (5, .int .i64 1), (0, .int .i64 (0 - u)), (1, .int .i64 v)]) (by rw [hp2]) (fun _ h => h) ?_
        refine ops_run (is := [(20, false), (21, false)]) (r := []) (l' := [(61, .bool (decide ((firstV (a + 1) * v) ≤ (firstV (16384 - a - 1) * (0 - u))))), (10, .int .i64 1), (36, .int .i64 1), (35, .int .i64 2), (34, .slice (some ⟨b4, 0, none⟩) 2 2), (8, .int .i64 (a : Int)), (7, .func (.func 89) #[] #[.pointer (some ⟨b3, 0, none⟩)]), (5, .int .i64 1), (0, .int .i64 (0 - u)), (1, .int .i64 v)]) [61, 10, 36, 35, 34, 8, 7, 5, 0, 1] (by kernel_rfl) ?_
        refine ops_nil ?_
        refine fin_then ?_
        refine st_if (b := decide ((firstV (a + 1) * v) ≤ (firstV (16384 - a - 1) * (0 - u)))) rfl (fun hc8 => ?_) (fun hc8 => ?_)
        · --
          refine st_skip ?_
          refine fin_then ?_
          refine st_block ?_
          refine st_region [(0, false), (1, false), (2, false), (3, false)] (by rfl) ?_
          refine ops_run (is := [(0, false), (1, false), (2, false)]) (r := [(3, false)]) (l' := [(64, .int .i64 (IntKind.i64.wrap ((a : Int) + 1))), (10, .int .i64 1), (36, .int .i64 1), (35, .int .i64 2), (34, .slice (some ⟨b4, 0, none⟩) 2 2), (8, .int .i64 (a : Int)), (7, .func (.func 89) #[] #[.pointer (some ⟨b3, 0, none⟩)]), (5, .int .i64 1), (0, .int .i64 (0 - u)), (1, .int .i64 v)]) [64, 10, 36, 35, 34, 8, 7, 5, 0, 1] (by kernel_rfl) ?_
          refine ops_conv (l' := [(64, .int .i64 ((a + 1 : Nat) : Int)), (10, .int .i64 1), (36, .int .i64 1), (35, .int .i64 2), (34, .slice (some ⟨b4, 0, none⟩) 2 2), (8, .int .i64 (a : Int)), (7, .func (.func 89) #[] #[.pointer (some ⟨b3, 0, none⟩)]), (5, .int .i64 1), (0, .int .i64 (0 - u)), (1, .int .i64 v)]) (by rw [ha1]) (fun _ h => h) ?_
          refine ops_run (is := [(3, false)]) (r := []) (l' := [(8, .int .i64 ((a + 1 : Nat) : Int)), (10, .int .i64 1), (36, .int .i64 1), (35, .int .i64 2), (34, .slice (some ⟨b4, 0, none⟩) 2 2), (7, .func (.func 89) #[] #[.pointer (some ⟨b3, 0, none⟩)]), (5, .int .i64 1), (0, .int .i64 (0 - u)), (1, .int .i64 v)]) [8, 10, 36, 35, 34, 7, 5, 0, 1] (by kernel_rfl) ?_
          refine ops_nil ?_
          refine fin_block ?_
          refine fin_round (a + 1) (by exact ⟨show a + 1 ≤ 16383 by omega, by have z := of_decide_eq_true hc8; rwa [show 16384 - a - 1 = 16384 - (a + 1) by omega] at z⟩) (by (show 16384 - (a + 1) < 16384 - a; omega)) (look_has ⟨rfl, rfl, rfl, rfl, rfl, rfl, rfl, rfl, rfl, trivial⟩) (fun w_ hM => by exact hM)
        · --
          refine st_exit ?_
          refine fin_exit_then ?_
          refine fin_exit_then ?_
          refine fin_exit ?_
          refine fin_block ?_
          refine fin_then ?_
          refine st_region [(0, false), (1, false)] (by rfl) ?_
          refine ops_run (is := [(0, false), (1, false)]) (r := []) (l' := [(36, .int .i64 2), (35, .int .i64 2), (34, .slice (some ⟨b4, 0, none⟩) 2 2), (8, .int .i64 (a : Int)), (7, .func (.func 89) #[] #[.pointer (some ⟨b3, 0, none⟩)]), (5, .int .i64 1), (0, .int .i64 (0 - u)), (1, .int .i64 v)]) [36, 35, 34, 8, 7, 5, 0, 1] (by kernel_rfl) ?_
          refine ops_nil ?_
          refine fin_rounds ?_
          refine str_succ ?_
          refine st_seq ?_
          refine st_region [(0, false)] (by rfl) ?_
          refine ops_run (is := [(0, false)]) (r := []) (l' := [(37, .bool false), (36, .int .i64 2), (35, .int .i64 2), (34, .slice (some ⟨b4, 0, none⟩) 2 2), (8, .int .i64 (a : Int)), (7, .func (.func 89) #[] #[.pointer (some ⟨b3, 0, none⟩)]), (5, .int .i64 1), (0, .int .i64 (0 - u)), (1, .int .i64 v)]) [37, 36, 35, 34, 8, 7, 5, 0, 1] (by kernel_rfl) ?_
          refine ops_nil ?_
          refine fin_then ?_
          refine st_seq ?_
          refine st_false rfl ?_
          refine st_exit ?_
          refine fin_exit_then ?_
          refine fin_exit_then ?_
          refine fin_exit ?_
          refine fin_then ?_
          refine st_seq ?_
          refine st_region [(0, false), (1, false), (2, false), (3, false), (4, false)] (by rfl) ?_
          refine ops_run (is := [(0, false), (1, false), (2, false), (3, false)]) (r := [(4, false)]) (l' := [(69, .int .i64 (IntKind.i64.wrap (16384 + (a : Int))))]) [69] (by kernel_rfl) ?_
          refine ops_conv (l' := [(69, .int .i64 (16384 + (a : Int)))]) (by rw [(i64in (x := 16384 + (a : Int)) (by omega) (by omega))]) (fun _ h => h) ?_
          refine ops_run (is := [(4, false)]) (r := []) (l' := [(4, .int .i64 (16384 + (a : Int)))]) [4] (by kernel_rfl) ?_
          refine ops_nil ?_
          refine fin_then ?_
          refine st_ret ?_
          refine fin_ret [.tmp 4] [.int .i64 (16384 + (a : Int))] rfl rfl (fun w_ hM => (.tmp rfl .nil)) (fun w_ hM => ?_)
          refine ⟨?_, hM.done⟩
          have z := ang_eq hX hY hloa hba (by right; intro hc; have z := of_decide_eq_false hc8; rw [show 16384 - a - 1 = 16384 - (a + 1) by omega] at z; exact z hc)
          rw [← z]
          first | rfl | (simp only [theOne]; congr 2; omega)
      · --decide (((a + 1 : Nat) : Int) < 16384)
        refine ops_run (is := [(5, false), (6, false), (7, false), (8, false), (9, false), (10, false), (11, false), (12, false), (13, false), (14, false), (15, false), (16, false), (17, false), (18, false), (19, false), (20, false), (21, false)]) (r := []) (l' := [(61, .bool false), (10, .int .i64 1), (36, .int .i64 1), (35, .int .i64 2), (34, .slice (some ⟨b4, 0, none⟩) 2 2), (8, .int .i64 (a : Int)), (7, .func (.func 89) #[] #[.pointer (some ⟨b3, 0, none⟩)]), (5, .int .i64 1), (0, .int .i64 (0 - u)), (1, .int .i64 v)]) [61, 10, 36, 35, 34, 8, 7, 5, 0, 1] (by kernel_rfl) ?_
        refine ops_nil ?_
        refine fin_then ?_
        refine st_false rfl ?_
        refine st_exit ?_
        refine fin_exit_then ?_
        refine fin_exit_then ?_
        refine fin_exit ?_
        refine fin_block ?_
        refine fin_then ?_
        refine st_region [(0, false), (1, false)] (by rfl) ?_
        refine ops_run (is := [(0, false), (1, false)]) (r := []) (l' := [(36, .int .i64 2), (35, .int .i64 2), (34, .slice (some ⟨b4, 0, none⟩) 2 2), (8, .int .i64 (a : Int)), (7, .func (.func 89) #[] #[.pointer (some ⟨b3, 0, none⟩)]), (5, .int .i64 1), (0, .int .i64 (0 - u)), (1, .int .i64 v)]) [36, 35, 34, 8, 7, 5, 0, 1] (by kernel_rfl) ?_
        refine ops_nil ?_
        refine fin_rounds ?_
        refine str_succ ?_
        refine st_seq ?_
        refine st_region [(0, false)] (by rfl) ?_
        refine ops_run (is := [(0, false)]) (r := []) (l' := [(37, .bool false), (36, .int .i64 2), (35, .int .i64 2), (34, .slice (some ⟨b4, 0, none⟩) 2 2), (8, .int .i64 (a : Int)), (7, .func (.func 89) #[] #[.pointer (some ⟨b3, 0, none⟩)]), (5, .int .i64 1), (0, .int .i64 (0 - u)), (1, .int .i64 v)]) [37, 36, 35, 34, 8, 7, 5, 0, 1] (by kernel_rfl) ?_
        refine ops_nil ?_
        refine fin_then ?_
        refine st_seq ?_
        refine st_false rfl ?_
        refine st_exit ?_
        refine fin_exit_then ?_
        refine fin_exit_then ?_
        refine fin_exit ?_
        refine fin_then ?_
        refine st_seq ?_
        refine st_region [(0, false), (1, false), (2, false), (3, false), (4, false)] (by rfl) ?_
        refine ops_run (is := [(0, false), (1, false), (2, false), (3, false)]) (r := [(4, false)]) (l' := [(69, .int .i64 (IntKind.i64.wrap (16384 + (a : Int))))]) [69] (by kernel_rfl) ?_
        refine ops_conv (l' := [(69, .int .i64 (16384 + (a : Int)))]) (by rw [(i64in (x := 16384 + (a : Int)) (by omega) (by omega))]) (fun _ h => h) ?_
        refine ops_run (is := [(4, false)]) (r := []) (l' := [(4, .int .i64 (16384 + (a : Int)))]) [4] (by kernel_rfl) ?_
        refine ops_nil ?_
        refine fin_then ?_
        refine st_ret ?_
        refine fin_ret [.tmp 4] [.int .i64 (16384 + (a : Int))] rfl rfl (fun w_ hM => (.tmp rfl .nil)) (fun w_ hM => ?_)
        refine ⟨?_, hM.done⟩
        have z := ang_eq hX hY hloa hba (by left; have := of_decide_eq_false hc7; omega)
        rw [← z]
        first | rfl | (simp only [theOne]; congr 2; omega)
  · --decide (((a1 + 256 : Nat) : Int) < 16384)
    refine ops_run (is := [(5, false), (6, false), (7, false), (8, false), (9, false), (10, false), (11, false), (12, false), (13, false), (14, false), (15, false), (16, false), (17, false), (18, false), (19, false), (20, false), (21, false)]) (r := []) (l' := [(61, .bool false), (10, .int .i64 256), (36, .int .i64 0), (35, .int .i64 2), (34, .slice (some ⟨b4, 0, none⟩) 2 2), (8, .int .i64 (a1 : Int)), (7, .func (.func 89) #[] #[.pointer (some ⟨b3, 0, none⟩)]), (5, .int .i64 1), (0, .int .i64 (0 - u)), (1, .int .i64 v)]) [61, 10, 36, 35, 34, 8, 7, 5, 0, 1] (by kernel_rfl) ?_
    refine ops_nil ?_
    refine fin_then ?_
    refine st_false rfl ?_
    refine st_exit ?_
    refine fin_exit_then ?_
    refine fin_exit_then ?_
    refine fin_exit ?_
    refine fin_block ?_
    refine fin_then ?_
    refine st_region [(0, false), (1, false)] (by rfl) ?_
    refine ops_run (is := [(0, false), (1, false)]) (r := []) (l' := [(36, .int .i64 1), (35, .int .i64 2), (34, .slice (some ⟨b4, 0, none⟩) 2 2), (8, .int .i64 (a1 : Int)), (7, .func (.func 89) #[] #[.pointer (some ⟨b3, 0, none⟩)]), (5, .int .i64 1), (0, .int .i64 (0 - u)), (1, .int .i64 v)]) [36, 35, 34, 8, 7, 5, 0, 1] (by kernel_rfl) ?_
    refine ops_nil ?_
    refine fin_rounds ?_
    refine str_succ ?_
    refine st_seq ?_
    refine st_region [(0, false)] (by rfl) ?_
    refine ops_run (is := [(0, false)]) (r := []) (l' := [(37, .bool true), (36, .int .i64 1), (35, .int .i64 2), (34, .slice (some ⟨b4, 0, none⟩) 2 2), (8, .int .i64 (a1 : Int)), (7, .func (.func 89) #[] #[.pointer (some ⟨b3, 0, none⟩)]), (5, .int .i64 1), (0, .int .i64 (0 - u)), (1, .int .i64 v)]) [37, 36, 35, 34, 8, 7, 5, 0, 1] (by kernel_rfl) ?_
    refine ops_nil ?_
    refine fin_then ?_
    refine st_seq ?_
    refine st_true rfl ?_
    refine st_skip ?_
    refine fin_then ?_
    refine st_seq ?_
    refine st_block ?_
    refine st_seq ?_
    refine st_region [(0, false), (1, false), (2, false)] (by rfl) ?_
    refine ops_run (is := [(0, false)]) (r := [(1, false), (2, false)]) (l' := [(38, .pointer (some ⟨b4, 1, none⟩)), (36, .int .i64 1), (35, .int .i64 2), (34, .slice (some ⟨b4, 0, none⟩) 2 2), (8, .int .i64 (a1 : Int)), (7, .func (.func 89) #[] #[.pointer (some ⟨b3, 0, none⟩)]), (5, .int .i64 1), (0, .int .i64 (0 - u)), (1, .int .i64 v)]) [38, 36, 35, 34, 8, 7, 5, 0, 1] (by kernel_rfl) ?_
    refine ops_mem (d := some 39) (an := [.v (.int .i64 1)]) (evs := [.load ⟨b4, 1, none⟩ (.int .i64 1)]) (v := .int .i64 1) (M' := Mem w [.blk b4 [.int .i64 256, .int .i64 1] 3, .blk b3 [.slice A1 65 c2] 37, .row A1 65 c2 3 1 (iv .i64 tab)]) ⟨by kernel_rfl⟩ (fun w_ hM hS => ⟨w_, ⟨hM.cell 0 rfl rfl, rfl⟩, hM, trivial⟩) ?_
    refine ops_run (is := [(2, false)]) (r := []) (l' := [(10, .int .i64 1), (36, .int .i64 1), (35, .int .i64 2), (34, .slice (some ⟨b4, 0, none⟩) 2 2), (8, .int .i64 (a1 : Int)), (7, .func (.func 89) #[] #[.pointer (some ⟨b3, 0, none⟩)]), (5, .int .i64 1), (0, .int .i64 (0 - u)), (1, .int .i64 v)]) [10, 36, 35, 34, 8, 7, 5, 0, 1] (by kernel_rfl) ?_
    refine ops_nil ?_
    refine fin_then ?_
    refine st_block ?_
    refine st_loop (σ := Nat) a1 (fun a => [(10, .int .i64 1), (36, .int .i64 1), (35, .int .i64 2), (34, .slice (some ⟨b4, 0, none⟩) 2 2), (8, .int .i64 (a : Int)), (7, .func (.func 89) #[] #[.pointer (some ⟨b3, 0, none⟩)]), (5, .int .i64 1), (0, .int .i64 (0 - u)), (1, .int .i64 v)]) (fun a => Mem w [.blk b4 [.int .i64 256, .int .i64 1] 3, .blk b3 [.slice A1 65 c2] 37, .row A1 65 c2 3 1 (iv .i64 tab)]) (fun a => a ≤ 16383 ∧ Not v (0 - u) a) (fun a => 16384 - a) (by exact ⟨hba1, hloa1⟩) (look_has ⟨rfl, rfl, rfl, rfl, rfl, rfl, rfl, rfl, rfl, trivial⟩) (fun w_ hM => by exact hM) ?_
    rintro a hI
    obtain ⟨hba, hloa⟩ := hI
    have hba : a ≤ 16383 := hba
    have hloa : Not v (0 - u) a := hloa
    have ha1 : IntKind.i64.wrap ((a : Int) + 1) = ((a + 1 : Nat) : Int) := by rw [i64in (by omega) (by omega)]; omega
    have ha2 : IntKind.i64.wrap (16384 - (a : Int)) = ((16384 - a : Nat) : Int) := by rw [i64in (by omega) (by omega)]; omega
    refine st_seq ?_
    refine st_seq ?_
    refine st_region [(0, false), (1, false), (2, false), (3, false), (4, false), (5, false), (6, false), (7, false), (8, false), (9, false), (10, false), (11, false), (12, false), (13, false), (14, false), (15, false), (16, false), (17, false), (18, false), (19, false), (20, false), (21, false)] (by rfl) ?_
    refine ops_run (is := [(0, false), (1, false), (2, false)]) (r := [(3, false), (4, false), (5, false), (6, false), (7, false), (8, false), (9, false), (10, false), (11, false), (12, false), (13, false), (14, false), (15, false), (16, false), (17, false), (18, false), (19, false), (20, false), (21, false)]) (l' := [(42, .int .i64 (IntKind.i64.wrap ((a : Int) + 1))), (10, .int .i64 1), (36, .int .i64 1), (35, .int .i64 2), (34, .slice (some ⟨b4, 0, none⟩) 2 2), (8, .int .i64 (a : Int)), (7, .func (.func 89) #[] #[.pointer (some ⟨b3, 0, none⟩)]), (5, .int .i64 1), (0, .int .i64 (0 - u)), (1, .int .i64 v)]) [42, 10, 36, 35, 34, 8, 7, 5, 0, 1] (by kernel_rfl) ?_
    refine ops_conv (l' := [(42, .int .i64 ((a + 1 : Nat) : Int)), (10, .int .i64 1), (36, .int .i64 1), (35, .int .i64 2), (34, .slice (some ⟨b4, 0, none⟩) 2 2), (8, .int .i64 (a : Int)), (7, .func (.func 89) #[] #[.pointer (some ⟨b3, 0, none⟩)]), (5, .int .i64 1), (0, .int .i64 (0 - u)), (1, .int .i64 v)]) (by rw [ha1]) (fun _ h => h) ?_
    refine ops_run (is := [(3, false), (4, false)]) (r := [(5, false), (6, false), (7, false), (8, false), (9, false), (10, false), (11, false), (12, false), (13, false), (14, false), (15, false), (16, false), (17, false), (18, false), (19, false), (20, false), (21, false)]) (l' := [(44, .bool (decide (((a + 1 : Nat) : Int) < 16384))), (10, .int .i64 1), (36, .int .i64 1), (35, .int .i64 2), (34, .slice (some ⟨b4, 0, none⟩) 2 2), (8, .int .i64 (a : Int)), (7, .func (.func 89) #[] #[.pointer (some ⟨b3, 0, none⟩)]), (5, .int .i64 1), (0, .int .i64 (0 - u)), (1, .int .i64 v)]) [44, 10, 36, 35, 34, 8, 7, 5, 0, 1] (by kernel_rfl) ?_
    refine ops_bool (t := decide (((a + 1 : Nat) : Int) < 16384)) (l1 := [(44, .bool true), (10, .int .i64 1), (36, .int .i64 1), (35, .int .i64 2), (34, .slice (some ⟨b4, 0, none⟩) 2 2), (8, .int .i64 (a : Int)), (7, .func (.func 89) #[] #[.pointer (some ⟨b3, 0, none⟩)]), (5, .int .i64 1), (0, .int .i64 (0 - u)), (1, .int .i64 v)]) (l2 := [(44, .bool false), (10, .int .i64 1), (36, .int .i64 1), (35, .int .i64 2), (34, .slice (some ⟨b4, 0, none⟩) 2 2), (8, .int .i64 (a : Int)), (7, .func (.func 89) #[] #[.pointer (some ⟨b3, 0, none⟩)]), (5, .int .i64 1), (0, .int .i64 (0 - u)), (1, .int .i64 v)]) (fun h => by rw [h]) (fun h => by rw [h]) (fun hc9 => ?_) (fun hc9 => ?_)
    · --decide (((a + 1 : Nat) : Int) < 16384)
      have hlt : a + 1 < 16384 := by have := of_decide_eq_true hc9; omega
      have ha3 : IntKind.i64.wrap (((16384 - a : Nat) : Int) - 1) = ((16384 - a - 1 : Nat) : Int) := by rw [i64in (by omega) (by omega)]; omega
      have hq1 := prod_ok (a := (16384 - a - 1)) (y := (0 - u)) (by omega) hY hY1
      have hq2 := prod_ok (a := (a + 1)) (y := v) (by omega) (by omega) hX1
      have hp1 : IntKind.i64.wrap (firstV (16384 - a - 1) * (0 - u)) = firstV (16384 - a - 1) * (0 - u) := i64in (by omega) (by omega)
      have hp2 : IntKind.i64.wrap (firstV (a + 1) * v) = firstV (a + 1) * v := i64in (by omega) (by omega)
      refine ops_run (is := [(5, false), (6, false), (7, false)]) (r := [(8, false), (9, false), (10, false), (11, false), (12, false), (13, false), (14, false), (15, false), (16, false), (17, false), (18, false), (19, false), (20, false), (21, false)]) (l' := [(47, .int .i64 (IntKind.i64.wrap (16384 - (a : Int)))), (45, .func (.func 89) #[] #[.pointer (some ⟨b3, 0, none⟩)]), (44, .bool true), (10, .int .i64 1), (36, .int .i64 1), (35, .int .i64 2), (34, .slice (some ⟨b4, 0, none⟩) 2 2), (8, .int .i64 (a : Int)), (7, .func (.func 89) #[] #[.pointer (some ⟨b3, 0, none⟩)]), (5, .int .i64 1), (0, .int .i64 (0 - u)), (1, .int .i64 v)]) [47, 45, 44, 10, 36, 35, 34, 8, 7, 5, 0, 1] (by kernel_rfl) ?_
      refine ops_conv (l' := [(47, .int .i64 ((16384 - a : Nat) : Int)), (45, .func (.func 89) #[] #[.pointer (some ⟨b3, 0, none⟩)]), (44, .bool true), (10, .int .i64 1), (36, .int .i64 1), (35, .int .i64 2), (34, .slice (some ⟨b4, 0, none⟩) 2 2), (8, .int .i64 (a : Int)), (7, .func (.func 89) #[] #[.pointer (some ⟨b3, 0, none⟩)]), (5, .int .i64 1), (0, .int .i64 (0 - u)), (1, .int .i64 v)]) (by rw [ha2]) (fun _ h => h) ?_
      refine ops_run (is := [(8, false), (9, false)]) (r := [(10, false), (11, false), (12, false), (13, false), (14, false), (15, false), (16, false), (17, false), (18, false), (19, false), (20, false), (21, false)]) (l' := [(49, .int .i64 (IntKind.i64.wrap (((16384 - a : Nat) : Int) - 1))), (45, .func (.func 89) #[] #[.pointer (some ⟨b3, 0, none⟩)]), (44, .bool true), (10, .int .i64 1), (36, .int .i64 1), (35, .int .i64 2), (34, .slice (some ⟨b4, 0, none⟩) 2 2), (8, .int .i64 (a : Int)), (7, .func (.func 89) #[] #[.pointer (some ⟨b3, 0, none⟩)]), (5, .int .i64 1), (0, .int .i64 (0 - u)), (1, .int .i64 v)]) [49, 45, 44, 10, 36, 35, 34, 8, 7, 5, 0, 1] (by kernel_rfl) ?_
      refine ops_conv (l' := [(49, .int .i64 ((16384 - a - 1 : Nat) : Int)), (45, .func (.func 89) #[] #[.pointer (some ⟨b3, 0, none⟩)]), (44, .bool true), (10, .int .i64 1), (36, .int .i64 1), (35, .int .i64 2), (34, .slice (some ⟨b4, 0, none⟩) 2 2), (8, .int .i64 (a : Int)), (7, .func (.func 89) #[] #[.pointer (some ⟨b3, 0, none⟩)]), (5, .int .i64 1), (0, .int .i64 (0 - u)), (1, .int .i64 v)]) (by rw [ha3]) (fun _ h => h) ?_
      refine ops_call (σ := Unit) (d := some 50) (f := 89) (args := #[.int .i64 ((16384 - a - 1 : Nat) : Int), .pointer (some ⟨b3, 0, none⟩)]) (v := fun _ => .int .i64 (firstV (16384 - a - 1))) (M' := fun _ => Mem w [.blk b4 [.int .i64 256, .int .i64 1] 3, .blk b3 [.slice A1 65 c2] 37, .row A1 65 c2 3 1 (iv .i64 tab)]) ⟨by kernel_rfl⟩ (fun w_ hM hS => (Angle1_calls (16384 - a - 1) _ A1 c2 w_ (by omega) (hM.cell 1 rfl rfl) (hM.rints 2 rfl)).mono (by rintro e w' ⟨rfl, hb⟩; exact ⟨(), rfl, hM.step hb, trivial⟩)) (fun _ => ?_)
      refine ops_run (is := [(11, false), (12, false)]) (r := [(13, false), (14, false), (15, false), (16, false), (17, false), (18, false), (19, false), (20, false), (21, false)]) (l' := [(52, .int .i64 (IntKind.i64.wrap (firstV (16384 - a - 1) * (0 - u)))), (44, .bool true), (10, .int .i64 1), (36, .int .i64 1), (35, .int .i64 2), (34, .slice (some ⟨b4, 0, none⟩) 2 2), (8, .int .i64 (a : Int)), (7, .func (.func 89) #[] #[.pointer (some ⟨b3, 0, none⟩)]), (5, .int .i64 1), (0, .int .i64 (0 - u)), (1, .int .i64 v)]) [52, 44, 10, 36, 35, 34, 8, 7, 5, 0, 1] (by kernel_rfl) ?_
      refine ops_conv (l' := [(52, .int .i64 (firstV (16384 - a - 1) * (0 - u))), (44, .bool true), (10, .int .i64 1), (36, .int .i64 1), (35, .int .i64 2), (34, .slice (some ⟨b4, 0, none⟩) 2 2), (8, .int .i64 (a : Int)), (7, .func (.func 89) #[] #[.pointer (some ⟨b3, 0, none⟩)]), (5, .int .i64 1), (0, .int .i64 (0 - u)), (1, .int .i64 v)]) (by rw [hp1]) (fun _ h => h) ?_
      refine ops_run (is := [(13, false), (14, false), (15, false), (16, false)]) (r := [(17, false), (18, false), (19, false), (20, false), (21, false)]) (l' := [(56, .int .i64 (IntKind.i64.wrap ((a : Int) + 1))), (53, .func (.func 89) #[] #[.pointer (some ⟨b3, 0, none⟩)]), (52, .int .i64 (firstV (16384 - a - 1) * (0 - u))), (44, .bool true), (10, .int .i64 1), (36, .int .i64 1), (35, .int .i64 2), (34, .slice (some ⟨b4, 0, none⟩) 2 2), (8, .int .i64 (a : Int)), (7, .func (.func 89) #[] #[.pointer (some ⟨b3, 0, none⟩)]), (5, .int .i64 1), (0, .int .i64 (0 - u)), (1, .int .i64 v)]) [56, 53, 52, 44, 10, 36, 35, 34, 8, 7, 5, 0, 1] (by kernel_rfl) ?_
      refine ops_conv (l' := [(56, .int .i64 ((a + 1 : Nat) : Int)), (53, .func (.func 89) #[] #[.pointer (some ⟨b3, 0, none⟩)]), (52, .int .i64 (firstV (16384 - a - 1) * (0 - u))), (44, .bool true), (10, .int .i64 1), (36, .int .i64 1), (35, .int .i64 2), (34, .slice (some ⟨b4, 0, none⟩) 2 2), (8, .int .i64 (a : Int)), (7, .func (.func 89) #[] #[.pointer (some ⟨b3, 0, none⟩)]), (5, .int .i64 1), (0, .int .i64 (0 - u)), (1, .int .i64 v)]) (by rw [ha1]) (fun _ h => h) ?_
      refine ops_call (σ := Unit) (d := some 57) (f := 89) (args := #[.int .i64 ((a + 1 : Nat) : Int), .pointer (some ⟨b3, 0, none⟩)]) (v := fun _ => .int .i64 (firstV (a + 1))) (M' := fun _ => Mem w [.blk b4 [.int .i64 256, .int .i64 1] 3, .blk b3 [.slice A1 65 c2] 37, .row A1 65 c2 3 1 (iv .i64 tab)]) ⟨by kernel_rfl⟩ (fun w_ hM hS => (Angle1_calls (a + 1) _ A1 c2 w_ (by omega) (hM.cell 1 rfl rfl) (hM.rints 2 rfl)).mono (by rintro e w' ⟨rfl, hb⟩; exact ⟨(), rfl, hM.step hb, trivial⟩)) (fun _ => ?_)
      refine ops_run (is := [(18, false), (19, false)]) (r := [(20, false), (21, false)]) (l' := [(59, .int .i64 (IntKind.i64.wrap (firstV (a + 1) * v))), (52, .int .i64 (firstV (16384 - a - 1) * (0 - u))), (44, .bool true), (10, .int .i64 1), (36, .int .i64 1), (35, .int .i64 2), (34, .slice (some ⟨b4, 0, none⟩) 2 2), (8, .int .i64 (a : Int)), (7, .func (.func 89) #[] #[.pointer (some ⟨b3, 0, none⟩)]), (5, .int .i64 1), (0, .int .i64 (0 - u)), (1, .int .i64 v)]) [59, 52, 44, 10, 36, 35, 34, 8, 7, 5, 0, 1] (by kernel_rfl) ?_
      refine ops_conv (l' := [(59, .int .i64 (firstV (a + 1) * v)), (52, .int .i64 (firstV (16384 - a - 1) * (0 - u))), (44, .bool true), (10, .int .i64 1), (36, .int .i64 1), (35, .int .i64 2), (34, .slice (some ⟨b4, 0, none⟩) 2 2), (8, .int .i64 (a : Int)), (7, .func (.func 89) #[] #[.pointer (some ⟨b3, 0, none⟩)]), (5, .int .i64 1), (0, .int .i64 (0 - u)), (1, .int .i64 v)]) (by rw [hp2]) (fun _ h => h) ?_
      refine ops_run (is := [(20, false), (21, false)]) (r := []) (l' := [(61, .bool (decide ((firstV (a + 1) * v) ≤ (firstV (16384 - a - 1) * (0 - u))))), (10, .int .i64 1), (36, .int .i64 1), (35, .int .i64 2), (34, .slice (some ⟨b4, 0, none⟩) 2 2), (8, .int .i64 (a : Int)), (7, .func (.func 89) #[] #[.pointer (some ⟨b3, 0, none⟩)]), (5, .int .i64 1), (0, .int .i64 (0 - u)), (1, .int .i64 v)]) [61, 10, 36, 35, 34, 8, 7, 5, 0, 1] (by kernel_rfl) ?_
      refine ops_nil ?_
      refine fin_then ?_
      refine st_if (b := decide ((firstV (a + 1) * v) ≤ (firstV (16384 - a - 1) * (0 - u)))) rfl (fun hc10 => ?_) (fun hc10 => ?_)
      · --
        refine st_skip ?_
        refine fin_then ?_
        refine st_block ?_
        refine st_region [(0, false), (1, false), (2, false), (3, false)] (by rfl) ?_
        refine ops_run (is := [(0, false), (1, false), (2, false)]) (r := [(3, false)]) (l' := [(64, .int .i64 (IntKind.i64.wrap ((a : Int) + 1))), (10, .int .i64 1), (36, .int .i64 1), (35, .int .i64 2), (34, .slice (some ⟨b4, 0, none⟩) 2 2), (8, .int .i64 (a : Int)), (7, .func (.func 89) #[] #[.pointer (some ⟨b3, 0, none⟩)]), (5, .int .i64 1), (0, .int .i64 (0 - u)), (1, .int .i64 v)]) [64, 10, 36, 35, 34, 8, 7, 5, 0, 1] (by kernel_rfl) ?_
        refine ops_conv (l' := [(64, .int .i64 ((a + 1 : Nat) : Int)), (10, .int .i64 1), (36, .int .i64 1), (35, .int .i64 2), (34, .slice (some ⟨b4, 0, none⟩) 2 2), (8, .int .i64 (a : Int)), (7, .func (.func 89) #[] #[.pointer (some ⟨b3, 0, none⟩)]), (5, .int .i64 1), (0, .int .i64 (0 - u)), (1, .int .i64 v)]) (by rw [ha1]) (fun _ h => h) ?_
        refine ops_run (is := [(3, false)]) (r := []) (l' := [(8, .int .i64 ((a + 1 : Nat) : Int)), (10, .int .i64 1), (36, .int .i64 1), (35, .int .i64 2), (34, .slice (some ⟨b4, 0, none⟩) 2 2), (7, .func (.func 89) #[] #[.pointer (some ⟨b3, 0, none⟩)]), (5, .int .i64 1), (0, .int .i64 (0 - u)), (1, .int .i64 v)]) [8, 10, 36, 35, 34, 7, 5, 0, 1] (by kernel_rfl) ?_
        refine ops_nil ?_
        refine fin_block ?_
        refine fin_round (a + 1) (by exact ⟨show a + 1 ≤ 16383 by omega, by have z := of_decide_eq_true hc10; rwa [show 16384 - a - 1 = 16384 - (a + 1) by omega] at z⟩) (by (show 16384 - (a + 1) < 16384 - a; omega)) (look_has ⟨rfl, rfl, rfl, rfl, rfl, rfl, rfl, rfl, rfl, trivial⟩) (fun w_ hM => by exact hM)
      · --
        refine st_exit ?_
        refine fin_exit_then ?_
        refine fin_exit_then ?_
        refine fin_exit ?_
        refine fin_block ?_
        refine fin_then ?_
        refine st_region [(0, false), (1, false)] (by rfl) ?_
        refine ops_run (is := [(0, false), (1, false)]) (r := []) (l' := [(36, .int .i64 2), (35, .int .i64 2), (34, .slice (some ⟨b4, 0, none⟩) 2 2), (8, .int .i64 (a : Int)), (7, .func (.func 89) #[] #[.pointer (some ⟨b3, 0, none⟩)]), (5, .int .i64 1), (0, .int .i64 (0 - u)), (1, .int .i64 v)]) [36, 35, 34, 8, 7, 5, 0, 1] (by kernel_rfl) ?_
        refine ops_nil ?_
        refine fin_rounds ?_
        refine str_succ ?_
        refine st_seq ?_
        refine st_region [(0, false)] (by rfl) ?_
        refine ops_run (is := [(0, false)]) (r := []) (l' := [(37, .bool false), (36, .int .i64 2), (35, .int .i64 2), (34, .slice (some ⟨b4, 0, none⟩) 2 2), (8, .int .i64 (a : Int)), (7, .func (.func 89) #[] #[.pointer (some ⟨b3, 0, none⟩)]), (5, .int .i64 1), (0, .int .i64 (0 - u)), (1, .int .i64 v)]) [37, 36, 35, 34, 8, 7, 5, 0, 1] (by kernel_rfl) ?_
        refine ops_nil ?_
        refine fin_then ?_
        refine st_seq ?_
        refine st_false rfl ?_
        refine st_exit ?_
        refine fin_exit_then ?_
        refine fin_exit_then ?_
        refine fin_exit ?_
        refine fin_then ?_
        refine st_seq ?_
        refine st_region [(0, false), (1, false), (2, false), (3, false), (4, false)] (by rfl) ?_
        refine ops_run (is := [(0, false), (1, false), (2, false), (3, false)]) (r := [(4, false)]) (l' := [(69, .int .i64 (IntKind.i64.wrap (16384 + (a : Int))))]) [69] (by kernel_rfl) ?_
        refine ops_conv (l' := [(69, .int .i64 (16384 + (a : Int)))]) (by rw [(i64in (x := 16384 + (a : Int)) (by omega) (by omega))]) (fun _ h => h) ?_
        refine ops_run (is := [(4, false)]) (r := []) (l' := [(4, .int .i64 (16384 + (a : Int)))]) [4] (by kernel_rfl) ?_
        refine ops_nil ?_
        refine fin_then ?_
        refine st_ret ?_
        refine fin_ret [.tmp 4] [.int .i64 (16384 + (a : Int))] rfl rfl (fun w_ hM => (.tmp rfl .nil)) (fun w_ hM => ?_)
        refine ⟨?_, hM.done⟩
        have z := ang_eq hX hY hloa hba (by right; intro hc; have z := of_decide_eq_false hc10; rw [show 16384 - a - 1 = 16384 - (a + 1) by omega] at z; exact z hc)
        rw [← z]
        first | rfl | (simp only [theOne]; congr 2; omega)
    · --decide (((a + 1 : Nat) : Int) < 16384)
      refine ops_run (is := [(5, false), (6, false), (7, false), (8, false), (9, false), (10, false), (11, false), (12, false), (13, false), (14, false), (15, false), (16, false), (17, false), (18, false), (19, false), (20, false), (21, false)]) (r := []) (l' := [(61, .bool false), (10, .int .i64 1), (36, .int .i64 1), (35, .int .i64 2), (34, .slice (some ⟨b4, 0, none⟩) 2 2), (8, .int .i64 (a : Int)), (7, .func (.func 89) #[] #[.pointer (some ⟨b3, 0, none⟩)]), (5, .int .i64 1), (0, .int .i64 (0 - u)), (1, .int .i64 v)]) [61, 10, 36, 35, 34, 8, 7, 5, 0, 1] (by kernel_rfl) ?_
      refine ops_nil ?_
      refine fin_then ?_
      refine st_false rfl ?_
      refine st_exit ?_
      refine fin_exit_then ?_
      refine fin_exit_then ?_
      refine fin_exit ?_
      refine fin_block ?_
      refine fin_then ?_
      refine st_region [(0, false), (1, false)] (by rfl) ?_
      refine ops_run (is := [(0, false), (1, false)]) (r := []) (l' := [(36, .int .i64 2), (35, .int .i64 2), (34, .slice (some ⟨b4, 0, none⟩) 2 2), (8, .int .i64 (a : Int)), (7, .func (.func 89) #[] #[.pointer (some ⟨b3, 0, none⟩)]), (5, .int .i64 1), (0, .int .i64 (0 - u)), (1, .int .i64 v)]) [36, 35, 34, 8, 7, 5, 0, 1] (by kernel_rfl) ?_
      refine ops_nil ?_
      refine fin_rounds ?_
      refine str_succ ?_
      refine st_seq ?_
      refine st_region [(0, false)] (by rfl) ?_
      refine ops_run (is := [(0, false)]) (r := []) (l' := [(37, .bool false), (36, .int .i64 2), (35, .int .i64 2), (34, .slice (some ⟨b4, 0, none⟩) 2 2), (8, .int .i64 (a : Int)), (7, .func (.func 89) #[] #[.pointer (some ⟨b3, 0, none⟩)]), (5, .int .i64 1), (0, .int .i64 (0 - u)), (1, .int .i64 v)]) [37, 36, 35, 34, 8, 7, 5, 0, 1] (by kernel_rfl) ?_
      refine ops_nil ?_
      refine fin_then ?_
      refine st_seq ?_
      refine st_false rfl ?_
      refine st_exit ?_
      refine fin_exit_then ?_
      refine fin_exit_then ?_
      refine fin_exit ?_
      refine fin_then ?_
      refine st_seq ?_
      refine st_region [(0, false), (1, false), (2, false), (3, false), (4, false)] (by rfl) ?_
      refine ops_run (is := [(0, false), (1, false), (2, false), (3, false)]) (r := [(4, false)]) (l' := [(69, .int .i64 (IntKind.i64.wrap (16384 + (a : Int))))]) [69] (by kernel_rfl) ?_
      refine ops_conv (l' := [(69, .int .i64 (16384 + (a : Int)))]) (by rw [(i64in (x := 16384 + (a : Int)) (by omega) (by omega))]) (fun _ h => h) ?_
      refine ops_run (is := [(4, false)]) (r := []) (l' := [(4, .int .i64 (16384 + (a : Int)))]) [4] (by kernel_rfl) ?_
      refine ops_nil ?_
      refine fin_then ?_
      refine st_ret ?_
      refine fin_ret [.tmp 4] [.int .i64 (16384 + (a : Int))] rfl rfl (fun w_ hM => (.tmp rfl .nil)) (fun w_ hM => ?_)
      refine ⟨?_, hM.done⟩
      have z := ang_eq hX hY hloa hba (by left; have := of_decide_eq_false hc9; omega)
      rw [← z]
      first | rfl | (simp only [theOne]; congr 2; omega)
end Go.Proofs.Ytdmlapkindoghaa.WAng2
