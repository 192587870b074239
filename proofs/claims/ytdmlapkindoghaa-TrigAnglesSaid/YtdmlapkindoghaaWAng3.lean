/- Walks of the reference's Angle, the other quarters; the law TrigAngles. No condition. -/
import Derived.Test.YtdmlapkindoghaaProg
import Derived.Test.YtdmlapkindoghaaSxOps
import Derived.Test.YtdmlapkindoghaaAngSpec
import Derived.Test.YtdmlapkindoghaaWTrig
import Derived.Test.YtdmlapkindoghaaWClamp
import Derived.Test.YtdmlapkindoghaaWAng
import Derived.Test.YtdmlapkindoghaaWAng2
namespace Go.Proofs.Ytdmlapkindoghaa.WAng3
open Go Go.RowKit Go.Proofs.Ytdmlapkindoghaa.Sx Go.Proofs.Ytdmlapkindoghaa.Rnd Go.Proofs.Ytdmlapkindoghaa.Trig Go.Proofs.Ytdmlapkindoghaa.Ang Go.Proofs.Ytdmlapkindoghaa.WTrig Go.Proofs.Ytdmlapkindoghaa.WClamp Go.Proofs.Ytdmlapkindoghaa.WAng Go.Proofs.Ytdmlapkindoghaa.WAng2
set_option linter.unusedVariables false
set_option linter.unusedSimpArgs false
set_option maxHeartbeats 4000000 in
set_option maxRecDepth 100000 in
theorem Angle_2 (y x u v : Int) (w : World) (hu : min (max x (-1099511627776)) 1099511627776 = u) (hv : min (max y (-1099511627776)) 1099511627776 = v) (hq : u < 0 ∧ v ≤ 0) : Calls Try.prog 74 #[.int .i64 y, .int .i64 x] w fun e w' => e = .returned (.int .i64 (32768 + ang (0 - u) (0 - v))) ∧ Below w.heap.size w w' := by
  have hu0 : -1099511627776 ≤ u ∧ u ≤ 1099511627776 := by omega
  have hv0 : -1099511627776 ≤ v ∧ v ≤ 1099511627776 := by omega
  have h00 : 0 - (0 - u) = u := by omega
  have h01 : IntKind.i64.wrap (0 - (0 - u)) = u := by rw [i64in (by omega) (by omega)]; omega
  have hkn0 : (u == 0) = false := by simp; omega
  have hkn1 : decide (u ≤ 0) = true := by simp; omega
  have hkn2 : decide (v ≤ 0) = true := by simp; omega
  have hkn3 : decide ((0 - u) ≤ 0) = false := by simp; omega
  have hkn4 : decide ((0 - v) < 0) = false := by simp; omega
  refine sx_calls Try.func74 rfl (n := 70) (by kernel_rfl) (l := [(0, .int .i64 y), (1, .int .i64 x)]) rfl (by rfl) (Mem.nil w) ?_
  refine st_seq ?_
  refine st_region [(0, false)] (by rfl) ?_
  refine ops_run (is := [(0, false)]) (r := []) (l' := [(0, .int .i64 y), (1, .int .i64 x)]) [0, 1] (by kernel_rfl) ?_
  refine ops_nil ?_
  refine fin_then ?_
  refine st_seq ?_
  refine st_region [(0, false), (1, false), (2, false), (3, false), (4, false), (5, false)] (by rfl) ?_
  refine ops_run (is := [(0, false)]) (r := [(1, false), (2, false), (3, false), (4, false), (5, false)]) (l' := [(11, .int .i64 x), (0, .int .i64 y), (1, .int .i64 x)]) [11, 0, 1] (by kernel_rfl) ?_
  refine ops_call (σ := Unit) (d := some 12) (f := 77) (args := #[.int .i64 x]) (v := fun _ => .int .i64 (min (max x (-1099511627776)) 1099511627776)) (M' := fun _ => Mem w []) ⟨by kernel_rfl⟩ (fun w_ hM hS => (Limit_calls x w_).mono (by rintro e w' ⟨rfl, hb⟩; exact ⟨(), rfl, hM.step hb, trivial⟩)) (fun _ => ?_)
  refine ops_run (is := []) (r := [(2, false), (3, false), (4, false), (5, false)]) (l' := [(12, .int .i64 (min (max x (-1099511627776)) 1099511627776)), (0, .int .i64 y), (1, .int .i64 x)]) [12, 0, 1] (by kernel_rfl) ?_
  refine ops_conv (l' := [(12, .int .i64 u), (0, .int .i64 y), (1, .int .i64 x)]) (by rw [hu]) (fun _ h => h) ?_
  refine ops_run (is := [(2, false)]) (r := [(3, false), (4, false), (5, false)]) (l' := [(13, .int .i64 y), (12, .int .i64 u), (0, .int .i64 y), (1, .int .i64 x)]) [13, 12, 0, 1] (by kernel_rfl) ?_
  refine ops_call (σ := Unit) (d := some 14) (f := 77) (args := #[.int .i64 y]) (v := fun _ => .int .i64 (min (max y (-1099511627776)) 1099511627776)) (M' := fun _ => Mem w []) ⟨by kernel_rfl⟩ (fun w_ hM hS => (Limit_calls y w_).mono (by rintro e w' ⟨rfl, hb⟩; exact ⟨(), rfl, hM.step hb, trivial⟩)) (fun _ => ?_)
  refine ops_run (is := []) (r := [(4, false), (5, false)]) (l' := [(14, .int .i64 (min (max y (-1099511627776)) 1099511627776)), (12, .int .i64 u), (0, .int .i64 y), (1, .int .i64 x)]) [14, 12, 0, 1] (by kernel_rfl) ?_
  refine ops_conv (l' := [(14, .int .i64 v), (12, .int .i64 u), (0, .int .i64 y), (1, .int .i64 x)]) (by rw [hv]) (fun _ h => h) ?_
  refine ops_run (is := [(4, false), (5, false)]) (r := []) (l' := [(0, .int .i64 v), (1, .int .i64 u)]) [0, 1] (by kernel_rfl) ?_
  refine ops_nil ?_
  refine fin_then ?_
  refine st_seq ?_
  refine st_seq ?_
  refine st_region [(0, false), (1, false), (2, false), (3, false), (4, false), (5, false)] (by rfl) ?_
  refine ops_run (is := [(0, false), (1, false), (2, false)]) (r := [(3, false), (4, false), (5, false)]) (l' := [(17, .bool (u == 0)), (0, .int .i64 v), (1, .int .i64 u)]) [17, 0, 1] (by kernel_rfl) ?_
  refine ops_conv (l' := [(17, .bool false), (0, .int .i64 v), (1, .int .i64 u)]) (by rw [hkn0]) (fun _ h => h) ?_
  refine ops_run (is := [(3, false), (4, false), (5, false)]) (r := []) (l' := [(20, .bool false), (0, .int .i64 v), (1, .int .i64 u)]) [20, 0, 1] (by kernel_rfl) ?_
  refine ops_nil ?_
  refine fin_then ?_
  refine st_false rfl ?_
  refine st_skip ?_
  refine fin_then ?_
  refine st_seq ?_
  refine st_region [(0, false)] (by rfl) ?_
  refine ops_run (is := [(0, false)]) (r := []) (l' := [(5, .int .i64 0), (0, .int .i64 v), (1, .int .i64 u)]) [5, 0, 1] (by kernel_rfl) ?_
  refine ops_nil ?_
  refine fin_then ?_
  refine st_seq ?_
  refine st_block ?_
  refine st_unroll 6 ?_
  refine str_succ ?_
  refine st_seq ?_
  refine st_seq ?_
  refine st_region [(0, false), (1, false), (2, false), (3, false), (4, false), (5, false)] (by rfl) ?_
  refine ops_run (is := [(0, false), (1, false), (2, false)]) (r := [(3, false), (4, false), (5, false)]) (l' := [(23, .bool (decide (u ≤ 0))), (5, .int .i64 0), (0, .int .i64 v), (1, .int .i64 u)]) [23, 5, 0, 1] (by kernel_rfl) ?_
  refine ops_conv (l' := [(23, .bool true), (5, .int .i64 0), (0, .int .i64 v), (1, .int .i64 u)]) (by rw [hkn1]) (fun _ h => h) ?_
  refine ops_run (is := [(3, false), (4, false), (5, false)]) (r := []) (l' := [(26, .bool true), (5, .int .i64 0), (0, .int .i64 v), (1, .int .i64 u)]) [26, 5, 0, 1] (by kernel_rfl) ?_
  refine ops_nil ?_
  refine fin_then ?_
  refine st_true rfl ?_
  refine st_skip ?_
  refine fin_then ?_
  refine st_block ?_
  refine st_region [(0, false), (1, false), (2, false), (3, false), (4, false), (5, false), (6, false), (7, false)] (by rfl) ?_
  refine ops_run (is := [(0, false), (1, false), (2, false)]) (r := [(3, false), (4, false), (5, false), (6, false), (7, false)]) (l' := [(29, .int .i64 (IntKind.i64.wrap (0 - u))), (27, .int .i64 v), (5, .int .i64 0), (0, .int .i64 v), (1, .int .i64 u)]) [29, 27, 5, 0, 1] (by kernel_rfl) ?_
  refine ops_conv (l' := [(29, .int .i64 (0 - u)), (27, .int .i64 v), (5, .int .i64 0), (0, .int .i64 v), (1, .int .i64 u)]) (by rw [(i64in (x := 0 - u) (by omega) (by omega))]) (fun _ h => h) ?_
  refine ops_run (is := [(3, false), (4, false), (5, false), (6, false), (7, false)]) (r := []) (l' := [(5, .int .i64 1), (0, .int .i64 (0 - u)), (1, .int .i64 v)]) [5, 0, 1] (by kernel_rfl) ?_
  refine ops_nil ?_
  refine fin_block ?_
  refine fin_rounds ?_
  refine str_succ ?_
  refine st_seq ?_
  refine st_seq ?_
  refine st_region [(0, false), (1, false), (2, false), (3, false), (4, false), (5, false)] (by rfl) ?_
  refine ops_run (is := [(0, false), (1, false), (2, false)]) (r := [(3, false), (4, false), (5, false)]) (l' := [(23, .bool (decide (v ≤ 0))), (5, .int .i64 1), (0, .int .i64 (0 - u)), (1, .int .i64 v)]) [23, 5, 0, 1] (by kernel_rfl) ?_
  refine ops_conv (l' := [(23, .bool true), (5, .int .i64 1), (0, .int .i64 (0 - u)), (1, .int .i64 v)]) (by rw [hkn2]) (fun _ h => h) ?_
  refine ops_run (is := [(3, false), (4, false), (5, false)]) (r := []) (l' := [(26, .bool true), (5, .int .i64 1), (0, .int .i64 (0 - u)), (1, .int .i64 v)]) [26, 5, 0, 1] (by kernel_rfl) ?_
  refine ops_nil ?_
  refine fin_then ?_
  refine st_true rfl ?_
  refine st_skip ?_
  refine fin_then ?_
  refine st_block ?_
  refine st_region [(0, false), (1, false), (2, false), (3, false), (4, false), (5, false), (6, false), (7, false)] (by rfl) ?_
  refine ops_run (is := [(0, false), (1, false), (2, false)]) (r := [(3, false), (4, false), (5, false), (6, false), (7, false)]) (l' := [(29, .int .i64 (IntKind.i64.wrap (0 - v))), (27, .int .i64 (0 - u)), (5, .int .i64 1), (0, .int .i64 (0 - u)), (1, .int .i64 v)]) [29, 27, 5, 0, 1] (by kernel_rfl) ?_
  refine ops_conv (l' := [(29, .int .i64 (0 - v)), (27, .int .i64 (0 - u)), (5, .int .i64 1), (0, .int .i64 (0 - u)), (1, .int .i64 v)]) (by rw [(i64in (x := 0 - v) (by omega) (by omega))]) (fun _ h => h) ?_
  refine ops_run (is := [(3, false), (4, false), (5, false), (6, false), (7, false)]) (r := []) (l' := [(5, .int .i64 2), (0, .int .i64 (0 - v)), (1, .int .i64 (0 - u))]) [5, 0, 1] (by kernel_rfl) ?_
  refine ops_nil ?_
  refine fin_block ?_
  refine fin_rounds ?_
  refine str_succ ?_
  refine st_seq ?_
  refine st_seq ?_
  refine st_region [(0, false), (1, false), (2, false), (3, false), (4, false), (5, false)] (by rfl) ?_
  refine ops_run (is := [(0, false), (1, false), (2, false)]) (r := [(3, false), (4, false), (5, false)]) (l' := [(23, .bool (decide ((0 - u) ≤ 0))), (5, .int .i64 2), (0, .int .i64 (0 - v)), (1, .int .i64 (0 - u))]) [23, 5, 0, 1] (by kernel_rfl) ?_
  refine ops_conv (l' := [(23, .bool false), (5, .int .i64 2), (0, .int .i64 (0 - v)), (1, .int .i64 (0 - u))]) (by rw [hkn3]) (fun _ h => h) ?_
  refine ops_run (is := [(3, false), (4, false), (5, false)]) (r := []) (l' := [(26, .bool (decide ((0 - v) < 0))), (5, .int .i64 2), (0, .int .i64 (0 - v)), (1, .int .i64 (0 - u))]) [26, 5, 0, 1] (by kernel_rfl) ?_
  refine ops_nil ?_
  refine fin_then ?_
  refine st_conv (l' := [(26, .bool false), (5, .int .i64 2), (0, .int .i64 (0 - v)), (1, .int .i64 (0 - u))]) (by rw [hkn4]) (fun _ h => h) ?_
  refine st_false rfl ?_
  refine st_exit ?_
  refine fin_exit_then ?_
  refine fin_exit_then ?_
  refine fin_exit ?_
  refine fin_then ?_
  refine st_seq ?_
  refine st_region [(0, false), (1, false), (2, false)] (by rfl) ?_
  refine ops_run (is := []) (r := [(0, false), (1, false), (2, false)]) (l' := [(5, .int .i64 2), (0, .int .i64 (0 - v)), (1, .int .i64 (0 - u))]) [5, 0, 1] (by kernel_rfl) ?_
  refine ops_call (σ := Option Addr × Nat) (d := some 32) (f := 81) (args := #[]) (v := fun x_ => match x_ with | (A1, c2) => .slice A1 65 c2) (M' := fun x_ => match x_ with | (A1, c2) => Mem w [.row A1 65 c2 3 1 (iv .i64 tab)]) ⟨by kernel_rfl⟩ (fun w_ hM hS => (sines_calls w_).mono (by rintro e w' ⟨x_, rfl, h2⟩; exact ⟨x_, rfl, hM.join h2 rfl, trivial⟩)) ?_
  rintro ⟨A1, c2⟩
  refine ops_conv (l' := [(32, .slice A1 65 c2), (5, .int .i64 2), (0, .int .i64 (0 - v)), (1, .int .i64 (0 - u))]) (M' := Mem w [.row A1 65 c2 3 1 (iv .i64 tab)]) rfl (fun _ h => h) ?_
  refine ops_run (is := []) (r := [(1, false), (2, false)]) (l' := [(32, .slice A1 65 c2), (5, .int .i64 2), (0, .int .i64 (0 - v)), (1, .int .i64 (0 - u))]) [32, 5, 0, 1] (by kernel_rfl) ?_
  refine ops_new (d := some 6) (o := .cells #[.slice none 0 0] 37) (v := fun b3 => .pointer (some ⟨b3, 0, none⟩)) (M' := fun b3 => Mem w [.blk b3 [.slice none 0 0] 37, .row A1 65 c2 3 1 (iv .i64 tab)]) (fun b3 => ⟨by kernel_rfl⟩) (fun w_ hM hS => ⟨hM.blk [.slice none 0 0] 37, trivial⟩) (fun b3 => ?_)
  refine ops_run (is := []) (r := [(2, false)]) (l' := [(6, .pointer (some ⟨b3, 0, none⟩)), (32, .slice A1 65 c2), (5, .int .i64 2), (0, .int .i64 (0 - v)), (1, .int .i64 (0 - u))]) [6, 32, 5, 0, 1] (by kernel_rfl) ?_
  refine ops_store (an := []) (evs := [.store ⟨b3, 0, none⟩ (.slice A1 65 c2)]) (M' := Mem w [.blk b3 [.slice A1 65 c2] 37, .row A1 65 c2 3 1 (iv .i64 tab)]) ⟨by kernel_rfl⟩ (fun w_ hM hS => let ⟨w', he, h'⟩ := hM.evs_stores [.slice A1 65 c2] 0 rfl 0 (Nat.le_of_ble_eq_true rfl); ⟨w', he, h', trivial⟩) ?_
  refine ops_run (is := []) (r := []) (l' := [(6, .pointer (some ⟨b3, 0, none⟩)), (5, .int .i64 2), (0, .int .i64 (0 - v)), (1, .int .i64 (0 - u))]) [6, 5, 0, 1] (by kernel_rfl) ?_
  refine ops_nil ?_
  refine fin_then ?_
  refine st_seq ?_
  refine st_region [(0, false), (1, false)] (by rfl) ?_
  refine ops_run (is := [(0, false), (1, false)]) (r := []) (l' := [(7, .func (.func 89) #[] #[.pointer (some ⟨b3, 0, none⟩)]), (5, .int .i64 2), (0, .int .i64 (0 - v)), (1, .int .i64 (0 - u))]) [7, 5, 0, 1] (by kernel_rfl) ?_
  refine ops_nil ?_
  refine fin_then ?_
  refine st_seq ?_
  refine st_region [(0, false)] (by rfl) ?_
  refine ops_run (is := [(0, false)]) (r := []) (l' := [(8, .int .i64 0), (7, .func (.func 89) #[] #[.pointer (some ⟨b3, 0, none⟩)]), (5, .int .i64 2), (0, .int .i64 (0 - v)), (1, .int .i64 (0 - u))]) [8, 7, 5, 0, 1] (by kernel_rfl) ?_
  refine ops_nil ?_
  refine fin_then ?_
  refine st_seq ?_
  refine st_seq ?_
  refine st_region [(0, false), (1, false), (2, false)] (by rfl) ?_
  refine ops_new (d := some 34) (o := .cells #[.int .i64 256, .int .i64 1] 3) (v := fun b4 => .slice (some ⟨b4, 0, none⟩) 2 2) (M' := fun b4 => Mem w [.blk b4 [.int .i64 256, .int .i64 1] 3, .blk b3 [.slice A1 65 c2] 37, .row A1 65 c2 3 1 (iv .i64 tab)]) (fun b4 => ⟨by kernel_rfl⟩) (fun w_ hM hS => ⟨hM.blk [.int .i64 256, .int .i64 1] 3, trivial⟩) (fun b4 => ?_)
  refine ops_run (is := [(1, false), (2, false)]) (r := []) (l' := [(36, .int .i64 0), (35, .int .i64 2), (34, .slice (some ⟨b4, 0, none⟩) 2 2), (8, .int .i64 0), (7, .func (.func 89) #[] #[.pointer (some ⟨b3, 0, none⟩)]), (5, .int .i64 2), (0, .int .i64 (0 - v)), (1, .int .i64 (0 - u))]) [36, 35, 34, 8, 7, 5, 0, 1] (by kernel_rfl) ?_
  refine ops_nil ?_
  refine fin_then ?_
  refine st_block ?_
  have hX : 0 < (0 - u) := by omega
  have hY : 0 ≤ (0 - v) := by omega
  have hX1 : (0 - u) ≤ 1099511627776 := by omega
  have hY1 : (0 - v) ≤ 1099511627776 := by omega
  refine st_unroll 4 ?_
  refine str_succ ?_
  refine st_seq ?_
  refine st_region [(0, false)] (by rfl) ?_
  refine ops_run (is := [(0, false)]) (r := []) (l' := [(37, .bool true), (36, .int .i64 0), (35, .int .i64 2), (34, .slice (some ⟨b4, 0, none⟩) 2 2), (8, .int .i64 0), (7, .func (.func 89) #[] #[.pointer (some ⟨b3, 0, none⟩)]), (5, .int .i64 2), (0, .int .i64 (0 - v)), (1, .int .i64 (0 - u))]) [37, 36, 35, 34, 8, 7, 5, 0, 1] (by kernel_rfl) ?_
  refine ops_nil ?_
  refine fin_then ?_
  refine st_seq ?_
  refine st_true rfl ?_
  refine st_skip ?_
  refine fin_then ?_
  refine st_seq ?_
  refine st_block ?_
  refine st_seq ?_
  refine st_region [(0, false), (1, false), (2, false)] (by rfl) ?_
  refine ops_run (is := [(0, false)]) (r := [(1, false), (2, false)]) (l' := [(38, .pointer (some ⟨b4, 0, none⟩)), (36, .int .i64 0), (35, .int .i64 2), (34, .slice (some ⟨b4, 0, none⟩) 2 2), (8, .int .i64 0), (7, .func (.func 89) #[] #[.pointer (some ⟨b3, 0, none⟩)]), (5, .int .i64 2), (0, .int .i64 (0 - v)), (1, .int .i64 (0 - u))]) [38, 36, 35, 34, 8, 7, 5, 0, 1] (by kernel_rfl) ?_
  refine ops_mem (d := some 39) (an := [.v (.int .i64 256)]) (evs := [.load ⟨b4, 0, none⟩ (.int .i64 256)]) (v := .int .i64 256) (M' := Mem w [.blk b4 [.int .i64 256, .int .i64 1] 3, .blk b3 [.slice A1 65 c2] 37, .row A1 65 c2 3 1 (iv .i64 tab)]) ⟨by kernel_rfl⟩ (fun w_ hM hS => ⟨w_, ⟨hM.cell 0 rfl rfl, rfl⟩, hM, trivial⟩) ?_
  refine ops_run (is := [(2, false)]) (r := []) (l' := [(10, .int .i64 256), (36, .int .i64 0), (35, .int .i64 2), (34, .slice (some ⟨b4, 0, none⟩) 2 2), (8, .int .i64 0), (7, .func (.func 89) #[] #[.pointer (some ⟨b3, 0, none⟩)]), (5, .int .i64 2), (0, .int .i64 (0 - v)), (1, .int .i64 (0 - u))]) [10, 36, 35, 34, 8, 7, 5, 0, 1] (by kernel_rfl) ?_
  refine ops_nil ?_
  refine fin_then ?_
  refine st_block ?_
  refine st_loop (σ := Nat) 0 (fun a1 => [(10, .int .i64 256), (36, .int .i64 0), (35, .int .i64 2), (34, .slice (some ⟨b4, 0, none⟩) 2 2), (8, .int .i64 (a1 : Int)), (7, .func (.func 89) #[] #[.pointer (some ⟨b3, 0, none⟩)]), (5, .int .i64 2), (0, .int .i64 (0 - v)), (1, .int .i64 (0 - u))]) (fun a1 => Mem w [.blk b4 [.int .i64 256, .int .i64 1] 3, .blk b3 [.slice A1 65 c2] 37, .row A1 65 c2 3 1 (iv .i64 tab)]) (fun a1 => a1 ≤ 16383 ∧ Not (0 - u) (0 - v) a1) (fun a1 => 16384 - a1) (by exact ⟨by decide, not_zero hX hY⟩) (look_has ⟨rfl, rfl, rfl, rfl, rfl, rfl, rfl, rfl, rfl, trivial⟩) (fun w_ hM => by exact hM) ?_
  rintro a1 hI
  obtain ⟨hba1, hloa1⟩ := hI
  have hba1 : a1 ≤ 16383 := hba1
  have hloa1 : Not (0 - u) (0 - v) a1 := hloa1
  have ha1 : IntKind.i64.wrap ((a1 : Int) + 256) = ((a1 + 256 : Nat) : Int) := by rw [i64in (by omega) (by omega)]; omega
  have ha2 : IntKind.i64.wrap (16384 - (a1 : Int)) = ((16384 - a1 : Nat) : Int) := by rw [i64in (by omega) (by omega)]; omega
  refine st_seq ?_
  refine st_seq ?_
  refine st_region [(0, false), (1, false), (2, false), (3, false), (4, false), (5, false), (6, false), (7, false), (8, false), (9, false), (10, false), (11, false), (12, false), (13, false), (14, false), (15, false), (16, false), (17, false), (18, false), (19, false), (20, false), (21, false)] (by rfl) ?_
  refine ops_run (is := [(0, false), (1, false), (2, false)]) (r := [(3, false), (4, false), (5, false), (6, false), (7, false), (8, false), (9, false), (10, false), (11, false), (12, false), (13, false), (14, false), (15, false), (16, false), (17, false), (18, false), (19, false), (20, false), (21, false)]) (l' := [(42, .int .i64 (IntKind.i64.wrap ((a1 : Int) + 256))), (10, .int .i64 256), (36, .int .i64 0), (35, .int .i64 2), (34, .slice (some ⟨b4, 0, none⟩) 2 2), (8, .int .i64 (a1 : Int)), (7, .func (.func 89) #[] #[.pointer (some ⟨b3, 0, none⟩)]), (5, .int .i64 2), (0, .int .i64 (0 - v)), (1, .int .i64 (0 - u))]) [42, 10, 36, 35, 34, 8, 7, 5, 0, 1] (by kernel_rfl) ?_
  refine ops_conv (l' := [(42, .int .i64 ((a1 + 256 : Nat) : Int)), (10, .int .i64 256), (36, .int .i64 0), (35, .int .i64 2), (34, .slice (some ⟨b4, 0, none⟩) 2 2), (8, .int .i64 (a1 : Int)), (7, .func (.func 89) #[] #[.pointer (some ⟨b3, 0, none⟩)]), (5, .int .i64 2), (0, .int .i64 (0 - v)), (1, .int .i64 (0 - u))]) (by rw [ha1]) (fun _ h => h) ?_
  refine ops_run (is := [(3, false), (4, false)]) (r := [(5, false), (6, false), (7, false), (8, false), (9, false), (10, false), (11, false), (12, false), (13, false), (14, false), (15, false), (16, false), (17, false), (18, false), (19, false), (20, false), (21, false)]) (l' := [(44, .bool (decide (((a1 + 256 : Nat) : Int) < 16384))), (10, .int .i64 256), (36, .int .i64 0), (35, .int .i64 2), (34, .slice (some ⟨b4, 0, none⟩) 2 2), (8, .int .i64 (a1 : Int)), (7, .func (.func 89) #[] #[.pointer (some ⟨b3, 0, none⟩)]), (5, .int .i64 2), (0, .int .i64 (0 - v)), (1, .int .i64 (0 - u))]) [44, 10, 36, 35, 34, 8, 7, 5, 0, 1] (by kernel_rfl) ?_
  refine ops_bool (t := decide (((a1 + 256 : Nat) : Int) < 16384)) (l1 := [(44, .bool true), (10, .int .i64 256), (36, .int .i64 0), (35, .int .i64 2), (34, .slice (some ⟨b4, 0, none⟩) 2 2), (8, .int .i64 (a1 : Int)), (7, .func (.func 89) #[] #[.pointer (some ⟨b3, 0, none⟩)]), (5, .int .i64 2), (0, .int .i64 (0 - v)), (1, .int .i64 (0 - u))]) (l2 := [(44, .bool false), (10, .int .i64 256), (36, .int .i64 0), (35, .int .i64 2), (34, .slice (some ⟨b4, 0, none⟩) 2 2), (8, .int .i64 (a1 : Int)), (7, .func (.func 89) #[] #[.pointer (some ⟨b3, 0, none⟩)]), (5, .int .i64 2), (0, .int .i64 (0 - v)), (1, .int .i64 (0 - u))]) (fun h => by rw [h]) (fun h => by rw [h]) (fun hc5 => ?_) (fun hc5 => ?_)
  · --decide (((a1 + 256 : Nat) : Int) < 16384)
    have hlt : a1 + 256 < 16384 := by have := of_decide_eq_true hc5; omega
    have ha3 : IntKind.i64.wrap (((16384 - a1 : Nat) : Int) - 256) = ((16384 - a1 - 256 : Nat) : Int) := by rw [i64in (by omega) (by omega)]; omega
    have hq1 := prod_ok (a := (16384 - a1 - 256)) (y := (0 - v)) (by omega) hY hY1
    have hq2 := prod_ok (a := (a1 + 256)) (y := (0 - u)) (by omega) (by omega) hX1
    have hp1 : IntKind.i64.wrap (firstV (16384 - a1 - 256) * (0 - v)) = firstV (16384 - a1 - 256) * (0 - v) := i64in (by omega) (by omega)
    have hp2 : IntKind.i64.wrap (firstV (a1 + 256) * (0 - u)) = firstV (a1 + 256) * (0 - u) := i64in (by omega) (by omega)
    refine ops_run (is := [(5, false), (6, false), (7, false)]) (r := [(8, false), (9, false), (10, false), (11, false), (12, false), (13, false), (14, false), (15, false), (16, false), (17, false), (18, false), (19, false), (20, false), (21, false)]) (l' := [(47, .int .i64 (IntKind.i64.wrap (16384 - (a1 : Int)))), (45, .func (.func 89) #[] #[.pointer (some ⟨b3, 0, none⟩)]), (44, .bool true), (10, .int .i64 256), (36, .int .i64 0), (35, .int .i64 2), (34, .slice (some ⟨b4, 0, none⟩) 2 2), (8, .int .i64 (a1 : Int)), (7, .func (.func 89) #[] #[.pointer (some ⟨b3, 0, none⟩)]), (5, .int .i64 2), (0, .int .i64 (0 - v)), (1, .int .i64 (0 - u))]) [47, 45, 44, 10, 36, 35, 34, 8, 7, 5, 0, 1] (by kernel_rfl) ?_
    refine ops_conv (l' := [(47, .int .i64 ((16384 - a1 : Nat) : Int)), (45, .func (.func 89) #[] #[.pointer (some ⟨b3, 0, none⟩)]), (44, .bool true), (10, .int .i64 256), (36, .int .i64 0), (35, .int .i64 2), (34, .slice (some ⟨b4, 0, none⟩) 2 2), (8, .int .i64 (a1 : Int)), (7, .func (.func 89) #[] #[.pointer (some ⟨b3, 0, none⟩)]), (5, .int .i64 2), (0, .int .i64 (0 - v)), (1, .int .i64 (0 - u))]) (by rw [ha2]) (fun _ h => h) ?_
    refine ops_run (is := [(8, false), (9, false)]) (r := [(10, false), (11, false), (12, false), (13, false), (14, false), (15, false), (16, false), (17, false), (18, false), (19, false), (20, false), (21, false)]) (l' := [(49, .int .i64 (IntKind.i64.wrap (((16384 - a1 : Nat) : Int) - 256))), (45, .func (.func 89) #[] #[.pointer (some ⟨b3, 0, none⟩)]), (44, .bool true), (10, .int .i64 256), (36, .int .i64 0), (35, .int .i64 2), (34, .slice (some ⟨b4, 0, none⟩) 2 2), (8, .int .i64 (a1 : Int)), (7, .func (.func 89) #[] #[.pointer (some ⟨b3, 0, none⟩)]), (5, .int .i64 2), (0, .int .i64 (0 - v)), (1, .int .i64 (0 - u))]) [49, 45, 44, 10, 36, 35, 34, 8, 7, 5, 0, 1] (by kernel_rfl) ?_
    refine ops_conv (l' := [(49, .int .i64 ((16384 - a1 - 256 : Nat) : Int)), (45, .func (.func 89) #[] #[.pointer (some ⟨b3, 0, none⟩)]), (44, .bool true), (10, .int .i64 256), (36, .int .i64 0), (35, .int .i64 2), (34, .slice (some ⟨b4, 0, none⟩) 2 2), (8, .int .i64 (a1 : Int)), (7, .func (.func 89) #[] #[.pointer (some ⟨b3, 0, none⟩)]), (5, .int .i64 2), (0, .int .i64 (0 - v)), (1, .int .i64 (0 - u))]) (by rw [ha3]) (fun _ h => h) ?_
    refine ops_call (σ := Unit) (d := some 50) (f := 89) (args := #[.int .i64 ((16384 - a1 - 256 : Nat) : Int), .pointer (some ⟨b3, 0, none⟩)]) (v := fun _ => .int .i64 (firstV (16384 - a1 - 256))) (M' := fun _ => Mem w [.blk b4 [.int .i64 256, .int .i64 1] 3, .blk b3 [.slice A1 65 c2] 37, .row A1 65 c2 3 1 (iv .i64 tab)]) ⟨by kernel_rfl⟩ (fun w_ hM hS => (Angle1_calls (16384 - a1 - 256) _ A1 c2 w_ (by omega) (hM.cell 1 rfl rfl) (hM.rints 2 rfl)).mono (by rintro e w' ⟨rfl, hb⟩; exact ⟨(), rfl, hM.step hb, trivial⟩)) (fun _ => ?_)
    refine ops_run (is := [(11, false), (12, false)]) (r := [(13, false), (14, false), (15, false), (16, false), (17, false), (18, false), (19, false), (20, false), (21, false)]) (l' := [(52, .int .i64 (IntKind.i64.wrap (firstV (16384 - a1 - 256) * (0 - v)))), (44, .bool true), (10, .int .i64 256), (36, .int .i64 0), (35, .int .i64 2), (34, .slice (some ⟨b4, 0, none⟩) 2 2), (8, .int .i64 (a1 : Int)), (7, .func (.func 89) #[] #[.pointer (some ⟨b3, 0, none⟩)]), (5, .int .i64 2), (0, .int .i64 (0 - v)), (1, .int .i64 (0 - u))]) [52, 44, 10, 36, 35, 34, 8, 7, 5, 0, 1] (by kernel_rfl) ?_
    refine ops_conv (l' := [(52, .int .i64 (firstV (16384 - a1 - 256) * (0 - v))), (44, .bool true), (10, .int .i64 256), (36, .int .i64 0), (35, .int .i64 2), (34, .slice (some ⟨b4, 0, none⟩) 2 2), (8, .int .i64 (a1 : Int)), (7, .func (.func 89) #[] #[.pointer (some ⟨b3, 0, none⟩)]), (5, .int .i64 2), (0, .int .i64 (0 - v)), (1, .int .i64 (0 - u))]) (by rw [hp1]) (fun _ h => h) ?_
    refine ops_run (is := [(13, false), (14, false), (15, false), (16, false)]) (r := [(17, false), (18, false), (19, false), (20, false), (21, false)]) (l' := [(56, .int .i64 (IntKind.i64.wrap ((a1 : Int) + 256))), (53, .func (.func 89) #[] #[.pointer (some ⟨b3, 0, none⟩)]), (52, .int .i64 (firstV (16384 - a1 - 256) * (0 - v))), (44, .bool true), (10, .int .i64 256), (36, .int .i64 0), (35, .int .i64 2), (34, .slice (some ⟨b4, 0, none⟩) 2 2), (8, .int .i64 (a1 : Int)), (7, .func (.func 89) #[] #[.pointer (some ⟨b3, 0, none⟩)]), (5, .int .i64 2), (0, .int .i64 (0 - v)), (1, .int .i64 (0 - u))]) [56, 53, 52, 44, 10, 36, 35, 34, 8, 7, 5, 0, 1] (by kernel_rfl) ?_
    refine ops_conv (l' := [(56, .int .i64 ((a1 + 256 : Nat) : Int)), (53, .func (.func 89) #[] #[.pointer (some ⟨b3, 0, none⟩)]), (52, .int .i64 (firstV (16384 - a1 - 256) * (0 - v))), (44, .bool true), (10, .int .i64 256), (36, .int .i64 0), (35, .int .i64 2), (34, .slice (some ⟨b4, 0, none⟩) 2 2), (8, .int .i64 (a1 : Int)), (7, .func (.func 89) #[] #[.pointer (some ⟨b3, 0, none⟩)]), (5, .int .i64 2), (0, .int .i64 (0 - v)), (1, .int .i64 (0 - u))]) (by rw [ha1]) (fun _ h => h) ?_
    refine ops_call (σ := Unit) (d := some 57) (f := 89) (args := #[.int .i64 ((a1 + 256 : Nat) : Int), .pointer (some ⟨b3, 0, none⟩)]) (v := fun _ => .int .i64 (firstV (a1 + 256))) (M' := fun _ => Mem w [.blk b4 [.int .i64 256, .int .i64 1] 3, .blk b3 [.slice A1 65 c2] 37, .row A1 65 c2 3 1 (iv .i64 tab)]) ⟨by kernel_rfl⟩ (fun w_ hM hS => (Angle1_calls (a1 + 256) _ A1 c2 w_ (by omega) (hM.cell 1 rfl rfl) (hM.rints 2 rfl)).mono (by rintro e w' ⟨rfl, hb⟩; exact ⟨(), rfl, hM.step hb, trivial⟩)) (fun _ => ?_)
    refine ops_run (is := [(18, false), (19, false)]) (r := [(20, false), (21, false)]) (l' := [(59, .int .i64 (IntKind.i64.wrap (firstV (a1 + 256) * (0 - u)))), (52, .int .i64 (firstV (16384 - a1 - 256) * (0 - v))), (44, .bool true), (10, .int .i64 256), (36, .int .i64 0), (35, .int .i64 2), (34, .slice (some ⟨b4, 0, none⟩) 2 2), (8, .int .i64 (a1 : Int)), (7, .func (.func 89) #[] #[.pointer (some ⟨b3, 0, none⟩)]), (5, .int .i64 2), (0, .int .i64 (0 - v)), (1, .int .i64 (0 - u))]) [59, 52, 44, 10, 36, 35, 34, 8, 7, 5, 0, 1] (by kernel_rfl) ?_
    refine ops_conv (l' := [(59, .int .i64 (firstV (a1 + 256) * (0 - u))), (52, .int .i64 (firstV (16384 - a1 - 256) * (0 - v))), (44, .bool true), (10, .int .i64 256), (36, .int .i64 0), (35, .int .i64 2), (34, .slice (some ⟨b4, 0, none⟩) 2 2), (8, .int .i64 (a1 : Int)), (7, .func (.func 89) #[] #[.pointer (some ⟨b3, 0, none⟩)]), (5, .int .i64 2), (0, .int .i64 (0 - v)), (1, .int .i64 (0 - u))]) (by rw [hp2]) (fun _ h => h) ?_
    refine ops_run (is := [(20, false), (21, false)]) (r := []) (l' := [(61, .bool (decide ((firstV (a1 + 256) * (0 - u)) ≤ (firstV (16384 - a1 - 256) * (0 - v))))), (10, .int .i64 256), (36, .int .i64 0), (35, .int .i64 2), (34, .slice (some ⟨b4, 0, none⟩) 2 2), (8, .int .i64 (a1 : Int)), (7, .func (.func 89) #[] #[.pointer (some ⟨b3, 0, none⟩)]), (5, .int .i64 2), (0, .int .i64 (0 - v)), (1, .int .i64 (0 - u))]) [61, 10, 36, 35, 34, 8, 7, 5, 0, 1] (by kernel_rfl) ?_
    refine ops_nil ?_
    refine fin_then ?_
    refine st_if (b := decide ((firstV (a1 + 256) * (0 - u)) ≤ (firstV (16384 - a1 - 256) * (0 - v)))) rfl (fun hc6 => ?_) (fun hc6 => ?_)
    · --
      refine st_skip ?_
      refine fin_then ?_
      refine st_block ?_
      refine st_region [(0, false), (1, false), (2, false), (3, false)] (by rfl) ?_
      refine ops_run (is := [(0, false), (1, false), (2, false)]) (r := [(3, false)]) (l' := [(64, .int .i64 (IntKind.i64.wrap ((a1 : Int) + 256))), (10, .int .i64 256), (36, .int .i64 0), (35, .int .i64 2), (34, .slice (some ⟨b4, 0, none⟩) 2 2), (8, .int .i64 (a1 : Int)), (7, .func (.func 89) #[] #[.pointer (some ⟨b3, 0, none⟩)]), (5, .int .i64 2), (0, .int .i64 (0 - v)), (1, .int .i64 (0 - u))]) [64, 10, 36, 35, 34, 8, 7, 5, 0, 1] (by kernel_rfl) ?_
      refine ops_conv (l' := [(64, .int .i64 ((a1 + 256 : Nat) : Int)), (10, .int .i64 256), (36, .int .i64 0), (35, .int .i64 2), (34, .slice (some ⟨b4, 0, none⟩) 2 2), (8, .int .i64 (a1 : Int)), (7, .func (.func 89) #[] #[.pointer (some ⟨b3, 0, none⟩)]), (5, .int .i64 2), (0, .int .i64 (0 - v)), (1, .int .i64 (0 - u))]) (by rw [ha1]) (fun _ h => h) ?_
      refine ops_run (is := [(3, false)]) (r := []) (l' := [(8, .int .i64 ((a1 + 256 : Nat) : Int)), (10, .int .i64 256), (36, .int .i64 0), (35, .int .i64 2), (34, .slice (some ⟨b4, 0, none⟩) 2 2), (7, .func (.func 89) #[] #[.pointer (some ⟨b3, 0, none⟩)]), (5, .int .i64 2), (0, .int .i64 (0 - v)), (1, .int .i64 (0 - u))]) [8, 10, 36, 35, 34, 7, 5, 0, 1] (by kernel_rfl) ?_
      refine ops_nil ?_
      refine fin_block ?_
      refine fin_round (a1 + 256) (by exact ⟨show a1 + 256 ≤ 16383 by omega, by have z := of_decide_eq_true hc6; rwa [show 16384 - a1 - 256 = 16384 - (a1 + 256) by omega] at z⟩) (by (show 16384 - (a1 + 256) < 16384 - a1; omega)) (look_has ⟨rfl, rfl, rfl, rfl, rfl, rfl, rfl, rfl, rfl, trivial⟩) (fun w_ hM => by exact hM)
    · --
      refine st_exit ?_
      refine fin_exit_then ?_
      refine fin_exit_then ?_
      refine fin_exit ?_
      refine fin_block ?_
      refine fin_then ?_
      refine st_region [(0, false), (1, false)] (by rfl) ?_
      refine ops_run (is := [(0, false), (1, false)]) (r := []) (l' := [(36, .int .i64 1), (35, .int .i64 2), (34, .slice (some ⟨b4, 0, none⟩) 2 2), (8, .int .i64 (a1 : Int)), (7, .func (.func 89) #[] #[.pointer (some ⟨b3, 0, none⟩)]), (5, .int .i64 2), (0, .int .i64 (0 - v)), (1, .int .i64 (0 - u))]) [36, 35, 34, 8, 7, 5, 0, 1] (by kernel_rfl) ?_
      refine ops_nil ?_
      refine fin_rounds ?_
      refine str_succ ?_
      refine st_seq ?_
      refine st_region [(0, false)] (by rfl) ?_
      refine ops_run (is := [(0, false)]) (r := []) (l' := [(37, .bool true), (36, .int .i64 1), (35, .int .i64 2), (34, .slice (some ⟨b4, 0, none⟩) 2 2), (8, .int .i64 (a1 : Int)), (7, .func (.func 89) #[] #[.pointer (some ⟨b3, 0, none⟩)]), (5, .int .i64 2), (0, .int .i64 (0 - v)), (1, .int .i64 (0 - u))]) [37, 36, 35, 34, 8, 7, 5, 0, 1] (by kernel_rfl) ?_
      refine ops_nil ?_
      refine fin_then ?_
      refine st_seq ?_
      refine st_true rfl ?_
      refine st_skip ?_
      refine fin_then ?_
      refine st_seq ?_
      refine st_block ?_
      refine st_seq ?_
      refine st_region [(0, false), (1, false), (2, false)] (by rfl) ?_
      refine ops_run (is := [(0, false)]) (r := [(1, false), (2, false)]) (l' := [(38, .pointer (some ⟨b4, 1, none⟩)), (36, .int .i64 1), (35, .int .i64 2), (34, .slice (some ⟨b4, 0, none⟩) 2 2), (8, .int .i64 (a1 : Int)), (7, .func (.func 89) #[] #[.pointer (some ⟨b3, 0, none⟩)]), (5, .int .i64 2), (0, .int .i64 (0 - v)), (1, .int .i64 (0 - u))]) [38, 36, 35, 34, 8, 7, 5, 0, 1] (by kernel_rfl) ?_
      refine ops_mem (d := some 39) (an := [.v (.int .i64 1)]) (evs := [.load ⟨b4, 1, none⟩ (.int .i64 1)]) (v := .int .i64 1) (M' := Mem w [.blk b4 [.int .i64 256, .int .i64 1] 3, .blk b3 [.slice A1 65 c2] 37, .row A1 65 c2 3 1 (iv .i64 tab)]) ⟨by kernel_rfl⟩ (fun w_ hM hS => ⟨w_, ⟨hM.cell 0 rfl rfl, rfl⟩, hM, trivial⟩) ?_
      refine ops_run (is := [(2, false)]) (r := []) (l' := [(10, .int .i64 1), (36, .int .i64 1), (35, .int .i64 2), (34, .slice (some ⟨b4, 0, none⟩) 2 2), (8, .int .i64 (a1 : Int)), (7, .func (.func 89) #[] #[.pointer (some ⟨b3, 0, none⟩)]), (5, .int .i64 2), (0, .int .i64 (0 - v)), (1, .int .i64 (0 - u))]) [10, 36, 35, 34, 8, 7, 5, 0, 1] (by kernel_rfl) ?_
      refine ops_nil ?_
      refine fin_then ?_
      refine st_block ?_
      refine st_loop (σ := Nat) a1 (fun a => [(10, .int .i64 1), (36, .int .i64 1), (35, .int .i64 2), (34, .slice (some ⟨b4, 0, none⟩) 2 2), (8, .int .i64 (a : Int)), (7, .func (.func 89) #[] #[.pointer (some ⟨b3, 0, none⟩)]), (5, .int .i64 2), (0, .int .i64 (0 - v)), (1, .int .i64 (0 - u))]) (fun a => Mem w [.blk b4 [.int .i64 256, .int .i64 1] 3, .blk b3 [.slice A1 65 c2] 37, .row A1 65 c2 3 1 (iv .i64 tab)]) (fun a => a ≤ 16383 ∧ Not (0 - u) (0 - v) a) (fun a => 16384 - a) (by exact ⟨hba1, hloa1⟩) (look_has ⟨rfl, rfl, rfl, rfl, rfl, rfl, rfl, rfl, rfl, trivial⟩) (fun w_ hM => by exact hM) ?_
      rintro a hI
      obtain ⟨hba, hloa⟩ := hI
      have hba : a ≤ 16383 := hba
      have hloa : Not (0 - u) (0 - v) a := hloa
      have ha1 : IntKind.i64.wrap ((a : Int) + 1) = ((a + 1 : Nat) : Int) := by rw [i64in (by omega) (by omega)]; omega
      have ha2 : IntKind.i64.wrap (16384 - (a : Int)) = ((16384 - a : Nat) : Int) := by rw [i64in (by omega) (by omega)]; omega
      refine st_seq ?_
      refine st_seq ?_
      refine st_region [(0, false), (1, false), (2, false), (3, false), (4, false), (5, false), (6, false), (7, false), (8, false), (9, false), (10, false), (11, false), (12, false), (13, false), (14, false), (15, false), (16, false), (17, false), (18, false), (19, false), (20, false), (21, false)] (by rfl) ?_
      refine ops_run (is := [(0, false), (1, false), (2, false)]) (r := [(3, false), (4, false), (5, false), (6, false), (7, false), (8, false), (9, false), (10, false), (11, false), (12, false), (13, false), (14, false), (15, false), (16, false), (17, false), (18, false), (19, false), (20, false), (21, false)]) (l' := [(42, .int .i64 (IntKind.i64.wrap ((a : Int) + 1))), (10, .int .i64 1), (36, .int .i64 1), (35, .int .i64 2), (34, .slice (some ⟨b4, 0, none⟩) 2 2), (8, .int .i64 (a : Int)), (7, .func (.func 89) #[] #[.pointer (some ⟨b3, 0, none⟩)]), (5, .int .i64 2), (0, .int .i64 (0 - v)), (1, .int .i64 (0 - u))]) [42, 10, 36, 35, 34, 8, 7, 5, 0, 1] (by kernel_rfl) ?_
      refine ops_conv (l' := [(42, .int .i64 ((a + 1 : Nat) : Int)), (10, .int .i64 1), (36, .int .i64 1), (35, .int .i64 2), (34, .slice (some ⟨b4, 0, none⟩) 2 2), (8, .int .i64 (a : Int)), (7, .func (.func 89) #[] #[.pointer (some ⟨b3, 0, none⟩)]), (5, .int .i64 2), (0, .int .i64 (0 - v)), (1, .int .i64 (0 - u))]) (by rw [ha1]) (fun _ h => h) ?_
      refine ops_run (is := [(3, false), (4, false)]) (r := [(5, false), (6, false), (7, false), (8, false), (9, false), (10, false), (11, false), (12, false), (13, false), (14, false), (15, false), (16, false), (17, false), (18, false), (19, false), (20, false), (21, false)]) (l' := [(44, .bool (decide (((a + 1 : Nat) : Int) < 16384))), (10, .int .i64 1), (36, .int .i64 1), (35, .int .i64 2), (34, .slice (some ⟨b4, 0, none⟩) 2 2), (8, .int .i64 (a : Int)), (7, .func (.func 89) #[] #[.pointer (some ⟨b3, 0, none⟩)]), (5, .int .i64 2), (0, .int .i64 (0 - v)), (1, .int .i64 (0 - u))]) [44, 10, 36, 35, 34, 8, 7, 5, 0, 1] (by kernel_rfl) ?_
      refine ops_bool (t := decide (((a + 1 : Nat) : Int) < 16384)) (l1 := [(44, .bool true), (10, .int .i64 1), (36, .int .i64 1), (35, .int .i64 2), (34, .slice (some ⟨b4, 0, none⟩) 2 2), (8, .int .i64 (a : Int)), (7, .func (.func 89) #[] #[.pointer (some ⟨b3, 0, none⟩)]), (5, .int .i64 2), (0, .int .i64 (0 - v)), (1, .int .i64 (0 - u))]) (l2 := [(44, .bool false), (10, .int .i64 1), (36, .int .i64 1), (35, .int .i64 2), (34, .slice (some ⟨b4, 0, none⟩) 2 2), (8, .int .i64 (a : Int)), (7, .func (.func 89) #[] #[.pointer (some ⟨b3, 0, none⟩)]), (5, .int .i64 2), (0, .int .i64 (0 - v)), (1, .int .i64 (0 - u))]) (fun h => by rw [h]) (fun h => by rw [h]) (fun hc7 => ?_) (fun hc7 => ?_)
      · --decide (((a + 1 : Nat) : Int) < 16384)
        have hlt : a + 1 < 16384 := by have := of_decide_eq_true hc7; omega
        have ha3 : IntKind.i64.wrap (((16384 - a : Nat) : Int) - 1) = ((16384 - a - 1 : Nat) : Int) := by rw [i64in (by omega) (by omega)]; omega
        have hq1 := prod_ok (a := (16384 - a - 1)) (y := (0 - v)) (by omega) hY hY1
        have hq2 := prod_ok (a := (a + 1)) (y := (0 - u)) (by omega) (by omega) hX1
        have hp1 : IntKind.i64.wrap (firstV (16384 - a - 1) * (0 - v)) = firstV (16384 - a - 1) * (0 - v) := i64in (by omega) (by omega)
        have hp2 : IntKind.i64.wrap (firstV (a + 1) * (0 - u)) = firstV (a + 1) * (0 - u) := i64in (by omega) (by omega)
        refine ops_run (is := [(5, false), (6, false), (7, false)]) (r := [(8, false), (9, false), (10, false), (11, false), (12, false), (13, false), (14, false), (15, false), (16, false), (17, false), (18, false), (19, false), (20, false), (21, false)]) (l' := [(47, .int .i64 (IntKind.i64.wrap (16384 - (a : Int)))), (45, .func (.func 89) #[] #[.pointer (some ⟨b3, 0, none⟩)]), (44, .bool true), (10, .int .i64 1), (36, .int .i64 1), (35, .int .i64 2), (34, .slice (some ⟨b4, 0, none⟩) 2 2), (8, .int .i64 (a : Int)), (7, .func (.func 89) #[] #[.pointer (some ⟨b3, 0, none⟩)]), (5, .int .i64 2), (0, .int .i64 (0 - v)), (1, .int .i64 (0 - u))]) [47, 45, 44, 10, 36, 35, 34, 8, 7, 5, 0, 1] (by kernel_rfl) ?_
        refine ops_conv (l' := [(47, .int .i64 ((16384 - a : Nat) : Int)), (45, .func (.func 89) #[] #[.pointer (some ⟨b3, 0, none⟩)]), (44, .bool true), (10, .int .i64 1), (36, .int .i64 1), (35, .int .i64 2), (34, .slice (some ⟨b4, 0, none⟩) 2 2), (8, .int .i64 (a : Int)), (7, .func (.func 89) #[] #[.pointer (some ⟨b3, 0, none⟩)]), (5, .int .i64 2), (0, .int .i64 (0 - v)), (1, .int .i64 (0 - u))]) (by rw [ha2]) (fun _ h => h) ?_
        refine ops_run (is := [(8, false), (9, false)]) (r := [(10, false), (11, false), (12, false), (13, false), (14, false), (15, false), (16, false), (17, false), (18, false), (19, false), (20, false), (21, false)]) (l' := [(49, .int .i64 (IntKind.i64.wrap (((16384 - a : Nat) : Int) - 1))), (45, .func (.func 89) #[] #[.pointer (some ⟨b3, 0, none⟩)]), (44, .bool true), (10, .int .i64 1), (36, .int .i64 1), (35, .int .i64 2), (34, .slice (some ⟨b4, 0, none⟩) 2 2), (8, .int .i64 (a : Int)), (7, .func (.func 89) #[] #[.pointer (some ⟨b3, 0, none⟩)]), (5, .int .i64 2), (0, .int .i64 (0 - v)), (1, .int .i64 (0 - u))]) [49, 45, 44, 10, 36, 35, 34, 8, 7, 5, 0, 1] (by kernel_rfl) ?_
        refine ops_conv (l' := [(49, .int .i64 ((16384 - a - 1 : Nat) : Int)), (45, .func (.func 89) #[] #[.pointer (some ⟨b3, 0, none⟩)]), (44, .bool true), (10, .int .i64 1), (36, .int .i64 1), (35, .int .i64 2), (34, .slice (some ⟨b4, 0, none⟩) 2 2), (8, .int .i64 (a : Int)), (7, .func (.func 89) #[] #[.pointer (some ⟨b3, 0, none⟩)]), (5, .int .i64 2), (0, .int .i64 (0 - v)), (1, .int .i64 (0 - u))]) (by rw [ha3]) (fun _ h => h) ?_
        refine ops_call (σ := Unit) (d := some 50) (f := 89) (args := #[.int .i64 ((16384 - a - 1 : Nat) : Int), .pointer (some ⟨b3, 0, none⟩)]) (v := fun _ => .int .i64 (firstV (16384 - a - 1))) (M' := fun _ => Mem w [.blk b4 [.int .i64 256, .int .i64 1] 3, .blk b3 [.slice A1 65 c2] 37, .row A1 65 c2 3 1 (iv .i64 tab)]) ⟨by kernel_rfl⟩ (fun w_ hM hS => (Angle1_calls (16384 - a - 1) _ A1 c2 w_ (by omega) (hM.cell 1 rfl rfl) (hM.rints 2 rfl)).mono (by rintro e w' ⟨rfl, hb⟩; exact ⟨(), rfl, hM.step hb, trivial⟩)) (fun _ => ?_)
        refine ops_run (is := [(11, false), (12, false)]) (r := [(13, false), (14, false), (15, false), (16, false), (17, false), (18, false), (19, false), (20, false), (21, false)]) (l' := [(52, .int .i64 (IntKind.i64.wrap (firstV (16384 - a - 1) * (0 - v)))), (44, .bool true), (10, .int .i64 1), (36, .int .i64 1), (35, .int .i64 2), (34, .slice (some ⟨b4, 0, none⟩) 2 2), (8, .int .i64 (a : Int)), (7, .func (.func 89) #[] #[.pointer (some ⟨b3, 0, none⟩)]), (5, .int .i64 2), (0, .int .i64 (0 - v)), (1, .int .i64 (0 - u))]) [52, 44, 10, 36, 35, 34, 8, 7, 5, 0, 1] (by kernel_rfl) ?_
        refine ops_conv (l' := [(52, .int .i64 (firstV (16384 - a - 1) * (0 - v))), (44, .bool true), (10, .int .i64 1), (36, .int .i64 1), (35, .int .i64 2), (34, .slice (some ⟨b4, 0, none⟩) 2 2), (8, .int .i64 (a : Int)), (7, .func (.func 89) #[] #[.pointer (some ⟨b3, 0, none⟩)]), (5, .int .i64 2), (0, .int .i64 (0 - v)), (1, .int .i64 (0 - u))]) (by rw [hp1]) (fun _ h => h) ?_
        refine ops_run (is := [(13, false), (14, false), (15, false), (16, false)]) (r := [(17, false), (18, false), (19, false), (20, false), (21, false)]) (l' := [(56, .int .i64 (IntKind.i64.wrap ((a : Int) + 1))), (53, .func (.func 89) #[] #[.pointer (some ⟨b3, 0, none⟩)]), (52, .int .i64 (firstV (16384 - a - 1) * (0 - v))), (44, .bool true), (10, .int .i64 1), (36, .int .i64 1), (35, .int .i64 2), (34, .slice (some ⟨b4, 0, none⟩) 2 2), (8, .int .i64 (a : Int)), (7, .func (.func 89) #[] #[.pointer (some ⟨b3, 0, none⟩)]), (5, .int .i64 2), (0, .int .i64 (0 - v)), (1, .int .i64 (0 - u))]) [56, 53, 52, 44, 10, 36, 35, 34, 8, 7, 5, 0, 1] (by kernel_rfl) ?_
        refine ops_conv (l' := [(56, .int .i64 ((a + 1 : Nat) : Int)), (53, .func (.func 89) #[] #[.pointer (some ⟨b3, 0, none⟩)]), (52, .int .i64 (firstV (16384 - a - 1) * (0 - v))), (44, .bool true), (10, .int .i64 1), (36, .int .i64 1), (35, .int .i64 2), (34, .slice (some ⟨b4, 0, none⟩) 2 2), (8, .int .i64 (a : Int)), (7, .func (.func 89) #[] #[.pointer (some ⟨b3, 0, none⟩)]), (5, .int .i64 2), (0, .int .i64 (0 - v)), (1, .int .i64 (0 - u))]) (by rw [ha1]) (fun _ h => h) ?_
        refine ops_call (σ := Unit) (d := some 57) (f := 89) (args := #[.int .i64 ((a + 1 : Nat) : Int), .pointer (some ⟨b3, 0, none⟩)]) (v := fun _ => .int .i64 (firstV (a + 1))) (M' := fun _ => Mem w [.blk b4 [.int .i64 256, .int .i64 1] 3, .blk b3 [.slice A1 65 c2] 37, .row A1 65 c2 3 1 (iv .i64 tab)]) ⟨by kernel_rfl⟩ (fun w_ hM hS => (Angle1_calls (a + 1) _ A1 c2 w_ (by omega) (hM.cell 1 rfl rfl) (hM.rints 2 rfl)).mono (by rintro e w' ⟨rfl, hb⟩; exact ⟨(), rfl, hM.step hb, trivial⟩)) (fun _ => ?_)
        refine ops_run (is := [(18, false), (19, false)]) (r := [(20, false), (21, false)]) (l' := [(59, .int .i64 (IntKind.i64.wrap (firstV (a + 1) * (0 - u)))), (52, .int .i64 (firstV (16384 - a - 1) * (0 - v))), (44, .bool true), (10, .int .i64 1), (36, .int .i64 1), (35, .int .i64 2), (34, .slice (some ⟨b4, 0, none⟩) 2 2), (8, .int .i64 (a : Int)), (7, .func (.func 89) #[] #[.pointer (some ⟨b3, 0, none⟩)]), (5, .int .i64 2), (0, .int .i64 (0 - v)), (1, .int .i64 (0 - u))]) [59, 52, 44, 10, 36, 35, 34, 8, 7, 5, 0, 1] (by kernel_rfl) ?_
        refine ops_conv (l' := [(59, .int .i64 (firstV (a + 1) * (0 - u))), (52, .int .i64 (firstV (16384 - a - 1) * (0 - v))), (44, .bool true), (10, .int .i64 1), (36, .int .i64 1), (35, .int .i64 2), (34, .slice (some ⟨b4, 0, none⟩) 2 2), (8, .int .i64 (a : Int)), (7, .func (.func 89) #[] #[.pointer (some ⟨b3, 0, none⟩)]), (5, .int .i64 2), (0, .int .i64 (0 - v)), (1, .int .i64 (0 - u))]) (by rw [hp2]) (fun _ h => h) ?_
        refine ops_run (is := [(20, false), (21, false)]) (r := []) (l' := [(61, .bool (decide ((firstV (a + 1) * (0 - u)) ≤ (firstV (16384 - a - 1) * (0 - v))))), (10, .int .i64 1), (36, .int .i64 1), (35, .int .i64 2), (34, .slice (some ⟨b4, 0, none⟩) 2 2), (8, .int .i64 (a : Int)), (7, .func (.func 89) #[] #[.pointer (some ⟨b3, 0, none⟩)]), (5, .int .i64 2), (0, .int .i64 (0 - v)), (1, .int .i64 (0 - u))]) [61, 10, 36, 35, 34, 8, 7, 5, 0, 1] (by kernel_rfl) ?_
        refine ops_nil ?_
        refine fin_then ?_
        refine st_if (b := decide ((firstV (a + 1) * (0 - u)) ≤ (firstV (16384 - a - 1) * (0 - v)))) rfl (fun hc8 => ?_) (fun hc8 => ?_)
        · --
          refine st_skip ?_
          refine fin_then ?_
          refine st_block ?_
          refine st_region [(0, false), (1, false), (2, false), (3, false)] (by rfl) ?_
          refine ops_run (is := [(0, false), (1, false), (2, false)]) (r := [(3, false)]) (l' := [(64, .int .i64 (IntKind.i64.wrap ((a : Int) + 1))), (10, .int .i64 1), (36, .int .i64 1), (35, .int .i64 2), (34, .slice (some ⟨b4, 0, none⟩) 2 2), (8, .int .i64 (a : Int)), (7, .func (.func 89) #[] #[.pointer (some ⟨b3, 0, none⟩)]), (5, .int .i64 2), (0, .int .i64 (0 - v)), (1, .int .i64 (0 - u))]) [64, 10, 36, 35, 34, 8, 7, 5, 0, 1] (by kernel_rfl) ?_
          refine ops_conv (l' := [(64, .int .i64 ((a + 1 : Nat) : Int)), (10, .int .i64 1), (36, .int .i64 1), (35, .int .i64 2), (34, .slice (some ⟨b4, 0, none⟩) 2 2), (8, .int .i64 (a : Int)), (7, .func (.func 89) #[] #[.pointer (some ⟨b3, 0, none⟩)]), (5, .int .i64 2), (0, .int .i64 (0 - v)), (1, .int .i64 (0 - u))]) (by rw [ha1]) (fun _ h => h) ?_
          refine ops_run (is := [(3, false)]) (r := []) (l' := [(8, .int .i64 ((a + 1 : Nat) : Int)), (10, .int .i64 1), (36, .int .i64 1), (35, .int .i64 2), (34, .slice (some ⟨b4, 0, none⟩) 2 2), (7, .func (.func 89) #[] #[.pointer (some ⟨b3, 0, none⟩)]), (5, .int .i64 2), (0, .int .i64 (0 - v)), (1, .int .i64 (0 - u))]) [8, 10, 36, 35, 34, 7, 5, 0, 1] (by kernel_rfl) ?_
          refine ops_nil ?_
          refine fin_block ?_
          refine fin_round (a + 1) (by exact ⟨show a + 1 ≤ 16383 by omega, by have z := of_decide_eq_true hc8; rwa [show 16384 - a - 1 = 16384 - (a + 1) by omega] at z⟩) (by (show 16384 - (a + 1) < 16384 - a; omega)) (look_has ⟨rfl, rfl, rfl, rfl, rfl, rfl, rfl, rfl, rfl, trivial⟩) (fun w_ hM => by exact hM)
        · --
          refine st_exit ?_
          refine fin_exit_then ?_
          refine fin_exit_then ?_
          refine fin_exit ?_
          refine fin_block ?_
          refine fin_then ?_
          refine st_region [(0, false), (1, false)] (by rfl) ?_
          refine ops_run (is := [(0, false), (1, false)]) (r := []) (l' := [(36, .int .i64 2), (35, .int .i64 2), (34, .slice (some ⟨b4, 0, none⟩) 2 2), (8, .int .i64 (a : Int)), (7, .func (.func 89) #[] #[.pointer (some ⟨b3, 0, none⟩)]), (5, .int .i64 2), (0, .int .i64 (0 - v)), (1, .int .i64 (0 - u))]) [36, 35, 34, 8, 7, 5, 0, 1] (by kernel_rfl) ?_
          refine ops_nil ?_
          refine fin_rounds ?_
          refine str_succ ?_
          refine st_seq ?_
          refine st_region [(0, false)] (by rfl) ?_
          refine ops_run (is := [(0, false)]) (r := []) (l' := [(37, .bool false), (36, .int .i64 2), (35, .int .i64 2), (34, .slice (some ⟨b4, 0, none⟩) 2 2), (8, .int .i64 (a : Int)), (7, .func (.func 89) #[] #[.pointer (some ⟨b3, 0, none⟩)]), (5, .int .i64 2), (0, .int .i64 (0 - v)), (1, .int .i64 (0 - u))]) [37, 36, 35, 34, 8, 7, 5, 0, 1] (by kernel_rfl) ?_
          refine ops_nil ?_
          refine fin_then ?_
          refine st_seq ?_
          refine st_false rfl ?_
          refine st_exit ?_
          refine fin_exit_then ?_
          refine fin_exit_then ?_
          refine fin_exit ?_
          refine fin_then ?_
          refine st_seq ?_
          refine st_region [(0, false), (1, false), (2, false), (3, false), (4, false)] (by rfl) ?_
          refine ops_run (is := [(0, false), (1, false), (2, false), (3, false)]) (r := [(4, false)]) (l' := [(69, .int .i64 (IntKind.i64.wrap (32768 + (a : Int))))]) [69] (by kernel_rfl) ?_
          refine ops_conv (l' := [(69, .int .i64 (32768 + (a : Int)))]) (by rw [(i64in (x := 32768 + (a : Int)) (by omega) (by omega))]) (fun _ h => h) ?_
          refine ops_run (is := [(4, false)]) (r := []) (l' := [(4, .int .i64 (32768 + (a : Int)))]) [4] (by kernel_rfl) ?_
          refine ops_nil ?_
          refine fin_then ?_
          refine st_ret ?_
          refine fin_ret [.tmp 4] [.int .i64 (32768 + (a : Int))] rfl rfl (fun w_ hM => (.tmp rfl .nil)) (fun w_ hM => ?_)
          refine ⟨?_, hM.done⟩
          have z := ang_eq hX hY hloa hba (by right; intro hc; have z := of_decide_eq_false hc8; rw [show 16384 - a - 1 = 16384 - (a + 1) by omega] at z; exact z hc)
          rw [← z]
          first | rfl | (simp only [theOne]; congr 2; omega)
      · --decide (((a + 1 : Nat) : Int) < 16384)
        refine ops_run (is := [(5, false), (6, false), (7, false), (8, false), (9, false), (10, false), (11, false), (12, false), (13, false), (14, false), (15, false), (16, false), (17, false), (18, false), (19, false), (20, false), (21, false)]) (r := []) (l' := [(61, .bool false), (10, .int .i64 1), (36, .int .i64 1), (35, .int .i64 2), (34, .slice (some ⟨b4, 0, none⟩) 2 2), (8, .int .i64 (a : Int)), (7, .func (.func 89) #[] #[.pointer (some ⟨b3, 0, none⟩)]), (5, .int .i64 2), (0, .int .i64 (0 - v)), (1, .int .i64 (0 - u))]) [61, 10, 36, 35, 34, 8, 7, 5, 0, 1] (by kernel_rfl) ?_
        refine ops_nil ?_
        refine fin_then ?_
        refine st_false rfl ?_
        refine st_exit ?_
        refine fin_exit_then ?_
        refine fin_exit_then ?_
        refine fin_exit ?_
        refine fin_block ?_
        refine fin_then ?_
        refine st_region [(0, false), (1, false)] (by rfl) ?_
        refine ops_run (is := [(0, false), (1, false)]) (r := []) (l' := [(36, .int .i64 2), (35, .int .i64 2), (34, .slice (some ⟨b4, 0, none⟩) 2 2), (8, .int .i64 (a : Int)), (7, .func (.func 89) #[] #[.pointer (some ⟨b3, 0, none⟩)]), (5, .int .i64 2), (0, .int .i64 (0 - v)), (1, .int .i64 (0 - u))]) [36, 35, 34, 8, 7, 5, 0, 1] (by kernel_rfl) ?_
        refine ops_nil ?_
        refine fin_rounds ?_
        refine str_succ ?_
        refine st_seq ?_
        refine st_region [(0, false)] (by rfl) ?_
        refine ops_run (is := [(0, false)]) (r := []) (l' := [(37, .bool false), (36, .int .i64 2), (35, .int .i64 2), (34, .slice (some ⟨b4, 0, none⟩) 2 2), (8, .int .i64 (a : Int)), (7, .func (.func 89) #[] #[.pointer (some ⟨b3, 0, none⟩)]), (5, .int .i64 2), (0, .int .i64 (0 - v)), (1, .int .i64 (0 - u))]) [37, 36, 35, 34, 8, 7, 5, 0, 1] (by kernel_rfl) ?_
        refine ops_nil ?_
        refine fin_then ?_
        refine st_seq ?_
        refine st_false rfl ?_
        refine st_exit ?_
        refine fin_exit_then ?_
        refine fin_exit_then ?_
        refine fin_exit ?_
        refine fin_then ?_
        refine st_seq ?_
        refine st_region [(0, false), (1, false), (2, false), (3, false), (4, false)] (by rfl) ?_
        refine ops_run (is := [(0, false), (1, false), (2, false), (3, false)]) (r := [(4, false)]) (l' := [(69, .int .i64 (IntKind.i64.wrap (32768 + (a : Int))))]) [69] (by kernel_rfl) ?_
        refine ops_conv (l' := [(69, .int .i64 (32768 + (a : Int)))]) (by rw [(i64in (x := 32768 + (a : Int)) (by omega) (by omega))]) (fun _ h => h) ?_
        refine ops_run (is := [(4, false)]) (r := []) (l' := [(4, .int .i64 (32768 + (a : Int)))]) [4] (by kernel_rfl) ?_
        refine ops_nil ?_
        refine fin_then ?_
        refine st_ret ?_
        refine fin_ret [.tmp 4] [.int .i64 (32768 + (a : Int))] rfl rfl (fun w_ hM => (.tmp rfl .nil)) (fun w_ hM => ?_)
        refine ⟨?_, hM.done⟩
        have z := ang_eq hX hY hloa hba (by left; have := of_decide_eq_false hc7; omega)
        rw [← z]
        first | rfl | (simp only [theOne]; congr 2; omega)
  · --decide (((a1 + 256 : Nat) : Int) < 16384)
    refine ops_run (is := [(5, false), (6, false), (7, false), (8, false), (9, false), (10, false), (11, false), (12, false), (13, false), (14, false), (15, false), (16, false), (17, false), (18, false), (19, false), (20, false), (21, false)]) (r := []) (l' := [(61, .bool false), (10, .int .i64 256), (36, .int .i64 0), (35, .int .i64 2), (34, .slice (some ⟨b4, 0, none⟩) 2 2), (8, .int .i64 (a1 : Int)), (7, .func (.func 89) #[] #[.pointer (some ⟨b3, 0, none⟩)]), (5, .int .i64 2), (0, .int .i64 (0 - v)), (1, .int .i64 (0 - u))]) [61, 10, 36, 35, 34, 8, 7, 5, 0, 1] (by kernel_rfl) ?_
    refine ops_nil ?_
    refine fin_then ?_
    refine st_false rfl ?_
    refine st_exit ?_
    refine fin_exit_then ?_
    refine fin_exit_then ?_
    refine fin_exit ?_
    refine fin_block ?_
    refine fin_then ?_
    refine st_region [(0, false), (1, false)] (by rfl) ?_
    refine ops_run (is := [(0, false), (1, false)]) (r := []) (l' := [(36, .int .i64 1), (35, .int .i64 2), (34, .slice (some ⟨b4, 0, none⟩) 2 2), (8, .int .i64 (a1 : Int)), (7, .func (.func 89) #[] #[.pointer (some ⟨b3, 0, none⟩)]), (5, .int .i64 2), (0, .int .i64 (0 - v)), (1, .int .i64 (0 - u))]) [36, 35, 34, 8, 7, 5, 0, 1] (by kernel_rfl) ?_
    refine ops_nil ?_
    refine fin_rounds ?_
    refine str_succ ?_
    refine st_seq ?_
    refine st_region [(0, false)] (by rfl) ?_
    refine ops_run (is := [(0, false)]) (r := []) (l' := [(37, .bool true), (36, .int .i64 1), (35, .int .i64 2), (34, .slice (some ⟨b4, 0, none⟩) 2 2), (8, .int .i64 (a1 : Int)), (7, .func (.func 89) #[] #[.pointer (some ⟨b3, 0, none⟩)]), (5, .int .i64 2), (0, .int .i64 (0 - v)), (1, .int .i64 (0 - u))]) [37, 36, 35, 34, 8, 7, 5, 0, 1] (by kernel_rfl) ?_
    refine ops_nil ?_
    refine fin_then ?_
    refine st_seq ?_
    refine st_true rfl ?_
    refine st_skip ?_
    refine fin_then ?_
    refine st_seq ?_
    refine st_block ?_
    refine st_seq ?_
    refine st_region [(0, false), (1, false), (2, false)] (by rfl) ?_
    refine ops_run (is := [(0, false)]) (r := [(1, false), (2, false)]) (l' := [(38, .pointer (some ⟨b4, 1, none⟩)), (36, .int .i64 1), (35, .int .i64 2), (34, .slice (some ⟨b4, 0, none⟩) 2 2), (8, .int .i64 (a1 : Int)), (7, .func (.func 89) #[] #[.pointer (some ⟨b3, 0, none⟩)]), (5, .int .i64 2), (0, .int .i64 (0 - v)), (1, .int .i64 (0 - u))]) [38, 36, 35, 34, 8, 7, 5, 0, 1] (by kernel_rfl) ?_
    refine ops_mem (d := some 39) (an := [.v (.int .i64 1)]) (evs := [.load ⟨b4, 1, none⟩ (.int .i64 1)]) (v := .int .i64 1) (M' := Mem w [.blk b4 [.int .i64 256, .int .i64 1] 3, .blk b3 [.slice A1 65 c2] 37, .row A1 65 c2 3 1 (iv .i64 tab)]) ⟨by kernel_rfl⟩ (fun w_ hM hS => ⟨w_, ⟨hM.cell 0 rfl rfl, rfl⟩, hM, trivial⟩) ?_
    refine ops_run (is := [(2, false)]) (r := []) (l' := [(10, .int .i64 1), (36, .int .i64 1), (35, .int .i64 2), (34, .slice (some ⟨b4, 0, none⟩) 2 2), (8, .int .i64 (a1 : Int)), (7, .func (.func 89) #[] #[.pointer (some ⟨b3, 0, none⟩)]), (5, .int .i64 2), (0, .int .i64 (0 - v)), (1, .int .i64 (0 - u))]) [10, 36, 35, 34, 8, 7, 5, 0, 1] (by kernel_rfl) ?_
    refine ops_nil ?_
    refine fin_then ?_
    refine st_block ?_
    refine st_loop (σ := Nat) a1 (fun a => [(10, .int .i64 1), (36, .int .i64 1), (35, .int .i64 2), (34, .slice (some ⟨b4, 0, none⟩) 2 2), (8, .int .i64 (a : Int)), (7, .func (.func 89) #[] #[.pointer (some ⟨b3, 0, none⟩)]), (5, .int .i64 2), (0, .int .i64 (0 - v)), (1, .int .i64 (0 - u))]) (fun a => Mem w [.blk b4 [.int .i64 256, .int .i64 1] 3, .blk b3 [.slice A1 65 c2] 37, .row A1 65 c2 3 1 (iv .i64 tab)]) (fun a => a ≤ 16383 ∧ Not (0 - u) (0 - v) a) (fun a => 16384 - a) (by exact ⟨hba1, hloa1⟩) (look_has ⟨rfl, rfl, rfl, rfl, rfl, rfl, rfl, rfl, rfl, trivial⟩) (fun w_ hM => by exact hM) ?_
    rintro a hI
    obtain ⟨hba, hloa⟩ := hI
    have hba : a ≤ 16383 := hba
    have hloa : Not (0 - u) (0 - v) a := hloa
    have ha1 : IntKind.i64.wrap ((a : Int) + 1) = ((a + 1 : Nat) : Int) := by rw [i64in (by omega) (by omega)]; omega
    have ha2 : IntKind.i64.wrap (16384 - (a : Int)) = ((16384 - a : Nat) : Int) := by rw [i64in (by omega) (by omega)]; omega
    refine st_seq ?_
    refine st_seq ?_
    refine st_region [(0, false), (1, false), (2, false), (3, false), (4, false), (5, false), (6, false), (7, false), (8, false), (9, false), (10, false), (11, false), (12, false), (13, false), (14, false), (15, false), (16, false), (17, false), (18, false), (19, false), (20, false), (21, false)] (by rfl) ?_
    refine ops_run (is := [(0, false), (1, false), (2, false)]) (r := [(3, false), (4, false), (5, false), (6, false), (7, false), (8, false), (9, false), (10, false), (11, false), (12, false), (13, false), (14, false), (15, false), (16, false), (17, false), (18, false), (19, false), (20, false), (21, false)]) (l' := [(42, .int .i64 (IntKind.i64.wrap ((a : Int) + 1))), (10, .int .i64 1), (36, .int .i64 1), (35, .int .i64 2), (34, .slice (some ⟨b4, 0, none⟩) 2 2), (8, .int .i64 (a : Int)), (7, .func (.func 89) #[] #[.pointer (some ⟨b3, 0, none⟩)]), (5, .int .i64 2), (0, .int .i64 (0 - v)), (1, .int .i64 (0 - u))]) [42, 10, 36, 35, 34, 8, 7, 5, 0, 1] (by kernel_rfl) ?_
    refine ops_conv (l' := [(42, .int .i64 ((a + 1 : Nat) : Int)), (10, .int .i64 1), (36, .int .i64 1), (35, .int .i64 2), (34, .slice (some ⟨b4, 0, none⟩) 2 2), (8, .int .i64 (a : Int)), (7, .func (.func 89) #[] #[.pointer (some ⟨b3, 0, none⟩)]), (5, .int .i64 2), (0, .int .i64 (0 - v)), (1, .int .i64 (0 - u))]) (by rw [ha1]) (fun _ h => h) ?_
    refine ops_run (is := [(3, false), (4, false)]) (r := [(5, false), (6, false), (7, false), (8, false), (9, false), (10, false), (11, false), (12, false), (13, false), (14, false), (15, false), (16, false), (17, false), (18, false), (19, false), (20, false), (21, false)]) (l' := [(44, .bool (decide (((a + 1 : Nat) : Int) < 16384))), (10, .int .i64 1), (36, .int .i64 1), (35, .int .i64 2), (34, .slice (some ⟨b4, 0, none⟩) 2 2), (8, .int .i64 (a : Int)), (7, .func (.func 89) #[] #[.pointer (some ⟨b3, 0, none⟩)]), (5, .int .i64 2), (0, .int .i64 (0 - v)), (1, .int .i64 (0 - u))]) [44, 10, 36, 35, 34, 8, 7, 5, 0, 1] (by kernel_rfl) ?_
    refine ops_bool (t := decide (((a + 1 : Nat) : Int) < 16384)) (l1 := [(44, .bool true), (10, .int .i64 1), (36, .int .i64 1), (35, .int .i64 2), (34, .slice (some ⟨b4, 0, none⟩) 2 2), (8, .int .i64 (a : Int)), (7, .func (.func 89) #[] #[.pointer (some ⟨b3, 0, none⟩)]), (5, .int .i64 2), (0, .int .i64 (0 - v)), (1, .int .i64 (0 - u))]) (l2 := [(44, .bool false), (10, .int .i64 1), (36, .int .i64 1), (35, .int .i64 2), (34, .slice (some ⟨b4, 0, none⟩) 2 2), (8, .int .i64 (a : Int)), (7, .func (.func 89) #[] #[.pointer (some ⟨b3, 0, none⟩)]), (5, .int .i64 2), (0, .int .i64 (0 - v)), (1, .int .i64 (0 - u))]) (fun h => by rw [h]) (fun h => by rw [h]) (fun hc9 => ?_) (fun hc9 => ?_)
    · --decide (((a + 1 : Nat) : Int) < 16384)
      have hlt : a + 1 < 16384 := by have := of_decide_eq_true hc9; omega
      have ha3 : IntKind.i64.wrap (((16384 - a : Nat) : Int) - 1) = ((16384 - a - 1 : Nat) : Int) := by rw [i64in (by omega) (by omega)]; omega
      have hq1 := prod_ok (a := (16384 - a - 1)) (y := (0 - v)) (by omega) hY hY1
      have hq2 := prod_ok (a := (a + 1)) (y := (0 - u)) (by omega) (by omega) hX1
      have hp1 : IntKind.i64.wrap (firstV (16384 - a - 1) * (0 - v)) = firstV (16384 - a - 1) * (0 - v) := i64in (by omega) (by omega)
      have hp2 : IntKind.i64.wrap (firstV (a + 1) * (0 - u)) = firstV (a + 1) * (0 - u) := i64in (by omega) (by omega)
      refine ops_run (is := [(5, false), (6, false), (7, false)]) (r := [(8, false), (9, false), (10, false), (11, false), (12, false), (13, false), (14, false), (15, false), (16, false), (17, false), (18, false), (19, false), (20, false), (21, false)]) (l' := [(47, .int .i64 (IntKind.i64.wrap (16384 - (a : Int)))), (45, .func (.func 89) #[] #[.pointer (some ⟨b3, 0, none⟩)]), (44, .bool true), (10, .int .i64 1), (36, .int .i64 1), (35, .int .i64 2), (34, .slice (some ⟨b4, 0, none⟩) 2 2), (8, .int .i64 (a : Int)), (7, .func (.func 89) #[] #[.pointer (some ⟨b3, 0, none⟩)]), (5, .int .i64 2), (0, .int .i64 (0 - v)), (1, .int .i64 (0 - u))]) [47, 45, 44, 10, 36, 35, 34, 8, 7, 5, 0, 1] (by kernel_rfl) ?_
      refine ops_conv (l' := [(47, .int .i64 ((16384 - a : Nat) : Int)), (45, .func (.func 89) #[] #[.pointer (some ⟨b3, 0, none⟩)]), (44, .bool true), (10, .int .i64 1), (36, .int .i64 1), (35, .int .i64 2), (34, .slice (some ⟨b4, 0, none⟩) 2 2), (8, .int .i64 (a : Int)), (7, .func (.func 89) #[] #[.pointer (some ⟨b3, 0, none⟩)]), (5, .int .i64 2), (0, .int .i64 (0 - v)), (1, .int .i64 (0 - u))]) (by rw [ha2]) (fun _ h => h) ?_
      refine ops_run (is := [(8, false), (9, false)]) (r := [(10, false), (11, false), (12, false), (13, false), (14, false), (15, false), (16, false), (17, false), (18, false), (19, false), (20, false), (21, false)]) (l' := [(49, .int .i64 (IntKind.i64.wrap (((16384 - a : Nat) : Int) - 1))), (45, .func (.func 89) #[] #[.pointer (some ⟨b3, 0, none⟩)]), (44, .bool true), (10, .int .i64 1), (36, .int .i64 1), (35, .int .i64 2), (34, .slice (some ⟨b4, 0, none⟩) 2 2), (8, .int .i64 (a : Int)), (7, .func (.func 89) #[] #[.pointer (some ⟨b3, 0, none⟩)]), (5, .int .i64 2), (0, .int .i64 (0 - v)), (1, .int .i64 (0 - u))]) [49, 45, 44, 10, 36, 35, 34, 8, 7, 5, 0, 1] (by kernel_rfl) ?_
      refine ops_conv (l' := [(49, .int .i64 ((16384 - a - 1 : Nat) : Int)), (45, .func (.func 89) #[] #[.pointer (some ⟨b3, 0, none⟩)]), (44, .bool true), (10, .int .i64 1), (36, .int .i64 1), (35, .int .i64 2), (34, .slice (some ⟨b4, 0, none⟩) 2 2), (8, .int .i64 (a : Int)), (7, .func (.func 89) #[] #[.pointer (some ⟨b3, 0, none⟩)]), (5, .int .i64 2), (0, .int .i64 (0 - v)), (1, .int .i64 (0 - u))]) (by rw [ha3]) (fun _ h => h) ?_
      refine ops_call (σ := Unit) (d := some 50) (f := 89) (args := #[.int .i64 ((16384 - a - 1 : Nat) : Int), .pointer (some ⟨b3, 0, none⟩)]) (v := fun _ => .int .i64 (firstV (16384 - a - 1))) (M' := fun _ => Mem w [.blk b4 [.int .i64 256, .int .i64 1] 3, .blk b3 [.slice A1 65 c2] 37, .row A1 65 c2 3 1 (iv .i64 tab)]) ⟨by kernel_rfl⟩ (fun w_ hM hS => (Angle1_calls (16384 - a - 1) _ A1 c2 w_ (by omega) (hM.cell 1 rfl rfl) (hM.rints 2 rfl)).mono (by rintro e w' ⟨rfl, hb⟩; exact ⟨(), rfl, hM.step hb, trivial⟩)) (fun _ => ?_)
      refine ops_run (is := [(11, false), (12, false)]) (r := [(13, false), (14, false), (15, false), (16, false), (17, false), (18, false), (19, false), (20, false), (21, false)]) (l' := [(52, .int .i64 (IntKind.i64.wrap (firstV (16384 - a - 1) * (0 - v)))), (44, .bool true), (10, .int .i64 1), (36, .int .i64 1), (35, .int .i64 2), (34, .slice (some ⟨b4, 0, none⟩) 2 2), (8, .int .i64 (a : Int)), (7, .func (.func 89) #[] #[.pointer (some ⟨b3, 0, none⟩)]), (5, .int .i64 2), (0, .int .i64 (0 - v)), (1, .int .i64 (0 - u))]) [52, 44, 10, 36, 35, 34, 8, 7, 5, 0, 1] (by kernel_rfl) ?_
      refine ops_conv (l' := [(52, .int .i64 (firstV (16384 - a - 1) * (0 - v))), (44, .bool true), (10, .int .i64 1), (36, .int .i64 1), (35, .int .i64 2), (34, .slice (some ⟨b4, 0, none⟩) 2 2), (8, .int .i64 (a : Int)), (7, .func (.func 89) #[] #[.pointer (some ⟨b3, 0, none⟩)]), (5, .int .i64 2), (0, .int .i64 (0 - v)), (1, .int .i64 (0 - u))]) (by rw [hp1]) (fun _ h => h) ?_
      refine ops_run (is := [(13, false), (14, false), (15, false), (16, false)]) (r := [(17, false), (18, false), (19, false), (20, false), (21, false)]) (l' := [(56, .int .i64 (IntKind.i64.wrap ((a : Int) + 1))), (53, .func (.func 89) #[] #[.pointer (some ⟨b3, 0, none⟩)]), (52, .int .i64 (firstV (16384 - a - 1) * (0 - v))), (44, .bool true), (10, .int .i64 1), (36, .int .i64 1), (35, .int .i64 2), (34, .slice (some ⟨b4, 0, none⟩) 2 2), (8, .int .i64 (a : Int)), (7, .func (.func 89) #[] #[.pointer (some ⟨b3, 0, none⟩)]), (5, .int .i64 2), (0, .int .i64 (0 - v)), (1, .int .i64 (0 - u))]) [56, 53, 52, 44, 10, 36, 35, 34, 8, 7, 5, 0, 1] (by kernel_rfl) ?_
      refine ops_conv (l' := [(56, .int .i64 ((a + 1 : Nat) : Int)), (53, .func (.func 89) #[] #[.pointer (some ⟨b3, 0, none⟩)]), (52, .int .i64 (firstV (16384 - a - 1) * (0 - v))), (44, .bool true), (10, .int .i64 1), (36, .int .i64 1), (35, .int .i64 2), (34, .slice (some ⟨b4, 0, none⟩) 2 2), (8, .int .i64 (a : Int)), (7, .func (.func 89) #[] #[.pointer (some ⟨b3, 0, none⟩)]), (5, .int .i64 2), (0, .int .i64 (0 - v)), (1, .int .i64 (0 - u))]) (by rw [ha1]) (fun _ h => h) ?_
      refine ops_call (σ := Unit) (d := some 57) (f := 89) (args := #[.int .i64 ((a + 1 : Nat) : Int), .pointer (some ⟨b3, 0, none⟩)]) (v := fun _ => .int .i64 (firstV (a + 1))) (M' := fun _ => Mem w [.blk b4 [.int .i64 256, .int .i64 1] 3, .blk b3 [.slice A1 65 c2] 37, .row A1 65 c2 3 1 (iv .i64 tab)]) ⟨by kernel_rfl⟩ (fun w_ hM hS => (Angle1_calls (a + 1) _ A1 c2 w_ (by omega) (hM.cell 1 rfl rfl) (hM.rints 2 rfl)).mono (by rintro e w' ⟨rfl, hb⟩; exact ⟨(), rfl, hM.step hb, trivial⟩)) (fun _ => ?_)
      refine ops_run (is := [(18, false), (19, false)]) (r := [(20, false), (21, false)]) (l' := [(59, .int .i64 (IntKind.i64.wrap (firstV (a + 1) * (0 - u)))), (52, .int .i64 (firstV (16384 - a - 1) * (0 - v))), (44, .bool true), (10, .int .i64 1), (36, .int .i64 1), (35, .int .i64 2), (34, .slice (some ⟨b4, 0, none⟩) 2 2), (8, .int .i64 (a : Int)), (7, .func (.func 89) #[] #[.pointer (some ⟨b3, 0, none⟩)]), (5, .int .i64 2), (0, .int .i64 (0 - v)), (1, .int .i64 (0 - u))]) [59, 52, 44, 10, 36, 35, 34, 8, 7, 5, 0, 1] (by kernel_rfl) ?_
      refine ops_conv (l' := [(59, .int .i64 (firstV (a + 1) * (0 - u))), (52, .int .i64 (firstV (16384 - a - 1) * (0 - v))), (44, .bool true), (10, .int .i64 1), (36, .int .i64 1), (35, .int .i64 2), (34, .slice (some ⟨b4, 0, none⟩) 2 2), (8, .int .i64 (a : Int)), (7, .func (.func 89) #[] #[.pointer (some ⟨b3, 0, none⟩)]), (5, .int .i64 2), (0, .int .i64 (0 - v)), (1, .int .i64 (0 - u))]) (by rw [hp2]) (fun _ h => h) ?_
      refine ops_run (is := [(20, false), (21, false)]) (r := []) (l' := [(61, .bool (decide ((firstV (a + 1) * (0 - u)) ≤ (firstV (16384 - a - 1) * (0 - v))))), (10, .int .i64 1), (36, .int .i64 1), (35, .int .i64 2), (34, .slice (some ⟨b4, 0, none⟩) 2 2), (8, .int .i64 (a : Int)), (7, .func (.func 89) #[] #[.pointer (some ⟨b3, 0, none⟩)]), (5, .int .i64 2), (0, .int .i64 (0 - v)), (1, .int .i64 (0 - u))]) [61, 10, 36, 35, 34, 8, 7, 5, 0, 1] (by kernel_rfl) ?_
      refine ops_nil ?_
      refine fin_then ?_
      refine st_if (b := decide ((firstV (a + 1) * (0 - u)) ≤ (firstV (16384 - a - 1) * (0 - v)))) rfl (fun hc10 => ?_) (fun hc10 => ?_)
      · --
        refine st_skip ?_
        refine fin_then ?_
        refine st_block ?_
        refine st_region [(0, false), (1, false), (2, false), (3, false)] (by rfl) ?_
        refine ops_run (is := [(0, false), (1, false), (2, false)]) (r := [(3, false)]) (l' := [(64, .int .i64 (IntKind.i64.wrap ((a : Int) + 1))), (10, .int .i64 1), (36, .int .i64 1), (35, .int .i64 2), (34, .slice (some ⟨b4, 0, none⟩) 2 2), (8, .int .i64 (a : Int)), (7, .func (.func 89) #[] #[.pointer (some ⟨b3, 0, none⟩)]), (5, .int .i64 2), (0, .int .i64 (0 - v)), (1, .int .i64 (0 - u))]) [64, 10, 36, 35, 34, 8, 7, 5, 0, 1] (by kernel_rfl) ?_
        refine ops_conv (l' := [(64, .int .i64 ((a + 1 : Nat) : Int)), (10, .int .i64 1), (36, .int .i64 1), (35, .int .i64 2), (34, .slice (some ⟨b4, 0, none⟩) 2 2), (8, .int .i64 (a : Int)), (7, .func (.func 89) #[] #[.pointer (some ⟨b3, 0, none⟩)]), (5, .int .i64 2), (0, .int .i64 (0 - v)), (1, .int .i64 (0 - u))]) (by rw [ha1]) (fun _ h => h) ?_
        refine ops_run (is := [(3, false)]) (r := []) (l' := [(8, .int .i64 ((a + 1 : Nat) : Int)), (10, .int .i64 1), (36, .int .i64 1), (35, .int .i64 2), (34, .slice (some ⟨b4, 0, none⟩) 2 2), (7, .func (.func 89) #[] #[.pointer (some ⟨b3, 0, none⟩)]), (5, .int .i64 2), (0, .int .i64 (0 - v)), (1, .int .i64 (0 - u))]) [8, 10, 36, 35, 34, 7, 5, 0, 1] (by kernel_rfl) ?_
        refine ops_nil ?_
        refine fin_block ?_
        refine fin_round (a + 1) (by exact ⟨show a + 1 ≤ 16383 by omega, by have z := of_decide_eq_true hc10; rwa [show 16384 - a - 1 = 16384 - (a + 1) by omega] at z⟩) (by (show 16384 - (a + 1) < 16384 - a; omega)) (look_has ⟨rfl, rfl, rfl, rfl, rfl, rfl, rfl, rfl, rfl, trivial⟩) (fun w_ hM => by exact hM)
      · --
        refine st_exit ?_
        refine fin_exit_then ?_
        refine fin_exit_then ?_
        refine fin_exit ?_
        refine fin_block ?_
        refine fin_then ?_
        refine st_region [(0, false), (1, false)] (by rfl) ?_
        refine ops_run (is := [(0, false), (1, false)]) (r := []) (l' := [(36, .int .i64 2), (35, .int .i64 2), (34, .slice (some ⟨b4, 0, none⟩) 2 2), (8, .int .i64 (a : Int)), (7, .func (.func 89) #[] #[.pointer (some ⟨b3, 0, none⟩)]), (5, .int .i64 2), (0, .int .i64 (0 - v)), (1, .int .i64 (0 - u))]) [36, 35, 34, 8, 7, 5, 0, 1] (by kernel_rfl) ?_
        refine ops_nil ?_
        refine fin_rounds ?_
        refine str_succ ?_
        refine st_seq ?_
        refine st_region [(0, false)] (by rfl) ?_
        refine ops_run (is := [(0, false)]) (r := []) (l' := [(37, .bool false), (36, .int .i64 2), (35, .int .i64 2), (34, .slice (some ⟨b4, 0, none⟩) 2 2), (8, .int .i64 (a : Int)), (7, .func (.func 89) #[] #[.pointer (some ⟨b3, 0, none⟩)]), (5, .int .i64 2), (0, .int .i64 (0 - v)), (1, .int .i64 (0 - u))]) [37, 36, 35, 34, 8, 7, 5, 0, 1] (by kernel_rfl) ?_
        refine ops_nil ?_
        refine fin_then ?_
        refine st_seq ?_
        refine st_false rfl ?_
        refine st_exit ?_
        refine fin_exit_then ?_
        refine fin_exit_then ?_
        refine fin_exit ?_
        refine fin_then ?_
        refine st_seq ?_
        refine st_region [(0, false), (1, false), (2, false), (3, false), (4, false)] (by rfl) ?_
        refine ops_run (is := [(0, false), (1, false), (2, false), (3, false)]) (r := [(4, false)]) (l' := [(69, .int .i64 (IntKind.i64.wrap (32768 + (a : Int))))]) [69] (by kernel_rfl) ?_
        refine ops_conv (l' := [(69, .int .i64 (32768 + (a : Int)))]) (by rw [(i64in (x := 32768 + (a : Int)) (by omega) (by omega))]) (fun _ h => h) ?_
        refine ops_run (is := [(4, false)]) (r := []) (l' := [(4, .int .i64 (32768 + (a : Int)))]) [4] (by kernel_rfl) ?_
        refine ops_nil ?_
        refine fin_then ?_
        refine st_ret ?_
        refine fin_ret [.tmp 4] [.int .i64 (32768 + (a : Int))] rfl rfl (fun w_ hM => (.tmp rfl .nil)) (fun w_ hM => ?_)
        refine ⟨?_, hM.done⟩
        have z := ang_eq hX hY hloa hba (by right; intro hc; have z := of_decide_eq_false hc10; rw [show 16384 - a - 1 = 16384 - (a + 1) by omega] at z; exact z hc)
        rw [← z]
        first | rfl | (simp only [theOne]; congr 2; omega)
    · --decide (((a + 1 : Nat) : Int) < 16384)
      refine ops_run (is := [(5, false), (6, false), (7, false), (8, false), (9, false), (10, false), (11, false), (12, false), (13, false), (14, false), (15, false), (16, false), (17, false), (18, false), (19, false), (20, false), (21, false)]) (r := []) (l' := [(61, .bool false), (10, .int .i64 1), (36, .int .i64 1), (35, .int .i64 2), (34, .slice (some ⟨b4, 0, none⟩) 2 2), (8, .int .i64 (a : Int)), (7, .func (.func 89) #[] #[.pointer (some ⟨b3, 0, none⟩)]), (5, .int .i64 2), (0, .int .i64 (0 - v)), (1, .int .i64 (0 - u))]) [61, 10, 36, 35, 34, 8, 7, 5, 0, 1] (by kernel_rfl) ?_
      refine ops_nil ?_
      refine fin_then ?_
      refine st_false rfl ?_
      refine st_exit ?_
      refine fin_exit_then ?_
      refine fin_exit_then ?_
      refine fin_exit ?_
      refine fin_block ?_
      refine fin_then ?_
      refine st_region [(0, false), (1, false)] (by rfl) ?_
      refine ops_run (is := [(0, false), (1, false)]) (r := []) (l' := [(36, .int .i64 2), (35, .int .i64 2), (34, .slice (some ⟨b4, 0, none⟩) 2 2), (8, .int .i64 (a : Int)), (7, .func (.func 89) #[] #[.pointer (some ⟨b3, 0, none⟩)]), (5, .int .i64 2), (0, .int .i64 (0 - v)), (1, .int .i64 (0 - u))]) [36, 35, 34, 8, 7, 5, 0, 1] (by kernel_rfl) ?_
      refine ops_nil ?_
      refine fin_rounds ?_
      refine str_succ ?_
      refine st_seq ?_
      refine st_region [(0, false)] (by rfl) ?_
      refine ops_run (is := [(0, false)]) (r := []) (l' := [(37, .bool false), (36, .int .i64 2), (35, .int .i64 2), (34, .slice (some ⟨b4, 0, none⟩) 2 2), (8, .int .i64 (a : Int)), (7, .func (.func 89) #[] #[.pointer (some ⟨b3, 0, none⟩)]), (5, .int .i64 2), (0, .int .i64 (0 - v)), (1, .int .i64 (0 - u))]) [37, 36, 35, 34, 8, 7, 5, 0, 1] (by kernel_rfl) ?_
      refine ops_nil ?_
      refine fin_then ?_
      refine st_seq ?_
      refine st_false rfl ?_
      refine st_exit ?_
      refine fin_exit_then ?_
      refine fin_exit_then ?_
      refine fin_exit ?_
      refine fin_then ?_
      refine st_seq ?_
      refine st_region [(0, false), (1, false), (2, false), (3, false), (4, false)] (by rfl) ?_
      refine ops_run (is := [(0, false), (1, false), (2, false), (3, false)]) (r := [(4, false)]) (l' := [(69, .int .i64 (IntKind.i64.wrap (32768 + (a : Int))))]) [69] (by kernel_rfl) ?_
      refine ops_conv (l' := [(69, .int .i64 (32768 + (a : Int)))]) (by rw [(i64in (x := 32768 + (a : Int)) (by omega) (by omega))]) (fun _ h => h) ?_
      refine ops_run (is := [(4, false)]) (r := []) (l' := [(4, .int .i64 (32768 + (a : Int)))]) [4] (by kernel_rfl) ?_
      refine ops_nil ?_
      refine fin_then ?_
      refine st_ret ?_
      refine fin_ret [.tmp 4] [.int .i64 (32768 + (a : Int))] rfl rfl (fun w_ hM => (.tmp rfl .nil)) (fun w_ hM => ?_)
      refine ⟨?_, hM.done⟩
      have z := ang_eq hX hY hloa hba (by left; have := of_decide_eq_false hc9; omega)
      rw [← z]
      first | rfl | (simp only [theOne]; congr 2; omega)
set_option maxHeartbeats 4000000 in
set_option maxRecDepth 100000 in
theorem Angle_3 (y x u v : Int) (w : World) (hu : min (max x (-1099511627776)) 1099511627776 = u) (hv : min (max y (-1099511627776)) 1099511627776 = v) (hq : 0 < u ∧ v < 0) : Calls Try.prog 74 #[.int .i64 y, .int .i64 x] w fun e w' => e = .returned (.int .i64 (49152 + ang (0 - v) u)) ∧ Below w.heap.size w w' := by
  have hu0 : -1099511627776 ≤ u ∧ u ≤ 1099511627776 := by omega
  have hv0 : -1099511627776 ≤ v ∧ v ≤ 1099511627776 := by omega
  have h00 : 0 - (0 - u) = u := by omega
  have h01 : IntKind.i64.wrap (0 - (0 - u)) = u := by rw [i64in (by omega) (by omega)]; omega
  have hkn0 : (v == 0) = false := by simp; omega
  have hkn1 : decide (v < 0) = true := by simp; omega
  have hkn2 : decide (v ≤ 0) = true := by simp; omega
  have hkn3 : decide ((0 - u) ≤ 0) = true := by simp; omega
  have hkn4 : decide ((0 - v) ≤ 0) = false := by simp; omega
  have hkn5 : decide ((0 - (0 - u)) < 0) = false := by simp; omega
  have hkn6 : decide (u < 0) = false := by simp; omega
  have hkn7 : (u == 0) = false := by simp; omega
  have hkn8 : decide (u ≤ 0) = false := by simp; omega
  refine sx_calls Try.func74 rfl (n := 70) (by kernel_rfl) (l := [(0, .int .i64 y), (1, .int .i64 x)]) rfl (by rfl) (Mem.nil w) ?_
  refine st_seq ?_
  refine st_region [(0, false)] (by rfl) ?_
  refine ops_run (is := [(0, false)]) (r := []) (l' := [(0, .int .i64 y), (1, .int .i64 x)]) [0, 1] (by kernel_rfl) ?_
  refine ops_nil ?_
  refine fin_then ?_
  refine st_seq ?_
  refine st_region [(0, false), (1, false), (2, false), (3, false), (4, false), (5, false)] (by rfl) ?_
  refine ops_run (is := [(0, false)]) (r := [(1, false), (2, false), (3, false), (4, false), (5, false)]) (l' := [(11, .int .i64 x), (0, .int .i64 y), (1, .int .i64 x)]) [11, 0, 1] (by kernel_rfl) ?_
  refine ops_call (σ := Unit) (d := some 12) (f := 77) (args := #[.int .i64 x]) (v := fun _ => .int .i64 (min (max x (-1099511627776)) 1099511627776)) (M' := fun _ => Mem w []) ⟨by kernel_rfl⟩ (fun w_ hM hS => (Limit_calls x w_).mono (by rintro e w' ⟨rfl, hb⟩; exact ⟨(), rfl, hM.step hb, trivial⟩)) (fun _ => ?_)
  refine ops_run (is := []) (r := [(2, false), (3, false), (4, false), (5, false)]) (l' := [(12, .int .i64 (min (max x (-1099511627776)) 1099511627776)), (0, .int .i64 y), (1, .int .i64 x)]) [12, 0, 1] (by kernel_rfl) ?_
  refine ops_conv (l' := [(12, .int .i64 u), (0, .int .i64 y), (1, .int .i64 x)]) (by rw [hu]) (fun _ h => h) ?_
  refine ops_run (is := [(2, false)]) (r := [(3, false), (4, false), (5, false)]) (l' := [(13, .int .i64 y), (12, .int .i64 u), (0, .int .i64 y), (1, .int .i64 x)]) [13, 12, 0, 1] (by kernel_rfl) ?_
  refine ops_call (σ := Unit) (d := some 14) (f := 77) (args := #[.int .i64 y]) (v := fun _ => .int .i64 (min (max y (-1099511627776)) 1099511627776)) (M' := fun _ => Mem w []) ⟨by kernel_rfl⟩ (fun w_ hM hS => (Limit_calls y w_).mono (by rintro e w' ⟨rfl, hb⟩; exact ⟨(), rfl, hM.step hb, trivial⟩)) (fun _ => ?_)
  refine ops_run (is := []) (r := [(4, false), (5, false)]) (l' := [(14, .int .i64 (min (max y (-1099511627776)) 1099511627776)), (12, .int .i64 u), (0, .int .i64 y), (1, .int .i64 x)]) [14, 12, 0, 1] (by kernel_rfl) ?_
  refine ops_conv (l' := [(14, .int .i64 v), (12, .int .i64 u), (0, .int .i64 y), (1, .int .i64 x)]) (by rw [hv]) (fun _ h => h) ?_
  refine ops_run (is := [(4, false), (5, false)]) (r := []) (l' := [(0, .int .i64 v), (1, .int .i64 u)]) [0, 1] (by kernel_rfl) ?_
  refine ops_nil ?_
  refine fin_then ?_
  refine st_seq ?_
  refine st_seq ?_
  refine st_region [(0, false), (1, false), (2, false), (3, false), (4, false), (5, false)] (by rfl) ?_
  refine ops_run (is := [(0, false), (1, false), (2, false)]) (r := [(3, false), (4, false), (5, false)]) (l' := [(17, .bool (u == 0)), (0, .int .i64 v), (1, .int .i64 u)]) [17, 0, 1] (by kernel_rfl) ?_
  refine ops_conv (l' := [(17, .bool false), (0, .int .i64 v), (1, .int .i64 u)]) (by rw [hkn7]) (fun _ h => h) ?_
  refine ops_run (is := [(3, false), (4, false), (5, false)]) (r := []) (l' := [(20, .bool false), (0, .int .i64 v), (1, .int .i64 u)]) [20, 0, 1] (by kernel_rfl) ?_
  refine ops_nil ?_
  refine fin_then ?_
  refine st_false rfl ?_
  refine st_skip ?_
  refine fin_then ?_
  refine st_seq ?_
  refine st_region [(0, false)] (by rfl) ?_
  refine ops_run (is := [(0, false)]) (r := []) (l' := [(5, .int .i64 0), (0, .int .i64 v), (1, .int .i64 u)]) [5, 0, 1] (by kernel_rfl) ?_
  refine ops_nil ?_
  refine fin_then ?_
  refine st_seq ?_
  refine st_block ?_
  refine st_unroll 6 ?_
  refine str_succ ?_
  refine st_seq ?_
  refine st_seq ?_
  refine st_region [(0, false), (1, false), (2, false), (3, false), (4, false), (5, false)] (by rfl) ?_
  refine ops_run (is := [(0, false), (1, false), (2, false)]) (r := [(3, false), (4, false), (5, false)]) (l' := [(23, .bool (decide (u ≤ 0))), (5, .int .i64 0), (0, .int .i64 v), (1, .int .i64 u)]) [23, 5, 0, 1] (by kernel_rfl) ?_
  refine ops_conv (l' := [(23, .bool false), (5, .int .i64 0), (0, .int .i64 v), (1, .int .i64 u)]) (by rw [hkn8]) (fun _ h => h) ?_
  refine ops_run (is := [(3, false), (4, false), (5, false)]) (r := []) (l' := [(26, .bool (decide (v < 0))), (5, .int .i64 0), (0, .int .i64 v), (1, .int .i64 u)]) [26, 5, 0, 1] (by kernel_rfl) ?_
  refine ops_nil ?_
  refine fin_then ?_
  refine st_conv (l' := [(26, .bool true), (5, .int .i64 0), (0, .int .i64 v), (1, .int .i64 u)]) (by rw [hkn1]) (fun _ h => h) ?_
  refine st_true rfl ?_
  refine st_skip ?_
  refine fin_then ?_
  refine st_block ?_
  refine st_region [(0, false), (1, false), (2, false), (3, false), (4, false), (5, false), (6, false), (7, false)] (by rfl) ?_
  refine ops_run (is := [(0, false), (1, false), (2, false)]) (r := [(3, false), (4, false), (5, false), (6, false), (7, false)]) (l' := [(29, .int .i64 (IntKind.i64.wrap (0 - u))), (27, .int .i64 v), (5, .int .i64 0), (0, .int .i64 v), (1, .int .i64 u)]) [29, 27, 5, 0, 1] (by kernel_rfl) ?_
  refine ops_conv (l' := [(29, .int .i64 (0 - u)), (27, .int .i64 v), (5, .int .i64 0), (0, .int .i64 v), (1, .int .i64 u)]) (by rw [(i64in (x := 0 - u) (by omega) (by omega))]) (fun _ h => h) ?_
  refine ops_run (is := [(3, false), (4, false), (5, false), (6, false), (7, false)]) (r := []) (l' := [(5, .int .i64 1), (0, .int .i64 (0 - u)), (1, .int .i64 v)]) [5, 0, 1] (by kernel_rfl) ?_
  refine ops_nil ?_
  refine fin_block ?_
  refine fin_rounds ?_
  refine str_succ ?_
  refine st_seq ?_
  refine st_seq ?_
  refine st_region [(0, false), (1, false), (2, false), (3, false), (4, false), (5, false)] (by rfl) ?_
  refine ops_run (is := [(0, false), (1, false), (2, false)]) (r := [(3, false), (4, false), (5, false)]) (l' := [(23, .bool (decide (v ≤ 0))), (5, .int .i64 1), (0, .int .i64 (0 - u)), (1, .int .i64 v)]) [23, 5, 0, 1] (by kernel_rfl) ?_
  refine ops_conv (l' := [(23, .bool true), (5, .int .i64 1), (0, .int .i64 (0 - u)), (1, .int .i64 v)]) (by rw [hkn2]) (fun _ h => h) ?_
  refine ops_run (is := [(3, false), (4, false), (5, false)]) (r := []) (l' := [(26, .bool true), (5, .int .i64 1), (0, .int .i64 (0 - u)), (1, .int .i64 v)]) [26, 5, 0, 1] (by kernel_rfl) ?_
  refine ops_nil ?_
  refine fin_then ?_
  refine st_true rfl ?_
  refine st_skip ?_
  refine fin_then ?_
  refine st_block ?_
  refine st_region [(0, false), (1, false), (2, false), (3, false), (4, false), (5, false), (6, false), (7, false)] (by rfl) ?_
  refine ops_run (is := [(0, false), (1, false), (2, false)]) (r := [(3, false), (4, false), (5, false), (6, false), (7, false)]) (l' := [(29, .int .i64 (IntKind.i64.wrap (0 - v))), (27, .int .i64 (0 - u)), (5, .int .i64 1), (0, .int .i64 (0 - u)), (1, .int .i64 v)]) [29, 27, 5, 0, 1] (by kernel_rfl) ?_
  refine ops_conv (l' := [(29, .int .i64 (0 - v)), (27, .int .i64 (0 - u)), (5, .int .i64 1), (0, .int .i64 (0 - u)), (1, .int .i64 v)]) (by rw [(i64in (x := 0 - v) (by omega) (by omega))]) (fun _ h => h) ?_
  refine ops_run (is := [(3, false), (4, false), (5, false), (6, false), (7, false)]) (r := []) (l' := [(5, .int .i64 2), (0, .int .i64 (0 - v)), (1, .int .i64 (0 - u))]) [5, 0, 1] (by kernel_rfl) ?_
  refine ops_nil ?_
  refine fin_block ?_
  refine fin_rounds ?_
  refine str_succ ?_
  refine st_seq ?_
  refine st_seq ?_
  refine st_region [(0, false), (1, false), (2, false), (3, false), (4, false), (5, false)] (by rfl) ?_
  refine ops_run (is := [(0, false), (1, false), (2, false)]) (r := [(3, false), (4, false), (5, false)]) (l' := [(23, .bool (decide ((0 - u) ≤ 0))), (5, .int .i64 2), (0, .int .i64 (0 - v)), (1, .int .i64 (0 - u))]) [23, 5, 0, 1] (by kernel_rfl) ?_
  refine ops_conv (l' := [(23, .bool true), (5, .int .i64 2), (0, .int .i64 (0 - v)), (1, .int .i64 (0 - u))]) (by rw [hkn3]) (fun _ h => h) ?_
  refine ops_run (is := [(3, false), (4, false), (5, false)]) (r := []) (l' := [(26, .bool true), (5, .int .i64 2), (0, .int .i64 (0 - v)), (1, .int .i64 (0 - u))]) [26, 5, 0, 1] (by kernel_rfl) ?_
  refine ops_nil ?_
  refine fin_then ?_
  refine st_true rfl ?_
  refine st_skip ?_
  refine fin_then ?_
  refine st_block ?_
  refine st_region [(0, false), (1, false), (2, false), (3, false), (4, false), (5, false), (6, false), (7, false)] (by rfl) ?_
  refine ops_run (is := [(0, false), (1, false), (2, false)]) (r := [(3, false), (4, false), (5, false), (6, false), (7, false)]) (l' := [(29, .int .i64 (IntKind.i64.wrap (0 - (0 - u)))), (27, .int .i64 (0 - v)), (5, .int .i64 2), (0, .int .i64 (0 - v)), (1, .int .i64 (0 - u))]) [29, 27, 5, 0, 1] (by kernel_rfl) ?_
  refine ops_conv (l' := [(29, .int .i64 u), (27, .int .i64 (0 - v)), (5, .int .i64 2), (0, .int .i64 (0 - v)), (1, .int .i64 (0 - u))]) (by rw [h01]) (fun _ h => h) ?_
  refine ops_run (is := [(3, false), (4, false), (5, false), (6, false), (7, false)]) (r := []) (l' := [(5, .int .i64 3), (0, .int .i64 u), (1, .int .i64 (0 - v))]) [5, 0, 1] (by kernel_rfl) ?_
  refine ops_nil ?_
  refine fin_block ?_
  refine fin_rounds ?_
  refine str_succ ?_
  refine st_seq ?_
  refine st_seq ?_
  refine st_region [(0, false), (1, false), (2, false), (3, false), (4, false), (5, false)] (by rfl) ?_
  refine ops_run (is := [(0, false), (1, false), (2, false)]) (r := [(3, false), (4, false), (5, false)]) (l' := [(23, .bool (decide ((0 - v) ≤ 0))), (5, .int .i64 3), (0, .int .i64 u), (1, .int .i64 (0 - v))]) [23, 5, 0, 1] (by kernel_rfl) ?_
  refine ops_conv (l' := [(23, .bool false), (5, .int .i64 3), (0, .int .i64 u), (1, .int .i64 (0 - v))]) (by rw [hkn4]) (fun _ h => h) ?_
  refine ops_run (is := [(3, false), (4, false), (5, false)]) (r := []) (l' := [(26, .bool (decide (u < 0))), (5, .int .i64 3), (0, .int .i64 u), (1, .int .i64 (0 - v))]) [26, 5, 0, 1] (by kernel_rfl) ?_
  refine ops_nil ?_
  refine fin_then ?_
  refine st_conv (l' := [(26, .bool false), (5, .int .i64 3), (0, .int .i64 u), (1, .int .i64 (0 - v))]) (by rw [hkn6]) (fun _ h => h) ?_
  refine st_false rfl ?_
  refine st_exit ?_
  refine fin_exit_then ?_
  refine fin_exit_then ?_
  refine fin_exit ?_
  refine fin_then ?_
  refine st_seq ?_
  refine st_region [(0, false), (1, false), (2, false)] (by rfl) ?_
  refine ops_run (is := []) (r := [(0, false), (1, false), (2, false)]) (l' := [(5, .int .i64 3), (0, .int .i64 u), (1, .int .i64 (0 - v))]) [5, 0, 1] (by kernel_rfl) ?_
  refine ops_call (σ := Option Addr × Nat) (d := some 32) (f := 81) (args := #[]) (v := fun x_ => match x_ with | (A1, c2) => .slice A1 65 c2) (M' := fun x_ => match x_ with | (A1, c2) => Mem w [.row A1 65 c2 3 1 (iv .i64 tab)]) ⟨by kernel_rfl⟩ (fun w_ hM hS => (sines_calls w_).mono (by rintro e w' ⟨x_, rfl, h2⟩; exact ⟨x_, rfl, hM.join h2 rfl, trivial⟩)) ?_
  rintro ⟨A1, c2⟩
  refine ops_conv (l' := [(32, .slice A1 65 c2), (5, .int .i64 3), (0, .int .i64 u), (1, .int .i64 (0 - v))]) (M' := Mem w [.row A1 65 c2 3 1 (iv .i64 tab)]) rfl (fun _ h => h) ?_
  refine ops_run (is := []) (r := [(1, false), (2, false)]) (l' := [(32, .slice A1 65 c2), (5, .int .i64 3), (0, .int .i64 u), (1, .int .i64 (0 - v))]) [32, 5, 0, 1] (by kernel_rfl) ?_
  refine ops_new (d := some 6) (o := .cells #[.slice none 0 0] 37) (v := fun b3 => .pointer (some ⟨b3, 0, none⟩)) (M' := fun b3 => Mem w [.blk b3 [.slice none 0 0] 37, .row A1 65 c2 3 1 (iv .i64 tab)]) (fun b3 => ⟨by kernel_rfl⟩) (fun w_ hM hS => ⟨hM.blk [.slice none 0 0] 37, trivial⟩) (fun b3 => ?_)
  refine ops_run (is := []) (r := [(2, false)]) (l' := [(6, .pointer (some ⟨b3, 0, none⟩)), (32, .slice A1 65 c2), (5, .int .i64 3), (0, .int .i64 u), (1, .int .i64 (0 - v))]) [6, 32, 5, 0, 1] (by kernel_rfl) ?_
  refine ops_store (an := []) (evs := [.store ⟨b3, 0, none⟩ (.slice A1 65 c2)]) (M' := Mem w [.blk b3 [.slice A1 65 c2] 37, .row A1 65 c2 3 1 (iv .i64 tab)]) ⟨by kernel_rfl⟩ (fun w_ hM hS => let ⟨w', he, h'⟩ := hM.evs_stores [.slice A1 65 c2] 0 rfl 0 (Nat.le_of_ble_eq_true rfl); ⟨w', he, h', trivial⟩) ?_
  refine ops_run (is := []) (r := []) (l' := [(6, .pointer (some ⟨b3, 0, none⟩)), (5, .int .i64 3), (0, .int .i64 u), (1, .int .i64 (0 - v))]) [6, 5, 0, 1] (by kernel_rfl) ?_
  refine ops_nil ?_
  refine fin_then ?_
  refine st_seq ?_
  refine st_region [(0, false), (1, false)] (by rfl) ?_
  refine ops_run (is := [(0, false), (1, false)]) (r := []) (l' := [(7, .func (.func 89) #[] #[.pointer (some ⟨b3, 0, none⟩)]), (5, .int .i64 3), (0, .int .i64 u), (1, .int .i64 (0 - v))]) [7, 5, 0, 1] (by kernel_rfl) ?_
  refine ops_nil ?_
  refine fin_then ?_
  refine st_seq ?_
  refine st_region [(0, false)] (by rfl) ?_
  refine ops_run (is := [(0, false)]) (r := []) (l' := [(8, .int .i64 0), (7, .func (.func 89) #[] #[.pointer (some ⟨b3, 0, none⟩)]), (5, .int .i64 3), (0, .int .i64 u), (1, .int .i64 (0 - v))]) [8, 7, 5, 0, 1] (by kernel_rfl) ?_
  refine ops_nil ?_
  refine fin_then ?_
  refine st_seq ?_
  refine st_seq ?_
  refine st_region [(0, false), (1, false), (2, false)] (by rfl) ?_
  refine ops_new (d := some 34) (o := .cells #[.int .i64 256, .int .i64 1] 3) (v := fun b4 => .slice (some ⟨b4, 0, none⟩) 2 2) (M' := fun b4 => Mem w [.blk b4 [.int .i64 256, .int .i64 1] 3, .blk b3 [.slice A1 65 c2] 37, .row A1 65 c2 3 1 (iv .i64 tab)]) (fun b4 => ⟨by kernel_rfl⟩) (fun w_ hM hS => ⟨hM.blk [.int .i64 256, .int .i64 1] 3, trivial⟩) (fun b4 => ?_)
  refine ops_run (is := [(1, false), (2, false)]) (r := []) (l' := [(36, .int .i64 0), (35, .int .i64 2), (34, .slice (some ⟨b4, 0, none⟩) 2 2), (8, .int .i64 0), (7, .func (.func 89) #[] #[.pointer (some ⟨b3, 0, none⟩)]), (5, .int .i64 3), (0, .int .i64 u), (1, .int .i64 (0 - v))]) [36, 35, 34, 8, 7, 5, 0, 1] (by kernel_rfl) ?_
  refine ops_nil ?_
  refine fin_then ?_
  refine st_block ?_
  have hX : 0 < (0 - v) := by omega
  have hY : 0 ≤ u := by omega
  have hX1 : (0 - v) ≤ 1099511627776 := by omega
  have hY1 : u ≤ 1099511627776 := by omega
  refine st_unroll 4 ?_
  refine str_succ ?_
  refine st_seq ?_
  refine st_region [(0, false)] (by rfl) ?_
  refine ops_run (is := [(0, false)]) (r := []) (l' := [(37, .bool true), (36, .int .i64 0), (35, .int .i64 2), (34, .slice (some ⟨b4, 0, none⟩) 2 2), (8, .int .i64 0), (7, .func (.func 89) #[] #[.pointer (some ⟨b3, 0, none⟩)]), (5, .int .i64 3), (0, .int .i64 u), (1, .int .i64 (0 - v))]) [37, 36, 35, 34, 8, 7, 5, 0, 1] (by kernel_rfl) ?_
  refine ops_nil ?_
  refine fin_then ?_
  refine st_seq ?_
  refine st_true rfl ?_
  refine st_skip ?_
  refine fin_then ?_
  refine st_seq ?_
  refine st_block ?_
  refine st_seq ?_
  refine st_region [(0, false), (1, false), (2, false)] (by rfl) ?_
  refine ops_run (is := [(0, false)]) (r := [(1, false), (2, false)]) (l' := [(38, .pointer (some ⟨b4, 0, none⟩)), (36, .int .i64 0), (35, .int .i64 2), (34, .slice (some ⟨b4, 0, none⟩) 2 2), (8, .int .i64 0), (7, .func (.func 89) #[] #[.pointer (some ⟨b3, 0, none⟩)]), (5, .int .i64 3), (0, .int .i64 u), (1, .int .i64 (0 - v))]) [38, 36, 35, 34, 8, 7, 5, 0, 1] (by kernel_rfl) ?_
  refine ops_mem (d := some 39) (an := [.v (.int .i64 256)]) (evs := [.load ⟨b4, 0, none⟩ (.int .i64 256)]) (v := .int .i64 256) (M' := Mem w [.blk b4 [.int .i64 256, .int .i64 1] 3, .blk b3 [.slice A1 65 c2] 37, .row A1 65 c2 3 1 (iv .i64 tab)]) ⟨by kernel_rfl⟩ (fun w_ hM hS => ⟨w_, ⟨hM.cell 0 rfl rfl, rfl⟩, hM, trivial⟩) ?_
  refine ops_run (is := [(2, false)]) (r := []) (l' := [(10, .int .i64 256), (36, .int .i64 0), (35, .int .i64 2), (34, .slice (some ⟨b4, 0, none⟩) 2 2), (8, .int .i64 0), (7, .func (.func 89) #[] #[.pointer (some ⟨b3, 0, none⟩)]), (5, .int .i64 3), (0, .int .i64 u), (1, .int .i64 (0 - v))]) [10, 36, 35, 34, 8, 7, 5, 0, 1] (by kernel_rfl) ?_
  refine ops_nil ?_
  refine fin_then ?_
  refine st_block ?_
  refine st_loop (σ := Nat) 0 (fun a1 => [(10, .int .i64 256), (36, .int .i64 0), (35, .int .i64 2), (34, .slice (some ⟨b4, 0, none⟩) 2 2), (8, .int .i64 (a1 : Int)), (7, .func (.func 89) #[] #[.pointer (some ⟨b3, 0, none⟩)]), (5, .int .i64 3), (0, .int .i64 u), (1, .int .i64 (0 - v))]) (fun a1 => Mem w [.blk b4 [.int .i64 256, .int .i64 1] 3, .blk b3 [.slice A1 65 c2] 37, .row A1 65 c2 3 1 (iv .i64 tab)]) (fun a1 => a1 ≤ 16383 ∧ Not (0 - v) u a1) (fun a1 => 16384 - a1) (by exact ⟨by decide, not_zero hX hY⟩) (look_has ⟨rfl, rfl, rfl, rfl, rfl, rfl, rfl, rfl, rfl, trivial⟩) (fun w_ hM => by exact hM) ?_
  rintro a1 hI
  obtain ⟨hba1, hloa1⟩ := hI
  have hba1 : a1 ≤ 16383 := hba1
  have hloa1 : Not (0 - v) u a1 := hloa1
  have ha1 : IntKind.i64.wrap ((a1 : Int) + 256) = ((a1 + 256 : Nat) : Int) := by rw [i64in (by omega) (by omega)]; omega
  have ha2 : IntKind.i64.wrap (16384 - (a1 : Int)) = ((16384 - a1 : Nat) : Int) := by rw [i64in (by omega) (by omega)]; omega
  refine st_seq ?_
  refine st_seq ?_
  refine st_region [(0, false), (1, false), (2, false), (3, false), (4, false), (5, false), (6, false), (7, false), (8, false), (9, false), (10, false), (11, false), (12, false), (13, false), (14, false), (15, false), (16, false), (17, false), (18, false), (19, false), (20, false), (21, false)] (by rfl) ?_
  refine ops_run (is := [(0, false), (1, false), (2, false)]) (r := [(3, false), (4, false), (5, false), (6, false), (7, false), (8, false), (9, false), (10, false), (11, false), (12, false), (13, false), (14, false), (15, false), (16, false), (17, false), (18, false), (19, false), (20, false), (21, false)]) (l' := [(42, .int .i64 (IntKind.i64.wrap ((a1 : Int) + 256))), (10, .int .i64 256), (36, .int .i64 0), (35, .int .i64 2), (34, .slice (some ⟨b4, 0, none⟩) 2 2), (8, .int .i64 (a1 : Int)), (7, .func (.func 89) #[] #[.pointer (some ⟨b3, 0, none⟩)]), (5, .int .i64 3), (0, .int .i64 u), (1, .int .i64 (0 - v))]) [42, 10, 36, 35, 34, 8, 7, 5, 0, 1] (by kernel_rfl) ?_
  refine ops_conv (l' := [(42, .int .i64 ((a1 + 256 : Nat) : Int)), (10, .int .i64 256), (36, .int .i64 0), (35, .int .i64 2), (34, .slice (some ⟨b4, 0, none⟩) 2 2), (8, .int .i64 (a1 : Int)), (7, .func (.func 89) #[] #[.pointer (some ⟨b3, 0, none⟩)]), (5, .int .i64 3), (0, .int .i64 u), (1, .int .i64 (0 - v))]) (by rw [ha1]) (fun _ h => h) ?_
  refine ops_run (is := [(3, false), (4, false)]) (r := [(5, false), (6, false), (7, false), (8, false), (9, false), (10, false), (11, false), (12, false), (13, false), (14, false), (15, false), (16, false), (17, false), (18, false), (19, false), (20, false), (21, false)]) (l' := [(44, .bool (decide (((a1 + 256 : Nat) : Int) < 16384))), (10, .int .i64 256), (36, .int .i64 0), (35, .int .i64 2), (34, .slice (some ⟨b4, 0, none⟩) 2 2), (8, .int .i64 (a1 : Int)), (7, .func (.func 89) #[] #[.pointer (some ⟨b3, 0, none⟩)]), (5, .int .i64 3), (0, .int .i64 u), (1, .int .i64 (0 - v))]) [44, 10, 36, 35, 34, 8, 7, 5, 0, 1] (by kernel_rfl) ?_
  refine ops_bool (t := decide (((a1 + 256 : Nat) : Int) < 16384)) (l1 := [(44, .bool true), (10, .int .i64 256), (36, .int .i64 0), (35, .int .i64 2), (34, .slice (some ⟨b4, 0, none⟩) 2 2), (8, .int .i64 (a1 : Int)), (7, .func (.func 89) #[] #[.pointer (some ⟨b3, 0, none⟩)]), (5, .int .i64 3), (0, .int .i64 u), (1, .int .i64 (0 - v))]) (l2 := [(44, .bool false), (10, .int .i64 256), (36, .int .i64 0), (35, .int .i64 2), (34, .slice (some ⟨b4, 0, none⟩) 2 2), (8, .int .i64 (a1 : Int)), (7, .func (.func 89) #[] #[.pointer (some ⟨b3, 0, none⟩)]), (5, .int .i64 3), (0, .int .i64 u), (1, .int .i64 (0 - v))]) (fun h => by rw [h]) (fun h => by rw [h]) (fun hc5 => ?_) (fun hc5 => ?_)
  · --decide (((a1 + 256 : Nat) : Int) < 16384)
    have hlt : a1 + 256 < 16384 := by have := of_decide_eq_true hc5; omega
    have ha3 : IntKind.i64.wrap (((16384 - a1 : Nat) : Int) - 256) = ((16384 - a1 - 256 : Nat) : Int) := by rw [i64in (by omega) (by omega)]; omega
    have hq1 := prod_ok (a := (16384 - a1 - 256)) (y := u) (by omega) hY hY1
    have hq2 := prod_ok (a := (a1 + 256)) (y := (0 - v)) (by omega) (by omega) hX1
    have hp1 : IntKind.i64.wrap (firstV (16384 - a1 - 256) * u) = firstV (16384 - a1 - 256) * u := i64in (by omega) (by omega)
    have hp2 : IntKind.i64.wrap (firstV (a1 + 256) * (0 - v)) = firstV (a1 + 256) * (0 - v) := i64in (by omega) (by omega)
    refine ops_run (is := [(5, false), (6, false), (7, false)]) (r := [(8, false), (9, false), (10, false), (11, false), (12, false), (13, false), (14, false), (15, false), (16, false), (17, false), (18, false), (19, false), (20, false), (21, false)]) (l' := [(47, .int .i64 (IntKind.i64.wrap (16384 - (a1 : Int)))), (45, .func (.func 89) #[] #[.pointer (some ⟨b3, 0, none⟩)]), (44, .bool true), (10, .int .i64 256), (36, .int .i64 0), (35, .int .i64 2), (34, .slice (some ⟨b4, 0, none⟩) 2 2), (8, .int .i64 (a1 : Int)), (7, .func (.func 89) #[] #[.pointer (some ⟨b3, 0, none⟩)]), (5, .int .i64 3), (0, .int .i64 u), (1, .int .i64 (0 - v))]) [47, 45, 44, 10, 36, 35, 34, 8, 7, 5, 0, 1] (by kernel_rfl) ?_
    refine ops_conv (l' := [(47, .int .i64 ((16384 - a1 : Nat) : Int)), (45, .func (.func 89) #[] #[.pointer (some ⟨b3, 0, none⟩)]), (44, .bool true), (10, .int .i64 256), (36, .int .i64 0), (35, .int .i64 2), (34, .slice (some ⟨b4, 0, none⟩) 2 2), (8, .int .i64 (a1 : Int)), (7, .func (.func 89) #[] #[.pointer (some ⟨b3, 0, none⟩)]), (5, .int .i64 3), (0, .int .i64 u), (1, .int .i64 (0 - v))]) (by rw [ha2]) (fun _ h => h) ?_
    refine ops_run (is := [(8, false), (9, false)]) (r := [(10, false), (11, false), (12, false), (13, false), (14, false), (15, false), (16, false), (17, false), (18, false), (19, false), (20, false), (21, false)]) (l' := [(49, .int .i64 (IntKind.i64.wrap (((16384 - a1 : Nat) : Int) - 256))), (45, .func (.func 89) #[] #[.pointer (some ⟨b3, 0, none⟩)]), (44, .bool true), (10, .int .i64 256), (36, .int .i64 0), (35, .int .i64 2), (34, .slice (some ⟨b4, 0, none⟩) 2 2), (8, .int .i64 (a1 : Int)), (7, .func (.func 89) #[] #[.pointer (some ⟨b3, 0, none⟩)]), (5, .int .i64 3), (0, .int .i64 u), (1, .int .i64 (0 - v))]) [49, 45, 44, 10, 36, 35, 34, 8, 7, 5, 0, 1] (by kernel_rfl) ?_
    refine ops_conv (l' := [(49, .int .i64 ((16384 - a1 - 256 : Nat) : Int)), (45, .func (.func 89) #[] #[.pointer (some ⟨b3, 0, none⟩)]), (44, .bool true), (10, .int .i64 256), (36, .int .i64 0), (35, .int .i64 2), (34, .slice (some ⟨b4, 0, none⟩) 2 2), (8, .int .i64 (a1 : Int)), (7, .func (.func 89) #[] #[.pointer (some ⟨b3, 0, none⟩)]), (5, .int .i64 3), (0, .int .i64 u), (1, .int .i64 (0 - v))]) (by rw [ha3]) (fun _ h => h) ?_
    refine ops_call (σ := Unit) (d := some 50) (f := 89) (args := #[.int .i64 ((16384 - a1 - 256 : Nat) : Int), .pointer (some ⟨b3, 0, none⟩)]) (v := fun _ => .int .i64 (firstV (16384 - a1 - 256))) (M' := fun _ => Mem w [.blk b4 [.int .i64 256, .int .i64 1] 3, .blk b3 [.slice A1 65 c2] 37, .row A1 65 c2 3 1 (iv .i64 tab)]) ⟨by kernel_rfl⟩ (fun w_ hM hS => (Angle1_calls (16384 - a1 - 256) _ A1 c2 w_ (by omega) (hM.cell 1 rfl rfl) (hM.rints 2 rfl)).mono (by rintro e w' ⟨rfl, hb⟩; exact ⟨(), rfl, hM.step hb, trivial⟩)) (fun _ => ?_)
    refine ops_run (is := [(11, false), (12, false)]) (r := [(13, false), (14, false), (15, false), (16, false), (17, false), (18, false), (19, false), (20, false), (21, false)]) (l' := [(52, .int .i64 (IntKind.i64.wrap (firstV (16384 - a1 - 256) * u))), (44, .bool true), (10, .int .i64 256), (36, .int .i64 0), (35, .int .i64 2), (34, .slice (some ⟨b4, 0, none⟩) 2 2), (8, .int .i64 (a1 : Int)), (7, .func (.func 89) #[] #[.pointer (some ⟨b3, 0, none⟩)]), (5, .int .i64 3), (0, .int .i64 u), (1, .int .i64 (0 - v))]) [52, 44, 10, 36, 35, 34, 8, 7, 5, 0, 1] (by kernel_rfl) ?_
    refine ops_conv (l' := [(52, .int .i64 (firstV (16384 - a1 - 256) * u)), (44, .bool true), (10, .int .i64 256), (36, .int .i64 0), (35, .int .i64 2), (34, .slice (some ⟨b4, 0, none⟩) 2 2), (8, .int .i64 (a1 : Int)), (7, .func (.func 89) #[] #[.pointer (some ⟨b3, 0, none⟩)]), (5, .int .i64 3), (0, .int .i64 u), (1, .int .i64 (0 - v))]) (by rw [hp1]) (fun _ h => h) ?_
    refine ops_run (is := [(13, false), (14, false), (15, false), (16, false)]) (r := [(17, false), (18, false), (19, false), (20, false), (21, false)]) (l' := [(56, .int .i64 (IntKind.i64.wrap ((a1 : Int) + 256))), (53, .func (.func 89) #[] #[.pointer (some ⟨b3, 0, none⟩)]), (52, .int .i64 (firstV (16384 - a1 - 256) * u)), (44, .bool true), (10, .int .i64 256), (36, .int .i64 0), (35, .int .i64 2), (34, .slice (some ⟨b4, 0, none⟩) 2 2), (8, .int .i64 (a1 : Int)), (7, .func (.func 89) #[] #[.pointer (some ⟨b3, 0, none⟩)]), (5, .int .i64 3), (0, .int .i64 u), (1, .int .i64 (0 - v))]) [56, 53, 52, 44, 10, 36, 35, 34, 8, 7, 5, 0, 1] (by kernel_rfl) ?_
    refine ops_conv (l' := [(56, .int .i64 ((a1 + 256 : Nat) : Int)), (53, .func (.func 89) #[] #[.pointer (some ⟨b3, 0, none⟩)]), (52, .int .i64 (firstV (16384 - a1 - 256) * u)), (44, .bool true), (10, .int .i64 256), (36, .int .i64 0), (35, .int .i64 2), (34, .slice (some ⟨b4, 0, none⟩) 2 2), (8, .int .i64 (a1 : Int)), (7, .func (.func 89) #[] #[.pointer (some ⟨b3, 0, none⟩)]), (5, .int .i64 3), (0, .int .i64 u), (1, .int .i64 (0 - v))]) (by rw [ha1]) (fun _ h => h) ?_
    refine ops_call (σ := Unit) (d := some 57) (f := 89) (args := #[.int .i64 ((a1 + 256 : Nat) : Int), .pointer (some ⟨b3, 0, none⟩)]) (v := fun _ => .int .i64 (firstV (a1 + 256))) (M' := fun _ => Mem w [.blk b4 [.int .i64 256, .int .i64 1] 3, .blk b3 [.slice A1 65 c2] 37, .row A1 65 c2 3 1 (iv .i64 tab)]) ⟨by kernel_rfl⟩ (fun w_ hM hS => (Angle1_calls (a1 + 256) _ A1 c2 w_ (by omega) (hM.cell 1 rfl rfl) (hM.rints 2 rfl)).mono (by rintro e w' ⟨rfl, hb⟩; exact ⟨(), rfl, hM.step hb, trivial⟩)) (fun _ => ?_)
    refine ops_run (is := [(18, false), (19, false)]) (r := [(20, false), (21, false)]) (l' := [(59, .int .i64 (IntKind.i64.wrap (firstV (a1 + 256) * (0 - v)))), (52, .int .i64 (firstV (16384 - a1 - 256) * u)), (44, .bool true), (10, .int .i64 256), (36, .int .i64 0), (35, .int .i64 2), (34, .slice (some ⟨b4, 0, none⟩) 2 2), (8, .int .i64 (a1 : Int)), (7, .func (.func 89) #[] #[.pointer (some ⟨b3, 0, none⟩)]), (5, .int .i64 3), (0, .int .i64 u), (1, .int .i64 (0 - v))]) [59, 52, 44, 10, 36, 35, 34, 8, 7, 5, 0, 1] (by kernel_rfl) ?_
    refine ops_conv (l' := [(59, .int .i64 (firstV (a1 + 256) * (0 - v))), (52, .int .i64 (firstV (16384 - a1 - 256) * u)), (44, .bool true), (10, .int .i64 256), (36, .int .i64 0), (35, .int .i64 2), (34, .slice (some ⟨b4, 0, none⟩) 2 2), (8, .int .i64 (a1 : Int)), (7, .func (.func 89) #[] #[.pointer (some ⟨b3, 0, none⟩)]), (5, .int .i64 3), (0, .int .i64 u), (1, .int .i64 (0 - v))]) (by rw [hp2]) (fun _ h => h) ?_
    refine ops_run (is := [(20, false), (21, false)]) (r := []) (l' := [(61, .bool (decide ((firstV (a1 + 256) * (0 - v)) ≤ (firstV (16384 - a1 - 256) * u)))), (10, .int .i64 256), (36, .int .i64 0), (35, .int .i64 2), (34, .slice (some ⟨b4, 0, none⟩) 2 2), (8, .int .i64 (a1 : Int)), (7, .func (.func 89) #[] #[.pointer (some ⟨b3, 0, none⟩)]), (5, .int .i64 3), (0, .int .i64 u), (1, .int .i64 (0 - v))]) [61, 10, 36, 35, 34, 8, 7, 5, 0, 1] (by kernel_rfl) ?_
    refine ops_nil ?_
    refine fin_then ?_
    refine st_if (b := decide ((firstV (a1 + 256) * (0 - v)) ≤ (firstV (16384 - a1 - 256) * u))) rfl (fun hc6 => ?_) (fun hc6 => ?_)
    · --
      refine st_skip ?_
      refine fin_then ?_
      refine st_block ?_
      refine st_region [(0, false), (1, false), (2, false), (3, false)] (by rfl) ?_
      refine ops_run (is := [(0, false), (1, false), (2, false)]) (r := [(3, false)]) (l' := [(64, .int .i64 (IntKind.i64.wrap ((a1 : Int) + 256))), (10, .int .i64 256), (36, .int .i64 0), (35, .int .i64 2), (34, .slice (some ⟨b4, 0, none⟩) 2 2), (8, .int .i64 (a1 : Int)), (7, .func (.func 89) #[] #[.pointer (some ⟨b3, 0, none⟩)]), (5, .int .i64 3), (0, .int .i64 u), (1, .int .i64 (0 - v))]) [64, 10, 36, 35, 34, 8, 7, 5, 0, 1] (by kernel_rfl) ?_
      refine ops_conv (l' := [(64, .int .i64 ((a1 + 256 : Nat) : Int)), (10, .int .i64 256), (36, .int .i64 0), (35, .int .i64 2), (34, .slice (some ⟨b4, 0, none⟩) 2 2), (8, .int .i64 (a1 : Int)), (7, .func (.func 89) #[] #[.pointer (some ⟨b3, 0, none⟩)]), (5, .int .i64 3), (0, .int .i64 u), (1, .int .i64 (0 - v))]) (by rw [ha1]) (fun _ h => h) ?_
      refine ops_run (is := [(3, false)]) (r := []) (l' := [(8, .int .i64 ((a1 + 256 : Nat) : Int)), (10, .int .i64 256), (36, .int .i64 0), (35, .int .i64 2), (34, .slice (some ⟨b4, 0, none⟩) 2 2), (7, .func (.func 89) #[] #[.pointer (some ⟨b3, 0, none⟩)]), (5, .int .i64 3), (0, .int .i64 u), (1, .int .i64 (0 - v))]) [8, 10, 36, 35, 34, 7, 5, 0, 1] (by kernel_rfl) ?_
      refine ops_nil ?_
      refine fin_block ?_
      refine fin_round (a1 + 256) (by exact ⟨show a1 + 256 ≤ 16383 by omega, by have z := of_decide_eq_true hc6; rwa [show 16384 - a1 - 256 = 16384 - (a1 + 256) by omega] at z⟩) (by (show 16384 - (a1 + 256) < 16384 - a1; omega)) (look_has ⟨rfl, rfl, rfl, rfl, rfl, rfl, rfl, rfl, rfl, trivial⟩) (fun w_ hM => by exact hM)
    · --
      refine st_exit ?_
      refine fin_exit_then ?_
      refine fin_exit_then ?_
      refine fin_exit ?_
      refine fin_block ?_
      refine fin_then ?_
      refine st_region [(0, false), (1, false)] (by rfl) ?_
      refine ops_run (is := [(0, false), (1, false)]) (r := []) (l' := [(36, .int .i64 1), (35, .int .i64 2), (34, .slice (some ⟨b4, 0, none⟩) 2 2), (8, .int .i64 (a1 : Int)), (7, .func (.func 89) #[] #[.pointer (some ⟨b3, 0, none⟩)]), (5, .int .i64 3), (0, .int .i64 u), (1, .int .i64 (0 - v))]) [36, 35, 34, 8, 7, 5, 0, 1] (by kernel_rfl) ?_
      refine ops_nil ?_
      refine fin_rounds ?_
      refine str_succ ?_
      refine st_seq ?_
      refine st_region [(0, false)] (by rfl) ?_
      refine ops_run (is := [(0, false)]) (r := []) (l' := [(37, .bool true), (36, .int .i64 1), (35, .int .i64 2), (34, .slice (some ⟨b4, 0, none⟩) 2 2), (8, .int .i64 (a1 : Int)), (7, .func (.func 89) #[] #[.pointer (some ⟨b3, 0, none⟩)]), (5, .int .i64 3), (0, .int .i64 u), (1, .int .i64 (0 - v))]) [37, 36, 35, 34, 8, 7, 5, 0, 1] (by kernel_rfl) ?_
      refine ops_nil ?_
      refine fin_then ?_
      refine st_seq ?_
      refine st_true rfl ?_
      refine st_skip ?_
      refine fin_then ?_
      refine st_seq ?_
      refine st_block ?_
      refine st_seq ?_
      refine st_region [(0, false), (1, false), (2, false)] (by rfl) ?_
      refine ops_run (is := [(0, false)]) (r := [(1, false), (2, false)]) (l' := [(38, .pointer (some ⟨b4, 1, none⟩)), (36, .int .i64 1), (35, .int .i64 2), (34, .slice (some ⟨b4, 0, none⟩) 2 2), (8, .int .i64 (a1 : Int)), (7, .func (.func 89) #[] #[.pointer (some ⟨b3, 0, none⟩)]), (5, .int .i64 3), (0, .int .i64 u), (1, .int .i64 (0 - v))]) [38, 36, 35, 34, 8, 7, 5, 0, 1] (by kernel_rfl) ?_
      refine ops_mem (d := some 39) (an := [.v (.int .i64 1)]) (evs := [.load ⟨b4, 1, none⟩ (.int .i64 1)]) (v := .int .i64 1) (M' := Mem w [.blk b4 [.int .i64 256, .int .i64 1] 3, .blk b3 [.slice A1 65 c2] 37, .row A1 65 c2 3 1 (iv .i64 tab)]) ⟨by kernel_rfl⟩ (fun w_ hM hS => ⟨w_, ⟨hM.cell 0 rfl rfl, rfl⟩, hM, trivial⟩) ?_
      refine ops_run (is := [(2, false)]) (r := []) (l' := [(10, .int .i64 1), (36, .int .i64 1), (35, .int .i64 2), (34, .slice (some ⟨b4, 0, none⟩) 2 2), (8, .int .i64 (a1 : Int)), (7, .func (.func 89) #[] #[.pointer (some ⟨b3, 0, none⟩)]), (5, .int .i64 3), (0, .int .i64 u), (1, .int .i64 (0 - v))]) [10, 36, 35, 34, 8, 7, 5, 0, 1] (by kernel_rfl) ?_
      refine ops_nil ?_
      refine fin_then ?_
      refine st_block ?_
      refine st_loop (σ := Nat) a1 (fun a => [(10, .int .i64 1), (36, .int .i64 1), (35, .int .i64 2), (34, .slice (some ⟨b4, 0, none⟩) 2 2), (8, .int .i64 (a : Int)), (7, .func (.func 89) #[] #[.pointer (some ⟨b3, 0, none⟩)]), (5, .int .i64 3), (0, .int .i64 u), (1, .int .i64 (0 - v))]) (fun a => Mem w [.blk b4 [.int .i64 256, .int .i64 1] 3, .blk b3 [.slice A1 65 c2] 37, .row A1 65 c2 3 1 (iv .i64 tab)]) (fun a => a ≤ 16383 ∧ Not (0 - v) u a) (fun a => 16384 - a) (by exact ⟨hba1, hloa1⟩) (look_has ⟨rfl, rfl, rfl, rfl, rfl, rfl, rfl, rfl, rfl, trivial⟩) (fun w_ hM => by exact hM) ?_
      rintro a hI
      obtain ⟨hba, hloa⟩ := hI
      have hba : a ≤ 16383 := hba
      have hloa : Not (0 - v) u a := hloa
      have ha1 : IntKind.i64.wrap ((a : Int) + 1) = ((a + 1 : Nat) : Int) := by rw [i64in (by omega) (by omega)]; omega
      have ha2 : IntKind.i64.wrap (16384 - (a : Int)) = ((16384 - a : Nat) : Int) := by rw [i64in (by omega) (by omega)]; omega
      refine st_seq ?_
      refine st_seq ?_
      refine st_region [(0, false), (1, false), (2, false), (3, false), (4, false), (5, false), (6, false), (7, false), (8, false), (9, false), (10, false), (11, false), (12, false), (13, false), (14, false), (15, false), (16, false), (17, false), (18, false), (19, false), (20, false), (21, false)] (by rfl) ?_
      refine ops_run (is := [(0, false), (1, false), (2, false)]) (r := [(3, false), (4, false), (5, false), (6, false), (7, false), (8, false), (9, false), (10, false), (11, false), (12, false), (13, false), (14, false), (15, false), (16, false), (17, false), (18, false), (19, false), (20, false), (21, false)]) (l' := [(42, .int .i64 (IntKind.i64.wrap ((a : Int) + 1))), (10, .int .i64 1), (36, .int .i64 1), (35, .int .i64 2), (34, .slice (some ⟨b4, 0, none⟩) 2 2), (8, .int .i64 (a : Int)), (7, .func (.func 89) #[] #[.pointer (some ⟨b3, 0, none⟩)]), (5, .int .i64 3), (0, .int .i64 u), (1, .int .i64 (0 - v))]) [42, 10, 36, 35, 34, 8, 7, 5, 0, 1] (by kernel_rfl) ?_
      refine ops_conv (l' := [(42, .int .i64 ((a + 1 : Nat) : Int)), (10, .int .i64 1), (36, .int .i64 1), (35, .int .i64 2), (34, .slice (some ⟨b4, 0, none⟩) 2 2), (8, .int .i64 (a : Int)), (7, .func (.func 89) #[] #[.pointer (some ⟨b3, 0, none⟩)]), (5, .int .i64 3), (0, .int .i64 u), (1, .int .i64 (0 - v))]) (by rw [ha1]) (fun _ h => h) ?_
      refine ops_run (is := [(3, false), (4, false)]) (r := [(5, false), (6, false), (7, false), (8, false), (9, false), (10, false), (11, false), (12, false), (13, false), (14, false), (15, false), (16, false), (17, false), (18, false), (19, false), (20, false), (21, false)]) (l' := [(44, .bool (decide (((a + 1 : Nat) : Int) < 16384))), (10, .int .i64 1), (36, .int .i64 1), (35, .int .i64 2), (34, .slice (some ⟨b4, 0, none⟩) 2 2), (8, .int .i64 (a : Int)), (7, .func (.func 89) #[] #[.pointer (some ⟨b3, 0, none⟩)]), (5, .int .i64 3), (0, .int .i64 u), (1, .int .i64 (0 - v))]) [44, 10, 36, 35, 34, 8, 7, 5, 0, 1] (by kernel_rfl) ?_
      refine ops_bool (t := decide (((a + 1 : Nat) : Int) < 16384)) (l1 := [(44, .bool true), (10, .int .i64 1), (36, .int .i64 1), (35, .int .i64 2), (34, .slice (some ⟨b4, 0, none⟩) 2 2), (8, .int .i64 (a : Int)), (7, .func (.func 89) #[] #[.pointer (some ⟨b3, 0, none⟩)]), (5, .int .i64 3), (0, .int .i64 u), (1, .int .i64 (0 - v))]) (l2 := [(44, .bool false), (10, .int .i64 1), (36, .int .i64 1), (35, .int .i64 2), (34, .slice (some ⟨b4, 0, none⟩) 2 2), (8, .int .i64 (a : Int)), (7, .func (.func 89) #[] #[.pointer (some ⟨b3, 0, none⟩)]), (5, .int .i64 3), (0, .int .i64 u), (1, .int .i64 (0 - v))]) (fun h => by rw [h]) (fun h => by rw [h]) (fun hc7 => ?_) (fun hc7 => ?_)
      · --decide (((a + 1 : Nat) : Int) < 16384)
        have hlt : a + 1 < 16384 := by have := of_decide_eq_true hc7; omega
        have ha3 : IntKind.i64.wrap (((16384 - a : Nat) : Int) - 1) = ((16384 - a - 1 : Nat) : Int) := by rw [i64in (by omega) (by omega)]; omega
        have hq1 := prod_ok (a := (16384 - a - 1)) (y := u) (by omega) hY hY1
        have hq2 := prod_ok (a := (a + 1)) (y := (0 - v)) (by omega) (by omega) hX1
        have hp1 : IntKind.i64.wrap (firstV (16384 - a - 1) * u) = firstV (16384 - a - 1) * u := i64in (by omega) (by omega)
        have hp2 : IntKind.i64.wrap (firstV (a + 1) * (0 - v)) = firstV (a + 1) * (0 - v) := i64in (by omega) (by omega)
        refine ops_run (is := [(5, false), (6, false), (7, false)]) (r := [(8, false), (9, false), (10, false), (11, false), (12, false), (13, false), (14, false), (15, false), (16, false), (17, false), (18, false), (19, false), (20, false), (21, false)]) (l' := [(47, .int .i64 (IntKind.i64.wrap (16384 - (a : Int)))), (45, .func (.func 89) #[] #[.pointer (some ⟨b3, 0, none⟩)]), (44, .bool true), (10, .int .i64 1), (36, .int .i64 1), (35, .int .i64 2), (34, .slice (some ⟨b4, 0, none⟩) 2 2), (8, .int .i64 (a : Int)), (7, .func (.func 89) #[] #[.pointer (some ⟨b3, 0, none⟩)]), (5, .int .i64 3), (0, .int .i64 u), (1, .int .i64 (0 - v))]) [47, 45, 44, 10, 36, 35, 34, 8, 7, 5, 0, 1] (by kernel_rfl) ?_
        refine ops_conv (l' := [(47, .int .i64 ((16384 - a : Nat) : Int)), (45, .func (.func 89) #[] #[.pointer (some ⟨b3, 0, none⟩)]), (44, .bool true), (10, .int .i64 1), (36, .int .i64 1), (35, .int .i64 2), (34, .slice (some ⟨b4, 0, none⟩) 2 2), (8, .int .i64 (a : Int)), (7, .func (.func 89) #[] #[.pointer (some ⟨b3, 0, none⟩)]), (5, .int .i64 3), (0, .int .i64 u), (1, .int .i64 (0 - v))]) (by rw [ha2]) (fun _ h => h) ?_
        refine ops_run (is := [(8, false), (9, false)]) (r := [(10, false), (11, false), (12, false), (13, false), (14, false), (15, false), (16, false), (17, false), (18, false), (19, false), (20, false), (21, false)]) (l' := [(49, .int .i64 (IntKind.i64.wrap (((16384 - a : Nat) : Int) - 1))), (45, .func (.func 89) #[] #[.pointer (some ⟨b3, 0, none⟩)]), (44, .bool true), (10, .int .i64 1), (36, .int .i64 1), (35, .int .i64 2), (34, .slice (some ⟨b4, 0, none⟩) 2 2), (8, .int .i64 (a : Int)), (7, .func (.func 89) #[] #[.pointer (some ⟨b3, 0, none⟩)]), (5, .int .i64 3), (0, .int .i64 u), (1, .int .i64 (0 - v))]) [49, 45, 44, 10, 36, 35, 34, 8, 7, 5, 0, 1] (by kernel_rfl) ?_
        refine ops_conv (l' := [(49, .int .i64 ((16384 - a - 1 : Nat) : Int)), (45, .func (.func 89) #[] #[.pointer (some ⟨b3, 0, none⟩)]), (44, .bool true), (10, .int .i64 1), (36, .int .i64 1), (35, .int .i64 2), (34, .slice (some ⟨b4, 0, none⟩) 2 2), (8, .int .i64 (a : Int)), (7, .func (.func 89) #[] #[.pointer (some ⟨b3, 0, none⟩)]), (5, .int .i64 3), (0, .int .i64 u), (1, .int .i64 (0 - v))]) (by rw [ha3]) (fun _ h => h) ?_
        refine ops_call (σ := Unit) (d := some 50) (f := 89) (args := #[.int .i64 ((16384 - a - 1 : Nat) : Int), .pointer (some ⟨b3, 0, none⟩)]) (v := fun _ => .int .i64 (firstV (16384 - a - 1))) (M' := fun _ => Mem w [.blk b4 [.int .i64 256, .int .i64 1] 3, .blk b3 [.slice A1 65 c2] 37, .row A1 65 c2 3 1 (iv .i64 tab)]) ⟨by kernel_rfl⟩ (fun w_ hM hS => (Angle1_calls (16384 - a - 1) _ A1 c2 w_ (by omega) (hM.cell 1 rfl rfl) (hM.rints 2 rfl)).mono (by rintro e w' ⟨rfl, hb⟩; exact ⟨(), rfl, hM.step hb, trivial⟩)) (fun _ => ?_)
        refine ops_run (is := [(11, false), (12, false)]) (r := [(13, false), (14, false), (15, false), (16, false), (17, false), (18, false), (19, false), (20, false), (21, false)]) (l' := [(52, .int .i64 (IntKind.i64.wrap (firstV (16384 - a - 1) * u))), (44, .bool true), (10, .int .i64 1), (36, .int .i64 1), (35, .int .i64 2), (34, .slice (some ⟨b4, 0, none⟩) 2 2), (8, .int .i64 (a : Int)), (7, .func (.func 89) #[] #[.pointer (some ⟨b3, 0, none⟩)]), (5, .int .i64 3), (0, .int .i64 u), (1, .int .i64 (0 - v))]) [52, 44, 10, 36, 35, 34, 8, 7, 5, 0, 1] (by kernel_rfl) ?_
        refine ops_conv (l' := [(52, .int .i64 (firstV (16384 - a - 1) * u)), (44, .bool true), (10, .int .i64 1), (36, .int .i64 1), (35, .int .i64 2), (34, .slice (some ⟨b4, 0, none⟩) 2 2), (8, .int .i64 (a : Int)), (7, .func (.func 89) #[] #[.pointer (some ⟨b3, 0, none⟩)]), (5, .int .i64 3), (0, .int .i64 u), (1, .int .i64 (0 - v))]) (by rw [hp1]) (fun _ h => h) ?_
        refine ops_run (is := [(13, false), (14, false), (15, false), (16, false)]) (r := [(17, false), (18, false), (19, false), (20, false), (21, false)]) (l' := [(56, .int .i64 (IntKind.i64.wrap ((a : Int) + 1))), (53, .func (.func 89) #[] #[.pointer (some ⟨b3, 0, none⟩)]), (52, .int .i64 (firstV (16384 - a - 1) * u)), (44, .bool true), (10, .int .i64 1), (36, .int .i64 1), (35, .int .i64 2), (34, .slice (some ⟨b4, 0, none⟩) 2 2), (8, .int .i64 (a : Int)), (7, .func (.func 89) #[] #[.pointer (some ⟨b3, 0, none⟩)]), (5, .int .i64 3), (0, .int .i64 u), (1, .int .i64 (0 - v))]) [56, 53, 52, 44, 10, 36, 35, 34, 8, 7, 5, 0, 1] (by kernel_rfl) ?_
        refine ops_conv (l' := [(56, .int .i64 ((a + 1 : Nat) : Int)), (53, .func (.func 89) #[] #[.pointer (some ⟨b3, 0, none⟩)]), (52, .int .i64 (firstV (16384 - a - 1) * u)), (44, .bool true), (10, .int .i64 1), (36, .int .i64 1), (35, .int .i64 2), (34, .slice (some ⟨b4, 0, none⟩) 2 2), (8, .int .i64 (a : Int)), (7, .func (.func 89) #[] #[.pointer (some ⟨b3, 0, none⟩)]), (5, .int .i64 3), (0, .int .i64 u), (1, .int .i64 (0 - v))]) (by rw [ha1]) (fun _ h => h) ?_
        refine ops_call (σ := Unit) (d := some 57) (f := 89) (args := #[.int .i64 ((a + 1 : Nat) : Int), .pointer (some ⟨b3, 0, none⟩)]) (v := fun _ => .int .i64 (firstV (a + 1))) (M' := fun _ => Mem w [.blk b4 [.int .i64 256, .int .i64 1] 3, .blk b3 [.slice A1 65 c2] 37, .row A1 65 c2 3 1 (iv .i64 tab)]) ⟨by kernel_rfl⟩ (fun w_ hM hS => (Angle1_calls (a + 1) _ A1 c2 w_ (by omega) (hM.cell 1 rfl rfl) (hM.rints 2 rfl)).mono (by rintro e w' ⟨rfl, hb⟩; exact ⟨(), rfl, hM.step hb, trivial⟩)) (fun _ => ?_)
        refine ops_run (is := [(18, false), (19, false)]) (r := [(20, false), (21, false)]) (l' := [(59, .int .i64 (IntKind.i64.wrap (firstV (a + 1) * (0 - v)))), (52, .int .i64 (firstV (16384 - a - 1) * u)), (44, .bool true), (10, .int .i64 1), (36, .int .i64 1), (35, .int .i64 2), (34, .slice (some ⟨b4, 0, none⟩) 2 2), (8, .int .i64 (a : Int)), (7, .func (.func 89) #[] #[.pointer (some ⟨b3, 0, none⟩)]), (5, .int .i64 3), (0, .int .i64 u), (1, .int .i64 (0 - v))]) [59, 52, 44, 10, 36, 35, 34, 8, 7, 5, 0, 1] (by kernel_rfl) ?_
        refine ops_conv (l' := [(59, .int .i64 (firstV (a + 1) * (0 - v))), (52, .int .i64 (firstV (16384 - a - 1) * u)), (44, .bool true), (10, .int .i64 1), (36, .int .i64 1), (35, .int .i64 2), (34, .slice (some ⟨b4, 0, none⟩) 2 2), (8, .int .i64 (a : Int)), (7, .func (.func 89) #[] #[.pointer (some ⟨b3, 0, none⟩)]), (5, .int .i64 3), (0, .int .i64 u), (1, .int .i64 (0 - v))]) (by rw [hp2]) (fun _ h => h) ?_
        refine ops_run (is := [(20, false), (21, false)]) (r := []) (l' := [(61, .bool (decide ((firstV (a + 1) * (0 - v)) ≤ (firstV (16384 - a - 1) * u)))), (10, .int .i64 1), (36, .int .i64 1), (35, .int .i64 2), (34, .slice (some ⟨b4, 0, none⟩) 2 2), (8, .int .i64 (a : Int)), (7, .func (.func 89) #[] #[.pointer (some ⟨b3, 0, none⟩)]), (5, .int .i64 3), (0, .int .i64 u), (1, .int .i64 (0 - v))]) [61, 10, 36, 35, 34, 8, 7, 5, 0, 1] (by kernel_rfl) ?_
        refine ops_nil ?_
        refine fin_then ?_
        refine st_if (b := decide ((firstV (a + 1) * (0 - v)) ≤ (firstV (16384 - a - 1) * u))) rfl (fun hc8 => ?_) (fun hc8 => ?_)
        · --
          refine st_skip ?_
          refine fin_then ?_
          refine st_block ?_
          refine st_region [(0, false), (1, false), (2, false), (3, false)] (by rfl) ?_
          refine ops_run (is := [(0, false), (1, false), (2, false)]) (r := [(3, false)]) (l' := [(64, .int .i64 (IntKind.i64.wrap ((a : Int) + 1))), (10, .int .i64 1), (36, .int .i64 1), (35, .int .i64 2), (34, .slice (some ⟨b4, 0, none⟩) 2 2), (8, .int .i64 (a : Int)), (7, .func (.func 89) #[] #[.pointer (some ⟨b3, 0, none⟩)]), (5, .int .i64 3), (0, .int .i64 u), (1, .int .i64 (0 - v))]) [64, 10, 36, 35, 34, 8, 7, 5, 0, 1] (by kernel_rfl) ?_
          refine ops_conv (l' := [(64, .int .i64 ((a + 1 : Nat) : Int)), (10, .int .i64 1), (36, .int .i64 1), (35, .int .i64 2), (34, .slice (some ⟨b4, 0, none⟩) 2 2), (8, .int .i64 (a : Int)), (7, .func (.func 89) #[] #[.pointer (some ⟨b3, 0, none⟩)]), (5, .int .i64 3), (0, .int .i64 u), (1, .int .i64 (0 - v))]) (by rw [ha1]) (fun _ h => h) ?_
          refine ops_run (is := [(3, false)]) (r := []) (l' := [(8, .int .i64 ((a + 1 : Nat) : Int)), (10, .int .i64 1), (36, .int .i64 1), (35, .int .i64 2), (34, .slice (some ⟨b4, 0, none⟩) 2 2), (7, .func (.func 89) #[] #[.pointer (some ⟨b3, 0, none⟩)]), (5, .int .i64 3), (0, .int .i64 u), (1, .int .i64 (0 - v))]) [8, 10, 36, 35, 34, 7, 5, 0, 1] (by kernel_rfl) ?_
          refine ops_nil ?_
          refine fin_block ?_
          refine fin_round (a + 1) (by exact ⟨show a + 1 ≤ 16383 by omega, by have z := of_decide_eq_true hc8; rwa [show 16384 - a - 1 = 16384 - (a + 1) by omega] at z⟩) (by (show 16384 - (a + 1) < 16384 - a; omega)) (look_has ⟨rfl, rfl, rfl, rfl, rfl, rfl, rfl, rfl, rfl, trivial⟩) (fun w_ hM => by exact hM)
        · --
          refine st_exit ?_
          refine fin_exit_then ?_
          refine fin_exit_then ?_
          refine fin_exit ?_
          refine fin_block ?_
          refine fin_then ?_
          refine st_region [(0, false), (1, false)] (by rfl) ?_
          refine ops_run (is := [(0, false), (1, false)]) (r := []) (l' := [(36, .int .i64 2), (35, .int .i64 2), (34, .slice (some ⟨b4, 0, none⟩) 2 2), (8, .int .i64 (a : Int)), (7, .func (.func 89) #[] #[.pointer (some ⟨b3, 0, none⟩)]), (5, .int .i64 3), (0, .int .i64 u), (1, .int .i64 (0 - v))]) [36, 35, 34, 8, 7, 5, 0, 1] (by kernel_rfl) ?_
          refine ops_nil ?_
          refine fin_rounds ?_
          refine str_succ ?_
          refine st_seq ?_
          refine st_region [(0, false)] (by rfl) ?_
          refine ops_run (is := [(0, false)]) (r := []) (l' := [(37, .bool false), (36, .int .i64 2), (35, .int .i64 2), (34, .slice (some ⟨b4, 0, none⟩) 2 2), (8, .int .i64 (a : Int)), (7, .func (.func 89) #[] #[.pointer (some ⟨b3, 0, none⟩)]), (5, .int .i64 3), (0, .int .i64 u), (1, .int .i64 (0 - v))]) [37, 36, 35, 34, 8, 7, 5, 0, 1] (by kernel_rfl) ?_
          refine ops_nil ?_
          refine fin_then ?_
          refine st_seq ?_
          refine st_false rfl ?_
          refine st_exit ?_
          refine fin_exit_then ?_
          refine fin_exit_then ?_
          refine fin_exit ?_
          refine fin_then ?_
          refine st_seq ?_
          refine st_region [(0, false), (1, false), (2, false), (3, false), (4, false)] (by rfl) ?_
          refine ops_run (is := [(0, false), (1, false), (2, false), (3, false)]) (r := [(4, false)]) (l' := [(69, .int .i64 (IntKind.i64.wrap (49152 + (a : Int))))]) [69] (by kernel_rfl) ?_
          refine ops_conv (l' := [(69, .int .i64 (49152 + (a : Int)))]) (by rw [(i64in (x := 49152 + (a : Int)) (by omega) (by omega))]) (fun _ h => h) ?_
          refine ops_run (is := [(4, false)]) (r := []) (l' := [(4, .int .i64 (49152 + (a : Int)))]) [4] (by kernel_rfl) ?_
          refine ops_nil ?_
          refine fin_then ?_
          refine st_ret ?_
          refine fin_ret [.tmp 4] [.int .i64 (49152 + (a : Int))] rfl rfl (fun w_ hM => (.tmp rfl .nil)) (fun w_ hM => ?_)
          refine ⟨?_, hM.done⟩
          have z := ang_eq hX hY hloa hba (by right; intro hc; have z := of_decide_eq_false hc8; rw [show 16384 - a - 1 = 16384 - (a + 1) by omega] at z; exact z hc)
          rw [← z]
          first | rfl | (simp only [theOne]; congr 2; omega)
      · --decide (((a + 1 : Nat) : Int) < 16384)
        refine ops_run (is := [(5, false), (6, false), (7, false), (8, false), (9, false), (10, false), (11, false), (12, false), (13, false), (14, false), (15, false), (16, false), (17, false), (18, false), (19, false), (20, false), (21, false)]) (r := []) (l' := [(61, .bool false), (10, .int .i64 1), (36, .int .i64 1), (35, .int .i64 2), (34, .slice (some ⟨b4, 0, none⟩) 2 2), (8, .int .i64 (a : Int)), (7, .func (.func 89) #[] #[.pointer (some ⟨b3, 0, none⟩)]), (5, .int .i64 3), (0, .int .i64 u), (1, .int .i64 (0 - v))]) [61, 10, 36, 35, 34, 8, 7, 5, 0, 1] (by kernel_rfl) ?_
        refine ops_nil ?_
        refine fin_then ?_
        refine st_false rfl ?_
        refine st_exit ?_
        refine fin_exit_then ?_
        refine fin_exit_then ?_
        refine fin_exit ?_
        refine fin_block ?_
        refine fin_then ?_
        refine st_region [(0, false), (1, false)] (by rfl) ?_
        refine ops_run (is := [(0, false), (1, false)]) (r := []) (l' := [(36, .int .i64 2), (35, .int .i64 2), (34, .slice (some ⟨b4, 0, none⟩) 2 2), (8, .int .i64 (a : Int)), (7, .func (.func 89) #[] #[.pointer (some ⟨b3, 0, none⟩)]), (5, .int .i64 3), (0, .int .i64 u), (1, .int .i64 (0 - v))]) [36, 35, 34, 8, 7, 5, 0, 1] (by kernel_rfl) ?_
        refine ops_nil ?_
        refine fin_rounds ?_
        refine str_succ ?_
        refine st_seq ?_
        refine st_region [(0, false)] (by rfl) ?_
        refine ops_run (is := [(0, false)]) (r := []) (l' := [(37, .bool false), (36, .int .i64 2), (35, .int .i64 2), (34, .slice (some ⟨b4, 0, none⟩) 2 2), (8, .int .i64 (a : Int)), (7, .func (.func 89) #[] #[.pointer (some ⟨b3, 0, none⟩)]), (5, .int .i64 3), (0, .int .i64 u), (1, .int .i64 (0 - v))]) [37, 36, 35, 34, 8, 7, 5, 0, 1] (by kernel_rfl) ?_
        refine ops_nil ?_
        refine fin_then ?_
        refine st_seq ?_
        refine st_false rfl ?_
        refine st_exit ?_
        refine fin_exit_then ?_
        refine fin_exit_then ?_
        refine fin_exit ?_
        refine fin_then ?_
        refine st_seq ?_
        refine st_region [(0, false), (1, false), (2, false), (3, false), (4, false)] (by rfl) ?_
        refine ops_run (is := [(0, false), (1, false), (2, false), (3, false)]) (r := [(4, false)]) (l' := [(69, .int .i64 (IntKind.i64.wrap (49152 + (a : Int))))]) [69] (by kernel_rfl) ?_
        refine ops_conv (l' := [(69, .int .i64 (49152 + (a : Int)))]) (by rw [(i64in (x := 49152 + (a : Int)) (by omega) (by omega))]) (fun _ h => h) ?_
        refine ops_run (is := [(4, false)]) (r := []) (l' := [(4, .int .i64 (49152 + (a : Int)))]) [4] (by kernel_rfl) ?_
        refine ops_nil ?_
        refine fin_then ?_
        refine st_ret ?_
        refine fin_ret [.tmp 4] [.int .i64 (49152 + (a : Int))] rfl rfl (fun w_ hM => (.tmp rfl .nil)) (fun w_ hM => ?_)
        refine ⟨?_, hM.done⟩
        have z := ang_eq hX hY hloa hba (by left; have := of_decide_eq_false hc7; omega)
        rw [← z]
        first | rfl | (simp only [theOne]; congr 2; omega)
  · --decide (((a1 + 256 : Nat) : Int) < 16384)
    refine ops_run (is := [(5, false), (6, false), (7, false), (8, false), (9, false), (10, false), (11, false), (12, false), (13, false), (14, false), (15, false), (16, false), (17, false), (18, false), (19, false), (20, false), (21, false)]) (r := []) (l' := [(61, .bool false), (10, .int .i64 256), (36, .int .i64 0), (35, .int .i64 2), (34, .slice (some ⟨b4, 0, none⟩) 2 2), (8, .int .i64 (a1 : Int)), (7, .func (.func 89) #[] #[.pointer (some ⟨b3, 0, none⟩)]), (5, .int .i64 3), (0, .int .i64 u), (1, .int .i64 (0 - v))]) [61, 10, 36, 35, 34, 8, 7, 5, 0, 1] (by kernel_rfl) ?_
    refine ops_nil ?_
    refine fin_then ?_
    refine st_false rfl ?_
    refine st_exit ?_
    refine fin_exit_then ?_
    refine fin_exit_then ?_
    refine fin_exit ?_
    refine fin_block ?_
    refine fin_then ?_
    refine st_region [(0, false), (1, false)] (by rfl) ?_
    refine ops_run (is := [(0, false), (1, false)]) (r := []) (l' := [(36, .int .i64 1), (35, .int .i64 2), (34, .slice (some ⟨b4, 0, none⟩) 2 2), (8, .int .i64 (a1 : Int)), (7, .func (.func 89) #[] #[.pointer (some ⟨b3, 0, none⟩)]), (5, .int .i64 3), (0, .int .i64 u), (1, .int .i64 (0 - v))]) [36, 35, 34, 8, 7, 5, 0, 1] (by kernel_rfl) ?_
    refine ops_nil ?_
    refine fin_rounds ?_
    refine str_succ ?_
    refine st_seq ?_
    refine st_region [(0, false)] (by rfl) ?_
    refine ops_run (is := [(0, false)]) (r := []) (l' := [(37, .bool true), (36, .int .i64 1), (35, .int .i64 2), (34, .slice (some ⟨b4, 0, none⟩) 2 2), (8, .int .i64 (a1 : Int)), (7, .func (.func 89) #[] #[.pointer (some ⟨b3, 0, none⟩)]), (5, .int .i64 3), (0, .int .i64 u), (1, .int .i64 (0 - v))]) [37, 36, 35, 34, 8, 7, 5, 0, 1] (by kernel_rfl) ?_
    refine ops_nil ?_
    refine fin_then ?_
    refine st_seq ?_
    refine st_true rfl ?_
    refine st_skip ?_
    refine fin_then ?_
    refine st_seq ?_
    refine st_block ?_
    refine st_seq ?_
    refine st_region [(0, false), (1, false), (2, false)] (by rfl) ?_
    refine ops_run (is := [(0, false)]) (r := [(1, false), (2, false)]) (l' := [(38, .pointer (some ⟨b4, 1, none⟩)), (36, .int .i64 1), (35, .int .i64 2), (34, .slice (some ⟨b4, 0, none⟩) 2 2), (8, .int .i64 (a1 : Int)), (7, .func (.func 89) #[] #[.pointer (some ⟨b3, 0, none⟩)]), (5, .int .i64 3), (0, .int .i64 u), (1, .int .i64 (0 - v))]) [38, 36, 35, 34, 8, 7, 5, 0, 1] (by kernel_rfl) ?_
    refine ops_mem (d := some 39) (an := [.v (.int .i64 1)]) (evs := [.load ⟨b4, 1, none⟩ (.int .i64 1)]) (v := .int .i64 1) (M' := Mem w [.blk b4 [.int .i64 256, .int .i64 1] 3, .blk b3 [.slice A1 65 c2] 37, .row A1 65 c2 3 1 (iv .i64 tab)]) ⟨by kernel_rfl⟩ (fun w_ hM hS => ⟨w_, ⟨hM.cell 0 rfl rfl, rfl⟩, hM, trivial⟩) ?_
    refine ops_run (is := [(2, false)]) (r := []) (l' := [(10, .int .i64 1), (36, .int .i64 1), (35, .int .i64 2), (34, .slice (some ⟨b4, 0, none⟩) 2 2), (8, .int .i64 (a1 : Int)), (7, .func (.func 89) #[] #[.pointer (some ⟨b3, 0, none⟩)]), (5, .int .i64 3), (0, .int .i64 u), (1, .int .i64 (0 - v))]) [10, 36, 35, 34, 8, 7, 5, 0, 1] (by kernel_rfl) ?_
    refine ops_nil ?_
    refine fin_then ?_
    refine st_block ?_
    refine st_loop (σ := Nat) a1 (fun a => [(10, .int .i64 1), (36, .int .i64 1), (35, .int .i64 2), (34, .slice (some ⟨b4, 0, none⟩) 2 2), (8, .int .i64 (a : Int)), (7, .func (.func 89) #[] #[.pointer (some ⟨b3, 0, none⟩)]), (5, .int .i64 3), (0, .int .i64 u), (1, .int .i64 (0 - v))]) (fun a => Mem w [.blk b4 [.int .i64 256, .int .i64 1] 3, .blk b3 [.slice A1 65 c2] 37, .row A1 65 c2 3 1 (iv .i64 tab)]) (fun a => a ≤ 16383 ∧ Not (0 - v) u a) (fun a => 16384 - a) (by exact ⟨hba1, hloa1⟩) (look_has ⟨rfl, rfl, rfl, rfl, rfl, rfl, rfl, rfl, rfl, trivial⟩) (fun w_ hM => by exact hM) ?_
    rintro a hI
    obtain ⟨hba, hloa⟩ := hI
    have hba : a ≤ 16383 := hba
    have hloa : Not (0 - v) u a := hloa
    have ha1 : IntKind.i64.wrap ((a : Int) + 1) = ((a + 1 : Nat) : Int) := by rw [i64in (by omega) (by omega)]; omega
    have ha2 : IntKind.i64.wrap (16384 - (a : Int)) = ((16384 - a : Nat) : Int) := by rw [i64in (by omega) (by omega)]; omega
    refine st_seq ?_
    refine st_seq ?_
    refine st_region [(0, false), (1, false), (2, false), (3, false), (4, false), (5, false), (6, false), (7, false), (8, false), (9, false), (10, false), (11, false), (12, false), (13, false), (14, false), (15, false), (16, false), (17, false), (18, false), (19, false), (20, false), (21, false)] (by rfl) ?_
    refine ops_run (is := [(0, false), (1, false), (2, false)]) (r := [(3, false), (4, false), (5, false), (6, false), (7, false), (8, false), (9, false), (10, false), (11, false), (12, false), (13, false), (14, false), (15, false), (16, false), (17, false), (18, false), (19, false), (20, false), (21, false)]) (l' := [(42, .int .i64 (IntKind.i64.wrap ((a : Int) + 1))), (10, .int .i64 1), (36, .int .i64 1), (35, .int .i64 2), (34, .slice (some ⟨b4, 0, none⟩) 2 2), (8, .int .i64 (a : Int)), (7, .func (.func 89) #[] #[.pointer (some ⟨b3, 0, none⟩)]), (5, .int .i64 3), (0, .int .i64 u), (1, .int .i64 (0 - v))]) [42, 10, 36, 35, 34, 8, 7, 5, 0, 1] (by kernel_rfl) ?_
    refine ops_conv (l' := [(42, .int .i64 ((a + 1 : Nat) : Int)), (10, .int .i64 1), (36, .int .i64 1), (35, .int .i64 2), (34, .slice (some ⟨b4, 0, none⟩) 2 2), (8, .int .i64 (a : Int)), (7, .func (.func 89) #[] #[.pointer (some ⟨b3, 0, none⟩)]), (5, .int .i64 3), (0, .int .i64 u), (1, .int .i64 (0 - v))]) (by rw [ha1]) (fun _ h => h) ?_
    refine ops_run (is := [(3, false), (4, false)]) (r := [(5, false), (6, false), (7, false), (8, false), (9, false), (10, false), (11, false), (12, false), (13, false), (14, false), (15, false), (16, false), (17, false), (18, false), (19, false), (20, false), (21, false)]) (l' := [(44, .bool (decide (((a + 1 : Nat) : Int) < 16384))), (10, .int .i64 1), (36, .int .i64 1), (35, .int .i64 2), (34, .slice (some ⟨b4, 0, none⟩) 2 2), (8, .int .i64 (a : Int)), (7, .func (.func 89) #[] #[.pointer (some ⟨b3, 0, none⟩)]), (5, .int .i64 3), (0, .int .i64 u), (1, .int .i64 (0 - v))]) [44, 10, 36, 35, 34, 8, 7, 5, 0, 1] (by kernel_rfl) ?_
    refine ops_bool (t := decide (((a + 1 : Nat) : Int) < 16384)) (l1 := [(44, .bool true), (10, .int .i64 1), (36, .int .i64 1), (35, .int .i64 2), (34, .slice (some ⟨b4, 0, none⟩) 2 2), (8, .int .i64 (a : Int)), (7, .func (.func 89) #[] #[.pointer (some ⟨b3, 0, none⟩)]), (5, .int .i64 3), (0, .int .i64 u), (1, .int .i64 (0 - v))]) (l2 := [(44, .bool false), (10, .int .i64 1), (36, .int .i64 1), (35, .int .i64 2), (34, .slice (some ⟨b4, 0, none⟩) 2 2), (8, .int .i64 (a : Int)), (7, .func (.func 89) #[] #[.pointer (some ⟨b3, 0, none⟩)]), (5, .int .i64 3), (0, .int .i64 u), (1, .int .i64 (0 - v))]) (fun h => by rw [h]) (fun h => by rw [h]) (fun hc9 => ?_) (fun hc9 => ?_)
    · --decide (((a + 1 : Nat) : Int) < 16384)
      have hlt : a + 1 < 16384 := by have := of_decide_eq_true hc9; omega
      have ha3 : IntKind.i64.wrap (((16384 - a : Nat) : Int) - 1) = ((16384 - a - 1 : Nat) : Int) := by rw [i64in (by omega) (by omega)]; omega
      have hq1 := prod_ok (a := (16384 - a - 1)) (y := u) (by omega) hY hY1
      have hq2 := prod_ok (a := (a + 1)) (y := (0 - v)) (by omega) (by omega) hX1
      have hp1 : IntKind.i64.wrap (firstV (16384 - a - 1) * u) = firstV (16384 - a - 1) * u := i64in (by omega) (by omega)
      have hp2 : IntKind.i64.wrap (firstV (a + 1) * (0 - v)) = firstV (a + 1) * (0 - v) := i64in (by omega) (by omega)
      refine ops_run (is := [(5, false), (6, false), (7, false)]) (r := [(8, false), (9, false), (10, false), (11, false), (12, false), (13, false), (14, false), (15, false), (16, false), (17, false), (18, false), (19, false), (20, false), (21, false)]) (l' := [(47, .int .i64 (IntKind.i64.wrap (16384 - (a : Int)))), (45, .func (.func 89) #[] #[.pointer (some ⟨b3, 0, none⟩)]), (44, .bool true), (10, .int .i64 1), (36, .int .i64 1), (35, .int .i64 2), (34, .slice (some ⟨b4, 0, none⟩) 2 2), (8, .int .i64 (a : Int)), (7, .func (.func 89) #[] #[.pointer (some ⟨b3, 0, none⟩)]), (5, .int .i64 3), (0, .int .i64 u), (1, .int .i64 (0 - v))]) [47, 45, 44, 10, 36, 35, 34, 8, 7, 5, 0, 1] (by kernel_rfl) ?_
      refine ops_conv (l' := [(47, .int .i64 ((16384 - a : Nat) : Int)), (45, .func (.func 89) #[] #[.pointer (some ⟨b3, 0, none⟩)]), (44, .bool true), (10, .int .i64 1), (36, .int .i64 1), (35, .int .i64 2), (34, .slice (some ⟨b4, 0, none⟩) 2 2), (8, .int .i64 (a : Int)), (7, .func (.func 89) #[] #[.pointer (some ⟨b3, 0, none⟩)]), (5, .int .i64 3), (0, .int .i64 u), (1, .int .i64 (0 - v))]) (by rw [ha2]) (fun _ h => h) ?_
      refine ops_run (is := [(8, false), (9, false)]) (r := [(10, false), (11, false), (12, false), (13, false), (14, false), (15, false), (16, false), (17, false), (18, false), (19, false), (20, false), (21, false)]) (l' := [(49, .int .i64 (IntKind.i64.wrap (((16384 - a : Nat) : Int) - 1))), (45, .func (.func 89) #[] #[.pointer (some ⟨b3, 0, none⟩)]), (44, .bool true), (10, .int .i64 1), (36, .int .i64 1), (35, .int .i64 2), (34, .slice (some ⟨b4, 0, none⟩) 2 2), (8, .int .i64 (a : Int)), (7, .func (.func 89) #[] #[.pointer (some ⟨b3, 0, none⟩)]), (5, .int .i64 3), (0, .int .i64 u), (1, .int .i64 (0 - v))]) [49, 45, 44, 10, 36, 35, 34, 8, 7, 5, 0, 1] (by kernel_rfl) ?_
      refine ops_conv (l' := [(49, .int .i64 ((16384 - a - 1 : Nat) : Int)), (45, .func (.func 89) #[] #[.pointer (some ⟨b3, 0, none⟩)]), (44, .bool true), (10, .int .i64 1), (36, .int .i64 1), (35, .int .i64 2), (34, .slice (some ⟨b4, 0, none⟩) 2 2), (8, .int .i64 (a : Int)), (7, .func (.func 89) #[] #[.pointer (some ⟨b3, 0, none⟩)]), (5, .int .i64 3), (0, .int .i64 u), (1, .int .i64 (0 - v))]) (by rw [ha3]) (fun _ h => h) ?_
      refine ops_call (σ := Unit) (d := some 50) (f := 89) (args := #[.int .i64 ((16384 - a - 1 : Nat) : Int), .pointer (some ⟨b3, 0, none⟩)]) (v := fun _ => .int .i64 (firstV (16384 - a - 1))) (M' := fun _ => Mem w [.blk b4 [.int .i64 256, .int .i64 1] 3, .blk b3 [.slice A1 65 c2] 37, .row A1 65 c2 3 1 (iv .i64 tab)]) ⟨by kernel_rfl⟩ (fun w_ hM hS => (Angle1_calls (16384 - a - 1) _ A1 c2 w_ (by omega) (hM.cell 1 rfl rfl) (hM.rints 2 rfl)).mono (by rintro e w' ⟨rfl, hb⟩; exact ⟨(), rfl, hM.step hb, trivial⟩)) (fun _ => ?_)
      refine ops_run (is := [(11, false), (12, false)]) (r := [(13, false), (14, false), (15, false), (16, false), (17, false), (18, false), (19, false), (20, false), (21, false)]) (l' := [(52, .int .i64 (IntKind.i64.wrap (firstV (16384 - a - 1) * u))), (44, .bool true), (10, .int .i64 1), (36, .int .i64 1), (35, .int .i64 2), (34, .slice (some ⟨b4, 0, none⟩) 2 2), (8, .int .i64 (a : Int)), (7, .func (.func 89) #[] #[.pointer (some ⟨b3, 0, none⟩)]), (5, .int .i64 3), (0, .int .i64 u), (1, .int .i64 (0 - v))]) [52, 44, 10, 36, 35, 34, 8, 7, 5, 0, 1] (by kernel_rfl) ?_
      refine ops_conv (l' := [(52, .int .i64 (firstV (16384 - a - 1) * u)), (44, .bool true), (10, .int .i64 1), (36, .int .i64 1), (35, .int .i64 2), (34, .slice (some ⟨b4, 0, none⟩) 2 2), (8, .int .i64 (a : Int)), (7, .func (.func 89) #[] #[.pointer (some ⟨b3, 0, none⟩)]), (5, .int .i64 3), (0, .int .i64 u), (1, .int .i64 (0 - v))]) (by rw [hp1]) (fun _ h => h) ?_
      refine ops_run (is := [(13, false), (14, false), (15, false), (16, false)]) (r := [(17, false), (18, false), (19, false), (20, false), (21, false)]) (l' := [(56, .int .i64 (IntKind.i64.wrap ((a : Int) + 1))), (53, .func (.func 89) #[] #[.pointer (some ⟨b3, 0, none⟩)]), (52, .int .i64 (firstV (16384 - a - 1) * u)), (44, .bool true), (10, .int .i64 1), (36, .int .i64 1), (35, .int .i64 2), (34, .slice (some ⟨b4, 0, none⟩) 2 2), (8, .int .i64 (a : Int)), (7, .func (.func 89) #[] #[.pointer (some ⟨b3, 0, none⟩)]), (5, .int .i64 3), (0, .int .i64 u), (1, .int .i64 (0 - v))]) [56, 53, 52, 44, 10, 36, 35, 34, 8, 7, 5, 0, 1] (by kernel_rfl) ?_
      refine ops_conv (l' := [(56, .int .i64 ((a + 1 : Nat) : Int)), (53, .func (.func 89) #[] #[.pointer (some ⟨b3, 0, none⟩)]), (52, .int .i64 (firstV (16384 - a - 1) * u)), (44, .bool true), (10, .int .i64 1), (36, .int .i64 1), (35, .int .i64 2), (34, .slice (some ⟨b4, 0, none⟩) 2 2), (8, .int .i64 (a : Int)), (7, .func (.func 89) #[] #[.pointer (some ⟨b3, 0, none⟩)]), (5, .int .i64 3), (0, .int .i64 u), (1, .int .i64 (0 - v))]) (by rw [ha1]) (fun _ h => h) ?_
      refine ops_call (σ := Unit) (d := some 57) (f := 89) (args := #[.int .i64 ((a + 1 : Nat) : Int), .pointer (some ⟨b3, 0, none⟩)]) (v := fun _ => .int .i64 (firstV (a + 1))) (M' := fun _ => Mem w [.blk b4 [.int .i64 256, .int .i64 1] 3, .blk b3 [.slice A1 65 c2] 37, .row A1 65 c2 3 1 (iv .i64 tab)]) ⟨by kernel_rfl⟩ (fun w_ hM hS => (Angle1_calls (a + 1) _ A1 c2 w_ (by omega) (hM.cell 1 rfl rfl) (hM.rints 2 rfl)).mono (by rintro e w' ⟨rfl, hb⟩; exact ⟨(), rfl, hM.step hb, trivial⟩)) (fun _ => ?_)
      refine ops_run (is := [(18, false), (19, false)]) (r := [(20, false), (21, false)]) (l' := [(59, .int .i64 (IntKind.i64.wrap (firstV (a + 1) * (0 - v)))), (52, .int .i64 (firstV (16384 - a - 1) * u)), (44, .bool true), (10, .int .i64 1), (36, .int .i64 1), (35, .int .i64 2), (34, .slice (some ⟨b4, 0, none⟩) 2 2), (8, .int .i64 (a : Int)), (7, .func (.func 89) #[] #[.pointer (some ⟨b3, 0, none⟩)]), (5, .int .i64 3), (0, .int .i64 u), (1, .int .i64 (0 - v))]) [59, 52, 44, 10, 36, 35, 34, 8, 7, 5, 0, 1] (by kernel_rfl) ?_
      refine ops_conv (l' := [(59, .int .i64 (firstV (a + 1) * (0 - v))), (52, .int .i64 (firstV (16384 - a - 1) * u)), (44, .bool true), (10, .int .i64 1), (36, .int .i64 1), (35, .int .i64 2), (34, .slice (some ⟨b4, 0, none⟩) 2 2), (8, .int .i64 (a : Int)), (7, .func (.func 89) #[] #[.pointer (some ⟨b3, 0, none⟩)]), (5, .int .i64 3), (0, .int .i64 u), (1, .int .i64 (0 - v))]) (by rw [hp2]) (fun _ h => h) ?_
      refine ops_run (is := [(20, false), (21, false)]) (r := []) (l' := [(61, .bool (decide ((firstV (a + 1) * (0 - v)) ≤ (firstV (16384 - a - 1) * u)))), (10, .int .i64 1), (36, .int .i64 1), (35, .int .i64 2), (34, .slice (some ⟨b4, 0, none⟩) 2 2), (8, .int .i64 (a : Int)), (7, .func (.func 89) #[] #[.pointer (some ⟨b3, 0, none⟩)]), (5, .int .i64 3), (0, .int .i64 u), (1, .int .i64 (0 - v))]) [61, 10, 36, 35, 34, 8, 7, 5, 0, 1] (by kernel_rfl) ?_
      refine ops_nil ?_
      refine fin_then ?_
      refine st_if (b := decide ((firstV (a + 1) * (0 - v)) ≤ (firstV (16384 - a - 1) * u))) rfl (fun hc10 => ?_) (fun hc10 => ?_)
      · --
        refine st_skip ?_
        refine fin_then ?_
        refine st_block ?_
        refine st_region [(0, false), (1, false), (2, false), (3, false)] (by rfl) ?_
        refine ops_run (is := [(0, false), (1, false), (2, false)]) (r := [(3, false)]) (l' := [(64, .int .i64 (IntKind.i64.wrap ((a : Int) + 1))), (10, .int .i64 1), (36, .int .i64 1), (35, .int .i64 2), (34, .slice (some ⟨b4, 0, none⟩) 2 2), (8, .int .i64 (a : Int)), (7, .func (.func 89) #[] #[.pointer (some ⟨b3, 0, none⟩)]), (5, .int .i64 3), (0, .int .i64 u), (1, .int .i64 (0 - v))]) [64, 10, 36, 35, 34, 8, 7, 5, 0, 1] (by kernel_rfl) ?_
        refine ops_conv (l' := [(64, .int .i64 ((a + 1 : Nat) : Int)), (10, .int .i64 1), (36, .int .i64 1), (35, .int .i64 2), (34, .slice (some ⟨b4, 0, none⟩) 2 2), (8, .int .i64 (a : Int)), (7, .func (.func 89) #[] #[.pointer (some ⟨b3, 0, none⟩)]), (5, .int .i64 3), (0, .int .i64 u), (1, .int .i64 (0 - v))]) (by rw [ha1]) (fun _ h => h) ?_
        refine ops_run (is := [(3, false)]) (r := []) (l' := [(8, .int .i64 ((a + 1 : Nat) : Int)), (10, .int .i64 1), (36, .int .i64 1), (35, .int .i64 2), (34, .slice (some ⟨b4, 0, none⟩) 2 2), (7, .func (.func 89) #[] #[.pointer (some ⟨b3, 0, none⟩)]), (5, .int .i64 3), (0, .int .i64 u), (1, .int .i64 (0 - v))]) [8, 10, 36, 35, 34, 7, 5, 0, 1] (by kernel_rfl) ?_
        refine ops_nil ?_
        refine fin_block ?_
        refine fin_round (a + 1) (by exact ⟨show a + 1 ≤ 16383 by omega, by have z := of_decide_eq_true hc10; rwa [show 16384 - a - 1 = 16384 - (a + 1) by omega] at z⟩) (by (show 16384 - (a + 1) < 16384 - a; omega)) (look_has ⟨rfl, rfl, rfl, rfl, rfl, rfl, rfl, rfl, rfl, trivial⟩) (fun w_ hM => by exact hM)
      · --
        refine st_exit ?_
        refine fin_exit_then ?_
        refine fin_exit_then ?_
        refine fin_exit ?_
        refine fin_block ?_
        refine fin_then ?_
        refine st_region [(0, false), (1, false)] (by rfl) ?_
        refine ops_run (is := [(0, false), (1, false)]) (r := []) (l' := [(36, .int .i64 2), (35, .int .i64 2), (34, .slice (some ⟨b4, 0, none⟩) 2 2), (8, .int .i64 (a : Int)), (7, .func (.func 89) #[] #[.pointer (some ⟨b3, 0, none⟩)]), (5, .int .i64 3), (0, .int .i64 u), (1, .int .i64 (0 - v))]) [36, 35, 34, 8, 7, 5, 0, 1] (by kernel_rfl) ?_
        refine ops_nil ?_
        refine fin_rounds ?_
        refine str_succ ?_
        refine st_seq ?_
        refine st_region [(0, false)] (by rfl) ?_
        refine ops_run (is := [(0, false)]) (r := []) (l' := [(37, .bool false), (36, .int .i64 2), (35, .int .i64 2), (34, .slice (some ⟨b4, 0, none⟩) 2 2), (8, .int .i64 (a : Int)), (7, .func (.func 89) #[] #[.pointer (some ⟨b3, 0, none⟩)]), (5, .int .i64 3), (0, .int .i64 u), (1, .int .i64 (0 - v))]) [37, 36, 35, 34, 8, 7, 5, 0, 1] (by kernel_rfl) ?_
        refine ops_nil ?_
        refine fin_then ?_
        refine st_seq ?_
        refine st_false rfl ?_
        refine st_exit ?_
        refine fin_exit_then ?_
        refine fin_exit_then ?_
        refine fin_exit ?_
        refine fin_then ?_
        refine st_seq ?_
        refine st_region [(0, false), (1, false), (2, false), (3, false), (4, false)] (by rfl) ?_
        refine ops_run (is := [(0, false), (1, false), (2, false), (3, false)]) (r := [(4, false)]) (l' := [(69, .int .i64 (IntKind.i64.wrap (49152 + (a : Int))))]) [69] (by kernel_rfl) ?_
        refine ops_conv (l' := [(69, .int .i64 (49152 + (a : Int)))]) (by rw [(i64in (x := 49152 + (a : Int)) (by omega) (by omega))]) (fun _ h => h) ?_
        refine ops_run (is := [(4, false)]) (r := []) (l' := [(4, .int .i64 (49152 + (a : Int)))]) [4] (by kernel_rfl) ?_
        refine ops_nil ?_
        refine fin_then ?_
        refine st_ret ?_
        refine fin_ret [.tmp 4] [.int .i64 (49152 + (a : Int))] rfl rfl (fun w_ hM => (.tmp rfl .nil)) (fun w_ hM => ?_)
        refine ⟨?_, hM.done⟩
        have z := ang_eq hX hY hloa hba (by right; intro hc; have z := of_decide_eq_false hc10; rw [show 16384 - a - 1 = 16384 - (a + 1) by omega] at z; exact z hc)
        rw [← z]
        first | rfl | (simp only [theOne]; congr 2; omega)
    · --decide (((a + 1 : Nat) : Int) < 16384)
      refine ops_run (is := [(5, false), (6, false), (7, false), (8, false), (9, false), (10, false), (11, false), (12, false), (13, false), (14, false), (15, false), (16, false), (17, false), (18, false), (19, false), (20, false), (21, false)]) (r := []) (l' := [(61, .bool false), (10, .int .i64 1), (36, .int .i64 1), (35, .int .i64 2), (34, .slice (some ⟨b4, 0, none⟩) 2 2), (8, .int .i64 (a : Int)), (7, .func (.func 89) #[] #[.pointer (some ⟨b3, 0, none⟩)]), (5, .int .i64 3), (0, .int .i64 u), (1, .int .i64 (0 - v))]) [61, 10, 36, 35, 34, 8, 7, 5, 0, 1] (by kernel_rfl) ?_
      refine ops_nil ?_
      refine fin_then ?_
      refine st_false rfl ?_
      refine st_exit ?_
      refine fin_exit_then ?_
      refine fin_exit_then ?_
      refine fin_exit ?_
      refine fin_block ?_
      refine fin_then ?_
      refine st_region [(0, false), (1, false)] (by rfl) ?_
      refine ops_run (is := [(0, false), (1, false)]) (r := []) (l' := [(36, .int .i64 2), (35, .int .i64 2), (34, .slice (some ⟨b4, 0, none⟩) 2 2), (8, .int .i64 (a : Int)), (7, .func (.func 89) #[] #[.pointer (some ⟨b3, 0, none⟩)]), (5, .int .i64 3), (0, .int .i64 u), (1, .int .i64 (0 - v))]) [36, 35, 34, 8, 7, 5, 0, 1] (by kernel_rfl) ?_
      refine ops_nil ?_
      refine fin_rounds ?_
      refine str_succ ?_
      refine st_seq ?_
      refine st_region [(0, false)] (by rfl) ?_
      refine ops_run (is := [(0, false)]) (r := []) (l' := [(37, .bool false), (36, .int .i64 2), (35, .int .i64 2), (34, .slice (some ⟨b4, 0, none⟩) 2 2), (8, .int .i64 (a : Int)), (7, .func (.func 89) #[] #[.pointer (some ⟨b3, 0, none⟩)]), (5, .int .i64 3), (0, .int .i64 u), (1, .int .i64 (0 - v))]) [37, 36, 35, 34, 8, 7, 5, 0, 1] (by kernel_rfl) ?_
      refine ops_nil ?_
      refine fin_then ?_
      refine st_seq ?_
      refine st_false rfl ?_
      refine st_exit ?_
      refine fin_exit_then ?_
      refine fin_exit_then ?_
      refine fin_exit ?_
      refine fin_then ?_
      refine st_seq ?_
      refine st_region [(0, false), (1, false), (2, false), (3, false), (4, false)] (by rfl) ?_
      refine ops_run (is := [(0, false), (1, false), (2, false), (3, false)]) (r := [(4, false)]) (l' := [(69, .int .i64 (IntKind.i64.wrap (49152 + (a : Int))))]) [69] (by kernel_rfl) ?_
      refine ops_conv (l' := [(69, .int .i64 (49152 + (a : Int)))]) (by rw [(i64in (x := 49152 + (a : Int)) (by omega) (by omega))]) (fun _ h => h) ?_
      refine ops_run (is := [(4, false)]) (r := []) (l' := [(4, .int .i64 (49152 + (a : Int)))]) [4] (by kernel_rfl) ?_
      refine ops_nil ?_
      refine fin_then ?_
      refine st_ret ?_
      refine fin_ret [.tmp 4] [.int .i64 (49152 + (a : Int))] rfl rfl (fun w_ hM => (.tmp rfl .nil)) (fun w_ hM => ?_)
      refine ⟨?_, hM.done⟩
      have z := ang_eq hX hY hloa hba (by left; have := of_decide_eq_false hc9; omega)
      rw [← z]
      first | rfl | (simp only [theOne]; congr 2; omega)
set_option maxHeartbeats 4000000 in
set_option maxRecDepth 100000 in
theorem Angle_3z (y x u v : Int) (w : World) (hu : min (max x (-1099511627776)) 1099511627776 = u) (hv : min (max y (-1099511627776)) 1099511627776 = v) (hq : u = 0 ∧ v < 0) : Calls Try.prog 74 #[.int .i64 y, .int .i64 x] w fun e w' => e = .returned (.int .i64 (49152 + ang (0 - v) u)) ∧ Below w.heap.size w w' := by
  have hu0 : -1099511627776 ≤ u ∧ u ≤ 1099511627776 := by omega
  have hv0 : -1099511627776 ≤ v ∧ v ≤ 1099511627776 := by omega
  have h00 : 0 - (0 - u) = u := by omega
  have h01 : IntKind.i64.wrap (0 - (0 - u)) = u := by rw [i64in (by omega) (by omega)]; omega
  have hkn0 : (v == 0) = false := by simp; omega
  have hkn1 : decide (v < 0) = true := by simp; omega
  have hkn2 : decide (v ≤ 0) = true := by simp; omega
  have hkn3 : decide ((0 - u) ≤ 0) = true := by simp; omega
  have hkn4 : decide ((0 - v) ≤ 0) = false := by simp; omega
  have hkn5 : decide ((0 - (0 - u)) < 0) = false := by simp; omega
  have hkn6 : decide (u < 0) = false := by simp; omega
  have hkn7 : (u == 0) = true := by simp; omega
  have hkn8 : decide (u ≤ 0) = true := by simp; omega
  refine sx_calls Try.func74 rfl (n := 70) (by kernel_rfl) (l := [(0, .int .i64 y), (1, .int .i64 x)]) rfl (by rfl) (Mem.nil w) ?_
  refine st_seq ?_
  refine st_region [(0, false)] (by rfl) ?_
  refine ops_run (is := [(0, false)]) (r := []) (l' := [(0, .int .i64 y), (1, .int .i64 x)]) [0, 1] (by kernel_rfl) ?_
  refine ops_nil ?_
  refine fin_then ?_
  refine st_seq ?_
  refine st_region [(0, false), (1, false), (2, false), (3, false), (4, false), (5, false)] (by rfl) ?_
  refine ops_run (is := [(0, false)]) (r := [(1, false), (2, false), (3, false), (4, false), (5, false)]) (l' := [(11, .int .i64 x), (0, .int .i64 y), (1, .int .i64 x)]) [11, 0, 1] (by kernel_rfl) ?_
  refine ops_call (σ := Unit) (d := some 12) (f := 77) (args := #[.int .i64 x]) (v := fun _ => .int .i64 (min (max x (-1099511627776)) 1099511627776)) (M' := fun _ => Mem w []) ⟨by kernel_rfl⟩ (fun w_ hM hS => (Limit_calls x w_).mono (by rintro e w' ⟨rfl, hb⟩; exact ⟨(), rfl, hM.step hb, trivial⟩)) (fun _ => ?_)
  refine ops_run (is := []) (r := [(2, false), (3, false), (4, false), (5, false)]) (l' := [(12, .int .i64 (min (max x (-1099511627776)) 1099511627776)), (0, .int .i64 y), (1, .int .i64 x)]) [12, 0, 1] (by kernel_rfl) ?_
  refine ops_conv (l' := [(12, .int .i64 u), (0, .int .i64 y), (1, .int .i64 x)]) (by rw [hu]) (fun _ h => h) ?_
  refine ops_run (is := [(2, false)]) (r := [(3, false), (4, false), (5, false)]) (l' := [(13, .int .i64 y), (12, .int .i64 u), (0, .int .i64 y), (1, .int .i64 x)]) [13, 12, 0, 1] (by kernel_rfl) ?_
  refine ops_call (σ := Unit) (d := some 14) (f := 77) (args := #[.int .i64 y]) (v := fun _ => .int .i64 (min (max y (-1099511627776)) 1099511627776)) (M' := fun _ => Mem w []) ⟨by kernel_rfl⟩ (fun w_ hM hS => (Limit_calls y w_).mono (by rintro e w' ⟨rfl, hb⟩; exact ⟨(), rfl, hM.step hb, trivial⟩)) (fun _ => ?_)
  refine ops_run (is := []) (r := [(4, false), (5, false)]) (l' := [(14, .int .i64 (min (max y (-1099511627776)) 1099511627776)), (12, .int .i64 u), (0, .int .i64 y), (1, .int .i64 x)]) [14, 12, 0, 1] (by kernel_rfl) ?_
  refine ops_conv (l' := [(14, .int .i64 v), (12, .int .i64 u), (0, .int .i64 y), (1, .int .i64 x)]) (by rw [hv]) (fun _ h => h) ?_
  refine ops_run (is := [(4, false), (5, false)]) (r := []) (l' := [(0, .int .i64 v), (1, .int .i64 u)]) [0, 1] (by kernel_rfl) ?_
  refine ops_nil ?_
  refine fin_then ?_
  refine st_seq ?_
  refine st_seq ?_
  refine st_region [(0, false), (1, false), (2, false), (3, false), (4, false), (5, false)] (by rfl) ?_
  refine ops_run (is := [(0, false), (1, false), (2, false)]) (r := [(3, false), (4, false), (5, false)]) (l' := [(17, .bool (u == 0)), (0, .int .i64 v), (1, .int .i64 u)]) [17, 0, 1] (by kernel_rfl) ?_
  refine ops_conv (l' := [(17, .bool true), (0, .int .i64 v), (1, .int .i64 u)]) (by rw [hkn7]) (fun _ h => h) ?_
  refine ops_run (is := [(3, false), (4, false), (5, false)]) (r := []) (l' := [(20, .bool (v == 0)), (0, .int .i64 v), (1, .int .i64 u)]) [20, 0, 1] (by kernel_rfl) ?_
  refine ops_nil ?_
  refine fin_then ?_
  refine st_conv (l' := [(20, .bool false), (0, .int .i64 v), (1, .int .i64 u)]) (by rw [hkn0]) (fun _ h => h) ?_
  refine st_false rfl ?_
  refine st_skip ?_
  refine fin_then ?_
  refine st_seq ?_
  refine st_region [(0, false)] (by rfl) ?_
  refine ops_run (is := [(0, false)]) (r := []) (l' := [(5, .int .i64 0), (0, .int .i64 v), (1, .int .i64 u)]) [5, 0, 1] (by kernel_rfl) ?_
  refine ops_nil ?_
  refine fin_then ?_
  refine st_seq ?_
  refine st_block ?_
  refine st_unroll 6 ?_
  refine str_succ ?_
  refine st_seq ?_
  refine st_seq ?_
  refine st_region [(0, false), (1, false), (2, false), (3, false), (4, false), (5, false)] (by rfl) ?_
  refine ops_run (is := [(0, false), (1, false), (2, false)]) (r := [(3, false), (4, false), (5, false)]) (l' := [(23, .bool (decide (u ≤ 0))), (5, .int .i64 0), (0, .int .i64 v), (1, .int .i64 u)]) [23, 5, 0, 1] (by kernel_rfl) ?_
  refine ops_conv (l' := [(23, .bool true), (5, .int .i64 0), (0, .int .i64 v), (1, .int .i64 u)]) (by rw [hkn8]) (fun _ h => h) ?_
  refine ops_run (is := [(3, false), (4, false), (5, false)]) (r := []) (l' := [(26, .bool true), (5, .int .i64 0), (0, .int .i64 v), (1, .int .i64 u)]) [26, 5, 0, 1] (by kernel_rfl) ?_
  refine ops_nil ?_
  refine fin_then ?_
  refine st_true rfl ?_
  refine st_skip ?_
  refine fin_then ?_
  refine st_block ?_
  refine st_region [(0, false), (1, false), (2, false), (3, false), (4, false), (5, false), (6, false), (7, false)] (by rfl) ?_
  refine ops_run (is := [(0, false), (1, false), (2, false)]) (r := [(3, false), (4, false), (5, false), (6, false), (7, false)]) (l' := [(29, .int .i64 (IntKind.i64.wrap (0 - u))), (27, .int .i64 v), (5, .int .i64 0), (0, .int .i64 v), (1, .int .i64 u)]) [29, 27, 5, 0, 1] (by kernel_rfl) ?_
  refine ops_conv (l' := [(29, .int .i64 (0 - u)), (27, .int .i64 v), (5, .int .i64 0), (0, .int .i64 v), (1, .int .i64 u)]) (by rw [(i64in (x := 0 - u) (by omega) (by omega))]) (fun _ h => h) ?_
  refine ops_run (is := [(3, false), (4, false), (5, false), (6, false), (7, false)]) (r := []) (l' := [(5, .int .i64 1), (0, .int .i64 (0 - u)), (1, .int .i64 v)]) [5, 0, 1] (by kernel_rfl) ?_
  refine ops_nil ?_
  refine fin_block ?_
  refine fin_rounds ?_
  refine str_succ ?_
  refine st_seq ?_
  refine st_seq ?_
  refine st_region [(0, false), (1, false), (2, false), (3, false), (4, false), (5, false)] (by rfl) ?_
  refine ops_run (is := [(0, false), (1, false), (2, false)]) (r := [(3, false), (4, false), (5, false)]) (l' := [(23, .bool (decide (v ≤ 0))), (5, .int .i64 1), (0, .int .i64 (0 - u)), (1, .int .i64 v)]) [23, 5, 0, 1] (by kernel_rfl) ?_
  refine ops_conv (l' := [(23, .bool true), (5, .int .i64 1), (0, .int .i64 (0 - u)), (1, .int .i64 v)]) (by rw [hkn2]) (fun _ h => h) ?_
  refine ops_run (is := [(3, false), (4, false), (5, false)]) (r := []) (l' := [(26, .bool true), (5, .int .i64 1), (0, .int .i64 (0 - u)), (1, .int .i64 v)]) [26, 5, 0, 1] (by kernel_rfl) ?_
  refine ops_nil ?_
  refine fin_then ?_
  refine st_true rfl ?_
  refine st_skip ?_
  refine fin_then ?_
  refine st_block ?_
  refine st_region [(0, false), (1, false), (2, false), (3, false), (4, false), (5, false), (6, false), (7, false)] (by rfl) ?_
  refine ops_run (is := [(0, false), (1, false), (2, false)]) (r := [(3, false), (4, false), (5, false), (6, false), (7, false)]) (l' := [(29, .int .i64 (IntKind.i64.wrap (0 - v))), (27, .int .i64 (0 - u)), (5, .int .i64 1), (0, .int .i64 (0 - u)), (1, .int .i64 v)]) [29, 27, 5, 0, 1] (by kernel_rfl) ?_
  refine ops_conv (l' := [(29, .int .i64 (0 - v)), (27, .int .i64 (0 - u)), (5, .int .i64 1), (0, .int .i64 (0 - u)), (1, .int .i64 v)]) (by rw [(i64in (x := 0 - v) (by omega) (by omega))]) (fun _ h => h) ?_
  refine ops_run (is := [(3, false), (4, false), (5, false), (6, false), (7, false)]) (r := []) (l' := [(5, .int .i64 2), (0, .int .i64 (0 - v)), (1, .int .i64 (0 - u))]) [5, 0, 1] (by kernel_rfl) ?_
  refine ops_nil ?_
  refine fin_block ?_
  refine fin_rounds ?_
  refine str_succ ?_
  refine st_seq ?_
  refine st_seq ?_
  refine st_region [(0, false), (1, false), (2, false), (3, false), (4, false), (5, false)] (by rfl) ?_
  refine ops_run (is := [(0, false), (1, false), (2, false)]) (r := [(3, false), (4, false), (5, false)]) (l' := [(23, .bool (decide ((0 - u) ≤ 0))), (5, .int .i64 2), (0, .int .i64 (0 - v)), (1, .int .i64 (0 - u))]) [23, 5, 0, 1] (by kernel_rfl) ?_
  refine ops_conv (l' := [(23, .bool true), (5, .int .i64 2), (0, .int .i64 (0 - v)), (1, .int .i64 (0 - u))]) (by rw [hkn3]) (fun _ h => h) ?_
  refine ops_run (is := [(3, false), (4, false), (5, false)]) (r := []) (l' := [(26, .bool true), (5, .int .i64 2), (0, .int .i64 (0 - v)), (1, .int .i64 (0 - u))]) [26, 5, 0, 1] (by kernel_rfl) ?_
  refine ops_nil ?_
  refine fin_then ?_
  refine st_true rfl ?_
  refine st_skip ?_
  refine fin_then ?_
  refine st_block ?_
  refine st_region [(0, false), (1, false), (2, false), (3, false), (4, false), (5, false), (6, false), (7, false)] (by rfl) ?_
  refine ops_run (is := [(0, false), (1, false), (2, false)]) (r := [(3, false), (4, false), (5, false), (6, false), (7, false)]) (l' := [(29, .int .i64 (IntKind.i64.wrap (0 - (0 - u)))), (27, .int .i64 (0 - v)), (5, .int .i64 2), (0, .int .i64 (0 - v)), (1, .int .i64 (0 - u))]) [29, 27, 5, 0, 1] (by kernel_rfl) ?_
  refine ops_conv (l' := [(29, .int .i64 u), (27, .int .i64 (0 - v)), (5, .int .i64 2), (0, .int .i64 (0 - v)), (1, .int .i64 (0 - u))]) (by rw [h01]) (fun _ h => h) ?_
  refine ops_run (is := [(3, false), (4, false), (5, false), (6, false), (7, false)]) (r := []) (l' := [(5, .int .i64 3), (0, .int .i64 u), (1, .int .i64 (0 - v))]) [5, 0, 1] (by kernel_rfl) ?_
  refine ops_nil ?_
  refine fin_block ?_
  refine fin_rounds ?_
  refine str_succ ?_
  refine st_seq ?_
  refine st_seq ?_
  refine st_region [(0, false), (1, false), (2, false), (3, false), (4, false), (5, false)] (by rfl) ?_
  refine ops_run (is := [(0, false), (1, false), (2, false)]) (r := [(3, false), (4, false), (5, false)]) (l' := [(23, .bool (decide ((0 - v) ≤ 0))), (5, .int .i64 3), (0, .int .i64 u), (1, .int .i64 (0 - v))]) [23, 5, 0, 1] (by kernel_rfl) ?_
  refine ops_conv (l' := [(23, .bool false), (5, .int .i64 3), (0, .int .i64 u), (1, .int .i64 (0 - v))]) (by rw [hkn4]) (fun _ h => h) ?_
  refine ops_run (is := [(3, false), (4, false), (5, false)]) (r := []) (l' := [(26, .bool (decide (u < 0))), (5, .int .i64 3), (0, .int .i64 u), (1, .int .i64 (0 - v))]) [26, 5, 0, 1] (by kernel_rfl) ?_
  refine ops_nil ?_
  refine fin_then ?_
  refine st_conv (l' := [(26, .bool false), (5, .int .i64 3), (0, .int .i64 u), (1, .int .i64 (0 - v))]) (by rw [hkn6]) (fun _ h => h) ?_
  refine st_false rfl ?_
  refine st_exit ?_
  refine fin_exit_then ?_
  refine fin_exit_then ?_
  refine fin_exit ?_
  refine fin_then ?_
  refine st_seq ?_
  refine st_region [(0, false), (1, false), (2, false)] (by rfl) ?_
  refine ops_run (is := []) (r := [(0, false), (1, false), (2, false)]) (l' := [(5, .int .i64 3), (0, .int .i64 u), (1, .int .i64 (0 - v))]) [5, 0, 1] (by kernel_rfl) ?_
  refine ops_call (σ := Option Addr × Nat) (d := some 32) (f := 81) (args := #[]) (v := fun x_ => match x_ with | (A1, c2) => .slice A1 65 c2) (M' := fun x_ => match x_ with | (A1, c2) => Mem w [.row A1 65 c2 3 1 (iv .i64 tab)]) ⟨by kernel_rfl⟩ (fun w_ hM hS => (sines_calls w_).mono (by rintro e w' ⟨x_, rfl, h2⟩; exact ⟨x_, rfl, hM.join h2 rfl, trivial⟩)) ?_
  rintro ⟨A1, c2⟩
  refine ops_conv (l' := [(32, .slice A1 65 c2), (5, .int .i64 3), (0, .int .i64 u), (1, .int .i64 (0 - v))]) (M' := Mem w [.row A1 65 c2 3 1 (iv .i64 tab)]) rfl (fun _ h => h) ?_
  refine ops_run (is := []) (r := [(1, false), (2, false)]) (l' := [(32, .slice A1 65 c2), (5, .int .i64 3), (0, .int .i64 u), (1, .int .i64 (0 - v))]) [32, 5, 0, 1] (by kernel_rfl) ?_
  refine ops_new (d := some 6) (o := .cells #[.slice none 0 0] 37) (v := fun b3 => .pointer (some ⟨b3, 0, none⟩)) (M' := fun b3 => Mem w [.blk b3 [.slice none 0 0] 37, .row A1 65 c2 3 1 (iv .i64 tab)]) (fun b3 => ⟨by kernel_rfl⟩) (fun w_ hM hS => ⟨hM.blk [.slice none 0 0] 37, trivial⟩) (fun b3 => ?_)
  refine ops_run (is := []) (r := [(2, false)]) (l' := [(6, .pointer (some ⟨b3, 0, none⟩)), (32, .slice A1 65 c2), (5, .int .i64 3), (0, .int .i64 u), (1, .int .i64 (0 - v))]) [6, 32, 5, 0, 1] (by kernel_rfl) ?_
  refine ops_store (an := []) (evs := [.store ⟨b3, 0, none⟩ (.slice A1 65 c2)]) (M' := Mem w [.blk b3 [.slice A1 65 c2] 37, .row A1 65 c2 3 1 (iv .i64 tab)]) ⟨by kernel_rfl⟩ (fun w_ hM hS => let ⟨w', he, h'⟩ := hM.evs_stores [.slice A1 65 c2] 0 rfl 0 (Nat.le_of_ble_eq_true rfl); ⟨w', he, h', trivial⟩) ?_
  refine ops_run (is := []) (r := []) (l' := [(6, .pointer (some ⟨b3, 0, none⟩)), (5, .int .i64 3), (0, .int .i64 u), (1, .int .i64 (0 - v))]) [6, 5, 0, 1] (by kernel_rfl) ?_
  refine ops_nil ?_
  refine fin_then ?_
  refine st_seq ?_
  refine st_region [(0, false), (1, false)] (by rfl) ?_
  refine ops_run (is := [(0, false), (1, false)]) (r := []) (l' := [(7, .func (.func 89) #[] #[.pointer (some ⟨b3, 0, none⟩)]), (5, .int .i64 3), (0, .int .i64 u), (1, .int .i64 (0 - v))]) [7, 5, 0, 1] (by kernel_rfl) ?_
  refine ops_nil ?_
  refine fin_then ?_
  refine st_seq ?_
  refine st_region [(0, false)] (by rfl) ?_
  refine ops_run (is := [(0, false)]) (r := []) (l' := [(8, .int .i64 0), (7, .func (.func 89) #[] #[.pointer (some ⟨b3, 0, none⟩)]), (5, .int .i64 3), (0, .int .i64 u), (1, .int .i64 (0 - v))]) [8, 7, 5, 0, 1] (by kernel_rfl) ?_
  refine ops_nil ?_
  refine fin_then ?_
  refine st_seq ?_
  refine st_seq ?_
  refine st_region [(0, false), (1, false), (2, false)] (by rfl) ?_
  refine ops_new (d := some 34) (o := .cells #[.int .i64 256, .int .i64 1] 3) (v := fun b4 => .slice (some ⟨b4, 0, none⟩) 2 2) (M' := fun b4 => Mem w [.blk b4 [.int .i64 256, .int .i64 1] 3, .blk b3 [.slice A1 65 c2] 37, .row A1 65 c2 3 1 (iv .i64 tab)]) (fun b4 => ⟨by kernel_rfl⟩) (fun w_ hM hS => ⟨hM.blk [.int .i64 256, .int .i64 1] 3, trivial⟩) (fun b4 => ?_)
  refine ops_run (is := [(1, false), (2, false)]) (r := []) (l' := [(36, .int .i64 0), (35, .int .i64 2), (34, .slice (some ⟨b4, 0, none⟩) 2 2), (8, .int .i64 0), (7, .func (.func 89) #[] #[.pointer (some ⟨b3, 0, none⟩)]), (5, .int .i64 3), (0, .int .i64 u), (1, .int .i64 (0 - v))]) [36, 35, 34, 8, 7, 5, 0, 1] (by kernel_rfl) ?_
  refine ops_nil ?_
  refine fin_then ?_
  refine st_block ?_
  have hX : 0 < (0 - v) := by omega
  have hY : 0 ≤ u := by omega
  have hX1 : (0 - v) ≤ 1099511627776 := by omega
  have hY1 : u ≤ 1099511627776 := by omega
  refine st_unroll 4 ?_
  refine str_succ ?_
  refine st_seq ?_
  refine st_region [(0, false)] (by rfl) ?_
  refine ops_run (is := [(0, false)]) (r := []) (l' := [(37, .bool true), (36, .int .i64 0), (35, .int .i64 2), (34, .slice (some ⟨b4, 0, none⟩) 2 2), (8, .int .i64 0), (7, .func (.func 89) #[] #[.pointer (some ⟨b3, 0, none⟩)]), (5, .int .i64 3), (0, .int .i64 u), (1, .int .i64 (0 - v))]) [37, 36, 35, 34, 8, 7, 5, 0, 1] (by kernel_rfl) ?_
  refine ops_nil ?_
  refine fin_then ?_
  refine st_seq ?_
  refine st_true rfl ?_
  refine st_skip ?_
  refine fin_then ?_
  refine st_seq ?_
  refine st_block ?_
  refine st_seq ?_
  refine st_region [(0, false), (1, false), (2, false)] (by rfl) ?_
  refine ops_run (is := [(0, false)]) (r := [(1, false), (2, false)]) (l' := [(38, .pointer (some ⟨b4, 0, none⟩)), (36, .int .i64 0), (35, .int .i64 2), (34, .slice (some ⟨b4, 0, none⟩) 2 2), (8, .int .i64 0), (7, .func (.func 89) #[] #[.pointer (some ⟨b3, 0, none⟩)]), (5, .int .i64 3), (0, .int .i64 u), (1, .int .i64 (0 - v))]) [38, 36, 35, 34, 8, 7, 5, 0, 1] (by kernel_rfl) ?_
  refine ops_mem (d := some 39) (an := [.v (.int .i64 256)]) (evs := [.load ⟨b4, 0, none⟩ (.int .i64 256)]) (v := .int .i64 256) (M' := Mem w [.blk b4 [.int .i64 256, .int .i64 1] 3, .blk b3 [.slice A1 65 c2] 37, .row A1 65 c2 3 1 (iv .i64 tab)]) ⟨by kernel_rfl⟩ (fun w_ hM hS => ⟨w_, ⟨hM.cell 0 rfl rfl, rfl⟩, hM, trivial⟩) ?_
  refine ops_run (is := [(2, false)]) (r := []) (l' := [(10, .int .i64 256), (36, .int .i64 0), (35, .int .i64 2), (34, .slice (some ⟨b4, 0, none⟩) 2 2), (8, .int .i64 0), (7, .func (.func 89) #[] #[.pointer (some ⟨b3, 0, none⟩)]), (5, .int .i64 3), (0, .int .i64 u), (1, .int .i64 (0 - v))]) [10, 36, 35, 34, 8, 7, 5, 0, 1] (by kernel_rfl) ?_
  refine ops_nil ?_
  refine fin_then ?_
  refine st_block ?_
  refine st_loop (σ := Nat) 0 (fun a1 => [(10, .int .i64 256), (36, .int .i64 0), (35, .int .i64 2), (34, .slice (some ⟨b4, 0, none⟩) 2 2), (8, .int .i64 (a1 : Int)), (7, .func (.func 89) #[] #[.pointer (some ⟨b3, 0, none⟩)]), (5, .int .i64 3), (0, .int .i64 u), (1, .int .i64 (0 - v))]) (fun a1 => Mem w [.blk b4 [.int .i64 256, .int .i64 1] 3, .blk b3 [.slice A1 65 c2] 37, .row A1 65 c2 3 1 (iv .i64 tab)]) (fun a1 => a1 ≤ 16383 ∧ Not (0 - v) u a1) (fun a1 => 16384 - a1) (by exact ⟨by decide, not_zero hX hY⟩) (look_has ⟨rfl, rfl, rfl, rfl, rfl, rfl, rfl, rfl, rfl, trivial⟩) (fun w_ hM => by exact hM) ?_
  rintro a1 hI
  obtain ⟨hba1, hloa1⟩ := hI
  have hba1 : a1 ≤ 16383 := hba1
  have hloa1 : Not (0 - v) u a1 := hloa1
  have ha1 : IntKind.i64.wrap ((a1 : Int) + 256) = ((a1 + 256 : Nat) : Int) := by rw [i64in (by omega) (by omega)]; omega
  have ha2 : IntKind.i64.wrap (16384 - (a1 : Int)) = ((16384 - a1 : Nat) : Int) := by rw [i64in (by omega) (by omega)]; omega
  refine st_seq ?_
  refine st_seq ?_
  refine st_region [(0, false), (1, false), (2, false), (3, false), (4, false), (5, false), (6, false), (7, false), (8, false), (9, false), (10, false), (11, false), (12, false), (13, false), (14, false), (15, false), (16, false), (17, false), (18, false), (19, false), (20, false), (21, false)] (by rfl) ?_
  refine ops_run (is := [(0, false), (1, false), (2, false)]) (r := [(3, false), (4, false), (5, false), (6, false), (7, false), (8, false), (9, false), (10, false), (11, false), (12, false), (13, false), (14, false), (15, false), (16, false), (17, false), (18, false), (19, false), (20, false), (21, false)]) (l' := [(42, .int .i64 (IntKind.i64.wrap ((a1 : Int) + 256))), (10, .int .i64 256), (36, .int .i64 0), (35, .int .i64 2), (34, .slice (some ⟨b4, 0, none⟩) 2 2), (8, .int .i64 (a1 : Int)), (7, .func (.func 89) #[] #[.pointer (some ⟨b3, 0, none⟩)]), (5, .int .i64 3), (0, .int .i64 u), (1, .int .i64 (0 - v))]) [42, 10, 36, 35, 34, 8, 7, 5, 0, 1] (by kernel_rfl) ?_
  refine ops_conv (l' := [(42, .int .i64 ((a1 + 256 : Nat) : Int)), (10, .int .i64 256), (36, .int .i64 0), (35, .int .i64 2), (34, .slice (some ⟨b4, 0, none⟩) 2 2), (8, .int .i64 (a1 : Int)), (7, .func (.func 89) #[] #[.pointer (some ⟨b3, 0, none⟩)]), (5, .int .i64 3), (0, .int .i64 u), (1, .int .i64 (0 - v))]) (by rw [ha1]) (fun _ h => h) ?_
  refine ops_run (is := [(3, false), (4, false)]) (r := [(5, false), (6, false), (7, false), (8, false), (9, false), (10, false), (11, false), (12, false), (13, false), (14, false), (15, false), (16, false), (17, false), (18, false), (19, false), (20, false), (21, false)]) (l' := [(44, .bool (decide (((a1 + 256 : Nat) : Int) < 16384))), (10, .int .i64 256), (36, .int .i64 0), (35, .int .i64 2), (34, .slice (some ⟨b4, 0, none⟩) 2 2), (8, .int .i64 (a1 : Int)), (7, .func (.func 89) #[] #[.pointer (some ⟨b3, 0, none⟩)]), (5, .int .i64 3), (0, .int .i64 u), (1, .int .i64 (0 - v))]) [44, 10, 36, 35, 34, 8, 7, 5, 0, 1] (by kernel_rfl) ?_
  refine ops_bool (t := decide (((a1 + 256 : Nat) : Int) < 16384)) (l1 := [(44, .bool true), (10, .int .i64 256), (36, .int .i64 0), (35, .int .i64 2), (34, .slice (some ⟨b4, 0, none⟩) 2 2), (8, .int .i64 (a1 : Int)), (7, .func (.func 89) #[] #[.pointer (some ⟨b3, 0, none⟩)]), (5, .int .i64 3), (0, .int .i64 u), (1, .int .i64 (0 - v))]) (l2 := [(44, .bool false), (10, .int .i64 256), (36, .int .i64 0), (35, .int .i64 2), (34, .slice (some ⟨b4, 0, none⟩) 2 2), (8, .int .i64 (a1 : Int)), (7, .func (.func 89) #[] #[.pointer (some ⟨b3, 0, none⟩)]), (5, .int .i64 3), (0, .int .i64 u), (1, .int .i64 (0 - v))]) (fun h => by rw [h]) (fun h => by rw [h]) (fun hc5 => ?_) (fun hc5 => ?_)
  · --decide (((a1 + 256 : Nat) : Int) < 16384)
    have hlt : a1 + 256 < 16384 := by have := of_decide_eq_true hc5; omega
    have ha3 : IntKind.i64.wrap (((16384 - a1 : Nat) : Int) - 256) = ((16384 - a1 - 256 : Nat) : Int) := by rw [i64in (by omega) (by omega)]; omega
    have hq1 := prod_ok (a := (16384 - a1 - 256)) (y := u) (by omega) hY hY1
    have hq2 := prod_ok (a := (a1 + 256)) (y := (0 - v)) (by omega) (by omega) hX1
    have hp1 : IntKind.i64.wrap (firstV (16384 - a1 - 256) * u) = firstV (16384 - a1 - 256) * u := i64in (by omega) (by omega)
    have hp2 : IntKind.i64.wrap (firstV (a1 + 256) * (0 - v)) = firstV (a1 + 256) * (0 - v) := i64in (by omega) (by omega)
    refine ops_run (is := [(5, false), (6, false), (7, false)]) (r := [(8, false), (9, false), (10, false), (11, false), (12, false), (13, false), (14, false), (15, false), (16, false), (17, false), (18, false), (19, false), (20, false), (21, false)]) (l' := [(47, .int .i64 (IntKind.i64.wrap (16384 - (a1 : Int)))), (45, .func (.func 89) #[] #[.pointer (some ⟨b3, 0, none⟩)]), (44, .bool true), (10, .int .i64 256), (36, .int .i64 0), (35, .int .i64 2), (34, .slice (some ⟨b4, 0, none⟩) 2 2), (8, .int .i64 (a1 : Int)), (7, .func (.func 89) #[] #[.pointer (some ⟨b3, 0, none⟩)]), (5, .int .i64 3), (0, .int .i64 u), (1, .int .i64 (0 - v))]) [47, 45, 44, 10, 36, 35, 34, 8, 7, 5, 0, 1] (by kernel_rfl) ?_
    refine ops_conv (l' := [(47, .int .i64 ((16384 - a1 : Nat) : Int)), (45, .func (.func 89) #[] #[.pointer (some ⟨b3, 0, none⟩)]), (44, .bool true), (10, .int .i64 256), (36, .int .i64 0), (35, .int .i64 2), (34, .slice (some ⟨b4, 0, none⟩) 2 2), (8, .int .i64 (a1 : Int)), (7, .func (.func 89) #[] #[.pointer (some ⟨b3, 0, none⟩)]), (5, .int .i64 3), (0, .int .i64 u), (1, .int .i64 (0 - v))]) (by rw [ha2]) (fun _ h => h) ?_
    refine ops_run (is := [(8, false), (9, false)]) (r := [(10, false), (11, false), (12, false), (13, false), (14, false), (15, false), (16, false), (17, false), (18, false), (19, false), (20, false), (21, false)]) (l' := [(49, .int .i64 (IntKind.i64.wrap (((16384 - a1 : Nat) : Int) - 256))), (45, .func (.func 89) #[] #[.pointer (some ⟨b3, 0, none⟩)]), (44, .bool true), (10, .int .i64 256), (36, .int .i64 0), (35, .int .i64 2), (34, .slice (some ⟨b4, 0, none⟩) 2 2), (8, .int .i64 (a1 : Int)), (7, .func (.func 89) #[] #[.pointer (some ⟨b3, 0, none⟩)]), (5, .int .i64 3), (0, .int .i64 u), (1, .int .i64 (0 - v))]) [49, 45, 44, 10, 36, 35, 34, 8, 7, 5, 0, 1] (by kernel_rfl) ?_
    refine ops_conv (l' := [(49, .int .i64 ((16384 - a1 - 256 : Nat) : Int)), (45, .func (.func 89) #[] #[.pointer (some ⟨b3, 0, none⟩)]), (44, .bool true), (10, .int .i64 256), (36, .int .i64 0), (35, .int .i64 2), (34, .slice (some ⟨b4, 0, none⟩) 2 2), (8, .int .i64 (a1 : Int)), (7, .func (.func 89) #[] #[.pointer (some ⟨b3, 0, none⟩)]), (5, .int .i64 3), (0, .int .i64 u), (1, .int .i64 (0 - v))]) (by rw [ha3]) (fun _ h => h) ?_
    refine ops_call (σ := Unit) (d := some 50) (f := 89) (args := #[.int .i64 ((16384 - a1 - 256 : Nat) : Int), .pointer (some ⟨b3, 0, none⟩)]) (v := fun _ => .int .i64 (firstV (16384 - a1 - 256))) (M' := fun _ => Mem w [.blk b4 [.int .i64 256, .int .i64 1] 3, .blk b3 [.slice A1 65 c2] 37, .row A1 65 c2 3 1 (iv .i64 tab)]) ⟨by kernel_rfl⟩ (fun w_ hM hS => (Angle1_calls (16384 - a1 - 256) _ A1 c2 w_ (by omega) (hM.cell 1 rfl rfl) (hM.rints 2 rfl)).mono (by rintro e w' ⟨rfl, hb⟩; exact ⟨(), rfl, hM.step hb, trivial⟩)) (fun _ => ?_)
    refine ops_run (is := [(11, false), (12, false)]) (r := [(13, false), (14, false), (15, false), (16, false), (17, false), (18, false), (19, false), (20, false), (21, false)]) (l' := [(52, .int .i64 (IntKind.i64.wrap (firstV (16384 - a1 - 256) * u))), (44, .bool true), (10, .int .i64 256), (36, .int .i64 0), (35, .int .i64 2), (34, .slice (some ⟨b4, 0, none⟩) 2 2), (8, .int .i64 (a1 : Int)), (7, .func (.func 89) #[] #[.pointer (some ⟨b3, 0, none⟩)]), (5, .int .i64 3), (0, .int .i64 u), (1, .int .i64 (0 - v))]) [52, 44, 10, 36, 35, 34, 8, 7, 5, 0, 1] (by kernel_rfl) ?_
    refine ops_conv (l' := [(52, .int .i64 (firstV (16384 - a1 - 256) * u)), (44, .bool true), (10, .int .i64 256), (36, .int .i64 0), (35, .int .i64 2), (34, .slice (some ⟨b4, 0, none⟩) 2 2), (8, .int .i64 (a1 : Int)), (7, .func (.func 89) #[] #[.pointer (some ⟨b3, 0, none⟩)]), (5, .int .i64 3), (0, .int .i64 u), (1, .int .i64 (0 - v))]) (by rw [hp1]) (fun _ h => h) ?_
    refine ops_run (is := [(13, false), (14, false), (15, false), (16, false)]) (r := [(17, false), (18, false), (19, false), (20, false), (21, false)]) (l' := [(56, .int .i64 (IntKind.i64.wrap ((a1 : Int) + 256))), (53, .func (.func 89) #[] #[.pointer (some ⟨b3, 0, none⟩)]), (52, .int .i64 (firstV (16384 - a1 - 256) * u)), (44, .bool true), (10, .int .i64 256), (36, .int .i64 0), (35, .int .i64 2), (34, .slice (some ⟨b4, 0, none⟩) 2 2), (8, .int .i64 (a1 : Int)), (7, .func (.func 89) #[] #[.pointer (some ⟨b3, 0, none⟩)]), (5, .int .i64 3), (0, .int .i64 u), (1, .int .i64 (0 - v))]) [56, 53, 52, 44, 10, 36, 35, 34, 8, 7, 5, 0, 1] (by kernel_rfl) ?_
    refine ops_conv (l' := [(56, .int .i64 ((a1 + 256 : Nat) : Int)), (53, .func (.func 89) #[] #[.pointer (some ⟨b3, 0, none⟩)]), (52, .int .i64 (firstV (16384 - a1 - 256) * u)), (44, .bool true), (10, .int .i64 256), (36, .int .i64 0), (35, .int .i64 2), (34, .slice (some ⟨b4, 0, none⟩) 2 2), (8, .int .i64 (a1 : Int)), (7, .func (.func 89) #[] #[.pointer (some ⟨b3, 0, none⟩)]), (5, .int .i64 3), (0, .int .i64 u), (1, .int .i64 (0 - v))]) (by rw [ha1]) (fun _ h => h) ?_
    refine ops_call (σ := Unit) (d := some 57) (f := 89) (args := #[.int .i64 ((a1 + 256 : Nat) : Int), .pointer (some ⟨b3, 0, none⟩)]) (v := fun _ => .int .i64 (firstV (a1 + 256))) (M' := fun _ => Mem w [.blk b4 [.int .i64 256, .int .i64 1] 3, .blk b3 [.slice A1 65 c2] 37, .row A1 65 c2 3 1 (iv .i64 tab)]) ⟨by kernel_rfl⟩ (fun w_ hM hS => (Angle1_calls (a1 + 256) _ A1 c2 w_ (by omega) (hM.cell 1 rfl rfl) (hM.rints 2 rfl)).mono (by rintro e w' ⟨rfl, hb⟩; exact ⟨(), rfl, hM.step hb, trivial⟩)) (fun _ => ?_)
    refine ops_run (is := [(18, false), (19, false)]) (r := [(20, false), (21, false)]) (l' := [(59, .int .i64 (IntKind.i64.wrap (firstV (a1 + 256) * (0 - v)))), (52, .int .i64 (firstV (16384 - a1 - 256) * u)), (44, .bool true), (10, .int .i64 256), (36, .int .i64 0), (35, .int .i64 2), (34, .slice (some ⟨b4, 0, none⟩) 2 2), (8, .int .i64 (a1 : Int)), (7, .func (.func 89) #[] #[.pointer (some ⟨b3, 0, none⟩)]), (5, .int .i64 3), (0, .int .i64 u), (1, .int .i64 (0 - v))]) [59, 52, 44, 10, 36, 35, 34, 8, 7, 5, 0, 1] (by kernel_rfl) ?_
    refine ops_conv (l' := [(59, .int .i64 (firstV (a1 + 256) * (0 - v))), (52, .int .i64 (firstV (16384 - a1 - 256) * u)), (44, .bool true), (10, .int .i64 256), (36, .int .i64 0), (35, .int .i64 2), (34, .slice (some ⟨b4, 0, none⟩) 2 2), (8, .int .i64 (a1 : Int)), (7, .func (.func 89) #[] #[.pointer (some ⟨b3, 0, none⟩)]), (5, .int .i64 3), (0, .int .i64 u), (1, .int .i64 (0 - v))]) (by rw [hp2]) (fun _ h => h) ?_
    refine ops_run (is := [(20, false), (21, false)]) (r := []) (l' := [(61, .bool (decide ((firstV (a1 + 256) * (0 - v)) ≤ (firstV (16384 - a1 - 256) * u)))), (10, .int .i64 256), (36, .int .i64 0), (35, .int .i64 2), (34, .slice (some ⟨b4, 0, none⟩) 2 2), (8, .int .i64 (a1 : Int)), (7, .func (.func 89) #[] #[.pointer (some ⟨b3, 0, none⟩)]), (5, .int .i64 3), (0, .int .i64 u), (1, .int .i64 (0 - v))]) [61, 10, 36, 35, 34, 8, 7, 5, 0, 1] (by kernel_rfl) ?_
    refine ops_nil ?_
    refine fin_then ?_
    refine st_if (b := decide ((firstV (a1 + 256) * (0 - v)) ≤ (firstV (16384 - a1 - 256) * u))) rfl (fun hc6 => ?_) (fun hc6 => ?_)
    · --
      refine st_skip ?_
      refine fin_then ?_
      refine st_block ?_
      refine st_region [(0, false), (1, false), (2, false), (3, false)] (by rfl) ?_
      refine ops_run (is := [(0, false), (1, false), (2, false)]) (r := [(3, false)]) (l' := [(64, .int .i64 (IntKind.i64.wrap ((a1 : Int) + 256))), (10, .int .i64 256), (36, .int .i64 0), (35, .int .i64 2), (34, .slice (some ⟨b4, 0, none⟩) 2 2), (8, .int .i64 (a1 : Int)), (7, .func (.func 89) #[] #[.pointer (some ⟨b3, 0, none⟩)]), (5, .int .i64 3), (0, .int .i64 u), (1, .int .i64 (0 - v))]) [64, 10, 36, 35, 34, 8, 7, 5, 0, 1] (by kernel_rfl) ?_
      refine ops_conv (l' := [(64, .int .i64 ((a1 + 256 : Nat) : Int)), (10, .int .i64 256), (36, .int .i64 0), (35, .int .i64 2), (34, .slice (some ⟨b4, 0, none⟩) 2 2), (8, .int .i64 (a1 : Int)), (7, .func (.func 89) #[] #[.pointer (some ⟨b3, 0, none⟩)]), (5, .int .i64 3), (0, .int .i64 u), (1, .int .i64 (0 - v))]) (by rw [ha1]) (fun _ h => h) ?_
      refine ops_run (is := [(3, false)]) (r := []) (l' := [(8, .int .i64 ((a1 + 256 : Nat) : Int)), (10, .int .i64 256), (36, .int .i64 0), (35, .int .i64 2), (34, .slice (some ⟨b4, 0, none⟩) 2 2), (7, .func (.func 89) #[] #[.pointer (some ⟨b3, 0, none⟩)]), (5, .int .i64 3), (0, .int .i64 u), (1, .int .i64 (0 - v))]) [8, 10, 36, 35, 34, 7, 5, 0, 1] (by kernel_rfl) ?_
      refine ops_nil ?_
      refine fin_block ?_
      refine fin_round (a1 + 256) (by exact ⟨show a1 + 256 ≤ 16383 by omega, by have z := of_decide_eq_true hc6; rwa [show 16384 - a1 - 256 = 16384 - (a1 + 256) by omega] at z⟩) (by (show 16384 - (a1 + 256) < 16384 - a1; omega)) (look_has ⟨rfl, rfl, rfl, rfl, rfl, rfl, rfl, rfl, rfl, trivial⟩) (fun w_ hM => by exact hM)
    · --
      refine st_exit ?_
      refine fin_exit_then ?_
      refine fin_exit_then ?_
      refine fin_exit ?_
      refine fin_block ?_
      refine fin_then ?_
      refine st_region [(0, false), (1, false)] (by rfl) ?_
      refine ops_run (is := [(0, false), (1, false)]) (r := []) (l' := [(36, .int .i64 1), (35, .int .i64 2), (34, .slice (some ⟨b4, 0, none⟩) 2 2), (8, .int .i64 (a1 : Int)), (7, .func (.func 89) #[] #[.pointer (some ⟨b3, 0, none⟩)]), (5, .int .i64 3), (0, .int .i64 u), (1, .int .i64 (0 - v))]) [36, 35, 34, 8, 7, 5, 0, 1] (by kernel_rfl) ?_
      refine ops_nil ?_
      refine fin_rounds ?_
      refine str_succ ?_
      refine st_seq ?_
      refine st_region [(0, false)] (by rfl) ?_
      refine ops_run (is := [(0, false)]) (r := []) (l' := [(37, .bool true), (36, .int .i64 1), (35, .int .i64 2), (34, .slice (some ⟨b4, 0, none⟩) 2 2), (8, .int .i64 (a1 : Int)), (7, .func (.func 89) #[] #[.pointer (some ⟨b3, 0, none⟩)]), (5, .int .i64 3), (0, .int .i64 u), (1, .int .i64 (0 - v))]) [37, 36, 35, 34, 8, 7, 5, 0, 1] (by kernel_rfl) ?_
      refine ops_nil ?_
      refine fin_then ?_
      refine st_seq ?_
      refine st_true rfl ?_
      refine st_skip ?_
      refine fin_then ?_
      refine st_seq ?_
      refine st_block ?_
      refine st_seq ?_
      refine st_region [(0, false), (1, false), (2, false)] (by rfl) ?_
      refine ops_run (is := [(0, false)]) (r := [(1, false), (2, false)]) (l' := [(38, .pointer (some ⟨b4, 1, none⟩)), (36, .int .i64 1), (35, .int .i64 2), (34, .slice (some ⟨b4, 0, none⟩) 2 2), (8, .int .i64 (a1 : Int)), (7, .func (.func 89) #[] #[.pointer (some ⟨b3, 0, none⟩)]), (5, .int .i64 3), (0, .int .i64 u), (1, .int .i64 (0 - v))]) [38, 36, 35, 34, 8, 7, 5, 0, 1] (by kernel_rfl) ?_
      refine ops_mem (d := some 39) (an := [.v (.int .i64 1)]) (evs := [.load ⟨b4, 1, none⟩ (.int .i64 1)]) (v := .int .i64 1) (M' := Mem w [.blk b4 [.int .i64 256, .int .i64 1] 3, .blk b3 [.slice A1 65 c2] 37, .row A1 65 c2 3 1 (iv .i64 tab)]) ⟨by kernel_rfl⟩ (fun w_ hM hS => ⟨w_, ⟨hM.cell 0 rfl rfl, rfl⟩, hM, trivial⟩) ?_
      refine ops_run (is := [(2, false)]) (r := []) (l' := [(10, .int .i64 1), (36, .int .i64 1), (35, .int .i64 2), (34, .slice (some ⟨b4, 0, none⟩) 2 2), (8, .int .i64 (a1 : Int)), (7, .func (.func 89) #[] #[.pointer (some ⟨b3, 0, none⟩)]), (5, .int .i64 3), (0, .int .i64 u), (1, .int .i64 (0 - v))]) [10, 36, 35, 34, 8, 7, 5, 0, 1] (by kernel_rfl) ?_
      refine ops_nil ?_
      refine fin_then ?_
      refine st_block ?_
      refine st_loop (σ := Nat) a1 (fun a => [(10, .int .i64 1), (36, .int .i64 1), (35, .int .i64 2), (34, .slice (some ⟨b4, 0, none⟩) 2 2), (8, .int .i64 (a : Int)), (7, .func (.func 89) #[] #[.pointer (some ⟨b3, 0, none⟩)]), (5, .int .i64 3), (0, .int .i64 u), (1, .int .i64 (0 - v))]) (fun a => Mem w [.blk b4 [.int .i64 256, .int .i64 1] 3, .blk b3 [.slice A1 65 c2] 37, .row A1 65 c2 3 1 (iv .i64 tab)]) (fun a => a ≤ 16383 ∧ Not (0 - v) u a) (fun a => 16384 - a) (by exact ⟨hba1, hloa1⟩) (look_has ⟨rfl, rfl, rfl, rfl, rfl, rfl, rfl, rfl, rfl, trivial⟩) (fun w_ hM => by exact hM) ?_
      rintro a hI
      obtain ⟨hba, hloa⟩ := hI
      have hba : a ≤ 16383 := hba
      have hloa : Not (0 - v) u a := hloa
      have ha1 : IntKind.i64.wrap ((a : Int) + 1) = ((a + 1 : Nat) : Int) := by rw [i64in (by omega) (by omega)]; omega
      have ha2 : IntKind.i64.wrap (16384 - (a : Int)) = ((16384 - a : Nat) : Int) := by rw [i64in (by omega) (by omega)]; omega
      refine st_seq ?_
      refine st_seq ?_
      refine st_region [(0, false), (1, false), (2, false), (3, false), (4, false), (5, false), (6, false), (7, false), (8, false), (9, false), (10, false), (11, false), (12, false), (13, false), (14, false), (15, false), (16, false), (17, false), (18, false), (19, false), (20, false), (21, false)] (by rfl) ?_
      refine ops_run (is := [(0, false), (1, false), (2, false)]) (r := [(3, false), (4, false), (5, false), (6, false), (7, false), (8, false), (9, false), (10, false), (11, false), (12, false), (13, false), (14, false), (15, false), (16, false), (17, false), (18, false), (19, false), (20, false), (21, false)]) (l' := [(42, .int .i64 (IntKind.i64.wrap ((a : Int) + 1))), (10, .int .i64 1), (36, .int .i64 1), (35, .int .i64 2), (34, .slice (some ⟨b4, 0, none⟩) 2 2), (8, .int .i64 (a : Int)), (7, .func (.func 89) #[] #[.pointer (some ⟨b3, 0, none⟩)]), (5, .int .i64 3), (0, .int .i64 u), (1, .int .i64 (0 - v))]) [42, 10, 36, 35, 34, 8, 7, 5, 0, 1] (by kernel_rfl) ?_
      refine ops_conv (l' := [(42, .int .i64 ((a + 1 : Nat) : Int)), (10, .int .i64 1), (36, .int .i64 1), (35, .int .i64 2), (34, .slice (some ⟨b4, 0, none⟩) 2 2), (8, .int .i64 (a : Int)), (7, .func (.func 89) #[] #[.pointer (some ⟨b3, 0, none⟩)]), (5, .int .i64 3), (0, .int .i64 u), (1, .int .i64 (0 - v))]) (by rw [ha1]) (fun _ h => h) ?_
      refine ops_run (is := [(3, false), (4, false)]) (r := [(5, false), (6, false), (7, false), (8, false), (9, false), (10, false), (11, false), (12, false), (13, false), (14, false), (15, false), (16, false), (17, false), (18, false), (19, false), (20, false), (21, false)]) (l' := [(44, .bool (decide (((a + 1 : Nat) : Int) < 16384))), (10, .int .i64 1), (36, .int .i64 1), (35, .int .i64 2), (34, .slice (some ⟨b4, 0, none⟩) 2 2), (8, .int .i64 (a : Int)), (7, .func (.func 89) #[] #[.pointer (some ⟨b3, 0, none⟩)]), (5, .int .i64 3), (0, .int .i64 u), (1, .int .i64 (0 - v))]) [44, 10, 36, 35, 34, 8, 7, 5, 0, 1] (by kernel_rfl) ?_
      refine ops_bool (t := decide (((a + 1 : Nat) : Int) < 16384)) (l1 := [(44, .bool true), (10, .int .i64 1), (36, .int .i64 1), (35, .int .i64 2), (34, .slice (some ⟨b4, 0, none⟩) 2 2), (8, .int .i64 (a : Int)), (7, .func (.func 89) #[] #[.pointer (some ⟨b3, 0, none⟩)]), (5, .int .i64 3), (0, .int .i64 u), (1, .int .i64 (0 - v))]) (l2 := [(44, .bool false), (10, .int .i64 1), (36, .int .i64 1), (35, .int .i64 2), (34, .slice (some ⟨b4, 0, none⟩) 2 2), (8, .int .i64 (a : Int)), (7, .func (.func 89) #[] #[.pointer (some ⟨b3, 0, none⟩)]), (5, .int .i64 3), (0, .int .i64 u), (1, .int .i64 (0 - v))]) (fun h => by rw [h]) (fun h => by rw [h]) (fun hc7 => ?_) (fun hc7 => ?_)
      · --decide (((a + 1 : Nat) : Int) < 16384)
        have hlt : a + 1 < 16384 := by have := of_decide_eq_true hc7; omega
        have ha3 : IntKind.i64.wrap (((16384 - a : Nat) : Int) - 1) = ((16384 - a - 1 : Nat) : Int) := by rw [i64in (by omega) (by omega)]; omega
        have hq1 := prod_ok (a := (16384 - a - 1)) (y := u) (by omega) hY hY1
        have hq2 := prod_ok (a := (a + 1)) (y := (0 - v)) (by omega) (by omega) hX1
        have hp1 : IntKind.i64.wrap (firstV (16384 - a - 1) * u) = firstV (16384 - a - 1) * u := i64in (by omega) (by omega)
        have hp2 : IntKind.i64.wrap (firstV (a + 1) * (0 - v)) = firstV (a + 1) * (0 - v) := i64in (by omega) (by omega)
        refine ops_run (is := [(5, false), (6, false), (7, false)]) (r := [(8, false), (9, false), (10, false), (11, false), (12, false), (13, false), (14, false), (15, false), (16, false), (17, false), (18, false), (19, false), (20, false), (21, false)]) (l' := [(47, .int .i64 (IntKind.i64.wrap (16384 - (a : Int)))), (45, .func (.func 89) #[] #[.pointer (some ⟨b3, 0, none⟩)]), (44, .bool true), (10, .int .i64 1), (36, .int .i64 1), (35, .int .i64 2), (34, .slice (some ⟨b4, 0, none⟩) 2 2), (8, .int .i64 (a : Int)), (7, .func (.func 89) #[] #[.pointer (some ⟨b3, 0, none⟩)]), (5, .int .i64 3), (0, .int .i64 u), (1, .int .i64 (0 - v))]) [47, 45, 44, 10, 36, 35, 34, 8, 7, 5, 0, 1] (by kernel_rfl) ?_
        refine ops_conv (l' := [(47, .int .i64 ((16384 - a : Nat) : Int)), (45, .func (.func 89) #[] #[.pointer (some ⟨b3, 0, none⟩)]), (44, .bool true), (10, .int .i64 1), (36, .int .i64 1), (35, .int .i64 2), (34, .slice (some ⟨b4, 0, none⟩) 2 2), (8, .int .i64 (a : Int)), (7, .func (.func 89) #[] #[.pointer (some ⟨b3, 0, none⟩)]), (5, .int .i64 3), (0, .int .i64 u), (1, .int .i64 (0 - v))]) (by rw [ha2]) (fun _ h => h) ?_
        refine ops_run (is := [(8, false), (9, false)]) (r := [(10, false), (11, false), (12, false), (13, false), (14, false), (15, false), (16, false), (17, false), (18, false), (19, false), (20, false), (21, false)]) (l' := [(49, .int .i64 (IntKind.i64.wrap (((16384 - a : Nat) : Int) - 1))), (45, .func (.func 89) #[] #[.pointer (some ⟨b3, 0, none⟩)]), (44, .bool true), (10, .int .i64 1), (36, .int .i64 1), (35, .int .i64 2), (34, .slice (some ⟨b4, 0, none⟩) 2 2), (8, .int .i64 (a : Int)), (7, .func (.func 89) #[] #[.pointer (some ⟨b3, 0, none⟩)]), (5, .int .i64 3), (0, .int .i64 u), (1, .int .i64 (0 - v))]) [49, 45, 44, 10, 36, 35, 34, 8, 7, 5, 0, 1] (by kernel_rfl) ?_
        refine ops_conv (l' := [(49, .int .i64 ((16384 - a - 1 : Nat) : Int)), (45, .func (.func 89) #[] #[.pointer (some ⟨b3, 0, none⟩)]), (44, .bool true), (10, .int .i64 1), (36, .int .i64 1), (35, .int .i64 2), (34, .slice (some ⟨b4, 0, none⟩) 2 2), (8, .int .i64 (a : Int)), (7, .func (.func 89) #[] #[.pointer (some ⟨b3, 0, none⟩)]), (5, .int .i64 3), (0, .int .i64 u), (1, .int .i64 (0 - v))]) (by rw [ha3]) (fun _ h => h) ?_
        refine ops_call (σ := Unit) (d := some 50) (f := 89) (args := #[.int .i64 ((16384 - a - 1 : Nat) : Int), .pointer (some ⟨b3, 0, none⟩)]) (v := fun _ => .int .i64 (firstV (16384 - a - 1))) (M' := fun _ => Mem w [.blk b4 [.int .i64 256, .int .i64 1] 3, .blk b3 [.slice A1 65 c2] 37, .row A1 65 c2 3 1 (iv .i64 tab)]) ⟨by kernel_rfl⟩ (fun w_ hM hS => (Angle1_calls (16384 - a - 1) _ A1 c2 w_ (by omega) (hM.cell 1 rfl rfl) (hM.rints 2 rfl)).mono (by rintro e w' ⟨rfl, hb⟩; exact ⟨(), rfl, hM.step hb, trivial⟩)) (fun _ => ?_)
        refine ops_run (is := [(11, false), (12, false)]) (r := [(13, false), (14, false), (15, false), (16, false), (17, false), (18, false), (19, false), (20, false), (21, false)]) (l' := [(52, .int .i64 (IntKind.i64.wrap (firstV (16384 - a - 1) * u))), (44, .bool true), (10, .int .i64 1), (36, .int .i64 1), (35, .int .i64 2), (34, .slice (some ⟨b4, 0, none⟩) 2 2), (8, .int .i64 (a : Int)), (7, .func (.func 89) #[] #[.pointer (some ⟨b3, 0, none⟩)]), (5, .int .i64 3), (0, .int .i64 u), (1, .int .i64 (0 - v))]) [52, 44, 10, 36, 35, 34, 8, 7, 5, 0, 1] (by kernel_rfl) ?_
        refine ops_conv (l' := [(52, .int .i64 (firstV (16384 - a - 1) * u)), (44, .bool true), (10, .int .i64 1), (36, .int .i64 1), (35, .int .i64 2), (34, .slice (some ⟨b4, 0, none⟩) 2 2), (8, .int .i64 (a : Int)), (7, .func (.func 89) #[] #[.pointer (some ⟨b3, 0, none⟩)]), (5, .int .i64 3), (0, .int .i64 u), (1, .int .i64 (0 - v))]) (by rw [hp1]) (fun _ h => h) ?_
        refine ops_run (is := [(13, false), (14, false), (15, false), (16, false)]) (r := [(17, false), (18, false), (19, false), (20, false), (21, false)]) (l' := [(56, .int .i64 (IntKind.i64.wrap ((a : Int) + 1))), (53, .func (.func 89) #[] #[.pointer (some ⟨b3, 0, none⟩)]), (52, .int .i64 (firstV (16384 - a - 1) * u)), (44, .bool true), (10, .int .i64 1), (36, .int .i64 1), (35, .int .i64 2), (34, .slice (some ⟨b4, 0, none⟩) 2 2), (8, .int .i64 (a : Int)), (7, .func (.func 89) #[] #[.pointer (some ⟨b3, 0, none⟩)]), (5, .int .i64 3), (0, .int .i64 u), (1, .int .i64 (0 - v))]) [56, 53, 52, 44, 10, 36, 35, 34, 8, 7, 5, 0, 1] (by kernel_rfl) ?_
        refine ops_conv (l' := [(56, .int .i64 ((a + 1 : Nat) : Int)), (53, .func (.func 89) #[] #[.pointer (some ⟨b3, 0, none⟩)]), (52, .int .i64 (firstV (16384 - a - 1) * u)), (44, .bool true), (10, .int .i64 1), (36, .int .i64 1), (35, .int .i64 2), (34, .slice (some ⟨b4, 0, none⟩) 2 2), (8, .int .i64 (a : Int)), (7, .func (.func 89) #[] #[.pointer (some ⟨b3, 0, none⟩)]), (5, .int .i64 3), (0, .int .i64 u), (1, .int .i64 (0 - v))]) (by rw [ha1]) (fun _ h => h) ?_
        refine ops_call (σ := Unit) (d := some 57) (f := 89) (args := #[.int .i64 ((a + 1 : Nat) : Int), .pointer (some ⟨b3, 0, none⟩)]) (v := fun _ => .int .i64 (firstV (a + 1))) (M' := fun _ => Mem w [.blk b4 [.int .i64 256, .int .i64 1] 3, .blk b3 [.slice A1 65 c2] 37, .row A1 65 c2 3 1 (iv .i64 tab)]) ⟨by kernel_rfl⟩ (fun w_ hM hS => (Angle1_calls (a + 1) _ A1 c2 w_ (by omega) (hM.cell 1 rfl rfl) (hM.rints 2 rfl)).mono (by rintro e w' ⟨rfl, hb⟩; exact ⟨(), rfl, hM.step hb, trivial⟩)) (fun _ => ?_)
        refine ops_run (is := [(18, false), (19, false)]) (r := [(20, false), (21, false)]) (l' := [(59, .int .i64 (IntKind.i64.wrap (firstV (a + 1) * (0 - v)))), (52, .int .i64 (firstV (16384 - a - 1) * u)), (44, .bool true), (10, .int .i64 1), (36, .int .i64 1), (35, .int .i64 2), (34, .slice (some ⟨b4, 0, none⟩) 2 2), (8, .int .i64 (a : Int)), (7, .func (.func 89) #[] #[.pointer (some ⟨b3, 0, none⟩)]), (5, .int .i64 3), (0, .int .i64 u), (1, .int .i64 (0 - v))]) [59, 52, 44, 10, 36, 35, 34, 8, 7, 5, 0, 1] (by kernel_rfl) ?_
        refine ops_conv (l' := [(59, .int .i64 (firstV (a + 1) * (0 - v))), (52, .int .i64 (firstV (16384 - a - 1) * u)), (44, .bool true), (10, .int .i64 1), (36, .int .i64 1), (35, .int .i64 2), (34, .slice (some ⟨b4, 0, none⟩) 2 2), (8, .int .i64 (a : Int)), (7, .func (.func 89) #[] #[.pointer (some ⟨b3, 0, none⟩)]), (5, .int .i64 3), (0, .int .i64 u), (1, .int .i64 (0 - v))]) (by rw [hp2]) (fun _ h => h) ?_
        refine ops_run (is := [(20, false), (21, false)]) (r := []) (l' := [(61, .bool (decide ((firstV (a + 1) * (0 - v)) ≤ (firstV (16384 - a - 1) * u)))), (10, .int .i64 1), (36, .int .i64 1), (35, .int .i64 2), (34, .slice (some ⟨b4, 0, none⟩) 2 2), (8, .int .i64 (a : Int)), (7, .func (.func 89) #[] #[.pointer (some ⟨b3, 0, none⟩)]), (5, .int .i64 3), (0, .int .i64 u), (1, .int .i64 (0 - v))]) [61, 10, 36, 35, 34, 8, 7, 5, 0, 1] (by kernel_rfl) ?_
        refine ops_nil ?_
        refine fin_then ?_
        refine st_if (b := decide ((firstV (a + 1) * (0 - v)) ≤ (firstV (16384 - a - 1) * u))) rfl (fun hc8 => ?_) (fun hc8 => ?_)
        · --
          refine st_skip ?_
          refine fin_then ?_
          refine st_block ?_
          refine st_region [(0, false), (1, false), (2, false), (3, false)] (by rfl) ?_
          refine ops_run (is := [(0, false), (1, false), (2, false)]) (r := [(3, false)]) (l' := [(64, .int .i64 (IntKind.i64.wrap ((a : Int) + 1))), (10, .int .i64 1), (36, .int .i64 1), (35, .int .i64 2), (34, .slice (some ⟨b4, 0, none⟩) 2 2), (8, .int .i64 (a : Int)), (7, .func (.func 89) #[] #[.pointer (some ⟨b3, 0, none⟩)]), (5, .int .i64 3), (0, .int .i64 u), (1, .int .i64 (0 - v))]) [64, 10, 36, 35, 34, 8, 7, 5, 0, 1] (by kernel_rfl) ?_
          refine ops_conv (l' := [(64, .int .i64 ((a + 1 : Nat) : Int)), (10, .int .i64 1), (36, .int .i64 1), (35, .int .i64 2), (34, .slice (some ⟨b4, 0, none⟩) 2 2), (8, .int .i64 (a : Int)), (7, .func (.func 89) #[] #[.pointer (some ⟨b3, 0, none⟩)]), (5, .int .i64 3), (0, .int .i64 u), (1, .int .i64 (0 - v))]) (by rw [ha1]) (fun _ h => h) ?_
          refine ops_run (is := [(3, false)]) (r := []) (l' := [(8, .int .i64 ((a + 1 : Nat) : Int)), (10, .int .i64 1), (36, .int .i64 1), (35, .int .i64 2), (34, .slice (some ⟨b4, 0, none⟩) 2 2), (7, .func (.func 89) #[] #[.pointer (some ⟨b3, 0, none⟩)]), (5, .int .i64 3), (0, .int .i64 u), (1, .int .i64 (0 - v))]) [8, 10, 36, 35, 34, 7, 5, 0, 1] (by kernel_rfl) ?_
          refine ops_nil ?_
          refine fin_block ?_
          refine fin_round (a + 1) (by exact ⟨show a + 1 ≤ 16383 by omega, by have z := of_decide_eq_true hc8; rwa [show 16384 - a - 1 = 16384 - (a + 1) by omega] at z⟩) (by (show 16384 - (a + 1) < 16384 - a; omega)) (look_has ⟨rfl, rfl, rfl, rfl, rfl, rfl, rfl, rfl, rfl, trivial⟩) (fun w_ hM => by exact hM)
        · --
          refine st_exit ?_
          refine fin_exit_then ?_
          refine fin_exit_then ?_
          refine fin_exit ?_
          refine fin_block ?_
          refine fin_then ?_
          refine st_region [(0, false), (1, false)] (by rfl) ?_
          refine ops_run (is := [(0, false), (1, false)]) (r := []) (l' := [(36, .int .i64 2), (35, .int .i64 2), (34, .slice (some ⟨b4, 0, none⟩) 2 2), (8, .int .i64 (a : Int)), (7, .func (.func 89) #[] #[.pointer (some ⟨b3, 0, none⟩)]), (5, .int .i64 3), (0, .int .i64 u), (1, .int .i64 (0 - v))]) [36, 35, 34, 8, 7, 5, 0, 1] (by kernel_rfl) ?_
          refine ops_nil ?_
          refine fin_rounds ?_
          refine str_succ ?_
          refine st_seq ?_
          refine st_region [(0, false)] (by rfl) ?_
          refine ops_run (is := [(0, false)]) (r := []) (l' := [(37, .bool false), (36, .int .i64 2), (35, .int .i64 2), (34, .slice (some ⟨b4, 0, none⟩) 2 2), (8, .int .i64 (a : Int)), (7, .func (.func 89) #[] #[.pointer (some ⟨b3, 0, none⟩)]), (5, .int .i64 3), (0, .int .i64 u), (1, .int .i64 (0 - v))]) [37, 36, 35, 34, 8, 7, 5, 0, 1] (by kernel_rfl) ?_
          refine ops_nil ?_
          refine fin_then ?_
          refine st_seq ?_
          refine st_false rfl ?_
          refine st_exit ?_
          refine fin_exit_then ?_
          refine fin_exit_then ?_
          refine fin_exit ?_
          refine fin_then ?_
          refine st_seq ?_
          refine st_region [(0, false), (1, false), (2, false), (3, false), (4, false)] (by rfl) ?_
          refine ops_run (is := [(0, false), (1, false), (2, false), (3, false)]) (r := [(4, false)]) (l' := [(69, .int .i64 (IntKind.i64.wrap (49152 + (a : Int))))]) [69] (by kernel_rfl) ?_
          refine ops_conv (l' := [(69, .int .i64 (49152 + (a : Int)))]) (by rw [(i64in (x := 49152 + (a : Int)) (by omega) (by omega))]) (fun _ h => h) ?_
          refine ops_run (is := [(4, false)]) (r := []) (l' := [(4, .int .i64 (49152 + (a : Int)))]) [4] (by kernel_rfl) ?_
          refine ops_nil ?_
          refine fin_then ?_
          refine st_ret ?_
          refine fin_ret [.tmp 4] [.int .i64 (49152 + (a : Int))] rfl rfl (fun w_ hM => (.tmp rfl .nil)) (fun w_ hM => ?_)
          refine ⟨?_, hM.done⟩
          have z := ang_eq hX hY hloa hba (by right; intro hc; have z := of_decide_eq_false hc8; rw [show 16384 - a - 1 = 16384 - (a + 1) by omega] at z; exact z hc)
          rw [← z]
          first | rfl | (simp only [theOne]; congr 2; omega)
      · --decide (((a + 1 : Nat) : Int) < 16384)
        refine ops_run (is := [(5, false), (6, false), (7, false), (8, false), (9, false), (10, false), (11, false), (12, false), (13, false), (14, false), (15, false), (16, false), (17, false), (18, false), (19, false), (20, false), (21, false)]) (r := []) (l' := [(61, .bool false), (10, .int .i64 1), (36, .int .i64 1), (35, .int .i64 2), (34, .slice (some ⟨b4, 0, none⟩) 2 2), (8, .int .i64 (a : Int)), (7, .func (.func 89) #[] #[.pointer (some ⟨b3, 0, none⟩)]), (5, .int .i64 3), (0, .int .i64 u), (1, .int .i64 (0 - v))]) [61, 10, 36, 35, 34, 8, 7, 5, 0, 1] (by kernel_rfl) ?_
        refine ops_nil ?_
        refine fin_then ?_
        refine st_false rfl ?_
        refine st_exit ?_
        refine fin_exit_then ?_
        refine fin_exit_then ?_
        refine fin_exit ?_
        refine fin_block ?_
        refine fin_then ?_
        refine st_region [(0, false), (1, false)] (by rfl) ?_
        refine ops_run (is := [(0, false), (1, false)]) (r := []) (l' := [(36, .int .i64 2), (35, .int .i64 2), (34, .slice (some ⟨b4, 0, none⟩) 2 2), (8, .int .i64 (a : Int)), (7, .func (.func 89) #[] #[.pointer (some ⟨b3, 0, none⟩)]), (5, .int .i64 3), (0, .int .i64 u), (1, .int .i64 (0 - v))]) [36, 35, 34, 8, 7, 5, 0, 1] (by kernel_rfl) ?_
        refine ops_nil ?_
        refine fin_rounds ?_
        refine str_succ ?_
        refine st_seq ?_
        refine st_region [(0, false)] (by rfl) ?_
        refine ops_run (is := [(0, false)]) (r := []) (l' := [(37, .bool false), (36, .int .i64 2), (35, .int .i64 2), (34, .slice (some ⟨b4, 0, none⟩) 2 2), (8, .int .i64 (a : Int)), (7, .func (.func 89) #[] #[.pointer (some ⟨b3, 0, none⟩)]), (5, .int .i64 3), (0, .int .i64 u), (1, .int .i64 (0 - v))]) [37, 36, 35, 34, 8, 7, 5, 0, 1] (by kernel_rfl) ?_
        refine ops_nil ?_
        refine fin_then ?_
        refine st_seq ?_
        refine st_false rfl ?_
        refine st_exit ?_
        refine fin_exit_then ?_
        refine fin_exit_then ?_
        refine fin_exit ?_
        refine fin_then ?_
        refine st_seq ?_
        refine st_region [(0, false), (1, false), (2, false), (3, false), (4, false)] (by rfl) ?_
        refine ops_run (is := [(0, false), (1, false), (2, false), (3, false)]) (r := [(4, false)]) (l' := [(69, .int .i64 (IntKind.i64.wrap (49152 + (a : Int))))]) [69] (by kernel_rfl) ?_
        refine ops_conv (l' := [(69, .int .i64 (49152 + (a : Int)))]) (by rw [(i64in (x := 49152 + (a : Int)) (by omega) (by omega))]) (fun _ h => h) ?_
        refine ops_run (is := [(4, false)]) (r := []) (l' := [(4, .int .i64 (49152 + (a : Int)))]) [4] (by kernel_rfl) ?_
        refine ops_nil ?_
        refine fin_then ?_
        refine st_ret ?_
        refine fin_ret [.tmp 4] [.int .i64 (49152 + (a : Int))] rfl rfl (fun w_ hM => (.tmp rfl .nil)) (fun w_ hM => ?_)
        refine ⟨?_, hM.done⟩
        have z := ang_eq hX hY hloa hba (by left; have := of_decide_eq_false hc7; omega)
        rw [← z]
        first | rfl | (simp only [theOne]; congr 2; omega)
  · --decide (((a1 + 256 : Nat) : Int) < 16384)
    refine ops_run (is := [(5, false), (6, false), (7, false), (8, false), (9, false), (10, false), (11, false), (12, false), (13, false), (14, false), (15, false), (16, false), (17, false), (18, false), (19, false), (20, false), (21, false)]) (r := []) (l' := [(61, .bool false), (10, .int .i64 256), (36, .int .i64 0), (35, .int .i64 2), (34, .slice (some ⟨b4, 0, none⟩) 2 2), (8, .int .i64 (a1 : Int)), (7, .func (.func 89) #[] #[.pointer (some ⟨b3, 0, none⟩)]), (5, .int .i64 3), (0, .int .i64 u), (1, .int .i64 (0 - v))]) [61, 10, 36, 35, 34, 8, 7, 5, 0, 1] (by kernel_rfl) ?_
    refine ops_nil ?_
    refine fin_then ?_
    refine st_false rfl ?_
    refine st_exit ?_
    refine fin_exit_then ?_
    refine fin_exit_then ?_
    refine fin_exit ?_
    refine fin_block ?_
    refine fin_then ?_
    refine st_region [(0, false), (1, false)] (by rfl) ?_
    refine ops_run (is := [(0, false), (1, false)]) (r := []) (l' := [(36, .int .i64 1), (35, .int .i64 2), (34, .slice (some ⟨b4, 0, none⟩) 2 2), (8, .int .i64 (a1 : Int)), (7, .func (.func 89) #[] #[.pointer (some ⟨b3, 0, none⟩)]), (5, .int .i64 3), (0, .int .i64 u), (1, .int .i64 (0 - v))]) [36, 35, 34, 8, 7, 5, 0, 1] (by kernel_rfl) ?_
    refine ops_nil ?_
    refine fin_rounds ?_
    refine str_succ ?_
    refine st_seq ?_
    refine st_region [(0, false)] (by rfl) ?_
    refine ops_run (is := [(0, false)]) (r := []) (l' := [(37, .bool true), (36, .int .i64 1), (35, .int .i64 2), (34, .slice (some ⟨b4, 0, none⟩) 2 2), (8, .int .i64 (a1 : Int)), (7, .func (.func 89) #[] #[.pointer (some ⟨b3, 0, none⟩)]), (5, .int .i64 3), (0, .int .i64 u), (1, .int .i64 (0 - v))]) [37, 36, 35, 34, 8, 7, 5, 0, 1] (by kernel_rfl) ?_
    refine ops_nil ?_
    refine fin_then ?_
    refine st_seq ?_
    refine st_true rfl ?_
    refine st_skip ?_
    refine fin_then ?_
    refine st_seq ?_
    refine st_block ?_
    refine st_seq ?_
    refine st_region [(0, false), (1, false), (2, false)] (by rfl) ?_
    refine ops_run (is := [(0, false)]) (r := [(1, false), (2, false)]) (l' := [(38, .pointer (some ⟨b4, 1, none⟩)), (36, .int .i64 1), (35, .int .i64 2), (34, .slice (some ⟨b4, 0, none⟩) 2 2), (8, .int .i64 (a1 : Int)), (7, .func (.func 89) #[] #[.pointer (some ⟨b3, 0, none⟩)]), (5, .int .i64 3), (0, .int .i64 u), (1, .int .i64 (0 - v))]) [38, 36, 35, 34, 8, 7, 5, 0, 1] (by kernel_rfl) ?_
    refine ops_mem (d := some 39) (an := [.v (.int .i64 1)]) (evs := [.load ⟨b4, 1, none⟩ (.int .i64 1)]) (v := .int .i64 1) (M' := Mem w [.blk b4 [.int .i64 256, .int .i64 1] 3, .blk b3 [.slice A1 65 c2] 37, .row A1 65 c2 3 1 (iv .i64 tab)]) ⟨by kernel_rfl⟩ (fun w_ hM hS => ⟨w_, ⟨hM.cell 0 rfl rfl, rfl⟩, hM, trivial⟩) ?_
    refine ops_run (is := [(2, false)]) (r := []) (l' := [(10, .int .i64 1), (36, .int .i64 1), (35, .int .i64 2), (34, .slice (some ⟨b4, 0, none⟩) 2 2), (8, .int .i64 (a1 : Int)), (7, .func (.func 89) #[] #[.pointer (some ⟨b3, 0, none⟩)]), (5, .int .i64 3), (0, .int .i64 u), (1, .int .i64 (0 - v))]) [10, 36, 35, 34, 8, 7, 5, 0, 1] (by kernel_rfl) ?_
    refine ops_nil ?_
    refine fin_then ?_
    refine st_block ?_
    refine st_loop (σ := Nat) a1 (fun a => [(10, .int .i64 1), (36, .int .i64 1), (35, .int .i64 2), (34, .slice (some ⟨b4, 0, none⟩) 2 2), (8, .int .i64 (a : Int)), (7, .func (.func 89) #[] #[.pointer (some ⟨b3, 0, none⟩)]), (5, .int .i64 3), (0, .int .i64 u), (1, .int .i64 (0 - v))]) (fun a => Mem w [.blk b4 [.int .i64 256, .int .i64 1] 3, .blk b3 [.slice A1 65 c2] 37, .row A1 65 c2 3 1 (iv .i64 tab)]) (fun a => a ≤ 16383 ∧ Not (0 - v) u a) (fun a => 16384 - a) (by exact ⟨hba1, hloa1⟩) (look_has ⟨rfl, rfl, rfl, rfl, rfl, rfl, rfl, rfl, rfl, trivial⟩) (fun w_ hM => by exact hM) ?_
    rintro a hI
    obtain ⟨hba, hloa⟩ := hI
    have hba : a ≤ 16383 := hba
    have hloa : Not (0 - v) u a := hloa
    have ha1 : IntKind.i64.wrap ((a : Int) + 1) = ((a + 1 : Nat) : Int) := by rw [i64in (by omega) (by omega)]; omega
    have ha2 : IntKind.i64.wrap (16384 - (a : Int)) = ((16384 - a : Nat) : Int) := by rw [i64in (by omega) (by omega)]; omega
    refine st_seq ?_
    refine st_seq ?_
    refine st_region [(0, false), (1, false), (2, false), (3, false), (4, false), (5, false), (6, false), (7, false), (8, false), (9, false), (10, false), (11, false), (12, false), (13, false), (14, false), (15, false), (16, false), (17, false), (18, false), (19, false), (20, false), (21, false)] (by rfl) ?_
    refine ops_run (is := [(0, false), (1, false), (2, false)]) (r := [(3, false), (4, false), (5, false), (6, false), (7, false), (8, false), (9, false), (10, false), (11, false), (12, false), (13, false), (14, false), (15, false), (16, false), (17, false), (18, false), (19, false), (20, false), (21, false)]) (l' := [(42, .int .i64 (IntKind.i64.wrap ((a : Int) + 1))), (10, .int .i64 1), (36, .int .i64 1), (35, .int .i64 2), (34, .slice (some ⟨b4, 0, none⟩) 2 2), (8, .int .i64 (a : Int)), (7, .func (.func 89) #[] #[.pointer (some ⟨b3, 0, none⟩)]), (5, .int .i64 3), (0, .int .i64 u), (1, .int .i64 (0 - v))]) [42, 10, 36, 35, 34, 8, 7, 5, 0, 1] (by kernel_rfl) ?_
    refine ops_conv (l' := [(42, .int .i64 ((a + 1 : Nat) : Int)), (10, .int .i64 1), (36, .int .i64 1), (35, .int .i64 2), (34, .slice (some ⟨b4, 0, none⟩) 2 2), (8, .int .i64 (a : Int)), (7, .func (.func 89) #[] #[.pointer (some ⟨b3, 0, none⟩)]), (5, .int .i64 3), (0, .int .i64 u), (1, .int .i64 (0 - v))]) (by rw [ha1]) (fun _ h => h) ?_
    refine ops_run (is := [(3, false), (4, false)]) (r := [(5, false), (6, false), (7, false), (8, false), (9, false), (10, false), (11, false), (12, false), (13, false), (14, false), (15, false), (16, false), (17, false), (18, false), (19, false), (20, false), (21, false)]) (l' := [(44, .bool (decide (((a + 1 : Nat) : Int) < 16384))), (10, .int .i64 1), (36, .int .i64 1), (35, .int .i64 2), (34, .slice (some ⟨b4, 0, none⟩) 2 2), (8, .int .i64 (a : Int)), (7, .func (.func 89) #[] #[.pointer (some ⟨b3, 0, none⟩)]), (5, .int .i64 3), (0, .int .i64 u), (1, .int .i64 (0 - v))]) [44, 10, 36, 35, 34, 8, 7, 5, 0, 1] (by kernel_rfl) ?_
    refine ops_bool (t := decide (((a + 1 : Nat) : Int) < 16384)) (l1 := [(44, .bool true), (10, .int .i64 1), (36, .int .i64 1), (35, .int .i64 2), (34, .slice (some ⟨b4, 0, none⟩) 2 2), (8, .int .i64 (a : Int)), (7, .func (.func 89) #[] #[.pointer (some ⟨b3, 0, none⟩)]), (5, .int .i64 3), (0, .int .i64 u), (1, .int .i64 (0 - v))]) (l2 := [(44, .bool false), (10, .int .i64 1), (36, .int .i64 1), (35, .int .i64 2), (34, .slice (some ⟨b4, 0, none⟩) 2 2), (8, .int .i64 (a : Int)), (7, .func (.func 89) #[] #[.pointer (some ⟨b3, 0, none⟩)]), (5, .int .i64 3), (0, .int .i64 u), (1, .int .i64 (0 - v))]) (fun h => by rw [h]) (fun h => by rw [h]) (fun hc9 => ?_) (fun hc9 => ?_)
    · --decide (((a + 1 : Nat) : Int) < 16384)
      have hlt : a + 1 < 16384 := by have := of_decide_eq_true hc9; omega
      have ha3 : IntKind.i64.wrap (((16384 - a : Nat) : Int) - 1) = ((16384 - a - 1 : Nat) : Int) := by rw [i64in (by omega) (by omega)]; omega
      have hq1 := prod_ok (a := (16384 - a - 1)) (y := u) (by omega) hY hY1
      have hq2 := prod_ok (a := (a + 1)) (y := (0 - v)) (by omega) (by omega) hX1
      have hp1 : IntKind.i64.wrap (firstV (16384 - a - 1) * u) = firstV (16384 - a - 1) * u := i64in (by omega) (by omega)
      have hp2 : IntKind.i64.wrap (firstV (a + 1) * (0 - v)) = firstV (a + 1) * (0 - v) := i64in (by omega) (by omega)
      refine ops_run (is := [(5, false), (6, false), (7, false)]) (r := [(8, false), (9, false), (10, false), (11, false), (12, false), (13, false), (14, false), (15, false), (16, false), (17, false), (18, false), (19, false), (20, false), (21, false)]) (l' := [(47, .int .i64 (IntKind.i64.wrap (16384 - (a : Int)))), (45, .func (.func 89) #[] #[.pointer (some ⟨b3, 0, none⟩)]), (44, .bool true), (10, .int .i64 1), (36, .int .i64 1), (35, .int .i64 2), (34, .slice (some ⟨b4, 0, none⟩) 2 2), (8, .int .i64 (a : Int)), (7, .func (.func 89) #[] #[.pointer (some ⟨b3, 0, none⟩)]), (5, .int .i64 3), (0, .int .i64 u), (1, .int .i64 (0 - v))]) [47, 45, 44, 10, 36, 35, 34, 8, 7, 5, 0, 1] (by kernel_rfl) ?_
      refine ops_conv (l' := [(47, .int .i64 ((16384 - a : Nat) : Int)), (45, .func (.func 89) #[] #[.pointer (some ⟨b3, 0, none⟩)]), (44, .bool true), (10, .int .i64 1), (36, .int .i64 1), (35, .int .i64 2), (34, .slice (some ⟨b4, 0, none⟩) 2 2), (8, .int .i64 (a : Int)), (7, .func (.func 89) #[] #[.pointer (some ⟨b3, 0, none⟩)]), (5, .int .i64 3), (0, .int .i64 u), (1, .int .i64 (0 - v))]) (by rw [ha2]) (fun _ h => h) ?_
      refine ops_run (is := [(8, false), (9, false)]) (r := [(10, false), (11, false), (12, false), (13, false), (14, false), (15, false), (16, false), (17, false), (18, false), (19, false), (20, false), (21, false)]) (l' := [(49, .int .i64 (IntKind.i64.wrap (((16384 - a : Nat) : Int) - 1))), (45, .func (.func 89) #[] #[.pointer (some ⟨b3, 0, none⟩)]), (44, .bool true), (10, .int .i64 1), (36, .int .i64 1), (35, .int .i64 2), (34, .slice (some ⟨b4, 0, none⟩) 2 2), (8, .int .i64 (a : Int)), (7, .func (.func 89) #[] #[.pointer (some ⟨b3, 0, none⟩)]), (5, .int .i64 3), (0, .int .i64 u), (1, .int .i64 (0 - v))]) [49, 45, 44, 10, 36, 35, 34, 8, 7, 5, 0, 1] (by kernel_rfl) ?_
      refine ops_conv (l' := [(49, .int .i64 ((16384 - a - 1 : Nat) : Int)), (45, .func (.func 89) #[] #[.pointer (some ⟨b3, 0, none⟩)]), (44, .bool true), (10, .int .i64 1), (36, .int .i64 1), (35, .int .i64 2), (34, .slice (some ⟨b4, 0, none⟩) 2 2), (8, .int .i64 (a : Int)), (7, .func (.func 89) #[] #[.pointer (some ⟨b3, 0, none⟩)]), (5, .int .i64 3), (0, .int .i64 u), (1, .int .i64 (0 - v))]) (by rw [ha3]) (fun _ h => h) ?_
      refine ops_call (σ := Unit) (d := some 50) (f := 89) (args := #[.int .i64 ((16384 - a - 1 : Nat) : Int), .pointer (some ⟨b3, 0, none⟩)]) (v := fun _ => .int .i64 (firstV (16384 - a - 1))) (M' := fun _ => Mem w [.blk b4 [.int .i64 256, .int .i64 1] 3, .blk b3 [.slice A1 65 c2] 37, .row A1 65 c2 3 1 (iv .i64 tab)]) ⟨by kernel_rfl⟩ (fun w_ hM hS => (Angle1_calls (16384 - a - 1) _ A1 c2 w_ (by omega) (hM.cell 1 rfl rfl) (hM.rints 2 rfl)).mono (by rintro e w' ⟨rfl, hb⟩; exact ⟨(), rfl, hM.step hb, trivial⟩)) (fun _ => ?_)
      refine ops_run (is := [(11, false), (12, false)]) (r := [(13, false), (14, false), (15, false), (16, false), (17, false), (18, false), (19, false), (20, false), (21, false)]) (l' := [(52, .int .i64 (IntKind.i64.wrap (firstV (16384 - a - 1) * u))), (44, .bool true), (10, .int .i64 1), (36, .int .i64 1), (35, .int .i64 2), (34, .slice (some ⟨b4, 0, none⟩) 2 2), (8, .int .i64 (a : Int)), (7, .func (.func 89) #[] #[.pointer (some ⟨b3, 0, none⟩)]), (5, .int .i64 3), (0, .int .i64 u), (1, .int .i64 (0 - v))]) [52, 44, 10, 36, 35, 34, 8, 7, 5, 0, 1] (by kernel_rfl) ?_
      refine ops_conv (l' := [(52, .int .i64 (firstV (16384 - a - 1) * u)), (44, .bool true), (10, .int .i64 1), (36, .int .i64 1), (35, .int .i64 2), (34, .slice (some ⟨b4, 0, none⟩) 2 2), (8, .int .i64 (a : Int)), (7, .func (.func 89) #[] #[.pointer (some ⟨b3, 0, none⟩)]), (5, .int .i64 3), (0, .int .i64 u), (1, .int .i64 (0 - v))]) (by rw [hp1]) (fun _ h => h) ?_
      refine ops_run (is := [(13, false), (14, false), (15, false), (16, false)]) (r := [(17, false), (18, false), (19, false), (20, false), (21, false)]) (l' := [(56, .int .i64 (IntKind.i64.wrap ((a : Int) + 1))), (53, .func (.func 89) #[] #[.pointer (some ⟨b3, 0, none⟩)]), (52, .int .i64 (firstV (16384 - a - 1) * u)), (44, .bool true), (10, .int .i64 1), (36, .int .i64 1), (35, .int .i64 2), (34, .slice (some ⟨b4, 0, none⟩) 2 2), (8, .int .i64 (a : Int)), (7, .func (.func 89) #[] #[.pointer (some ⟨b3, 0, none⟩)]), (5, .int .i64 3), (0, .int .i64 u), (1, .int .i64 (0 - v))]) [56, 53, 52, 44, 10, 36, 35, 34, 8, 7, 5, 0, 1] (by kernel_rfl) ?_
      refine ops_conv (l' := [(56, .int .i64 ((a + 1 : Nat) : Int)), (53, .func (.func 89) #[] #[.pointer (some ⟨b3, 0, none⟩)]), (52, .int .i64 (firstV (16384 - a - 1) * u)), (44, .bool true), (10, .int .i64 1), (36, .int .i64 1), (35, .int .i64 2), (34, .slice (some ⟨b4, 0, none⟩) 2 2), (8, .int .i64 (a : Int)), (7, .func (.func 89) #[] #[.pointer (some ⟨b3, 0, none⟩)]), (5, .int .i64 3), (0, .int .i64 u), (1, .int .i64 (0 - v))]) (by rw [ha1]) (fun _ h => h) ?_
      refine ops_call (σ := Unit) (d := some 57) (f := 89) (args := #[.int .i64 ((a + 1 : Nat) : Int), .pointer (some ⟨b3, 0, none⟩)]) (v := fun _ => .int .i64 (firstV (a + 1))) (M' := fun _ => Mem w [.blk b4 [.int .i64 256, .int .i64 1] 3, .blk b3 [.slice A1 65 c2] 37, .row A1 65 c2 3 1 (iv .i64 tab)]) ⟨by kernel_rfl⟩ (fun w_ hM hS => (Angle1_calls (a + 1) _ A1 c2 w_ (by omega) (hM.cell 1 rfl rfl) (hM.rints 2 rfl)).mono (by rintro e w' ⟨rfl, hb⟩; exact ⟨(), rfl, hM.step hb, trivial⟩)) (fun _ => ?_)
      refine ops_run (is := [(18, false), (19, false)]) (r := [(20, false), (21, false)]) (l' := [(59, .int .i64 (IntKind.i64.wrap (firstV (a + 1) * (0 - v)))), (52, .int .i64 (firstV (16384 - a - 1) * u)), (44, .bool true), (10, .int .i64 1), (36, .int .i64 1), (35, .int .i64 2), (34, .slice (some ⟨b4, 0, none⟩) 2 2), (8, .int .i64 (a : Int)), (7, .func (.func 89) #[] #[.pointer (some ⟨b3, 0, none⟩)]), (5, .int .i64 3), (0, .int .i64 u), (1, .int .i64 (0 - v))]) [59, 52, 44, 10, 36, 35, 34, 8, 7, 5, 0, 1] (by kernel_rfl) ?_
      refine ops_conv (l' := [(59, .int .i64 (firstV (a + 1) * (0 - v))), (52, .int .i64 (firstV (16384 - a - 1) * u)), (44, .bool true), (10, .int .i64 1), (36, .int .i64 1), (35, .int .i64 2), (34, .slice (some ⟨b4, 0, none⟩) 2 2), (8, .int .i64 (a : Int)), (7, .func (.func 89) #[] #[.pointer (some ⟨b3, 0, none⟩)]), (5, .int .i64 3), (0, .int .i64 u), (1, .int .i64 (0 - v))]) (by rw [hp2]) (fun _ h => h) ?_
      refine ops_run (is := [(20, false), (21, false)]) (r := []) (l' := [(61, .bool (decide ((firstV (a + 1) * (0 - v)) ≤ (firstV (16384 - a - 1) * u)))), (10, .int .i64 1), (36, .int .i64 1), (35, .int .i64 2), (34, .slice (some ⟨b4, 0, none⟩) 2 2), (8, .int .i64 (a : Int)), (7, .func (.func 89) #[] #[.pointer (some ⟨b3, 0, none⟩)]), (5, .int .i64 3), (0, .int .i64 u), (1, .int .i64 (0 - v))]) [61, 10, 36, 35, 34, 8, 7, 5, 0, 1] (by kernel_rfl) ?_
      refine ops_nil ?_
      refine fin_then ?_
      refine st_if (b := decide ((firstV (a + 1) * (0 - v)) ≤ (firstV (16384 - a - 1) * u))) rfl (fun hc10 => ?_) (fun hc10 => ?_)
      · --
        refine st_skip ?_
        refine fin_then ?_
        refine st_block ?_
        refine st_region [(0, false), (1, false), (2, false), (3, false)] (by rfl) ?_
        refine ops_run (is := [(0, false), (1, false), (2, false)]) (r := [(3, false)]) (l' := [(64, .int .i64 (IntKind.i64.wrap ((a : Int) + 1))), (10, .int .i64 1), (36, .int .i64 1), (35, .int .i64 2), (34, .slice (some ⟨b4, 0, none⟩) 2 2), (8, .int .i64 (a : Int)), (7, .func (.func 89) #[] #[.pointer (some ⟨b3, 0, none⟩)]), (5, .int .i64 3), (0, .int .i64 u), (1, .int .i64 (0 - v))]) [64, 10, 36, 35, 34, 8, 7, 5, 0, 1] (by kernel_rfl) ?_
        refine ops_conv (l' := [(64, .int .i64 ((a + 1 : Nat) : Int)), (10, .int .i64 1), (36, .int .i64 1), (35, .int .i64 2), (34, .slice (some ⟨b4, 0, none⟩) 2 2), (8, .int .i64 (a : Int)), (7, .func (.func 89) #[] #[.pointer (some ⟨b3, 0, none⟩)]), (5, .int .i64 3), (0, .int .i64 u), (1, .int .i64 (0 - v))]) (by rw [ha1]) (fun _ h => h) ?_
        refine ops_run (is := [(3, false)]) (r := []) (l' := [(8, .int .i64 ((a + 1 : Nat) : Int)), (10, .int .i64 1), (36, .int .i64 1), (35, .int .i64 2), (34, .slice (some ⟨b4, 0, none⟩) 2 2), (7, .func (.func 89) #[] #[.pointer (some ⟨b3, 0, none⟩)]), (5, .int .i64 3), (0, .int .i64 u), (1, .int .i64 (0 - v))]) [8, 10, 36, 35, 34, 7, 5, 0, 1] (by kernel_rfl) ?_
        refine ops_nil ?_
        refine fin_block ?_
        refine fin_round (a + 1) (by exact ⟨show a + 1 ≤ 16383 by omega, by have z := of_decide_eq_true hc10; rwa [show 16384 - a - 1 = 16384 - (a + 1) by omega] at z⟩) (by (show 16384 - (a + 1) < 16384 - a; omega)) (look_has ⟨rfl, rfl, rfl, rfl, rfl, rfl, rfl, rfl, rfl, trivial⟩) (fun w_ hM => by exact hM)
      · --
        refine st_exit ?_
        refine fin_exit_then ?_
        refine fin_exit_then ?_
        refine fin_exit ?_
        refine fin_block ?_
        refine fin_then ?_
        refine st_region [(0, false), (1, false)] (by rfl) ?_
        refine ops_run (is := [(0, false), (1, false)]) (r := []) (l' := [(36, .int .i64 2), (35, .int .i64 2), (34, .slice (some ⟨b4, 0, none⟩) 2 2), (8, .int .i64 (a : Int)), (7, .func (.func 89) #[] #[.pointer (some ⟨b3, 0, none⟩)]), (5, .int .i64 3), (0, .int .i64 u), (1, .int .i64 (0 - v))]) [36, 35, 34, 8, 7, 5, 0, 1] (by kernel_rfl) ?_
        refine ops_nil ?_
        refine fin_rounds ?_
        refine str_succ ?_
        refine st_seq ?_
        refine st_region [(0, false)] (by rfl) ?_
        refine ops_run (is := [(0, false)]) (r := []) (l' := [(37, .bool false), (36, .int .i64 2), (35, .int .i64 2), (34, .slice (some ⟨b4, 0, none⟩) 2 2), (8, .int .i64 (a : Int)), (7, .func (.func 89) #[] #[.pointer (some ⟨b3, 0, none⟩)]), (5, .int .i64 3), (0, .int .i64 u), (1, .int .i64 (0 - v))]) [37, 36, 35, 34, 8, 7, 5, 0, 1] (by kernel_rfl) ?_
        refine ops_nil ?_
        refine fin_then ?_
        refine st_seq ?_
        refine st_false rfl ?_
        refine st_exit ?_
        refine fin_exit_then ?_
        refine fin_exit_then ?_
        refine fin_exit ?_
        refine fin_then ?_
        refine st_seq ?_
        refine st_region [(0, false), (1, false), (2, false), (3, false), (4, false)] (by rfl) ?_
        refine ops_run (is := [(0, false), (1, false), (2, false), (3, false)]) (r := [(4, false)]) (l' := [(69, .int .i64 (IntKind.i64.wrap (49152 + (a : Int))))]) [69] (by kernel_rfl) ?_
        refine ops_conv (l' := [(69, .int .i64 (49152 + (a : Int)))]) (by rw [(i64in (x := 49152 + (a : Int)) (by omega) (by omega))]) (fun _ h => h) ?_
        refine ops_run (is := [(4, false)]) (r := []) (l' := [(4, .int .i64 (49152 + (a : Int)))]) [4] (by kernel_rfl) ?_
        refine ops_nil ?_
        refine fin_then ?_
        refine st_ret ?_
        refine fin_ret [.tmp 4] [.int .i64 (49152 + (a : Int))] rfl rfl (fun w_ hM => (.tmp rfl .nil)) (fun w_ hM => ?_)
        refine ⟨?_, hM.done⟩
        have z := ang_eq hX hY hloa hba (by right; intro hc; have z := of_decide_eq_false hc10; rw [show 16384 - a - 1 = 16384 - (a + 1) by omega] at z; exact z hc)
        rw [← z]
        first | rfl | (simp only [theOne]; congr 2; omega)
    · --decide (((a + 1 : Nat) : Int) < 16384)
      refine ops_run (is := [(5, false), (6, false), (7, false), (8, false), (9, false), (10, false), (11, false), (12, false), (13, false), (14, false), (15, false), (16, false), (17, false), (18, false), (19, false), (20, false), (21, false)]) (r := []) (l' := [(61, .bool false), (10, .int .i64 1), (36, .int .i64 1), (35, .int .i64 2), (34, .slice (some ⟨b4, 0, none⟩) 2 2), (8, .int .i64 (a : Int)), (7, .func (.func 89) #[] #[.pointer (some ⟨b3, 0, none⟩)]), (5, .int .i64 3), (0, .int .i64 u), (1, .int .i64 (0 - v))]) [61, 10, 36, 35, 34, 8, 7, 5, 0, 1] (by kernel_rfl) ?_
      refine ops_nil ?_
      refine fin_then ?_
      refine st_false rfl ?_
      refine st_exit ?_
      refine fin_exit_then ?_
      refine fin_exit_then ?_
      refine fin_exit ?_
      refine fin_block ?_
      refine fin_then ?_
      refine st_region [(0, false), (1, false)] (by rfl) ?_
      refine ops_run (is := [(0, false), (1, false)]) (r := []) (l' := [(36, .int .i64 2), (35, .int .i64 2), (34, .slice (some ⟨b4, 0, none⟩) 2 2), (8, .int .i64 (a : Int)), (7, .func (.func 89) #[] #[.pointer (some ⟨b3, 0, none⟩)]), (5, .int .i64 3), (0, .int .i64 u), (1, .int .i64 (0 - v))]) [36, 35, 34, 8, 7, 5, 0, 1] (by kernel_rfl) ?_
      refine ops_nil ?_
      refine fin_rounds ?_
      refine str_succ ?_
      refine st_seq ?_
      refine st_region [(0, false)] (by rfl) ?_
      refine ops_run (is := [(0, false)]) (r := []) (l' := [(37, .bool false), (36, .int .i64 2), (35, .int .i64 2), (34, .slice (some ⟨b4, 0, none⟩) 2 2), (8, .int .i64 (a : Int)), (7, .func (.func 89) #[] #[.pointer (some ⟨b3, 0, none⟩)]), (5, .int .i64 3), (0, .int .i64 u), (1, .int .i64 (0 - v))]) [37, 36, 35, 34, 8, 7, 5, 0, 1] (by kernel_rfl) ?_
      refine ops_nil ?_
      refine fin_then ?_
      refine st_seq ?_
      refine st_false rfl ?_
      refine st_exit ?_
      refine fin_exit_then ?_
      refine fin_exit_then ?_
      refine fin_exit ?_
      refine fin_then ?_
      refine st_seq ?_
      refine st_region [(0, false), (1, false), (2, false), (3, false), (4, false)] (by rfl) ?_
      refine ops_run (is := [(0, false), (1, false), (2, false), (3, false)]) (r := [(4, false)]) (l' := [(69, .int .i64 (IntKind.i64.wrap (49152 + (a : Int))))]) [69] (by kernel_rfl) ?_
      refine ops_conv (l' := [(69, .int .i64 (49152 + (a : Int)))]) (by rw [(i64in (x := 49152 + (a : Int)) (by omega) (by omega))]) (fun _ h => h) ?_
      refine ops_run (is := [(4, false)]) (r := []) (l' := [(4, .int .i64 (49152 + (a : Int)))]) [4] (by kernel_rfl) ?_
      refine ops_nil ?_
      refine fin_then ?_
      refine st_ret ?_
      refine fin_ret [.tmp 4] [.int .i64 (49152 + (a : Int))] rfl rfl (fun w_ hM => (.tmp rfl .nil)) (fun w_ hM => ?_)
      refine ⟨?_, hM.done⟩
      have z := ang_eq hX hY hloa hba (by left; have := of_decide_eq_false hc9; omega)
      rw [← z]
      first | rfl | (simp only [theOne]; congr 2; omega)
theorem Atan_calls (y x u v : Int) (w : World) (hu : min (max x (-1099511627776)) 1099511627776 = u) (hv : min (max y (-1099511627776)) 1099511627776 = v) : Calls Try.prog 73 #[.int .i64 y, .int .i64 x] w fun e w' => e = .returned (.int .i64 (angleV v u)) ∧ Below w.heap.size w w' := by
  by_cases hz : u = 0 ∧ v = 0
  · rw [show angleV v u = 0 from if_pos hz]; exact Atan_z y x u v w hu hv hz
  have e0 := fun a b : Int => (if_neg hz : (if u = 0 ∧ v = 0 then a else b) = b)
  by_cases h0 : 0 < u ∧ 0 ≤ v
  · rw [show angleV v u = ang u v from (e0 _ _).trans (if_pos h0)]; exact Atan_0 y x u v w hu hv h0
  by_cases h1 : u ≤ 0 ∧ 0 < v
  · rw [show angleV v u = 16384 + ang v (0 - u) from (e0 _ _).trans ((if_neg h0).trans (if_pos h1))]; exact (if hu0 : u = 0 then Atan_1z y x u v w hu hv ⟨hu0, h1.2⟩ else Atan_1 y x u v w hu hv ⟨by omega, h1.2⟩)
  by_cases h2 : u < 0
  · rw [show angleV v u = 32768 + ang (0 - u) (0 - v) from (e0 _ _).trans ((if_neg h0).trans ((if_neg h1).trans (if_pos h2)))]; exact Atan_2 y x u v w hu hv (by omega)
  · rw [show angleV v u = 49152 + ang (0 - v) u from (e0 _ _).trans ((if_neg h0).trans ((if_neg h1).trans (if_neg h2)))]; exact (if hu0 : u = 0 then Atan_3z y x u v w hu hv ⟨hu0, by omega⟩ else Atan_3 y x u v w hu hv ⟨by omega, by omega⟩)
theorem Angle_calls (y x u v : Int) (w : World) (hu : min (max x (-1099511627776)) 1099511627776 = u) (hv : min (max y (-1099511627776)) 1099511627776 = v) : Calls Try.prog 74 #[.int .i64 y, .int .i64 x] w fun e w' => e = .returned (.int .i64 (angleV v u)) ∧ Below w.heap.size w w' := by
  by_cases hz : u = 0 ∧ v = 0
  · rw [show angleV v u = 0 from if_pos hz]; exact Angle_z y x u v w hu hv hz
  have e0 := fun a b : Int => (if_neg hz : (if u = 0 ∧ v = 0 then a else b) = b)
  by_cases h0 : 0 < u ∧ 0 ≤ v
  · rw [show angleV v u = ang u v from (e0 _ _).trans (if_pos h0)]; exact Angle_0 y x u v w hu hv h0
  by_cases h1 : u ≤ 0 ∧ 0 < v
  · rw [show angleV v u = 16384 + ang v (0 - u) from (e0 _ _).trans ((if_neg h0).trans (if_pos h1))]; exact (if hu0 : u = 0 then Angle_1z y x u v w hu hv ⟨hu0, h1.2⟩ else Angle_1 y x u v w hu hv ⟨by omega, h1.2⟩)
  by_cases h2 : u < 0
  · rw [show angleV v u = 32768 + ang (0 - u) (0 - v) from (e0 _ _).trans ((if_neg h0).trans ((if_neg h1).trans (if_pos h2)))]; exact Angle_2 y x u v w hu hv (by omega)
  · rw [show angleV v u = 49152 + ang (0 - v) u from (e0 _ _).trans ((if_neg h0).trans ((if_neg h1).trans (if_neg h2)))]; exact (if hu0 : u = 0 then Angle_3z y x u v w hu hv ⟨hu0, by omega⟩ else Angle_3 y x u v w hu hv ⟨by omega, by omega⟩)
theorem ang_one : ang 1 1 = 8192 := (ang_eq (by decide) (by decide) (a := 8192) (by decide +kernel) (by decide) (.inr (by decide +kernel))).symm
theorem Atan_one (w : World) : Calls Try.prog 73 #[.int .i64 1, .int .i64 1] w fun e w' => e = .returned (.int .i64 8192) ∧ Below w.heap.size w w' := by
  have h := Atan_calls 1 1 1 1 w (by decide) (by decide)
  rwa [show angleV 1 1 = ang 1 1 from (if_neg (by decide)).trans (if_pos (by decide)), ang_one] at h
set_option maxHeartbeats 4000000 in
set_option maxRecDepth 100000 in
theorem TrigAngles_calls (y x : Int) (w : World) (hy : (Lit.int .i64 y).wf = true) (hx : (Lit.int .i64 x).wf = true) : Calls Try.prog 13 #[.int .i64 y, .int .i64 x] w fun e w' => e = .returned (.bool true) ∧ Below w.heap.size w w' := by
  refine sx_calls Try.func13 rfl (n := 16) (by kernel_rfl) (l := [(0, .int .i64 y), (1, .int .i64 x)]) rfl (by rfl) (Mem.nil w) ?_
  refine st_seq ?_
  refine st_region [(0, false)] (by rfl) ?_
  refine ops_run (is := [(0, false)]) (r := []) (l' := [(0, .int .i64 y), (1, .int .i64 x)]) [0, 1] (by kernel_rfl) ?_
  refine ops_nil ?_
  refine fin_then ?_
  refine st_seq ?_
  refine st_region [(0, false), (1, false), (2, false), (3, false), (4, false), (5, false), (6, false), (7, false), (8, false), (9, false), (10, false), (11, false)] (by rfl) ?_
  refine ops_call (σ := Unit) (d := some 5) (f := 73) (args := #[.int .i64 1, .int .i64 1]) (v := fun _ => .int .i64 8192) (M' := fun _ => Mem w []) ⟨by kernel_rfl⟩ (fun w_ hM hS => (Atan_one w_).mono (by rintro e w' ⟨rfl, hb⟩; exact ⟨(), rfl, hM.step hb, trivial⟩)) (fun _ => ?_)
  refine ops_run (is := [(1, false), (2, false), (3, false), (4, false)]) (r := [(5, false), (6, false), (7, false), (8, false), (9, false), (10, false), (11, false)]) (l' := [(9, .int .i64 x), (8, .int .i64 y), (7, .bool true), (0, .int .i64 y), (1, .int .i64 x)]) [9, 8, 7, 0, 1] (by kernel_rfl) ?_
  refine ops_call (σ := Unit) (d := some 10) (f := 73) (args := #[.int .i64 y, .int .i64 x]) (v := fun _ => .int .i64 (angleV (min (max y (-1099511627776)) 1099511627776) (min (max x (-1099511627776)) 1099511627776))) (M' := fun _ => Mem w []) ⟨by kernel_rfl⟩ (fun w_ hM hS => (Atan_calls y x _ _ w_ rfl rfl).mono (by rintro e w' ⟨rfl, hb⟩; exact ⟨(), rfl, hM.step hb, trivial⟩)) (fun _ => ?_)
  refine ops_run (is := [(6, false), (7, false)]) (r := [(8, false), (9, false), (10, false), (11, false)]) (l' := [(12, .int .i64 x), (11, .int .i64 y), (10, .int .i64 (angleV (min (max y (-1099511627776)) 1099511627776) (min (max x (-1099511627776)) 1099511627776))), (7, .bool true)]) [12, 11, 10, 7] (by kernel_rfl) ?_
  refine ops_call (σ := Unit) (d := some 13) (f := 74) (args := #[.int .i64 y, .int .i64 x]) (v := fun _ => .int .i64 (angleV (min (max y (-1099511627776)) 1099511627776) (min (max x (-1099511627776)) 1099511627776))) (M' := fun _ => Mem w []) ⟨by kernel_rfl⟩ (fun w_ hM hS => (Angle_calls y x _ _ w_ rfl rfl).mono (by rintro e w' ⟨rfl, hb⟩; exact ⟨(), rfl, hM.step hb, trivial⟩)) (fun _ => ?_)
  refine ops_run (is := []) (r := [(9, false), (10, false), (11, false)]) (l' := [(13, .int .i64 (angleV (min (max y (-1099511627776)) 1099511627776) (min (max x (-1099511627776)) 1099511627776))), (10, .int .i64 (angleV (min (max y (-1099511627776)) 1099511627776) (min (max x (-1099511627776)) 1099511627776))), (7, .bool true)]) [13, 10, 7] (by kernel_rfl) ?_
  refine ops_val (op := (Go.Op.binOp Go.BinOp.eql 3 (Go.Operand.tmp 10) (Go.Operand.tmp 13) 3)) (d := some 14) (v := .bool true) ⟨by kernel_rfl⟩ (run_eql_same rfl rfl) ?_
  refine ops_run (is := [(10, false), (11, false)]) (r := []) (l' := [(4, .bool true)]) [4] (by kernel_rfl) ?_
  refine ops_nil ?_
  refine fin_then ?_
  refine st_ret ?_
  refine fin_ret [.tmp 4] [.bool true] rfl rfl (fun w_ hM => (.tmp rfl .nil)) (fun w_ hM => ?_)
  refine ⟨?_, hM.done⟩
  rfl
end Go.Proofs.Ytdmlapkindoghaa.WAng3
