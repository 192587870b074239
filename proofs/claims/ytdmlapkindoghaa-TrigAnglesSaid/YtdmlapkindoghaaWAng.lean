/- Walks of trig.Atan and of the reference's Angle: each comes to the last angle that is not beyond the vector. No condition. -/
import Derived.Test.YtdmlapkindoghaaProg
import Derived.Test.YtdmlapkindoghaaSxOps
import Derived.Test.YtdmlapkindoghaaAngSpec
import Derived.Test.YtdmlapkindoghaaWTrig
import Derived.Test.YtdmlapkindoghaaWClamp
namespace Go.Proofs.Ytdmlapkindoghaa.WAng
open Go Go.RowKit Go.Proofs.Ytdmlapkindoghaa.Sx Go.Proofs.Ytdmlapkindoghaa.Rnd Go.Proofs.Ytdmlapkindoghaa.Trig Go.Proofs.Ytdmlapkindoghaa.Ang Go.Proofs.Ytdmlapkindoghaa.WTrig Go.Proofs.Ytdmlapkindoghaa.WClamp
set_option linter.unusedVariables false
set_option linter.unusedSimpArgs false
theorem Sin_q (a : Nat) (w : World) (h : a ≤ 16384) : Calls Try.prog 19 #[.int .i64 (a : Int)] w fun e w' => e = .returned (.int .i64 (firstV a)) ∧ Below w.heap.size w w' := by
  have z := Sin_calls (a : Int) w
  rwa [sin_first h] at z
theorem Cos_q (a : Nat) (w : World) (h : a ≤ 16384) : Calls Try.prog 21 #[.int .i64 (a : Int)] w fun e w' => e = .returned (.int .i64 (firstV (16384 - a))) ∧ Below w.heap.size w w' := by
  have z := Cos_calls (a : Int) w
  rwa [cos_first h] at z
set_option maxHeartbeats 4000000 in
set_option maxRecDepth 100000 in
theorem Atan_z (y x u v : Int) (w : World) (hu : min (max x (-1099511627776)) 1099511627776 = u) (hv : min (max y (-1099511627776)) 1099511627776 = v) (hq : u = 0 ∧ v = 0) : Calls Try.prog 73 #[.int .i64 y, .int .i64 x] w fun e w' => e = .returned (.int .i64 0) ∧ Below w.heap.size w w' := by
  have hu0 : -1099511627776 ≤ u ∧ u ≤ 1099511627776 := by omega
  have hv0 : -1099511627776 ≤ v ∧ v ≤ 1099511627776 := by omega
  have hkn0 : (u == 0) = true := by simp; omega
  have hkn1 : (v == 0) = true := by simp; omega
  refine sx_calls Try.func73 rfl (n := 70) (by kernel_rfl) (l := [(0, .int .i64 y), (1, .int .i64 x)]) rfl (by rfl) (Mem.nil w) ?_
  refine st_seq ?_
  refine st_region [(0, false)] (by rfl) ?_
  refine ops_run (is := [(0, false)]) (r := []) (l' := [(0, .int .i64 y), (1, .int .i64 x)]) [0, 1] (by kernel_rfl) ?_
  refine ops_nil ?_
  refine fin_then ?_
  refine st_seq ?_
  refine st_region [(0, false), (1, false), (2, false), (3, false), (4, false), (5, false)] (by rfl) ?_
  refine ops_run (is := [(0, false)]) (r := [(1, false), (2, false), (3, false), (4, false), (5, false)]) (l' := [(9, .int .i64 x), (0, .int .i64 y), (1, .int .i64 x)]) [9, 0, 1] (by kernel_rfl) ?_
  refine ops_call (σ := Unit) (d := some 10) (f := 82) (args := #[.int .i64 x]) (v := fun _ => .int .i64 (min (max x (-1099511627776)) 1099511627776)) (M' := fun _ => Mem w []) ⟨by kernel_rfl⟩ (fun w_ hM hS => (Clamp_calls x w_).mono (by rintro e w' ⟨rfl, hb⟩; exact ⟨(), rfl, hM.step hb, trivial⟩)) (fun _ => ?_)
  refine ops_run (is := []) (r := [(2, false), (3, false), (4, false), (5, false)]) (l' := [(10, .int .i64 (min (max x (-1099511627776)) 1099511627776)), (0, .int .i64 y), (1, .int .i64 x)]) [10, 0, 1] (by kernel_rfl) ?_
  refine ops_conv (l' := [(10, .int .i64 u), (0, .int .i64 y), (1, .int .i64 x)]) (by rw [hu]) (fun _ h => h) ?_
  refine ops_run (is := [(2, false)]) (r := [(3, false), (4, false), (5, false)]) (l' := [(11, .int .i64 y), (10, .int .i64 u), (0, .int .i64 y), (1, .int .i64 x)]) [11, 10, 0, 1] (by kernel_rfl) ?_
  refine ops_call (σ := Unit) (d := some 12) (f := 82) (args := #[.int .i64 y]) (v := fun _ => .int .i64 (min (max y (-1099511627776)) 1099511627776)) (M' := fun _ => Mem w []) ⟨by kernel_rfl⟩ (fun w_ hM hS => (Clamp_calls y w_).mono (by rintro e w' ⟨rfl, hb⟩; exact ⟨(), rfl, hM.step hb, trivial⟩)) (fun _ => ?_)
  refine ops_run (is := []) (r := [(4, false), (5, false)]) (l' := [(12, .int .i64 (min (max y (-1099511627776)) 1099511627776)), (10, .int .i64 u), (0, .int .i64 y), (1, .int .i64 x)]) [12, 10, 0, 1] (by kernel_rfl) ?_
  refine ops_conv (l' := [(12, .int .i64 v), (10, .int .i64 u), (0, .int .i64 y), (1, .int .i64 x)]) (by rw [hv]) (fun _ h => h) ?_
  refine ops_run (is := [(4, false), (5, false)]) (r := []) (l' := [(0, .int .i64 v), (1, .int .i64 u)]) [0, 1] (by kernel_rfl) ?_
  refine ops_nil ?_
  refine fin_then ?_
  refine st_seq ?_
  refine st_region [(0, false)] (by rfl) ?_
  refine ops_run (is := [(0, false)]) (r := []) (l' := [(5, .int .i64 0), (0, .int .i64 v), (1, .int .i64 u)]) [5, 0, 1] (by kernel_rfl) ?_
  refine ops_nil ?_
  refine fin_then ?_
  refine st_seq ?_
  refine st_block ?_
  refine st_seq ?_
  refine st_region [(0, false), (1, false), (2, false), (3, false), (4, false), (5, false), (6, false)] (by rfl) ?_
  refine ops_run (is := [(0, false), (1, false), (2, false)]) (r := [(3, false), (4, false), (5, false), (6, false)]) (l' := [(19, .bool (u == 0)), (5, .int .i64 0), (0, .int .i64 v), (1, .int .i64 u)]) [19, 5, 0, 1] (by kernel_rfl) ?_
  refine ops_conv (l' := [(19, .bool true), (5, .int .i64 0), (0, .int .i64 v), (1, .int .i64 u)]) (by rw [hkn0]) (fun _ h => h) ?_
  refine ops_run (is := [(3, false), (4, false), (5, false), (6, false)]) (r := []) (l' := [(16, .bool (v == 0)), (5, .int .i64 0), (0, .int .i64 v), (1, .int .i64 u)]) [16, 5, 0, 1] (by kernel_rfl) ?_
  refine ops_nil ?_
  refine fin_then ?_
  refine st_conv (l' := [(16, .bool true), (5, .int .i64 0), (0, .int .i64 v), (1, .int .i64 u)]) (by rw [hkn1]) (fun _ h => h) ?_
  refine st_true rfl ?_
  refine st_seq ?_
  refine st_region [(0, false)] (by rfl) ?_
  refine ops_run (is := [(0, false)]) (r := []) (l' := [(4, .int .i64 0)]) [4] (by kernel_rfl) ?_
  refine ops_nil ?_
  refine fin_then ?_
  refine st_ret ?_
  refine fin_ret_block ?_
  refine fin_ret_then ?_
  refine fin_ret [.tmp 4] [.int .i64 0] rfl rfl (fun w_ hM => (.tmp rfl .nil)) (fun w_ hM => ?_)
  refine ⟨?_, hM.done⟩
  rfl
set_option maxHeartbeats 4000000 in
set_option maxRecDepth 100000 in
theorem Atan_0 (y x u v : Int) (w : World) (hu : min (max x (-1099511627776)) 1099511627776 = u) (hv : min (max y (-1099511627776)) 1099511627776 = v) (hq : 0 < u ∧ 0 ≤ v) : Calls Try.prog 73 #[.int .i64 y, .int .i64 x] w fun e w' => e = .returned (.int .i64 (ang u v)) ∧ Below w.heap.size w w' := by
  have hu0 : -1099511627776 ≤ u ∧ u ≤ 1099511627776 := by omega
  have hv0 : -1099511627776 ≤ v ∧ v ≤ 1099511627776 := by omega
  have hkn0 : (u == 0) = false := by simp; omega
  have hkn1 : decide (0 < u) = true := by simp; omega
  have hkn2 : decide (0 ≤ v) = true := by simp; omega
  refine sx_calls Try.func73 rfl (n := 70) (by kernel_rfl) (l := [(0, .int .i64 y), (1, .int .i64 x)]) rfl (by rfl) (Mem.nil w) ?_
  refine st_seq ?_
  refine st_region [(0, false)] (by rfl) ?_
  refine ops_run (is := [(0, false)]) (r := []) (l' := [(0, .int .i64 y), (1, .int .i64 x)]) [0, 1] (by kernel_rfl) ?_
  refine ops_nil ?_
  refine fin_then ?_
  refine st_seq ?_
  refine st_region [(0, false), (1, false), (2, false), (3, false), (4, false), (5, false)] (by rfl) ?_
  refine ops_run (is := [(0, false)]) (r := [(1, false), (2, false), (3, false), (4, false), (5, false)]) (l' := [(9, .int .i64 x), (0, .int .i64 y), (1, .int .i64 x)]) [9, 0, 1] (by kernel_rfl) ?_
  refine ops_call (σ := Unit) (d := some 10) (f := 82) (args := #[.int .i64 x]) (v := fun _ => .int .i64 (min (max x (-1099511627776)) 1099511627776)) (M' := fun _ => Mem w []) ⟨by kernel_rfl⟩ (fun w_ hM hS => (Clamp_calls x w_).mono (by rintro e w' ⟨rfl, hb⟩; exact ⟨(), rfl, hM.step hb, trivial⟩)) (fun _ => ?_)
  refine ops_run (is := []) (r := [(2, false), (3, false), (4, false), (5, false)]) (l' := [(10, .int .i64 (min (max x (-1099511627776)) 1099511627776)), (0, .int .i64 y), (1, .int .i64 x)]) [10, 0, 1] (by kernel_rfl) ?_
  refine ops_conv (l' := [(10, .int .i64 u), (0, .int .i64 y), (1, .int .i64 x)]) (by rw [hu]) (fun _ h => h) ?_
  refine ops_run (is := [(2, false)]) (r := [(3, false), (4, false), (5, false)]) (l' := [(11, .int .i64 y), (10, .int .i64 u), (0, .int .i64 y), (1, .int .i64 x)]) [11, 10, 0, 1] (by kernel_rfl) ?_
  refine ops_call (σ := Unit) (d := some 12) (f := 82) (args := #[.int .i64 y]) (v := fun _ => .int .i64 (min (max y (-1099511627776)) 1099511627776)) (M' := fun _ => Mem w []) ⟨by kernel_rfl⟩ (fun w_ hM hS => (Clamp_calls y w_).mono (by rintro e w' ⟨rfl, hb⟩; exact ⟨(), rfl, hM.step hb, trivial⟩)) (fun _ => ?_)
  refine ops_run (is := []) (r := [(4, false), (5, false)]) (l' := [(12, .int .i64 (min (max y (-1099511627776)) 1099511627776)), (10, .int .i64 u), (0, .int .i64 y), (1, .int .i64 x)]) [12, 10, 0, 1] (by kernel_rfl) ?_
  refine ops_conv (l' := [(12, .int .i64 v), (10, .int .i64 u), (0, .int .i64 y), (1, .int .i64 x)]) (by rw [hv]) (fun _ h => h) ?_
  refine ops_run (is := [(4, false), (5, false)]) (r := []) (l' := [(0, .int .i64 v), (1, .int .i64 u)]) [0, 1] (by kernel_rfl) ?_
  refine ops_nil ?_
  refine fin_then ?_
  refine st_seq ?_
  refine st_region [(0, false)] (by rfl) ?_
  refine ops_run (is := [(0, false)]) (r := []) (l' := [(5, .int .i64 0), (0, .int .i64 v), (1, .int .i64 u)]) [5, 0, 1] (by kernel_rfl) ?_
  refine ops_nil ?_
  refine fin_then ?_
  refine st_seq ?_
  refine st_block ?_
  refine st_seq ?_
  refine st_region [(0, false), (1, false), (2, false), (3, false), (4, false), (5, false), (6, false)] (by rfl) ?_
  refine ops_run (is := [(0, false), (1, false), (2, false)]) (r := [(3, false), (4, false), (5, false), (6, false)]) (l' := [(19, .bool (u == 0)), (5, .int .i64 0), (0, .int .i64 v), (1, .int .i64 u)]) [19, 5, 0, 1] (by kernel_rfl) ?_
  refine ops_conv (l' := [(19, .bool false), (5, .int .i64 0), (0, .int .i64 v), (1, .int .i64 u)]) (by rw [hkn0]) (fun _ h => h) ?_
  refine ops_run (is := [(3, false), (4, false), (5, false), (6, false)]) (r := []) (l' := [(16, .bool false), (5, .int .i64 0), (0, .int .i64 v), (1, .int .i64 u)]) [16, 5, 0, 1] (by kernel_rfl) ?_
  refine ops_nil ?_
  refine fin_then ?_
  refine st_false rfl ?_
  refine st_seq ?_
  refine st_region [(0, false), (1, false), (2, false), (3, false), (4, false), (5, false), (6, false)] (by rfl) ?_
  refine ops_run (is := [(0, false), (1, false), (2, false)]) (r := [(3, false), (4, false), (5, false), (6, false)]) (l' := [(26, .bool (decide (0 < u))), (5, .int .i64 0), (0, .int .i64 v), (1, .int .i64 u)]) [26, 5, 0, 1] (by kernel_rfl) ?_
  refine ops_conv (l' := [(26, .bool true), (5, .int .i64 0), (0, .int .i64 v), (1, .int .i64 u)]) (by rw [hkn1]) (fun _ h => h) ?_
  refine ops_run (is := [(3, false), (4, false), (5, false), (6, false)]) (r := []) (l' := [(23, .bool (decide (0 ≤ v))), (5, .int .i64 0), (0, .int .i64 v), (1, .int .i64 u)]) [23, 5, 0, 1] (by kernel_rfl) ?_
  refine ops_nil ?_
  refine fin_then ?_
  refine st_conv (l' := [(23, .bool true), (5, .int .i64 0), (0, .int .i64 v), (1, .int .i64 u)]) (by rw [hkn2]) (fun _ h => h) ?_
  refine st_true rfl ?_
  refine st_skip ?_
  refine fin_block ?_
  refine fin_then ?_
  refine st_seq ?_
  refine st_region [(0, false), (1, false)] (by rfl) ?_
  refine ops_run (is := [(0, false), (1, false)]) (r := []) (l' := [(7, .int .i64 16384), (6, .int .i64 0), (5, .int .i64 0), (0, .int .i64 v), (1, .int .i64 u)]) [7, 6, 5, 0, 1] (by kernel_rfl) ?_
  refine ops_nil ?_
  refine fin_then ?_
  refine st_seq ?_
  refine st_block ?_
  have hX : 0 < u := by omega
  have hY : 0 ≤ v := by omega
  have hX1 : u ≤ 1099511627776 := by omega
  have hY1 : v ≤ 1099511627776 := by omega
  refine st_loop (σ := Nat × Nat) (0, 16384) (fun x_ => match x_ with | (lo, hi) => [(7, .int .i64 (hi : Int)), (6, .int .i64 (lo : Int)), (5, .int .i64 0), (0, .int .i64 v), (1, .int .i64 u)]) (fun x_ => match x_ with | (lo, hi) => Mem w []) (fun x_ => match x_ with | (lo, hi) => lo < hi ∧ hi ≤ 16384 ∧ Not u v lo ∧ (hi = 16384 ∨ ¬ Not u v hi)) (fun x_ => match x_ with | (lo, hi) => hi - lo) (by exact ⟨by decide, Nat.le_refl _, not_zero hX hY, .inl rfl⟩) (look_has ⟨rfl, rfl, rfl, rfl, rfl, trivial⟩) (fun w_ hM => by exact hM) ?_
  rintro ⟨lo, hi⟩ hI
  obtain ⟨hlh, hh1, hlo, hhi⟩ := hI
  have hlh : lo < hi := hlh
  have hh1 : hi ≤ 16384 := hh1
  have hlo : Not u v lo := hlo
  have hhi : hi = 16384 ∨ ¬ Not u v hi := hhi
  have hl1 : IntKind.i64.wrap ((lo : Int) + 1) = ((lo + 1 : Nat) : Int) := by rw [i64in (by omega) (by omega)]; omega
  refine st_seq ?_
  refine st_seq ?_
  refine st_region [(0, false), (1, false), (2, false), (3, false)] (by rfl) ?_
  refine ops_run (is := [(0, false), (1, false)]) (r := [(2, false), (3, false)]) (l' := [(48, .int .i64 (IntKind.i64.wrap ((lo : Int) + 1))), (7, .int .i64 (hi : Int)), (6, .int .i64 (lo : Int)), (5, .int .i64 0), (0, .int .i64 v), (1, .int .i64 u)]) [48, 7, 6, 5, 0, 1] (by kernel_rfl) ?_
  refine ops_conv (l' := [(48, .int .i64 ((lo + 1 : Nat) : Int)), (7, .int .i64 (hi : Int)), (6, .int .i64 (lo : Int)), (5, .int .i64 0), (0, .int .i64 v), (1, .int .i64 u)]) (by rw [hl1]) (fun _ h => h) ?_
  refine ops_run (is := [(2, false), (3, false)]) (r := []) (l' := [(50, .bool (decide (((lo + 1 : Nat) : Int) < (hi : Int)))), (7, .int .i64 (hi : Int)), (6, .int .i64 (lo : Int)), (5, .int .i64 0), (0, .int .i64 v), (1, .int .i64 u)]) [50, 7, 6, 5, 0, 1] (by kernel_rfl) ?_
  refine ops_nil ?_
  refine fin_then ?_
  refine st_if (b := decide (((lo + 1 : Nat) : Int) < (hi : Int))) rfl (fun hc1 => ?_) (fun hc1 => ?_)
  · --
    have hlt : lo + 1 < hi := by have := of_decide_eq_true hc1; omega
    have hl2 : IntKind.i64.wrap ((lo : Int) + (hi : Int)) = ((lo + hi : Nat) : Int) := by rw [i64in (by omega) (by omega)]; omega
    have hl3 : IntKind.i64.wrap (Int.tdiv ((lo + hi : Nat) : Int) 2) = ((((lo + hi) / 2) : Nat) : Int) := by rw [Int.tdiv_eq_ediv_of_nonneg (by omega), i64in (by omega) (by omega)]; omega
    have hq1 := prod_ok (a := 16384 - ((lo + hi) / 2)) (y := v) (by omega) hY hY1
    have hq2 := prod_ok (a := ((lo + hi) / 2)) (y := u) (by omega) (by omega) hX1
    have hp1 : IntKind.i64.wrap (firstV (16384 - ((lo + hi) / 2)) * v) = firstV (16384 - ((lo + hi) / 2)) * v := i64in (by omega) (by omega)
    have hp2 : IntKind.i64.wrap (firstV ((lo + hi) / 2) * u) = firstV ((lo + hi) / 2) * u := i64in (by omega) (by omega)
    refine st_skip ?_
    refine fin_then ?_
    refine st_block ?_
    refine st_seq ?_
    refine st_region [(0, false), (1, false), (2, false), (3, false), (4, false)] (by rfl) ?_
    refine ops_run (is := [(0, false), (1, false), (2, false)]) (r := [(3, false), (4, false)]) (l' := [(53, .int .i64 (IntKind.i64.wrap ((lo : Int) + (hi : Int)))), (7, .int .i64 (hi : Int)), (6, .int .i64 (lo : Int)), (5, .int .i64 0), (0, .int .i64 v), (1, .int .i64 u)]) [53, 7, 6, 5, 0, 1] (by kernel_rfl) ?_
    refine ops_conv (l' := [(53, .int .i64 ((lo + hi : Nat) : Int)), (7, .int .i64 (hi : Int)), (6, .int .i64 (lo : Int)), (5, .int .i64 0), (0, .int .i64 v), (1, .int .i64 u)]) (by rw [hl2]) (fun _ h => h) ?_
    refine ops_run (is := [(3, false)]) (r := [(4, false)]) (l' := [(54, .int .i64 (IntKind.i64.wrap (Int.tdiv ((lo + hi : Nat) : Int) 2))), (7, .int .i64 (hi : Int)), (6, .int .i64 (lo : Int)), (5, .int .i64 0), (0, .int .i64 v), (1, .int .i64 u)]) [54, 7, 6, 5, 0, 1] (by kernel_rfl) ?_
    refine ops_conv (l' := [(54, .int .i64 ((((lo + hi) / 2) : Nat) : Int)), (7, .int .i64 (hi : Int)), (6, .int .i64 (lo : Int)), (5, .int .i64 0), (0, .int .i64 v), (1, .int .i64 u)]) (by rw [hl3]) (fun _ h => h) ?_
    refine ops_run (is := [(4, false)]) (r := []) (l' := [(8, .int .i64 ((((lo + hi) / 2) : Nat) : Int)), (7, .int .i64 (hi : Int)), (6, .int .i64 (lo : Int)), (5, .int .i64 0), (0, .int .i64 v), (1, .int .i64 u)]) [8, 7, 6, 5, 0, 1] (by kernel_rfl) ?_
    refine ops_nil ?_
    refine fin_then ?_
    refine st_seq ?_
    refine st_region [(0, false), (1, false), (2, false), (3, false), (4, false), (5, false), (6, false), (7, false), (8, false)] (by rfl) ?_
    refine ops_run (is := [(0, false)]) (r := [(1, false), (2, false), (3, false), (4, false), (5, false), (6, false), (7, false), (8, false)]) (l' := [(55, .int .i64 ((((lo + hi) / 2) : Nat) : Int)), (8, .int .i64 ((((lo + hi) / 2) : Nat) : Int)), (7, .int .i64 (hi : Int)), (6, .int .i64 (lo : Int)), (5, .int .i64 0), (0, .int .i64 v), (1, .int .i64 u)]) [55, 8, 7, 6, 5, 0, 1] (by kernel_rfl) ?_
    refine ops_call (σ := Unit) (d := some 56) (f := 21) (args := #[.int .i64 ((((lo + hi) / 2) : Nat) : Int)]) (v := fun _ => .int .i64 (firstV (16384 - ((lo + hi) / 2)))) (M' := fun _ => Mem w []) ⟨by kernel_rfl⟩ (fun w_ hM hS => (Cos_q ((lo + hi) / 2) w_ (by omega)).mono (by rintro e w' ⟨rfl, hb⟩; exact ⟨(), rfl, hM.step hb, trivial⟩)) (fun _ => ?_)
    refine ops_run (is := [(2, false), (3, false)]) (r := [(4, false), (5, false), (6, false), (7, false), (8, false)]) (l' := [(58, .int .i64 (IntKind.i64.wrap (firstV (16384 - ((lo + hi) / 2)) * v))), (8, .int .i64 ((((lo + hi) / 2) : Nat) : Int)), (7, .int .i64 (hi : Int)), (6, .int .i64 (lo : Int)), (5, .int .i64 0), (0, .int .i64 v), (1, .int .i64 u)]) [58, 8, 7, 6, 5, 0, 1] (by kernel_rfl) ?_
    refine ops_conv (l' := [(58, .int .i64 (firstV (16384 - ((lo + hi) / 2)) * v)), (8, .int .i64 ((((lo + hi) / 2) : Nat) : Int)), (7, .int .i64 (hi : Int)), (6, .int .i64 (lo : Int)), (5, .int .i64 0), (0, .int .i64 v), (1, .int .i64 u)]) (by rw [hp1]) (fun _ h => h) ?_
    refine ops_run (is := [(4, false)]) (r := [(5, false), (6, false), (7, false), (8, false)]) (l' := [(59, .int .i64 ((((lo + hi) / 2) : Nat) : Int)), (58, .int .i64 (firstV (16384 - ((lo + hi) / 2)) * v)), (8, .int .i64 ((((lo + hi) / 2) : Nat) : Int)), (7, .int .i64 (hi : Int)), (6, .int .i64 (lo : Int)), (5, .int .i64 0), (0, .int .i64 v), (1, .int .i64 u)]) [59, 58, 8, 7, 6, 5, 0, 1] (by kernel_rfl) ?_
    refine ops_call (σ := Unit) (d := some 60) (f := 19) (args := #[.int .i64 ((((lo + hi) / 2) : Nat) : Int)]) (v := fun _ => .int .i64 (firstV ((lo + hi) / 2))) (M' := fun _ => Mem w []) ⟨by kernel_rfl⟩ (fun w_ hM hS => (Sin_q ((lo + hi) / 2) w_ (by omega)).mono (by rintro e w' ⟨rfl, hb⟩; exact ⟨(), rfl, hM.step hb, trivial⟩)) (fun _ => ?_)
    refine ops_run (is := [(6, false), (7, false)]) (r := [(8, false)]) (l' := [(62, .int .i64 (IntKind.i64.wrap (firstV ((lo + hi) / 2) * u))), (58, .int .i64 (firstV (16384 - ((lo + hi) / 2)) * v)), (8, .int .i64 ((((lo + hi) / 2) : Nat) : Int)), (7, .int .i64 (hi : Int)), (6, .int .i64 (lo : Int)), (5, .int .i64 0), (0, .int .i64 v), (1, .int .i64 u)]) [62, 58, 8, 7, 6, 5, 0, 1] (by kernel_rfl) ?_
    refine ops_conv (l' := [(62, .int .i64 (firstV ((lo + hi) / 2) * u)), (58, .int .i64 (firstV (16384 - ((lo + hi) / 2)) * v)), (8, .int .i64 ((((lo + hi) / 2) : Nat) : Int)), (7, .int .i64 (hi : Int)), (6, .int .i64 (lo : Int)), (5, .int .i64 0), (0, .int .i64 v), (1, .int .i64 u)]) (by rw [hp2]) (fun _ h => h) ?_
    refine ops_run (is := [(8, false)]) (r := []) (l' := [(63, .bool (decide ((firstV ((lo + hi) / 2) * u) ≤ (firstV (16384 - ((lo + hi) / 2)) * v)))), (8, .int .i64 ((((lo + hi) / 2) : Nat) : Int)), (7, .int .i64 (hi : Int)), (6, .int .i64 (lo : Int)), (5, .int .i64 0), (0, .int .i64 v), (1, .int .i64 u)]) [63, 8, 7, 6, 5, 0, 1] (by kernel_rfl) ?_
    refine ops_nil ?_
    refine fin_then ?_
    refine st_if (b := decide ((firstV ((lo + hi) / 2) * u) ≤ (firstV (16384 - ((lo + hi) / 2)) * v))) rfl (fun hc2 => ?_) (fun hc2 => ?_)
    · --
      refine st_region [(0, false), (1, false)] (by rfl) ?_
      refine ops_run (is := [(0, false), (1, false)]) (r := []) (l' := [(6, .int .i64 ((((lo + hi) / 2) : Nat) : Int)), (7, .int .i64 (hi : Int)), (5, .int .i64 0), (0, .int .i64 v), (1, .int .i64 u)]) [6, 7, 5, 0, 1] (by kernel_rfl) ?_
      refine ops_nil ?_
      refine fin_block ?_
      refine fin_round (((lo + hi) / 2), hi) (by exact ⟨show ((lo + hi) / 2) < hi by omega, show hi ≤ 16384 by omega, of_decide_eq_true hc2, hhi⟩) (by (show hi - ((lo + hi) / 2) < hi - lo; omega)) (look_has ⟨rfl, rfl, rfl, rfl, rfl, trivial⟩) (fun w_ hM => by exact hM)
    · --
      refine st_region [(0, false), (1, false)] (by rfl) ?_
      refine ops_run (is := [(0, false), (1, false)]) (r := []) (l' := [(7, .int .i64 ((((lo + hi) / 2) : Nat) : Int)), (6, .int .i64 (lo : Int)), (5, .int .i64 0), (0, .int .i64 v), (1, .int .i64 u)]) [7, 6, 5, 0, 1] (by kernel_rfl) ?_
      refine ops_nil ?_
      refine fin_block ?_
      refine fin_round (lo, ((lo + hi) / 2)) (by exact ⟨show lo < ((lo + hi) / 2) by omega, show ((lo + hi) / 2) ≤ 16384 by omega, hlo, .inr (of_decide_eq_false hc2)⟩) (by (show ((lo + hi) / 2) - lo < hi - lo; omega)) (look_has ⟨rfl, rfl, rfl, rfl, rfl, trivial⟩) (fun w_ hM => by exact hM)
  · --
    have hend : lo + 1 = hi := by have := of_decide_eq_false hc1; omega
    refine st_exit ?_
    refine fin_exit_then ?_
    refine fin_exit_then ?_
    refine fin_exit ?_
    refine fin_then ?_
    refine st_seq ?_
    refine st_region [(0, false), (1, false), (2, false), (3, false), (4, false)] (by rfl) ?_
    refine ops_run (is := [(0, false), (1, false), (2, false), (3, false)]) (r := [(4, false)]) (l' := [(69, .int .i64 (IntKind.i64.wrap (0 + (lo : Int))))]) [69] (by kernel_rfl) ?_
    refine ops_conv (l' := [(69, .int .i64 (0 + (lo : Int)))]) (by rw [(i64in (x := 0 + (lo : Int)) (by omega) (by omega))]) (fun _ h => h) ?_
    refine ops_run (is := [(4, false)]) (r := []) (l' := [(4, .int .i64 (0 + (lo : Int)))]) [4] (by kernel_rfl) ?_
    refine ops_nil ?_
    refine fin_then ?_
    refine st_ret ?_
    refine fin_ret [.tmp 4] [.int .i64 (0 + (lo : Int))] rfl rfl (fun w_ hM => (.tmp rfl .nil)) (fun w_ hM => ?_)
    refine ⟨?_, hM.done⟩
    have z := ang_eq hX hY hlo (by omega) (by rcases hhi with h | h; (left; omega); right; rw [hend]; exact h)
    rw [← z]
    first | rfl | (simp only [theOne]; congr 2; omega)
set_option maxHeartbeats 4000000 in
set_option maxRecDepth 100000 in
theorem Atan_1 (y x u v : Int) (w : World) (hu : min (max x (-1099511627776)) 1099511627776 = u) (hv : min (max y (-1099511627776)) 1099511627776 = v) (hq : u < 0 ∧ 0 < v) : Calls Try.prog 73 #[.int .i64 y, .int .i64 x] w fun e w' => e = .returned (.int .i64 (16384 + ang v (0 - u))) ∧ Below w.heap.size w w' := by
  have hu0 : -1099511627776 ≤ u ∧ u ≤ 1099511627776 := by omega
  have hv0 : -1099511627776 ≤ v ∧ v ≤ 1099511627776 := by omega
  have hkn0 : (u == 0) = false := by simp; omega
  have hkn1 : (v == 0) = false := by simp; omega
  have hkn2 : decide (0 < u) = false := by simp; omega
  have hkn3 : decide (u ≤ 0) = true := by simp; omega
  have hkn4 : decide (0 < v) = true := by simp; omega
  refine sx_calls Try.func73 rfl (n := 70) (by kernel_rfl) (l := [(0, .int .i64 y), (1, .int .i64 x)]) rfl (by rfl) (Mem.nil w) ?_
  refine st_seq ?_
  refine st_region [(0, false)] (by rfl) ?_
  refine ops_run (is := [(0, false)]) (r := []) (l' := [(0, .int .i64 y), (1, .int .i64 x)]) [0, 1] (by kernel_rfl) ?_
  refine ops_nil ?_
  refine fin_then ?_
  refine st_seq ?_
  refine st_region [(0, false), (1, false), (2, false), (3, false), (4, false), (5, false)] (by rfl) ?_
  refine ops_run (is := [(0, false)]) (r := [(1, false), (2, false), (3, false), (4, false), (5, false)]) (l' := [(9, .int .i64 x), (0, .int .i64 y), (1, .int .i64 x)]) [9, 0, 1] (by kernel_rfl) ?_
  refine ops_call (σ := Unit) (d := some 10) (f := 82) (args := #[.int .i64 x]) (v := fun _ => .int .i64 (min (max x (-1099511627776)) 1099511627776)) (M' := fun _ => Mem w []) ⟨by kernel_rfl⟩ (fun w_ hM hS => (Clamp_calls x w_).mono (by rintro e w' ⟨rfl, hb⟩; exact ⟨(), rfl, hM.step hb, trivial⟩)) (fun _ => ?_)
  refine ops_run (is := []) (r := [(2, false), (3, false), (4, false), (5, false)]) (l' := [(10, .int .i64 (min (max x (-1099511627776)) 1099511627776)), (0, .int .i64 y), (1, .int .i64 x)]) [10, 0, 1] (by kernel_rfl) ?_
  refine ops_conv (l' := [(10, .int .i64 u), (0, .int .i64 y), (1, .int .i64 x)]) (by rw [hu]) (fun _ h => h) ?_
  refine ops_run (is := [(2, false)]) (r := [(3, false), (4, false), (5, false)]) (l' := [(11, .int .i64 y), (10, .int .i64 u), (0, .int .i64 y), (1, .int .i64 x)]) [11, 10, 0, 1] (by kernel_rfl) ?_
  refine ops_call (σ := Unit) (d := some 12) (f := 82) (args := #[.int .i64 y]) (v := fun _ => .int .i64 (min (max y (-1099511627776)) 1099511627776)) (M' := fun _ => Mem w []) ⟨by kernel_rfl⟩ (fun w_ hM hS => (Clamp_calls y w_).mono (by rintro e w' ⟨rfl, hb⟩; exact ⟨(), rfl, hM.step hb, trivial⟩)) (fun _ => ?_)
  refine ops_run (is := []) (r := [(4, false), (5, false)]) (l' := [(12, .int .i64 (min (max y (-1099511627776)) 1099511627776)), (10, .int .i64 u), (0, .int .i64 y), (1, .int .i64 x)]) [12, 10, 0, 1] (by kernel_rfl) ?_
  refine ops_conv (l' := [(12, .int .i64 v), (10, .int .i64 u), (0, .int .i64 y), (1, .int .i64 x)]) (by rw [hv]) (fun _ h => h) ?_
  refine ops_run (is := [(4, false), (5, false)]) (r := []) (l' := [(0, .int .i64 v), (1, .int .i64 u)]) [0, 1] (by kernel_rfl) ?_
  refine ops_nil ?_
  refine fin_then ?_
  refine st_seq ?_
  refine st_region [(0, false)] (by rfl) ?_
  refine ops_run (is := [(0, false)]) (r := []) (l' := [(5, .int .i64 0), (0, .int .i64 v), (1, .int .i64 u)]) [5, 0, 1] (by kernel_rfl) ?_
  refine ops_nil ?_
  refine fin_then ?_
  refine st_seq ?_
  refine st_block ?_
  refine st_seq ?_
  refine st_region [(0, false), (1, false), (2, false), (3, false), (4, false), (5, false), (6, false)] (by rfl) ?_
  refine ops_run (is := [(0, false), (1, false), (2, false)]) (r := [(3, false), (4, false), (5, false), (6, false)]) (l' := [(19, .bool (u == 0)), (5, .int .i64 0), (0, .int .i64 v), (1, .int .i64 u)]) [19, 5, 0, 1] (by kernel_rfl) ?_
  refine ops_conv (l' := [(19, .bool false), (5, .int .i64 0), (0, .int .i64 v), (1, .int .i64 u)]) (by rw [hkn0]) (fun _ h => h) ?_
  refine ops_run (is := [(3, false), (4, false), (5, false), (6, false)]) (r := []) (l' := [(16, .bool false), (5, .int .i64 0), (0, .int .i64 v), (1, .int .i64 u)]) [16, 5, 0, 1] (by kernel_rfl) ?_
  refine ops_nil ?_
  refine fin_then ?_
  refine st_false rfl ?_
  refine st_seq ?_
  refine st_region [(0, false), (1, false), (2, false), (3, false), (4, false), (5, false), (6, false)] (by rfl) ?_
  refine ops_run (is := [(0, false), (1, false), (2, false)]) (r := [(3, false), (4, false), (5, false), (6, false)]) (l' := [(26, .bool (decide (0 < u))), (5, .int .i64 0), (0, .int .i64 v), (1, .int .i64 u)]) [26, 5, 0, 1] (by kernel_rfl) ?_
  refine ops_conv (l' := [(26, .bool false), (5, .int .i64 0), (0, .int .i64 v), (1, .int .i64 u)]) (by rw [hkn2]) (fun _ h => h) ?_
  refine ops_run (is := [(3, false), (4, false), (5, false), (6, false)]) (r := []) (l' := [(23, .bool false), (5, .int .i64 0), (0, .int .i64 v), (1, .int .i64 u)]) [23, 5, 0, 1] (by kernel_rfl) ?_
  refine ops_nil ?_
  refine fin_then ?_
  refine st_false rfl ?_
  refine st_seq ?_
  refine st_region [(0, false), (1, false), (2, false), (3, false), (4, false), (5, false), (6, false)] (by rfl) ?_
  refine ops_run (is := [(0, false), (1, false), (2, false)]) (r := [(3, false), (4, false), (5, false), (6, false)]) (l' := [(33, .bool (decide (u ≤ 0))), (0, .int .i64 v), (1, .int .i64 u)]) [33, 0, 1] (by kernel_rfl) ?_
  refine ops_conv (l' := [(33, .bool true), (0, .int .i64 v), (1, .int .i64 u)]) (by rw [hkn3]) (fun _ h => h) ?_
  refine ops_run (is := [(3, false), (4, false), (5, false), (6, false)]) (r := []) (l' := [(30, .bool (decide (0 < v))), (0, .int .i64 v), (1, .int .i64 u)]) [30, 0, 1] (by kernel_rfl) ?_
  refine ops_nil ?_
  refine fin_then ?_
  refine st_conv (l' := [(30, .bool true), (0, .int .i64 v), (1, .int .i64 u)]) (by rw [hkn4]) (fun _ h => h) ?_
  refine st_true rfl ?_
  refine st_region [(0, false), (1, false), (2, false), (3, false), (4, false), (5, false)] (by rfl) ?_
  refine ops_run (is := [(0, false), (1, false), (2, false)]) (r := [(3, false), (4, false), (5, false)]) (l' := [(39, .int .i64 (IntKind.i64.wrap (0 - u))), (37, .int .i64 v), (0, .int .i64 v), (1, .int .i64 u)]) [39, 37, 0, 1] (by kernel_rfl) ?_
  refine ops_conv (l' := [(39, .int .i64 (0 - u)), (37, .int .i64 v), (0, .int .i64 v), (1, .int .i64 u)]) (by rw [(i64in (x := 0 - u) (by omega) (by omega))]) (fun _ h => h) ?_
  refine ops_run (is := [(3, false), (4, false), (5, false)]) (r := []) (l' := [(0, .int .i64 (0 - u)), (1, .int .i64 v), (5, .int .i64 1)]) [0, 1, 5] (by kernel_rfl) ?_
  refine ops_nil ?_
  refine fin_block ?_
  refine fin_then ?_
  refine st_seq ?_
  refine st_region [(0, false), (1, false)] (by rfl) ?_
  refine ops_run (is := [(0, false), (1, false)]) (r := []) (l' := [(7, .int .i64 16384), (6, .int .i64 0), (0, .int .i64 (0 - u)), (1, .int .i64 v), (5, .int .i64 1)]) [7, 6, 0, 1, 5] (by kernel_rfl) ?_
  refine ops_nil ?_
  refine fin_then ?_
  refine st_seq ?_
  refine st_block ?_
  have hX : 0 < v := by omega
  have hY : 0 ≤ (0 - u) := by omega
  have hX1 : v ≤ 1099511627776 := by omega
  have hY1 : (0 - u) ≤ 1099511627776 := by omega
  refine st_loop (σ := Nat × Nat) (0, 16384) (fun x_ => match x_ with | (lo, hi) => [(7, .int .i64 (hi : Int)), (6, .int .i64 (lo : Int)), (0, .int .i64 (0 - u)), (1, .int .i64 v), (5, .int .i64 1)]) (fun x_ => match x_ with | (lo, hi) => Mem w []) (fun x_ => match x_ with | (lo, hi) => lo < hi ∧ hi ≤ 16384 ∧ Not v (0 - u) lo ∧ (hi = 16384 ∨ ¬ Not v (0 - u) hi)) (fun x_ => match x_ with | (lo, hi) => hi - lo) (by exact ⟨by decide, Nat.le_refl _, not_zero hX hY, .inl rfl⟩) (look_has ⟨rfl, rfl, rfl, rfl, rfl, trivial⟩) (fun w_ hM => by exact hM) ?_
  rintro ⟨lo, hi⟩ hI
  obtain ⟨hlh, hh1, hlo, hhi⟩ := hI
  have hlh : lo < hi := hlh
  have hh1 : hi ≤ 16384 := hh1
  have hlo : Not v (0 - u) lo := hlo
  have hhi : hi = 16384 ∨ ¬ Not v (0 - u) hi := hhi
  have hl1 : IntKind.i64.wrap ((lo : Int) + 1) = ((lo + 1 : Nat) : Int) := by rw [i64in (by omega) (by omega)]; omega
  refine st_seq ?_
  refine st_seq ?_
  refine st_region [(0, false), (1, false), (2, false), (3, false)] (by rfl) ?_
  refine ops_run (is := [(0, false), (1, false)]) (r := [(2, false), (3, false)]) (l' := [(48, .int .i64 (IntKind.i64.wrap ((lo : Int) + 1))), (7, .int .i64 (hi : Int)), (6, .int .i64 (lo : Int)), (0, .int .i64 (0 - u)), (1, .int .i64 v), (5, .int .i64 1)]) [48, 7, 6, 0, 1, 5] (by kernel_rfl) ?_
  refine ops_conv (l' := [(48, .int .i64 ((lo + 1 : Nat) : Int)), (7, .int .i64 (hi : Int)), (6, .int .i64 (lo : Int)), (0, .int .i64 (0 - u)), (1, .int .i64 v), (5, .int .i64 1)]) (by rw [hl1]) (fun _ h => h) ?_
  refine ops_run (is := [(2, false), (3, false)]) (r := []) (l' := [(50, .bool (decide (((lo + 1 : Nat) : Int) < (hi : Int)))), (7, .int .i64 (hi : Int)), (6, .int .i64 (lo : Int)), (0, .int .i64 (0 - u)), (1, .int .i64 v), (5, .int .i64 1)]) [50, 7, 6, 0, 1, 5] (by kernel_rfl) ?_
  refine ops_nil ?_
  refine fin_then ?_
  refine st_if (b := decide (((lo + 1 : Nat) : Int) < (hi : Int))) rfl (fun hc1 => ?_) (fun hc1 => ?_)
  · --
    have hlt : lo + 1 < hi := by have := of_decide_eq_true hc1; omega
    have hl2 : IntKind.i64.wrap ((lo : Int) + (hi : Int)) = ((lo + hi : Nat) : Int) := by rw [i64in (by omega) (by omega)]; omega
    have hl3 : IntKind.i64.wrap (Int.tdiv ((lo + hi : Nat) : Int) 2) = ((((lo + hi) / 2) : Nat) : Int) := by rw [Int.tdiv_eq_ediv_of_nonneg (by omega), i64in (by omega) (by omega)]; omega
    have hq1 := prod_ok (a := 16384 - ((lo + hi) / 2)) (y := (0 - u)) (by omega) hY hY1
    have hq2 := prod_ok (a := ((lo + hi) / 2)) (y := v) (by omega) (by omega) hX1
    have hp1 : IntKind.i64.wrap (firstV (16384 - ((lo + hi) / 2)) * (0 - u)) = firstV (16384 - ((lo + hi) / 2)) * (0 - u) := i64in (by omega) (by omega)
    have hp2 : IntKind.i64.wrap (firstV ((lo + hi) / 2) * v) = firstV ((lo + hi) / 2) * v := i64in (by omega) (by omega)
    refine st_skip ?_
    refine fin_then ?_
    refine st_block ?_
    refine st_seq ?_
    refine st_region [(0, false), (1, false), (2, false), (3, false), (4, false)] (by rfl) ?_
    refine ops_run (is := [(0, false), (1, false), (2, false)]) (r := [(3, false), (4, false)]) (l' := [(53, .int .i64 (IntKind.i64.wrap ((lo : Int) + (hi : Int)))), (7, .int .i64 (hi : Int)), (6, .int .i64 (lo : Int)), (0, .int .i64 (0 - u)), (1, .int .i64 v), (5, .int .i64 1)]) [53, 7, 6, 0, 1, 5] (by kernel_rfl) ?_
    refine ops_conv (l' := [(53, .int .i64 ((lo + hi : Nat) : Int)), (7, .int .i64 (hi : Int)), (6, .int .i64 (lo : Int)), (0, .int .i64 (0 - u)), (1, .int .i64 v), (5, .int .i64 1)]) (by rw [hl2]) (fun _ h => h) ?_
    refine ops_run (is := [(3, false)]) (r := [(4, false)]) (l' := [(54, .int .i64 (IntKind.i64.wrap (Int.tdiv ((lo + hi : Nat) : Int) 2))), (7, .int .i64 (hi : Int)), (6, .int .i64 (lo : Int)), (0, .int .i64 (0 - u)), (1, .int .i64 v), (5, .int .i64 1)]) [54, 7, 6, 0, 1, 5] (by kernel_rfl) ?_
    refine ops_conv (l' := [(54, .int .i64 ((((lo + hi) / 2) : Nat) : Int)), (7, .int .i64 (hi : Int)), (6, .int .i64 (lo : Int)), (0, .int .i64 (0 - u)), (1, .int .i64 v), (5, .int .i64 1)]) (by rw [hl3]) (fun _ h => h) ?_
    refine ops_run (is := [(4, false)]) (r := []) (l' := [(8, .int .i64 ((((lo + hi) / 2) : Nat) : Int)), (7, .int .i64 (hi : Int)), (6, .int .i64 (lo : Int)), (0, .int .i64 (0 - u)), (1, .int .i64 v), (5, .int .i64 1)]) [8, 7, 6, 0, 1, 5] (by kernel_rfl) ?_
    refine ops_nil ?_
    refine fin_then ?_
    refine st_seq ?_
    refine st_region [(0, false), (1, false), (2, false), (3, false), (4, false), (5, false), (6, false), (7, false), (8, false)] (by rfl) ?_
    refine ops_run (is := [(0, false)]) (r := [(1, false), (2, false), (3, false), (4, false), (5, false), (6, false), (7, false), (8, false)]) (l' := [(55, .int .i64 ((((lo + hi) / 2) : Nat) : Int)), (8, .int .i64 ((((lo + hi) / 2) : Nat) : Int)), (7, .int .i64 (hi : Int)), (6, .int .i64 (lo : Int)), (0, .int .i64 (0 - u)), (1, .int .i64 v), (5, .int .i64 1)]) [55, 8, 7, 6, 0, 1, 5] (by kernel_rfl) ?_
    refine ops_call (σ := Unit) (d := some 56) (f := 21) (args := #[.int .i64 ((((lo + hi) / 2) : Nat) : Int)]) (v := fun _ => .int .i64 (firstV (16384 - ((lo + hi) / 2)))) (M' := fun _ => Mem w []) ⟨by kernel_rfl⟩ (fun w_ hM hS => (Cos_q ((lo + hi) / 2) w_ (by omega)).mono (by rintro e w' ⟨rfl, hb⟩; exact ⟨(), rfl, hM.step hb, trivial⟩)) (fun _ => ?_)
    refine ops_run (is := [(2, false), (3, false)]) (r := [(4, false), (5, false), (6, false), (7, false), (8, false)]) (l' := [(58, .int .i64 (IntKind.i64.wrap (firstV (16384 - ((lo + hi) / 2)) * (0 - u)))), (8, .int .i64 ((((lo + hi) / 2) : Nat) : Int)), (7, .int .i64 (hi : Int)), (6, .int .i64 (lo : Int)), (0, .int .i64 (0 - u)), (1, .int .i64 v), (5, .int .i64 1)]) [58, 8, 7, 6, 0, 1, 5] (by kernel_rfl) ?_
    refine ops_conv (l' := [(58, .int .i64 (firstV (16384 - ((lo + hi) / 2)) * (0 - u))), (8, .int .i64 ((((lo + hi) / 2) : Nat) : Int)), (7, .int .i64 (hi : Int)), (6, .int .i64 (lo : Int)), (0, .int .i64 (0 - u)), (1, .int .i64 v), (5, .int .i64 1)]) (by rw [hp1]) (fun _ h => h) ?_
    refine ops_run (is := [(4, false)]) (r := [(5, false), (6, false), (7, false), (8, false)]) (l' := [(59, .int .i64 ((((lo + hi) / 2) : Nat) : Int)), (58, .int .i64 (firstV (16384 - ((lo + hi) / 2)) * (0 - u))), (8, .int .i64 ((((lo + hi) / 2) : Nat) : Int)), (7, .int .i64 (hi : Int)), (6, .int .i64 (lo : Int)), (0, .int .i64 (0 - u)), (1, .int .i64 v), (5, .int .i64 1)]) [59, 58, 8, 7, 6, 0, 1, 5] (by kernel_rfl) ?_
    refine ops_call (σ := Unit) (d := some 60) (f := 19) (args := #[.int .i64 ((((lo + hi) / 2) : Nat) : Int)]) (v := fun _ => .int .i64 (firstV ((lo + hi) / 2))) (M' := fun _ => Mem w []) ⟨by kernel_rfl⟩ (fun w_ hM hS => (Sin_q ((lo + hi) / 2) w_ (by omega)).mono (by rintro e w' ⟨rfl, hb⟩; exact ⟨(), rfl, hM.step hb, trivial⟩)) (fun _ => ?_)
    refine ops_run (is := [(6, false), (7, false)]) (r := [(8, false)]) (l' := [(62, .int .i64 (IntKind.i64.wrap (firstV ((lo + hi) / 2) * v))), (58, .int .i64 (firstV (16384 - ((lo + hi) / 2)) * (0 - u))), (8, .int .i64 ((((lo + hi) / 2) : Nat) : Int)), (7, .int .i64 (hi : Int)), (6, .int .i64 (lo : Int)), (0, .int .i64 (0 - u)), (1, .int .i64 v), (5, .int .i64 1)]) [62, 58, 8, 7, 6, 0, 1, 5] (by kernel_rfl) ?_
    refine ops_conv (l' := [(62, .int .i64 (firstV ((lo + hi) / 2) * v)), (58, .int .i64 (firstV (16384 - ((lo + hi) / 2)) * (0 - u))), (8, .int .i64 ((((lo + hi) / 2) : Nat) : Int)), (7, .int .i64 (hi : Int)), (6, .int .i64 (lo : Int)), (0, .int .i64 (0 - u)), (1, .int .i64 v), (5, .int .i64 1)]) (by rw [hp2]) (fun _ h => h) ?_
    refine ops_run (is := [(8, false)]) (r := []) (l' := [(63, .bool (decide ((firstV ((lo + hi) / 2) * v) ≤ (firstV (16384 - ((lo + hi) / 2)) * (0 - u))))), (8, .int .i64 ((((lo + hi) / 2) : Nat) : Int)), (7, .int .i64 (hi : Int)), (6, .int .i64 (lo : Int)), (0, .int .i64 (0 - u)), (1, .int .i64 v), (5, .int .i64 1)]) [63, 8, 7, 6, 0, 1, 5] (by kernel_rfl) ?_
    refine ops_nil ?_
    refine fin_then ?_
    refine st_if (b := decide ((firstV ((lo + hi) / 2) * v) ≤ (firstV (16384 - ((lo + hi) / 2)) * (0 - u)))) rfl (fun hc2 => ?_) (fun hc2 => ?_)
    · --
      refine st_region [(0, false), (1, false)] (by rfl) ?_
      refine ops_run (is := [(0, false), (1, false)]) (r := []) (l' := [(6, .int .i64 ((((lo + hi) / 2) : Nat) : Int)), (7, .int .i64 (hi : Int)), (0, .int .i64 (0 - u)), (1, .int .i64 v), (5, .int .i64 1)]) [6, 7, 0, 1, 5] (by kernel_rfl) ?_
      refine ops_nil ?_
      refine fin_block ?_
      refine fin_round (((lo + hi) / 2), hi) (by exact ⟨show ((lo + hi) / 2) < hi by omega, show hi ≤ 16384 by omega, of_decide_eq_true hc2, hhi⟩) (by (show hi - ((lo + hi) / 2) < hi - lo; omega)) (look_has ⟨rfl, rfl, rfl, rfl, rfl, trivial⟩) (fun w_ hM => by exact hM)
    · --
      refine st_region [(0, false), (1, false)] (by rfl) ?_
      refine ops_run (is := [(0, false), (1, false)]) (r := []) (l' := [(7, .int .i64 ((((lo + hi) / 2) : Nat) : Int)), (6, .int .i64 (lo : Int)), (0, .int .i64 (0 - u)), (1, .int .i64 v), (5, .int .i64 1)]) [7, 6, 0, 1, 5] (by kernel_rfl) ?_
      refine ops_nil ?_
      refine fin_block ?_
      refine fin_round (lo, ((lo + hi) / 2)) (by exact ⟨show lo < ((lo + hi) / 2) by omega, show ((lo + hi) / 2) ≤ 16384 by omega, hlo, .inr (of_decide_eq_false hc2)⟩) (by (show ((lo + hi) / 2) - lo < hi - lo; omega)) (look_has ⟨rfl, rfl, rfl, rfl, rfl, trivial⟩) (fun w_ hM => by exact hM)
  · --
    have hend : lo + 1 = hi := by have := of_decide_eq_false hc1; omega
    refine st_exit ?_
    refine fin_exit_then ?_
    refine fin_exit_then ?_
    refine fin_exit ?_
    refine fin_then ?_
    refine st_seq ?_
    refine st_region [(0, false), (1, false), (2, false), (3, false), (4, false)] (by rfl) ?_
    refine ops_run (is := [(0, false), (1, false), (2, false), (3, false)]) (r := [(4, false)]) (l' := [(69, .int .i64 (IntKind.i64.wrap (16384 + (lo : Int))))]) [69] (by kernel_rfl) ?_
    refine ops_conv (l' := [(69, .int .i64 (16384 + (lo : Int)))]) (by rw [(i64in (x := 16384 + (lo : Int)) (by omega) (by omega))]) (fun _ h => h) ?_
    refine ops_run (is := [(4, false)]) (r := []) (l' := [(4, .int .i64 (16384 + (lo : Int)))]) [4] (by kernel_rfl) ?_
    refine ops_nil ?_
    refine fin_then ?_
    refine st_ret ?_
    refine fin_ret [.tmp 4] [.int .i64 (16384 + (lo : Int))] rfl rfl (fun w_ hM => (.tmp rfl .nil)) (fun w_ hM => ?_)
    refine ⟨?_, hM.done⟩
    have z := ang_eq hX hY hlo (by omega) (by rcases hhi with h | h; (left; omega); right; rw [hend]; exact h)
    rw [← z]
    first | rfl | (simp only [theOne]; congr 2; omega)
set_option maxHeartbeats 4000000 in
set_option maxRecDepth 100000 in
theorem Atan_1z (y x u v : Int) (w : World) (hu : min (max x (-1099511627776)) 1099511627776 = u) (hv : min (max y (-1099511627776)) 1099511627776 = v) (hq : u = 0 ∧ 0 < v) : Calls Try.prog 73 #[.int .i64 y, .int .i64 x] w fun e w' => e = .returned (.int .i64 (16384 + ang v (0 - u))) ∧ Below w.heap.size w w' := by
  have hu0 : -1099511627776 ≤ u ∧ u ≤ 1099511627776 := by omega
  have hv0 : -1099511627776 ≤ v ∧ v ≤ 1099511627776 := by omega
  have hkn0 : (u == 0) = true := by simp; omega
  have hkn1 : (v == 0) = false := by simp; omega
  have hkn2 : decide (0 < u) = false := by simp; omega
  have hkn3 : decide (u ≤ 0) = true := by simp; omega
  have hkn4 : decide (0 < v) = true := by simp; omega
  refine sx_calls Try.func73 rfl (n := 70) (by kernel_rfl) (l := [(0, .int .i64 y), (1, .int .i64 x)]) rfl (by rfl) (Mem.nil w) ?_
  refine st_seq ?_
  refine st_region [(0, false)] (by rfl) ?_
  refine ops_run (is := [(0, false)]) (r := []) (l' := [(0, .int .i64 y), (1, .int .i64 x)]) [0, 1] (by kernel_rfl) ?_
  refine ops_nil ?_
  refine fin_then ?_
  refine st_seq ?_
  refine st_region [(0, false), (1, false), (2, false), (3, false), (4, false), (5, false)] (by rfl) ?_
  refine ops_run (is := [(0, false)]) (r := [(1, false), (2, false), (3, false), (4, false), (5, false)]) (l' := [(9, .int .i64 x), (0, .int .i64 y), (1, .int .i64 x)]) [9, 0, 1] (by kernel_rfl) ?_
  refine ops_call (σ := Unit) (d := some 10) (f := 82) (args := #[.int .i64 x]) (v := fun _ => .int .i64 (min (max x (-1099511627776)) 1099511627776)) (M' := fun _ => Mem w []) ⟨by kernel_rfl⟩ (fun w_ hM hS => (Clamp_calls x w_).mono (by rintro e w' ⟨rfl, hb⟩; exact ⟨(), rfl, hM.step hb, trivial⟩)) (fun _ => ?_)
  refine ops_run (is := []) (r := [(2, false), (3, false), (4, false), (5, false)]) (l' := [(10, .int .i64 (min (max x (-1099511627776)) 1099511627776)), (0, .int .i64 y), (1, .int .i64 x)]) [10, 0, 1] (by kernel_rfl) ?_
  refine ops_conv (l' := [(10, .int .i64 u), (0, .int .i64 y), (1, .int .i64 x)]) (by rw [hu]) (fun _ h => h) ?_
  refine ops_run (is := [(2, false)]) (r := [(3, false), (4, false), (5, false)]) (l' := [(11, .int .i64 y), (10, .int .i64 u), (0, .int .i64 y), (1, .int .i64 x)]) [11, 10, 0, 1] (by kernel_rfl) ?_
  refine ops_call (σ := Unit) (d := some 12) (f := 82) (args := #[.int .i64 y]) (v := fun _ => .int .i64 (min (max y (-1099511627776)) 1099511627776)) (M' := fun _ => Mem w []) ⟨by kernel_rfl⟩ (fun w_ hM hS => (Clamp_calls y w_).mono (by rintro e w' ⟨rfl, hb⟩; exact ⟨(), rfl, hM.step hb, trivial⟩)) (fun _ => ?_)
  refine ops_run (is := []) (r := [(4, false), (5, false)]) (l' := [(12, .int .i64 (min (max y (-1099511627776)) 1099511627776)), (10, .int .i64 u), (0, .int .i64 y), (1, .int .i64 x)]) [12, 10, 0, 1] (by kernel_rfl) ?_
  refine ops_conv (l' := [(12, .int .i64 v), (10, .int .i64 u), (0, .int .i64 y), (1, .int .i64 x)]) (by rw [hv]) (fun _ h => h) ?_
  refine ops_run (is := [(4, false), (5, false)]) (r := []) (l' := [(0, .int .i64 v), (1, .int .i64 u)]) [0, 1] (by kernel_rfl) ?_
  refine ops_nil ?_
  refine fin_then ?_
  refine st_seq ?_
  refine st_region [(0, false)] (by rfl) ?_
  refine ops_run (is := [(0, false)]) (r := []) (l' := [(5, .int .i64 0), (0, .int .i64 v), (1, .int .i64 u)]) [5, 0, 1] (by kernel_rfl) ?_
  refine ops_nil ?_
  refine fin_then ?_
  refine st_seq ?_
  refine st_block ?_
  refine st_seq ?_
  refine st_region [(0, false), (1, false), (2, false), (3, false), (4, false), (5, false), (6, false)] (by rfl) ?_
  refine ops_run (is := [(0, false), (1, false), (2, false)]) (r := [(3, false), (4, false), (5, false), (6, false)]) (l' := [(19, .bool (u == 0)), (5, .int .i64 0), (0, .int .i64 v), (1, .int .i64 u)]) [19, 5, 0, 1] (by kernel_rfl) ?_
  refine ops_conv (l' := [(19, .bool true), (5, .int .i64 0), (0, .int .i64 v), (1, .int .i64 u)]) (by rw [hkn0]) (fun _ h => h) ?_
  refine ops_run (is := [(3, false), (4, false), (5, false), (6, false)]) (r := []) (l' := [(16, .bool (v == 0)), (5, .int .i64 0), (0, .int .i64 v), (1, .int .i64 u)]) [16, 5, 0, 1] (by kernel_rfl) ?_
  refine ops_nil ?_
  refine fin_then ?_
  refine st_conv (l' := [(16, .bool false), (5, .int .i64 0), (0, .int .i64 v), (1, .int .i64 u)]) (by rw [hkn1]) (fun _ h => h) ?_
  refine st_false rfl ?_
  refine st_seq ?_
  refine st_region [(0, false), (1, false), (2, false), (3, false), (4, false), (5, false), (6, false)] (by rfl) ?_
  refine ops_run (is := [(0, false), (1, false), (2, false)]) (r := [(3, false), (4, false), (5, false), (6, false)]) (l' := [(26, .bool (decide (0 < u))), (5, .int .i64 0), (0, .int .i64 v), (1, .int .i64 u)]) [26, 5, 0, 1] (by kernel_rfl) ?_
  refine ops_conv (l' := [(26, .bool false), (5, .int .i64 0), (0, .int .i64 v), (1, .int .i64 u)]) (by rw [hkn2]) (fun _ h => h) ?_
  refine ops_run (is := [(3, false), (4, false), (5, false), (6, false)]) (r := []) (l' := [(23, .bool false), (5, .int .i64 0), (0, .int .i64 v), (1, .int .i64 u)]) [23, 5, 0, 1] (by kernel_rfl) ?_
  refine ops_nil ?_
  refine fin_then ?_
  refine st_false rfl ?_
  refine st_seq ?_
  refine st_region [(0, false), (1, false), (2, false), (3, false), (4, false), (5, false), (6, false)] (by rfl) ?_
  refine ops_run (is := [(0, false), (1, false), (2, false)]) (r := [(3, false), (4, false), (5, false), (6, false)]) (l' := [(33, .bool (decide (u ≤ 0))), (0, .int .i64 v), (1, .int .i64 u)]) [33, 0, 1] (by kernel_rfl) ?_
  refine ops_conv (l' := [(33, .bool true), (0, .int .i64 v), (1, .int .i64 u)]) (by rw [hkn3]) (fun _ h => h) ?_
  refine ops_run (is := [(3, false), (4, false), (5, false), (6, false)]) (r := []) (l' := [(30, .bool (decide (0 < v))), (0, .int .i64 v), (1, .int .i64 u)]) [30, 0, 1] (by kernel_rfl) ?_
  refine ops_nil ?_
  refine fin_then ?_
  refine st_conv (l' := [(30, .bool true), (0, .int .i64 v), (1, .int .i64 u)]) (by rw [hkn4]) (fun _ h => h) ?_
  refine st_true rfl ?_
  refine st_region [(0, false), (1, false), (2, false), (3, false), (4, false), (5, false)] (by rfl) ?_
  refine ops_run (is := [(0, false), (1, false), (2, false)]) (r := [(3, false), (4, false), (5, false)]) (l' := [(39, .int .i64 (IntKind.i64.wrap (0 - u))), (37, .int .i64 v), (0, .int .i64 v), (1, .int .i64 u)]) [39, 37, 0, 1] (by kernel_rfl) ?_
  refine ops_conv (l' := [(39, .int .i64 (0 - u)), (37, .int .i64 v), (0, .int .i64 v), (1, .int .i64 u)]) (by rw [(i64in (x := 0 - u) (by omega) (by omega))]) (fun _ h => h) ?_
  refine ops_run (is := [(3, false), (4, false), (5, false)]) (r := []) (l' := [(0, .int .i64 (0 - u)), (1, .int .i64 v), (5, .int .i64 1)]) [0, 1, 5] (by kernel_rfl) ?_
  refine ops_nil ?_
  refine fin_block ?_
  refine fin_then ?_
  refine st_seq ?_
  refine st_region [(0, false), (1, false)] (by rfl) ?_
  refine ops_run (is := [(0, false), (1, false)]) (r := []) (l' := [(7, .int .i64 16384), (6, .int .i64 0), (0, .int .i64 (0 - u)), (1, .int .i64 v), (5, .int .i64 1)]) [7, 6, 0, 1, 5] (by kernel_rfl) ?_
  refine ops_nil ?_
  refine fin_then ?_
  refine st_seq ?_
  refine st_block ?_
  have hX : 0 < v := by omega
  have hY : 0 ≤ (0 - u) := by omega
  have hX1 : v ≤ 1099511627776 := by omega
  have hY1 : (0 - u) ≤ 1099511627776 := by omega
  refine st_loop (σ := Nat × Nat) (0, 16384) (fun x_ => match x_ with | (lo, hi) => [(7, .int .i64 (hi : Int)), (6, .int .i64 (lo : Int)), (0, .int .i64 (0 - u)), (1, .int .i64 v), (5, .int .i64 1)]) (fun x_ => match x_ with | (lo, hi) => Mem w []) (fun x_ => match x_ with | (lo, hi) => lo < hi ∧ hi ≤ 16384 ∧ Not v (0 - u) lo ∧ (hi = 16384 ∨ ¬ Not v (0 - u) hi)) (fun x_ => match x_ with | (lo, hi) => hi - lo) (by exact ⟨by decide, Nat.le_refl _, not_zero hX hY, .inl rfl⟩) (look_has ⟨rfl, rfl, rfl, rfl, rfl, trivial⟩) (fun w_ hM => by exact hM) ?_
  rintro ⟨lo, hi⟩ hI
  obtain ⟨hlh, hh1, hlo, hhi⟩ := hI
  have hlh : lo < hi := hlh
  have hh1 : hi ≤ 16384 := hh1
  have hlo : Not v (0 - u) lo := hlo
  have hhi : hi = 16384 ∨ ¬ Not v (0 - u) hi := hhi
  have hl1 : IntKind.i64.wrap ((lo : Int) + 1) = ((lo + 1 : Nat) : Int) := by rw [i64in (by omega) (by omega)]; omega
  refine st_seq ?_
  refine st_seq ?_
  refine st_region [(0, false), (1, false), (2, false), (3, false)] (by rfl) ?_
  refine ops_run (is := [(0, false), (1, false)]) (r := [(2, false), (3, false)]) (l' := [(48, .int .i64 (IntKind.i64.wrap ((lo : Int) + 1))), (7, .int .i64 (hi : Int)), (6, .int .i64 (lo : Int)), (0, .int .i64 (0 - u)), (1, .int .i64 v), (5, .int .i64 1)]) [48, 7, 6, 0, 1, 5] (by kernel_rfl) ?_
  refine ops_conv (l' := [(48, .int .i64 ((lo + 1 : Nat) : Int)), (7, .int .i64 (hi : Int)), (6, .int .i64 (lo : Int)), (0, .int .i64 (0 - u)), (1, .int .i64 v), (5, .int .i64 1)]) (by rw [hl1]) (fun _ h => h) ?_
  refine ops_run (is := [(2, false), (3, false)]) (r := []) (l' := [(50, .bool (decide (((lo + 1 : Nat) : Int) < (hi : Int)))), (7, .int .i64 (hi : Int)), (6, .int .i64 (lo : Int)), (0, .int .i64 (0 - u)), (1, .int .i64 v), (5, .int .i64 1)]) [50, 7, 6, 0, 1, 5] (by kernel_rfl) ?_
  refine ops_nil ?_
  refine fin_then ?_
  refine st_if (b := decide (((lo + 1 : Nat) : Int) < (hi : Int))) rfl (fun hc1 => ?_) (fun hc1 => ?_)
  · --
    have hlt : lo + 1 < hi := by have := of_decide_eq_true hc1; omega
    have hl2 : IntKind.i64.wrap ((lo : Int) + (hi : Int)) = ((lo + hi : Nat) : Int) := by rw [i64in (by omega) (by omega)]; omega
    have hl3 : IntKind.i64.wrap (Int.tdiv ((lo + hi : Nat) : Int) 2) = ((((lo + hi) / 2) : Nat) : Int) := by rw [Int.tdiv_eq_ediv_of_nonneg (by omega), i64in (by omega) (by omega)]; omega
    have hq1 := prod_ok (a := 16384 - ((lo + hi) / 2)) (y := (0 - u)) (by omega) hY hY1
    have hq2 := prod_ok (a := ((lo + hi) / 2)) (y := v) (by omega) (by omega) hX1
    have hp1 : IntKind.i64.wrap (firstV (16384 - ((lo + hi) / 2)) * (0 - u)) = firstV (16384 - ((lo + hi) / 2)) * (0 - u) := i64in (by omega) (by omega)
    have hp2 : IntKind.i64.wrap (firstV ((lo + hi) / 2) * v) = firstV ((lo + hi) / 2) * v := i64in (by omega) (by omega)
    refine st_skip ?_
    refine fin_then ?_
    refine st_block ?_
    refine st_seq ?_
    refine st_region [(0, false), (1, false), (2, false), (3, false), (4, false)] (by rfl) ?_
    refine ops_run (is := [(0, false), (1, false), (2, false)]) (r := [(3, false), (4, false)]) (l' := [(53, .int .i64 (IntKind.i64.wrap ((lo : Int) + (hi : Int)))), (7, .int .i64 (hi : Int)), (6, .int .i64 (lo : Int)), (0, .int .i64 (0 - u)), (1, .int .i64 v), (5, .int .i64 1)]) [53, 7, 6, 0, 1, 5] (by kernel_rfl) ?_
    refine ops_conv (l' := [(53, .int .i64 ((lo + hi : Nat) : Int)), (7, .int .i64 (hi : Int)), (6, .int .i64 (lo : Int)), (0, .int .i64 (0 - u)), (1, .int .i64 v), (5, .int .i64 1)]) (by rw [hl2]) (fun _ h => h) ?_
    refine ops_run (is := [(3, false)]) (r := [(4, false)]) (l' := [(54, .int .i64 (IntKind.i64.wrap (Int.tdiv ((lo + hi : Nat) : Int) 2))), (7, .int .i64 (hi : Int)), (6, .int .i64 (lo : Int)), (0, .int .i64 (0 - u)), (1, .int .i64 v), (5, .int .i64 1)]) [54, 7, 6, 0, 1, 5] (by kernel_rfl) ?_
    refine ops_conv (l' := [(54, .int .i64 ((((lo + hi) / 2) : Nat) : Int)), (7, .int .i64 (hi : Int)), (6, .int .i64 (lo : Int)), (0, .int .i64 (0 - u)), (1, .int .i64 v), (5, .int .i64 1)]) (by rw [hl3]) (fun _ h => h) ?_
    refine ops_run (is := [(4, false)]) (r := []) (l' := [(8, .int .i64 ((((lo + hi) / 2) : Nat) : Int)), (7, .int .i64 (hi : Int)), (6, .int .i64 (lo : Int)), (0, .int .i64 (0 - u)), (1, .int .i64 v), (5, .int .i64 1)]) [8, 7, 6, 0, 1, 5] (by kernel_rfl) ?_
    refine ops_nil ?_
    refine fin_then ?_
    refine st_seq ?_
    refine st_region [(0, false), (1, false), (2, false), (3, false), (4, false), (5, false), (6, false), (7, false), (8, false)] (by rfl) ?_
    refine ops_run (is := [(0, false)]) (r := [(1, false), (2, false), (3, false), (4, false), (5, false), (6, false), (7, false), (8, false)]) (l' := [(55, .int .i64 ((((lo + hi) / 2) : Nat) : Int)), (8, .int .i64 ((((lo + hi) / 2) : Nat) : Int)), (7, .int .i64 (hi : Int)), (6, .int .i64 (lo : Int)), (0, .int .i64 (0 - u)), (1, .int .i64 v), (5, .int .i64 1)]) [55, 8, 7, 6, 0, 1, 5] (by kernel_rfl) ?_
    refine ops_call (σ := Unit) (d := some 56) (f := 21) (args := #[.int .i64 ((((lo + hi) / 2) : Nat) : Int)]) (v := fun _ => .int .i64 (firstV (16384 - ((lo + hi) / 2)))) (M' := fun _ => Mem w []) ⟨by kernel_rfl⟩ (fun w_ hM hS => (Cos_q ((lo + hi) / 2) w_ (by omega)).mono (by rintro e w' ⟨rfl, hb⟩; exact ⟨(), rfl, hM.step hb, trivial⟩)) (fun _ => ?_)
    refine ops_run (is := [(2, false), (3, false)]) (r := [(4, false), (5, false), (6, false), (7, false), (8, false)]) (l' := [(58, .int .i64 (IntKind.i64.wrap (firstV (16384 - ((lo + hi) / 2)) * (0 - u)))), (8, .int .i64 ((((lo + hi) / 2) : Nat) : Int)), (7, .int .i64 (hi : Int)), (6, .int .i64 (lo : Int)), (0, .int .i64 (0 - u)), (1, .int .i64 v), (5, .int .i64 1)]) [58, 8, 7, 6, 0, 1, 5] (by kernel_rfl) ?_
    refine ops_conv (l' := [(58, .int .i64 (firstV (16384 - ((lo + hi) / 2)) * (0 - u))), (8, .int .i64 ((((lo + hi) / 2) : Nat) : Int)), (7, .int .i64 (hi : Int)), (6, .int .i64 (lo : Int)), (0, .int .i64 (0 - u)), (1, .int .i64 v), (5, .int .i64 1)]) (by rw [hp1]) (fun _ h => h) ?_
    refine ops_run (is := [(4, false)]) (r := [(5, false), (6, false), (7, false), (8, false)]) (l' := [(59, .int .i64 ((((lo + hi) / 2) : Nat) : Int)), (58, .int .i64 (firstV (16384 - ((lo + hi) / 2)) * (0 - u))), (8, .int .i64 ((((lo + hi) / 2) : Nat) : Int)), (7, .int .i64 (hi : Int)), (6, .int .i64 (lo : Int)), (0, .int .i64 (0 - u)), (1, .int .i64 v), (5, .int .i64 1)]) [59, 58, 8, 7, 6, 0, 1, 5] (by kernel_rfl) ?_
    refine ops_call (σ := Unit) (d := some 60) (f := 19) (args := #[.int .i64 ((((lo + hi) / 2) : Nat) : Int)]) (v := fun _ => .int .i64 (firstV ((lo + hi) / 2))) (M' := fun _ => Mem w []) ⟨by kernel_rfl⟩ (fun w_ hM hS => (Sin_q ((lo + hi) / 2) w_ (by omega)).mono (by rintro e w' ⟨rfl, hb⟩; exact ⟨(), rfl, hM.step hb, trivial⟩)) (fun _ => ?_)
    refine ops_run (is := [(6, false), (7, false)]) (r := [(8, false)]) (l' := [(62, .int .i64 (IntKind.i64.wrap (firstV ((lo + hi) / 2) * v))), (58, .int .i64 (firstV (16384 - ((lo + hi) / 2)) * (0 - u))), (8, .int .i64 ((((lo + hi) / 2) : Nat) : Int)), (7, .int .i64 (hi : Int)), (6, .int .i64 (lo : Int)), (0, .int .i64 (0 - u)), (1, .int .i64 v), (5, .int .i64 1)]) [62, 58, 8, 7, 6, 0, 1, 5] (by kernel_rfl) ?_
    refine ops_conv (l' := [(62, .int .i64 (firstV ((lo + hi) / 2) * v)), (58, .int .i64 (firstV (16384 - ((lo + hi) / 2)) * (0 - u))), (8, .int .i64 ((((lo + hi) / 2) : Nat) : Int)), (7, .int .i64 (hi : Int)), (6, .int .i64 (lo : Int)), (0, .int .i64 (0 - u)), (1, .int .i64 v), (5, .int .i64 1)]) (by rw [hp2]) (fun _ h => h) ?_
    refine ops_run (is := [(8, false)]) (r := []) (l' := [(63, .bool (decide ((firstV ((lo + hi) / 2) * v) ≤ (firstV (16384 - ((lo + hi) / 2)) * (0 - u))))), (8, .int .i64 ((((lo + hi) / 2) : Nat) : Int)), (7, .int .i64 (hi : Int)), (6, .int .i64 (lo : Int)), (0, .int .i64 (0 - u)), (1, .int .i64 v), (5, .int .i64 1)]) [63, 8, 7, 6, 0, 1, 5] (by kernel_rfl) ?_
    refine ops_nil ?_
    refine fin_then ?_
    refine st_if (b := decide ((firstV ((lo + hi) / 2) * v) ≤ (firstV (16384 - ((lo + hi) / 2)) * (0 - u)))) rfl (fun hc2 => ?_) (fun hc2 => ?_)
    · --
      refine st_region [(0, false), (1, false)] (by rfl) ?_
      refine ops_run (is := [(0, false), (1, false)]) (r := []) (l' := [(6, .int .i64 ((((lo + hi) / 2) : Nat) : Int)), (7, .int .i64 (hi : Int)), (0, .int .i64 (0 - u)), (1, .int .i64 v), (5, .int .i64 1)]) [6, 7, 0, 1, 5] (by kernel_rfl) ?_
      refine ops_nil ?_
      refine fin_block ?_
      refine fin_round (((lo + hi) / 2), hi) (by exact ⟨show ((lo + hi) / 2) < hi by omega, show hi ≤ 16384 by omega, of_decide_eq_true hc2, hhi⟩) (by (show hi - ((lo + hi) / 2) < hi - lo; omega)) (look_has ⟨rfl, rfl, rfl, rfl, rfl, trivial⟩) (fun w_ hM => by exact hM)
    · --
      refine st_region [(0, false), (1, false)] (by rfl) ?_
      refine ops_run (is := [(0, false), (1, false)]) (r := []) (l' := [(7, .int .i64 ((((lo + hi) / 2) : Nat) : Int)), (6, .int .i64 (lo : Int)), (0, .int .i64 (0 - u)), (1, .int .i64 v), (5, .int .i64 1)]) [7, 6, 0, 1, 5] (by kernel_rfl) ?_
      refine ops_nil ?_
      refine fin_block ?_
      refine fin_round (lo, ((lo + hi) / 2)) (by exact ⟨show lo < ((lo + hi) / 2) by omega, show ((lo + hi) / 2) ≤ 16384 by omega, hlo, .inr (of_decide_eq_false hc2)⟩) (by (show ((lo + hi) / 2) - lo < hi - lo; omega)) (look_has ⟨rfl, rfl, rfl, rfl, rfl, trivial⟩) (fun w_ hM => by exact hM)
  · --
    have hend : lo + 1 = hi := by have := of_decide_eq_false hc1; omega
    refine st_exit ?_
    refine fin_exit_then ?_
    refine fin_exit_then ?_
    refine fin_exit ?_
    refine fin_then ?_
    refine st_seq ?_
    refine st_region [(0, false), (1, false), (2, false), (3, false), (4, false)] (by rfl) ?_
    refine ops_run (is := [(0, false), (1, false), (2, false), (3, false)]) (r := [(4, false)]) (l' := [(69, .int .i64 (IntKind.i64.wrap (16384 + (lo : Int))))]) [69] (by kernel_rfl) ?_
    refine ops_conv (l' := [(69, .int .i64 (16384 + (lo : Int)))]) (by rw [(i64in (x := 16384 + (lo : Int)) (by omega) (by omega))]) (fun _ h => h) ?_
    refine ops_run (is := [(4, false)]) (r := []) (l' := [(4, .int .i64 (16384 + (lo : Int)))]) [4] (by kernel_rfl) ?_
    refine ops_nil ?_
    refine fin_then ?_
    refine st_ret ?_
    refine fin_ret [.tmp 4] [.int .i64 (16384 + (lo : Int))] rfl rfl (fun w_ hM => (.tmp rfl .nil)) (fun w_ hM => ?_)
    refine ⟨?_, hM.done⟩
    have z := ang_eq hX hY hlo (by omega) (by rcases hhi with h | h; (left; omega); right; rw [hend]; exact h)
    rw [← z]
    first | rfl | (simp only [theOne]; congr 2; omega)
set_option maxHeartbeats 4000000 in
set_option maxRecDepth 100000 in
theorem Atan_2 (y x u v : Int) (w : World) (hu : min (max x (-1099511627776)) 1099511627776 = u) (hv : min (max y (-1099511627776)) 1099511627776 = v) (hq : u < 0 ∧ v ≤ 0) : Calls Try.prog 73 #[.int .i64 y, .int .i64 x] w fun e w' => e = .returned (.int .i64 (32768 + ang (0 - u) (0 - v))) ∧ Below w.heap.size w w' := by
  have hu0 : -1099511627776 ≤ u ∧ u ≤ 1099511627776 := by omega
  have hv0 : -1099511627776 ≤ v ∧ v ≤ 1099511627776 := by omega
  have hkn0 : (u == 0) = false := by simp; omega
  have hkn1 : decide (0 < u) = false := by simp; omega
  have hkn2 : decide (u ≤ 0) = true := by simp; omega
  have hkn3 : decide (0 < v) = false := by simp; omega
  have hkn4 : decide (u < 0) = true := by simp; omega
  refine sx_calls Try.func73 rfl (n := 70) (by kernel_rfl) (l := [(0, .int .i64 y), (1, .int .i64 x)]) rfl (by rfl) (Mem.nil w) ?_
  refine st_seq ?_
  refine st_region [(0, false)] (by rfl) ?_
  refine ops_run (is := [(0, false)]) (r := []) (l' := [(0, .int .i64 y), (1, .int .i64 x)]) [0, 1] (by kernel_rfl) ?_
  refine ops_nil ?_
  refine fin_then ?_
  refine st_seq ?_
  refine st_region [(0, false), (1, false), (2, false), (3, false), (4, false), (5, false)] (by rfl) ?_
  refine ops_run (is := [(0, false)]) (r := [(1, false), (2, false), (3, false), (4, false), (5, false)]) (l' := [(9, .int .i64 x), (0, .int .i64 y), (1, .int .i64 x)]) [9, 0, 1] (by kernel_rfl) ?_
  refine ops_call (σ := Unit) (d := some 10) (f := 82) (args := #[.int .i64 x]) (v := fun _ => .int .i64 (min (max x (-1099511627776)) 1099511627776)) (M' := fun _ => Mem w []) ⟨by kernel_rfl⟩ (fun w_ hM hS => (Clamp_calls x w_).mono (by rintro e w' ⟨rfl, hb⟩; exact ⟨(), rfl, hM.step hb, trivial⟩)) (fun _ => ?_)
  refine ops_run (is := []) (r := [(2, false), (3, false), (4, false), (5, false)]) (l' := [(10, .int .i64 (min (max x (-1099511627776)) 1099511627776)), (0, .int .i64 y), (1, .int .i64 x)]) [10, 0, 1] (by kernel_rfl) ?_
  refine ops_conv (l' := [(10, .int .i64 u), (0, .int .i64 y), (1, .int .i64 x)]) (by rw [hu]) (fun _ h => h) ?_
  refine ops_run (is := [(2, false)]) (r := [(3, false), (4, false), (5, false)]) (l' := [(11, .int .i64 y), (10, .int .i64 u), (0, .int .i64 y), (1, .int .i64 x)]) [11, 10, 0, 1] (by kernel_rfl) ?_
  refine ops_call (σ := Unit) (d := some 12) (f := 82) (args := #[.int .i64 y]) (v := fun _ => .int .i64 (min (max y (-1099511627776)) 1099511627776)) (M' := fun _ => Mem w []) ⟨by kernel_rfl⟩ (fun w_ hM hS => (Clamp_calls y w_).mono (by rintro e w' ⟨rfl, hb⟩; exact ⟨(), rfl, hM.step hb, trivial⟩)) (fun _ => ?_)
  refine ops_run (is := []) (r := [(4, false), (5, false)]) (l' := [(12, .int .i64 (min (max y (-1099511627776)) 1099511627776)), (10, .int .i64 u), (0, .int .i64 y), (1, .int .i64 x)]) [12, 10, 0, 1] (by kernel_rfl) ?_
  refine ops_conv (l' := [(12, .int .i64 v), (10, .int .i64 u), (0, .int .i64 y), (1, .int .i64 x)]) (by rw [hv]) (fun _ h => h) ?_
  refine ops_run (is := [(4, false), (5, false)]) (r := []) (l' := [(0, .int .i64 v), (1, .int .i64 u)]) [0, 1] (by kernel_rfl) ?_
  refine ops_nil ?_
  refine fin_then ?_
  refine st_seq ?_
  refine st_region [(0, false)] (by rfl) ?_
  refine ops_run (is := [(0, false)]) (r := []) (l' := [(5, .int .i64 0), (0, .int .i64 v), (1, .int .i64 u)]) [5, 0, 1] (by kernel_rfl) ?_
  refine ops_nil ?_
  refine fin_then ?_
  refine st_seq ?_
  refine st_block ?_
  refine st_seq ?_
  refine st_region [(0, false), (1, false), (2, false), (3, false), (4, false), (5, false), (6, false)] (by rfl) ?_
  refine ops_run (is := [(0, false), (1, false), (2, false)]) (r := [(3, false), (4, false), (5, false), (6, false)]) (l' := [(19, .bool (u == 0)), (5, .int .i64 0), (0, .int .i64 v), (1, .int .i64 u)]) [19, 5, 0, 1] (by kernel_rfl) ?_
  refine ops_conv (l' := [(19, .bool false), (5, .int .i64 0), (0, .int .i64 v), (1, .int .i64 u)]) (by rw [hkn0]) (fun _ h => h) ?_
  refine ops_run (is := [(3, false), (4, false), (5, false), (6, false)]) (r := []) (l' := [(16, .bool false), (5, .int .i64 0), (0, .int .i64 v), (1, .int .i64 u)]) [16, 5, 0, 1] (by kernel_rfl) ?_
  refine ops_nil ?_
  refine fin_then ?_
  refine st_false rfl ?_
  refine st_seq ?_
  refine st_region [(0, false), (1, false), (2, false), (3, false), (4, false), (5, false), (6, false)] (by rfl) ?_
  refine ops_run (is := [(0, false), (1, false), (2, false)]) (r := [(3, false), (4, false), (5, false), (6, false)]) (l' := [(26, .bool (decide (0 < u))), (5, .int .i64 0), (0, .int .i64 v), (1, .int .i64 u)]) [26, 5, 0, 1] (by kernel_rfl) ?_
  refine ops_conv (l' := [(26, .bool false), (5, .int .i64 0), (0, .int .i64 v), (1, .int .i64 u)]) (by rw [hkn1]) (fun _ h => h) ?_
  refine ops_run (is := [(3, false), (4, false), (5, false), (6, false)]) (r := []) (l' := [(23, .bool false), (5, .int .i64 0), (0, .int .i64 v), (1, .int .i64 u)]) [23, 5, 0, 1] (by kernel_rfl) ?_
  refine ops_nil ?_
  refine fin_then ?_
  refine st_false rfl ?_
  refine st_seq ?_
  refine st_region [(0, false), (1, false), (2, false), (3, false), (4, false), (5, false), (6, false)] (by rfl) ?_
  refine ops_run (is := [(0, false), (1, false), (2, false)]) (r := [(3, false), (4, false), (5, false), (6, false)]) (l' := [(33, .bool (decide (u ≤ 0))), (0, .int .i64 v), (1, .int .i64 u)]) [33, 0, 1] (by kernel_rfl) ?_
  refine ops_conv (l' := [(33, .bool true), (0, .int .i64 v), (1, .int .i64 u)]) (by rw [hkn2]) (fun _ h => h) ?_
  refine ops_run (is := [(3, false), (4, false), (5, false), (6, false)]) (r := []) (l' := [(30, .bool (decide (0 < v))), (0, .int .i64 v), (1, .int .i64 u)]) [30, 0, 1] (by kernel_rfl) ?_
  refine ops_nil ?_
  refine fin_then ?_
  refine st_conv (l' := [(30, .bool false), (0, .int .i64 v), (1, .int .i64 u)]) (by rw [hkn3]) (fun _ h => h) ?_
  refine st_false rfl ?_
  refine st_seq ?_
  refine st_region [(0, false), (1, false), (2, false)] (by rfl) ?_
  refine ops_run (is := [(0, false), (1, false), (2, false)]) (r := []) (l' := [(40, .bool (decide (u < 0))), (0, .int .i64 v), (1, .int .i64 u)]) [40, 0, 1] (by kernel_rfl) ?_
  refine ops_nil ?_
  refine fin_then ?_
  refine st_conv (l' := [(40, .bool true), (0, .int .i64 v), (1, .int .i64 u)]) (by rw [hkn4]) (fun _ h => h) ?_
  refine st_true rfl ?_
  refine st_region [(0, false), (1, false), (2, false), (3, false), (4, false), (5, false), (6, false)] (by rfl) ?_
  refine ops_run (is := [(0, false), (1, false)]) (r := [(2, false), (3, false), (4, false), (5, false), (6, false)]) (l' := [(44, .int .i64 (IntKind.i64.wrap (0 - u))), (0, .int .i64 v), (1, .int .i64 u)]) [44, 0, 1] (by kernel_rfl) ?_
  refine ops_conv (l' := [(44, .int .i64 (0 - u)), (0, .int .i64 v), (1, .int .i64 u)]) (by rw [(i64in (x := 0 - u) (by omega) (by omega))]) (fun _ h => h) ?_
  refine ops_run (is := [(2, false), (3, false)]) (r := [(4, false), (5, false), (6, false)]) (l' := [(46, .int .i64 (IntKind.i64.wrap (0 - v))), (44, .int .i64 (0 - u)), (0, .int .i64 v), (1, .int .i64 u)]) [46, 44, 0, 1] (by kernel_rfl) ?_
  refine ops_conv (l' := [(46, .int .i64 (0 - v)), (44, .int .i64 (0 - u)), (0, .int .i64 v), (1, .int .i64 u)]) (by rw [(i64in (x := 0 - v) (by omega) (by omega))]) (fun _ h => h) ?_
  refine ops_run (is := [(4, false), (5, false), (6, false)]) (r := []) (l' := [(0, .int .i64 (0 - v)), (1, .int .i64 (0 - u)), (5, .int .i64 2)]) [0, 1, 5] (by kernel_rfl) ?_
  refine ops_nil ?_
  refine fin_block ?_
  refine fin_then ?_
  refine st_seq ?_
  refine st_region [(0, false), (1, false)] (by rfl) ?_
  refine ops_run (is := [(0, false), (1, false)]) (r := []) (l' := [(7, .int .i64 16384), (6, .int .i64 0), (0, .int .i64 (0 - v)), (1, .int .i64 (0 - u)), (5, .int .i64 2)]) [7, 6, 0, 1, 5] (by kernel_rfl) ?_
  refine ops_nil ?_
  refine fin_then ?_
  refine st_seq ?_
  refine st_block ?_
  have hX : 0 < (0 - u) := by omega
  have hY : 0 ≤ (0 - v) := by omega
  have hX1 : (0 - u) ≤ 1099511627776 := by omega
  have hY1 : (0 - v) ≤ 1099511627776 := by omega
  refine st_loop (σ := Nat × Nat) (0, 16384) (fun x_ => match x_ with | (lo, hi) => [(7, .int .i64 (hi : Int)), (6, .int .i64 (lo : Int)), (0, .int .i64 (0 - v)), (1, .int .i64 (0 - u)), (5, .int .i64 2)]) (fun x_ => match x_ with | (lo, hi) => Mem w []) (fun x_ => match x_ with | (lo, hi) => lo < hi ∧ hi ≤ 16384 ∧ Not (0 - u) (0 - v) lo ∧ (hi = 16384 ∨ ¬ Not (0 - u) (0 - v) hi)) (fun x_ => match x_ with | (lo, hi) => hi - lo) (by exact ⟨by decide, Nat.le_refl _, not_zero hX hY, .inl rfl⟩) (look_has ⟨rfl, rfl, rfl, rfl, rfl, trivial⟩) (fun w_ hM => by exact hM) ?_
  rintro ⟨lo, hi⟩ hI
  obtain ⟨hlh, hh1, hlo, hhi⟩ := hI
  have hlh : lo < hi := hlh
  have hh1 : hi ≤ 16384 := hh1
  have hlo : Not (0 - u) (0 - v) lo := hlo
  have hhi : hi = 16384 ∨ ¬ Not (0 - u) (0 - v) hi := hhi
  have hl1 : IntKind.i64.wrap ((lo : Int) + 1) = ((lo + 1 : Nat) : Int) := by rw [i64in (by omega) (by omega)]; omega
  refine st_seq ?_
  refine st_seq ?_
  refine st_region [(0, false), (1, false), (2, false), (3, false)] (by rfl) ?_
  refine ops_run (is := [(0, false), (1, false)]) (r := [(2, false), (3, false)]) (l' := [(48, .int .i64 (IntKind.i64.wrap ((lo : Int) + 1))), (7, .int .i64 (hi : Int)), (6, .int .i64 (lo : Int)), (0, .int .i64 (0 - v)), (1, .int .i64 (0 - u)), (5, .int .i64 2)]) [48, 7, 6, 0, 1, 5] (by kernel_rfl) ?_
  refine ops_conv (l' := [(48, .int .i64 ((lo + 1 : Nat) : Int)), (7, .int .i64 (hi : Int)), (6, .int .i64 (lo : Int)), (0, .int .i64 (0 - v)), (1, .int .i64 (0 - u)), (5, .int .i64 2)]) (by rw [hl1]) (fun _ h => h) ?_
  refine ops_run (is := [(2, false), (3, false)]) (r := []) (l' := [(50, .bool (decide (((lo + 1 : Nat) : Int) < (hi : Int)))), (7, .int .i64 (hi : Int)), (6, .int .i64 (lo : Int)), (0, .int .i64 (0 - v)), (1, .int .i64 (0 - u)), (5, .int .i64 2)]) [50, 7, 6, 0, 1, 5] (by kernel_rfl) ?_
  refine ops_nil ?_
  refine fin_then ?_
  refine st_if (b := decide (((lo + 1 : Nat) : Int) < (hi : Int))) rfl (fun hc1 => ?_) (fun hc1 => ?_)
  · --
    have hlt : lo + 1 < hi := by have := of_decide_eq_true hc1; omega
    have hl2 : IntKind.i64.wrap ((lo : Int) + (hi : Int)) = ((lo + hi : Nat) : Int) := by rw [i64in (by omega) (by omega)]; omega
    have hl3 : IntKind.i64.wrap (Int.tdiv ((lo + hi : Nat) : Int) 2) = ((((lo + hi) / 2) : Nat) : Int) := by rw [Int.tdiv_eq_ediv_of_nonneg (by omega), i64in (by omega) (by omega)]; omega
    have hq1 := prod_ok (a := 16384 - ((lo + hi) / 2)) (y := (0 - v)) (by omega) hY hY1
    have hq2 := prod_ok (a := ((lo + hi) / 2)) (y := (0 - u)) (by omega) (by omega) hX1
    have hp1 : IntKind.i64.wrap (firstV (16384 - ((lo + hi) / 2)) * (0 - v)) = firstV (16384 - ((lo + hi) / 2)) * (0 - v) := i64in (by omega) (by omega)
    have hp2 : IntKind.i64.wrap (firstV ((lo + hi) / 2) * (0 - u)) = firstV ((lo + hi) / 2) * (0 - u) := i64in (by omega) (by omega)
    refine st_skip ?_
    refine fin_then ?_
    refine st_block ?_
    refine st_seq ?_
    refine st_region [(0, false), (1, false), (2, false), (3, false), (4, false)] (by rfl) ?_
    refine ops_run (is := [(0, false), (1, false), (2, false)]) (r := [(3, false), (4, false)]) (l' := [(53, .int .i64 (IntKind.i64.wrap ((lo : Int) + (hi : Int)))), (7, .int .i64 (hi : Int)), (6, .int .i64 (lo : Int)), (0, .int .i64 (0 - v)), (1, .int .i64 (0 - u)), (5, .int .i64 2)]) [53, 7, 6, 0, 1, 5] (by kernel_rfl) ?_
    refine ops_conv (l' := [(53, .int .i64 ((lo + hi : Nat) : Int)), (7, .int .i64 (hi : Int)), (6, .int .i64 (lo : Int)), (0, .int .i64 (0 - v)), (1, .int .i64 (0 - u)), (5, .int .i64 2)]) (by rw [hl2]) (fun _ h => h) ?_
    refine ops_run (is := [(3, false)]) (r := [(4, false)]) (l' := [(54, .int .i64 (IntKind.i64.wrap (Int.tdiv ((lo + hi : Nat) : Int) 2))), (7, .int .i64 (hi : Int)), (6, .int .i64 (lo : Int)), (0, .int .i64 (0 - v)), (1, .int .i64 (0 - u)), (5, .int .i64 2)]) [54, 7, 6, 0, 1, 5] (by kernel_rfl) ?_
    refine ops_conv (l' := [(54, .int .i64 ((((lo + hi) / 2) : Nat) : Int)), (7, .int .i64 (hi : Int)), (6, .int .i64 (lo : Int)), (0, .int .i64 (0 - v)), (1, .int .i64 (0 - u)), (5, .int .i64 2)]) (by rw [hl3]) (fun _ h => h) ?_
    refine ops_run (is := [(4, false)]) (r := []) (l' := [(8, .int .i64 ((((lo + hi) / 2) : Nat) : Int)), (7, .int .i64 (hi : Int)), (6, .int .i64 (lo : Int)), (0, .int .i64 (0 - v)), (1, .int .i64 (0 - u)), (5, .int .i64 2)]) [8, 7, 6, 0, 1, 5] (by kernel_rfl) ?_
    refine ops_nil ?_
    refine fin_then ?_
    refine st_seq ?_
    refine st_region [(0, false), (1, false), (2, false), (3, false), (4, false), (5, false), (6, false), (7, false), (8, false)] (by rfl) ?_
    refine ops_run (is := [(0, false)]) (r := [(1, false), (2, false), (3, false), (4, false), (5, false), (6, false), (7, false), (8, false)]) (l' := [(55, .int .i64 ((((lo + hi) / 2) : Nat) : Int)), (8, .int .i64 ((((lo + hi) / 2) : Nat) : Int)), (7, .int .i64 (hi : Int)), (6, .int .i64 (lo : Int)), (0, .int .i64 (0 - v)), (1, .int .i64 (0 - u)), (5, .int .i64 2)]) [55, 8, 7, 6, 0, 1, 5] (by kernel_rfl) ?_
    refine ops_call (σ := Unit) (d := some 56) (f := 21) (args := #[.int .i64 ((((lo + hi) / 2) : Nat) : Int)]) (v := fun _ => .int .i64 (firstV (16384 - ((lo + hi) / 2)))) (M' := fun _ => Mem w []) ⟨by kernel_rfl⟩ (fun w_ hM hS => (Cos_q ((lo + hi) / 2) w_ (by omega)).mono (by rintro e w' ⟨rfl, hb⟩; exact ⟨(), rfl, hM.step hb, trivial⟩)) (fun _ => ?_)
    refine ops_run (is := [(2, false), (3, false)]) (r := [(4, false), (5, false), (6, false), (7, false), (8, false)]) (l' := [(58, .int .i64 (IntKind.i64.wrap (firstV (16384 - ((lo + hi) / 2)) * (0 - v)))), (8, .int .i64 ((((lo + hi) / 2) : Nat) : Int)), (7, .int .i64 (hi : Int)), (6, .int .i64 (lo : Int)), (0, .int .i64 (0 - v)), (1, .int .i64 (0 - u)), (5, .int .i64 2)]) [58, 8, 7, 6, 0, 1, 5] (by kernel_rfl) ?_
    refine ops_conv (l' := [(58, .int .i64 (firstV (16384 - ((lo + hi) / 2)) * (0 - v))), (8, .int .i64 ((((lo + hi) / 2) : Nat) : Int)), (7, .int .i64 (hi : Int)), (6, .int .i64 (lo : Int)), (0, .int .i64 (0 - v)), (1, .int .i64 (0 - u)), (5, .int .i64 2)]) (by rw [hp1]) (fun _ h => h) ?_
    refine ops_run (is := [(4, false)]) (r := [(5, false), (6, false), (7, false), (8, false)]) (l' := [(59, .int .i64 ((((lo + hi) / 2) : Nat) : Int)), (58, .int .i64 (firstV (16384 - ((lo + hi) / 2)) * (0 - v))), (8, .int .i64 ((((lo + hi) / 2) : Nat) : Int)), (7, .int .i64 (hi : Int)), (6, .int .i64 (lo : Int)), (0, .int .i64 (0 - v)), (1, .int .i64 (0 - u)), (5, .int .i64 2)]) [59, 58, 8, 7, 6, 0, 1, 5] (by kernel_rfl) ?_
    refine ops_call (σ := Unit) (d := some 60) (f := 19) (args := #[.int .i64 ((((lo + hi) / 2) : Nat) : Int)]) (v := fun _ => .int .i64 (firstV ((lo + hi) / 2))) (M' := fun _ => Mem w []) ⟨by kernel_rfl⟩ (fun w_ hM hS => (Sin_q ((lo + hi) / 2) w_ (by omega)).mono (by rintro e w' ⟨rfl, hb⟩; exact ⟨(), rfl, hM.step hb, trivial⟩)) (fun _ => ?_)
    refine ops_run (is := [(6, false), (7, false)]) (r := [(8, false)]) (l' := [(62, .int .i64 (IntKind.i64.wrap (firstV ((lo + hi) / 2) * (0 - u)))), (58, .int .i64 (firstV (16384 - ((lo + hi) / 2)) * (0 - v))), (8, .int .i64 ((((lo + hi) / 2) : Nat) : Int)), (7, .int .i64 (hi : Int)), (6, .int .i64 (lo : Int)), (0, .int .i64 (0 - v)), (1, .int .i64 (0 - u)), (5, .int .i64 2)]) [62, 58, 8, 7, 6, 0, 1, 5] (by kernel_rfl) ?_
    refine ops_conv (l' := [(62, .int .i64 (firstV ((lo + hi) / 2) * (0 - u))), (58, .int .i64 (firstV (16384 - ((lo + hi) / 2)) * (0 - v))), (8, .int .i64 ((((lo + hi) / 2) : Nat) : Int)), (7, .int .i64 (hi : Int)), (6, .int .i64 (lo : Int)), (0, .int .i64 (0 - v)), (1, .int .i64 (0 - u)), (5, .int .i64 2)]) (by rw [hp2]) (fun _ h => h) ?_
    refine ops_run (is := [(8, false)]) (r := []) (l' := [(63, .bool (decide ((firstV ((lo + hi) / 2) * (0 - u)) ≤ (firstV (16384 - ((lo + hi) / 2)) * (0 - v))))), (8, .int .i64 ((((lo + hi) / 2) : Nat) : Int)), (7, .int .i64 (hi : Int)), (6, .int .i64 (lo : Int)), (0, .int .i64 (0 - v)), (1, .int .i64 (0 - u)), (5, .int .i64 2)]) [63, 8, 7, 6, 0, 1, 5] (by kernel_rfl) ?_
    refine ops_nil ?_
    refine fin_then ?_
    refine st_if (b := decide ((firstV ((lo + hi) / 2) * (0 - u)) ≤ (firstV (16384 - ((lo + hi) / 2)) * (0 - v)))) rfl (fun hc2 => ?_) (fun hc2 => ?_)
    · --
      refine st_region [(0, false), (1, false)] (by rfl) ?_
      refine ops_run (is := [(0, false), (1, false)]) (r := []) (l' := [(6, .int .i64 ((((lo + hi) / 2) : Nat) : Int)), (7, .int .i64 (hi : Int)), (0, .int .i64 (0 - v)), (1, .int .i64 (0 - u)), (5, .int .i64 2)]) [6, 7, 0, 1, 5] (by kernel_rfl) ?_
      refine ops_nil ?_
      refine fin_block ?_
      refine fin_round (((lo + hi) / 2), hi) (by exact ⟨show ((lo + hi) / 2) < hi by omega, show hi ≤ 16384 by omega, of_decide_eq_true hc2, hhi⟩) (by (show hi - ((lo + hi) / 2) < hi - lo; omega)) (look_has ⟨rfl, rfl, rfl, rfl, rfl, trivial⟩) (fun w_ hM => by exact hM)
    · --
      refine st_region [(0, false), (1, false)] (by rfl) ?_
      refine ops_run (is := [(0, false), (1, false)]) (r := []) (l' := [(7, .int .i64 ((((lo + hi) / 2) : Nat) : Int)), (6, .int .i64 (lo : Int)), (0, .int .i64 (0 - v)), (1, .int .i64 (0 - u)), (5, .int .i64 2)]) [7, 6, 0, 1, 5] (by kernel_rfl) ?_
      refine ops_nil ?_
      refine fin_block ?_
      refine fin_round (lo, ((lo + hi) / 2)) (by exact ⟨show lo < ((lo + hi) / 2) by omega, show ((lo + hi) / 2) ≤ 16384 by omega, hlo, .inr (of_decide_eq_false hc2)⟩) (by (show ((lo + hi) / 2) - lo < hi - lo; omega)) (look_has ⟨rfl, rfl, rfl, rfl, rfl, trivial⟩) (fun w_ hM => by exact hM)
  · --
    have hend : lo + 1 = hi := by have := of_decide_eq_false hc1; omega
    refine st_exit ?_
    refine fin_exit_then ?_
    refine fin_exit_then ?_
    refine fin_exit ?_
    refine fin_then ?_
    refine st_seq ?_
    refine st_region [(0, false), (1, false), (2, false), (3, false), (4, false)] (by rfl) ?_
    refine ops_run (is := [(0, false), (1, false), (2, false), (3, false)]) (r := [(4, false)]) (l' := [(69, .int .i64 (IntKind.i64.wrap (32768 + (lo : Int))))]) [69] (by kernel_rfl) ?_
    refine ops_conv (l' := [(69, .int .i64 (32768 + (lo : Int)))]) (by rw [(i64in (x := 32768 + (lo : Int)) (by omega) (by omega))]) (fun _ h => h) ?_
    refine ops_run (is := [(4, false)]) (r := []) (l' := [(4, .int .i64 (32768 + (lo : Int)))]) [4] (by kernel_rfl) ?_
    refine ops_nil ?_
    refine fin_then ?_
    refine st_ret ?_
    refine fin_ret [.tmp 4] [.int .i64 (32768 + (lo : Int))] rfl rfl (fun w_ hM => (.tmp rfl .nil)) (fun w_ hM => ?_)
    refine ⟨?_, hM.done⟩
    have z := ang_eq hX hY hlo (by omega) (by rcases hhi with h | h; (left; omega); right; rw [hend]; exact h)
    rw [← z]
    first | rfl | (simp only [theOne]; congr 2; omega)
set_option maxHeartbeats 4000000 in
set_option maxRecDepth 100000 in
theorem Atan_3 (y x u v : Int) (w : World) (hu : min (max x (-1099511627776)) 1099511627776 = u) (hv : min (max y (-1099511627776)) 1099511627776 = v) (hq : 0 < u ∧ v < 0) : Calls Try.prog 73 #[.int .i64 y, .int .i64 x] w fun e w' => e = .returned (.int .i64 (49152 + ang (0 - v) u)) ∧ Below w.heap.size w w' := by
  have hu0 : -1099511627776 ≤ u ∧ u ≤ 1099511627776 := by omega
  have hv0 : -1099511627776 ≤ v ∧ v ≤ 1099511627776 := by omega
  have hkn0 : (v == 0) = false := by simp; omega
  have hkn1 : decide (0 ≤ v) = false := by simp; omega
  have hkn2 : decide (0 < v) = false := by simp; omega
  have hkn3 : decide (u < 0) = false := by simp; omega
  have hkn4 : (u == 0) = false := by simp; omega
  have hkn5 : decide (0 < u) = true := by simp; omega
  have hkn6 : decide (u ≤ 0) = false := by simp; omega
  refine sx_calls Try.func73 rfl (n := 70) (by kernel_rfl) (l := [(0, .int .i64 y), (1, .int .i64 x)]) rfl (by rfl) (Mem.nil w) ?_
  refine st_seq ?_
  refine st_region [(0, false)] (by rfl) ?_
  refine ops_run (is := [(0, false)]) (r := []) (l' := [(0, .int .i64 y), (1, .int .i64 x)]) [0, 1] (by kernel_rfl) ?_
  refine ops_nil ?_
  refine fin_then ?_
  refine st_seq ?_
  refine st_region [(0, false), (1, false), (2, false), (3, false), (4, false), (5, false)] (by rfl) ?_
  refine ops_run (is := [(0, false)]) (r := [(1, false), (2, false), (3, false), (4, false), (5, false)]) (l' := [(9, .int .i64 x), (0, .int .i64 y), (1, .int .i64 x)]) [9, 0, 1] (by kernel_rfl) ?_
  refine ops_call (σ := Unit) (d := some 10) (f := 82) (args := #[.int .i64 x]) (v := fun _ => .int .i64 (min (max x (-1099511627776)) 1099511627776)) (M' := fun _ => Mem w []) ⟨by kernel_rfl⟩ (fun w_ hM hS => (Clamp_calls x w_).mono (by rintro e w' ⟨rfl, hb⟩; exact ⟨(), rfl, hM.step hb, trivial⟩)) (fun _ => ?_)
  refine ops_run (is := []) (r := [(2, false), (3, false), (4, false), (5, false)]) (l' := [(10, .int .i64 (min (max x (-1099511627776)) 1099511627776)), (0, .int .i64 y), (1, .int .i64 x)]) [10, 0, 1] (by kernel_rfl) ?_
  refine ops_conv (l' := [(10, .int .i64 u), (0, .int .i64 y), (1, .int .i64 x)]) (by rw [hu]) (fun _ h => h) ?_
  refine ops_run (is := [(2, false)]) (r := [(3, false), (4, false), (5, false)]) (l' := [(11, .int .i64 y), (10, .int .i64 u), (0, .int .i64 y), (1, .int .i64 x)]) [11, 10, 0, 1] (by kernel_rfl) ?_
  refine ops_call (σ := Unit) (d := some 12) (f := 82) (args := #[.int .i64 y]) (v := fun _ => .int .i64 (min (max y (-1099511627776)) 1099511627776)) (M' := fun _ => Mem w []) ⟨by kernel_rfl⟩ (fun w_ hM hS => (Clamp_calls y w_).mono (by rintro e w' ⟨rfl, hb⟩; exact ⟨(), rfl, hM.step hb, trivial⟩)) (fun _ => ?_)
  refine ops_run (is := []) (r := [(4, false), (5, false)]) (l' := [(12, .int .i64 (min (max y (-1099511627776)) 1099511627776)), (10, .int .i64 u), (0, .int .i64 y), (1, .int .i64 x)]) [12, 10, 0, 1] (by kernel_rfl) ?_
  refine ops_conv (l' := [(12, .int .i64 v), (10, .int .i64 u), (0, .int .i64 y), (1, .int .i64 x)]) (by rw [hv]) (fun _ h => h) ?_
  refine ops_run (is := [(4, false), (5, false)]) (r := []) (l' := [(0, .int .i64 v), (1, .int .i64 u)]) [0, 1] (by kernel_rfl) ?_
  refine ops_nil ?_
  refine fin_then ?_
  refine st_seq ?_
  refine st_region [(0, false)] (by rfl) ?_
  refine ops_run (is := [(0, false)]) (r := []) (l' := [(5, .int .i64 0), (0, .int .i64 v), (1, .int .i64 u)]) [5, 0, 1] (by kernel_rfl) ?_
  refine ops_nil ?_
  refine fin_then ?_
  refine st_seq ?_
  refine st_block ?_
  refine st_seq ?_
  refine st_region [(0, false), (1, false), (2, false), (3, false), (4, false), (5, false), (6, false)] (by rfl) ?_
  refine ops_run (is := [(0, false), (1, false), (2, false)]) (r := [(3, false), (4, false), (5, false), (6, false)]) (l' := [(19, .bool (u == 0)), (5, .int .i64 0), (0, .int .i64 v), (1, .int .i64 u)]) [19, 5, 0, 1] (by kernel_rfl) ?_
  refine ops_conv (l' := [(19, .bool false), (5, .int .i64 0), (0, .int .i64 v), (1, .int .i64 u)]) (by rw [hkn4]) (fun _ h => h) ?_
  refine ops_run (is := [(3, false), (4, false), (5, false), (6, false)]) (r := []) (l' := [(16, .bool false), (5, .int .i64 0), (0, .int .i64 v), (1, .int .i64 u)]) [16, 5, 0, 1] (by kernel_rfl) ?_
  refine ops_nil ?_
  refine fin_then ?_
  refine st_false rfl ?_
  refine st_seq ?_
  refine st_region [(0, false), (1, false), (2, false), (3, false), (4, false), (5, false), (6, false)] (by rfl) ?_
  refine ops_run (is := [(0, false), (1, false), (2, false)]) (r := [(3, false), (4, false), (5, false), (6, false)]) (l' := [(26, .bool (decide (0 < u))), (5, .int .i64 0), (0, .int .i64 v), (1, .int .i64 u)]) [26, 5, 0, 1] (by kernel_rfl) ?_
  refine ops_conv (l' := [(26, .bool true), (5, .int .i64 0), (0, .int .i64 v), (1, .int .i64 u)]) (by rw [hkn5]) (fun _ h => h) ?_
  refine ops_run (is := [(3, false), (4, false), (5, false), (6, false)]) (r := []) (l' := [(23, .bool (decide (0 ≤ v))), (5, .int .i64 0), (0, .int .i64 v), (1, .int .i64 u)]) [23, 5, 0, 1] (by kernel_rfl) ?_
  refine ops_nil ?_
  refine fin_then ?_
  refine st_conv (l' := [(23, .bool false), (5, .int .i64 0), (0, .int .i64 v), (1, .int .i64 u)]) (by rw [hkn1]) (fun _ h => h) ?_
  refine st_false rfl ?_
  refine st_seq ?_
  refine st_region [(0, false), (1, false), (2, false), (3, false), (4, false), (5, false), (6, false)] (by rfl) ?_
  refine ops_run (is := [(0, false), (1, false), (2, false)]) (r := [(3, false), (4, false), (5, false), (6, false)]) (l' := [(33, .bool (decide (u ≤ 0))), (0, .int .i64 v), (1, .int .i64 u)]) [33, 0, 1] (by kernel_rfl) ?_
  refine ops_conv (l' := [(33, .bool false), (0, .int .i64 v), (1, .int .i64 u)]) (by rw [hkn6]) (fun _ h => h) ?_
  refine ops_run (is := [(3, false), (4, false), (5, false), (6, false)]) (r := []) (l' := [(30, .bool false), (0, .int .i64 v), (1, .int .i64 u)]) [30, 0, 1] (by kernel_rfl) ?_
  refine ops_nil ?_
  refine fin_then ?_
  refine st_false rfl ?_
  refine st_seq ?_
  refine st_region [(0, false), (1, false), (2, false)] (by rfl) ?_
  refine ops_run (is := [(0, false), (1, false), (2, false)]) (r := []) (l' := [(40, .bool (decide (u < 0))), (0, .int .i64 v), (1, .int .i64 u)]) [40, 0, 1] (by kernel_rfl) ?_
  refine ops_nil ?_
  refine fin_then ?_
  refine st_conv (l' := [(40, .bool false), (0, .int .i64 v), (1, .int .i64 u)]) (by rw [hkn3]) (fun _ h => h) ?_
  refine st_false rfl ?_
  refine st_region [(0, false), (1, false), (2, false), (3, false), (4, false), (5, false)] (by rfl) ?_
  refine ops_run (is := [(0, false), (1, false)]) (r := [(2, false), (3, false), (4, false), (5, false)]) (l' := [(14, .int .i64 (IntKind.i64.wrap (0 - v))), (0, .int .i64 v), (1, .int .i64 u)]) [14, 0, 1] (by kernel_rfl) ?_
  refine ops_conv (l' := [(14, .int .i64 (0 - v)), (0, .int .i64 v), (1, .int .i64 u)]) (by rw [(i64in (x := 0 - v) (by omega) (by omega))]) (fun _ h => h) ?_
  refine ops_run (is := [(2, false), (3, false), (4, false), (5, false)]) (r := []) (l' := [(0, .int .i64 u), (1, .int .i64 (0 - v)), (5, .int .i64 3)]) [0, 1, 5] (by kernel_rfl) ?_
  refine ops_nil ?_
  refine fin_block ?_
  refine fin_then ?_
  refine st_seq ?_
  refine st_region [(0, false), (1, false)] (by rfl) ?_
  refine ops_run (is := [(0, false), (1, false)]) (r := []) (l' := [(7, .int .i64 16384), (6, .int .i64 0), (0, .int .i64 u), (1, .int .i64 (0 - v)), (5, .int .i64 3)]) [7, 6, 0, 1, 5] (by kernel_rfl) ?_
  refine ops_nil ?_
  refine fin_then ?_
  refine st_seq ?_
  refine st_block ?_
  have hX : 0 < (0 - v) := by omega
  have hY : 0 ≤ u := by omega
  have hX1 : (0 - v) ≤ 1099511627776 := by omega
  have hY1 : u ≤ 1099511627776 := by omega
  refine st_loop (σ := Nat × Nat) (0, 16384) (fun x_ => match x_ with | (lo, hi) => [(7, .int .i64 (hi : Int)), (6, .int .i64 (lo : Int)), (0, .int .i64 u), (1, .int .i64 (0 - v)), (5, .int .i64 3)]) (fun x_ => match x_ with | (lo, hi) => Mem w []) (fun x_ => match x_ with | (lo, hi) => lo < hi ∧ hi ≤ 16384 ∧ Not (0 - v) u lo ∧ (hi = 16384 ∨ ¬ Not (0 - v) u hi)) (fun x_ => match x_ with | (lo, hi) => hi - lo) (by exact ⟨by decide, Nat.le_refl _, not_zero hX hY, .inl rfl⟩) (look_has ⟨rfl, rfl, rfl, rfl, rfl, trivial⟩) (fun w_ hM => by exact hM) ?_
  rintro ⟨lo, hi⟩ hI
  obtain ⟨hlh, hh1, hlo, hhi⟩ := hI
  have hlh : lo < hi := hlh
  have hh1 : hi ≤ 16384 := hh1
  have hlo : Not (0 - v) u lo := hlo
  have hhi : hi = 16384 ∨ ¬ Not (0 - v) u hi := hhi
  have hl1 : IntKind.i64.wrap ((lo : Int) + 1) = ((lo + 1 : Nat) : Int) := by rw [i64in (by omega) (by omega)]; omega
  refine st_seq ?_
  refine st_seq ?_
  refine st_region [(0, false), (1, false), (2, false), (3, false)] (by rfl) ?_
  refine ops_run (is := [(0, false), (1, false)]) (r := [(2, false), (3, false)]) (l' := [(48, .int .i64 (IntKind.i64.wrap ((lo : Int) + 1))), (7, .int .i64 (hi : Int)), (6, .int .i64 (lo : Int)), (0, .int .i64 u), (1, .int .i64 (0 - v)), (5, .int .i64 3)]) [48, 7, 6, 0, 1, 5] (by kernel_rfl) ?_
  refine ops_conv (l' := [(48, .int .i64 ((lo + 1 : Nat) : Int)), (7, .int .i64 (hi : Int)), (6, .int .i64 (lo : Int)), (0, .int .i64 u), (1, .int .i64 (0 - v)), (5, .int .i64 3)]) (by rw [hl1]) (fun _ h => h) ?_
  refine ops_run (is := [(2, false), (3, false)]) (r := []) (l' := [(50, .bool (decide (((lo + 1 : Nat) : Int) < (hi : Int)))), (7, .int .i64 (hi : Int)), (6, .int .i64 (lo : Int)), (0, .int .i64 u), (1, .int .i64 (0 - v)), (5, .int .i64 3)]) [50, 7, 6, 0, 1, 5] (by kernel_rfl) ?_
  refine ops_nil ?_
  refine fin_then ?_
  refine st_if (b := decide (((lo + 1 : Nat) : Int) < (hi : Int))) rfl (fun hc1 => ?_) (fun hc1 => ?_)
  · --
    have hlt : lo + 1 < hi := by have := of_decide_eq_true hc1; omega
    have hl2 : IntKind.i64.wrap ((lo : Int) + (hi : Int)) = ((lo + hi : Nat) : Int) := by rw [i64in (by omega) (by omega)]; omega
    have hl3 : IntKind.i64.wrap (Int.tdiv ((lo + hi : Nat) : Int) 2) = ((((lo + hi) / 2) : Nat) : Int) := by rw [Int.tdiv_eq_ediv_of_nonneg (by omega), i64in (by omega) (by omega)]; omega
    have hq1 := prod_ok (a := 16384 - ((lo + hi) / 2)) (y := u) (by omega) hY hY1
    have hq2 := prod_ok (a := ((lo + hi) / 2)) (y := (0 - v)) (by omega) (by omega) hX1
    have hp1 : IntKind.i64.wrap (firstV (16384 - ((lo + hi) / 2)) * u) = firstV (16384 - ((lo + hi) / 2)) * u := i64in (by omega) (by omega)
    have hp2 : IntKind.i64.wrap (firstV ((lo + hi) / 2) * (0 - v)) = firstV ((lo + hi) / 2) * (0 - v) := i64in (by omega) (by omega)
    refine st_skip ?_
    refine fin_then ?_
    refine st_block ?_
    refine st_seq ?_
    refine st_region [(0, false), (1, false), (2, false), (3, false), (4, false)] (by rfl) ?_
    refine ops_run (is := [(0, false), (1, false), (2, false)]) (r := [(3, false), (4, false)]) (l' := [(53, .int .i64 (IntKind.i64.wrap ((lo : Int) + (hi : Int)))), (7, .int .i64 (hi : Int)), (6, .int .i64 (lo : Int)), (0, .int .i64 u), (1, .int .i64 (0 - v)), (5, .int .i64 3)]) [53, 7, 6, 0, 1, 5] (by kernel_rfl) ?_
    refine ops_conv (l' := [(53, .int .i64 ((lo + hi : Nat) : Int)), (7, .int .i64 (hi : Int)), (6, .int .i64 (lo : Int)), (0, .int .i64 u), (1, .int .i64 (0 - v)), (5, .int .i64 3)]) (by rw [hl2]) (fun _ h => h) ?_
    refine ops_run (is := [(3, false)]) (r := [(4, false)]) (l' := [(54, .int .i64 (IntKind.i64.wrap (Int.tdiv ((lo + hi : Nat) : Int) 2))), (7, .int .i64 (hi : Int)), (6, .int .i64 (lo : Int)), (0, .int .i64 u), (1, .int .i64 (0 - v)), (5, .int .i64 3)]) [54, 7, 6, 0, 1, 5] (by kernel_rfl) ?_
    refine ops_conv (l' := [(54, .int .i64 ((((lo + hi) / 2) : Nat) : Int)), (7, .int .i64 (hi : Int)), (6, .int .i64 (lo : Int)), (0, .int .i64 u), (1, .int .i64 (0 - v)), (5, .int .i64 3)]) (by rw [hl3]) (fun _ h => h) ?_
    refine ops_run (is := [(4, false)]) (r := []) (l' := [(8, .int .i64 ((((lo + hi) / 2) : Nat) : Int)), (7, .int .i64 (hi : Int)), (6, .int .i64 (lo : Int)), (0, .int .i64 u), (1, .int .i64 (0 - v)), (5, .int .i64 3)]) [8, 7, 6, 0, 1, 5] (by kernel_rfl) ?_
    refine ops_nil ?_
    refine fin_then ?_
    refine st_seq ?_
    refine st_region [(0, false), (1, false), (2, false), (3, false), (4, false), (5, false), (6, false), (7, false), (8, false)] (by rfl) ?_
    refine ops_run (is := [(0, false)]) (r := [(1, false), (2, false), (3, false), (4, false), (5, false), (6, false), (7, false), (8, false)]) (l' := [(55, .int .i64 ((((lo + hi) / 2) : Nat) : Int)), (8, .int .i64 ((((lo + hi) / 2) : Nat) : Int)), (7, .int .i64 (hi : Int)), (6, .int .i64 (lo : Int)), (0, .int .i64 u), (1, .int .i64 (0 - v)), (5, .int .i64 3)]) [55, 8, 7, 6, 0, 1, 5] (by kernel_rfl) ?_
    refine ops_call (σ := Unit) (d := some 56) (f := 21) (args := #[.int .i64 ((((lo + hi) / 2) : Nat) : Int)]) (v := fun _ => .int .i64 (firstV (16384 - ((lo + hi) / 2)))) (M' := fun _ => Mem w []) ⟨by kernel_rfl⟩ (fun w_ hM hS => (Cos_q ((lo + hi) / 2) w_ (by omega)).mono (by rintro e w' ⟨rfl, hb⟩; exact ⟨(), rfl, hM.step hb, trivial⟩)) (fun _ => ?_)
    refine ops_run (is := [(2, false), (3, false)]) (r := [(4, false), (5, false), (6, false), (7, false), (8, false)]) (l' := [(58, .int .i64 (IntKind.i64.wrap (firstV (16384 - ((lo + hi) / 2)) * u))), (8, .int .i64 ((((lo + hi) / 2) : Nat) : Int)), (7, .int .i64 (hi : Int)), (6, .int .i64 (lo : Int)), (0, .int .i64 u), (1, .int .i64 (0 - v)), (5, .int .i64 3)]) [58, 8, 7, 6, 0, 1, 5] (by kernel_rfl) ?_
    refine ops_conv (l' := [(58, .int .i64 (firstV (16384 - ((lo + hi) / 2)) * u)), (8, .int .i64 ((((lo + hi) / 2) : Nat) : Int)), (7, .int .i64 (hi : Int)), (6, .int .i64 (lo : Int)), (0, .int .i64 u), (1, .int .i64 (0 - v)), (5, .int .i64 3)]) (by rw [hp1]) (fun _ h => h) ?_
    refine ops_run (is := [(4, false)]) (r := [(5, false), (6, false), (7, false), (8, false)]) (l' := [(59, .int .i64 ((((lo + hi) / 2) : Nat) : Int)), (58, .int .i64 (firstV (16384 - ((lo + hi) / 2)) * u)), (8, .int .i64 ((((lo + hi) / 2) : Nat) : Int)), (7, .int .i64 (hi : Int)), (6, .int .i64 (lo : Int)), (0, .int .i64 u), (1, .int .i64 (0 - v)), (5, .int .i64 3)]) [59, 58, 8, 7, 6, 0, 1, 5] (by kernel_rfl) ?_
    refine ops_call (σ := Unit) (d := some 60) (f := 19) (args := #[.int .i64 ((((lo + hi) / 2) : Nat) : Int)]) (v := fun _ => .int .i64 (firstV ((lo + hi) / 2))) (M' := fun _ => Mem w []) ⟨by kernel_rfl⟩ (fun w_ hM hS => (Sin_q ((lo + hi) / 2) w_ (by omega)).mono (by rintro e w' ⟨rfl, hb⟩; exact ⟨(), rfl, hM.step hb, trivial⟩)) (fun _ => ?_)
    refine ops_run (is := [(6, false), (7, false)]) (r := [(8, false)]) (l' := [(62, .int .i64 (IntKind.i64.wrap (firstV ((lo + hi) / 2) * (0 - v)))), (58, .int .i64 (firstV (16384 - ((lo + hi) / 2)) * u)), (8, .int .i64 ((((lo + hi) / 2) : Nat) : Int)), (7, .int .i64 (hi : Int)), (6, .int .i64 (lo : Int)), (0, .int .i64 u), (1, .int .i64 (0 - v)), (5, .int .i64 3)]) [62, 58, 8, 7, 6, 0, 1, 5] (by kernel_rfl) ?_
    refine ops_conv (l' := [(62, .int .i64 (firstV ((lo + hi) / 2) * (0 - v))), (58, .int .i64 (firstV (16384 - ((lo + hi) / 2)) * u)), (8, .int .i64 ((((lo + hi) / 2) : Nat) : Int)), (7, .int .i64 (hi : Int)), (6, .int .i64 (lo : Int)), (0, .int .i64 u), (1, .int .i64 (0 - v)), (5, .int .i64 3)]) (by rw [hp2]) (fun _ h => h) ?_
    refine ops_run (is := [(8, false)]) (r := []) (l' := [(63, .bool (decide ((firstV ((lo + hi) / 2) * (0 - v)) ≤ (firstV (16384 - ((lo + hi) / 2)) * u)))), (8, .int .i64 ((((lo + hi) / 2) : Nat) : Int)), (7, .int .i64 (hi : Int)), (6, .int .i64 (lo : Int)), (0, .int .i64 u), (1, .int .i64 (0 - v)), (5, .int .i64 3)]) [63, 8, 7, 6, 0, 1, 5] (by kernel_rfl) ?_
    refine ops_nil ?_
    refine fin_then ?_
    refine st_if (b := decide ((firstV ((lo + hi) / 2) * (0 - v)) ≤ (firstV (16384 - ((lo + hi) / 2)) * u))) rfl (fun hc2 => ?_) (fun hc2 => ?_)
    · --
      refine st_region [(0, false), (1, false)] (by rfl) ?_
      refine ops_run (is := [(0, false), (1, false)]) (r := []) (l' := [(6, .int .i64 ((((lo + hi) / 2) : Nat) : Int)), (7, .int .i64 (hi : Int)), (0, .int .i64 u), (1, .int .i64 (0 - v)), (5, .int .i64 3)]) [6, 7, 0, 1, 5] (by kernel_rfl) ?_
      refine ops_nil ?_
      refine fin_block ?_
      refine fin_round (((lo + hi) / 2), hi) (by exact ⟨show ((lo + hi) / 2) < hi by omega, show hi ≤ 16384 by omega, of_decide_eq_true hc2, hhi⟩) (by (show hi - ((lo + hi) / 2) < hi - lo; omega)) (look_has ⟨rfl, rfl, rfl, rfl, rfl, trivial⟩) (fun w_ hM => by exact hM)
    · --
      refine st_region [(0, false), (1, false)] (by rfl) ?_
      refine ops_run (is := [(0, false), (1, false)]) (r := []) (l' := [(7, .int .i64 ((((lo + hi) / 2) : Nat) : Int)), (6, .int .i64 (lo : Int)), (0, .int .i64 u), (1, .int .i64 (0 - v)), (5, .int .i64 3)]) [7, 6, 0, 1, 5] (by kernel_rfl) ?_
      refine ops_nil ?_
      refine fin_block ?_
      refine fin_round (lo, ((lo + hi) / 2)) (by exact ⟨show lo < ((lo + hi) / 2) by omega, show ((lo + hi) / 2) ≤ 16384 by omega, hlo, .inr (of_decide_eq_false hc2)⟩) (by (show ((lo + hi) / 2) - lo < hi - lo; omega)) (look_has ⟨rfl, rfl, rfl, rfl, rfl, trivial⟩) (fun w_ hM => by exact hM)
  · --
    have hend : lo + 1 = hi := by have := of_decide_eq_false hc1; omega
    refine st_exit ?_
    refine fin_exit_then ?_
    refine fin_exit_then ?_
    refine fin_exit ?_
    refine fin_then ?_
    refine st_seq ?_
    refine st_region [(0, false), (1, false), (2, false), (3, false), (4, false)] (by rfl) ?_
    refine ops_run (is := [(0, false), (1, false), (2, false), (3, false)]) (r := [(4, false)]) (l' := [(69, .int .i64 (IntKind.i64.wrap (49152 + (lo : Int))))]) [69] (by kernel_rfl) ?_
    refine ops_conv (l' := [(69, .int .i64 (49152 + (lo : Int)))]) (by rw [(i64in (x := 49152 + (lo : Int)) (by omega) (by omega))]) (fun _ h => h) ?_
    refine ops_run (is := [(4, false)]) (r := []) (l' := [(4, .int .i64 (49152 + (lo : Int)))]) [4] (by kernel_rfl) ?_
    refine ops_nil ?_
    refine fin_then ?_
    refine st_ret ?_
    refine fin_ret [.tmp 4] [.int .i64 (49152 + (lo : Int))] rfl rfl (fun w_ hM => (.tmp rfl .nil)) (fun w_ hM => ?_)
    refine ⟨?_, hM.done⟩
    have z := ang_eq hX hY hlo (by omega) (by rcases hhi with h | h; (left; omega); right; rw [hend]; exact h)
    rw [← z]
    first | rfl | (simp only [theOne]; congr 2; omega)
set_option maxHeartbeats 4000000 in
set_option maxRecDepth 100000 in
theorem Atan_3z (y x u v : Int) (w : World) (hu : min (max x (-1099511627776)) 1099511627776 = u) (hv : min (max y (-1099511627776)) 1099511627776 = v) (hq : u = 0 ∧ v < 0) : Calls Try.prog 73 #[.int .i64 y, .int .i64 x] w fun e w' => e = .returned (.int .i64 (49152 + ang (0 - v) u)) ∧ Below w.heap.size w w' := by
  have hu0 : -1099511627776 ≤ u ∧ u ≤ 1099511627776 := by omega
  have hv0 : -1099511627776 ≤ v ∧ v ≤ 1099511627776 := by omega
  have hkn0 : (v == 0) = false := by simp; omega
  have hkn1 : decide (0 ≤ v) = false := by simp; omega
  have hkn2 : decide (0 < v) = false := by simp; omega
  have hkn3 : decide (u < 0) = false := by simp; omega
  have hkn4 : (u == 0) = true := by simp; omega
  have hkn5 : decide (0 < u) = false := by simp; omega
  have hkn6 : decide (u ≤ 0) = true := by simp; omega
  refine sx_calls Try.func73 rfl (n := 70) (by kernel_rfl) (l := [(0, .int .i64 y), (1, .int .i64 x)]) rfl (by rfl) (Mem.nil w) ?_
  refine st_seq ?_
  refine st_region [(0, false)] (by rfl) ?_
  refine ops_run (is := [(0, false)]) (r := []) (l' := [(0, .int .i64 y), (1, .int .i64 x)]) [0, 1] (by kernel_rfl) ?_
  refine ops_nil ?_
  refine fin_then ?_
  refine st_seq ?_
  refine st_region [(0, false), (1, false), (2, false), (3, false), (4, false), (5, false)] (by rfl) ?_
  refine ops_run (is := [(0, false)]) (r := [(1, false), (2, false), (3, false), (4, false), (5, false)]) (l' := [(9, .int .i64 x), (0, .int .i64 y), (1, .int .i64 x)]) [9, 0, 1] (by kernel_rfl) ?_
  refine ops_call (σ := Unit) (d := some 10) (f := 82) (args := #[.int .i64 x]) (v := fun _ => .int .i64 (min (max x (-1099511627776)) 1099511627776)) (M' := fun _ => Mem w []) ⟨by kernel_rfl⟩ (fun w_ hM hS => (Clamp_calls x w_).mono (by rintro e w' ⟨rfl, hb⟩; exact ⟨(), rfl, hM.step hb, trivial⟩)) (fun _ => ?_)
  refine ops_run (is := []) (r := [(2, false), (3, false), (4, false), (5, false)]) (l' := [(10, .int .i64 (min (max x (-1099511627776)) 1099511627776)), (0, .int .i64 y), (1, .int .i64 x)]) [10, 0, 1] (by kernel_rfl) ?_
  refine ops_conv (l' := [(10, .int .i64 u), (0, .int .i64 y), (1, .int .i64 x)]) (by rw [hu]) (fun _ h => h) ?_
  refine ops_run (is := [(2, false)]) (r := [(3, false), (4, false), (5, false)]) (l' := [(11, .int .i64 y), (10, .int .i64 u), (0, .int .i64 y), (1, .int .i64 x)]) [11, 10, 0, 1] (by kernel_rfl) ?_
  refine ops_call (σ := Unit) (d := some 12) (f := 82) (args := #[.int .i64 y]) (v := fun _ => .int .i64 (min (max y (-1099511627776)) 1099511627776)) (M' := fun _ => Mem w []) ⟨by kernel_rfl⟩ (fun w_ hM hS => (Clamp_calls y w_).mono (by rintro e w' ⟨rfl, hb⟩; exact ⟨(), rfl, hM.step hb, trivial⟩)) (fun _ => ?_)
  refine ops_run (is := []) (r := [(4, false), (5, false)]) (l' := [(12, .int .i64 (min (max y (-1099511627776)) 1099511627776)), (10, .int .i64 u), (0, .int .i64 y), (1, .int .i64 x)]) [12, 10, 0, 1] (by kernel_rfl) ?_
  refine ops_conv (l' := [(12, .int .i64 v), (10, .int .i64 u), (0, .int .i64 y), (1, .int .i64 x)]) (by rw [hv]) (fun _ h => h) ?_
  refine ops_run (is := [(4, false), (5, false)]) (r := []) (l' := [(0, .int .i64 v), (1, .int .i64 u)]) [0, 1] (by kernel_rfl) ?_
  refine ops_nil ?_
  refine fin_then ?_
  refine st_seq ?_
  refine st_region [(0, false)] (by rfl) ?_
  refine ops_run (is := [(0, false)]) (r := []) (l' := [(5, .int .i64 0), (0, .int .i64 v), (1, .int .i64 u)]) [5, 0, 1] (by kernel_rfl) ?_
  refine ops_nil ?_
  refine fin_then ?_
  refine st_seq ?_
  refine st_block ?_
  refine st_seq ?_
  refine st_region [(0, false), (1, false), (2, false), (3, false), (4, false), (5, false), (6, false)] (by rfl) ?_
  refine ops_run (is := [(0, false), (1, false), (2, false)]) (r := [(3, false), (4, false), (5, false), (6, false)]) (l' := [(19, .bool (u == 0)), (5, .int .i64 0), (0, .int .i64 v), (1, .int .i64 u)]) [19, 5, 0, 1] (by kernel_rfl) ?_
  refine ops_conv (l' := [(19, .bool true), (5, .int .i64 0), (0, .int .i64 v), (1, .int .i64 u)]) (by rw [hkn4]) (fun _ h => h) ?_
  refine ops_run (is := [(3, false), (4, false), (5, false), (6, false)]) (r := []) (l' := [(16, .bool (v == 0)), (5, .int .i64 0), (0, .int .i64 v), (1, .int .i64 u)]) [16, 5, 0, 1] (by kernel_rfl) ?_
  refine ops_nil ?_
  refine fin_then ?_
  refine st_conv (l' := [(16, .bool false), (5, .int .i64 0), (0, .int .i64 v), (1, .int .i64 u)]) (by rw [hkn0]) (fun _ h => h) ?_
  refine st_false rfl ?_
  refine st_seq ?_
  refine st_region [(0, false), (1, false), (2, false), (3, false), (4, false), (5, false), (6, false)] (by rfl) ?_
  refine ops_run (is := [(0, false), (1, false), (2, false)]) (r := [(3, false), (4, false), (5, false), (6, false)]) (l' := [(26, .bool (decide (0 < u))), (5, .int .i64 0), (0, .int .i64 v), (1, .int .i64 u)]) [26, 5, 0, 1] (by kernel_rfl) ?_
  refine ops_conv (l' := [(26, .bool false), (5, .int .i64 0), (0, .int .i64 v), (1, .int .i64 u)]) (by rw [hkn5]) (fun _ h => h) ?_
  refine ops_run (is := [(3, false), (4, false), (5, false), (6, false)]) (r := []) (l' := [(23, .bool false), (5, .int .i64 0), (0, .int .i64 v), (1, .int .i64 u)]) [23, 5, 0, 1] (by kernel_rfl) ?_
  refine ops_nil ?_
  refine fin_then ?_
  refine st_false rfl ?_
  refine st_seq ?_
  refine st_region [(0, false), (1, false), (2, false), (3, false), (4, false), (5, false), (6, false)] (by rfl) ?_
  refine ops_run (is := [(0, false), (1, false), (2, false)]) (r := [(3, false), (4, false), (5, false), (6, false)]) (l' := [(33, .bool (decide (u ≤ 0))), (0, .int .i64 v), (1, .int .i64 u)]) [33, 0, 1] (by kernel_rfl) ?_
  refine ops_conv (l' := [(33, .bool true), (0, .int .i64 v), (1, .int .i64 u)]) (by rw [hkn6]) (fun _ h => h) ?_
  refine ops_run (is := [(3, false), (4, false), (5, false), (6, false)]) (r := []) (l' := [(30, .bool (decide (0 < v))), (0, .int .i64 v), (1, .int .i64 u)]) [30, 0, 1] (by kernel_rfl) ?_
  refine ops_nil ?_
  refine fin_then ?_
  refine st_conv (l' := [(30, .bool false), (0, .int .i64 v), (1, .int .i64 u)]) (by rw [hkn2]) (fun _ h => h) ?_
  refine st_false rfl ?_
  refine st_seq ?_
  refine st_region [(0, false), (1, false), (2, false)] (by rfl) ?_
  refine ops_run (is := [(0, false), (1, false), (2, false)]) (r := []) (l' := [(40, .bool (decide (u < 0))), (0, .int .i64 v), (1, .int .i64 u)]) [40, 0, 1] (by kernel_rfl) ?_
  refine ops_nil ?_
  refine fin_then ?_
  refine st_conv (l' := [(40, .bool false), (0, .int .i64 v), (1, .int .i64 u)]) (by rw [hkn3]) (fun _ h => h) ?_
  refine st_false rfl ?_
  refine st_region [(0, false), (1, false), (2, false), (3, false), (4, false), (5, false)] (by rfl) ?_
  refine ops_run (is := [(0, false), (1, false)]) (r := [(2, false), (3, false), (4, false), (5, false)]) (l' := [(14, .int .i64 (IntKind.i64.wrap (0 - v))), (0, .int .i64 v), (1, .int .i64 u)]) [14, 0, 1] (by kernel_rfl) ?_
  refine ops_conv (l' := [(14, .int .i64 (0 - v)), (0, .int .i64 v), (1, .int .i64 u)]) (by rw [(i64in (x := 0 - v) (by omega) (by omega))]) (fun _ h => h) ?_
  refine ops_run (is := [(2, false), (3, false), (4, false), (5, false)]) (r := []) (l' := [(0, .int .i64 u), (1, .int .i64 (0 - v)), (5, .int .i64 3)]) [0, 1, 5] (by kernel_rfl) ?_
  refine ops_nil ?_
  refine fin_block ?_
  refine fin_then ?_
  refine st_seq ?_
  refine st_region [(0, false), (1, false)] (by rfl) ?_
  refine ops_run (is := [(0, false), (1, false)]) (r := []) (l' := [(7, .int .i64 16384), (6, .int .i64 0), (0, .int .i64 u), (1, .int .i64 (0 - v)), (5, .int .i64 3)]) [7, 6, 0, 1, 5] (by kernel_rfl) ?_
  refine ops_nil ?_
  refine fin_then ?_
  refine st_seq ?_
  refine st_block ?_
  have hX : 0 < (0 - v) := by omega
  have hY : 0 ≤ u := by omega
  have hX1 : (0 - v) ≤ 1099511627776 := by omega
  have hY1 : u ≤ 1099511627776 := by omega
  refine st_loop (σ := Nat × Nat) (0, 16384) (fun x_ => match x_ with | (lo, hi) => [(7, .int .i64 (hi : Int)), (6, .int .i64 (lo : Int)), (0, .int .i64 u), (1, .int .i64 (0 - v)), (5, .int .i64 3)]) (fun x_ => match x_ with | (lo, hi) => Mem w []) (fun x_ => match x_ with | (lo, hi) => lo < hi ∧ hi ≤ 16384 ∧ Not (0 - v) u lo ∧ (hi = 16384 ∨ ¬ Not (0 - v) u hi)) (fun x_ => match x_ with | (lo, hi) => hi - lo) (by exact ⟨by decide, Nat.le_refl _, not_zero hX hY, .inl rfl⟩) (look_has ⟨rfl, rfl, rfl, rfl, rfl, trivial⟩) (fun w_ hM => by exact hM) ?_
  rintro ⟨lo, hi⟩ hI
  obtain ⟨hlh, hh1, hlo, hhi⟩ := hI
  have hlh : lo < hi := hlh
  have hh1 : hi ≤ 16384 := hh1
  have hlo : Not (0 - v) u lo := hlo
  have hhi : hi = 16384 ∨ ¬ Not (0 - v) u hi := hhi
  have hl1 : IntKind.i64.wrap ((lo : Int) + 1) = ((lo + 1 : Nat) : Int) := by rw [i64in (by omega) (by omega)]; omega
  refine st_seq ?_
  refine st_seq ?_
  refine st_region [(0, false), (1, false), (2, false), (3, false)] (by rfl) ?_
  refine ops_run (is := [(0, false), (1, false)]) (r := [(2, false), (3, false)]) (l' := [(48, .int .i64 (IntKind.i64.wrap ((lo : Int) + 1))), (7, .int .i64 (hi : Int)), (6, .int .i64 (lo : Int)), (0, .int .i64 u), (1, .int .i64 (0 - v)), (5, .int .i64 3)]) [48, 7, 6, 0, 1, 5] (by kernel_rfl) ?_
  refine ops_conv (l' := [(48, .int .i64 ((lo + 1 : Nat) : Int)), (7, .int .i64 (hi : Int)), (6, .int .i64 (lo : Int)), (0, .int .i64 u), (1, .int .i64 (0 - v)), (5, .int .i64 3)]) (by rw [hl1]) (fun _ h => h) ?_
  refine ops_run (is := [(2, false), (3, false)]) (r := []) (l' := [(50, .bool (decide (((lo + 1 : Nat) : Int) < (hi : Int)))), (7, .int .i64 (hi : Int)), (6, .int .i64 (lo : Int)), (0, .int .i64 u), (1, .int .i64 (0 - v)), (5, .int .i64 3)]) [50, 7, 6, 0, 1, 5] (by kernel_rfl) ?_
  refine ops_nil ?_
  refine fin_then ?_
  refine st_if (b := decide (((lo + 1 : Nat) : Int) < (hi : Int))) rfl (fun hc1 => ?_) (fun hc1 => ?_)
  · --
    have hlt : lo + 1 < hi := by have := of_decide_eq_true hc1; omega
    have hl2 : IntKind.i64.wrap ((lo : Int) + (hi : Int)) = ((lo + hi : Nat) : Int) := by rw [i64in (by omega) (by omega)]; omega
    have hl3 : IntKind.i64.wrap (Int.tdiv ((lo + hi : Nat) : Int) 2) = ((((lo + hi) / 2) : Nat) : Int) := by rw [Int.tdiv_eq_ediv_of_nonneg (by omega), i64in (by omega) (by omega)]; omega
    have hq1 := prod_ok (a := 16384 - ((lo + hi) / 2)) (y := u) (by omega) hY hY1
    have hq2 := prod_ok (a := ((lo + hi) / 2)) (y := (0 - v)) (by omega) (by omega) hX1
    have hp1 : IntKind.i64.wrap (firstV (16384 - ((lo + hi) / 2)) * u) = firstV (16384 - ((lo + hi) / 2)) * u := i64in (by omega) (by omega)
    have hp2 : IntKind.i64.wrap (firstV ((lo + hi) / 2) * (0 - v)) = firstV ((lo + hi) / 2) * (0 - v) := i64in (by omega) (by omega)
    refine st_skip ?_
    refine fin_then ?_
    refine st_block ?_
    refine st_seq ?_
    refine st_region [(0, false), (1, false), (2, false), (3, false), (4, false)] (by rfl) ?_
    refine ops_run (is := [(0, false), (1, false), (2, false)]) (r := [(3, false), (4, false)]) (l' := [(53, .int .i64 (IntKind.i64.wrap ((lo : Int) + (hi : Int)))), (7, .int .i64 (hi : Int)), (6, .int .i64 (lo : Int)), (0, .int .i64 u), (1, .int .i64 (0 - v)), (5, .int .i64 3)]) [53, 7, 6, 0, 1, 5] (by kernel_rfl) ?_
    refine ops_conv (l' := [(53, .int .i64 ((lo + hi : Nat) : Int)), (7, .int .i64 (hi : Int)), (6, .int .i64 (lo : Int)), (0, .int .i64 u), (1, .int .i64 (0 - v)), (5, .int .i64 3)]) (by rw [hl2]) (fun _ h => h) ?_
    refine ops_run (is := [(3, false)]) (r := [(4, false)]) (l' := [(54, .int .i64 (IntKind.i64.wrap (Int.tdiv ((lo + hi : Nat) : Int) 2))), (7, .int .i64 (hi : Int)), (6, .int .i64 (lo : Int)), (0, .int .i64 u), (1, .int .i64 (0 - v)), (5, .int .i64 3)]) [54, 7, 6, 0, 1, 5] (by kernel_rfl) ?_
    refine ops_conv (l' := [(54, .int .i64 ((((lo + hi) / 2) : Nat) : Int)), (7, .int .i64 (hi : Int)), (6, .int .i64 (lo : Int)), (0, .int .i64 u), (1, .int .i64 (0 - v)), (5, .int .i64 3)]) (by rw [hl3]) (fun _ h => h) ?_
    refine ops_run (is := [(4, false)]) (r := []) (l' := [(8, .int .i64 ((((lo + hi) / 2) : Nat) : Int)), (7, .int .i64 (hi : Int)), (6, .int .i64 (lo : Int)), (0, .int .i64 u), (1, .int .i64 (0 - v)), (5, .int .i64 3)]) [8, 7, 6, 0, 1, 5] (by kernel_rfl) ?_
    refine ops_nil ?_
    refine fin_then ?_
    refine st_seq ?_
    refine st_region [(0, false), (1, false), (2, false), (3, false), (4, false), (5, false), (6, false), (7, false), (8, false)] (by rfl) ?_
    refine ops_run (is := [(0, false)]) (r := [(1, false), (2, false), (3, false), (4, false), (5, false), (6, false), (7, false), (8, false)]) (l' := [(55, .int .i64 ((((lo + hi) / 2) : Nat) : Int)), (8, .int .i64 ((((lo + hi) / 2) : Nat) : Int)), (7, .int .i64 (hi : Int)), (6, .int .i64 (lo : Int)), (0, .int .i64 u), (1, .int .i64 (0 - v)), (5, .int .i64 3)]) [55, 8, 7, 6, 0, 1, 5] (by kernel_rfl) ?_
    refine ops_call (σ := Unit) (d := some 56) (f := 21) (args := #[.int .i64 ((((lo + hi) / 2) : Nat) : Int)]) (v := fun _ => .int .i64 (firstV (16384 - ((lo + hi) / 2)))) (M' := fun _ => Mem w []) ⟨by kernel_rfl⟩ (fun w_ hM hS => (Cos_q ((lo + hi) / 2) w_ (by omega)).mono (by rintro e w' ⟨rfl, hb⟩; exact ⟨(), rfl, hM.step hb, trivial⟩)) (fun _ => ?_)
    refine ops_run (is := [(2, false), (3, false)]) (r := [(4, false), (5, false), (6, false), (7, false), (8, false)]) (l' := [(58, .int .i64 (IntKind.i64.wrap (firstV (16384 - ((lo + hi) / 2)) * u))), (8, .int .i64 ((((lo + hi) / 2) : Nat) : Int)), (7, .int .i64 (hi : Int)), (6, .int .i64 (lo : Int)), (0, .int .i64 u), (1, .int .i64 (0 - v)), (5, .int .i64 3)]) [58, 8, 7, 6, 0, 1, 5] (by kernel_rfl) ?_
    refine ops_conv (l' := [(58, .int .i64 (firstV (16384 - ((lo + hi) / 2)) * u)), (8, .int .i64 ((((lo + hi) / 2) : Nat) : Int)), (7, .int .i64 (hi : Int)), (6, .int .i64 (lo : Int)), (0, .int .i64 u), (1, .int .i64 (0 - v)), (5, .int .i64 3)]) (by rw [hp1]) (fun _ h => h) ?_
    refine ops_run (is := [(4, false)]) (r := [(5, false), (6, false), (7, false), (8, false)]) (l' := [(59, .int .i64 ((((lo + hi) / 2) : Nat) : Int)), (58, .int .i64 (firstV (16384 - ((lo + hi) / 2)) * u)), (8, .int .i64 ((((lo + hi) / 2) : Nat) : Int)), (7, .int .i64 (hi : Int)), (6, .int .i64 (lo : Int)), (0, .int .i64 u), (1, .int .i64 (0 - v)), (5, .int .i64 3)]) [59, 58, 8, 7, 6, 0, 1, 5] (by kernel_rfl) ?_
    refine ops_call (σ := Unit) (d := some 60) (f := 19) (args := #[.int .i64 ((((lo + hi) / 2) : Nat) : Int)]) (v := fun _ => .int .i64 (firstV ((lo + hi) / 2))) (M' := fun _ => Mem w []) ⟨by kernel_rfl⟩ (fun w_ hM hS => (Sin_q ((lo + hi) / 2) w_ (by omega)).mono (by rintro e w' ⟨rfl, hb⟩; exact ⟨(), rfl, hM.step hb, trivial⟩)) (fun _ => ?_)
    refine ops_run (is := [(6, false), (7, false)]) (r := [(8, false)]) (l' := [(62, .int .i64 (IntKind.i64.wrap (firstV ((lo + hi) / 2) * (0 - v)))), (58, .int .i64 (firstV (16384 - ((lo + hi) / 2)) * u)), (8, .int .i64 ((((lo + hi) / 2) : Nat) : Int)), (7, .int .i64 (hi : Int)), (6, .int .i64 (lo : Int)), (0, .int .i64 u), (1, .int .i64 (0 - v)), (5, .int .i64 3)]) [62, 58, 8, 7, 6, 0, 1, 5] (by kernel_rfl) ?_
    refine ops_conv (l' := [(62, .int .i64 (firstV ((lo + hi) / 2) * (0 - v))), (58, .int .i64 (firstV (16384 - ((lo + hi) / 2)) * u)), (8, .int .i64 ((((lo + hi) / 2) : Nat) : Int)), (7, .int .i64 (hi : Int)), (6, .int .i64 (lo : Int)), (0, .int .i64 u), (1, .int .i64 (0 - v)), (5, .int .i64 3)]) (by rw [hp2]) (fun _ h => h) ?_
    refine ops_run (is := [(8, false)]) (r := []) (l' := [(63, .bool (decide ((firstV ((lo + hi) / 2) * (0 - v)) ≤ (firstV (16384 - ((lo + hi) / 2)) * u)))), (8, .int .i64 ((((lo + hi) / 2) : Nat) : Int)), (7, .int .i64 (hi : Int)), (6, .int .i64 (lo : Int)), (0, .int .i64 u), (1, .int .i64 (0 - v)), (5, .int .i64 3)]) [63, 8, 7, 6, 0, 1, 5] (by kernel_rfl) ?_
    refine ops_nil ?_
    refine fin_then ?_
    refine st_if (b := decide ((firstV ((lo + hi) / 2) * (0 - v)) ≤ (firstV (16384 - ((lo + hi) / 2)) * u))) rfl (fun hc2 => ?_) (fun hc2 => ?_)
    · --
      refine st_region [(0, false), (1, false)] (by rfl) ?_
      refine ops_run (is := [(0, false), (1, false)]) (r := []) (l' := [(6, .int .i64 ((((lo + hi) / 2) : Nat) : Int)), (7, .int .i64 (hi : Int)), (0, .int .i64 u), (1, .int .i64 (0 - v)), (5, .int .i64 3)]) [6, 7, 0, 1, 5] (by kernel_rfl) ?_
      refine ops_nil ?_
      refine fin_block ?_
      refine fin_round (((lo + hi) / 2), hi) (by exact ⟨show ((lo + hi) / 2) < hi by omega, show hi ≤ 16384 by omega, of_decide_eq_true hc2, hhi⟩) (by (show hi - ((lo + hi) / 2) < hi - lo; omega)) (look_has ⟨rfl, rfl, rfl, rfl, rfl, trivial⟩) (fun w_ hM => by exact hM)
    · --
      refine st_region [(0, false), (1, false)] (by rfl) ?_
      refine ops_run (is := [(0, false), (1, false)]) (r := []) (l' := [(7, .int .i64 ((((lo + hi) / 2) : Nat) : Int)), (6, .int .i64 (lo : Int)), (0, .int .i64 u), (1, .int .i64 (0 - v)), (5, .int .i64 3)]) [7, 6, 0, 1, 5] (by kernel_rfl) ?_
      refine ops_nil ?_
      refine fin_block ?_
      refine fin_round (lo, ((lo + hi) / 2)) (by exact ⟨show lo < ((lo + hi) / 2) by omega, show ((lo + hi) / 2) ≤ 16384 by omega, hlo, .inr (of_decide_eq_false hc2)⟩) (by (show ((lo + hi) / 2) - lo < hi - lo; omega)) (look_has ⟨rfl, rfl, rfl, rfl, rfl, trivial⟩) (fun w_ hM => by exact hM)
  · --
    have hend : lo + 1 = hi := by have := of_decide_eq_false hc1; omega
    refine st_exit ?_
    refine fin_exit_then ?_
    refine fin_exit_then ?_
    refine fin_exit ?_
    refine fin_then ?_
    refine st_seq ?_
    refine st_region [(0, false), (1, false), (2, false), (3, false), (4, false)] (by rfl) ?_
    refine ops_run (is := [(0, false), (1, false), (2, false), (3, false)]) (r := [(4, false)]) (l' := [(69, .int .i64 (IntKind.i64.wrap (49152 + (lo : Int))))]) [69] (by kernel_rfl) ?_
    refine ops_conv (l' := [(69, .int .i64 (49152 + (lo : Int)))]) (by rw [(i64in (x := 49152 + (lo : Int)) (by omega) (by omega))]) (fun _ h => h) ?_
    refine ops_run (is := [(4, false)]) (r := []) (l' := [(4, .int .i64 (49152 + (lo : Int)))]) [4] (by kernel_rfl) ?_
    refine ops_nil ?_
    refine fin_then ?_
    refine st_ret ?_
    refine fin_ret [.tmp 4] [.int .i64 (49152 + (lo : Int))] rfl rfl (fun w_ hM => (.tmp rfl .nil)) (fun w_ hM => ?_)
    refine ⟨?_, hM.done⟩
    have z := ang_eq hX hY hlo (by omega) (by rcases hhi with h | h; (left; omega); right; rw [hend]; exact h)
    rw [← z]
    first | rfl | (simp only [theOne]; congr 2; omega)
end Go.Proofs.Ytdmlapkindoghaa.WAng
