/- Walks of fix.MulDiv and of the reference's Through. No condition. -/
import Derived.Test.YtioijglogoppnaaProg
import Derived.Test.YtioijglogoppnaaSxOps
import Derived.Test.YtioijglogoppnaaDivSpec
import Derived.Test.YtioijglogoppnaaWDiv
import Derived.Test.YtioijglogoppnaaWMul
import Derived.Test.YtioijglogoppnaaWClamp
import Derived.Test.YtioijglogoppnaaWNat
import Derived.Test.YtioijglogoppnaaWSharing
namespace Go.Proofs.Ytioijglogoppnaa.WThru
open Go Go.RowKit Go.Proofs.Ytioijglogoppnaa.Sx Go.Proofs.Ytioijglogoppnaa.Rnd Go.Proofs.Ytioijglogoppnaa.Nats Go.Proofs.Ytioijglogoppnaa.Trig Go.Proofs.Ytioijglogoppnaa.Vecs Go.Proofs.Ytioijglogoppnaa.Divs Go.Proofs.Ytioijglogoppnaa.WDiv Go.Proofs.Ytioijglogoppnaa.WMul Go.Proofs.Ytioijglogoppnaa.WClamp Go.Proofs.Ytioijglogoppnaa.WNat Go.Proofs.Ytioijglogoppnaa.WSharing
set_option linter.unusedVariables false
set_option linter.unusedSimpArgs false
theorem Clamp_as (a x : Int) (w : World) (h : min (max a (-1099511627776)) 1099511627776 = x) : Calls Try.prog 18 #[.int .i64 a] w fun e w' => e = .returned (.int .i64 x) ∧ Below w.heap.size w w' := by
  subst h; exact Clamp_calls a w
set_option maxHeartbeats 4000000 in
set_option maxRecDepth 100000 in
theorem fmag_calls (a : Int) (A : Nat) (w : World) (h : a.natAbs = A) (hM : A ≤ 1099511627776) : Calls Try.prog 93 #[.int .i64 a] w fun e w' => e = .returned (.int .u64 (A : Int)) ∧ Below w.heap.size w w' := by
  refine sx_calls Try.func93 rfl (n := 10) (by kernel_rfl) (l := [(0, .int .i64 a)]) rfl (by rfl) (Mem.nil w) ?_
  refine st_seq ?_
  refine st_region [(0, false)] (by rfl) ?_
  refine ops_run (is := [(0, false)]) (r := []) (l' := [(0, .int .i64 a)]) [0] (by kernel_rfl) ?_
  refine ops_nil ?_
  refine fin_then ?_
  refine st_seq ?_
  refine st_seq ?_
  refine st_region [(0, false), (1, false)] (by rfl) ?_
  refine ops_run (is := [(0, false), (1, false)]) (r := []) (l' := [(4, .bool (decide (a < 0))), (0, .int .i64 a)]) [4, 0] (by kernel_rfl) ?_
  refine ops_nil ?_
  refine fin_then ?_
  refine st_if (b := decide (a < 0)) rfl (fun hc1 => ?_) (fun hc1 => ?_)
  · --
    have : (a < 0) := of_decide_eq_true hc1
    refine st_seq ?_
    refine st_region [(0, false), (1, false), (2, false), (3, false)] (by rfl) ?_
    refine ops_run (is := [(0, false), (1, false)]) (r := [(2, false), (3, false)]) (l' := [(6, .int .i64 (IntKind.i64.wrap (0 - a)))]) [6] (by kernel_rfl) ?_
    refine ops_conv (l' := [(6, .int .i64 (0 - a))]) (by rw [(i64in (x := 0 - a) (by omega) (by omega))]) (fun _ h => h) ?_
    refine ops_run (is := [(2, false)]) (r := [(3, false)]) (l' := [(7, .int .u64 (IntKind.u64.wrap (0 - a)))]) [7] (by kernel_rfl) ?_
    refine ops_conv (l' := [(7, .int .u64 (A : Int))]) (by rw [(show IntKind.u64.wrap (0 - a) = (A : Int) by rw [w64_in (by omega) (by omega)]; omega)]) (fun _ h => h) ?_
    refine ops_run (is := [(3, false)]) (r := []) (l' := [(2, .int .u64 (A : Int))]) [2] (by kernel_rfl) ?_
    refine ops_nil ?_
    refine fin_then ?_
    refine st_ret ?_
    refine fin_ret_then ?_
    refine fin_ret [.tmp 2] [.int .u64 (A : Int)] rfl rfl (fun w_ hM => (.tmp rfl .nil)) (fun w_ hM => ?_)
    refine ⟨?_, hM.done⟩
    rfl
  · --
    have : ¬ (a < 0) := of_decide_eq_false hc1
    refine st_skip ?_
    refine fin_then ?_
    refine st_seq ?_
    refine st_region [(0, false), (1, false), (2, false)] (by rfl) ?_
    refine ops_run (is := [(0, false), (1, false)]) (r := [(2, false)]) (l' := [(9, .int .u64 (IntKind.u64.wrap a))]) [9] (by kernel_rfl) ?_
    refine ops_conv (l' := [(9, .int .u64 (A : Int))]) (by rw [(show IntKind.u64.wrap a = (A : Int) by rw [w64_in (by omega) (by omega)]; omega)]) (fun _ h => h) ?_
    refine ops_run (is := [(2, false)]) (r := []) (l' := [(2, .int .u64 (A : Int))]) [2] (by kernel_rfl) ?_
    refine ops_nil ?_
    refine fin_then ?_
    refine st_ret ?_
    refine fin_ret [.tmp 2] [.int .u64 (A : Int)] rfl rfl (fun w_ hM => (.tmp rfl .nil)) (fun w_ hM => ?_)
    refine ⟨?_, hM.done⟩
    rfl
theorem Mul_p (A B p : Nat) (w : World) (hp : A * B = p) (hA : A ≤ 1099511627776) (hB : B ≤ 1099511627776) : Calls Try.prog 94 #[.int .u64 (A : Int), .int .u64 (B : Int)] w fun e w' => e = .returned (.tuple #[.int .u64 ((p : Int) / 18446744073709551616), .int .u64 ((p : Int) % 18446744073709551616)]) ∧ Below w.heap.size w w' := by
  have h := Mul64_calls (A : Int) (B : Int) w (by omega) (by omega) (by omega) (by omega)
  rwa [show (A : Int) * (B : Int) = (p : Int) by rw [← hp]; simp] at h
theorem Div_p (p D q r : Nat) (w : World) (hq : p / D = q) (hr : p % D = r) (hD0 : 0 < D) (hD1 : D ≤ 1099511627776) (hlt : (p : Int) / 18446744073709551616 < (D : Int)) : Calls Try.prog 95 #[.int .u64 ((p : Int) / 18446744073709551616), .int .u64 ((p : Int) % 18446744073709551616), .int .u64 (D : Int)] w fun e w' => e = .returned (.tuple #[.int .u64 (q : Int), .int .u64 (r : Int)]) ∧ Below w.heap.size w w' := by
  have h := Div64_calls ((p : Int) / 18446744073709551616) ((p : Int) % 18446744073709551616) D w hD0 (by omega) (by omega) hlt (by omega) (by omega)
  rwa [show (p : Int) / 18446744073709551616 * 18446744073709551616 + (p : Int) % 18446744073709551616 = (p : Int) by omega, ← Int.natCast_ediv, ← Int.natCast_emod, hq, hr] at h
set_option maxHeartbeats 4000000 in
set_option maxRecDepth 100000 in
theorem MulDiv0 (a0 b0 c0 a b c : Int) (A B D p q r : Nat) (Q1 Q2 v : Int) (g1 g2 g3 : Bool) (w : World) (hT : Thru a b c A B D p q r Q1 Q2 v) (ha : min (max a0 (-1099511627776)) 1099511627776 = a) (hb : min (max b0 (-1099511627776)) 1099511627776 = b) (hc : min (max c0 (-1099511627776)) 1099511627776 = c) (hg1 : decide (a < 0) = g1) (hg2 : (if b < 0 then !g1 else g1) = g2) (hg3 : (if c < 0 then !g2 else g2) = g3) : Calls Try.prog 25 #[.int .i64 a0, .int .i64 b0, .int .i64 c0] w fun e w' => e = .returned (.int .i64 v) ∧ Below w.heap.size w w' := by
  obtain ⟨hA, hB, hD, hp, hD0, hq, hr, hAM, hBM, hDM, ⟨hq1a, hq1b⟩, ⟨hq2a, hq2b⟩, hneg, hpos⟩ := hT
  have hrD : r < D := hr ▸ Nat.mod_lt _ hD0
  have hQ1 : Q1 = (q : Int) ∨ Q1 = (q : Int) + 1 := by omega
  have hQ2 : Q2 = (q : Int) ∨ Q2 = (q : Int) + 1 := by omega
  have hgi := sign3 hg1 hg2 hg3
  have hvn : g3 = true → v = -(min Q2 1099511627776) := fun h => hneg (hgi.1 h)
  have hvp : g3 = false → v = min Q1 1099511627776 := fun h => hpos (fun e => by rw [hgi.2 e] at h; cases h)
  clear hneg hpos
  refine sx_calls Try.func25 rfl (n := 78) (by kernel_rfl) (l := [(0, .int .i64 a0), (1, .int .i64 b0), (2, .int .i64 c0)]) rfl (by rfl) (Mem.nil w) ?_
  refine st_seq ?_
  refine st_region [(0, false)] (by rfl) ?_
  refine ops_run (is := [(0, false)]) (r := []) (l' := [(0, .int .i64 a0), (1, .int .i64 b0), (2, .int .i64 c0)]) [0, 1, 2] (by kernel_rfl) ?_
  refine ops_nil ?_
  refine fin_then ?_
  refine st_seq ?_
  refine st_region [(0, false), (1, false), (2, false), (3, false), (4, false), (5, false), (6, false), (7, false), (8, false)] (by rfl) ?_
  refine ops_run (is := [(0, false)]) (r := [(1, false), (2, false), (3, false), (4, false), (5, false), (6, false), (7, false), (8, false)]) (l' := [(14, .int .i64 a0), (0, .int .i64 a0), (1, .int .i64 b0), (2, .int .i64 c0)]) [14, 0, 1, 2] (by kernel_rfl) ?_
  refine ops_call (σ := Unit) (d := some 15) (f := 18) (args := #[.int .i64 a0]) (v := fun _ => .int .i64 a) (M' := fun _ => Mem w []) ⟨by kernel_rfl⟩ (fun w_ hM hS => (Clamp_as a0 a w_ ha).mono (by rintro e w' ⟨rfl, hb⟩; exact ⟨(), rfl, hM.step hb, trivial⟩)) (fun _ => ?_)
  refine ops_run (is := [(2, false)]) (r := [(3, false), (4, false), (5, false), (6, false), (7, false), (8, false)]) (l' := [(16, .int .i64 b0), (15, .int .i64 a), (0, .int .i64 a0), (1, .int .i64 b0), (2, .int .i64 c0)]) [16, 15, 0, 1, 2] (by kernel_rfl) ?_
  refine ops_call (σ := Unit) (d := some 17) (f := 18) (args := #[.int .i64 b0]) (v := fun _ => .int .i64 b) (M' := fun _ => Mem w []) ⟨by kernel_rfl⟩ (fun w_ hM hS => (Clamp_as b0 b w_ hb).mono (by rintro e w' ⟨rfl, hb⟩; exact ⟨(), rfl, hM.step hb, trivial⟩)) (fun _ => ?_)
  refine ops_run (is := [(4, false)]) (r := [(5, false), (6, false), (7, false), (8, false)]) (l' := [(18, .int .i64 c0), (17, .int .i64 b), (15, .int .i64 a), (0, .int .i64 a0), (1, .int .i64 b0), (2, .int .i64 c0)]) [18, 17, 15, 0, 1, 2] (by kernel_rfl) ?_
  refine ops_call (σ := Unit) (d := some 19) (f := 18) (args := #[.int .i64 c0]) (v := fun _ => .int .i64 c) (M' := fun _ => Mem w []) ⟨by kernel_rfl⟩ (fun w_ hM hS => (Clamp_as c0 c w_ hc).mono (by rintro e w' ⟨rfl, hb⟩; exact ⟨(), rfl, hM.step hb, trivial⟩)) (fun _ => ?_)
  refine ops_run (is := [(6, false), (7, false), (8, false)]) (r := []) (l' := [(2, .int .i64 c), (1, .int .i64 b), (0, .int .i64 a)]) [2, 1, 0] (by kernel_rfl) ?_
  refine ops_nil ?_
  refine fin_then ?_
  refine st_seq ?_
  refine st_seq ?_
  refine st_region [(0, false), (1, false)] (by rfl) ?_
  refine ops_run (is := [(0, false), (1, false)]) (r := []) (l' := [(21, .bool (c == 0)), (2, .int .i64 c), (1, .int .i64 b), (0, .int .i64 a)]) [21, 2, 1, 0] (by kernel_rfl) ?_
  refine ops_nil ?_
  refine fin_then ?_
  refine st_conv (l' := [(21, .bool false), (2, .int .i64 c), (1, .int .i64 b), (0, .int .i64 a)]) (by rw [(show (c == 0) = false by simp; omega)]) (fun _ h => h) ?_
  refine st_false rfl ?_
  refine st_skip ?_
  refine fin_then ?_
  refine st_seq ?_
  refine st_region [(0, false), (1, false), (2, false)] (by rfl) ?_
  refine ops_run (is := [(0, false), (1, false), (2, false)]) (r := []) (l' := [(7, .bool (decide (a < 0))), (2, .int .i64 c), (1, .int .i64 b), (0, .int .i64 a)]) [7, 2, 1, 0] (by kernel_rfl) ?_
  refine ops_nil ?_
  refine fin_then ?_
  refine st_seq_cut (σ := Unit) (fun _ => [(7, .bool g2), (2, .int .i64 c), (1, .int .i64 b), (0, .int .i64 a)]) (fun _ => Mem w []) ?_ ?_
  · --
    refine st_seq ?_
    refine st_region [(0, false), (1, false)] (by rfl) ?_
    refine ops_run (is := [(0, false), (1, false)]) (r := []) (l' := [(25, .bool (decide (b < 0))), (7, .bool (decide (a < 0))), (2, .int .i64 c), (1, .int .i64 b), (0, .int .i64 a)]) [25, 7, 2, 1, 0] (by kernel_rfl) ?_
    refine ops_nil ?_
    refine fin_then ?_
    refine st_if (b := decide (b < 0)) rfl (fun hc1 => ?_) (fun hc1 => ?_)
    · --
      have : (b < 0) := of_decide_eq_true hc1
      refine st_region [(0, false), (1, false), (2, false)] (by rfl) ?_
      refine ops_run (is := [(0, false), (1, false), (2, false)]) (r := []) (l' := [(7, .bool (!(decide (a < 0)))), (2, .int .i64 c), (1, .int .i64 b), (0, .int .i64 a)]) [7, 2, 1, 0] (by kernel_rfl) ?_
      refine ops_nil ?_
      have hgn : (!(decide (a < 0))) = g2 := by rw [← hg2]; first | (simp [this]; done) | (rw [hg1]; simp [this])
      refine fin_conv (l' := [(7, .bool g2), (2, .int .i64 c), (1, .int .i64 b), (0, .int .i64 a)]) (M' := Mem w []) (by rw [hgn]) (fun w_ hM => hM) ?_
      exact fin_cut () (look_has ⟨rfl, rfl, rfl, rfl, trivial⟩) (fun w_ hM => hM)
    · --
      have : ¬ (b < 0) := of_decide_eq_false hc1
      refine st_skip ?_
      have hgn : (decide (a < 0)) = g2 := by rw [← hg2]; first | (simp [this]; done) | (rw [hg1]; simp [this])
      refine fin_conv (l' := [(25, .bool (decide (b < 0))), (7, .bool g2), (2, .int .i64 c), (1, .int .i64 b), (0, .int .i64 a)]) (M' := Mem w []) (by rw [hgn]) (fun w_ hM => hM) ?_
      exact fin_cut () (look_has ⟨rfl, rfl, rfl, rfl, trivial⟩) (fun w_ hM => hM)
  · --
    intro _
    refine st_seq_cut (σ := Unit) (fun _ => [(7, .bool g3), (2, .int .i64 c), (1, .int .i64 b), (0, .int .i64 a)]) (fun _ => Mem w []) ?_ ?_
    · --
      refine st_seq ?_
      refine st_region [(0, false), (1, false)] (by rfl) ?_
      refine ops_run (is := [(0, false), (1, false)]) (r := []) (l' := [(29, .bool (decide (c < 0))), (7, .bool g2), (2, .int .i64 c), (1, .int .i64 b), (0, .int .i64 a)]) [29, 7, 2, 1, 0] (by kernel_rfl) ?_
      refine ops_nil ?_
      refine fin_then ?_
      refine st_if (b := decide (c < 0)) rfl (fun hc2 => ?_) (fun hc2 => ?_)
      · --
        have : (c < 0) := of_decide_eq_true hc2
        refine st_region [(0, false), (1, false), (2, false)] (by rfl) ?_
        refine ops_run (is := [(0, false), (1, false), (2, false)]) (r := []) (l' := [(7, .bool (!g2)), (2, .int .i64 c), (1, .int .i64 b), (0, .int .i64 a)]) [7, 2, 1, 0] (by kernel_rfl) ?_
        refine ops_nil ?_
        have hgn : (!g2) = g3 := by rw [← hg3]; first | (simp [this]; done) | (rw [hg1]; simp [this])
        refine fin_conv (l' := [(7, .bool g3), (2, .int .i64 c), (1, .int .i64 b), (0, .int .i64 a)]) (M' := Mem w []) (by rw [hgn]) (fun w_ hM => hM) ?_
        exact fin_cut () (look_has ⟨rfl, rfl, rfl, rfl, trivial⟩) (fun w_ hM => hM)
      · --
        have : ¬ (c < 0) := of_decide_eq_false hc2
        refine st_skip ?_
        have hgn : (g2) = g3 := by rw [← hg3]; first | (simp [this]; done) | (rw [hg1]; simp [this])
        refine fin_conv (l' := [(29, .bool (decide (c < 0))), (7, .bool g3), (2, .int .i64 c), (1, .int .i64 b), (0, .int .i64 a)]) (M' := Mem w []) (by rw [hgn]) (fun w_ hM => hM) ?_
        exact fin_cut () (look_has ⟨rfl, rfl, rfl, rfl, trivial⟩) (fun w_ hM => hM)
    · --
      intro _
      refine st_seq ?_
      refine st_region [(0, false), (1, false), (2, false)] (by rfl) ?_
      refine ops_run (is := [(0, false)]) (r := [(1, false), (2, false)]) (l' := [(32, .int .i64 c), (7, .bool g3), (1, .int .i64 b), (0, .int .i64 a)]) [32, 7, 1, 0] (by kernel_rfl) ?_
      refine ops_call (σ := Unit) (d := some 33) (f := 93) (args := #[.int .i64 c]) (v := fun _ => .int .u64 (D : Int)) (M' := fun _ => Mem w []) ⟨by kernel_rfl⟩ (fun w_ hM hS => (fmag_calls c D w_ hD (by omega)).mono (by rintro e w' ⟨rfl, hb⟩; exact ⟨(), rfl, hM.step hb, trivial⟩)) (fun _ => ?_)
      refine ops_run (is := [(2, false)]) (r := []) (l' := [(8, .int .u64 (D : Int)), (7, .bool g3), (1, .int .i64 b), (0, .int .i64 a)]) [8, 7, 1, 0] (by kernel_rfl) ?_
      refine ops_nil ?_
      refine fin_then ?_
      refine st_seq ?_
      refine st_region [(0, false), (1, false), (2, false), (3, false), (4, false), (5, false), (6, false), (7, false), (8, false), (9, false)] (by rfl) ?_
      refine ops_run (is := [(0, false)]) (r := [(1, false), (2, false), (3, false), (4, false), (5, false), (6, false), (7, false), (8, false), (9, false)]) (l' := [(35, .int .i64 a), (8, .int .u64 (D : Int)), (7, .bool g3), (1, .int .i64 b)]) [35, 8, 7, 1] (by kernel_rfl) ?_
      refine ops_call (σ := Unit) (d := some 36) (f := 93) (args := #[.int .i64 a]) (v := fun _ => .int .u64 (A : Int)) (M' := fun _ => Mem w []) ⟨by kernel_rfl⟩ (fun w_ hM hS => (fmag_calls a A w_ hA (by omega)).mono (by rintro e w' ⟨rfl, hb⟩; exact ⟨(), rfl, hM.step hb, trivial⟩)) (fun _ => ?_)
      refine ops_run (is := [(2, false)]) (r := [(3, false), (4, false), (5, false), (6, false), (7, false), (8, false), (9, false)]) (l' := [(37, .int .i64 b), (36, .int .u64 (A : Int)), (8, .int .u64 (D : Int)), (7, .bool g3)]) [37, 36, 8, 7] (by kernel_rfl) ?_
      refine ops_call (σ := Unit) (d := some 38) (f := 93) (args := #[.int .i64 b]) (v := fun _ => .int .u64 (B : Int)) (M' := fun _ => Mem w []) ⟨by kernel_rfl⟩ (fun w_ hM hS => (fmag_calls b B w_ hB (by omega)).mono (by rintro e w' ⟨rfl, hb⟩; exact ⟨(), rfl, hM.step hb, trivial⟩)) (fun _ => ?_)
      refine ops_run (is := []) (r := [(4, false), (5, false), (6, false), (7, false), (8, false), (9, false)]) (l' := [(38, .int .u64 (B : Int)), (36, .int .u64 (A : Int)), (8, .int .u64 (D : Int)), (7, .bool g3)]) [38, 36, 8, 7] (by kernel_rfl) ?_
      refine ops_call (σ := Unit) (d := some 39) (f := 94) (args := #[.int .u64 (A : Int), .int .u64 (B : Int)]) (v := fun _ => .tuple #[.int .u64 ((p : Int) / 18446744073709551616), .int .u64 ((p : Int) % 18446744073709551616)]) (M' := fun _ => Mem w []) ⟨by kernel_rfl⟩ (fun w_ hM hS => (Mul_p A B p w_ hp hAM hBM).mono (by rintro e w' ⟨rfl, hb⟩; exact ⟨(), rfl, hM.step hb, trivial⟩)) (fun _ => ?_)
      refine ops_run (is := [(5, false), (6, false), (7, false), (8, false), (9, false)]) (r := []) (l' := [(10, .int .u64 ((p : Int) % 18446744073709551616)), (9, .int .u64 ((p : Int) / 18446744073709551616)), (8, .int .u64 (D : Int)), (7, .bool g3)]) [10, 9, 8, 7] (by kernel_rfl) ?_
      refine ops_nil ?_
      refine fin_then ?_
      refine st_seq ?_
      refine st_seq ?_
      refine st_region [(0, false), (1, false), (2, false)] (by rfl) ?_
      refine ops_run (is := [(0, false), (1, false), (2, false)]) (r := []) (l' := [(44, .bool (decide ((D : Int) ≤ ((p : Int) / 18446744073709551616)))), (10, .int .u64 ((p : Int) % 18446744073709551616)), (9, .int .u64 ((p : Int) / 18446744073709551616)), (8, .int .u64 (D : Int)), (7, .bool g3)]) [44, 10, 9, 8, 7] (by kernel_rfl) ?_
      refine ops_nil ?_
      refine fin_then ?_
      refine st_if (b := decide ((D : Int) ≤ ((p : Int) / 18446744073709551616))) rfl (fun hc3 => ?_) (fun hc3 => ?_)
      · --
        have : ((D : Int) ≤ ((p : Int) / 18446744073709551616)) := of_decide_eq_true hc3
        have hqb : 18446744073709551616 ≤ q := by rw [← hq]; exact (Nat.le_div_iff_mul_le hD0).2 (by omega)
        refine st_seq ?_
        refine st_seq ?_
        refine st_region [(0, false)] (by rfl) ?_
        refine ops_run (is := [(0, false)]) (r := []) (l' := [(45, .bool g3)]) [45] (by kernel_rfl) ?_
        refine ops_nil ?_
        refine fin_then ?_
        refine st_if (b := g3) rfl (fun hc4 => ?_) (fun hc4 => ?_)
        · --
          have hv := hvn (by simpa using hc4)
          refine st_seq ?_
          refine st_region [(0, false)] (by rfl) ?_
          refine ops_run (is := [(0, false)]) (r := []) (l' := [(6, .int .i64 (-1099511627776))]) [6] (by kernel_rfl) ?_
          refine ops_nil ?_
          refine fin_then ?_
          refine st_ret ?_
          refine fin_ret_then ?_
          refine fin_ret_then ?_
          refine fin_ret [.tmp 6] [.int .i64 (-1099511627776)] rfl rfl (fun w_ hM => (.tmp rfl .nil)) (fun w_ hM => ?_)
          refine ⟨congrArg (fun z => Ending.returned (.int .i64 z)) ?_, hM.done⟩
          clear ha hb hc hA hB hD hgi hg1 hg2 hg3 hvn hvp hp hq hr hAM hBM
          omega
        · --
          have hv := hvp (by simpa using hc4)
          refine st_skip ?_
          refine fin_then ?_
          refine st_seq ?_
          refine st_region [(0, false)] (by rfl) ?_
          refine ops_run (is := [(0, false)]) (r := []) (l' := [(6, .int .i64 1099511627776)]) [6] (by kernel_rfl) ?_
          refine ops_nil ?_
          refine fin_then ?_
          refine st_ret ?_
          refine fin_ret_then ?_
          refine fin_ret [.tmp 6] [.int .i64 1099511627776] rfl rfl (fun w_ hM => (.tmp rfl .nil)) (fun w_ hM => ?_)
          refine ⟨congrArg (fun z => Ending.returned (.int .i64 z)) ?_, hM.done⟩
          clear ha hb hc hA hB hD hgi hg1 hg2 hg3 hvn hvp hp hq hr hAM hBM
          omega
      · --
        have : ¬ ((D : Int) ≤ ((p : Int) / 18446744073709551616)) := of_decide_eq_false hc3
        have hqb : q < 18446744073709551616 := by rw [← hq]; exact (Nat.div_lt_iff_lt_mul hD0).2 (by omega)
        have hlt : (p : Int) / 18446744073709551616 < (D : Int) := by omega
        refine st_skip ?_
        refine fin_then ?_
        refine st_seq ?_
        refine st_region [(0, false), (1, false), (2, false), (3, false), (4, false), (5, false), (6, false), (7, false), (8, false)] (by rfl) ?_
        refine ops_run (is := [(0, false), (1, false), (2, false)]) (r := [(3, false), (4, false), (5, false), (6, false), (7, false), (8, false)]) (l' := [(49, .int .u64 (D : Int)), (48, .int .u64 ((p : Int) % 18446744073709551616)), (47, .int .u64 ((p : Int) / 18446744073709551616)), (8, .int .u64 (D : Int)), (7, .bool g3)]) [49, 48, 47, 8, 7] (by kernel_rfl) ?_
        refine ops_call (σ := Unit) (d := some 50) (f := 95) (args := #[.int .u64 ((p : Int) / 18446744073709551616), .int .u64 ((p : Int) % 18446744073709551616), .int .u64 (D : Int)]) (v := fun _ => .tuple #[.int .u64 (q : Int), .int .u64 (r : Int)]) (M' := fun _ => Mem w []) ⟨by kernel_rfl⟩ (fun w_ hM hS => (Div_p p D q r w_ hq hr hD0 hDM hlt).mono (by rintro e w' ⟨rfl, hb⟩; exact ⟨(), rfl, hM.step hb, trivial⟩)) (fun _ => ?_)
        refine ops_run (is := [(4, false), (5, false), (6, false), (7, false), (8, false)]) (r := []) (l' := [(12, .int .u64 (r : Int)), (11, .int .u64 (q : Int)), (8, .int .u64 (D : Int)), (7, .bool g3)]) [12, 11, 8, 7] (by kernel_rfl) ?_
        refine ops_nil ?_
        refine fin_then ?_
        refine st_seq ?_
        refine st_seq ?_
        refine st_region [(0, false), (1, false)] (by rfl) ?_
        refine ops_run (is := [(0, false), (1, false)]) (r := []) (l' := [(54, .bool (decide (1099511627776 < (q : Int)))), (12, .int .u64 (r : Int)), (11, .int .u64 (q : Int)), (8, .int .u64 (D : Int)), (7, .bool g3)]) [54, 12, 11, 8, 7] (by kernel_rfl) ?_
        refine ops_nil ?_
        refine fin_then ?_
        refine st_if (b := decide (1099511627776 < (q : Int))) rfl (fun hc5 => ?_) (fun hc5 => ?_)
        · --
          have : (1099511627776 < (q : Int)) := of_decide_eq_true hc5
          refine st_seq ?_
          refine st_region [(0, false)] (by rfl) ?_
          refine ops_run (is := [(0, false)]) (r := []) (l' := [(11, .int .u64 1099511627777), (8, .int .u64 (D : Int)), (7, .bool g3)]) [11, 8, 7] (by kernel_rfl) ?_
          refine ops_nil ?_
          refine fin_then ?_
          refine st_region [(0, false)] (by rfl) ?_
          refine ops_run (is := [(0, false)]) (r := []) (l' := [(12, .int .u64 0), (11, .int .u64 1099511627777), (8, .int .u64 (D : Int)), (7, .bool g3)]) [12, 11, 8, 7] (by kernel_rfl) ?_
          refine ops_nil ?_
          refine fin_then ?_
          refine st_seq ?_
          refine st_region [(0, false), (1, false), (2, false)] (by rfl) ?_
          refine ops_run (is := [(0, false), (1, false), (2, false)]) (r := []) (l' := [(13, .int .i64 1099511627777), (12, .int .u64 0), (8, .int .u64 (D : Int)), (7, .bool g3)]) [13, 12, 8, 7] (by kernel_rfl) ?_
          refine ops_nil ?_
          refine fin_then ?_
          refine st_seq ?_
          refine st_seq ?_
          refine st_region [(0, false), (1, false)] (by rfl) ?_
          refine ops_run (is := [(0, false), (1, false)]) (r := []) (l' := [(58, .bool (!g3)), (13, .int .i64 1099511627777), (12, .int .u64 0), (8, .int .u64 (D : Int))]) [58, 13, 12, 8] (by kernel_rfl) ?_
          refine ops_nil ?_
          refine fin_then ?_
          refine st_if (b := !g3) rfl (fun hc6 => ?_) (fun hc6 => ?_)
          · --
            have hv := hvp (by simpa using hc6)
            refine st_seq ?_
            refine st_seq ?_
            refine st_region [(0, false), (1, false), (2, false), (3, false), (4, false)] (by rfl) ?_
            refine ops_run (is := [(0, false), (1, false), (2, false), (3, false)]) (r := [(4, false)]) (l' := [(62, .int .u64 (IntKind.u64.wrap ((D : Int) - 0))), (59, .int .u64 0), (13, .int .i64 1099511627777)]) [62, 59, 13] (by kernel_rfl) ?_
            refine ops_conv (l' := [(62, .int .u64 ((D : Int) - 0)), (59, .int .u64 0), (13, .int .i64 1099511627777)]) (by rw [(w64_in (x := (D : Int) - 0) (by omega) (by omega))]) (fun _ h => h) ?_
            refine ops_run (is := [(4, false)]) (r := []) (l' := [(63, .bool (decide (((D : Int) - 0) ≤ 0))), (13, .int .i64 1099511627777)]) [63, 13] (by kernel_rfl) ?_
            refine ops_nil ?_
            refine fin_then ?_
            refine st_if (b := decide (((D : Int) - 0) ≤ 0)) rfl (fun hc7 => ?_) (fun hc7 => ?_)
            · --
              have : (((D : Int) - 0) ≤ 0) := of_decide_eq_true hc7
              refine st_region [(0, false), (1, false), (2, false)] (by rfl) ?_
              refine ops_run (is := [(0, false), (1, false), (2, false)]) (r := []) (l' := [(13, .int .i64 1099511627778)]) [13] (by kernel_rfl) ?_
              refine ops_nil ?_
              refine fin_then ?_
              refine st_seq ?_
              refine st_region [(0, false), (1, false), (2, false)] (by rfl) ?_
              refine ops_run (is := [(0, false)]) (r := [(1, false), (2, false)]) (l' := [(66, .int .i64 1099511627778)]) [66] (by kernel_rfl) ?_
              refine ops_call (σ := Unit) (d := some 67) (f := 18) (args := #[.int .i64 1099511627778]) (v := fun _ => .int .i64 (min (max 1099511627778 (-1099511627776)) 1099511627776)) (M' := fun _ => Mem w []) ⟨by kernel_rfl⟩ (fun w_ hM hS => (Clamp_calls 1099511627778 w_).mono (by rintro e w' ⟨rfl, hb⟩; exact ⟨(), rfl, hM.step hb, trivial⟩)) (fun _ => ?_)
              refine ops_run (is := [(2, false)]) (r := []) (l' := [(6, .int .i64 (min (max 1099511627778 (-1099511627776)) 1099511627776))]) [6] (by kernel_rfl) ?_
              refine ops_nil ?_
              refine fin_then ?_
              refine st_ret ?_
              refine fin_ret_then ?_
              refine fin_ret [.tmp 6] [.int .i64 (min (max 1099511627778 (-1099511627776)) 1099511627776)] rfl rfl (fun w_ hM => (.tmp rfl .nil)) (fun w_ hM => ?_)
              refine ⟨congrArg (fun z => Ending.returned (.int .i64 z)) ?_, hM.done⟩
              clear ha hb hc hA hB hD hgi hg1 hg2 hg3 hvn hvp hp hq hr hAM hBM
              omega
            · --
              have : ¬ (((D : Int) - 0) ≤ 0) := of_decide_eq_false hc7
              refine st_skip ?_
              refine fin_then ?_
              refine st_seq ?_
              refine st_region [(0, false), (1, false), (2, false)] (by rfl) ?_
              refine ops_run (is := [(0, false)]) (r := [(1, false), (2, false)]) (l' := [(66, .int .i64 1099511627777)]) [66] (by kernel_rfl) ?_
              refine ops_call (σ := Unit) (d := some 67) (f := 18) (args := #[.int .i64 1099511627777]) (v := fun _ => .int .i64 (min (max 1099511627777 (-1099511627776)) 1099511627776)) (M' := fun _ => Mem w []) ⟨by kernel_rfl⟩ (fun w_ hM hS => (Clamp_calls 1099511627777 w_).mono (by rintro e w' ⟨rfl, hb⟩; exact ⟨(), rfl, hM.step hb, trivial⟩)) (fun _ => ?_)
              refine ops_run (is := [(2, false)]) (r := []) (l' := [(6, .int .i64 (min (max 1099511627777 (-1099511627776)) 1099511627776))]) [6] (by kernel_rfl) ?_
              refine ops_nil ?_
              refine fin_then ?_
              refine st_ret ?_
              refine fin_ret_then ?_
              refine fin_ret [.tmp 6] [.int .i64 (min (max 1099511627777 (-1099511627776)) 1099511627776)] rfl rfl (fun w_ hM => (.tmp rfl .nil)) (fun w_ hM => ?_)
              refine ⟨congrArg (fun z => Ending.returned (.int .i64 z)) ?_, hM.done⟩
              clear ha hb hc hA hB hD hgi hg1 hg2 hg3 hvn hvp hp hq hr hAM hBM
              omega
          · --
            have hv := hvn (by simpa using hc6)
            refine st_skip ?_
            refine fin_then ?_
            refine st_seq ?_
            refine st_seq ?_
            refine st_region [(0, false), (1, false), (2, false), (3, false), (4, false)] (by rfl) ?_
            refine ops_run (is := [(0, false), (1, false), (2, false), (3, false)]) (r := [(4, false)]) (l' := [(71, .int .u64 (IntKind.u64.wrap ((D : Int) - 0))), (68, .int .u64 0), (13, .int .i64 1099511627777)]) [71, 68, 13] (by kernel_rfl) ?_
            refine ops_conv (l' := [(71, .int .u64 ((D : Int) - 0)), (68, .int .u64 0), (13, .int .i64 1099511627777)]) (by rw [(w64_in (x := (D : Int) - 0) (by omega) (by omega))]) (fun _ h => h) ?_
            refine ops_run (is := [(4, false)]) (r := []) (l' := [(72, .bool (decide (((D : Int) - 0) < 0))), (13, .int .i64 1099511627777)]) [72, 13] (by kernel_rfl) ?_
            refine ops_nil ?_
            refine fin_then ?_
            refine st_if (b := decide (((D : Int) - 0) < 0)) rfl (fun hc8 => ?_) (fun hc8 => ?_)
            · --
              have : (((D : Int) - 0) < 0) := of_decide_eq_true hc8
              refine st_region [(0, false), (1, false), (2, false)] (by rfl) ?_
              refine ops_run (is := [(0, false), (1, false), (2, false)]) (r := []) (l' := [(13, .int .i64 1099511627778)]) [13] (by kernel_rfl) ?_
              refine ops_nil ?_
              refine fin_then ?_
              refine st_seq ?_
              refine st_region [(0, false), (1, false), (2, false), (3, false)] (by rfl) ?_
              refine ops_run (is := [(0, false), (1, false)]) (r := [(2, false), (3, false)]) (l' := [(76, .int .i64 (-1099511627778))]) [76] (by kernel_rfl) ?_
              refine ops_call (σ := Unit) (d := some 77) (f := 18) (args := #[.int .i64 (-1099511627778)]) (v := fun _ => .int .i64 (min (max (-1099511627778) (-1099511627776)) 1099511627776)) (M' := fun _ => Mem w []) ⟨by kernel_rfl⟩ (fun w_ hM hS => (Clamp_calls (-1099511627778) w_).mono (by rintro e w' ⟨rfl, hb⟩; exact ⟨(), rfl, hM.step hb, trivial⟩)) (fun _ => ?_)
              refine ops_run (is := [(3, false)]) (r := []) (l' := [(6, .int .i64 (min (max (-1099511627778) (-1099511627776)) 1099511627776))]) [6] (by kernel_rfl) ?_
              refine ops_nil ?_
              refine fin_then ?_
              refine st_ret ?_
              refine fin_ret [.tmp 6] [.int .i64 (min (max (-1099511627778) (-1099511627776)) 1099511627776)] rfl rfl (fun w_ hM => (.tmp rfl .nil)) (fun w_ hM => ?_)
              refine ⟨congrArg (fun z => Ending.returned (.int .i64 z)) ?_, hM.done⟩
              clear ha hb hc hA hB hD hgi hg1 hg2 hg3 hvn hvp hp hq hr hAM hBM
              omega
            · --
              have : ¬ (((D : Int) - 0) < 0) := of_decide_eq_false hc8
              refine st_skip ?_
              refine fin_then ?_
              refine st_seq ?_
              refine st_region [(0, false), (1, false), (2, false), (3, false)] (by rfl) ?_
              refine ops_run (is := [(0, false), (1, false)]) (r := [(2, false), (3, false)]) (l' := [(76, .int .i64 (-1099511627777))]) [76] (by kernel_rfl) ?_
              refine ops_call (σ := Unit) (d := some 77) (f := 18) (args := #[.int .i64 (-1099511627777)]) (v := fun _ => .int .i64 (min (max (-1099511627777) (-1099511627776)) 1099511627776)) (M' := fun _ => Mem w []) ⟨by kernel_rfl⟩ (fun w_ hM hS => (Clamp_calls (-1099511627777) w_).mono (by rintro e w' ⟨rfl, hb⟩; exact ⟨(), rfl, hM.step hb, trivial⟩)) (fun _ => ?_)
              refine ops_run (is := [(3, false)]) (r := []) (l' := [(6, .int .i64 (min (max (-1099511627777) (-1099511627776)) 1099511627776))]) [6] (by kernel_rfl) ?_
              refine ops_nil ?_
              refine fin_then ?_
              refine st_ret ?_
              refine fin_ret [.tmp 6] [.int .i64 (min (max (-1099511627777) (-1099511627776)) 1099511627776)] rfl rfl (fun w_ hM => (.tmp rfl .nil)) (fun w_ hM => ?_)
              refine ⟨congrArg (fun z => Ending.returned (.int .i64 z)) ?_, hM.done⟩
              clear ha hb hc hA hB hD hgi hg1 hg2 hg3 hvn hvp hp hq hr hAM hBM
              omega
        · --
          have : ¬ (1099511627776 < (q : Int)) := of_decide_eq_false hc5
          refine st_skip ?_
          refine fin_then ?_
          refine st_seq ?_
          refine st_region [(0, false), (1, false), (2, false)] (by rfl) ?_
          refine ops_run (is := [(0, false), (1, false)]) (r := [(2, false)]) (l' := [(56, .int .i64 (IntKind.i64.wrap (q : Int))), (12, .int .u64 (r : Int)), (8, .int .u64 (D : Int)), (7, .bool g3)]) [56, 12, 8, 7] (by kernel_rfl) ?_
          refine ops_conv (l' := [(56, .int .i64 (q : Int)), (12, .int .u64 (r : Int)), (8, .int .u64 (D : Int)), (7, .bool g3)]) (by rw [(i64in (x := (q : Int)) (by omega) (by omega))]) (fun _ h => h) ?_
          refine ops_run (is := [(2, false)]) (r := []) (l' := [(13, .int .i64 (q : Int)), (12, .int .u64 (r : Int)), (8, .int .u64 (D : Int)), (7, .bool g3)]) [13, 12, 8, 7] (by kernel_rfl) ?_
          refine ops_nil ?_
          refine fin_then ?_
          refine st_seq ?_
          refine st_seq ?_
          refine st_region [(0, false), (1, false)] (by rfl) ?_
          refine ops_run (is := [(0, false), (1, false)]) (r := []) (l' := [(58, .bool (!g3)), (13, .int .i64 (q : Int)), (12, .int .u64 (r : Int)), (8, .int .u64 (D : Int))]) [58, 13, 12, 8] (by kernel_rfl) ?_
          refine ops_nil ?_
          refine fin_then ?_
          refine st_if (b := !g3) rfl (fun hc9 => ?_) (fun hc9 => ?_)
          · --
            have hv := hvp (by simpa using hc9)
            refine st_seq ?_
            refine st_seq ?_
            refine st_region [(0, false), (1, false), (2, false), (3, false), (4, false)] (by rfl) ?_
            refine ops_run (is := [(0, false), (1, false), (2, false), (3, false)]) (r := [(4, false)]) (l' := [(62, .int .u64 (IntKind.u64.wrap ((D : Int) - (r : Int)))), (59, .int .u64 (r : Int)), (13, .int .i64 (q : Int))]) [62, 59, 13] (by kernel_rfl) ?_
            refine ops_conv (l' := [(62, .int .u64 ((D : Int) - (r : Int))), (59, .int .u64 (r : Int)), (13, .int .i64 (q : Int))]) (by rw [(w64_in (x := (D : Int) - (r : Int)) (by omega) (by omega))]) (fun _ h => h) ?_
            refine ops_run (is := [(4, false)]) (r := []) (l' := [(63, .bool (decide (((D : Int) - (r : Int)) ≤ (r : Int)))), (13, .int .i64 (q : Int))]) [63, 13] (by kernel_rfl) ?_
            refine ops_nil ?_
            refine fin_then ?_
            refine st_if (b := decide (((D : Int) - (r : Int)) ≤ (r : Int))) rfl (fun hc10 => ?_) (fun hc10 => ?_)
            · --
              have : (((D : Int) - (r : Int)) ≤ (r : Int)) := of_decide_eq_true hc10
              refine st_region [(0, false), (1, false), (2, false)] (by rfl) ?_
              refine ops_run (is := [(0, false), (1, false)]) (r := [(2, false)]) (l' := [(65, .int .i64 (IntKind.i64.wrap ((q : Int) + 1))), (13, .int .i64 (q : Int))]) [65, 13] (by kernel_rfl) ?_
              refine ops_conv (l' := [(65, .int .i64 ((q : Int) + 1)), (13, .int .i64 (q : Int))]) (by rw [(i64in (x := (q : Int) + 1) (by omega) (by omega))]) (fun _ h => h) ?_
              refine ops_run (is := [(2, false)]) (r := []) (l' := [(13, .int .i64 ((q : Int) + 1))]) [13] (by kernel_rfl) ?_
              refine ops_nil ?_
              refine fin_then ?_
              refine st_seq ?_
              refine st_region [(0, false), (1, false), (2, false)] (by rfl) ?_
              refine ops_run (is := [(0, false)]) (r := [(1, false), (2, false)]) (l' := [(66, .int .i64 ((q : Int) + 1))]) [66] (by kernel_rfl) ?_
              refine ops_call (σ := Unit) (d := some 67) (f := 18) (args := #[.int .i64 ((q : Int) + 1)]) (v := fun _ => .int .i64 (min (max ((q : Int) + 1) (-1099511627776)) 1099511627776)) (M' := fun _ => Mem w []) ⟨by kernel_rfl⟩ (fun w_ hM hS => (Clamp_calls ((q : Int) + 1) w_).mono (by rintro e w' ⟨rfl, hb⟩; exact ⟨(), rfl, hM.step hb, trivial⟩)) (fun _ => ?_)
              refine ops_run (is := [(2, false)]) (r := []) (l' := [(6, .int .i64 (min (max ((q : Int) + 1) (-1099511627776)) 1099511627776))]) [6] (by kernel_rfl) ?_
              refine ops_nil ?_
              refine fin_then ?_
              refine st_ret ?_
              refine fin_ret_then ?_
              refine fin_ret [.tmp 6] [.int .i64 (min (max ((q : Int) + 1) (-1099511627776)) 1099511627776)] rfl rfl (fun w_ hM => (.tmp rfl .nil)) (fun w_ hM => ?_)
              refine ⟨congrArg (fun z => Ending.returned (.int .i64 z)) ?_, hM.done⟩
              clear ha hb hc hA hB hD hgi hg1 hg2 hg3 hvn hvp hp hq hr hAM hBM
              omega
            · --
              have : ¬ (((D : Int) - (r : Int)) ≤ (r : Int)) := of_decide_eq_false hc10
              refine st_skip ?_
              refine fin_then ?_
              refine st_seq ?_
              refine st_region [(0, false), (1, false), (2, false)] (by rfl) ?_
              refine ops_run (is := [(0, false)]) (r := [(1, false), (2, false)]) (l' := [(66, .int .i64 (q : Int))]) [66] (by kernel_rfl) ?_
              refine ops_call (σ := Unit) (d := some 67) (f := 18) (args := #[.int .i64 (q : Int)]) (v := fun _ => .int .i64 (min (max (q : Int) (-1099511627776)) 1099511627776)) (M' := fun _ => Mem w []) ⟨by kernel_rfl⟩ (fun w_ hM hS => (Clamp_calls (q : Int) w_).mono (by rintro e w' ⟨rfl, hb⟩; exact ⟨(), rfl, hM.step hb, trivial⟩)) (fun _ => ?_)
              refine ops_run (is := [(2, false)]) (r := []) (l' := [(6, .int .i64 (min (max (q : Int) (-1099511627776)) 1099511627776))]) [6] (by kernel_rfl) ?_
              refine ops_nil ?_
              refine fin_then ?_
              refine st_ret ?_
              refine fin_ret_then ?_
              refine fin_ret [.tmp 6] [.int .i64 (min (max (q : Int) (-1099511627776)) 1099511627776)] rfl rfl (fun w_ hM => (.tmp rfl .nil)) (fun w_ hM => ?_)
              refine ⟨congrArg (fun z => Ending.returned (.int .i64 z)) ?_, hM.done⟩
              clear ha hb hc hA hB hD hgi hg1 hg2 hg3 hvn hvp hp hq hr hAM hBM
              omega
          · --
            have hv := hvn (by simpa using hc9)
            refine st_skip ?_
            refine fin_then ?_
            refine st_seq ?_
            refine st_seq ?_
            refine st_region [(0, false), (1, false), (2, false), (3, false), (4, false)] (by rfl) ?_
            refine ops_run (is := [(0, false), (1, false), (2, false), (3, false)]) (r := [(4, false)]) (l' := [(71, .int .u64 (IntKind.u64.wrap ((D : Int) - (r : Int)))), (68, .int .u64 (r : Int)), (13, .int .i64 (q : Int))]) [71, 68, 13] (by kernel_rfl) ?_
            refine ops_conv (l' := [(71, .int .u64 ((D : Int) - (r : Int))), (68, .int .u64 (r : Int)), (13, .int .i64 (q : Int))]) (by rw [(w64_in (x := (D : Int) - (r : Int)) (by omega) (by omega))]) (fun _ h => h) ?_
            refine ops_run (is := [(4, false)]) (r := []) (l' := [(72, .bool (decide (((D : Int) - (r : Int)) < (r : Int)))), (13, .int .i64 (q : Int))]) [72, 13] (by kernel_rfl) ?_
            refine ops_nil ?_
            refine fin_then ?_
            refine st_if (b := decide (((D : Int) - (r : Int)) < (r : Int))) rfl (fun hc11 => ?_) (fun hc11 => ?_)
            · --
              have : (((D : Int) - (r : Int)) < (r : Int)) := of_decide_eq_true hc11
              refine st_region [(0, false), (1, false), (2, false)] (by rfl) ?_
              refine ops_run (is := [(0, false), (1, false)]) (r := [(2, false)]) (l' := [(74, .int .i64 (IntKind.i64.wrap ((q : Int) + 1))), (13, .int .i64 (q : Int))]) [74, 13] (by kernel_rfl) ?_
              refine ops_conv (l' := [(74, .int .i64 ((q : Int) + 1)), (13, .int .i64 (q : Int))]) (by rw [(i64in (x := (q : Int) + 1) (by omega) (by omega))]) (fun _ h => h) ?_
              refine ops_run (is := [(2, false)]) (r := []) (l' := [(13, .int .i64 ((q : Int) + 1))]) [13] (by kernel_rfl) ?_
              refine ops_nil ?_
              refine fin_then ?_
              refine st_seq ?_
              refine st_region [(0, false), (1, false), (2, false), (3, false)] (by rfl) ?_
              refine ops_run (is := [(0, false), (1, false)]) (r := [(2, false), (3, false)]) (l' := [(76, .int .i64 (IntKind.i64.wrap (0 - ((q : Int) + 1))))]) [76] (by kernel_rfl) ?_
              refine ops_conv (l' := [(76, .int .i64 (0 - ((q : Int) + 1)))]) (by rw [(i64in (x := 0 - ((q : Int) + 1)) (by omega) (by omega))]) (fun _ h => h) ?_
              refine ops_call (σ := Unit) (d := some 77) (f := 18) (args := #[.int .i64 (0 - ((q : Int) + 1))]) (v := fun _ => .int .i64 (min (max (0 - ((q : Int) + 1)) (-1099511627776)) 1099511627776)) (M' := fun _ => Mem w []) ⟨by kernel_rfl⟩ (fun w_ hM hS => (Clamp_calls (0 - ((q : Int) + 1)) w_).mono (by rintro e w' ⟨rfl, hb⟩; exact ⟨(), rfl, hM.step hb, trivial⟩)) (fun _ => ?_)
              refine ops_run (is := [(3, false)]) (r := []) (l' := [(6, .int .i64 (min (max (0 - ((q : Int) + 1)) (-1099511627776)) 1099511627776))]) [6] (by kernel_rfl) ?_
              refine ops_nil ?_
              refine fin_then ?_
              refine st_ret ?_
              refine fin_ret [.tmp 6] [.int .i64 (min (max (0 - ((q : Int) + 1)) (-1099511627776)) 1099511627776)] rfl rfl (fun w_ hM => (.tmp rfl .nil)) (fun w_ hM => ?_)
              refine ⟨congrArg (fun z => Ending.returned (.int .i64 z)) ?_, hM.done⟩
              clear ha hb hc hA hB hD hgi hg1 hg2 hg3 hvn hvp hp hq hr hAM hBM
              omega
            · --
              have : ¬ (((D : Int) - (r : Int)) < (r : Int)) := of_decide_eq_false hc11
              refine st_skip ?_
              refine fin_then ?_
              refine st_seq ?_
              refine st_region [(0, false), (1, false), (2, false), (3, false)] (by rfl) ?_
              refine ops_run (is := [(0, false), (1, false)]) (r := [(2, false), (3, false)]) (l' := [(76, .int .i64 (IntKind.i64.wrap (0 - (q : Int))))]) [76] (by kernel_rfl) ?_
              refine ops_conv (l' := [(76, .int .i64 (0 - (q : Int)))]) (by rw [(i64in (x := 0 - (q : Int)) (by omega) (by omega))]) (fun _ h => h) ?_
              refine ops_call (σ := Unit) (d := some 77) (f := 18) (args := #[.int .i64 (0 - (q : Int))]) (v := fun _ => .int .i64 (min (max (0 - (q : Int)) (-1099511627776)) 1099511627776)) (M' := fun _ => Mem w []) ⟨by kernel_rfl⟩ (fun w_ hM hS => (Clamp_calls (0 - (q : Int)) w_).mono (by rintro e w' ⟨rfl, hb⟩; exact ⟨(), rfl, hM.step hb, trivial⟩)) (fun _ => ?_)
              refine ops_run (is := [(3, false)]) (r := []) (l' := [(6, .int .i64 (min (max (0 - (q : Int)) (-1099511627776)) 1099511627776))]) [6] (by kernel_rfl) ?_
              refine ops_nil ?_
              refine fin_then ?_
              refine st_ret ?_
              refine fin_ret [.tmp 6] [.int .i64 (min (max (0 - (q : Int)) (-1099511627776)) 1099511627776)] rfl rfl (fun w_ hM => (.tmp rfl .nil)) (fun w_ hM => ?_)
              refine ⟨congrArg (fun z => Ending.returned (.int .i64 z)) ?_, hM.done⟩
              clear ha hb hc hA hB hD hgi hg1 hg2 hg3 hvn hvp hp hq hr hAM hBM
              omega
set_option maxHeartbeats 4000000 in
set_option maxRecDepth 100000 in
theorem MulDivZ (a0 b0 c0 : Int) (w : World) (hc : min (max c0 (-1099511627776)) 1099511627776 = 0) : Calls Try.prog 25 #[.int .i64 a0, .int .i64 b0, .int .i64 c0] w fun e w' => e = .returned (.int .i64 0) ∧ Below w.heap.size w w' := by
  refine sx_calls Try.func25 rfl (n := 78) (by kernel_rfl) (l := [(0, .int .i64 a0), (1, .int .i64 b0), (2, .int .i64 c0)]) rfl (by rfl) (Mem.nil w) ?_
  refine st_seq ?_
  refine st_region [(0, false)] (by rfl) ?_
  refine ops_run (is := [(0, false)]) (r := []) (l' := [(0, .int .i64 a0), (1, .int .i64 b0), (2, .int .i64 c0)]) [0, 1, 2] (by kernel_rfl) ?_
  refine ops_nil ?_
  refine fin_then ?_
  refine st_seq ?_
  refine st_region [(0, false), (1, false), (2, false), (3, false), (4, false), (5, false), (6, false), (7, false), (8, false)] (by rfl) ?_
  refine ops_run (is := [(0, false)]) (r := [(1, false), (2, false), (3, false), (4, false), (5, false), (6, false), (7, false), (8, false)]) (l' := [(14, .int .i64 a0), (0, .int .i64 a0), (1, .int .i64 b0), (2, .int .i64 c0)]) [14, 0, 1, 2] (by kernel_rfl) ?_
  refine ops_call (σ := Unit) (d := some 15) (f := 18) (args := #[.int .i64 a0]) (v := fun _ => .int .i64 (min (max a0 (-1099511627776)) 1099511627776)) (M' := fun _ => Mem w []) ⟨by kernel_rfl⟩ (fun w_ hM hS => (Clamp_calls a0 w_).mono (by rintro e w' ⟨rfl, hb⟩; exact ⟨(), rfl, hM.step hb, trivial⟩)) (fun _ => ?_)
  refine ops_run (is := [(2, false)]) (r := [(3, false), (4, false), (5, false), (6, false), (7, false), (8, false)]) (l' := [(16, .int .i64 b0), (15, .int .i64 (min (max a0 (-1099511627776)) 1099511627776)), (0, .int .i64 a0), (1, .int .i64 b0), (2, .int .i64 c0)]) [16, 15, 0, 1, 2] (by kernel_rfl) ?_
  refine ops_call (σ := Unit) (d := some 17) (f := 18) (args := #[.int .i64 b0]) (v := fun _ => .int .i64 (min (max b0 (-1099511627776)) 1099511627776)) (M' := fun _ => Mem w []) ⟨by kernel_rfl⟩ (fun w_ hM hS => (Clamp_calls b0 w_).mono (by rintro e w' ⟨rfl, hb⟩; exact ⟨(), rfl, hM.step hb, trivial⟩)) (fun _ => ?_)
  refine ops_run (is := [(4, false)]) (r := [(5, false), (6, false), (7, false), (8, false)]) (l' := [(18, .int .i64 c0), (17, .int .i64 (min (max b0 (-1099511627776)) 1099511627776)), (15, .int .i64 (min (max a0 (-1099511627776)) 1099511627776)), (0, .int .i64 a0), (1, .int .i64 b0), (2, .int .i64 c0)]) [18, 17, 15, 0, 1, 2] (by kernel_rfl) ?_
  refine ops_call (σ := Unit) (d := some 19) (f := 18) (args := #[.int .i64 c0]) (v := fun _ => .int .i64 0) (M' := fun _ => Mem w []) ⟨by kernel_rfl⟩ (fun w_ hM hS => (Clamp_as c0 0 w_ hc).mono (by rintro e w' ⟨rfl, hb⟩; exact ⟨(), rfl, hM.step hb, trivial⟩)) (fun _ => ?_)
  refine ops_run (is := [(6, false), (7, false), (8, false)]) (r := []) (l' := [(2, .int .i64 0), (1, .int .i64 (min (max b0 (-1099511627776)) 1099511627776)), (0, .int .i64 (min (max a0 (-1099511627776)) 1099511627776))]) [2, 1, 0] (by kernel_rfl) ?_
  refine ops_nil ?_
  refine fin_then ?_
  refine st_seq ?_
  refine st_seq ?_
  refine st_region [(0, false), (1, false)] (by rfl) ?_
  refine ops_run (is := [(0, false), (1, false)]) (r := []) (l' := [(21, .bool true), (2, .int .i64 0), (1, .int .i64 (min (max b0 (-1099511627776)) 1099511627776)), (0, .int .i64 (min (max a0 (-1099511627776)) 1099511627776))]) [21, 2, 1, 0] (by kernel_rfl) ?_
  refine ops_nil ?_
  refine fin_then ?_
  refine st_true rfl ?_
  refine st_seq ?_
  refine st_region [(0, false)] (by rfl) ?_
  refine ops_run (is := [(0, false)]) (r := []) (l' := [(6, .int .i64 0)]) [6] (by kernel_rfl) ?_
  refine ops_nil ?_
  refine fin_then ?_
  refine st_ret ?_
  refine fin_ret_then ?_
  refine fin_ret [.tmp 6] [.int .i64 0] rfl rfl (fun w_ hM => (.tmp rfl .nil)) (fun w_ hM => ?_)
  refine ⟨?_, hM.done⟩
  rfl
theorem MulDiv_calls (a b c : Int) (w : World) : Calls Try.prog 25 #[.int .i64 a, .int .i64 b, .int .i64 c] w fun e w' => e = .returned (.int .i64 (thruV a b c)) ∧ Below w.heap.size w w' := by
  by_cases h : clV c = 0
  · rw [show thruV a b c = 0 from if_pos h]; exact MulDivZ a b c w h
  · exact MulDiv0 a b c _ _ _ _ _ _ _ _ _ _ _ _ _ _ _ w (thru_ok h) rfl rfl rfl rfl rfl rfl
end Go.Proofs.Ytioijglogoppnaa.WThru
