/- Walks of fix.MulDiv and of the reference's Through. No condition. -/
import Derived.Test.YtioijglogoppnaaProg
import Derived.Test.YtioijglogoppnaaSxOps
import Derived.Test.YtioijglogoppnaaDivSpec
import Derived.Test.YtioijglogoppnaaWDiv
import Derived.Test.YtioijglogoppnaaWMul
import Derived.Test.YtioijglogoppnaaWClamp
import Derived.Test.YtioijglogoppnaaWNat
import Derived.Test.YtioijglogoppnaaWSharing
namespace Go.Proofs.Ytioijglogoppnaa.WThru
open Go Go.RowKit Go.Proofs.Ytioijglogoppnaa.Sx Go.Proofs.Ytioijglogoppnaa.Rnd Go.Proofs.Ytioijglogoppnaa.Nats Go.Proofs.Ytioijglogoppnaa.Trig Go.Proofs.Ytioijglogoppnaa.Vecs Go.Proofs.Ytioijglogoppnaa.Divs Go.Proofs.Ytioijglogoppnaa.WDiv Go.Proofs.Ytioijglogoppnaa.WMul Go.Proofs.Ytioijglogoppnaa.WClamp Go.Proofs.Ytioijglogoppnaa.WNat Go.Proofs.Ytioijglogoppnaa.WSharing
set_option linter.unusedVariables false
set_option linter.unusedSimpArgs false
theorem Clamp_as (a x : Int) (w : World) (h : min (max a (-1099511627776)) 1099511627776 = x) : Calls Try.prog 18 #[.int .i64 a] w fun e w' => e = .returned (.int .i64 x) ∧ Below w.heap.size w w' := by
  subst h; exact Clamp_calls a w
set_option maxHeartbeats 4000000 in
set_option maxRecDepth 100000 in
theorem fmag_calls (a : Int) (A : Nat) (w : World) (h : a.natAbs = A) (hM : A ≤ 1099511627776) : Calls Try.prog 93 #[vI a] w fun e w' => e = .returned (vU (A : Int)) ∧ Below w.heap.size w w' := by
 refine sx_calls Try.func93 rfl (n := 10) (by kernel_rfl) (l := [(0, vI a)]) rfl (by rfl) (Mem.nil w) ?_
 refine st_seq ?_
 refine st_region [oF 0] (by rfl) ?_
 refine oR [oF 0] [(0, vI a)] [0] (by kernel_rfl) ?_
 refine ops_nil ?_
 refine fin_then ?_
 refine st_seq ?_
 refine st_seq ?_
 refine st_region [oF 0, oF 1] (by rfl) ?_
 refine oR [oF 0, oF 1] [(4, .bool (decide (a < 0))), (0, vI a)] [4, 0] (by kernel_rfl) ?_
 refine ops_nil ?_
 refine fin_then ?_
 refine st_if (b := decide (a < 0)) rfl (fun hc1 => ?_) (fun hc1 => ?_)
 · --
  have : (a < 0) := of_decide_eq_true hc1
  refine st_seq ?_
  refine st_region [oF 0, oF 1, oF 2, oF 3] (by rfl) ?_
  refine oR [oF 0, oF 1] [(6, vI (IntKind.i64.wrap (0 - a)))] [6] (by kernel_rfl) ?_
  refine ops_conv (l' := [(6, vI (0 - a))]) (by rw [(i64in (x := 0 - a) (by omega) (by omega))]) (fun _ h => h) ?_
  refine oR [oF 2] [(7, vU (IntKind.u64.wrap (0 - a)))] [7] (by kernel_rfl) ?_
  refine ops_conv (l' := [(7, vU (A : Int))]) (by rw [(show IntKind.u64.wrap (0 - a) = (A : Int) by rw [w64_in (by omega) (by omega)]; omega)]) (fun _ h => h) ?_
  refine oR [oF 3] [(2, vU (A : Int))] [2] (by kernel_rfl) ?_
  refine ops_nil ?_
  refine fin_then ?_
  refine st_ret ?_
  refine fin_ret_then ?_
  refine fin_ret [.tmp 2] [vU (A : Int)] rfl rfl (fun w_ hM => (.tmp rfl .nil)) (fun w_ hM => ?_)
  refine ⟨?_, hM.done⟩
  rfl
 · --
  have : ¬ (a < 0) := of_decide_eq_false hc1
  refine st_skip ?_
  refine fin_then ?_
  refine st_seq ?_
  refine st_region [oF 0, oF 1, oF 2] (by rfl) ?_
  refine oR [oF 0, oF 1] [(9, vU (IntKind.u64.wrap a))] [9] (by kernel_rfl) ?_
  refine ops_conv (l' := [(9, vU (A : Int))]) (by rw [(show IntKind.u64.wrap a = (A : Int) by rw [w64_in (by omega) (by omega)]; omega)]) (fun _ h => h) ?_
  refine oR [oF 2] [(2, vU (A : Int))] [2] (by kernel_rfl) ?_
  refine ops_nil ?_
  refine fin_then ?_
  refine st_ret ?_
  refine fin_ret [.tmp 2] [vU (A : Int)] rfl rfl (fun w_ hM => (.tmp rfl .nil)) (fun w_ hM => ?_)
  refine ⟨?_, hM.done⟩
  rfl
theorem Mul_p (A B p : Nat) (w : World) (hp : A * B = p) (hA : A ≤ 1099511627776) (hB : B ≤ 1099511627776) : Calls Try.prog 94 #[.int .u64 (A : Int), .int .u64 (B : Int)] w fun e w' => e = .returned (.tuple #[.int .u64 ((p : Int) / 18446744073709551616), .int .u64 ((p : Int) % 18446744073709551616)]) ∧ Below w.heap.size w w' := by
  have h := Mul64_calls (A : Int) (B : Int) w (by omega) (by omega) (by omega) (by omega)
  rwa [show (A : Int) * (B : Int) = (p : Int) by rw [← hp]; simp] at h
theorem Div_p (p D q r : Nat) (w : World) (hq : p / D = q) (hr : p % D = r) (hD0 : 0 < D) (hD1 : D ≤ 1099511627776) (hlt : (p : Int) / 18446744073709551616 < (D : Int)) : Calls Try.prog 95 #[.int .u64 ((p : Int) / 18446744073709551616), .int .u64 ((p : Int) % 18446744073709551616), .int .u64 (D : Int)] w fun e w' => e = .returned (.tuple #[.int .u64 (q : Int), .int .u64 (r : Int)]) ∧ Below w.heap.size w w' := by
  have h := Div64_calls ((p : Int) / 18446744073709551616) ((p : Int) % 18446744073709551616) D w hD0 (by omega) (by omega) hlt (by omega) (by omega)
  rwa [show (p : Int) / 18446744073709551616 * 18446744073709551616 + (p : Int) % 18446744073709551616 = (p : Int) by omega, ← Int.natCast_ediv, ← Int.natCast_emod, hq, hr] at h
set_option maxHeartbeats 4000000 in
set_option maxRecDepth 100000 in
theorem MulDiv0 (a0 b0 c0 a b c : Int) (A B D p q r : Nat) (Q1 Q2 v : Int) (g1 g2 g3 : Bool) (w : World) (hT : Thru a b c A B D p q r Q1 Q2 v) (ha : min (max a0 (-1099511627776)) 1099511627776 = a) (hb : min (max b0 (-1099511627776)) 1099511627776 = b) (hc : min (max c0 (-1099511627776)) 1099511627776 = c) (hg1 : decide (a < 0) = g1) (hg2 : (if b < 0 then !g1 else g1) = g2) (hg3 : (if c < 0 then !g2 else g2) = g3) : Calls Try.prog 25 #[vI a0, vI b0, vI c0] w fun e w' => e = .returned (vI v) ∧ Below w.heap.size w w' := by
 obtain ⟨hA, hB, hD, hp, hD0, hq, hr, hAM, hBM, hDM, ⟨hq1a, hq1b⟩, ⟨hq2a, hq2b⟩, hneg, hpos⟩ := hT
 have hrD : r < D := hr ▸ Nat.mod_lt _ hD0
 have hQ1 : Q1 = (q : Int) ∨ Q1 = (q : Int) + 1 := by omega
 have hQ2 : Q2 = (q : Int) ∨ Q2 = (q : Int) + 1 := by omega
 have hgi := sign3 hg1 hg2 hg3
 have hvn : g3 = true → v = -(min Q2 1099511627776) := fun h => hneg (hgi.1 h)
 have hvp : g3 = false → v = min Q1 1099511627776 := fun h => hpos (fun e => by rw [hgi.2 e] at h; cases h)
 clear hneg hpos
 refine sx_calls Try.func25 rfl (n := 78) (by kernel_rfl) (l := [(0, vI a0), (1, vI b0), (2, vI c0)]) rfl (by rfl) (Mem.nil w) ?_
 refine st_seq ?_
 refine st_region [oF 0] (by rfl) ?_
 refine oR [oF 0] [(0, vI a0), (1, vI b0), (2, vI c0)] [0, 1, 2] (by kernel_rfl) ?_
 refine ops_nil ?_
 refine fin_then ?_
 refine st_seq ?_
 refine st_region [oF 0, oF 1, oF 2, oF 3, oF 4, oF 5, oF 6, oF 7, oF 8] (by rfl) ?_
 refine oR [oF 0] [(14, vI a0), (0, vI a0), (1, vI b0), (2, vI c0)] [14, 0, 1, 2] (by kernel_rfl) ?_
 refine oC (some 15) 18 #[vI a0] (vI a) ⟨by kernel_rfl⟩ (fun w_ hM => Clamp_as a0 a w_ ha) ?_
 refine oR [oF 2] [(16, vI b0), (15, vI a), (0, vI a0), (1, vI b0), (2, vI c0)] [16, 15, 0, 1, 2] (by kernel_rfl) ?_
 refine oC (some 17) 18 #[vI b0] (vI b) ⟨by kernel_rfl⟩ (fun w_ hM => Clamp_as b0 b w_ hb) ?_
 refine oR [oF 4] [(18, vI c0), (17, vI b), (15, vI a), (0, vI a0), (1, vI b0), (2, vI c0)] [18, 17, 15, 0, 1, 2] (by kernel_rfl) ?_
 refine oC (some 19) 18 #[vI c0] (vI c) ⟨by kernel_rfl⟩ (fun w_ hM => Clamp_as c0 c w_ hc) ?_
 refine oR [oF 6, oF 7, oF 8] [(2, vI c), (1, vI b), (0, vI a)] [2, 1, 0] (by kernel_rfl) ?_
 refine ops_nil ?_
 refine fin_then ?_
 refine st_seq ?_
 refine st_seq ?_
 refine st_region [oF 0, oF 1] (by rfl) ?_
 refine oR [oF 0, oF 1] [(21, .bool (c == 0)), (2, vI c), (1, vI b), (0, vI a)] [21, 2, 1, 0] (by kernel_rfl) ?_
 refine ops_nil ?_
 refine fin_then ?_
 refine st_conv (l' := [(21, .bool false), (2, vI c), (1, vI b), (0, vI a)]) (by rw [(show (c == 0) = false by simp; omega)]) (fun _ h => h) ?_
 refine st_false rfl ?_
 refine st_skip ?_
 refine fin_then ?_
 refine st_seq ?_
 refine st_region [oF 0, oF 1, oF 2] (by rfl) ?_
 refine oR [oF 0, oF 1, oF 2] [(7, .bool (decide (a < 0))), (2, vI c), (1, vI b), (0, vI a)] [7, 2, 1, 0] (by kernel_rfl) ?_
 refine ops_nil ?_
 refine fin_then ?_
 refine st_seq_cut (σ := Unit) (fun _ => [(7, .bool g2), (2, vI c), (1, vI b), (0, vI a)]) (fun _ => Mem w []) ?_ ?_
 · --
  refine st_seq ?_
  refine st_region [oF 0, oF 1] (by rfl) ?_
  refine oR [oF 0, oF 1] [(25, .bool (decide (b < 0))), (7, .bool (decide (a < 0))), (2, vI c), (1, vI b), (0, vI a)] [25, 7, 2, 1, 0] (by kernel_rfl) ?_
  refine ops_nil ?_
  refine fin_then ?_
  refine st_if (b := decide (b < 0)) rfl (fun hc1 => ?_) (fun hc1 => ?_)
  · --
   have : (b < 0) := of_decide_eq_true hc1
   refine st_region [oF 0, oF 1, oF 2] (by rfl) ?_
   refine oR [oF 0, oF 1, oF 2] [(7, .bool (!(decide (a < 0)))), (2, vI c), (1, vI b), (0, vI a)] [7, 2, 1, 0] (by kernel_rfl) ?_
   refine ops_nil ?_
   have hgn : (!(decide (a < 0))) = g2 := by rw [← hg2]; first | (simp [this]; done) | (rw [hg1]; simp [this])
   refine fin_conv (l' := [(7, .bool g2), (2, vI c), (1, vI b), (0, vI a)]) (M' := Mem w []) (by rw [hgn]) (fun w_ hM => hM) ?_
   exact fin_cut () (look_has ⟨rfl, rfl, rfl, rfl, trivial⟩) (fun w_ hM => hM)
  · --
   have : ¬ (b < 0) := of_decide_eq_false hc1
   refine st_skip ?_
   have hgn : (decide (a < 0)) = g2 := by rw [← hg2]; first | (simp [this]; done) | (rw [hg1]; simp [this])
   refine fin_conv (l' := [(25, .bool (decide (b < 0))), (7, .bool g2), (2, vI c), (1, vI b), (0, vI a)]) (M' := Mem w []) (by rw [hgn]) (fun w_ hM => hM) ?_
   exact fin_cut () (look_has ⟨rfl, rfl, rfl, rfl, trivial⟩) (fun w_ hM => hM)
 · --
  intro _
  refine st_seq_cut (σ := Unit) (fun _ => [(7, .bool g3), (2, vI c), (1, vI b), (0, vI a)]) (fun _ => Mem w []) ?_ ?_
  · --
   refine st_seq ?_
   refine st_region [oF 0, oF 1] (by rfl) ?_
   refine oR [oF 0, oF 1] [(29, .bool (decide (c < 0))), (7, .bool g2), (2, vI c), (1, vI b), (0, vI a)] [29, 7, 2, 1, 0] (by kernel_rfl) ?_
   refine ops_nil ?_
   refine fin_then ?_
   refine st_if (b := decide (c < 0)) rfl (fun hc2 => ?_) (fun hc2 => ?_)
   · --
    have : (c < 0) := of_decide_eq_true hc2
    refine st_region [oF 0, oF 1, oF 2] (by rfl) ?_
    refine oR [oF 0, oF 1, oF 2] [(7, .bool (!g2)), (2, vI c), (1, vI b), (0, vI a)] [7, 2, 1, 0] (by kernel_rfl) ?_
    refine ops_nil ?_
    have hgn : (!g2) = g3 := by rw [← hg3]; first | (simp [this]; done) | (rw [hg1]; simp [this])
    refine fin_conv (l' := [(7, .bool g3), (2, vI c), (1, vI b), (0, vI a)]) (M' := Mem w []) (by rw [hgn]) (fun w_ hM => hM) ?_
    exact fin_cut () (look_has ⟨rfl, rfl, rfl, rfl, trivial⟩) (fun w_ hM => hM)
   · --
    have : ¬ (c < 0) := of_decide_eq_false hc2
    refine st_skip ?_
    have hgn : (g2) = g3 := by rw [← hg3]; first | (simp [this]; done) | (rw [hg1]; simp [this])
    refine fin_conv (l' := [(29, .bool (decide (c < 0))), (7, .bool g3), (2, vI c), (1, vI b), (0, vI a)]) (M' := Mem w []) (by rw [hgn]) (fun w_ hM => hM) ?_
    exact fin_cut () (look_has ⟨rfl, rfl, rfl, rfl, trivial⟩) (fun w_ hM => hM)
  · --
   intro _
   refine st_seq ?_
   refine st_region [oF 0, oF 1, oF 2] (by rfl) ?_
   refine oR [oF 0] [(32, vI c), (7, .bool g3), (1, vI b), (0, vI a)] [32, 7, 1, 0] (by kernel_rfl) ?_
   refine oC (some 33) 93 #[vI c] (vU (D : Int)) ⟨by kernel_rfl⟩ (fun w_ hM => fmag_calls c D w_ hD (by omega)) ?_
   refine oR [oF 2] [(8, vU (D : Int)), (7, .bool g3), (1, vI b), (0, vI a)] [8, 7, 1, 0] (by kernel_rfl) ?_
   refine ops_nil ?_
   refine fin_then ?_
   refine st_seq ?_
   refine st_region [oF 0, oF 1, oF 2, oF 3, oF 4, oF 5, oF 6, oF 7, oF 8, oF 9] (by rfl) ?_
   refine oR [oF 0] [(35, vI a), (8, vU (D : Int)), (7, .bool g3), (1, vI b)] [35, 8, 7, 1] (by kernel_rfl) ?_
   refine oC (some 36) 93 #[vI a] (vU (A : Int)) ⟨by kernel_rfl⟩ (fun w_ hM => fmag_calls a A w_ hA (by omega)) ?_
   refine oR [oF 2] [(37, vI b), (36, vU (A : Int)), (8, vU (D : Int)), (7, .bool g3)] [37, 36, 8, 7] (by kernel_rfl) ?_
   refine oC (some 38) 93 #[vI b] (vU (B : Int)) ⟨by kernel_rfl⟩ (fun w_ hM => fmag_calls b B w_ hB (by omega)) ?_
   refine oR [] [(38, vU (B : Int)), (36, vU (A : Int)), (8, vU (D : Int)), (7, .bool g3)] [38, 36, 8, 7] (by kernel_rfl) ?_
   refine oC (some 39) 94 #[vU (A : Int), vU (B : Int)] (.tuple #[vU ((p : Int) / 18446744073709551616), vU ((p : Int) % 18446744073709551616)]) ⟨by kernel_rfl⟩ (fun w_ hM => Mul_p A B p w_ hp hAM hBM) ?_
   refine oR [oF 5, oF 6, oF 7, oF 8, oF 9] [(10, vU ((p : Int) % 18446744073709551616)), (9, vU ((p : Int) / 18446744073709551616)), (8, vU (D : Int)), (7, .bool g3)] [10, 9, 8, 7] (by kernel_rfl) ?_
   refine ops_nil ?_
   refine fin_then ?_
   refine st_seq ?_
   refine st_seq ?_
   refine st_region [oF 0, oF 1, oF 2] (by rfl) ?_
   refine oR [oF 0, oF 1, oF 2] [(44, .bool (decide ((D : Int) ≤ ((p : Int) / 18446744073709551616)))), (10, vU ((p : Int) % 18446744073709551616)), (9, vU ((p : Int) / 18446744073709551616)), (8, vU (D : Int)), (7, .bool g3)] [44, 10, 9, 8, 7] (by kernel_rfl) ?_
   refine ops_nil ?_
   refine fin_then ?_
   refine st_if (b := decide ((D : Int) ≤ ((p : Int) / 18446744073709551616))) rfl (fun hc3 => ?_) (fun hc3 => ?_)
   · --
    have : ((D : Int) ≤ ((p : Int) / 18446744073709551616)) := of_decide_eq_true hc3
    have hqb : 18446744073709551616 ≤ q := by rw [← hq]; exact (Nat.le_div_iff_mul_le hD0).2 (by omega)
    refine st_seq ?_
    refine st_seq ?_
    refine st_region [oF 0] (by rfl) ?_
    refine oR [oF 0] [(45, .bool g3)] [45] (by kernel_rfl) ?_
    refine ops_nil ?_
    refine fin_then ?_
    refine st_if (b := g3) rfl (fun hc4 => ?_) (fun hc4 => ?_)
    · --
     have hv := hvn (by simpa using hc4)
     refine st_seq ?_
     refine st_region [oF 0] (by rfl) ?_
     refine oR [oF 0] [(6, vI (-1099511627776))] [6] (by kernel_rfl) ?_
     refine ops_nil ?_
     refine fin_then ?_
     refine st_ret ?_
     refine fin_ret_then ?_
     refine fin_ret_then ?_
     refine fin_ret [.tmp 6] [vI (-1099511627776)] rfl rfl (fun w_ hM => (.tmp rfl .nil)) (fun w_ hM => ?_)
     refine ⟨congrArg (fun z => Ending.returned (.int .i64 z)) ?_, hM.done⟩
     clear ha hb hc hA hB hD hgi hg1 hg2 hg3 hvn hvp hp hq hr hAM hBM
     omega
    · --
     have hv := hvp (by simpa using hc4)
     refine st_skip ?_
     refine fin_then ?_
     refine st_seq ?_
     refine st_region [oF 0] (by rfl) ?_
     refine oR [oF 0] [(6, vI 1099511627776)] [6] (by kernel_rfl) ?_
     refine ops_nil ?_
     refine fin_then ?_
     refine st_ret ?_
     refine fin_ret_then ?_
     refine fin_ret [.tmp 6] [vI 1099511627776] rfl rfl (fun w_ hM => (.tmp rfl .nil)) (fun w_ hM => ?_)
     refine ⟨congrArg (fun z => Ending.returned (.int .i64 z)) ?_, hM.done⟩
     clear ha hb hc hA hB hD hgi hg1 hg2 hg3 hvn hvp hp hq hr hAM hBM
     omega
   · --
    have : ¬ ((D : Int) ≤ ((p : Int) / 18446744073709551616)) := of_decide_eq_false hc3
    have hqb : q < 18446744073709551616 := by rw [← hq]; exact (Nat.div_lt_iff_lt_mul hD0).2 (by omega)
    have hlt : (p : Int) / 18446744073709551616 < (D : Int) := by omega
    refine st_skip ?_
    refine fin_then ?_
    refine st_seq ?_
    refine st_region [oF 0, oF 1, oF 2, oF 3, oF 4, oF 5, oF 6, oF 7, oF 8] (by rfl) ?_
    refine oR [oF 0, oF 1, oF 2] [(49, vU (D : Int)), (48, vU ((p : Int) % 18446744073709551616)), (47, vU ((p : Int) / 18446744073709551616)), (8, vU (D : Int)), (7, .bool g3)] [49, 48, 47, 8, 7] (by kernel_rfl) ?_
    refine oC (some 50) 95 #[vU ((p : Int) / 18446744073709551616), vU ((p : Int) % 18446744073709551616), vU (D : Int)] (.tuple #[vU (q : Int), vU (r : Int)]) ⟨by kernel_rfl⟩ (fun w_ hM => Div_p p D q r w_ hq hr hD0 hDM hlt) ?_
    refine oR [oF 4, oF 5, oF 6, oF 7, oF 8] [(12, vU (r : Int)), (11, vU (q : Int)), (8, vU (D : Int)), (7, .bool g3)] [12, 11, 8, 7] (by kernel_rfl) ?_
    refine ops_nil ?_
    refine fin_then ?_
    refine st_seq ?_
    refine st_seq ?_
    refine st_region [oF 0, oF 1] (by rfl) ?_
    refine oR [oF 0, oF 1] [(54, .bool (decide (1099511627776 < (q : Int)))), (12, vU (r : Int)), (11, vU (q : Int)), (8, vU (D : Int)), (7, .bool g3)] [54, 12, 11, 8, 7] (by kernel_rfl) ?_
    refine ops_nil ?_
    refine fin_then ?_
    refine st_if (b := decide (1099511627776 < (q : Int))) rfl (fun hc5 => ?_) (fun hc5 => ?_)
    · --
     have : (1099511627776 < (q : Int)) := of_decide_eq_true hc5
     refine st_seq ?_
     refine st_region [oF 0] (by rfl) ?_
     refine oR [oF 0] [(11, vU 1099511627777), (8, vU (D : Int)), (7, .bool g3)] [11, 8, 7] (by kernel_rfl) ?_
     refine ops_nil ?_
     refine fin_then ?_
     refine st_region [oF 0] (by rfl) ?_
     refine oR [oF 0] [(12, vU 0), (11, vU 1099511627777), (8, vU (D : Int)), (7, .bool g3)] [12, 11, 8, 7] (by kernel_rfl) ?_
     refine ops_nil ?_
     refine fin_then ?_
     refine st_seq ?_
     refine st_region [oF 0, oF 1, oF 2] (by rfl) ?_
     refine oR [oF 0, oF 1, oF 2] [(13, vI 1099511627777), (12, vU 0), (8, vU (D : Int)), (7, .bool g3)] [13, 12, 8, 7] (by kernel_rfl) ?_
     refine ops_nil ?_
     refine fin_then ?_
     refine st_seq ?_
     refine st_seq ?_
     refine st_region [oF 0, oF 1] (by rfl) ?_
     refine oR [oF 0, oF 1] [(58, .bool (!g3)), (13, vI 1099511627777), (12, vU 0), (8, vU (D : Int))] [58, 13, 12, 8] (by kernel_rfl) ?_
     refine ops_nil ?_
     refine fin_then ?_
     refine st_if (b := !g3) rfl (fun hc6 => ?_) (fun hc6 => ?_)
     · --
      have hv := hvp (by simpa using hc6)
      refine st_seq ?_
      refine st_seq ?_
      refine st_region [oF 0, oF 1, oF 2, oF 3, oF 4] (by rfl) ?_
      refine oR [oF 0, oF 1, oF 2, oF 3] [(62, vU (IntKind.u64.wrap ((D : Int) - 0))), (59, vU 0), (13, vI 1099511627777)] [62, 59, 13] (by kernel_rfl) ?_
      refine ops_conv (l' := [(62, vU ((D : Int) - 0)), (59, vU 0), (13, vI 1099511627777)]) (by rw [(w64_in (x := (D : Int) - 0) (by omega) (by omega))]) (fun _ h => h) ?_
      refine oR [oF 4] [(63, .bool (decide (((D : Int) - 0) ≤ 0))), (13, vI 1099511627777)] [63, 13] (by kernel_rfl) ?_
      refine ops_nil ?_
      refine fin_then ?_
      refine st_if (b := decide (((D : Int) - 0) ≤ 0)) rfl (fun hc7 => ?_) (fun hc7 => ?_)
      · --
       have : (((D : Int) - 0) ≤ 0) := of_decide_eq_true hc7
       refine st_region [oF 0, oF 1, oF 2] (by rfl) ?_
       refine oR [oF 0, oF 1, oF 2] [(13, vI 1099511627778)] [13] (by kernel_rfl) ?_
       refine ops_nil ?_
       refine fin_then ?_
       refine st_seq ?_
       refine st_region [oF 0, oF 1, oF 2] (by rfl) ?_
       refine oR [oF 0] [(66, vI 1099511627778)] [66] (by kernel_rfl) ?_
       refine oC (some 67) 18 #[vI 1099511627778] (vI (min (max 1099511627778 (-1099511627776)) 1099511627776)) ⟨by kernel_rfl⟩ (fun w_ hM => Clamp_calls 1099511627778 w_) ?_
       refine oR [oF 2] [(6, vI (min (max 1099511627778 (-1099511627776)) 1099511627776))] [6] (by kernel_rfl) ?_
       refine ops_nil ?_
       refine fin_then ?_
       refine st_ret ?_
       refine fin_ret_then ?_
       refine fin_ret [.tmp 6] [vI (min (max 1099511627778 (-1099511627776)) 1099511627776)] rfl rfl (fun w_ hM => (.tmp rfl .nil)) (fun w_ hM => ?_)
       refine ⟨congrArg (fun z => Ending.returned (.int .i64 z)) ?_, hM.done⟩
       clear ha hb hc hA hB hD hgi hg1 hg2 hg3 hvn hvp hp hq hr hAM hBM
       omega
      · --
       have : ¬ (((D : Int) - 0) ≤ 0) := of_decide_eq_false hc7
       refine st_skip ?_
       refine fin_then ?_
       refine st_seq ?_
       refine st_region [oF 0, oF 1, oF 2] (by rfl) ?_
       refine oR [oF 0] [(66, vI 1099511627777)] [66] (by kernel_rfl) ?_
       refine oC (some 67) 18 #[vI 1099511627777] (vI (min (max 1099511627777 (-1099511627776)) 1099511627776)) ⟨by kernel_rfl⟩ (fun w_ hM => Clamp_calls 1099511627777 w_) ?_
       refine oR [oF 2] [(6, vI (min (max 1099511627777 (-1099511627776)) 1099511627776))] [6] (by kernel_rfl) ?_
       refine ops_nil ?_
       refine fin_then ?_
       refine st_ret ?_
       refine fin_ret_then ?_
       refine fin_ret [.tmp 6] [vI (min (max 1099511627777 (-1099511627776)) 1099511627776)] rfl rfl (fun w_ hM => (.tmp rfl .nil)) (fun w_ hM => ?_)
       refine ⟨congrArg (fun z => Ending.returned (.int .i64 z)) ?_, hM.done⟩
       clear ha hb hc hA hB hD hgi hg1 hg2 hg3 hvn hvp hp hq hr hAM hBM
       omega
     · --
      have hv := hvn (by simpa using hc6)
      refine st_skip ?_
      refine fin_then ?_
      refine st_seq ?_
      refine st_seq ?_
      refine st_region [oF 0, oF 1, oF 2, oF 3, oF 4] (by rfl) ?_
      refine oR [oF 0, oF 1, oF 2, oF 3] [(71, vU (IntKind.u64.wrap ((D : Int) - 0))), (68, vU 0), (13, vI 1099511627777)] [71, 68, 13] (by kernel_rfl) ?_
      refine ops_conv (l' := [(71, vU ((D : Int) - 0)), (68, vU 0), (13, vI 1099511627777)]) (by rw [(w64_in (x := (D : Int) - 0) (by omega) (by omega))]) (fun _ h => h) ?_
      refine oR [oF 4] [(72, .bool (decide (((D : Int) - 0) < 0))), (13, vI 1099511627777)] [72, 13] (by kernel_rfl) ?_
      refine ops_nil ?_
      refine fin_then ?_
      refine st_if (b := decide (((D : Int) - 0) < 0)) rfl (fun hc8 => ?_) (fun hc8 => ?_)
      · --
       have : (((D : Int) - 0) < 0) := of_decide_eq_true hc8
       refine st_region [oF 0, oF 1, oF 2] (by rfl) ?_
       refine oR [oF 0, oF 1, oF 2] [(13, vI 1099511627778)] [13] (by kernel_rfl) ?_
       refine ops_nil ?_
       refine fin_then ?_
       refine st_seq ?_
       refine st_region [oF 0, oF 1, oF 2, oF 3] (by rfl) ?_
       refine oR [oF 0, oF 1] [(76, vI (-1099511627778))] [76] (by kernel_rfl) ?_
       refine oC (some 77) 18 #[vI (-1099511627778)] (vI (min (max (-1099511627778) (-1099511627776)) 1099511627776)) ⟨by kernel_rfl⟩ (fun w_ hM => Clamp_calls (-1099511627778) w_) ?_
       refine oR [oF 3] [(6, vI (min (max (-1099511627778) (-1099511627776)) 1099511627776))] [6] (by kernel_rfl) ?_
       refine ops_nil ?_
       refine fin_then ?_
       refine st_ret ?_
       refine fin_ret [.tmp 6] [vI (min (max (-1099511627778) (-1099511627776)) 1099511627776)] rfl rfl (fun w_ hM => (.tmp rfl .nil)) (fun w_ hM => ?_)
       refine ⟨congrArg (fun z => Ending.returned (.int .i64 z)) ?_, hM.done⟩
       clear ha hb hc hA hB hD hgi hg1 hg2 hg3 hvn hvp hp hq hr hAM hBM
       omega
      · --
       have : ¬ (((D : Int) - 0) < 0) := of_decide_eq_false hc8
       refine st_skip ?_
       refine fin_then ?_
       refine st_seq ?_
       refine st_region [oF 0, oF 1, oF 2, oF 3] (by rfl) ?_
       refine oR [oF 0, oF 1] [(76, vI (-1099511627777))] [76] (by kernel_rfl) ?_
       refine oC (some 77) 18 #[vI (-1099511627777)] (vI (min (max (-1099511627777) (-1099511627776)) 1099511627776)) ⟨by kernel_rfl⟩ (fun w_ hM => Clamp_calls (-1099511627777) w_) ?_
       refine oR [oF 3] [(6, vI (min (max (-1099511627777) (-1099511627776)) 1099511627776))] [6] (by kernel_rfl) ?_
       refine ops_nil ?_
       refine fin_then ?_
       refine st_ret ?_
       refine fin_ret [.tmp 6] [vI (min (max (-1099511627777) (-1099511627776)) 1099511627776)] rfl rfl (fun w_ hM => (.tmp rfl .nil)) (fun w_ hM => ?_)
       refine ⟨congrArg (fun z => Ending.returned (.int .i64 z)) ?_, hM.done⟩
       clear ha hb hc hA hB hD hgi hg1 hg2 hg3 hvn hvp hp hq hr hAM hBM
       omega
    · --
     have : ¬ (1099511627776 < (q : Int)) := of_decide_eq_false hc5
     refine st_skip ?_
     refine fin_then ?_
     refine st_seq ?_
     refine st_region [oF 0, oF 1, oF 2] (by rfl) ?_
     refine oR [oF 0, oF 1] [(56, vI (IntKind.i64.wrap (q : Int))), (12, vU (r : Int)), (8, vU (D : Int)), (7, .bool g3)] [56, 12, 8, 7] (by kernel_rfl) ?_
     refine ops_conv (l' := [(56, vI (q : Int)), (12, vU (r : Int)), (8, vU (D : Int)), (7, .bool g3)]) (by rw [(i64in (x := (q : Int)) (by omega) (by omega))]) (fun _ h => h) ?_
     refine oR [oF 2] [(13, vI (q : Int)), (12, vU (r : Int)), (8, vU (D : Int)), (7, .bool g3)] [13, 12, 8, 7] (by kernel_rfl) ?_
     refine ops_nil ?_
     refine fin_then ?_
     refine st_seq ?_
     refine st_seq ?_
     refine st_region [oF 0, oF 1] (by rfl) ?_
     refine oR [oF 0, oF 1] [(58, .bool (!g3)), (13, vI (q : Int)), (12, vU (r : Int)), (8, vU (D : Int))] [58, 13, 12, 8] (by kernel_rfl) ?_
     refine ops_nil ?_
     refine fin_then ?_
     refine st_if (b := !g3) rfl (fun hc9 => ?_) (fun hc9 => ?_)
     · --
      have hv := hvp (by simpa using hc9)
      refine st_seq ?_
      refine st_seq ?_
      refine st_region [oF 0, oF 1, oF 2, oF 3, oF 4] (by rfl) ?_
      refine oR [oF 0, oF 1, oF 2, oF 3] [(62, vU (IntKind.u64.wrap ((D : Int) - (r : Int)))), (59, vU (r : Int)), (13, vI (q : Int))] [62, 59, 13] (by kernel_rfl) ?_
      refine ops_conv (l' := [(62, vU ((D : Int) - (r : Int))), (59, vU (r : Int)), (13, vI (q : Int))]) (by rw [(w64_in (x := (D : Int) - (r : Int)) (by omega) (by omega))]) (fun _ h => h) ?_
      refine oR [oF 4] [(63, .bool (decide (((D : Int) - (r : Int)) ≤ (r : Int)))), (13, vI (q : Int))] [63, 13] (by kernel_rfl) ?_
      refine ops_nil ?_
      refine fin_then ?_
      refine st_if (b := decide (((D : Int) - (r : Int)) ≤ (r : Int))) rfl (fun hc10 => ?_) (fun hc10 => ?_)
      · --
       have : (((D : Int) - (r : Int)) ≤ (r : Int)) := of_decide_eq_true hc10
       refine st_region [oF 0, oF 1, oF 2] (by rfl) ?_
       refine oR [oF 0, oF 1] [(65, vI (IntKind.i64.wrap ((q : Int) + 1))), (13, vI (q : Int))] [65, 13] (by kernel_rfl) ?_
       refine ops_conv (l' := [(65, vI ((q : Int) + 1)), (13, vI (q : Int))]) (by rw [(i64in (x := (q : Int) + 1) (by omega) (by omega))]) (fun _ h => h) ?_
       refine oR [oF 2] [(13, vI ((q : Int) + 1))] [13] (by kernel_rfl) ?_
       refine ops_nil ?_
       refine fin_then ?_
       refine st_seq ?_
       refine st_region [oF 0, oF 1, oF 2] (by rfl) ?_
       refine oR [oF 0] [(66, vI ((q : Int) + 1))] [66] (by kernel_rfl) ?_
       refine oC (some 67) 18 #[vI ((q : Int) + 1)] (vI (min (max ((q : Int) + 1) (-1099511627776)) 1099511627776)) ⟨by kernel_rfl⟩ (fun w_ hM => Clamp_calls ((q : Int) + 1) w_) ?_
       refine oR [oF 2] [(6, vI (min (max ((q : Int) + 1) (-1099511627776)) 1099511627776))] [6] (by kernel_rfl) ?_
       refine ops_nil ?_
       refine fin_then ?_
       refine st_ret ?_
       refine fin_ret_then ?_
       refine fin_ret [.tmp 6] [vI (min (max ((q : Int) + 1) (-1099511627776)) 1099511627776)] rfl rfl (fun w_ hM => (.tmp rfl .nil)) (fun w_ hM => ?_)
       refine ⟨congrArg (fun z => Ending.returned (.int .i64 z)) ?_, hM.done⟩
       clear ha hb hc hA hB hD hgi hg1 hg2 hg3 hvn hvp hp hq hr hAM hBM
       omega
      · --
       have : ¬ (((D : Int) - (r : Int)) ≤ (r : Int)) := of_decide_eq_false hc10
       refine st_skip ?_
       refine fin_then ?_
       refine st_seq ?_
       refine st_region [oF 0, oF 1, oF 2] (by rfl) ?_
       refine oR [oF 0] [(66, vI (q : Int))] [66] (by kernel_rfl) ?_
       refine oC (some 67) 18 #[vI (q : Int)] (vI (min (max (q : Int) (-1099511627776)) 1099511627776)) ⟨by kernel_rfl⟩ (fun w_ hM => Clamp_calls (q : Int) w_) ?_
       refine oR [oF 2] [(6, vI (min (max (q : Int) (-1099511627776)) 1099511627776))] [6] (by kernel_rfl) ?_
       refine ops_nil ?_
       refine fin_then ?_
       refine st_ret ?_
       refine fin_ret_then ?_
       refine fin_ret [.tmp 6] [vI (min (max (q : Int) (-1099511627776)) 1099511627776)] rfl rfl (fun w_ hM => (.tmp rfl .nil)) (fun w_ hM => ?_)
       refine ⟨congrArg (fun z => Ending.returned (.int .i64 z)) ?_, hM.done⟩
       clear ha hb hc hA hB hD hgi hg1 hg2 hg3 hvn hvp hp hq hr hAM hBM
       omega
     · --
      have hv := hvn (by simpa using hc9)
      refine st_skip ?_
      refine fin_then ?_
      refine st_seq ?_
      refine st_seq ?_
      refine st_region [oF 0, oF 1, oF 2, oF 3, oF 4] (by rfl) ?_
      refine oR [oF 0, oF 1, oF 2, oF 3] [(71, vU (IntKind.u64.wrap ((D : Int) - (r : Int)))), (68, vU (r : Int)), (13, vI (q : Int))] [71, 68, 13] (by kernel_rfl) ?_
      refine ops_conv (l' := [(71, vU ((D : Int) - (r : Int))), (68, vU (r : Int)), (13, vI (q : Int))]) (by rw [(w64_in (x := (D : Int) - (r : Int)) (by omega) (by omega))]) (fun _ h => h) ?_
      refine oR [oF 4] [(72, .bool (decide (((D : Int) - (r : Int)) < (r : Int)))), (13, vI (q : Int))] [72, 13] (by kernel_rfl) ?_
      refine ops_nil ?_
      refine fin_then ?_
      refine st_if (b := decide (((D : Int) - (r : Int)) < (r : Int))) rfl (fun hc11 => ?_) (fun hc11 => ?_)
      · --
       have : (((D : Int) - (r : Int)) < (r : Int)) := of_decide_eq_true hc11
       refine st_region [oF 0, oF 1, oF 2] (by rfl) ?_
       refine oR [oF 0, oF 1] [(74, vI (IntKind.i64.wrap ((q : Int) + 1))), (13, vI (q : Int))] [74, 13] (by kernel_rfl) ?_
       refine ops_conv (l' := [(74, vI ((q : Int) + 1)), (13, vI (q : Int))]) (by rw [(i64in (x := (q : Int) + 1) (by omega) (by omega))]) (fun _ h => h) ?_
       refine oR [oF 2] [(13, vI ((q : Int) + 1))] [13] (by kernel_rfl) ?_
       refine ops_nil ?_
       refine fin_then ?_
       refine st_seq ?_
       refine st_region [oF 0, oF 1, oF 2, oF 3] (by rfl) ?_
       refine oR [oF 0, oF 1] [(76, vI (IntKind.i64.wrap (0 - ((q : Int) + 1))))] [76] (by kernel_rfl) ?_
       refine ops_conv (l' := [(76, vI (0 - ((q : Int) + 1)))]) (by rw [(i64in (x := 0 - ((q : Int) + 1)) (by omega) (by omega))]) (fun _ h => h) ?_
       refine oC (some 77) 18 #[vI (0 - ((q : Int) + 1))] (vI (min (max (0 - ((q : Int) + 1)) (-1099511627776)) 1099511627776)) ⟨by kernel_rfl⟩ (fun w_ hM => Clamp_calls (0 - ((q : Int) + 1)) w_) ?_
       refine oR [oF 3] [(6, vI (min (max (0 - ((q : Int) + 1)) (-1099511627776)) 1099511627776))] [6] (by kernel_rfl) ?_
       refine ops_nil ?_
       refine fin_then ?_
       refine st_ret ?_
       refine fin_ret [.tmp 6] [vI (min (max (0 - ((q : Int) + 1)) (-1099511627776)) 1099511627776)] rfl rfl (fun w_ hM => (.tmp rfl .nil)) (fun w_ hM => ?_)
       refine ⟨congrArg (fun z => Ending.returned (.int .i64 z)) ?_, hM.done⟩
       clear ha hb hc hA hB hD hgi hg1 hg2 hg3 hvn hvp hp hq hr hAM hBM
       omega
      · --
       have : ¬ (((D : Int) - (r : Int)) < (r : Int)) := of_decide_eq_false hc11
       refine st_skip ?_
       refine fin_then ?_
       refine st_seq ?_
       refine st_region [oF 0, oF 1, oF 2, oF 3] (by rfl) ?_
       refine oR [oF 0, oF 1] [(76, vI (IntKind.i64.wrap (0 - (q : Int))))] [76] (by kernel_rfl) ?_
       refine ops_conv (l' := [(76, vI (0 - (q : Int)))]) (by rw [(i64in (x := 0 - (q : Int)) (by omega) (by omega))]) (fun _ h => h) ?_
       refine oC (some 77) 18 #[vI (0 - (q : Int))] (vI (min (max (0 - (q : Int)) (-1099511627776)) 1099511627776)) ⟨by kernel_rfl⟩ (fun w_ hM => Clamp_calls (0 - (q : Int)) w_) ?_
       refine oR [oF 3] [(6, vI (min (max (0 - (q : Int)) (-1099511627776)) 1099511627776))] [6] (by kernel_rfl) ?_
       refine ops_nil ?_
       refine fin_then ?_
       refine st_ret ?_
       refine fin_ret [.tmp 6] [vI (min (max (0 - (q : Int)) (-1099511627776)) 1099511627776)] rfl rfl (fun w_ hM => (.tmp rfl .nil)) (fun w_ hM => ?_)
       refine ⟨congrArg (fun z => Ending.returned (.int .i64 z)) ?_, hM.done⟩
       clear ha hb hc hA hB hD hgi hg1 hg2 hg3 hvn hvp hp hq hr hAM hBM
       omega
set_option maxHeartbeats 4000000 in
set_option maxRecDepth 100000 in
theorem MulDivZ (a0 b0 c0 : Int) (w : World) (hc : min (max c0 (-1099511627776)) 1099511627776 = 0) : Calls Try.prog 25 #[vI a0, vI b0, vI c0] w fun e w' => e = .returned (vI 0) ∧ Below w.heap.size w w' := by
 refine sx_calls Try.func25 rfl (n := 78) (by kernel_rfl) (l := [(0, vI a0), (1, vI b0), (2, vI c0)]) rfl (by rfl) (Mem.nil w) ?_
 refine st_seq ?_
 refine st_region [oF 0] (by rfl) ?_
 refine oR [oF 0] [(0, vI a0), (1, vI b0), (2, vI c0)] [0, 1, 2] (by kernel_rfl) ?_
 refine ops_nil ?_
 refine fin_then ?_
 refine st_seq ?_
 refine st_region [oF 0, oF 1, oF 2, oF 3, oF 4, oF 5, oF 6, oF 7, oF 8] (by rfl) ?_
 refine oR [oF 0] [(14, vI a0), (0, vI a0), (1, vI b0), (2, vI c0)] [14, 0, 1, 2] (by kernel_rfl) ?_
 refine oC (some 15) 18 #[vI a0] (vI (min (max a0 (-1099511627776)) 1099511627776)) ⟨by kernel_rfl⟩ (fun w_ hM => Clamp_calls a0 w_) ?_
 refine oR [oF 2] [(16, vI b0), (15, vI (min (max a0 (-1099511627776)) 1099511627776)), (0, vI a0), (1, vI b0), (2, vI c0)] [16, 15, 0, 1, 2] (by kernel_rfl) ?_
 refine oC (some 17) 18 #[vI b0] (vI (min (max b0 (-1099511627776)) 1099511627776)) ⟨by kernel_rfl⟩ (fun w_ hM => Clamp_calls b0 w_) ?_
 refine oR [oF 4] [(18, vI c0), (17, vI (min (max b0 (-1099511627776)) 1099511627776)), (15, vI (min (max a0 (-1099511627776)) 1099511627776)), (0, vI a0), (1, vI b0), (2, vI c0)] [18, 17, 15, 0, 1, 2] (by kernel_rfl) ?_
 refine oC (some 19) 18 #[vI c0] (vI 0) ⟨by kernel_rfl⟩ (fun w_ hM => Clamp_as c0 0 w_ hc) ?_
 refine oR [oF 6, oF 7, oF 8] [(2, vI 0), (1, vI (min (max b0 (-1099511627776)) 1099511627776)), (0, vI (min (max a0 (-1099511627776)) 1099511627776))] [2, 1, 0] (by kernel_rfl) ?_
 refine ops_nil ?_
 refine fin_then ?_
 refine st_seq ?_
 refine st_seq ?_
 refine st_region [oF 0, oF 1] (by rfl) ?_
 refine oR [oF 0, oF 1] [(21, .bool true), (2, vI 0), (1, vI (min (max b0 (-1099511627776)) 1099511627776)), (0, vI (min (max a0 (-1099511627776)) 1099511627776))] [21, 2, 1, 0] (by kernel_rfl) ?_
 refine ops_nil ?_
 refine fin_then ?_
 refine st_true rfl ?_
 refine st_seq ?_
 refine st_region [oF 0] (by rfl) ?_
 refine oR [oF 0] [(6, vI 0)] [6] (by kernel_rfl) ?_
 refine ops_nil ?_
 refine fin_then ?_
 refine st_ret ?_
 refine fin_ret_then ?_
 refine fin_ret [.tmp 6] [vI 0] rfl rfl (fun w_ hM => (.tmp rfl .nil)) (fun w_ hM => ?_)
 refine ⟨?_, hM.done⟩
 rfl
theorem MulDiv_calls (a b c : Int) (w : World) : Calls Try.prog 25 #[.int .i64 a, .int .i64 b, .int .i64 c] w fun e w' => e = .returned (.int .i64 (thruV a b c)) ∧ Below w.heap.size w w' := by
  by_cases h : clV c = 0
  · rw [show thruV a b c = 0 from if_pos h]; exact MulDivZ a b c w h
  · exact MulDiv0 a b c _ _ _ _ _ _ _ _ _ _ _ _ _ _ _ w (thru_ok h) rfl rfl rfl rfl rfl rfl
end Go.Proofs.Ytioijglogoppnaa.WThru
