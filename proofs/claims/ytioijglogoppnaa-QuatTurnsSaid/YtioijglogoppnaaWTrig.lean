/- Walks of package trig's Sin and Cos and of the reference's Sine and Cosine. No condition. -/
import Derived.Test.YtioijglogoppnaaProg
import Derived.Test.YtioijglogoppnaaSxOps
import Derived.Test.YtioijglogoppnaaTrigSpec
import Derived.Test.YtioijglogoppnaaSxFast
namespace Go.Proofs.Ytioijglogoppnaa.WTrig
open Go Go.RowKit Go.Proofs.Ytioijglogoppnaa.Sx Go.Proofs.Ytioijglogoppnaa.Rnd Go.Proofs.Ytioijglogoppnaa.Trig
set_option linter.unusedVariables false
set_option linter.unusedSimpArgs false
def table_calls_l0 : List Int := [0, 1608, 3216, 4821, 6424, 8022, 9616, 11204, 12785, 14359, 15924, 17479, 19024, 20557, 22078, 23586, 25080, 26558, 28020, 29466, 30893, 32303, 33692, 35062, 36410, 37736, 39040, 40320, 41576, 42806, 44011, 45190, 46341, 47464, 48559, 49624, 50660, 51665, 52639, 53581, 54491, 55368, 56212, 57022, 57798, 58538, 59244, 59914, 60547, 61145, 61705, 62228, 62714, 63162, 63572, 63944, 64277, 64571, 64827, 65043, 65220, 65358, 65457, 65516, 65536]
theorem table_calls_l0_length : table_calls_l0.length = 65 := rfl
set_option maxHeartbeats 4000000 in
set_option maxRecDepth 100000 in
theorem table_calls  (w : World) : Calls Try.prog 139 #[] w fun e w' => e = .returned (.agg (iv .i64 tab).toArray) ∧ Below w.heap.size w w' := by
 refine sx_calls Try.func139 rfl (n := 2) (by kernel_rfl) (l := []) rfl (by rfl) (Mem.nil w) ?_
 refine st_seq ?_
 refine st_region [oF 0] (by rfl) ?_
 refine ops_new (d := some 0) (o := .cells (iv .i64 (List.replicate 65 0)).toArray 166) (v := fun b1 => vP b1 0) (M' := fun b1 => Mem w [.row (some ⟨b1, 0, none⟩) 65 65 166 1 (iv .i64 (List.replicate 65 0))]) (fun b1 => ⟨by kernel_rfl⟩) (fun w_ hM hS => ⟨hM.rowNew (iv .i64 (List.replicate 65 0)) 166 65 1 rfl (by decide), trivial⟩) (fun b1 => ?_)
 refine oR [] [(0, vP b1 0)] [0] (by kernel_rfl) ?_
 refine ops_nil ?_
 refine fin_then ?_
 refine st_seq ?_
 refine st_region [oF 0, oF 1] (by rfl) ?_
 refine oR [oF 0] [(1, .agg (iv .i64 table_calls_l0).toArray), (0, vP b1 0)] [1, 0] (by kernel_rfl) ?_
 refine ops_store (an := []) (evs := stores b1 0 (iv .i64 table_calls_l0)) (M' := Mem w [.row (some ⟨b1, 0, none⟩) 65 65 166 1 (iv .i64 table_calls_l0)]) ⟨by kernel_rfl⟩ (fun w_ hM hS => let ⟨w', he, h'⟩ := hM.evs_rowstores (iv .i64 table_calls_l0) 0 rfl 0 (by simp [table_calls_l0]); ⟨w', he, (by rw [setAll_all (by rfl)] at h'; exact h'), trivial⟩) ?_
 refine oR [] [(0, vP b1 0)] [0] (by kernel_rfl) ?_
 refine ops_nil ?_
 refine fin_then ?_
 refine st_ret ?_
 refine fin_ret [.cell 0 166] [.agg (iv .i64 table_calls_l0).toArray] rfl rfl (fun w_ hM => (.cell rfl (tr_run _ ((iv .i64 table_calls_l0).map .v) (loads b1 0 (iv .i64 table_calls_l0)) (.agg (iv .i64 table_calls_l0).toArray : Value) _ _ (by kernel_rfl) (hM.evs_rowall 0 rfl)) .nil)) (fun w_ hM => ?_)
 refine ⟨?_, hM.done⟩
 rfl
def first_calls_t0 : List Row := [⟨0, 65536, 16⟩, ⟨1, 131072, 65544⟩, ⟨2, 262144, 131072⟩, ⟨0, 524288, 16⟩, ⟨8, 1048576, 524288⟩, ⟨16, 2097152, 1048584⟩, ⟨32, 4194304, 2097152⟩, ⟨0, 8388608, 16⟩, ⟨128, 16777216, 8388616⟩, ⟨256, 33554432, 16777216⟩, ⟨576, 67108864, 37748736⟩, ⟨0, 134217728, 32⟩, ⟨3072, 268435456, 201326592⟩, ⟨4096, 536870912, 268435456⟩, ⟨8192, 1073741824, 536870912⟩, ⟨16388, 2147483648, 1074003968⟩, ⟨65535, 4, 2147483648⟩]
set_option maxHeartbeats 4000000 in
set_option maxRecDepth 100000 in
theorem first_calls (r : Nat) (w : World) (h : r ≤ 16384) : Calls Try.prog 126 #[vI (r : Int)] w fun e w' => e = .returned (vI (firstV r)) ∧ Below w.heap.size w w' := by
 have hq : IntKind.i64.wrap (Int.tdiv (r : Int) 256) = ((r / 256 : Nat) : Int) := by rw [Int.tdiv_eq_ediv_of_nonneg (by omega), i64in (by omega) (by omega)]; omega
 have hf : Int.tmod (r : Int) 256 = ((r % 256 : Nat) : Int) := by rw [Int.tmod_eq_emod_of_nonneg (by omega)]; omega
 have hq1 : IntKind.i64.wrap (((r / 256 : Nat) : Int) + 1) = ((r / 256 + 1 : Nat) : Int) := by rw [i64in (by omega) (by omega)]; omega
 have htl : tab.length = 65 := rfl
 refine sx_calls Try.func126 rfl (n := 32) (by kernel_rfl) (l := [(0, vI (r : Int))]) rfl (by rfl) (Mem.nil w) ?_
 refine st_seq ?_
 refine st_region [oF 0] (by rfl) ?_
 refine oR [oF 0] [(0, vI (r : Int))] [0] (by kernel_rfl) ?_
 refine ops_nil ?_
 refine fin_then ?_
 refine st_seq ?_
 refine st_region [oF 0, oF 1, oF 2] (by rfl) ?_
 refine oC (some 6) 139 #[] (.agg (iv .i64 tab).toArray) ⟨by kernel_rfl⟩ (fun w_ hM => table_calls w_) ?_
 refine oR [] [(6, .agg (iv .i64 tab).toArray), (0, vI (r : Int))] [6, 0] (by kernel_rfl) ?_
 refine ops_new (d := some 3) (o := .cells (iv .i64 (List.replicate 65 0)).toArray 166) (v := fun b1 => vP b1 0) (M' := fun b1 => Mem w [.row (some ⟨b1, 0, none⟩) 65 65 166 1 (iv .i64 (List.replicate 65 0))]) (fun b1 => ⟨by kernel_rfl⟩) (fun w_ hM hS => ⟨hM.rowNew (iv .i64 (List.replicate 65 0)) 166 65 1 rfl (by decide), trivial⟩) (fun b1 => ?_)
 refine oR [] [(3, vP b1 0), (6, .agg (iv .i64 tab).toArray), (0, vI (r : Int))] [3, 6, 0] (by kernel_rfl) ?_
 refine ops_store (an := []) (evs := stores b1 0 (iv .i64 tab)) (M' := Mem w [.row (some ⟨b1, 0, none⟩) 65 65 166 1 (iv .i64 tab)]) ⟨by kernel_rfl⟩ (fun w_ hM hS => let ⟨w', he, h'⟩ := hM.evs_rowstores (iv .i64 tab) 0 rfl 0 (by simp [tab]); ⟨w', he, (by rw [setAll_all (by rfl)] at h'; exact h'), trivial⟩) ?_
 refine oR [] [(3, vP b1 0), (0, vI (r : Int))] [3, 0] (by kernel_rfl) ?_
 refine ops_nil ?_
 refine fin_then ?_
 refine st_seq ?_
 refine st_region [oF 0, oF 1, oF 2, oF 3, oF 4, oF 5] (by rfl) ?_
 refine oR [oF 0, oF 1] [(8, vI (IntKind.i64.wrap (Int.tdiv (r : Int) 256))), (3, vP b1 0), (0, vI (r : Int))] [8, 3, 0] (by kernel_rfl) ?_
 refine ops_conv (l' := [(8, vI ((r / 256 : Nat) : Int)), (3, vP b1 0), (0, vI (r : Int))]) (by rw [hq]) (fun _ h => h) ?_
 refine oR [oF 2, oF 3] [(10, vI (Int.tmod (r : Int) 256)), (8, vI ((r / 256 : Nat) : Int)), (3, vP b1 0)] [10, 8, 3] (by kernel_rfl) ?_
 refine ops_conv (l' := [(10, vI ((r % 256 : Nat) : Int)), (8, vI ((r / 256 : Nat) : Int)), (3, vP b1 0)]) (by rw [hf]) (fun _ h => h) ?_
 refine oR [oF 4, oF 5] [(5, vI ((r % 256 : Nat) : Int)), (4, vI ((r / 256 : Nat) : Int)), (3, vP b1 0)] [5, 4, 3] (by kernel_rfl) ?_
 refine ops_nil ?_
 refine fin_then ?_
 refine st_seq ?_
 refine st_seq ?_
 refine st_region [oF 0, oF 1] (by rfl) ?_
 refine oR [oF 0, oF 1] [(12, .bool (((r % 256 : Nat) : Int) == 0)), (5, vI ((r % 256 : Nat) : Int)), (4, vI ((r / 256 : Nat) : Int)), (3, vP b1 0)] [12, 5, 4, 3] (by kernel_rfl) ?_
 refine ops_nil ?_
 refine fin_then ?_
 refine st_if (b := (((r % 256 : Nat) : Int) == 0)) rfl (fun hc2 => ?_) (fun hc2 => ?_)
 · --
  have hz : r % 256 = 0 := by have := beq_iff_eq.1 hc2; omega
  refine st_seq ?_
  refine st_region [oF 0, oF 1, oF 2, oF 3] (by rfl) ?_
  refine oR [oF 0] [(13, vI ((r / 256 : Nat) : Int)), (3, vP b1 0)] [13, 3] (by kernel_rfl) ?_
  refine ops_val (op := (Go.Op.indexAddr 166 (Go.Operand.tmp 3) (Go.Operand.tmp 13))) (d := some 14) (v := vP b1 (r / 256)) ⟨by kernel_rfl⟩ (run_indexArrRow Try.underlying166 (z := 1) (by kernel_rfl) rfl rfl (m := r / 256) (by first | rfl | omega) (by omega) (by omega)) ?_
  refine oR [] [(14, vP b1 (r / 256))] [14] (by kernel_rfl) ?_
  refine ops_mem (d := some 15) (an := [.v (vI (tab.getD (r / 256) 0))]) (evs := [.load ⟨b1, r / 256, none⟩ (vI (tab.getD (r / 256) 0))]) (v := vI (tab.getD (r / 256) 0)) (M' := Mem w [.row (some ⟨b1, 0, none⟩) 65 65 166 1 (iv .i64 tab)]) ⟨by kernel_rfl⟩ (fun w_ hM hS => ⟨w_, ⟨hM.rowcell 0 rfl (iv_get (by omega)), rfl⟩, hM, trivial⟩) ?_
  refine oR [oF 3] [(2, vI (tab.getD (r / 256) 0))] [2] (by kernel_rfl) ?_
  refine ops_nil ?_
  refine fin_then ?_
  refine st_ret ?_
  refine fin_ret_then ?_
  refine fin_ret [.tmp 2] [vI (tab.getD (r / 256) 0)] rfl rfl (fun w_ hM => (.tmp rfl .nil)) (fun w_ hM => ?_)
  refine ⟨?_, hM.done⟩
  simp only [theOne, firstV, if_pos hz]
 · --
  have hz : r % 256 ≠ 0 := by have := beq_eq_false_iff_ne.1 hc2; omega
  have hlt : r < 16384 := by omega
  refine st_skip ?_
  refine fin_then ?_
  refine st_seq ?_
  refine st_region_fast first_calls_t0 [oT 0, oT 1, oT 2, oT 3, oT 4, oT 5, oT 6, oT 7, oT 8, oT 9, oT 10, oT 11, oT 12, oT 13, oT 14, oT 15, oT 16] (Mem w [.row (some ⟨b1, 0, none⟩) 65 65 166 1 (iv .i64 tab)]) (by kernel_rfl) (by kernel_rfl) (by kernel_rfl) (by kernel_rfl) (by kernel_rfl) (fun _ d _ _ _ h => by cases d <;> exact h) (M' := Mem w [.row (some ⟨b1, 0, none⟩) 65 65 166 1 (iv .i64 tab)]) (fun w_ hM => ⟨hM.drew, hM.drew.sub (.cons_cons _ .slnil)⟩) ?_
  refine oR [oT 0] [(16, vI ((r / 256 : Nat) : Int)), (5, vI ((r % 256 : Nat) : Int)), (4, vI ((r / 256 : Nat) : Int)), (3, vP b1 0)] [16, 5, 4, 3] (by kernel_rfl) ?_
  refine ops_val (op := (Go.Op.indexAddr 166 (Go.Operand.tmp 3) (Go.Operand.tmp 16))) (d := some 17) (v := vP b1 (r / 256)) ⟨by kernel_rfl⟩ (run_indexArrRow Try.underlying166 (z := 1) (by kernel_rfl) rfl rfl (m := r / 256) (by first | rfl | omega) (by omega) (by omega)) ?_
  refine oR [] [(17, vP b1 (r / 256)), (5, vI ((r % 256 : Nat) : Int)), (4, vI ((r / 256 : Nat) : Int)), (3, vP b1 0)] [17, 5, 4, 3] (by kernel_rfl) ?_
  refine ops_load (d := some 18) (an := [.v (vI (tab.getD (r / 256) 0))]) (evs := [.load ⟨b1, r / 256, none⟩ (vI (tab.getD (r / 256) 0))]) (v := vI (tab.getD (r / 256) 0)) ⟨by kernel_rfl⟩ (fun w_ hM => ⟨hM.rowcell 0 rfl (iv_get (by omega)), rfl⟩) ?_
  refine oR [oT 3, oT 4] [(20, vI (IntKind.i64.wrap (((r / 256 : Nat) : Int) + 1))), (18, vI (tab.getD (r / 256) 0)), (5, vI ((r % 256 : Nat) : Int)), (4, vI ((r / 256 : Nat) : Int)), (3, vP b1 0)] [20, 18, 5, 4, 3] (by kernel_rfl) ?_
  refine ops_conv (l' := [(20, vI ((r / 256 + 1 : Nat) : Int)), (18, vI (tab.getD (r / 256) 0)), (5, vI ((r % 256 : Nat) : Int)), (4, vI ((r / 256 : Nat) : Int)), (3, vP b1 0)]) (by rw [hq1]) (fun _ h => h) ?_
  refine ops_val (op := (Go.Op.indexAddr 166 (Go.Operand.tmp 3) (Go.Operand.tmp 20))) (d := some 21) (v := vP b1 (r / 256 + 1)) ⟨by kernel_rfl⟩ (run_indexArrRow Try.underlying166 (z := 1) (by kernel_rfl) rfl rfl (m := r / 256 + 1) (by first | rfl | omega) (by omega) (by omega)) ?_
  refine oR [] [(21, vP b1 (r / 256 + 1)), (18, vI (tab.getD (r / 256) 0)), (5, vI ((r % 256 : Nat) : Int)), (4, vI ((r / 256 : Nat) : Int)), (3, vP b1 0)] [21, 18, 5, 4, 3] (by kernel_rfl) ?_
  refine ops_load (d := some 22) (an := [.v (vI (tab.getD (r / 256 + 1) 0))]) (evs := [.load ⟨b1, r / 256 + 1, none⟩ (vI (tab.getD (r / 256 + 1) 0))]) (v := vI (tab.getD (r / 256 + 1) 0)) ⟨by kernel_rfl⟩ (fun w_ hM => ⟨hM.rowcell 0 rfl (iv_get (by omega)), rfl⟩) ?_
  refine oR [oT 7] [(23, vI ((r / 256 : Nat) : Int)), (22, vI (tab.getD (r / 256 + 1) 0)), (18, vI (tab.getD (r / 256) 0)), (5, vI ((r % 256 : Nat) : Int)), (3, vP b1 0)] [23, 22, 18, 5, 3] (by kernel_rfl) ?_
  refine ops_val (op := (Go.Op.indexAddr 166 (Go.Operand.tmp 3) (Go.Operand.tmp 23))) (d := some 24) (v := vP b1 (r / 256)) ⟨by kernel_rfl⟩ (run_indexArrRow Try.underlying166 (z := 1) (by kernel_rfl) rfl rfl (m := r / 256) (by first | rfl | omega) (by omega) (by omega)) ?_
  refine oR [] [(24, vP b1 (r / 256)), (22, vI (tab.getD (r / 256 + 1) 0)), (18, vI (tab.getD (r / 256) 0)), (5, vI ((r % 256 : Nat) : Int))] [24, 22, 18, 5] (by kernel_rfl) ?_
  refine ops_load (d := some 25) (an := [.v (vI (tab.getD (r / 256) 0))]) (evs := [.load ⟨b1, r / 256, none⟩ (vI (tab.getD (r / 256) 0))]) (v := vI (tab.getD (r / 256) 0)) ⟨by kernel_rfl⟩ (fun w_ hM => ⟨hM.rowcell 0 rfl (iv_get (by omega)), rfl⟩) ?_
  refine oR [oT 10, oT 11, oT 12, oT 13, oT 14, oT 15, oT 16] [(2, vI (IntKind.i64.wrap (tab.getD (r / 256) 0 + IntKind.i64.wrap (Int.tdiv (IntKind.i64.wrap (IntKind.i64.wrap (IntKind.i64.wrap (tab.getD (r / 256 + 1) 0 - tab.getD (r / 256) 0) * ((r % 256 : Nat) : Int)) + 128)) 256))))] [2] (by kernel_rfl) ?_
  refine ops_nil ?_
  refine fin_then ?_
  refine st_ret ?_
  refine fin_ret [.tmp 2] [vI (IntKind.i64.wrap (tab.getD (r / 256) 0 + IntKind.i64.wrap (Int.tdiv (IntKind.i64.wrap (IntKind.i64.wrap (IntKind.i64.wrap (tab.getD (r / 256 + 1) 0 - tab.getD (r / 256) 0) * ((r % 256 : Nat) : Int)) + 128)) 256)))] rfl rfl (fun w_ hM => (.tmp rfl .nil)) (fun w_ hM => ?_)
  refine ⟨?_, hM.done⟩
  exact congrArg (fun z => Ending.returned (.int .i64 z)) (first_walk r hlt hz)
set_option maxHeartbeats 4000000 in
set_option maxRecDepth 100000 in
theorem Sin_nat (a : Int) (n : Nat) (w : World) (hn : Go.bits .and .i64 a 65535 = (n : Int)) (hlt : n < 65536) : Calls Try.prog 97 #[vI a] w fun e w' => e = .returned (vI (sinN n)) ∧ Below w.heap.size w w' := by
 have h1 : IntKind.i64.wrap (Int.tdiv (n : Int) 16384) = ((n / 16384 : Nat) : Int) := by rw [Int.tdiv_eq_ediv_of_nonneg (by omega), i64in (by omega) (by omega)]; omega
 have h2 : Int.tmod (n : Int) 16384 = ((n % 16384 : Nat) : Int) := by rw [Int.tmod_eq_emod_of_nonneg (by omega)]; omega
 have h3 : IntKind.i64.wrap (16384 - ((n % 16384 : Nat) : Int)) = ((16384 - n % 16384 : Nat) : Int) := by rw [i64in (by omega) (by omega)]; omega
 have h4 : IntKind.i64.wrap (0 - firstV (n % 16384)) = -firstV (n % 16384) := by have := first_le (n % 16384) (by omega); rw [i64in (by omega) (by omega)]; omega
 have h5 : IntKind.i64.wrap (0 - firstV (16384 - n % 16384)) = -firstV (16384 - n % 16384) := by have := first_le (16384 - n % 16384) (by omega); rw [i64in (by omega) (by omega)]; omega
 refine sx_calls Try.func97 rfl (n := 28) (by kernel_rfl) (l := [(0, vI a)]) rfl (by rfl) (Mem.nil w) ?_
 refine st_seq ?_
 refine st_region [oF 0] (by rfl) ?_
 refine oR [oF 0] [(0, vI a)] [0] (by kernel_rfl) ?_
 refine ops_nil ?_
 refine fin_then ?_
 refine st_seq ?_
 refine st_region [oF 0, oF 1, oF 2] (by rfl) ?_
 refine oR [oF 0, oF 1] [(5, vI (Go.bits .and .i64 a 65535)), (0, vI a)] [5, 0] (by kernel_rfl) ?_
 refine ops_conv (l' := [(5, vI (n : Int)), (0, vI a)]) (by rw [hn]) (fun _ h => h) ?_
 refine oR [oF 2] [(0, vI (n : Int))] [0] (by kernel_rfl) ?_
 refine ops_nil ?_
 refine fin_then ?_
 refine st_seq ?_
 refine st_region [oF 0, oF 1, oF 2] (by rfl) ?_
 refine oR [oF 0, oF 1] [(7, vI (Int.tmod (n : Int) 16384)), (0, vI (n : Int))] [7, 0] (by kernel_rfl) ?_
 refine ops_conv (l' := [(7, vI ((n % 16384 : Nat) : Int)), (0, vI (n : Int))]) (by rw [h2]) (fun _ h => h) ?_
 refine oR [oF 2] [(3, vI ((n % 16384 : Nat) : Int)), (0, vI (n : Int))] [3, 0] (by kernel_rfl) ?_
 refine ops_nil ?_
 refine fin_then ?_
 refine st_seq ?_
 refine st_seq ?_
 refine st_region [oF 0, oF 1] (by rfl) ?_
 refine oR [oF 0, oF 1] [(9, vI (IntKind.i64.wrap (Int.tdiv (n : Int) 16384))), (3, vI ((n % 16384 : Nat) : Int))] [9, 3] (by kernel_rfl) ?_
 refine ops_conv (l' := [(9, vI ((n / 16384 : Nat) : Int)), (3, vI ((n % 16384 : Nat) : Int))]) (by rw [h1]) (fun _ h => h) ?_
 refine ops_nil ?_
 refine fin_then ?_
 refine st_block ?_
 refine st_seq ?_
 refine st_region [oF 0, oF 1] (by rfl) ?_
 refine oR [oF 0, oF 1] [(10, .bool (((n / 16384 : Nat) : Int) == 0)), (9, vI ((n / 16384 : Nat) : Int)), (3, vI ((n % 16384 : Nat) : Int))] [10, 9, 3] (by kernel_rfl) ?_
 refine ops_nil ?_
 refine fin_then ?_
 refine st_if (b := (((n / 16384 : Nat) : Int) == 0)) rfl (fun hc1 => ?_) (fun hc1 => ?_)
 · --
  refine st_seq ?_
  refine st_region [oF 0, oF 1, oF 2] (by rfl) ?_
  refine oR [oF 0] [(12, vI ((n % 16384 : Nat) : Int))] [12] (by kernel_rfl) ?_
  refine oC (some 13) 126 #[vI ((n % 16384 : Nat) : Int)] (vI (firstV (n % 16384))) ⟨by kernel_rfl⟩ (fun w_ hM => first_calls (n % 16384) w_ (by omega)) ?_
  refine oR [oF 2] [(2, vI (firstV (n % 16384)))] [2] (by kernel_rfl) ?_
  refine ops_nil ?_
  refine fin_then ?_
  refine st_ret ?_
  refine fin_ret_block ?_
  refine fin_ret_then ?_
  refine fin_ret [.tmp 2] [vI (firstV (n % 16384))] rfl rfl (fun w_ hM => (.tmp rfl .nil)) (fun w_ hM => ?_)
  refine ⟨?_, hM.done⟩
  have e0 := beq_iff_eq.1 hc1
  simp only [theOne, sinN]
  congr 2
  first | rfl | (repeat' split) <;> first | rfl | omega
 · --
  refine st_seq ?_
  refine st_region [oF 0, oF 1] (by rfl) ?_
  refine oR [oF 0, oF 1] [(14, .bool (((n / 16384 : Nat) : Int) == 1)), (9, vI ((n / 16384 : Nat) : Int)), (3, vI ((n % 16384 : Nat) : Int))] [14, 9, 3] (by kernel_rfl) ?_
  refine ops_nil ?_
  refine fin_then ?_
  refine st_if (b := (((n / 16384 : Nat) : Int) == 1)) rfl (fun hc2 => ?_) (fun hc2 => ?_)
  · --
   refine st_seq ?_
   refine st_region [oF 0, oF 1, oF 2, oF 3] (by rfl) ?_
   refine oR [oF 0, oF 1] [(17, vI (IntKind.i64.wrap (16384 - ((n % 16384 : Nat) : Int))))] [17] (by kernel_rfl) ?_
   refine ops_conv (l' := [(17, vI ((16384 - n % 16384 : Nat) : Int))]) (by rw [h3]) (fun _ h => h) ?_
   refine oC (some 18) 126 #[vI ((16384 - n % 16384 : Nat) : Int)] (vI (firstV (16384 - n % 16384))) ⟨by kernel_rfl⟩ (fun w_ hM => first_calls (16384 - n % 16384) w_ (by omega)) ?_
   refine oR [oF 3] [(2, vI (firstV (16384 - n % 16384)))] [2] (by kernel_rfl) ?_
   refine ops_nil ?_
   refine fin_then ?_
   refine st_ret ?_
   refine fin_ret_block ?_
   refine fin_ret_then ?_
   refine fin_ret [.tmp 2] [vI (firstV (16384 - n % 16384))] rfl rfl (fun w_ hM => (.tmp rfl .nil)) (fun w_ hM => ?_)
   refine ⟨?_, hM.done⟩
   have e0 := beq_eq_false_iff_ne.1 hc1
   have e1 := beq_iff_eq.1 hc2
   simp only [theOne, sinN]
   congr 2
   first | rfl | (repeat' split) <;> first | rfl | omega
  · --
   refine st_seq ?_
   refine st_region [oF 0, oF 1] (by rfl) ?_
   refine oR [oF 0, oF 1] [(19, .bool (((n / 16384 : Nat) : Int) == 2)), (3, vI ((n % 16384 : Nat) : Int))] [19, 3] (by kernel_rfl) ?_
   refine ops_nil ?_
   refine fin_then ?_
   refine st_if (b := (((n / 16384 : Nat) : Int) == 2)) rfl (fun hc3 => ?_) (fun hc3 => ?_)
   · --
    refine st_seq ?_
    refine st_region [oF 0, oF 1, oF 2, oF 3] (by rfl) ?_
    refine oR [oF 0] [(21, vI ((n % 16384 : Nat) : Int))] [21] (by kernel_rfl) ?_
    refine oC (some 22) 126 #[vI ((n % 16384 : Nat) : Int)] (vI (firstV (n % 16384))) ⟨by kernel_rfl⟩ (fun w_ hM => first_calls (n % 16384) w_ (by omega)) ?_
    refine oR [oF 2] [(23, vI (IntKind.i64.wrap (0 - firstV (n % 16384))))] [23] (by kernel_rfl) ?_
    refine ops_conv (l' := [(23, vI (-firstV (n % 16384)))]) (by rw [h4]) (fun _ h => h) ?_
    refine oR [oF 3] [(2, vI (-firstV (n % 16384)))] [2] (by kernel_rfl) ?_
    refine ops_nil ?_
    refine fin_then ?_
    refine st_ret ?_
    refine fin_ret_block ?_
    refine fin_ret_then ?_
    refine fin_ret [.tmp 2] [vI (-firstV (n % 16384))] rfl rfl (fun w_ hM => (.tmp rfl .nil)) (fun w_ hM => ?_)
    refine ⟨?_, hM.done⟩
    have e0 := beq_eq_false_iff_ne.1 hc1
    have e1 := beq_eq_false_iff_ne.1 hc2
    have e2 := beq_iff_eq.1 hc3
    simp only [theOne, sinN]
    congr 2
    first | rfl | (repeat' split) <;> first | rfl | omega
   · --
    refine st_skip ?_
    refine fin_block ?_
    refine fin_then ?_
    refine st_seq ?_
    refine st_region [oF 0, oF 1, oF 2, oF 3, oF 4] (by rfl) ?_
    refine oR [oF 0, oF 1] [(25, vI (IntKind.i64.wrap (16384 - ((n % 16384 : Nat) : Int))))] [25] (by kernel_rfl) ?_
    refine ops_conv (l' := [(25, vI ((16384 - n % 16384 : Nat) : Int))]) (by rw [h3]) (fun _ h => h) ?_
    refine oC (some 26) 126 #[vI ((16384 - n % 16384 : Nat) : Int)] (vI (firstV (16384 - n % 16384))) ⟨by kernel_rfl⟩ (fun w_ hM => first_calls (16384 - n % 16384) w_ (by omega)) ?_
    refine oR [oF 3] [(27, vI (IntKind.i64.wrap (0 - firstV (16384 - n % 16384))))] [27] (by kernel_rfl) ?_
    refine ops_conv (l' := [(27, vI (-firstV (16384 - n % 16384)))]) (by rw [h5]) (fun _ h => h) ?_
    refine oR [oF 4] [(2, vI (-firstV (16384 - n % 16384)))] [2] (by kernel_rfl) ?_
    refine ops_nil ?_
    refine fin_then ?_
    refine st_ret ?_
    refine fin_ret [.tmp 2] [vI (-firstV (16384 - n % 16384))] rfl rfl (fun w_ hM => (.tmp rfl .nil)) (fun w_ hM => ?_)
    refine ⟨?_, hM.done⟩
    have e0 := beq_eq_false_iff_ne.1 hc1
    have e1 := beq_eq_false_iff_ne.1 hc2
    have e2 := beq_eq_false_iff_ne.1 hc3
    simp only [theOne, sinN]
    congr 2
    first | rfl | (repeat' split) <;> first | rfl | omega
theorem i64_and_mask (n : Int) : Go.bits .and .i64 n 65535 = n % 65536 := by
  have h127 : (BitVec.ofInt 64 65535).toNat = 2 ^ 16 - 1 := by decide
  have key : (BitVec.ofInt 64 n &&& BitVec.ofInt 64 65535).toNat = (n % ((2 ^ 64 : Nat) : Int)).toNat % 2 ^ 16 := by
    rw [BitVec.toNat_and, BitVec.toNat_ofInt, h127, Nat.and_two_pow_sub_one_eq_mod]
  show IntKind.i64.wrap ((BitVec.ofInt 64 n &&& BitVec.ofInt 64 65535).toNat : Nat) = n % 65536
  rw [key, IntKind.wrap_i64]
  omega
theorem Sin_calls (a : Int) (w : World) : Calls Try.prog 97 #[.int .i64 a] w fun e w' => e = .returned (.int .i64 (sinv a)) ∧ Below w.heap.size w w' :=
  Sin_nat a (a % 65536).toNat w (by rw [i64_and_mask]; omega) (by omega)
set_option maxHeartbeats 4000000 in
set_option maxRecDepth 100000 in
theorem Cos_calls (a : Int) (w : World) : Calls Try.prog 96 #[vI a] w fun e w' => e = .returned (vI (sinv (a % 65536 + 16384))) ∧ Below w.heap.size w w' := by
 have hc : IntKind.i64.wrap (a % 65536 + 16384) = a % 65536 + 16384 := i64in (by omega) (by omega)
 refine sx_calls Try.func96 rfl (n := 7) (by kernel_rfl) (l := [(0, vI a)]) rfl (by rfl) (Mem.nil w) ?_
 refine st_seq ?_
 refine st_region [oF 0] (by rfl) ?_
 refine oR [oF 0] [(0, vI a)] [0] (by kernel_rfl) ?_
 refine ops_nil ?_
 refine fin_then ?_
 refine st_seq ?_
 refine st_region [oF 0, oF 1, oF 2, oF 3, oF 4] (by rfl) ?_
 refine oR [oF 0, oF 1] [(4, vI (Go.bits .and .i64 a 65535))] [4] (by kernel_rfl) ?_
 refine ops_conv (l' := [(4, vI (a % 65536))]) (by rw [(i64_and_mask a)]) (fun _ h => h) ?_
 refine oR [oF 2] [(5, vI (IntKind.i64.wrap ((a % 65536) + 16384)))] [5] (by kernel_rfl) ?_
 refine ops_conv (l' := [(5, vI (a % 65536 + 16384))]) (by rw [hc]) (fun _ h => h) ?_
 refine oC (some 6) 97 #[vI (a % 65536 + 16384)] (vI (sinv (a % 65536 + 16384))) ⟨by kernel_rfl⟩ (fun w_ hM => Sin_calls (a % 65536 + 16384) w_) ?_
 refine oR [oF 4] [(2, vI (sinv (a % 65536 + 16384)))] [2] (by kernel_rfl) ?_
 refine ops_nil ?_
 refine fin_then ?_
 refine st_ret ?_
 refine fin_ret [.tmp 2] [vI (sinv (a % 65536 + 16384))] rfl rfl (fun w_ hM => (.tmp rfl .nil)) (fun w_ hM => ?_)
 refine ⟨?_, hM.done⟩
 rfl
def sines_calls_l0 : List Int := [1608, 1608, 1605, 1603, 1598, 1594, 1588, 1581, 1574, 1565, 1555, 1545, 1533, 1521, 1508, 1494, 1478, 1462, 1446, 1427, 1410, 1389, 1370, 1348, 1326, 1304, 1280, 1256, 1230, 1205, 1179, 1151, 1123, 1095, 1065, 1036, 1005, 974, 942, 910, 877, 844, 810, 776, 740, 706, 670, 633, 598, 560, 523, 486, 448, 410, 372, 333, 294, 256, 216, 177, 138, 99, 59, 20]
theorem sines_calls_l0_length : sines_calls_l0.length = 64 := rfl
theorem sines_step : ∀ k, k < 64 → IntKind.i64.wrap ((tab.take (k + 1)).getD k 0 + sines_calls_l0.getD k 0) = tab.getD (k + 1) 0 := by decide
theorem tab_take (k : Nat) (h : k < 64) : tab.take (k + 1) ++ [tab.getD (k + 1) 0] = tab.take (k + 1 + 1) := by
  have : k + 1 < tab.length := by show k + 1 < 65; omega
  rw [List.take_succ_eq_append_getElem this]; simp [List.getD, this]
set_option maxHeartbeats 4000000 in
set_option maxRecDepth 100000 in
theorem sines_calls  (w : World) : Calls Try.prog 127 #[] w fun e w' => ∃ x_ : Option Addr × Nat, e = .returned ((match x_ with | (A, c) => .slice A 65 c)) ∧ Mem w (match x_ with | (A, c) => [.row A 65 c 3 1 (iv .i64 tab)]) w' := by
 have htl : tab.length = 65 := rfl
 refine sx_calls Try.func127 rfl (n := 24) (by kernel_rfl) (l := []) rfl (by rfl) (Mem.nil w) ?_
 refine st_seq ?_
 refine st_region [oF 0] (by rfl) ?_
 refine oR [oF 0] [] [] (by kernel_rfl) ?_
 refine ops_nil ?_
 refine fin_then ?_
 refine st_seq ?_
 refine st_region [oF 0, oF 1] (by rfl) ?_
 refine ops_new (d := some 4) (o := .cells #[vI 0] 3) (v := fun b1 => .slice (some ⟨b1, 0, none⟩) 1 1) (M' := fun b1 => Mem w [.blk b1 [vI 0] 3]) (fun b1 => ⟨by kernel_rfl⟩) (fun w_ hM hS => ⟨hM.blk [vI 0] 3, trivial⟩) (fun b1 => ?_)
 refine oR [oF 1] [(1, .slice (some ⟨b1, 0, none⟩) 1 1)] [1] (by kernel_rfl) ?_
 refine ops_nil ?_
 refine fin_then ?_
 refine st_seq ?_
 refine st_seq ?_
 refine st_region [oF 0, oF 1, oF 2] (by rfl) ?_
 refine ops_new (d := some 5) (o := .cells (iv .i64 sines_calls_l0).toArray 3) (v := fun b2 => .slice (some ⟨b2, 0, none⟩) 64 64) (M' := fun b2 => Mem w [.row (some ⟨b2, 0, none⟩) 64 64 3 1 (iv .i64 sines_calls_l0), .blk b1 [vI 0] 3]) (fun b2 => ⟨by kernel_rfl⟩) (fun w_ hM hS => ⟨hM.rowNew (iv .i64 sines_calls_l0) 3 64 1 rfl (by decide), trivial⟩) (fun b2 => ?_)
 refine oR [oF 1, oF 2] [(7, vI 0), (6, vI 64), (5, .slice (some ⟨b2, 0, none⟩) 64 64), (1, .slice (some ⟨b1, 0, none⟩) 1 1)] [7, 6, 5, 1] (by kernel_rfl) ?_
 refine ops_nil ?_
 refine fin_then ?_
 refine st_block ?_
 refine st_conv (l' := [(7, vI 0), (6, vI 64), (5, .slice (some ⟨b2, 0, none⟩) 64 64), (1, .slice (some ⟨b1, 0, none⟩) 1 1)]) (M' := Mem w [.row (some ⟨b2, 0, none⟩) 64 64 3 1 (iv .i64 sines_calls_l0), .row (some ⟨b1, 0, none⟩) 1 1 3 1 (iv .i64 ([0]))]) rfl (fun w_ h => id (h.blkRow 1 rfl 1 1 rfl (by decide))) ?_
 refine st_loop (σ := Nat × Option Addr × Nat) (0, (some ⟨b1, 0, none⟩), 1) (fun x_ => match x_ with | (k, A, c) => [(7, vI (k : Int)), (6, vI 64), (5, .slice (some ⟨b2, 0, none⟩) 64 64), (1, .slice A (k + 1) c)]) (fun x_ => match x_ with | (k, A, c) => Mem w [.row (some ⟨b2, 0, none⟩) 64 64 3 1 (iv .i64 sines_calls_l0), .row A (k + 1) c 3 1 (iv .i64 (tab.take (k + 1)))]) (fun x_ => match x_ with | (k, A, c) => k ≤ 64) (fun x_ => match x_ with | (k, A, c) => 64 - k) (by exact Nat.zero_le _) (look_has ⟨rfl, rfl, rfl, rfl, trivial⟩) (fun w_ hM => by exact hM) ?_
 rintro ⟨k, A, c⟩ hI
 have hIk : k ≤ 64 := hI
 refine st_seq ?_
 refine st_region [oF 0] (by rfl) ?_
 refine oR [oF 0] [(8, .bool (decide ((k : Int) < 64))), (7, vI (k : Int)), (6, vI 64), (5, .slice (some ⟨b2, 0, none⟩) 64 64), (1, .slice A (k + 1) c)] [8, 7, 6, 5, 1] (by kernel_rfl) ?_
 refine ops_nil ?_
 refine fin_then ?_
 refine st_seq ?_
 refine st_if (b := decide ((k : Int) < 64)) rfl (fun hc3 => ?_) (fun hc3 => ?_)
 · --
  have hk : k < 64 := by have := of_decide_eq_true hc3; omega
  have hk1 : IntKind.i64.wrap ((k : Int) + 1) = ((k + 1 : Nat) : Int) := succ_i64 (by omega)
  have hkk : IntKind.i64.wrap (((k + 1 : Nat) : Int) - 1) = (k : Int) := by rw [i64in (by omega) (by omega)]; omega
  refine st_skip ?_
  refine fin_then ?_
  refine st_seq ?_
  refine st_block ?_
  refine st_seq ?_
  refine st_region [oF 0, oF 1, oF 2] (by rfl) ?_
  refine oR [] [(7, vI (k : Int)), (6, vI 64), (5, .slice (some ⟨b2, 0, none⟩) 64 64), (1, .slice A (k + 1) c)] [7, 6, 5, 1] (by kernel_rfl) ?_
  refine ops_val (op := (Go.Op.indexAddr 91 (Go.Operand.tmp 5) (Go.Operand.tmp 7))) (d := some 9) (v := vP b2 k) ⟨by kernel_rfl⟩ (run_indexRow Try.underlying91 (z := 1) (by kernel_rfl) rfl rfl (m := k) (by first | rfl | omega) (by first | omega | (simp only [List.length_take, htl, sines_calls_l0_length, List.length_set, List.length_append, List.length_cons, List.length_nil, List.length_replicate] at *; omega) | (simp [List.length_take, htl, sines_calls_l0_length, List.length_set, List.length_append, List.length_cons, List.length_nil, List.length_replicate]; done)) (by exact Nat.mul_one _)) ?_
  refine oR [] [(9, vP b2 k), (7, vI (k : Int)), (6, vI 64), (5, .slice (some ⟨b2, 0, none⟩) 64 64), (1, .slice A (k + 1) c)] [9, 7, 6, 5, 1] (by kernel_rfl) ?_
  refine ops_mem (d := some 10) (an := [.v (vI (sines_calls_l0.getD k 0))]) (evs := [.load ⟨b2, k, none⟩ (vI (sines_calls_l0.getD k 0))]) (v := vI (sines_calls_l0.getD k 0)) (M' := Mem w [.row (some ⟨b2, 0, none⟩) 64 64 3 1 (iv .i64 sines_calls_l0), .row A (k + 1) c 3 1 (iv .i64 (tab.take (k + 1)))]) ⟨by kernel_rfl⟩ (fun w_ hM hS => ⟨w_, ⟨hM.rowcell 0 rfl (iv_get (by first | omega | (simp only [List.length_take, htl, sines_calls_l0_length, List.length_set, List.length_append, List.length_cons, List.length_nil, List.length_replicate] at *; omega) | (simp [List.length_take, htl, sines_calls_l0_length, List.length_set, List.length_append, List.length_cons, List.length_nil, List.length_replicate]; done))), rfl⟩, hM, trivial⟩) ?_
  refine oR [oF 2] [(3, vI (sines_calls_l0.getD k 0)), (7, vI (k : Int)), (6, vI 64), (5, .slice (some ⟨b2, 0, none⟩) 64 64), (1, .slice A (k + 1) c)] [3, 7, 6, 5, 1] (by kernel_rfl) ?_
  refine ops_nil ?_
  refine fin_then ?_
  refine st_region [oF 0, oF 1, oF 2, oF 3, oF 4, oF 5, oF 6, oF 7, oF 8, oF 9, oF 10, oF 11] (by rfl) ?_
  refine oR [oF 0, oF 1, oF 2, oF 3, oF 4] [(15, vI (IntKind.i64.wrap (((k + 1 : Nat) : Int) - 1))), (12, .slice A (k + 1) c), (11, .slice A (k + 1) c), (3, vI (sines_calls_l0.getD k 0)), (7, vI (k : Int)), (6, vI 64), (5, .slice (some ⟨b2, 0, none⟩) 64 64), (1, .slice A (k + 1) c)] [15, 12, 11, 3, 7, 6, 5, 1] (by kernel_rfl) ?_
  refine ops_conv (l' := [(15, vI (k : Int)), (12, .slice A (k + 1) c), (11, .slice A (k + 1) c), (3, vI (sines_calls_l0.getD k 0)), (7, vI (k : Int)), (6, vI 64), (5, .slice (some ⟨b2, 0, none⟩) 64 64), (1, .slice A (k + 1) c)]) (by rw [hkk]) (fun _ h => h) ?_
  refine ops_fact (fun w_ hM => hM.rowSome 1 rfl (Nat.lt_of_le_of_lt (Nat.zero_le (k)) (by first | omega | (simp only [List.length_take, htl, sines_calls_l0_length, List.length_set, List.length_append, List.length_cons, List.length_nil, List.length_replicate] at *; omega) | (simp [List.length_take, htl, sines_calls_l0_length, List.length_set, List.length_append, List.length_cons, List.length_nil, List.length_replicate]; done)))) ?_
  rintro ⟨b4, rfl⟩
  refine ops_val (op := (Go.Op.indexAddr 91 (Go.Operand.tmp 12) (Go.Operand.tmp 15))) (d := some 16) (v := vP b4 k) ⟨by kernel_rfl⟩ (run_indexRow Try.underlying91 (z := 1) (by kernel_rfl) rfl rfl (m := k) (by first | rfl | omega) (by first | omega | (simp only [List.length_take, htl, sines_calls_l0_length, List.length_set, List.length_append, List.length_cons, List.length_nil, List.length_replicate] at *; omega) | (simp [List.length_take, htl, sines_calls_l0_length, List.length_set, List.length_append, List.length_cons, List.length_nil, List.length_replicate]; done)) (by exact Nat.mul_one _)) ?_
  refine oR [] [(16, vP b4 k), (11, .slice (some ⟨b4, 0, none⟩) (k + 1) c), (3, vI (sines_calls_l0.getD k 0)), (7, vI (k : Int)), (6, vI 64), (5, .slice (some ⟨b2, 0, none⟩) 64 64), (1, .slice (some ⟨b4, 0, none⟩) (k + 1) c)] [16, 11, 3, 7, 6, 5, 1] (by kernel_rfl) ?_
  refine ops_mem (d := some 17) (an := [.v (vI ((tab.take (k + 1)).getD k 0))]) (evs := [.load ⟨b4, k, none⟩ (vI ((tab.take (k + 1)).getD k 0))]) (v := vI ((tab.take (k + 1)).getD k 0)) (M' := Mem w [.row (some ⟨b2, 0, none⟩) 64 64 3 1 (iv .i64 sines_calls_l0), .row (some ⟨b4, 0, none⟩) (k + 1) c 3 1 (iv .i64 (tab.take (k + 1)))]) ⟨by kernel_rfl⟩ (fun w_ hM hS => ⟨w_, ⟨hM.rowcell 1 rfl (iv_get (by first | omega | (simp only [List.length_take, htl, sines_calls_l0_length, List.length_set, List.length_append, List.length_cons, List.length_nil, List.length_replicate] at *; omega) | (simp [List.length_take, htl, sines_calls_l0_length, List.length_set, List.length_append, List.length_cons, List.length_nil, List.length_replicate]; done))), rfl⟩, hM, trivial⟩) ?_
  refine oR [oF 7, oF 8] [(19, vI (IntKind.i64.wrap ((tab.take (k + 1)).getD k 0 + sines_calls_l0.getD k 0))), (11, .slice (some ⟨b4, 0, none⟩) (k + 1) c), (7, vI (k : Int)), (6, vI 64), (5, .slice (some ⟨b2, 0, none⟩) 64 64), (1, .slice (some ⟨b4, 0, none⟩) (k + 1) c)] [19, 11, 7, 6, 5, 1] (by kernel_rfl) ?_
  refine ops_conv (l' := [(19, vI (tab.getD (k + 1) 0)), (11, .slice (some ⟨b4, 0, none⟩) (k + 1) c), (7, vI (k : Int)), (6, vI 64), (5, .slice (some ⟨b2, 0, none⟩) 64 64), (1, .slice (some ⟨b4, 0, none⟩) (k + 1) c)]) (by rw [(sines_step k (by omega))]) (fun _ h => h) ?_
  refine ops_new (d := some 20) (o := .cells #[vI (tab.getD (k + 1) 0)] 3) (v := fun b5 => .slice (some ⟨b5, 0, none⟩) 1 1) (M' := fun b5 => Mem w [.blk b5 [vI (tab.getD (k + 1) 0)] 3, .row (some ⟨b2, 0, none⟩) 64 64 3 1 (iv .i64 sines_calls_l0), .row (some ⟨b4, 0, none⟩) (k + 1) c 3 1 (iv .i64 (tab.take (k + 1)))]) (fun b5 => ⟨by kernel_rfl⟩) (fun w_ hM hS => ⟨hM.blk [vI (tab.getD (k + 1) 0)] 3, trivial⟩) (fun b5 => ?_)
  refine oR [] [(20, .slice (some ⟨b5, 0, none⟩) 1 1), (11, .slice (some ⟨b4, 0, none⟩) (k + 1) c), (7, vI (k : Int)), (6, vI 64), (5, .slice (some ⟨b2, 0, none⟩) 64 64), (1, .slice (some ⟨b4, 0, none⟩) (k + 1) c)] [20, 11, 7, 6, 5, 1] (by kernel_rfl) ?_
  refine ops_append (x := (Go.Operand.tmp 11)) (y := (Go.Operand.tmp 20)) (t := 91) (e := 3) (d := some 21) (n' := (k + 1 + 1)) (z := 1) (m := 1) (bytes := 8) (xs' := (iv .i64 ((tab.take (k + 1)) ++ [tab.getD (k + 1) 0]))) (news := ([vI (tab.getD (k + 1) 0)])) (zv := vI 0) 2 ⟨by kernel_rfl⟩ rfl rfl Try.underlying91 (by kernel_rfl) (by rfl) rfl (fun w_ hM => hM.src 0 rfl _ _) (rfl) (by simp [Value.oneCell']) (by first | omega | (simp only [List.length_take, htl, sines_calls_l0_length, List.length_set, List.length_append, List.length_cons, List.length_nil, List.length_replicate] at *; omega) | (simp [List.length_take, htl, sines_calls_l0_length, List.length_set, List.length_append, List.length_cons, List.length_nil, List.length_replicate]; done)) (by first | rfl | first | omega | (simp only [List.length_take, htl, sines_calls_l0_length, List.length_set, List.length_append, List.length_cons, List.length_nil, List.length_replicate] at *; omega) | (simp [List.length_take, htl, sines_calls_l0_length, List.length_set, List.length_append, List.length_cons, List.length_nil, List.length_replicate]; done)) ((by simp [iv])) (fun _ _ _ _ hS h' => trivial) ?_
  rintro ⟨A6, c7⟩
  refine ops_conv (l' := [(21, .slice A6 (k + 1 + 1) c7), (20, .slice (some ⟨b5, 0, none⟩) 1 1), (11, .slice (some ⟨b4, 0, none⟩) (k + 1) c), (7, vI (k : Int)), (6, vI 64), (5, .slice (some ⟨b2, 0, none⟩) 64 64), (1, .slice (some ⟨b4, 0, none⟩) (k + 1) c)]) (M' := Mem w [.blk b5 [vI (tab.getD (k + 1) 0)] 3, .row (some ⟨b2, 0, none⟩) 64 64 3 1 (iv .i64 sines_calls_l0), .row A6 (k + 1 + 1) c7 3 1 (iv .i64 ((tab.take (k + 1)) ++ [tab.getD (k + 1) 0]))]) rfl (fun _ h => h) ?_
  refine oR [oF 11] [(1, .slice A6 (k + 1 + 1) c7), (7, vI (k : Int)), (6, vI 64), (5, .slice (some ⟨b2, 0, none⟩) 64 64)] [1, 7, 6, 5] (by kernel_rfl) ?_
  refine ops_nil ?_
  refine fin_block ?_
  refine fin_then ?_
  refine st_region [oF 0, oF 1] (by rfl) ?_
  refine oR [oF 0] [(22, vI (IntKind.i64.wrap ((k : Int) + 1))), (1, .slice A6 (k + 1 + 1) c7), (7, vI (k : Int)), (6, vI 64), (5, .slice (some ⟨b2, 0, none⟩) 64 64)] [22, 1, 7, 6, 5] (by kernel_rfl) ?_
  refine ops_conv (l' := [(22, vI ((k + 1 : Nat) : Int)), (1, .slice A6 (k + 1 + 1) c7), (7, vI (k : Int)), (6, vI 64), (5, .slice (some ⟨b2, 0, none⟩) 64 64)]) (by rw [hk1]) (fun _ h => h) ?_
  refine oR [oF 1] [(7, vI ((k + 1 : Nat) : Int)), (1, .slice A6 (k + 1 + 1) c7), (6, vI 64), (5, .slice (some ⟨b2, 0, none⟩) 64 64)] [7, 1, 6, 5] (by kernel_rfl) ?_
  refine ops_nil ?_
  refine fin_round (k + 1, A6, c7) (by first | omega | (dsimp only; omega)) (by first | omega | (dsimp only; omega)) (look_has ⟨rfl, rfl, rfl, rfl, trivial⟩) (fun w_ hM => by exact (by have hM : Mem w [.row (some ⟨b2, 0, none⟩) 64 64 3 1 (iv .i64 sines_calls_l0), .row A6 (k + 1 + 1) c7 3 1 (iv .i64 ((tab.take (k + 1)) ++ [tab.getD (k + 1) 0]))] w_ := hM.reorder [1, 2] (by decide) rfl; exact (by rw [tab_take k hk] at hM; exact hM)))
 · --
  have hk : k = 64 := by have := of_decide_eq_false hc3; omega
  refine st_exit ?_
  refine fin_exit_then ?_
  refine fin_exit_then ?_
  refine fin_exit ?_
  refine fin_then ?_
  refine st_seq ?_
  refine st_region [oF 0, oF 1] (by rfl) ?_
  refine oR [oF 0, oF 1] [(0, .slice A (k + 1) c)] [0] (by kernel_rfl) ?_
  refine ops_nil ?_
  refine fin_then ?_
  refine st_ret ?_
  refine fin_ret [.tmp 0] [.slice A (k + 1) c] rfl rfl (fun w_ hM => (.tmp rfl .nil)) (fun w_ hM => ?_)
  subst hk
  exact ⟨(A, c), rfl, (by exact hM.reorder [1] (by decide) rfl)⟩
theorem sin_low {n r : Nat} (h : n < 32768) (hr : min (n : Int) (32768 - (n : Int)) = (r : Int)) : sinN n = firstV r := by
  unfold sinN
  by_cases h1 : n < 16384
  · rw [if_pos h1, show n % 16384 = r by omega]
  · rw [if_neg h1, if_pos h, show 16384 - n % 16384 = r by omega]
def Sine_low_t0 : List Row := [⟨0, 1073741824, 8⟩, ⟨0, 2147483648, 16⟩, ⟨3, 4294967296, 3221225472⟩, ⟨4, 8589934592, 4294967296⟩, ⟨0, 17179869184, 32⟩, ⟨16, 34359738368, 17179869184⟩, ⟨40, 68719476736, 42949672960⟩, ⟨0, 137438953472, 8⟩, ⟨0, 274877906944, 16⟩, ⟨256, 549755813888, 274877906944⟩, ⟨640, 1099511627776, 687194767360⟩, ⟨1024, 2199023255552, 1099511627776⟩, ⟨0, 4398046511104, 32⟩, ⟨6144, 8796093022208, 6597069766656⟩, ⟨8256, 17592186044416, 8864812498944⟩, ⟨16384, 35184372088832, 17592186044416⟩, ⟨32768, 70368744177664, 35184372088832⟩, ⟨131071, 4, 70368744177664⟩]
set_option maxHeartbeats 4000000 in
set_option maxRecDepth 100000 in
theorem Sine_low (a : Int) (n r : Nat) (w : World) (hn : Int.tmod (IntKind.i64.wrap (Int.tmod a 65536 + 65536)) 65536 = (n : Int)) (h : n < 32768) (hr : min (n : Int) (32768 - (n : Int)) = (r : Int)) : Calls Try.prog 99 #[vI a] w fun e w' => e = .returned (vI (sinN n)) ∧ Below w.heap.size w w' := by
 have h3 : IntKind.i64.wrap (32768 - (n : Int)) = 32768 - (n : Int) := i64in (by omega) (by omega)
 have hrle : r ≤ 16384 := by omega
 have hq : IntKind.i64.wrap (Int.tdiv (r : Int) 256) = ((r / 256 : Nat) : Int) := by rw [Int.tdiv_eq_ediv_of_nonneg (by omega), i64in (by omega) (by omega)]; omega
 have hf : Int.tmod (r : Int) 256 = ((r % 256 : Nat) : Int) := by rw [Int.tmod_eq_emod_of_nonneg (by omega)]; omega
 have hq1 : IntKind.i64.wrap (((r / 256 : Nat) : Int) + 1) = ((r / 256 + 1 : Nat) : Int) := by rw [i64in (by omega) (by omega)]; omega
 have htl : tab.length = 65 := rfl
 have hk1 : decide (32768 ≤ (n : Int)) = false := by simp; omega
 refine sx_calls Try.func99 rfl (n := 47) (by kernel_rfl) (l := [(0, vI a)]) rfl (by rfl) (Mem.nil w) ?_
 refine st_seq ?_
 refine st_region [oF 0] (by rfl) ?_
 refine oR [oF 0] [(0, vI a)] [0] (by kernel_rfl) ?_
 refine ops_nil ?_
 refine fin_then ?_
 refine st_seq ?_
 refine st_region [oF 0, oF 1, oF 2, oF 3, oF 4] (by rfl) ?_
 refine oR [oF 0, oF 1, oF 2, oF 3] [(9, vI (Int.tmod (IntKind.i64.wrap (Int.tmod a 65536 + 65536)) 65536)), (0, vI a)] [9, 0] (by kernel_rfl) ?_
 refine ops_conv (l' := [(9, vI (n : Int)), (0, vI a)]) (by rw [hn]) (fun _ h => h) ?_
 refine oR [oF 4] [(0, vI (n : Int))] [0] (by kernel_rfl) ?_
 refine ops_nil ?_
 refine fin_then ?_
 refine st_seq ?_
 refine st_seq ?_
 refine st_region [oF 0, oF 1] (by rfl) ?_
 refine oR [oF 0, oF 1] [(11, .bool (decide (32768 ≤ (n : Int)))), (0, vI (n : Int))] [11, 0] (by kernel_rfl) ?_
 refine ops_nil ?_
 refine fin_then ?_
 refine st_conv (l' := [(11, .bool false), (0, vI (n : Int))]) (by rw [hk1]) (fun _ h => h) ?_
 refine st_false rfl ?_
 refine st_skip ?_
 refine fin_then ?_
 refine st_seq ?_
 refine st_region [oF 0, oF 1, oF 2, oF 3, oF 4] (by rfl) ?_
 refine oR [oF 0, oF 1, oF 2] [(18, vI (IntKind.i64.wrap (32768 - (n : Int)))), (16, vI (n : Int)), (0, vI (n : Int))] [18, 16, 0] (by kernel_rfl) ?_
 refine ops_conv (l' := [(18, vI (32768 - (n : Int))), (16, vI (n : Int)), (0, vI (n : Int))]) (by rw [h3]) (fun _ h => h) ?_
 refine ops_val (op := (Go.Op.call { callee := (Go.Callee.builtin Go.Builtin.min), args := #[(Go.Operand.tmp 16), (Go.Operand.tmp 18)], argTypes := #[3, 3] })) (d := some 19) (v := vI (min (n : Int) (32768 - (n : Int)))) ⟨by kernel_rfl⟩ (run_min rfl rfl) ?_
 refine oR [] [(19, vI (min (n : Int) (32768 - (n : Int)))), (0, vI (n : Int))] [19, 0] (by kernel_rfl) ?_
 refine ops_conv (l' := [(19, vI (r : Int)), (0, vI (n : Int))]) (by rw [hr]) (fun _ h => h) ?_
 refine oR [oF 4] [(0, vI (r : Int))] [0] (by kernel_rfl) ?_
 refine ops_nil ?_
 refine fin_then ?_
 refine st_seq ?_
 refine st_region [oF 0, oF 1] (by rfl) ?_
 refine ops_call (σ := Option Addr × Nat) (d := some 20) (f := 127) (args := #[]) (v := fun x_ => match x_ with | (A1, c2) => .slice A1 65 c2) (M' := fun x_ => match x_ with | (A1, c2) => Mem w [.row A1 65 c2 3 1 (iv .i64 tab)]) ⟨by kernel_rfl⟩ (fun w_ hM hS => (sines_calls w_).mono (by rintro e w' ⟨x_, rfl, h2⟩; exact ⟨x_, rfl, hM.join h2 rfl, trivial⟩)) ?_
 rintro ⟨A1, c2⟩
 refine ops_conv (l' := [(20, .slice A1 65 c2), (0, vI (r : Int))]) (M' := Mem w [.row A1 65 c2 3 1 (iv .i64 tab)]) rfl (fun _ h => h) ?_
 refine oR [oF 1] [(3, .slice A1 65 c2), (0, vI (r : Int))] [3, 0] (by kernel_rfl) ?_
 refine ops_nil ?_
 refine fin_then ?_
 refine st_seq ?_
 refine st_seq ?_
 refine st_region [oF 0, oF 1] (by rfl) ?_
 refine oR [oF 0, oF 1] [(22, .bool ((r : Int) == 16384)), (3, .slice A1 65 c2), (0, vI (r : Int))] [22, 3, 0] (by kernel_rfl) ?_
 refine ops_nil ?_
 refine fin_then ?_
 refine st_if (b := ((r : Int) == 16384)) rfl (fun hc3 => ?_) (fun hc3 => ?_)
 · --
  have hz : r = 16384 := by have := beq_iff_eq.1 hc3; omega
  refine st_seq ?_
  refine st_region [oF 0, oF 1, oF 2, oF 3] (by rfl) ?_
  refine oR [oF 0] [(23, .slice A1 65 c2)] [23] (by kernel_rfl) ?_
  refine ops_fact (fun w_ hM => hM.rowSome 0 rfl (Nat.lt_of_le_of_lt (Nat.zero_le (64)) (by omega))) ?_
  rintro ⟨b4, rfl⟩
  refine ops_val (op := (Go.Op.indexAddr 91 (Go.Operand.tmp 23) (Go.Operand.const (Go.Value.int Go.IntKind.i64 64)))) (d := some 24) (v := vP b4 64) ⟨by kernel_rfl⟩ (run_indexRow Try.underlying91 (z := 1) (by kernel_rfl) rfl rfl (m := 64) (by first | rfl | omega) (by omega) (by exact Nat.mul_one _)) ?_
  refine oR [] [(24, vP b4 64)] [24] (by kernel_rfl) ?_
  refine ops_mem (d := some 25) (an := [.v (vI (tab.getD 64 0))]) (evs := [.load ⟨b4, 64, none⟩ (vI (tab.getD 64 0))]) (v := vI (tab.getD 64 0)) (M' := Mem w [.row (some ⟨b4, 0, none⟩) 65 c2 3 1 (iv .i64 tab)]) ⟨by kernel_rfl⟩ (fun w_ hM hS => ⟨w_, ⟨hM.rowcell 0 rfl (iv_get (by omega)), rfl⟩, hM, trivial⟩) ?_
  refine oR [oF 3] [(2, vI (tab.getD 64 0))] [2] (by kernel_rfl) ?_
  refine ops_nil ?_
  refine fin_then ?_
  refine st_ret ?_
  refine fin_ret_then ?_
  refine fin_ret [.tmp 2] [vI (tab.getD 64 0)] rfl rfl (fun w_ hM => (.tmp rfl .nil)) (fun w_ hM => ?_)
  refine ⟨?_, hM.done⟩
  have e : sinN n = firstV r := sin_low h hr
  rw [e]
  exact congrArg (fun z => Ending.returned (.int .i64 z)) (by rw [hz]; exact ref_last)
 · --
  have hz : r < 16384 := by have := beq_eq_false_iff_ne.1 hc3; omega
  refine st_skip ?_
  refine fin_then ?_
  refine st_seq ?_
  refine st_region [oF 0, oF 1, oF 2, oF 3, oF 4, oF 5] (by rfl) ?_
  refine oR [oF 0, oF 1] [(27, vI (IntKind.i64.wrap (Int.tdiv (r : Int) 256))), (3, .slice A1 65 c2), (0, vI (r : Int))] [27, 3, 0] (by kernel_rfl) ?_
  refine ops_conv (l' := [(27, vI ((r / 256 : Nat) : Int)), (3, .slice A1 65 c2), (0, vI (r : Int))]) (by rw [hq]) (fun _ h => h) ?_
  refine oR [oF 2, oF 3] [(29, vI (Int.tmod (r : Int) 256)), (27, vI ((r / 256 : Nat) : Int)), (3, .slice A1 65 c2)] [29, 27, 3] (by kernel_rfl) ?_
  refine ops_conv (l' := [(29, vI ((r % 256 : Nat) : Int)), (27, vI ((r / 256 : Nat) : Int)), (3, .slice A1 65 c2)]) (by rw [hf]) (fun _ h => h) ?_
  refine oR [oF 4, oF 5] [(5, vI ((r % 256 : Nat) : Int)), (4, vI ((r / 256 : Nat) : Int)), (3, .slice A1 65 c2)] [5, 4, 3] (by kernel_rfl) ?_
  refine ops_nil ?_
  refine fin_then ?_
  refine st_seq ?_
  refine st_region_fast Sine_low_t0 [oT 0, oT 1, oT 2, oT 3, oT 4, oT 5, oT 6, oT 7, oT 8, oT 9, oT 10, oT 11, oT 12, oT 13, oT 14, oT 15, oT 16, oT 17] (Mem w [.row A1 65 c2 3 1 (iv .i64 tab)]) (by kernel_rfl) (by kernel_rfl) (by kernel_rfl) (by kernel_rfl) (by kernel_rfl) (fun _ d _ _ _ h => by cases d <;> exact h) (M' := Mem w [.row A1 65 c2 3 1 (iv .i64 tab)]) (fun w_ hM => ⟨hM.drew, hM.drew.sub (.cons_cons _ .slnil)⟩) ?_
  refine oR [oT 0, oT 1] [(31, vI ((r / 256 : Nat) : Int)), (30, .slice A1 65 c2), (5, vI ((r % 256 : Nat) : Int)), (4, vI ((r / 256 : Nat) : Int)), (3, .slice A1 65 c2)] [31, 30, 5, 4, 3] (by kernel_rfl) ?_
  refine ops_fact (fun w_ hM => hM.rowSome 0 rfl (Nat.lt_of_le_of_lt (Nat.zero_le (r / 256)) (by omega))) ?_
  rintro ⟨b5, rfl⟩
  refine ops_val (op := (Go.Op.indexAddr 91 (Go.Operand.tmp 30) (Go.Operand.tmp 31))) (d := some 32) (v := vP b5 (r / 256)) ⟨by kernel_rfl⟩ (run_indexRow Try.underlying91 (z := 1) (by kernel_rfl) rfl rfl (m := r / 256) (by first | rfl | omega) (by omega) (by exact Nat.mul_one _)) ?_
  refine oR [] [(32, vP b5 (r / 256)), (5, vI ((r % 256 : Nat) : Int)), (4, vI ((r / 256 : Nat) : Int)), (3, .slice (some ⟨b5, 0, none⟩) 65 c2)] [32, 5, 4, 3] (by kernel_rfl) ?_
  refine ops_load (d := some 33) (an := [.v (vI (tab.getD (r / 256) 0))]) (evs := [.load ⟨b5, r / 256, none⟩ (vI (tab.getD (r / 256) 0))]) (v := vI (tab.getD (r / 256) 0)) ⟨by kernel_rfl⟩ (fun w_ hM => ⟨hM.rowcell 0 rfl (iv_get (by omega)), rfl⟩) ?_
  refine oR [oT 4, oT 5, oT 6, oT 7, oT 8, oT 9] [(39, vI (IntKind.i64.wrap (((r / 256 : Nat) : Int) + 1))), (37, .slice (some ⟨b5, 0, none⟩) 65 c2), (36, vI (IntKind.i64.wrap (tab.getD (r / 256) 0 * IntKind.i64.wrap (256 - ((r % 256 : Nat) : Int))))), (5, vI ((r % 256 : Nat) : Int))] [39, 37, 36, 5] (by kernel_rfl) ?_
  refine ops_conv (l' := [(39, vI ((r / 256 + 1 : Nat) : Int)), (37, .slice (some ⟨b5, 0, none⟩) 65 c2), (36, vI (IntKind.i64.wrap (tab.getD (r / 256) 0 * IntKind.i64.wrap (256 - ((r % 256 : Nat) : Int))))), (5, vI ((r % 256 : Nat) : Int))]) (by rw [hq1]) (fun _ h => h) ?_
  refine ops_val (op := (Go.Op.indexAddr 91 (Go.Operand.tmp 37) (Go.Operand.tmp 39))) (d := some 40) (v := vP b5 (r / 256 + 1)) ⟨by kernel_rfl⟩ (run_indexRow Try.underlying91 (z := 1) (by kernel_rfl) rfl rfl (m := r / 256 + 1) (by first | rfl | omega) (by omega) (by exact Nat.mul_one _)) ?_
  refine oR [] [(40, vP b5 (r / 256 + 1)), (36, vI (IntKind.i64.wrap (tab.getD (r / 256) 0 * IntKind.i64.wrap (256 - ((r % 256 : Nat) : Int))))), (5, vI ((r % 256 : Nat) : Int))] [40, 36, 5] (by kernel_rfl) ?_
  refine ops_load (d := some 41) (an := [.v (vI (tab.getD (r / 256 + 1) 0))]) (evs := [.load ⟨b5, r / 256 + 1, none⟩ (vI (tab.getD (r / 256 + 1) 0))]) (v := vI (tab.getD (r / 256 + 1) 0)) ⟨by kernel_rfl⟩ (fun w_ hM => ⟨hM.rowcell 0 rfl (iv_get (by omega)), rfl⟩) ?_
  refine oR [oT 12, oT 13, oT 14, oT 15, oT 16, oT 17] [(2, vI (IntKind.i64.wrap (Int.tdiv (IntKind.i64.wrap (IntKind.i64.wrap (IntKind.i64.wrap (tab.getD (r / 256) 0 * IntKind.i64.wrap (256 - ((r % 256 : Nat) : Int))) + IntKind.i64.wrap (tab.getD (r / 256 + 1) 0 * ((r % 256 : Nat) : Int))) + 128)) 256)))] [2] (by kernel_rfl) ?_
  refine ops_nil ?_
  refine fin_then ?_
  refine st_ret ?_
  refine fin_ret [.tmp 2] [vI (IntKind.i64.wrap (Int.tdiv (IntKind.i64.wrap (IntKind.i64.wrap (IntKind.i64.wrap (tab.getD (r / 256) 0 * IntKind.i64.wrap (256 - ((r % 256 : Nat) : Int))) + IntKind.i64.wrap (tab.getD (r / 256 + 1) 0 * ((r % 256 : Nat) : Int))) + 128)) 256))] rfl rfl (fun w_ hM => (.tmp rfl .nil)) (fun w_ hM => ?_)
  refine ⟨?_, hM.done⟩
  have e : sinN n = firstV r := sin_low h hr
  rw [e]
  exact congrArg (fun z => Ending.returned (.int .i64 z)) (ref_walk r hz)
theorem tm_high {n : Nat} (h : 32768 ≤ n) (hlt : n < 65536) : Int.tmod (IntKind.i64.wrap (Int.tmod ((n : Int) - 32768) 65536 + 65536)) 65536 = ((n - 32768 : Nat) : Int) := by
  have e : Int.tmod ((n : Int) - 32768) 65536 = (n : Int) - 32768 := by rw [Int.tmod_eq_emod_of_nonneg (by omega)]; omega
  rw [e, i64in (by omega) (by omega), Int.tmod_eq_emod_of_nonneg (by omega)]
  omega
theorem sin_high {n : Nat} (h : 32768 ≤ n) (hlt : n < 65536) : -sinN (n - 32768) = sinN n := by
  have e : (n - 32768) % 16384 = n % 16384 := by omega
  unfold sinN
  rw [e]
  repeat' split
  all_goals first | rfl | omega
set_option maxHeartbeats 4000000 in
set_option maxRecDepth 100000 in
theorem Sine_high (a : Int) (n : Nat) (w : World) (hn : Int.tmod (IntKind.i64.wrap (Int.tmod a 65536 + 65536)) 65536 = (n : Int)) (h : 32768 ≤ n) (hlt : n < 65536) : Calls Try.prog 99 #[vI a] w fun e w' => e = .returned (vI (sinN n)) ∧ Below w.heap.size w w' := by
 have h4 : IntKind.i64.wrap ((n : Int) - 32768) = (n : Int) - 32768 := i64in (by omega) (by omega)
 have h5 : IntKind.i64.wrap (0 - sinN (n - 32768)) = -sinN (n - 32768) := by have := sinN_range (n - 32768); rw [i64in (by omega) (by omega)]; omega
 have hk1 : decide (32768 ≤ (n : Int)) = true := by simp; omega
 refine sx_calls Try.func99 rfl (n := 47) (by kernel_rfl) (l := [(0, vI a)]) rfl (by rfl) (Mem.nil w) ?_
 refine st_seq ?_
 refine st_region [oF 0] (by rfl) ?_
 refine oR [oF 0] [(0, vI a)] [0] (by kernel_rfl) ?_
 refine ops_nil ?_
 refine fin_then ?_
 refine st_seq ?_
 refine st_region [oF 0, oF 1, oF 2, oF 3, oF 4] (by rfl) ?_
 refine oR [oF 0, oF 1, oF 2, oF 3] [(9, vI (Int.tmod (IntKind.i64.wrap (Int.tmod a 65536 + 65536)) 65536)), (0, vI a)] [9, 0] (by kernel_rfl) ?_
 refine ops_conv (l' := [(9, vI (n : Int)), (0, vI a)]) (by rw [hn]) (fun _ h => h) ?_
 refine oR [oF 4] [(0, vI (n : Int))] [0] (by kernel_rfl) ?_
 refine ops_nil ?_
 refine fin_then ?_
 refine st_seq ?_
 refine st_seq ?_
 refine st_region [oF 0, oF 1] (by rfl) ?_
 refine oR [oF 0, oF 1] [(11, .bool (decide (32768 ≤ (n : Int)))), (0, vI (n : Int))] [11, 0] (by kernel_rfl) ?_
 refine ops_nil ?_
 refine fin_then ?_
 refine st_conv (l' := [(11, .bool true), (0, vI (n : Int))]) (by rw [hk1]) (fun _ h => h) ?_
 refine st_true rfl ?_
 refine st_seq ?_
 refine st_region [oF 0, oF 1, oF 2, oF 3, oF 4] (by rfl) ?_
 refine oR [oF 0, oF 1] [(13, vI (IntKind.i64.wrap ((n : Int) - 32768)))] [13] (by kernel_rfl) ?_
 refine ops_conv (l' := [(13, vI ((n : Int) - 32768))]) (by rw [h4]) (fun _ h => h) ?_
 refine oC (some 14) 99 #[vI ((n : Int) - 32768)] (vI (sinN (n - 32768))) ⟨by kernel_rfl⟩ (fun w_ hM => Sine_low ((n : Int) - 32768) (n - 32768) (min (n - 32768) (32768 - (n - 32768))) w_ (tm_high h hlt) (by omega) (by omega)) ?_
 refine oR [oF 3] [(15, vI (IntKind.i64.wrap (0 - sinN (n - 32768))))] [15] (by kernel_rfl) ?_
 refine ops_conv (l' := [(15, vI (-sinN (n - 32768)))]) (by rw [h5]) (fun _ h => h) ?_
 refine oR [oF 4] [(2, vI (-sinN (n - 32768)))] [2] (by kernel_rfl) ?_
 refine ops_nil ?_
 refine fin_then ?_
 refine st_ret ?_
 refine fin_ret_then ?_
 refine fin_ret [.tmp 2] [vI (-sinN (n - 32768))] rfl rfl (fun w_ hM => (.tmp rfl .nil)) (fun w_ hM => ?_)
 refine ⟨?_, hM.done⟩
 exact congrArg (fun z => Ending.returned (.int .i64 z)) (sin_high h hlt)
theorem Sine_calls (a : Int) (w : World) : Calls Try.prog 99 #[.int .i64 a] w fun e w' => e = .returned (.int .i64 (sinv a)) ∧ Below w.heap.size w w' := by
  have hn : Int.tmod (IntKind.i64.wrap (Int.tmod a 65536 + 65536)) 65536 = (((a % 65536).toNat : Nat) : Int) := by
    have h1 : Int.tmod a 65536 = a % 65536 ∨ Int.tmod a 65536 = a % 65536 - 65536 := by
      rw [Int.tmod_eq_emod]; split <;> omega
    rw [i64in (by omega) (by omega), Int.tmod_eq_emod_of_nonneg (by omega)]
    omega
  by_cases h : (a % 65536).toNat < 32768
  · exact Sine_low a _ (min (a % 65536).toNat (32768 - (a % 65536).toNat)) w hn h (by omega)
  · exact Sine_high a _ w hn (by omega) (by omega)
set_option maxHeartbeats 4000000 in
set_option maxRecDepth 100000 in
theorem Cosine_calls (a : Int) (w : World) : Calls Try.prog 98 #[vI a] w fun e w' => e = .returned (vI (sinv (a % 65536 + 16384))) ∧ Below w.heap.size w w' := by
 have hn : Int.tmod (IntKind.i64.wrap (Int.tmod a 65536 + 65536)) 65536 = a % 65536 := by
    have h1 : Int.tmod a 65536 = a % 65536 ∨ Int.tmod a 65536 = a % 65536 - 65536 := by
      rw [Int.tmod_eq_emod]; split <;> omega
    rw [i64in (by omega) (by omega), Int.tmod_eq_emod_of_nonneg (by omega)]; omega
 have hc : IntKind.i64.wrap (a % 65536 + 16384) = a % 65536 + 16384 := i64in (by omega) (by omega)
 refine sx_calls Try.func98 rfl (n := 9) (by kernel_rfl) (l := [(0, vI a)]) rfl (by rfl) (Mem.nil w) ?_
 refine st_seq ?_
 refine st_region [oF 0] (by rfl) ?_
 refine oR [oF 0] [(0, vI a)] [0] (by kernel_rfl) ?_
 refine ops_nil ?_
 refine fin_then ?_
 refine st_seq ?_
 refine st_region [oF 0, oF 1, oF 2, oF 3, oF 4, oF 5, oF 6] (by rfl) ?_
 refine oR [oF 0, oF 1, oF 2, oF 3] [(6, vI (Int.tmod (IntKind.i64.wrap (Int.tmod a 65536 + 65536)) 65536))] [6] (by kernel_rfl) ?_
 refine ops_conv (l' := [(6, vI (a % 65536))]) (by rw [hn]) (fun _ h => h) ?_
 refine oR [oF 4] [(7, vI (IntKind.i64.wrap ((a % 65536) + 16384)))] [7] (by kernel_rfl) ?_
 refine ops_conv (l' := [(7, vI (a % 65536 + 16384))]) (by rw [hc]) (fun _ h => h) ?_
 refine oC (some 8) 99 #[vI (a % 65536 + 16384)] (vI (sinv (a % 65536 + 16384))) ⟨by kernel_rfl⟩ (fun w_ hM => Sine_calls (a % 65536 + 16384) w_) ?_
 refine oR [oF 6] [(2, vI (sinv (a % 65536 + 16384)))] [2] (by kernel_rfl) ?_
 refine ops_nil ?_
 refine fin_then ?_
 refine st_ret ?_
 refine fin_ret [.tmp 2] [vI (sinv (a % 65536 + 16384))] rfl rfl (fun w_ hM => (.tmp rfl .nil)) (fun w_ hM => ?_)
 refine ⟨?_, hM.done⟩
 rfl
end Go.Proofs.Ytioijglogoppnaa.WTrig
