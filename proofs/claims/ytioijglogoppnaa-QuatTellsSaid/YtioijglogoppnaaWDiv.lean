/- Walks of bits.Len64, LeadingZeros64 and Div64. No condition. -/
import Derived.Test.YtioijglogoppnaaProg
import Derived.Test.YtioijglogoppnaaSxOps
import Derived.Test.YtioijglogoppnaaDivSpec
namespace Go.Proofs.Ytioijglogoppnaa.WDiv
open Go Go.RowKit Go.Proofs.Ytioijglogoppnaa.Sx Go.Proofs.Ytioijglogoppnaa.Rnd Go.Proofs.Ytioijglogoppnaa.Nats Go.Proofs.Ytioijglogoppnaa.Trig Go.Proofs.Ytioijglogoppnaa.Vecs Go.Proofs.Ytioijglogoppnaa.Divs
set_option linter.unusedVariables false
set_option linter.unusedSimpArgs false
set_option maxRecDepth 100000 in
def len8s : ByteArray := ⟨#[0, 1, 2, 2, 3, 3, 3, 3, 4, 4, 4, 4, 4, 4, 4, 4, 5, 5, 5, 5, 5, 5, 5, 5, 5, 5, 5, 5, 5, 5, 5, 5, 6, 6, 6, 6, 6, 6, 6, 6, 6, 6, 6, 6, 6, 6, 6, 6, 6, 6, 6, 6, 6, 6, 6, 6, 6, 6, 6, 6, 6, 6, 6, 6, 7, 7, 7, 7, 7, 7, 7, 7, 7, 7, 7, 7, 7, 7, 7, 7, 7, 7, 7, 7, 7, 7, 7, 7, 7, 7, 7, 7, 7, 7, 7, 7, 7, 7, 7, 7, 7, 7, 7, 7, 7, 7, 7, 7, 7, 7, 7, 7, 7, 7, 7, 7, 7, 7, 7, 7, 7, 7, 7, 7, 7, 7, 7, 7, 8, 8, 8, 8, 8, 8, 8, 8, 8, 8, 8, 8, 8, 8, 8, 8, 8, 8, 8, 8, 8, 8, 8, 8, 8, 8, 8, 8, 8, 8, 8, 8, 8, 8, 8, 8, 8, 8, 8, 8, 8, 8, 8, 8, 8, 8, 8, 8, 8, 8, 8, 8, 8, 8, 8, 8, 8, 8, 8, 8, 8, 8, 8, 8, 8, 8, 8, 8, 8, 8, 8, 8, 8, 8, 8, 8, 8, 8, 8, 8, 8, 8, 8, 8, 8, 8, 8, 8, 8, 8, 8, 8, 8, 8, 8, 8, 8, 8, 8, 8, 8, 8, 8, 8, 8, 8, 8, 8, 8, 8, 8, 8, 8, 8, 8, 8, 8, 8, 8, 8, 8, 8, 8, 8, 8, 8, 8, 8]⟩
set_option maxRecDepth 100000 in
theorem len8_str : ∀ (m : Nat) (h : m < 256), ((len8s[m]'h).toNat : Int) = len8.getD m 0 := by decide +kernel
set_option maxHeartbeats 4000000 in
set_option maxRecDepth 100000 in
theorem Len64_calls (x n : Nat) (w : World) (hl : IsLen x n) (hx : x < 18446744073709551616) : Calls Try.prog 138 #[vU (x : Int)] w fun e w' => e = .returned (vI (n : Int)) ∧ Below w.heap.size w w' := by
 have hn64 := hl.hi (k := 64) hx
 refine sx_calls Try.func138 rfl (n := 25) (by kernel_rfl) (l := [(0, vU (x : Int))]) rfl (by rfl) (Mem.nil w) ?_
 refine st_seq ?_
 refine st_region [oF 0] (by rfl) ?_
 refine oR [oF 0] [(2, vI 0), (0, vU (x : Int))] [2, 0] (by kernel_rfl) ?_
 refine ops_nil ?_
 refine fin_then ?_
 refine st_seq ?_
 refine st_seq ?_
 refine st_region [oF 0, oF 1] (by rfl) ?_
 refine oR [oF 0, oF 1] [(4, .bool (decide (4294967296 ≤ (x : Int)))), (2, vI 0), (0, vU (x : Int))] [4, 2, 0] (by kernel_rfl) ?_
 refine ops_nil ?_
 refine fin_then ?_
 refine st_if (b := decide (4294967296 ≤ (x : Int))) rfl (fun hc1 => ?_) (fun hc1 => ?_)
 · --
  have hk32 := hl.lo (k := 32) (by have := of_decide_eq_true hc1; omega)
  have hl_32 : IsLen (x / 4294967296) (n - 32) := hl.shift 32 (by omega) (by have := of_decide_eq_true hc1; omega)
  have hs32 : Int.fdiv ((x : Nat) : Int) 4294967296 = ((x / 4294967296 : Nat) : Int) := by rw [Int.fdiv_eq_ediv_of_nonneg _ (by decide)]; omega
  refine st_seq ?_
  refine st_region [oF 0, oF 1, oF 2] (by rfl) ?_
  refine oR [oF 0, oF 1] [(6, vU (Int.fdiv (x : Int) 4294967296)), (0, vU (x : Int))] [6, 0] (by kernel_rfl) ?_
  refine ops_conv (l' := [(6, vU ((x / 4294967296 : Nat) : Int)), (0, vU (x : Int))]) (by rw [hs32]) (fun _ h => h) ?_
  refine oR [oF 2] [(0, vU ((x / 4294967296 : Nat) : Int))] [0] (by kernel_rfl) ?_
  refine ops_nil ?_
  refine fin_then ?_
  refine st_region [oF 0] (by rfl) ?_
  refine oR [oF 0] [(2, vI 32), (0, vU ((x / 4294967296 : Nat) : Int))] [2, 0] (by kernel_rfl) ?_
  refine ops_nil ?_
  refine fin_then ?_
  refine st_seq ?_
  refine st_seq ?_
  refine st_region [oF 0, oF 1] (by rfl) ?_
  refine oR [oF 0, oF 1] [(8, .bool (decide (65536 ≤ ((x / 4294967296 : Nat) : Int)))), (2, vI 32), (0, vU ((x / 4294967296 : Nat) : Int))] [8, 2, 0] (by kernel_rfl) ?_
  refine ops_nil ?_
  refine fin_then ?_
  refine st_if (b := decide (65536 ≤ ((x / 4294967296 : Nat) : Int))) rfl (fun hc2 => ?_) (fun hc2 => ?_)
  · --
   have hk16 := hl_32.lo (k := 16) (by have := of_decide_eq_true hc2; omega)
   have hl_32_16 : IsLen (x / 4294967296 / 65536) (n - 32 - 16) := hl_32.shift 16 (by omega) (by have := of_decide_eq_true hc2; omega)
   have hs16 : Int.fdiv ((x / 4294967296 : Nat) : Int) 65536 = ((x / 4294967296 / 65536 : Nat) : Int) := by rw [Int.fdiv_eq_ediv_of_nonneg _ (by decide)]; omega
   refine st_seq ?_
   refine st_region [oF 0, oF 1, oF 2] (by rfl) ?_
   refine oR [oF 0, oF 1] [(10, vU (Int.fdiv ((x / 4294967296 : Nat) : Int) 65536)), (2, vI 32), (0, vU ((x / 4294967296 : Nat) : Int))] [10, 2, 0] (by kernel_rfl) ?_
   refine ops_conv (l' := [(10, vU ((x / 4294967296 / 65536 : Nat) : Int)), (2, vI 32), (0, vU ((x / 4294967296 : Nat) : Int))]) (by rw [hs16]) (fun _ h => h) ?_
   refine oR [oF 2] [(0, vU ((x / 4294967296 / 65536 : Nat) : Int)), (2, vI 32)] [0, 2] (by kernel_rfl) ?_
   refine ops_nil ?_
   refine fin_then ?_
   refine st_region [oF 0, oF 1, oF 2] (by rfl) ?_
   refine oR [oF 0, oF 1, oF 2] [(2, vI 48), (0, vU ((x / 4294967296 / 65536 : Nat) : Int))] [2, 0] (by kernel_rfl) ?_
   refine ops_nil ?_
   refine fin_then ?_
   refine st_seq ?_
   refine st_seq ?_
   refine st_region [oF 0, oF 1] (by rfl) ?_
   refine oR [oF 0, oF 1] [(14, .bool (decide (256 ≤ ((x / 4294967296 / 65536 : Nat) : Int)))), (2, vI 48), (0, vU ((x / 4294967296 / 65536 : Nat) : Int))] [14, 2, 0] (by kernel_rfl) ?_
   refine ops_nil ?_
   refine fin_then ?_
   refine st_if (b := decide (256 ≤ ((x / 4294967296 / 65536 : Nat) : Int))) rfl (fun hc3 => ?_) (fun hc3 => ?_)
   · --
    have hk8 := hl_32_16.lo (k := 8) (by have := of_decide_eq_true hc3; omega)
    have hl_32_16_8 : IsLen (x / 4294967296 / 65536 / 256) (n - 32 - 16 - 8) := hl_32_16.shift 8 (by omega) (by have := of_decide_eq_true hc3; omega)
    have hs8 : Int.fdiv ((x / 4294967296 / 65536 : Nat) : Int) 256 = ((x / 4294967296 / 65536 / 256 : Nat) : Int) := by rw [Int.fdiv_eq_ediv_of_nonneg _ (by decide)]; omega
    have hlt : x / 4294967296 / 65536 / 256 < 256 := by have := hl_32_16_8.1; have : 2 ^ (n - 32 - 16 - 8) ≤ 2 ^ 8 := Nat.pow_le_pow_right (by decide) (by omega); omega
    have hu8 : IntKind.u8.wrap ((x / 4294967296 / 65536 / 256 : Nat) : Int) = ((x / 4294967296 / 65536 / 256 : Nat) : Int) := by rw [IntKind.wrap_u8]; omega
    have htab : len8.getD (x / 4294967296 / 65536 / 256) 0 = ((n - 32 - 16 - 8 : Nat) : Int) := hl_32_16_8.tab hlt
    have hwt : IntKind.i64.wrap ((n - 32 - 16 - 8 : Nat) : Int) = ((n - 32 - 16 - 8 : Nat) : Int) := i64in (by omega) (by omega)
    refine st_seq ?_
    refine st_region [oF 0, oF 1, oF 2] (by rfl) ?_
    refine oR [oF 0, oF 1] [(16, vU (Int.fdiv ((x / 4294967296 / 65536 : Nat) : Int) 256)), (2, vI 48), (0, vU ((x / 4294967296 / 65536 : Nat) : Int))] [16, 2, 0] (by kernel_rfl) ?_
    refine ops_conv (l' := [(16, vU ((x / 4294967296 / 65536 / 256 : Nat) : Int)), (2, vI 48), (0, vU ((x / 4294967296 / 65536 : Nat) : Int))]) (by rw [hs8]) (fun _ h => h) ?_
    refine oR [oF 2] [(0, vU ((x / 4294967296 / 65536 / 256 : Nat) : Int)), (2, vI 48)] [0, 2] (by kernel_rfl) ?_
    refine ops_nil ?_
    refine fin_then ?_
    refine st_region [oF 0, oF 1, oF 2] (by rfl) ?_
    refine oR [oF 0, oF 1, oF 2] [(2, vI 56), (0, vU ((x / 4294967296 / 65536 / 256 : Nat) : Int))] [2, 0] (by kernel_rfl) ?_
    refine ops_nil ?_
    refine fin_then ?_
    refine st_seq ?_
    refine st_region [oF 0, oF 1, oF 2, oF 3, oF 4, oF 5, oF 6] (by rfl) ?_
    refine oR [oF 0, oF 1, oF 2] [(21, .int .u8 (IntKind.u8.wrap ((x / 4294967296 / 65536 / 256 : Nat) : Int))), (19, vI 56), (2, vI 56)] [21, 19, 2] (by kernel_rfl) ?_
    refine ops_conv (l' := [(21, .int .u8 ((x / 4294967296 / 65536 / 256 : Nat) : Int)), (19, vI 56), (2, vI 56)]) (by rw [hu8]) (fun _ h => h) ?_
    refine ops_val (op := (Go.Op.index 9 (Go.Operand.const (Go.Value.string { data := #[0, 1, 2, 2, 3, 3, 3, 3, 4, 4, 4, 4, 4, 4, 4, 4, 5, 5, 5, 5, 5, 5, 5, 5, 5, 5, 5, 5, 5, 5, 5, 5, 6, 6, 6, 6, 6, 6, 6, 6, 6, 6, 6, 6, 6, 6, 6, 6, 6, 6, 6, 6, 6, 6, 6, 6, 6, 6, 6, 6, 6, 6, 6, 6, 7, 7, 7, 7, 7, 7, 7, 7, 7, 7, 7, 7, 7, 7, 7, 7, 7, 7, 7, 7, 7, 7, 7, 7, 7, 7, 7, 7, 7, 7, 7, 7, 7, 7, 7, 7, 7, 7, 7, 7, 7, 7, 7, 7, 7, 7, 7, 7, 7, 7, 7, 7, 7, 7, 7, 7, 7, 7, 7, 7, 7, 7, 7, 7, 8, 8, 8, 8, 8, 8, 8, 8, 8, 8, 8, 8, 8, 8, 8, 8, 8, 8, 8, 8, 8, 8, 8, 8, 8, 8, 8, 8, 8, 8, 8, 8, 8, 8, 8, 8, 8, 8, 8, 8, 8, 8, 8, 8, 8, 8, 8, 8, 8, 8, 8, 8, 8, 8, 8, 8, 8, 8, 8, 8, 8, 8, 8, 8, 8, 8, 8, 8, 8, 8, 8, 8, 8, 8, 8, 8, 8, 8, 8, 8, 8, 8, 8, 8, 8, 8, 8, 8, 8, 8, 8, 8, 8, 8, 8, 8, 8, 8, 8, 8, 8, 8, 8, 8, 8, 8, 8, 8, 8, 8, 8, 8, 8, 8, 8, 8, 8, 8, 8, 8, 8, 8, 8, 8, 8, 8, 8, 8] })) (Go.Operand.tmp 21))) (d := some 22) (v := .int .u8 ((n - 32 - 16 - 8 : Nat) : Int)) ⟨by kernel_rfl⟩ (fun o w ho => by have z := run_strIndex (P := Try.prog) (l := [(21, .int .u8 ((x / 4294967296 / 65536 / 256 : Nat) : Int)), (19, vI 56), (2, vI 56)]) (x := (Go.Operand.const (Go.Value.string { data := #[0, 1, 2, 2, 3, 3, 3, 3, 4, 4, 4, 4, 4, 4, 4, 4, 5, 5, 5, 5, 5, 5, 5, 5, 5, 5, 5, 5, 5, 5, 5, 5, 6, 6, 6, 6, 6, 6, 6, 6, 6, 6, 6, 6, 6, 6, 6, 6, 6, 6, 6, 6, 6, 6, 6, 6, 6, 6, 6, 6, 6, 6, 6, 6, 7, 7, 7, 7, 7, 7, 7, 7, 7, 7, 7, 7, 7, 7, 7, 7, 7, 7, 7, 7, 7, 7, 7, 7, 7, 7, 7, 7, 7, 7, 7, 7, 7, 7, 7, 7, 7, 7, 7, 7, 7, 7, 7, 7, 7, 7, 7, 7, 7, 7, 7, 7, 7, 7, 7, 7, 7, 7, 7, 7, 7, 7, 7, 7, 8, 8, 8, 8, 8, 8, 8, 8, 8, 8, 8, 8, 8, 8, 8, 8, 8, 8, 8, 8, 8, 8, 8, 8, 8, 8, 8, 8, 8, 8, 8, 8, 8, 8, 8, 8, 8, 8, 8, 8, 8, 8, 8, 8, 8, 8, 8, 8, 8, 8, 8, 8, 8, 8, 8, 8, 8, 8, 8, 8, 8, 8, 8, 8, 8, 8, 8, 8, 8, 8, 8, 8, 8, 8, 8, 8, 8, 8, 8, 8, 8, 8, 8, 8, 8, 8, 8, 8, 8, 8, 8, 8, 8, 8, 8, 8, 8, 8, 8, 8, 8, 8, 8, 8, 8, 8, 8, 8, 8, 8, 8, 8, 8, 8, 8, 8, 8, 8, 8, 8, 8, 8, 8, 8, 8, 8, 8, 8] }))) (y := (Go.Operand.tmp 21)) (s := len8s) (m := x / 4294967296 / 65536 / 256) (by kernel_rfl) rfl rfl rfl (show x / 4294967296 / 65536 / 256 < 256 from hlt) o w ho; rw [len8_str _ hlt, htab] at z; exact z) ?_
    refine oR [oF 4] [(23, vI (IntKind.i64.wrap ((n - 32 - 16 - 8 : Nat) : Int))), (19, vI 56), (2, vI 56)] [23, 19, 2] (by kernel_rfl) ?_
    refine ops_conv (l' := [(23, vI ((n - 32 - 16 - 8 : Nat) : Int)), (19, vI 56), (2, vI 56)]) (by rw [hwt]) (fun _ h => h) ?_
    refine oR [oF 5, oF 6] [(2, vI (IntKind.i64.wrap (56 + ((n - 32 - 16 - 8 : Nat) : Int))))] [2] (by kernel_rfl) ?_
    refine ops_nil ?_
    refine fin_then ?_
    refine st_ret ?_
    refine fin_ret [.tmp 2] [vI (IntKind.i64.wrap (56 + ((n - 32 - 16 - 8 : Nat) : Int)))] rfl rfl (fun w_ hM => (.tmp rfl .nil)) (fun w_ hM => ?_)
    refine ⟨?_, hM.done⟩
    refine congrArg (fun z => Ending.returned (.int .i64 z)) ?_
    first | omega | (rw [i64in (by omega) (by omega)]; omega)
   · --
    have hk8 := hl_32_16.hi (k := 8) (by have := of_decide_eq_false hc3; omega)
    have hlt : x / 4294967296 / 65536 < 256 := by have := of_decide_eq_false hc3; omega
    have hu8 : IntKind.u8.wrap ((x / 4294967296 / 65536 : Nat) : Int) = ((x / 4294967296 / 65536 : Nat) : Int) := by rw [IntKind.wrap_u8]; omega
    have htab : len8.getD (x / 4294967296 / 65536) 0 = ((n - 32 - 16 : Nat) : Int) := hl_32_16.tab hlt
    have hwt : IntKind.i64.wrap ((n - 32 - 16 : Nat) : Int) = ((n - 32 - 16 : Nat) : Int) := i64in (by omega) (by omega)
    refine st_skip ?_
    refine fin_then ?_
    refine st_seq ?_
    refine st_region [oF 0, oF 1, oF 2, oF 3, oF 4, oF 5, oF 6] (by rfl) ?_
    refine oR [oF 0, oF 1, oF 2] [(21, .int .u8 (IntKind.u8.wrap ((x / 4294967296 / 65536 : Nat) : Int))), (19, vI 48), (2, vI 48)] [21, 19, 2] (by kernel_rfl) ?_
    refine ops_conv (l' := [(21, .int .u8 ((x / 4294967296 / 65536 : Nat) : Int)), (19, vI 48), (2, vI 48)]) (by rw [hu8]) (fun _ h => h) ?_
    refine ops_val (op := (Go.Op.index 9 (Go.Operand.const (Go.Value.string { data := #[0, 1, 2, 2, 3, 3, 3, 3, 4, 4, 4, 4, 4, 4, 4, 4, 5, 5, 5, 5, 5, 5, 5, 5, 5, 5, 5, 5, 5, 5, 5, 5, 6, 6, 6, 6, 6, 6, 6, 6, 6, 6, 6, 6, 6, 6, 6, 6, 6, 6, 6, 6, 6, 6, 6, 6, 6, 6, 6, 6, 6, 6, 6, 6, 7, 7, 7, 7, 7, 7, 7, 7, 7, 7, 7, 7, 7, 7, 7, 7, 7, 7, 7, 7, 7, 7, 7, 7, 7, 7, 7, 7, 7, 7, 7, 7, 7, 7, 7, 7, 7, 7, 7, 7, 7, 7, 7, 7, 7, 7, 7, 7, 7, 7, 7, 7, 7, 7, 7, 7, 7, 7, 7, 7, 7, 7, 7, 7, 8, 8, 8, 8, 8, 8, 8, 8, 8, 8, 8, 8, 8, 8, 8, 8, 8, 8, 8, 8, 8, 8, 8, 8, 8, 8, 8, 8, 8, 8, 8, 8, 8, 8, 8, 8, 8, 8, 8, 8, 8, 8, 8, 8, 8, 8, 8, 8, 8, 8, 8, 8, 8, 8, 8, 8, 8, 8, 8, 8, 8, 8, 8, 8, 8, 8, 8, 8, 8, 8, 8, 8, 8, 8, 8, 8, 8, 8, 8, 8, 8, 8, 8, 8, 8, 8, 8, 8, 8, 8, 8, 8, 8, 8, 8, 8, 8, 8, 8, 8, 8, 8, 8, 8, 8, 8, 8, 8, 8, 8, 8, 8, 8, 8, 8, 8, 8, 8, 8, 8, 8, 8, 8, 8, 8, 8, 8, 8] })) (Go.Operand.tmp 21))) (d := some 22) (v := .int .u8 ((n - 32 - 16 : Nat) : Int)) ⟨by kernel_rfl⟩ (fun o w ho => by have z := run_strIndex (P := Try.prog) (l := [(21, .int .u8 ((x / 4294967296 / 65536 : Nat) : Int)), (19, vI 48), (2, vI 48)]) (x := (Go.Operand.const (Go.Value.string { data := #[0, 1, 2, 2, 3, 3, 3, 3, 4, 4, 4, 4, 4, 4, 4, 4, 5, 5, 5, 5, 5, 5, 5, 5, 5, 5, 5, 5, 5, 5, 5, 5, 6, 6, 6, 6, 6, 6, 6, 6, 6, 6, 6, 6, 6, 6, 6, 6, 6, 6, 6, 6, 6, 6, 6, 6, 6, 6, 6, 6, 6, 6, 6, 6, 7, 7, 7, 7, 7, 7, 7, 7, 7, 7, 7, 7, 7, 7, 7, 7, 7, 7, 7, 7, 7, 7, 7, 7, 7, 7, 7, 7, 7, 7, 7, 7, 7, 7, 7, 7, 7, 7, 7, 7, 7, 7, 7, 7, 7, 7, 7, 7, 7, 7, 7, 7, 7, 7, 7, 7, 7, 7, 7, 7, 7, 7, 7, 7, 8, 8, 8, 8, 8, 8, 8, 8, 8, 8, 8, 8, 8, 8, 8, 8, 8, 8, 8, 8, 8, 8, 8, 8, 8, 8, 8, 8, 8, 8, 8, 8, 8, 8, 8, 8, 8, 8, 8, 8, 8, 8, 8, 8, 8, 8, 8, 8, 8, 8, 8, 8, 8, 8, 8, 8, 8, 8, 8, 8, 8, 8, 8, 8, 8, 8, 8, 8, 8, 8, 8, 8, 8, 8, 8, 8, 8, 8, 8, 8, 8, 8, 8, 8, 8, 8, 8, 8, 8, 8, 8, 8, 8, 8, 8, 8, 8, 8, 8, 8, 8, 8, 8, 8, 8, 8, 8, 8, 8, 8, 8, 8, 8, 8, 8, 8, 8, 8, 8, 8, 8, 8, 8, 8, 8, 8, 8, 8] }))) (y := (Go.Operand.tmp 21)) (s := len8s) (m := x / 4294967296 / 65536) (by kernel_rfl) rfl rfl rfl (show x / 4294967296 / 65536 < 256 from hlt) o w ho; rw [len8_str _ hlt, htab] at z; exact z) ?_
    refine oR [oF 4] [(23, vI (IntKind.i64.wrap ((n - 32 - 16 : Nat) : Int))), (19, vI 48), (2, vI 48)] [23, 19, 2] (by kernel_rfl) ?_
    refine ops_conv (l' := [(23, vI ((n - 32 - 16 : Nat) : Int)), (19, vI 48), (2, vI 48)]) (by rw [hwt]) (fun _ h => h) ?_
    refine oR [oF 5, oF 6] [(2, vI (IntKind.i64.wrap (48 + ((n - 32 - 16 : Nat) : Int))))] [2] (by kernel_rfl) ?_
    refine ops_nil ?_
    refine fin_then ?_
    refine st_ret ?_
    refine fin_ret [.tmp 2] [vI (IntKind.i64.wrap (48 + ((n - 32 - 16 : Nat) : Int)))] rfl rfl (fun w_ hM => (.tmp rfl .nil)) (fun w_ hM => ?_)
    refine ⟨?_, hM.done⟩
    refine congrArg (fun z => Ending.returned (.int .i64 z)) ?_
    first | omega | (rw [i64in (by omega) (by omega)]; omega)
  · --
   have hk16 := hl_32.hi (k := 16) (by have := of_decide_eq_false hc2; omega)
   refine st_skip ?_
   refine fin_then ?_
   refine st_seq ?_
   refine st_seq ?_
   refine st_region [oF 0, oF 1] (by rfl) ?_
   refine oR [oF 0, oF 1] [(14, .bool (decide (256 ≤ ((x / 4294967296 : Nat) : Int)))), (2, vI 32), (0, vU ((x / 4294967296 : Nat) : Int))] [14, 2, 0] (by kernel_rfl) ?_
   refine ops_nil ?_
   refine fin_then ?_
   refine st_if (b := decide (256 ≤ ((x / 4294967296 : Nat) : Int))) rfl (fun hc4 => ?_) (fun hc4 => ?_)
   · --
    have hk8 := hl_32.lo (k := 8) (by have := of_decide_eq_true hc4; omega)
    have hl_32_8 : IsLen (x / 4294967296 / 256) (n - 32 - 8) := hl_32.shift 8 (by omega) (by have := of_decide_eq_true hc4; omega)
    have hs8 : Int.fdiv ((x / 4294967296 : Nat) : Int) 256 = ((x / 4294967296 / 256 : Nat) : Int) := by rw [Int.fdiv_eq_ediv_of_nonneg _ (by decide)]; omega
    have hlt : x / 4294967296 / 256 < 256 := by have := hl_32_8.1; have : 2 ^ (n - 32 - 8) ≤ 2 ^ 8 := Nat.pow_le_pow_right (by decide) (by omega); omega
    have hu8 : IntKind.u8.wrap ((x / 4294967296 / 256 : Nat) : Int) = ((x / 4294967296 / 256 : Nat) : Int) := by rw [IntKind.wrap_u8]; omega
    have htab : len8.getD (x / 4294967296 / 256) 0 = ((n - 32 - 8 : Nat) : Int) := hl_32_8.tab hlt
    have hwt : IntKind.i64.wrap ((n - 32 - 8 : Nat) : Int) = ((n - 32 - 8 : Nat) : Int) := i64in (by omega) (by omega)
    refine st_seq ?_
    refine st_region [oF 0, oF 1, oF 2] (by rfl) ?_
    refine oR [oF 0, oF 1] [(16, vU (Int.fdiv ((x / 4294967296 : Nat) : Int) 256)), (2, vI 32), (0, vU ((x / 4294967296 : Nat) : Int))] [16, 2, 0] (by kernel_rfl) ?_
    refine ops_conv (l' := [(16, vU ((x / 4294967296 / 256 : Nat) : Int)), (2, vI 32), (0, vU ((x / 4294967296 : Nat) : Int))]) (by rw [hs8]) (fun _ h => h) ?_
    refine oR [oF 2] [(0, vU ((x / 4294967296 / 256 : Nat) : Int)), (2, vI 32)] [0, 2] (by kernel_rfl) ?_
    refine ops_nil ?_
    refine fin_then ?_
    refine st_region [oF 0, oF 1, oF 2] (by rfl) ?_
    refine oR [oF 0, oF 1, oF 2] [(2, vI 40), (0, vU ((x / 4294967296 / 256 : Nat) : Int))] [2, 0] (by kernel_rfl) ?_
    refine ops_nil ?_
    refine fin_then ?_
    refine st_seq ?_
    refine st_region [oF 0, oF 1, oF 2, oF 3, oF 4, oF 5, oF 6] (by rfl) ?_
    refine oR [oF 0, oF 1, oF 2] [(21, .int .u8 (IntKind.u8.wrap ((x / 4294967296 / 256 : Nat) : Int))), (19, vI 40), (2, vI 40)] [21, 19, 2] (by kernel_rfl) ?_
    refine ops_conv (l' := [(21, .int .u8 ((x / 4294967296 / 256 : Nat) : Int)), (19, vI 40), (2, vI 40)]) (by rw [hu8]) (fun _ h => h) ?_
    refine ops_val (op := (Go.Op.index 9 (Go.Operand.const (Go.Value.string { data := #[0, 1, 2, 2, 3, 3, 3, 3, 4, 4, 4, 4, 4, 4, 4, 4, 5, 5, 5, 5, 5, 5, 5, 5, 5, 5, 5, 5, 5, 5, 5, 5, 6, 6, 6, 6, 6, 6, 6, 6, 6, 6, 6, 6, 6, 6, 6, 6, 6, 6, 6, 6, 6, 6, 6, 6, 6, 6, 6, 6, 6, 6, 6, 6, 7, 7, 7, 7, 7, 7, 7, 7, 7, 7, 7, 7, 7, 7, 7, 7, 7, 7, 7, 7, 7, 7, 7, 7, 7, 7, 7, 7, 7, 7, 7, 7, 7, 7, 7, 7, 7, 7, 7, 7, 7, 7, 7, 7, 7, 7, 7, 7, 7, 7, 7, 7, 7, 7, 7, 7, 7, 7, 7, 7, 7, 7, 7, 7, 8, 8, 8, 8, 8, 8, 8, 8, 8, 8, 8, 8, 8, 8, 8, 8, 8, 8, 8, 8, 8, 8, 8, 8, 8, 8, 8, 8, 8, 8, 8, 8, 8, 8, 8, 8, 8, 8, 8, 8, 8, 8, 8, 8, 8, 8, 8, 8, 8, 8, 8, 8, 8, 8, 8, 8, 8, 8, 8, 8, 8, 8, 8, 8, 8, 8, 8, 8, 8, 8, 8, 8, 8, 8, 8, 8, 8, 8, 8, 8, 8, 8, 8, 8, 8, 8, 8, 8, 8, 8, 8, 8, 8, 8, 8, 8, 8, 8, 8, 8, 8, 8, 8, 8, 8, 8, 8, 8, 8, 8, 8, 8, 8, 8, 8, 8, 8, 8, 8, 8, 8, 8, 8, 8, 8, 8, 8, 8] })) (Go.Operand.tmp 21))) (d := some 22) (v := .int .u8 ((n - 32 - 8 : Nat) : Int)) ⟨by kernel_rfl⟩ (fun o w ho => by have z := run_strIndex (P := Try.prog) (l := [(21, .int .u8 ((x / 4294967296 / 256 : Nat) : Int)), (19, vI 40), (2, vI 40)]) (x := (Go.Operand.const (Go.Value.string { data := #[0, 1, 2, 2, 3, 3, 3, 3, 4, 4, 4, 4, 4, 4, 4, 4, 5, 5, 5, 5, 5, 5, 5, 5, 5, 5, 5, 5, 5, 5, 5, 5, 6, 6, 6, 6, 6, 6, 6, 6, 6, 6, 6, 6, 6, 6, 6, 6, 6, 6, 6, 6, 6, 6, 6, 6, 6, 6, 6, 6, 6, 6, 6, 6, 7, 7, 7, 7, 7, 7, 7, 7, 7, 7, 7, 7, 7, 7, 7, 7, 7, 7, 7, 7, 7, 7, 7, 7, 7, 7, 7, 7, 7, 7, 7, 7, 7, 7, 7, 7, 7, 7, 7, 7, 7, 7, 7, 7, 7, 7, 7, 7, 7, 7, 7, 7, 7, 7, 7, 7, 7, 7, 7, 7, 7, 7, 7, 7, 8, 8, 8, 8, 8, 8, 8, 8, 8, 8, 8, 8, 8, 8, 8, 8, 8, 8, 8, 8, 8, 8, 8, 8, 8, 8, 8, 8, 8, 8, 8, 8, 8, 8, 8, 8, 8, 8, 8, 8, 8, 8, 8, 8, 8, 8, 8, 8, 8, 8, 8, 8, 8, 8, 8, 8, 8, 8, 8, 8, 8, 8, 8, 8, 8, 8, 8, 8, 8, 8, 8, 8, 8, 8, 8, 8, 8, 8, 8, 8, 8, 8, 8, 8, 8, 8, 8, 8, 8, 8, 8, 8, 8, 8, 8, 8, 8, 8, 8, 8, 8, 8, 8, 8, 8, 8, 8, 8, 8, 8, 8, 8, 8, 8, 8, 8, 8, 8, 8, 8, 8, 8, 8, 8, 8, 8, 8, 8] }))) (y := (Go.Operand.tmp 21)) (s := len8s) (m := x / 4294967296 / 256) (by kernel_rfl) rfl rfl rfl (show x / 4294967296 / 256 < 256 from hlt) o w ho; rw [len8_str _ hlt, htab] at z; exact z) ?_
    refine oR [oF 4] [(23, vI (IntKind.i64.wrap ((n - 32 - 8 : Nat) : Int))), (19, vI 40), (2, vI 40)] [23, 19, 2] (by kernel_rfl) ?_
    refine ops_conv (l' := [(23, vI ((n - 32 - 8 : Nat) : Int)), (19, vI 40), (2, vI 40)]) (by rw [hwt]) (fun _ h => h) ?_
    refine oR [oF 5, oF 6] [(2, vI (IntKind.i64.wrap (40 + ((n - 32 - 8 : Nat) : Int))))] [2] (by kernel_rfl) ?_
    refine ops_nil ?_
    refine fin_then ?_
    refine st_ret ?_
    refine fin_ret [.tmp 2] [vI (IntKind.i64.wrap (40 + ((n - 32 - 8 : Nat) : Int)))] rfl rfl (fun w_ hM => (.tmp rfl .nil)) (fun w_ hM => ?_)
    refine ⟨?_, hM.done⟩
    refine congrArg (fun z => Ending.returned (.int .i64 z)) ?_
    first | omega | (rw [i64in (by omega) (by omega)]; omega)
   · --
    have hk8 := hl_32.hi (k := 8) (by have := of_decide_eq_false hc4; omega)
    have hlt : x / 4294967296 < 256 := by have := of_decide_eq_false hc4; omega
    have hu8 : IntKind.u8.wrap ((x / 4294967296 : Nat) : Int) = ((x / 4294967296 : Nat) : Int) := by rw [IntKind.wrap_u8]; omega
    have htab : len8.getD (x / 4294967296) 0 = ((n - 32 : Nat) : Int) := hl_32.tab hlt
    have hwt : IntKind.i64.wrap ((n - 32 : Nat) : Int) = ((n - 32 : Nat) : Int) := i64in (by omega) (by omega)
    refine st_skip ?_
    refine fin_then ?_
    refine st_seq ?_
    refine st_region [oF 0, oF 1, oF 2, oF 3, oF 4, oF 5, oF 6] (by rfl) ?_
    refine oR [oF 0, oF 1, oF 2] [(21, .int .u8 (IntKind.u8.wrap ((x / 4294967296 : Nat) : Int))), (19, vI 32), (2, vI 32)] [21, 19, 2] (by kernel_rfl) ?_
    refine ops_conv (l' := [(21, .int .u8 ((x / 4294967296 : Nat) : Int)), (19, vI 32), (2, vI 32)]) (by rw [hu8]) (fun _ h => h) ?_
    refine ops_val (op := (Go.Op.index 9 (Go.Operand.const (Go.Value.string { data := #[0, 1, 2, 2, 3, 3, 3, 3, 4, 4, 4, 4, 4, 4, 4, 4, 5, 5, 5, 5, 5, 5, 5, 5, 5, 5, 5, 5, 5, 5, 5, 5, 6, 6, 6, 6, 6, 6, 6, 6, 6, 6, 6, 6, 6, 6, 6, 6, 6, 6, 6, 6, 6, 6, 6, 6, 6, 6, 6, 6, 6, 6, 6, 6, 7, 7, 7, 7, 7, 7, 7, 7, 7, 7, 7, 7, 7, 7, 7, 7, 7, 7, 7, 7, 7, 7, 7, 7, 7, 7, 7, 7, 7, 7, 7, 7, 7, 7, 7, 7, 7, 7, 7, 7, 7, 7, 7, 7, 7, 7, 7, 7, 7, 7, 7, 7, 7, 7, 7, 7, 7, 7, 7, 7, 7, 7, 7, 7, 8, 8, 8, 8, 8, 8, 8, 8, 8, 8, 8, 8, 8, 8, 8, 8, 8, 8, 8, 8, 8, 8, 8, 8, 8, 8, 8, 8, 8, 8, 8, 8, 8, 8, 8, 8, 8, 8, 8, 8, 8, 8, 8, 8, 8, 8, 8, 8, 8, 8, 8, 8, 8, 8, 8, 8, 8, 8, 8, 8, 8, 8, 8, 8, 8, 8, 8, 8, 8, 8, 8, 8, 8, 8, 8, 8, 8, 8, 8, 8, 8, 8, 8, 8, 8, 8, 8, 8, 8, 8, 8, 8, 8, 8, 8, 8, 8, 8, 8, 8, 8, 8, 8, 8, 8, 8, 8, 8, 8, 8, 8, 8, 8, 8, 8, 8, 8, 8, 8, 8, 8, 8, 8, 8, 8, 8, 8, 8] })) (Go.Operand.tmp 21))) (d := some 22) (v := .int .u8 ((n - 32 : Nat) : Int)) ⟨by kernel_rfl⟩ (fun o w ho => by have z := run_strIndex (P := Try.prog) (l := [(21, .int .u8 ((x / 4294967296 : Nat) : Int)), (19, vI 32), (2, vI 32)]) (x := (Go.Operand.const (Go.Value.string { data := #[0, 1, 2, 2, 3, 3, 3, 3, 4, 4, 4, 4, 4, 4, 4, 4, 5, 5, 5, 5, 5, 5, 5, 5, 5, 5, 5, 5, 5, 5, 5, 5, 6, 6, 6, 6, 6, 6, 6, 6, 6, 6, 6, 6, 6, 6, 6, 6, 6, 6, 6, 6, 6, 6, 6, 6, 6, 6, 6, 6, 6, 6, 6, 6, 7, 7, 7, 7, 7, 7, 7, 7, 7, 7, 7, 7, 7, 7, 7, 7, 7, 7, 7, 7, 7, 7, 7, 7, 7, 7, 7, 7, 7, 7, 7, 7, 7, 7, 7, 7, 7, 7, 7, 7, 7, 7, 7, 7, 7, 7, 7, 7, 7, 7, 7, 7, 7, 7, 7, 7, 7, 7, 7, 7, 7, 7, 7, 7, 8, 8, 8, 8, 8, 8, 8, 8, 8, 8, 8, 8, 8, 8, 8, 8, 8, 8, 8, 8, 8, 8, 8, 8, 8, 8, 8, 8, 8, 8, 8, 8, 8, 8, 8, 8, 8, 8, 8, 8, 8, 8, 8, 8, 8, 8, 8, 8, 8, 8, 8, 8, 8, 8, 8, 8, 8, 8, 8, 8, 8, 8, 8, 8, 8, 8, 8, 8, 8, 8, 8, 8, 8, 8, 8, 8, 8, 8, 8, 8, 8, 8, 8, 8, 8, 8, 8, 8, 8, 8, 8, 8, 8, 8, 8, 8, 8, 8, 8, 8, 8, 8, 8, 8, 8, 8, 8, 8, 8, 8, 8, 8, 8, 8, 8, 8, 8, 8, 8, 8, 8, 8, 8, 8, 8, 8, 8, 8] }))) (y := (Go.Operand.tmp 21)) (s := len8s) (m := x / 4294967296) (by kernel_rfl) rfl rfl rfl (show x / 4294967296 < 256 from hlt) o w ho; rw [len8_str _ hlt, htab] at z; exact z) ?_
    refine oR [oF 4] [(23, vI (IntKind.i64.wrap ((n - 32 : Nat) : Int))), (19, vI 32), (2, vI 32)] [23, 19, 2] (by kernel_rfl) ?_
    refine ops_conv (l' := [(23, vI ((n - 32 : Nat) : Int)), (19, vI 32), (2, vI 32)]) (by rw [hwt]) (fun _ h => h) ?_
    refine oR [oF 5, oF 6] [(2, vI (IntKind.i64.wrap (32 + ((n - 32 : Nat) : Int))))] [2] (by kernel_rfl) ?_
    refine ops_nil ?_
    refine fin_then ?_
    refine st_ret ?_
    refine fin_ret [.tmp 2] [vI (IntKind.i64.wrap (32 + ((n - 32 : Nat) : Int)))] rfl rfl (fun w_ hM => (.tmp rfl .nil)) (fun w_ hM => ?_)
    refine ⟨?_, hM.done⟩
    refine congrArg (fun z => Ending.returned (.int .i64 z)) ?_
    first | omega | (rw [i64in (by omega) (by omega)]; omega)
 · --
  have hk32 := hl.hi (k := 32) (by have := of_decide_eq_false hc1; omega)
  refine st_skip ?_
  refine fin_then ?_
  refine st_seq ?_
  refine st_seq ?_
  refine st_region [oF 0, oF 1] (by rfl) ?_
  refine oR [oF 0, oF 1] [(8, .bool (decide (65536 ≤ (x : Int)))), (2, vI 0), (0, vU (x : Int))] [8, 2, 0] (by kernel_rfl) ?_
  refine ops_nil ?_
  refine fin_then ?_
  refine st_if (b := decide (65536 ≤ (x : Int))) rfl (fun hc5 => ?_) (fun hc5 => ?_)
  · --
   have hk16 := hl.lo (k := 16) (by have := of_decide_eq_true hc5; omega)
   have hl_16 : IsLen (x / 65536) (n - 16) := hl.shift 16 (by omega) (by have := of_decide_eq_true hc5; omega)
   have hs16 : Int.fdiv ((x : Nat) : Int) 65536 = ((x / 65536 : Nat) : Int) := by rw [Int.fdiv_eq_ediv_of_nonneg _ (by decide)]; omega
   refine st_seq ?_
   refine st_region [oF 0, oF 1, oF 2] (by rfl) ?_
   refine oR [oF 0, oF 1] [(10, vU (Int.fdiv (x : Int) 65536)), (2, vI 0), (0, vU (x : Int))] [10, 2, 0] (by kernel_rfl) ?_
   refine ops_conv (l' := [(10, vU ((x / 65536 : Nat) : Int)), (2, vI 0), (0, vU (x : Int))]) (by rw [hs16]) (fun _ h => h) ?_
   refine oR [oF 2] [(0, vU ((x / 65536 : Nat) : Int)), (2, vI 0)] [0, 2] (by kernel_rfl) ?_
   refine ops_nil ?_
   refine fin_then ?_
   refine st_region [oF 0, oF 1, oF 2] (by rfl) ?_
   refine oR [oF 0, oF 1, oF 2] [(2, vI 16), (0, vU ((x / 65536 : Nat) : Int))] [2, 0] (by kernel_rfl) ?_
   refine ops_nil ?_
   refine fin_then ?_
   refine st_seq ?_
   refine st_seq ?_
   refine st_region [oF 0, oF 1] (by rfl) ?_
   refine oR [oF 0, oF 1] [(14, .bool (decide (256 ≤ ((x / 65536 : Nat) : Int)))), (2, vI 16), (0, vU ((x / 65536 : Nat) : Int))] [14, 2, 0] (by kernel_rfl) ?_
   refine ops_nil ?_
   refine fin_then ?_
   refine st_if (b := decide (256 ≤ ((x / 65536 : Nat) : Int))) rfl (fun hc6 => ?_) (fun hc6 => ?_)
   · --
    have hk8 := hl_16.lo (k := 8) (by have := of_decide_eq_true hc6; omega)
    have hl_16_8 : IsLen (x / 65536 / 256) (n - 16 - 8) := hl_16.shift 8 (by omega) (by have := of_decide_eq_true hc6; omega)
    have hs8 : Int.fdiv ((x / 65536 : Nat) : Int) 256 = ((x / 65536 / 256 : Nat) : Int) := by rw [Int.fdiv_eq_ediv_of_nonneg _ (by decide)]; omega
    have hlt : x / 65536 / 256 < 256 := by have := hl_16_8.1; have : 2 ^ (n - 16 - 8) ≤ 2 ^ 8 := Nat.pow_le_pow_right (by decide) (by omega); omega
    have hu8 : IntKind.u8.wrap ((x / 65536 / 256 : Nat) : Int) = ((x / 65536 / 256 : Nat) : Int) := by rw [IntKind.wrap_u8]; omega
    have htab : len8.getD (x / 65536 / 256) 0 = ((n - 16 - 8 : Nat) : Int) := hl_16_8.tab hlt
    have hwt : IntKind.i64.wrap ((n - 16 - 8 : Nat) : Int) = ((n - 16 - 8 : Nat) : Int) := i64in (by omega) (by omega)
    refine st_seq ?_
    refine st_region [oF 0, oF 1, oF 2] (by rfl) ?_
    refine oR [oF 0, oF 1] [(16, vU (Int.fdiv ((x / 65536 : Nat) : Int) 256)), (2, vI 16), (0, vU ((x / 65536 : Nat) : Int))] [16, 2, 0] (by kernel_rfl) ?_
    refine ops_conv (l' := [(16, vU ((x / 65536 / 256 : Nat) : Int)), (2, vI 16), (0, vU ((x / 65536 : Nat) : Int))]) (by rw [hs8]) (fun _ h => h) ?_
    refine oR [oF 2] [(0, vU ((x / 65536 / 256 : Nat) : Int)), (2, vI 16)] [0, 2] (by kernel_rfl) ?_
    refine ops_nil ?_
    refine fin_then ?_
    refine st_region [oF 0, oF 1, oF 2] (by rfl) ?_
    refine oR [oF 0, oF 1, oF 2] [(2, vI 24), (0, vU ((x / 65536 / 256 : Nat) : Int))] [2, 0] (by kernel_rfl) ?_
    refine ops_nil ?_
    refine fin_then ?_
    refine st_seq ?_
    refine st_region [oF 0, oF 1, oF 2, oF 3, oF 4, oF 5, oF 6] (by rfl) ?_
    refine oR [oF 0, oF 1, oF 2] [(21, .int .u8 (IntKind.u8.wrap ((x / 65536 / 256 : Nat) : Int))), (19, vI 24), (2, vI 24)] [21, 19, 2] (by kernel_rfl) ?_
    refine ops_conv (l' := [(21, .int .u8 ((x / 65536 / 256 : Nat) : Int)), (19, vI 24), (2, vI 24)]) (by rw [hu8]) (fun _ h => h) ?_
    refine ops_val (op := (Go.Op.index 9 (Go.Operand.const (Go.Value.string { data := #[0, 1, 2, 2, 3, 3, 3, 3, 4, 4, 4, 4, 4, 4, 4, 4, 5, 5, 5, 5, 5, 5, 5, 5, 5, 5, 5, 5, 5, 5, 5, 5, 6, 6, 6, 6, 6, 6, 6, 6, 6, 6, 6, 6, 6, 6, 6, 6, 6, 6, 6, 6, 6, 6, 6, 6, 6, 6, 6, 6, 6, 6, 6, 6, 7, 7, 7, 7, 7, 7, 7, 7, 7, 7, 7, 7, 7, 7, 7, 7, 7, 7, 7, 7, 7, 7, 7, 7, 7, 7, 7, 7, 7, 7, 7, 7, 7, 7, 7, 7, 7, 7, 7, 7, 7, 7, 7, 7, 7, 7, 7, 7, 7, 7, 7, 7, 7, 7, 7, 7, 7, 7, 7, 7, 7, 7, 7, 7, 8, 8, 8, 8, 8, 8, 8, 8, 8, 8, 8, 8, 8, 8, 8, 8, 8, 8, 8, 8, 8, 8, 8, 8, 8, 8, 8, 8, 8, 8, 8, 8, 8, 8, 8, 8, 8, 8, 8, 8, 8, 8, 8, 8, 8, 8, 8, 8, 8, 8, 8, 8, 8, 8, 8, 8, 8, 8, 8, 8, 8, 8, 8, 8, 8, 8, 8, 8, 8, 8, 8, 8, 8, 8, 8, 8, 8, 8, 8, 8, 8, 8, 8, 8, 8, 8, 8, 8, 8, 8, 8, 8, 8, 8, 8, 8, 8, 8, 8, 8, 8, 8, 8, 8, 8, 8, 8, 8, 8, 8, 8, 8, 8, 8, 8, 8, 8, 8, 8, 8, 8, 8, 8, 8, 8, 8, 8, 8] })) (Go.Operand.tmp 21))) (d := some 22) (v := .int .u8 ((n - 16 - 8 : Nat) : Int)) ⟨by kernel_rfl⟩ (fun o w ho => by have z := run_strIndex (P := Try.prog) (l := [(21, .int .u8 ((x / 65536 / 256 : Nat) : Int)), (19, vI 24), (2, vI 24)]) (x := (Go.Operand.const (Go.Value.string { data := #[0, 1, 2, 2, 3, 3, 3, 3, 4, 4, 4, 4, 4, 4, 4, 4, 5, 5, 5, 5, 5, 5, 5, 5, 5, 5, 5, 5, 5, 5, 5, 5, 6, 6, 6, 6, 6, 6, 6, 6, 6, 6, 6, 6, 6, 6, 6, 6, 6, 6, 6, 6, 6, 6, 6, 6, 6, 6, 6, 6, 6, 6, 6, 6, 7, 7, 7, 7, 7, 7, 7, 7, 7, 7, 7, 7, 7, 7, 7, 7, 7, 7, 7, 7, 7, 7, 7, 7, 7, 7, 7, 7, 7, 7, 7, 7, 7, 7, 7, 7, 7, 7, 7, 7, 7, 7, 7, 7, 7, 7, 7, 7, 7, 7, 7, 7, 7, 7, 7, 7, 7, 7, 7, 7, 7, 7, 7, 7, 8, 8, 8, 8, 8, 8, 8, 8, 8, 8, 8, 8, 8, 8, 8, 8, 8, 8, 8, 8, 8, 8, 8, 8, 8, 8, 8, 8, 8, 8, 8, 8, 8, 8, 8, 8, 8, 8, 8, 8, 8, 8, 8, 8, 8, 8, 8, 8, 8, 8, 8, 8, 8, 8, 8, 8, 8, 8, 8, 8, 8, 8, 8, 8, 8, 8, 8, 8, 8, 8, 8, 8, 8, 8, 8, 8, 8, 8, 8, 8, 8, 8, 8, 8, 8, 8, 8, 8, 8, 8, 8, 8, 8, 8, 8, 8, 8, 8, 8, 8, 8, 8, 8, 8, 8, 8, 8, 8, 8, 8, 8, 8, 8, 8, 8, 8, 8, 8, 8, 8, 8, 8, 8, 8, 8, 8, 8, 8] }))) (y := (Go.Operand.tmp 21)) (s := len8s) (m := x / 65536 / 256) (by kernel_rfl) rfl rfl rfl (show x / 65536 / 256 < 256 from hlt) o w ho; rw [len8_str _ hlt, htab] at z; exact z) ?_
    refine oR [oF 4] [(23, vI (IntKind.i64.wrap ((n - 16 - 8 : Nat) : Int))), (19, vI 24), (2, vI 24)] [23, 19, 2] (by kernel_rfl) ?_
    refine ops_conv (l' := [(23, vI ((n - 16 - 8 : Nat) : Int)), (19, vI 24), (2, vI 24)]) (by rw [hwt]) (fun _ h => h) ?_
    refine oR [oF 5, oF 6] [(2, vI (IntKind.i64.wrap (24 + ((n - 16 - 8 : Nat) : Int))))] [2] (by kernel_rfl) ?_
    refine ops_nil ?_
    refine fin_then ?_
    refine st_ret ?_
    refine fin_ret [.tmp 2] [vI (IntKind.i64.wrap (24 + ((n - 16 - 8 : Nat) : Int)))] rfl rfl (fun w_ hM => (.tmp rfl .nil)) (fun w_ hM => ?_)
    refine ⟨?_, hM.done⟩
    refine congrArg (fun z => Ending.returned (.int .i64 z)) ?_
    first | omega | (rw [i64in (by omega) (by omega)]; omega)
   · --
    have hk8 := hl_16.hi (k := 8) (by have := of_decide_eq_false hc6; omega)
    have hlt : x / 65536 < 256 := by have := of_decide_eq_false hc6; omega
    have hu8 : IntKind.u8.wrap ((x / 65536 : Nat) : Int) = ((x / 65536 : Nat) : Int) := by rw [IntKind.wrap_u8]; omega
    have htab : len8.getD (x / 65536) 0 = ((n - 16 : Nat) : Int) := hl_16.tab hlt
    have hwt : IntKind.i64.wrap ((n - 16 : Nat) : Int) = ((n - 16 : Nat) : Int) := i64in (by omega) (by omega)
    refine st_skip ?_
    refine fin_then ?_
    refine st_seq ?_
    refine st_region [oF 0, oF 1, oF 2, oF 3, oF 4, oF 5, oF 6] (by rfl) ?_
    refine oR [oF 0, oF 1, oF 2] [(21, .int .u8 (IntKind.u8.wrap ((x / 65536 : Nat) : Int))), (19, vI 16), (2, vI 16)] [21, 19, 2] (by kernel_rfl) ?_
    refine ops_conv (l' := [(21, .int .u8 ((x / 65536 : Nat) : Int)), (19, vI 16), (2, vI 16)]) (by rw [hu8]) (fun _ h => h) ?_
    refine ops_val (op := (Go.Op.index 9 (Go.Operand.const (Go.Value.string { data := #[0, 1, 2, 2, 3, 3, 3, 3, 4, 4, 4, 4, 4, 4, 4, 4, 5, 5, 5, 5, 5, 5, 5, 5, 5, 5, 5, 5, 5, 5, 5, 5, 6, 6, 6, 6, 6, 6, 6, 6, 6, 6, 6, 6, 6, 6, 6, 6, 6, 6, 6, 6, 6, 6, 6, 6, 6, 6, 6, 6, 6, 6, 6, 6, 7, 7, 7, 7, 7, 7, 7, 7, 7, 7, 7, 7, 7, 7, 7, 7, 7, 7, 7, 7, 7, 7, 7, 7, 7, 7, 7, 7, 7, 7, 7, 7, 7, 7, 7, 7, 7, 7, 7, 7, 7, 7, 7, 7, 7, 7, 7, 7, 7, 7, 7, 7, 7, 7, 7, 7, 7, 7, 7, 7, 7, 7, 7, 7, 8, 8, 8, 8, 8, 8, 8, 8, 8, 8, 8, 8, 8, 8, 8, 8, 8, 8, 8, 8, 8, 8, 8, 8, 8, 8, 8, 8, 8, 8, 8, 8, 8, 8, 8, 8, 8, 8, 8, 8, 8, 8, 8, 8, 8, 8, 8, 8, 8, 8, 8, 8, 8, 8, 8, 8, 8, 8, 8, 8, 8, 8, 8, 8, 8, 8, 8, 8, 8, 8, 8, 8, 8, 8, 8, 8, 8, 8, 8, 8, 8, 8, 8, 8, 8, 8, 8, 8, 8, 8, 8, 8, 8, 8, 8, 8, 8, 8, 8, 8, 8, 8, 8, 8, 8, 8, 8, 8, 8, 8, 8, 8, 8, 8, 8, 8, 8, 8, 8, 8, 8, 8, 8, 8, 8, 8, 8, 8] })) (Go.Operand.tmp 21))) (d := some 22) (v := .int .u8 ((n - 16 : Nat) : Int)) ⟨by kernel_rfl⟩ (fun o w ho => by have z := run_strIndex (P := Try.prog) (l := [(21, .int .u8 ((x / 65536 : Nat) : Int)), (19, vI 16), (2, vI 16)]) (x := (Go.Operand.const (Go.Value.string { data := #[0, 1, 2, 2, 3, 3, 3, 3, 4, 4, 4, 4, 4, 4, 4, 4, 5, 5, 5, 5, 5, 5, 5, 5, 5, 5, 5, 5, 5, 5, 5, 5, 6, 6, 6, 6, 6, 6, 6, 6, 6, 6, 6, 6, 6, 6, 6, 6, 6, 6, 6, 6, 6, 6, 6, 6, 6, 6, 6, 6, 6, 6, 6, 6, 7, 7, 7, 7, 7, 7, 7, 7, 7, 7, 7, 7, 7, 7, 7, 7, 7, 7, 7, 7, 7, 7, 7, 7, 7, 7, 7, 7, 7, 7, 7, 7, 7, 7, 7, 7, 7, 7, 7, 7, 7, 7, 7, 7, 7, 7, 7, 7, 7, 7, 7, 7, 7, 7, 7, 7, 7, 7, 7, 7, 7, 7, 7, 7, 8, 8, 8, 8, 8, 8, 8, 8, 8, 8, 8, 8, 8, 8, 8, 8, 8, 8, 8, 8, 8, 8, 8, 8, 8, 8, 8, 8, 8, 8, 8, 8, 8, 8, 8, 8, 8, 8, 8, 8, 8, 8, 8, 8, 8, 8, 8, 8, 8, 8, 8, 8, 8, 8, 8, 8, 8, 8, 8, 8, 8, 8, 8, 8, 8, 8, 8, 8, 8, 8, 8, 8, 8, 8, 8, 8, 8, 8, 8, 8, 8, 8, 8, 8, 8, 8, 8, 8, 8, 8, 8, 8, 8, 8, 8, 8, 8, 8, 8, 8, 8, 8, 8, 8, 8, 8, 8, 8, 8, 8, 8, 8, 8, 8, 8, 8, 8, 8, 8, 8, 8, 8, 8, 8, 8, 8, 8, 8] }))) (y := (Go.Operand.tmp 21)) (s := len8s) (m := x / 65536) (by kernel_rfl) rfl rfl rfl (show x / 65536 < 256 from hlt) o w ho; rw [len8_str _ hlt, htab] at z; exact z) ?_
    refine oR [oF 4] [(23, vI (IntKind.i64.wrap ((n - 16 : Nat) : Int))), (19, vI 16), (2, vI 16)] [23, 19, 2] (by kernel_rfl) ?_
    refine ops_conv (l' := [(23, vI ((n - 16 : Nat) : Int)), (19, vI 16), (2, vI 16)]) (by rw [hwt]) (fun _ h => h) ?_
    refine oR [oF 5, oF 6] [(2, vI (IntKind.i64.wrap (16 + ((n - 16 : Nat) : Int))))] [2] (by kernel_rfl) ?_
    refine ops_nil ?_
    refine fin_then ?_
    refine st_ret ?_
    refine fin_ret [.tmp 2] [vI (IntKind.i64.wrap (16 + ((n - 16 : Nat) : Int)))] rfl rfl (fun w_ hM => (.tmp rfl .nil)) (fun w_ hM => ?_)
    refine ⟨?_, hM.done⟩
    refine congrArg (fun z => Ending.returned (.int .i64 z)) ?_
    first | omega | (rw [i64in (by omega) (by omega)]; omega)
  · --
   have hk16 := hl.hi (k := 16) (by have := of_decide_eq_false hc5; omega)
   refine st_skip ?_
   refine fin_then ?_
   refine st_seq ?_
   refine st_seq ?_
   refine st_region [oF 0, oF 1] (by rfl) ?_
   refine oR [oF 0, oF 1] [(14, .bool (decide (256 ≤ (x : Int)))), (2, vI 0), (0, vU (x : Int))] [14, 2, 0] (by kernel_rfl) ?_
   refine ops_nil ?_
   refine fin_then ?_
   refine st_if (b := decide (256 ≤ (x : Int))) rfl (fun hc7 => ?_) (fun hc7 => ?_)
   · --
    have hk8 := hl.lo (k := 8) (by have := of_decide_eq_true hc7; omega)
    have hl_8 : IsLen (x / 256) (n - 8) := hl.shift 8 (by omega) (by have := of_decide_eq_true hc7; omega)
    have hs8 : Int.fdiv ((x : Nat) : Int) 256 = ((x / 256 : Nat) : Int) := by rw [Int.fdiv_eq_ediv_of_nonneg _ (by decide)]; omega
    have hlt : x / 256 < 256 := by have := hl_8.1; have : 2 ^ (n - 8) ≤ 2 ^ 8 := Nat.pow_le_pow_right (by decide) (by omega); omega
    have hu8 : IntKind.u8.wrap ((x / 256 : Nat) : Int) = ((x / 256 : Nat) : Int) := by rw [IntKind.wrap_u8]; omega
    have htab : len8.getD (x / 256) 0 = ((n - 8 : Nat) : Int) := hl_8.tab hlt
    have hwt : IntKind.i64.wrap ((n - 8 : Nat) : Int) = ((n - 8 : Nat) : Int) := i64in (by omega) (by omega)
    refine st_seq ?_
    refine st_region [oF 0, oF 1, oF 2] (by rfl) ?_
    refine oR [oF 0, oF 1] [(16, vU (Int.fdiv (x : Int) 256)), (2, vI 0), (0, vU (x : Int))] [16, 2, 0] (by kernel_rfl) ?_
    refine ops_conv (l' := [(16, vU ((x / 256 : Nat) : Int)), (2, vI 0), (0, vU (x : Int))]) (by rw [hs8]) (fun _ h => h) ?_
    refine oR [oF 2] [(0, vU ((x / 256 : Nat) : Int)), (2, vI 0)] [0, 2] (by kernel_rfl) ?_
    refine ops_nil ?_
    refine fin_then ?_
    refine st_region [oF 0, oF 1, oF 2] (by rfl) ?_
    refine oR [oF 0, oF 1, oF 2] [(2, vI 8), (0, vU ((x / 256 : Nat) : Int))] [2, 0] (by kernel_rfl) ?_
    refine ops_nil ?_
    refine fin_then ?_
    refine st_seq ?_
    refine st_region [oF 0, oF 1, oF 2, oF 3, oF 4, oF 5, oF 6] (by rfl) ?_
    refine oR [oF 0, oF 1, oF 2] [(21, .int .u8 (IntKind.u8.wrap ((x / 256 : Nat) : Int))), (19, vI 8), (2, vI 8)] [21, 19, 2] (by kernel_rfl) ?_
    refine ops_conv (l' := [(21, .int .u8 ((x / 256 : Nat) : Int)), (19, vI 8), (2, vI 8)]) (by rw [hu8]) (fun _ h => h) ?_
    refine ops_val (op := (Go.Op.index 9 (Go.Operand.const (Go.Value.string { data := #[0, 1, 2, 2, 3, 3, 3, 3, 4, 4, 4, 4, 4, 4, 4, 4, 5, 5, 5, 5, 5, 5, 5, 5, 5, 5, 5, 5, 5, 5, 5, 5, 6, 6, 6, 6, 6, 6, 6, 6, 6, 6, 6, 6, 6, 6, 6, 6, 6, 6, 6, 6, 6, 6, 6, 6, 6, 6, 6, 6, 6, 6, 6, 6, 7, 7, 7, 7, 7, 7, 7, 7, 7, 7, 7, 7, 7, 7, 7, 7, 7, 7, 7, 7, 7, 7, 7, 7, 7, 7, 7, 7, 7, 7, 7, 7, 7, 7, 7, 7, 7, 7, 7, 7, 7, 7, 7, 7, 7, 7, 7, 7, 7, 7, 7, 7, 7, 7, 7, 7, 7, 7, 7, 7, 7, 7, 7, 7, 8, 8, 8, 8, 8, 8, 8, 8, 8, 8, 8, 8, 8, 8, 8, 8, 8, 8, 8, 8, 8, 8, 8, 8, 8, 8, 8, 8, 8, 8, 8, 8, 8, 8, 8, 8, 8, 8, 8, 8, 8, 8, 8, 8, 8, 8, 8, 8, 8, 8, 8, 8, 8, 8, 8, 8, 8, 8, 8, 8, 8, 8, 8, 8, 8, 8, 8, 8, 8, 8, 8, 8, 8, 8, 8, 8, 8, 8, 8, 8, 8, 8, 8, 8, 8, 8, 8, 8, 8, 8, 8, 8, 8, 8, 8, 8, 8, 8, 8, 8, 8, 8, 8, 8, 8, 8, 8, 8, 8, 8, 8, 8, 8, 8, 8, 8, 8, 8, 8, 8, 8, 8, 8, 8, 8, 8, 8, 8] })) (Go.Operand.tmp 21))) (d := some 22) (v := .int .u8 ((n - 8 : Nat) : Int)) ⟨by kernel_rfl⟩ (fun o w ho => by have z := run_strIndex (P := Try.prog) (l := [(21, .int .u8 ((x / 256 : Nat) : Int)), (19, vI 8), (2, vI 8)]) (x := (Go.Operand.const (Go.Value.string { data := #[0, 1, 2, 2, 3, 3, 3, 3, 4, 4, 4, 4, 4, 4, 4, 4, 5, 5, 5, 5, 5, 5, 5, 5, 5, 5, 5, 5, 5, 5, 5, 5, 6, 6, 6, 6, 6, 6, 6, 6, 6, 6, 6, 6, 6, 6, 6, 6, 6, 6, 6, 6, 6, 6, 6, 6, 6, 6, 6, 6, 6, 6, 6, 6, 7, 7, 7, 7, 7, 7, 7, 7, 7, 7, 7, 7, 7, 7, 7, 7, 7, 7, 7, 7, 7, 7, 7, 7, 7, 7, 7, 7, 7, 7, 7, 7, 7, 7, 7, 7, 7, 7, 7, 7, 7, 7, 7, 7, 7, 7, 7, 7, 7, 7, 7, 7, 7, 7, 7, 7, 7, 7, 7, 7, 7, 7, 7, 7, 8, 8, 8, 8, 8, 8, 8, 8, 8, 8, 8, 8, 8, 8, 8, 8, 8, 8, 8, 8, 8, 8, 8, 8, 8, 8, 8, 8, 8, 8, 8, 8, 8, 8, 8, 8, 8, 8, 8, 8, 8, 8, 8, 8, 8, 8, 8, 8, 8, 8, 8, 8, 8, 8, 8, 8, 8, 8, 8, 8, 8, 8, 8, 8, 8, 8, 8, 8, 8, 8, 8, 8, 8, 8, 8, 8, 8, 8, 8, 8, 8, 8, 8, 8, 8, 8, 8, 8, 8, 8, 8, 8, 8, 8, 8, 8, 8, 8, 8, 8, 8, 8, 8, 8, 8, 8, 8, 8, 8, 8, 8, 8, 8, 8, 8, 8, 8, 8, 8, 8, 8, 8, 8, 8, 8, 8, 8, 8] }))) (y := (Go.Operand.tmp 21)) (s := len8s) (m := x / 256) (by kernel_rfl) rfl rfl rfl (show x / 256 < 256 from hlt) o w ho; rw [len8_str _ hlt, htab] at z; exact z) ?_
    refine oR [oF 4] [(23, vI (IntKind.i64.wrap ((n - 8 : Nat) : Int))), (19, vI 8), (2, vI 8)] [23, 19, 2] (by kernel_rfl) ?_
    refine ops_conv (l' := [(23, vI ((n - 8 : Nat) : Int)), (19, vI 8), (2, vI 8)]) (by rw [hwt]) (fun _ h => h) ?_
    refine oR [oF 5, oF 6] [(2, vI (IntKind.i64.wrap (8 + ((n - 8 : Nat) : Int))))] [2] (by kernel_rfl) ?_
    refine ops_nil ?_
    refine fin_then ?_
    refine st_ret ?_
    refine fin_ret [.tmp 2] [vI (IntKind.i64.wrap (8 + ((n - 8 : Nat) : Int)))] rfl rfl (fun w_ hM => (.tmp rfl .nil)) (fun w_ hM => ?_)
    refine ⟨?_, hM.done⟩
    refine congrArg (fun z => Ending.returned (.int .i64 z)) ?_
    first | omega | (rw [i64in (by omega) (by omega)]; omega)
   · --
    have hk8 := hl.hi (k := 8) (by have := of_decide_eq_false hc7; omega)
    have hlt : x < 256 := by have := of_decide_eq_false hc7; omega
    have hu8 : IntKind.u8.wrap ((x : Nat) : Int) = ((x : Nat) : Int) := by rw [IntKind.wrap_u8]; omega
    have htab : len8.getD (x) 0 = ((n : Nat) : Int) := hl.tab hlt
    have hwt : IntKind.i64.wrap ((n : Nat) : Int) = ((n : Nat) : Int) := i64in (by omega) (by omega)
    refine st_skip ?_
    refine fin_then ?_
    refine st_seq ?_
    refine st_region [oF 0, oF 1, oF 2, oF 3, oF 4, oF 5, oF 6] (by rfl) ?_
    refine oR [oF 0, oF 1, oF 2] [(21, .int .u8 (IntKind.u8.wrap (x : Int))), (19, vI 0), (2, vI 0)] [21, 19, 2] (by kernel_rfl) ?_
    refine ops_conv (l' := [(21, .int .u8 (x : Int)), (19, vI 0), (2, vI 0)]) (by rw [hu8]) (fun _ h => h) ?_
    refine ops_val (op := (Go.Op.index 9 (Go.Operand.const (Go.Value.string { data := #[0, 1, 2, 2, 3, 3, 3, 3, 4, 4, 4, 4, 4, 4, 4, 4, 5, 5, 5, 5, 5, 5, 5, 5, 5, 5, 5, 5, 5, 5, 5, 5, 6, 6, 6, 6, 6, 6, 6, 6, 6, 6, 6, 6, 6, 6, 6, 6, 6, 6, 6, 6, 6, 6, 6, 6, 6, 6, 6, 6, 6, 6, 6, 6, 7, 7, 7, 7, 7, 7, 7, 7, 7, 7, 7, 7, 7, 7, 7, 7, 7, 7, 7, 7, 7, 7, 7, 7, 7, 7, 7, 7, 7, 7, 7, 7, 7, 7, 7, 7, 7, 7, 7, 7, 7, 7, 7, 7, 7, 7, 7, 7, 7, 7, 7, 7, 7, 7, 7, 7, 7, 7, 7, 7, 7, 7, 7, 7, 8, 8, 8, 8, 8, 8, 8, 8, 8, 8, 8, 8, 8, 8, 8, 8, 8, 8, 8, 8, 8, 8, 8, 8, 8, 8, 8, 8, 8, 8, 8, 8, 8, 8, 8, 8, 8, 8, 8, 8, 8, 8, 8, 8, 8, 8, 8, 8, 8, 8, 8, 8, 8, 8, 8, 8, 8, 8, 8, 8, 8, 8, 8, 8, 8, 8, 8, 8, 8, 8, 8, 8, 8, 8, 8, 8, 8, 8, 8, 8, 8, 8, 8, 8, 8, 8, 8, 8, 8, 8, 8, 8, 8, 8, 8, 8, 8, 8, 8, 8, 8, 8, 8, 8, 8, 8, 8, 8, 8, 8, 8, 8, 8, 8, 8, 8, 8, 8, 8, 8, 8, 8, 8, 8, 8, 8, 8, 8] })) (Go.Operand.tmp 21))) (d := some 22) (v := .int .u8 ((n : Nat) : Int)) ⟨by kernel_rfl⟩ (fun o w ho => by have z := run_strIndex (P := Try.prog) (l := [(21, .int .u8 (x : Int)), (19, vI 0), (2, vI 0)]) (x := (Go.Operand.const (Go.Value.string { data := #[0, 1, 2, 2, 3, 3, 3, 3, 4, 4, 4, 4, 4, 4, 4, 4, 5, 5, 5, 5, 5, 5, 5, 5, 5, 5, 5, 5, 5, 5, 5, 5, 6, 6, 6, 6, 6, 6, 6, 6, 6, 6, 6, 6, 6, 6, 6, 6, 6, 6, 6, 6, 6, 6, 6, 6, 6, 6, 6, 6, 6, 6, 6, 6, 7, 7, 7, 7, 7, 7, 7, 7, 7, 7, 7, 7, 7, 7, 7, 7, 7, 7, 7, 7, 7, 7, 7, 7, 7, 7, 7, 7, 7, 7, 7, 7, 7, 7, 7, 7, 7, 7, 7, 7, 7, 7, 7, 7, 7, 7, 7, 7, 7, 7, 7, 7, 7, 7, 7, 7, 7, 7, 7, 7, 7, 7, 7, 7, 8, 8, 8, 8, 8, 8, 8, 8, 8, 8, 8, 8, 8, 8, 8, 8, 8, 8, 8, 8, 8, 8, 8, 8, 8, 8, 8, 8, 8, 8, 8, 8, 8, 8, 8, 8, 8, 8, 8, 8, 8, 8, 8, 8, 8, 8, 8, 8, 8, 8, 8, 8, 8, 8, 8, 8, 8, 8, 8, 8, 8, 8, 8, 8, 8, 8, 8, 8, 8, 8, 8, 8, 8, 8, 8, 8, 8, 8, 8, 8, 8, 8, 8, 8, 8, 8, 8, 8, 8, 8, 8, 8, 8, 8, 8, 8, 8, 8, 8, 8, 8, 8, 8, 8, 8, 8, 8, 8, 8, 8, 8, 8, 8, 8, 8, 8, 8, 8, 8, 8, 8, 8, 8, 8, 8, 8, 8, 8] }))) (y := (Go.Operand.tmp 21)) (s := len8s) (m := x) (by kernel_rfl) rfl rfl rfl (show x < 256 from hlt) o w ho; rw [len8_str _ hlt, htab] at z; exact z) ?_
    refine oR [oF 4] [(23, vI (IntKind.i64.wrap ((n : Nat) : Int))), (19, vI 0), (2, vI 0)] [23, 19, 2] (by kernel_rfl) ?_
    refine ops_conv (l' := [(23, vI ((n : Nat) : Int)), (19, vI 0), (2, vI 0)]) (by rw [hwt]) (fun _ h => h) ?_
    refine oR [oF 5, oF 6] [(2, vI (IntKind.i64.wrap (0 + ((n : Nat) : Int))))] [2] (by kernel_rfl) ?_
    refine ops_nil ?_
    refine fin_then ?_
    refine st_ret ?_
    refine fin_ret [.tmp 2] [vI (IntKind.i64.wrap (0 + ((n : Nat) : Int)))] rfl rfl (fun w_ hM => (.tmp rfl .nil)) (fun w_ hM => ?_)
    refine ⟨?_, hM.done⟩
    refine congrArg (fun z => Ending.returned (.int .i64 z)) ?_
    first | omega | (rw [i64in (by omega) (by omega)]; omega)
set_option maxHeartbeats 4000000 in
set_option maxRecDepth 100000 in
theorem LeadingZeros64_calls (x n z : Nat) (w : World) (hl : IsLen x n) (hx : x < 18446744073709551616) (hz : n + z = 64) : Calls Try.prog 125 #[vU (x : Int)] w fun e w' => e = .returned (vI (z : Int)) ∧ Below w.heap.size w w' := by
 have hzz : IntKind.i64.wrap (64 - (n : Int)) = (z : Int) := by rw [i64in (by omega) (by omega)]; omega
 refine sx_calls Try.func125 rfl (n := 6) (by kernel_rfl) (l := [(0, vU (x : Int))]) rfl (by rfl) (Mem.nil w) ?_
 refine st_seq ?_
 refine st_region [oF 0] (by rfl) ?_
 refine oR [oF 0] [(0, vU (x : Int))] [0] (by kernel_rfl) ?_
 refine ops_nil ?_
 refine fin_then ?_
 refine st_seq ?_
 refine st_region [oF 0, oF 1, oF 2, oF 3] (by rfl) ?_
 refine oR [oF 0] [(3, vU (x : Int))] [3] (by kernel_rfl) ?_
 refine oC (some 4) 138 #[vU (x : Int)] (vI (n : Int)) ⟨by kernel_rfl⟩ (fun w_ hM => Len64_calls x n w_ hl hx) ?_
 refine oR [oF 2] [(5, vI (IntKind.i64.wrap (64 - (n : Int))))] [5] (by kernel_rfl) ?_
 refine ops_conv (l' := [(5, vI (z : Int))]) (by rw [hzz]) (fun _ h => h) ?_
 refine oR [oF 3] [(2, vI (z : Int))] [2] (by kernel_rfl) ?_
 refine ops_nil ?_
 refine fin_then ?_
 refine st_ret ?_
 refine fin_ret [.tmp 2] [vI (z : Int)] rfl rfl (fun w_ hM => (.tmp rfl .nil)) (fun w_ hM => ?_)
 refine ⟨?_, hM.done⟩
 rfl
set_option maxHeartbeats 4000000 in
set_option maxRecDepth 100000 in
theorem Div64_0 (hi lo : Int) (d n s : Nat) (y y1 y0 U u10 u1 u0 Q1 R1 Q0 R0 qq rr : Int) (w : World) (hn : IsLen d n) (hns : n + s = 64) (hd0 : 0 < d) (hd1 : (d : Int) < 18446744073709551616) (hhi0 : 0 ≤ hi) (hhi : hi < d) (hlo0 : 0 ≤ lo) (hlo : lo < 18446744073709551616) (hy : (d : Int) * 2 ^ s = y) (hyh : y < 18446744073709551616) (hy1 : y / 4294967296 = y1) (hy0 : y % 4294967296 = y0) (hyb : 2147483648 ≤ y1) (hwh0 : 0 ≤ hi * 2 ^ s) (hwh1 : hi * 2 ^ s < 18446744073709551616) (hor : Go.bits .or .u64 (hi * 2 ^ s) (lo / 2 ^ (64 - s)) = U) (hU0 : 0 ≤ U) (hUlt : U < y) (hu10 : lo * 2 ^ s % 18446744073709551616 = u10) (hu1 : u10 / 4294967296 = u1) (hu0 : u10 % 4294967296 = u0) (hQ1 : (U * 4294967296 + u1) / y = Q1) (hR1 : U * 4294967296 + u1 - Q1 * y = R1) (hR10 : 0 ≤ R1) (hR11 : R1 < y) (hQ0 : (R1 * 4294967296 + u0) / y = Q0) (hR0 : R1 * 4294967296 + u0 - Q0 * y = R0) (hR00 : 0 ≤ R0) (hR01 : R0 < y) (hqq : Q1 * 4294967296 + Q0 = qq) (hrr : R0 / 2 ^ s = rr) (hz : hi = 0 → lo / d = qq ∧ lo % d = rr) : Calls Try.prog 95 #[vU hi, vU lo, vU (d : Int)] w fun e w' => e = .returned (.tuple #[vU qq, vU rr]) ∧ Below w.heap.size w w' := by
 have hyy : y = y1 * 4294967296 + y0 := by omega
 have hy00 : 0 ≤ y0 := by omega
 have hy01 : y0 < 4294967296 := by omega
 have hypos : 0 < y := by omega
 have hu10a : 0 ≤ u1 := by omega
 have hu11 : u1 < 4294967296 := by omega
 have hu00 : 0 ≤ u0 := by omega
 have hu01 : u0 < 4294967296 := by omega
 have hs63 : s ≤ 63 := by have := hn.lo (k := 0) (by omega); omega
 have hmn : min (s : Int).toNat 64 = s := by omega
 have hmn2 : min (64 - (s : Int)).toNat 64 = 64 - s := by omega
 have hp2 : (0 : Int) < 2 ^ s := Int.pow_pos (by decide)
 have hp3 : (0 : Int) < 2 ^ (64 - s) := Int.pow_pos (by decide)
 have hws : IntKind.u64.wrap (s : Int) = (s : Int) := w64_in (by omega) (by omega)
 have hwy : IntKind.u64.wrap ((d : Int) * 2 ^ min (s : Int).toNat 64) = y := by rw [hmn, hy]; exact w64_in (by omega) (by omega)
 have hwy1 : Int.fdiv y 4294967296 = y1 := by rw [Int.fdiv_eq_ediv_of_nonneg _ (by decide)]; exact hy1
 have hwy0 : Go.bits .and .u64 y 4294967295 = y0 := by rw [and_low32 y (by omega) (by omega)]; exact hy0
 have hwh : IntKind.u64.wrap (hi * 2 ^ min (s : Int).toNat 64) = hi * 2 ^ s := by rw [hmn]; exact w64_in (by omega) (by omega)
 have hw64 : IntKind.u64.wrap (64 - (s : Int)) = 64 - (s : Int) := w64_in (by omega) (by omega)
 have hwl : Int.fdiv lo (2 ^ min (64 - (s : Int)).toNat 64) = lo / 2 ^ (64 - s) := by rw [hmn2, Int.fdiv_eq_ediv_of_nonneg _ (Int.le_of_lt hp3)]
 have hw10 : IntKind.u64.wrap (lo * 2 ^ min (s : Int).toNat 64) = u10 := by rw [hmn, ← hu10]; exact w64 _
 have hwu1 : Int.fdiv u10 4294967296 = u1 := by rw [Int.fdiv_eq_ediv_of_nonneg _ (by decide)]; exact hu1
 have hwu0 : Go.bits .and .u64 u10 4294967295 = u0 := by rw [and_low32 u10 (by omega) (by omega)]; exact hu0
 obtain ⟨hi1, hi2, hi3, hi4⟩ := dig_init (U := U) (u1 := u1) hyy hyb hy00 hy01 hU0 hUlt hu10a hu11
 obtain ⟨hj1, hj2, hj3, hj4⟩ := dig_init (U := R1) (u1 := u0) hyy hyb hy00 hy01 hR10 hR11 hu00 hu01
 have hie := hi1.eq
 have hje := hj1.eq
 have hil := hi1.lo
 have hjl := hj1.lo
 have hdr1 := dig_range hU0 hUlt hu10a hu11
 have hdr2 := dig_range hR10 hR11 hu00 hu01
 rw [hQ1] at hdr1
 rw [hQ0] at hdr2
 have hnn1 : 0 ≤ U / y1 * y1 := Int.mul_nonneg hi3 (by omega)
 have hnn2 : 0 ≤ R1 / y1 * y1 := Int.mul_nonneg hj3 (by omega)
 have hwq : IntKind.u64.wrap (Int.tdiv U y1) = U / y1 := by rw [Int.tdiv_eq_ediv_of_nonneg hU0]; exact w64_in hi3 (by omega)
 have hwm : IntKind.u64.wrap (U / y1 * y1) = U / y1 * y1 := w64_in (by omega) (by omega)
 have hwr : IntKind.u64.wrap (U - U / y1 * y1) = U % y1 := by rw [show U - U / y1 * y1 = U % y1 by omega]; exact w64_in (by omega) (by omega)
 have hwq2 : IntKind.u64.wrap (Int.tdiv R1 y1) = R1 / y1 := by rw [Int.tdiv_eq_ediv_of_nonneg hR10]; exact w64_in hj3 (by omega)
 have hwm2 : IntKind.u64.wrap (R1 / y1 * y1) = R1 / y1 * y1 := w64_in (by omega) (by omega)
 have hwr2 : IntKind.u64.wrap (R1 - R1 / y1 * y1) = R1 % y1 := by rw [show R1 - R1 / y1 * y1 = R1 % y1 by omega]; exact w64_in (by omega) (by omega)
 have hwR1 : IntKind.u64.wrap (IntKind.u64.wrap (IntKind.u64.wrap (U * 4294967296) + u1) - IntKind.u64.wrap (Q1 * y)) = R1 := by rw [w64, w64, w64, w64]; omega
 have hwR0 : IntKind.u64.wrap (IntKind.u64.wrap (IntKind.u64.wrap (R1 * 4294967296) + u0) - IntKind.u64.wrap (Q0 * y)) = R0 := by rw [w64, w64, w64, w64]; omega
 have hwQB : IntKind.u64.wrap (Q1 * 4294967296) = Q1 * 4294967296 := w64_in (by omega) (by omega)
 have hwqq : IntKind.u64.wrap (Q1 * 4294967296 + Q0) = qq := by rw [hqq]; exact w64_in (by omega) (by omega)
 have hwrr : Int.fdiv R0 (2 ^ min (s : Int).toNat 64) = rr := by rw [hmn, Int.fdiv_eq_ediv_of_nonneg _ (Int.le_of_lt hp2)]; exact hrr
 refine sx_calls Try.func95 rfl (n := 135) (by kernel_rfl) (l := [(0, vU hi), (1, vU lo), (2, vU (d : Int))]) rfl (by rfl) (Mem.nil w) ?_
 refine st_seq ?_
 refine st_region [oF 0, oF 1] (by rfl) ?_
 refine oR [oF 0, oF 1] [(0, vU hi), (1, vU lo), (2, vU (d : Int))] [0, 1, 2] (by kernel_rfl) ?_
 refine ops_nil ?_
 refine fin_then ?_
 refine st_seq ?_
 refine st_seq ?_
 refine st_region [oF 0, oF 1] (by rfl) ?_
 refine oR [oF 0, oF 1] [(20, .bool ((d : Int) == 0)), (0, vU hi), (1, vU lo), (2, vU (d : Int))] [20, 0, 1, 2] (by kernel_rfl) ?_
 refine ops_nil ?_
 refine fin_then ?_
 refine st_conv (l' := [(20, .bool false), (0, vU hi), (1, vU lo), (2, vU (d : Int))]) (by rw [(show ((d : Int) == 0) = false by simp; omega)]) (fun _ h => h) ?_
 refine st_false rfl ?_
 refine st_skip ?_
 refine fin_then ?_
 refine st_seq ?_
 refine st_seq ?_
 refine st_region [oF 0, oF 1, oF 2] (by rfl) ?_
 refine oR [oF 0, oF 1, oF 2] [(24, .bool (decide ((d : Int) ≤ hi))), (0, vU hi), (1, vU lo), (2, vU (d : Int))] [24, 0, 1, 2] (by kernel_rfl) ?_
 refine ops_nil ?_
 refine fin_then ?_
 refine st_conv (l' := [(24, .bool false), (0, vU hi), (1, vU lo), (2, vU (d : Int))]) (by rw [(show decide ((d : Int) ≤ hi) = false by simp; omega)]) (fun _ h => h) ?_
 refine st_false rfl ?_
 refine st_skip ?_
 refine fin_then ?_
 refine st_seq ?_
 refine st_seq ?_
 refine st_region [oF 0, oF 1] (by rfl) ?_
 refine oR [oF 0, oF 1] [(27, .bool (hi == 0)), (0, vU hi), (1, vU lo), (2, vU (d : Int))] [27, 0, 1, 2] (by kernel_rfl) ?_
 refine ops_nil ?_
 refine fin_then ?_
 refine st_if (b := (hi == 0)) rfl (fun hc1 => ?_) (fun hc1 => ?_)
 · --
  refine st_seq ?_
  refine st_region_draw [oT 0, oT 1, oT 2, oT 3, oT 4, oT 5, oT 6, oT 7] (Mem w []) (by kernel_rfl) (by kernel_rfl) (by kernel_rfl) (fun _ d _ _ _ h => by cases d <;> exact h) (M' := Mem w []) (fun w_ hM => ⟨hM.drew, hM.drew.sub .slnil⟩) ?_
  refine oR [oT 0, oT 1] [(29, vU (d : Int)), (28, vU lo), (1, vU lo), (2, vU (d : Int))] [29, 28, 1, 2] (by kernel_rfl) ?_
  refine ops_val (op := (Go.Op.binOp Go.BinOp.quo 53 (Go.Operand.tmp 28) (Go.Operand.tmp 29) 53)) (d := some 30) (v := vU (IntKind.u64.wrap (Int.tdiv lo (d : Int)))) ⟨by kernel_rfl⟩ (run_quo rfl rfl (by omega)) ?_
  refine oR [oT 3, oT 4] [(32, vU (d : Int)), (31, vU lo), (30, vU (IntKind.u64.wrap (Int.tdiv lo (d : Int))))] [32, 31, 30] (by kernel_rfl) ?_
  refine ops_val (op := (Go.Op.binOp Go.BinOp.rem 53 (Go.Operand.tmp 31) (Go.Operand.tmp 32) 53)) (d := some 33) (v := vU (Int.tmod lo (d : Int))) ⟨by kernel_rfl⟩ (run_rem rfl rfl (by omega)) ?_
  refine oR [oT 6, oT 7] [(7, vU (Int.tmod lo (d : Int))), (6, vU (IntKind.u64.wrap (Int.tdiv lo (d : Int))))] [7, 6] (by kernel_rfl) ?_
  refine ops_nil ?_
  refine fin_then ?_
  refine st_ret ?_
  refine fin_ret_then ?_
  refine fin_ret [.tmp 6, .tmp 7] [vU (IntKind.u64.wrap (Int.tdiv lo (d : Int))), vU (Int.tmod lo (d : Int))] rfl rfl (fun w_ hM => (.tmp rfl (.tmp rfl .nil))) (fun w_ hM => ?_)
  have hz' := hz (beq_iff_eq.1 hc1)
  refine ⟨?_, hM.done⟩
  rw [w64_in (x := Int.tdiv lo (d : Int)) (by rw [Int.tdiv_eq_ediv_of_nonneg hlo0]; exact Int.ediv_nonneg hlo0 (by omega)) (by rw [Int.tdiv_eq_ediv_of_nonneg hlo0]; exact Int.lt_of_le_of_lt (Int.ediv_le_self _ hlo0) hlo), Int.tdiv_eq_ediv_of_nonneg hlo0, Int.tmod_eq_emod_of_nonneg hlo0, hz'.1, hz'.2]
  rfl
 · --
  refine st_skip ?_
  refine fin_then ?_
  refine st_seq ?_
  refine st_region [oF 0, oF 1, oF 2, oF 3] (by rfl) ?_
  refine oR [oF 0] [(34, vU (d : Int)), (0, vU hi), (1, vU lo), (2, vU (d : Int))] [34, 0, 1, 2] (by kernel_rfl) ?_
  refine oC (some 35) 125 #[vU (d : Int)] (vI (s : Int)) ⟨by kernel_rfl⟩ (fun w_ hM => LeadingZeros64_calls d n s w_ hn (by omega) hns) ?_
  refine oR [oF 2] [(36, vU (IntKind.u64.wrap (s : Int))), (0, vU hi), (1, vU lo), (2, vU (d : Int))] [36, 0, 1, 2] (by kernel_rfl) ?_
  refine ops_conv (l' := [(36, vU (s : Int)), (0, vU hi), (1, vU lo), (2, vU (d : Int))]) (by rw [hws]) (fun _ h => h) ?_
  refine oR [oF 3] [(8, vU (s : Int)), (0, vU hi), (1, vU lo), (2, vU (d : Int))] [8, 0, 1, 2] (by kernel_rfl) ?_
  refine ops_nil ?_
  refine fin_then ?_
  refine st_seq ?_
  refine st_region [oF 0, oF 1, oF 2, oF 3] (by rfl) ?_
  refine oR [oF 0, oF 1] [(38, vU (s : Int)), (37, vU (d : Int)), (8, vU (s : Int)), (0, vU hi), (1, vU lo), (2, vU (d : Int))] [38, 37, 8, 0, 1, 2] (by kernel_rfl) ?_
  refine ops_val (op := (Go.Op.binOp Go.BinOp.shl 53 (Go.Operand.tmp 37) (Go.Operand.tmp 38) 131)) (d := some 39) (v := vU (IntKind.u64.wrap ((d : Int) * 2 ^ min ((s : Int)).toNat 64))) ⟨by kernel_rfl⟩ (run_shl rfl rfl (by omega)) ?_
  refine oR [] [(39, vU (IntKind.u64.wrap ((d : Int) * 2 ^ min ((s : Int)).toNat 64))), (8, vU (s : Int)), (0, vU hi), (1, vU lo), (2, vU (d : Int))] [39, 8, 0, 1, 2] (by kernel_rfl) ?_
  refine ops_conv (l' := [(39, vU y), (8, vU (s : Int)), (0, vU hi), (1, vU lo), (2, vU (d : Int))]) (by rw [hwy]) (fun _ h => h) ?_
  refine oR [oF 3] [(2, vU y), (8, vU (s : Int)), (0, vU hi), (1, vU lo)] [2, 8, 0, 1] (by kernel_rfl) ?_
  refine ops_nil ?_
  refine fin_then ?_
  refine st_seq ?_
  refine st_region [oF 0, oF 1, oF 2] (by rfl) ?_
  refine oR [oF 0, oF 1] [(41, vU (Int.fdiv y 4294967296)), (2, vU y), (8, vU (s : Int)), (0, vU hi), (1, vU lo)] [41, 2, 8, 0, 1] (by kernel_rfl) ?_
  refine ops_conv (l' := [(41, vU y1), (2, vU y), (8, vU (s : Int)), (0, vU hi), (1, vU lo)]) (by rw [hwy1]) (fun _ h => h) ?_
  refine oR [oF 2] [(9, vU y1), (2, vU y), (8, vU (s : Int)), (0, vU hi), (1, vU lo)] [9, 2, 8, 0, 1] (by kernel_rfl) ?_
  refine ops_nil ?_
  refine fin_then ?_
  refine st_seq ?_
  refine st_region [oF 0, oF 1, oF 2] (by rfl) ?_
  refine oR [oF 0, oF 1] [(43, vU (Go.bits .and .u64 y 4294967295)), (9, vU y1), (2, vU y), (8, vU (s : Int)), (0, vU hi), (1, vU lo)] [43, 9, 2, 8, 0, 1] (by kernel_rfl) ?_
  refine ops_conv (l' := [(43, vU y0), (9, vU y1), (2, vU y), (8, vU (s : Int)), (0, vU hi), (1, vU lo)]) (by rw [hwy0]) (fun _ h => h) ?_
  refine oR [oF 2] [(10, vU y0), (9, vU y1), (2, vU y), (8, vU (s : Int)), (0, vU hi), (1, vU lo)] [10, 9, 2, 8, 0, 1] (by kernel_rfl) ?_
  refine ops_nil ?_
  refine fin_then ?_
  refine st_seq ?_
  refine st_region [oF 0, oF 1, oF 2, oF 3, oF 4, oF 5, oF 6, oF 7, oF 8] (by rfl) ?_
  refine oR [oF 0, oF 1] [(45, vU (s : Int)), (44, vU hi), (10, vU y0), (9, vU y1), (2, vU y), (8, vU (s : Int)), (1, vU lo)] [45, 44, 10, 9, 2, 8, 1] (by kernel_rfl) ?_
  refine ops_val (op := (Go.Op.binOp Go.BinOp.shl 53 (Go.Operand.tmp 44) (Go.Operand.tmp 45) 131)) (d := some 46) (v := vU (IntKind.u64.wrap (hi * 2 ^ min ((s : Int)).toNat 64))) ⟨by kernel_rfl⟩ (run_shl rfl rfl (by omega)) ?_
  refine oR [] [(46, vU (IntKind.u64.wrap (hi * 2 ^ min ((s : Int)).toNat 64))), (10, vU y0), (9, vU y1), (2, vU y), (8, vU (s : Int)), (1, vU lo)] [46, 10, 9, 2, 8, 1] (by kernel_rfl) ?_
  refine ops_conv (l' := [(46, vU (hi * 2 ^ s)), (10, vU y0), (9, vU y1), (2, vU y), (8, vU (s : Int)), (1, vU lo)]) (by rw [hwh]) (fun _ h => h) ?_
  refine oR [oF 3, oF 4, oF 5] [(49, vU (IntKind.u64.wrap (64 - (s : Int)))), (47, vU lo), (46, vU (hi * 2 ^ s)), (10, vU y0), (9, vU y1), (2, vU y), (8, vU (s : Int)), (1, vU lo)] [49, 47, 46, 10, 9, 2, 8, 1] (by kernel_rfl) ?_
  refine ops_conv (l' := [(49, vU (64 - (s : Int))), (47, vU lo), (46, vU (hi * 2 ^ s)), (10, vU y0), (9, vU y1), (2, vU y), (8, vU (s : Int)), (1, vU lo)]) (by rw [hw64]) (fun _ h => h) ?_
  refine ops_val (op := (Go.Op.binOp Go.BinOp.shr 53 (Go.Operand.tmp 47) (Go.Operand.tmp 49) 131)) (d := some 50) (v := vU (Int.fdiv lo (2 ^ min (64 - (s : Int)).toNat 64))) ⟨by kernel_rfl⟩ (run_shr rfl rfl (by omega)) ?_
  refine oR [] [(50, vU (Int.fdiv lo (2 ^ min (64 - (s : Int)).toNat 64))), (46, vU (hi * 2 ^ s)), (10, vU y0), (9, vU y1), (2, vU y), (8, vU (s : Int)), (1, vU lo)] [50, 46, 10, 9, 2, 8, 1] (by kernel_rfl) ?_
  refine ops_conv (l' := [(50, vU (lo / 2 ^ (64 - s))), (46, vU (hi * 2 ^ s)), (10, vU y0), (9, vU y1), (2, vU y), (8, vU (s : Int)), (1, vU lo)]) (by rw [hwl]) (fun _ h => h) ?_
  refine oR [oF 7] [(51, vU (Go.bits .or .u64 (hi * 2 ^ s) (lo / 2 ^ (64 - s)))), (10, vU y0), (9, vU y1), (2, vU y), (8, vU (s : Int)), (1, vU lo)] [51, 10, 9, 2, 8, 1] (by kernel_rfl) ?_
  refine ops_conv (l' := [(51, vU U), (10, vU y0), (9, vU y1), (2, vU y), (8, vU (s : Int)), (1, vU lo)]) (by rw [hor]) (fun _ h => h) ?_
  refine oR [oF 8] [(11, vU U), (10, vU y0), (9, vU y1), (2, vU y), (8, vU (s : Int)), (1, vU lo)] [11, 10, 9, 2, 8, 1] (by kernel_rfl) ?_
  refine ops_nil ?_
  refine fin_then ?_
  refine st_seq ?_
  refine st_region [oF 0, oF 1, oF 2, oF 3] (by rfl) ?_
  refine oR [oF 0, oF 1] [(53, vU (s : Int)), (52, vU lo), (11, vU U), (10, vU y0), (9, vU y1), (2, vU y), (8, vU (s : Int))] [53, 52, 11, 10, 9, 2, 8] (by kernel_rfl) ?_
  refine ops_val (op := (Go.Op.binOp Go.BinOp.shl 53 (Go.Operand.tmp 52) (Go.Operand.tmp 53) 131)) (d := some 54) (v := vU (IntKind.u64.wrap (lo * 2 ^ min ((s : Int)).toNat 64))) ⟨by kernel_rfl⟩ (run_shl rfl rfl (by omega)) ?_
  refine oR [] [(54, vU (IntKind.u64.wrap (lo * 2 ^ min ((s : Int)).toNat 64))), (11, vU U), (10, vU y0), (9, vU y1), (2, vU y), (8, vU (s : Int))] [54, 11, 10, 9, 2, 8] (by kernel_rfl) ?_
  refine ops_conv (l' := [(54, vU u10), (11, vU U), (10, vU y0), (9, vU y1), (2, vU y), (8, vU (s : Int))]) (by rw [hw10]) (fun _ h => h) ?_
  refine oR [oF 3] [(12, vU u10), (11, vU U), (10, vU y0), (9, vU y1), (2, vU y), (8, vU (s : Int))] [12, 11, 10, 9, 2, 8] (by kernel_rfl) ?_
  refine ops_nil ?_
  refine fin_then ?_
  refine st_seq ?_
  refine st_region [oF 0, oF 1, oF 2] (by rfl) ?_
  refine oR [oF 0, oF 1] [(56, vU (Int.fdiv u10 4294967296)), (12, vU u10), (11, vU U), (10, vU y0), (9, vU y1), (2, vU y), (8, vU (s : Int))] [56, 12, 11, 10, 9, 2, 8] (by kernel_rfl) ?_
  refine ops_conv (l' := [(56, vU u1), (12, vU u10), (11, vU U), (10, vU y0), (9, vU y1), (2, vU y), (8, vU (s : Int))]) (by rw [hwu1]) (fun _ h => h) ?_
  refine oR [oF 2] [(13, vU u1), (12, vU u10), (11, vU U), (10, vU y0), (9, vU y1), (2, vU y), (8, vU (s : Int))] [13, 12, 11, 10, 9, 2, 8] (by kernel_rfl) ?_
  refine ops_nil ?_
  refine fin_then ?_
  refine st_seq ?_
  refine st_region [oF 0, oF 1, oF 2] (by rfl) ?_
  refine oR [oF 0, oF 1] [(58, vU (Go.bits .and .u64 u10 4294967295)), (13, vU u1), (11, vU U), (10, vU y0), (9, vU y1), (2, vU y), (8, vU (s : Int))] [58, 13, 11, 10, 9, 2, 8] (by kernel_rfl) ?_
  refine ops_conv (l' := [(58, vU u0), (13, vU u1), (11, vU U), (10, vU y0), (9, vU y1), (2, vU y), (8, vU (s : Int))]) (by rw [hwu0]) (fun _ h => h) ?_
  refine oR [oF 2] [(14, vU u0), (13, vU u1), (11, vU U), (10, vU y0), (9, vU y1), (2, vU y), (8, vU (s : Int))] [14, 13, 11, 10, 9, 2, 8] (by kernel_rfl) ?_
  refine ops_nil ?_
  refine fin_then ?_
  refine st_seq ?_
  refine st_region [oF 0, oF 1, oF 2, oF 3] (by rfl) ?_
  refine oR [oF 0, oF 1] [(60, vU y1), (59, vU U), (14, vU u0), (13, vU u1), (11, vU U), (10, vU y0), (9, vU y1), (2, vU y), (8, vU (s : Int))] [60, 59, 14, 13, 11, 10, 9, 2, 8] (by kernel_rfl) ?_
  refine ops_val (op := (Go.Op.binOp Go.BinOp.quo 53 (Go.Operand.tmp 59) (Go.Operand.tmp 60) 53)) (d := some 61) (v := vU (IntKind.u64.wrap (Int.tdiv U y1))) ⟨by kernel_rfl⟩ (run_quo rfl rfl (by omega)) ?_
  refine oR [] [(61, vU (IntKind.u64.wrap (Int.tdiv U y1))), (14, vU u0), (13, vU u1), (11, vU U), (10, vU y0), (9, vU y1), (2, vU y), (8, vU (s : Int))] [61, 14, 13, 11, 10, 9, 2, 8] (by kernel_rfl) ?_
  refine ops_conv (l' := [(61, vU (U / y1)), (14, vU u0), (13, vU u1), (11, vU U), (10, vU y0), (9, vU y1), (2, vU y), (8, vU (s : Int))]) (by rw [hwq]) (fun _ h => h) ?_
  refine oR [oF 3] [(15, vU (U / y1)), (14, vU u0), (13, vU u1), (11, vU U), (10, vU y0), (9, vU y1), (2, vU y), (8, vU (s : Int))] [15, 14, 13, 11, 10, 9, 2, 8] (by kernel_rfl) ?_
  refine ops_nil ?_
  refine fin_then ?_
  refine st_seq ?_
  refine st_region [oF 0, oF 1, oF 2, oF 3, oF 4, oF 5] (by rfl) ?_
  refine oR [oF 0, oF 1, oF 2, oF 3] [(65, vU (IntKind.u64.wrap ((U / y1) * y1))), (62, vU U), (15, vU (U / y1)), (14, vU u0), (13, vU u1), (11, vU U), (10, vU y0), (9, vU y1), (2, vU y), (8, vU (s : Int))] [65, 62, 15, 14, 13, 11, 10, 9, 2, 8] (by kernel_rfl) ?_
  refine ops_conv (l' := [(65, vU (U / y1 * y1)), (62, vU U), (15, vU (U / y1)), (14, vU u0), (13, vU u1), (11, vU U), (10, vU y0), (9, vU y1), (2, vU y), (8, vU (s : Int))]) (by rw [hwm]) (fun _ h => h) ?_
  refine oR [oF 4] [(66, vU (IntKind.u64.wrap (U - (U / y1 * y1)))), (15, vU (U / y1)), (14, vU u0), (13, vU u1), (11, vU U), (10, vU y0), (9, vU y1), (2, vU y), (8, vU (s : Int))] [66, 15, 14, 13, 11, 10, 9, 2, 8] (by kernel_rfl) ?_
  refine ops_conv (l' := [(66, vU (U % y1)), (15, vU (U / y1)), (14, vU u0), (13, vU u1), (11, vU U), (10, vU y0), (9, vU y1), (2, vU y), (8, vU (s : Int))]) (by rw [hwr]) (fun _ h => h) ?_
  refine oR [oF 5] [(16, vU (U % y1)), (15, vU (U / y1)), (14, vU u0), (13, vU u1), (11, vU U), (10, vU y0), (9, vU y1), (2, vU y), (8, vU (s : Int))] [16, 15, 14, 13, 11, 10, 9, 2, 8] (by kernel_rfl) ?_
  refine ops_nil ?_
  refine fin_then ?_
  refine st_seq ?_
  refine st_block ?_
  refine st_loop (σ := Int × Int) (U / y1, U % y1) (fun x_ => match x_ with | (q1, r1) => [(16, vU r1), (15, vU q1), (14, vU u0), (13, vU u1), (11, vU U), (10, vU y0), (9, vU y1), (2, vU y), (8, vU (s : Int))]) (fun x_ => match x_ with | (q1, r1) => Mem w []) (fun x_ => match x_ with | (q1, r1) => Try U u1 y1 y0 y q1 r1 ∧ r1 < 4294967296 ∧ q1 ≤ 4294967297) (fun x_ => match x_ with | (q1, r1) => (4294967296 - r1).toNat) (by exact ⟨hi1, by show _ < (4294967296 : Int); omega, by show _ ≤ (4294967297 : Int); omega⟩) (look_has ⟨rfl, rfl, rfl, rfl, rfl, rfl, rfl, rfl, rfl, trivial⟩) (fun w_ hM => by exact hM) ?_
  rintro ⟨q1, r1⟩ hI
  obtain ⟨ht1, hrb1, hqb1⟩ := hI
  have ht1 : Try U u1 y1 y0 y q1 r1 := ht1
  have hrb1 : r1 < 4294967296 := hrb1
  have hqb1 : q1 ≤ 4294967297 := hqb1
  have hlo1 := ht1.lo
  have hge1 := ht1.ge
  rw [hQ1] at hge1
  have hbr1 : IntKind.u64.wrap (4294967296 * r1) = 4294967296 * r1 := w64_in (by omega) (by omega)
  have hbs1 : IntKind.u64.wrap (4294967296 * r1 + u1) = 4294967296 * r1 + u1 := w64_in (by omega) (by omega)
  refine st_seq ?_
  refine st_seq ?_
  refine st_region [oF 0, oF 1, oF 2, oF 3, oF 4, oF 5, oF 6, oF 7, oF 8, oF 9, oF 10, oF 11] (by rfl) ?_
  refine oR [oF 0, oF 1, oF 2] [(69, .bool (decide (4294967296 ≤ q1))), (16, vU r1), (15, vU q1), (14, vU u0), (13, vU u1), (11, vU U), (10, vU y0), (9, vU y1), (2, vU y), (8, vU (s : Int))] [69, 16, 15, 14, 13, 11, 10, 9, 2, 8] (by kernel_rfl) ?_
  refine ops_bool (t := decide (4294967296 ≤ q1)) (l1 := [(69, .bool true), (16, vU r1), (15, vU q1), (14, vU u0), (13, vU u1), (11, vU U), (10, vU y0), (9, vU y1), (2, vU y), (8, vU (s : Int))]) (l2 := [(69, .bool false), (16, vU r1), (15, vU q1), (14, vU u0), (13, vU u1), (11, vU U), (10, vU y0), (9, vU y1), (2, vU y), (8, vU (s : Int))]) (fun h => by rw [h]) (fun h => by rw [h]) (fun hc2 => ?_) (fun hc2 => ?_)
  · --decide (4294967296 ≤ q1)
   have hst1 := ht1.step hyy hypos (by rw [hQ1]; omega) (by omega) (by have := of_decide_eq_true hc2; omega)
   have hqp1 : 1 ≤ q1 := by have := hst1.ge; rw [hQ1] at this; omega
   have hqd1 : IntKind.u64.wrap (q1 - 1) = q1 - 1 := w64_in (by omega) (by omega)
   have hrd1 : IntKind.u64.wrap (r1 + y1) = r1 + y1 := w64_in (by omega) (by omega)
   refine oR [oF 3, oF 4, oF 5, oF 6, oF 7, oF 8, oF 9, oF 10, oF 11] [(78, .bool true), (16, vU r1), (15, vU q1), (14, vU u0), (13, vU u1), (11, vU U), (10, vU y0), (9, vU y1), (2, vU y), (8, vU (s : Int))] [78, 16, 15, 14, 13, 11, 10, 9, 2, 8] (by kernel_rfl) ?_
   refine ops_nil ?_
   refine fin_then ?_
   refine st_true rfl ?_
   refine st_skip ?_
   refine fin_then ?_
   refine st_block ?_
   refine st_seq ?_
   refine st_region [oF 0, oF 1, oF 2] (by rfl) ?_
   refine oR [oF 0, oF 1] [(80, vU (IntKind.u64.wrap (q1 - 1))), (16, vU r1), (15, vU q1), (14, vU u0), (13, vU u1), (11, vU U), (10, vU y0), (9, vU y1), (2, vU y), (8, vU (s : Int))] [80, 16, 15, 14, 13, 11, 10, 9, 2, 8] (by kernel_rfl) ?_
   refine ops_conv (l' := [(80, vU (q1 - 1)), (16, vU r1), (15, vU q1), (14, vU u0), (13, vU u1), (11, vU U), (10, vU y0), (9, vU y1), (2, vU y), (8, vU (s : Int))]) (by rw [hqd1]) (fun _ h => h) ?_
   refine oR [oF 2] [(15, vU (q1 - 1)), (16, vU r1), (14, vU u0), (13, vU u1), (11, vU U), (10, vU y0), (9, vU y1), (2, vU y), (8, vU (s : Int))] [15, 16, 14, 13, 11, 10, 9, 2, 8] (by kernel_rfl) ?_
   refine ops_nil ?_
   refine fin_then ?_
   refine st_seq ?_
   refine st_region [oF 0, oF 1, oF 2, oF 3] (by rfl) ?_
   refine oR [oF 0, oF 1, oF 2] [(83, vU (IntKind.u64.wrap (r1 + y1))), (15, vU (q1 - 1)), (16, vU r1), (14, vU u0), (13, vU u1), (11, vU U), (10, vU y0), (9, vU y1), (2, vU y), (8, vU (s : Int))] [83, 15, 16, 14, 13, 11, 10, 9, 2, 8] (by kernel_rfl) ?_
   refine ops_conv (l' := [(83, vU (r1 + y1)), (15, vU (q1 - 1)), (16, vU r1), (14, vU u0), (13, vU u1), (11, vU U), (10, vU y0), (9, vU y1), (2, vU y), (8, vU (s : Int))]) (by rw [hrd1]) (fun _ h => h) ?_
   refine oR [oF 3] [(16, vU (r1 + y1)), (15, vU (q1 - 1)), (14, vU u0), (13, vU u1), (11, vU U), (10, vU y0), (9, vU y1), (2, vU y), (8, vU (s : Int))] [16, 15, 14, 13, 11, 10, 9, 2, 8] (by kernel_rfl) ?_
   refine ops_nil ?_
   refine fin_then ?_
   refine st_seq ?_
   refine st_region [oF 0, oF 1] (by rfl) ?_
   refine oR [oF 0, oF 1] [(85, .bool (decide (4294967296 ≤ (r1 + y1)))), (16, vU (r1 + y1)), (15, vU (q1 - 1)), (14, vU u0), (13, vU u1), (11, vU U), (10, vU y0), (9, vU y1), (2, vU y), (8, vU (s : Int))] [85, 16, 15, 14, 13, 11, 10, 9, 2, 8] (by kernel_rfl) ?_
   refine ops_nil ?_
   refine fin_then ?_
   refine st_if (b := decide (4294967296 ≤ (r1 + y1))) rfl (fun hc3 => ?_) (fun hc3 => ?_)
   · --
    have hE1 : q1 - 1 = Q1 := by have z := hst1.brk hyy hypos (by have := of_decide_eq_true hc3; omega) (by omega) hy00 hy01 (by omega); rw [hQ1] at z; exact z
    refine st_exit ?_
    refine fin_exit_ne (by rfl) ?_
    refine fin_exit_then ?_
    refine fin_exit ?_
    refine fin_then ?_
    refine st_seq ?_
    refine st_region [oF 0, oF 1, oF 2, oF 3, oF 4, oF 5, oF 6, oF 7, oF 8] (by rfl) ?_
    refine oR [] [(15, vU (q1 - 1)), (14, vU u0), (13, vU u1), (11, vU U), (10, vU y0), (9, vU y1), (2, vU y), (8, vU (s : Int))] [15, 14, 13, 11, 10, 9, 2, 8] (by kernel_rfl) ?_
    refine ops_conv (l' := [(15, vU Q1), (14, vU u0), (13, vU u1), (11, vU U), (10, vU y0), (9, vU y1), (2, vU y), (8, vU (s : Int))]) (by rw [hE1]) (fun _ h => h) ?_
    refine oR [oF 0, oF 1, oF 2, oF 3, oF 4, oF 5, oF 6, oF 7] [(93, vU (IntKind.u64.wrap (IntKind.u64.wrap (IntKind.u64.wrap (U * 4294967296) + u1) - IntKind.u64.wrap (Q1 * y)))), (15, vU Q1), (14, vU u0), (10, vU y0), (9, vU y1), (2, vU y), (8, vU (s : Int))] [93, 15, 14, 10, 9, 2, 8] (by kernel_rfl) ?_
    refine ops_conv (l' := [(93, vU R1), (15, vU Q1), (14, vU u0), (10, vU y0), (9, vU y1), (2, vU y), (8, vU (s : Int))]) (by rw [hwR1]) (fun _ h => h) ?_
    refine oR [oF 8] [(17, vU R1), (15, vU Q1), (14, vU u0), (10, vU y0), (9, vU y1), (2, vU y), (8, vU (s : Int))] [17, 15, 14, 10, 9, 2, 8] (by kernel_rfl) ?_
    refine ops_nil ?_
    refine fin_then ?_
    refine st_seq ?_
    refine st_region [oF 0, oF 1, oF 2, oF 3] (by rfl) ?_
    refine oR [oF 0, oF 1] [(95, vU y1), (94, vU R1), (17, vU R1), (15, vU Q1), (14, vU u0), (10, vU y0), (9, vU y1), (2, vU y), (8, vU (s : Int))] [95, 94, 17, 15, 14, 10, 9, 2, 8] (by kernel_rfl) ?_
    refine ops_val (op := (Go.Op.binOp Go.BinOp.quo 53 (Go.Operand.tmp 94) (Go.Operand.tmp 95) 53)) (d := some 96) (v := vU (IntKind.u64.wrap (Int.tdiv R1 y1))) ⟨by kernel_rfl⟩ (run_quo rfl rfl (by omega)) ?_
    refine oR [] [(96, vU (IntKind.u64.wrap (Int.tdiv R1 y1))), (17, vU R1), (15, vU Q1), (14, vU u0), (10, vU y0), (9, vU y1), (2, vU y), (8, vU (s : Int))] [96, 17, 15, 14, 10, 9, 2, 8] (by kernel_rfl) ?_
    refine ops_conv (l' := [(96, vU (R1 / y1)), (17, vU R1), (15, vU Q1), (14, vU u0), (10, vU y0), (9, vU y1), (2, vU y), (8, vU (s : Int))]) (by rw [hwq2]) (fun _ h => h) ?_
    refine oR [oF 3] [(18, vU (R1 / y1)), (17, vU R1), (15, vU Q1), (14, vU u0), (10, vU y0), (9, vU y1), (2, vU y), (8, vU (s : Int))] [18, 17, 15, 14, 10, 9, 2, 8] (by kernel_rfl) ?_
    refine ops_nil ?_
    refine fin_then ?_
    refine st_seq ?_
    refine st_region [oF 0, oF 1, oF 2, oF 3, oF 4, oF 5] (by rfl) ?_
    refine oR [oF 0, oF 1, oF 2, oF 3] [(100, vU (IntKind.u64.wrap ((R1 / y1) * y1))), (97, vU R1), (18, vU (R1 / y1)), (17, vU R1), (15, vU Q1), (14, vU u0), (10, vU y0), (9, vU y1), (2, vU y), (8, vU (s : Int))] [100, 97, 18, 17, 15, 14, 10, 9, 2, 8] (by kernel_rfl) ?_
    refine ops_conv (l' := [(100, vU (R1 / y1 * y1)), (97, vU R1), (18, vU (R1 / y1)), (17, vU R1), (15, vU Q1), (14, vU u0), (10, vU y0), (9, vU y1), (2, vU y), (8, vU (s : Int))]) (by rw [hwm2]) (fun _ h => h) ?_
    refine oR [oF 4] [(101, vU (IntKind.u64.wrap (R1 - (R1 / y1 * y1)))), (18, vU (R1 / y1)), (17, vU R1), (15, vU Q1), (14, vU u0), (10, vU y0), (9, vU y1), (2, vU y), (8, vU (s : Int))] [101, 18, 17, 15, 14, 10, 9, 2, 8] (by kernel_rfl) ?_
    refine ops_conv (l' := [(101, vU (R1 % y1)), (18, vU (R1 / y1)), (17, vU R1), (15, vU Q1), (14, vU u0), (10, vU y0), (9, vU y1), (2, vU y), (8, vU (s : Int))]) (by rw [hwr2]) (fun _ h => h) ?_
    refine oR [oF 5] [(16, vU (R1 % y1)), (18, vU (R1 / y1)), (17, vU R1), (15, vU Q1), (14, vU u0), (10, vU y0), (9, vU y1), (2, vU y), (8, vU (s : Int))] [16, 18, 17, 15, 14, 10, 9, 2, 8] (by kernel_rfl) ?_
    refine ops_nil ?_
    refine fin_then ?_
    refine st_seq ?_
    refine st_block ?_
    refine st_loop (σ := Int × Int) (R1 / y1, R1 % y1) (fun x_ => match x_ with | (q2, r2) => [(16, vU r2), (18, vU q2), (17, vU R1), (15, vU Q1), (14, vU u0), (10, vU y0), (9, vU y1), (2, vU y), (8, vU (s : Int))]) (fun x_ => match x_ with | (q2, r2) => Mem w []) (fun x_ => match x_ with | (q2, r2) => Try R1 u0 y1 y0 y q2 r2 ∧ r2 < 4294967296 ∧ q2 ≤ 4294967297) (fun x_ => match x_ with | (q2, r2) => (4294967296 - r2).toNat) (by exact ⟨hj1, by show _ < (4294967296 : Int); omega, by show _ ≤ (4294967297 : Int); omega⟩) (look_has ⟨rfl, rfl, rfl, rfl, rfl, rfl, rfl, rfl, rfl, trivial⟩) (fun w_ hM => by exact hM) ?_
    rintro ⟨q2, r2⟩ hI
    obtain ⟨ht2, hrb2, hqb2⟩ := hI
    have ht2 : Try R1 u0 y1 y0 y q2 r2 := ht2
    have hrb2 : r2 < 4294967296 := hrb2
    have hqb2 : q2 ≤ 4294967297 := hqb2
    have hlo2 := ht2.lo
    have hge2 := ht2.ge
    rw [hQ0] at hge2
    have hbr2 : IntKind.u64.wrap (4294967296 * r2) = 4294967296 * r2 := w64_in (by omega) (by omega)
    have hbs2 : IntKind.u64.wrap (4294967296 * r2 + u0) = 4294967296 * r2 + u0 := w64_in (by omega) (by omega)
    refine st_seq ?_
    refine st_seq ?_
    refine st_region [oF 0, oF 1, oF 2, oF 3, oF 4, oF 5, oF 6, oF 7, oF 8, oF 9, oF 10, oF 11] (by rfl) ?_
    refine oR [oF 0, oF 1, oF 2] [(104, .bool (decide (4294967296 ≤ q2))), (16, vU r2), (18, vU q2), (17, vU R1), (15, vU Q1), (14, vU u0), (10, vU y0), (9, vU y1), (2, vU y), (8, vU (s : Int))] [104, 16, 18, 17, 15, 14, 10, 9, 2, 8] (by kernel_rfl) ?_
    refine ops_bool (t := decide (4294967296 ≤ q2)) (l1 := [(104, .bool true), (16, vU r2), (18, vU q2), (17, vU R1), (15, vU Q1), (14, vU u0), (10, vU y0), (9, vU y1), (2, vU y), (8, vU (s : Int))]) (l2 := [(104, .bool false), (16, vU r2), (18, vU q2), (17, vU R1), (15, vU Q1), (14, vU u0), (10, vU y0), (9, vU y1), (2, vU y), (8, vU (s : Int))]) (fun h => by rw [h]) (fun h => by rw [h]) (fun hc4 => ?_) (fun hc4 => ?_)
    · --decide (4294967296 ≤ q2)
     have hst2 := ht2.step hyy hypos (by rw [hQ0]; omega) (by omega) (by have := of_decide_eq_true hc4; omega)
     have hqp2 : 1 ≤ q2 := by have := hst2.ge; rw [hQ0] at this; omega
     have hqd2 : IntKind.u64.wrap (q2 - 1) = q2 - 1 := w64_in (by omega) (by omega)
     have hrd2 : IntKind.u64.wrap (r2 + y1) = r2 + y1 := w64_in (by omega) (by omega)
     refine oR [oF 3, oF 4, oF 5, oF 6, oF 7, oF 8, oF 9, oF 10, oF 11] [(113, .bool true), (16, vU r2), (18, vU q2), (17, vU R1), (15, vU Q1), (14, vU u0), (10, vU y0), (9, vU y1), (2, vU y), (8, vU (s : Int))] [113, 16, 18, 17, 15, 14, 10, 9, 2, 8] (by kernel_rfl) ?_
     refine ops_nil ?_
     refine fin_then ?_
     refine st_true rfl ?_
     refine st_skip ?_
     refine fin_then ?_
     refine st_block ?_
     refine st_seq ?_
     refine st_region [oF 0, oF 1, oF 2] (by rfl) ?_
     refine oR [oF 0, oF 1] [(115, vU (IntKind.u64.wrap (q2 - 1))), (16, vU r2), (18, vU q2), (17, vU R1), (15, vU Q1), (14, vU u0), (10, vU y0), (9, vU y1), (2, vU y), (8, vU (s : Int))] [115, 16, 18, 17, 15, 14, 10, 9, 2, 8] (by kernel_rfl) ?_
     refine ops_conv (l' := [(115, vU (q2 - 1)), (16, vU r2), (18, vU q2), (17, vU R1), (15, vU Q1), (14, vU u0), (10, vU y0), (9, vU y1), (2, vU y), (8, vU (s : Int))]) (by rw [hqd2]) (fun _ h => h) ?_
     refine oR [oF 2] [(18, vU (q2 - 1)), (16, vU r2), (17, vU R1), (15, vU Q1), (14, vU u0), (10, vU y0), (9, vU y1), (2, vU y), (8, vU (s : Int))] [18, 16, 17, 15, 14, 10, 9, 2, 8] (by kernel_rfl) ?_
     refine ops_nil ?_
     refine fin_then ?_
     refine st_seq ?_
     refine st_region [oF 0, oF 1, oF 2, oF 3] (by rfl) ?_
     refine oR [oF 0, oF 1, oF 2] [(118, vU (IntKind.u64.wrap (r2 + y1))), (18, vU (q2 - 1)), (16, vU r2), (17, vU R1), (15, vU Q1), (14, vU u0), (10, vU y0), (9, vU y1), (2, vU y), (8, vU (s : Int))] [118, 18, 16, 17, 15, 14, 10, 9, 2, 8] (by kernel_rfl) ?_
     refine ops_conv (l' := [(118, vU (r2 + y1)), (18, vU (q2 - 1)), (16, vU r2), (17, vU R1), (15, vU Q1), (14, vU u0), (10, vU y0), (9, vU y1), (2, vU y), (8, vU (s : Int))]) (by rw [hrd2]) (fun _ h => h) ?_
     refine oR [oF 3] [(16, vU (r2 + y1)), (18, vU (q2 - 1)), (17, vU R1), (15, vU Q1), (14, vU u0), (10, vU y0), (9, vU y1), (2, vU y), (8, vU (s : Int))] [16, 18, 17, 15, 14, 10, 9, 2, 8] (by kernel_rfl) ?_
     refine ops_nil ?_
     refine fin_then ?_
     refine st_seq ?_
     refine st_region [oF 0, oF 1] (by rfl) ?_
     refine oR [oF 0, oF 1] [(120, .bool (decide (4294967296 ≤ (r2 + y1)))), (16, vU (r2 + y1)), (18, vU (q2 - 1)), (17, vU R1), (15, vU Q1), (14, vU u0), (10, vU y0), (9, vU y1), (2, vU y), (8, vU (s : Int))] [120, 16, 18, 17, 15, 14, 10, 9, 2, 8] (by kernel_rfl) ?_
     refine ops_nil ?_
     refine fin_then ?_
     refine st_if (b := decide (4294967296 ≤ (r2 + y1))) rfl (fun hc5 => ?_) (fun hc5 => ?_)
     · --
      have hE2 : q2 - 1 = Q0 := by have z := hst2.brk hyy hypos (by have := of_decide_eq_true hc5; omega) (by omega) hy00 hy01 (by omega); rw [hQ0] at z; exact z
      refine st_exit ?_
      refine fin_exit_ne (by rfl) ?_
      refine fin_exit_then ?_
      refine fin_exit ?_
      refine fin_then ?_
      refine st_seq ?_
      refine st_region [oF 0, oF 1, oF 2, oF 3, oF 4, oF 5, oF 6, oF 7, oF 8, oF 9, oF 10, oF 11, oF 12, oF 13, oF 14, oF 15] (by rfl) ?_
      refine oR [] [(18, vU (q2 - 1)), (17, vU R1), (15, vU Q1), (14, vU u0), (2, vU y), (8, vU (s : Int))] [18, 17, 15, 14, 2, 8] (by kernel_rfl) ?_
      refine ops_conv (l' := [(18, vU Q0), (17, vU R1), (15, vU Q1), (14, vU u0), (2, vU y), (8, vU (s : Int))]) (by rw [hE2]) (fun _ h => h) ?_
      refine oR [oF 0, oF 1] [(122, vU (IntKind.u64.wrap (Q1 * 4294967296))), (18, vU Q0), (17, vU R1), (14, vU u0), (2, vU y), (8, vU (s : Int))] [122, 18, 17, 14, 2, 8] (by kernel_rfl) ?_
      refine ops_conv (l' := [(122, vU (Q1 * 4294967296)), (18, vU Q0), (17, vU R1), (14, vU u0), (2, vU y), (8, vU (s : Int))]) (by rw [hwQB]) (fun _ h => h) ?_
      refine oR [oF 2, oF 3] [(124, vU (IntKind.u64.wrap ((Q1 * 4294967296) + Q0))), (18, vU Q0), (17, vU R1), (14, vU u0), (2, vU y), (8, vU (s : Int))] [124, 18, 17, 14, 2, 8] (by kernel_rfl) ?_
      refine ops_conv (l' := [(124, vU qq), (18, vU Q0), (17, vU R1), (14, vU u0), (2, vU y), (8, vU (s : Int))]) (by rw [hwqq]) (fun _ h => h) ?_
      refine oR [oF 4, oF 5, oF 6, oF 7, oF 8, oF 9, oF 10, oF 11] [(132, vU (IntKind.u64.wrap (IntKind.u64.wrap (IntKind.u64.wrap (R1 * 4294967296) + u0) - IntKind.u64.wrap (Q0 * y)))), (124, vU qq), (8, vU (s : Int))] [132, 124, 8] (by kernel_rfl) ?_
      refine ops_conv (l' := [(132, vU R0), (124, vU qq), (8, vU (s : Int))]) (by rw [hwR0]) (fun _ h => h) ?_
      refine oR [oF 12] [(133, vU (s : Int)), (132, vU R0), (124, vU qq)] [133, 132, 124] (by kernel_rfl) ?_
      refine ops_val (op := (Go.Op.binOp Go.BinOp.shr 53 (Go.Operand.tmp 132) (Go.Operand.tmp 133) 131)) (d := some 134) (v := vU (Int.fdiv R0 (2 ^ min ((s : Int)).toNat 64))) ⟨by kernel_rfl⟩ (run_shr rfl rfl (by omega)) ?_
      refine oR [] [(134, vU (Int.fdiv R0 (2 ^ min ((s : Int)).toNat 64))), (124, vU qq)] [134, 124] (by kernel_rfl) ?_
      refine ops_conv (l' := [(134, vU rr), (124, vU qq)]) (by rw [hwrr]) (fun _ h => h) ?_
      refine oR [oF 14, oF 15] [(7, vU rr), (6, vU qq)] [7, 6] (by kernel_rfl) ?_
      refine ops_nil ?_
      refine fin_then ?_
      refine st_ret ?_
      refine fin_ret [.tmp 6, .tmp 7] [vU qq, vU rr] rfl rfl (fun w_ hM => (.tmp rfl (.tmp rfl .nil))) (fun w_ hM => ?_)
      exact ⟨rfl, hM.done⟩
     · --
      have hlt2 : r2 + y1 < 4294967296 := by have := of_decide_eq_false hc5; omega
      refine st_skip ?_
      refine fin_block ?_
      refine fin_round (q2 - 1, r2 + y1) (by exact ⟨hst2, hlt2, show q2 - 1 ≤ 4294967297 by omega⟩) (by (show (4294967296 - (r2 + y1)).toNat < (4294967296 - r2).toNat; omega)) (look_has ⟨rfl, rfl, rfl, rfl, rfl, rfl, rfl, rfl, rfl, trivial⟩) (fun w_ hM => by exact hM)
    · --decide (4294967296 ≤ q2)
     have hsm2 : q2 < 4294967296 := by have := of_decide_eq_false hc4; omega
     have hml2 : q2 * y0 ≤ 4294967295 * 4294967295 := Int.mul_le_mul (by omega) (by omega) hy00 (by decide)
     have hmz2 : 0 ≤ q2 * y0 := Int.mul_nonneg (by omega) hy00
     have hqm2 : IntKind.u64.wrap (q2 * y0) = q2 * y0 := w64_in (by omega) (by omega)
     refine oR [oF 3, oF 4, oF 5] [(107, vU (IntKind.u64.wrap (q2 * y0))), (104, .bool false), (16, vU r2), (18, vU q2), (17, vU R1), (15, vU Q1), (14, vU u0), (10, vU y0), (9, vU y1), (2, vU y), (8, vU (s : Int))] [107, 104, 16, 18, 17, 15, 14, 10, 9, 2, 8] (by kernel_rfl) ?_
     refine ops_conv (l' := [(107, vU (q2 * y0)), (104, .bool false), (16, vU r2), (18, vU q2), (17, vU R1), (15, vU Q1), (14, vU u0), (10, vU y0), (9, vU y1), (2, vU y), (8, vU (s : Int))]) (by rw [hqm2]) (fun _ h => h) ?_
     refine oR [oF 6, oF 7] [(109, vU (IntKind.u64.wrap (4294967296 * r2))), (107, vU (q2 * y0)), (104, .bool false), (16, vU r2), (18, vU q2), (17, vU R1), (15, vU Q1), (14, vU u0), (10, vU y0), (9, vU y1), (2, vU y), (8, vU (s : Int))] [109, 107, 104, 16, 18, 17, 15, 14, 10, 9, 2, 8] (by kernel_rfl) ?_
     refine ops_conv (l' := [(109, vU (4294967296 * r2)), (107, vU (q2 * y0)), (104, .bool false), (16, vU r2), (18, vU q2), (17, vU R1), (15, vU Q1), (14, vU u0), (10, vU y0), (9, vU y1), (2, vU y), (8, vU (s : Int))]) (by rw [hbr2]) (fun _ h => h) ?_
     refine oR [oF 8, oF 9] [(111, vU (IntKind.u64.wrap ((4294967296 * r2) + u0))), (107, vU (q2 * y0)), (104, .bool false), (16, vU r2), (18, vU q2), (17, vU R1), (15, vU Q1), (14, vU u0), (10, vU y0), (9, vU y1), (2, vU y), (8, vU (s : Int))] [111, 107, 104, 16, 18, 17, 15, 14, 10, 9, 2, 8] (by kernel_rfl) ?_
     refine ops_conv (l' := [(111, vU (4294967296 * r2 + u0)), (107, vU (q2 * y0)), (104, .bool false), (16, vU r2), (18, vU q2), (17, vU R1), (15, vU Q1), (14, vU u0), (10, vU y0), (9, vU y1), (2, vU y), (8, vU (s : Int))]) (by rw [hbs2]) (fun _ h => h) ?_
     refine oR [oF 10, oF 11] [(113, .bool (decide ((4294967296 * r2 + u0) < (q2 * y0)))), (16, vU r2), (18, vU q2), (17, vU R1), (15, vU Q1), (14, vU u0), (10, vU y0), (9, vU y1), (2, vU y), (8, vU (s : Int))] [113, 16, 18, 17, 15, 14, 10, 9, 2, 8] (by kernel_rfl) ?_
     refine ops_nil ?_
     refine fin_then ?_
     refine st_if (b := decide ((4294967296 * r2 + u0) < (q2 * y0))) rfl (fun hc6 => ?_) (fun hc6 => ?_)
     · --
      have hst2 := ht2.step hyy hypos (by rw [hQ0]; omega) (by omega) (by have := of_decide_eq_true hc6; omega)
      have hqp2 : 1 ≤ q2 := by have := hst2.ge; rw [hQ0] at this; omega
      have hqd2 : IntKind.u64.wrap (q2 - 1) = q2 - 1 := w64_in (by omega) (by omega)
      have hrd2 : IntKind.u64.wrap (r2 + y1) = r2 + y1 := w64_in (by omega) (by omega)
      refine st_skip ?_
      refine fin_then ?_
      refine st_block ?_
      refine st_seq ?_
      refine st_region [oF 0, oF 1, oF 2] (by rfl) ?_
      refine oR [oF 0, oF 1] [(115, vU (IntKind.u64.wrap (q2 - 1))), (16, vU r2), (18, vU q2), (17, vU R1), (15, vU Q1), (14, vU u0), (10, vU y0), (9, vU y1), (2, vU y), (8, vU (s : Int))] [115, 16, 18, 17, 15, 14, 10, 9, 2, 8] (by kernel_rfl) ?_
      refine ops_conv (l' := [(115, vU (q2 - 1)), (16, vU r2), (18, vU q2), (17, vU R1), (15, vU Q1), (14, vU u0), (10, vU y0), (9, vU y1), (2, vU y), (8, vU (s : Int))]) (by rw [hqd2]) (fun _ h => h) ?_
      refine oR [oF 2] [(18, vU (q2 - 1)), (16, vU r2), (17, vU R1), (15, vU Q1), (14, vU u0), (10, vU y0), (9, vU y1), (2, vU y), (8, vU (s : Int))] [18, 16, 17, 15, 14, 10, 9, 2, 8] (by kernel_rfl) ?_
      refine ops_nil ?_
      refine fin_then ?_
      refine st_seq ?_
      refine st_region [oF 0, oF 1, oF 2, oF 3] (by rfl) ?_
      refine oR [oF 0, oF 1, oF 2] [(118, vU (IntKind.u64.wrap (r2 + y1))), (18, vU (q2 - 1)), (16, vU r2), (17, vU R1), (15, vU Q1), (14, vU u0), (10, vU y0), (9, vU y1), (2, vU y), (8, vU (s : Int))] [118, 18, 16, 17, 15, 14, 10, 9, 2, 8] (by kernel_rfl) ?_
      refine ops_conv (l' := [(118, vU (r2 + y1)), (18, vU (q2 - 1)), (16, vU r2), (17, vU R1), (15, vU Q1), (14, vU u0), (10, vU y0), (9, vU y1), (2, vU y), (8, vU (s : Int))]) (by rw [hrd2]) (fun _ h => h) ?_
      refine oR [oF 3] [(16, vU (r2 + y1)), (18, vU (q2 - 1)), (17, vU R1), (15, vU Q1), (14, vU u0), (10, vU y0), (9, vU y1), (2, vU y), (8, vU (s : Int))] [16, 18, 17, 15, 14, 10, 9, 2, 8] (by kernel_rfl) ?_
      refine ops_nil ?_
      refine fin_then ?_
      refine st_seq ?_
      refine st_region [oF 0, oF 1] (by rfl) ?_
      refine oR [oF 0, oF 1] [(120, .bool (decide (4294967296 ≤ (r2 + y1)))), (16, vU (r2 + y1)), (18, vU (q2 - 1)), (17, vU R1), (15, vU Q1), (14, vU u0), (10, vU y0), (9, vU y1), (2, vU y), (8, vU (s : Int))] [120, 16, 18, 17, 15, 14, 10, 9, 2, 8] (by kernel_rfl) ?_
      refine ops_nil ?_
      refine fin_then ?_
      refine st_if (b := decide (4294967296 ≤ (r2 + y1))) rfl (fun hc7 => ?_) (fun hc7 => ?_)
      · --
       have hE2 : q2 - 1 = Q0 := by have z := hst2.brk hyy hypos (by have := of_decide_eq_true hc7; omega) (by omega) hy00 hy01 (by omega); rw [hQ0] at z; exact z
       refine st_exit ?_
       refine fin_exit_ne (by rfl) ?_
       refine fin_exit_then ?_
       refine fin_exit ?_
       refine fin_then ?_
       refine st_seq ?_
       refine st_region [oF 0, oF 1, oF 2, oF 3, oF 4, oF 5, oF 6, oF 7, oF 8, oF 9, oF 10, oF 11, oF 12, oF 13, oF 14, oF 15] (by rfl) ?_
       refine oR [] [(18, vU (q2 - 1)), (17, vU R1), (15, vU Q1), (14, vU u0), (2, vU y), (8, vU (s : Int))] [18, 17, 15, 14, 2, 8] (by kernel_rfl) ?_
       refine ops_conv (l' := [(18, vU Q0), (17, vU R1), (15, vU Q1), (14, vU u0), (2, vU y), (8, vU (s : Int))]) (by rw [hE2]) (fun _ h => h) ?_
       refine oR [oF 0, oF 1] [(122, vU (IntKind.u64.wrap (Q1 * 4294967296))), (18, vU Q0), (17, vU R1), (14, vU u0), (2, vU y), (8, vU (s : Int))] [122, 18, 17, 14, 2, 8] (by kernel_rfl) ?_
       refine ops_conv (l' := [(122, vU (Q1 * 4294967296)), (18, vU Q0), (17, vU R1), (14, vU u0), (2, vU y), (8, vU (s : Int))]) (by rw [hwQB]) (fun _ h => h) ?_
       refine oR [oF 2, oF 3] [(124, vU (IntKind.u64.wrap ((Q1 * 4294967296) + Q0))), (18, vU Q0), (17, vU R1), (14, vU u0), (2, vU y), (8, vU (s : Int))] [124, 18, 17, 14, 2, 8] (by kernel_rfl) ?_
       refine ops_conv (l' := [(124, vU qq), (18, vU Q0), (17, vU R1), (14, vU u0), (2, vU y), (8, vU (s : Int))]) (by rw [hwqq]) (fun _ h => h) ?_
       refine oR [oF 4, oF 5, oF 6, oF 7, oF 8, oF 9, oF 10, oF 11] [(132, vU (IntKind.u64.wrap (IntKind.u64.wrap (IntKind.u64.wrap (R1 * 4294967296) + u0) - IntKind.u64.wrap (Q0 * y)))), (124, vU qq), (8, vU (s : Int))] [132, 124, 8] (by kernel_rfl) ?_
       refine ops_conv (l' := [(132, vU R0), (124, vU qq), (8, vU (s : Int))]) (by rw [hwR0]) (fun _ h => h) ?_
       refine oR [oF 12] [(133, vU (s : Int)), (132, vU R0), (124, vU qq)] [133, 132, 124] (by kernel_rfl) ?_
       refine ops_val (op := (Go.Op.binOp Go.BinOp.shr 53 (Go.Operand.tmp 132) (Go.Operand.tmp 133) 131)) (d := some 134) (v := vU (Int.fdiv R0 (2 ^ min ((s : Int)).toNat 64))) ⟨by kernel_rfl⟩ (run_shr rfl rfl (by omega)) ?_
       refine oR [] [(134, vU (Int.fdiv R0 (2 ^ min ((s : Int)).toNat 64))), (124, vU qq)] [134, 124] (by kernel_rfl) ?_
       refine ops_conv (l' := [(134, vU rr), (124, vU qq)]) (by rw [hwrr]) (fun _ h => h) ?_
       refine oR [oF 14, oF 15] [(7, vU rr), (6, vU qq)] [7, 6] (by kernel_rfl) ?_
       refine ops_nil ?_
       refine fin_then ?_
       refine st_ret ?_
       refine fin_ret [.tmp 6, .tmp 7] [vU qq, vU rr] rfl rfl (fun w_ hM => (.tmp rfl (.tmp rfl .nil))) (fun w_ hM => ?_)
       exact ⟨rfl, hM.done⟩
      · --
       have hlt2 : r2 + y1 < 4294967296 := by have := of_decide_eq_false hc7; omega
       refine st_skip ?_
       refine fin_block ?_
       refine fin_round (q2 - 1, r2 + y1) (by exact ⟨hst2, hlt2, show q2 - 1 ≤ 4294967297 by omega⟩) (by (show (4294967296 - (r2 + y1)).toNat < (4294967296 - r2).toNat; omega)) (look_has ⟨rfl, rfl, rfl, rfl, rfl, rfl, rfl, rfl, rfl, trivial⟩) (fun w_ hM => by exact hM)
     · --
      have hE2 : q2 = Q0 := by have z := ht2.done hyy hypos (by have := of_decide_eq_false hc6; omega); rw [hQ0] at z; exact z
      refine st_exit ?_
      refine fin_exit_then ?_
      refine fin_exit_then ?_
      refine fin_exit ?_
      refine fin_then ?_
      refine st_seq ?_
      refine st_region [oF 0, oF 1, oF 2, oF 3, oF 4, oF 5, oF 6, oF 7, oF 8, oF 9, oF 10, oF 11, oF 12, oF 13, oF 14, oF 15] (by rfl) ?_
      refine oR [] [(18, vU q2), (17, vU R1), (15, vU Q1), (14, vU u0), (2, vU y), (8, vU (s : Int))] [18, 17, 15, 14, 2, 8] (by kernel_rfl) ?_
      refine ops_conv (l' := [(18, vU Q0), (17, vU R1), (15, vU Q1), (14, vU u0), (2, vU y), (8, vU (s : Int))]) (by rw [hE2]) (fun _ h => h) ?_
      refine oR [oF 0, oF 1] [(122, vU (IntKind.u64.wrap (Q1 * 4294967296))), (18, vU Q0), (17, vU R1), (14, vU u0), (2, vU y), (8, vU (s : Int))] [122, 18, 17, 14, 2, 8] (by kernel_rfl) ?_
      refine ops_conv (l' := [(122, vU (Q1 * 4294967296)), (18, vU Q0), (17, vU R1), (14, vU u0), (2, vU y), (8, vU (s : Int))]) (by rw [hwQB]) (fun _ h => h) ?_
      refine oR [oF 2, oF 3] [(124, vU (IntKind.u64.wrap ((Q1 * 4294967296) + Q0))), (18, vU Q0), (17, vU R1), (14, vU u0), (2, vU y), (8, vU (s : Int))] [124, 18, 17, 14, 2, 8] (by kernel_rfl) ?_
      refine ops_conv (l' := [(124, vU qq), (18, vU Q0), (17, vU R1), (14, vU u0), (2, vU y), (8, vU (s : Int))]) (by rw [hwqq]) (fun _ h => h) ?_
      refine oR [oF 4, oF 5, oF 6, oF 7, oF 8, oF 9, oF 10, oF 11] [(132, vU (IntKind.u64.wrap (IntKind.u64.wrap (IntKind.u64.wrap (R1 * 4294967296) + u0) - IntKind.u64.wrap (Q0 * y)))), (124, vU qq), (8, vU (s : Int))] [132, 124, 8] (by kernel_rfl) ?_
      refine ops_conv (l' := [(132, vU R0), (124, vU qq), (8, vU (s : Int))]) (by rw [hwR0]) (fun _ h => h) ?_
      refine oR [oF 12] [(133, vU (s : Int)), (132, vU R0), (124, vU qq)] [133, 132, 124] (by kernel_rfl) ?_
      refine ops_val (op := (Go.Op.binOp Go.BinOp.shr 53 (Go.Operand.tmp 132) (Go.Operand.tmp 133) 131)) (d := some 134) (v := vU (Int.fdiv R0 (2 ^ min ((s : Int)).toNat 64))) ⟨by kernel_rfl⟩ (run_shr rfl rfl (by omega)) ?_
      refine oR [] [(134, vU (Int.fdiv R0 (2 ^ min ((s : Int)).toNat 64))), (124, vU qq)] [134, 124] (by kernel_rfl) ?_
      refine ops_conv (l' := [(134, vU rr), (124, vU qq)]) (by rw [hwrr]) (fun _ h => h) ?_
      refine oR [oF 14, oF 15] [(7, vU rr), (6, vU qq)] [7, 6] (by kernel_rfl) ?_
      refine ops_nil ?_
      refine fin_then ?_
      refine st_ret ?_
      refine fin_ret [.tmp 6, .tmp 7] [vU qq, vU rr] rfl rfl (fun w_ hM => (.tmp rfl (.tmp rfl .nil))) (fun w_ hM => ?_)
      exact ⟨rfl, hM.done⟩
   · --
    have hlt1 : r1 + y1 < 4294967296 := by have := of_decide_eq_false hc3; omega
    refine st_skip ?_
    refine fin_block ?_
    refine fin_round (q1 - 1, r1 + y1) (by exact ⟨hst1, hlt1, show q1 - 1 ≤ 4294967297 by omega⟩) (by (show (4294967296 - (r1 + y1)).toNat < (4294967296 - r1).toNat; omega)) (look_has ⟨rfl, rfl, rfl, rfl, rfl, rfl, rfl, rfl, rfl, trivial⟩) (fun w_ hM => by exact hM)
  · --decide (4294967296 ≤ q1)
   have hsm1 : q1 < 4294967296 := by have := of_decide_eq_false hc2; omega
   have hml1 : q1 * y0 ≤ 4294967295 * 4294967295 := Int.mul_le_mul (by omega) (by omega) hy00 (by decide)
   have hmz1 : 0 ≤ q1 * y0 := Int.mul_nonneg (by omega) hy00
   have hqm1 : IntKind.u64.wrap (q1 * y0) = q1 * y0 := w64_in (by omega) (by omega)
   refine oR [oF 3, oF 4, oF 5] [(72, vU (IntKind.u64.wrap (q1 * y0))), (69, .bool false), (16, vU r1), (15, vU q1), (14, vU u0), (13, vU u1), (11, vU U), (10, vU y0), (9, vU y1), (2, vU y), (8, vU (s : Int))] [72, 69, 16, 15, 14, 13, 11, 10, 9, 2, 8] (by kernel_rfl) ?_
   refine ops_conv (l' := [(72, vU (q1 * y0)), (69, .bool false), (16, vU r1), (15, vU q1), (14, vU u0), (13, vU u1), (11, vU U), (10, vU y0), (9, vU y1), (2, vU y), (8, vU (s : Int))]) (by rw [hqm1]) (fun _ h => h) ?_
   refine oR [oF 6, oF 7] [(74, vU (IntKind.u64.wrap (4294967296 * r1))), (72, vU (q1 * y0)), (69, .bool false), (16, vU r1), (15, vU q1), (14, vU u0), (13, vU u1), (11, vU U), (10, vU y0), (9, vU y1), (2, vU y), (8, vU (s : Int))] [74, 72, 69, 16, 15, 14, 13, 11, 10, 9, 2, 8] (by kernel_rfl) ?_
   refine ops_conv (l' := [(74, vU (4294967296 * r1)), (72, vU (q1 * y0)), (69, .bool false), (16, vU r1), (15, vU q1), (14, vU u0), (13, vU u1), (11, vU U), (10, vU y0), (9, vU y1), (2, vU y), (8, vU (s : Int))]) (by rw [hbr1]) (fun _ h => h) ?_
   refine oR [oF 8, oF 9] [(76, vU (IntKind.u64.wrap ((4294967296 * r1) + u1))), (72, vU (q1 * y0)), (69, .bool false), (16, vU r1), (15, vU q1), (14, vU u0), (13, vU u1), (11, vU U), (10, vU y0), (9, vU y1), (2, vU y), (8, vU (s : Int))] [76, 72, 69, 16, 15, 14, 13, 11, 10, 9, 2, 8] (by kernel_rfl) ?_
   refine ops_conv (l' := [(76, vU (4294967296 * r1 + u1)), (72, vU (q1 * y0)), (69, .bool false), (16, vU r1), (15, vU q1), (14, vU u0), (13, vU u1), (11, vU U), (10, vU y0), (9, vU y1), (2, vU y), (8, vU (s : Int))]) (by rw [hbs1]) (fun _ h => h) ?_
   refine oR [oF 10, oF 11] [(78, .bool (decide ((4294967296 * r1 + u1) < (q1 * y0)))), (16, vU r1), (15, vU q1), (14, vU u0), (13, vU u1), (11, vU U), (10, vU y0), (9, vU y1), (2, vU y), (8, vU (s : Int))] [78, 16, 15, 14, 13, 11, 10, 9, 2, 8] (by kernel_rfl) ?_
   refine ops_nil ?_
   refine fin_then ?_
   refine st_if (b := decide ((4294967296 * r1 + u1) < (q1 * y0))) rfl (fun hc8 => ?_) (fun hc8 => ?_)
   · --
    have hst1 := ht1.step hyy hypos (by rw [hQ1]; omega) (by omega) (by have := of_decide_eq_true hc8; omega)
    have hqp1 : 1 ≤ q1 := by have := hst1.ge; rw [hQ1] at this; omega
    have hqd1 : IntKind.u64.wrap (q1 - 1) = q1 - 1 := w64_in (by omega) (by omega)
    have hrd1 : IntKind.u64.wrap (r1 + y1) = r1 + y1 := w64_in (by omega) (by omega)
    refine st_skip ?_
    refine fin_then ?_
    refine st_block ?_
    refine st_seq ?_
    refine st_region [oF 0, oF 1, oF 2] (by rfl) ?_
    refine oR [oF 0, oF 1] [(80, vU (IntKind.u64.wrap (q1 - 1))), (16, vU r1), (15, vU q1), (14, vU u0), (13, vU u1), (11, vU U), (10, vU y0), (9, vU y1), (2, vU y), (8, vU (s : Int))] [80, 16, 15, 14, 13, 11, 10, 9, 2, 8] (by kernel_rfl) ?_
    refine ops_conv (l' := [(80, vU (q1 - 1)), (16, vU r1), (15, vU q1), (14, vU u0), (13, vU u1), (11, vU U), (10, vU y0), (9, vU y1), (2, vU y), (8, vU (s : Int))]) (by rw [hqd1]) (fun _ h => h) ?_
    refine oR [oF 2] [(15, vU (q1 - 1)), (16, vU r1), (14, vU u0), (13, vU u1), (11, vU U), (10, vU y0), (9, vU y1), (2, vU y), (8, vU (s : Int))] [15, 16, 14, 13, 11, 10, 9, 2, 8] (by kernel_rfl) ?_
    refine ops_nil ?_
    refine fin_then ?_
    refine st_seq ?_
    refine st_region [oF 0, oF 1, oF 2, oF 3] (by rfl) ?_
    refine oR [oF 0, oF 1, oF 2] [(83, vU (IntKind.u64.wrap (r1 + y1))), (15, vU (q1 - 1)), (16, vU r1), (14, vU u0), (13, vU u1), (11, vU U), (10, vU y0), (9, vU y1), (2, vU y), (8, vU (s : Int))] [83, 15, 16, 14, 13, 11, 10, 9, 2, 8] (by kernel_rfl) ?_
    refine ops_conv (l' := [(83, vU (r1 + y1)), (15, vU (q1 - 1)), (16, vU r1), (14, vU u0), (13, vU u1), (11, vU U), (10, vU y0), (9, vU y1), (2, vU y), (8, vU (s : Int))]) (by rw [hrd1]) (fun _ h => h) ?_
    refine oR [oF 3] [(16, vU (r1 + y1)), (15, vU (q1 - 1)), (14, vU u0), (13, vU u1), (11, vU U), (10, vU y0), (9, vU y1), (2, vU y), (8, vU (s : Int))] [16, 15, 14, 13, 11, 10, 9, 2, 8] (by kernel_rfl) ?_
    refine ops_nil ?_
    refine fin_then ?_
    refine st_seq ?_
    refine st_region [oF 0, oF 1] (by rfl) ?_
    refine oR [oF 0, oF 1] [(85, .bool (decide (4294967296 ≤ (r1 + y1)))), (16, vU (r1 + y1)), (15, vU (q1 - 1)), (14, vU u0), (13, vU u1), (11, vU U), (10, vU y0), (9, vU y1), (2, vU y), (8, vU (s : Int))] [85, 16, 15, 14, 13, 11, 10, 9, 2, 8] (by kernel_rfl) ?_
    refine ops_nil ?_
    refine fin_then ?_
    refine st_if (b := decide (4294967296 ≤ (r1 + y1))) rfl (fun hc9 => ?_) (fun hc9 => ?_)
    · --
     have hE1 : q1 - 1 = Q1 := by have z := hst1.brk hyy hypos (by have := of_decide_eq_true hc9; omega) (by omega) hy00 hy01 (by omega); rw [hQ1] at z; exact z
     refine st_exit ?_
     refine fin_exit_ne (by rfl) ?_
     refine fin_exit_then ?_
     refine fin_exit ?_
     refine fin_then ?_
     refine st_seq ?_
     refine st_region [oF 0, oF 1, oF 2, oF 3, oF 4, oF 5, oF 6, oF 7, oF 8] (by rfl) ?_
     refine oR [] [(15, vU (q1 - 1)), (14, vU u0), (13, vU u1), (11, vU U), (10, vU y0), (9, vU y1), (2, vU y), (8, vU (s : Int))] [15, 14, 13, 11, 10, 9, 2, 8] (by kernel_rfl) ?_
     refine ops_conv (l' := [(15, vU Q1), (14, vU u0), (13, vU u1), (11, vU U), (10, vU y0), (9, vU y1), (2, vU y), (8, vU (s : Int))]) (by rw [hE1]) (fun _ h => h) ?_
     refine oR [oF 0, oF 1, oF 2, oF 3, oF 4, oF 5, oF 6, oF 7] [(93, vU (IntKind.u64.wrap (IntKind.u64.wrap (IntKind.u64.wrap (U * 4294967296) + u1) - IntKind.u64.wrap (Q1 * y)))), (15, vU Q1), (14, vU u0), (10, vU y0), (9, vU y1), (2, vU y), (8, vU (s : Int))] [93, 15, 14, 10, 9, 2, 8] (by kernel_rfl) ?_
     refine ops_conv (l' := [(93, vU R1), (15, vU Q1), (14, vU u0), (10, vU y0), (9, vU y1), (2, vU y), (8, vU (s : Int))]) (by rw [hwR1]) (fun _ h => h) ?_
     refine oR [oF 8] [(17, vU R1), (15, vU Q1), (14, vU u0), (10, vU y0), (9, vU y1), (2, vU y), (8, vU (s : Int))] [17, 15, 14, 10, 9, 2, 8] (by kernel_rfl) ?_
     refine ops_nil ?_
     refine fin_then ?_
     refine st_seq ?_
     refine st_region [oF 0, oF 1, oF 2, oF 3] (by rfl) ?_
     refine oR [oF 0, oF 1] [(95, vU y1), (94, vU R1), (17, vU R1), (15, vU Q1), (14, vU u0), (10, vU y0), (9, vU y1), (2, vU y), (8, vU (s : Int))] [95, 94, 17, 15, 14, 10, 9, 2, 8] (by kernel_rfl) ?_
     refine ops_val (op := (Go.Op.binOp Go.BinOp.quo 53 (Go.Operand.tmp 94) (Go.Operand.tmp 95) 53)) (d := some 96) (v := vU (IntKind.u64.wrap (Int.tdiv R1 y1))) ⟨by kernel_rfl⟩ (run_quo rfl rfl (by omega)) ?_
     refine oR [] [(96, vU (IntKind.u64.wrap (Int.tdiv R1 y1))), (17, vU R1), (15, vU Q1), (14, vU u0), (10, vU y0), (9, vU y1), (2, vU y), (8, vU (s : Int))] [96, 17, 15, 14, 10, 9, 2, 8] (by kernel_rfl) ?_
     refine ops_conv (l' := [(96, vU (R1 / y1)), (17, vU R1), (15, vU Q1), (14, vU u0), (10, vU y0), (9, vU y1), (2, vU y), (8, vU (s : Int))]) (by rw [hwq2]) (fun _ h => h) ?_
     refine oR [oF 3] [(18, vU (R1 / y1)), (17, vU R1), (15, vU Q1), (14, vU u0), (10, vU y0), (9, vU y1), (2, vU y), (8, vU (s : Int))] [18, 17, 15, 14, 10, 9, 2, 8] (by kernel_rfl) ?_
     refine ops_nil ?_
     refine fin_then ?_
     refine st_seq ?_
     refine st_region [oF 0, oF 1, oF 2, oF 3, oF 4, oF 5] (by rfl) ?_
     refine oR [oF 0, oF 1, oF 2, oF 3] [(100, vU (IntKind.u64.wrap ((R1 / y1) * y1))), (97, vU R1), (18, vU (R1 / y1)), (17, vU R1), (15, vU Q1), (14, vU u0), (10, vU y0), (9, vU y1), (2, vU y), (8, vU (s : Int))] [100, 97, 18, 17, 15, 14, 10, 9, 2, 8] (by kernel_rfl) ?_
     refine ops_conv (l' := [(100, vU (R1 / y1 * y1)), (97, vU R1), (18, vU (R1 / y1)), (17, vU R1), (15, vU Q1), (14, vU u0), (10, vU y0), (9, vU y1), (2, vU y), (8, vU (s : Int))]) (by rw [hwm2]) (fun _ h => h) ?_
     refine oR [oF 4] [(101, vU (IntKind.u64.wrap (R1 - (R1 / y1 * y1)))), (18, vU (R1 / y1)), (17, vU R1), (15, vU Q1), (14, vU u0), (10, vU y0), (9, vU y1), (2, vU y), (8, vU (s : Int))] [101, 18, 17, 15, 14, 10, 9, 2, 8] (by kernel_rfl) ?_
     refine ops_conv (l' := [(101, vU (R1 % y1)), (18, vU (R1 / y1)), (17, vU R1), (15, vU Q1), (14, vU u0), (10, vU y0), (9, vU y1), (2, vU y), (8, vU (s : Int))]) (by rw [hwr2]) (fun _ h => h) ?_
     refine oR [oF 5] [(16, vU (R1 % y1)), (18, vU (R1 / y1)), (17, vU R1), (15, vU Q1), (14, vU u0), (10, vU y0), (9, vU y1), (2, vU y), (8, vU (s : Int))] [16, 18, 17, 15, 14, 10, 9, 2, 8] (by kernel_rfl) ?_
     refine ops_nil ?_
     refine fin_then ?_
     refine st_seq ?_
     refine st_block ?_
     refine st_loop (σ := Int × Int) (R1 / y1, R1 % y1) (fun x_ => match x_ with | (q2, r2) => [(16, vU r2), (18, vU q2), (17, vU R1), (15, vU Q1), (14, vU u0), (10, vU y0), (9, vU y1), (2, vU y), (8, vU (s : Int))]) (fun x_ => match x_ with | (q2, r2) => Mem w []) (fun x_ => match x_ with | (q2, r2) => Try R1 u0 y1 y0 y q2 r2 ∧ r2 < 4294967296 ∧ q2 ≤ 4294967297) (fun x_ => match x_ with | (q2, r2) => (4294967296 - r2).toNat) (by exact ⟨hj1, by show _ < (4294967296 : Int); omega, by show _ ≤ (4294967297 : Int); omega⟩) (look_has ⟨rfl, rfl, rfl, rfl, rfl, rfl, rfl, rfl, rfl, trivial⟩) (fun w_ hM => by exact hM) ?_
     rintro ⟨q2, r2⟩ hI
     obtain ⟨ht2, hrb2, hqb2⟩ := hI
     have ht2 : Try R1 u0 y1 y0 y q2 r2 := ht2
     have hrb2 : r2 < 4294967296 := hrb2
     have hqb2 : q2 ≤ 4294967297 := hqb2
     have hlo2 := ht2.lo
     have hge2 := ht2.ge
     rw [hQ0] at hge2
     have hbr2 : IntKind.u64.wrap (4294967296 * r2) = 4294967296 * r2 := w64_in (by omega) (by omega)
     have hbs2 : IntKind.u64.wrap (4294967296 * r2 + u0) = 4294967296 * r2 + u0 := w64_in (by omega) (by omega)
     refine st_seq ?_
     refine st_seq ?_
     refine st_region [oF 0, oF 1, oF 2, oF 3, oF 4, oF 5, oF 6, oF 7, oF 8, oF 9, oF 10, oF 11] (by rfl) ?_
     refine oR [oF 0, oF 1, oF 2] [(104, .bool (decide (4294967296 ≤ q2))), (16, vU r2), (18, vU q2), (17, vU R1), (15, vU Q1), (14, vU u0), (10, vU y0), (9, vU y1), (2, vU y), (8, vU (s : Int))] [104, 16, 18, 17, 15, 14, 10, 9, 2, 8] (by kernel_rfl) ?_
     refine ops_bool (t := decide (4294967296 ≤ q2)) (l1 := [(104, .bool true), (16, vU r2), (18, vU q2), (17, vU R1), (15, vU Q1), (14, vU u0), (10, vU y0), (9, vU y1), (2, vU y), (8, vU (s : Int))]) (l2 := [(104, .bool false), (16, vU r2), (18, vU q2), (17, vU R1), (15, vU Q1), (14, vU u0), (10, vU y0), (9, vU y1), (2, vU y), (8, vU (s : Int))]) (fun h => by rw [h]) (fun h => by rw [h]) (fun hc10 => ?_) (fun hc10 => ?_)
     · --decide (4294967296 ≤ q2)
      have hst2 := ht2.step hyy hypos (by rw [hQ0]; omega) (by omega) (by have := of_decide_eq_true hc10; omega)
      have hqp2 : 1 ≤ q2 := by have := hst2.ge; rw [hQ0] at this; omega
      have hqd2 : IntKind.u64.wrap (q2 - 1) = q2 - 1 := w64_in (by omega) (by omega)
      have hrd2 : IntKind.u64.wrap (r2 + y1) = r2 + y1 := w64_in (by omega) (by omega)
      refine oR [oF 3, oF 4, oF 5, oF 6, oF 7, oF 8, oF 9, oF 10, oF 11] [(113, .bool true), (16, vU r2), (18, vU q2), (17, vU R1), (15, vU Q1), (14, vU u0), (10, vU y0), (9, vU y1), (2, vU y), (8, vU (s : Int))] [113, 16, 18, 17, 15, 14, 10, 9, 2, 8] (by kernel_rfl) ?_
      refine ops_nil ?_
      refine fin_then ?_
      refine st_true rfl ?_
      refine st_skip ?_
      refine fin_then ?_
      refine st_block ?_
      refine st_seq ?_
      refine st_region [oF 0, oF 1, oF 2] (by rfl) ?_
      refine oR [oF 0, oF 1] [(115, vU (IntKind.u64.wrap (q2 - 1))), (16, vU r2), (18, vU q2), (17, vU R1), (15, vU Q1), (14, vU u0), (10, vU y0), (9, vU y1), (2, vU y), (8, vU (s : Int))] [115, 16, 18, 17, 15, 14, 10, 9, 2, 8] (by kernel_rfl) ?_
      refine ops_conv (l' := [(115, vU (q2 - 1)), (16, vU r2), (18, vU q2), (17, vU R1), (15, vU Q1), (14, vU u0), (10, vU y0), (9, vU y1), (2, vU y), (8, vU (s : Int))]) (by rw [hqd2]) (fun _ h => h) ?_
      refine oR [oF 2] [(18, vU (q2 - 1)), (16, vU r2), (17, vU R1), (15, vU Q1), (14, vU u0), (10, vU y0), (9, vU y1), (2, vU y), (8, vU (s : Int))] [18, 16, 17, 15, 14, 10, 9, 2, 8] (by kernel_rfl) ?_
      refine ops_nil ?_
      refine fin_then ?_
      refine st_seq ?_
      refine st_region [oF 0, oF 1, oF 2, oF 3] (by rfl) ?_
      refine oR [oF 0, oF 1, oF 2] [(118, vU (IntKind.u64.wrap (r2 + y1))), (18, vU (q2 - 1)), (16, vU r2), (17, vU R1), (15, vU Q1), (14, vU u0), (10, vU y0), (9, vU y1), (2, vU y), (8, vU (s : Int))] [118, 18, 16, 17, 15, 14, 10, 9, 2, 8] (by kernel_rfl) ?_
      refine ops_conv (l' := [(118, vU (r2 + y1)), (18, vU (q2 - 1)), (16, vU r2), (17, vU R1), (15, vU Q1), (14, vU u0), (10, vU y0), (9, vU y1), (2, vU y), (8, vU (s : Int))]) (by rw [hrd2]) (fun _ h => h) ?_
      refine oR [oF 3] [(16, vU (r2 + y1)), (18, vU (q2 - 1)), (17, vU R1), (15, vU Q1), (14, vU u0), (10, vU y0), (9, vU y1), (2, vU y), (8, vU (s : Int))] [16, 18, 17, 15, 14, 10, 9, 2, 8] (by kernel_rfl) ?_
      refine ops_nil ?_
      refine fin_then ?_
      refine st_seq ?_
      refine st_region [oF 0, oF 1] (by rfl) ?_
      refine oR [oF 0, oF 1] [(120, .bool (decide (4294967296 ≤ (r2 + y1)))), (16, vU (r2 + y1)), (18, vU (q2 - 1)), (17, vU R1), (15, vU Q1), (14, vU u0), (10, vU y0), (9, vU y1), (2, vU y), (8, vU (s : Int))] [120, 16, 18, 17, 15, 14, 10, 9, 2, 8] (by kernel_rfl) ?_
      refine ops_nil ?_
      refine fin_then ?_
      refine st_if (b := decide (4294967296 ≤ (r2 + y1))) rfl (fun hc11 => ?_) (fun hc11 => ?_)
      · --
       have hE2 : q2 - 1 = Q0 := by have z := hst2.brk hyy hypos (by have := of_decide_eq_true hc11; omega) (by omega) hy00 hy01 (by omega); rw [hQ0] at z; exact z
       refine st_exit ?_
       refine fin_exit_ne (by rfl) ?_
       refine fin_exit_then ?_
       refine fin_exit ?_
       refine fin_then ?_
       refine st_seq ?_
       refine st_region [oF 0, oF 1, oF 2, oF 3, oF 4, oF 5, oF 6, oF 7, oF 8, oF 9, oF 10, oF 11, oF 12, oF 13, oF 14, oF 15] (by rfl) ?_
       refine oR [] [(18, vU (q2 - 1)), (17, vU R1), (15, vU Q1), (14, vU u0), (2, vU y), (8, vU (s : Int))] [18, 17, 15, 14, 2, 8] (by kernel_rfl) ?_
       refine ops_conv (l' := [(18, vU Q0), (17, vU R1), (15, vU Q1), (14, vU u0), (2, vU y), (8, vU (s : Int))]) (by rw [hE2]) (fun _ h => h) ?_
       refine oR [oF 0, oF 1] [(122, vU (IntKind.u64.wrap (Q1 * 4294967296))), (18, vU Q0), (17, vU R1), (14, vU u0), (2, vU y), (8, vU (s : Int))] [122, 18, 17, 14, 2, 8] (by kernel_rfl) ?_
       refine ops_conv (l' := [(122, vU (Q1 * 4294967296)), (18, vU Q0), (17, vU R1), (14, vU u0), (2, vU y), (8, vU (s : Int))]) (by rw [hwQB]) (fun _ h => h) ?_
       refine oR [oF 2, oF 3] [(124, vU (IntKind.u64.wrap ((Q1 * 4294967296) + Q0))), (18, vU Q0), (17, vU R1), (14, vU u0), (2, vU y), (8, vU (s : Int))] [124, 18, 17, 14, 2, 8] (by kernel_rfl) ?_
       refine ops_conv (l' := [(124, vU qq), (18, vU Q0), (17, vU R1), (14, vU u0), (2, vU y), (8, vU (s : Int))]) (by rw [hwqq]) (fun _ h => h) ?_
       refine oR [oF 4, oF 5, oF 6, oF 7, oF 8, oF 9, oF 10, oF 11] [(132, vU (IntKind.u64.wrap (IntKind.u64.wrap (IntKind.u64.wrap (R1 * 4294967296) + u0) - IntKind.u64.wrap (Q0 * y)))), (124, vU qq), (8, vU (s : Int))] [132, 124, 8] (by kernel_rfl) ?_
       refine ops_conv (l' := [(132, vU R0), (124, vU qq), (8, vU (s : Int))]) (by rw [hwR0]) (fun _ h => h) ?_
       refine oR [oF 12] [(133, vU (s : Int)), (132, vU R0), (124, vU qq)] [133, 132, 124] (by kernel_rfl) ?_
       refine ops_val (op := (Go.Op.binOp Go.BinOp.shr 53 (Go.Operand.tmp 132) (Go.Operand.tmp 133) 131)) (d := some 134) (v := vU (Int.fdiv R0 (2 ^ min ((s : Int)).toNat 64))) ⟨by kernel_rfl⟩ (run_shr rfl rfl (by omega)) ?_
       refine oR [] [(134, vU (Int.fdiv R0 (2 ^ min ((s : Int)).toNat 64))), (124, vU qq)] [134, 124] (by kernel_rfl) ?_
       refine ops_conv (l' := [(134, vU rr), (124, vU qq)]) (by rw [hwrr]) (fun _ h => h) ?_
       refine oR [oF 14, oF 15] [(7, vU rr), (6, vU qq)] [7, 6] (by kernel_rfl) ?_
       refine ops_nil ?_
       refine fin_then ?_
       refine st_ret ?_
       refine fin_ret [.tmp 6, .tmp 7] [vU qq, vU rr] rfl rfl (fun w_ hM => (.tmp rfl (.tmp rfl .nil))) (fun w_ hM => ?_)
       exact ⟨rfl, hM.done⟩
      · --
       have hlt2 : r2 + y1 < 4294967296 := by have := of_decide_eq_false hc11; omega
       refine st_skip ?_
       refine fin_block ?_
       refine fin_round (q2 - 1, r2 + y1) (by exact ⟨hst2, hlt2, show q2 - 1 ≤ 4294967297 by omega⟩) (by (show (4294967296 - (r2 + y1)).toNat < (4294967296 - r2).toNat; omega)) (look_has ⟨rfl, rfl, rfl, rfl, rfl, rfl, rfl, rfl, rfl, trivial⟩) (fun w_ hM => by exact hM)
     · --decide (4294967296 ≤ q2)
      have hsm2 : q2 < 4294967296 := by have := of_decide_eq_false hc10; omega
      have hml2 : q2 * y0 ≤ 4294967295 * 4294967295 := Int.mul_le_mul (by omega) (by omega) hy00 (by decide)
      have hmz2 : 0 ≤ q2 * y0 := Int.mul_nonneg (by omega) hy00
      have hqm2 : IntKind.u64.wrap (q2 * y0) = q2 * y0 := w64_in (by omega) (by omega)
      refine oR [oF 3, oF 4, oF 5] [(107, vU (IntKind.u64.wrap (q2 * y0))), (104, .bool false), (16, vU r2), (18, vU q2), (17, vU R1), (15, vU Q1), (14, vU u0), (10, vU y0), (9, vU y1), (2, vU y), (8, vU (s : Int))] [107, 104, 16, 18, 17, 15, 14, 10, 9, 2, 8] (by kernel_rfl) ?_
      refine ops_conv (l' := [(107, vU (q2 * y0)), (104, .bool false), (16, vU r2), (18, vU q2), (17, vU R1), (15, vU Q1), (14, vU u0), (10, vU y0), (9, vU y1), (2, vU y), (8, vU (s : Int))]) (by rw [hqm2]) (fun _ h => h) ?_
      refine oR [oF 6, oF 7] [(109, vU (IntKind.u64.wrap (4294967296 * r2))), (107, vU (q2 * y0)), (104, .bool false), (16, vU r2), (18, vU q2), (17, vU R1), (15, vU Q1), (14, vU u0), (10, vU y0), (9, vU y1), (2, vU y), (8, vU (s : Int))] [109, 107, 104, 16, 18, 17, 15, 14, 10, 9, 2, 8] (by kernel_rfl) ?_
      refine ops_conv (l' := [(109, vU (4294967296 * r2)), (107, vU (q2 * y0)), (104, .bool false), (16, vU r2), (18, vU q2), (17, vU R1), (15, vU Q1), (14, vU u0), (10, vU y0), (9, vU y1), (2, vU y), (8, vU (s : Int))]) (by rw [hbr2]) (fun _ h => h) ?_
      refine oR [oF 8, oF 9] [(111, vU (IntKind.u64.wrap ((4294967296 * r2) + u0))), (107, vU (q2 * y0)), (104, .bool false), (16, vU r2), (18, vU q2), (17, vU R1), (15, vU Q1), (14, vU u0), (10, vU y0), (9, vU y1), (2, vU y), (8, vU (s : Int))] [111, 107, 104, 16, 18, 17, 15, 14, 10, 9, 2, 8] (by kernel_rfl) ?_
      refine ops_conv (l' := [(111, vU (4294967296 * r2 + u0)), (107, vU (q2 * y0)), (104, .bool false), (16, vU r2), (18, vU q2), (17, vU R1), (15, vU Q1), (14, vU u0), (10, vU y0), (9, vU y1), (2, vU y), (8, vU (s : Int))]) (by rw [hbs2]) (fun _ h => h) ?_
      refine oR [oF 10, oF 11] [(113, .bool (decide ((4294967296 * r2 + u0) < (q2 * y0)))), (16, vU r2), (18, vU q2), (17, vU R1), (15, vU Q1), (14, vU u0), (10, vU y0), (9, vU y1), (2, vU y), (8, vU (s : Int))] [113, 16, 18, 17, 15, 14, 10, 9, 2, 8] (by kernel_rfl) ?_
      refine ops_nil ?_
      refine fin_then ?_
      refine st_if (b := decide ((4294967296 * r2 + u0) < (q2 * y0))) rfl (fun hc12 => ?_) (fun hc12 => ?_)
      · --
       have hst2 := ht2.step hyy hypos (by rw [hQ0]; omega) (by omega) (by have := of_decide_eq_true hc12; omega)
       have hqp2 : 1 ≤ q2 := by have := hst2.ge; rw [hQ0] at this; omega
       have hqd2 : IntKind.u64.wrap (q2 - 1) = q2 - 1 := w64_in (by omega) (by omega)
       have hrd2 : IntKind.u64.wrap (r2 + y1) = r2 + y1 := w64_in (by omega) (by omega)
       refine st_skip ?_
       refine fin_then ?_
       refine st_block ?_
       refine st_seq ?_
       refine st_region [oF 0, oF 1, oF 2] (by rfl) ?_
       refine oR [oF 0, oF 1] [(115, vU (IntKind.u64.wrap (q2 - 1))), (16, vU r2), (18, vU q2), (17, vU R1), (15, vU Q1), (14, vU u0), (10, vU y0), (9, vU y1), (2, vU y), (8, vU (s : Int))] [115, 16, 18, 17, 15, 14, 10, 9, 2, 8] (by kernel_rfl) ?_
       refine ops_conv (l' := [(115, vU (q2 - 1)), (16, vU r2), (18, vU q2), (17, vU R1), (15, vU Q1), (14, vU u0), (10, vU y0), (9, vU y1), (2, vU y), (8, vU (s : Int))]) (by rw [hqd2]) (fun _ h => h) ?_
       refine oR [oF 2] [(18, vU (q2 - 1)), (16, vU r2), (17, vU R1), (15, vU Q1), (14, vU u0), (10, vU y0), (9, vU y1), (2, vU y), (8, vU (s : Int))] [18, 16, 17, 15, 14, 10, 9, 2, 8] (by kernel_rfl) ?_
       refine ops_nil ?_
       refine fin_then ?_
       refine st_seq ?_
       refine st_region [oF 0, oF 1, oF 2, oF 3] (by rfl) ?_
       refine oR [oF 0, oF 1, oF 2] [(118, vU (IntKind.u64.wrap (r2 + y1))), (18, vU (q2 - 1)), (16, vU r2), (17, vU R1), (15, vU Q1), (14, vU u0), (10, vU y0), (9, vU y1), (2, vU y), (8, vU (s : Int))] [118, 18, 16, 17, 15, 14, 10, 9, 2, 8] (by kernel_rfl) ?_
       refine ops_conv (l' := [(118, vU (r2 + y1)), (18, vU (q2 - 1)), (16, vU r2), (17, vU R1), (15, vU Q1), (14, vU u0), (10, vU y0), (9, vU y1), (2, vU y), (8, vU (s : Int))]) (by rw [hrd2]) (fun _ h => h) ?_
       refine oR [oF 3] [(16, vU (r2 + y1)), (18, vU (q2 - 1)), (17, vU R1), (15, vU Q1), (14, vU u0), (10, vU y0), (9, vU y1), (2, vU y), (8, vU (s : Int))] [16, 18, 17, 15, 14, 10, 9, 2, 8] (by kernel_rfl) ?_
       refine ops_nil ?_
       refine fin_then ?_
       refine st_seq ?_
       refine st_region [oF 0, oF 1] (by rfl) ?_
       refine oR [oF 0, oF 1] [(120, .bool (decide (4294967296 ≤ (r2 + y1)))), (16, vU (r2 + y1)), (18, vU (q2 - 1)), (17, vU R1), (15, vU Q1), (14, vU u0), (10, vU y0), (9, vU y1), (2, vU y), (8, vU (s : Int))] [120, 16, 18, 17, 15, 14, 10, 9, 2, 8] (by kernel_rfl) ?_
       refine ops_nil ?_
       refine fin_then ?_
       refine st_if (b := decide (4294967296 ≤ (r2 + y1))) rfl (fun hc13 => ?_) (fun hc13 => ?_)
       · --
        have hE2 : q2 - 1 = Q0 := by have z := hst2.brk hyy hypos (by have := of_decide_eq_true hc13; omega) (by omega) hy00 hy01 (by omega); rw [hQ0] at z; exact z
        refine st_exit ?_
        refine fin_exit_ne (by rfl) ?_
        refine fin_exit_then ?_
        refine fin_exit ?_
        refine fin_then ?_
        refine st_seq ?_
        refine st_region [oF 0, oF 1, oF 2, oF 3, oF 4, oF 5, oF 6, oF 7, oF 8, oF 9, oF 10, oF 11, oF 12, oF 13, oF 14, oF 15] (by rfl) ?_
        refine oR [] [(18, vU (q2 - 1)), (17, vU R1), (15, vU Q1), (14, vU u0), (2, vU y), (8, vU (s : Int))] [18, 17, 15, 14, 2, 8] (by kernel_rfl) ?_
        refine ops_conv (l' := [(18, vU Q0), (17, vU R1), (15, vU Q1), (14, vU u0), (2, vU y), (8, vU (s : Int))]) (by rw [hE2]) (fun _ h => h) ?_
        refine oR [oF 0, oF 1] [(122, vU (IntKind.u64.wrap (Q1 * 4294967296))), (18, vU Q0), (17, vU R1), (14, vU u0), (2, vU y), (8, vU (s : Int))] [122, 18, 17, 14, 2, 8] (by kernel_rfl) ?_
        refine ops_conv (l' := [(122, vU (Q1 * 4294967296)), (18, vU Q0), (17, vU R1), (14, vU u0), (2, vU y), (8, vU (s : Int))]) (by rw [hwQB]) (fun _ h => h) ?_
        refine oR [oF 2, oF 3] [(124, vU (IntKind.u64.wrap ((Q1 * 4294967296) + Q0))), (18, vU Q0), (17, vU R1), (14, vU u0), (2, vU y), (8, vU (s : Int))] [124, 18, 17, 14, 2, 8] (by kernel_rfl) ?_
        refine ops_conv (l' := [(124, vU qq), (18, vU Q0), (17, vU R1), (14, vU u0), (2, vU y), (8, vU (s : Int))]) (by rw [hwqq]) (fun _ h => h) ?_
        refine oR [oF 4, oF 5, oF 6, oF 7, oF 8, oF 9, oF 10, oF 11] [(132, vU (IntKind.u64.wrap (IntKind.u64.wrap (IntKind.u64.wrap (R1 * 4294967296) + u0) - IntKind.u64.wrap (Q0 * y)))), (124, vU qq), (8, vU (s : Int))] [132, 124, 8] (by kernel_rfl) ?_
        refine ops_conv (l' := [(132, vU R0), (124, vU qq), (8, vU (s : Int))]) (by rw [hwR0]) (fun _ h => h) ?_
        refine oR [oF 12] [(133, vU (s : Int)), (132, vU R0), (124, vU qq)] [133, 132, 124] (by kernel_rfl) ?_
        refine ops_val (op := (Go.Op.binOp Go.BinOp.shr 53 (Go.Operand.tmp 132) (Go.Operand.tmp 133) 131)) (d := some 134) (v := vU (Int.fdiv R0 (2 ^ min ((s : Int)).toNat 64))) ⟨by kernel_rfl⟩ (run_shr rfl rfl (by omega)) ?_
        refine oR [] [(134, vU (Int.fdiv R0 (2 ^ min ((s : Int)).toNat 64))), (124, vU qq)] [134, 124] (by kernel_rfl) ?_
        refine ops_conv (l' := [(134, vU rr), (124, vU qq)]) (by rw [hwrr]) (fun _ h => h) ?_
        refine oR [oF 14, oF 15] [(7, vU rr), (6, vU qq)] [7, 6] (by kernel_rfl) ?_
        refine ops_nil ?_
        refine fin_then ?_
        refine st_ret ?_
        refine fin_ret [.tmp 6, .tmp 7] [vU qq, vU rr] rfl rfl (fun w_ hM => (.tmp rfl (.tmp rfl .nil))) (fun w_ hM => ?_)
        exact ⟨rfl, hM.done⟩
       · --
        have hlt2 : r2 + y1 < 4294967296 := by have := of_decide_eq_false hc13; omega
        refine st_skip ?_
        refine fin_block ?_
        refine fin_round (q2 - 1, r2 + y1) (by exact ⟨hst2, hlt2, show q2 - 1 ≤ 4294967297 by omega⟩) (by (show (4294967296 - (r2 + y1)).toNat < (4294967296 - r2).toNat; omega)) (look_has ⟨rfl, rfl, rfl, rfl, rfl, rfl, rfl, rfl, rfl, trivial⟩) (fun w_ hM => by exact hM)
      · --
       have hE2 : q2 = Q0 := by have z := ht2.done hyy hypos (by have := of_decide_eq_false hc12; omega); rw [hQ0] at z; exact z
       refine st_exit ?_
       refine fin_exit_then ?_
       refine fin_exit_then ?_
       refine fin_exit ?_
       refine fin_then ?_
       refine st_seq ?_
       refine st_region [oF 0, oF 1, oF 2, oF 3, oF 4, oF 5, oF 6, oF 7, oF 8, oF 9, oF 10, oF 11, oF 12, oF 13, oF 14, oF 15] (by rfl) ?_
       refine oR [] [(18, vU q2), (17, vU R1), (15, vU Q1), (14, vU u0), (2, vU y), (8, vU (s : Int))] [18, 17, 15, 14, 2, 8] (by kernel_rfl) ?_
       refine ops_conv (l' := [(18, vU Q0), (17, vU R1), (15, vU Q1), (14, vU u0), (2, vU y), (8, vU (s : Int))]) (by rw [hE2]) (fun _ h => h) ?_
       refine oR [oF 0, oF 1] [(122, vU (IntKind.u64.wrap (Q1 * 4294967296))), (18, vU Q0), (17, vU R1), (14, vU u0), (2, vU y), (8, vU (s : Int))] [122, 18, 17, 14, 2, 8] (by kernel_rfl) ?_
       refine ops_conv (l' := [(122, vU (Q1 * 4294967296)), (18, vU Q0), (17, vU R1), (14, vU u0), (2, vU y), (8, vU (s : Int))]) (by rw [hwQB]) (fun _ h => h) ?_
       refine oR [oF 2, oF 3] [(124, vU (IntKind.u64.wrap ((Q1 * 4294967296) + Q0))), (18, vU Q0), (17, vU R1), (14, vU u0), (2, vU y), (8, vU (s : Int))] [124, 18, 17, 14, 2, 8] (by kernel_rfl) ?_
       refine ops_conv (l' := [(124, vU qq), (18, vU Q0), (17, vU R1), (14, vU u0), (2, vU y), (8, vU (s : Int))]) (by rw [hwqq]) (fun _ h => h) ?_
       refine oR [oF 4, oF 5, oF 6, oF 7, oF 8, oF 9, oF 10, oF 11] [(132, vU (IntKind.u64.wrap (IntKind.u64.wrap (IntKind.u64.wrap (R1 * 4294967296) + u0) - IntKind.u64.wrap (Q0 * y)))), (124, vU qq), (8, vU (s : Int))] [132, 124, 8] (by kernel_rfl) ?_
       refine ops_conv (l' := [(132, vU R0), (124, vU qq), (8, vU (s : Int))]) (by rw [hwR0]) (fun _ h => h) ?_
       refine oR [oF 12] [(133, vU (s : Int)), (132, vU R0), (124, vU qq)] [133, 132, 124] (by kernel_rfl) ?_
       refine ops_val (op := (Go.Op.binOp Go.BinOp.shr 53 (Go.Operand.tmp 132) (Go.Operand.tmp 133) 131)) (d := some 134) (v := vU (Int.fdiv R0 (2 ^ min ((s : Int)).toNat 64))) ⟨by kernel_rfl⟩ (run_shr rfl rfl (by omega)) ?_
       refine oR [] [(134, vU (Int.fdiv R0 (2 ^ min ((s : Int)).toNat 64))), (124, vU qq)] [134, 124] (by kernel_rfl) ?_
       refine ops_conv (l' := [(134, vU rr), (124, vU qq)]) (by rw [hwrr]) (fun _ h => h) ?_
       refine oR [oF 14, oF 15] [(7, vU rr), (6, vU qq)] [7, 6] (by kernel_rfl) ?_
       refine ops_nil ?_
       refine fin_then ?_
       refine st_ret ?_
       refine fin_ret [.tmp 6, .tmp 7] [vU qq, vU rr] rfl rfl (fun w_ hM => (.tmp rfl (.tmp rfl .nil))) (fun w_ hM => ?_)
       exact ⟨rfl, hM.done⟩
    · --
     have hlt1 : r1 + y1 < 4294967296 := by have := of_decide_eq_false hc9; omega
     refine st_skip ?_
     refine fin_block ?_
     refine fin_round (q1 - 1, r1 + y1) (by exact ⟨hst1, hlt1, show q1 - 1 ≤ 4294967297 by omega⟩) (by (show (4294967296 - (r1 + y1)).toNat < (4294967296 - r1).toNat; omega)) (look_has ⟨rfl, rfl, rfl, rfl, rfl, rfl, rfl, rfl, rfl, trivial⟩) (fun w_ hM => by exact hM)
   · --
    have hE1 : q1 = Q1 := by have z := ht1.done hyy hypos (by have := of_decide_eq_false hc8; omega); rw [hQ1] at z; exact z
    refine st_exit ?_
    refine fin_exit_then ?_
    refine fin_exit_then ?_
    refine fin_exit ?_
    refine fin_then ?_
    refine st_seq ?_
    refine st_region [oF 0, oF 1, oF 2, oF 3, oF 4, oF 5, oF 6, oF 7, oF 8] (by rfl) ?_
    refine oR [] [(15, vU q1), (14, vU u0), (13, vU u1), (11, vU U), (10, vU y0), (9, vU y1), (2, vU y), (8, vU (s : Int))] [15, 14, 13, 11, 10, 9, 2, 8] (by kernel_rfl) ?_
    refine ops_conv (l' := [(15, vU Q1), (14, vU u0), (13, vU u1), (11, vU U), (10, vU y0), (9, vU y1), (2, vU y), (8, vU (s : Int))]) (by rw [hE1]) (fun _ h => h) ?_
    refine oR [oF 0, oF 1, oF 2, oF 3, oF 4, oF 5, oF 6, oF 7] [(93, vU (IntKind.u64.wrap (IntKind.u64.wrap (IntKind.u64.wrap (U * 4294967296) + u1) - IntKind.u64.wrap (Q1 * y)))), (15, vU Q1), (14, vU u0), (10, vU y0), (9, vU y1), (2, vU y), (8, vU (s : Int))] [93, 15, 14, 10, 9, 2, 8] (by kernel_rfl) ?_
    refine ops_conv (l' := [(93, vU R1), (15, vU Q1), (14, vU u0), (10, vU y0), (9, vU y1), (2, vU y), (8, vU (s : Int))]) (by rw [hwR1]) (fun _ h => h) ?_
    refine oR [oF 8] [(17, vU R1), (15, vU Q1), (14, vU u0), (10, vU y0), (9, vU y1), (2, vU y), (8, vU (s : Int))] [17, 15, 14, 10, 9, 2, 8] (by kernel_rfl) ?_
    refine ops_nil ?_
    refine fin_then ?_
    refine st_seq ?_
    refine st_region [oF 0, oF 1, oF 2, oF 3] (by rfl) ?_
    refine oR [oF 0, oF 1] [(95, vU y1), (94, vU R1), (17, vU R1), (15, vU Q1), (14, vU u0), (10, vU y0), (9, vU y1), (2, vU y), (8, vU (s : Int))] [95, 94, 17, 15, 14, 10, 9, 2, 8] (by kernel_rfl) ?_
    refine ops_val (op := (Go.Op.binOp Go.BinOp.quo 53 (Go.Operand.tmp 94) (Go.Operand.tmp 95) 53)) (d := some 96) (v := vU (IntKind.u64.wrap (Int.tdiv R1 y1))) ⟨by kernel_rfl⟩ (run_quo rfl rfl (by omega)) ?_
    refine oR [] [(96, vU (IntKind.u64.wrap (Int.tdiv R1 y1))), (17, vU R1), (15, vU Q1), (14, vU u0), (10, vU y0), (9, vU y1), (2, vU y), (8, vU (s : Int))] [96, 17, 15, 14, 10, 9, 2, 8] (by kernel_rfl) ?_
    refine ops_conv (l' := [(96, vU (R1 / y1)), (17, vU R1), (15, vU Q1), (14, vU u0), (10, vU y0), (9, vU y1), (2, vU y), (8, vU (s : Int))]) (by rw [hwq2]) (fun _ h => h) ?_
    refine oR [oF 3] [(18, vU (R1 / y1)), (17, vU R1), (15, vU Q1), (14, vU u0), (10, vU y0), (9, vU y1), (2, vU y), (8, vU (s : Int))] [18, 17, 15, 14, 10, 9, 2, 8] (by kernel_rfl) ?_
    refine ops_nil ?_
    refine fin_then ?_
    refine st_seq ?_
    refine st_region [oF 0, oF 1, oF 2, oF 3, oF 4, oF 5] (by rfl) ?_
    refine oR [oF 0, oF 1, oF 2, oF 3] [(100, vU (IntKind.u64.wrap ((R1 / y1) * y1))), (97, vU R1), (18, vU (R1 / y1)), (17, vU R1), (15, vU Q1), (14, vU u0), (10, vU y0), (9, vU y1), (2, vU y), (8, vU (s : Int))] [100, 97, 18, 17, 15, 14, 10, 9, 2, 8] (by kernel_rfl) ?_
    refine ops_conv (l' := [(100, vU (R1 / y1 * y1)), (97, vU R1), (18, vU (R1 / y1)), (17, vU R1), (15, vU Q1), (14, vU u0), (10, vU y0), (9, vU y1), (2, vU y), (8, vU (s : Int))]) (by rw [hwm2]) (fun _ h => h) ?_
    refine oR [oF 4] [(101, vU (IntKind.u64.wrap (R1 - (R1 / y1 * y1)))), (18, vU (R1 / y1)), (17, vU R1), (15, vU Q1), (14, vU u0), (10, vU y0), (9, vU y1), (2, vU y), (8, vU (s : Int))] [101, 18, 17, 15, 14, 10, 9, 2, 8] (by kernel_rfl) ?_
    refine ops_conv (l' := [(101, vU (R1 % y1)), (18, vU (R1 / y1)), (17, vU R1), (15, vU Q1), (14, vU u0), (10, vU y0), (9, vU y1), (2, vU y), (8, vU (s : Int))]) (by rw [hwr2]) (fun _ h => h) ?_
    refine oR [oF 5] [(16, vU (R1 % y1)), (18, vU (R1 / y1)), (17, vU R1), (15, vU Q1), (14, vU u0), (10, vU y0), (9, vU y1), (2, vU y), (8, vU (s : Int))] [16, 18, 17, 15, 14, 10, 9, 2, 8] (by kernel_rfl) ?_
    refine ops_nil ?_
    refine fin_then ?_
    refine st_seq ?_
    refine st_block ?_
    refine st_loop (σ := Int × Int) (R1 / y1, R1 % y1) (fun x_ => match x_ with | (q2, r2) => [(16, vU r2), (18, vU q2), (17, vU R1), (15, vU Q1), (14, vU u0), (10, vU y0), (9, vU y1), (2, vU y), (8, vU (s : Int))]) (fun x_ => match x_ with | (q2, r2) => Mem w []) (fun x_ => match x_ with | (q2, r2) => Try R1 u0 y1 y0 y q2 r2 ∧ r2 < 4294967296 ∧ q2 ≤ 4294967297) (fun x_ => match x_ with | (q2, r2) => (4294967296 - r2).toNat) (by exact ⟨hj1, by show _ < (4294967296 : Int); omega, by show _ ≤ (4294967297 : Int); omega⟩) (look_has ⟨rfl, rfl, rfl, rfl, rfl, rfl, rfl, rfl, rfl, trivial⟩) (fun w_ hM => by exact hM) ?_
    rintro ⟨q2, r2⟩ hI
    obtain ⟨ht2, hrb2, hqb2⟩ := hI
    have ht2 : Try R1 u0 y1 y0 y q2 r2 := ht2
    have hrb2 : r2 < 4294967296 := hrb2
    have hqb2 : q2 ≤ 4294967297 := hqb2
    have hlo2 := ht2.lo
    have hge2 := ht2.ge
    rw [hQ0] at hge2
    have hbr2 : IntKind.u64.wrap (4294967296 * r2) = 4294967296 * r2 := w64_in (by omega) (by omega)
    have hbs2 : IntKind.u64.wrap (4294967296 * r2 + u0) = 4294967296 * r2 + u0 := w64_in (by omega) (by omega)
    refine st_seq ?_
    refine st_seq ?_
    refine st_region [oF 0, oF 1, oF 2, oF 3, oF 4, oF 5, oF 6, oF 7, oF 8, oF 9, oF 10, oF 11] (by rfl) ?_
    refine oR [oF 0, oF 1, oF 2] [(104, .bool (decide (4294967296 ≤ q2))), (16, vU r2), (18, vU q2), (17, vU R1), (15, vU Q1), (14, vU u0), (10, vU y0), (9, vU y1), (2, vU y), (8, vU (s : Int))] [104, 16, 18, 17, 15, 14, 10, 9, 2, 8] (by kernel_rfl) ?_
    refine ops_bool (t := decide (4294967296 ≤ q2)) (l1 := [(104, .bool true), (16, vU r2), (18, vU q2), (17, vU R1), (15, vU Q1), (14, vU u0), (10, vU y0), (9, vU y1), (2, vU y), (8, vU (s : Int))]) (l2 := [(104, .bool false), (16, vU r2), (18, vU q2), (17, vU R1), (15, vU Q1), (14, vU u0), (10, vU y0), (9, vU y1), (2, vU y), (8, vU (s : Int))]) (fun h => by rw [h]) (fun h => by rw [h]) (fun hc14 => ?_) (fun hc14 => ?_)
    · --decide (4294967296 ≤ q2)
     have hst2 := ht2.step hyy hypos (by rw [hQ0]; omega) (by omega) (by have := of_decide_eq_true hc14; omega)
     have hqp2 : 1 ≤ q2 := by have := hst2.ge; rw [hQ0] at this; omega
     have hqd2 : IntKind.u64.wrap (q2 - 1) = q2 - 1 := w64_in (by omega) (by omega)
     have hrd2 : IntKind.u64.wrap (r2 + y1) = r2 + y1 := w64_in (by omega) (by omega)
     refine oR [oF 3, oF 4, oF 5, oF 6, oF 7, oF 8, oF 9, oF 10, oF 11] [(113, .bool true), (16, vU r2), (18, vU q2), (17, vU R1), (15, vU Q1), (14, vU u0), (10, vU y0), (9, vU y1), (2, vU y), (8, vU (s : Int))] [113, 16, 18, 17, 15, 14, 10, 9, 2, 8] (by kernel_rfl) ?_
     refine ops_nil ?_
     refine fin_then ?_
     refine st_true rfl ?_
     refine st_skip ?_
     refine fin_then ?_
     refine st_block ?_
     refine st_seq ?_
     refine st_region [oF 0, oF 1, oF 2] (by rfl) ?_
     refine oR [oF 0, oF 1] [(115, vU (IntKind.u64.wrap (q2 - 1))), (16, vU r2), (18, vU q2), (17, vU R1), (15, vU Q1), (14, vU u0), (10, vU y0), (9, vU y1), (2, vU y), (8, vU (s : Int))] [115, 16, 18, 17, 15, 14, 10, 9, 2, 8] (by kernel_rfl) ?_
     refine ops_conv (l' := [(115, vU (q2 - 1)), (16, vU r2), (18, vU q2), (17, vU R1), (15, vU Q1), (14, vU u0), (10, vU y0), (9, vU y1), (2, vU y), (8, vU (s : Int))]) (by rw [hqd2]) (fun _ h => h) ?_
     refine oR [oF 2] [(18, vU (q2 - 1)), (16, vU r2), (17, vU R1), (15, vU Q1), (14, vU u0), (10, vU y0), (9, vU y1), (2, vU y), (8, vU (s : Int))] [18, 16, 17, 15, 14, 10, 9, 2, 8] (by kernel_rfl) ?_
     refine ops_nil ?_
     refine fin_then ?_
     refine st_seq ?_
     refine st_region [oF 0, oF 1, oF 2, oF 3] (by rfl) ?_
     refine oR [oF 0, oF 1, oF 2] [(118, vU (IntKind.u64.wrap (r2 + y1))), (18, vU (q2 - 1)), (16, vU r2), (17, vU R1), (15, vU Q1), (14, vU u0), (10, vU y0), (9, vU y1), (2, vU y), (8, vU (s : Int))] [118, 18, 16, 17, 15, 14, 10, 9, 2, 8] (by kernel_rfl) ?_
     refine ops_conv (l' := [(118, vU (r2 + y1)), (18, vU (q2 - 1)), (16, vU r2), (17, vU R1), (15, vU Q1), (14, vU u0), (10, vU y0), (9, vU y1), (2, vU y), (8, vU (s : Int))]) (by rw [hrd2]) (fun _ h => h) ?_
     refine oR [oF 3] [(16, vU (r2 + y1)), (18, vU (q2 - 1)), (17, vU R1), (15, vU Q1), (14, vU u0), (10, vU y0), (9, vU y1), (2, vU y), (8, vU (s : Int))] [16, 18, 17, 15, 14, 10, 9, 2, 8] (by kernel_rfl) ?_
     refine ops_nil ?_
     refine fin_then ?_
     refine st_seq ?_
     refine st_region [oF 0, oF 1] (by rfl) ?_
     refine oR [oF 0, oF 1] [(120, .bool (decide (4294967296 ≤ (r2 + y1)))), (16, vU (r2 + y1)), (18, vU (q2 - 1)), (17, vU R1), (15, vU Q1), (14, vU u0), (10, vU y0), (9, vU y1), (2, vU y), (8, vU (s : Int))] [120, 16, 18, 17, 15, 14, 10, 9, 2, 8] (by kernel_rfl) ?_
     refine ops_nil ?_
     refine fin_then ?_
     refine st_if (b := decide (4294967296 ≤ (r2 + y1))) rfl (fun hc15 => ?_) (fun hc15 => ?_)
     · --
      have hE2 : q2 - 1 = Q0 := by have z := hst2.brk hyy hypos (by have := of_decide_eq_true hc15; omega) (by omega) hy00 hy01 (by omega); rw [hQ0] at z; exact z
      refine st_exit ?_
      refine fin_exit_ne (by rfl) ?_
      refine fin_exit_then ?_
      refine fin_exit ?_
      refine fin_then ?_
      refine st_seq ?_
      refine st_region [oF 0, oF 1, oF 2, oF 3, oF 4, oF 5, oF 6, oF 7, oF 8, oF 9, oF 10, oF 11, oF 12, oF 13, oF 14, oF 15] (by rfl) ?_
      refine oR [] [(18, vU (q2 - 1)), (17, vU R1), (15, vU Q1), (14, vU u0), (2, vU y), (8, vU (s : Int))] [18, 17, 15, 14, 2, 8] (by kernel_rfl) ?_
      refine ops_conv (l' := [(18, vU Q0), (17, vU R1), (15, vU Q1), (14, vU u0), (2, vU y), (8, vU (s : Int))]) (by rw [hE2]) (fun _ h => h) ?_
      refine oR [oF 0, oF 1] [(122, vU (IntKind.u64.wrap (Q1 * 4294967296))), (18, vU Q0), (17, vU R1), (14, vU u0), (2, vU y), (8, vU (s : Int))] [122, 18, 17, 14, 2, 8] (by kernel_rfl) ?_
      refine ops_conv (l' := [(122, vU (Q1 * 4294967296)), (18, vU Q0), (17, vU R1), (14, vU u0), (2, vU y), (8, vU (s : Int))]) (by rw [hwQB]) (fun _ h => h) ?_
      refine oR [oF 2, oF 3] [(124, vU (IntKind.u64.wrap ((Q1 * 4294967296) + Q0))), (18, vU Q0), (17, vU R1), (14, vU u0), (2, vU y), (8, vU (s : Int))] [124, 18, 17, 14, 2, 8] (by kernel_rfl) ?_
      refine ops_conv (l' := [(124, vU qq), (18, vU Q0), (17, vU R1), (14, vU u0), (2, vU y), (8, vU (s : Int))]) (by rw [hwqq]) (fun _ h => h) ?_
      refine oR [oF 4, oF 5, oF 6, oF 7, oF 8, oF 9, oF 10, oF 11] [(132, vU (IntKind.u64.wrap (IntKind.u64.wrap (IntKind.u64.wrap (R1 * 4294967296) + u0) - IntKind.u64.wrap (Q0 * y)))), (124, vU qq), (8, vU (s : Int))] [132, 124, 8] (by kernel_rfl) ?_
      refine ops_conv (l' := [(132, vU R0), (124, vU qq), (8, vU (s : Int))]) (by rw [hwR0]) (fun _ h => h) ?_
      refine oR [oF 12] [(133, vU (s : Int)), (132, vU R0), (124, vU qq)] [133, 132, 124] (by kernel_rfl) ?_
      refine ops_val (op := (Go.Op.binOp Go.BinOp.shr 53 (Go.Operand.tmp 132) (Go.Operand.tmp 133) 131)) (d := some 134) (v := vU (Int.fdiv R0 (2 ^ min ((s : Int)).toNat 64))) ⟨by kernel_rfl⟩ (run_shr rfl rfl (by omega)) ?_
      refine oR [] [(134, vU (Int.fdiv R0 (2 ^ min ((s : Int)).toNat 64))), (124, vU qq)] [134, 124] (by kernel_rfl) ?_
      refine ops_conv (l' := [(134, vU rr), (124, vU qq)]) (by rw [hwrr]) (fun _ h => h) ?_
      refine oR [oF 14, oF 15] [(7, vU rr), (6, vU qq)] [7, 6] (by kernel_rfl) ?_
      refine ops_nil ?_
      refine fin_then ?_
      refine st_ret ?_
      refine fin_ret [.tmp 6, .tmp 7] [vU qq, vU rr] rfl rfl (fun w_ hM => (.tmp rfl (.tmp rfl .nil))) (fun w_ hM => ?_)
      exact ⟨rfl, hM.done⟩
     · --
      have hlt2 : r2 + y1 < 4294967296 := by have := of_decide_eq_false hc15; omega
      refine st_skip ?_
      refine fin_block ?_
      refine fin_round (q2 - 1, r2 + y1) (by exact ⟨hst2, hlt2, show q2 - 1 ≤ 4294967297 by omega⟩) (by (show (4294967296 - (r2 + y1)).toNat < (4294967296 - r2).toNat; omega)) (look_has ⟨rfl, rfl, rfl, rfl, rfl, rfl, rfl, rfl, rfl, trivial⟩) (fun w_ hM => by exact hM)
    · --decide (4294967296 ≤ q2)
     have hsm2 : q2 < 4294967296 := by have := of_decide_eq_false hc14; omega
     have hml2 : q2 * y0 ≤ 4294967295 * 4294967295 := Int.mul_le_mul (by omega) (by omega) hy00 (by decide)
     have hmz2 : 0 ≤ q2 * y0 := Int.mul_nonneg (by omega) hy00
     have hqm2 : IntKind.u64.wrap (q2 * y0) = q2 * y0 := w64_in (by omega) (by omega)
     refine oR [oF 3, oF 4, oF 5] [(107, vU (IntKind.u64.wrap (q2 * y0))), (104, .bool false), (16, vU r2), (18, vU q2), (17, vU R1), (15, vU Q1), (14, vU u0), (10, vU y0), (9, vU y1), (2, vU y), (8, vU (s : Int))] [107, 104, 16, 18, 17, 15, 14, 10, 9, 2, 8] (by kernel_rfl) ?_
     refine ops_conv (l' := [(107, vU (q2 * y0)), (104, .bool false), (16, vU r2), (18, vU q2), (17, vU R1), (15, vU Q1), (14, vU u0), (10, vU y0), (9, vU y1), (2, vU y), (8, vU (s : Int))]) (by rw [hqm2]) (fun _ h => h) ?_
     refine oR [oF 6, oF 7] [(109, vU (IntKind.u64.wrap (4294967296 * r2))), (107, vU (q2 * y0)), (104, .bool false), (16, vU r2), (18, vU q2), (17, vU R1), (15, vU Q1), (14, vU u0), (10, vU y0), (9, vU y1), (2, vU y), (8, vU (s : Int))] [109, 107, 104, 16, 18, 17, 15, 14, 10, 9, 2, 8] (by kernel_rfl) ?_
     refine ops_conv (l' := [(109, vU (4294967296 * r2)), (107, vU (q2 * y0)), (104, .bool false), (16, vU r2), (18, vU q2), (17, vU R1), (15, vU Q1), (14, vU u0), (10, vU y0), (9, vU y1), (2, vU y), (8, vU (s : Int))]) (by rw [hbr2]) (fun _ h => h) ?_
     refine oR [oF 8, oF 9] [(111, vU (IntKind.u64.wrap ((4294967296 * r2) + u0))), (107, vU (q2 * y0)), (104, .bool false), (16, vU r2), (18, vU q2), (17, vU R1), (15, vU Q1), (14, vU u0), (10, vU y0), (9, vU y1), (2, vU y), (8, vU (s : Int))] [111, 107, 104, 16, 18, 17, 15, 14, 10, 9, 2, 8] (by kernel_rfl) ?_
     refine ops_conv (l' := [(111, vU (4294967296 * r2 + u0)), (107, vU (q2 * y0)), (104, .bool false), (16, vU r2), (18, vU q2), (17, vU R1), (15, vU Q1), (14, vU u0), (10, vU y0), (9, vU y1), (2, vU y), (8, vU (s : Int))]) (by rw [hbs2]) (fun _ h => h) ?_
     refine oR [oF 10, oF 11] [(113, .bool (decide ((4294967296 * r2 + u0) < (q2 * y0)))), (16, vU r2), (18, vU q2), (17, vU R1), (15, vU Q1), (14, vU u0), (10, vU y0), (9, vU y1), (2, vU y), (8, vU (s : Int))] [113, 16, 18, 17, 15, 14, 10, 9, 2, 8] (by kernel_rfl) ?_
     refine ops_nil ?_
     refine fin_then ?_
     refine st_if (b := decide ((4294967296 * r2 + u0) < (q2 * y0))) rfl (fun hc16 => ?_) (fun hc16 => ?_)
     · --
      have hst2 := ht2.step hyy hypos (by rw [hQ0]; omega) (by omega) (by have := of_decide_eq_true hc16; omega)
      have hqp2 : 1 ≤ q2 := by have := hst2.ge; rw [hQ0] at this; omega
      have hqd2 : IntKind.u64.wrap (q2 - 1) = q2 - 1 := w64_in (by omega) (by omega)
      have hrd2 : IntKind.u64.wrap (r2 + y1) = r2 + y1 := w64_in (by omega) (by omega)
      refine st_skip ?_
      refine fin_then ?_
      refine st_block ?_
      refine st_seq ?_
      refine st_region [oF 0, oF 1, oF 2] (by rfl) ?_
      refine oR [oF 0, oF 1] [(115, vU (IntKind.u64.wrap (q2 - 1))), (16, vU r2), (18, vU q2), (17, vU R1), (15, vU Q1), (14, vU u0), (10, vU y0), (9, vU y1), (2, vU y), (8, vU (s : Int))] [115, 16, 18, 17, 15, 14, 10, 9, 2, 8] (by kernel_rfl) ?_
      refine ops_conv (l' := [(115, vU (q2 - 1)), (16, vU r2), (18, vU q2), (17, vU R1), (15, vU Q1), (14, vU u0), (10, vU y0), (9, vU y1), (2, vU y), (8, vU (s : Int))]) (by rw [hqd2]) (fun _ h => h) ?_
      refine oR [oF 2] [(18, vU (q2 - 1)), (16, vU r2), (17, vU R1), (15, vU Q1), (14, vU u0), (10, vU y0), (9, vU y1), (2, vU y), (8, vU (s : Int))] [18, 16, 17, 15, 14, 10, 9, 2, 8] (by kernel_rfl) ?_
      refine ops_nil ?_
      refine fin_then ?_
      refine st_seq ?_
      refine st_region [oF 0, oF 1, oF 2, oF 3] (by rfl) ?_
      refine oR [oF 0, oF 1, oF 2] [(118, vU (IntKind.u64.wrap (r2 + y1))), (18, vU (q2 - 1)), (16, vU r2), (17, vU R1), (15, vU Q1), (14, vU u0), (10, vU y0), (9, vU y1), (2, vU y), (8, vU (s : Int))] [118, 18, 16, 17, 15, 14, 10, 9, 2, 8] (by kernel_rfl) ?_
      refine ops_conv (l' := [(118, vU (r2 + y1)), (18, vU (q2 - 1)), (16, vU r2), (17, vU R1), (15, vU Q1), (14, vU u0), (10, vU y0), (9, vU y1), (2, vU y), (8, vU (s : Int))]) (by rw [hrd2]) (fun _ h => h) ?_
      refine oR [oF 3] [(16, vU (r2 + y1)), (18, vU (q2 - 1)), (17, vU R1), (15, vU Q1), (14, vU u0), (10, vU y0), (9, vU y1), (2, vU y), (8, vU (s : Int))] [16, 18, 17, 15, 14, 10, 9, 2, 8] (by kernel_rfl) ?_
      refine ops_nil ?_
      refine fin_then ?_
      refine st_seq ?_
      refine st_region [oF 0, oF 1] (by rfl) ?_
      refine oR [oF 0, oF 1] [(120, .bool (decide (4294967296 ≤ (r2 + y1)))), (16, vU (r2 + y1)), (18, vU (q2 - 1)), (17, vU R1), (15, vU Q1), (14, vU u0), (10, vU y0), (9, vU y1), (2, vU y), (8, vU (s : Int))] [120, 16, 18, 17, 15, 14, 10, 9, 2, 8] (by kernel_rfl) ?_
      refine ops_nil ?_
      refine fin_then ?_
      refine st_if (b := decide (4294967296 ≤ (r2 + y1))) rfl (fun hc17 => ?_) (fun hc17 => ?_)
      · --
       have hE2 : q2 - 1 = Q0 := by have z := hst2.brk hyy hypos (by have := of_decide_eq_true hc17; omega) (by omega) hy00 hy01 (by omega); rw [hQ0] at z; exact z
       refine st_exit ?_
       refine fin_exit_ne (by rfl) ?_
       refine fin_exit_then ?_
       refine fin_exit ?_
       refine fin_then ?_
       refine st_seq ?_
       refine st_region [oF 0, oF 1, oF 2, oF 3, oF 4, oF 5, oF 6, oF 7, oF 8, oF 9, oF 10, oF 11, oF 12, oF 13, oF 14, oF 15] (by rfl) ?_
       refine oR [] [(18, vU (q2 - 1)), (17, vU R1), (15, vU Q1), (14, vU u0), (2, vU y), (8, vU (s : Int))] [18, 17, 15, 14, 2, 8] (by kernel_rfl) ?_
       refine ops_conv (l' := [(18, vU Q0), (17, vU R1), (15, vU Q1), (14, vU u0), (2, vU y), (8, vU (s : Int))]) (by rw [hE2]) (fun _ h => h) ?_
       refine oR [oF 0, oF 1] [(122, vU (IntKind.u64.wrap (Q1 * 4294967296))), (18, vU Q0), (17, vU R1), (14, vU u0), (2, vU y), (8, vU (s : Int))] [122, 18, 17, 14, 2, 8] (by kernel_rfl) ?_
       refine ops_conv (l' := [(122, vU (Q1 * 4294967296)), (18, vU Q0), (17, vU R1), (14, vU u0), (2, vU y), (8, vU (s : Int))]) (by rw [hwQB]) (fun _ h => h) ?_
       refine oR [oF 2, oF 3] [(124, vU (IntKind.u64.wrap ((Q1 * 4294967296) + Q0))), (18, vU Q0), (17, vU R1), (14, vU u0), (2, vU y), (8, vU (s : Int))] [124, 18, 17, 14, 2, 8] (by kernel_rfl) ?_
       refine ops_conv (l' := [(124, vU qq), (18, vU Q0), (17, vU R1), (14, vU u0), (2, vU y), (8, vU (s : Int))]) (by rw [hwqq]) (fun _ h => h) ?_
       refine oR [oF 4, oF 5, oF 6, oF 7, oF 8, oF 9, oF 10, oF 11] [(132, vU (IntKind.u64.wrap (IntKind.u64.wrap (IntKind.u64.wrap (R1 * 4294967296) + u0) - IntKind.u64.wrap (Q0 * y)))), (124, vU qq), (8, vU (s : Int))] [132, 124, 8] (by kernel_rfl) ?_
       refine ops_conv (l' := [(132, vU R0), (124, vU qq), (8, vU (s : Int))]) (by rw [hwR0]) (fun _ h => h) ?_
       refine oR [oF 12] [(133, vU (s : Int)), (132, vU R0), (124, vU qq)] [133, 132, 124] (by kernel_rfl) ?_
       refine ops_val (op := (Go.Op.binOp Go.BinOp.shr 53 (Go.Operand.tmp 132) (Go.Operand.tmp 133) 131)) (d := some 134) (v := vU (Int.fdiv R0 (2 ^ min ((s : Int)).toNat 64))) ⟨by kernel_rfl⟩ (run_shr rfl rfl (by omega)) ?_
       refine oR [] [(134, vU (Int.fdiv R0 (2 ^ min ((s : Int)).toNat 64))), (124, vU qq)] [134, 124] (by kernel_rfl) ?_
       refine ops_conv (l' := [(134, vU rr), (124, vU qq)]) (by rw [hwrr]) (fun _ h => h) ?_
       refine oR [oF 14, oF 15] [(7, vU rr), (6, vU qq)] [7, 6] (by kernel_rfl) ?_
       refine ops_nil ?_
       refine fin_then ?_
       refine st_ret ?_
       refine fin_ret [.tmp 6, .tmp 7] [vU qq, vU rr] rfl rfl (fun w_ hM => (.tmp rfl (.tmp rfl .nil))) (fun w_ hM => ?_)
       exact ⟨rfl, hM.done⟩
      · --
       have hlt2 : r2 + y1 < 4294967296 := by have := of_decide_eq_false hc17; omega
       refine st_skip ?_
       refine fin_block ?_
       refine fin_round (q2 - 1, r2 + y1) (by exact ⟨hst2, hlt2, show q2 - 1 ≤ 4294967297 by omega⟩) (by (show (4294967296 - (r2 + y1)).toNat < (4294967296 - r2).toNat; omega)) (look_has ⟨rfl, rfl, rfl, rfl, rfl, rfl, rfl, rfl, rfl, trivial⟩) (fun w_ hM => by exact hM)
     · --
      have hE2 : q2 = Q0 := by have z := ht2.done hyy hypos (by have := of_decide_eq_false hc16; omega); rw [hQ0] at z; exact z
      refine st_exit ?_
      refine fin_exit_then ?_
      refine fin_exit_then ?_
      refine fin_exit ?_
      refine fin_then ?_
      refine st_seq ?_
      refine st_region [oF 0, oF 1, oF 2, oF 3, oF 4, oF 5, oF 6, oF 7, oF 8, oF 9, oF 10, oF 11, oF 12, oF 13, oF 14, oF 15] (by rfl) ?_
      refine oR [] [(18, vU q2), (17, vU R1), (15, vU Q1), (14, vU u0), (2, vU y), (8, vU (s : Int))] [18, 17, 15, 14, 2, 8] (by kernel_rfl) ?_
      refine ops_conv (l' := [(18, vU Q0), (17, vU R1), (15, vU Q1), (14, vU u0), (2, vU y), (8, vU (s : Int))]) (by rw [hE2]) (fun _ h => h) ?_
      refine oR [oF 0, oF 1] [(122, vU (IntKind.u64.wrap (Q1 * 4294967296))), (18, vU Q0), (17, vU R1), (14, vU u0), (2, vU y), (8, vU (s : Int))] [122, 18, 17, 14, 2, 8] (by kernel_rfl) ?_
      refine ops_conv (l' := [(122, vU (Q1 * 4294967296)), (18, vU Q0), (17, vU R1), (14, vU u0), (2, vU y), (8, vU (s : Int))]) (by rw [hwQB]) (fun _ h => h) ?_
      refine oR [oF 2, oF 3] [(124, vU (IntKind.u64.wrap ((Q1 * 4294967296) + Q0))), (18, vU Q0), (17, vU R1), (14, vU u0), (2, vU y), (8, vU (s : Int))] [124, 18, 17, 14, 2, 8] (by kernel_rfl) ?_
      refine ops_conv (l' := [(124, vU qq), (18, vU Q0), (17, vU R1), (14, vU u0), (2, vU y), (8, vU (s : Int))]) (by rw [hwqq]) (fun _ h => h) ?_
      refine oR [oF 4, oF 5, oF 6, oF 7, oF 8, oF 9, oF 10, oF 11] [(132, vU (IntKind.u64.wrap (IntKind.u64.wrap (IntKind.u64.wrap (R1 * 4294967296) + u0) - IntKind.u64.wrap (Q0 * y)))), (124, vU qq), (8, vU (s : Int))] [132, 124, 8] (by kernel_rfl) ?_
      refine ops_conv (l' := [(132, vU R0), (124, vU qq), (8, vU (s : Int))]) (by rw [hwR0]) (fun _ h => h) ?_
      refine oR [oF 12] [(133, vU (s : Int)), (132, vU R0), (124, vU qq)] [133, 132, 124] (by kernel_rfl) ?_
      refine ops_val (op := (Go.Op.binOp Go.BinOp.shr 53 (Go.Operand.tmp 132) (Go.Operand.tmp 133) 131)) (d := some 134) (v := vU (Int.fdiv R0 (2 ^ min ((s : Int)).toNat 64))) ⟨by kernel_rfl⟩ (run_shr rfl rfl (by omega)) ?_
      refine oR [] [(134, vU (Int.fdiv R0 (2 ^ min ((s : Int)).toNat 64))), (124, vU qq)] [134, 124] (by kernel_rfl) ?_
      refine ops_conv (l' := [(134, vU rr), (124, vU qq)]) (by rw [hwrr]) (fun _ h => h) ?_
      refine oR [oF 14, oF 15] [(7, vU rr), (6, vU qq)] [7, 6] (by kernel_rfl) ?_
      refine ops_nil ?_
      refine fin_then ?_
      refine st_ret ?_
      refine fin_ret [.tmp 6, .tmp 7] [vU qq, vU rr] rfl rfl (fun w_ hM => (.tmp rfl (.tmp rfl .nil))) (fun w_ hM => ?_)
      exact ⟨rfl, hM.done⟩
theorem or_parts {hi lo : Int} {s : Nat} (hs : s ≤ 64) (h0 : 0 ≤ hi) (h1 : hi * 2 ^ s < 18446744073709551616) (l0 : 0 ≤ lo) (l1 : lo < 2 ^ s) (l2 : lo < 18446744073709551616) (hh : 0 ≤ hi * 2 ^ s) : Go.bits .or .u64 (hi * 2 ^ s) lo = hi * 2 ^ s + lo := by
  obtain ⟨a, rfl⟩ := Int.eq_ofNat_of_zero_le h0
  obtain ⟨b, rfl⟩ := Int.eq_ofNat_of_zero_le l0
  have e : (a : Int) * 2 ^ s = ((a <<< s : Nat) : Int) := by rw [Nat.shiftLeft_eq]; simp
  rw [e] at h1 hh ⊢
  rw [Go.u64_or _ _ hh (by omega) l0 (by omega), Int.toNat_natCast, Int.toNat_natCast]
  have hlt : b < 2 ^ s := by have : ((2 ^ s : Nat) : Int) = (2 : Int) ^ s := by simp
                             omega
  rw [← Nat.shiftLeft_add_eq_or_of_lt hlt a]; simp
theorem Div64_calls (hi lo : Int) (d : Nat) (w : World) (hd0 : 0 < d) (hd1 : (d : Int) < 18446744073709551616) (h0 : 0 ≤ hi) (h1 : hi < d) (l0 : 0 ≤ lo) (l1 : lo < 18446744073709551616) :
    Calls Try.prog 95 #[.int .u64 hi, .int .u64 lo, .int .u64 (d : Int)] w fun e w' => e = .returned (.tuple #[.int .u64 ((hi * 18446744073709551616 + lo) / d), .int .u64 ((hi * 18446744073709551616 + lo) % d)]) ∧ Below w.heap.size w w' := by
  obtain ⟨n, hn⟩ := isLen_exists hd0
  have hn64 := hn.hi (k := 64) (by omega)
  obtain ⟨s, hns⟩ : ∃ s, n + s = 64 := ⟨64 - n, by omega⟩
  have hp : (0 : Int) < 2 ^ s := Int.pow_pos (by decide)
  obtain ⟨e1, e2, e3⟩ := shifted (hi := hi) (lo := lo) (d := 0) (s := s) (by omega) h0 l0 l1
  have hpow : (2 : Int) ^ n * 2 ^ s = 18446744073709551616 := by rw [← Int.pow_add, hns]; rfl
  have hcast : ((2 ^ n : Nat) : Int) = (2 : Int) ^ n := by simp
  have hdl : (d : Int) * 2 ^ s < 18446744073709551616 := by
    rw [← hpow]; exact Int.mul_lt_mul_of_pos_right (by have := hn.1; omega) hp
  have hdh : 18446744073709551616 ≤ 2 * ((d : Int) * 2 ^ s) := by
    rw [← hpow, ← Int.mul_assoc]; exact Int.mul_le_mul_of_nonneg_right (by have := hn.2; omega) (Int.le_of_lt hp)
  have hh0 : 0 ≤ hi * 2 ^ s := Int.mul_nonneg h0 (Int.le_of_lt hp)
  have hh1 : hi * 2 ^ s + 2 ^ s ≤ (d : Int) * 2 ^ s := by
    have : (hi + 1) * 2 ^ s ≤ (d : Int) * 2 ^ s := Int.mul_le_mul_of_nonneg_right (by omega) (Int.le_of_lt hp)
    rw [Int.add_mul] at this; omega
  have hU := or_parts (s := s) (by omega) h0 (by omega) e2 e3 (by omega) hh0
  have hu0 : 0 ≤ lo * 2 ^ s % 18446744073709551616 := by omega
  have hr1 := dig_range (U := hi * 2 ^ s + lo / 2 ^ (64 - s)) (u1 := lo * 2 ^ s % 18446744073709551616 / 4294967296) (y := (d : Int) * 2 ^ s) (by omega) (by omega) (by omega) (by omega)
  generalize hUd : hi * 2 ^ s + lo / 2 ^ (64 - s) = U at *
  generalize hyd : (d : Int) * 2 ^ s = y at *
  generalize hud : lo * 2 ^ s % 18446744073709551616 = u10 at *
  generalize hQ1 : (U * 4294967296 + u10 / 4294967296) / y = Q1 at *
  generalize hR1 : U * 4294967296 + u10 / 4294967296 - Q1 * y = R1 at *
  have hr2 := dig_range (U := R1) (u1 := u10 % 4294967296) (y := y) (by omega) (by omega) (by omega) (by omega)
  generalize hQ0 : (R1 * 4294967296 + u10 % 4294967296) / y = Q0 at *
  generalize hR0 : R1 * 4294967296 + u10 % 4294967296 - Q0 * y = R0 at *
  have hw := div_whole (N := hi * 18446744073709551616 + lo) (d := d) (y := y) (Q1 := Q1) (R1 := R1) (Q0 := Q0) (R0 := R0) (U := U) (u1 := u10 / 4294967296) (u0 := u10 % 4294967296) (s := s) (by omega) hyd.symm (by rw [e1]; omega) (by omega) (by omega) (by omega) (by omega)
  exact Div64_0 hi lo d n s y _ _ U u10 _ _ Q1 R1 Q0 R0 _ _ w hn hns hd0 hd1 h0 h1 l0 l1 hyd (by omega) rfl rfl (by omega) hh0 (by omega) hU (by omega) (by omega) hud rfl rfl hQ1 hR1 (by omega) (by omega) hQ0 hR0 (by omega) (by omega) hw.1 hw.2 (fun h => by subst h; simp)
end Go.Proofs.Ytioijglogoppnaa.WDiv
