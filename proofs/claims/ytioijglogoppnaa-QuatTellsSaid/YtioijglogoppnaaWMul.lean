/- Walks of bits.Mul64, and what bits.Add64 gives. No condition. -/
import Derived.Laws.Externs
import Derived.Laws.MathBits
import Derived.Test.YtioijglogoppnaaProg
import Derived.Test.YtioijglogoppnaaSxOps
import Derived.Test.YtioijglogoppnaaTrigSpec
namespace Go.Proofs.Ytioijglogoppnaa.WMul
open Go Go.RowKit Go.Proofs.Ytioijglogoppnaa.Sx Go.Proofs.Ytioijglogoppnaa.Rnd Go.Proofs.Ytioijglogoppnaa.Trig
set_option linter.unusedVariables false
set_option linter.unusedSimpArgs false
set_option maxHeartbeats 4000000 in
set_option maxRecDepth 100000 in
theorem Mul64_calls (x y : Int) (w : World) (hx0 : 0 ≤ x) (hx : x < 18446744073709551616) (hy0 : 0 ≤ y) (hy : y < 18446744073709551616) : Calls Try.prog 94 #[vU x, vU y] w fun e w' => e = .returned (.tuple #[vU (x * y / 18446744073709551616), vU (x * y % 18446744073709551616)]) ∧ Below w.heap.size w w' := by
 refine sx_calls Try.func94 rfl (n := 51) (by kernel_rfl) (l := [(0, vU x), (1, vU y)]) rfl (by rfl) (Mem.nil w) ?_
 refine st_seq ?_
 refine st_region [oF 0, oF 1] (by rfl) ?_
 refine oR [oF 0, oF 1] [(0, vU x), (1, vU y)] [0, 1] (by kernel_rfl) ?_
 refine ops_nil ?_
 refine fin_then ?_
 refine st_seq ?_
 refine st_region [oF 0, oF 1, oF 2] (by rfl) ?_
 refine oR [oF 0, oF 1, oF 2] [(6, vU (Go.bits .and .u64 x 4294967295)), (0, vU x), (1, vU y)] [6, 0, 1] (by kernel_rfl) ?_
 refine ops_nil ?_
 refine fin_then ?_
 refine st_seq ?_
 refine st_region [oF 0, oF 1, oF 2] (by rfl) ?_
 refine oR [oF 0, oF 1, oF 2] [(7, vU (Int.fdiv x 4294967296)), (6, vU (Go.bits .and .u64 x 4294967295)), (0, vU x), (1, vU y)] [7, 6, 0, 1] (by kernel_rfl) ?_
 refine ops_nil ?_
 refine fin_then ?_
 refine st_seq ?_
 refine st_region [oF 0, oF 1, oF 2] (by rfl) ?_
 refine oR [oF 0, oF 1, oF 2] [(8, vU (Go.bits .and .u64 y 4294967295)), (7, vU (Int.fdiv x 4294967296)), (6, vU (Go.bits .and .u64 x 4294967295)), (0, vU x), (1, vU y)] [8, 7, 6, 0, 1] (by kernel_rfl) ?_
 refine ops_nil ?_
 refine fin_then ?_
 refine st_seq ?_
 refine st_region [oF 0, oF 1, oF 2] (by rfl) ?_
 refine oR [oF 0, oF 1, oF 2] [(9, vU (Int.fdiv y 4294967296)), (8, vU (Go.bits .and .u64 y 4294967295)), (7, vU (Int.fdiv x 4294967296)), (6, vU (Go.bits .and .u64 x 4294967295)), (0, vU x), (1, vU y)] [9, 8, 7, 6, 0, 1] (by kernel_rfl) ?_
 refine ops_nil ?_
 refine fin_then ?_
 refine st_seq ?_
 refine st_region [oF 0, oF 1, oF 2, oF 3] (by rfl) ?_
 refine oR [oF 0, oF 1, oF 2, oF 3] [(10, vU (IntKind.u64.wrap (Go.bits .and .u64 x 4294967295 * Go.bits .and .u64 y 4294967295))), (9, vU (Int.fdiv y 4294967296)), (8, vU (Go.bits .and .u64 y 4294967295)), (7, vU (Int.fdiv x 4294967296)), (6, vU (Go.bits .and .u64 x 4294967295)), (0, vU x), (1, vU y)] [10, 9, 8, 7, 6, 0, 1] (by kernel_rfl) ?_
 refine ops_nil ?_
 refine fin_then ?_
 refine st_seq ?_
 refine st_region [oF 0, oF 1, oF 2, oF 3, oF 4, oF 5, oF 6] (by rfl) ?_
 refine oR [oF 0, oF 1, oF 2, oF 3, oF 4, oF 5, oF 6] [(11, vU (IntKind.u64.wrap (IntKind.u64.wrap (Int.fdiv x 4294967296 * Go.bits .and .u64 y 4294967295) + Int.fdiv (IntKind.u64.wrap (Go.bits .and .u64 x 4294967295 * Go.bits .and .u64 y 4294967295)) 4294967296))), (9, vU (Int.fdiv y 4294967296)), (7, vU (Int.fdiv x 4294967296)), (6, vU (Go.bits .and .u64 x 4294967295)), (0, vU x), (1, vU y)] [11, 9, 7, 6, 0, 1] (by kernel_rfl) ?_
 refine ops_nil ?_
 refine fin_then ?_
 refine st_seq ?_
 refine st_region [oF 0, oF 1, oF 2] (by rfl) ?_
 refine oR [oF 0, oF 1, oF 2] [(12, vU (Go.bits .and .u64 (IntKind.u64.wrap (IntKind.u64.wrap (Int.fdiv x 4294967296 * Go.bits .and .u64 y 4294967295) + Int.fdiv (IntKind.u64.wrap (Go.bits .and .u64 x 4294967295 * Go.bits .and .u64 y 4294967295)) 4294967296)) 4294967295)), (11, vU (IntKind.u64.wrap (IntKind.u64.wrap (Int.fdiv x 4294967296 * Go.bits .and .u64 y 4294967295) + Int.fdiv (IntKind.u64.wrap (Go.bits .and .u64 x 4294967295 * Go.bits .and .u64 y 4294967295)) 4294967296))), (9, vU (Int.fdiv y 4294967296)), (7, vU (Int.fdiv x 4294967296)), (6, vU (Go.bits .and .u64 x 4294967295)), (0, vU x), (1, vU y)] [12, 11, 9, 7, 6, 0, 1] (by kernel_rfl) ?_
 refine ops_nil ?_
 refine fin_then ?_
 refine st_seq ?_
 refine st_region [oF 0, oF 1, oF 2] (by rfl) ?_
 refine oR [oF 0, oF 1, oF 2] [(13, vU (Int.fdiv (IntKind.u64.wrap (IntKind.u64.wrap (Int.fdiv x 4294967296 * Go.bits .and .u64 y 4294967295) + Int.fdiv (IntKind.u64.wrap (Go.bits .and .u64 x 4294967295 * Go.bits .and .u64 y 4294967295)) 4294967296)) 4294967296)), (12, vU (Go.bits .and .u64 (IntKind.u64.wrap (IntKind.u64.wrap (Int.fdiv x 4294967296 * Go.bits .and .u64 y 4294967295) + Int.fdiv (IntKind.u64.wrap (Go.bits .and .u64 x 4294967295 * Go.bits .and .u64 y 4294967295)) 4294967296)) 4294967295)), (9, vU (Int.fdiv y 4294967296)), (7, vU (Int.fdiv x 4294967296)), (6, vU (Go.bits .and .u64 x 4294967295)), (0, vU x), (1, vU y)] [13, 12, 9, 7, 6, 0, 1] (by kernel_rfl) ?_
 refine ops_nil ?_
 refine fin_then ?_
 refine st_seq ?_
 refine st_region [oF 0, oF 1, oF 2, oF 3, oF 4, oF 5] (by rfl) ?_
 refine oR [oF 0, oF 1, oF 2, oF 3, oF 4, oF 5] [(12, vU (IntKind.u64.wrap (Go.bits .and .u64 (IntKind.u64.wrap (IntKind.u64.wrap (Int.fdiv x 4294967296 * Go.bits .and .u64 y 4294967295) + Int.fdiv (IntKind.u64.wrap (Go.bits .and .u64 x 4294967295 * Go.bits .and .u64 y 4294967295)) 4294967296)) 4294967295 + IntKind.u64.wrap (Go.bits .and .u64 x 4294967295 * Int.fdiv y 4294967296)))), (13, vU (Int.fdiv (IntKind.u64.wrap (IntKind.u64.wrap (Int.fdiv x 4294967296 * Go.bits .and .u64 y 4294967295) + Int.fdiv (IntKind.u64.wrap (Go.bits .and .u64 x 4294967295 * Go.bits .and .u64 y 4294967295)) 4294967296)) 4294967296)), (9, vU (Int.fdiv y 4294967296)), (7, vU (Int.fdiv x 4294967296)), (0, vU x), (1, vU y)] [12, 13, 9, 7, 0, 1] (by kernel_rfl) ?_
 refine ops_nil ?_
 refine fin_then ?_
 refine st_seq ?_
 refine st_region [oF 0, oF 1, oF 2, oF 3, oF 4, oF 5, oF 6, oF 7, oF 8] (by rfl) ?_
 refine oR [oF 0, oF 1, oF 2, oF 3, oF 4, oF 5, oF 6, oF 7, oF 8] [(4, vU (IntKind.u64.wrap (IntKind.u64.wrap (IntKind.u64.wrap (Int.fdiv x 4294967296 * Int.fdiv y 4294967296) + Int.fdiv (IntKind.u64.wrap (IntKind.u64.wrap (Int.fdiv x 4294967296 * Go.bits .and .u64 y 4294967295) + Int.fdiv (IntKind.u64.wrap (Go.bits .and .u64 x 4294967295 * Go.bits .and .u64 y 4294967295)) 4294967296)) 4294967296) + Int.fdiv (IntKind.u64.wrap (Go.bits .and .u64 (IntKind.u64.wrap (IntKind.u64.wrap (Int.fdiv x 4294967296 * Go.bits .and .u64 y 4294967295) + Int.fdiv (IntKind.u64.wrap (Go.bits .and .u64 x 4294967295 * Go.bits .and .u64 y 4294967295)) 4294967296)) 4294967295 + IntKind.u64.wrap (Go.bits .and .u64 x 4294967295 * Int.fdiv y 4294967296))) 4294967296))), (0, vU x), (1, vU y)] [4, 0, 1] (by kernel_rfl) ?_
 refine ops_nil ?_
 refine fin_then ?_
 refine st_seq ?_
 refine st_region [oF 0, oF 1, oF 2, oF 3] (by rfl) ?_
 refine oR [oF 0, oF 1, oF 2, oF 3] [(5, vU (IntKind.u64.wrap (x * y))), (4, vU (IntKind.u64.wrap (IntKind.u64.wrap (IntKind.u64.wrap (Int.fdiv x 4294967296 * Int.fdiv y 4294967296) + Int.fdiv (IntKind.u64.wrap (IntKind.u64.wrap (Int.fdiv x 4294967296 * Go.bits .and .u64 y 4294967295) + Int.fdiv (IntKind.u64.wrap (Go.bits .and .u64 x 4294967295 * Go.bits .and .u64 y 4294967295)) 4294967296)) 4294967296) + Int.fdiv (IntKind.u64.wrap (Go.bits .and .u64 (IntKind.u64.wrap (IntKind.u64.wrap (Int.fdiv x 4294967296 * Go.bits .and .u64 y 4294967295) + Int.fdiv (IntKind.u64.wrap (Go.bits .and .u64 x 4294967295 * Go.bits .and .u64 y 4294967295)) 4294967296)) 4294967295 + IntKind.u64.wrap (Go.bits .and .u64 x 4294967295 * Int.fdiv y 4294967296))) 4294967296)))] [5, 4] (by kernel_rfl) ?_
 refine ops_nil ?_
 refine fin_then ?_
 refine st_ret ?_
 refine fin_ret [.tmp 4, .tmp 5] [vU (IntKind.u64.wrap (IntKind.u64.wrap (IntKind.u64.wrap (Int.fdiv x 4294967296 * Int.fdiv y 4294967296) + Int.fdiv (IntKind.u64.wrap (IntKind.u64.wrap (Int.fdiv x 4294967296 * Go.bits .and .u64 y 4294967295) + Int.fdiv (IntKind.u64.wrap (Go.bits .and .u64 x 4294967295 * Go.bits .and .u64 y 4294967295)) 4294967296)) 4294967296) + Int.fdiv (IntKind.u64.wrap (Go.bits .and .u64 (IntKind.u64.wrap (IntKind.u64.wrap (Int.fdiv x 4294967296 * Go.bits .and .u64 y 4294967295) + Int.fdiv (IntKind.u64.wrap (Go.bits .and .u64 x 4294967295 * Go.bits .and .u64 y 4294967295)) 4294967296)) 4294967295 + IntKind.u64.wrap (Go.bits .and .u64 x 4294967295 * Int.fdiv y 4294967296))) 4294967296)), vU (IntKind.u64.wrap (x * y))] rfl rfl (fun w_ hM => (.tmp rfl (.tmp rfl .nil))) (fun w_ hM => ?_)
 refine ⟨?_, hM.done⟩
 have e := mul64_arith x y hx0 hx hy0 hy
 have p := and_low32
 simp only [theOne, Int.fdiv_eq_ediv_of_nonneg _ (show (0 : Int) ≤ 4294967296 by decide), p x hx0 hx, p y hy0 hy, p _ (w64_lo _) (w64_hi _)]
 simp only [w64] at e ⊢
 rw [e]
theorem run_Add64 {l : Slots} {x y z : Operand} {a b c : Int} {ts : Array TypeId} (hx : ev l x = .int .u64 a) (hy : ev l y = .int .u64 b) (hz : ev l z = .int .u64 c) (ha : 0 ≤ a) (hb : 0 ≤ b) (hc0 : 0 ≤ c) (hc : c ≤ 1) :
    ∀ (o : Oper) (w : World), o.op = .call { callee := .value (.func 128), args := #[x, y, z], argTypes := ts } → (execOp (ev l) o).run Try.prog w = .ok (.value (.tuple #[.int .u64 ((a + b + c) % 18446744073709551616), .int .u64 ((a + b + c) / 18446744073709551616)])) w := by
  intro o w ho
  have h := run_callFunc_extern (P := Try.prog) (f := 128) (e := add64Entry) Try.func128 (by kernel_rfl) (by kernel_rfl) (by rfl) (by rfl) #[.int .u64 a, .int .u64 b, .int .u64 c] w
  rw [run_add64 a b c ha hb hc0 hc w] at h
  simp only [Result.andThen_ok] at h
  have hf : ev l (.func 128) = .func (.func 128) #[] #[] := rfl
  simp [execOp, ho, hx, hy, hz, hf, resolve, invoke, Deferred.ofValue, h]
end Go.Proofs.Ytioijglogoppnaa.WMul
