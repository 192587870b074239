/- The law MerkleVerifies holds: whatever the input, the call answers true, and its arguments read as they did. No condition. -/
import Derived.Test.YtfihfbkjomploaaRows
import Derived.Test.YtfihfbkjomploaaExRow
import Derived.Test.YtfihfbkjomploaaWkX10
import Derived.Test.YtfihfbkjomploaaPuMerkleVerifies
import Derived.Lib.SmallJoins
import Derived.WalkKit
import Derived.ProofKit
import Derived.OpenShut
import Derived.ShutString
import Derived.ChangeOld
import Derived.Below
import Derived.SizedLaws
namespace Go.Proofs.Ytfihfbkjomploaa.merkleVerifies
open Go.ChangeShapes Go.WideShapes Go.ChangeAt Go.RowKit Go.Joins Go.Proofs.Ytfihfbkjomploaa.Sx Go.Proofs.Ytfihfbkjomploaa.X
open Go.ChangeMaps (open_string shut_string)
set_option linter.unusedVariables false
theorem own : ownKnob Try.prog.godebug = none := by kernel_rfl
theorem laidOut : laidOutB Try.prog = true := by kernel_rfl
set_option maxRecDepth 100000 in
theorem lifted (os : Os) (started : os.Started) (H : Type) (enc : TypeId × Value → H) :
    ReturnsInHanded {} Try.checked os 7 .any (Rows.merkleVerifiesSpec.pre6 enc Try.prog Try.f7 Rows.merkleVerifiesRow.domain false) (Rows.merkleVerifiesSpec.post enc Try.prog Try.f7 false true false false) := by
  refine returnsInHanded_of_change_sized (C := Try.checked) own started (by kernel_rfl) Try.func7
    (ChangeSpec.witness6 (enc := enc) (C := Try.checked) false ⟨#[], #[.int .u64 0, .int .i64 0, .int .i64 0, .int .u64 0, .slice none 0 0], []⟩ 8 (by kernel_rfl) (by kernel_rfl) (by kernel_rfl) (by kernel_rfl)) ?_
  intro W base args ds gs before hval0 hW hcnd hsz0 _
  have hsz : (DataW.weightsEach Try.prog (Try.f7.params.toList ++ Rows.merkleVerifiesSpec.plain.varTypes Try.prog) (ds ++ gs)).all (· ≤ reachBytes) = true := hsz0
  have hval : ∀ (j : Nat) t v, Try.f7.params[j]? = some t → args[j]? = some v → Value.okWide Try.prog W .any base t v := hval0
  have hW' := hW
  obtain ⟨p, q, hA0, hV, rfl, hfz, hnd⟩ := hW
  have hA : DataW.TrodAll enc Try.prog W 0 (fun _ => true) true Try.f7.params.toList args.toList ds p := hA0
  rw [Try.params7] at hA hval hsz
  obtain ⟨v0, vs0, d0, ds0, p0, q0, hargs, rfl, rfl, h0, r0⟩ := trodAll_cons hA
  obtain ⟨v1, vs1, d1, ds1, p1, q1, rfl, rfl, rfl, h1, r1⟩ := trodAll_cons r0
  obtain ⟨v2, vs2, d2, ds2, p2, q2, rfl, rfl, rfl, h2, r2⟩ := trodAll_cons r1
  obtain ⟨v3, vs3, d3, ds3, p3, q3, rfl, rfl, rfl, h3, r3⟩ := trodAll_cons r2
  obtain ⟨v4, vs4, d4, ds4, p4, q4, rfl, rfl, rfl, h4, r4⟩ := trodAll_cons r3
  obtain ⟨rfl, rfl, rfl⟩ := trodAll_nil r4
  obtain rfl : args = #[v0, v1, v2, v3, v4] := by cases args; simp_all
  obtain ⟨rfl, rfl⟩ := trodVars_none hV
  have k0 := h0
  have lt0 : ∀ x ∈ p0, x.block < W.heap.size := by obtain ⟨m, hm⟩ := k0; exact DataW.trod_lt m _ _ _ hm
  have sz0 : ∀ n ∈ d0.weights Try.prog 24, n ≤ reachBytes := fun n hn => by have z := List.all_eq_true.1 hsz n (DataW.weights_mem_each (j := 0) (t := 24) rfl rfl n hn); simpa using z
  obtain ⟨fuel0, hf0⟩ := h0
  obtain ⟨a0, rd0, ok0⟩ := (Opens.int Try.underlying24) fuel0 _ _ hf0 sz0
  obtain ⟨x0, rfl⟩ := okWide_int Try.underlying24 (hval 0 24 v0 rfl rfl)
  have e0 : [Go.Value.int .u64 x0] = _ := rd0
  simp only [List.cons.injEq, Value.int.injEq, Value.bool.injEq, Value.string.injEq, and_true, true_and] at e0
  subst e0
  have k1 := h1
  have lt1 : ∀ x ∈ p1, x.block < W.heap.size := by obtain ⟨m, hm⟩ := k1; exact DataW.trod_lt m _ _ _ hm
  have sz1 : ∀ n ∈ d1.weights Try.prog 3, n ≤ reachBytes := fun n hn => by have z := List.all_eq_true.1 hsz n (DataW.weights_mem_each (j := 1) (t := 3) rfl rfl n hn); simpa using z
  obtain ⟨fuel1, hf1⟩ := h1
  obtain ⟨a1, rd1, ok1⟩ := (Opens.int Try.underlying3) fuel1 _ _ hf1 sz1
  obtain ⟨x1, rfl⟩ := okWide_int Try.underlying3 (hval 1 3 v1 rfl rfl)
  have e1 : [Go.Value.int .i64 x1] = _ := rd1
  simp only [List.cons.injEq, Value.int.injEq, Value.bool.injEq, Value.string.injEq, and_true, true_and] at e1
  subst e1
  have k2 := h2
  have lt2 : ∀ x ∈ p2, x.block < W.heap.size := by obtain ⟨m, hm⟩ := k2; exact DataW.trod_lt m _ _ _ hm
  have sz2 : ∀ n ∈ d2.weights Try.prog 3, n ≤ reachBytes := fun n hn => by have z := List.all_eq_true.1 hsz n (DataW.weights_mem_each (j := 2) (t := 3) rfl rfl n hn); simpa using z
  obtain ⟨fuel2, hf2⟩ := h2
  obtain ⟨a2, rd2, ok2⟩ := (Opens.int Try.underlying3) fuel2 _ _ hf2 sz2
  obtain ⟨x2, rfl⟩ := okWide_int Try.underlying3 (hval 2 3 v2 rfl rfl)
  have e2 : [Go.Value.int .i64 x2] = _ := rd2
  simp only [List.cons.injEq, Value.int.injEq, Value.bool.injEq, Value.string.injEq, and_true, true_and] at e2
  subst e2
  have k3 := h3
  have lt3 : ∀ x ∈ p3, x.block < W.heap.size := by obtain ⟨m, hm⟩ := k3; exact DataW.trod_lt m _ _ _ hm
  have sz3 : ∀ n ∈ d3.weights Try.prog 24, n ≤ reachBytes := fun n hn => by have z := List.all_eq_true.1 hsz n (DataW.weights_mem_each (j := 3) (t := 24) rfl rfl n hn); simpa using z
  obtain ⟨fuel3, hf3⟩ := h3
  obtain ⟨a3, rd3, ok3⟩ := (Opens.int Try.underlying24) fuel3 _ _ hf3 sz3
  obtain ⟨x3, rfl⟩ := okWide_int Try.underlying24 (hval 3 24 v3 rfl rfl)
  have e3 : [Go.Value.int .u64 x3] = _ := rd3
  simp only [List.cons.injEq, Value.int.injEq, Value.bool.injEq, Value.string.injEq, and_true, true_and] at e3
  subst e3
  have k4 := h4
  have lt4 : ∀ x ∈ p4, x.block < W.heap.size := by obtain ⟨m, hm⟩ := k4; exact DataW.trod_lt m _ _ _ hm
  have sz4 : ∀ n ∈ d4.weights Try.prog 63, n ≤ reachBytes := fun n hn => by have z := List.all_eq_true.1 hsz n (DataW.weights_mem_each (j := 4) (t := 63) rfl rfl n hn); simpa using z
  obtain ⟨fuel4, hf4⟩ := h4
  obtain ⟨a4, rd4, ok4⟩ := (Opens.sl (by_ := 8) Try.underlying63 (by kernel_rfl) (by decide) (by kernel_rfl) (Opens.int Try.underlying24)) fuel4 _ _ hf4 sz4
  obtain ⟨A4, n4, c4, rfl⟩ := okWide_slice Try.underlying63 (hval 4 63 v4 rfl rfl)
  obtain ⟨A1_, c2_, e4, h3_⟩ := rd4
  simp [Value.cells] at e4
  obtain ⟨rfl, rfl, rfl⟩ := e4
  clear hA0 hval0 hsz0 hsz
  refine (tourlaw1_MerkleVerifies_ok W W [] (fun b => b < W.heap.size) W x0 x1 x2 x3 A4 c4 a4 (Mem.fz0 W) h3_ true (MerkleVerifies_true x0 x1 x2 x3 a4 ok0 ok1 ok2 ok3 ok4)).mono fun e W' hh => ?_
  obtain ⟨_, _, _, he, hM⟩ := hh
  have bel : Below W.heap.size W W' := hM.below
  subst he
  exact ⟨_, rfl, _, _, _, [], _, [], hW', trodAll_mk1 (shut_bool Try.underlying4 _), (trodAll_cons_mk (Below.trod laidOut (by kernel_rfl) (of_decide_eq_true (by kernel_rfl)) k0 bel lt0) (trodAll_cons_mk (Below.trod laidOut (by kernel_rfl) (of_decide_eq_true (by kernel_rfl)) k1 bel lt1) (trodAll_cons_mk (Below.trod laidOut (by kernel_rfl) (of_decide_eq_true (by kernel_rfl)) k2 bel lt2) (trodAll_cons_mk (Below.trod laidOut (by kernel_rfl) (of_decide_eq_true (by kernel_rfl)) k3 bel lt3) (trodAll_cons_mk (Below.trod laidOut (by kernel_rfl) (of_decide_eq_true (by kernel_rfl)) k4 bel lt4) trodAll_mk0))))), rfl, bel.frame _, fun h => by cases h⟩
theorem over : Rows.merkleVerifiesRow.holds Try.pinned (OpenSpec.ofChange Rows.merkleVerifiesSpec) :=
  OpenClaim.holds_of_wide 7 Try.f7 rfl rfl rfl rfl rfl rfl rfl ⟨rfl, rfl, rfl, rfl, rfl⟩ rfl rfl rfl rfl rfl (by kernel_rfl) Try.func7 (by kernel_rfl)
    (of_decide_eq_true (by kernel_rfl)) (by unfold Func.isWrapper; first | (rw [if_pos (by decide +kernel)]; kernel_rfl) | (rw [if_neg (by decide +kernel)]; exact ⟨rfl, rfl⟩))
    (fun os started H enc _ => lifted os started H enc)
end Go.Proofs.Ytfihfbkjomploaa.merkleVerifies
namespace Go.Proofs.Ytfihfbkjomploaa
/-- The row. -/
theorem merkleVerifies_holds : Rows.MerkleVerifiesSaid := merkleVerifies.over
end Go.Proofs.Ytfihfbkjomploaa
