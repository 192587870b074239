/- The law BitsReads holds: where what it reads is of bulk at most 1048576 (its only condition), the call answers true, and its arguments read as they did. -/
import Derived.Test.YtfihfbkjomploaaRows
import Derived.Test.YtfihfbkjomploaaExUp
import Derived.Test.YtfihfbkjomploaaExRow
import Derived.Test.YtfihfbkjomploaaWkX2
import Derived.Test.YtfihfbkjomploaaPuBitsReads
import Derived.Lib.SmallJoins
import Derived.WalkKit
import Derived.ProofKit
import Derived.OpenShut
import Derived.ShutString
import Derived.ChangeOld
import Derived.Below
import Derived.SizedLaws
namespace Go.Proofs.Ytfihfbkjomploaa.bitsReads
open Go.ChangeShapes Go.WideShapes Go.ChangeAt Go.RowKit Go.Joins Go.Proofs.Ytfihfbkjomploaa.Sx Go.Proofs.Ytfihfbkjomploaa.X
open Go.ChangeMaps (open_string shut_string)
set_option linter.unusedVariables false
set_option linter.unusedSimpArgs false
theorem own : ownKnob Try.prog.godebug = none := by kernel_rfl
theorem laidOut : laidOutB Try.prog = true := by kernel_rfl
theorem opensU_32 (H : Type) (enc : TypeId × Value → H) (W : World) : OpensU H enc Try.prog W 32 R_arr2_Int ok_arr2_Int bk_arr2_Int := fun fuel cs x h hw => by
  obtain ⟨hl, xs, hxl, hxe, n, hf⟩ := OpensU.items Try.underlying32 h hw
  have hl : cs.length = 2 := hl.trans (by kernel_rfl)
  have hxl : xs.length = 2 := hxl
  obtain ⟨y0, y1, rfl⟩ : ∃ y0 y1, xs = [y0, y1] := by match xs, hxl with | [y0, y1], _ => exact ⟨y0, y1, rfl⟩
  obtain ⟨t0, w0⟩ := OpensU.item hf 0 (o := 0) (z := 1) (by decide) rfl (by kernel_rfl) rfl
  obtain ⟨a0, r0, k0, b0⟩ := (OpensU.int Try.underlying3) n _ y0 t0 w0
  obtain ⟨t1, w1⟩ := OpensU.item hf 1 (o := 1) (z := 1) (by decide) rfl (by kernel_rfl) rfl
  obtain ⟨a1, r1, k1, b1⟩ := (OpensU.int Try.underlying3) n _ y1 t1 w1
  exact ⟨(a0, a1), (⟨_, _, seg cs 0 1, r0, (by have z := r1; rw [← seg_last cs 1 1 hl] at z; exact z)⟩ : (R_arr2_Int).rd _ W _ (cs.drop 0)), ⟨k0, k1⟩, by rw [hxe]; simp only [bk_arr2_Int, List.map_cons, List.map_nil, Rows.uptoBulkAll, Rows.uptoBulk]; omega⟩
set_option maxRecDepth 100000 in
theorem lifted (os : Os) (started : os.Started) (H : Type) (enc : TypeId × Value → H) (F : Stop.Interp) :
    ReturnsInHanded {} Try.checked os 3 .any ((Rows.OpenSpec.upto Rows.bitsReadsSpec).pre6 enc Try.prog Try.f3 Rows.bitsReadsUptoRow.domain false) (((Rows.OpenSpec.upto Rows.bitsReadsSpec).at F).post enc Try.prog Try.f3 false true false false) := by
  refine returnsInHanded_of_cond_sized (C := Try.checked) (s := (Rows.OpenSpec.upto Rows.bitsReadsSpec)) (k := Rows.uptoSmall) rfl own started (by kernel_rfl) Try.func3
    (OpenSpec.witness (enc := enc) (C := Try.checked) (s := (Rows.OpenSpec.upto Rows.bitsReadsSpec)) (k := Rows.uptoSmall) rfl false ⟨#[], #[.slice none 0 0, .slice none 0 0], []⟩ 8 (by kernel_rfl) (by kernel_rfl) (by kernel_rfl) (x := ([.nil, .nil], [], [])) (by kernel_rfl) rfl (by kernel_rfl)) ?_
  intro W base args ds gs before hval0 hW hcnd hk hsz0 _
  have hsz : (DataW.weightsEach Try.prog (Try.f3.params.toList ++ Rows.bitsReadsSpec.plain.varTypes Try.prog) (ds ++ gs)).all (· ≤ reachBytes) = true := hsz0
  have hval : ∀ (j : Nat) t v, Try.f3.params[j]? = some t → args[j]? = some v → Value.okWide Try.prog W .any base t v := hval0
  have hW' := hW
  obtain ⟨p, q, hA0, hV, rfl, hfz, hnd⟩ := hW
  have hA : DataW.TrodAll enc Try.prog W 0 (fun _ => true) true Try.f3.params.toList args.toList ds p := hA0
  rw [Try.params3] at hA hval hsz
  obtain ⟨v0, vs0, d0, ds0, p0, q0, hargs, rfl, rfl, h0, r0⟩ := trodAll_cons hA
  obtain ⟨v1, vs1, d1, ds1, p1, q1, rfl, rfl, rfl, h1, r1⟩ := trodAll_cons r0
  obtain ⟨rfl, rfl, rfl⟩ := trodAll_nil r1
  obtain rfl : args = #[v0, v1] := by cases args; simp_all
  obtain ⟨rfl, rfl⟩ := trodVars_none hV
  have k0 := h0
  have lt0 : ∀ x ∈ p0, x.block < W.heap.size := by obtain ⟨m, hm⟩ := k0; exact DataW.trod_lt m _ _ _ hm
  have sz0 : ∀ n ∈ d0.weights Try.prog 22, n ≤ reachBytes := fun n hn => by have z := List.all_eq_true.1 hsz n (DataW.weights_mem_each (j := 0) (t := 22) rfl rfl n hn); simpa using z
  obtain ⟨fuel0, hf0⟩ := h0
  obtain ⟨a0, rd0, ok0, bb0⟩ := (OpensU.sl (by_ := 1) Try.underlying22 (by kernel_rfl) (by decide) (by kernel_rfl) (OpensU.int Try.underlying5)) fuel0 _ _ hf0 sz0
  have bb0 : (bkl bk1) a0 ≤ Rows.uptoBulk d0 := bb0
  obtain ⟨A0, n0, c0, rfl⟩ := okWide_slice Try.underlying22 (hval 0 22 v0 rfl rfl)
  obtain ⟨A1_, c2_, e0, h3_⟩ := rd0
  simp [Value.cells] at e0
  obtain ⟨rfl, rfl, rfl⟩ := e0
  have k1 := h1
  have lt1 : ∀ x ∈ p1, x.block < W.heap.size := by obtain ⟨m, hm⟩ := k1; exact DataW.trod_lt m _ _ _ hm
  have sz1 : ∀ n ∈ d1.weights Try.prog 23, n ≤ reachBytes := fun n hn => by have z := List.all_eq_true.1 hsz n (DataW.weights_mem_each (j := 1) (t := 23) rfl rfl n hn); simpa using z
  obtain ⟨fuel1, hf1⟩ := h1
  obtain ⟨a1, rd1, ok1, bb1⟩ := (OpensU.sl (by_ := 16) Try.underlying23 (by kernel_rfl) (by decide) (by kernel_rfl) (opensU_32 H enc W)) fuel1 _ _ hf1 sz1
  have bb1 : (bkl bk_arr2_Int) a1 ≤ Rows.uptoBulk d1 := bb1
  obtain ⟨A1, n1, c1, rfl⟩ := okWide_slice Try.underlying23 (hval 1 23 v1 rfl rfl)
  obtain ⟨A4_, c5_, e1, h6_⟩ := rd1
  simp [Value.cells] at e1
  obtain ⟨rfl, rfl, rfl⟩ := e1
  have hb : Rows.uptoBulkAll _ ≤ 1048576 := of_decide_eq_true hk
  simp only [List.append_nil, Rows.uptoBulkAll] at hb
  clear hA0 hval0 hsz0 hsz
  refine (tourlaw1_BitsReads_ok W W [] (fun b => b < W.heap.size) W A0 c0 a0 A1 c1 a1 (Mem.fz0 W) h3_ h6_ true (BitsReads_true a0 a1 ok0 ok1 (by omega))).mono fun e W' hh => ?_
  obtain ⟨_, he, hM⟩ := hh
  have bel : Below W.heap.size W W' := hM.below
  subst he
  exact ⟨_, rfl, _, _, _, [], _, [], hW', trodAll_mk1 (shut_bool Try.underlying4 _), (trodAll_cons_mk (Below.trod laidOut (by kernel_rfl) (of_decide_eq_true (by kernel_rfl)) k0 bel lt0) (trodAll_cons_mk (Below.trod laidOut (by kernel_rfl) (of_decide_eq_true (by kernel_rfl)) k1 bel lt1) trodAll_mk0)), rfl, bel.frame _, fun h => by cases h⟩
theorem over : Rows.bitsReadsUptoRow.holds Try.pinned (Rows.OpenSpec.upto Rows.bitsReadsSpec) :=
  OpenClaim.holds_of_cond 3 Try.f3 rfl rfl rfl rfl rfl rfl rfl ⟨rfl, rfl, rfl, rfl, rfl⟩ rfl rfl rfl rfl rfl (by kernel_rfl) Try.func3 (by kernel_rfl)
    (of_decide_eq_true (by kernel_rfl)) (by unfold Func.isWrapper; first | (rw [if_pos (by decide +kernel)]; kernel_rfl) | (rw [if_neg (by decide +kernel)]; exact ⟨rfl, rfl⟩))
    (fun os started H enc _ F => lifted os started H enc F)
end Go.Proofs.Ytfihfbkjomploaa.bitsReads
namespace Go.Proofs.Ytfihfbkjomploaa
/-- The row. -/
theorem bitsReads_holds : Rows.BitsReadsUptoSaid := bitsReads.over
end Go.Proofs.Ytfihfbkjomploaa
