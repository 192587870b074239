/- The law PlanRight holds: where what it reads is of bulk at most 1048576 (its only condition), the call answers true, and its arguments read as they did. -/
import Derived.Test.YtnnhijlgohlaeaaRows
import Derived.Test.YtnnhijlgohlaeaaExUp
import Derived.Test.YtnnhijlgohlaeaaExRow
import Derived.Test.YtnnhijlgohlaeaaWkP3
import Derived.Test.YtnnhijlgohlaeaaPuPlanRightP
import Derived.Lib.SmallJoins
import Derived.WalkKit
import Derived.ProofKit
import Derived.OpenShut
import Derived.ShutString
import Derived.ChangeOld
import Derived.Below
import Derived.SizedLaws
namespace Go.Proofs.Ytnnhijlgohlaeaa.planRight
open Go.ChangeShapes Go.WideShapes Go.ChangeAt Go.RowKit Go.Joins Go.Proofs.Ytnnhijlgohlaeaa.Sx Go.Proofs.Ytnnhijlgohlaeaa.P
open Go.ChangeMaps (open_string shut_string)
set_option linter.unusedVariables false
set_option linter.unusedSimpArgs false
theorem own : ownKnob Try.prog.godebug = none := by kernel_rfl
theorem laidOut : laidOutB Try.prog = true := by kernel_rfl
theorem opensU_40 (H : Type) (enc : TypeId × Value → H) (W : World) : OpensU H enc Try.prog W 40 R_api_Ref ok_api_Ref bk_api_Ref := fun fuel cs x h hw => by
  obtain ⟨hl, xs, hxl, hxe, n, hf⟩ := OpensU.fields Try.underlying40 h hw
  have hl : cs.length = 2 := hl.trans (by kernel_rfl)
  have hxl : xs.length = 2 := hxl
  obtain ⟨y0, y1, rfl⟩ : ∃ y0 y1, xs = [y0, y1] := by match xs, hxl with | [y0, y1], _ => exact ⟨y0, y1, rfl⟩
  obtain ⟨t0, w0⟩ := OpensU.field hf 0 (ft := 3) (o := 0) (z := 1) rfl rfl rfl rfl (by kernel_rfl)
  obtain ⟨a0, r0, k0, b0⟩ := (OpensU.int Try.underlying3) n _ y0 t0 w0
  obtain ⟨t1, w1⟩ := OpensU.field hf 1 (ft := 3) (o := 1) (z := 1) rfl rfl rfl rfl (by kernel_rfl)
  obtain ⟨a1, r1, k1, b1⟩ := (OpensU.int Try.underlying3) n _ y1 t1 w1
  exact ⟨(api_Ref.mk a0 a1), (⟨_, _, seg cs 0 1, r0, (by have z := r1; rw [← seg_last cs 1 1 hl] at z; exact z)⟩ : (R_api_Ref).rd _ W _ (cs.drop 0)), ⟨k0, k1⟩, by rw [hxe]; simp only [bk_api_Ref, List.map_cons, List.map_nil, Rows.uptoBulkAll, Rows.uptoBulk]; omega⟩
theorem opensU_138 (H : Type) (enc : TypeId × Value → H) (W : World) : OpensU H enc Try.prog W 138 R_api_Arg ok_api_Arg bk_api_Arg := fun fuel cs x h hw => by
  obtain ⟨hl, xs, hxl, hxe, n, hf⟩ := OpensU.fields Try.underlying138 h hw
  have hl : cs.length = 4 := hl.trans (by kernel_rfl)
  have hxl : xs.length = 3 := hxl
  obtain ⟨y0, y1, y2, rfl⟩ : ∃ y0 y1 y2, xs = [y0, y1, y2] := by match xs, hxl with | [y0, y1, y2], _ => exact ⟨y0, y1, y2, rfl⟩
  obtain ⟨t0, w0⟩ := OpensU.field hf 0 (ft := 4) (o := 0) (z := 1) rfl rfl rfl rfl (by kernel_rfl)
  obtain ⟨a0, r0, k0, b0⟩ := (OpensU.bool Try.underlying4) n _ y0 t0 w0
  obtain ⟨t1, w1⟩ := OpensU.field hf 1 (ft := 3) (o := 1) (z := 1) rfl rfl rfl rfl (by kernel_rfl)
  obtain ⟨a1, r1, k1, b1⟩ := (OpensU.int Try.underlying3) n _ y1 t1 w1
  obtain ⟨t2, w2⟩ := OpensU.field hf 2 (ft := 40) (o := 2) (z := 2) rfl rfl rfl rfl (by kernel_rfl)
  obtain ⟨a2, r2, k2, b2⟩ := (opensU_40 H enc W) n _ y2 t2 w2
  exact ⟨(api_Arg.mk a0 a1 a2), (⟨_, _, seg cs 0 1, r0, ⟨_, _, seg cs 1 1, r1, (by have z := r2; rw [← seg_last cs 2 2 hl] at z; exact z)⟩⟩ : (R_api_Arg).rd _ W _ (cs.drop 0)), ⟨k0, k1, k2⟩, by rw [hxe]; simp only [bk_api_Arg, List.map_cons, List.map_nil, Rows.uptoBulkAll, Rows.uptoBulk]; omega⟩
theorem opensU_140 (H : Type) (enc : TypeId × Value → H) (W : World) : OpensU H enc Try.prog W 140 R_api_Op ok_api_Op bk_api_Op := fun fuel cs x h hw => by
  obtain ⟨hl, xs, hxl, hxe, n, hf⟩ := OpensU.fields Try.underlying140 h hw
  have hl : cs.length = 11 := hl.trans (by kernel_rfl)
  have hxl : xs.length = 4 := hxl
  obtain ⟨y0, y1, y2, y3, rfl⟩ : ∃ y0 y1 y2 y3, xs = [y0, y1, y2, y3] := by match xs, hxl with | [y0, y1, y2, y3], _ => exact ⟨y0, y1, y2, y3, rfl⟩
  obtain ⟨t0, w0⟩ := OpensU.field hf 0 (ft := 3) (o := 0) (z := 1) rfl rfl rfl rfl (by kernel_rfl)
  obtain ⟨a0, r0, k0, b0⟩ := (OpensU.int Try.underlying3) n _ y0 t0 w0
  obtain ⟨t1, w1⟩ := OpensU.field hf 1 (ft := 40) (o := 1) (z := 2) rfl rfl rfl rfl (by kernel_rfl)
  obtain ⟨a1, r1, k1, b1⟩ := (opensU_40 H enc W) n _ y1 t1 w1
  obtain ⟨t2, w2⟩ := OpensU.field hf 2 (ft := 138) (o := 3) (z := 4) rfl rfl rfl rfl (by kernel_rfl)
  obtain ⟨a2, r2, k2, b2⟩ := (opensU_138 H enc W) n _ y2 t2 w2
  obtain ⟨t3, w3⟩ := OpensU.field hf 3 (ft := 138) (o := 7) (z := 4) rfl rfl rfl rfl (by kernel_rfl)
  obtain ⟨a3, r3, k3, b3⟩ := (opensU_138 H enc W) n _ y3 t3 w3
  exact ⟨(api_Op.mk a0 a1 a2 a3), (⟨_, _, seg cs 0 1, r0, ⟨_, _, seg cs 1 2, r1, ⟨_, _, seg cs 3 4, r2, (by have z := r3; rw [← seg_last cs 7 4 hl] at z; exact z)⟩⟩⟩ : (R_api_Op).rd _ W _ (cs.drop 0)), ⟨k0, k1, k2, k3⟩, by rw [hxe]; simp only [bk_api_Op, List.map_cons, List.map_nil, Rows.uptoBulkAll, Rows.uptoBulk]; omega⟩
theorem opensU_54 (H : Type) (enc : TypeId × Value → H) (W : World) : OpensU H enc Try.prog W 54 R_api_Comp ok_api_Comp bk_api_Comp := fun fuel cs x h hw => by
  obtain ⟨hl, xs, hxl, hxe, n, hf⟩ := OpensU.fields Try.underlying54 h hw
  have hl : cs.length = 2 := hl.trans (by kernel_rfl)
  have hxl : xs.length = 2 := hxl
  obtain ⟨y0, y1, rfl⟩ : ∃ y0 y1, xs = [y0, y1] := by match xs, hxl with | [y0, y1], _ => exact ⟨y0, y1, rfl⟩
  obtain ⟨t0, w0⟩ := OpensU.field hf 0 (ft := 3) (o := 0) (z := 1) rfl rfl rfl rfl (by kernel_rfl)
  obtain ⟨a0, r0, k0, b0⟩ := (OpensU.int Try.underlying3) n _ y0 t0 w0
  obtain ⟨t1, w1⟩ := OpensU.field hf 1 (ft := 26) (o := 1) (z := 1) rfl rfl rfl rfl (by kernel_rfl)
  obtain ⟨a1, r1, k1, b1⟩ := (OpensU.sl (by_ := 8) Try.underlying26 (by kernel_rfl) (by decide) (by kernel_rfl) (OpensU.int Try.underlying3)) n _ y1 t1 w1
  exact ⟨(api_Comp.mk a0 a1), (⟨_, _, seg cs 0 1, r0, (by have z := r1; rw [← seg_last cs 1 1 hl] at z; exact z)⟩ : (R_api_Comp).rd _ W _ (cs.drop 0)), ⟨k0, k1⟩, by rw [hxe]; simp only [bk_api_Comp, List.map_cons, List.map_nil, Rows.uptoBulkAll, Rows.uptoBulk]; omega⟩
theorem opensU_30 (H : Type) (enc : TypeId × Value → H) (W : World) : OpensU H enc Try.prog W 30 R_api_System ok_api_System bk_api_System := fun fuel cs x h hw => by
  obtain ⟨hl, xs, hxl, hxe, n, hf⟩ := OpensU.fields Try.underlying30 h hw
  have hl : cs.length = 7 := hl.trans (by kernel_rfl)
  have hxl : xs.length = 7 := hxl
  obtain ⟨y0, y1, y2, y3, y4, y5, y6, rfl⟩ : ∃ y0 y1 y2 y3 y4 y5 y6, xs = [y0, y1, y2, y3, y4, y5, y6] := by match xs, hxl with | [y0, y1, y2, y3, y4, y5, y6], _ => exact ⟨y0, y1, y2, y3, y4, y5, y6, rfl⟩
  obtain ⟨t0, w0⟩ := OpensU.field hf 0 (ft := 9) (o := 0) (z := 1) rfl rfl rfl rfl (by kernel_rfl)
  obtain ⟨a0, r0, k0, b0⟩ := (OpensU.str Try.underlying9) n _ y0 t0 w0
  obtain ⟨t1, w1⟩ := OpensU.field hf 1 (ft := 26) (o := 1) (z := 1) rfl rfl rfl rfl (by kernel_rfl)
  obtain ⟨a1, r1, k1, b1⟩ := (OpensU.sl (by_ := 8) Try.underlying26 (by kernel_rfl) (by decide) (by kernel_rfl) (OpensU.int Try.underlying3)) n _ y1 t1 w1
  obtain ⟨t2, w2⟩ := OpensU.field hf 2 (ft := 26) (o := 2) (z := 1) rfl rfl rfl rfl (by kernel_rfl)
  obtain ⟨a2, r2, k2, b2⟩ := (OpensU.sl (by_ := 8) Try.underlying26 (by kernel_rfl) (by decide) (by kernel_rfl) (OpensU.int Try.underlying3)) n _ y2 t2 w2
  obtain ⟨t3, w3⟩ := OpensU.field hf 3 (ft := 26) (o := 3) (z := 1) rfl rfl rfl rfl (by kernel_rfl)
  obtain ⟨a3, r3, k3, b3⟩ := (OpensU.sl (by_ := 8) Try.underlying26 (by kernel_rfl) (by decide) (by kernel_rfl) (OpensU.int Try.underlying3)) n _ y3 t3 w3
  obtain ⟨t4, w4⟩ := OpensU.field hf 4 (ft := 26) (o := 4) (z := 1) rfl rfl rfl rfl (by kernel_rfl)
  obtain ⟨a4, r4, k4, b4⟩ := (OpensU.sl (by_ := 8) Try.underlying26 (by kernel_rfl) (by decide) (by kernel_rfl) (OpensU.int Try.underlying3)) n _ y4 t4 w4
  obtain ⟨t5, w5⟩ := OpensU.field hf 5 (ft := 27) (o := 5) (z := 1) rfl rfl rfl rfl (by kernel_rfl)
  obtain ⟨a5, r5, k5, b5⟩ := (OpensU.sl (by_ := 88) Try.underlying27 (by kernel_rfl) (by decide) (by kernel_rfl) (opensU_140 H enc W)) n _ y5 t5 w5
  obtain ⟨t6, w6⟩ := OpensU.field hf 6 (ft := 28) (o := 6) (z := 1) rfl rfl rfl rfl (by kernel_rfl)
  obtain ⟨a6, r6, k6, b6⟩ := (OpensU.sl (by_ := 32) Try.underlying28 (by kernel_rfl) (by decide) (by kernel_rfl) (opensU_54 H enc W)) n _ y6 t6 w6
  exact ⟨(api_System.mk a0 a1 a2 a3 a4 a5 a6), (⟨_, _, seg cs 0 1, r0, ⟨_, _, seg cs 1 1, r1, ⟨_, _, seg cs 2 1, r2, ⟨_, _, seg cs 3 1, r3, ⟨_, _, seg cs 4 1, r4, ⟨_, _, seg cs 5 1, r5, (by have z := r6; rw [← seg_last cs 6 1 hl] at z; exact z)⟩⟩⟩⟩⟩⟩ : (R_api_System).rd _ W _ (cs.drop 0)), ⟨k0, k1, k2, k3, k4, k5, k6⟩, by rw [hxe]; simp only [bk_api_System, List.map_cons, List.map_nil, Rows.uptoBulkAll, Rows.uptoBulk]; omega⟩
set_option maxRecDepth 100000 in
theorem lifted (os : Os) (started : os.Started) (H : Type) (enc : TypeId × Value → H) (F : Stop.Interp) :
    ReturnsInHanded {} Try.checked os 3 .any ((Rows.OpenSpec.upto Rows.planRightSpec).pre6 enc Try.prog Try.f3 Rows.planRightUptoRow.domain false) (((Rows.OpenSpec.upto Rows.planRightSpec).at F).post enc Try.prog Try.f3 false true false false) := by
  refine returnsInHanded_of_cond_sized (C := Try.checked) (s := (Rows.OpenSpec.upto Rows.planRightSpec)) (k := Rows.uptoSmall) rfl own started (by kernel_rfl) Try.func3
    (OpenSpec.witness (enc := enc) (C := Try.checked) (s := (Rows.OpenSpec.upto Rows.planRightSpec)) (k := Rows.uptoSmall) rfl false ⟨#[], #[.slice none 0 0, .slice none 0 0], []⟩ 8 (by kernel_rfl) (by kernel_rfl) (by kernel_rfl) (x := ([.nil, .nil], [], [])) (by kernel_rfl) rfl (by kernel_rfl)) ?_
  intro W base args ds gs before hval0 hW hcnd hk hsz0 _
  have hsz : (DataW.weightsEach Try.prog (Try.f3.params.toList ++ Rows.planRightSpec.plain.varTypes Try.prog) (ds ++ gs)).all (· ≤ reachBytes) = true := hsz0
  have hval : ∀ (j : Nat) t v, Try.f3.params[j]? = some t → args[j]? = some v → Value.okWide Try.prog W .any base t v := hval0
  have hW' := hW
  obtain ⟨p, q, hA0, hV, rfl, hfz, hnd⟩ := hW
  have hA : DataW.TrodAll enc Try.prog W 0 (fun _ => true) true Try.f3.params.toList args.toList ds p := hA0
  rw [Try.params3] at hA hval hsz
  obtain ⟨v0, vs0, d0, ds0, p0, q0, hargs, rfl, rfl, h0, r0⟩ := trodAll_cons hA
  obtain ⟨v1, vs1, d1, ds1, p1, q1, rfl, rfl, rfl, h1, r1⟩ := trodAll_cons r0
  obtain ⟨rfl, rfl, rfl⟩ := trodAll_nil r1
  obtain rfl : args = #[v0, v1] := by cases args; simp_all
  obtain ⟨rfl, rfl⟩ := trodVars_none hV
  have k0 := h0
  have lt0 : ∀ x ∈ p0, x.block < W.heap.size := by obtain ⟨m, hm⟩ := k0; exact DataW.trod_lt m _ _ _ hm
  have sz0 : ∀ n ∈ d0.weights Try.prog 22, n ≤ reachBytes := fun n hn => by have z := List.all_eq_true.1 hsz n (DataW.weights_mem_each (j := 0) (t := 22) rfl rfl n hn); simpa using z
  obtain ⟨fuel0, hf0⟩ := h0
  obtain ⟨a0, rd0, ok0, bb0⟩ := (OpensU.sl (by_ := 160) Try.underlying22 (by kernel_rfl) (by decide) (by kernel_rfl) (opensU_30 H enc W)) fuel0 _ _ hf0 sz0
  have bb0 : (bkl bk_api_System) a0 ≤ Rows.uptoBulk d0 := bb0
  obtain ⟨A0, n0, c0, rfl⟩ := okWide_slice Try.underlying22 (hval 0 22 v0 rfl rfl)
  obtain ⟨A1_, c2_, e0, h3_⟩ := rd0
  simp [Value.cells] at e0
  obtain ⟨rfl, rfl, rfl⟩ := e0
  have k1 := h1
  have lt1 : ∀ x ∈ p1, x.block < W.heap.size := by obtain ⟨m, hm⟩ := k1; exact DataW.trod_lt m _ _ _ hm
  have sz1 : ∀ n ∈ d1.weights Try.prog 23, n ≤ reachBytes := fun n hn => by have z := List.all_eq_true.1 hsz n (DataW.weights_mem_each (j := 1) (t := 23) rfl rfl n hn); simpa using z
  obtain ⟨fuel1, hf1⟩ := h1
  obtain ⟨a1, rd1, ok1, bb1⟩ := (OpensU.sl (by_ := 24) Try.underlying23 (by kernel_rfl) (by decide) (by kernel_rfl) (OpensU.sl (by_ := 8) Try.underlying26 (by kernel_rfl) (by decide) (by kernel_rfl) (OpensU.int Try.underlying3))) fuel1 _ _ hf1 sz1
  have bb1 : (bkl (bkl bk1)) a1 ≤ Rows.uptoBulk d1 := bb1
  obtain ⟨A1, n1, c1, rfl⟩ := okWide_slice Try.underlying23 (hval 1 23 v1 rfl rfl)
  obtain ⟨A4_, c5_, e1, h6_⟩ := rd1
  simp [Value.cells] at e1
  obtain ⟨rfl, rfl, rfl⟩ := e1
  have hb : Rows.uptoBulkAll _ ≤ 1048576 := of_decide_eq_true hk
  simp only [List.append_nil, Rows.uptoBulkAll] at hb
  clear hA0 hval0 hsz0 hsz
  refine (tourlaw3_PlanRight_ok W W [] (fun b => b < W.heap.size) W A0 c0 a0 A1 c1 a1 (Mem.fz0 W) h3_ h6_ true (PlanRight_true a0 a1 ok0 ok1 (have z : (bkl bk_api_System) a0 + (bkl (bkl bk1)) a1 ≤ 1048576 := (by omega); z))).mono fun e W' hh => ?_
  obtain ⟨_, _, _, he, hM⟩ := hh
  have bel : Below W.heap.size W W' := hM.below
  subst he
  exact ⟨_, rfl, _, _, _, [], _, [], hW', trodAll_mk1 (shut_bool Try.underlying4 _), (trodAll_cons_mk (Below.trod laidOut (by kernel_rfl) (of_decide_eq_true (by kernel_rfl)) k0 bel lt0) (trodAll_cons_mk (Below.trod laidOut (by kernel_rfl) (of_decide_eq_true (by kernel_rfl)) k1 bel lt1) trodAll_mk0)), rfl, bel.frame _, fun h => by cases h⟩
theorem over : Rows.planRightUptoRow.holds Try.pinned (Rows.OpenSpec.upto Rows.planRightSpec) :=
  OpenClaim.holds_of_cond 3 Try.f3 rfl rfl rfl rfl rfl rfl rfl ⟨rfl, rfl, rfl, rfl, rfl⟩ rfl rfl rfl rfl rfl (by kernel_rfl) Try.func3 (by kernel_rfl)
    (of_decide_eq_true (by kernel_rfl)) (by unfold Func.isWrapper; first | (rw [if_pos (by decide +kernel)]; kernel_rfl) | (rw [if_neg (by decide +kernel)]; exact ⟨rfl, rfl⟩))
    (fun os started H enc _ F => lifted os started H enc F)
end Go.Proofs.Ytnnhijlgohlaeaa.planRight
namespace Go.Proofs.Ytnnhijlgohlaeaa
/-- The row. -/
theorem planRight_holds : Rows.PlanRightUptoSaid := planRight.over
end Go.Proofs.Ytnnhijlgohlaeaa
