/- The law PlanLayers holds: whatever the input, the call answers true, and its arguments read as they did. No condition. -/
import Derived.Test.YtnnhijlgohlaeaaRows
import Derived.Test.YtnnhijlgohlaeaaExRow
import Derived.Test.YtnnhijlgohlaeaaWkP5
import Derived.Test.YtnnhijlgohlaeaaPuPlanLayersP
import Derived.Lib.SmallJoins
import Derived.WalkKit
import Derived.ProofKit
import Derived.OpenShut
import Derived.ShutString
import Derived.ChangeOld
import Derived.Below
import Derived.SizedLaws
namespace Go.Proofs.Ytnnhijlgohlaeaa.planLayers
open Go.ChangeShapes Go.WideShapes Go.ChangeAt Go.RowKit Go.Joins Go.Proofs.Ytnnhijlgohlaeaa.Sx Go.Proofs.Ytnnhijlgohlaeaa.P
open Go.ChangeMaps (open_string shut_string)
set_option linter.unusedVariables false
set_option linter.unusedSimpArgs false
theorem own : ownKnob Try.prog.godebug = none := by kernel_rfl
theorem laidOut : laidOutB Try.prog = true := by kernel_rfl
theorem opens_40 (H : Type) (enc : TypeId × Value → H) (W : World) : Opens H enc Try.prog W 40 R_api_Ref ok_api_Ref := fun fuel cs x h hw => by
  obtain ⟨hl, hf⟩ := Opens.fields Try.underlying40 h hw
  have hl : cs.length = 2 := hl.trans (by kernel_rfl)
  obtain ⟨n0, y0, t0, w0⟩ := Opens.field hf 0 (ft := 3) (o := 0) (z := 1) rfl rfl rfl (by kernel_rfl)
  obtain ⟨a0, r0, k0⟩ := (Opens.int Try.underlying3) n0 _ y0 t0 w0
  obtain ⟨n1, y1, t1, w1⟩ := Opens.field hf 1 (ft := 3) (o := 1) (z := 1) rfl rfl rfl (by kernel_rfl)
  obtain ⟨a1, r1, k1⟩ := (Opens.int Try.underlying3) n1 _ y1 t1 w1
  exact ⟨(api_Ref.mk a0 a1), (⟨_, _, seg cs 0 1, r0, (by have z := r1; rw [← seg_last cs 1 1 hl] at z; exact z)⟩ : (R_api_Ref).rd _ W _ (cs.drop 0)), ⟨k0, k1⟩⟩
theorem opens_138 (H : Type) (enc : TypeId × Value → H) (W : World) : Opens H enc Try.prog W 138 R_api_Arg ok_api_Arg := fun fuel cs x h hw => by
  obtain ⟨hl, hf⟩ := Opens.fields Try.underlying138 h hw
  have hl : cs.length = 4 := hl.trans (by kernel_rfl)
  obtain ⟨n0, y0, t0, w0⟩ := Opens.field hf 0 (ft := 4) (o := 0) (z := 1) rfl rfl rfl (by kernel_rfl)
  obtain ⟨a0, r0, k0⟩ := (Opens.bool Try.underlying4) n0 _ y0 t0 w0
  obtain ⟨n1, y1, t1, w1⟩ := Opens.field hf 1 (ft := 3) (o := 1) (z := 1) rfl rfl rfl (by kernel_rfl)
  obtain ⟨a1, r1, k1⟩ := (Opens.int Try.underlying3) n1 _ y1 t1 w1
  obtain ⟨n2, y2, t2, w2⟩ := Opens.field hf 2 (ft := 40) (o := 2) (z := 2) rfl rfl rfl (by kernel_rfl)
  obtain ⟨a2, r2, k2⟩ := (opens_40 H enc W) n2 _ y2 t2 w2
  exact ⟨(api_Arg.mk a0 a1 a2), (⟨_, _, seg cs 0 1, r0, ⟨_, _, seg cs 1 1, r1, (by have z := r2; rw [← seg_last cs 2 2 hl] at z; exact z)⟩⟩ : (R_api_Arg).rd _ W _ (cs.drop 0)), ⟨k0, k1, k2⟩⟩
theorem opens_140 (H : Type) (enc : TypeId × Value → H) (W : World) : Opens H enc Try.prog W 140 R_api_Op ok_api_Op := fun fuel cs x h hw => by
  obtain ⟨hl, hf⟩ := Opens.fields Try.underlying140 h hw
  have hl : cs.length = 11 := hl.trans (by kernel_rfl)
  obtain ⟨n0, y0, t0, w0⟩ := Opens.field hf 0 (ft := 3) (o := 0) (z := 1) rfl rfl rfl (by kernel_rfl)
  obtain ⟨a0, r0, k0⟩ := (Opens.int Try.underlying3) n0 _ y0 t0 w0
  obtain ⟨n1, y1, t1, w1⟩ := Opens.field hf 1 (ft := 40) (o := 1) (z := 2) rfl rfl rfl (by kernel_rfl)
  obtain ⟨a1, r1, k1⟩ := (opens_40 H enc W) n1 _ y1 t1 w1
  obtain ⟨n2, y2, t2, w2⟩ := Opens.field hf 2 (ft := 138) (o := 3) (z := 4) rfl rfl rfl (by kernel_rfl)
  obtain ⟨a2, r2, k2⟩ := (opens_138 H enc W) n2 _ y2 t2 w2
  obtain ⟨n3, y3, t3, w3⟩ := Opens.field hf 3 (ft := 138) (o := 7) (z := 4) rfl rfl rfl (by kernel_rfl)
  obtain ⟨a3, r3, k3⟩ := (opens_138 H enc W) n3 _ y3 t3 w3
  exact ⟨(api_Op.mk a0 a1 a2 a3), (⟨_, _, seg cs 0 1, r0, ⟨_, _, seg cs 1 2, r1, ⟨_, _, seg cs 3 4, r2, (by have z := r3; rw [← seg_last cs 7 4 hl] at z; exact z)⟩⟩⟩ : (R_api_Op).rd _ W _ (cs.drop 0)), ⟨k0, k1, k2, k3⟩⟩
theorem opens_54 (H : Type) (enc : TypeId × Value → H) (W : World) : Opens H enc Try.prog W 54 R_api_Comp ok_api_Comp := fun fuel cs x h hw => by
  obtain ⟨hl, hf⟩ := Opens.fields Try.underlying54 h hw
  have hl : cs.length = 2 := hl.trans (by kernel_rfl)
  obtain ⟨n0, y0, t0, w0⟩ := Opens.field hf 0 (ft := 3) (o := 0) (z := 1) rfl rfl rfl (by kernel_rfl)
  obtain ⟨a0, r0, k0⟩ := (Opens.int Try.underlying3) n0 _ y0 t0 w0
  obtain ⟨n1, y1, t1, w1⟩ := Opens.field hf 1 (ft := 26) (o := 1) (z := 1) rfl rfl rfl (by kernel_rfl)
  obtain ⟨a1, r1, k1⟩ := (Opens.sl (by_ := 8) Try.underlying26 (by kernel_rfl) (by decide) (by kernel_rfl) (Opens.int Try.underlying3)) n1 _ y1 t1 w1
  exact ⟨(api_Comp.mk a0 a1), (⟨_, _, seg cs 0 1, r0, (by have z := r1; rw [← seg_last cs 1 1 hl] at z; exact z)⟩ : (R_api_Comp).rd _ W _ (cs.drop 0)), ⟨k0, k1⟩⟩
theorem opens_30 (H : Type) (enc : TypeId × Value → H) (W : World) : Opens H enc Try.prog W 30 R_api_System ok_api_System := fun fuel cs x h hw => by
  obtain ⟨hl, hf⟩ := Opens.fields Try.underlying30 h hw
  have hl : cs.length = 7 := hl.trans (by kernel_rfl)
  obtain ⟨n0, y0, t0, w0⟩ := Opens.field hf 0 (ft := 9) (o := 0) (z := 1) rfl rfl rfl (by kernel_rfl)
  obtain ⟨a0, r0, k0⟩ := (Opens.str Try.underlying9) n0 _ y0 t0 w0
  obtain ⟨n1, y1, t1, w1⟩ := Opens.field hf 1 (ft := 26) (o := 1) (z := 1) rfl rfl rfl (by kernel_rfl)
  obtain ⟨a1, r1, k1⟩ := (Opens.sl (by_ := 8) Try.underlying26 (by kernel_rfl) (by decide) (by kernel_rfl) (Opens.int Try.underlying3)) n1 _ y1 t1 w1
  obtain ⟨n2, y2, t2, w2⟩ := Opens.field hf 2 (ft := 26) (o := 2) (z := 1) rfl rfl rfl (by kernel_rfl)
  obtain ⟨a2, r2, k2⟩ := (Opens.sl (by_ := 8) Try.underlying26 (by kernel_rfl) (by decide) (by kernel_rfl) (Opens.int Try.underlying3)) n2 _ y2 t2 w2
  obtain ⟨n3, y3, t3, w3⟩ := Opens.field hf 3 (ft := 26) (o := 3) (z := 1) rfl rfl rfl (by kernel_rfl)
  obtain ⟨a3, r3, k3⟩ := (Opens.sl (by_ := 8) Try.underlying26 (by kernel_rfl) (by decide) (by kernel_rfl) (Opens.int Try.underlying3)) n3 _ y3 t3 w3
  obtain ⟨n4, y4, t4, w4⟩ := Opens.field hf 4 (ft := 26) (o := 4) (z := 1) rfl rfl rfl (by kernel_rfl)
  obtain ⟨a4, r4, k4⟩ := (Opens.sl (by_ := 8) Try.underlying26 (by kernel_rfl) (by decide) (by kernel_rfl) (Opens.int Try.underlying3)) n4 _ y4 t4 w4
  obtain ⟨n5, y5, t5, w5⟩ := Opens.field hf 5 (ft := 27) (o := 5) (z := 1) rfl rfl rfl (by kernel_rfl)
  obtain ⟨a5, r5, k5⟩ := (Opens.sl (by_ := 88) Try.underlying27 (by kernel_rfl) (by decide) (by kernel_rfl) (opens_140 H enc W)) n5 _ y5 t5 w5
  obtain ⟨n6, y6, t6, w6⟩ := Opens.field hf 6 (ft := 28) (o := 6) (z := 1) rfl rfl rfl (by kernel_rfl)
  obtain ⟨a6, r6, k6⟩ := (Opens.sl (by_ := 32) Try.underlying28 (by kernel_rfl) (by decide) (by kernel_rfl) (opens_54 H enc W)) n6 _ y6 t6 w6
  exact ⟨(api_System.mk a0 a1 a2 a3 a4 a5 a6), (⟨_, _, seg cs 0 1, r0, ⟨_, _, seg cs 1 1, r1, ⟨_, _, seg cs 2 1, r2, ⟨_, _, seg cs 3 1, r3, ⟨_, _, seg cs 4 1, r4, ⟨_, _, seg cs 5 1, r5, (by have z := r6; rw [← seg_last cs 6 1 hl] at z; exact z)⟩⟩⟩⟩⟩⟩ : (R_api_System).rd _ W _ (cs.drop 0)), ⟨k0, k1, k2, k3, k4, k5, k6⟩⟩
set_option maxRecDepth 100000 in
theorem lifted (os : Os) (started : os.Started) (H : Type) (enc : TypeId × Value → H) :
    ReturnsInHanded {} Try.checked os 5 .any (Rows.planLayersSpec.pre6 enc Try.prog Try.f5 Rows.planLayersRow.domain false) (Rows.planLayersSpec.post enc Try.prog Try.f5 false true false false) := by
  refine returnsInHanded_of_change_sized (C := Try.checked) own started (by kernel_rfl) Try.func5
    (ChangeSpec.witness6 (enc := enc) (C := Try.checked) false ⟨#[], #[.slice none 0 0], []⟩ 8 (by kernel_rfl) (by kernel_rfl) (by kernel_rfl) (by kernel_rfl)) ?_
  intro W base args ds gs before hval0 hW hcnd hsz0 _
  have hsz : (DataW.weightsEach Try.prog (Try.f5.params.toList ++ Rows.planLayersSpec.plain.varTypes Try.prog) (ds ++ gs)).all (· ≤ reachBytes) = true := hsz0
  have hval : ∀ (j : Nat) t v, Try.f5.params[j]? = some t → args[j]? = some v → Value.okWide Try.prog W .any base t v := hval0
  have hW' := hW
  obtain ⟨p, q, hA0, hV, rfl, hfz, hnd⟩ := hW
  have hA : DataW.TrodAll enc Try.prog W 0 (fun _ => true) true Try.f5.params.toList args.toList ds p := hA0
  rw [Try.params5] at hA hval hsz
  obtain ⟨v0, vs0, d0, ds0, p0, q0, hargs, rfl, rfl, h0, r0⟩ := trodAll_cons hA
  obtain ⟨rfl, rfl, rfl⟩ := trodAll_nil r0
  obtain rfl : args = #[v0] := by cases args; simp_all
  obtain ⟨rfl, rfl⟩ := trodVars_none hV
  have k0 := h0
  have lt0 : ∀ x ∈ p0, x.block < W.heap.size := by obtain ⟨m, hm⟩ := k0; exact DataW.trod_lt m _ _ _ hm
  have sz0 : ∀ n ∈ d0.weights Try.prog 22, n ≤ reachBytes := fun n hn => by have z := List.all_eq_true.1 hsz n (DataW.weights_mem_each (j := 0) (t := 22) rfl rfl n hn); simpa using z
  obtain ⟨fuel0, hf0⟩ := h0
  obtain ⟨a0, rd0, ok0⟩ := (Opens.sl (by_ := 160) Try.underlying22 (by kernel_rfl) (by decide) (by kernel_rfl) (opens_30 H enc W)) fuel0 _ _ hf0 sz0
  obtain ⟨A0, n0, c0, rfl⟩ := okWide_slice Try.underlying22 (hval 0 22 v0 rfl rfl)
  obtain ⟨A1_, c2_, e0, h3_⟩ := rd0
  simp [Value.cells] at e0
  obtain ⟨rfl, rfl, rfl⟩ := e0
  clear hA0 hval0 hsz0 hsz
  refine (tourlaw3_PlanLayers_ok W W [] (fun b => b < W.heap.size) W A0 c0 a0 (Mem.fz0 W) h3_ true (PlanLayers_true a0 ok0)).mono fun e W' hh => ?_
  obtain ⟨_, _, _, he, hM⟩ := hh
  have bel : Below W.heap.size W W' := hM.below
  subst he
  exact ⟨_, rfl, _, _, _, [], _, [], hW', trodAll_mk1 (shut_bool Try.underlying4 _), (trodAll_cons_mk (Below.trod laidOut (by kernel_rfl) (of_decide_eq_true (by kernel_rfl)) k0 bel lt0) trodAll_mk0), rfl, bel.frame _, fun h => by cases h⟩
theorem over : Rows.planLayersRow.holds Try.pinned (OpenSpec.ofChange Rows.planLayersSpec) :=
  OpenClaim.holds_of_wide 5 Try.f5 rfl rfl rfl rfl rfl rfl rfl ⟨rfl, rfl, rfl, rfl, rfl⟩ rfl rfl rfl rfl rfl (by kernel_rfl) Try.func5 (by kernel_rfl)
    (of_decide_eq_true (by kernel_rfl)) (by unfold Func.isWrapper; first | (rw [if_pos (by decide +kernel)]; kernel_rfl) | (rw [if_neg (by decide +kernel)]; exact ⟨rfl, rfl⟩))
    (fun os started H enc _ => lifted os started H enc)
end Go.Proofs.Ytnnhijlgohlaeaa.planLayers
namespace Go.Proofs.Ytnnhijlgohlaeaa
/-- The row. -/
theorem planLayers_holds : Rows.PlanLayersSaid := planLayers.over
end Go.Proofs.Ytnnhijlgohlaeaa
