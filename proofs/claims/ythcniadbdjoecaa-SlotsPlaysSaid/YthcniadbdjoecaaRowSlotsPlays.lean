/- The law SlotsPlays holds: whatever the input, the call answers true, and its arguments read as they did. No condition. -/
import Derived.Test.YthcniadbdjoecaaRows
import Derived.Test.YthcniadbdjoecaaExRow
import Derived.Test.YthcniadbdjoecaaWkR6
import Derived.Test.YthcniadbdjoecaaPuSlotsPlaysR
import Derived.Lib.SmallJoins
import Derived.WalkKit
import Derived.ProofKit
import Derived.OpenShut
import Derived.ShutString
import Derived.ChangeOld
import Derived.Below
import Derived.SizedLaws
namespace Go.Proofs.Ythcniadbdjoecaa.slotsPlays
open Go.ChangeShapes Go.WideShapes Go.ChangeAt Go.RowKit Go.Joins Go.Proofs.Ythcniadbdjoecaa.Sx Go.Proofs.Ythcniadbdjoecaa.R
open Go.ChangeMaps (open_string shut_string)
set_option linter.unusedVariables false
set_option linter.unusedSimpArgs false
theorem own : ownKnob Try.prog.godebug = none := by kernel_rfl
theorem laidOut : laidOutB Try.prog = true := by kernel_rfl
theorem opens_35 (H : Type) (enc : TypeId × Value → H) (W : World) : Opens H enc Try.prog W 35 R_api_Ent ok_api_Ent := fun fuel cs x h hw => by
  obtain ⟨hl, hf⟩ := Opens.fields Try.underlying35 h hw
  have hl : cs.length = 2 := hl.trans (by kernel_rfl)
  obtain ⟨n0, y0, t0, w0⟩ := Opens.field hf 0 (ft := 3) (o := 0) (z := 1) rfl rfl rfl (by kernel_rfl)
  obtain ⟨a0, r0, k0⟩ := (Opens.int Try.underlying3) n0 _ y0 t0 w0
  obtain ⟨n1, y1, t1, w1⟩ := Opens.field hf 1 (ft := 3) (o := 1) (z := 1) rfl rfl rfl (by kernel_rfl)
  obtain ⟨a1, r1, k1⟩ := (Opens.int Try.underlying3) n1 _ y1 t1 w1
  exact ⟨(api_Ent.mk a0 a1), (⟨_, _, seg cs 0 1, r0, (by have z := r1; rw [← seg_last cs 1 1 hl] at z; exact z)⟩ : (R_api_Ent).rd _ W _ (cs.drop 0)), ⟨k0, k1⟩⟩
set_option maxRecDepth 100000 in
theorem lifted (os : Os) (started : os.Started) (H : Type) (enc : TypeId × Value → H) :
    ReturnsInHanded {} Try.checked os 5 .any (Rows.slotsPlaysSpec.pre6 enc Try.prog Try.f5 Rows.slotsPlaysRow.domain false) (Rows.slotsPlaysSpec.post enc Try.prog Try.f5 false true false false) := by
  refine returnsInHanded_of_change_sized (C := Try.checked) own started (by kernel_rfl) Try.func5
    (ChangeSpec.witness6 (enc := enc) (C := Try.checked) false ⟨#[], #[.slice none 0 0, .slice none 0 0, .slice none 0 0], []⟩ 8 (by kernel_rfl) (by kernel_rfl) (by kernel_rfl) (by kernel_rfl)) ?_
  intro W base args ds gs before hval0 hW hcnd hsz0 _
  have hsz : (DataW.weightsEach Try.prog (Try.f5.params.toList ++ Rows.slotsPlaysSpec.plain.varTypes Try.prog) (ds ++ gs)).all (· ≤ reachBytes) = true := hsz0
  have hval : ∀ (j : Nat) t v, Try.f5.params[j]? = some t → args[j]? = some v → Value.okWide Try.prog W .any base t v := hval0
  have hW' := hW
  obtain ⟨p, q, hA0, hV, rfl, hfz, hnd⟩ := hW
  have hA : DataW.TrodAll enc Try.prog W 0 (fun _ => true) true Try.f5.params.toList args.toList ds p := hA0
  rw [Try.params5] at hA hval hsz
  obtain ⟨v0, vs0, d0, ds0, p0, q0, hargs, rfl, rfl, h0, r0⟩ := trodAll_cons hA
  obtain ⟨v1, vs1, d1, ds1, p1, q1, rfl, rfl, rfl, h1, r1⟩ := trodAll_cons r0
  obtain ⟨v2, vs2, d2, ds2, p2, q2, rfl, rfl, rfl, h2, r2⟩ := trodAll_cons r1
  obtain ⟨rfl, rfl, rfl⟩ := trodAll_nil r2
  obtain rfl : args = #[v0, v1, v2] := by cases args; simp_all
  obtain ⟨rfl, rfl⟩ := trodVars_none hV
  have k0 := h0
  have lt0 : ∀ x ∈ p0, x.block < W.heap.size := by obtain ⟨m, hm⟩ := k0; exact DataW.trod_lt m _ _ _ hm
  have sz0 : ∀ n ∈ d0.weights Try.prog 23, n ≤ reachBytes := fun n hn => by have z := List.all_eq_true.1 hsz n (DataW.weights_mem_each (j := 0) (t := 23) rfl rfl n hn); simpa using z
  obtain ⟨fuel0, hf0⟩ := h0
  obtain ⟨a0, rd0, ok0⟩ := (Opens.sl (by_ := 8) Try.underlying23 (by kernel_rfl) (by decide) (by kernel_rfl) (Opens.int Try.underlying3)) fuel0 _ _ hf0 sz0
  obtain ⟨A0, n0, c0, rfl⟩ := okWide_slice Try.underlying23 (hval 0 23 v0 rfl rfl)
  obtain ⟨A1_, c2_, e0, h3_⟩ := rd0
  simp [Value.cells] at e0
  obtain ⟨rfl, rfl, rfl⟩ := e0
  have k1 := h1
  have lt1 : ∀ x ∈ p1, x.block < W.heap.size := by obtain ⟨m, hm⟩ := k1; exact DataW.trod_lt m _ _ _ hm
  have sz1 : ∀ n ∈ d1.weights Try.prog 23, n ≤ reachBytes := fun n hn => by have z := List.all_eq_true.1 hsz n (DataW.weights_mem_each (j := 1) (t := 23) rfl rfl n hn); simpa using z
  obtain ⟨fuel1, hf1⟩ := h1
  obtain ⟨a1, rd1, ok1⟩ := (Opens.sl (by_ := 8) Try.underlying23 (by kernel_rfl) (by decide) (by kernel_rfl) (Opens.int Try.underlying3)) fuel1 _ _ hf1 sz1
  obtain ⟨A1, n1, c1, rfl⟩ := okWide_slice Try.underlying23 (hval 1 23 v1 rfl rfl)
  obtain ⟨A4_, c5_, e1, h6_⟩ := rd1
  simp [Value.cells] at e1
  obtain ⟨rfl, rfl, rfl⟩ := e1
  have k2 := h2
  have lt2 : ∀ x ∈ p2, x.block < W.heap.size := by obtain ⟨m, hm⟩ := k2; exact DataW.trod_lt m _ _ _ hm
  have sz2 : ∀ n ∈ d2.weights Try.prog 40, n ≤ reachBytes := fun n hn => by have z := List.all_eq_true.1 hsz n (DataW.weights_mem_each (j := 2) (t := 40) rfl rfl n hn); simpa using z
  obtain ⟨fuel2, hf2⟩ := h2
  obtain ⟨a2, rd2, ok2⟩ := (Opens.sl (by_ := 16) Try.underlying40 (by kernel_rfl) (by decide) (by kernel_rfl) (opens_35 H enc W)) fuel2 _ _ hf2 sz2
  obtain ⟨A2, n2, c2, rfl⟩ := okWide_slice Try.underlying40 (hval 2 40 v2 rfl rfl)
  obtain ⟨A7_, c8_, e2, h9_⟩ := rd2
  simp [Value.cells] at e2
  obtain ⟨rfl, rfl, rfl⟩ := e2
  clear hA0 hval0 hsz0 hsz
  refine (tourlaw1_SlotsPlays_ok W W [] (fun b => b < W.heap.size) W A0 c0 a0 A1 c1 a1 A2 c2 a2 (Mem.fz0 W) h3_ h6_ h9_ true (SlotsPlays_true a0 a1 a2 ok0 ok1 ok2)).mono fun e W' hh => ?_
  obtain ⟨_, he, hM⟩ := hh
  have bel : Below W.heap.size W W' := hM.below
  subst he
  exact ⟨_, rfl, _, _, _, [], _, [], hW', trodAll_mk1 (shut_bool Try.underlying4 _), (trodAll_cons_mk (Below.trod laidOut (by kernel_rfl) (of_decide_eq_true (by kernel_rfl)) k0 bel lt0) (trodAll_cons_mk (Below.trod laidOut (by kernel_rfl) (of_decide_eq_true (by kernel_rfl)) k1 bel lt1) (trodAll_cons_mk (Below.trod laidOut (by kernel_rfl) (of_decide_eq_true (by kernel_rfl)) k2 bel lt2) trodAll_mk0))), rfl, bel.frame _, fun h => by cases h⟩
theorem over : Rows.slotsPlaysRow.holds Try.pinned (OpenSpec.ofChange Rows.slotsPlaysSpec) :=
  OpenClaim.holds_of_wide 5 Try.f5 rfl rfl rfl rfl rfl rfl rfl ⟨rfl, rfl, rfl, rfl, rfl⟩ rfl rfl rfl rfl rfl (by kernel_rfl) Try.func5 (by kernel_rfl)
    (of_decide_eq_true (by kernel_rfl)) (by unfold Func.isWrapper; first | (rw [if_pos (by decide +kernel)]; kernel_rfl) | (rw [if_neg (by decide +kernel)]; exact ⟨rfl, rfl⟩))
    (fun os started H enc _ => lifted os started H enc)
end Go.Proofs.Ythcniadbdjoecaa.slotsPlays
namespace Go.Proofs.Ythcniadbdjoecaa
/-- The row. -/
theorem slotsPlays_holds : Rows.SlotsPlaysSaid := slotsPlays.over
end Go.Proofs.Ythcniadbdjoecaa
