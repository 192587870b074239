/- The law EventFilters holds: whatever the input, the call answers true, and its arguments read as they did. No condition. -/
import Derived.Test.YthcniadbdjoecaaRows
import Derived.Test.YthcniadbdjoecaaExRow
import Derived.Test.YthcniadbdjoecaaWkE4
import Derived.Test.YthcniadbdjoecaaPuEventFiltersE
import Derived.Lib.SmallJoins
import Derived.WalkKit
import Derived.ProofKit
import Derived.OpenShut
import Derived.ShutString
import Derived.ChangeOld
import Derived.Below
import Derived.SizedLaws
namespace Go.Proofs.Ythcniadbdjoecaa.eventFilters
open Go.ChangeShapes Go.WideShapes Go.ChangeAt Go.RowKit Go.Joins Go.Proofs.Ythcniadbdjoecaa.Sx Go.Proofs.Ythcniadbdjoecaa.E
open Go.ChangeMaps (open_string shut_string)
set_option linter.unusedVariables false
set_option linter.unusedSimpArgs false
theorem own : ownKnob Try.prog.godebug = none := by kernel_rfl
theorem laidOut : laidOutB Try.prog = true := by kernel_rfl
theorem opens_140 (H : Type) (enc : TypeId × Value → H) (W : World) : Opens H enc Try.prog W 140 R_api_Field ok_api_Field := fun fuel cs x h hw => by
  obtain ⟨hl, hf⟩ := Opens.fields Try.underlying140 h hw
  have hl : cs.length = 3 := hl.trans (by kernel_rfl)
  obtain ⟨n0, y0, t0, w0⟩ := Opens.field hf 0 (ft := 9) (o := 0) (z := 1) rfl rfl rfl (by kernel_rfl)
  obtain ⟨a0, r0, k0⟩ := (Opens.str Try.underlying9) n0 _ y0 t0 w0
  obtain ⟨n1, y1, t1, w1⟩ := Opens.field hf 1 (ft := 3) (o := 1) (z := 1) rfl rfl rfl (by kernel_rfl)
  obtain ⟨a1, r1, k1⟩ := (Opens.int Try.underlying3) n1 _ y1 t1 w1
  obtain ⟨n2, y2, t2, w2⟩ := Opens.field hf 2 (ft := 3) (o := 2) (z := 1) rfl rfl rfl (by kernel_rfl)
  obtain ⟨a2, r2, k2⟩ := (Opens.int Try.underlying3) n2 _ y2 t2 w2
  exact ⟨(api_Field.mk a0 a1 a2), (⟨_, _, seg cs 0 1, r0, ⟨_, _, seg cs 1 1, r1, (by have z := r2; rw [← seg_last cs 2 1 hl] at z; exact z)⟩⟩ : (R_api_Field).rd _ W _ (cs.drop 0)), ⟨k0, k1, k2⟩⟩
theorem opens_143 (H : Type) (enc : TypeId × Value → H) (W : World) : Opens H enc Try.prog W 143 R_api_Kind ok_api_Kind := fun fuel cs x h hw => by
  obtain ⟨hl, hf⟩ := Opens.fields Try.underlying143 h hw
  have hl : cs.length = 2 := hl.trans (by kernel_rfl)
  obtain ⟨n0, y0, t0, w0⟩ := Opens.field hf 0 (ft := 9) (o := 0) (z := 1) rfl rfl rfl (by kernel_rfl)
  obtain ⟨a0, r0, k0⟩ := (Opens.str Try.underlying9) n0 _ y0 t0 w0
  obtain ⟨n1, y1, t1, w1⟩ := Opens.field hf 1 (ft := 141) (o := 1) (z := 1) rfl rfl rfl (by kernel_rfl)
  obtain ⟨a1, r1, k1⟩ := (Opens.sl (by_ := 32) Try.underlying141 (by kernel_rfl) (by decide) (by kernel_rfl) (opens_140 H enc W)) n1 _ y1 t1 w1
  exact ⟨(api_Kind.mk a0 a1), (⟨_, _, seg cs 0 1, r0, (by have z := r1; rw [← seg_last cs 1 1 hl] at z; exact z)⟩ : (R_api_Kind).rd _ W _ (cs.drop 0)), ⟨k0, k1⟩⟩
theorem opens_35 (H : Type) (enc : TypeId × Value → H) (W : World) : Opens H enc Try.prog W 35 R_api_Ent ok_api_Ent := fun fuel cs x h hw => by
  obtain ⟨hl, hf⟩ := Opens.fields Try.underlying35 h hw
  have hl : cs.length = 2 := hl.trans (by kernel_rfl)
  obtain ⟨n0, y0, t0, w0⟩ := Opens.field hf 0 (ft := 3) (o := 0) (z := 1) rfl rfl rfl (by kernel_rfl)
  obtain ⟨a0, r0, k0⟩ := (Opens.int Try.underlying3) n0 _ y0 t0 w0
  obtain ⟨n1, y1, t1, w1⟩ := Opens.field hf 1 (ft := 3) (o := 1) (z := 1) rfl rfl rfl (by kernel_rfl)
  obtain ⟨a1, r1, k1⟩ := (Opens.int Try.underlying3) n1 _ y1 t1 w1
  exact ⟨(api_Ent.mk a0 a1), (⟨_, _, seg cs 0 1, r0, (by have z := r1; rw [← seg_last cs 1 1 hl] at z; exact z)⟩ : (R_api_Ent).rd _ W _ (cs.drop 0)), ⟨k0, k1⟩⟩
theorem opens_43 (H : Type) (enc : TypeId × Value → H) (W : World) : Opens H enc Try.prog W 43 R_api_Comp ok_api_Comp := fun fuel cs x h hw => by
  obtain ⟨hl, hf⟩ := Opens.fields Try.underlying43 h hw
  have hl : cs.length = 2 := hl.trans (by kernel_rfl)
  obtain ⟨n0, y0, t0, w0⟩ := Opens.field hf 0 (ft := 3) (o := 0) (z := 1) rfl rfl rfl (by kernel_rfl)
  obtain ⟨a0, r0, k0⟩ := (Opens.int Try.underlying3) n0 _ y0 t0 w0
  obtain ⟨n1, y1, t1, w1⟩ := Opens.field hf 1 (ft := 23) (o := 1) (z := 1) rfl rfl rfl (by kernel_rfl)
  obtain ⟨a1, r1, k1⟩ := (Opens.sl (by_ := 8) Try.underlying23 (by kernel_rfl) (by decide) (by kernel_rfl) (Opens.int Try.underlying3)) n1 _ y1 t1 w1
  exact ⟨(api_Comp.mk a0 a1), (⟨_, _, seg cs 0 1, r0, (by have z := r1; rw [← seg_last cs 1 1 hl] at z; exact z)⟩ : (R_api_Comp).rd _ W _ (cs.drop 0)), ⟨k0, k1⟩⟩
theorem opens_38 (H : Type) (enc : TypeId × Value → H) (W : World) : Opens H enc Try.prog W 38 R_api_Item ok_api_Item := fun fuel cs x h hw => by
  obtain ⟨hl, hf⟩ := Opens.fields Try.underlying38 h hw
  have hl : cs.length = 3 := hl.trans (by kernel_rfl)
  obtain ⟨n0, y0, t0, w0⟩ := Opens.field hf 0 (ft := 35) (o := 0) (z := 2) rfl rfl rfl (by kernel_rfl)
  obtain ⟨a0, r0, k0⟩ := (opens_35 H enc W) n0 _ y0 t0 w0
  obtain ⟨n1, y1, t1, w1⟩ := Opens.field hf 1 (ft := 36) (o := 2) (z := 1) rfl rfl rfl (by kernel_rfl)
  obtain ⟨a1, r1, k1⟩ := (Opens.sl (by_ := 32) Try.underlying36 (by kernel_rfl) (by decide) (by kernel_rfl) (opens_43 H enc W)) n1 _ y1 t1 w1
  exact ⟨(api_Item.mk a0 a1), (⟨_, _, seg cs 0 2, r0, (by have z := r1; rw [← seg_last cs 2 1 hl] at z; exact z)⟩ : (R_api_Item).rd _ W _ (cs.drop 0)), ⟨k0, k1⟩⟩
theorem opens_26 (H : Type) (enc : TypeId × Value → H) (W : World) : Opens H enc Try.prog W 26 R_api_World ok_api_World := fun fuel cs x h hw => by
  obtain ⟨hl, hf⟩ := Opens.fields Try.underlying26 h hw
  have hl : cs.length = 3 := hl.trans (by kernel_rfl)
  obtain ⟨n0, y0, t0, w0⟩ := Opens.field hf 0 (ft := 22) (o := 0) (z := 1) rfl rfl rfl (by kernel_rfl)
  obtain ⟨a0, r0, k0⟩ := (Opens.sl (by_ := 40) Try.underlying22 (by kernel_rfl) (by decide) (by kernel_rfl) (opens_143 H enc W)) n0 _ y0 t0 w0
  obtain ⟨n1, y1, t1, w1⟩ := Opens.field hf 1 (ft := 23) (o := 1) (z := 1) rfl rfl rfl (by kernel_rfl)
  obtain ⟨a1, r1, k1⟩ := (Opens.sl (by_ := 8) Try.underlying23 (by kernel_rfl) (by decide) (by kernel_rfl) (Opens.int Try.underlying3)) n1 _ y1 t1 w1
  obtain ⟨n2, y2, t2, w2⟩ := Opens.field hf 2 (ft := 24) (o := 2) (z := 1) rfl rfl rfl (by kernel_rfl)
  obtain ⟨a2, r2, k2⟩ := (Opens.sl (by_ := 40) Try.underlying24 (by kernel_rfl) (by decide) (by kernel_rfl) (opens_38 H enc W)) n2 _ y2 t2 w2
  exact ⟨(api_World.mk a0 a1 a2), (⟨_, _, seg cs 0 1, r0, ⟨_, _, seg cs 1 1, r1, (by have z := r2; rw [← seg_last cs 2 1 hl] at z; exact z)⟩⟩ : (R_api_World).rd _ W _ (cs.drop 0)), ⟨k0, k1, k2⟩⟩
theorem opens_94 (H : Type) (enc : TypeId × Value → H) (W : World) : Opens H enc Try.prog W 94 R_api_Event ok_api_Event := fun fuel cs x h hw => by
  obtain ⟨hl, hf⟩ := Opens.fields Try.underlying94 h hw
  have hl : cs.length = 4 := hl.trans (by kernel_rfl)
  obtain ⟨n0, y0, t0, w0⟩ := Opens.field hf 0 (ft := 3) (o := 0) (z := 1) rfl rfl rfl (by kernel_rfl)
  obtain ⟨a0, r0, k0⟩ := (Opens.int Try.underlying3) n0 _ y0 t0 w0
  obtain ⟨n1, y1, t1, w1⟩ := Opens.field hf 1 (ft := 35) (o := 1) (z := 2) rfl rfl rfl (by kernel_rfl)
  obtain ⟨a1, r1, k1⟩ := (opens_35 H enc W) n1 _ y1 t1 w1
  obtain ⟨n2, y2, t2, w2⟩ := Opens.field hf 2 (ft := 3) (o := 3) (z := 1) rfl rfl rfl (by kernel_rfl)
  obtain ⟨a2, r2, k2⟩ := (Opens.int Try.underlying3) n2 _ y2 t2 w2
  exact ⟨(api_Event.mk a0 a1 a2), (⟨_, _, seg cs 0 1, r0, ⟨_, _, seg cs 1 2, r1, (by have z := r2; rw [← seg_last cs 3 1 hl] at z; exact z)⟩⟩ : (R_api_Event).rd _ W _ (cs.drop 0)), ⟨k0, k1, k2⟩⟩
theorem opens_90 (H : Type) (enc : TypeId × Value → H) (W : World) : Opens H enc Try.prog W 90 R_api_Span ok_api_Span := fun fuel cs x h hw => by
  obtain ⟨hl, hf⟩ := Opens.fields Try.underlying90 h hw
  have hl : cs.length = 2 := hl.trans (by kernel_rfl)
  obtain ⟨n0, y0, t0, w0⟩ := Opens.field hf 0 (ft := 3) (o := 0) (z := 1) rfl rfl rfl (by kernel_rfl)
  obtain ⟨a0, r0, k0⟩ := (Opens.int Try.underlying3) n0 _ y0 t0 w0
  obtain ⟨n1, y1, t1, w1⟩ := Opens.field hf 1 (ft := 3) (o := 1) (z := 1) rfl rfl rfl (by kernel_rfl)
  obtain ⟨a1, r1, k1⟩ := (Opens.int Try.underlying3) n1 _ y1 t1 w1
  exact ⟨(api_Span.mk a0 a1), (⟨_, _, seg cs 0 1, r0, (by have z := r1; rw [← seg_last cs 1 1 hl] at z; exact z)⟩ : (R_api_Span).rd _ W _ (cs.drop 0)), ⟨k0, k1⟩⟩
set_option maxRecDepth 100000 in
theorem lifted (os : Os) (started : os.Started) (H : Type) (enc : TypeId × Value → H) :
    ReturnsInHanded {} Try.checked os 6 .any (Rows.eventFiltersSpec.pre6 enc Try.prog Try.f6 Rows.eventFiltersRow.domain false) (Rows.eventFiltersSpec.post enc Try.prog Try.f6 false true false false) := by
  refine returnsInHanded_of_change_sized (C := Try.checked) own started (by kernel_rfl) Try.func6
    (ChangeSpec.witness6 (enc := enc) (C := Try.checked) false ⟨#[], #[.agg #[.slice none 0 0, .slice none 0 0, .slice none 0 0], .slice none 0 0, .int .i64 0, .agg #[.int .i64 0, .int .i64 0]], []⟩ 8 (by kernel_rfl) (by kernel_rfl) (by kernel_rfl) (by kernel_rfl)) ?_
  intro W base args ds gs before hval0 hW hcnd hsz0 _
  have hsz : (DataW.weightsEach Try.prog (Try.f6.params.toList ++ Rows.eventFiltersSpec.plain.varTypes Try.prog) (ds ++ gs)).all (· ≤ reachBytes) = true := hsz0
  have hval : ∀ (j : Nat) t v, Try.f6.params[j]? = some t → args[j]? = some v → Value.okWide Try.prog W .any base t v := hval0
  have hW' := hW
  obtain ⟨p, q, hA0, hV, rfl, hfz, hnd⟩ := hW
  have hA : DataW.TrodAll enc Try.prog W 0 (fun _ => true) true Try.f6.params.toList args.toList ds p := hA0
  rw [Try.params6] at hA hval hsz
  obtain ⟨v0, vs0, d0, ds0, p0, q0, hargs, rfl, rfl, h0, r0⟩ := trodAll_cons hA
  obtain ⟨v1, vs1, d1, ds1, p1, q1, rfl, rfl, rfl, h1, r1⟩ := trodAll_cons r0
  obtain ⟨v2, vs2, d2, ds2, p2, q2, rfl, rfl, rfl, h2, r2⟩ := trodAll_cons r1
  obtain ⟨v3, vs3, d3, ds3, p3, q3, rfl, rfl, rfl, h3, r3⟩ := trodAll_cons r2
  obtain ⟨rfl, rfl, rfl⟩ := trodAll_nil r3
  obtain rfl : args = #[v0, v1, v2, v3] := by cases args; simp_all
  obtain ⟨rfl, rfl⟩ := trodVars_none hV
  have k0 := h0
  have lt0 : ∀ x ∈ p0, x.block < W.heap.size := by obtain ⟨m, hm⟩ := k0; exact DataW.trod_lt m _ _ _ hm
  have sz0 : ∀ n ∈ d0.weights Try.prog 26, n ≤ reachBytes := fun n hn => by have z := List.all_eq_true.1 hsz n (DataW.weights_mem_each (j := 0) (t := 26) rfl rfl n hn); simpa using z
  obtain ⟨fuel0, hf0⟩ := h0
  obtain ⟨a0, rd0, ok0⟩ := (opens_26 H enc W) fuel0 _ _ hf0 sz0
  obtain ⟨c0, rfl⟩ : ∃ c, v0 = .agg c := by have z := (hval 0 26 v0 rfl rfl); simp only [Value.okWide, Try.underlying26] at z; obtain ⟨c, e, _⟩ := z; exact ⟨c, e⟩
  have rd0 : (R_api_World).rd _ W a0 c0.toList := rd0
  obtain ⟨vs0, rfl⟩ : ∃ l : List Value, c0 = l.toArray := ⟨c0.toList, by simp⟩
  simp only [List.toList_toArray] at rd0
  obtain ⟨A1_, c2_, A4_, c5_, A7_, c8_, rfl, h3_, h6_, h9_⟩ := dec_api_World rd0
  have k1 := h1
  have lt1 : ∀ x ∈ p1, x.block < W.heap.size := by obtain ⟨m, hm⟩ := k1; exact DataW.trod_lt m _ _ _ hm
  have sz1 : ∀ n ∈ d1.weights Try.prog 88, n ≤ reachBytes := fun n hn => by have z := List.all_eq_true.1 hsz n (DataW.weights_mem_each (j := 1) (t := 88) rfl rfl n hn); simpa using z
  obtain ⟨fuel1, hf1⟩ := h1
  obtain ⟨a1, rd1, ok1⟩ := (Opens.sl (by_ := 32) Try.underlying88 (by kernel_rfl) (by decide) (by kernel_rfl) (opens_94 H enc W)) fuel1 _ _ hf1 sz1
  obtain ⟨A1, n1, c1, rfl⟩ := okWide_slice Try.underlying88 (hval 1 88 v1 rfl rfl)
  obtain ⟨A10_, c11_, e1, h12_⟩ := rd1
  simp [Value.cells] at e1
  obtain ⟨rfl, rfl, rfl⟩ := e1
  have k2 := h2
  have lt2 : ∀ x ∈ p2, x.block < W.heap.size := by obtain ⟨m, hm⟩ := k2; exact DataW.trod_lt m _ _ _ hm
  have sz2 : ∀ n ∈ d2.weights Try.prog 3, n ≤ reachBytes := fun n hn => by have z := List.all_eq_true.1 hsz n (DataW.weights_mem_each (j := 2) (t := 3) rfl rfl n hn); simpa using z
  obtain ⟨fuel2, hf2⟩ := h2
  obtain ⟨a2, rd2, ok2⟩ := (Opens.int Try.underlying3) fuel2 _ _ hf2 sz2
  obtain ⟨x2, rfl⟩ := okWide_int Try.underlying3 (hval 2 3 v2 rfl rfl)
  have e2 : [Go.Value.int .i64 x2] = _ := rd2
  simp only [List.cons.injEq, Value.int.injEq, Value.bool.injEq, Value.string.injEq, and_true, true_and] at e2
  subst e2
  have k3 := h3
  have lt3 : ∀ x ∈ p3, x.block < W.heap.size := by obtain ⟨m, hm⟩ := k3; exact DataW.trod_lt m _ _ _ hm
  have sz3 : ∀ n ∈ d3.weights Try.prog 90, n ≤ reachBytes := fun n hn => by have z := List.all_eq_true.1 hsz n (DataW.weights_mem_each (j := 3) (t := 90) rfl rfl n hn); simpa using z
  obtain ⟨fuel3, hf3⟩ := h3
  obtain ⟨a3, rd3, ok3⟩ := (opens_90 H enc W) fuel3 _ _ hf3 sz3
  obtain ⟨c3, rfl⟩ : ∃ c, v3 = .agg c := by have z := (hval 3 90 v3 rfl rfl); simp only [Value.okWide, Try.underlying90] at z; obtain ⟨c, e, _⟩ := z; exact ⟨c, e⟩
  have rd3 : (R_api_Span).rd _ W a3 c3.toList := rd3
  obtain ⟨vs3, rfl⟩ : ∃ l : List Value, c3 = l.toArray := ⟨c3.toList, by simp⟩
  simp only [List.toList_toArray] at rd3
  obtain rfl := dec_api_Span rd3
  clear hA0 hval0 hsz0 hsz
  refine (tourlaw3_EventFilters_ok W W [] (fun b => b < W.heap.size) W A1_ c2_ a0.Kinds A4_ c5_ a0.Gens A7_ c8_ a0.Items A1 c1 a1 x2 a3.Low a3.High (Mem.fz0 W) h3_ h6_ h9_ h12_ true (EventFilters_true a0.Kinds a0.Gens a0.Items a1 x2 a3.Low a3.High ok0 ok1 ok2 ok3)).mono fun e W' hh => ?_
  obtain ⟨_, he, hM⟩ := hh
  have bel : Below W.heap.size W W' := hM.below
  subst he
  exact ⟨_, rfl, _, _, _, [], _, [], hW', trodAll_mk1 (shut_bool Try.underlying4 _), (trodAll_cons_mk (Below.trod laidOut (by kernel_rfl) (of_decide_eq_true (by kernel_rfl)) k0 bel lt0) (trodAll_cons_mk (Below.trod laidOut (by kernel_rfl) (of_decide_eq_true (by kernel_rfl)) k1 bel lt1) (trodAll_cons_mk (Below.trod laidOut (by kernel_rfl) (of_decide_eq_true (by kernel_rfl)) k2 bel lt2) (trodAll_cons_mk (Below.trod laidOut (by kernel_rfl) (of_decide_eq_true (by kernel_rfl)) k3 bel lt3) trodAll_mk0)))), rfl, bel.frame _, fun h => by cases h⟩
theorem over : Rows.eventFiltersRow.holds Try.pinned (OpenSpec.ofChange Rows.eventFiltersSpec) :=
  OpenClaim.holds_of_wide 6 Try.f6 rfl rfl rfl rfl rfl rfl rfl ⟨rfl, rfl, rfl, rfl, rfl⟩ rfl rfl rfl rfl rfl (by kernel_rfl) Try.func6 (by kernel_rfl)
    (of_decide_eq_true (by kernel_rfl)) (by unfold Func.isWrapper; first | (rw [if_pos (by decide +kernel)]; kernel_rfl) | (rw [if_neg (by decide +kernel)]; exact ⟨rfl, rfl⟩))
    (fun os started H enc _ => lifted os started H enc)
end Go.Proofs.Ythcniadbdjoecaa.eventFilters
namespace Go.Proofs.Ythcniadbdjoecaa
/-- The row. -/
theorem eventFilters_holds : Rows.EventFiltersSaid := eventFilters.over
end Go.Proofs.Ythcniadbdjoecaa
