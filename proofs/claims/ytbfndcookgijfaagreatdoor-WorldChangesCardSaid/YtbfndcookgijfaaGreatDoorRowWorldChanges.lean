/- The law WorldChanges holds: whatever the input, the call answers true, and its arguments read as they did. No condition. -/
import Derived.Test.YtbfndcookgijfaaGreatDoorRows
import Derived.Test.YtbfndcookgijfaaGreatDoorExRow
import Derived.Test.YtbfndcookgijfaaGreatDoorCards
import Derived.Test.YtbfndcookgijfaaGreatDoorTie
import Derived.Deep.DeepHandedRow
import Derived.Test.YtbfndcookgijfaaGreatDoorWkC11
import Derived.Test.YtbfndcookgijfaaGreatDoorPuWorldChangesC
import Derived.Lib.SmallJoins
import Derived.WalkKit
import Derived.ProofKit
import Derived.OpenShut
import Derived.ShutString
import Derived.ChangeOld
import Derived.Below
import Derived.SizedLaws
namespace Go.Proofs.YtbfndcookgijfaaGreatDoor.worldChanges
open Go.ChangeShapes Go.WideShapes Go.ChangeAt Go.RowKit Go.Joins Go.Proofs.YtbfndcookgijfaaGreatDoor.Sx Go.Proofs.YtbfndcookgijfaaGreatDoor.C
open Go.ChangeMaps (open_string shut_string)
set_option linter.unusedVariables false
set_option linter.unusedSimpArgs false
theorem own : ownKnob Tryz.prog.godebug = none := by kernel_rfl
theorem laidOut : laidOutB Tryz.prog = true := by kernel_rfl
theorem opens_99 (H : Type) (enc : TypeId × Value → H) (W : World) : Opens H enc Tryz.prog W 99 R_api_Field ok_api_Field := fun fuel cs x h hw => by
  obtain ⟨hl, hf⟩ := Opens.fields Tryz.underlying99 h hw
  have hl : cs.length = 3 := hl.trans (by kernel_rfl)
  obtain ⟨n0, y0, t0, w0⟩ := Opens.field hf 0 (ft := 9) (o := 0) (z := 1) rfl rfl rfl (by kernel_rfl)
  obtain ⟨a0, r0, k0⟩ := (Opens.str Tryz.underlying9) n0 _ y0 t0 w0
  obtain ⟨n1, y1, t1, w1⟩ := Opens.field hf 1 (ft := 3) (o := 1) (z := 1) rfl rfl rfl (by kernel_rfl)
  obtain ⟨a1, r1, k1⟩ := (Opens.int Tryz.underlying3) n1 _ y1 t1 w1
  obtain ⟨n2, y2, t2, w2⟩ := Opens.field hf 2 (ft := 3) (o := 2) (z := 1) rfl rfl rfl (by kernel_rfl)
  obtain ⟨a2, r2, k2⟩ := (Opens.int Tryz.underlying3) n2 _ y2 t2 w2
  exact ⟨(api_Field.mk a0 a1 a2), (⟨_, _, seg cs 0 1, r0, ⟨_, _, seg cs 1 1, r1, (by have z := r2; rw [← seg_last cs 2 1 hl] at z; exact z)⟩⟩ : (R_api_Field).rd _ W _ (cs.drop 0)), ⟨k0, k1, k2⟩⟩
theorem opens_86 (H : Type) (enc : TypeId × Value → H) (W : World) : Opens H enc Tryz.prog W 86 R_api_Kind ok_api_Kind := fun fuel cs x h hw => by
  obtain ⟨hl, hf⟩ := Opens.fields Tryz.underlying86 h hw
  have hl : cs.length = 2 := hl.trans (by kernel_rfl)
  obtain ⟨n0, y0, t0, w0⟩ := Opens.field hf 0 (ft := 9) (o := 0) (z := 1) rfl rfl rfl (by kernel_rfl)
  obtain ⟨a0, r0, k0⟩ := (Opens.str Tryz.underlying9) n0 _ y0 t0 w0
  obtain ⟨n1, y1, t1, w1⟩ := Opens.field hf 1 (ft := 84) (o := 1) (z := 1) rfl rfl rfl (by kernel_rfl)
  obtain ⟨a1, r1, k1⟩ := (Opens.sl (by_ := 32) Tryz.underlying84 (by kernel_rfl) (by decide) (by kernel_rfl) (opens_99 H enc W)) n1 _ y1 t1 w1
  exact ⟨(api_Kind.mk a0 a1), (⟨_, _, seg cs 0 1, r0, (by have z := r1; rw [← seg_last cs 1 1 hl] at z; exact z)⟩ : (R_api_Kind).rd _ W _ (cs.drop 0)), ⟨k0, k1⟩⟩
theorem opens_29 (H : Type) (enc : TypeId × Value → H) (W : World) : Opens H enc Tryz.prog W 29 R_api_Ent ok_api_Ent := fun fuel cs x h hw => by
  obtain ⟨hl, hf⟩ := Opens.fields Tryz.underlying29 h hw
  have hl : cs.length = 2 := hl.trans (by kernel_rfl)
  obtain ⟨n0, y0, t0, w0⟩ := Opens.field hf 0 (ft := 3) (o := 0) (z := 1) rfl rfl rfl (by kernel_rfl)
  obtain ⟨a0, r0, k0⟩ := (Opens.int Tryz.underlying3) n0 _ y0 t0 w0
  obtain ⟨n1, y1, t1, w1⟩ := Opens.field hf 1 (ft := 3) (o := 1) (z := 1) rfl rfl rfl (by kernel_rfl)
  obtain ⟨a1, r1, k1⟩ := (Opens.int Tryz.underlying3) n1 _ y1 t1 w1
  exact ⟨(api_Ent.mk a0 a1), (⟨_, _, seg cs 0 1, r0, (by have z := r1; rw [← seg_last cs 1 1 hl] at z; exact z)⟩ : (R_api_Ent).rd _ W _ (cs.drop 0)), ⟨k0, k1⟩⟩
theorem opens_42 (H : Type) (enc : TypeId × Value → H) (W : World) : Opens H enc Tryz.prog W 42 R_api_Comp ok_api_Comp := fun fuel cs x h hw => by
  obtain ⟨hl, hf⟩ := Opens.fields Tryz.underlying42 h hw
  have hl : cs.length = 2 := hl.trans (by kernel_rfl)
  obtain ⟨n0, y0, t0, w0⟩ := Opens.field hf 0 (ft := 3) (o := 0) (z := 1) rfl rfl rfl (by kernel_rfl)
  obtain ⟨a0, r0, k0⟩ := (Opens.int Tryz.underlying3) n0 _ y0 t0 w0
  obtain ⟨n1, y1, t1, w1⟩ := Opens.field hf 1 (ft := 23) (o := 1) (z := 1) rfl rfl rfl (by kernel_rfl)
  obtain ⟨a1, r1, k1⟩ := (Opens.sl (by_ := 8) Tryz.underlying23 (by kernel_rfl) (by decide) (by kernel_rfl) (Opens.int Tryz.underlying3)) n1 _ y1 t1 w1
  exact ⟨(api_Comp.mk a0 a1), (⟨_, _, seg cs 0 1, r0, (by have z := r1; rw [← seg_last cs 1 1 hl] at z; exact z)⟩ : (R_api_Comp).rd _ W _ (cs.drop 0)), ⟨k0, k1⟩⟩
theorem opens_61 (H : Type) (enc : TypeId × Value → H) (W : World) : Opens H enc Tryz.prog W 61 R_api_Item ok_api_Item := fun fuel cs x h hw => by
  obtain ⟨hl, hf⟩ := Opens.fields Tryz.underlying61 h hw
  have hl : cs.length = 3 := hl.trans (by kernel_rfl)
  obtain ⟨n0, y0, t0, w0⟩ := Opens.field hf 0 (ft := 29) (o := 0) (z := 2) rfl rfl rfl (by kernel_rfl)
  obtain ⟨a0, r0, k0⟩ := (opens_29 H enc W) n0 _ y0 t0 w0
  obtain ⟨n1, y1, t1, w1⟩ := Opens.field hf 1 (ft := 27) (o := 2) (z := 1) rfl rfl rfl (by kernel_rfl)
  obtain ⟨a1, r1, k1⟩ := (Opens.sl (by_ := 32) Tryz.underlying27 (by kernel_rfl) (by decide) (by kernel_rfl) (opens_42 H enc W)) n1 _ y1 t1 w1
  exact ⟨(api_Item.mk a0 a1), (⟨_, _, seg cs 0 2, r0, (by have z := r1; rw [← seg_last cs 2 1 hl] at z; exact z)⟩ : (R_api_Item).rd _ W _ (cs.drop 0)), ⟨k0, k1⟩⟩
theorem opens_26 (H : Type) (enc : TypeId × Value → H) (W : World) : Opens H enc Tryz.prog W 26 R_api_World ok_api_World := fun fuel cs x h hw => by
  obtain ⟨hl, hf⟩ := Opens.fields Tryz.underlying26 h hw
  have hl : cs.length = 3 := hl.trans (by kernel_rfl)
  obtain ⟨n0, y0, t0, w0⟩ := Opens.field hf 0 (ft := 22) (o := 0) (z := 1) rfl rfl rfl (by kernel_rfl)
  obtain ⟨a0, r0, k0⟩ := (Opens.sl (by_ := 40) Tryz.underlying22 (by kernel_rfl) (by decide) (by kernel_rfl) (opens_86 H enc W)) n0 _ y0 t0 w0
  obtain ⟨n1, y1, t1, w1⟩ := Opens.field hf 1 (ft := 23) (o := 1) (z := 1) rfl rfl rfl (by kernel_rfl)
  obtain ⟨a1, r1, k1⟩ := (Opens.sl (by_ := 8) Tryz.underlying23 (by kernel_rfl) (by decide) (by kernel_rfl) (Opens.int Tryz.underlying3)) n1 _ y1 t1 w1
  obtain ⟨n2, y2, t2, w2⟩ := Opens.field hf 2 (ft := 24) (o := 2) (z := 1) rfl rfl rfl (by kernel_rfl)
  obtain ⟨a2, r2, k2⟩ := (Opens.sl (by_ := 40) Tryz.underlying24 (by kernel_rfl) (by decide) (by kernel_rfl) (opens_61 H enc W)) n2 _ y2 t2 w2
  exact ⟨(api_World.mk a0 a1 a2), (⟨_, _, seg cs 0 1, r0, ⟨_, _, seg cs 1 1, r1, (by have z := r2; rw [← seg_last cs 2 1 hl] at z; exact z)⟩⟩ : (R_api_World).rd _ W _ (cs.drop 0)), ⟨k0, k1, k2⟩⟩
/-- A world for the witness: the settled one, the listed variables holding what their initialisers lay. -/
noncomputable def laidWorld (os : Os) : World :=
  { World.holding Tryz.prog os ⟨#[], #[], []⟩ with heap := (((World.holding Tryz.prog os ⟨#[], #[], []⟩).heap.modify 1 (fun | .cells _ t frozen => .cells #[Value.int .u8 128, Value.int .u8 191, Value.int .u8 160, Value.int .u8 191, Value.int .u8 128, Value.int .u8 159, Value.int .u8 144, Value.int .u8 191, Value.int .u8 128, Value.int .u8 143, Value.int .u8 0, Value.int .u8 0, Value.int .u8 0, Value.int .u8 0, Value.int .u8 0, Value.int .u8 0, Value.int .u8 0, Value.int .u8 0, Value.int .u8 0, Value.int .u8 0, Value.int .u8 0, Value.int .u8 0, Value.int .u8 0, Value.int .u8 0, Value.int .u8 0, Value.int .u8 0, Value.int .u8 0, Value.int .u8 0, Value.int .u8 0, Value.int .u8 0, Value.int .u8 0, Value.int .u8 0] t frozen | o => o)).modify 0 (fun | .cells _ t frozen => .cells (Go.Pinned.utf8FirstZ.map fun (n : Nat) => Value.int .u8 n).toArray t frozen | o => o)) }
set_option maxRecDepth 1000000 in
theorem laid_met (os : Os) : laidMet Tryz.prog Rows.worldChangesRow.laid ((laidWorld os).forCall (fun _ _ => 0) ⟨#[], #[.agg #[.slice none 0 0, .slice none 0 0, .slice none 0 0], .agg #[.int .i64 0, .int .i64 0], .agg #[.int .i64 0, .slice none 0 0], .int .i64 0], []⟩).memory :=
  laidMet_of_run' 8 (by kernel_rfl) (by kernel_rfl)
theorem reads (os : Os) {H : Type} (enc : TypeId × Value → H) : ∃ places, DataW.whole enc Tryz.prog ((laidWorld os).forCall (fun _ _ => 0) ⟨#[], #[.agg #[.slice none 0 0, .slice none 0 0, .slice none 0 0], .agg #[.int .i64 0, .int .i64 0], .agg #[.int .i64 0, .slice none 0 0], .int .i64 0], []⟩).memory Tryz.f4.params.toList Rows.worldChangesSpec.vars false (#[.agg #[.slice none 0 0, .slice none 0 0, .slice none 0 0], .agg #[.int .i64 0, .int .i64 0], .agg #[.int .i64 0, .slice none 0 0], .int .i64 0] : Array Value).toList 8 = some ([.agg [.nil, .nil, .nil], .agg [.lit (.int .i64 0), .lit (.int .i64 0)], .agg [.lit (.int .i64 0), .nil], .lit (.int .i64 0)], [], places) :=
  ⟨[], by kernel_rfl⟩
set_option maxRecDepth 1000000 in
theorem lifted (os : Os) (started : os.Started) (H : Type) (enc : TypeId × Value → H) (F : Stop.Interp) :
    ReturnsInHanded {} Tryz.checked os 4 .any ((OpenSpec.ofChange Rows.worldChangesSpec).preRow enc Tryz.prog Tryz.f4 Rows.worldChangesRow.domain false Rows.worldChangesRow.laid) (((OpenSpec.ofChange Rows.worldChangesSpec).at F).post enc Tryz.prog Tryz.f4 false true false false) := by
  obtain ⟨places, hx⟩ := reads os enc
  refine returnsInHanded_of_row (C := Tryz.checked) (s := (OpenSpec.ofChange Rows.worldChangesSpec)) own started (by kernel_rfl) Tryz.func4
    (witness_row_at (enc := enc) (C := Tryz.checked) false (laidWorld os) #[.agg #[.slice none 0 0, .slice none 0 0, .slice none 0 0], .agg #[.int .i64 0, .int .i64 0], .agg #[.int .i64 0, .slice none 0 0], .int .i64 0] rfl (by kernel_rfl) (by kernel_rfl) (by kernel_rfl)
      (OpenSpec.preRow_of_cond 8 hx (by kernel_rfl) (fun k hk => by cases hk) (by kernel_rfl) (laid_met os))) ?_
  intro W base args ds gs before hval0 hW _ hcnd hsz0 hL _ _
  have hsz : (DataW.weightsEach Tryz.prog (Tryz.f4.params.toList ++ Rows.worldChangesSpec.plain.varTypes Tryz.prog) (ds ++ gs)).all (· ≤ reachBytes) = true := hsz0
  have hval : ∀ (j : Nat) t v, Tryz.f4.params[j]? = some t → args[j]? = some v → Value.okWide Tryz.prog W .any base t v := hval0
  have hW' := hW
  obtain ⟨p, q, hA0, hV, rfl, hfz, hnd⟩ := hW
  have hA : DataW.TrodAll enc Tryz.prog W 0 (fun _ => true) true Tryz.f4.params.toList args.toList ds p := hA0
  rw [Tryz.params4] at hA hval hsz
  obtain ⟨v0, vs0, d0, ds0, p0, q0, hargs, rfl, rfl, h0, r0⟩ := trodAll_cons hA
  obtain ⟨v1, vs1, d1, ds1, p1, q1, rfl, rfl, rfl, h1, r1⟩ := trodAll_cons r0
  obtain ⟨v2, vs2, d2, ds2, p2, q2, rfl, rfl, rfl, h2, r2⟩ := trodAll_cons r1
  obtain ⟨v3, vs3, d3, ds3, p3, q3, rfl, rfl, rfl, h3, r3⟩ := trodAll_cons r2
  obtain ⟨rfl, rfl, rfl⟩ := trodAll_nil r3
  obtain rfl : args = #[v0, v1, v2, v3] := by cases args; simp_all
  obtain ⟨rfl, rfl⟩ := trodVars_none hV
  have k0 := h0
  have lt0 : ∀ x ∈ p0, x.block < W.heap.size := by obtain ⟨m, hm⟩ := k0; exact DataW.trod_lt m _ _ _ hm
  have sz0 : ∀ n ∈ d0.weights Tryz.prog 26, n ≤ reachBytes := fun n hn => by have z := List.all_eq_true.1 hsz n (DataW.weights_mem_each (j := 0) (t := 26) rfl rfl n hn); simpa using z
  obtain ⟨fuel0, hf0⟩ := h0
  obtain ⟨a0, rd0, ok0⟩ := (opens_26 H enc W) fuel0 _ _ hf0 sz0
  obtain ⟨c0, rfl⟩ : ∃ c, v0 = .agg c := by have z := (hval 0 26 v0 rfl rfl); simp only [Value.okWide, Tryz.underlying26] at z; obtain ⟨c, e, _⟩ := z; exact ⟨c, e⟩
  have rd0 : (R_api_World).rd _ W a0 c0.toList := rd0
  obtain ⟨vs0, rfl⟩ : ∃ l : List Value, c0 = l.toArray := ⟨c0.toList, by simp⟩
  simp only [List.toList_toArray] at rd0
  obtain ⟨A1_, c2_, A4_, c5_, A7_, c8_, rfl, h3_, h6_, h9_⟩ := dec_api_World rd0
  have k1 := h1
  have lt1 : ∀ x ∈ p1, x.block < W.heap.size := by obtain ⟨m, hm⟩ := k1; exact DataW.trod_lt m _ _ _ hm
  have sz1 : ∀ n ∈ d1.weights Tryz.prog 29, n ≤ reachBytes := fun n hn => by have z := List.all_eq_true.1 hsz n (DataW.weights_mem_each (j := 1) (t := 29) rfl rfl n hn); simpa using z
  obtain ⟨fuel1, hf1⟩ := h1
  obtain ⟨a1, rd1, ok1⟩ := (opens_29 H enc W) fuel1 _ _ hf1 sz1
  obtain ⟨c1, rfl⟩ : ∃ c, v1 = .agg c := by have z := (hval 1 29 v1 rfl rfl); simp only [Value.okWide, Tryz.underlying29] at z; obtain ⟨c, e, _⟩ := z; exact ⟨c, e⟩
  have rd1 : (R_api_Ent).rd _ W a1 c1.toList := rd1
  obtain ⟨vs1, rfl⟩ : ∃ l : List Value, c1 = l.toArray := ⟨c1.toList, by simp⟩
  simp only [List.toList_toArray] at rd1
  obtain rfl := dec_api_Ent rd1
  have k2 := h2
  have lt2 : ∀ x ∈ p2, x.block < W.heap.size := by obtain ⟨m, hm⟩ := k2; exact DataW.trod_lt m _ _ _ hm
  have sz2 : ∀ n ∈ d2.weights Tryz.prog 42, n ≤ reachBytes := fun n hn => by have z := List.all_eq_true.1 hsz n (DataW.weights_mem_each (j := 2) (t := 42) rfl rfl n hn); simpa using z
  obtain ⟨fuel2, hf2⟩ := h2
  obtain ⟨a2, rd2, ok2⟩ := (opens_42 H enc W) fuel2 _ _ hf2 sz2
  obtain ⟨c2, rfl⟩ : ∃ c, v2 = .agg c := by have z := (hval 2 42 v2 rfl rfl); simp only [Value.okWide, Tryz.underlying42] at z; obtain ⟨c, e, _⟩ := z; exact ⟨c, e⟩
  have rd2 : (R_api_Comp).rd _ W a2 c2.toList := rd2
  obtain ⟨vs2, rfl⟩ : ∃ l : List Value, c2 = l.toArray := ⟨c2.toList, by simp⟩
  simp only [List.toList_toArray] at rd2
  obtain ⟨A10_, c11_, rfl, h12_⟩ := dec_api_Comp rd2
  have k3 := h3
  have lt3 : ∀ x ∈ p3, x.block < W.heap.size := by obtain ⟨m, hm⟩ := k3; exact DataW.trod_lt m _ _ _ hm
  have sz3 : ∀ n ∈ d3.weights Tryz.prog 3, n ≤ reachBytes := fun n hn => by have z := List.all_eq_true.1 hsz n (DataW.weights_mem_each (j := 3) (t := 3) rfl rfl n hn); simpa using z
  obtain ⟨fuel3, hf3⟩ := h3
  obtain ⟨a3, rd3, ok3⟩ := (Opens.int Tryz.underlying3) fuel3 _ _ hf3 sz3
  obtain ⟨x3, rfl⟩ := okWide_int Tryz.underlying3 (hval 3 3 v3 rfl rfl)
  have e3 : [Go.Value.int .i64 x3] = _ := rd3
  simp only [List.cons.injEq, Value.int.injEq, Value.bool.injEq, Value.string.injEq, and_true, true_and] at e3
  subst e3
  clear hA0 hval0 hsz0 hsz
  refine (@tourlaw3_WorldChanges_ok W W [] (fun b => b < W.heap.size) W A1_ c2_ a0.Kinds A4_ c5_ a0.Gens A7_ c8_ a0.Items a1.N a1.Gen a2.Kind A10_ c11_ a2.Vals x3 (Mem.fz0 W) h3_ h6_ h9_ h12_ true (WorldChanges_true a0.Kinds a0.Gens a0.Items a1.N a1.Gen a2.Kind a2.Vals x3 ok0 ok1 ok2 ok3)).mono fun e W' hh => ?_
  obtain ⟨_, _, he, hM⟩ := hh
  have bel : Below W.heap.size W W' := hM.below
  subst he
  exact ⟨_, rfl, _, _, _, [], _, [], hW', trodAll_mk1 (shut_bool Tryz.underlying4 _), (trodAll_cons_mk (Below.trod laidOut (by kernel_rfl) (of_decide_eq_true (by kernel_rfl)) k0 bel lt0) (trodAll_cons_mk (Below.trod laidOut (by kernel_rfl) (of_decide_eq_true (by kernel_rfl)) k1 bel lt1) (trodAll_cons_mk (Below.trod laidOut (by kernel_rfl) (of_decide_eq_true (by kernel_rfl)) k2 bel lt2) (trodAll_cons_mk (Below.trod laidOut (by kernel_rfl) (of_decide_eq_true (by kernel_rfl)) k3 bel lt3) trodAll_mk0)))), rfl, bel.frame _, fun h => by cases h⟩
theorem said : Rows.WorldChangesSaid :=
  OpenClaim.holds_of_cond 4 Tryz.f4 rfl rfl rfl rfl rfl rfl rfl ⟨rfl, rfl, rfl, rfl, rfl⟩ rfl rfl rfl rfl rfl (by kernel_rfl) Tryz.func4 (by kernel_rfl)
    (of_decide_eq_true (by kernel_rfl)) (by unfold Func.isWrapper; first | (rw [if_pos (by decide +kernel)]; kernel_rfl) | (rw [if_neg (by decide +kernel)]; exact ⟨rfl, rfl⟩))
    (fun os started H enc _ F => by rw [OpenClaim.pre_eq_preRow]; exact lifted os started H enc F)
theorem plain (f : FuncId) (fn : Func) (hf : Tryz.pinned.checked.prog.funcNamed "tourney/tourlaw3.WorldChanges" = some f) (hfn : Tryz.pinned.checked.prog.funcs[f]? = some fn) :
    false = Tryz.pinned.checked.prog.looks [] ∧ ∀ (j : Nat) t, fn.params[j]? = some t → Tryz.pinned.checked.prog.wantsStandIn t = false := by
  obtain rfl : f = 4 := Option.some.inj ((show Tryz.prog.funcNamed "tourney/tourlaw3.WorldChanges" = some 4 by kernel_rfl).symm.trans hf) |>.symm
  obtain rfl : fn = Tryz.f4 := (Option.some.inj (Tryz.func4.symm.trans hfn)).symm
  refine ⟨by kernel_rfl, fun j t ht => ?_⟩
  rw [Tryz.params4] at ht
  have hm : t = 26 ∨ t = 29 ∨ t = 42 ∨ t = 3 := by simpa using Array.mem_of_getElem? ht
  rcases hm with rfl | rfl | rfl | rfl
  · exact (show Tryz.prog.wantsStandIn 26 = false by kernel_rfl)
  · exact (show Tryz.prog.wantsStandIn 29 = false by kernel_rfl)
  · exact (show Tryz.prog.wantsStandIn 42 = false by kernel_rfl)
  · exact (show Tryz.prog.wantsStandIn 3 = false by kernel_rfl)
end Go.Proofs.YtbfndcookgijfaaGreatDoor.worldChanges
namespace Go.Proofs.YtbfndcookgijfaaGreatDoor
/-- The card. -/
theorem worldChanges_holds : Rows.WorldChangesCardSaid :=
  Claim7.holds_tied_plain_at .later [] _ _ _ _ worldChanges.said (fun _ h => by cases h) (by kernel_rfl) (fun _ h => by cases h) worldChanges_row_tie rfl ⟨rfl, rfl⟩ (by kernel_rfl) rfl worldChanges.plain (by kernel_rfl)
end Go.Proofs.YtbfndcookgijfaaGreatDoor
