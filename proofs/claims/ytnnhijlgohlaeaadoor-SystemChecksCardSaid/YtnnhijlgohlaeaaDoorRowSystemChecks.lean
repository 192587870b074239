/- The law SystemChecks holds: whatever the input, the call answers true, and its arguments read as they did. No condition. -/
import Derived.Test.YtnnhijlgohlaeaaDoorRows
import Derived.Test.YtnnhijlgohlaeaaDoorExRow
import Derived.Test.YtnnhijlgohlaeaaDoorCards
import Derived.Test.YtnnhijlgohlaeaaDoorTie
import Derived.Deep.DeepHandedRow
import Derived.Test.YtnnhijlgohlaeaaDoorWkD11
import Derived.Test.YtnnhijlgohlaeaaDoorPuSystemChecksD
import Derived.Lib.SmallJoins
import Derived.WalkKit
import Derived.ProofKit
import Derived.OpenShut
import Derived.ShutString
import Derived.ChangeOld
import Derived.Below
import Derived.SizedLaws
namespace Go.Proofs.YtnnhijlgohlaeaaDoor.systemChecks
open Go.ChangeShapes Go.WideShapes Go.ChangeAt Go.RowKit Go.Joins Go.Proofs.YtnnhijlgohlaeaaDoor.Sx Go.Proofs.YtnnhijlgohlaeaaDoor.D
open Go.ChangeMaps (open_string shut_string)
set_option linter.unusedVariables false
set_option linter.unusedSimpArgs false
theorem own : ownKnob Tryd.prog.godebug = none := by kernel_rfl
theorem laidOut : laidOutB Tryd.prog = true := by kernel_rfl
theorem opens_32 (H : Type) (enc : TypeId × Value → H) (W : World) : Opens H enc Tryd.prog W 32 R_api_Field ok_api_Field := fun fuel cs x h hw => by
  obtain ⟨hl, hf⟩ := Opens.fields Tryd.underlying32 h hw
  have hl : cs.length = 3 := hl.trans (by kernel_rfl)
  obtain ⟨n0, y0, t0, w0⟩ := Opens.field hf 0 (ft := 9) (o := 0) (z := 1) rfl rfl rfl (by kernel_rfl)
  obtain ⟨a0, r0, k0⟩ := (Opens.str Tryd.underlying9) n0 _ y0 t0 w0
  obtain ⟨n1, y1, t1, w1⟩ := Opens.field hf 1 (ft := 3) (o := 1) (z := 1) rfl rfl rfl (by kernel_rfl)
  obtain ⟨a1, r1, k1⟩ := (Opens.int Tryd.underlying3) n1 _ y1 t1 w1
  obtain ⟨n2, y2, t2, w2⟩ := Opens.field hf 2 (ft := 3) (o := 2) (z := 1) rfl rfl rfl (by kernel_rfl)
  obtain ⟨a2, r2, k2⟩ := (Opens.int Tryd.underlying3) n2 _ y2 t2 w2
  exact ⟨(api_Field.mk a0 a1 a2), (⟨_, _, seg cs 0 1, r0, ⟨_, _, seg cs 1 1, r1, (by have z := r2; rw [← seg_last cs 2 1 hl] at z; exact z)⟩⟩ : (R_api_Field).rd _ W _ (cs.drop 0)), ⟨k0, k1, k2⟩⟩
theorem opens_35 (H : Type) (enc : TypeId × Value → H) (W : World) : Opens H enc Tryd.prog W 35 R_api_Kind ok_api_Kind := fun fuel cs x h hw => by
  obtain ⟨hl, hf⟩ := Opens.fields Tryd.underlying35 h hw
  have hl : cs.length = 2 := hl.trans (by kernel_rfl)
  obtain ⟨n0, y0, t0, w0⟩ := Opens.field hf 0 (ft := 9) (o := 0) (z := 1) rfl rfl rfl (by kernel_rfl)
  obtain ⟨a0, r0, k0⟩ := (Opens.str Tryd.underlying9) n0 _ y0 t0 w0
  obtain ⟨n1, y1, t1, w1⟩ := Opens.field hf 1 (ft := 33) (o := 1) (z := 1) rfl rfl rfl (by kernel_rfl)
  obtain ⟨a1, r1, k1⟩ := (Opens.sl (by_ := 32) Tryd.underlying33 (by kernel_rfl) (by decide) (by kernel_rfl) (opens_32 H enc W)) n1 _ y1 t1 w1
  exact ⟨(api_Kind.mk a0 a1), (⟨_, _, seg cs 0 1, r0, (by have z := r1; rw [← seg_last cs 1 1 hl] at z; exact z)⟩ : (R_api_Kind).rd _ W _ (cs.drop 0)), ⟨k0, k1⟩⟩
theorem opens_166 (H : Type) (enc : TypeId × Value → H) (W : World) : Opens H enc Tryd.prog W 166 R_api_Ref ok_api_Ref := fun fuel cs x h hw => by
  obtain ⟨hl, hf⟩ := Opens.fields Tryd.underlying166 h hw
  have hl : cs.length = 2 := hl.trans (by kernel_rfl)
  obtain ⟨n0, y0, t0, w0⟩ := Opens.field hf 0 (ft := 3) (o := 0) (z := 1) rfl rfl rfl (by kernel_rfl)
  obtain ⟨a0, r0, k0⟩ := (Opens.int Tryd.underlying3) n0 _ y0 t0 w0
  obtain ⟨n1, y1, t1, w1⟩ := Opens.field hf 1 (ft := 3) (o := 1) (z := 1) rfl rfl rfl (by kernel_rfl)
  obtain ⟨a1, r1, k1⟩ := (Opens.int Tryd.underlying3) n1 _ y1 t1 w1
  exact ⟨(api_Ref.mk a0 a1), (⟨_, _, seg cs 0 1, r0, (by have z := r1; rw [← seg_last cs 1 1 hl] at z; exact z)⟩ : (R_api_Ref).rd _ W _ (cs.drop 0)), ⟨k0, k1⟩⟩
theorem opens_168 (H : Type) (enc : TypeId × Value → H) (W : World) : Opens H enc Tryd.prog W 168 R_api_Arg ok_api_Arg := fun fuel cs x h hw => by
  obtain ⟨hl, hf⟩ := Opens.fields Tryd.underlying168 h hw
  have hl : cs.length = 4 := hl.trans (by kernel_rfl)
  obtain ⟨n0, y0, t0, w0⟩ := Opens.field hf 0 (ft := 4) (o := 0) (z := 1) rfl rfl rfl (by kernel_rfl)
  obtain ⟨a0, r0, k0⟩ := (Opens.bool Tryd.underlying4) n0 _ y0 t0 w0
  obtain ⟨n1, y1, t1, w1⟩ := Opens.field hf 1 (ft := 3) (o := 1) (z := 1) rfl rfl rfl (by kernel_rfl)
  obtain ⟨a1, r1, k1⟩ := (Opens.int Tryd.underlying3) n1 _ y1 t1 w1
  obtain ⟨n2, y2, t2, w2⟩ := Opens.field hf 2 (ft := 166) (o := 2) (z := 2) rfl rfl rfl (by kernel_rfl)
  obtain ⟨a2, r2, k2⟩ := (opens_166 H enc W) n2 _ y2 t2 w2
  exact ⟨(api_Arg.mk a0 a1 a2), (⟨_, _, seg cs 0 1, r0, ⟨_, _, seg cs 1 1, r1, (by have z := r2; rw [← seg_last cs 2 2 hl] at z; exact z)⟩⟩ : (R_api_Arg).rd _ W _ (cs.drop 0)), ⟨k0, k1, k2⟩⟩
theorem opens_170 (H : Type) (enc : TypeId × Value → H) (W : World) : Opens H enc Tryd.prog W 170 R_api_Op ok_api_Op := fun fuel cs x h hw => by
  obtain ⟨hl, hf⟩ := Opens.fields Tryd.underlying170 h hw
  have hl : cs.length = 11 := hl.trans (by kernel_rfl)
  obtain ⟨n0, y0, t0, w0⟩ := Opens.field hf 0 (ft := 3) (o := 0) (z := 1) rfl rfl rfl (by kernel_rfl)
  obtain ⟨a0, r0, k0⟩ := (Opens.int Tryd.underlying3) n0 _ y0 t0 w0
  obtain ⟨n1, y1, t1, w1⟩ := Opens.field hf 1 (ft := 166) (o := 1) (z := 2) rfl rfl rfl (by kernel_rfl)
  obtain ⟨a1, r1, k1⟩ := (opens_166 H enc W) n1 _ y1 t1 w1
  obtain ⟨n2, y2, t2, w2⟩ := Opens.field hf 2 (ft := 168) (o := 3) (z := 4) rfl rfl rfl (by kernel_rfl)
  obtain ⟨a2, r2, k2⟩ := (opens_168 H enc W) n2 _ y2 t2 w2
  obtain ⟨n3, y3, t3, w3⟩ := Opens.field hf 3 (ft := 168) (o := 7) (z := 4) rfl rfl rfl (by kernel_rfl)
  obtain ⟨a3, r3, k3⟩ := (opens_168 H enc W) n3 _ y3 t3 w3
  exact ⟨(api_Op.mk a0 a1 a2 a3), (⟨_, _, seg cs 0 1, r0, ⟨_, _, seg cs 1 2, r1, ⟨_, _, seg cs 3 4, r2, (by have z := r3; rw [← seg_last cs 7 4 hl] at z; exact z)⟩⟩⟩ : (R_api_Op).rd _ W _ (cs.drop 0)), ⟨k0, k1, k2, k3⟩⟩
theorem opens_135 (H : Type) (enc : TypeId × Value → H) (W : World) : Opens H enc Tryd.prog W 135 R_api_Comp ok_api_Comp := fun fuel cs x h hw => by
  obtain ⟨hl, hf⟩ := Opens.fields Tryd.underlying135 h hw
  have hl : cs.length = 2 := hl.trans (by kernel_rfl)
  obtain ⟨n0, y0, t0, w0⟩ := Opens.field hf 0 (ft := 3) (o := 0) (z := 1) rfl rfl rfl (by kernel_rfl)
  obtain ⟨a0, r0, k0⟩ := (Opens.int Tryd.underlying3) n0 _ y0 t0 w0
  obtain ⟨n1, y1, t1, w1⟩ := Opens.field hf 1 (ft := 44) (o := 1) (z := 1) rfl rfl rfl (by kernel_rfl)
  obtain ⟨a1, r1, k1⟩ := (Opens.sl (by_ := 8) Tryd.underlying44 (by kernel_rfl) (by decide) (by kernel_rfl) (Opens.int Tryd.underlying3)) n1 _ y1 t1 w1
  exact ⟨(api_Comp.mk a0 a1), (⟨_, _, seg cs 0 1, r0, (by have z := r1; rw [← seg_last cs 1 1 hl] at z; exact z)⟩ : (R_api_Comp).rd _ W _ (cs.drop 0)), ⟨k0, k1⟩⟩
theorem opens_96 (H : Type) (enc : TypeId × Value → H) (W : World) : Opens H enc Tryd.prog W 96 R_api_System ok_api_System := fun fuel cs x h hw => by
  obtain ⟨hl, hf⟩ := Opens.fields Tryd.underlying96 h hw
  have hl : cs.length = 7 := hl.trans (by kernel_rfl)
  obtain ⟨n0, y0, t0, w0⟩ := Opens.field hf 0 (ft := 9) (o := 0) (z := 1) rfl rfl rfl (by kernel_rfl)
  obtain ⟨a0, r0, k0⟩ := (Opens.str Tryd.underlying9) n0 _ y0 t0 w0
  obtain ⟨n1, y1, t1, w1⟩ := Opens.field hf 1 (ft := 44) (o := 1) (z := 1) rfl rfl rfl (by kernel_rfl)
  obtain ⟨a1, r1, k1⟩ := (Opens.sl (by_ := 8) Tryd.underlying44 (by kernel_rfl) (by decide) (by kernel_rfl) (Opens.int Tryd.underlying3)) n1 _ y1 t1 w1
  obtain ⟨n2, y2, t2, w2⟩ := Opens.field hf 2 (ft := 44) (o := 2) (z := 1) rfl rfl rfl (by kernel_rfl)
  obtain ⟨a2, r2, k2⟩ := (Opens.sl (by_ := 8) Tryd.underlying44 (by kernel_rfl) (by decide) (by kernel_rfl) (Opens.int Tryd.underlying3)) n2 _ y2 t2 w2
  obtain ⟨n3, y3, t3, w3⟩ := Opens.field hf 3 (ft := 44) (o := 3) (z := 1) rfl rfl rfl (by kernel_rfl)
  obtain ⟨a3, r3, k3⟩ := (Opens.sl (by_ := 8) Tryd.underlying44 (by kernel_rfl) (by decide) (by kernel_rfl) (Opens.int Tryd.underlying3)) n3 _ y3 t3 w3
  obtain ⟨n4, y4, t4, w4⟩ := Opens.field hf 4 (ft := 44) (o := 4) (z := 1) rfl rfl rfl (by kernel_rfl)
  obtain ⟨a4, r4, k4⟩ := (Opens.sl (by_ := 8) Tryd.underlying44 (by kernel_rfl) (by decide) (by kernel_rfl) (Opens.int Tryd.underlying3)) n4 _ y4 t4 w4
  obtain ⟨n5, y5, t5, w5⟩ := Opens.field hf 5 (ft := 93) (o := 5) (z := 1) rfl rfl rfl (by kernel_rfl)
  obtain ⟨a5, r5, k5⟩ := (Opens.sl (by_ := 88) Tryd.underlying93 (by kernel_rfl) (by decide) (by kernel_rfl) (opens_170 H enc W)) n5 _ y5 t5 w5
  obtain ⟨n6, y6, t6, w6⟩ := Opens.field hf 6 (ft := 94) (o := 6) (z := 1) rfl rfl rfl (by kernel_rfl)
  obtain ⟨a6, r6, k6⟩ := (Opens.sl (by_ := 32) Tryd.underlying94 (by kernel_rfl) (by decide) (by kernel_rfl) (opens_135 H enc W)) n6 _ y6 t6 w6
  exact ⟨(api_System.mk a0 a1 a2 a3 a4 a5 a6), (⟨_, _, seg cs 0 1, r0, ⟨_, _, seg cs 1 1, r1, ⟨_, _, seg cs 2 1, r2, ⟨_, _, seg cs 3 1, r3, ⟨_, _, seg cs 4 1, r4, ⟨_, _, seg cs 5 1, r5, (by have z := r6; rw [← seg_last cs 6 1 hl] at z; exact z)⟩⟩⟩⟩⟩⟩ : (R_api_System).rd _ W _ (cs.drop 0)), ⟨k0, k1, k2, k3, k4, k5, k6⟩⟩
/-- A world for the witness: the settled one, the listed variables holding what their initialisers lay. -/
noncomputable def laidWorld (os : Os) : World :=
  { World.holding Tryd.prog os ⟨#[], #[], []⟩ with heap := (((World.holding Tryd.prog os ⟨#[], #[], []⟩).heap.modify 2 (fun | .cells _ t frozen => .cells #[Value.int .u8 128, Value.int .u8 191, Value.int .u8 160, Value.int .u8 191, Value.int .u8 128, Value.int .u8 159, Value.int .u8 144, Value.int .u8 191, Value.int .u8 128, Value.int .u8 143, Value.int .u8 0, Value.int .u8 0, Value.int .u8 0, Value.int .u8 0, Value.int .u8 0, Value.int .u8 0, Value.int .u8 0, Value.int .u8 0, Value.int .u8 0, Value.int .u8 0, Value.int .u8 0, Value.int .u8 0, Value.int .u8 0, Value.int .u8 0, Value.int .u8 0, Value.int .u8 0, Value.int .u8 0, Value.int .u8 0, Value.int .u8 0, Value.int .u8 0, Value.int .u8 0, Value.int .u8 0] t frozen | o => o)).modify 1 (fun | .cells _ t frozen => .cells (Go.Pinned.utf8FirstZ.map fun (n : Nat) => Value.int .u8 n).toArray t frozen | o => o)) }
set_option maxRecDepth 1000000 in
theorem laid_met (os : Os) : laidMet Tryd.prog Rows.systemChecksRow.laid ((laidWorld os).forCall (fun _ _ => 0) ⟨#[], #[.slice none 0 0, .agg #[.string ByteArray.empty, .slice none 0 0, .slice none 0 0, .slice none 0 0, .slice none 0 0, .slice none 0 0, .slice none 0 0]], []⟩).memory :=
  laidMet_of_run' 8 (by kernel_rfl) (by kernel_rfl)
theorem reads (os : Os) {H : Type} (enc : TypeId × Value → H) : ∃ places, DataW.whole enc Tryd.prog ((laidWorld os).forCall (fun _ _ => 0) ⟨#[], #[.slice none 0 0, .agg #[.string ByteArray.empty, .slice none 0 0, .slice none 0 0, .slice none 0 0, .slice none 0 0, .slice none 0 0, .slice none 0 0]], []⟩).memory Tryd.f7.params.toList Rows.systemChecksSpec.vars false (#[.slice none 0 0, .agg #[.string ByteArray.empty, .slice none 0 0, .slice none 0 0, .slice none 0 0, .slice none 0 0, .slice none 0 0, .slice none 0 0]] : Array Value).toList 8 = some ([.nil, .agg [.lit (.string []), .nil, .nil, .nil, .nil, .nil, .nil]], [], places) :=
  ⟨[], by kernel_rfl⟩
set_option maxRecDepth 1000000 in
theorem lifted (os : Os) (started : os.Started) (H : Type) (enc : TypeId × Value → H) (F : Stop.Interp) :
    ReturnsInHanded {} Tryd.checked os 7 .any ((OpenSpec.ofChange Rows.systemChecksSpec).preRow enc Tryd.prog Tryd.f7 Rows.systemChecksRow.domain false Rows.systemChecksRow.laid) (((OpenSpec.ofChange Rows.systemChecksSpec).at F).post enc Tryd.prog Tryd.f7 false true false false) := by
  obtain ⟨places, hx⟩ := reads os enc
  refine returnsInHanded_of_row (C := Tryd.checked) (s := (OpenSpec.ofChange Rows.systemChecksSpec)) own started (by kernel_rfl) Tryd.func7
    (witness_row_at (enc := enc) (C := Tryd.checked) false (laidWorld os) #[.slice none 0 0, .agg #[.string ByteArray.empty, .slice none 0 0, .slice none 0 0, .slice none 0 0, .slice none 0 0, .slice none 0 0, .slice none 0 0]] rfl (by kernel_rfl) (by kernel_rfl) (by kernel_rfl)
      (OpenSpec.preRow_of_cond 8 hx (by kernel_rfl) (fun k hk => by cases hk) (by kernel_rfl) (laid_met os))) ?_
  intro W base args ds gs before hval0 hW _ hcnd hsz0 hL _ _
  have hsz : (DataW.weightsEach Tryd.prog (Tryd.f7.params.toList ++ Rows.systemChecksSpec.plain.varTypes Tryd.prog) (ds ++ gs)).all (· ≤ reachBytes) = true := hsz0
  have hval : ∀ (j : Nat) t v, Tryd.f7.params[j]? = some t → args[j]? = some v → Value.okWide Tryd.prog W .any base t v := hval0
  have hW' := hW
  obtain ⟨p, q, hA0, hV, rfl, hfz, hnd⟩ := hW
  have hA : DataW.TrodAll enc Tryd.prog W 0 (fun _ => true) true Tryd.f7.params.toList args.toList ds p := hA0
  rw [Tryd.params7] at hA hval hsz
  obtain ⟨v0, vs0, d0, ds0, p0, q0, hargs, rfl, rfl, h0, r0⟩ := trodAll_cons hA
  obtain ⟨v1, vs1, d1, ds1, p1, q1, rfl, rfl, rfl, h1, r1⟩ := trodAll_cons r0
  obtain ⟨rfl, rfl, rfl⟩ := trodAll_nil r1
  obtain rfl : args = #[v0, v1] := by cases args; simp_all
  obtain ⟨rfl, rfl⟩ := trodVars_none hV
  have k0 := h0
  have lt0 : ∀ x ∈ p0, x.block < W.heap.size := by obtain ⟨m, hm⟩ := k0; exact DataW.trod_lt m _ _ _ hm
  have sz0 : ∀ n ∈ d0.weights Tryd.prog 22, n ≤ reachBytes := fun n hn => by have z := List.all_eq_true.1 hsz n (DataW.weights_mem_each (j := 0) (t := 22) rfl rfl n hn); simpa using z
  obtain ⟨fuel0, hf0⟩ := h0
  obtain ⟨a0, rd0, ok0⟩ := (Opens.sl (by_ := 40) Tryd.underlying22 (by kernel_rfl) (by decide) (by kernel_rfl) (opens_35 H enc W)) fuel0 _ _ hf0 sz0
  obtain ⟨A0, n0, c0, rfl⟩ := okWide_slice Tryd.underlying22 (hval 0 22 v0 rfl rfl)
  obtain ⟨A1_, c2_, e0, h3_⟩ := rd0
  simp [Value.cells] at e0
  obtain ⟨rfl, rfl, rfl⟩ := e0
  have k1 := h1
  have lt1 : ∀ x ∈ p1, x.block < W.heap.size := by obtain ⟨m, hm⟩ := k1; exact DataW.trod_lt m _ _ _ hm
  have sz1 : ∀ n ∈ d1.weights Tryd.prog 96, n ≤ reachBytes := fun n hn => by have z := List.all_eq_true.1 hsz n (DataW.weights_mem_each (j := 1) (t := 96) rfl rfl n hn); simpa using z
  obtain ⟨fuel1, hf1⟩ := h1
  obtain ⟨a1, rd1, ok1⟩ := (opens_96 H enc W) fuel1 _ _ hf1 sz1
  obtain ⟨c1, rfl⟩ : ∃ c, v1 = .agg c := by have z := (hval 1 96 v1 rfl rfl); simp only [Value.okWide, Tryd.underlying96] at z; obtain ⟨c, e, _⟩ := z; exact ⟨c, e⟩
  have rd1 : (R_api_System).rd _ W a1 c1.toList := rd1
  obtain ⟨vs1, rfl⟩ : ∃ l : List Value, c1 = l.toArray := ⟨c1.toList, by simp⟩
  simp only [List.toList_toArray] at rd1
  obtain ⟨A4_, c5_, A7_, c8_, A10_, c11_, A13_, c14_, A16_, c17_, A19_, c20_, rfl, h6_, h9_, h12_, h15_, h18_, h21_⟩ := dec_api_System rd1
  clear hA0 hval0 hsz0 hsz
  refine (tourlaw3_SystemChecks_ok W W [] (fun b => b < W.heap.size) W A0 c0 a0 a1.Name A4_ c5_ a1.With A7_ c8_ a1.Without A10_ c11_ a1.Reads A13_ c14_ a1.Writes A16_ c17_ a1.Ops A19_ c20_ a1.Spawn (Mem.fz0 W) h3_ h6_ h9_ h12_ h15_ h18_ h21_ true (SystemChecks_true a0 a1.Name a1.With a1.Without a1.Reads a1.Writes a1.Ops a1.Spawn ok0 ok1)).mono fun e W' hh => ?_
  obtain ⟨_, _, _, he, hM⟩ := hh
  have bel : Below W.heap.size W W' := hM.below
  subst he
  exact ⟨_, rfl, _, _, _, [], _, [], hW', trodAll_mk1 (shut_bool Tryd.underlying4 _), (trodAll_cons_mk (Below.trod laidOut (by kernel_rfl) (of_decide_eq_true (by kernel_rfl)) k0 bel lt0) (trodAll_cons_mk (Below.trod laidOut (by kernel_rfl) (of_decide_eq_true (by kernel_rfl)) k1 bel lt1) trodAll_mk0)), rfl, bel.frame _, fun h => by cases h⟩
theorem said : Rows.SystemChecksSaid :=
  OpenClaim.holds_of_cond 7 Tryd.f7 rfl rfl rfl rfl rfl rfl rfl ⟨rfl, rfl, rfl, rfl, rfl⟩ rfl rfl rfl rfl rfl (by kernel_rfl) Tryd.func7 (by kernel_rfl)
    (of_decide_eq_true (by kernel_rfl)) (by unfold Func.isWrapper; first | (rw [if_pos (by decide +kernel)]; kernel_rfl) | (rw [if_neg (by decide +kernel)]; exact ⟨rfl, rfl⟩))
    (fun os started H enc _ F => by rw [OpenClaim.pre_eq_preRow]; exact lifted os started H enc F)
theorem plain (f : FuncId) (fn : Func) (hf : Tryd.pinned.checked.prog.funcNamed "tourney/tourlaw3.SystemChecks" = some f) (hfn : Tryd.pinned.checked.prog.funcs[f]? = some fn) :
    false = Tryd.pinned.checked.prog.looks [] ∧ ∀ (j : Nat) t, fn.params[j]? = some t → Tryd.pinned.checked.prog.wantsStandIn t = false := by
  obtain rfl : f = 7 := Option.some.inj ((show Tryd.prog.funcNamed "tourney/tourlaw3.SystemChecks" = some 7 by kernel_rfl).symm.trans hf) |>.symm
  obtain rfl : fn = Tryd.f7 := (Option.some.inj (Tryd.func7.symm.trans hfn)).symm
  refine ⟨by kernel_rfl, fun j t ht => ?_⟩
  rw [Tryd.params7] at ht
  have hm : t = 22 ∨ t = 96 := by simpa using Array.mem_of_getElem? ht
  rcases hm with rfl | rfl
  · exact (show Tryd.prog.wantsStandIn 22 = false by kernel_rfl)
  · exact (show Tryd.prog.wantsStandIn 96 = false by kernel_rfl)
end Go.Proofs.YtnnhijlgohlaeaaDoor.systemChecks
namespace Go.Proofs.YtnnhijlgohlaeaaDoor
/-- The card. -/
theorem systemChecks_holds : Rows.SystemChecksCardSaid :=
  Claim7.holds_tied_plain_at .later [] _ _ _ _ systemChecks.said (fun _ h => by cases h) (by kernel_rfl) (fun _ h => by cases h) systemChecks_row_tie rfl ⟨rfl, rfl⟩ (by kernel_rfl) rfl systemChecks.plain (by kernel_rfl)
end Go.Proofs.YtnnhijlgohlaeaaDoor
