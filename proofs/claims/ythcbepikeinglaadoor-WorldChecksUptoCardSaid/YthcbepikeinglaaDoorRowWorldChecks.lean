/- The law WorldChecks holds: where what it reads is of bulk at most 1048576 (its only condition), the call answers true, and its arguments read as they did. -/
import Derived.Test.YthcbepikeinglaaDoorRows
import Derived.Test.YthcbepikeinglaaDoorExUp
import Derived.Test.YthcbepikeinglaaDoorExRow
import Derived.Test.YthcbepikeinglaaDoorCards
import Derived.Test.YthcbepikeinglaaDoorTie
import Derived.Deep.DeepHandedRow
import Derived.Test.YthcbepikeinglaaDoorWkN13
import Derived.Test.YthcbepikeinglaaDoorPuWorldChecksN
import Derived.Lib.SmallJoins
import Derived.WalkKit
import Derived.ProofKit
import Derived.OpenShut
import Derived.ShutString
import Derived.ChangeOld
import Derived.Below
import Derived.SizedLaws
namespace Go.Proofs.YthcbepikeinglaaDoor.worldChecks
open Go.ChangeShapes Go.WideShapes Go.ChangeAt Go.RowKit Go.Joins Go.Proofs.YthcbepikeinglaaDoor.Sx Go.Proofs.YthcbepikeinglaaDoor.N
open Go.ChangeMaps (open_string shut_string)
set_option linter.unusedVariables false
set_option linter.unusedSimpArgs false
theorem own : ownKnob Tryd.prog.godebug = none := by kernel_rfl
theorem laidOut : laidOutB Tryd.prog = true := by kernel_rfl
theorem opensU_23 (H : Type) (enc : TypeId × Value → H) (W : World) : OpensU H enc Tryd.prog W 23 R_api_Field ok_api_Field bk_api_Field := fun fuel cs x h hw => by
  obtain ⟨hl, xs, hxl, hxe, n, hf⟩ := OpensU.fields Tryd.underlying23 h hw
  have hl : cs.length = 3 := hl.trans (by kernel_rfl)
  have hxl : xs.length = 3 := hxl
  obtain ⟨y0, y1, y2, rfl⟩ : ∃ y0 y1 y2, xs = [y0, y1, y2] := by match xs, hxl with | [y0, y1, y2], _ => exact ⟨y0, y1, y2, rfl⟩
  obtain ⟨t0, w0⟩ := OpensU.field hf 0 (ft := 9) (o := 0) (z := 1) rfl rfl rfl rfl (by kernel_rfl)
  obtain ⟨a0, r0, k0, b0⟩ := (OpensU.str Tryd.underlying9) n _ y0 t0 w0
  obtain ⟨t1, w1⟩ := OpensU.field hf 1 (ft := 3) (o := 1) (z := 1) rfl rfl rfl rfl (by kernel_rfl)
  obtain ⟨a1, r1, k1, b1⟩ := (OpensU.int Tryd.underlying3) n _ y1 t1 w1
  obtain ⟨t2, w2⟩ := OpensU.field hf 2 (ft := 3) (o := 2) (z := 1) rfl rfl rfl rfl (by kernel_rfl)
  obtain ⟨a2, r2, k2, b2⟩ := (OpensU.int Tryd.underlying3) n _ y2 t2 w2
  exact ⟨(api_Field.mk a0 a1 a2), (⟨_, _, seg cs 0 1, r0, ⟨_, _, seg cs 1 1, r1, (by have z := r2; rw [← seg_last cs 2 1 hl] at z; exact z)⟩⟩ : (R_api_Field).rd _ W _ (cs.drop 0)), ⟨k0, k1, k2⟩, by rw [hxe]; simp only [bk_api_Field, List.map_cons, List.map_nil, Rows.uptoBulkAll, Rows.uptoBulk]; omega⟩
theorem opensU_27 (H : Type) (enc : TypeId × Value → H) (W : World) : OpensU H enc Tryd.prog W 27 R_api_Kind ok_api_Kind bk_api_Kind := fun fuel cs x h hw => by
  obtain ⟨hl, xs, hxl, hxe, n, hf⟩ := OpensU.fields Tryd.underlying27 h hw
  have hl : cs.length = 2 := hl.trans (by kernel_rfl)
  have hxl : xs.length = 2 := hxl
  obtain ⟨y0, y1, rfl⟩ : ∃ y0 y1, xs = [y0, y1] := by match xs, hxl with | [y0, y1], _ => exact ⟨y0, y1, rfl⟩
  obtain ⟨t0, w0⟩ := OpensU.field hf 0 (ft := 9) (o := 0) (z := 1) rfl rfl rfl rfl (by kernel_rfl)
  obtain ⟨a0, r0, k0, b0⟩ := (OpensU.str Tryd.underlying9) n _ y0 t0 w0
  obtain ⟨t1, w1⟩ := OpensU.field hf 1 (ft := 25) (o := 1) (z := 1) rfl rfl rfl rfl (by kernel_rfl)
  obtain ⟨a1, r1, k1, b1⟩ := (OpensU.sl (by_ := 32) Tryd.underlying25 (by kernel_rfl) (by decide) (by kernel_rfl) (opensU_23 H enc W)) n _ y1 t1 w1
  exact ⟨(api_Kind.mk a0 a1), (⟨_, _, seg cs 0 1, r0, (by have z := r1; rw [← seg_last cs 1 1 hl] at z; exact z)⟩ : (R_api_Kind).rd _ W _ (cs.drop 0)), ⟨k0, k1⟩, by rw [hxe]; simp only [bk_api_Kind, List.map_cons, List.map_nil, Rows.uptoBulkAll, Rows.uptoBulk]; omega⟩
theorem opensU_112 (H : Type) (enc : TypeId × Value → H) (W : World) : OpensU H enc Tryd.prog W 112 R_api_Ent ok_api_Ent bk_api_Ent := fun fuel cs x h hw => by
  obtain ⟨hl, xs, hxl, hxe, n, hf⟩ := OpensU.fields Tryd.underlying112 h hw
  have hl : cs.length = 2 := hl.trans (by kernel_rfl)
  have hxl : xs.length = 2 := hxl
  obtain ⟨y0, y1, rfl⟩ : ∃ y0 y1, xs = [y0, y1] := by match xs, hxl with | [y0, y1], _ => exact ⟨y0, y1, rfl⟩
  obtain ⟨t0, w0⟩ := OpensU.field hf 0 (ft := 3) (o := 0) (z := 1) rfl rfl rfl rfl (by kernel_rfl)
  obtain ⟨a0, r0, k0, b0⟩ := (OpensU.int Tryd.underlying3) n _ y0 t0 w0
  obtain ⟨t1, w1⟩ := OpensU.field hf 1 (ft := 3) (o := 1) (z := 1) rfl rfl rfl rfl (by kernel_rfl)
  obtain ⟨a1, r1, k1, b1⟩ := (OpensU.int Tryd.underlying3) n _ y1 t1 w1
  exact ⟨(api_Ent.mk a0 a1), (⟨_, _, seg cs 0 1, r0, (by have z := r1; rw [← seg_last cs 1 1 hl] at z; exact z)⟩ : (R_api_Ent).rd _ W _ (cs.drop 0)), ⟨k0, k1⟩, by rw [hxe]; simp only [bk_api_Ent, List.map_cons, List.map_nil, Rows.uptoBulkAll, Rows.uptoBulk]; omega⟩
theorem opensU_118 (H : Type) (enc : TypeId × Value → H) (W : World) : OpensU H enc Tryd.prog W 118 R_api_Comp ok_api_Comp bk_api_Comp := fun fuel cs x h hw => by
  obtain ⟨hl, xs, hxl, hxe, n, hf⟩ := OpensU.fields Tryd.underlying118 h hw
  have hl : cs.length = 2 := hl.trans (by kernel_rfl)
  have hxl : xs.length = 2 := hxl
  obtain ⟨y0, y1, rfl⟩ : ∃ y0 y1, xs = [y0, y1] := by match xs, hxl with | [y0, y1], _ => exact ⟨y0, y1, rfl⟩
  obtain ⟨t0, w0⟩ := OpensU.field hf 0 (ft := 3) (o := 0) (z := 1) rfl rfl rfl rfl (by kernel_rfl)
  obtain ⟨a0, r0, k0, b0⟩ := (OpensU.int Tryd.underlying3) n _ y0 t0 w0
  obtain ⟨t1, w1⟩ := OpensU.field hf 1 (ft := 33) (o := 1) (z := 1) rfl rfl rfl rfl (by kernel_rfl)
  obtain ⟨a1, r1, k1, b1⟩ := (OpensU.sl (by_ := 8) Tryd.underlying33 (by kernel_rfl) (by decide) (by kernel_rfl) (OpensU.int Tryd.underlying3)) n _ y1 t1 w1
  exact ⟨(api_Comp.mk a0 a1), (⟨_, _, seg cs 0 1, r0, (by have z := r1; rw [← seg_last cs 1 1 hl] at z; exact z)⟩ : (R_api_Comp).rd _ W _ (cs.drop 0)), ⟨k0, k1⟩, by rw [hxe]; simp only [bk_api_Comp, List.map_cons, List.map_nil, Rows.uptoBulkAll, Rows.uptoBulk]; omega⟩
theorem opensU_115 (H : Type) (enc : TypeId × Value → H) (W : World) : OpensU H enc Tryd.prog W 115 R_api_Item ok_api_Item bk_api_Item := fun fuel cs x h hw => by
  obtain ⟨hl, xs, hxl, hxe, n, hf⟩ := OpensU.fields Tryd.underlying115 h hw
  have hl : cs.length = 3 := hl.trans (by kernel_rfl)
  have hxl : xs.length = 2 := hxl
  obtain ⟨y0, y1, rfl⟩ : ∃ y0 y1, xs = [y0, y1] := by match xs, hxl with | [y0, y1], _ => exact ⟨y0, y1, rfl⟩
  obtain ⟨t0, w0⟩ := OpensU.field hf 0 (ft := 112) (o := 0) (z := 2) rfl rfl rfl rfl (by kernel_rfl)
  obtain ⟨a0, r0, k0, b0⟩ := (opensU_112 H enc W) n _ y0 t0 w0
  obtain ⟨t1, w1⟩ := OpensU.field hf 1 (ft := 113) (o := 2) (z := 1) rfl rfl rfl rfl (by kernel_rfl)
  obtain ⟨a1, r1, k1, b1⟩ := (OpensU.sl (by_ := 32) Tryd.underlying113 (by kernel_rfl) (by decide) (by kernel_rfl) (opensU_118 H enc W)) n _ y1 t1 w1
  exact ⟨(api_Item.mk a0 a1), (⟨_, _, seg cs 0 2, r0, (by have z := r1; rw [← seg_last cs 2 1 hl] at z; exact z)⟩ : (R_api_Item).rd _ W _ (cs.drop 0)), ⟨k0, k1⟩, by rw [hxe]; simp only [bk_api_Item, List.map_cons, List.map_nil, Rows.uptoBulkAll, Rows.uptoBulk]; omega⟩
theorem opensU_71 (H : Type) (enc : TypeId × Value → H) (W : World) : OpensU H enc Tryd.prog W 71 R_api_World ok_api_World bk_api_World := fun fuel cs x h hw => by
  obtain ⟨hl, xs, hxl, hxe, n, hf⟩ := OpensU.fields Tryd.underlying71 h hw
  have hl : cs.length = 3 := hl.trans (by kernel_rfl)
  have hxl : xs.length = 3 := hxl
  obtain ⟨y0, y1, y2, rfl⟩ : ∃ y0 y1 y2, xs = [y0, y1, y2] := by match xs, hxl with | [y0, y1, y2], _ => exact ⟨y0, y1, y2, rfl⟩
  obtain ⟨t0, w0⟩ := OpensU.field hf 0 (ft := 28) (o := 0) (z := 1) rfl rfl rfl rfl (by kernel_rfl)
  obtain ⟨a0, r0, k0, b0⟩ := (OpensU.sl (by_ := 40) Tryd.underlying28 (by kernel_rfl) (by decide) (by kernel_rfl) (opensU_27 H enc W)) n _ y0 t0 w0
  obtain ⟨t1, w1⟩ := OpensU.field hf 1 (ft := 33) (o := 1) (z := 1) rfl rfl rfl rfl (by kernel_rfl)
  obtain ⟨a1, r1, k1, b1⟩ := (OpensU.sl (by_ := 8) Tryd.underlying33 (by kernel_rfl) (by decide) (by kernel_rfl) (OpensU.int Tryd.underlying3)) n _ y1 t1 w1
  obtain ⟨t2, w2⟩ := OpensU.field hf 2 (ft := 69) (o := 2) (z := 1) rfl rfl rfl rfl (by kernel_rfl)
  obtain ⟨a2, r2, k2, b2⟩ := (OpensU.sl (by_ := 40) Tryd.underlying69 (by kernel_rfl) (by decide) (by kernel_rfl) (opensU_115 H enc W)) n _ y2 t2 w2
  exact ⟨(api_World.mk a0 a1 a2), (⟨_, _, seg cs 0 1, r0, ⟨_, _, seg cs 1 1, r1, (by have z := r2; rw [← seg_last cs 2 1 hl] at z; exact z)⟩⟩ : (R_api_World).rd _ W _ (cs.drop 0)), ⟨k0, k1, k2⟩, by rw [hxe]; simp only [bk_api_World, List.map_cons, List.map_nil, Rows.uptoBulkAll, Rows.uptoBulk]; omega⟩
/-- A world for the witness: the settled one, the listed variables holding what their initialisers lay. -/
noncomputable def laidWorld (os : Os) : World :=
  { World.holding Tryd.prog os ⟨#[], #[], []⟩ with heap := (((World.holding Tryd.prog os ⟨#[], #[], []⟩).heap.modify 1 (fun | .cells _ t frozen => .cells #[Value.int .u8 128, Value.int .u8 191, Value.int .u8 160, Value.int .u8 191, Value.int .u8 128, Value.int .u8 159, Value.int .u8 144, Value.int .u8 191, Value.int .u8 128, Value.int .u8 143, Value.int .u8 0, Value.int .u8 0, Value.int .u8 0, Value.int .u8 0, Value.int .u8 0, Value.int .u8 0, Value.int .u8 0, Value.int .u8 0, Value.int .u8 0, Value.int .u8 0, Value.int .u8 0, Value.int .u8 0, Value.int .u8 0, Value.int .u8 0, Value.int .u8 0, Value.int .u8 0, Value.int .u8 0, Value.int .u8 0, Value.int .u8 0, Value.int .u8 0, Value.int .u8 0, Value.int .u8 0] t frozen | o => o)).modify 0 (fun | .cells _ t frozen => .cells (Go.Pinned.utf8FirstZ.map fun (n : Nat) => Value.int .u8 n).toArray t frozen | o => o)) }
set_option maxRecDepth 1000000 in
theorem laid_met (os : Os) : laidMet Tryd.prog Rows.worldChecksUptoRow.laid ((laidWorld os).forCall (fun _ _ => 0) ⟨#[], #[.agg #[.slice none 0 0, .slice none 0 0, .slice none 0 0], .agg #[.slice none 0 0, .slice none 0 0, .slice none 0 0]], []⟩).memory :=
  laidMet_of_run' 8 (by kernel_rfl) (by kernel_rfl)
theorem reads (os : Os) {H : Type} (enc : TypeId × Value → H) : ∃ places, DataW.whole enc Tryd.prog ((laidWorld os).forCall (fun _ _ => 0) ⟨#[], #[.agg #[.slice none 0 0, .slice none 0 0, .slice none 0 0], .agg #[.slice none 0 0, .slice none 0 0, .slice none 0 0]], []⟩).memory Tryd.f6.params.toList Rows.worldChecksSpec.vars false (#[.agg #[.slice none 0 0, .slice none 0 0, .slice none 0 0], .agg #[.slice none 0 0, .slice none 0 0, .slice none 0 0]] : Array Value).toList 8 = some ([.agg [.nil, .nil, .nil], .agg [.nil, .nil, .nil]], [], places) :=
  ⟨[], by kernel_rfl⟩
set_option maxRecDepth 1000000 in
theorem lifted (os : Os) (started : os.Started) (H : Type) (enc : TypeId × Value → H) (F : Stop.Interp) :
    ReturnsInHanded {} Tryd.checked os 6 .any ((Rows.OpenSpec.upto Rows.worldChecksSpec).preRow enc Tryd.prog Tryd.f6 Rows.worldChecksUptoRow.domain false Rows.worldChecksUptoRow.laid) (((Rows.OpenSpec.upto Rows.worldChecksSpec).at F).post enc Tryd.prog Tryd.f6 false true false false) := by
  obtain ⟨places, hx⟩ := reads os enc
  refine returnsInHanded_of_row (C := Tryd.checked) (s := (Rows.OpenSpec.upto Rows.worldChecksSpec)) own started (by kernel_rfl) Tryd.func6
    (witness_row_at (enc := enc) (C := Tryd.checked) false (laidWorld os) #[.agg #[.slice none 0 0, .slice none 0 0, .slice none 0 0], .agg #[.slice none 0 0, .slice none 0 0, .slice none 0 0]] rfl (by kernel_rfl) (by kernel_rfl) (by kernel_rfl)
      (OpenSpec.preRow_of_cond 8 hx (by kernel_rfl) (fun k hk => by cases hk; kernel_rfl) (by kernel_rfl) (laid_met os))) ?_
  intro W base args ds gs before hval0 hW _ hcnd hsz0 hL _ _
  have hk := hcnd _ rfl
  have hsz : (DataW.weightsEach Tryd.prog (Tryd.f6.params.toList ++ Rows.worldChecksSpec.plain.varTypes Tryd.prog) (ds ++ gs)).all (· ≤ reachBytes) = true := hsz0
  have hval : ∀ (j : Nat) t v, Tryd.f6.params[j]? = some t → args[j]? = some v → Value.okWide Tryd.prog W .any base t v := hval0
  have hW' := hW
  obtain ⟨p, q, hA0, hV, rfl, hfz, hnd⟩ := hW
  have hA : DataW.TrodAll enc Tryd.prog W 0 (fun _ => true) true Tryd.f6.params.toList args.toList ds p := hA0
  rw [Tryd.params6] at hA hval hsz
  obtain ⟨v0, vs0, d0, ds0, p0, q0, hargs, rfl, rfl, h0, r0⟩ := trodAll_cons hA
  obtain ⟨v1, vs1, d1, ds1, p1, q1, rfl, rfl, rfl, h1, r1⟩ := trodAll_cons r0
  obtain ⟨rfl, rfl, rfl⟩ := trodAll_nil r1
  obtain rfl : args = #[v0, v1] := by cases args; simp_all
  obtain ⟨rfl, rfl⟩ := trodVars_none hV
  have k0 := h0
  have lt0 : ∀ x ∈ p0, x.block < W.heap.size := by obtain ⟨m, hm⟩ := k0; exact DataW.trod_lt m _ _ _ hm
  have sz0 : ∀ n ∈ d0.weights Tryd.prog 71, n ≤ reachBytes := fun n hn => by have z := List.all_eq_true.1 hsz n (DataW.weights_mem_each (j := 0) (t := 71) rfl rfl n hn); simpa using z
  obtain ⟨fuel0, hf0⟩ := h0
  obtain ⟨a0, rd0, ok0, bb0⟩ := (opensU_71 H enc W) fuel0 _ _ hf0 sz0
  have bb0 : bk_api_World a0 ≤ Rows.uptoBulk d0 := bb0
  obtain ⟨c0, rfl⟩ : ∃ c, v0 = .agg c := by have z := (hval 0 71 v0 rfl rfl); simp only [Value.okWide, Tryd.underlying71] at z; obtain ⟨c, e, _⟩ := z; exact ⟨c, e⟩
  have rd0 : (R_api_World).rd _ W a0 c0.toList := rd0
  obtain ⟨vs0, rfl⟩ : ∃ l : List Value, c0 = l.toArray := ⟨c0.toList, by simp⟩
  simp only [List.toList_toArray] at rd0
  obtain ⟨A1_, c2_, A4_, c5_, A7_, c8_, rfl, h3_, h6_, h9_⟩ := dec_api_World rd0
  have k1 := h1
  have lt1 : ∀ x ∈ p1, x.block < W.heap.size := by obtain ⟨m, hm⟩ := k1; exact DataW.trod_lt m _ _ _ hm
  have sz1 : ∀ n ∈ d1.weights Tryd.prog 71, n ≤ reachBytes := fun n hn => by have z := List.all_eq_true.1 hsz n (DataW.weights_mem_each (j := 1) (t := 71) rfl rfl n hn); simpa using z
  obtain ⟨fuel1, hf1⟩ := h1
  obtain ⟨a1, rd1, ok1, bb1⟩ := (opensU_71 H enc W) fuel1 _ _ hf1 sz1
  have bb1 : bk_api_World a1 ≤ Rows.uptoBulk d1 := bb1
  obtain ⟨c1, rfl⟩ : ∃ c, v1 = .agg c := by have z := (hval 1 71 v1 rfl rfl); simp only [Value.okWide, Tryd.underlying71] at z; obtain ⟨c, e, _⟩ := z; exact ⟨c, e⟩
  have rd1 : (R_api_World).rd _ W a1 c1.toList := rd1
  obtain ⟨vs1, rfl⟩ : ∃ l : List Value, c1 = l.toArray := ⟨c1.toList, by simp⟩
  simp only [List.toList_toArray] at rd1
  obtain ⟨A10_, c11_, A13_, c14_, A16_, c17_, rfl, h12_, h15_, h18_⟩ := dec_api_World rd1
  have hb : Rows.uptoBulkAll _ ≤ 1048576 := of_decide_eq_true hk
  simp only [List.append_nil, Rows.uptoBulkAll] at hb
  clear hA0 hval0 hsz0 hsz
  refine (tourlaw3_WorldChecks_ok W W [] (fun b => b < W.heap.size) W A1_ c2_ a0.Kinds A4_ c5_ a0.Gens A7_ c8_ a0.Items A10_ c11_ a1.Kinds A13_ c14_ a1.Gens A16_ c17_ a1.Items (Mem.fz0 W) h3_ h6_ h9_ h12_ h15_ h18_ true (WorldChecks_true a0.Kinds a0.Gens a0.Items a1.Kinds a1.Gens a1.Items ok0 ok1 (have z : bk_api_World a0 + bk_api_World a1 ≤ 1048576 := (by omega); z))).mono fun e W' hh => ?_
  obtain ⟨_, _, _, he, hM⟩ := hh
  have bel : Below W.heap.size W W' := hM.below
  subst he
  exact ⟨_, rfl, _, _, _, [], _, [], hW', trodAll_mk1 (shut_bool Tryd.underlying4 _), (trodAll_cons_mk (Below.trod laidOut (by kernel_rfl) (of_decide_eq_true (by kernel_rfl)) k0 bel lt0) (trodAll_cons_mk (Below.trod laidOut (by kernel_rfl) (of_decide_eq_true (by kernel_rfl)) k1 bel lt1) trodAll_mk0)), rfl, bel.frame _, fun h => by cases h⟩
theorem said : Rows.WorldChecksUptoSaid :=
  OpenClaim.holds_of_cond 6 Tryd.f6 rfl rfl rfl rfl rfl rfl rfl ⟨rfl, rfl, rfl, rfl, rfl⟩ rfl rfl rfl rfl rfl (by kernel_rfl) Tryd.func6 (by kernel_rfl)
    (of_decide_eq_true (by kernel_rfl)) (by unfold Func.isWrapper; first | (rw [if_pos (by decide +kernel)]; kernel_rfl) | (rw [if_neg (by decide +kernel)]; exact ⟨rfl, rfl⟩))
    (fun os started H enc _ F => by rw [OpenClaim.pre_eq_preRow]; exact lifted os started H enc F)
theorem plain (f : FuncId) (fn : Func) (hf : Tryd.pinned.checked.prog.funcNamed "tourney/tourlaw3.WorldChecks" = some f) (hfn : Tryd.pinned.checked.prog.funcs[f]? = some fn) :
    false = Tryd.pinned.checked.prog.looks [] ∧ ∀ (j : Nat) t, fn.params[j]? = some t → Tryd.pinned.checked.prog.wantsStandIn t = false := by
  obtain rfl : f = 6 := Option.some.inj ((show Tryd.prog.funcNamed "tourney/tourlaw3.WorldChecks" = some 6 by kernel_rfl).symm.trans hf) |>.symm
  obtain rfl : fn = Tryd.f6 := (Option.some.inj (Tryd.func6.symm.trans hfn)).symm
  refine ⟨by kernel_rfl, fun j t ht => ?_⟩
  rw [Tryd.params6] at ht
  obtain rfl : t = 71 := by simpa using Array.mem_of_getElem? ht
  exact (show Tryd.prog.wantsStandIn 71 = false by kernel_rfl)
end Go.Proofs.YthcbepikeinglaaDoor.worldChecks
namespace Go.Proofs.YthcbepikeinglaaDoor
/-- The card. -/
theorem worldChecks_holds : Rows.WorldChecksUptoCardSaid :=
  Claim7.holds_tied_plain_at .later [] _ _ _ _ worldChecks.said (fun _ h => by cases h) (by kernel_rfl) (fun _ h => by cases h) worldChecksUpto_row_tie rfl ⟨rfl, rfl⟩ (by kernel_rfl) rfl worldChecks.plain (by kernel_rfl)
end Go.Proofs.YthcbepikeinglaaDoor
