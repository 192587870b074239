/- The law CmdJoins holds: where what it reads is of bulk at most 1048576 (its only condition), the call answers true, and its arguments read as they did. -/
import Derived.Test.YthcbepikeinglaaRows
import Derived.Test.YthcbepikeinglaaExUp
import Derived.Test.YthcbepikeinglaaExRow
import Derived.Test.YthcbepikeinglaaWkY2
import Derived.Test.YthcbepikeinglaaPuCmdJoins
import Derived.Lib.SmallJoins
import Derived.WalkKit
import Derived.ProofKit
import Derived.OpenShut
import Derived.ShutString
import Derived.ChangeOld
import Derived.Below
import Derived.SizedLaws
namespace Go.Proofs.Ythcbepikeinglaa.cmdJoins
open Go.ChangeShapes Go.WideShapes Go.ChangeAt Go.RowKit Go.Joins Go.Proofs.Ythcbepikeinglaa.Sx Go.Proofs.Ythcbepikeinglaa.Y
open Go.ChangeMaps (open_string shut_string)
set_option linter.unusedVariables false
set_option linter.unusedSimpArgs false
theorem own : ownKnob Try.prog.godebug = none := by kernel_rfl
theorem laidOut : laidOutB Try.prog = true := by kernel_rfl
theorem opensU_24 (H : Type) (enc : TypeId × Value → H) (W : World) : OpensU H enc Try.prog W 24 R_api_Ent ok_api_Ent bk_api_Ent := fun fuel cs x h hw => by
  obtain ⟨hl, xs, hxl, hxe, n, hf⟩ := OpensU.fields Try.underlying24 h hw
  have hl : cs.length = 2 := hl.trans (by kernel_rfl)
  have hxl : xs.length = 2 := hxl
  obtain ⟨y0, y1, rfl⟩ : ∃ y0 y1, xs = [y0, y1] := by match xs, hxl with | [y0, y1], _ => exact ⟨y0, y1, rfl⟩
  obtain ⟨t0, w0⟩ := OpensU.field hf 0 (ft := 3) (o := 0) (z := 1) rfl rfl rfl rfl (by kernel_rfl)
  obtain ⟨a0, r0, k0, b0⟩ := (OpensU.int Try.underlying3) n _ y0 t0 w0
  obtain ⟨t1, w1⟩ := OpensU.field hf 1 (ft := 3) (o := 1) (z := 1) rfl rfl rfl rfl (by kernel_rfl)
  obtain ⟨a1, r1, k1, b1⟩ := (OpensU.int Try.underlying3) n _ y1 t1 w1
  exact ⟨(api_Ent.mk a0 a1), (⟨_, _, seg cs 0 1, r0, (by have z := r1; rw [← seg_last cs 1 1 hl] at z; exact z)⟩ : (R_api_Ent).rd _ W _ (cs.drop 0)), ⟨k0, k1⟩, by rw [hxe]; simp only [bk_api_Ent, List.map_cons, List.map_nil, Rows.uptoBulkAll, Rows.uptoBulk]; omega⟩
theorem opensU_63 (H : Type) (enc : TypeId × Value → H) (W : World) : OpensU H enc Try.prog W 63 R_api_Comp ok_api_Comp bk_api_Comp := fun fuel cs x h hw => by
  obtain ⟨hl, xs, hxl, hxe, n, hf⟩ := OpensU.fields Try.underlying63 h hw
  have hl : cs.length = 2 := hl.trans (by kernel_rfl)
  have hxl : xs.length = 2 := hxl
  obtain ⟨y0, y1, rfl⟩ : ∃ y0 y1, xs = [y0, y1] := by match xs, hxl with | [y0, y1], _ => exact ⟨y0, y1, rfl⟩
  obtain ⟨t0, w0⟩ := OpensU.field hf 0 (ft := 3) (o := 0) (z := 1) rfl rfl rfl rfl (by kernel_rfl)
  obtain ⟨a0, r0, k0, b0⟩ := (OpensU.int Try.underlying3) n _ y0 t0 w0
  obtain ⟨t1, w1⟩ := OpensU.field hf 1 (ft := 39) (o := 1) (z := 1) rfl rfl rfl rfl (by kernel_rfl)
  obtain ⟨a1, r1, k1, b1⟩ := (OpensU.sl (by_ := 8) Try.underlying39 (by kernel_rfl) (by decide) (by kernel_rfl) (OpensU.int Try.underlying3)) n _ y1 t1 w1
  exact ⟨(api_Comp.mk a0 a1), (⟨_, _, seg cs 0 1, r0, (by have z := r1; rw [← seg_last cs 1 1 hl] at z; exact z)⟩ : (R_api_Comp).rd _ W _ (cs.drop 0)), ⟨k0, k1⟩, by rw [hxe]; simp only [bk_api_Comp, List.map_cons, List.map_nil, Rows.uptoBulkAll, Rows.uptoBulk]; omega⟩
theorem opensU_27 (H : Type) (enc : TypeId × Value → H) (W : World) : OpensU H enc Try.prog W 27 R_api_Cmd ok_api_Cmd bk_api_Cmd := fun fuel cs x h hw => by
  obtain ⟨hl, xs, hxl, hxe, n, hf⟩ := OpensU.fields Try.underlying27 h hw
  have hl : cs.length = 5 := hl.trans (by kernel_rfl)
  have hxl : xs.length = 4 := hxl
  obtain ⟨y0, y1, y2, y3, rfl⟩ : ∃ y0 y1 y2 y3, xs = [y0, y1, y2, y3] := by match xs, hxl with | [y0, y1, y2, y3], _ => exact ⟨y0, y1, y2, y3, rfl⟩
  obtain ⟨t0, w0⟩ := OpensU.field hf 0 (ft := 3) (o := 0) (z := 1) rfl rfl rfl rfl (by kernel_rfl)
  obtain ⟨a0, r0, k0, b0⟩ := (OpensU.int Try.underlying3) n _ y0 t0 w0
  obtain ⟨t1, w1⟩ := OpensU.field hf 1 (ft := 24) (o := 1) (z := 2) rfl rfl rfl rfl (by kernel_rfl)
  obtain ⟨a1, r1, k1, b1⟩ := (opensU_24 H enc W) n _ y1 t1 w1
  obtain ⟨t2, w2⟩ := OpensU.field hf 2 (ft := 3) (o := 3) (z := 1) rfl rfl rfl rfl (by kernel_rfl)
  obtain ⟨a2, r2, k2, b2⟩ := (OpensU.int Try.underlying3) n _ y2 t2 w2
  obtain ⟨t3, w3⟩ := OpensU.field hf 3 (ft := 25) (o := 4) (z := 1) rfl rfl rfl rfl (by kernel_rfl)
  obtain ⟨a3, r3, k3, b3⟩ := (OpensU.sl (by_ := 32) Try.underlying25 (by kernel_rfl) (by decide) (by kernel_rfl) (opensU_63 H enc W)) n _ y3 t3 w3
  exact ⟨(api_Cmd.mk a0 a1 a2 a3), (⟨_, _, seg cs 0 1, r0, ⟨_, _, seg cs 1 2, r1, ⟨_, _, seg cs 3 1, r2, (by have z := r3; rw [← seg_last cs 4 1 hl] at z; exact z)⟩⟩⟩ : (R_api_Cmd).rd _ W _ (cs.drop 0)), ⟨k0, k1, k2, k3⟩, by rw [hxe]; simp only [bk_api_Cmd, List.map_cons, List.map_nil, Rows.uptoBulkAll, Rows.uptoBulk]; omega⟩
set_option maxRecDepth 100000 in
theorem lifted (os : Os) (started : os.Started) (H : Type) (enc : TypeId × Value → H) (F : Stop.Interp) :
    ReturnsInHanded {} Try.checked os 3 .any ((Rows.OpenSpec.upto Rows.cmdJoinsSpec).pre6 enc Try.prog Try.f3 Rows.cmdJoinsUptoRow.domain false) (((Rows.OpenSpec.upto Rows.cmdJoinsSpec).at F).post enc Try.prog Try.f3 false true false false) := by
  refine returnsInHanded_of_cond_sized (C := Try.checked) (s := (Rows.OpenSpec.upto Rows.cmdJoinsSpec)) (k := Rows.uptoSmall) rfl own started (by kernel_rfl) Try.func3
    (OpenSpec.witness (enc := enc) (C := Try.checked) (s := (Rows.OpenSpec.upto Rows.cmdJoinsSpec)) (k := Rows.uptoSmall) rfl false ⟨#[], #[.slice none 0 0], []⟩ 8 (by kernel_rfl) (by kernel_rfl) (by kernel_rfl) (x := ([.nil], [], [])) (by kernel_rfl) rfl (by kernel_rfl)) ?_
  intro W base args ds gs before hval0 hW hcnd hk hsz0 _
  have hsz : (DataW.weightsEach Try.prog (Try.f3.params.toList ++ Rows.cmdJoinsSpec.plain.varTypes Try.prog) (ds ++ gs)).all (· ≤ reachBytes) = true := hsz0
  have hval : ∀ (j : Nat) t v, Try.f3.params[j]? = some t → args[j]? = some v → Value.okWide Try.prog W .any base t v := hval0
  have hW' := hW
  obtain ⟨p, q, hA0, hV, rfl, hfz, hnd⟩ := hW
  have hA : DataW.TrodAll enc Try.prog W 0 (fun _ => true) true Try.f3.params.toList args.toList ds p := hA0
  rw [Try.params3] at hA hval hsz
  obtain ⟨v0, vs0, d0, ds0, p0, q0, hargs, rfl, rfl, h0, r0⟩ := trodAll_cons hA
  obtain ⟨rfl, rfl, rfl⟩ := trodAll_nil r0
  obtain rfl : args = #[v0] := by cases args; simp_all
  obtain ⟨rfl, rfl⟩ := trodVars_none hV
  have k0 := h0
  have lt0 : ∀ x ∈ p0, x.block < W.heap.size := by obtain ⟨m, hm⟩ := k0; exact DataW.trod_lt m _ _ _ hm
  have sz0 : ∀ n ∈ d0.weights Try.prog 22, n ≤ reachBytes := fun n hn => by have z := List.all_eq_true.1 hsz n (DataW.weights_mem_each (j := 0) (t := 22) rfl rfl n hn); simpa using z
  obtain ⟨fuel0, hf0⟩ := h0
  obtain ⟨a0, rd0, ok0, bb0⟩ := (OpensU.sl (by_ := 24) Try.underlying22 (by kernel_rfl) (by decide) (by kernel_rfl) (OpensU.sl (by_ := 56) Try.underlying28 (by kernel_rfl) (by decide) (by kernel_rfl) (opensU_27 H enc W))) fuel0 _ _ hf0 sz0
  have bb0 : (bkl (bkl bk_api_Cmd)) a0 ≤ Rows.uptoBulk d0 := bb0
  obtain ⟨A0, n0, c0, rfl⟩ := okWide_slice Try.underlying22 (hval 0 22 v0 rfl rfl)
  obtain ⟨A1_, c2_, e0, h3_⟩ := rd0
  simp [Value.cells] at e0
  obtain ⟨rfl, rfl, rfl⟩ := e0
  have hb : Rows.uptoBulkAll _ ≤ 1048576 := of_decide_eq_true hk
  simp only [List.append_nil, Rows.uptoBulkAll] at hb
  clear hA0 hval0 hsz0 hsz
  refine (tourlaw3_CmdJoins_ok W W [] (fun b => b < W.heap.size) W A0 c0 a0 (Mem.fz0 W) h3_ true (CmdJoins_true a0 ok0 (have z : (bkl (bkl bk_api_Cmd)) a0 ≤ 1048576 := (by omega); z))).mono fun e W' hh => ?_
  obtain ⟨_, _, _, he, hM⟩ := hh
  have bel : Below W.heap.size W W' := hM.below
  subst he
  exact ⟨_, rfl, _, _, _, [], _, [], hW', trodAll_mk1 (shut_bool Try.underlying4 _), (trodAll_cons_mk (Below.trod laidOut (by kernel_rfl) (of_decide_eq_true (by kernel_rfl)) k0 bel lt0) trodAll_mk0), rfl, bel.frame _, fun h => by cases h⟩
theorem over : Rows.cmdJoinsUptoRow.holds Try.pinned (Rows.OpenSpec.upto Rows.cmdJoinsSpec) :=
  OpenClaim.holds_of_cond 3 Try.f3 rfl rfl rfl rfl rfl rfl rfl ⟨rfl, rfl, rfl, rfl, rfl⟩ rfl rfl rfl rfl rfl (by kernel_rfl) Try.func3 (by kernel_rfl)
    (of_decide_eq_true (by kernel_rfl)) (by unfold Func.isWrapper; first | (rw [if_pos (by decide +kernel)]; kernel_rfl) | (rw [if_neg (by decide +kernel)]; exact ⟨rfl, rfl⟩))
    (fun os started H enc _ F => lifted os started H enc F)
end Go.Proofs.Ythcbepikeinglaa.cmdJoins
namespace Go.Proofs.Ythcbepikeinglaa
/-- The row. -/
theorem cmdJoins_holds : Rows.CmdJoinsUptoSaid := cmdJoins.over
end Go.Proofs.Ythcbepikeinglaa
