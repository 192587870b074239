/- The law QuantFields holds: where what it reads is of bulk at most 1048576 (its only condition), the call answers true, and its arguments read as they did. -/
import Derived.Test.YtfihfbkjomploaaRows
import Derived.Test.YtfihfbkjomploaaExUp
import Derived.Test.YtfihfbkjomploaaExRow
import Derived.Test.YtfihfbkjomploaaWkX6
import Derived.Test.YtfihfbkjomploaaPuQuantFields
import Derived.Lib.SmallJoins
import Derived.WalkKit
import Derived.ProofKit
import Derived.OpenShut
import Derived.ShutString
import Derived.ChangeOld
import Derived.Below
import Derived.SizedLaws
namespace Go.Proofs.Ytfihfbkjomploaa.quantFields
open Go.ChangeShapes Go.WideShapes Go.ChangeAt Go.RowKit Go.Joins Go.Proofs.Ytfihfbkjomploaa.Sx Go.Proofs.Ytfihfbkjomploaa.X
open Go.ChangeMaps (open_string shut_string)
set_option linter.unusedVariables false
set_option linter.unusedSimpArgs false
theorem own : ownKnob Try.prog.godebug = none := by kernel_rfl
theorem laidOut : laidOutB Try.prog = true := by kernel_rfl
theorem opensU_55 (H : Type) (enc : TypeId × Value → H) (W : World) : OpensU H enc Try.prog W 55 R_api_Field ok_api_Field bk_api_Field := fun fuel cs x h hw => by
  obtain ⟨hl, xs, hxl, hxe, n, hf⟩ := OpensU.fields Try.underlying55 h hw
  have hl : cs.length = 3 := hl.trans (by kernel_rfl)
  have hxl : xs.length = 3 := hxl
  obtain ⟨y0, y1, y2, rfl⟩ : ∃ y0 y1 y2, xs = [y0, y1, y2] := by match xs, hxl with | [y0, y1, y2], _ => exact ⟨y0, y1, y2, rfl⟩
  obtain ⟨t0, w0⟩ := OpensU.field hf 0 (ft := 9) (o := 0) (z := 1) rfl rfl rfl rfl (by kernel_rfl)
  obtain ⟨a0, r0, k0, b0⟩ := (OpensU.str Try.underlying9) n _ y0 t0 w0
  obtain ⟨t1, w1⟩ := OpensU.field hf 1 (ft := 3) (o := 1) (z := 1) rfl rfl rfl rfl (by kernel_rfl)
  obtain ⟨a1, r1, k1, b1⟩ := (OpensU.int Try.underlying3) n _ y1 t1 w1
  obtain ⟨t2, w2⟩ := OpensU.field hf 2 (ft := 3) (o := 2) (z := 1) rfl rfl rfl rfl (by kernel_rfl)
  obtain ⟨a2, r2, k2, b2⟩ := (OpensU.int Try.underlying3) n _ y2 t2 w2
  exact ⟨(api_Field.mk a0 a1 a2), (⟨_, _, seg cs 0 1, r0, ⟨_, _, seg cs 1 1, r1, (by have z := r2; rw [← seg_last cs 2 1 hl] at z; exact z)⟩⟩ : (R_api_Field).rd _ W _ (cs.drop 0)), ⟨k0, k1, k2⟩, by rw [hxe]; simp only [bk_api_Field, List.map_cons, List.map_nil, Rows.uptoBulkAll, Rows.uptoBulk]; omega⟩
set_option maxRecDepth 100000 in
theorem lifted (os : Os) (started : os.Started) (H : Type) (enc : TypeId × Value → H) (F : Stop.Interp) :
    ReturnsInHanded {} Try.checked os 5 .any ((Rows.OpenSpec.upto Rows.quantFieldsSpec).pre6 enc Try.prog Try.f5 Rows.quantFieldsUptoRow.domain false) (((Rows.OpenSpec.upto Rows.quantFieldsSpec).at F).post enc Try.prog Try.f5 false true false false) := by
  refine returnsInHanded_of_cond_sized (C := Try.checked) (s := (Rows.OpenSpec.upto Rows.quantFieldsSpec)) (k := Rows.uptoSmall) rfl own started (by kernel_rfl) Try.func5
    (OpenSpec.witness (enc := enc) (C := Try.checked) (s := (Rows.OpenSpec.upto Rows.quantFieldsSpec)) (k := Rows.uptoSmall) rfl false ⟨#[], #[.agg #[.string ByteArray.empty, .int .i64 0, .int .i64 0], .int .i64 0, .slice none 0 0], []⟩ 8 (by kernel_rfl) (by kernel_rfl) (by kernel_rfl) (x := ([.agg [.lit (.string []), .lit (.int .i64 0), .lit (.int .i64 0)], .lit (.int .i64 0), .nil], [], [])) (by kernel_rfl) rfl (by kernel_rfl)) ?_
  intro W base args ds gs before hval0 hW hcnd hk hsz0 _
  have hsz : (DataW.weightsEach Try.prog (Try.f5.params.toList ++ Rows.quantFieldsSpec.plain.varTypes Try.prog) (ds ++ gs)).all (· ≤ reachBytes) = true := hsz0
  have hval : ∀ (j : Nat) t v, Try.f5.params[j]? = some t → args[j]? = some v → Value.okWide Try.prog W .any base t v := hval0
  have hW' := hW
  obtain ⟨p, q, hA0, hV, rfl, hfz, hnd⟩ := hW
  have hA : DataW.TrodAll enc Try.prog W 0 (fun _ => true) true Try.f5.params.toList args.toList ds p := hA0
  rw [Try.params5] at hA hval hsz
  obtain ⟨v0, vs0, d0, ds0, p0, q0, hargs, rfl, rfl, h0, r0⟩ := trodAll_cons hA
  obtain ⟨v1, vs1, d1, ds1, p1, q1, rfl, rfl, rfl, h1, r1⟩ := trodAll_cons r0
  obtain ⟨v2, vs2, d2, ds2, p2, q2, rfl, rfl, rfl, h2, r2⟩ := trodAll_cons r1
  obtain ⟨rfl, rfl, rfl⟩ := trodAll_nil r2
  obtain rfl : args = #[v0, v1, v2] := by cases args; simp_all
  obtain ⟨rfl, rfl⟩ := trodVars_none hV
  have k0 := h0
  have lt0 : ∀ x ∈ p0, x.block < W.heap.size := by obtain ⟨m, hm⟩ := k0; exact DataW.trod_lt m _ _ _ hm
  have sz0 : ∀ n ∈ d0.weights Try.prog 55, n ≤ reachBytes := fun n hn => by have z := List.all_eq_true.1 hsz n (DataW.weights_mem_each (j := 0) (t := 55) rfl rfl n hn); simpa using z
  obtain ⟨fuel0, hf0⟩ := h0
  obtain ⟨a0, rd0, ok0, bb0⟩ := (opensU_55 H enc W) fuel0 _ _ hf0 sz0
  have bb0 : bk_api_Field a0 ≤ Rows.uptoBulk d0 := bb0
  obtain ⟨c0, rfl⟩ : ∃ c, v0 = .agg c := by have z := (hval 0 55 v0 rfl rfl); simp only [Value.okWide, Try.underlying55] at z; obtain ⟨c, e, _⟩ := z; exact ⟨c, e⟩
  have rd0 : (R_api_Field).rd _ W a0 c0.toList := rd0
  obtain ⟨vs0, rfl⟩ : ∃ l : List Value, c0 = l.toArray := ⟨c0.toList, by simp⟩
  simp only [List.toList_toArray] at rd0
  obtain rfl := dec_api_Field rd0
  have k1 := h1
  have lt1 : ∀ x ∈ p1, x.block < W.heap.size := by obtain ⟨m, hm⟩ := k1; exact DataW.trod_lt m _ _ _ hm
  have sz1 : ∀ n ∈ d1.weights Try.prog 3, n ≤ reachBytes := fun n hn => by have z := List.all_eq_true.1 hsz n (DataW.weights_mem_each (j := 1) (t := 3) rfl rfl n hn); simpa using z
  obtain ⟨fuel1, hf1⟩ := h1
  obtain ⟨a1, rd1, ok1, bb1⟩ := (OpensU.int Try.underlying3) fuel1 _ _ hf1 sz1
  have bb1 : bk1 a1 ≤ Rows.uptoBulk d1 := bb1
  obtain ⟨x1, rfl⟩ := okWide_int Try.underlying3 (hval 1 3 v1 rfl rfl)
  have e1 : [Go.Value.int .i64 x1] = _ := rd1
  simp only [List.cons.injEq, Value.int.injEq, Value.bool.injEq, Value.string.injEq, and_true, true_and] at e1
  subst e1
  have k2 := h2
  have lt2 : ∀ x ∈ p2, x.block < W.heap.size := by obtain ⟨m, hm⟩ := k2; exact DataW.trod_lt m _ _ _ hm
  have sz2 : ∀ n ∈ d2.weights Try.prog 22, n ≤ reachBytes := fun n hn => by have z := List.all_eq_true.1 hsz n (DataW.weights_mem_each (j := 2) (t := 22) rfl rfl n hn); simpa using z
  obtain ⟨fuel2, hf2⟩ := h2
  obtain ⟨a2, rd2, ok2, bb2⟩ := (OpensU.sl (by_ := 1) Try.underlying22 (by kernel_rfl) (by decide) (by kernel_rfl) (OpensU.int Try.underlying5)) fuel2 _ _ hf2 sz2
  have bb2 : (bkl bk1) a2 ≤ Rows.uptoBulk d2 := bb2
  obtain ⟨A2, n2, c2, rfl⟩ := okWide_slice Try.underlying22 (hval 2 22 v2 rfl rfl)
  obtain ⟨A1_, c2_, e2, h3_⟩ := rd2
  simp [Value.cells] at e2
  obtain ⟨rfl, rfl, rfl⟩ := e2
  have hb : Rows.uptoBulkAll _ ≤ 1048576 := of_decide_eq_true hk
  simp only [List.append_nil, Rows.uptoBulkAll] at hb
  clear hA0 hval0 hsz0 hsz
  refine (tourlaw1_QuantFields_ok W W [] (fun b => b < W.heap.size) W a0.Name a0.Bits a0.Low x1 A2 c2 a2 (Mem.fz0 W) h3_ true (QuantFields_true a0.Name a0.Bits a0.Low x1 a2 ok0 ok1 ok2 (have z : bk_api_Field a0 + bk1 x1 + (bkl bk1) a2 ≤ 1048576 := (by omega); z))).mono fun e W' hh => ?_
  obtain ⟨_, he, hM⟩ := hh
  have bel : Below W.heap.size W W' := hM.below
  subst he
  exact ⟨_, rfl, _, _, _, [], _, [], hW', trodAll_mk1 (shut_bool Try.underlying4 _), (trodAll_cons_mk (Below.trod laidOut (by kernel_rfl) (of_decide_eq_true (by kernel_rfl)) k0 bel lt0) (trodAll_cons_mk (Below.trod laidOut (by kernel_rfl) (of_decide_eq_true (by kernel_rfl)) k1 bel lt1) (trodAll_cons_mk (Below.trod laidOut (by kernel_rfl) (of_decide_eq_true (by kernel_rfl)) k2 bel lt2) trodAll_mk0))), rfl, bel.frame _, fun h => by cases h⟩
theorem over : Rows.quantFieldsUptoRow.holds Try.pinned (Rows.OpenSpec.upto Rows.quantFieldsSpec) :=
  OpenClaim.holds_of_cond 5 Try.f5 rfl rfl rfl rfl rfl rfl rfl ⟨rfl, rfl, rfl, rfl, rfl⟩ rfl rfl rfl rfl rfl (by kernel_rfl) Try.func5 (by kernel_rfl)
    (of_decide_eq_true (by kernel_rfl)) (by unfold Func.isWrapper; first | (rw [if_pos (by decide +kernel)]; kernel_rfl) | (rw [if_neg (by decide +kernel)]; exact ⟨rfl, rfl⟩))
    (fun os started H enc _ F => lifted os started H enc F)
end Go.Proofs.Ytfihfbkjomploaa.quantFields
namespace Go.Proofs.Ytfihfbkjomploaa
/-- The row. -/
theorem quantFields_holds : Rows.QuantFieldsUptoSaid := quantFields.over
end Go.Proofs.Ytfihfbkjomploaa
