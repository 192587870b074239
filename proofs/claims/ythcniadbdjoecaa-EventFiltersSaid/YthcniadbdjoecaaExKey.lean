/- Keys of maps that are structs or arrays of whole numbers. No condition. -/
import Derived.Test.YthcniadbdjoecaaExMap
import Derived.Test.YthcniadbdjoecaaSxEq
import Derived.WideKeyRuns
namespace Go.Proofs.Ythcniadbdjoecaa.Sx
open Go Go.RowKit
set_option linter.unusedVariables false
section
variable {P : Program} {kt : TypeId} {κ : Type} [DecidableEq κ] {key : κ → Value}
theorem findAsking_gen (he : ∀ (a b : κ) (w : World), (Op.equal kt (key a) (key b)).run P w = .ok (decide (b = a)) w) (k : κ) (w : World) : ∀ (ks : List κ) (es : List MapEntry) (i : Nat), es.map (·.key) = ks.map key →
    (Instr.findAsking kt (key k) es i).run P w = .ok ((ks.findIdx? fun x => decide (x = k)).map fun j => (i + j, ((es[j]?).map (·.val)).getD undef)) w := by
  intro ks
  induction ks with
  | nil => intro es i h; simp only [List.map_nil, List.map_eq_nil_iff] at h; subst h; simp [Instr.findAsking]
  | cons x ks ih =>
    intro es i h
    cases es with
    | nil => simp at h
    | cons e es =>
      simp only [List.map_cons, List.cons.injEq] at h
      simp only [Instr.findAsking, Sem.run_bind, h.1, he k x w, Result.andThen_ok, List.findIdx?_cons]
      by_cases hx : x = k
      · simp [hx]
      · simp only [hx, decide_false, Bool.false_eq_true, if_false]
        rw [ih es (i + 1) h.2]
        cases ks.findIdx? (fun x => decide (x = k)) with
        | none => rfl
        | some j => simp [Nat.add_assoc, Nat.add_comm 1 j]
theorem KeyLaw.wide (hw : (match P.underlying kt with | some (.array _ _) | some (.struct _) => true | _ => false) = true)
    (hc : ∀ (b : Bool) (k : κ) (w : World), (Instr.checkKey b 10000 kt (key k)).run P w = .ok () w)
    (he : ∀ (a b : κ) (w : World), (Op.equal kt (key a) (key b)).run P w = .ok (decide (b = a)) w)
    (hs : ∀ k, Instr.sameBits 10000 (key k) (key k) = true) : KeyLaw P kt key where
  check := hc
  find k ks es w h := by
    rw [run_findKey_eq w hw, findAsking_gen he k w ks es 0 h]
    simp
  same := hs
end
section
variable {P : Program} {b : Bool} {n : Nat} {cs : Array Value} {w : World} {f : Field} {fs : List Field} {x : Value} {t e : TypeId} {k : IntKind} {a : Int}
def ChkL (P : Program) (b : Bool) (n : Nat) (cs : Array Value) (w : World) : List Field → Prop
  | [] => True
  | f :: fs => (∃ x, (part f.type cs f.offset).run P w = .ok x w ∧ (Instr.checkKey b n f.type x).run P w = .ok () w) ∧ ChkL P b n cs w fs
theorem chk_no : ChkL P b n cs w [] := trivial
theorem chk_any (ha : (part f.type cs f.offset).run P w = .ok x w) (hx : (Instr.checkKey b n f.type x).run P w = .ok () w) (hr : ChkL P b n cs w fs) : ChkL P b n cs w (f :: fs) := ⟨⟨x, ha, hx⟩, hr⟩
theorem chk_int0 (hu : P.underlying t = some (.int k)) : (Instr.checkKey b (n + 1) t (.int k a)).run P w = .ok () w := by
  simp only [Instr.checkKey, Sem.run_bind, run_underlying hu, Result.andThen_ok]; rfl
theorem chk_int (hu : P.underlying f.type = some (.int k)) (ha : (part f.type cs f.offset).run P w = .ok (.int k a) w) (hr : ChkL P b (n + 1) cs w fs) : ChkL P b (n + 1) cs w (f :: fs) := chk_any ha (chk_int0 hu) hr
theorem chk_struct {fs : Array Field} (hu : P.underlying t = some (.struct fs)) (h : ChkL P b n cs w fs.toList) : (Instr.checkKey b (n + 1) t (.agg cs)).run P w = .ok () w := by
  rw [Instr.checkKey]
  simp only [Sem.run_bind, run_underlying hu, Result.andThen_ok]
  rw [← Array.forIn_toList]
  generalize fs.toList = L at h
  induction L with
  | nil => simp
  | cons f L ih =>
    obtain ⟨⟨x, h1, h2⟩, h3⟩ := h
    by_cases hn : f.name = "_"
    · simp only [List.forIn_cons, Sem.run_bind, hn, ne_eq, not_true_eq_false, if_false, Result.andThen_ok, Sem.run_pure]
      exact ih h3
    · simp only [List.forIn_cons, Sem.run_bind, hn, ne_eq, not_false_eq_true, if_true, Result.andThen_ok, h1, h2, Sem.run_pure]
      exact ih h3
theorem chk_array {m c : Nat} {ys : List Int} (hu : P.underlying t = some (.array m e)) (hq : P.underlying e = some (.int k)) (hi : (P.info? e).isSome = true) (hc : P.cellsOf e = 1) (hcs : cs = (ys.map (Value.int k)).toArray) (hm : ys.length = m) : (Instr.checkKey b (n + 2) t (.agg cs)).run P w = .ok () w := by
  obtain ⟨i, hi⟩ := Option.isSome_iff_exists.1 hi
  have hz : (sizeOf e).run P w = .ok 1 w := by have := Go.run_sizeOf w hi; rwa [hc] at this
  rw [Instr.checkKey]
  simp only [Sem.run_bind, run_underlying hu, Result.andThen_ok]
  simp only [Std.Legacy.Range.forIn_eq_forIn_range', Std.Legacy.Range.size, Nat.sub_zero, Nat.add_one_sub_one, Nat.div_one]
  have each : ∀ j ∈ List.range' 0 m, ∃ y, (part e cs (j * 1)).run P w = .ok (.int k y) w := by
    intro j hj
    have hj' : j < ys.length := by rw [hm]; simpa using hj
    refine ⟨ys[j], ?_⟩
    have : P.plainKey e = true := by simp [Program.plainKey, hq]
    rw [Nat.mul_one]
    exact run_part_plain w this (by rw [hcs]; simp [hj'])
  generalize List.range' 0 m = is at each
  induction is with
  | nil => simp
  | cons j is ih =>
    obtain ⟨y, h1⟩ := each j (by simp)
    simp only [List.forIn_cons, Sem.run_bind, hz, Result.andThen_ok, h1, chk_int0 hq, Sem.run_pure]
    exact ih (fun y hy => each y (by simp [hy]))
end
end Go.Proofs.Ythcniadbdjoecaa.Sx
