/- Equality of structs of whole numbers as one Bool, over the library's laws of structs. No condition. -/
import Derived.Test.YtbfndcookgijfaaGreatDoorSxOps
import Derived.Laws.StructEq
import Derived.ChangeKeysEq
import Derived.Tactics
namespace Go.Proofs.YtbfndcookgijfaaGreatDoor.Sx
open Go Go.RowKit
set_option linter.unusedVariables false
section
variable {P : Program} {d : Nat} {xs ys : Array Value} {f : Field} {fs : List Field} {k : IntKind} {a b : Int} {s : Bool} {w : World}
/-- A field that holds a whole number, and what the others tell. -/
theorem int_field (hn : f.name ≠ "_") (hu : P.underlying f.type = some (.int k)) (ha : (part f.type xs f.offset).run P w = .ok (.int k a) w) (hb : (part f.type ys f.offset).run P w = .ok (.int k b) w) (hr : (Op.eqFields (d + 1) xs ys fs).run P w = .ok s w) : (Op.eqFields (d + 1) xs ys (f :: fs)).run P w = .ok ((a == b) && s) w := by
  have he : (Op.equalIn (d + 1) f.type (.int k a) (.int k b)).run P w = .ok (a == b) w := by
    simp [Op.equalIn, Sem.run_bind, run_underlying hu]
  simp only [Op.eqFields, ne_eq, hn, not_false_eq_true, if_true, Sem.run_bind, ha, hb, he, Result.andThen_ok]
  by_cases h : a = b
  · subst h; simpa using hr
  · have : (a == b) = false := by simpa using h
    simp [this]
theorem any_field {x y : Value} {e : Bool} (hn : f.name ≠ "_") (ha : (part f.type xs f.offset).run P w = .ok x w) (hb : (part f.type ys f.offset).run P w = .ok y w) (he : (Op.equalIn (d + 1) f.type x y).run P w = .ok e w) (hr : (Op.eqFields (d + 1) xs ys fs).run P w = .ok s w) : (Op.eqFields (d + 1) xs ys (f :: fs)).run P w = .ok (e && s) w := by
  simp only [Op.eqFields, ne_eq, hn, not_false_eq_true, if_true, Sem.run_bind, ha, hb, he, Result.andThen_ok]
  cases e
  · simp
  · simpa using hr
theorem str_field {a b : ByteArray} (hn : f.name ≠ "_") (hu : P.underlying f.type = some .string) (ha : (part f.type xs f.offset).run P w = .ok (.string a) w) (hb : (part f.type ys f.offset).run P w = .ok (.string b) w) (hr : (Op.eqFields (d + 1) xs ys fs).run P w = .ok s w) : (Op.eqFields (d + 1) xs ys (f :: fs)).run P w = .ok ((a.toList == b.toList) && s) w := any_field hn ha hb (run_equalIn_string w d _ a b hu) hr
theorem no_field : (Op.eqFields d xs ys []).run P w = .ok true w := by simp [Op.eqFields]
theorem int_struct {t : TypeId} {fs : Array Field} {r : Bool} (hu : P.underlying t = some (.struct fs)) (hp : P.stoodInHeld t = false) (h : (Op.eqFields d xs ys fs.toList).run P w = .ok r w) : (Op.equalIn (d + 1) t (.agg xs) (.agg ys)).run P w = .ok r w := by
  have e : P.fieldsOf t = fs := by simp only [Program.fieldsOf, hu]
  have z := run_equalIn_struct (P := P) w d t xs ys (by rw [e, hu]) hp
  rw [z, e, h]
end
end Go.Proofs.YtbfndcookgijfaaGreatDoor.Sx
