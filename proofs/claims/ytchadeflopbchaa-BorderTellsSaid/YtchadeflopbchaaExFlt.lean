/- Floating-point numbers as words of bits, and calls of functions that have no body in Go. No condition. -/
import Derived.Test.YtchadeflopbchaaSxOps
import Derived.Laws.FloatArith
import Derived.Laws.Externs
namespace Go.Proofs.Ytchadeflopbchaa.Sx
open Go Go.RowKit
set_option linter.unusedVariables false
set_option linter.unusedSimpArgs false
def feql (x y : Nat) : Bool := FloatKind.f64.format.order x y == some Ordering.eq
def fneq (x y : Nat) : Bool := FloatKind.f64.format.order x y != some Ordering.eq
def flss (x y : Nat) : Bool := FloatKind.f64.format.order x y == some Ordering.lt
def fleq (x y : Nat) : Bool := FloatKind.f64.format.order x y == some Ordering.lt || FloatKind.f64.format.order x y == some Ordering.eq
def fgtr (x y : Nat) : Bool := FloatKind.f64.format.order x y == some Ordering.gt
def fgeq (x y : Nat) : Bool := FloatKind.f64.format.order x y == some Ordering.gt || FloatKind.f64.format.order x y == some Ordering.eq
abbrev fneg (x : Nat) : Nat := Op.negFloat .f64 x
def ftrunc (x : Nat) : Option Nat := match FloatKind.f64.decode x with
  | .nan _ _ => none
  | d => some (FloatKind.f64.encode (d.integral .zero))
theorem run_trunc {P : Program} {x r : Nat} (h : ftrunc x = some r) (w : World) : (Extern.MathFloor.toIntegral "math.archTrunc" .zero #[.float .f64 x]).run P w = .ok (.float .f64 r) w := by
  unfold ftrunc at h
  cases hd : FloatKind.f64.decode x with
  | nan s t => rw [hd] at h; cases h
  | number s m e =>
    rw [hd] at h; cases h
    show ((match FloatKind.f64.decode x with
      | .nan s t =>
        if FloatKind.f64.format.quiet t = t then pure (.float .f64 x) else do
        let kept ← choose (.extern "math.Floor,Ceil,Trunc,RoundToEven.signallingNaN kept" 2)
        pure (.float .f64 (if kept == 1 then x else FloatKind.f64.encode (.nan s (FloatKind.f64.format.quiet t))))
      | d => pure (.float .f64 (FloatKind.f64.encode (d.integral .zero))) : Sem Value)).run P w = _
    rw [hd]; rfl
  | infinity s =>
    rw [hd] at h; cases h
    show ((match FloatKind.f64.decode x with
      | .nan s t =>
        if FloatKind.f64.format.quiet t = t then pure (.float .f64 x) else do
        let kept ← choose (.extern "math.Floor,Ceil,Trunc,RoundToEven.signallingNaN kept" 2)
        pure (.float .f64 (if kept == 1 then x else FloatKind.f64.encode (.nan s (FloatKind.f64.format.quiet t))))
      | d => pure (.float .f64 (FloatKind.f64.encode (d.integral .zero))) : Sem Value)).run P w = _
    rw [hd]; rfl
section
variable {P : Program} {l : Slots} {x y : Operand} {t t' : TypeId} {a b : Nat}
theorem run_flt {op : BinOp} {r : Nat} (hx : ev l x = .float .f64 a) (hy : ev l y = .float .f64 b) (h : floatBits op .f64 a b = some r) : ∀ (o : Oper) (w : World), o.op = .binOp op t x y t' → (execOp (ev l) o).run P w = .ok (.value (.float .f64 r)) w := by
  intro o w ho
  have hr := run_float_arith (P := P) w op t .f64 a b r h
  unfold floatBits at h
  cases op <;> simp only at h <;> first | (cases h; done) | skip
  all_goals simp [execOp, ho, hx, hy, eqGuard, hr]
theorem run_fint {src dst : TypeId} {u : TypeDesc} {k : IntKind} {n : Int} (hs : P.underlying src = some u) (hd : P.underlying dst = some (.int k)) (hx : ev l x = .float .f64 a) (h : floatToIntVal .f64 a k = some n) : ∀ (o : Oper) (w : World), o.op = .convert src dst x → (execOp (ev l) o).run P w = .ok (.value (.int k n)) w := by
  intro o w ho
  have hr := run_convert_float_int (P := P) w src dst .f64 k a n (by rw [hs]; rfl) hd h
  simp only [execOp, ho, hx, Sem.run_bind, Sem.run_pure, Result.andThen_ok, hr]
theorem run_ext {v v0 : Value} {x : Operand} {ts : Array TypeId} {f : FuncId} {fn : Func} {e : Array Value → Sem Value} (hx : ev l x = v0) (hf : P.funcs[f]? = some fn) (hname : (fn.name == "runtime.NumGoroutine") = false)
    (hb : fn.body.isNone = true) (hn : Extern.findNext fn = none) (he : Extern.find fn = some e) (hr : ∀ w, (e #[v0]).run P w = .ok v w) :
    ∀ (o : Oper) (w : World), o.op = .call { callee := .value (.func f), args := #[x], argTypes := ts } → (execOp (ev l) o).run P w = .ok (.value v) w := by
  intro o w ho
  have hc := run_callFunc_extern hf hname hb hn he #[v0] w
  rw [hr w] at hc
  have hc' : (callFunc f #[v0]).run P w = .ok (.value v) w := hc
  have hv : ev l (.func f) = .func (.func f) #[] #[] := rfl
  simp only [execOp, ho, resolve, Deferred.ofValue, hv, invoke, Sem.run_bind, Sem.run_pure, Result.andThen_ok, List.map_toArray, List.map_cons, List.map_nil, hx, Array.append_empty, Array.empty_append]
  exact hc'
end
section
variable {P : Program} {ro : Option Nat} {n : NT} {Q : Exit → Act → World → Prop}
theorem st_trueC {x y : Code} {l : Slots} {M : World → Prop} (k : St P ro n x Q l M) : St P ro n (.cond (.const (.bool true)) x y) Q l M :=
  fun a w hk hM => wpIn_cond_true (by simp [Act.eval]) (k a w hk hM)
theorem st_falseC {x y : Code} {l : Slots} {M : World → Prop} (k : St P ro n y Q l M) : St P ro n (.cond (.const (.bool false)) x y) Q l M :=
  fun a w hk hM => wpIn_cond_false (by simp [Act.eval]) (k a w hk hM)
end
end Go.Proofs.Ytchadeflopbchaa.Sx
