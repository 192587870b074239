/- Bytes of a text, as a slice; results that are frozen at once. No condition. -/
import Derived.Test.YtbfndcookgijfaaExMem
import Derived.Lib.Strings
import Derived.Laws.IdiomStrings
namespace Go.Proofs.Ytbfndcookgijfaa.Sx
open Go Go.RowKit
set_option linter.unusedVariables false
set_option linter.unusedSimpArgs false
section
variable {w0 w : World} {cs : List Chunk} {F : Nat → Prop} {wF : World}
end
section
variable {P : Program} {ro : Option Nat} {n : NT} {ops : Array Oper} {Q : Exit → Act → World → Prop} {S : World → Prop}
/-- The text of some bytes. -/
def strOf (l : List Int) : ByteArray := l.foldl (fun r n => r.push (UInt8.ofNat n.toNat)) ByteArray.empty
theorem conv_str {P : Program} {F : Nat → Prop} {w : World} {A : Option Addr} {c : Nat} {l : List Int} {src dst e : TypeId} (h : RdS (Rep.int .u8) F w A c l) (hs : P.underlying src = some (.slice e)) (he : P.underlying e = some (.int .u8)) (hd : P.underlying dst = some .string) :
    (convert src dst (.slice A l.length c)).run P w = .ok (.string (strOf l)) w := by
  rw [run_convert_bytes_string w src dst e A l.length c hs he hd]
  cases A with
  | none =>
    have h0 := h.nil rfl
    have h1 := h.cap
    obtain rfl : l = [] := List.eq_nil_of_length_eq_zero (by omega)
    simp [Conv.bytesToString, strOf]
  | some a =>
    refine run_bytesToString w a l.length c l ?_
    have hl := run_loadCells_list (P := P) (w := w) a (l.map (Value.int .u8)) (fun j v hj => by
      rw [List.getElem?_map] at hj
      obtain ⟨x, hx, rfl⟩ := Option.map_eq_some_iff.1 hj
      obtain ⟨ad, vs, hA, _, hr, hc⟩ := h.at_ j x hx
      obtain rfl := Option.some.inj hA
      obtain rfl : vs = [.int .u8 x] := hr
      have h2 := hc 0 _ rfl
      have hz : (Rep.int .u8).z = 1 := rfl
      rw [hz, Nat.mul_one, show (a.add j).add 0 = a.add j from (if_pos rfl : (if (0 : Nat) = 0 then a.add j else _) = _)] at h2
      exact h2)
    rw [List.length_map] at hl
    exact hl
theorem run_convV {l : Slots} {x : Operand} {src dst : TypeId} {s v : Value} {w w' : World} (hx : ev l x = s) (h : (convert src dst s).run P w = .ok v w') : ∀ (o : Oper), o.op = .convert src dst x → (execOp (ev l) o).run P w = .ok (.value v) w' := by
  intro o ho; simp [execOp, ho, hx, h]
end
end Go.Proofs.Ytbfndcookgijfaa.Sx
