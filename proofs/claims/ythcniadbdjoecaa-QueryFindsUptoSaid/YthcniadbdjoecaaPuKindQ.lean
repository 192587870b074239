/- The plain law of names and fields: what the program's test and the reference's come to. No condition. -/
import Derived.Test.YthcniadbdjoecaaFnQ
import Derived.Test.YthcniadbdjoecaaPu
namespace Go.Proofs.Ythcniadbdjoecaa.Q
open Go Go.RowKit Go.Proofs.Ythcniadbdjoecaa.Sx
set_option linter.unusedVariables false
set_option linter.unusedSimpArgs false
def okc (c : UInt8) : Bool := (decide (97 ≤ c.toNat) && decide (c.toNat ≤ 122)) || (decide (48 ≤ c.toNat) && decide (c.toNat ≤ 57))
def nameL (l : List UInt8) : Bool := decide (0 < l.length) && decide (l.length ≤ 16) && l.all okc && decide (∀ c, l[0]? = some c → 57 < c.toNat)
abbrev nameB (s : ByteArray) : Bool := nameL s.data.toList
/-- What a round of the program's test asks of a byte. -/
def kc (i : Nat) (c : UInt8) : Bool := (decide (97 ≤ c.toNat) && decide (c.toNat ≤ 122)) || (decide (0 < i) && (decide (48 ≤ c.toNat) && decide (c.toNat ≤ 57)))
theorem all_zip (l : List UInt8) : ∀ i, 0 < i → (l.zipIdx i).all (fun p => kc p.2 p.1) = l.all okc := by
  induction l with
  | nil => intro i _; rfl
  | cons c l ih => intro i hi; rw [List.zipIdx_cons, List.all_cons, List.all_cons, ih (i + 1) (by omega)]; simp [kc, okc, hi]
theorem nameL_eq (l : List UInt8) (h0 : 0 < l.length) (h1 : l.length ≤ 16) : nameL l = (l.zipIdx 0).all (fun p => kc p.2 p.1) := by
  cases l with
  | nil => simp at h0
  | cons c l =>
    rw [List.zipIdx_cons, List.all_cons, all_zip l 1 (by omega)]
    unfold nameL
    simp only [List.all_cons, List.getElem?_cons_zero, Option.some.injEq, forall_eq', h0, h1, decide_true, Bool.true_and]
    unfold kc okc
    by_cases h2 : 97 ≤ c.toNat <;> by_cases h3 : c.toNat ≤ 122 <;> by_cases h4 : 48 ≤ c.toNat <;> by_cases h5 : c.toNat ≤ 57 <;> by_cases h6 : 57 < c.toNat <;> simp [h2, h3, h4, h5, h6] <;> omega
def set36 : List UInt8 := [97, 98, 99, 100, 101, 102, 103, 104, 105, 106, 107, 108, 109, 110, 111, 112, 113, 114, 115, 116, 117, 118, 119, 120, 121, 122, 48, 49, 50, 51, 52, 53, 54, 55, 56, 57]
theorem set_has (c : UInt8) : set36.contains c = okc c := by
  have h : ∀ n : Fin 256, set36.contains (UInt8.ofNat n.1) = okc (UInt8.ofNat n.1) := by decide +kernel
  have := h ⟨c.toNat, c.toNat_lt⟩
  simpa using this
theorem dropAll (l : List UInt8) (p : UInt8 → Bool) : l.dropWhile p = [] ↔ l.all p = true := by
  induction l with
  | nil => simp
  | cons c l ih => rw [List.dropWhile_cons, List.all_cons]; cases h : p c <;> simp [ih]
theorem trim_nil (l : List UInt8) : trimB l set36 = [] ↔ l.all okc = true := by
  unfold trimB
  have e : (fun x => set36.contains x) = okc := funext set_has
  rw [e, dropAll]
  constructor
  · intro h
    have : (l.reverse.dropWhile okc) = [] := by
      cases hd : l.reverse.dropWhile okc with
      | nil => rfl
      | cons c r =>
        exfalso
        rw [hd] at h
        have hc : okc c = true := by rw [List.all_eq_true] at h; exact h c (by simp)
        have hne : l.reverse.dropWhile okc ≠ [] := by rw [hd]; simp
        have := List.head_dropWhile_not okc hne
        simp only [hd, List.head_cons] at this
        rw [hc] at this; cases this
    rw [dropAll] at this
    simpa using this
  · intro h
    have : l.reverse.dropWhile okc = [] := by rw [dropAll]; simpa using h
    rw [this]; rfl
def fieldB (nm : ByteArray) (b l : Int) : Bool := nameB nm && decide (1 ≤ b) && decide (b ≤ 32) && decide (-4294967296 ≤ l) && decide (l ≤ 4294967296)
def topV (b l : Int) : Int := l + (2 ^ b.toNat - 1)
theorem pow_le {n : Nat} (h : n ≤ 32) : (2 : Int) ^ n ≤ 4294967296 := by
  have : (2 : Nat) ^ n ≤ 2 ^ 32 := Nat.pow_le_pow_right (by omega) h
  have h2 : ((2 ^ n : Nat) : Int) = (2 : Int) ^ n := by norm_cast
  omega
theorem pow_ge (n : Nat) : (1 : Int) ≤ (2 : Int) ^ n := by
  have : 0 < (2 : Nat) ^ n := Nat.two_pow_pos n
  have h2 : ((2 ^ n : Nat) : Int) = (2 : Int) ^ n := by norm_cast
  omega
theorem fieldB_b {nm : ByteArray} {b l : Int} (h : fieldB nm b l = true) : 1 ≤ b ∧ b ≤ 32 ∧ -4294967296 ≤ l ∧ l ≤ 4294967296 := by
  unfold fieldB at h
  simp only [Bool.and_eq_true, decide_eq_true_eq] at h
  omega
def nearV (b l v : Int) : Int := max l (min v (topV b l))
end Go.Proofs.Ythcniadbdjoecaa.Q
