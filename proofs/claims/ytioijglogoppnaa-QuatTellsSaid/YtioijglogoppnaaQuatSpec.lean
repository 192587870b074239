/- The plain law of quaternions: products, sums and numbers made even, in the program's and in the reference's words. No condition. -/
import Derived.Test.YtioijglogoppnaaDivSpec
namespace Go.Proofs.Ytioijglogoppnaa.Quats
open Go Go.Proofs.Ytioijglogoppnaa.Rnd Go.Proofs.Ytioijglogoppnaa.Nats Go.Proofs.Ytioijglogoppnaa.Trig Go.Proofs.Ytioijglogoppnaa.Root Go.Proofs.Ytioijglogoppnaa.Vecs Go.Proofs.Ytioijglogoppnaa.Divs
set_option linter.unusedVariables false
theorem getD_set_self {l : List Int} {k : Nat} {v : Int} (h : k < l.length) : (l.set k v).getD k 0 = v := by rw [getD_set, if_pos ⟨rfl, h⟩]
theorem thru_range (a b c : Int) : -1099511627776 ≤ thruV a b c ∧ thruV a b c ≤ 1099511627776 := by
  unfold thruV thru0
  split
  · decide
  · split
    · generalize (2 * ((clV a).natAbs * (clV b).natAbs) + (clV c).natAbs - 1) / (2 * (clV c).natAbs) = m; omega
    · generalize (2 * ((clV a).natAbs * (clV b).natAbs) + (clV c).natAbs) / (2 * (clV c).natAbs) = m; omega
theorem neg_cl (a : Int) : IntKind.i64.wrap (0 - clV a) = 0 - clV a := by have := clV_range a; exact i64in (by omega) (by omega)
theorem neg_mulV (a b : Int) : IntKind.i64.wrap (0 - mulV a b) = 0 - mulV a b := by have := thru_range a b 65536; exact i64in (by unfold mulV; omega) (by unfold mulV; omega)
/-! ### Lists that are filled place by place -/
def setK (f : Nat → Int) (n : Nat) : Nat → List Int
  | 0 => List.replicate n 0
  | k + 1 => (setK f n k).set k (f k)
theorem setK_ok (f : Nat → Int) (n : Nat) : ∀ {k : Nat}, k ≤ n → (setK f n k).length = n ∧ ∀ j, (setK f n k).getD j 0 = if j < k then f j else 0 := by
  intro k
  induction k with
  | zero => intro _; exact ⟨by simp [setK], fun j => by simp only [setK, List.getD, List.getElem?_replicate, Nat.not_lt_zero, if_false]; split <;> rfl⟩
  | succ k ih =>
    intro hk
    obtain ⟨h1, h2⟩ := ih (by omega)
    refine ⟨by simp [setK, h1], fun j => ?_⟩
    simp only [setK]
    rw [getD_set, h1, h2 j]
    by_cases e : k = j
    · subst e; rw [if_pos ⟨rfl, by omega⟩, if_pos (by omega)]
    · rw [if_neg (fun h => e h.1)]
      by_cases e2 : j < k
      · rw [if_pos e2, if_pos (by omega)]
      · rw [if_neg e2, if_neg (by omega)]
theorem setK_length (f : Nat → Int) {n k : Nat} (h : k ≤ n) : (setK f n k).length = n := (setK_ok f n h).1
theorem list_of_getD {l m : List Int} (hl : l.length = m.length) (h : ∀ j, j < l.length → l.getD j 0 = m.getD j 0) : l = m := by
  apply List.ext_getElem hl
  intro j a b
  have := h j a
  simpa only [List.getD, List.getElem?_eq_getElem a, List.getElem?_eq_getElem b, Option.getD_some] using this
def fillK (l : List Int) : Nat → List Int := setK (fun k => clV (l.getD k 0)) l.length
theorem fillK_all (l : List Int) : fillK l l.length = l.map clV := by
  obtain ⟨h1, h2⟩ := setK_ok (fun k => clV (l.getD k 0)) l.length (Nat.le_refl _)
  refine list_of_getD (by rw [List.length_map]; exact h1) fun j hj => ?_
  have hj' : j < l.length := by rw [← h1]; exact hj
  have := h2 j
  rw [if_pos hj'] at this
  rw [getD_map0 (by decide)]; exact this
/-! ### Scaled numbers -/
def scl (C : List Int) (s : Nat) : List Int := (C.map clV).map (fun x => x * (s : Int))
theorem scl_length (C : List Int) (s : Nat) : (scl C s).length = C.length := by simp [scl]
theorem scl_get (C : List Int) (s k : Nat) : (scl C s).getD k 0 = clV (C.getD k 0) * (s : Int) := by
  unfold scl; rw [getD_map0 (by simp), getD_map0 (by decide)]
theorem scl_one (C : List Int) : scl C 1 = C.map clV := by
  unfold scl; simp
theorem scl_two (C : List Int) (s : Nat) : (scl C s).map (fun x => x * 2) = scl C (2 * s) := by
  unfold scl
  rw [List.map_map]
  apply List.map_congr_left
  intro x _
  show x * (s : Int) * 2 = x * ((2 * s : Nat) : Int)
  rw [Int.mul_assoc]; congr 1; omega
theorem scl_scaled (C : List Int) : scl C (scaleV C) = scaled C := rfl
theorem twice_in {x : Int} {s : Nat} (h : x.natAbs * s ≤ 1073741824) : IntKind.i64.wrap (x * (s : Int) * 2) = x * (s : Int) * 2 := by
  have := abs_mul x s
  exact i64in (by omega) (by omega)
/-! ### Sums of four -/
def q4 (a b c d : Int) : Int := addV (addV (addV (addV 0 a) b) c) d
def sumK (l : List Int) : Nat → Int
  | 0 => 0
  | k + 1 => addV (sumK l k) (l.getD k 0)
def unitV (l : List Int) (i : Nat) : Int := if farK l l.length = 0 then (if i = 0 then 65536 else 0) else (evenV l).getD i 0
/-! ### The product by the table -/
def pls : List Int := [0, 1, 2, 3, 1, 0, 3, 2, 2, 3, 0, 1, 3, 2, 1, 0]
def sgs : List Int := [1, -1, -1, -1, 1, 1, 1, -1, 1, -1, 1, 1, 1, 1, -1, 1]
theorem pls_length : pls.length = 16 := rfl
theorem sgs_length : sgs.length = 16 := rfl
def plN (m : Nat) : Nat := (pls.getD m 0).toNat
theorem pls_nat : ∀ m, m < 16 → pls.getD m 0 = ((plN m : Nat) : Int) ∧ plN m < 4 := by decide
theorem sgs_one : ∀ m, m < 16 → sgs.getD m 0 = 1 ∨ sgs.getD m 0 = -1 := by decide
theorem sg_mul {m : Nat} (h : m < 16) (a b : Int) : IntKind.i64.wrap (sgs.getD m 0 * mulV a b) = sgs.getD m 0 * mulV a b := by
  have := thru_range a b 65536
  rcases sgs_one m h with e | e <;> rw [e] <;> exact i64in (by unfold mulV; omega) (by unfold mulV; omega)
def tk (X Y : List Int) (r : Nat) : Nat → Int
  | 0 => 0
  | k + 1 => addV (tk X Y r k) (sgs.getD (r * 4 + k) 0 * mulV (X.getD k 0) (Y.getD (plN (r * 4 + k)) 0))
def outL (X Y : List Int) (r k : Nat) : List Int := (List.range 4).map fun i => if i < r then tk X Y i 4 else if i = r then tk X Y r k else 0
theorem outL_length (X Y : List Int) (r k : Nat) : (outL X Y r k).length = 4 := by simp [outL]
theorem outL_get {X Y : List Int} {r k j : Nat} (hj : j < 4) : (outL X Y r k).getD j 0 = if j < r then tk X Y j 4 else if j = r then tk X Y r k else 0 := by
  unfold outL
  simp [List.getD, hj]
theorem outL_row {X Y : List Int} {r k : Nat} (hr : r < 4) : (outL X Y r k).getD r 0 = tk X Y r k := by
  rw [outL_get hr, if_neg (by omega), if_pos rfl]
theorem outL_step {X Y : List Int} {r k : Nat} (hr : r < 4) : outL X Y r (k + 1) = (outL X Y r k).set r (tk X Y r (k + 1)) := by
  refine list_of_getD (by simp [outL_length]) fun j hj => ?_
  rw [outL_length] at hj
  rw [getD_set, outL_get hj, outL_get hj, outL_length]
  by_cases e : r = j
  · subst e; simp [hr]
  · have e' : ¬ j = r := fun h => e h.symm
    by_cases e2 : j < r <;> simp [e, e', e2]
theorem outL_next {X Y : List Int} {r : Nat} (hr : r < 4) : outL X Y r 4 = outL X Y (r + 1) 0 := by
  refine list_of_getD (by simp [outL_length]) fun j hj => ?_
  rw [outL_length] at hj
  rw [outL_get hj, outL_get hj]
  by_cases e : j < r
  · rw [if_pos e, if_pos (by omega)]
  · by_cases e2 : j = r
    · subst e2; rw [if_neg (by omega), if_pos rfl, if_pos (by omega)]
    · rw [if_neg e, if_neg e2, if_neg (by omega)]
      split <;> rfl
theorem tk0 (a b c d e f g h : Int) : tk [a, b, c, d] [e, f, g, h] 0 4 = q4 (mulV a e) (0 - mulV b f) (0 - mulV c g) (0 - mulV d h) := by
  show addV (addV (addV (addV 0 (1 * mulV a e)) ((-1) * mulV b f)) ((-1) * mulV c g)) ((-1) * mulV d h) = _
  simp only [Int.one_mul, Int.neg_mul, Int.zero_sub, q4]
theorem tk1 (a b c d e f g h : Int) : tk [a, b, c, d] [e, f, g, h] 1 4 = q4 (mulV a f) (mulV b e) (mulV c h) (0 - mulV d g) := by
  show addV (addV (addV (addV 0 (1 * mulV a f)) (1 * mulV b e)) (1 * mulV c h)) ((-1) * mulV d g) = _
  simp only [Int.one_mul, Int.neg_mul, Int.zero_sub, q4]
theorem tk2 (a b c d e f g h : Int) : tk [a, b, c, d] [e, f, g, h] 2 4 = q4 (mulV a g) (0 - mulV b h) (mulV c e) (mulV d f) := by
  show addV (addV (addV (addV 0 (1 * mulV a g)) ((-1) * mulV b h)) (1 * mulV c e)) (1 * mulV d f) = _
  simp only [Int.one_mul, Int.neg_mul, Int.zero_sub, q4]
theorem tk3 (a b c d e f g h : Int) : tk [a, b, c, d] [e, f, g, h] 3 4 = q4 (mulV a h) (mulV b g) (0 - mulV c f) (mulV d e) := by
  show addV (addV (addV (addV 0 (1 * mulV a h)) (1 * mulV b g)) ((-1) * mulV c f)) (1 * mulV d e) = _
  simp only [Int.one_mul, Int.neg_mul, Int.zero_sub, q4]
def dk (X Y : List Int) : Nat → Int
  | 0 => 0
  | k + 1 => addV (dk X Y k) (mulV (X.getD k 0) (Y.getD k 0))
theorem sum4 (p q r s : Int) : sumK [p, q, r, s] 4 = q4 p q r s := by
  unfold q4
  simp only [sumK]
  simp [List.getD]
theorem dk4 (a b c d e f g h : Int) : dk [a, b, c, d] [e, f, g, h] 4 = q4 (mulV a e) (mulV b f) (mulV c g) (mulV d h) := by
  unfold q4
  simp only [dk]
  simp [List.getD]
theorem outL_end (X Y : List Int) {j : Nat} (hj : j < 4) : (outL X Y 4 0).getD j 0 = tk X Y j 4 := (outL_get hj).trans (if_pos hj)
theorem unit_far {l : List Int} (i : Nat) (h : 0 < farK l l.length) : (evenV l).getD i 0 = unitV l i := by
  unfold unitV; rw [if_neg (by omega)]
theorem setK_end (f : Nat → Int) {j : Nat} (hj : j < 4) : (setK f 4 4).getD j 0 = f j := ((setK_ok f 4 (Nat.le_refl 4)).2 j).trans (if_pos hj)
end Go.Proofs.Ytioijglogoppnaa.Quats
