/- The plain law of worlds: what the program's check comes to. No condition. -/
import Derived.Test.YthcniadbdjoecaaPuKindsQ
namespace Go.Proofs.Ythcniadbdjoecaa.Q
open Go Go.RowKit Go.Proofs.Ythcniadbdjoecaa.Sx Classical
set_option linter.unusedVariables false
set_option linter.unusedSimpArgs false
def holdsP (k : api_Kind) (vs : List Int) : Prop := oneV k.Name k.Fields = 0 ∧ vs.length = k.Fields.length ∧ fitL k.Fields vs = vs
def heldFrom (ks : List api_Kind) : Int → List api_Comp → Prop
  | _, [] => True
  | last, c :: l => last < c.Kind ∧ (∃ k, 0 ≤ c.Kind ∧ ks[c.Kind.toNat]? = some k ∧ holdsP k c.Vals) ∧ heldFrom ks c.Kind l
def itemsFrom (ks : List api_Kind) (gens : List Int) : Int → List api_Item → Prop
  | _, [] => True
  | last, it :: l => last < it.Ent.N ∧ (0 ≤ it.Ent.N ∧ gens[it.Ent.N.toNat]? = some it.Ent.Gen) ∧ it.Ent.Gen ≠ 1073741824 ∧ heldFrom ks (-1) it.Comps ∧ itemsFrom ks gens it.Ent.N l
def gensOK (gens : List Int) : Prop := ∀ g ∈ gens, 0 ≤ g ∧ g ≤ 1073741824
noncomputable def wcheckV (ks : List api_Kind) (gens : List Int) (items : List api_Item) : Int :=
  if checkV ks = 0 then (if 256 < gens.length ∨ gens.length < items.length then 2 else if gensOK gens ∧ itemsFrom ks gens (-1) items then 0 else 3) else checkV ks
def fX : api_Field := api_Field.mk (⟨#[120]⟩) 3 (-2)
def fY : api_Field := api_Field.mk (⟨#[120]⟩) 8 0
def nPlace : ByteArray := ⟨#[112, 108, 97, 99, 101]⟩
def nLife : ByteArray := ⟨#[108, 105, 102, 101]⟩
def twoL : List api_Kind := [api_Kind.mk nPlace [fX], api_Kind.mk nLife [fY]]
theorem two_eq : tourlaw3_two = some twoL := rfl
theorem fX_ok : fieldB fX.Name fX.Bits fX.Low = true := by decide +kernel
theorem fY_ok : fieldB fY.Name fY.Bits fY.Low = true := by decide +kernel
theorem place_ok : oneV nPlace [fX] = 0 := by
  unfold oneV
  rw [if_pos (by decide +kernel), if_neg (by decide), show List.range [fX].length = [0] from rfl]
  have : oneG [fX] 0 = none := by rw [oneG_at (by decide)]; simp [fX_ok]
  simp [this]
theorem life_ok : oneV nLife [fY] = 0 := by
  unfold oneV
  rw [if_pos (by decide +kernel), if_neg (by decide), show List.range [fY].length = [0] from rfl]
  have : oneG [fY] 0 = none := by rw [oneG_at (by decide)]; simp [fY_ok]
  simp [this]
theorem two_ok : checkV twoL = 0 := by
  unfold checkV
  rw [if_neg (by decide), show List.range twoL.length = [0, 1] from rfl]
  have h0 : checkG twoL 0 = none := by rw [checkG_at (by decide)]; simp [twoL, place_ok]
  have h1 : checkG twoL 1 = none := by
    rw [checkG_at (by decide)]
    simp [twoL, life_ok]
    decide
  simp [h0, h1]
def pairItems : List api_Item := [(api_Item.mk (api_Ent.mk 0 0) [(api_Comp.mk 0 [4]), (api_Comp.mk 1 [9])]), (api_Item.mk (api_Ent.mk 1 2) [(api_Comp.mk 1 [7])])]
theorem pair_eq : tourlaw3_pair = some (twoL, [0, 2], pairItems) := rfl
theorem pair_items : itemsFrom twoL [0, 2] (-1) pairItems := by
  have p0 : twoL[(0 : Int).toNat]? = some (api_Kind.mk nPlace [fX]) := rfl
  have p1 : twoL[(1 : Int).toNat]? = some (api_Kind.mk nLife [fY]) := rfl
  refine ⟨by decide, ⟨by decide, rfl⟩, by decide, ⟨by decide, ⟨_, by decide, p0, place_ok, rfl, rfl⟩, by decide, ⟨_, by decide, p1, life_ok, rfl, rfl⟩, trivial⟩, by decide, ⟨by decide, rfl⟩, by decide, ⟨by decide, ⟨_, by decide, p1, life_ok, rfl, rfl⟩, trivial⟩, trivial⟩
theorem pair_ok : wcheckV twoL [0, 2] pairItems = 0 := by
  unfold wcheckV
  rw [if_pos two_ok, if_neg (by decide), if_pos ⟨by intro g hg; simp at hg; omega, pair_items⟩]
end Go.Proofs.Ythcniadbdjoecaa.Q
