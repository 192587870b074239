/-
  DERIVED. GIVEN WITH THE SEED: THE CARDS: each row of YtbfndcookgijfaaGreatDoorRows.lean that lists a variable, with what it lists TIED to the program's text (the seventh form; the later family's looks); each row that meets fmt, with fmt's text TOLD by the authors' own Lean function (tested against real Go, not proved from fmt's source: count such statements apart). THE CARD IS WHAT COUNTS. Prove the row's statement (the work); the ties are given (YtbfndcookgijfaaGreatDoorTie.lean); close each card by the builder's one call (the guide's Derived/Test/ToyasCard.lean, 'card_holds'). Laid BY PROGRAM, IN A SANDBOX (cutbox-door.mjs). By AI agents, Wed Nov 11 2026. No macro, syntax, notation, axiom, sorry.
-/
import Derived.Test.YtbfndcookgijfaaGreatDoorRows
import GoSem.ClaimSeven
namespace Go.Proofs.YtbfndcookgijfaaGreatDoor
namespace Rows

/-- THE TIED CARD OF 'tourlaw3.WorldSpawns'. -/
def worldSpawnsCard : Claim7 := { stood := { row := worldSpawnsRow, standIns := [], harness := (true, "457d70439658630a9a56b8a2944fa66c89e835320bbc415130bed46a5a1013ee"), looks := false }, kinds := [], alts := [], laidByText := true, laidKinds := [.data, .pinned], laidTests := true, laidLooks := .later }
def WorldSpawnsCardSaid : Prop := Claim7.holds Tryz.pinned (.plain (OpenSpec.ofChange worldSpawnsSpec)) worldSpawnsCard

/-- THE TIED CARD OF 'tourlaw3.WorldChanges'. -/
def worldChangesCard : Claim7 := { stood := { row := worldChangesRow, standIns := [], harness := (true, "457d70439658630a9a56b8a2944fa66c89e835320bbc415130bed46a5a1013ee"), looks := false }, kinds := [], alts := [], laidByText := true, laidKinds := [.data, .pinned], laidTests := true, laidLooks := .later }
def WorldChangesCardSaid : Prop := Claim7.holds Tryz.pinned (.plain (OpenSpec.ofChange worldChangesSpec)) worldChangesCard

/-- THE SECOND FORM's CARD OF 'tourlaw3.WorldSpawns'. -/
def worldSpawnsUptoCard : Claim7 := { stood := { row := worldSpawnsUptoRow, standIns := [], harness := (true, "457d70439658630a9a56b8a2944fa66c89e835320bbc415130bed46a5a1013ee"), looks := false }, kinds := [], alts := [], laidByText := true, laidKinds := [.data, .pinned], laidTests := true, laidLooks := .later }
def WorldSpawnsUptoCardSaid : Prop := Claim7.holds Tryz.pinned (.plain (OpenSpec.upto worldSpawnsSpec)) worldSpawnsUptoCard

/-- THE SECOND FORM's CARD OF 'tourlaw3.WorldChanges'. -/
def worldChangesUptoCard : Claim7 := { stood := { row := worldChangesUptoRow, standIns := [], harness := (true, "457d70439658630a9a56b8a2944fa66c89e835320bbc415130bed46a5a1013ee"), looks := false }, kinds := [], alts := [], laidByText := true, laidKinds := [.data, .pinned], laidTests := true, laidLooks := .later }
def WorldChangesUptoCardSaid : Prop := Claim7.holds Tryz.pinned (.plain (OpenSpec.upto worldChangesSpec)) worldChangesUptoCard
end Rows
end Go.Proofs.YtbfndcookgijfaaGreatDoor
