/-
  DERIVED. GIVEN WITH THE SEED: THE CARDS: each row of YtnnhijlgohlaeaaDoorRows.lean that lists a variable, with what it lists TIED to the program's text (the seventh form; the later family's looks); each row that meets fmt, with fmt's text TOLD by the authors' own Lean function (tested against real Go, not proved from fmt's source: count such statements apart). THE CARD IS WHAT COUNTS. Prove the row's statement (the work); the ties are given (YtnnhijlgohlaeaaDoorTie.lean); close each card by the builder's one call (the guide's Derived/Test/ToyasCard.lean, 'card_holds'). Laid BY PROGRAM, IN A SANDBOX (cutbox-door.mjs). By AI agents, Wed Nov 11 2026. No macro, syntax, notation, axiom, sorry.
-/
import Derived.Test.YtnnhijlgohlaeaaDoorRows
import GoSem.ClaimSeven
namespace Go.Proofs.YtnnhijlgohlaeaaDoor
namespace Rows

/-- THE TIED CARD OF 'tourlaw3.MigrateBack'. -/
def migrateBackCard : Claim7 := { stood := { row := migrateBackRow, standIns := [], harness := (true, "931e4c1a8315e09921ad64e14b150824aded6e39e269db02ece23bba6baaefa6"), looks := false }, kinds := [], alts := [], laidByText := true, laidKinds := [.data, .pinned], laidTests := true, laidLooks := .later }
def MigrateBackCardSaid : Prop := Claim7.holds Tryd.pinned (.plain (OpenSpec.ofChange migrateBackSpec)) migrateBackCard

/-- THE TIED CARD OF 'tourlaw3.MigrateWorlds'. -/
def migrateWorldsCard : Claim7 := { stood := { row := migrateWorldsRow, standIns := [], harness := (true, "931e4c1a8315e09921ad64e14b150824aded6e39e269db02ece23bba6baaefa6"), looks := false }, kinds := [], alts := [], laidByText := true, laidKinds := [.data, .pinned], laidTests := true, laidLooks := .later }
def MigrateWorldsCardSaid : Prop := Claim7.holds Tryd.pinned (.plain (OpenSpec.ofChange migrateWorldsSpec)) migrateWorldsCard

/-- THE TIED CARD OF 'tourlaw3.MarkChanges'. -/
def markChangesCard : Claim7 := { stood := { row := markChangesRow, standIns := [], harness := (true, "931e4c1a8315e09921ad64e14b150824aded6e39e269db02ece23bba6baaefa6"), looks := false }, kinds := [], alts := [], laidByText := true, laidKinds := [.data, .pinned], laidTests := true, laidLooks := .later }
def MarkChangesCardSaid : Prop := Claim7.holds Tryd.pinned (.plain (OpenSpec.ofChange markChangesSpec)) markChangesCard

/-- THE TIED CARD OF 'tourlaw3.SaveWrites'. -/
def saveWritesCard : Claim7 := { stood := { row := saveWritesRow, standIns := [], harness := (true, "931e4c1a8315e09921ad64e14b150824aded6e39e269db02ece23bba6baaefa6"), looks := false }, kinds := [], alts := [], laidByText := true, laidKinds := [.data, .pinned], laidTests := true, laidLooks := .later }
def SaveWritesCardSaid : Prop := Claim7.holds Tryd.pinned (.plain (OpenSpec.ofChange saveWritesSpec)) saveWritesCard

/-- THE TIED CARD OF 'tourlaw3.SystemChecks'. -/
def systemChecksCard : Claim7 := { stood := { row := systemChecksRow, standIns := [], harness := (true, "931e4c1a8315e09921ad64e14b150824aded6e39e269db02ece23bba6baaefa6"), looks := false }, kinds := [], alts := [], laidByText := true, laidKinds := [.data, .pinned], laidTests := true, laidLooks := .later }
def SystemChecksCardSaid : Prop := Claim7.holds Tryd.pinned (.plain (OpenSpec.ofChange systemChecksSpec)) systemChecksCard

/-- THE SECOND FORM's CARD OF 'tourlaw3.MigrateBack'. -/
def migrateBackUptoCard : Claim7 := { stood := { row := migrateBackUptoRow, standIns := [], harness := (true, "931e4c1a8315e09921ad64e14b150824aded6e39e269db02ece23bba6baaefa6"), looks := false }, kinds := [], alts := [], laidByText := true, laidKinds := [.data, .pinned], laidTests := true, laidLooks := .later }
def MigrateBackUptoCardSaid : Prop := Claim7.holds Tryd.pinned (.plain (OpenSpec.upto migrateBackSpec)) migrateBackUptoCard

/-- THE SECOND FORM's CARD OF 'tourlaw3.MigrateWorlds'. -/
def migrateWorldsUptoCard : Claim7 := { stood := { row := migrateWorldsUptoRow, standIns := [], harness := (true, "931e4c1a8315e09921ad64e14b150824aded6e39e269db02ece23bba6baaefa6"), looks := false }, kinds := [], alts := [], laidByText := true, laidKinds := [.data, .pinned], laidTests := true, laidLooks := .later }
def MigrateWorldsUptoCardSaid : Prop := Claim7.holds Tryd.pinned (.plain (OpenSpec.upto migrateWorldsSpec)) migrateWorldsUptoCard

/-- THE SECOND FORM's CARD OF 'tourlaw3.MarkChanges'. -/
def markChangesUptoCard : Claim7 := { stood := { row := markChangesUptoRow, standIns := [], harness := (true, "931e4c1a8315e09921ad64e14b150824aded6e39e269db02ece23bba6baaefa6"), looks := false }, kinds := [], alts := [], laidByText := true, laidKinds := [.data, .pinned], laidTests := true, laidLooks := .later }
def MarkChangesUptoCardSaid : Prop := Claim7.holds Tryd.pinned (.plain (OpenSpec.upto markChangesSpec)) markChangesUptoCard

/-- THE SECOND FORM's CARD OF 'tourlaw3.SaveWrites'. -/
def saveWritesUptoCard : Claim7 := { stood := { row := saveWritesUptoRow, standIns := [], harness := (true, "931e4c1a8315e09921ad64e14b150824aded6e39e269db02ece23bba6baaefa6"), looks := false }, kinds := [], alts := [], laidByText := true, laidKinds := [.data, .pinned], laidTests := true, laidLooks := .later }
def SaveWritesUptoCardSaid : Prop := Claim7.holds Tryd.pinned (.plain (OpenSpec.upto saveWritesSpec)) saveWritesUptoCard

/-- THE SECOND FORM's CARD OF 'tourlaw3.SystemChecks'. -/
def systemChecksUptoCard : Claim7 := { stood := { row := systemChecksUptoRow, standIns := [], harness := (true, "931e4c1a8315e09921ad64e14b150824aded6e39e269db02ece23bba6baaefa6"), looks := false }, kinds := [], alts := [], laidByText := true, laidKinds := [.data, .pinned], laidTests := true, laidLooks := .later }
def SystemChecksUptoCardSaid : Prop := Claim7.holds Tryd.pinned (.plain (OpenSpec.upto systemChecksSpec)) systemChecksUptoCard
end Rows
end Go.Proofs.YtnnhijlgohlaeaaDoor
