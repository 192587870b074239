/-
  DERIVED. GIVEN WITH THE SEED: THE CARDS: each row of YthcbepikeinglaaDoorRows.lean that lists a variable, with what it lists TIED to the program's text (the seventh form; the later family's looks); each row that meets fmt, with fmt's text TOLD by the authors' own Lean function (tested against real Go, not proved from fmt's source: count such statements apart). THE CARD IS WHAT COUNTS. Prove the row's statement (the work); the ties are given (YthcbepikeinglaaDoorTie.lean); close each card by the builder's one call (the guide's Derived/Test/ToyasCard.lean, 'card_holds'). Laid BY PROGRAM, IN A SANDBOX (cutbox-door.mjs). By AI agents, Wed Nov 11 2026. No macro, syntax, notation, axiom, sorry.
-/
import Derived.Test.YthcbepikeinglaaDoorRows
import GoSem.ClaimSeven
namespace Go.Proofs.YthcbepikeinglaaDoor
namespace Rows

/-- THE TIED CARD OF 'tourlaw3.KindRanges'. -/
def kindRangesCard : Claim7 := { stood := { row := kindRangesRow, standIns := [], harness := (true, "c2c144c7a3805df09cc3d75fa55a983e9ca30dd43491aea8173bc2d00fb6175a"), looks := false }, kinds := [], alts := [], laidByText := true, laidKinds := [.data, .pinned], laidTests := true, laidLooks := .later }
def KindRangesCardSaid : Prop := Claim7.holds Tryd.pinned (.plain (OpenSpec.ofChange kindRangesSpec)) kindRangesCard

/-- THE TIED CARD OF 'tourlaw3.KindSays'. -/
def kindSaysCard : Claim7 := { stood := { row := kindSaysRow, standIns := [], harness := (true, "c2c144c7a3805df09cc3d75fa55a983e9ca30dd43491aea8173bc2d00fb6175a"), looks := false }, kinds := [], alts := [], laidByText := true, laidKinds := [.data, .pinned], laidTests := true, laidLooks := .later }
def KindSaysCardSaid : Prop := Claim7.holds Tryd.pinned (.plain (OpenSpec.ofChange kindSaysSpec)) kindSaysCard

/-- THE TIED CARD OF 'tourlaw3.MigrateBack'. -/
def migrateBackCard : Claim7 := { stood := { row := migrateBackRow, standIns := [], harness := (true, "c2c144c7a3805df09cc3d75fa55a983e9ca30dd43491aea8173bc2d00fb6175a"), looks := false }, kinds := [], alts := [], laidByText := true, laidKinds := [.data, .pinned], laidTests := true, laidLooks := .later }
def MigrateBackCardSaid : Prop := Claim7.holds Tryd.pinned (.plain (OpenSpec.ofChange migrateBackSpec)) migrateBackCard

/-- THE TIED CARD OF 'tourlaw3.WorldChecks'. -/
def worldChecksCard : Claim7 := { stood := { row := worldChecksRow, standIns := [], harness := (true, "c2c144c7a3805df09cc3d75fa55a983e9ca30dd43491aea8173bc2d00fb6175a"), looks := false }, kinds := [], alts := [], laidByText := true, laidKinds := [.data, .pinned], laidTests := true, laidLooks := .later }
def WorldChecksCardSaid : Prop := Claim7.holds Tryd.pinned (.plain (OpenSpec.ofChange worldChecksSpec)) worldChecksCard

/-- THE TIED CARD OF 'tourlaw3.MarkChanges'. -/
def markChangesCard : Claim7 := { stood := { row := markChangesRow, standIns := [], harness := (true, "c2c144c7a3805df09cc3d75fa55a983e9ca30dd43491aea8173bc2d00fb6175a"), looks := false }, kinds := [], alts := [], laidByText := true, laidKinds := [.data, .pinned], laidTests := true, laidLooks := .later }
def MarkChangesCardSaid : Prop := Claim7.holds Tryd.pinned (.plain (OpenSpec.ofChange markChangesSpec)) markChangesCard

/-- THE SECOND FORM's CARD OF 'tourlaw3.KindRanges'. -/
def kindRangesUptoCard : Claim7 := { stood := { row := kindRangesUptoRow, standIns := [], harness := (true, "c2c144c7a3805df09cc3d75fa55a983e9ca30dd43491aea8173bc2d00fb6175a"), looks := false }, kinds := [], alts := [], laidByText := true, laidKinds := [.data, .pinned], laidTests := true, laidLooks := .later }
def KindRangesUptoCardSaid : Prop := Claim7.holds Tryd.pinned (.plain (OpenSpec.upto kindRangesSpec)) kindRangesUptoCard

/-- THE SECOND FORM's CARD OF 'tourlaw3.KindSays'. -/
def kindSaysUptoCard : Claim7 := { stood := { row := kindSaysUptoRow, standIns := [], harness := (true, "c2c144c7a3805df09cc3d75fa55a983e9ca30dd43491aea8173bc2d00fb6175a"), looks := false }, kinds := [], alts := [], laidByText := true, laidKinds := [.data, .pinned], laidTests := true, laidLooks := .later }
def KindSaysUptoCardSaid : Prop := Claim7.holds Tryd.pinned (.plain (OpenSpec.upto kindSaysSpec)) kindSaysUptoCard

/-- THE SECOND FORM's CARD OF 'tourlaw3.MigrateBack'. -/
def migrateBackUptoCard : Claim7 := { stood := { row := migrateBackUptoRow, standIns := [], harness := (true, "c2c144c7a3805df09cc3d75fa55a983e9ca30dd43491aea8173bc2d00fb6175a"), looks := false }, kinds := [], alts := [], laidByText := true, laidKinds := [.data, .pinned], laidTests := true, laidLooks := .later }
def MigrateBackUptoCardSaid : Prop := Claim7.holds Tryd.pinned (.plain (OpenSpec.upto migrateBackSpec)) migrateBackUptoCard

/-- THE SECOND FORM's CARD OF 'tourlaw3.WorldChecks'. -/
def worldChecksUptoCard : Claim7 := { stood := { row := worldChecksUptoRow, standIns := [], harness := (true, "c2c144c7a3805df09cc3d75fa55a983e9ca30dd43491aea8173bc2d00fb6175a"), looks := false }, kinds := [], alts := [], laidByText := true, laidKinds := [.data, .pinned], laidTests := true, laidLooks := .later }
def WorldChecksUptoCardSaid : Prop := Claim7.holds Tryd.pinned (.plain (OpenSpec.upto worldChecksSpec)) worldChecksUptoCard

/-- THE SECOND FORM's CARD OF 'tourlaw3.MarkChanges'. -/
def markChangesUptoCard : Claim7 := { stood := { row := markChangesUptoRow, standIns := [], harness := (true, "c2c144c7a3805df09cc3d75fa55a983e9ca30dd43491aea8173bc2d00fb6175a"), looks := false }, kinds := [], alts := [], laidByText := true, laidKinds := [.data, .pinned], laidTests := true, laidLooks := .later }
def MarkChangesUptoCardSaid : Prop := Claim7.holds Tryd.pinned (.plain (OpenSpec.upto markChangesSpec)) markChangesUptoCard
end Rows
end Go.Proofs.YthcbepikeinglaaDoor
