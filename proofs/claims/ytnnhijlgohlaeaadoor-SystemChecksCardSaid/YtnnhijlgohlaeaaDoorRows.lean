/-
  NARROWER THAN 'FOR EVERY INPUT', by the rows' own cells (each row's printed sentence says how): MigrateBack: laid · MigrateWorlds: laid · MarkChanges: laid · SaveWrites: laid · SystemChecks: laid.
  DERIVED. THE GIVEN ROWS OF THIS SEAT. 5 by the template 'for every input the law returns true; each argument reads behind the call as it read before'; 0 by the template 'total and deterministic' (their statements: YtnnhijlgohlaeaaDoorTotals.lean).
  GIVEN WITH THE SEED: the statements are not yours to turn. If you find one false, say at which input.
  Laid BY PROGRAM, IN A SANDBOX (cutbox-rows.mjs): the forced cells as the released guide's own fill.sh prints them over the translation 7b49bc60add891dc… (all of the seat's roots in one cut). By AI agents, Wed Nov 11 2026. No macro, syntax, notation, axiom, sorry.
-/
import Derived.Test.YtnnhijlgohlaeaaDoorChecked
import GoSem.PinnedTables
import GoSem.Claim
import GoSem.ClaimJoined
import GoSem.ClaimMapViews
import Derived.JoinedTies
import Derived.KernelRfl
namespace Go.Proofs.YtnnhijlgohlaeaaDoor
/- THE CELL 'sum', in the pinned program and in every row, IS THE sha256 OF THE DUMP (.gsa) THAT YtnnhijlgohlaeaaDoorProg.lean LOADS. Nothing in Lean hashes anything: it is a label: what it is worth is what the hold of that sum in a sandbox is worth. -/
noncomputable def Tryd.pinned : Pinned := { name := "ytnnhijlgohlaeaadoor", sum := "7b49bc60add891dcd57b128e26ebc6a4af323669e768ae28b624617726b94af9", checked := Tryd.checked }
namespace Rows
def none {H : Type} : Left H := { results := [], args := [] }

/- WHAT THE LISTED PACKAGE-LEVEL VARIABLES READ AS WHEN THE CALL BEGINS. Each datum BY PROGRAM (the guide's laid-datum.mjs) off the statement by which the dump's own 'gosem.cut.vars' lays the variable. In a bare row this is a premise. The card (YtnnhijlgohlaeaaDoorCards.lean) ties it to the program's text. -/
def laid_unicode_utf8_acceptRanges {H : Type} : DataW H := .agg [.agg [.lit (.int .u8 128), .lit (.int .u8 191)], .agg [.lit (.int .u8 160), .lit (.int .u8 191)], .agg [.lit (.int .u8 128), .lit (.int .u8 159)], .agg [.lit (.int .u8 144), .lit (.int .u8 191)], .agg [.lit (.int .u8 128), .lit (.int .u8 143)], .agg [.lit (.int .u8 0), .lit (.int .u8 0)], .agg [.lit (.int .u8 0), .lit (.int .u8 0)], .agg [.lit (.int .u8 0), .lit (.int .u8 0)], .agg [.lit (.int .u8 0), .lit (.int .u8 0)], .agg [.lit (.int .u8 0), .lit (.int .u8 0)], .agg [.lit (.int .u8 0), .lit (.int .u8 0)], .agg [.lit (.int .u8 0), .lit (.int .u8 0)], .agg [.lit (.int .u8 0), .lit (.int .u8 0)], .agg [.lit (.int .u8 0), .lit (.int .u8 0)], .agg [.lit (.int .u8 0), .lit (.int .u8 0)], .agg [.lit (.int .u8 0), .lit (.int .u8 0)]]
/-- One of Go's own tables, pinned by name: the form's constant. -/
def laid_unicode_utf8_first : DataW Unit := Go.Pinned.utf8First

/-- 'tourlaw3.MigrateBack': WHATEVER THE INPUT: true; the input reads as it did. -/
def migrateBackSpec : ChangeSpec := { name := "migrateBack", fn := fun _ => fun
  | [d1, d2] => { results := [.lit (.bool true)], args := [d1, d2] }
  | _ => none }
def migrateBackRow : OpenClaim := { program := "ytnnhijlgohlaeaadoor", sum := "7b49bc60add891dcd57b128e26ebc6a4af323669e768ae28b624617726b94af9", func := "tourney/tourlaw3.MigrateBack", spec := "migrateBack", inPlace := ["internal/bytealg.IndexByteString", "internal/bytealg.IndexString"], unfollowed := true, recurses := true, named := ["unicode/utf8.first", "unicode/utf8.acceptRanges", "internal/bytealg.MaxLen"], apart := false, laid := [("unicode/utf8.acceptRanges", laid_unicode_utf8_acceptRanges), ("unicode/utf8.first", laid_unicode_utf8_first)] }
def MigrateBackSaid : Prop := migrateBackRow.holds Tryd.pinned (OpenSpec.ofChange migrateBackSpec)

/-- ITS FALSE NEIGHBOUR: 'it returns false'. Refute it at one input. -/
def migrateBackWrong : ChangeSpec := { name := "migrateBack", fn := fun _ => fun
  | [d1, d2] => { results := [.lit (.bool false)], args := [d1, d2] }
  | _ => none }
def MigrateBackWrongFalsely : Prop := migrateBackRow.holds Tryd.pinned (OpenSpec.ofChange migrateBackWrong)

/-- 'tourlaw3.MigrateWorlds': WHATEVER THE INPUT: true; the input reads as it did. -/
def migrateWorldsSpec : ChangeSpec := { name := "migrateWorlds", fn := fun _ => fun
  | [d1, d2] => { results := [.lit (.bool true)], args := [d1, d2] }
  | _ => none }
def migrateWorldsRow : OpenClaim := { program := "ytnnhijlgohlaeaadoor", sum := "7b49bc60add891dcd57b128e26ebc6a4af323669e768ae28b624617726b94af9", func := "tourney/tourlaw3.MigrateWorlds", spec := "migrateWorlds", inPlace := ["internal/bytealg.IndexByteString", "internal/bytealg.IndexString"], unfollowed := true, recurses := true, named := ["unicode/utf8.first", "unicode/utf8.acceptRanges", "internal/bytealg.MaxLen"], apart := false, laid := [("unicode/utf8.acceptRanges", laid_unicode_utf8_acceptRanges), ("unicode/utf8.first", laid_unicode_utf8_first)] }
def MigrateWorldsSaid : Prop := migrateWorldsRow.holds Tryd.pinned (OpenSpec.ofChange migrateWorldsSpec)

/-- ITS FALSE NEIGHBOUR: 'it returns false'. Refute it at one input. -/
def migrateWorldsWrong : ChangeSpec := { name := "migrateWorlds", fn := fun _ => fun
  | [d1, d2] => { results := [.lit (.bool false)], args := [d1, d2] }
  | _ => none }
def MigrateWorldsWrongFalsely : Prop := migrateWorldsRow.holds Tryd.pinned (OpenSpec.ofChange migrateWorldsWrong)

/-- 'tourlaw3.MarkChanges': WHATEVER THE INPUT: true; the input reads as it did. -/
def markChangesSpec : ChangeSpec := { name := "markChanges", fn := fun _ => fun
  | [d1, d2, d3] => { results := [.lit (.bool true)], args := [d1, d2, d3] }
  | _ => none }
def markChangesRow : OpenClaim := { program := "ytnnhijlgohlaeaadoor", sum := "7b49bc60add891dcd57b128e26ebc6a4af323669e768ae28b624617726b94af9", func := "tourney/tourlaw3.MarkChanges", spec := "markChanges", inPlace := ["internal/bytealg.IndexByteString", "internal/bytealg.IndexString"], unfollowed := true, recurses := true, named := ["unicode/utf8.first", "unicode/utf8.acceptRanges", "internal/bytealg.MaxLen"], apart := false, laid := [("unicode/utf8.acceptRanges", laid_unicode_utf8_acceptRanges), ("unicode/utf8.first", laid_unicode_utf8_first)] }
def MarkChangesSaid : Prop := markChangesRow.holds Tryd.pinned (OpenSpec.ofChange markChangesSpec)

/-- ITS FALSE NEIGHBOUR: 'it returns false'. Refute it at one input. -/
def markChangesWrong : ChangeSpec := { name := "markChanges", fn := fun _ => fun
  | [d1, d2, d3] => { results := [.lit (.bool false)], args := [d1, d2, d3] }
  | _ => none }
def MarkChangesWrongFalsely : Prop := markChangesRow.holds Tryd.pinned (OpenSpec.ofChange markChangesWrong)

/-- 'tourlaw3.SaveWrites': WHATEVER THE INPUT: true; the input reads as it did. -/
def saveWritesSpec : ChangeSpec := { name := "saveWrites", fn := fun _ => fun
  | [d] => { results := [.lit (.bool true)], args := [d] }
  | _ => none }
def saveWritesRow : OpenClaim := { program := "ytnnhijlgohlaeaadoor", sum := "7b49bc60add891dcd57b128e26ebc6a4af323669e768ae28b624617726b94af9", func := "tourney/tourlaw3.SaveWrites", spec := "saveWrites", inPlace := ["internal/bytealg.IndexByte", "internal/bytealg.IndexByteString", "internal/bytealg.IndexString", "internal/abi.NoEscape"], unfollowed := true, recurses := true, named := ["unicode/utf8.first", "unicode/utf8.acceptRanges", "internal/bytealg.MaxLen"], apart := false, laid := [("unicode/utf8.acceptRanges", laid_unicode_utf8_acceptRanges), ("unicode/utf8.first", laid_unicode_utf8_first)] }
def SaveWritesSaid : Prop := saveWritesRow.holds Tryd.pinned (OpenSpec.ofChange saveWritesSpec)

/-- ITS FALSE NEIGHBOUR: 'it returns false'. Refute it at one input. -/
def saveWritesWrong : ChangeSpec := { name := "saveWrites", fn := fun _ => fun
  | [d] => { results := [.lit (.bool false)], args := [d] }
  | _ => none }
def SaveWritesWrongFalsely : Prop := saveWritesRow.holds Tryd.pinned (OpenSpec.ofChange saveWritesWrong)

/-- 'tourlaw3.SystemChecks': WHATEVER THE INPUT: true; the input reads as it did. -/
def systemChecksSpec : ChangeSpec := { name := "systemChecks", fn := fun _ => fun
  | [d1, d2] => { results := [.lit (.bool true)], args := [d1, d2] }
  | _ => none }
def systemChecksRow : OpenClaim := { program := "ytnnhijlgohlaeaadoor", sum := "7b49bc60add891dcd57b128e26ebc6a4af323669e768ae28b624617726b94af9", func := "tourney/tourlaw3.SystemChecks", spec := "systemChecks", inPlace := ["internal/bytealg.IndexByteString", "internal/bytealg.IndexString"], unfollowed := true, recurses := true, named := ["unicode/utf8.first", "unicode/utf8.acceptRanges", "internal/bytealg.MaxLen"], apart := false, laid := [("unicode/utf8.acceptRanges", laid_unicode_utf8_acceptRanges), ("unicode/utf8.first", laid_unicode_utf8_first)] }
def SystemChecksSaid : Prop := systemChecksRow.holds Tryd.pinned (OpenSpec.ofChange systemChecksSpec)

/-- ITS FALSE NEIGHBOUR: 'it returns false'. Refute it at one input. -/
def systemChecksWrong : ChangeSpec := { name := "systemChecks", fn := fun _ => fun
  | [d1, d2] => { results := [.lit (.bool false)], args := [d1, d2] }
  | _ => none }
def SystemChecksWrongFalsely : Prop := systemChecksRow.holds Tryd.pinned (OpenSpec.ofChange systemChecksWrong)

/- THE SECOND FORM. 'bulk': how many values and letters a reading holds, each counted each time it is reached (what is shared counts as often as it is met; a slice's spare places count too). A statement '..UptoSaid' is the law's where the arguments, and the package variables that the reading takes, are together of bulk at most 1048576: NARROWER than '..Said'. Prove '..Said' where nothing that the law and all that it calls make is longer than what came in: it says more and counts as full. Else prove '..UptoSaid'. A law counts once. -/
mutual
def uptoBulk {H : Type} : DataW H → Nat
  | .lit (.string bytes) => bytes.length + 1
  | .lit _ => 1
  | .nil => 1
  | .ptr d => uptoBulk d + 1
  | .slice elems spare => uptoBulkAll elems + uptoBulkAll spare + 1
  | .agg parts => uptoBulkAll parts + 1
  | .iface _ d => uptoBulk d + 1
  | .map entries => uptoBulkEntries entries + 1
  | .held _ => 1
def uptoBulkAll {H : Type} : List (DataW H) → Nat
  | [] => 0
  | d :: r => uptoBulk d + uptoBulkAll r
def uptoBulkEntries {H : Type} : List (Lit × DataW H) → Nat
  | [] => 0
  | x :: r => uptoBulkEntry x + uptoBulkEntries r
def uptoBulkEntry {H : Type} : Lit × DataW H → Nat
  | (.string bytes, d) => bytes.length + uptoBulk d + 1
  | (_, d) => uptoBulk d + 1
 end
def uptoSmall : (H : Type) → List (DataW H) → Bool := fun _ ds => decide (uptoBulkAll ds ≤ 1048576)
def OpenSpec.upto (s : _root_.Go.ChangeSpec) : _root_.Go.OpenSpec := { _root_.Go.OpenSpec.ofChange s with cond := some uptoSmall }

/-- 'tourlaw3.MigrateBack', WHERE WHAT IT READS IS OF BULK AT MOST 1048576: true; the input reads as it did. -/
def migrateBackUptoRow : OpenClaim := { program := "ytnnhijlgohlaeaadoor", sum := "7b49bc60add891dcd57b128e26ebc6a4af323669e768ae28b624617726b94af9", func := "tourney/tourlaw3.MigrateBack", spec := "migrateBack", inPlace := ["internal/bytealg.IndexByteString", "internal/bytealg.IndexString"], unfollowed := true, recurses := true, named := ["unicode/utf8.first", "unicode/utf8.acceptRanges", "internal/bytealg.MaxLen"], apart := false, laid := [("unicode/utf8.acceptRanges", laid_unicode_utf8_acceptRanges), ("unicode/utf8.first", laid_unicode_utf8_first)], narrowed := true }
def MigrateBackUptoSaid : Prop := migrateBackUptoRow.holds Tryd.pinned (OpenSpec.upto migrateBackSpec)

/-- 'tourlaw3.MigrateWorlds', WHERE WHAT IT READS IS OF BULK AT MOST 1048576: true; the input reads as it did. -/
def migrateWorldsUptoRow : OpenClaim := { program := "ytnnhijlgohlaeaadoor", sum := "7b49bc60add891dcd57b128e26ebc6a4af323669e768ae28b624617726b94af9", func := "tourney/tourlaw3.MigrateWorlds", spec := "migrateWorlds", inPlace := ["internal/bytealg.IndexByteString", "internal/bytealg.IndexString"], unfollowed := true, recurses := true, named := ["unicode/utf8.first", "unicode/utf8.acceptRanges", "internal/bytealg.MaxLen"], apart := false, laid := [("unicode/utf8.acceptRanges", laid_unicode_utf8_acceptRanges), ("unicode/utf8.first", laid_unicode_utf8_first)], narrowed := true }
def MigrateWorldsUptoSaid : Prop := migrateWorldsUptoRow.holds Tryd.pinned (OpenSpec.upto migrateWorldsSpec)

/-- 'tourlaw3.MarkChanges', WHERE WHAT IT READS IS OF BULK AT MOST 1048576: true; the input reads as it did. -/
def markChangesUptoRow : OpenClaim := { program := "ytnnhijlgohlaeaadoor", sum := "7b49bc60add891dcd57b128e26ebc6a4af323669e768ae28b624617726b94af9", func := "tourney/tourlaw3.MarkChanges", spec := "markChanges", inPlace := ["internal/bytealg.IndexByteString", "internal/bytealg.IndexString"], unfollowed := true, recurses := true, named := ["unicode/utf8.first", "unicode/utf8.acceptRanges", "internal/bytealg.MaxLen"], apart := false, laid := [("unicode/utf8.acceptRanges", laid_unicode_utf8_acceptRanges), ("unicode/utf8.first", laid_unicode_utf8_first)], narrowed := true }
def MarkChangesUptoSaid : Prop := markChangesUptoRow.holds Tryd.pinned (OpenSpec.upto markChangesSpec)

/-- 'tourlaw3.SaveWrites', WHERE WHAT IT READS IS OF BULK AT MOST 1048576: true; the input reads as it did. -/
def saveWritesUptoRow : OpenClaim := { program := "ytnnhijlgohlaeaadoor", sum := "7b49bc60add891dcd57b128e26ebc6a4af323669e768ae28b624617726b94af9", func := "tourney/tourlaw3.SaveWrites", spec := "saveWrites", inPlace := ["internal/bytealg.IndexByte", "internal/bytealg.IndexByteString", "internal/bytealg.IndexString", "internal/abi.NoEscape"], unfollowed := true, recurses := true, named := ["unicode/utf8.first", "unicode/utf8.acceptRanges", "internal/bytealg.MaxLen"], apart := false, laid := [("unicode/utf8.acceptRanges", laid_unicode_utf8_acceptRanges), ("unicode/utf8.first", laid_unicode_utf8_first)], narrowed := true }
def SaveWritesUptoSaid : Prop := saveWritesUptoRow.holds Tryd.pinned (OpenSpec.upto saveWritesSpec)

/-- 'tourlaw3.SystemChecks', WHERE WHAT IT READS IS OF BULK AT MOST 1048576: true; the input reads as it did. -/
def systemChecksUptoRow : OpenClaim := { program := "ytnnhijlgohlaeaadoor", sum := "7b49bc60add891dcd57b128e26ebc6a4af323669e768ae28b624617726b94af9", func := "tourney/tourlaw3.SystemChecks", spec := "systemChecks", inPlace := ["internal/bytealg.IndexByteString", "internal/bytealg.IndexString"], unfollowed := true, recurses := true, named := ["unicode/utf8.first", "unicode/utf8.acceptRanges", "internal/bytealg.MaxLen"], apart := false, laid := [("unicode/utf8.acceptRanges", laid_unicode_utf8_acceptRanges), ("unicode/utf8.first", laid_unicode_utf8_first)], narrowed := true }
def SystemChecksUptoSaid : Prop := systemChecksUptoRow.holds Tryd.pinned (OpenSpec.upto systemChecksSpec)

end Rows
end Go.Proofs.YtnnhijlgohlaeaaDoor
