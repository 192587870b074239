/-
  No cell of these rows narrows 'for every input' (looked for: loops, veiled, ifaces, maps, wideKeys, modest, calm, conditions, laid).
  DERIVED. THE GIVEN ROWS OF THIS SEAT. 12 by the template 'for every input the law returns true; each argument reads behind the call as it read before'; 0 by the template 'total and deterministic' (their statements: YtfihfbkjomploaaTotals.lean).
  GIVEN WITH THE SEED: the statements are not yours to turn. If you find one false, say at which input.
  Laid BY PROGRAM, IN A SANDBOX (cutbox-rows.mjs): the forced cells as the released guide's own fill.sh prints them over the translation 60cb6c51215852b3… (all of the seat's roots in one cut). By AI agents, Wed Nov 11 2026. No macro, syntax, notation, axiom, sorry.
-/
import Derived.Test.YtfihfbkjomploaaChecked
import GoSem.Claim
import GoSem.ClaimJoined
import GoSem.ClaimMapViews
import Derived.JoinedTies
import Derived.KernelRfl
namespace Go.Proofs.Ytfihfbkjomploaa
/- THE CELL 'sum', in the pinned program and in every row, IS THE sha256 OF THE DUMP (.gsa) THAT YtfihfbkjomploaaProg.lean LOADS. Nothing in Lean hashes anything: it is a label: what it is worth is what the hold of that sum in a sandbox is worth. -/
noncomputable def Try.pinned : Pinned := { name := "ytfihfbkjomploaa", sum := "60cb6c51215852b3787777153a1f87f3c8b36436327366a569009ec975633031", checked := Try.checked }
namespace Rows
def none {H : Type} : Left H := { results := [], args := [] }

/-- 'tourlaw1.BitsReads': WHATEVER THE INPUT: true; the input reads as it did. -/
def bitsReadsSpec : ChangeSpec := { name := "bitsReads", fn := fun _ => fun
  | [d1, d2] => { results := [.lit (.bool true)], args := [d1, d2] }
  | _ => none }
def bitsReadsRow : OpenClaim := { program := "ytfihfbkjomploaa", sum := "60cb6c51215852b3787777153a1f87f3c8b36436327366a569009ec975633031", func := "tourney/tourlaw1.BitsReads", spec := "bitsReads", apart := false }
def BitsReadsSaid : Prop := bitsReadsRow.holds Try.pinned (OpenSpec.ofChange bitsReadsSpec)

/-- ITS FALSE NEIGHBOUR: 'it returns false'. Refute it at one input. -/
def bitsReadsWrong : ChangeSpec := { name := "bitsReads", fn := fun _ => fun
  | [d1, d2] => { results := [.lit (.bool false)], args := [d1, d2] }
  | _ => none }
def BitsReadsWrongFalsely : Prop := bitsReadsRow.holds Try.pinned (OpenSpec.ofChange bitsReadsWrong)

/-- 'tourlaw1.BitsWrites': WHATEVER THE INPUT: true; the input reads as it did. -/
def bitsWritesSpec : ChangeSpec := { name := "bitsWrites", fn := fun _ => fun
  | [d] => { results := [.lit (.bool true)], args := [d] }
  | _ => none }
def bitsWritesRow : OpenClaim := { program := "ytfihfbkjomploaa", sum := "60cb6c51215852b3787777153a1f87f3c8b36436327366a569009ec975633031", func := "tourney/tourlaw1.BitsWrites", spec := "bitsWrites", apart := false }
def BitsWritesSaid : Prop := bitsWritesRow.holds Try.pinned (OpenSpec.ofChange bitsWritesSpec)

/-- ITS FALSE NEIGHBOUR: 'it returns false'. Refute it at one input. -/
def bitsWritesWrong : ChangeSpec := { name := "bitsWrites", fn := fun _ => fun
  | [d] => { results := [.lit (.bool false)], args := [d] }
  | _ => none }
def BitsWritesWrongFalsely : Prop := bitsWritesRow.holds Try.pinned (OpenSpec.ofChange bitsWritesWrong)

/-- 'tourlaw1.QuantFields': WHATEVER THE INPUT: true; the input reads as it did. -/
def quantFieldsSpec : ChangeSpec := { name := "quantFields", fn := fun _ => fun
  | [d1, d2, d3] => { results := [.lit (.bool true)], args := [d1, d2, d3] }
  | _ => none }
def quantFieldsRow : OpenClaim := { program := "ytfihfbkjomploaa", sum := "60cb6c51215852b3787777153a1f87f3c8b36436327366a569009ec975633031", func := "tourney/tourlaw1.QuantFields", spec := "quantFields", apart := false }
def QuantFieldsSaid : Prop := quantFieldsRow.holds Try.pinned (OpenSpec.ofChange quantFieldsSpec)

/-- ITS FALSE NEIGHBOUR: 'it returns false'. Refute it at one input. -/
def quantFieldsWrong : ChangeSpec := { name := "quantFields", fn := fun _ => fun
  | [d1, d2, d3] => { results := [.lit (.bool false)], args := [d1, d2, d3] }
  | _ => none }
def QuantFieldsWrongFalsely : Prop := quantFieldsRow.holds Try.pinned (OpenSpec.ofChange quantFieldsWrong)

/-- 'tourlaw1.MerkleNarrows': WHATEVER THE INPUT: true; the input reads as it did. -/
def merkleNarrowsSpec : ChangeSpec := { name := "merkleNarrows", fn := fun _ => fun
  | [d1, d2] => { results := [.lit (.bool true)], args := [d1, d2] }
  | _ => none }
def merkleNarrowsRow : OpenClaim := { program := "ytfihfbkjomploaa", sum := "60cb6c51215852b3787777153a1f87f3c8b36436327366a569009ec975633031", func := "tourney/tourlaw1.MerkleNarrows", spec := "merkleNarrows", recurses := true, apart := false }
def MerkleNarrowsSaid : Prop := merkleNarrowsRow.holds Try.pinned (OpenSpec.ofChange merkleNarrowsSpec)

/-- ITS FALSE NEIGHBOUR: 'it returns false'. Refute it at one input. -/
def merkleNarrowsWrong : ChangeSpec := { name := "merkleNarrows", fn := fun _ => fun
  | [d1, d2] => { results := [.lit (.bool false)], args := [d1, d2] }
  | _ => none }
def MerkleNarrowsWrongFalsely : Prop := merkleNarrowsRow.holds Try.pinned (OpenSpec.ofChange merkleNarrowsWrong)

/-- 'tourlaw1.MerkleVerifies': WHATEVER THE INPUT: true; the input reads as it did. -/
def merkleVerifiesSpec : ChangeSpec := { name := "merkleVerifies", fn := fun _ => fun
  | [d1, d2, d3, d4, d5] => { results := [.lit (.bool true)], args := [d1, d2, d3, d4, d5] }
  | _ => none }
def merkleVerifiesRow : OpenClaim := { program := "ytfihfbkjomploaa", sum := "60cb6c51215852b3787777153a1f87f3c8b36436327366a569009ec975633031", func := "tourney/tourlaw1.MerkleVerifies", spec := "merkleVerifies", recurses := true, apart := false }
def MerkleVerifiesSaid : Prop := merkleVerifiesRow.holds Try.pinned (OpenSpec.ofChange merkleVerifiesSpec)

/-- ITS FALSE NEIGHBOUR: 'it returns false'. Refute it at one input. -/
def merkleVerifiesWrong : ChangeSpec := { name := "merkleVerifies", fn := fun _ => fun
  | [d1, d2, d3, d4, d5] => { results := [.lit (.bool false)], args := [d1, d2, d3, d4, d5] }
  | _ => none }
def MerkleVerifiesWrongFalsely : Prop := merkleVerifiesRow.holds Try.pinned (OpenSpec.ofChange merkleVerifiesWrong)

/-- 'tourlaw1.MerkleTells': WHATEVER THE INPUT: true; the input reads as it did. -/
def merkleTellsSpec : ChangeSpec := { name := "merkleTells", fn := fun _ => fun
  | [d1, d2] => { results := [.lit (.bool true)], args := [d1, d2] }
  | _ => none }
def merkleTellsRow : OpenClaim := { program := "ytfihfbkjomploaa", sum := "60cb6c51215852b3787777153a1f87f3c8b36436327366a569009ec975633031", func := "tourney/tourlaw1.MerkleTells", spec := "merkleTells", recurses := true, apart := false }
def MerkleTellsSaid : Prop := merkleTellsRow.holds Try.pinned (OpenSpec.ofChange merkleTellsSpec)

/-- ITS FALSE NEIGHBOUR: 'it returns false'. Refute it at one input. -/
def merkleTellsWrong : ChangeSpec := { name := "merkleTells", fn := fun _ => fun
  | [d1, d2] => { results := [.lit (.bool false)], args := [d1, d2] }
  | _ => none }
def MerkleTellsWrongFalsely : Prop := merkleTellsRow.holds Try.pinned (OpenSpec.ofChange merkleTellsWrong)

/-- 'tourlaw1.QueuePlays': WHATEVER THE INPUT: true; the input reads as it did. -/
def queuePlaysSpec : ChangeSpec := { name := "queuePlays", fn := fun _ => fun
  | [d] => { results := [.lit (.bool true)], args := [d] }
  | _ => none }
def queuePlaysRow : OpenClaim := { program := "ytfihfbkjomploaa", sum := "60cb6c51215852b3787777153a1f87f3c8b36436327366a569009ec975633031", func := "tourney/tourlaw1.QueuePlays", spec := "queuePlays", apart := false }
def QueuePlaysSaid : Prop := queuePlaysRow.holds Try.pinned (OpenSpec.ofChange queuePlaysSpec)

/-- ITS FALSE NEIGHBOUR: 'it returns false'. Refute it at one input. -/
def queuePlaysWrong : ChangeSpec := { name := "queuePlays", fn := fun _ => fun
  | [d] => { results := [.lit (.bool false)], args := [d] }
  | _ => none }
def QueuePlaysWrongFalsely : Prop := queuePlaysRow.holds Try.pinned (OpenSpec.ofChange queuePlaysWrong)

/-- 'tourlaw1.QueueSorts': WHATEVER THE INPUT: true; the input reads as it did. -/
def queueSortsSpec : ChangeSpec := { name := "queueSorts", fn := fun _ => fun
  | [d] => { results := [.lit (.bool true)], args := [d] }
  | _ => none }
def queueSortsRow : OpenClaim := { program := "ytfihfbkjomploaa", sum := "60cb6c51215852b3787777153a1f87f3c8b36436327366a569009ec975633031", func := "tourney/tourlaw1.QueueSorts", spec := "queueSorts", unfollowed := true, recurses := true, apart := false }
def QueueSortsSaid : Prop := queueSortsRow.holds Try.pinned (OpenSpec.ofChange queueSortsSpec)

/-- ITS FALSE NEIGHBOUR: 'it returns false'. Refute it at one input. -/
def queueSortsWrong : ChangeSpec := { name := "queueSorts", fn := fun _ => fun
  | [d] => { results := [.lit (.bool false)], args := [d] }
  | _ => none }
def QueueSortsWrongFalsely : Prop := queueSortsRow.holds Try.pinned (OpenSpec.ofChange queueSortsWrong)

/-- 'tourlaw1.BorderTells': WHATEVER THE INPUT: true; the input reads as it did. -/
def borderTellsSpec : ChangeSpec := { name := "borderTells", fn := fun _ => fun
  | [d1, d2] => { results := [.lit (.bool true)], args := [d1, d2] }
  | _ => none }
def borderTellsRow : OpenClaim := { program := "ytfihfbkjomploaa", sum := "60cb6c51215852b3787777153a1f87f3c8b36436327366a569009ec975633031", func := "tourney/tourlaw1.BorderTells", spec := "borderTells", inPlace := ["math.Float64frombits", "math.Float64bits", "math.archTrunc"], apart := false }
def BorderTellsSaid : Prop := borderTellsRow.holds Try.pinned (OpenSpec.ofChange borderTellsSpec)

/-- ITS FALSE NEIGHBOUR: 'it returns false'. Refute it at one input. -/
def borderTellsWrong : ChangeSpec := { name := "borderTells", fn := fun _ => fun
  | [d1, d2] => { results := [.lit (.bool false)], args := [d1, d2] }
  | _ => none }
def BorderTellsWrongFalsely : Prop := borderTellsRow.holds Try.pinned (OpenSpec.ofChange borderTellsWrong)

/-- 'tourlaw1.BorderLists': WHATEVER THE INPUT: true; the input reads as it did. -/
def borderListsSpec : ChangeSpec := { name := "borderLists", fn := fun _ => fun
  | [d] => { results := [.lit (.bool true)], args := [d] }
  | _ => none }
def borderListsRow : OpenClaim := { program := "ytfihfbkjomploaa", sum := "60cb6c51215852b3787777153a1f87f3c8b36436327366a569009ec975633031", func := "tourney/tourlaw1.BorderLists", spec := "borderLists", inPlace := ["math.Float64frombits", "math.Float64bits", "math.archTrunc"], apart := false }
def BorderListsSaid : Prop := borderListsRow.holds Try.pinned (OpenSpec.ofChange borderListsSpec)

/-- ITS FALSE NEIGHBOUR: 'it returns false'. Refute it at one input. -/
def borderListsWrong : ChangeSpec := { name := "borderLists", fn := fun _ => fun
  | [d] => { results := [.lit (.bool false)], args := [d] }
  | _ => none }
def BorderListsWrongFalsely : Prop := borderListsRow.holds Try.pinned (OpenSpec.ofChange borderListsWrong)

/-- 'tourlaw1.SetsTells': WHATEVER THE INPUT: true; the input reads as it did. -/
def setsTellsSpec : ChangeSpec := { name := "setsTells", fn := fun _ => fun
  | [d1, d2, d3, d4] => { results := [.lit (.bool true)], args := [d1, d2, d3, d4] }
  | _ => none }
def setsTellsRow : OpenClaim := { program := "ytfihfbkjomploaa", sum := "60cb6c51215852b3787777153a1f87f3c8b36436327366a569009ec975633031", func := "tourney/tourlaw1.SetsTells", spec := "setsTells", unfollowed := true, recurses := true, apart := false }
def SetsTellsSaid : Prop := setsTellsRow.holds Try.pinned (OpenSpec.ofChange setsTellsSpec)

/-- ITS FALSE NEIGHBOUR: 'it returns false'. Refute it at one input. -/
def setsTellsWrong : ChangeSpec := { name := "setsTells", fn := fun _ => fun
  | [d1, d2, d3, d4] => { results := [.lit (.bool false)], args := [d1, d2, d3, d4] }
  | _ => none }
def SetsTellsWrongFalsely : Prop := setsTellsRow.holds Try.pinned (OpenSpec.ofChange setsTellsWrong)

/-- 'tourlaw1.SlotsPlays': WHATEVER THE INPUT: true; the input reads as it did. -/
def slotsPlaysSpec : ChangeSpec := { name := "slotsPlays", fn := fun _ => fun
  | [d1, d2, d3] => { results := [.lit (.bool true)], args := [d1, d2, d3] }
  | _ => none }
def slotsPlaysRow : OpenClaim := { program := "ytfihfbkjomploaa", sum := "60cb6c51215852b3787777153a1f87f3c8b36436327366a569009ec975633031", func := "tourney/tourlaw1.SlotsPlays", spec := "slotsPlays", unfollowed := true, recurses := true, apart := false }
def SlotsPlaysSaid : Prop := slotsPlaysRow.holds Try.pinned (OpenSpec.ofChange slotsPlaysSpec)

/-- ITS FALSE NEIGHBOUR: 'it returns false'. Refute it at one input. -/
def slotsPlaysWrong : ChangeSpec := { name := "slotsPlays", fn := fun _ => fun
  | [d1, d2, d3] => { results := [.lit (.bool false)], args := [d1, d2, d3] }
  | _ => none }
def SlotsPlaysWrongFalsely : Prop := slotsPlaysRow.holds Try.pinned (OpenSpec.ofChange slotsPlaysWrong)

/- THE SECOND FORM. 'bulk': how many values and letters a reading holds, each counted each time it is reached (what is shared counts as often as it is met; a slice's spare places count too). A statement '..UptoSaid' is the law's where the arguments, and the package variables that the reading takes, are together of bulk at most 1048576: NARROWER than '..Said'. Prove '..Said' where nothing that the law and all that it calls make is longer than what came in: it says more and counts as full. Else prove '..UptoSaid'. A law counts once. -/
mutual
def uptoBulk {H : Type} : DataW H → Nat
  | .lit (.string bytes) => bytes.length + 1
  | .lit _ => 1
  | .nil => 1
  | .ptr d => uptoBulk d + 1
  | .slice elems spare => uptoBulkAll elems + uptoBulkAll spare + 1
  | .agg parts => uptoBulkAll parts + 1
  | .iface _ d => uptoBulk d + 1
  | .map entries => uptoBulkEntries entries + 1
  | .held _ => 1
def uptoBulkAll {H : Type} : List (DataW H) → Nat
  | [] => 0
  | d :: r => uptoBulk d + uptoBulkAll r
def uptoBulkEntries {H : Type} : List (Lit × DataW H) → Nat
  | [] => 0
  | x :: r => uptoBulkEntry x + uptoBulkEntries r
def uptoBulkEntry {H : Type} : Lit × DataW H → Nat
  | (.string bytes, d) => bytes.length + uptoBulk d + 1
  | (_, d) => uptoBulk d + 1
 end
def uptoSmall : (H : Type) → List (DataW H) → Bool := fun _ ds => decide (uptoBulkAll ds ≤ 1048576)
def OpenSpec.upto (s : _root_.Go.ChangeSpec) : _root_.Go.OpenSpec := { _root_.Go.OpenSpec.ofChange s with cond := some uptoSmall }

/-- 'tourlaw1.BitsReads', WHERE WHAT IT READS IS OF BULK AT MOST 1048576: true; the input reads as it did. -/
def bitsReadsUptoRow : OpenClaim := { program := "ytfihfbkjomploaa", sum := "60cb6c51215852b3787777153a1f87f3c8b36436327366a569009ec975633031", func := "tourney/tourlaw1.BitsReads", spec := "bitsReads", apart := false, narrowed := true }
def BitsReadsUptoSaid : Prop := bitsReadsUptoRow.holds Try.pinned (OpenSpec.upto bitsReadsSpec)

/-- 'tourlaw1.BitsWrites', WHERE WHAT IT READS IS OF BULK AT MOST 1048576: true; the input reads as it did. -/
def bitsWritesUptoRow : OpenClaim := { program := "ytfihfbkjomploaa", sum := "60cb6c51215852b3787777153a1f87f3c8b36436327366a569009ec975633031", func := "tourney/tourlaw1.BitsWrites", spec := "bitsWrites", apart := false, narrowed := true }
def BitsWritesUptoSaid : Prop := bitsWritesUptoRow.holds Try.pinned (OpenSpec.upto bitsWritesSpec)

/-- 'tourlaw1.QuantFields', WHERE WHAT IT READS IS OF BULK AT MOST 1048576: true; the input reads as it did. -/
def quantFieldsUptoRow : OpenClaim := { program := "ytfihfbkjomploaa", sum := "60cb6c51215852b3787777153a1f87f3c8b36436327366a569009ec975633031", func := "tourney/tourlaw1.QuantFields", spec := "quantFields", apart := false, narrowed := true }
def QuantFieldsUptoSaid : Prop := quantFieldsUptoRow.holds Try.pinned (OpenSpec.upto quantFieldsSpec)

/-- 'tourlaw1.MerkleNarrows', WHERE WHAT IT READS IS OF BULK AT MOST 1048576: true; the input reads as it did. -/
def merkleNarrowsUptoRow : OpenClaim := { program := "ytfihfbkjomploaa", sum := "60cb6c51215852b3787777153a1f87f3c8b36436327366a569009ec975633031", func := "tourney/tourlaw1.MerkleNarrows", spec := "merkleNarrows", recurses := true, apart := false, narrowed := true }
def MerkleNarrowsUptoSaid : Prop := merkleNarrowsUptoRow.holds Try.pinned (OpenSpec.upto merkleNarrowsSpec)

/-- 'tourlaw1.MerkleVerifies', WHERE WHAT IT READS IS OF BULK AT MOST 1048576: true; the input reads as it did. -/
def merkleVerifiesUptoRow : OpenClaim := { program := "ytfihfbkjomploaa", sum := "60cb6c51215852b3787777153a1f87f3c8b36436327366a569009ec975633031", func := "tourney/tourlaw1.MerkleVerifies", spec := "merkleVerifies", recurses := true, apart := false, narrowed := true }
def MerkleVerifiesUptoSaid : Prop := merkleVerifiesUptoRow.holds Try.pinned (OpenSpec.upto merkleVerifiesSpec)

/-- 'tourlaw1.MerkleTells', WHERE WHAT IT READS IS OF BULK AT MOST 1048576: true; the input reads as it did. -/
def merkleTellsUptoRow : OpenClaim := { program := "ytfihfbkjomploaa", sum := "60cb6c51215852b3787777153a1f87f3c8b36436327366a569009ec975633031", func := "tourney/tourlaw1.MerkleTells", spec := "merkleTells", recurses := true, apart := false, narrowed := true }
def MerkleTellsUptoSaid : Prop := merkleTellsUptoRow.holds Try.pinned (OpenSpec.upto merkleTellsSpec)

/-- 'tourlaw1.QueuePlays', WHERE WHAT IT READS IS OF BULK AT MOST 1048576: true; the input reads as it did. -/
def queuePlaysUptoRow : OpenClaim := { program := "ytfihfbkjomploaa", sum := "60cb6c51215852b3787777153a1f87f3c8b36436327366a569009ec975633031", func := "tourney/tourlaw1.QueuePlays", spec := "queuePlays", apart := false, narrowed := true }
def QueuePlaysUptoSaid : Prop := queuePlaysUptoRow.holds Try.pinned (OpenSpec.upto queuePlaysSpec)

/-- 'tourlaw1.QueueSorts', WHERE WHAT IT READS IS OF BULK AT MOST 1048576: true; the input reads as it did. -/
def queueSortsUptoRow : OpenClaim := { program := "ytfihfbkjomploaa", sum := "60cb6c51215852b3787777153a1f87f3c8b36436327366a569009ec975633031", func := "tourney/tourlaw1.QueueSorts", spec := "queueSorts", unfollowed := true, recurses := true, apart := false, narrowed := true }
def QueueSortsUptoSaid : Prop := queueSortsUptoRow.holds Try.pinned (OpenSpec.upto queueSortsSpec)

/-- 'tourlaw1.BorderTells', WHERE WHAT IT READS IS OF BULK AT MOST 1048576: true; the input reads as it did. -/
def borderTellsUptoRow : OpenClaim := { program := "ytfihfbkjomploaa", sum := "60cb6c51215852b3787777153a1f87f3c8b36436327366a569009ec975633031", func := "tourney/tourlaw1.BorderTells", spec := "borderTells", inPlace := ["math.Float64frombits", "math.Float64bits", "math.archTrunc"], apart := false, narrowed := true }
def BorderTellsUptoSaid : Prop := borderTellsUptoRow.holds Try.pinned (OpenSpec.upto borderTellsSpec)

/-- 'tourlaw1.BorderLists', WHERE WHAT IT READS IS OF BULK AT MOST 1048576: true; the input reads as it did. -/
def borderListsUptoRow : OpenClaim := { program := "ytfihfbkjomploaa", sum := "60cb6c51215852b3787777153a1f87f3c8b36436327366a569009ec975633031", func := "tourney/tourlaw1.BorderLists", spec := "borderLists", inPlace := ["math.Float64frombits", "math.Float64bits", "math.archTrunc"], apart := false, narrowed := true }
def BorderListsUptoSaid : Prop := borderListsUptoRow.holds Try.pinned (OpenSpec.upto borderListsSpec)

/-- 'tourlaw1.SetsTells', WHERE WHAT IT READS IS OF BULK AT MOST 1048576: true; the input reads as it did. -/
def setsTellsUptoRow : OpenClaim := { program := "ytfihfbkjomploaa", sum := "60cb6c51215852b3787777153a1f87f3c8b36436327366a569009ec975633031", func := "tourney/tourlaw1.SetsTells", spec := "setsTells", unfollowed := true, recurses := true, apart := false, narrowed := true }
def SetsTellsUptoSaid : Prop := setsTellsUptoRow.holds Try.pinned (OpenSpec.upto setsTellsSpec)

/-- 'tourlaw1.SlotsPlays', WHERE WHAT IT READS IS OF BULK AT MOST 1048576: true; the input reads as it did. -/
def slotsPlaysUptoRow : OpenClaim := { program := "ytfihfbkjomploaa", sum := "60cb6c51215852b3787777153a1f87f3c8b36436327366a569009ec975633031", func := "tourney/tourlaw1.SlotsPlays", spec := "slotsPlays", unfollowed := true, recurses := true, apart := false, narrowed := true }
def SlotsPlaysUptoSaid : Prop := slotsPlaysUptoRow.holds Try.pinned (OpenSpec.upto slotsPlaysSpec)

end Rows
end Go.Proofs.Ytfihfbkjomploaa
