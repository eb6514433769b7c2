/-
  No cell of these rows narrows 'for every input' (looked for: loops, veiled, ifaces, maps, wideKeys, modest, calm, conditions, laid).
  DERIVED. THE GIVEN ROWS OF THIS SEAT. 12 by the template 'for every input the law returns true; each argument reads behind the call as it read before'; 0 by the template 'total and deterministic' (their statements: YtdgkbpoljcndgaaTotals.lean).
  GIVEN WITH THE SEED: the statements are not yours to turn. If you find one false, say at which input.
  Laid BY PROGRAM, IN A SANDBOX (cutbox-rows.mjs): the forced cells as the released guide's own fill.sh prints them over the translation 78f2faf0a8d02561… (all of the seat's roots in one cut). By AI agents, Wed Nov 11 2026. No macro, syntax, notation, axiom, sorry.
-/
import Derived.Test.YtdgkbpoljcndgaaChecked
import GoSem.Claim
import GoSem.ClaimJoined
import GoSem.ClaimMapViews
import Derived.JoinedTies
import Derived.KernelRfl
namespace Go.Proofs.Ytdgkbpoljcndgaa
/- THE CELL 'sum', in the pinned program and in every row, IS THE sha256 OF THE DUMP (.gsa) THAT YtdgkbpoljcndgaaProg.lean LOADS. Nothing in Lean hashes anything: it is a label: what it is worth is what the hold of that sum in a sandbox is worth. -/
noncomputable def Try.pinned : Pinned := { name := "ytdgkbpoljcndgaa", sum := "78f2faf0a8d02561b6fcdca21c9a4311905ddc12ee823b3ae01a4112a94cca28", checked := Try.checked }
namespace Rows
def none {H : Type} : Left H := { results := [], args := [] }

/-- 'wracklaw1.SumBytes': WHATEVER THE INPUT: true; the input reads as it did. -/
def sumBytesSpec : ChangeSpec := { name := "sumBytes", fn := fun _ => fun
  | [d1, d2] => { results := [.lit (.bool true)], args := [d1, d2] }
  | _ => none }
def sumBytesRow : OpenClaim := { program := "ytdgkbpoljcndgaa", sum := "78f2faf0a8d02561b6fcdca21c9a4311905ddc12ee823b3ae01a4112a94cca28", func := "wrackline/wracklaw1.SumBytes", spec := "sumBytes", apart := false }
def SumBytesSaid : Prop := sumBytesRow.holds Try.pinned (OpenSpec.ofChange sumBytesSpec)

/-- ITS FALSE NEIGHBOUR: 'it returns false'. Refute it at one input. -/
def sumBytesWrong : ChangeSpec := { name := "sumBytes", fn := fun _ => fun
  | [d1, d2] => { results := [.lit (.bool false)], args := [d1, d2] }
  | _ => none }
def SumBytesWrongFalsely : Prop := sumBytesRow.holds Try.pinned (OpenSpec.ofChange sumBytesWrong)

/-- 'wracklaw1.ArrayPlaces': WHATEVER THE INPUT: true; the input reads as it did. -/
def arrayPlacesSpec : ChangeSpec := { name := "arrayPlaces", fn := fun _ => fun
  | [d1, d2] => { results := [.lit (.bool true)], args := [d1, d2] }
  | _ => none }
def arrayPlacesRow : OpenClaim := { program := "ytdgkbpoljcndgaa", sum := "78f2faf0a8d02561b6fcdca21c9a4311905ddc12ee823b3ae01a4112a94cca28", func := "wrackline/wracklaw1.ArrayPlaces", spec := "arrayPlaces", apart := false }
def ArrayPlacesSaid : Prop := arrayPlacesRow.holds Try.pinned (OpenSpec.ofChange arrayPlacesSpec)

/-- ITS FALSE NEIGHBOUR: 'it returns false'. Refute it at one input. -/
def arrayPlacesWrong : ChangeSpec := { name := "arrayPlaces", fn := fun _ => fun
  | [d1, d2] => { results := [.lit (.bool false)], args := [d1, d2] }
  | _ => none }
def ArrayPlacesWrongFalsely : Prop := arrayPlacesRow.holds Try.pinned (OpenSpec.ofChange arrayPlacesWrong)

/-- 'wracklaw1.SumHolds': WHATEVER THE INPUT: true; the input reads as it did. -/
def sumHoldsSpec : ChangeSpec := { name := "sumHolds", fn := fun _ => fun
  | [d1, d2, d3, d4, d5] => { results := [.lit (.bool true)], args := [d1, d2, d3, d4, d5] }
  | _ => none }
def sumHoldsRow : OpenClaim := { program := "ytdgkbpoljcndgaa", sum := "78f2faf0a8d02561b6fcdca21c9a4311905ddc12ee823b3ae01a4112a94cca28", func := "wrackline/wracklaw1.SumHolds", spec := "sumHolds", apart := false }
def SumHoldsSaid : Prop := sumHoldsRow.holds Try.pinned (OpenSpec.ofChange sumHoldsSpec)

/-- ITS FALSE NEIGHBOUR: 'it returns false'. Refute it at one input. -/
def sumHoldsWrong : ChangeSpec := { name := "sumHolds", fn := fun _ => fun
  | [d1, d2, d3, d4, d5] => { results := [.lit (.bool false)], args := [d1, d2, d3, d4, d5] }
  | _ => none }
def SumHoldsWrongFalsely : Prop := sumHoldsRow.holds Try.pinned (OpenSpec.ofChange sumHoldsWrong)

/-- 'wracklaw1.DriveAnswers': WHATEVER THE INPUT: true; the input reads as it did. -/
def driveAnswersSpec : ChangeSpec := { name := "driveAnswers", fn := fun _ => fun
  | [d1, d2, d3] => { results := [.lit (.bool true)], args := [d1, d2, d3] }
  | _ => none }
def driveAnswersRow : OpenClaim := { program := "ytdgkbpoljcndgaa", sum := "78f2faf0a8d02561b6fcdca21c9a4311905ddc12ee823b3ae01a4112a94cca28", func := "wrackline/wracklaw1.DriveAnswers", spec := "driveAnswers", unfollowed := true, recurses := true, apart := false }
def DriveAnswersSaid : Prop := driveAnswersRow.holds Try.pinned (OpenSpec.ofChange driveAnswersSpec)

/-- ITS FALSE NEIGHBOUR: 'it returns false'. Refute it at one input. -/
def driveAnswersWrong : ChangeSpec := { name := "driveAnswers", fn := fun _ => fun
  | [d1, d2, d3] => { results := [.lit (.bool false)], args := [d1, d2, d3] }
  | _ => none }
def DriveAnswersWrongFalsely : Prop := driveAnswersRow.holds Try.pinned (OpenSpec.ofChange driveAnswersWrong)

/-- 'wracklaw1.SumTrees': WHATEVER THE INPUT: true; the input reads as it did. -/
def sumTreesSpec : ChangeSpec := { name := "sumTrees", fn := fun _ => fun
  | [d1, d2] => { results := [.lit (.bool true)], args := [d1, d2] }
  | _ => none }
def sumTreesRow : OpenClaim := { program := "ytdgkbpoljcndgaa", sum := "78f2faf0a8d02561b6fcdca21c9a4311905ddc12ee823b3ae01a4112a94cca28", func := "wrackline/wracklaw1.SumTrees", spec := "sumTrees", apart := false }
def SumTreesSaid : Prop := sumTreesRow.holds Try.pinned (OpenSpec.ofChange sumTreesSpec)

/-- ITS FALSE NEIGHBOUR: 'it returns false'. Refute it at one input. -/
def sumTreesWrong : ChangeSpec := { name := "sumTrees", fn := fun _ => fun
  | [d1, d2] => { results := [.lit (.bool false)], args := [d1, d2] }
  | _ => none }
def SumTreesWrongFalsely : Prop := sumTreesRow.holds Try.pinned (OpenSpec.ofChange sumTreesWrong)

/-- 'wracklaw1.DriveReads': WHATEVER THE INPUT: true; the input reads as it did. -/
def driveReadsSpec : ChangeSpec := { name := "driveReads", fn := fun _ => fun
  | [d1, d2, d3] => { results := [.lit (.bool true)], args := [d1, d2, d3] }
  | _ => none }
def driveReadsRow : OpenClaim := { program := "ytdgkbpoljcndgaa", sum := "78f2faf0a8d02561b6fcdca21c9a4311905ddc12ee823b3ae01a4112a94cca28", func := "wrackline/wracklaw1.DriveReads", spec := "driveReads", unfollowed := true, recurses := true, apart := false }
def DriveReadsSaid : Prop := driveReadsRow.holds Try.pinned (OpenSpec.ofChange driveReadsSpec)

/-- ITS FALSE NEIGHBOUR: 'it returns false'. Refute it at one input. -/
def driveReadsWrong : ChangeSpec := { name := "driveReads", fn := fun _ => fun
  | [d1, d2, d3] => { results := [.lit (.bool false)], args := [d1, d2, d3] }
  | _ => none }
def DriveReadsWrongFalsely : Prop := driveReadsRow.holds Try.pinned (OpenSpec.ofChange driveReadsWrong)

/-- 'wracklaw1.ArraySplits': WHATEVER THE INPUT: true; the input reads as it did. -/
def arraySplitsSpec : ChangeSpec := { name := "arraySplits", fn := fun _ => fun
  | [d1, d2] => { results := [.lit (.bool true)], args := [d1, d2] }
  | _ => none }
def arraySplitsRow : OpenClaim := { program := "ytdgkbpoljcndgaa", sum := "78f2faf0a8d02561b6fcdca21c9a4311905ddc12ee823b3ae01a4112a94cca28", func := "wrackline/wracklaw1.ArraySplits", spec := "arraySplits", unfollowed := true, recurses := true, apart := false }
def ArraySplitsSaid : Prop := arraySplitsRow.holds Try.pinned (OpenSpec.ofChange arraySplitsSpec)

/-- ITS FALSE NEIGHBOUR: 'it returns false'. Refute it at one input. -/
def arraySplitsWrong : ChangeSpec := { name := "arraySplits", fn := fun _ => fun
  | [d1, d2] => { results := [.lit (.bool false)], args := [d1, d2] }
  | _ => none }
def ArraySplitsWrongFalsely : Prop := arraySplitsRow.holds Try.pinned (OpenSpec.ofChange arraySplitsWrong)

/-- 'wracklaw1.PassRuns': WHATEVER THE INPUT: true; the input reads as it did. -/
def passRunsSpec : ChangeSpec := { name := "passRuns", fn := fun _ => fun
  | [d1, d2] => { results := [.lit (.bool true)], args := [d1, d2] }
  | _ => none }
def passRunsRow : OpenClaim := { program := "ytdgkbpoljcndgaa", sum := "78f2faf0a8d02561b6fcdca21c9a4311905ddc12ee823b3ae01a4112a94cca28", func := "wrackline/wracklaw1.PassRuns", spec := "passRuns", unfollowed := true, recurses := true, apart := false }
def PassRunsSaid : Prop := passRunsRow.holds Try.pinned (OpenSpec.ofChange passRunsSpec)

/-- ITS FALSE NEIGHBOUR: 'it returns false'. Refute it at one input. -/
def passRunsWrong : ChangeSpec := { name := "passRuns", fn := fun _ => fun
  | [d1, d2] => { results := [.lit (.bool false)], args := [d1, d2] }
  | _ => none }
def PassRunsWrongFalsely : Prop := passRunsRow.holds Try.pinned (OpenSpec.ofChange passRunsWrong)

/-- 'wracklaw1.PassCheapest': WHATEVER THE INPUT: true; the input reads as it did. -/
def passCheapestSpec : ChangeSpec := { name := "passCheapest", fn := fun _ => fun
  | [d1, d2] => { results := [.lit (.bool true)], args := [d1, d2] }
  | _ => none }
def passCheapestRow : OpenClaim := { program := "ytdgkbpoljcndgaa", sum := "78f2faf0a8d02561b6fcdca21c9a4311905ddc12ee823b3ae01a4112a94cca28", func := "wrackline/wracklaw1.PassCheapest", spec := "passCheapest", unfollowed := true, recurses := true, apart := false }
def PassCheapestSaid : Prop := passCheapestRow.holds Try.pinned (OpenSpec.ofChange passCheapestSpec)

/-- ITS FALSE NEIGHBOUR: 'it returns false'. Refute it at one input. -/
def passCheapestWrong : ChangeSpec := { name := "passCheapest", fn := fun _ => fun
  | [d1, d2] => { results := [.lit (.bool false)], args := [d1, d2] }
  | _ => none }
def PassCheapestWrongFalsely : Prop := passCheapestRow.holds Try.pinned (OpenSpec.ofChange passCheapestWrong)

/-- 'wracklaw1.Names': WHATEVER THE INPUT: true; the input reads as it did. -/
def namesSpec : ChangeSpec := { name := "names", fn := fun _ => fun
  | [] => { results := [.lit (.bool true)], args := [] }
  | _ => none }
def namesRow : OpenClaim := { program := "ytdgkbpoljcndgaa", sum := "78f2faf0a8d02561b6fcdca21c9a4311905ddc12ee823b3ae01a4112a94cca28", func := "wrackline/wracklaw1.Names", spec := "names", unfollowed := true, recurses := true, apart := false }
def NamesSaid : Prop := namesRow.holds Try.pinned (OpenSpec.ofChange namesSpec)

/-- ITS FALSE NEIGHBOUR: 'it returns false'. Refute it at one input. -/
def namesWrong : ChangeSpec := { name := "names", fn := fun _ => fun
  | [] => { results := [.lit (.bool false)], args := [] }
  | _ => none }
def NamesWrongFalsely : Prop := namesRow.holds Try.pinned (OpenSpec.ofChange namesWrong)

/-- 'wracklaw1.SpanSets': WHATEVER THE INPUT: true; the input reads as it did. -/
def spanSetsSpec : ChangeSpec := { name := "spanSets", fn := fun _ => fun
  | [d1, d2, d3] => { results := [.lit (.bool true)], args := [d1, d2, d3] }
  | _ => none }
def spanSetsRow : OpenClaim := { program := "ytdgkbpoljcndgaa", sum := "78f2faf0a8d02561b6fcdca21c9a4311905ddc12ee823b3ae01a4112a94cca28", func := "wrackline/wracklaw1.SpanSets", spec := "spanSets", unfollowed := true, recurses := true, apart := false }
def SpanSetsSaid : Prop := spanSetsRow.holds Try.pinned (OpenSpec.ofChange spanSetsSpec)

/-- ITS FALSE NEIGHBOUR: 'it returns false'. Refute it at one input. -/
def spanSetsWrong : ChangeSpec := { name := "spanSets", fn := fun _ => fun
  | [d1, d2, d3] => { results := [.lit (.bool false)], args := [d1, d2, d3] }
  | _ => none }
def SpanSetsWrongFalsely : Prop := spanSetsRow.holds Try.pinned (OpenSpec.ofChange spanSetsWrong)

/-- 'wracklaw1.SpanLists': WHATEVER THE INPUT: true; the input reads as it did. -/
def spanListsSpec : ChangeSpec := { name := "spanLists", fn := fun _ => fun
  | [d1, d2, d3] => { results := [.lit (.bool true)], args := [d1, d2, d3] }
  | _ => none }
def spanListsRow : OpenClaim := { program := "ytdgkbpoljcndgaa", sum := "78f2faf0a8d02561b6fcdca21c9a4311905ddc12ee823b3ae01a4112a94cca28", func := "wrackline/wracklaw1.SpanLists", spec := "spanLists", unfollowed := true, recurses := true, apart := false }
def SpanListsSaid : Prop := spanListsRow.holds Try.pinned (OpenSpec.ofChange spanListsSpec)

/-- ITS FALSE NEIGHBOUR: 'it returns false'. Refute it at one input. -/
def spanListsWrong : ChangeSpec := { name := "spanLists", fn := fun _ => fun
  | [d1, d2, d3] => { results := [.lit (.bool false)], args := [d1, d2, d3] }
  | _ => none }
def SpanListsWrongFalsely : Prop := spanListsRow.holds Try.pinned (OpenSpec.ofChange spanListsWrong)

/- THE SECOND FORM. 'bulk': how many values and letters a reading holds, each counted each time it is reached (what is shared counts as often as it is met; a slice's spare places count too). A statement '..UptoSaid' is the law's where the arguments, and the package variables that the reading takes, are together of bulk at most 1048576: NARROWER than '..Said'. Prove '..Said' where nothing that the law and all that it calls make is longer than what came in: it says more and counts as full. Else prove '..UptoSaid'. A law counts once. -/
mutual
def uptoBulk {H : Type} : DataW H → Nat
  | .lit (.string bytes) => bytes.length + 1
  | .lit _ => 1
  | .nil => 1
  | .ptr d => uptoBulk d + 1
  | .slice elems spare => uptoBulkAll elems + uptoBulkAll spare + 1
  | .agg parts => uptoBulkAll parts + 1
  | .iface _ d => uptoBulk d + 1
  | .map entries => uptoBulkEntries entries + 1
  | .held _ => 1
def uptoBulkAll {H : Type} : List (DataW H) → Nat
  | [] => 0
  | d :: r => uptoBulk d + uptoBulkAll r
def uptoBulkEntries {H : Type} : List (Lit × DataW H) → Nat
  | [] => 0
  | x :: r => uptoBulkEntry x + uptoBulkEntries r
def uptoBulkEntry {H : Type} : Lit × DataW H → Nat
  | (.string bytes, d) => bytes.length + uptoBulk d + 1
  | (_, d) => uptoBulk d + 1
 end
def uptoSmall : (H : Type) → List (DataW H) → Bool := fun _ ds => decide (uptoBulkAll ds ≤ 1048576)
def OpenSpec.upto (s : _root_.Go.ChangeSpec) : _root_.Go.OpenSpec := { _root_.Go.OpenSpec.ofChange s with cond := some uptoSmall }

/-- 'wracklaw1.SumBytes', WHERE WHAT IT READS IS OF BULK AT MOST 1048576: true; the input reads as it did. -/
def sumBytesUptoRow : OpenClaim := { program := "ytdgkbpoljcndgaa", sum := "78f2faf0a8d02561b6fcdca21c9a4311905ddc12ee823b3ae01a4112a94cca28", func := "wrackline/wracklaw1.SumBytes", spec := "sumBytes", apart := false, narrowed := true }
def SumBytesUptoSaid : Prop := sumBytesUptoRow.holds Try.pinned (OpenSpec.upto sumBytesSpec)

/-- 'wracklaw1.ArrayPlaces', WHERE WHAT IT READS IS OF BULK AT MOST 1048576: true; the input reads as it did. -/
def arrayPlacesUptoRow : OpenClaim := { program := "ytdgkbpoljcndgaa", sum := "78f2faf0a8d02561b6fcdca21c9a4311905ddc12ee823b3ae01a4112a94cca28", func := "wrackline/wracklaw1.ArrayPlaces", spec := "arrayPlaces", apart := false, narrowed := true }
def ArrayPlacesUptoSaid : Prop := arrayPlacesUptoRow.holds Try.pinned (OpenSpec.upto arrayPlacesSpec)

/-- 'wracklaw1.SumHolds', WHERE WHAT IT READS IS OF BULK AT MOST 1048576: true; the input reads as it did. -/
def sumHoldsUptoRow : OpenClaim := { program := "ytdgkbpoljcndgaa", sum := "78f2faf0a8d02561b6fcdca21c9a4311905ddc12ee823b3ae01a4112a94cca28", func := "wrackline/wracklaw1.SumHolds", spec := "sumHolds", apart := false, narrowed := true }
def SumHoldsUptoSaid : Prop := sumHoldsUptoRow.holds Try.pinned (OpenSpec.upto sumHoldsSpec)

/-- 'wracklaw1.DriveAnswers', WHERE WHAT IT READS IS OF BULK AT MOST 1048576: true; the input reads as it did. -/
def driveAnswersUptoRow : OpenClaim := { program := "ytdgkbpoljcndgaa", sum := "78f2faf0a8d02561b6fcdca21c9a4311905ddc12ee823b3ae01a4112a94cca28", func := "wrackline/wracklaw1.DriveAnswers", spec := "driveAnswers", unfollowed := true, recurses := true, apart := false, narrowed := true }
def DriveAnswersUptoSaid : Prop := driveAnswersUptoRow.holds Try.pinned (OpenSpec.upto driveAnswersSpec)

/-- 'wracklaw1.SumTrees', WHERE WHAT IT READS IS OF BULK AT MOST 1048576: true; the input reads as it did. -/
def sumTreesUptoRow : OpenClaim := { program := "ytdgkbpoljcndgaa", sum := "78f2faf0a8d02561b6fcdca21c9a4311905ddc12ee823b3ae01a4112a94cca28", func := "wrackline/wracklaw1.SumTrees", spec := "sumTrees", apart := false, narrowed := true }
def SumTreesUptoSaid : Prop := sumTreesUptoRow.holds Try.pinned (OpenSpec.upto sumTreesSpec)

/-- 'wracklaw1.DriveReads', WHERE WHAT IT READS IS OF BULK AT MOST 1048576: true; the input reads as it did. -/
def driveReadsUptoRow : OpenClaim := { program := "ytdgkbpoljcndgaa", sum := "78f2faf0a8d02561b6fcdca21c9a4311905ddc12ee823b3ae01a4112a94cca28", func := "wrackline/wracklaw1.DriveReads", spec := "driveReads", unfollowed := true, recurses := true, apart := false, narrowed := true }
def DriveReadsUptoSaid : Prop := driveReadsUptoRow.holds Try.pinned (OpenSpec.upto driveReadsSpec)

/-- 'wracklaw1.ArraySplits', WHERE WHAT IT READS IS OF BULK AT MOST 1048576: true; the input reads as it did. -/
def arraySplitsUptoRow : OpenClaim := { program := "ytdgkbpoljcndgaa", sum := "78f2faf0a8d02561b6fcdca21c9a4311905ddc12ee823b3ae01a4112a94cca28", func := "wrackline/wracklaw1.ArraySplits", spec := "arraySplits", unfollowed := true, recurses := true, apart := false, narrowed := true }
def ArraySplitsUptoSaid : Prop := arraySplitsUptoRow.holds Try.pinned (OpenSpec.upto arraySplitsSpec)

/-- 'wracklaw1.PassRuns', WHERE WHAT IT READS IS OF BULK AT MOST 1048576: true; the input reads as it did. -/
def passRunsUptoRow : OpenClaim := { program := "ytdgkbpoljcndgaa", sum := "78f2faf0a8d02561b6fcdca21c9a4311905ddc12ee823b3ae01a4112a94cca28", func := "wrackline/wracklaw1.PassRuns", spec := "passRuns", unfollowed := true, recurses := true, apart := false, narrowed := true }
def PassRunsUptoSaid : Prop := passRunsUptoRow.holds Try.pinned (OpenSpec.upto passRunsSpec)

/-- 'wracklaw1.PassCheapest', WHERE WHAT IT READS IS OF BULK AT MOST 1048576: true; the input reads as it did. -/
def passCheapestUptoRow : OpenClaim := { program := "ytdgkbpoljcndgaa", sum := "78f2faf0a8d02561b6fcdca21c9a4311905ddc12ee823b3ae01a4112a94cca28", func := "wrackline/wracklaw1.PassCheapest", spec := "passCheapest", unfollowed := true, recurses := true, apart := false, narrowed := true }
def PassCheapestUptoSaid : Prop := passCheapestUptoRow.holds Try.pinned (OpenSpec.upto passCheapestSpec)

/-- 'wracklaw1.Names', WHERE WHAT IT READS IS OF BULK AT MOST 1048576: true; the input reads as it did. -/
def namesUptoRow : OpenClaim := { program := "ytdgkbpoljcndgaa", sum := "78f2faf0a8d02561b6fcdca21c9a4311905ddc12ee823b3ae01a4112a94cca28", func := "wrackline/wracklaw1.Names", spec := "names", unfollowed := true, recurses := true, apart := false, narrowed := true }
def NamesUptoSaid : Prop := namesUptoRow.holds Try.pinned (OpenSpec.upto namesSpec)

/-- 'wracklaw1.SpanSets', WHERE WHAT IT READS IS OF BULK AT MOST 1048576: true; the input reads as it did. -/
def spanSetsUptoRow : OpenClaim := { program := "ytdgkbpoljcndgaa", sum := "78f2faf0a8d02561b6fcdca21c9a4311905ddc12ee823b3ae01a4112a94cca28", func := "wrackline/wracklaw1.SpanSets", spec := "spanSets", unfollowed := true, recurses := true, apart := false, narrowed := true }
def SpanSetsUptoSaid : Prop := spanSetsUptoRow.holds Try.pinned (OpenSpec.upto spanSetsSpec)

/-- 'wracklaw1.SpanLists', WHERE WHAT IT READS IS OF BULK AT MOST 1048576: true; the input reads as it did. -/
def spanListsUptoRow : OpenClaim := { program := "ytdgkbpoljcndgaa", sum := "78f2faf0a8d02561b6fcdca21c9a4311905ddc12ee823b3ae01a4112a94cca28", func := "wrackline/wracklaw1.SpanLists", spec := "spanLists", unfollowed := true, recurses := true, apart := false, narrowed := true }
def SpanListsUptoSaid : Prop := spanListsUptoRow.holds Try.pinned (OpenSpec.upto spanListsSpec)

end Rows
end Go.Proofs.Ytdgkbpoljcndgaa
