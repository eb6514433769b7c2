/-
  No cell of these rows narrows 'for every input' (looked for: loops, veiled, ifaces, maps, wideKeys, modest, calm, conditions, laid).
  DERIVED. THE GIVEN ROWS OF THIS SEAT. 4 by the template 'for every input the law returns true; each argument reads behind the call as it read before'; 0 by the template 'total and deterministic' (their statements: YtlnikhijfamakaaTotals.lean).
  GIVEN WITH THE SEED: the statements are not yours to turn. If you find one false, say at which input.
  Laid BY PROGRAM, IN A SANDBOX (cutbox-rows.mjs): the forced cells as the released guide's own fill.sh prints them over the translation f419f6231a90b9e4… (all of the seat's roots in one cut). By AI agents, Wed Nov 11 2026. No macro, syntax, notation, axiom, sorry.
-/
import Derived.Test.YtlnikhijfamakaaChecked
import GoSem.Claim
import GoSem.ClaimJoined
import GoSem.ClaimMapViews
import Derived.JoinedTies
import Derived.KernelRfl
namespace Go.Proofs.Ytlnikhijfamakaa
/- THE CELL 'sum', in the pinned program and in every row, IS THE sha256 OF THE DUMP (.gsa) THAT YtlnikhijfamakaaProg.lean LOADS. Nothing in Lean hashes anything: it is a label: what it is worth is what the hold of that sum in a sandbox is worth. -/
noncomputable def Try.pinned : Pinned := { name := "ytlnikhijfamakaa", sum := "f419f6231a90b9e4b3e7fd0ba309c7e16b231a25b20cdd1fb1f0d0dbc05620e9", checked := Try.checked }
namespace Rows
def none {H : Type} : Left H := { results := [], args := [] }

/-- 'wracklaw1.SourceImages': WHATEVER THE INPUT: true; the input reads as it did. -/
def sourceImagesSpec : ChangeSpec := { name := "sourceImages", fn := fun _ => fun
  | [d1, d2, d3, d4] => { results := [.lit (.bool true)], args := [d1, d2, d3, d4] }
  | _ => none }
def sourceImagesRow : OpenClaim := { program := "ytlnikhijfamakaa", sum := "f419f6231a90b9e4b3e7fd0ba309c7e16b231a25b20cdd1fb1f0d0dbc05620e9", func := "wrackline/wracklaw1.SourceImages", spec := "sourceImages", unfollowed := true, recurses := true, apart := false }
def SourceImagesSaid : Prop := sourceImagesRow.holds Try.pinned (OpenSpec.ofChange sourceImagesSpec)

/-- ITS FALSE NEIGHBOUR: 'it returns false'. Refute it at one input. -/
def sourceImagesWrong : ChangeSpec := { name := "sourceImages", fn := fun _ => fun
  | [d1, d2, d3, d4] => { results := [.lit (.bool false)], args := [d1, d2, d3, d4] }
  | _ => none }
def SourceImagesWrongFalsely : Prop := sourceImagesRow.holds Try.pinned (OpenSpec.ofChange sourceImagesWrong)

/-- 'wracklaw1.SourcePieces': WHATEVER THE INPUT: true; the input reads as it did. -/
def sourcePiecesSpec : ChangeSpec := { name := "sourcePieces", fn := fun _ => fun
  | [d1, d2, d3, d4, d5, d6] => { results := [.lit (.bool true)], args := [d1, d2, d3, d4, d5, d6] }
  | _ => none }
def sourcePiecesRow : OpenClaim := { program := "ytlnikhijfamakaa", sum := "f419f6231a90b9e4b3e7fd0ba309c7e16b231a25b20cdd1fb1f0d0dbc05620e9", func := "wrackline/wracklaw1.SourcePieces", spec := "sourcePieces", unfollowed := true, recurses := true, apart := false }
def SourcePiecesSaid : Prop := sourcePiecesRow.holds Try.pinned (OpenSpec.ofChange sourcePiecesSpec)

/-- ITS FALSE NEIGHBOUR: 'it returns false'. Refute it at one input. -/
def sourcePiecesWrong : ChangeSpec := { name := "sourcePieces", fn := fun _ => fun
  | [d1, d2, d3, d4, d5, d6] => { results := [.lit (.bool false)], args := [d1, d2, d3, d4, d5, d6] }
  | _ => none }
def SourcePiecesWrongFalsely : Prop := sourcePiecesRow.holds Try.pinned (OpenSpec.ofChange sourcePiecesWrong)

/-- 'wracklaw1.ArrayJoins': WHATEVER THE INPUT: true; the input reads as it did. -/
def arrayJoinsSpec : ChangeSpec := { name := "arrayJoins", fn := fun _ => fun
  | [d1, d2, d3, d4] => { results := [.lit (.bool true)], args := [d1, d2, d3, d4] }
  | _ => none }
def arrayJoinsRow : OpenClaim := { program := "ytlnikhijfamakaa", sum := "f419f6231a90b9e4b3e7fd0ba309c7e16b231a25b20cdd1fb1f0d0dbc05620e9", func := "wrackline/wracklaw1.ArrayJoins", spec := "arrayJoins", unfollowed := true, recurses := true, apart := false }
def ArrayJoinsSaid : Prop := arrayJoinsRow.holds Try.pinned (OpenSpec.ofChange arrayJoinsSpec)

/-- ITS FALSE NEIGHBOUR: 'it returns false'. Refute it at one input. -/
def arrayJoinsWrong : ChangeSpec := { name := "arrayJoins", fn := fun _ => fun
  | [d1, d2, d3, d4] => { results := [.lit (.bool false)], args := [d1, d2, d3, d4] }
  | _ => none }
def ArrayJoinsWrongFalsely : Prop := arrayJoinsRow.holds Try.pinned (OpenSpec.ofChange arrayJoinsWrong)

/-- 'wracklaw1.PackUnpacks': WHATEVER THE INPUT: true; the input reads as it did. -/
def packUnpacksSpec : ChangeSpec := { name := "packUnpacks", fn := fun _ => fun
  | [d1, d2] => { results := [.lit (.bool true)], args := [d1, d2] }
  | _ => none }
def packUnpacksRow : OpenClaim := { program := "ytlnikhijfamakaa", sum := "f419f6231a90b9e4b3e7fd0ba309c7e16b231a25b20cdd1fb1f0d0dbc05620e9", func := "wrackline/wracklaw1.PackUnpacks", spec := "packUnpacks", inPlace := ["internal/abi.NoEscape", "internal/bytealg.MakeNoZero"], unfollowed := true, recurses := true, apart := false }
def PackUnpacksSaid : Prop := packUnpacksRow.holds Try.pinned (OpenSpec.ofChange packUnpacksSpec)

/-- ITS FALSE NEIGHBOUR: 'it returns false'. Refute it at one input. -/
def packUnpacksWrong : ChangeSpec := { name := "packUnpacks", fn := fun _ => fun
  | [d1, d2] => { results := [.lit (.bool false)], args := [d1, d2] }
  | _ => none }
def PackUnpacksWrongFalsely : Prop := packUnpacksRow.holds Try.pinned (OpenSpec.ofChange packUnpacksWrong)

/- THE SECOND FORM. 'bulk': how many values and letters a reading holds, each counted each time it is reached (what is shared counts as often as it is met; a slice's spare places count too). A statement '..UptoSaid' is the law's where the arguments, and the package variables that the reading takes, are together of bulk at most 1048576: NARROWER than '..Said'. Prove '..Said' where nothing that the law and all that it calls make is longer than what came in: it says more and counts as full. Else prove '..UptoSaid'. A law counts once. -/
mutual
def uptoBulk {H : Type} : DataW H → Nat
  | .lit (.string bytes) => bytes.length + 1
  | .lit _ => 1
  | .nil => 1
  | .ptr d => uptoBulk d + 1
  | .slice elems spare => uptoBulkAll elems + uptoBulkAll spare + 1
  | .agg parts => uptoBulkAll parts + 1
  | .iface _ d => uptoBulk d + 1
  | .map entries => uptoBulkEntries entries + 1
  | .held _ => 1
def uptoBulkAll {H : Type} : List (DataW H) → Nat
  | [] => 0
  | d :: r => uptoBulk d + uptoBulkAll r
def uptoBulkEntries {H : Type} : List (Lit × DataW H) → Nat
  | [] => 0
  | x :: r => uptoBulkEntry x + uptoBulkEntries r
def uptoBulkEntry {H : Type} : Lit × DataW H → Nat
  | (.string bytes, d) => bytes.length + uptoBulk d + 1
  | (_, d) => uptoBulk d + 1
 end
def uptoSmall : (H : Type) → List (DataW H) → Bool := fun _ ds => decide (uptoBulkAll ds ≤ 1048576)
def OpenSpec.upto (s : _root_.Go.ChangeSpec) : _root_.Go.OpenSpec := { _root_.Go.OpenSpec.ofChange s with cond := some uptoSmall }

/-- 'wracklaw1.SourceImages', WHERE WHAT IT READS IS OF BULK AT MOST 1048576: true; the input reads as it did. -/
def sourceImagesUptoRow : OpenClaim := { program := "ytlnikhijfamakaa", sum := "f419f6231a90b9e4b3e7fd0ba309c7e16b231a25b20cdd1fb1f0d0dbc05620e9", func := "wrackline/wracklaw1.SourceImages", spec := "sourceImages", unfollowed := true, recurses := true, apart := false, narrowed := true }
def SourceImagesUptoSaid : Prop := sourceImagesUptoRow.holds Try.pinned (OpenSpec.upto sourceImagesSpec)

/-- 'wracklaw1.SourcePieces', WHERE WHAT IT READS IS OF BULK AT MOST 1048576: true; the input reads as it did. -/
def sourcePiecesUptoRow : OpenClaim := { program := "ytlnikhijfamakaa", sum := "f419f6231a90b9e4b3e7fd0ba309c7e16b231a25b20cdd1fb1f0d0dbc05620e9", func := "wrackline/wracklaw1.SourcePieces", spec := "sourcePieces", unfollowed := true, recurses := true, apart := false, narrowed := true }
def SourcePiecesUptoSaid : Prop := sourcePiecesUptoRow.holds Try.pinned (OpenSpec.upto sourcePiecesSpec)

/-- 'wracklaw1.ArrayJoins', WHERE WHAT IT READS IS OF BULK AT MOST 1048576: true; the input reads as it did. -/
def arrayJoinsUptoRow : OpenClaim := { program := "ytlnikhijfamakaa", sum := "f419f6231a90b9e4b3e7fd0ba309c7e16b231a25b20cdd1fb1f0d0dbc05620e9", func := "wrackline/wracklaw1.ArrayJoins", spec := "arrayJoins", unfollowed := true, recurses := true, apart := false, narrowed := true }
def ArrayJoinsUptoSaid : Prop := arrayJoinsUptoRow.holds Try.pinned (OpenSpec.upto arrayJoinsSpec)

/-- 'wracklaw1.PackUnpacks', WHERE WHAT IT READS IS OF BULK AT MOST 1048576: true; the input reads as it did. -/
def packUnpacksUptoRow : OpenClaim := { program := "ytlnikhijfamakaa", sum := "f419f6231a90b9e4b3e7fd0ba309c7e16b231a25b20cdd1fb1f0d0dbc05620e9", func := "wrackline/wracklaw1.PackUnpacks", spec := "packUnpacks", inPlace := ["internal/abi.NoEscape", "internal/bytealg.MakeNoZero"], unfollowed := true, recurses := true, apart := false, narrowed := true }
def PackUnpacksUptoSaid : Prop := packUnpacksUptoRow.holds Try.pinned (OpenSpec.upto packUnpacksSpec)

end Rows
end Go.Proofs.Ytlnikhijfamakaa
