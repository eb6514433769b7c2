/-
  DERIVED. GIVEN WITH THE SEED: THE CARDS: each row of YtagcaheopbmdiaaDoorRows.lean that lists a variable, with what it lists TIED to the program's text (the seventh form; the later family's looks); each row that meets fmt, with fmt's text TOLD by the authors' own Lean function (tested against real Go, not proved from fmt's source: count such statements apart). THE CARD IS WHAT COUNTS. Prove the row's statement (the work); the ties are given (YtagcaheopbmdiaaDoorTie.lean); close each card by the builder's one call (the guide's Derived/Test/ToyasCard.lean, 'card_holds'). Laid BY PROGRAM, IN A SANDBOX (cutbox-door.mjs). By AI agents, Wed Nov 11 2026. No macro, syntax, notation, axiom, sorry.
-/
import Derived.Test.YtagcaheopbmdiaaDoorRows
import GoSem.ClaimSeven
namespace Go.Proofs.YtagcaheopbmdiaaDoor
namespace Rows

/-- THE TIED CARD OF 'wracklaw1.LockSeals'. -/
def lockSealsCard : Claim7 := { stood := { row := lockSealsRow, standIns := [], harness := (true, "198abbae67c92d036b9ec8ee4e74462d750771c5bd44ebb48b9a1fb7d39d7d2a"), looks := false }, kinds := [], alts := [], laidByText := true, laidKinds := [.data, .data, .data], laidTests := true, laidLooks := .later }
def LockSealsCardSaid : Prop := Claim7.holds Tryd.pinned (.plain (OpenSpec.ofChange lockSealsSpec)) lockSealsCard

/-- THE SECOND FORM's CARD OF 'wracklaw1.LockSeals'. -/
def lockSealsUptoCard : Claim7 := { stood := { row := lockSealsUptoRow, standIns := [], harness := (true, "198abbae67c92d036b9ec8ee4e74462d750771c5bd44ebb48b9a1fb7d39d7d2a"), looks := false }, kinds := [], alts := [], laidByText := true, laidKinds := [.data, .data, .data], laidTests := true, laidLooks := .later }
def LockSealsUptoCardSaid : Prop := Claim7.holds Tryd.pinned (.plain (OpenSpec.upto lockSealsSpec)) lockSealsUptoCard
end Rows
end Go.Proofs.YtagcaheopbmdiaaDoor
