/-
  DERIVED. GIVEN WITH THE SEED: THE CARDS: each row of YtplomeacjbkgnaaGreatDoorRows.lean that lists a variable, with what it lists TIED to the program's text (the seventh form; the later family's looks); each row that meets fmt, with fmt's text TOLD by the authors' own Lean function (tested against real Go, not proved from fmt's source: count such statements apart). THE CARD IS WHAT COUNTS. Prove the row's statement (the work); the ties are given (YtplomeacjbkgnaaGreatDoorTie.lean); close each card by the builder's one call (the guide's Derived/Test/ToyasCard.lean, 'card_holds'). Laid BY PROGRAM, IN A SANDBOX (cutbox-door.mjs). By AI agents, Wed Nov 11 2026. No macro, syntax, notation, axiom, sorry.
-/
import Derived.Test.YtplomeacjbkgnaaGreatDoorRows
import GoSem.ClaimSeven
namespace Go.Proofs.YtplomeacjbkgnaaGreatDoor
namespace Rows

/-- THE TIED CARD OF 'coachhouselaw.LedgerSays'. -/
def ledgerSaysCard : Claim7 := { stood := { row := ledgerSaysRow, standIns := [], harness := (true, "01fbf7f798321dc1064b3a5de1a4cc44516351bc15ab28a66035b6cd7aed48e5"), looks := true }, kinds := [], alts := [], laidByText := true, laidKinds := [.data, .data, .data, .data, .sentinel, .sentinel, .pinned], laidTests := true, laidLooks := .later }
def LedgerSaysCardSaid : Prop := Claim7.holds Tryz.pinned (.plain (OpenSpec.ofChange ledgerSaysSpec)) ledgerSaysCard

/-- THE SECOND FORM's CARD OF 'coachhouselaw.LedgerSays'. -/
def ledgerSaysUptoCard : Claim7 := { stood := { row := ledgerSaysUptoRow, standIns := [], harness := (true, "01fbf7f798321dc1064b3a5de1a4cc44516351bc15ab28a66035b6cd7aed48e5"), looks := true }, kinds := [], alts := [], laidByText := true, laidKinds := [.data, .data, .data, .data, .sentinel, .sentinel, .pinned], laidTests := true, laidLooks := .later }
def LedgerSaysUptoCardSaid : Prop := Claim7.holds Tryz.pinned (.plain (OpenSpec.upto ledgerSaysSpec)) ledgerSaysUptoCard
end Rows
end Go.Proofs.YtplomeacjbkgnaaGreatDoor
