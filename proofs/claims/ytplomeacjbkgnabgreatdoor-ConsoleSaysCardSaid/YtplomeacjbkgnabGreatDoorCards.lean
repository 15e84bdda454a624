/-
  DERIVED. GIVEN WITH THE SEED: THE CARDS: each row of YtplomeacjbkgnabGreatDoorRows.lean that lists a variable, with what it lists TIED to the program's text (the seventh form; the later family's looks); each row that meets fmt, with fmt's text TOLD by the authors' own Lean function (tested against real Go, not proved from fmt's source: count such statements apart). THE CARD IS WHAT COUNTS. Prove the row's statement (the work); the ties are given (YtplomeacjbkgnabGreatDoorTie.lean); close each card by the builder's one call (the guide's Derived/Test/ToyasCard.lean, 'card_holds'). Laid BY PROGRAM, IN A SANDBOX (cutbox-door.mjs). By AI agents, Wed Nov 11 2026. No macro, syntax, notation, axiom, sorry.
-/
import Derived.Test.YtplomeacjbkgnabGreatDoorRows
import GoSem.ClaimSeven
namespace Go.Proofs.YtplomeacjbkgnabGreatDoor
namespace Rows

/-- THE TIED CARD OF 'coachhouselaw.HouseSays'. -/
def houseSaysCard : Claim7 := { stood := { row := houseSaysRow, standIns := [], harness := (true, "d94c6d31d277b11cfce713faa3d47233b1c26be07961eb5fde0c78fc2bc26fa6"), looks := true }, kinds := [], alts := [], laidByText := true, laidKinds := [.data, .data, .data, .data, .sentinel, .sentinel, .pinned], laidTests := true, laidLooks := .later }
def HouseSaysCardSaid : Prop := Claim7.holds Tryz.pinned (.plain (OpenSpec.ofChange houseSaysSpec)) houseSaysCard

/-- THE TIED CARD OF 'coachhouselaw.ConsoleSays'. -/
def consoleSaysCard : Claim7 := { stood := { row := consoleSaysRow, standIns := [], harness := (true, "d94c6d31d277b11cfce713faa3d47233b1c26be07961eb5fde0c78fc2bc26fa6"), looks := true }, kinds := [], alts := [], laidByText := true, laidKinds := [.data, .data, .data, .data, .sentinel, .sentinel, .pinned], laidTests := true, laidLooks := .later }
def ConsoleSaysCardSaid : Prop := Claim7.holds Tryz.pinned (.plain (OpenSpec.ofChange consoleSaysSpec)) consoleSaysCard

/-- THE SECOND FORM's CARD OF 'coachhouselaw.HouseSays'. -/
def houseSaysUptoCard : Claim7 := { stood := { row := houseSaysUptoRow, standIns := [], harness := (true, "d94c6d31d277b11cfce713faa3d47233b1c26be07961eb5fde0c78fc2bc26fa6"), looks := true }, kinds := [], alts := [], laidByText := true, laidKinds := [.data, .data, .data, .data, .sentinel, .sentinel, .pinned], laidTests := true, laidLooks := .later }
def HouseSaysUptoCardSaid : Prop := Claim7.holds Tryz.pinned (.plain (OpenSpec.upto houseSaysSpec)) houseSaysUptoCard

/-- THE SECOND FORM's CARD OF 'coachhouselaw.ConsoleSays'. -/
def consoleSaysUptoCard : Claim7 := { stood := { row := consoleSaysUptoRow, standIns := [], harness := (true, "d94c6d31d277b11cfce713faa3d47233b1c26be07961eb5fde0c78fc2bc26fa6"), looks := true }, kinds := [], alts := [], laidByText := true, laidKinds := [.data, .data, .data, .data, .sentinel, .sentinel, .pinned], laidTests := true, laidLooks := .later }
def ConsoleSaysUptoCardSaid : Prop := Claim7.holds Tryz.pinned (.plain (OpenSpec.upto consoleSaysSpec)) consoleSaysUptoCard
end Rows
end Go.Proofs.YtplomeacjbkgnabGreatDoor
