/-
  DERIVED. GIVEN WITH THE SEED: THE CARDS: each row of YtplomeacjbkgnadGreatDoorRows.lean that lists a variable, with what it lists TIED to the program's text (the seventh form; the later family's looks); each row that meets fmt, with fmt's text TOLD by the authors' own Lean function (tested against real Go, not proved from fmt's source: count such statements apart). THE CARD IS WHAT COUNTS. Prove the row's statement (the work); the ties are given (YtplomeacjbkgnadGreatDoorTie.lean); close each card by the builder's one call (the guide's Derived/Test/ToyasCard.lean, 'card_holds'). Laid BY PROGRAM, IN A SANDBOX (cutbox-door.mjs). By AI agents, Wed Nov 11 2026. No macro, syntax, notation, axiom, sorry.
-/
import Derived.Test.YtplomeacjbkgnadGreatDoorRows
import GoSem.ClaimSeven
namespace Go.Proofs.YtplomeacjbkgnadGreatDoor
namespace Rows

/-- THE TIED CARD OF 'coachhousetop.TopEnd'. -/
def topEndCard : Claim7 := { stood := { row := topEndRow, standIns := [], harness := (true, "6e5d02b922ae1391e8c815152375fe0607101d48277a1ce6aedf4ac5506c6585"), looks := true }, kinds := [], alts := [], laidByText := true, laidKinds := [.data, .data, .data, .data, .sentinel, .sentinel, .pinned], laidTests := true, laidLooks := .later }
def TopEndCardSaid : Prop := Claim7.holds Tryz.pinned (.plain (OpenSpec.ofChange topEndSpec)) topEndCard

/-- THE TIED CARD OF 'coachhousetop.TopFetched'. -/
def topFetchedCard : Claim7 := { stood := { row := topFetchedRow, standIns := [], harness := (true, "6e5d02b922ae1391e8c815152375fe0607101d48277a1ce6aedf4ac5506c6585"), looks := true }, kinds := [], alts := [], laidByText := true, laidKinds := [.data, .data, .data, .data, .sentinel, .sentinel, .pinned], laidTests := true, laidLooks := .later }
def TopFetchedCardSaid : Prop := Claim7.holds Tryz.pinned (.plain (OpenSpec.ofChange topFetchedSpec)) topFetchedCard

/-- THE TIED CARD OF 'coachhousetop.TopAgain'. -/
def topAgainCard : Claim7 := { stood := { row := topAgainRow, standIns := [], harness := (true, "6e5d02b922ae1391e8c815152375fe0607101d48277a1ce6aedf4ac5506c6585"), looks := true }, kinds := [], alts := [], laidByText := true, laidKinds := [.data, .data, .data, .data, .sentinel, .sentinel, .pinned], laidTests := true, laidLooks := .later }
def TopAgainCardSaid : Prop := Claim7.holds Tryz.pinned (.plain (OpenSpec.ofChange topAgainSpec)) topAgainCard

/-- THE TIED CARD OF 'coachhousetop.TopFall'. -/
def topFallCard : Claim7 := { stood := { row := topFallRow, standIns := [], harness := (true, "6e5d02b922ae1391e8c815152375fe0607101d48277a1ce6aedf4ac5506c6585"), looks := true }, kinds := [], alts := [], laidByText := true, laidKinds := [.data, .data, .data, .data, .sentinel, .sentinel, .pinned], laidTests := true, laidLooks := .later }
def TopFallCardSaid : Prop := Claim7.holds Tryz.pinned (.plain (OpenSpec.ofChange topFallSpec)) topFallCard

/-- THE SECOND FORM's CARD OF 'coachhousetop.TopEnd'. -/
def topEndUptoCard : Claim7 := { stood := { row := topEndUptoRow, standIns := [], harness := (true, "6e5d02b922ae1391e8c815152375fe0607101d48277a1ce6aedf4ac5506c6585"), looks := true }, kinds := [], alts := [], laidByText := true, laidKinds := [.data, .data, .data, .data, .sentinel, .sentinel, .pinned], laidTests := true, laidLooks := .later }
def TopEndUptoCardSaid : Prop := Claim7.holds Tryz.pinned (.plain (OpenSpec.upto topEndSpec)) topEndUptoCard

/-- THE SECOND FORM's CARD OF 'coachhousetop.TopFetched'. -/
def topFetchedUptoCard : Claim7 := { stood := { row := topFetchedUptoRow, standIns := [], harness := (true, "6e5d02b922ae1391e8c815152375fe0607101d48277a1ce6aedf4ac5506c6585"), looks := true }, kinds := [], alts := [], laidByText := true, laidKinds := [.data, .data, .data, .data, .sentinel, .sentinel, .pinned], laidTests := true, laidLooks := .later }
def TopFetchedUptoCardSaid : Prop := Claim7.holds Tryz.pinned (.plain (OpenSpec.upto topFetchedSpec)) topFetchedUptoCard

/-- THE SECOND FORM's CARD OF 'coachhousetop.TopAgain'. -/
def topAgainUptoCard : Claim7 := { stood := { row := topAgainUptoRow, standIns := [], harness := (true, "6e5d02b922ae1391e8c815152375fe0607101d48277a1ce6aedf4ac5506c6585"), looks := true }, kinds := [], alts := [], laidByText := true, laidKinds := [.data, .data, .data, .data, .sentinel, .sentinel, .pinned], laidTests := true, laidLooks := .later }
def TopAgainUptoCardSaid : Prop := Claim7.holds Tryz.pinned (.plain (OpenSpec.upto topAgainSpec)) topAgainUptoCard

/-- THE SECOND FORM's CARD OF 'coachhousetop.TopFall'. -/
def topFallUptoCard : Claim7 := { stood := { row := topFallUptoRow, standIns := [], harness := (true, "6e5d02b922ae1391e8c815152375fe0607101d48277a1ce6aedf4ac5506c6585"), looks := true }, kinds := [], alts := [], laidByText := true, laidKinds := [.data, .data, .data, .data, .sentinel, .sentinel, .pinned], laidTests := true, laidLooks := .later }
def TopFallUptoCardSaid : Prop := Claim7.holds Tryz.pinned (.plain (OpenSpec.upto topFallSpec)) topFallUptoCard
end Rows
end Go.Proofs.YtplomeacjbkgnadGreatDoor
