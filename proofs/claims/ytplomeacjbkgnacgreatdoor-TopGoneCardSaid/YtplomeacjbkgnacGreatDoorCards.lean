/-
  DERIVED. GIVEN WITH THE SEED: THE CARDS: each row of YtplomeacjbkgnacGreatDoorRows.lean that lists a variable, with what it lists TIED to the program's text (the seventh form; the later family's looks); each row that meets fmt, with fmt's text TOLD by the authors' own Lean function (tested against real Go, not proved from fmt's source: count such statements apart). THE CARD IS WHAT COUNTS. Prove the row's statement (the work); the ties are given (YtplomeacjbkgnacGreatDoorTie.lean); close each card by the builder's one call (the guide's Derived/Test/ToyasCard.lean, 'card_holds'). Laid BY PROGRAM, IN A SANDBOX (cutbox-door.mjs). By AI agents, Wed Nov 11 2026. No macro, syntax, notation, axiom, sorry.
-/
import Derived.Test.YtplomeacjbkgnacGreatDoorRows
import GoSem.ClaimSeven
namespace Go.Proofs.YtplomeacjbkgnacGreatDoor
namespace Rows

/-- THE TIED CARD OF 'coachhousetop.TopGone'. -/
def topGoneCard : Claim7 := { stood := { row := topGoneRow, standIns := [], harness := (true, "bd56d676e51e73361927aea1952544f42fdd892cc120df565b7c5351dcba568a"), looks := true }, kinds := [], alts := [], laidByText := true, laidKinds := [.data, .data, .data, .data, .sentinel, .sentinel, .pinned], laidTests := true, laidLooks := .later }
def TopGoneCardSaid : Prop := Claim7.holds Tryz.pinned (.plain (OpenSpec.ofChange topGoneSpec)) topGoneCard

/-- THE TIED CARD OF 'coachhousetop.TopNever'. -/
def topNeverCard : Claim7 := { stood := { row := topNeverRow, standIns := [], harness := (true, "bd56d676e51e73361927aea1952544f42fdd892cc120df565b7c5351dcba568a"), looks := true }, kinds := [], alts := [], laidByText := true, laidKinds := [.data, .data, .data, .data, .sentinel, .sentinel, .pinned], laidTests := true, laidLooks := .later }
def TopNeverCardSaid : Prop := Claim7.holds Tryz.pinned (.plain (OpenSpec.ofChange topNeverSpec)) topNeverCard

/-- THE TIED CARD OF 'coachhousetop.TopTicket'. -/
def topTicketCard : Claim7 := { stood := { row := topTicketRow, standIns := [], harness := (true, "bd56d676e51e73361927aea1952544f42fdd892cc120df565b7c5351dcba568a"), looks := true }, kinds := [], alts := [], laidByText := true, laidKinds := [.data, .data, .data, .data, .sentinel, .sentinel, .pinned], laidTests := true, laidLooks := .later }
def TopTicketCardSaid : Prop := Claim7.holds Tryz.pinned (.plain (OpenSpec.ofChange topTicketSpec)) topTicketCard

/-- THE TIED CARD OF 'coachhousetop.TopRight'. -/
def topRightCard : Claim7 := { stood := { row := topRightRow, standIns := [], harness := (true, "bd56d676e51e73361927aea1952544f42fdd892cc120df565b7c5351dcba568a"), looks := true }, kinds := [], alts := [], laidByText := true, laidKinds := [.data, .data, .data, .data, .sentinel, .sentinel, .pinned], laidTests := true, laidLooks := .later }
def TopRightCardSaid : Prop := Claim7.holds Tryz.pinned (.plain (OpenSpec.ofChange topRightSpec)) topRightCard

/-- THE TIED CARD OF 'coachhousetop.TopHome'. -/
def topHomeCard : Claim7 := { stood := { row := topHomeRow, standIns := [], harness := (true, "bd56d676e51e73361927aea1952544f42fdd892cc120df565b7c5351dcba568a"), looks := true }, kinds := [], alts := [], laidByText := true, laidKinds := [.data, .data, .data, .data, .sentinel, .sentinel, .pinned], laidTests := true, laidLooks := .later }
def TopHomeCardSaid : Prop := Claim7.holds Tryz.pinned (.plain (OpenSpec.ofChange topHomeSpec)) topHomeCard

/-- THE TIED CARD OF 'coachhousetop.TopRest'. -/
def topRestCard : Claim7 := { stood := { row := topRestRow, standIns := [], harness := (true, "bd56d676e51e73361927aea1952544f42fdd892cc120df565b7c5351dcba568a"), looks := true }, kinds := [], alts := [], laidByText := true, laidKinds := [.data, .data, .data, .data, .sentinel, .sentinel, .pinned], laidTests := true, laidLooks := .later }
def TopRestCardSaid : Prop := Claim7.holds Tryz.pinned (.plain (OpenSpec.ofChange topRestSpec)) topRestCard

/-- THE TIED CARD OF 'coachhousetop.TopFull'. -/
def topFullCard : Claim7 := { stood := { row := topFullRow, standIns := [], harness := (true, "bd56d676e51e73361927aea1952544f42fdd892cc120df565b7c5351dcba568a"), looks := true }, kinds := [], alts := [], laidByText := true, laidKinds := [.data, .data, .data, .data, .sentinel, .sentinel, .pinned], laidTests := true, laidLooks := .later }
def TopFullCardSaid : Prop := Claim7.holds Tryz.pinned (.plain (OpenSpec.ofChange topFullSpec)) topFullCard

/-- THE SECOND FORM's CARD OF 'coachhousetop.TopGone'. -/
def topGoneUptoCard : Claim7 := { stood := { row := topGoneUptoRow, standIns := [], harness := (true, "bd56d676e51e73361927aea1952544f42fdd892cc120df565b7c5351dcba568a"), looks := true }, kinds := [], alts := [], laidByText := true, laidKinds := [.data, .data, .data, .data, .sentinel, .sentinel, .pinned], laidTests := true, laidLooks := .later }
def TopGoneUptoCardSaid : Prop := Claim7.holds Tryz.pinned (.plain (OpenSpec.upto topGoneSpec)) topGoneUptoCard

/-- THE SECOND FORM's CARD OF 'coachhousetop.TopNever'. -/
def topNeverUptoCard : Claim7 := { stood := { row := topNeverUptoRow, standIns := [], harness := (true, "bd56d676e51e73361927aea1952544f42fdd892cc120df565b7c5351dcba568a"), looks := true }, kinds := [], alts := [], laidByText := true, laidKinds := [.data, .data, .data, .data, .sentinel, .sentinel, .pinned], laidTests := true, laidLooks := .later }
def TopNeverUptoCardSaid : Prop := Claim7.holds Tryz.pinned (.plain (OpenSpec.upto topNeverSpec)) topNeverUptoCard

/-- THE SECOND FORM's CARD OF 'coachhousetop.TopTicket'. -/
def topTicketUptoCard : Claim7 := { stood := { row := topTicketUptoRow, standIns := [], harness := (true, "bd56d676e51e73361927aea1952544f42fdd892cc120df565b7c5351dcba568a"), looks := true }, kinds := [], alts := [], laidByText := true, laidKinds := [.data, .data, .data, .data, .sentinel, .sentinel, .pinned], laidTests := true, laidLooks := .later }
def TopTicketUptoCardSaid : Prop := Claim7.holds Tryz.pinned (.plain (OpenSpec.upto topTicketSpec)) topTicketUptoCard

/-- THE SECOND FORM's CARD OF 'coachhousetop.TopRight'. -/
def topRightUptoCard : Claim7 := { stood := { row := topRightUptoRow, standIns := [], harness := (true, "bd56d676e51e73361927aea1952544f42fdd892cc120df565b7c5351dcba568a"), looks := true }, kinds := [], alts := [], laidByText := true, laidKinds := [.data, .data, .data, .data, .sentinel, .sentinel, .pinned], laidTests := true, laidLooks := .later }
def TopRightUptoCardSaid : Prop := Claim7.holds Tryz.pinned (.plain (OpenSpec.upto topRightSpec)) topRightUptoCard

/-- THE SECOND FORM's CARD OF 'coachhousetop.TopHome'. -/
def topHomeUptoCard : Claim7 := { stood := { row := topHomeUptoRow, standIns := [], harness := (true, "bd56d676e51e73361927aea1952544f42fdd892cc120df565b7c5351dcba568a"), looks := true }, kinds := [], alts := [], laidByText := true, laidKinds := [.data, .data, .data, .data, .sentinel, .sentinel, .pinned], laidTests := true, laidLooks := .later }
def TopHomeUptoCardSaid : Prop := Claim7.holds Tryz.pinned (.plain (OpenSpec.upto topHomeSpec)) topHomeUptoCard

/-- THE SECOND FORM's CARD OF 'coachhousetop.TopRest'. -/
def topRestUptoCard : Claim7 := { stood := { row := topRestUptoRow, standIns := [], harness := (true, "bd56d676e51e73361927aea1952544f42fdd892cc120df565b7c5351dcba568a"), looks := true }, kinds := [], alts := [], laidByText := true, laidKinds := [.data, .data, .data, .data, .sentinel, .sentinel, .pinned], laidTests := true, laidLooks := .later }
def TopRestUptoCardSaid : Prop := Claim7.holds Tryz.pinned (.plain (OpenSpec.upto topRestSpec)) topRestUptoCard

/-- THE SECOND FORM's CARD OF 'coachhousetop.TopFull'. -/
def topFullUptoCard : Claim7 := { stood := { row := topFullUptoRow, standIns := [], harness := (true, "bd56d676e51e73361927aea1952544f42fdd892cc120df565b7c5351dcba568a"), looks := true }, kinds := [], alts := [], laidByText := true, laidKinds := [.data, .data, .data, .data, .sentinel, .sentinel, .pinned], laidTests := true, laidLooks := .later }
def TopFullUptoCardSaid : Prop := Claim7.holds Tryz.pinned (.plain (OpenSpec.upto topFullSpec)) topFullUptoCard
end Rows
end Go.Proofs.YtplomeacjbkgnacGreatDoor
