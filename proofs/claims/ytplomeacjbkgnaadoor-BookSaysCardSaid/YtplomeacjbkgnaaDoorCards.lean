/-
  DERIVED. GIVEN WITH THE SEED: THE CARDS: each row of YtplomeacjbkgnaaDoorRows.lean that lists a variable, with what it lists TIED to the program's text (the seventh form; the later family's looks); each row that meets fmt, with fmt's text TOLD by the authors' own Lean function (tested against real Go, not proved from fmt's source: count such statements apart). THE CARD IS WHAT COUNTS. Prove the row's statement (the work); the ties are given (YtplomeacjbkgnaaDoorTie.lean); close each card by the builder's one call (the guide's Derived/Test/ToyasCard.lean, 'card_holds'). Laid BY PROGRAM, IN A SANDBOX (cutbox-door.mjs). By AI agents, Wed Nov 11 2026. No macro, syntax, notation, axiom, sorry.
-/
import Derived.Test.YtplomeacjbkgnaaDoorRows
import GoSem.ClaimSeven
namespace Go.Proofs.YtplomeacjbkgnaaDoor
namespace Rows

/-- THE TIED CARD OF 'coachhouselaw.Names'. -/
def namesCard : Claim7 := { stood := { row := namesRow, standIns := [], harness := (true, "330fea5ccef331d9f373bb82daff8a2048fec1c7db25dd93fddfbdb7033304c7"), looks := true }, kinds := [], alts := [], laidByText := true, laidKinds := [.data, .data, .data], laidTests := true, laidLooks := .later }
def NamesCardSaid : Prop := Claim7.holds Tryd.pinned (.plain (OpenSpec.ofChange namesSpec)) namesCard

/-- THE TIED CARD OF 'coachhouselaw.BookSays'. -/
def bookSaysCard : Claim7 := { stood := { row := bookSaysRow, standIns := [], harness := (true, "330fea5ccef331d9f373bb82daff8a2048fec1c7db25dd93fddfbdb7033304c7"), looks := true }, kinds := [], alts := [], laidByText := true, laidKinds := [.data, .data, .data, .data, .sentinel, .sentinel, .pinned], laidTests := true, laidLooks := .later }
def BookSaysCardSaid : Prop := Claim7.holds Tryd.pinned (.plain (OpenSpec.ofChange bookSaysSpec)) bookSaysCard

/-- THE SECOND FORM's CARD OF 'coachhouselaw.Names'. -/
def namesUptoCard : Claim7 := { stood := { row := namesUptoRow, standIns := [], harness := (true, "330fea5ccef331d9f373bb82daff8a2048fec1c7db25dd93fddfbdb7033304c7"), looks := true }, kinds := [], alts := [], laidByText := true, laidKinds := [.data, .data, .data], laidTests := true, laidLooks := .later }
def NamesUptoCardSaid : Prop := Claim7.holds Tryd.pinned (.plain (OpenSpec.upto namesSpec)) namesUptoCard

/-- THE SECOND FORM's CARD OF 'coachhouselaw.BookSays'. -/
def bookSaysUptoCard : Claim7 := { stood := { row := bookSaysUptoRow, standIns := [], harness := (true, "330fea5ccef331d9f373bb82daff8a2048fec1c7db25dd93fddfbdb7033304c7"), looks := true }, kinds := [], alts := [], laidByText := true, laidKinds := [.data, .data, .data, .data, .sentinel, .sentinel, .pinned], laidTests := true, laidLooks := .later }
def BookSaysUptoCardSaid : Prop := Claim7.holds Tryd.pinned (.plain (OpenSpec.upto bookSaysSpec)) bookSaysUptoCard
end Rows
end Go.Proofs.YtplomeacjbkgnaaDoor
