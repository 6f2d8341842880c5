/-
  DERIVED. GIVEN WITH THE SEED: THE CARDS: each row of YtgpmfdmiffbgpaaGreatDoorRows.lean that lists a variable, with what it lists TIED to the program's text (the seventh form; the later family's looks); each row that meets fmt, with fmt's text TOLD by the authors' own Lean function (tested against real Go, not proved from fmt's source: count such statements apart). THE CARD IS WHAT COUNTS. Prove the row's statement (the work); the ties are given (YtgpmfdmiffbgpaaGreatDoorTie.lean); close each card by the builder's one call (the guide's Derived/Test/ToyasCard.lean, 'card_holds'). Laid BY PROGRAM, IN A SANDBOX (cutbox-door.mjs). By AI agents, Wed Nov 11 2026. No macro, syntax, notation, axiom, sorry.
-/
import Derived.Test.YtgpmfdmiffbgpaaGreatDoorRows
import GoSem.ClaimSeven
namespace Go.Proofs.YtgpmfdmiffbgpaaGreatDoor
namespace Rows

/-- THE TIED CARD OF 'butterylaw10.TicketTorn'. -/
def ticketTornCard : Claim7 := { stood := { row := ticketTornRow, standIns := [], harness := (true, "f783ca9e237ee84768a9b5b5958bbbe1fbe345cf10b57ab9fef39bbc73e1c1c2"), looks := true }, kinds := [], alts := [], laidByText := true, laidKinds := [.handle], laidTests := true, laidLooks := .later }
def TicketTornCardSaid : Prop := Claim7.holds Tryz.pinned (.plain (OpenSpec.ofChange ticketTornSpec)) ticketTornCard

/-- THE TIED CARD OF 'butterylaw10.TicketDoes'. -/
def ticketDoesCard : Claim7 := { stood := { row := ticketDoesRow, standIns := [], harness := (true, "f783ca9e237ee84768a9b5b5958bbbe1fbe345cf10b57ab9fef39bbc73e1c1c2"), looks := true }, kinds := [], alts := [], laidByText := true, laidKinds := [.handle], laidTests := true, laidLooks := .later }
def TicketDoesCardSaid : Prop := Claim7.holds Tryz.pinned (.plain (OpenSpec.ofChange ticketDoesSpec)) ticketDoesCard

/-- THE TIED CARD OF 'butterylaw10.TicketNew'. -/
def ticketNewCard : Claim7 := { stood := { row := ticketNewRow, standIns := [], harness := (true, "f783ca9e237ee84768a9b5b5958bbbe1fbe345cf10b57ab9fef39bbc73e1c1c2"), looks := true }, kinds := [], alts := [], laidByText := true, laidKinds := [.handle], laidTests := true, laidLooks := .later }
def TicketNewCardSaid : Prop := Claim7.holds Tryz.pinned (.plain (OpenSpec.ofChange ticketNewSpec)) ticketNewCard

/-- THE SECOND FORM's CARD OF 'butterylaw10.TicketTorn'. -/
def ticketTornUptoCard : Claim7 := { stood := { row := ticketTornUptoRow, standIns := [], harness := (true, "f783ca9e237ee84768a9b5b5958bbbe1fbe345cf10b57ab9fef39bbc73e1c1c2"), looks := true }, kinds := [], alts := [], laidByText := true, laidKinds := [.handle], laidTests := true, laidLooks := .later }
def TicketTornUptoCardSaid : Prop := Claim7.holds Tryz.pinned (.plain (OpenSpec.upto ticketTornSpec)) ticketTornUptoCard

/-- THE SECOND FORM's CARD OF 'butterylaw10.TicketDoes'. -/
def ticketDoesUptoCard : Claim7 := { stood := { row := ticketDoesUptoRow, standIns := [], harness := (true, "f783ca9e237ee84768a9b5b5958bbbe1fbe345cf10b57ab9fef39bbc73e1c1c2"), looks := true }, kinds := [], alts := [], laidByText := true, laidKinds := [.handle], laidTests := true, laidLooks := .later }
def TicketDoesUptoCardSaid : Prop := Claim7.holds Tryz.pinned (.plain (OpenSpec.upto ticketDoesSpec)) ticketDoesUptoCard

/-- THE SECOND FORM's CARD OF 'butterylaw10.TicketNew'. -/
def ticketNewUptoCard : Claim7 := { stood := { row := ticketNewUptoRow, standIns := [], harness := (true, "f783ca9e237ee84768a9b5b5958bbbe1fbe345cf10b57ab9fef39bbc73e1c1c2"), looks := true }, kinds := [], alts := [], laidByText := true, laidKinds := [.handle], laidTests := true, laidLooks := .later }
def TicketNewUptoCardSaid : Prop := Claim7.holds Tryz.pinned (.plain (OpenSpec.upto ticketNewSpec)) ticketNewUptoCard
end Rows
end Go.Proofs.YtgpmfdmiffbgpaaGreatDoor
