/-
  DERIVED. GIVEN WITH THE SEED: THE CARDS: each row of YtjppajaoekbkpaaGreatDoorRows.lean that lists a variable, with what it lists TIED to the program's text (the seventh form; the later family's looks); each row that meets fmt, with fmt's text TOLD by the authors' own Lean function (tested against real Go, not proved from fmt's source: count such statements apart). THE CARD IS WHAT COUNTS. Prove the row's statement (the work); the ties are given (YtjppajaoekbkpaaGreatDoorTie.lean); close each card by the builder's one call (the guide's Derived/Test/ToyasCard.lean, 'card_holds'). Laid BY PROGRAM, IN A SANDBOX (cutbox-door.mjs). By AI agents, Wed Nov 11 2026. No macro, syntax, notation, axiom, sorry.
-/
import Derived.Test.YtjppajaoekbkpaaGreatDoorRows
import GoSem.ClaimSeven
namespace Go.Proofs.YtjppajaoekbkpaaGreatDoor
namespace Rows

/-- THE TIED CARD OF 'butterylaw20.SnapshotBytes'. -/
def snapshotBytesCard : Claim7 := { stood := { row := snapshotBytesRow, standIns := [], harness := (true, "1d18e1b469902418a4dace76a2fae9a0473c5f26761cb74b7c410acc5b7a6f84"), looks := true }, kinds := [], alts := [], laidByText := true, laidKinds := [.handle], laidTests := true, laidLooks := .later }
def SnapshotBytesCardSaid : Prop := Claim7.holds Tryz.pinned (.plain (OpenSpec.ofChange snapshotBytesSpec)) snapshotBytesCard

/-- THE TIED CARD OF 'butterylaw20.SnapshotDoes'. -/
def snapshotDoesCard : Claim7 := { stood := { row := snapshotDoesRow, standIns := [], harness := (true, "1d18e1b469902418a4dace76a2fae9a0473c5f26761cb74b7c410acc5b7a6f84"), looks := true }, kinds := [], alts := [], laidByText := true, laidKinds := [.handle], laidTests := true, laidLooks := .later }
def SnapshotDoesCardSaid : Prop := Claim7.holds Tryz.pinned (.plain (OpenSpec.ofChange snapshotDoesSpec)) snapshotDoesCard

/-- THE TIED CARD OF 'butterylaw20.SnapshotWhole'. -/
def snapshotWholeCard : Claim7 := { stood := { row := snapshotWholeRow, standIns := [], harness := (true, "1d18e1b469902418a4dace76a2fae9a0473c5f26761cb74b7c410acc5b7a6f84"), looks := true }, kinds := [], alts := [], laidByText := true, laidKinds := [.handle], laidTests := true, laidLooks := .later }
def SnapshotWholeCardSaid : Prop := Claim7.holds Tryz.pinned (.plain (OpenSpec.ofChange snapshotWholeSpec)) snapshotWholeCard

/-- THE TIED CARD OF 'butterylaw13.SmallOpens'. -/
def smallOpensCard : Claim7 := { stood := { row := smallOpensRow, standIns := [], harness := (true, "1d18e1b469902418a4dace76a2fae9a0473c5f26761cb74b7c410acc5b7a6f84"), looks := true }, kinds := [], alts := [], laidByText := true, laidKinds := [.handle], laidTests := true, laidLooks := .later }
def SmallOpensCardSaid : Prop := Claim7.holds Tryz.pinned (.plain (OpenSpec.ofChange smallOpensSpec)) smallOpensCard

/-- THE TIED CARD OF 'butterylaw13.SmallGets'. -/
def smallGetsCard : Claim7 := { stood := { row := smallGetsRow, standIns := [], harness := (true, "1d18e1b469902418a4dace76a2fae9a0473c5f26761cb74b7c410acc5b7a6f84"), looks := true }, kinds := [], alts := [], laidByText := true, laidKinds := [.handle], laidTests := true, laidLooks := .later }
def SmallGetsCardSaid : Prop := Claim7.holds Tryz.pinned (.plain (OpenSpec.ofChange smallGetsSpec)) smallGetsCard

/-- THE TIED CARD OF 'butterylaw13.SmallDoes'. -/
def smallDoesCard : Claim7 := { stood := { row := smallDoesRow, standIns := [], harness := (true, "1d18e1b469902418a4dace76a2fae9a0473c5f26761cb74b7c410acc5b7a6f84"), looks := true }, kinds := [], alts := [], laidByText := true, laidKinds := [.handle], laidTests := true, laidLooks := .later }
def SmallDoesCardSaid : Prop := Claim7.holds Tryz.pinned (.plain (OpenSpec.ofChange smallDoesSpec)) smallDoesCard

/-- THE TIED CARD OF 'butterylaw13.SmallKeeps'. -/
def smallKeepsCard : Claim7 := { stood := { row := smallKeepsRow, standIns := [], harness := (true, "1d18e1b469902418a4dace76a2fae9a0473c5f26761cb74b7c410acc5b7a6f84"), looks := true }, kinds := [], alts := [], laidByText := true, laidKinds := [.handle], laidTests := true, laidLooks := .later }
def SmallKeepsCardSaid : Prop := Claim7.holds Tryz.pinned (.plain (OpenSpec.ofChange smallKeepsSpec)) smallKeepsCard

/-- THE SECOND FORM's CARD OF 'butterylaw20.SnapshotBytes'. -/
def snapshotBytesUptoCard : Claim7 := { stood := { row := snapshotBytesUptoRow, standIns := [], harness := (true, "1d18e1b469902418a4dace76a2fae9a0473c5f26761cb74b7c410acc5b7a6f84"), looks := true }, kinds := [], alts := [], laidByText := true, laidKinds := [.handle], laidTests := true, laidLooks := .later }
def SnapshotBytesUptoCardSaid : Prop := Claim7.holds Tryz.pinned (.plain (OpenSpec.upto snapshotBytesSpec)) snapshotBytesUptoCard

/-- THE SECOND FORM's CARD OF 'butterylaw20.SnapshotDoes'. -/
def snapshotDoesUptoCard : Claim7 := { stood := { row := snapshotDoesUptoRow, standIns := [], harness := (true, "1d18e1b469902418a4dace76a2fae9a0473c5f26761cb74b7c410acc5b7a6f84"), looks := true }, kinds := [], alts := [], laidByText := true, laidKinds := [.handle], laidTests := true, laidLooks := .later }
def SnapshotDoesUptoCardSaid : Prop := Claim7.holds Tryz.pinned (.plain (OpenSpec.upto snapshotDoesSpec)) snapshotDoesUptoCard

/-- THE SECOND FORM's CARD OF 'butterylaw20.SnapshotWhole'. -/
def snapshotWholeUptoCard : Claim7 := { stood := { row := snapshotWholeUptoRow, standIns := [], harness := (true, "1d18e1b469902418a4dace76a2fae9a0473c5f26761cb74b7c410acc5b7a6f84"), looks := true }, kinds := [], alts := [], laidByText := true, laidKinds := [.handle], laidTests := true, laidLooks := .later }
def SnapshotWholeUptoCardSaid : Prop := Claim7.holds Tryz.pinned (.plain (OpenSpec.upto snapshotWholeSpec)) snapshotWholeUptoCard

/-- THE SECOND FORM's CARD OF 'butterylaw13.SmallOpens'. -/
def smallOpensUptoCard : Claim7 := { stood := { row := smallOpensUptoRow, standIns := [], harness := (true, "1d18e1b469902418a4dace76a2fae9a0473c5f26761cb74b7c410acc5b7a6f84"), looks := true }, kinds := [], alts := [], laidByText := true, laidKinds := [.handle], laidTests := true, laidLooks := .later }
def SmallOpensUptoCardSaid : Prop := Claim7.holds Tryz.pinned (.plain (OpenSpec.upto smallOpensSpec)) smallOpensUptoCard

/-- THE SECOND FORM's CARD OF 'butterylaw13.SmallGets'. -/
def smallGetsUptoCard : Claim7 := { stood := { row := smallGetsUptoRow, standIns := [], harness := (true, "1d18e1b469902418a4dace76a2fae9a0473c5f26761cb74b7c410acc5b7a6f84"), looks := true }, kinds := [], alts := [], laidByText := true, laidKinds := [.handle], laidTests := true, laidLooks := .later }
def SmallGetsUptoCardSaid : Prop := Claim7.holds Tryz.pinned (.plain (OpenSpec.upto smallGetsSpec)) smallGetsUptoCard

/-- THE SECOND FORM's CARD OF 'butterylaw13.SmallDoes'. -/
def smallDoesUptoCard : Claim7 := { stood := { row := smallDoesUptoRow, standIns := [], harness := (true, "1d18e1b469902418a4dace76a2fae9a0473c5f26761cb74b7c410acc5b7a6f84"), looks := true }, kinds := [], alts := [], laidByText := true, laidKinds := [.handle], laidTests := true, laidLooks := .later }
def SmallDoesUptoCardSaid : Prop := Claim7.holds Tryz.pinned (.plain (OpenSpec.upto smallDoesSpec)) smallDoesUptoCard

/-- THE SECOND FORM's CARD OF 'butterylaw13.SmallKeeps'. -/
def smallKeepsUptoCard : Claim7 := { stood := { row := smallKeepsUptoRow, standIns := [], harness := (true, "1d18e1b469902418a4dace76a2fae9a0473c5f26761cb74b7c410acc5b7a6f84"), looks := true }, kinds := [], alts := [], laidByText := true, laidKinds := [.handle], laidTests := true, laidLooks := .later }
def SmallKeepsUptoCardSaid : Prop := Claim7.holds Tryz.pinned (.plain (OpenSpec.upto smallKeepsSpec)) smallKeepsUptoCard
end Rows
end Go.Proofs.YtjppajaoekbkpaaGreatDoor
