/-
  DERIVED. GIVEN WITH THE SEED: THE CARDS: each row of YtlmahffjidgplaaGreatDoorRows.lean that lists a variable, with what it lists TIED to the program's text (the seventh form; the later family's looks); each row that meets fmt, with fmt's text TOLD by the authors' own Lean function (tested against real Go, not proved from fmt's source: count such statements apart). THE CARD IS WHAT COUNTS. Prove the row's statement (the work); the ties are given (YtlmahffjidgplaaGreatDoorTie.lean); close each card by the builder's one call (the guide's Derived/Test/ToyasCard.lean, 'card_holds'). Laid BY PROGRAM, IN A SANDBOX (cutbox-door.mjs). By AI agents, Wed Nov 11 2026. No macro, syntax, notation, axiom, sorry.
-/
import Derived.Test.YtlmahffjidgplaaGreatDoorRows
import GoSem.ClaimSeven
namespace Go.Proofs.YtlmahffjidgplaaGreatDoor
namespace Rows

/-- THE TIED CARD OF 'butterylaw17.LedgerRecords'. -/
def ledgerRecordsCard : Claim7 := { stood := { row := ledgerRecordsRow, standIns := [], harness := (true, "8709e152dce19fc8dc8368bb4be00e47b2270f3315ee50fd48b90f046e5e1fd5"), looks := true }, kinds := [], alts := [], laidByText := true, laidKinds := [.handle], laidTests := true, laidLooks := .later }
def LedgerRecordsCardSaid : Prop := Claim7.holds Tryz.pinned (.plain (OpenSpec.ofChange ledgerRecordsSpec)) ledgerRecordsCard

/-- THE TIED CARD OF 'butterylaw17.LedgerFloors'. -/
def ledgerFloorsCard : Claim7 := { stood := { row := ledgerFloorsRow, standIns := [], harness := (true, "8709e152dce19fc8dc8368bb4be00e47b2270f3315ee50fd48b90f046e5e1fd5"), looks := true }, kinds := [], alts := [], laidByText := true, laidKinds := [.handle], laidTests := true, laidLooks := .later }
def LedgerFloorsCardSaid : Prop := Claim7.holds Tryz.pinned (.plain (OpenSpec.ofChange ledgerFloorsSpec)) ledgerFloorsCard

/-- THE TIED CARD OF 'butterylaw17.LedgerDoes'. -/
def ledgerDoesCard : Claim7 := { stood := { row := ledgerDoesRow, standIns := [], harness := (true, "8709e152dce19fc8dc8368bb4be00e47b2270f3315ee50fd48b90f046e5e1fd5"), looks := true }, kinds := [], alts := [], laidByText := true, laidKinds := [.handle], laidTests := true, laidLooks := .later }
def LedgerDoesCardSaid : Prop := Claim7.holds Tryz.pinned (.plain (OpenSpec.ofChange ledgerDoesSpec)) ledgerDoesCard

/-- THE TIED CARD OF 'butterylaw17.LedgerKeeps'. -/
def ledgerKeepsCard : Claim7 := { stood := { row := ledgerKeepsRow, standIns := [], harness := (true, "8709e152dce19fc8dc8368bb4be00e47b2270f3315ee50fd48b90f046e5e1fd5"), looks := true }, kinds := [], alts := [], laidByText := true, laidKinds := [.handle], laidTests := true, laidLooks := .later }
def LedgerKeepsCardSaid : Prop := Claim7.holds Tryz.pinned (.plain (OpenSpec.ofChange ledgerKeepsSpec)) ledgerKeepsCard

/-- THE TIED CARD OF 'butterylaw13.SmallOpens'. -/
def smallOpensCard : Claim7 := { stood := { row := smallOpensRow, standIns := [], harness := (true, "8709e152dce19fc8dc8368bb4be00e47b2270f3315ee50fd48b90f046e5e1fd5"), looks := true }, kinds := [], alts := [], laidByText := true, laidKinds := [.handle], laidTests := true, laidLooks := .later }
def SmallOpensCardSaid : Prop := Claim7.holds Tryz.pinned (.plain (OpenSpec.ofChange smallOpensSpec)) smallOpensCard

/-- THE TIED CARD OF 'butterylaw13.SmallGets'. -/
def smallGetsCard : Claim7 := { stood := { row := smallGetsRow, standIns := [], harness := (true, "8709e152dce19fc8dc8368bb4be00e47b2270f3315ee50fd48b90f046e5e1fd5"), looks := true }, kinds := [], alts := [], laidByText := true, laidKinds := [.handle], laidTests := true, laidLooks := .later }
def SmallGetsCardSaid : Prop := Claim7.holds Tryz.pinned (.plain (OpenSpec.ofChange smallGetsSpec)) smallGetsCard

/-- THE TIED CARD OF 'butterylaw13.SmallDoes'. -/
def smallDoesCard : Claim7 := { stood := { row := smallDoesRow, standIns := [], harness := (true, "8709e152dce19fc8dc8368bb4be00e47b2270f3315ee50fd48b90f046e5e1fd5"), looks := true }, kinds := [], alts := [], laidByText := true, laidKinds := [.handle], laidTests := true, laidLooks := .later }
def SmallDoesCardSaid : Prop := Claim7.holds Tryz.pinned (.plain (OpenSpec.ofChange smallDoesSpec)) smallDoesCard

/-- THE TIED CARD OF 'butterylaw13.SmallKeeps'. -/
def smallKeepsCard : Claim7 := { stood := { row := smallKeepsRow, standIns := [], harness := (true, "8709e152dce19fc8dc8368bb4be00e47b2270f3315ee50fd48b90f046e5e1fd5"), looks := true }, kinds := [], alts := [], laidByText := true, laidKinds := [.handle], laidTests := true, laidLooks := .later }
def SmallKeepsCardSaid : Prop := Claim7.holds Tryz.pinned (.plain (OpenSpec.ofChange smallKeepsSpec)) smallKeepsCard

/-- THE SECOND FORM's CARD OF 'butterylaw17.LedgerRecords'. -/
def ledgerRecordsUptoCard : Claim7 := { stood := { row := ledgerRecordsUptoRow, standIns := [], harness := (true, "8709e152dce19fc8dc8368bb4be00e47b2270f3315ee50fd48b90f046e5e1fd5"), looks := true }, kinds := [], alts := [], laidByText := true, laidKinds := [.handle], laidTests := true, laidLooks := .later }
def LedgerRecordsUptoCardSaid : Prop := Claim7.holds Tryz.pinned (.plain (OpenSpec.upto ledgerRecordsSpec)) ledgerRecordsUptoCard

/-- THE SECOND FORM's CARD OF 'butterylaw17.LedgerFloors'. -/
def ledgerFloorsUptoCard : Claim7 := { stood := { row := ledgerFloorsUptoRow, standIns := [], harness := (true, "8709e152dce19fc8dc8368bb4be00e47b2270f3315ee50fd48b90f046e5e1fd5"), looks := true }, kinds := [], alts := [], laidByText := true, laidKinds := [.handle], laidTests := true, laidLooks := .later }
def LedgerFloorsUptoCardSaid : Prop := Claim7.holds Tryz.pinned (.plain (OpenSpec.upto ledgerFloorsSpec)) ledgerFloorsUptoCard

/-- THE SECOND FORM's CARD OF 'butterylaw17.LedgerDoes'. -/
def ledgerDoesUptoCard : Claim7 := { stood := { row := ledgerDoesUptoRow, standIns := [], harness := (true, "8709e152dce19fc8dc8368bb4be00e47b2270f3315ee50fd48b90f046e5e1fd5"), looks := true }, kinds := [], alts := [], laidByText := true, laidKinds := [.handle], laidTests := true, laidLooks := .later }
def LedgerDoesUptoCardSaid : Prop := Claim7.holds Tryz.pinned (.plain (OpenSpec.upto ledgerDoesSpec)) ledgerDoesUptoCard

/-- THE SECOND FORM's CARD OF 'butterylaw17.LedgerKeeps'. -/
def ledgerKeepsUptoCard : Claim7 := { stood := { row := ledgerKeepsUptoRow, standIns := [], harness := (true, "8709e152dce19fc8dc8368bb4be00e47b2270f3315ee50fd48b90f046e5e1fd5"), looks := true }, kinds := [], alts := [], laidByText := true, laidKinds := [.handle], laidTests := true, laidLooks := .later }
def LedgerKeepsUptoCardSaid : Prop := Claim7.holds Tryz.pinned (.plain (OpenSpec.upto ledgerKeepsSpec)) ledgerKeepsUptoCard

/-- THE SECOND FORM's CARD OF 'butterylaw13.SmallOpens'. -/
def smallOpensUptoCard : Claim7 := { stood := { row := smallOpensUptoRow, standIns := [], harness := (true, "8709e152dce19fc8dc8368bb4be00e47b2270f3315ee50fd48b90f046e5e1fd5"), looks := true }, kinds := [], alts := [], laidByText := true, laidKinds := [.handle], laidTests := true, laidLooks := .later }
def SmallOpensUptoCardSaid : Prop := Claim7.holds Tryz.pinned (.plain (OpenSpec.upto smallOpensSpec)) smallOpensUptoCard

/-- THE SECOND FORM's CARD OF 'butterylaw13.SmallGets'. -/
def smallGetsUptoCard : Claim7 := { stood := { row := smallGetsUptoRow, standIns := [], harness := (true, "8709e152dce19fc8dc8368bb4be00e47b2270f3315ee50fd48b90f046e5e1fd5"), looks := true }, kinds := [], alts := [], laidByText := true, laidKinds := [.handle], laidTests := true, laidLooks := .later }
def SmallGetsUptoCardSaid : Prop := Claim7.holds Tryz.pinned (.plain (OpenSpec.upto smallGetsSpec)) smallGetsUptoCard

/-- THE SECOND FORM's CARD OF 'butterylaw13.SmallDoes'. -/
def smallDoesUptoCard : Claim7 := { stood := { row := smallDoesUptoRow, standIns := [], harness := (true, "8709e152dce19fc8dc8368bb4be00e47b2270f3315ee50fd48b90f046e5e1fd5"), looks := true }, kinds := [], alts := [], laidByText := true, laidKinds := [.handle], laidTests := true, laidLooks := .later }
def SmallDoesUptoCardSaid : Prop := Claim7.holds Tryz.pinned (.plain (OpenSpec.upto smallDoesSpec)) smallDoesUptoCard

/-- THE SECOND FORM's CARD OF 'butterylaw13.SmallKeeps'. -/
def smallKeepsUptoCard : Claim7 := { stood := { row := smallKeepsUptoRow, standIns := [], harness := (true, "8709e152dce19fc8dc8368bb4be00e47b2270f3315ee50fd48b90f046e5e1fd5"), looks := true }, kinds := [], alts := [], laidByText := true, laidKinds := [.handle], laidTests := true, laidLooks := .later }
def SmallKeepsUptoCardSaid : Prop := Claim7.holds Tryz.pinned (.plain (OpenSpec.upto smallKeepsSpec)) smallKeepsUptoCard
end Rows
end Go.Proofs.YtlmahffjidgplaaGreatDoor
