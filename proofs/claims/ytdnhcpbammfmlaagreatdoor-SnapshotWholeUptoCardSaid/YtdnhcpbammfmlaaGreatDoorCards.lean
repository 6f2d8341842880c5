/-
  DERIVED. GIVEN WITH THE SEED: THE CARDS: each row of YtdnhcpbammfmlaaGreatDoorRows.lean that lists a variable, with what it lists TIED to the program's text (the seventh form; the later family's looks); each row that meets fmt, with fmt's text TOLD by the authors' own Lean function (tested against real Go, not proved from fmt's source: count such statements apart). THE CARD IS WHAT COUNTS. Prove the row's statement (the work); the ties are given (YtdnhcpbammfmlaaGreatDoorTie.lean); close each card by the builder's one call (the guide's Derived/Test/ToyasCard.lean, 'card_holds'). Laid BY PROGRAM, IN A SANDBOX (cutbox-door.mjs). By AI agents, Wed Nov 11 2026. No macro, syntax, notation, axiom, sorry.
-/
import Derived.Test.YtdnhcpbammfmlaaGreatDoorRows
import GoSem.ClaimSeven
namespace Go.Proofs.YtdnhcpbammfmlaaGreatDoor
namespace Rows

/-- THE TIED CARD OF 'butterylaw20.SnapshotBytes'. -/
def snapshotBytesCard : Claim7 := { stood := { row := snapshotBytesRow, standIns := [], harness := (true, "736df29eac0c845eef336ab8a5c51b2e2dbc1f1f35b603f099249f5a86056ee1"), looks := true }, kinds := [], alts := [], laidByText := true, laidKinds := [.handle], laidTests := true, laidLooks := .later }
def SnapshotBytesCardSaid : Prop := Claim7.holds Tryz.pinned (.plain (OpenSpec.ofChange snapshotBytesSpec)) snapshotBytesCard

/-- THE TIED CARD OF 'butterylaw20.SnapshotDoes'. -/
def snapshotDoesCard : Claim7 := { stood := { row := snapshotDoesRow, standIns := [], harness := (true, "736df29eac0c845eef336ab8a5c51b2e2dbc1f1f35b603f099249f5a86056ee1"), looks := true }, kinds := [], alts := [], laidByText := true, laidKinds := [.handle], laidTests := true, laidLooks := .later }
def SnapshotDoesCardSaid : Prop := Claim7.holds Tryz.pinned (.plain (OpenSpec.ofChange snapshotDoesSpec)) snapshotDoesCard

/-- THE TIED CARD OF 'butterylaw20.SnapshotWhole'. -/
def snapshotWholeCard : Claim7 := { stood := { row := snapshotWholeRow, standIns := [], harness := (true, "736df29eac0c845eef336ab8a5c51b2e2dbc1f1f35b603f099249f5a86056ee1"), looks := true }, kinds := [], alts := [], laidByText := true, laidKinds := [.handle], laidTests := true, laidLooks := .later }
def SnapshotWholeCardSaid : Prop := Claim7.holds Tryz.pinned (.plain (OpenSpec.ofChange snapshotWholeSpec)) snapshotWholeCard

/-- THE SECOND FORM's CARD OF 'butterylaw20.SnapshotBytes'. -/
def snapshotBytesUptoCard : Claim7 := { stood := { row := snapshotBytesUptoRow, standIns := [], harness := (true, "736df29eac0c845eef336ab8a5c51b2e2dbc1f1f35b603f099249f5a86056ee1"), looks := true }, kinds := [], alts := [], laidByText := true, laidKinds := [.handle], laidTests := true, laidLooks := .later }
def SnapshotBytesUptoCardSaid : Prop := Claim7.holds Tryz.pinned (.plain (OpenSpec.upto snapshotBytesSpec)) snapshotBytesUptoCard

/-- THE SECOND FORM's CARD OF 'butterylaw20.SnapshotDoes'. -/
def snapshotDoesUptoCard : Claim7 := { stood := { row := snapshotDoesUptoRow, standIns := [], harness := (true, "736df29eac0c845eef336ab8a5c51b2e2dbc1f1f35b603f099249f5a86056ee1"), looks := true }, kinds := [], alts := [], laidByText := true, laidKinds := [.handle], laidTests := true, laidLooks := .later }
def SnapshotDoesUptoCardSaid : Prop := Claim7.holds Tryz.pinned (.plain (OpenSpec.upto snapshotDoesSpec)) snapshotDoesUptoCard

/-- THE SECOND FORM's CARD OF 'butterylaw20.SnapshotWhole'. -/
def snapshotWholeUptoCard : Claim7 := { stood := { row := snapshotWholeUptoRow, standIns := [], harness := (true, "736df29eac0c845eef336ab8a5c51b2e2dbc1f1f35b603f099249f5a86056ee1"), looks := true }, kinds := [], alts := [], laidByText := true, laidKinds := [.handle], laidTests := true, laidLooks := .later }
def SnapshotWholeUptoCardSaid : Prop := Claim7.holds Tryz.pinned (.plain (OpenSpec.upto snapshotWholeSpec)) snapshotWholeUptoCard
end Rows
end Go.Proofs.YtdnhcpbammfmlaaGreatDoor
