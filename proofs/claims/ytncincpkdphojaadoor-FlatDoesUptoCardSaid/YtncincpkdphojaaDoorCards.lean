/-
  DERIVED. GIVEN WITH THE SEED: THE CARDS: each row of YtncincpkdphojaaDoorRows.lean that lists a variable, with what it lists TIED to the program's text (the seventh form; the later family's looks); each row that meets fmt, with fmt's text TOLD by the authors' own Lean function (tested against real Go, not proved from fmt's source: count such statements apart). THE CARD IS WHAT COUNTS. Prove the row's statement (the work); the ties are given (YtncincpkdphojaaDoorTie.lean); close each card by the builder's one call (the guide's Derived/Test/ToyasCard.lean, 'card_holds'). Laid BY PROGRAM, IN A SANDBOX (cutbox-door.mjs). By AI agents, Wed Nov 11 2026. No macro, syntax, notation, axiom, sorry.
-/
import Derived.Test.YtncincpkdphojaaDoorRows
import GoSem.ClaimSeven
namespace Go.Proofs.YtncincpkdphojaaDoor
namespace Rows

/-- THE TIED CARD OF 'butterylaw33.FlatDoes'. -/
def flatDoesCard : Claim7 := { stood := { row := flatDoesRow, standIns := [], harness := (true, "e248496ea4c800e70de574e48cb44a3e0646219b930985d2debf8d1d75388387"), looks := true }, kinds := [], alts := [], laidByText := true, laidKinds := [.handle], laidTests := true, laidLooks := .later }
def FlatDoesCardSaid : Prop := Claim7.holds Tryd.pinned (.plain (OpenSpec.ofChange flatDoesSpec)) flatDoesCard

/-- THE TIED CARD OF 'butterylaw33.FlatKeeps'. -/
def flatKeepsCard : Claim7 := { stood := { row := flatKeepsRow, standIns := [], harness := (true, "e248496ea4c800e70de574e48cb44a3e0646219b930985d2debf8d1d75388387"), looks := true }, kinds := [], alts := [], laidByText := true, laidKinds := [.handle], laidTests := true, laidLooks := .later }
def FlatKeepsCardSaid : Prop := Claim7.holds Tryd.pinned (.plain (OpenSpec.ofChange flatKeepsSpec)) flatKeepsCard

/-- THE SECOND FORM's CARD OF 'butterylaw33.FlatDoes'. -/
def flatDoesUptoCard : Claim7 := { stood := { row := flatDoesUptoRow, standIns := [], harness := (true, "e248496ea4c800e70de574e48cb44a3e0646219b930985d2debf8d1d75388387"), looks := true }, kinds := [], alts := [], laidByText := true, laidKinds := [.handle], laidTests := true, laidLooks := .later }
def FlatDoesUptoCardSaid : Prop := Claim7.holds Tryd.pinned (.plain (OpenSpec.upto flatDoesSpec)) flatDoesUptoCard

/-- THE SECOND FORM's CARD OF 'butterylaw33.FlatKeeps'. -/
def flatKeepsUptoCard : Claim7 := { stood := { row := flatKeepsUptoRow, standIns := [], harness := (true, "e248496ea4c800e70de574e48cb44a3e0646219b930985d2debf8d1d75388387"), looks := true }, kinds := [], alts := [], laidByText := true, laidKinds := [.handle], laidTests := true, laidLooks := .later }
def FlatKeepsUptoCardSaid : Prop := Claim7.holds Tryd.pinned (.plain (OpenSpec.upto flatKeepsSpec)) flatKeepsUptoCard
end Rows
end Go.Proofs.YtncincpkdphojaaDoor
