/-
  NARROWER THAN 'FOR EVERY INPUT', by the rows' own cells (each row's printed sentence says how): TicketTorn: laid · TicketDoes: laid · TicketNew: laid.
  DERIVED. THE GIVEN ROWS OF THIS SEAT. 3 by the template 'for every input the law returns true; each argument reads behind the call as it read before'; 0 by the template 'total and deterministic' (their statements: YtgpmfdmiffbgpaaGreatDoorTotals.lean).
  GIVEN WITH THE SEED: the statements are not yours to turn. If you find one false, say at which input.
  Laid BY PROGRAM, IN A SANDBOX (cutbox-rows.mjs): the forced cells as the released guide's own fill.sh prints them over the translation 67d7f95ff250a43a… (all of the seat's roots in one cut). By AI agents, Wed Nov 11 2026. No macro, syntax, notation, axiom, sorry.
-/
import Derived.Test.YtgpmfdmiffbgpaaGreatDoorChecked
import GoSem.Claim
import GoSem.ClaimJoined
import GoSem.ClaimMapViews
import Derived.JoinedTies
import Derived.KernelRfl
namespace Go.Proofs.YtgpmfdmiffbgpaaGreatDoor
/- THE CELL 'sum', in the pinned program and in every row, IS THE sha256 OF THE DUMP (.gsa) THAT YtgpmfdmiffbgpaaGreatDoorProg.lean LOADS. Nothing in Lean hashes anything: it is a label: what it is worth is what the hold of that sum in a sandbox is worth. -/
noncomputable def Tryz.pinned : Pinned := { name := "ytgpmfdmiffbgpaagreatdoor", sum := "67d7f95ff250a43a033e2d575a181b5bec209da7b2f949795415a5090af27aab", checked := Tryz.checked }
namespace Rows
def none {H : Type} : Left H := { results := [], args := [] }

/- WHAT THE LISTED PACKAGE-LEVEL VARIABLES READ AS WHEN THE CALL BEGINS. Each datum BY PROGRAM (the guide's laid-datum.mjs) off the statement by which the dump's own 'gosem.cut.vars' lays the variable. In a bare row this is a premise. The card (YtgpmfdmiffbgpaaGreatDoorCards.lean) ties it to the program's text. -/
def laid_errors_errorType {H : Type} : DataW H := .iface "internal/reflectlite.rtype" (.agg [.ptr (.lit (.string [101, 114, 114, 111, 114]))])

/-- 'butterylaw10.TicketTorn': WHATEVER THE INPUT: true; the input reads as it did. -/
def ticketTornSpec : ChangeSpec := { name := "ticketTorn", fn := fun _ => fun
  | [d1, d2, d3] => { results := [.lit (.bool true)], args := [d1, d2, d3] }
  | _ => none }
def ticketTornRow : OpenClaim := { program := "ytgpmfdmiffbgpaagreatdoor", sum := "67d7f95ff250a43a033e2d575a181b5bec209da7b2f949795415a5090af27aab", func := "buttery/butterylaw10.TicketTorn", spec := "ticketTorn", inPlace := ["maps.clone", "internal/reflectlite.ValueOf", "(internal/reflectlite.Value).Type", "(internal/reflectlite.Value).IsNil", "internal/reflectlite.TypeOf", "(internal/reflectlite.Value).Elem", "(internal/reflectlite.Value).Set"], unfollowed := true, recurses := true, named := ["errors.errorType"], apart := false, laid := [("errors.errorType", laid_errors_errorType)] }
def TicketTornSaid : Prop := ticketTornRow.holds Tryz.pinned (OpenSpec.ofChange ticketTornSpec)

/-- ITS FALSE NEIGHBOUR: 'it returns false'. Refute it at one input. -/
def ticketTornWrong : ChangeSpec := { name := "ticketTorn", fn := fun _ => fun
  | [d1, d2, d3] => { results := [.lit (.bool false)], args := [d1, d2, d3] }
  | _ => none }
def TicketTornWrongFalsely : Prop := ticketTornRow.holds Tryz.pinned (OpenSpec.ofChange ticketTornWrong)

/-- 'butterylaw10.TicketDoes': WHATEVER THE INPUT: true; the input reads as it did. -/
def ticketDoesSpec : ChangeSpec := { name := "ticketDoes", fn := fun _ => fun
  | [d] => { results := [.lit (.bool true)], args := [d] }
  | _ => none }
def ticketDoesRow : OpenClaim := { program := "ytgpmfdmiffbgpaagreatdoor", sum := "67d7f95ff250a43a033e2d575a181b5bec209da7b2f949795415a5090af27aab", func := "buttery/butterylaw10.TicketDoes", spec := "ticketDoes", inPlace := ["maps.clone", "internal/reflectlite.ValueOf", "(internal/reflectlite.Value).Type", "(internal/reflectlite.Value).IsNil", "internal/reflectlite.TypeOf", "(internal/reflectlite.Value).Elem", "(internal/reflectlite.Value).Set"], unfollowed := true, recurses := true, named := ["errors.errorType"], apart := false, laid := [("errors.errorType", laid_errors_errorType)] }
def TicketDoesSaid : Prop := ticketDoesRow.holds Tryz.pinned (OpenSpec.ofChange ticketDoesSpec)

/-- ITS FALSE NEIGHBOUR: 'it returns false'. Refute it at one input. -/
def ticketDoesWrong : ChangeSpec := { name := "ticketDoes", fn := fun _ => fun
  | [d] => { results := [.lit (.bool false)], args := [d] }
  | _ => none }
def TicketDoesWrongFalsely : Prop := ticketDoesRow.holds Tryz.pinned (OpenSpec.ofChange ticketDoesWrong)

/-- 'butterylaw10.TicketNew': WHATEVER THE INPUT: true; the input reads as it did. -/
def ticketNewSpec : ChangeSpec := { name := "ticketNew", fn := fun _ => fun
  | [d1, d2, d3, d4] => { results := [.lit (.bool true)], args := [d1, d2, d3, d4] }
  | _ => none }
def ticketNewRow : OpenClaim := { program := "ytgpmfdmiffbgpaagreatdoor", sum := "67d7f95ff250a43a033e2d575a181b5bec209da7b2f949795415a5090af27aab", func := "buttery/butterylaw10.TicketNew", spec := "ticketNew", inPlace := ["maps.clone", "internal/reflectlite.ValueOf", "(internal/reflectlite.Value).Type", "(internal/reflectlite.Value).IsNil", "internal/reflectlite.TypeOf", "(internal/reflectlite.Value).Elem", "(internal/reflectlite.Value).Set"], unfollowed := true, recurses := true, named := ["errors.errorType"], apart := false, laid := [("errors.errorType", laid_errors_errorType)] }
def TicketNewSaid : Prop := ticketNewRow.holds Tryz.pinned (OpenSpec.ofChange ticketNewSpec)

/-- ITS FALSE NEIGHBOUR: 'it returns false'. Refute it at one input. -/
def ticketNewWrong : ChangeSpec := { name := "ticketNew", fn := fun _ => fun
  | [d1, d2, d3, d4] => { results := [.lit (.bool false)], args := [d1, d2, d3, d4] }
  | _ => none }
def TicketNewWrongFalsely : Prop := ticketNewRow.holds Tryz.pinned (OpenSpec.ofChange ticketNewWrong)

/- THE SECOND FORM. 'bulk': how many values and letters a reading holds, each counted each time it is reached (what is shared counts as often as it is met; a slice's spare places count too). A statement '..UptoSaid' is the law's where the arguments, and the package variables that the reading takes, are together of bulk at most 1048576: NARROWER than '..Said'. Prove '..Said' where nothing that the law and all that it calls make is longer than what came in: it says more and counts as full. Else prove '..UptoSaid'. A law counts once. -/
mutual
def uptoBulk {H : Type} : DataW H → Nat
  | .lit (.string bytes) => bytes.length + 1
  | .lit _ => 1
  | .nil => 1
  | .ptr d => uptoBulk d + 1
  | .slice elems spare => uptoBulkAll elems + uptoBulkAll spare + 1
  | .agg parts => uptoBulkAll parts + 1
  | .iface _ d => uptoBulk d + 1
  | .map entries => uptoBulkEntries entries + 1
  | .held _ => 1
def uptoBulkAll {H : Type} : List (DataW H) → Nat
  | [] => 0
  | d :: r => uptoBulk d + uptoBulkAll r
def uptoBulkEntries {H : Type} : List (Lit × DataW H) → Nat
  | [] => 0
  | x :: r => uptoBulkEntry x + uptoBulkEntries r
def uptoBulkEntry {H : Type} : Lit × DataW H → Nat
  | (.string bytes, d) => bytes.length + uptoBulk d + 1
  | (_, d) => uptoBulk d + 1
 end
def uptoSmall : (H : Type) → List (DataW H) → Bool := fun _ ds => decide (uptoBulkAll ds ≤ 1048576)
def OpenSpec.upto (s : _root_.Go.ChangeSpec) : _root_.Go.OpenSpec := { _root_.Go.OpenSpec.ofChange s with cond := some uptoSmall }

/-- 'butterylaw10.TicketTorn', WHERE WHAT IT READS IS OF BULK AT MOST 1048576: true; the input reads as it did. -/
def ticketTornUptoRow : OpenClaim := { program := "ytgpmfdmiffbgpaagreatdoor", sum := "67d7f95ff250a43a033e2d575a181b5bec209da7b2f949795415a5090af27aab", func := "buttery/butterylaw10.TicketTorn", spec := "ticketTorn", inPlace := ["maps.clone", "internal/reflectlite.ValueOf", "(internal/reflectlite.Value).Type", "(internal/reflectlite.Value).IsNil", "internal/reflectlite.TypeOf", "(internal/reflectlite.Value).Elem", "(internal/reflectlite.Value).Set"], unfollowed := true, recurses := true, named := ["errors.errorType"], apart := false, laid := [("errors.errorType", laid_errors_errorType)], narrowed := true }
def TicketTornUptoSaid : Prop := ticketTornUptoRow.holds Tryz.pinned (OpenSpec.upto ticketTornSpec)

/-- 'butterylaw10.TicketDoes', WHERE WHAT IT READS IS OF BULK AT MOST 1048576: true; the input reads as it did. -/
def ticketDoesUptoRow : OpenClaim := { program := "ytgpmfdmiffbgpaagreatdoor", sum := "67d7f95ff250a43a033e2d575a181b5bec209da7b2f949795415a5090af27aab", func := "buttery/butterylaw10.TicketDoes", spec := "ticketDoes", inPlace := ["maps.clone", "internal/reflectlite.ValueOf", "(internal/reflectlite.Value).Type", "(internal/reflectlite.Value).IsNil", "internal/reflectlite.TypeOf", "(internal/reflectlite.Value).Elem", "(internal/reflectlite.Value).Set"], unfollowed := true, recurses := true, named := ["errors.errorType"], apart := false, laid := [("errors.errorType", laid_errors_errorType)], narrowed := true }
def TicketDoesUptoSaid : Prop := ticketDoesUptoRow.holds Tryz.pinned (OpenSpec.upto ticketDoesSpec)

/-- 'butterylaw10.TicketNew', WHERE WHAT IT READS IS OF BULK AT MOST 1048576: true; the input reads as it did. -/
def ticketNewUptoRow : OpenClaim := { program := "ytgpmfdmiffbgpaagreatdoor", sum := "67d7f95ff250a43a033e2d575a181b5bec209da7b2f949795415a5090af27aab", func := "buttery/butterylaw10.TicketNew", spec := "ticketNew", inPlace := ["maps.clone", "internal/reflectlite.ValueOf", "(internal/reflectlite.Value).Type", "(internal/reflectlite.Value).IsNil", "internal/reflectlite.TypeOf", "(internal/reflectlite.Value).Elem", "(internal/reflectlite.Value).Set"], unfollowed := true, recurses := true, named := ["errors.errorType"], apart := false, laid := [("errors.errorType", laid_errors_errorType)], narrowed := true }
def TicketNewUptoSaid : Prop := ticketNewUptoRow.holds Tryz.pinned (OpenSpec.upto ticketNewSpec)

end Rows
end Go.Proofs.YtgpmfdmiffbgpaaGreatDoor
