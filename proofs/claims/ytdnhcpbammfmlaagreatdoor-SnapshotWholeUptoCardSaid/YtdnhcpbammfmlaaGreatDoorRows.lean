/-
  NARROWER THAN 'FOR EVERY INPUT', by the rows' own cells (each row's printed sentence says how): SnapshotBytes: laid · SnapshotDoes: laid · SnapshotWhole: laid.
  DERIVED. THE GIVEN ROWS OF THIS SEAT. 3 by the template 'for every input the law returns true; each argument reads behind the call as it read before'; 0 by the template 'total and deterministic' (their statements: YtdnhcpbammfmlaaGreatDoorTotals.lean).
  GIVEN WITH THE SEED: the statements are not yours to turn. If you find one false, say at which input.
  Laid BY PROGRAM, IN A SANDBOX (cutbox-rows.mjs): the forced cells as the released guide's own fill.sh prints them over the translation a83913a400217c7c… (all of the seat's roots in one cut). By AI agents, Wed Nov 11 2026. No macro, syntax, notation, axiom, sorry.
-/
import Derived.Test.YtdnhcpbammfmlaaGreatDoorChecked
import GoSem.Claim
import GoSem.ClaimJoined
import GoSem.ClaimMapViews
import Derived.JoinedTies
import Derived.KernelRfl
namespace Go.Proofs.YtdnhcpbammfmlaaGreatDoor
/- THE CELL 'sum', in the pinned program and in every row, IS THE sha256 OF THE DUMP (.gsa) THAT YtdnhcpbammfmlaaGreatDoorProg.lean LOADS. Nothing in Lean hashes anything: it is a label: what it is worth is what the hold of that sum in a sandbox is worth. -/
noncomputable def Tryz.pinned : Pinned := { name := "ytdnhcpbammfmlaagreatdoor", sum := "a83913a400217c7c0b612615a5f7ce838d6b9a1569a2024788fe7fd247814b43", checked := Tryz.checked }
namespace Rows
def none {H : Type} : Left H := { results := [], args := [] }

/- WHAT THE LISTED PACKAGE-LEVEL VARIABLES READ AS WHEN THE CALL BEGINS. Each datum BY PROGRAM (the guide's laid-datum.mjs) off the statement by which the dump's own 'gosem.cut.vars' lays the variable. In a bare row this is a premise. The card (YtdnhcpbammfmlaaGreatDoorCards.lean) ties it to the program's text. -/
def laid_errors_errorType {H : Type} : DataW H := .iface "internal/reflectlite.rtype" (.agg [.ptr (.lit (.string [101, 114, 114, 111, 114]))])

/-- 'butterylaw20.SnapshotBytes': WHATEVER THE INPUT: true; the input reads as it did. -/
def snapshotBytesSpec : ChangeSpec := { name := "snapshotBytes", fn := fun _ => fun
  | [d1, d2, d3] => { results := [.lit (.bool true)], args := [d1, d2, d3] }
  | _ => none }
def snapshotBytesRow : OpenClaim := { program := "ytdnhcpbammfmlaagreatdoor", sum := "a83913a400217c7c0b612615a5f7ce838d6b9a1569a2024788fe7fd247814b43", func := "buttery/butterylaw20.SnapshotBytes", spec := "snapshotBytes", inPlace := ["maps.clone", "internal/reflectlite.ValueOf", "(internal/reflectlite.Value).Type", "(internal/reflectlite.Value).IsNil", "internal/reflectlite.TypeOf", "(internal/reflectlite.Value).Elem", "(internal/reflectlite.Value).Set"], unfollowed := true, recurses := true, named := ["errors.errorType"], apart := false, laid := [("errors.errorType", laid_errors_errorType)] }
def SnapshotBytesSaid : Prop := snapshotBytesRow.holds Tryz.pinned (OpenSpec.ofChange snapshotBytesSpec)

/-- ITS FALSE NEIGHBOUR: 'it returns false'. Refute it at one input. -/
def snapshotBytesWrong : ChangeSpec := { name := "snapshotBytes", fn := fun _ => fun
  | [d1, d2, d3] => { results := [.lit (.bool false)], args := [d1, d2, d3] }
  | _ => none }
def SnapshotBytesWrongFalsely : Prop := snapshotBytesRow.holds Tryz.pinned (OpenSpec.ofChange snapshotBytesWrong)

/-- 'butterylaw20.SnapshotDoes': WHATEVER THE INPUT: true; the input reads as it did. -/
def snapshotDoesSpec : ChangeSpec := { name := "snapshotDoes", fn := fun _ => fun
  | [d1, d2, d3, d4] => { results := [.lit (.bool true)], args := [d1, d2, d3, d4] }
  | _ => none }
def snapshotDoesRow : OpenClaim := { program := "ytdnhcpbammfmlaagreatdoor", sum := "a83913a400217c7c0b612615a5f7ce838d6b9a1569a2024788fe7fd247814b43", func := "buttery/butterylaw20.SnapshotDoes", spec := "snapshotDoes", inPlace := ["maps.clone", "internal/reflectlite.ValueOf", "(internal/reflectlite.Value).Type", "(internal/reflectlite.Value).IsNil", "internal/reflectlite.TypeOf", "(internal/reflectlite.Value).Elem", "(internal/reflectlite.Value).Set"], unfollowed := true, recurses := true, named := ["errors.errorType"], apart := false, laid := [("errors.errorType", laid_errors_errorType)] }
def SnapshotDoesSaid : Prop := snapshotDoesRow.holds Tryz.pinned (OpenSpec.ofChange snapshotDoesSpec)

/-- ITS FALSE NEIGHBOUR: 'it returns false'. Refute it at one input. -/
def snapshotDoesWrong : ChangeSpec := { name := "snapshotDoes", fn := fun _ => fun
  | [d1, d2, d3, d4] => { results := [.lit (.bool false)], args := [d1, d2, d3, d4] }
  | _ => none }
def SnapshotDoesWrongFalsely : Prop := snapshotDoesRow.holds Tryz.pinned (OpenSpec.ofChange snapshotDoesWrong)

/-- 'butterylaw20.SnapshotWhole': WHATEVER THE INPUT: true; the input reads as it did. -/
def snapshotWholeSpec : ChangeSpec := { name := "snapshotWhole", fn := fun _ => fun
  | [d1, d2, d3, d4, d5] => { results := [.lit (.bool true)], args := [d1, d2, d3, d4, d5] }
  | _ => none }
def snapshotWholeRow : OpenClaim := { program := "ytdnhcpbammfmlaagreatdoor", sum := "a83913a400217c7c0b612615a5f7ce838d6b9a1569a2024788fe7fd247814b43", func := "buttery/butterylaw20.SnapshotWhole", spec := "snapshotWhole", inPlace := ["maps.clone", "internal/reflectlite.ValueOf", "(internal/reflectlite.Value).Type", "(internal/reflectlite.Value).IsNil", "internal/reflectlite.TypeOf", "(internal/reflectlite.Value).Elem", "(internal/reflectlite.Value).Set"], unfollowed := true, recurses := true, named := ["errors.errorType"], apart := false, laid := [("errors.errorType", laid_errors_errorType)] }
def SnapshotWholeSaid : Prop := snapshotWholeRow.holds Tryz.pinned (OpenSpec.ofChange snapshotWholeSpec)

/-- ITS FALSE NEIGHBOUR: 'it returns false'. Refute it at one input. -/
def snapshotWholeWrong : ChangeSpec := { name := "snapshotWhole", fn := fun _ => fun
  | [d1, d2, d3, d4, d5] => { results := [.lit (.bool false)], args := [d1, d2, d3, d4, d5] }
  | _ => none }
def SnapshotWholeWrongFalsely : Prop := snapshotWholeRow.holds Tryz.pinned (OpenSpec.ofChange snapshotWholeWrong)

/- THE SECOND FORM. 'bulk': how many values and letters a reading holds, each counted each time it is reached (what is shared counts as often as it is met; a slice's spare places count too). A statement '..UptoSaid' is the law's where the arguments, and the package variables that the reading takes, are together of bulk at most 1048576: NARROWER than '..Said'. Prove '..Said' where nothing that the law and all that it calls make is longer than what came in: it says more and counts as full. Else prove '..UptoSaid'. A law counts once. -/
mutual
def uptoBulk {H : Type} : DataW H → Nat
  | .lit (.string bytes) => bytes.length + 1
  | .lit _ => 1
  | .nil => 1
  | .ptr d => uptoBulk d + 1
  | .slice elems spare => uptoBulkAll elems + uptoBulkAll spare + 1
  | .agg parts => uptoBulkAll parts + 1
  | .iface _ d => uptoBulk d + 1
  | .map entries => uptoBulkEntries entries + 1
  | .held _ => 1
def uptoBulkAll {H : Type} : List (DataW H) → Nat
  | [] => 0
  | d :: r => uptoBulk d + uptoBulkAll r
def uptoBulkEntries {H : Type} : List (Lit × DataW H) → Nat
  | [] => 0
  | x :: r => uptoBulkEntry x + uptoBulkEntries r
def uptoBulkEntry {H : Type} : Lit × DataW H → Nat
  | (.string bytes, d) => bytes.length + uptoBulk d + 1
  | (_, d) => uptoBulk d + 1
 end
def uptoSmall : (H : Type) → List (DataW H) → Bool := fun _ ds => decide (uptoBulkAll ds ≤ 1048576)
def OpenSpec.upto (s : _root_.Go.ChangeSpec) : _root_.Go.OpenSpec := { _root_.Go.OpenSpec.ofChange s with cond := some uptoSmall }

/-- 'butterylaw20.SnapshotBytes', WHERE WHAT IT READS IS OF BULK AT MOST 1048576: true; the input reads as it did. -/
def snapshotBytesUptoRow : OpenClaim := { program := "ytdnhcpbammfmlaagreatdoor", sum := "a83913a400217c7c0b612615a5f7ce838d6b9a1569a2024788fe7fd247814b43", func := "buttery/butterylaw20.SnapshotBytes", spec := "snapshotBytes", inPlace := ["maps.clone", "internal/reflectlite.ValueOf", "(internal/reflectlite.Value).Type", "(internal/reflectlite.Value).IsNil", "internal/reflectlite.TypeOf", "(internal/reflectlite.Value).Elem", "(internal/reflectlite.Value).Set"], unfollowed := true, recurses := true, named := ["errors.errorType"], apart := false, laid := [("errors.errorType", laid_errors_errorType)], narrowed := true }
def SnapshotBytesUptoSaid : Prop := snapshotBytesUptoRow.holds Tryz.pinned (OpenSpec.upto snapshotBytesSpec)

/-- 'butterylaw20.SnapshotDoes', WHERE WHAT IT READS IS OF BULK AT MOST 1048576: true; the input reads as it did. -/
def snapshotDoesUptoRow : OpenClaim := { program := "ytdnhcpbammfmlaagreatdoor", sum := "a83913a400217c7c0b612615a5f7ce838d6b9a1569a2024788fe7fd247814b43", func := "buttery/butterylaw20.SnapshotDoes", spec := "snapshotDoes", inPlace := ["maps.clone", "internal/reflectlite.ValueOf", "(internal/reflectlite.Value).Type", "(internal/reflectlite.Value).IsNil", "internal/reflectlite.TypeOf", "(internal/reflectlite.Value).Elem", "(internal/reflectlite.Value).Set"], unfollowed := true, recurses := true, named := ["errors.errorType"], apart := false, laid := [("errors.errorType", laid_errors_errorType)], narrowed := true }
def SnapshotDoesUptoSaid : Prop := snapshotDoesUptoRow.holds Tryz.pinned (OpenSpec.upto snapshotDoesSpec)

/-- 'butterylaw20.SnapshotWhole', WHERE WHAT IT READS IS OF BULK AT MOST 1048576: true; the input reads as it did. -/
def snapshotWholeUptoRow : OpenClaim := { program := "ytdnhcpbammfmlaagreatdoor", sum := "a83913a400217c7c0b612615a5f7ce838d6b9a1569a2024788fe7fd247814b43", func := "buttery/butterylaw20.SnapshotWhole", spec := "snapshotWhole", inPlace := ["maps.clone", "internal/reflectlite.ValueOf", "(internal/reflectlite.Value).Type", "(internal/reflectlite.Value).IsNil", "internal/reflectlite.TypeOf", "(internal/reflectlite.Value).Elem", "(internal/reflectlite.Value).Set"], unfollowed := true, recurses := true, named := ["errors.errorType"], apart := false, laid := [("errors.errorType", laid_errors_errorType)], narrowed := true }
def SnapshotWholeUptoSaid : Prop := snapshotWholeUptoRow.holds Tryz.pinned (OpenSpec.upto snapshotWholeSpec)

end Rows
end Go.Proofs.YtdnhcpbammfmlaaGreatDoor
