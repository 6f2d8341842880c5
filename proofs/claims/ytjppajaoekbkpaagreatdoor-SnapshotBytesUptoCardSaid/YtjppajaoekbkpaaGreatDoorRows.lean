/-
  NARROWER THAN 'FOR EVERY INPUT', by the rows' own cells (each row's printed sentence says how): SnapshotBytes: laid · SnapshotDoes: laid · SnapshotWhole: laid · SmallOpens: laid · SmallGets: laid · SmallDoes: laid · SmallKeeps: laid.
  DERIVED. THE GIVEN ROWS OF THIS SEAT. 7 by the template 'for every input the law returns true; each argument reads behind the call as it read before'; 0 by the template 'total and deterministic' (their statements: YtjppajaoekbkpaaGreatDoorTotals.lean).
  GIVEN WITH THE SEED: the statements are not yours to turn. If you find one false, say at which input.
  Laid BY PROGRAM, IN A SANDBOX (cutbox-rows.mjs): the forced cells as the released guide's own fill.sh prints them over the translation 932d734fd37b9c33… (all of the seat's roots in one cut). By AI agents, Wed Nov 11 2026. No macro, syntax, notation, axiom, sorry.
-/
import Derived.Test.YtjppajaoekbkpaaGreatDoorChecked
import GoSem.Claim
import GoSem.ClaimJoined
import GoSem.ClaimMapViews
import Derived.JoinedTies
import Derived.KernelRfl
namespace Go.Proofs.YtjppajaoekbkpaaGreatDoor
/- THE CELL 'sum', in the pinned program and in every row, IS THE sha256 OF THE DUMP (.gsa) THAT YtjppajaoekbkpaaGreatDoorProg.lean LOADS. Nothing in Lean hashes anything: it is a label: what it is worth is what the hold of that sum in a sandbox is worth. -/
noncomputable def Tryz.pinned : Pinned := { name := "ytjppajaoekbkpaagreatdoor", sum := "932d734fd37b9c33f0b71deaa8f0511d853b1f212df90fd00b5bde371d53083d", checked := Tryz.checked }
namespace Rows
def none {H : Type} : Left H := { results := [], args := [] }

/- WHAT THE LISTED PACKAGE-LEVEL VARIABLES READ AS WHEN THE CALL BEGINS. Each datum BY PROGRAM (the guide's laid-datum.mjs) off the statement by which the dump's own 'gosem.cut.vars' lays the variable. In a bare row this is a premise. The card (YtjppajaoekbkpaaGreatDoorCards.lean) ties it to the program's text. -/
def laid_errors_errorType {H : Type} : DataW H := .iface "internal/reflectlite.rtype" (.agg [.ptr (.lit (.string [101, 114, 114, 111, 114]))])

/-- 'butterylaw20.SnapshotBytes': WHATEVER THE INPUT: true; the input reads as it did. -/
def snapshotBytesSpec : ChangeSpec := { name := "snapshotBytes", fn := fun _ => fun
  | [d1, d2, d3] => { results := [.lit (.bool true)], args := [d1, d2, d3] }
  | _ => none }
def snapshotBytesRow : OpenClaim := { program := "ytjppajaoekbkpaagreatdoor", sum := "932d734fd37b9c33f0b71deaa8f0511d853b1f212df90fd00b5bde371d53083d", func := "buttery/butterylaw20.SnapshotBytes", spec := "snapshotBytes", inPlace := ["maps.clone", "internal/reflectlite.ValueOf", "(internal/reflectlite.Value).Type", "(internal/reflectlite.Value).IsNil", "internal/reflectlite.TypeOf", "(internal/reflectlite.Value).Elem", "(internal/reflectlite.Value).Set"], unfollowed := true, recurses := true, named := ["errors.errorType"], apart := false, laid := [("errors.errorType", laid_errors_errorType)] }
def SnapshotBytesSaid : Prop := snapshotBytesRow.holds Tryz.pinned (OpenSpec.ofChange snapshotBytesSpec)

/-- ITS FALSE NEIGHBOUR: 'it returns false'. Refute it at one input. -/
def snapshotBytesWrong : ChangeSpec := { name := "snapshotBytes", fn := fun _ => fun
  | [d1, d2, d3] => { results := [.lit (.bool false)], args := [d1, d2, d3] }
  | _ => none }
def SnapshotBytesWrongFalsely : Prop := snapshotBytesRow.holds Tryz.pinned (OpenSpec.ofChange snapshotBytesWrong)

/-- 'butterylaw20.SnapshotDoes': WHATEVER THE INPUT: true; the input reads as it did. -/
def snapshotDoesSpec : ChangeSpec := { name := "snapshotDoes", fn := fun _ => fun
  | [d1, d2, d3, d4] => { results := [.lit (.bool true)], args := [d1, d2, d3, d4] }
  | _ => none }
def snapshotDoesRow : OpenClaim := { program := "ytjppajaoekbkpaagreatdoor", sum := "932d734fd37b9c33f0b71deaa8f0511d853b1f212df90fd00b5bde371d53083d", func := "buttery/butterylaw20.SnapshotDoes", spec := "snapshotDoes", inPlace := ["maps.clone", "internal/reflectlite.ValueOf", "(internal/reflectlite.Value).Type", "(internal/reflectlite.Value).IsNil", "internal/reflectlite.TypeOf", "(internal/reflectlite.Value).Elem", "(internal/reflectlite.Value).Set"], unfollowed := true, recurses := true, named := ["errors.errorType"], apart := false, laid := [("errors.errorType", laid_errors_errorType)] }
def SnapshotDoesSaid : Prop := snapshotDoesRow.holds Tryz.pinned (OpenSpec.ofChange snapshotDoesSpec)

/-- ITS FALSE NEIGHBOUR: 'it returns false'. Refute it at one input. -/
def snapshotDoesWrong : ChangeSpec := { name := "snapshotDoes", fn := fun _ => fun
  | [d1, d2, d3, d4] => { results := [.lit (.bool false)], args := [d1, d2, d3, d4] }
  | _ => none }
def SnapshotDoesWrongFalsely : Prop := snapshotDoesRow.holds Tryz.pinned (OpenSpec.ofChange snapshotDoesWrong)

/-- 'butterylaw20.SnapshotWhole': WHATEVER THE INPUT: true; the input reads as it did. -/
def snapshotWholeSpec : ChangeSpec := { name := "snapshotWhole", fn := fun _ => fun
  | [d1, d2, d3, d4, d5] => { results := [.lit (.bool true)], args := [d1, d2, d3, d4, d5] }
  | _ => none }
def snapshotWholeRow : OpenClaim := { program := "ytjppajaoekbkpaagreatdoor", sum := "932d734fd37b9c33f0b71deaa8f0511d853b1f212df90fd00b5bde371d53083d", func := "buttery/butterylaw20.SnapshotWhole", spec := "snapshotWhole", inPlace := ["maps.clone", "internal/reflectlite.ValueOf", "(internal/reflectlite.Value).Type", "(internal/reflectlite.Value).IsNil", "internal/reflectlite.TypeOf", "(internal/reflectlite.Value).Elem", "(internal/reflectlite.Value).Set"], unfollowed := true, recurses := true, named := ["errors.errorType"], apart := false, laid := [("errors.errorType", laid_errors_errorType)] }
def SnapshotWholeSaid : Prop := snapshotWholeRow.holds Tryz.pinned (OpenSpec.ofChange snapshotWholeSpec)

/-- ITS FALSE NEIGHBOUR: 'it returns false'. Refute it at one input. -/
def snapshotWholeWrong : ChangeSpec := { name := "snapshotWhole", fn := fun _ => fun
  | [d1, d2, d3, d4, d5] => { results := [.lit (.bool false)], args := [d1, d2, d3, d4, d5] }
  | _ => none }
def SnapshotWholeWrongFalsely : Prop := snapshotWholeRow.holds Tryz.pinned (OpenSpec.ofChange snapshotWholeWrong)

/-- 'butterylaw13.SmallOpens': WHATEVER THE INPUT: true; the input reads as it did. -/
def smallOpensSpec : ChangeSpec := { name := "smallOpens", fn := fun _ => fun
  | [d1, d2, d3] => { results := [.lit (.bool true)], args := [d1, d2, d3] }
  | _ => none }
def smallOpensRow : OpenClaim := { program := "ytjppajaoekbkpaagreatdoor", sum := "932d734fd37b9c33f0b71deaa8f0511d853b1f212df90fd00b5bde371d53083d", func := "buttery/butterylaw13.SmallOpens", spec := "smallOpens", inPlace := ["maps.clone", "internal/reflectlite.TypeOf", "internal/reflectlite.ValueOf", "(internal/reflectlite.Value).Type", "(internal/reflectlite.Value).IsNil", "(internal/reflectlite.Value).Elem", "(internal/reflectlite.Value).Set"], unfollowed := true, recurses := true, named := ["errors.errorType"], apart := false, laid := [("errors.errorType", laid_errors_errorType)] }
def SmallOpensSaid : Prop := smallOpensRow.holds Tryz.pinned (OpenSpec.ofChange smallOpensSpec)

/-- ITS FALSE NEIGHBOUR: 'it returns false'. Refute it at one input. -/
def smallOpensWrong : ChangeSpec := { name := "smallOpens", fn := fun _ => fun
  | [d1, d2, d3] => { results := [.lit (.bool false)], args := [d1, d2, d3] }
  | _ => none }
def SmallOpensWrongFalsely : Prop := smallOpensRow.holds Tryz.pinned (OpenSpec.ofChange smallOpensWrong)

/-- 'butterylaw13.SmallGets': WHATEVER THE INPUT: true; the input reads as it did. -/
def smallGetsSpec : ChangeSpec := { name := "smallGets", fn := fun _ => fun
  | [d1, d2] => { results := [.lit (.bool true)], args := [d1, d2] }
  | _ => none }
def smallGetsRow : OpenClaim := { program := "ytjppajaoekbkpaagreatdoor", sum := "932d734fd37b9c33f0b71deaa8f0511d853b1f212df90fd00b5bde371d53083d", func := "buttery/butterylaw13.SmallGets", spec := "smallGets", inPlace := ["maps.clone", "internal/reflectlite.TypeOf", "internal/reflectlite.ValueOf", "(internal/reflectlite.Value).Type", "(internal/reflectlite.Value).IsNil", "(internal/reflectlite.Value).Elem", "(internal/reflectlite.Value).Set"], unfollowed := true, recurses := true, named := ["errors.errorType"], apart := false, laid := [("errors.errorType", laid_errors_errorType)] }
def SmallGetsSaid : Prop := smallGetsRow.holds Tryz.pinned (OpenSpec.ofChange smallGetsSpec)

/-- ITS FALSE NEIGHBOUR: 'it returns false'. Refute it at one input. -/
def smallGetsWrong : ChangeSpec := { name := "smallGets", fn := fun _ => fun
  | [d1, d2] => { results := [.lit (.bool false)], args := [d1, d2] }
  | _ => none }
def SmallGetsWrongFalsely : Prop := smallGetsRow.holds Tryz.pinned (OpenSpec.ofChange smallGetsWrong)

/-- 'butterylaw13.SmallDoes': WHATEVER THE INPUT: true; the input reads as it did. -/
def smallDoesSpec : ChangeSpec := { name := "smallDoes", fn := fun _ => fun
  | [d] => { results := [.lit (.bool true)], args := [d] }
  | _ => none }
def smallDoesRow : OpenClaim := { program := "ytjppajaoekbkpaagreatdoor", sum := "932d734fd37b9c33f0b71deaa8f0511d853b1f212df90fd00b5bde371d53083d", func := "buttery/butterylaw13.SmallDoes", spec := "smallDoes", inPlace := ["maps.clone", "internal/reflectlite.TypeOf", "internal/reflectlite.ValueOf", "(internal/reflectlite.Value).Type", "(internal/reflectlite.Value).IsNil", "(internal/reflectlite.Value).Elem", "(internal/reflectlite.Value).Set"], unfollowed := true, recurses := true, named := ["errors.errorType"], apart := false, laid := [("errors.errorType", laid_errors_errorType)] }
def SmallDoesSaid : Prop := smallDoesRow.holds Tryz.pinned (OpenSpec.ofChange smallDoesSpec)

/-- ITS FALSE NEIGHBOUR: 'it returns false'. Refute it at one input. -/
def smallDoesWrong : ChangeSpec := { name := "smallDoes", fn := fun _ => fun
  | [d] => { results := [.lit (.bool false)], args := [d] }
  | _ => none }
def SmallDoesWrongFalsely : Prop := smallDoesRow.holds Tryz.pinned (OpenSpec.ofChange smallDoesWrong)

/-- 'butterylaw13.SmallKeeps': WHATEVER THE INPUT: true; the input reads as it did. -/
def smallKeepsSpec : ChangeSpec := { name := "smallKeeps", fn := fun _ => fun
  | [d1, d2, d3, d4] => { results := [.lit (.bool true)], args := [d1, d2, d3, d4] }
  | _ => none }
def smallKeepsRow : OpenClaim := { program := "ytjppajaoekbkpaagreatdoor", sum := "932d734fd37b9c33f0b71deaa8f0511d853b1f212df90fd00b5bde371d53083d", func := "buttery/butterylaw13.SmallKeeps", spec := "smallKeeps", inPlace := ["maps.clone", "internal/reflectlite.TypeOf", "internal/reflectlite.ValueOf", "(internal/reflectlite.Value).Type", "(internal/reflectlite.Value).IsNil", "(internal/reflectlite.Value).Elem", "(internal/reflectlite.Value).Set"], unfollowed := true, recurses := true, named := ["errors.errorType"], apart := false, laid := [("errors.errorType", laid_errors_errorType)] }
def SmallKeepsSaid : Prop := smallKeepsRow.holds Tryz.pinned (OpenSpec.ofChange smallKeepsSpec)

/-- ITS FALSE NEIGHBOUR: 'it returns false'. Refute it at one input. -/
def smallKeepsWrong : ChangeSpec := { name := "smallKeeps", fn := fun _ => fun
  | [d1, d2, d3, d4] => { results := [.lit (.bool false)], args := [d1, d2, d3, d4] }
  | _ => none }
def SmallKeepsWrongFalsely : Prop := smallKeepsRow.holds Tryz.pinned (OpenSpec.ofChange smallKeepsWrong)

/- THE SECOND FORM. 'bulk': how many values and letters a reading holds, each counted each time it is reached (what is shared counts as often as it is met; a slice's spare places count too). A statement '..UptoSaid' is the law's where the arguments, and the package variables that the reading takes, are together of bulk at most 1048576: NARROWER than '..Said'. Prove '..Said' where nothing that the law and all that it calls make is longer than what came in: it says more and counts as full. Else prove '..UptoSaid'. A law counts once. -/
mutual
def uptoBulk {H : Type} : DataW H → Nat
  | .lit (.string bytes) => bytes.length + 1
  | .lit _ => 1
  | .nil => 1
  | .ptr d => uptoBulk d + 1
  | .slice elems spare => uptoBulkAll elems + uptoBulkAll spare + 1
  | .agg parts => uptoBulkAll parts + 1
  | .iface _ d => uptoBulk d + 1
  | .map entries => uptoBulkEntries entries + 1
  | .held _ => 1
def uptoBulkAll {H : Type} : List (DataW H) → Nat
  | [] => 0
  | d :: r => uptoBulk d + uptoBulkAll r
def uptoBulkEntries {H : Type} : List (Lit × DataW H) → Nat
  | [] => 0
  | x :: r => uptoBulkEntry x + uptoBulkEntries r
def uptoBulkEntry {H : Type} : Lit × DataW H → Nat
  | (.string bytes, d) => bytes.length + uptoBulk d + 1
  | (_, d) => uptoBulk d + 1
 end
def uptoSmall : (H : Type) → List (DataW H) → Bool := fun _ ds => decide (uptoBulkAll ds ≤ 1048576)
def OpenSpec.upto (s : _root_.Go.ChangeSpec) : _root_.Go.OpenSpec := { _root_.Go.OpenSpec.ofChange s with cond := some uptoSmall }

/-- 'butterylaw20.SnapshotBytes', WHERE WHAT IT READS IS OF BULK AT MOST 1048576: true; the input reads as it did. -/
def snapshotBytesUptoRow : OpenClaim := { program := "ytjppajaoekbkpaagreatdoor", sum := "932d734fd37b9c33f0b71deaa8f0511d853b1f212df90fd00b5bde371d53083d", func := "buttery/butterylaw20.SnapshotBytes", spec := "snapshotBytes", inPlace := ["maps.clone", "internal/reflectlite.ValueOf", "(internal/reflectlite.Value).Type", "(internal/reflectlite.Value).IsNil", "internal/reflectlite.TypeOf", "(internal/reflectlite.Value).Elem", "(internal/reflectlite.Value).Set"], unfollowed := true, recurses := true, named := ["errors.errorType"], apart := false, laid := [("errors.errorType", laid_errors_errorType)], narrowed := true }
def SnapshotBytesUptoSaid : Prop := snapshotBytesUptoRow.holds Tryz.pinned (OpenSpec.upto snapshotBytesSpec)

/-- 'butterylaw20.SnapshotDoes', WHERE WHAT IT READS IS OF BULK AT MOST 1048576: true; the input reads as it did. -/
def snapshotDoesUptoRow : OpenClaim := { program := "ytjppajaoekbkpaagreatdoor", sum := "932d734fd37b9c33f0b71deaa8f0511d853b1f212df90fd00b5bde371d53083d", func := "buttery/butterylaw20.SnapshotDoes", spec := "snapshotDoes", inPlace := ["maps.clone", "internal/reflectlite.ValueOf", "(internal/reflectlite.Value).Type", "(internal/reflectlite.Value).IsNil", "internal/reflectlite.TypeOf", "(internal/reflectlite.Value).Elem", "(internal/reflectlite.Value).Set"], unfollowed := true, recurses := true, named := ["errors.errorType"], apart := false, laid := [("errors.errorType", laid_errors_errorType)], narrowed := true }
def SnapshotDoesUptoSaid : Prop := snapshotDoesUptoRow.holds Tryz.pinned (OpenSpec.upto snapshotDoesSpec)

/-- 'butterylaw20.SnapshotWhole', WHERE WHAT IT READS IS OF BULK AT MOST 1048576: true; the input reads as it did. -/
def snapshotWholeUptoRow : OpenClaim := { program := "ytjppajaoekbkpaagreatdoor", sum := "932d734fd37b9c33f0b71deaa8f0511d853b1f212df90fd00b5bde371d53083d", func := "buttery/butterylaw20.SnapshotWhole", spec := "snapshotWhole", inPlace := ["maps.clone", "internal/reflectlite.ValueOf", "(internal/reflectlite.Value).Type", "(internal/reflectlite.Value).IsNil", "internal/reflectlite.TypeOf", "(internal/reflectlite.Value).Elem", "(internal/reflectlite.Value).Set"], unfollowed := true, recurses := true, named := ["errors.errorType"], apart := false, laid := [("errors.errorType", laid_errors_errorType)], narrowed := true }
def SnapshotWholeUptoSaid : Prop := snapshotWholeUptoRow.holds Tryz.pinned (OpenSpec.upto snapshotWholeSpec)

/-- 'butterylaw13.SmallOpens', WHERE WHAT IT READS IS OF BULK AT MOST 1048576: true; the input reads as it did. -/
def smallOpensUptoRow : OpenClaim := { program := "ytjppajaoekbkpaagreatdoor", sum := "932d734fd37b9c33f0b71deaa8f0511d853b1f212df90fd00b5bde371d53083d", func := "buttery/butterylaw13.SmallOpens", spec := "smallOpens", inPlace := ["maps.clone", "internal/reflectlite.TypeOf", "internal/reflectlite.ValueOf", "(internal/reflectlite.Value).Type", "(internal/reflectlite.Value).IsNil", "(internal/reflectlite.Value).Elem", "(internal/reflectlite.Value).Set"], unfollowed := true, recurses := true, named := ["errors.errorType"], apart := false, laid := [("errors.errorType", laid_errors_errorType)], narrowed := true }
def SmallOpensUptoSaid : Prop := smallOpensUptoRow.holds Tryz.pinned (OpenSpec.upto smallOpensSpec)

/-- 'butterylaw13.SmallGets', WHERE WHAT IT READS IS OF BULK AT MOST 1048576: true; the input reads as it did. -/
def smallGetsUptoRow : OpenClaim := { program := "ytjppajaoekbkpaagreatdoor", sum := "932d734fd37b9c33f0b71deaa8f0511d853b1f212df90fd00b5bde371d53083d", func := "buttery/butterylaw13.SmallGets", spec := "smallGets", inPlace := ["maps.clone", "internal/reflectlite.TypeOf", "internal/reflectlite.ValueOf", "(internal/reflectlite.Value).Type", "(internal/reflectlite.Value).IsNil", "(internal/reflectlite.Value).Elem", "(internal/reflectlite.Value).Set"], unfollowed := true, recurses := true, named := ["errors.errorType"], apart := false, laid := [("errors.errorType", laid_errors_errorType)], narrowed := true }
def SmallGetsUptoSaid : Prop := smallGetsUptoRow.holds Tryz.pinned (OpenSpec.upto smallGetsSpec)

/-- 'butterylaw13.SmallDoes', WHERE WHAT IT READS IS OF BULK AT MOST 1048576: true; the input reads as it did. -/
def smallDoesUptoRow : OpenClaim := { program := "ytjppajaoekbkpaagreatdoor", sum := "932d734fd37b9c33f0b71deaa8f0511d853b1f212df90fd00b5bde371d53083d", func := "buttery/butterylaw13.SmallDoes", spec := "smallDoes", inPlace := ["maps.clone", "internal/reflectlite.TypeOf", "internal/reflectlite.ValueOf", "(internal/reflectlite.Value).Type", "(internal/reflectlite.Value).IsNil", "(internal/reflectlite.Value).Elem", "(internal/reflectlite.Value).Set"], unfollowed := true, recurses := true, named := ["errors.errorType"], apart := false, laid := [("errors.errorType", laid_errors_errorType)], narrowed := true }
def SmallDoesUptoSaid : Prop := smallDoesUptoRow.holds Tryz.pinned (OpenSpec.upto smallDoesSpec)

/-- 'butterylaw13.SmallKeeps', WHERE WHAT IT READS IS OF BULK AT MOST 1048576: true; the input reads as it did. -/
def smallKeepsUptoRow : OpenClaim := { program := "ytjppajaoekbkpaagreatdoor", sum := "932d734fd37b9c33f0b71deaa8f0511d853b1f212df90fd00b5bde371d53083d", func := "buttery/butterylaw13.SmallKeeps", spec := "smallKeeps", inPlace := ["maps.clone", "internal/reflectlite.TypeOf", "internal/reflectlite.ValueOf", "(internal/reflectlite.Value).Type", "(internal/reflectlite.Value).IsNil", "(internal/reflectlite.Value).Elem", "(internal/reflectlite.Value).Set"], unfollowed := true, recurses := true, named := ["errors.errorType"], apart := false, laid := [("errors.errorType", laid_errors_errorType)], narrowed := true }
def SmallKeepsUptoSaid : Prop := smallKeepsUptoRow.holds Tryz.pinned (OpenSpec.upto smallKeepsSpec)

end Rows
end Go.Proofs.YtjppajaoekbkpaaGreatDoor
