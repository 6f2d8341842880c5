/-
  NARROWER THAN 'FOR EVERY INPUT', by the rows' own cells (each row's printed sentence says how): LedgerRecords: laid · LedgerFloors: laid · LedgerDoes: laid · LedgerKeeps: laid · SmallOpens: laid · SmallGets: laid · SmallDoes: laid · SmallKeeps: laid.
  DERIVED. THE GIVEN ROWS OF THIS SEAT. 8 by the template 'for every input the law returns true; each argument reads behind the call as it read before'; 0 by the template 'total and deterministic' (their statements: YtlmahffjidgplaaGreatDoorTotals.lean).
  GIVEN WITH THE SEED: the statements are not yours to turn. If you find one false, say at which input.
  Laid BY PROGRAM, IN A SANDBOX (cutbox-rows.mjs): the forced cells as the released guide's own fill.sh prints them over the translation 27a8c0a6dfa5cce5… (all of the seat's roots in one cut). By AI agents, Wed Nov 11 2026. No macro, syntax, notation, axiom, sorry.
-/
import Derived.Test.YtlmahffjidgplaaGreatDoorChecked
import GoSem.Claim
import GoSem.ClaimJoined
import GoSem.ClaimMapViews
import Derived.JoinedTies
import Derived.KernelRfl
namespace Go.Proofs.YtlmahffjidgplaaGreatDoor
/- THE CELL 'sum', in the pinned program and in every row, IS THE sha256 OF THE DUMP (.gsa) THAT YtlmahffjidgplaaGreatDoorProg.lean LOADS. Nothing in Lean hashes anything: it is a label: what it is worth is what the hold of that sum in a sandbox is worth. -/
noncomputable def Tryz.pinned : Pinned := { name := "ytlmahffjidgplaagreatdoor", sum := "27a8c0a6dfa5cce5bf3aa6c5dac18057d9d3a53b2a2ad50c195fa9d28db06927", checked := Tryz.checked }
namespace Rows
def none {H : Type} : Left H := { results := [], args := [] }

/- WHAT THE LISTED PACKAGE-LEVEL VARIABLES READ AS WHEN THE CALL BEGINS. Each datum BY PROGRAM (the guide's laid-datum.mjs) off the statement by which the dump's own 'gosem.cut.vars' lays the variable. In a bare row this is a premise. The card (YtlmahffjidgplaaGreatDoorCards.lean) ties it to the program's text. -/
def laid_errors_errorType {H : Type} : DataW H := .iface "internal/reflectlite.rtype" (.agg [.ptr (.lit (.string [101, 114, 114, 111, 114]))])

/-- 'butterylaw17.LedgerRecords': WHATEVER THE INPUT: true; the input reads as it did. -/
def ledgerRecordsSpec : ChangeSpec := { name := "ledgerRecords", fn := fun _ => fun
  | [d1, d2, d3] => { results := [.lit (.bool true)], args := [d1, d2, d3] }
  | _ => none }
def ledgerRecordsRow : OpenClaim := { program := "ytlmahffjidgplaagreatdoor", sum := "27a8c0a6dfa5cce5bf3aa6c5dac18057d9d3a53b2a2ad50c195fa9d28db06927", func := "buttery/butterylaw17.LedgerRecords", spec := "ledgerRecords", inPlace := ["maps.clone", "internal/reflectlite.TypeOf", "internal/reflectlite.ValueOf", "(internal/reflectlite.Value).Type", "(internal/reflectlite.Value).IsNil", "(internal/reflectlite.Value).Elem", "(internal/reflectlite.Value).Set"], unfollowed := true, recurses := true, named := ["errors.errorType"], apart := false, laid := [("errors.errorType", laid_errors_errorType)] }
def LedgerRecordsSaid : Prop := ledgerRecordsRow.holds Tryz.pinned (OpenSpec.ofChange ledgerRecordsSpec)

/-- ITS FALSE NEIGHBOUR: 'it returns false'. Refute it at one input. -/
def ledgerRecordsWrong : ChangeSpec := { name := "ledgerRecords", fn := fun _ => fun
  | [d1, d2, d3] => { results := [.lit (.bool false)], args := [d1, d2, d3] }
  | _ => none }
def LedgerRecordsWrongFalsely : Prop := ledgerRecordsRow.holds Tryz.pinned (OpenSpec.ofChange ledgerRecordsWrong)

/-- 'butterylaw17.LedgerFloors': WHATEVER THE INPUT: true; the input reads as it did. -/
def ledgerFloorsSpec : ChangeSpec := { name := "ledgerFloors", fn := fun _ => fun
  | [d1, d2, d3] => { results := [.lit (.bool true)], args := [d1, d2, d3] }
  | _ => none }
def ledgerFloorsRow : OpenClaim := { program := "ytlmahffjidgplaagreatdoor", sum := "27a8c0a6dfa5cce5bf3aa6c5dac18057d9d3a53b2a2ad50c195fa9d28db06927", func := "buttery/butterylaw17.LedgerFloors", spec := "ledgerFloors", inPlace := ["maps.clone", "internal/reflectlite.TypeOf", "internal/reflectlite.ValueOf", "(internal/reflectlite.Value).Type", "(internal/reflectlite.Value).IsNil", "(internal/reflectlite.Value).Elem", "(internal/reflectlite.Value).Set"], unfollowed := true, recurses := true, named := ["errors.errorType"], apart := false, laid := [("errors.errorType", laid_errors_errorType)] }
def LedgerFloorsSaid : Prop := ledgerFloorsRow.holds Tryz.pinned (OpenSpec.ofChange ledgerFloorsSpec)

/-- ITS FALSE NEIGHBOUR: 'it returns false'. Refute it at one input. -/
def ledgerFloorsWrong : ChangeSpec := { name := "ledgerFloors", fn := fun _ => fun
  | [d1, d2, d3] => { results := [.lit (.bool false)], args := [d1, d2, d3] }
  | _ => none }
def LedgerFloorsWrongFalsely : Prop := ledgerFloorsRow.holds Tryz.pinned (OpenSpec.ofChange ledgerFloorsWrong)

/-- 'butterylaw17.LedgerDoes': WHATEVER THE INPUT: true; the input reads as it did. -/
def ledgerDoesSpec : ChangeSpec := { name := "ledgerDoes", fn := fun _ => fun
  | [d1, d2] => { results := [.lit (.bool true)], args := [d1, d2] }
  | _ => none }
def ledgerDoesRow : OpenClaim := { program := "ytlmahffjidgplaagreatdoor", sum := "27a8c0a6dfa5cce5bf3aa6c5dac18057d9d3a53b2a2ad50c195fa9d28db06927", func := "buttery/butterylaw17.LedgerDoes", spec := "ledgerDoes", inPlace := ["maps.clone", "internal/reflectlite.TypeOf", "internal/reflectlite.ValueOf", "(internal/reflectlite.Value).Type", "(internal/reflectlite.Value).IsNil", "(internal/reflectlite.Value).Elem", "(internal/reflectlite.Value).Set"], unfollowed := true, recurses := true, named := ["errors.errorType"], apart := false, laid := [("errors.errorType", laid_errors_errorType)] }
def LedgerDoesSaid : Prop := ledgerDoesRow.holds Tryz.pinned (OpenSpec.ofChange ledgerDoesSpec)

/-- ITS FALSE NEIGHBOUR: 'it returns false'. Refute it at one input. -/
def ledgerDoesWrong : ChangeSpec := { name := "ledgerDoes", fn := fun _ => fun
  | [d1, d2] => { results := [.lit (.bool false)], args := [d1, d2] }
  | _ => none }
def LedgerDoesWrongFalsely : Prop := ledgerDoesRow.holds Tryz.pinned (OpenSpec.ofChange ledgerDoesWrong)

/-- 'butterylaw17.LedgerKeeps': WHATEVER THE INPUT: true; the input reads as it did. -/
def ledgerKeepsSpec : ChangeSpec := { name := "ledgerKeeps", fn := fun _ => fun
  | [d1, d2, d3, d4] => { results := [.lit (.bool true)], args := [d1, d2, d3, d4] }
  | _ => none }
def ledgerKeepsRow : OpenClaim := { program := "ytlmahffjidgplaagreatdoor", sum := "27a8c0a6dfa5cce5bf3aa6c5dac18057d9d3a53b2a2ad50c195fa9d28db06927", func := "buttery/butterylaw17.LedgerKeeps", spec := "ledgerKeeps", inPlace := ["maps.clone", "internal/reflectlite.TypeOf", "internal/reflectlite.ValueOf", "(internal/reflectlite.Value).Type", "(internal/reflectlite.Value).IsNil", "(internal/reflectlite.Value).Elem", "(internal/reflectlite.Value).Set"], unfollowed := true, recurses := true, named := ["errors.errorType"], apart := false, laid := [("errors.errorType", laid_errors_errorType)] }
def LedgerKeepsSaid : Prop := ledgerKeepsRow.holds Tryz.pinned (OpenSpec.ofChange ledgerKeepsSpec)

/-- ITS FALSE NEIGHBOUR: 'it returns false'. Refute it at one input. -/
def ledgerKeepsWrong : ChangeSpec := { name := "ledgerKeeps", fn := fun _ => fun
  | [d1, d2, d3, d4] => { results := [.lit (.bool false)], args := [d1, d2, d3, d4] }
  | _ => none }
def LedgerKeepsWrongFalsely : Prop := ledgerKeepsRow.holds Tryz.pinned (OpenSpec.ofChange ledgerKeepsWrong)

/-- 'butterylaw13.SmallOpens': WHATEVER THE INPUT: true; the input reads as it did. -/
def smallOpensSpec : ChangeSpec := { name := "smallOpens", fn := fun _ => fun
  | [d1, d2, d3] => { results := [.lit (.bool true)], args := [d1, d2, d3] }
  | _ => none }
def smallOpensRow : OpenClaim := { program := "ytlmahffjidgplaagreatdoor", sum := "27a8c0a6dfa5cce5bf3aa6c5dac18057d9d3a53b2a2ad50c195fa9d28db06927", func := "buttery/butterylaw13.SmallOpens", spec := "smallOpens", inPlace := ["maps.clone", "internal/reflectlite.TypeOf", "internal/reflectlite.ValueOf", "(internal/reflectlite.Value).Type", "(internal/reflectlite.Value).IsNil", "(internal/reflectlite.Value).Elem", "(internal/reflectlite.Value).Set"], unfollowed := true, recurses := true, named := ["errors.errorType"], apart := false, laid := [("errors.errorType", laid_errors_errorType)] }
def SmallOpensSaid : Prop := smallOpensRow.holds Tryz.pinned (OpenSpec.ofChange smallOpensSpec)

/-- ITS FALSE NEIGHBOUR: 'it returns false'. Refute it at one input. -/
def smallOpensWrong : ChangeSpec := { name := "smallOpens", fn := fun _ => fun
  | [d1, d2, d3] => { results := [.lit (.bool false)], args := [d1, d2, d3] }
  | _ => none }
def SmallOpensWrongFalsely : Prop := smallOpensRow.holds Tryz.pinned (OpenSpec.ofChange smallOpensWrong)

/-- 'butterylaw13.SmallGets': WHATEVER THE INPUT: true; the input reads as it did. -/
def smallGetsSpec : ChangeSpec := { name := "smallGets", fn := fun _ => fun
  | [d1, d2] => { results := [.lit (.bool true)], args := [d1, d2] }
  | _ => none }
def smallGetsRow : OpenClaim := { program := "ytlmahffjidgplaagreatdoor", sum := "27a8c0a6dfa5cce5bf3aa6c5dac18057d9d3a53b2a2ad50c195fa9d28db06927", func := "buttery/butterylaw13.SmallGets", spec := "smallGets", inPlace := ["maps.clone", "internal/reflectlite.TypeOf", "internal/reflectlite.ValueOf", "(internal/reflectlite.Value).Type", "(internal/reflectlite.Value).IsNil", "(internal/reflectlite.Value).Elem", "(internal/reflectlite.Value).Set"], unfollowed := true, recurses := true, named := ["errors.errorType"], apart := false, laid := [("errors.errorType", laid_errors_errorType)] }
def SmallGetsSaid : Prop := smallGetsRow.holds Tryz.pinned (OpenSpec.ofChange smallGetsSpec)

/-- ITS FALSE NEIGHBOUR: 'it returns false'. Refute it at one input. -/
def smallGetsWrong : ChangeSpec := { name := "smallGets", fn := fun _ => fun
  | [d1, d2] => { results := [.lit (.bool false)], args := [d1, d2] }
  | _ => none }
def SmallGetsWrongFalsely : Prop := smallGetsRow.holds Tryz.pinned (OpenSpec.ofChange smallGetsWrong)

/-- 'butterylaw13.SmallDoes': WHATEVER THE INPUT: true; the input reads as it did. -/
def smallDoesSpec : ChangeSpec := { name := "smallDoes", fn := fun _ => fun
  | [d] => { results := [.lit (.bool true)], args := [d] }
  | _ => none }
def smallDoesRow : OpenClaim := { program := "ytlmahffjidgplaagreatdoor", sum := "27a8c0a6dfa5cce5bf3aa6c5dac18057d9d3a53b2a2ad50c195fa9d28db06927", func := "buttery/butterylaw13.SmallDoes", spec := "smallDoes", inPlace := ["maps.clone", "internal/reflectlite.TypeOf", "internal/reflectlite.ValueOf", "(internal/reflectlite.Value).Type", "(internal/reflectlite.Value).IsNil", "(internal/reflectlite.Value).Elem", "(internal/reflectlite.Value).Set"], unfollowed := true, recurses := true, named := ["errors.errorType"], apart := false, laid := [("errors.errorType", laid_errors_errorType)] }
def SmallDoesSaid : Prop := smallDoesRow.holds Tryz.pinned (OpenSpec.ofChange smallDoesSpec)

/-- ITS FALSE NEIGHBOUR: 'it returns false'. Refute it at one input. -/
def smallDoesWrong : ChangeSpec := { name := "smallDoes", fn := fun _ => fun
  | [d] => { results := [.lit (.bool false)], args := [d] }
  | _ => none }
def SmallDoesWrongFalsely : Prop := smallDoesRow.holds Tryz.pinned (OpenSpec.ofChange smallDoesWrong)

/-- 'butterylaw13.SmallKeeps': WHATEVER THE INPUT: true; the input reads as it did. -/
def smallKeepsSpec : ChangeSpec := { name := "smallKeeps", fn := fun _ => fun
  | [d1, d2, d3, d4] => { results := [.lit (.bool true)], args := [d1, d2, d3, d4] }
  | _ => none }
def smallKeepsRow : OpenClaim := { program := "ytlmahffjidgplaagreatdoor", sum := "27a8c0a6dfa5cce5bf3aa6c5dac18057d9d3a53b2a2ad50c195fa9d28db06927", func := "buttery/butterylaw13.SmallKeeps", spec := "smallKeeps", inPlace := ["maps.clone", "internal/reflectlite.TypeOf", "internal/reflectlite.ValueOf", "(internal/reflectlite.Value).Type", "(internal/reflectlite.Value).IsNil", "(internal/reflectlite.Value).Elem", "(internal/reflectlite.Value).Set"], unfollowed := true, recurses := true, named := ["errors.errorType"], apart := false, laid := [("errors.errorType", laid_errors_errorType)] }
def SmallKeepsSaid : Prop := smallKeepsRow.holds Tryz.pinned (OpenSpec.ofChange smallKeepsSpec)

/-- ITS FALSE NEIGHBOUR: 'it returns false'. Refute it at one input. -/
def smallKeepsWrong : ChangeSpec := { name := "smallKeeps", fn := fun _ => fun
  | [d1, d2, d3, d4] => { results := [.lit (.bool false)], args := [d1, d2, d3, d4] }
  | _ => none }
def SmallKeepsWrongFalsely : Prop := smallKeepsRow.holds Tryz.pinned (OpenSpec.ofChange smallKeepsWrong)

/- THE SECOND FORM. 'bulk': how many values and letters a reading holds, each counted each time it is reached (what is shared counts as often as it is met; a slice's spare places count too). A statement '..UptoSaid' is the law's where the arguments, and the package variables that the reading takes, are together of bulk at most 1048576: NARROWER than '..Said'. Prove '..Said' where nothing that the law and all that it calls make is longer than what came in: it says more and counts as full. Else prove '..UptoSaid'. A law counts once. -/
mutual
def uptoBulk {H : Type} : DataW H → Nat
  | .lit (.string bytes) => bytes.length + 1
  | .lit _ => 1
  | .nil => 1
  | .ptr d => uptoBulk d + 1
  | .slice elems spare => uptoBulkAll elems + uptoBulkAll spare + 1
  | .agg parts => uptoBulkAll parts + 1
  | .iface _ d => uptoBulk d + 1
  | .map entries => uptoBulkEntries entries + 1
  | .held _ => 1
def uptoBulkAll {H : Type} : List (DataW H) → Nat
  | [] => 0
  | d :: r => uptoBulk d + uptoBulkAll r
def uptoBulkEntries {H : Type} : List (Lit × DataW H) → Nat
  | [] => 0
  | x :: r => uptoBulkEntry x + uptoBulkEntries r
def uptoBulkEntry {H : Type} : Lit × DataW H → Nat
  | (.string bytes, d) => bytes.length + uptoBulk d + 1
  | (_, d) => uptoBulk d + 1
 end
def uptoSmall : (H : Type) → List (DataW H) → Bool := fun _ ds => decide (uptoBulkAll ds ≤ 1048576)
def OpenSpec.upto (s : _root_.Go.ChangeSpec) : _root_.Go.OpenSpec := { _root_.Go.OpenSpec.ofChange s with cond := some uptoSmall }

/-- 'butterylaw17.LedgerRecords', WHERE WHAT IT READS IS OF BULK AT MOST 1048576: true; the input reads as it did. -/
def ledgerRecordsUptoRow : OpenClaim := { program := "ytlmahffjidgplaagreatdoor", sum := "27a8c0a6dfa5cce5bf3aa6c5dac18057d9d3a53b2a2ad50c195fa9d28db06927", func := "buttery/butterylaw17.LedgerRecords", spec := "ledgerRecords", inPlace := ["maps.clone", "internal/reflectlite.TypeOf", "internal/reflectlite.ValueOf", "(internal/reflectlite.Value).Type", "(internal/reflectlite.Value).IsNil", "(internal/reflectlite.Value).Elem", "(internal/reflectlite.Value).Set"], unfollowed := true, recurses := true, named := ["errors.errorType"], apart := false, laid := [("errors.errorType", laid_errors_errorType)], narrowed := true }
def LedgerRecordsUptoSaid : Prop := ledgerRecordsUptoRow.holds Tryz.pinned (OpenSpec.upto ledgerRecordsSpec)

/-- 'butterylaw17.LedgerFloors', WHERE WHAT IT READS IS OF BULK AT MOST 1048576: true; the input reads as it did. -/
def ledgerFloorsUptoRow : OpenClaim := { program := "ytlmahffjidgplaagreatdoor", sum := "27a8c0a6dfa5cce5bf3aa6c5dac18057d9d3a53b2a2ad50c195fa9d28db06927", func := "buttery/butterylaw17.LedgerFloors", spec := "ledgerFloors", inPlace := ["maps.clone", "internal/reflectlite.TypeOf", "internal/reflectlite.ValueOf", "(internal/reflectlite.Value).Type", "(internal/reflectlite.Value).IsNil", "(internal/reflectlite.Value).Elem", "(internal/reflectlite.Value).Set"], unfollowed := true, recurses := true, named := ["errors.errorType"], apart := false, laid := [("errors.errorType", laid_errors_errorType)], narrowed := true }
def LedgerFloorsUptoSaid : Prop := ledgerFloorsUptoRow.holds Tryz.pinned (OpenSpec.upto ledgerFloorsSpec)

/-- 'butterylaw17.LedgerDoes', WHERE WHAT IT READS IS OF BULK AT MOST 1048576: true; the input reads as it did. -/
def ledgerDoesUptoRow : OpenClaim := { program := "ytlmahffjidgplaagreatdoor", sum := "27a8c0a6dfa5cce5bf3aa6c5dac18057d9d3a53b2a2ad50c195fa9d28db06927", func := "buttery/butterylaw17.LedgerDoes", spec := "ledgerDoes", inPlace := ["maps.clone", "internal/reflectlite.TypeOf", "internal/reflectlite.ValueOf", "(internal/reflectlite.Value).Type", "(internal/reflectlite.Value).IsNil", "(internal/reflectlite.Value).Elem", "(internal/reflectlite.Value).Set"], unfollowed := true, recurses := true, named := ["errors.errorType"], apart := false, laid := [("errors.errorType", laid_errors_errorType)], narrowed := true }
def LedgerDoesUptoSaid : Prop := ledgerDoesUptoRow.holds Tryz.pinned (OpenSpec.upto ledgerDoesSpec)

/-- 'butterylaw17.LedgerKeeps', WHERE WHAT IT READS IS OF BULK AT MOST 1048576: true; the input reads as it did. -/
def ledgerKeepsUptoRow : OpenClaim := { program := "ytlmahffjidgplaagreatdoor", sum := "27a8c0a6dfa5cce5bf3aa6c5dac18057d9d3a53b2a2ad50c195fa9d28db06927", func := "buttery/butterylaw17.LedgerKeeps", spec := "ledgerKeeps", inPlace := ["maps.clone", "internal/reflectlite.TypeOf", "internal/reflectlite.ValueOf", "(internal/reflectlite.Value).Type", "(internal/reflectlite.Value).IsNil", "(internal/reflectlite.Value).Elem", "(internal/reflectlite.Value).Set"], unfollowed := true, recurses := true, named := ["errors.errorType"], apart := false, laid := [("errors.errorType", laid_errors_errorType)], narrowed := true }
def LedgerKeepsUptoSaid : Prop := ledgerKeepsUptoRow.holds Tryz.pinned (OpenSpec.upto ledgerKeepsSpec)

/-- 'butterylaw13.SmallOpens', WHERE WHAT IT READS IS OF BULK AT MOST 1048576: true; the input reads as it did. -/
def smallOpensUptoRow : OpenClaim := { program := "ytlmahffjidgplaagreatdoor", sum := "27a8c0a6dfa5cce5bf3aa6c5dac18057d9d3a53b2a2ad50c195fa9d28db06927", func := "buttery/butterylaw13.SmallOpens", spec := "smallOpens", inPlace := ["maps.clone", "internal/reflectlite.TypeOf", "internal/reflectlite.ValueOf", "(internal/reflectlite.Value).Type", "(internal/reflectlite.Value).IsNil", "(internal/reflectlite.Value).Elem", "(internal/reflectlite.Value).Set"], unfollowed := true, recurses := true, named := ["errors.errorType"], apart := false, laid := [("errors.errorType", laid_errors_errorType)], narrowed := true }
def SmallOpensUptoSaid : Prop := smallOpensUptoRow.holds Tryz.pinned (OpenSpec.upto smallOpensSpec)

/-- 'butterylaw13.SmallGets', WHERE WHAT IT READS IS OF BULK AT MOST 1048576: true; the input reads as it did. -/
def smallGetsUptoRow : OpenClaim := { program := "ytlmahffjidgplaagreatdoor", sum := "27a8c0a6dfa5cce5bf3aa6c5dac18057d9d3a53b2a2ad50c195fa9d28db06927", func := "buttery/butterylaw13.SmallGets", spec := "smallGets", inPlace := ["maps.clone", "internal/reflectlite.TypeOf", "internal/reflectlite.ValueOf", "(internal/reflectlite.Value).Type", "(internal/reflectlite.Value).IsNil", "(internal/reflectlite.Value).Elem", "(internal/reflectlite.Value).Set"], unfollowed := true, recurses := true, named := ["errors.errorType"], apart := false, laid := [("errors.errorType", laid_errors_errorType)], narrowed := true }
def SmallGetsUptoSaid : Prop := smallGetsUptoRow.holds Tryz.pinned (OpenSpec.upto smallGetsSpec)

/-- 'butterylaw13.SmallDoes', WHERE WHAT IT READS IS OF BULK AT MOST 1048576: true; the input reads as it did. -/
def smallDoesUptoRow : OpenClaim := { program := "ytlmahffjidgplaagreatdoor", sum := "27a8c0a6dfa5cce5bf3aa6c5dac18057d9d3a53b2a2ad50c195fa9d28db06927", func := "buttery/butterylaw13.SmallDoes", spec := "smallDoes", inPlace := ["maps.clone", "internal/reflectlite.TypeOf", "internal/reflectlite.ValueOf", "(internal/reflectlite.Value).Type", "(internal/reflectlite.Value).IsNil", "(internal/reflectlite.Value).Elem", "(internal/reflectlite.Value).Set"], unfollowed := true, recurses := true, named := ["errors.errorType"], apart := false, laid := [("errors.errorType", laid_errors_errorType)], narrowed := true }
def SmallDoesUptoSaid : Prop := smallDoesUptoRow.holds Tryz.pinned (OpenSpec.upto smallDoesSpec)

/-- 'butterylaw13.SmallKeeps', WHERE WHAT IT READS IS OF BULK AT MOST 1048576: true; the input reads as it did. -/
def smallKeepsUptoRow : OpenClaim := { program := "ytlmahffjidgplaagreatdoor", sum := "27a8c0a6dfa5cce5bf3aa6c5dac18057d9d3a53b2a2ad50c195fa9d28db06927", func := "buttery/butterylaw13.SmallKeeps", spec := "smallKeeps", inPlace := ["maps.clone", "internal/reflectlite.TypeOf", "internal/reflectlite.ValueOf", "(internal/reflectlite.Value).Type", "(internal/reflectlite.Value).IsNil", "(internal/reflectlite.Value).Elem", "(internal/reflectlite.Value).Set"], unfollowed := true, recurses := true, named := ["errors.errorType"], apart := false, laid := [("errors.errorType", laid_errors_errorType)], narrowed := true }
def SmallKeepsUptoSaid : Prop := smallKeepsUptoRow.holds Tryz.pinned (OpenSpec.upto smallKeepsSpec)

end Rows
end Go.Proofs.YtlmahffjidgplaaGreatDoor
