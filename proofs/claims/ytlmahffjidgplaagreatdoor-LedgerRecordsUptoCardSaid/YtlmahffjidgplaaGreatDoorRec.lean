/- LedgerRecords, for all arguments that are together of bulk at most 1048576: it answers true and its arguments read as they did; the variable errors.errorType as the program's text lays it. -/
import Derived.Test.YtlmahffjidgplaaGreatDoorE1
section
namespace Go.Proofs.YtlmahffjidgplaaGreatDoor
open Go Go.Av Go.ChangeShapes Go.WideShapes Go.ChangeAt Go.RowKit
set_option linter.unusedVariables false
set_option linter.unusedSimpArgs false
set_option maxRecDepth 100000

/-! ### LedgerRecords -/
def lrecArgs : Array Value := #[.agg #[.int .i64 0, .bool false, .int .i64 0, .slice none 0 0], .agg #[.int .i64 0, .bool false, .int .i64 0, .slice none 0 0], .slice none 0 0]
theorem lrec_reads (os : Os) {H : Type} (enc : TypeId × Value → H) : ∃ places, DataW.whole enc Tryz.prog ((laidWorld os).forCall (fun _ _ => 0) ⟨#[], lrecArgs, []⟩).memory Tryz.f3.params.toList Rows.ledgerRecordsSpec.vars false lrecArgs.toList 8 = some ([.agg [.lit (.int .i64 0), .lit (.bool false), .agg [.lit (.int .i64 0), .nil]], .agg [.lit (.int .i64 0), .lit (.bool false), .agg [.lit (.int .i64 0), .nil]], .nil], [], places) :=
  ⟨[], by kernel_rfl⟩

theorem lrec_contract (H : Type) (enc : TypeId × Value → H) (W : World) (base : Nat) (args : Array Value) (ds gs : List (DataW H)) (before : List MemPlace)
    (hval : ∀ (j : Nat) (t : TypeId) (v : Value), Tryz.f3.params[j]? = some t → args[j]? = some v → Value.okWide Tryz.prog W .any base t v)
    (hW : DataW.Whole enc Tryz.prog Tryz.f3.params.toList Rows.ledgerRecordsSpec.vars false W args.toList ds gs before) (hL : laidMetH Tryz.prog Rows.ledgerRecordsRow.laid W) (hb : bulkAll (ds ++ gs) ≤ 1048576) :
    Calls Tryz.prog 3 args W fun e W' => ∃ v, e = .returned v ∧ Rows.ledgerRecordsSpec.post enc Tryz.prog Tryz.f3 false true false false W args v W' := by
  have hW' := hW
  obtain ⟨p, q, hA, hV, rfl, hfz, hnd⟩ := hW
  obtain ⟨rfl, rfl⟩ := trodVars_none hV
  rw [List.append_nil] at hb
  have hA2 : DataW.TrodAll enc Tryz.prog W 0 (fun _ => true) true [26, 26, 27] args.toList ds p := by
    have := hA; rw [Tryz.params3] at this; exact this
  have hpl : ∀ t ∈ [26, 26, 27], plainT Tryz.prog 6 t = true := by
    intro t ht
    simp only [List.mem_cons, List.not_mem_nil, or_false] at ht
    rcases ht with rfl | rfl | rfl <;> kernel_rfl
  have hrd : ∀ t ∈ [26, 26, 27], Tryz.prog.readableRec t = true ∧ t < Tryz.prog.types.size := by
    intro t ht
    simp only [List.mem_cons, List.not_mem_nil, or_false] at ht
    rcases ht with rfl | rfl | rfl <;> exact ⟨by kernel_rfl, of_decide_eq_true (by kernel_rfl)⟩
  obtain ⟨xs, hr, hs⟩ := args_rel (M := 1048576) (k := 6) (by decide) hpl
    (fun j t v ht hv => hval j t v (by rw [Tryz.params3]; simpa using ht) (by simpa using hv)) hA2 hb
  obtain ⟨d1, d2, d3, hds⟩ : ∃ d1 d2 d3, ds = [d1, d2, d3] := by
    obtain ⟨_, _, d1, _, _, _, -, rfl, -, -, hA3⟩ := trodAll_cons hA2
    obtain ⟨_, _, d2, _, _, _, -, rfl, -, -, hA4⟩ := trodAll_cons hA3
    obtain ⟨_, _, d3, _, _, _, -, rfl, -, -, hA5⟩ := trodAll_cons hA4
    obtain ⟨-, rfl, -⟩ := trodAll_nil hA5
    exact ⟨_, _, _, rfl⟩
  subst hds
  obtain ⟨y1, ys1, rfl, hy1, y2, ys2, rfl, hy2, y3, ys3, rfl, hy3, rfl⟩ := hs
  unfold ArgShp at hy1 hy2 hy3
  simp only [Tryz.underlying26] at hy1 hy2
  simp only [Tryz.underlying27] at hy3
  obtain ⟨xs1, rfl, hy1⟩ := hy1
  obtain ⟨x, e1, hx, hx64⟩ := shp_recS (k := 1) hy1
  obtain ⟨xs2, rfl, hy2⟩ := hy2
  obtain ⟨y, e2, hyl, -⟩ := shp_recS (k := 1) hy2
  rw [e1, e2] at hr
  obtain ⟨b, e3, hb3⟩ := shp_bytes (k := 4) hy3
  simp only [List.cons.injEq, and_true] at e3
  subst e3
  refine (calls_of_acalls (records_ok x y b (by omega) (by omega) (by omega) hx64) (handle_of_laid hL) hr).mono fun e W' ⟨he, hB⟩ => ?_
  subst he
  exact ⟨_, rfl, law_post hW' hB laidOut (by rw [Tryz.params3]; exact hrd) rfl Tryz.underlying4 rfl rfl⟩

theorem lrec_lifted (os : Os) (started : os.Started) (H : Type) (enc : TypeId × Value → H) (F : Stop.Interp) :
    ReturnsInHanded {} Tryz.checked os 3 .any ((Rows.OpenSpec.upto Rows.ledgerRecordsSpec).preRow enc Tryz.prog Tryz.f3 Rows.ledgerRecordsUptoRow.domain false Rows.ledgerRecordsUptoRow.laid) (((Rows.OpenSpec.upto Rows.ledgerRecordsSpec).at F).post enc Tryz.prog Tryz.f3 false true false false) := by
  obtain ⟨places, hx⟩ := lrec_reads os enc
  refine returnsInHanded_of_row (C := Tryz.checked) (s := Rows.OpenSpec.upto Rows.ledgerRecordsSpec) own started (by kernel_rfl) Tryz.func3
    (witness_row_at (enc := enc) (C := Tryz.checked) false (laidWorld os) lrecArgs rfl (by kernel_rfl) (by kernel_rfl) (by kernel_rfl)
      (OpenSpec.preRow_of_cond 8 hx (by kernel_rfl) (fun k hk => by cases hk; kernel_rfl) (by kernel_rfl) (laidWorld_met os _))) ?_
  intro W base args ds gs before hval hW _ hcond _ hL _ _
  exact lrec_contract H enc W base args ds gs before hval hW hL (upto_small (hcond _ rfl))

theorem ledgerRecordsUpto_said : Rows.LedgerRecordsUptoSaid :=
  OpenClaim.holds_of_cond 3 Tryz.f3 rfl rfl rfl rfl rfl rfl rfl ⟨rfl, rfl, rfl, rfl, rfl⟩ rfl rfl rfl rfl rfl (by kernel_rfl) Tryz.func3 (by kernel_rfl)
    (of_decide_eq_true (by kernel_rfl)) (by unfold Func.isWrapper; first | (rw [if_pos (by decide +kernel)]; kernel_rfl) | (rw [if_neg (by decide +kernel)]; exact ⟨rfl, rfl⟩))
    (fun os started H enc _ F => by rw [OpenClaim.pre_eq_preRow]; exact lrec_lifted os started H enc F)

theorem lrec_plain (f : FuncId) (fn : Func) (hf : Tryz.pinned.checked.prog.funcNamed "buttery/butterylaw17.LedgerRecords" = some f) (hfn : Tryz.pinned.checked.prog.funcs[f]? = some fn) :
    true = Tryz.pinned.checked.prog.looks [] ∧ ∀ (j : Nat) (t : TypeId), fn.params[j]? = some t → Tryz.pinned.checked.prog.wantsStandIn t = false := by
  obtain rfl : f = 3 := Option.some.inj ((show Tryz.prog.funcNamed "buttery/butterylaw17.LedgerRecords" = some 3 by kernel_rfl).symm.trans hf) |>.symm
  obtain rfl : fn = Tryz.f3 := (Option.some.inj (Tryz.func3.symm.trans hfn)).symm
  refine ⟨by kernel_rfl, fun j t ht => ?_⟩
  rw [Tryz.params3] at ht
  have hm := Array.mem_of_getElem? ht
  have hw : ∀ t ∈ [26, 26, 27], Tryz.prog.wantsStandIn t = false := by
    intro t ht
    simp only [List.mem_cons, List.not_mem_nil, or_false] at ht
    rcases ht with rfl | rfl | rfl <;> kernel_rfl
  exact hw t (by simpa using hm)

/-- LedgerRecords, where what it reads is of bulk at most 1048576: the second form's card. -/
theorem ledgerRecordsUpto_card : Rows.LedgerRecordsUptoCardSaid :=
  Claim7.holds_tied_plain_at .later [] _ _ _ _ ledgerRecordsUpto_said (fun _ h => by cases h) (by kernel_rfl) (fun _ h => by cases h) ledgerRecordsUpto_row_tie rfl ⟨rfl, rfl⟩ (by kernel_rfl) rfl lrec_plain (by kernel_rfl)
end Go.Proofs.YtlmahffjidgplaaGreatDoor
end
