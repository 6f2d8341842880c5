/- LedgerDoes, for all arguments that are together of bulk at most 1048576: it answers true and its arguments read as they did; the variable errors.errorType as the program's text lays it. -/
import Derived.Test.YtlmahffjidgplaaGreatDoorE1
section
namespace Go.Proofs.YtlmahffjidgplaaGreatDoor
open Go Go.Av Go.ChangeShapes Go.WideShapes Go.ChangeAt Go.RowKit
set_option linter.unusedVariables false
set_option linter.unusedSimpArgs false
set_option maxRecDepth 100000

/-! ### LedgerDoes -/
def ldoArgs : Array Value := #[.slice none 0 0, .int .i64 0]
theorem ldo_reads (os : Os) {H : Type} (enc : TypeId × Value → H) : ∃ places, DataW.whole enc Tryz.prog ((laidWorld os).forCall (fun _ _ => 0) ⟨#[], ldoArgs, []⟩).memory Tryz.f5.params.toList Rows.ledgerDoesSpec.vars false ldoArgs.toList 8 = some ([.nil, .lit (.int .i64 0)], [], places) :=
  ⟨[], by kernel_rfl⟩

theorem ldo_contract (H : Type) (enc : TypeId × Value → H) (W : World) (base : Nat) (args : Array Value) (ds gs : List (DataW H)) (before : List MemPlace)
    (hval : ∀ (j : Nat) (t : TypeId) (v : Value), Tryz.f5.params[j]? = some t → args[j]? = some v → Value.okWide Tryz.prog W .any base t v)
    (hW : DataW.Whole enc Tryz.prog Tryz.f5.params.toList Rows.ledgerDoesSpec.vars false W args.toList ds gs before) (hL : laidMetH Tryz.prog Rows.ledgerRecordsRow.laid W) (hb : bulkAll (ds ++ gs) ≤ 1048576) :
    Calls Tryz.prog 5 args W fun e W' => ∃ v, e = .returned v ∧ Rows.ledgerDoesSpec.post enc Tryz.prog Tryz.f5 false true false false W args v W' := by
  have hW' := hW
  obtain ⟨p, q, hA, hV, rfl, hfz, hnd⟩ := hW
  obtain ⟨rfl, rfl⟩ := trodVars_none hV
  rw [List.append_nil] at hb
  have hA2 : DataW.TrodAll enc Tryz.prog W 0 (fun _ => true) true [63, 3] args.toList ds p := by
    have := hA; rw [Tryz.params5] at this; exact this
  have hpl : ∀ t ∈ [63, 3], plainT Tryz.prog 8 t = true := by
    intro t ht
    simp only [List.mem_cons, List.not_mem_nil, or_false] at ht
    rcases ht with rfl | rfl <;> kernel_rfl
  have hrd : ∀ t ∈ [63, 3], Tryz.prog.readableRec t = true ∧ t < Tryz.prog.types.size := by
    intro t ht
    simp only [List.mem_cons, List.not_mem_nil, or_false] at ht
    rcases ht with rfl | rfl <;> exact ⟨by kernel_rfl, of_decide_eq_true (by kernel_rfl)⟩
  obtain ⟨xs, hr, hs⟩ := args_rel (M := 1048576) (k := 8) (by decide) hpl
    (fun j t v ht hv => hval j t v (by rw [Tryz.params5]; simpa using ht) (by simpa using hv)) hA2 hb
  obtain ⟨d1, d2, hds⟩ : ∃ d1 d2, ds = [d1, d2] := by
    obtain ⟨_, _, d1, _, _, _, -, rfl, -, -, hA3⟩ := trodAll_cons hA2
    obtain ⟨_, _, d2, _, _, _, -, rfl, -, -, hA4⟩ := trodAll_cons hA3
    obtain ⟨-, rfl, -⟩ := trodAll_nil hA4
    exact ⟨_, _, rfl⟩
  subst hds
  obtain ⟨y1, ys1, rfl, hy1, y2, ys2, rfl, hy2, rfl⟩ := hs
  unfold ArgShp at hy1 hy2
  simp only [Tryz.underlying63] at hy1
  simp only [Tryz.underlying3] at hy2
  obtain ⟨l, e1, hl, hll⟩ := shp_ops17 (k := 1) hy1
  simp only [List.cons.injEq, and_true] at e1
  subst e1
  obtain ⟨base, e2, -⟩ := shp_int (k := 7) hy2
  simp only [List.cons.injEq, and_true] at e2
  subst e2
  refine (calls_of_acalls (ledgerDoes_ok l base (by omega) (fun o ho => by have := hll o ho; exact ⟨⟨⟨by omega, by omega⟩, this.1.2⟩, this.2⟩)) (handle_of_laid hL) hr).mono fun e W' ⟨he, hB⟩ => ?_
  subst he
  exact ⟨_, rfl, law_post hW' hB laidOut (by rw [Tryz.params5]; exact hrd) rfl Tryz.underlying4 rfl rfl⟩

theorem ldo_lifted (os : Os) (started : os.Started) (H : Type) (enc : TypeId × Value → H) (F : Stop.Interp) :
    ReturnsInHanded {} Tryz.checked os 5 .any ((Rows.OpenSpec.upto Rows.ledgerDoesSpec).preRow enc Tryz.prog Tryz.f5 Rows.ledgerDoesUptoRow.domain false Rows.ledgerDoesUptoRow.laid) (((Rows.OpenSpec.upto Rows.ledgerDoesSpec).at F).post enc Tryz.prog Tryz.f5 false true false false) := by
  obtain ⟨places, hx⟩ := ldo_reads os enc
  refine returnsInHanded_of_row (C := Tryz.checked) (s := Rows.OpenSpec.upto Rows.ledgerDoesSpec) own started (by kernel_rfl) Tryz.func5
    (witness_row_at (enc := enc) (C := Tryz.checked) false (laidWorld os) ldoArgs rfl (by kernel_rfl) (by kernel_rfl) (by kernel_rfl)
      (OpenSpec.preRow_of_cond 8 hx (by kernel_rfl) (fun k hk => by cases hk; kernel_rfl) (by kernel_rfl) (laidWorld_met os _))) ?_
  intro W base args ds gs before hval hW _ hcond _ hL _ _
  exact ldo_contract H enc W base args ds gs before hval hW hL (upto_small (hcond _ rfl))

theorem ledgerDoesUpto_said : Rows.LedgerDoesUptoSaid :=
  OpenClaim.holds_of_cond 5 Tryz.f5 rfl rfl rfl rfl rfl rfl rfl ⟨rfl, rfl, rfl, rfl, rfl⟩ rfl rfl rfl rfl rfl (by kernel_rfl) Tryz.func5 (by kernel_rfl)
    (of_decide_eq_true (by kernel_rfl)) (by unfold Func.isWrapper; first | (rw [if_pos (by decide +kernel)]; kernel_rfl) | (rw [if_neg (by decide +kernel)]; exact ⟨rfl, rfl⟩))
    (fun os started H enc _ F => by rw [OpenClaim.pre_eq_preRow]; exact ldo_lifted os started H enc F)

theorem ldo_plain (f : FuncId) (fn : Func) (hf : Tryz.pinned.checked.prog.funcNamed "buttery/butterylaw17.LedgerDoes" = some f) (hfn : Tryz.pinned.checked.prog.funcs[f]? = some fn) :
    true = Tryz.pinned.checked.prog.looks [] ∧ ∀ (j : Nat) (t : TypeId), fn.params[j]? = some t → Tryz.pinned.checked.prog.wantsStandIn t = false := by
  obtain rfl : f = 5 := Option.some.inj ((show Tryz.prog.funcNamed "buttery/butterylaw17.LedgerDoes" = some 5 by kernel_rfl).symm.trans hf) |>.symm
  obtain rfl : fn = Tryz.f5 := (Option.some.inj (Tryz.func5.symm.trans hfn)).symm
  refine ⟨by kernel_rfl, fun j t ht => ?_⟩
  rw [Tryz.params5] at ht
  have hm := Array.mem_of_getElem? ht
  have hw : ∀ t ∈ [63, 3], Tryz.prog.wantsStandIn t = false := by
    intro t ht
    simp only [List.mem_cons, List.not_mem_nil, or_false] at ht
    rcases ht with rfl | rfl <;> kernel_rfl
  exact hw t (by simpa using hm)

/-- LedgerDoes, where what it reads is of bulk at most 1048576: the second form's card. -/
theorem ledgerDoesUpto_card : Rows.LedgerDoesUptoCardSaid :=
  Claim7.holds_tied_plain_at .later [] _ _ _ _ ledgerDoesUpto_said (fun _ h => by cases h) (by kernel_rfl) (fun _ h => by cases h) ledgerDoesUpto_row_tie rfl ⟨rfl, rfl⟩ (by kernel_rfl) rfl ldo_plain (by kernel_rfl)
end Go.Proofs.YtlmahffjidgplaaGreatDoor
end
