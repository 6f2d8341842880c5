/- FlatDoes, for every list of acts that is of bulk at most 1048576: it answers true and its argument reads as it did; the variable errors.errorType as the program's text lays it. -/
import Derived.Test.YtncincpkdphojaaDoorE1
section
namespace Go.Proofs.YtncincpkdphojaaDoor
open Go Go.Av Go.ChangeShapes Go.WideShapes Go.ChangeAt Go.RowKit
set_option linter.unusedVariables false
set_option linter.unusedSimpArgs false
set_option maxRecDepth 100000

theorem laidOut : laidOutB Tryd.prog = true := by kernel_rfl

/-- A world for the witness: the settled one, the variable's cell laid. -/
noncomputable def laidWorld (os : Os) : World :=
  let w0 := World.holding Tryd.prog os ⟨#[], #[], []⟩
  { w0 with heap := w0.heap.modify 0 fun
      | .cells _ t frozen => .cells #[.iface 121 (.agg #[.pointer (some ⟨1, 41, none⟩)])] t frozen
      | o => o }
theorem laidWorld_met (os : Os) (args : Array Value) : laidMetH Tryd.prog Rows.flatDoesRow.laid ((laidWorld os).forCall (fun _ _ => 0) ⟨#[], args, []⟩).memory :=
  laidMetH_of_parts (laidMet_nil _ _) (by kernel_rfl)

/-! ### FlatDoes -/
theorem does_reads (os : Os) {H : Type} (enc : TypeId × Value → H) : ∃ places, DataW.whole enc Tryd.prog ((laidWorld os).forCall (fun _ _ => 0) ⟨#[], #[.slice none 0 0], []⟩).memory Tryd.f3.params.toList Rows.flatDoesSpec.vars false #[Value.slice none 0 0].toList 8 = some ([.nil], [], places) :=
  ⟨[], by kernel_rfl⟩

theorem does_contract (H : Type) (enc : TypeId × Value → H) (W : World) (base : Nat) (args : Array Value) (ds gs : List (DataW H)) (before : List MemPlace)
    (hval : ∀ (j : Nat) (t : TypeId) (v : Value), Tryd.f3.params[j]? = some t → args[j]? = some v → Value.okWide Tryd.prog W .any base t v)
    (hW : DataW.Whole enc Tryd.prog Tryd.f3.params.toList Rows.flatDoesSpec.vars false W args.toList ds gs before) (hL : laidMetH Tryd.prog Rows.flatDoesRow.laid W) (hb : bulkAll (ds ++ gs) ≤ 1048576) :
    Calls Tryd.prog 3 args W fun e W' => ∃ v, e = .returned v ∧ Rows.flatDoesSpec.post enc Tryd.prog Tryd.f3 false true false false W args v W' := by
  have hW' := hW
  obtain ⟨p, q, hA, hV, rfl, hfz, hnd⟩ := hW
  obtain ⟨rfl, rfl⟩ := trodVars_none hV
  rw [List.append_nil] at hb
  have hA2 : DataW.TrodAll enc Tryd.prog W 0 (fun _ => true) true [22] args.toList ds p := by
    have := hA; rw [Tryd.params3] at this; exact this
  obtain ⟨v0, d0, rfl, rfl, h0⟩ := trodAll_one hA2
  obtain ⟨xs, hr, hs⟩ := args_rel (M := 1048576) (k := 6) (by decide) (ts := [22]) (by intro t ht; rw [List.mem_singleton.1 ht]; kernel_rfl)
    (fun j t v ht hv => hval j t v (by rw [Tryd.params3]; simpa using ht) (by simpa using hv)) hA2 hb
  obtain ⟨y, ys, rfl, hy, rfl⟩ := hs
  unfold ArgShp at hy
  simp only [Tryd.underlying22] at hy
  obtain ⟨l, e1, hl, hll⟩ := shp_ops (k := 0) hy
  simp only [List.cons.injEq, and_true] at e1
  subst e1
  refine (calls_of_acalls (flatDoes_ok l (by omega) (fun o ho => by have := hll o ho; omega)) (handle_of_laid hL) hr).mono fun e W' ⟨he, hB⟩ => ?_
  subst he
  exact ⟨_, rfl, law_post hW' hB laidOut (by rw [Tryd.params3]; intro t ht; rw [List.mem_singleton.1 ht]; exact ⟨by kernel_rfl, of_decide_eq_true (by kernel_rfl)⟩) rfl Tryd.underlying4 rfl rfl⟩

theorem does_lifted (os : Os) (started : os.Started) (H : Type) (enc : TypeId × Value → H) (F : Stop.Interp) :
    ReturnsInHanded {} Tryd.checked os 3 .any ((Rows.OpenSpec.upto Rows.flatDoesSpec).preRow enc Tryd.prog Tryd.f3 Rows.flatDoesUptoRow.domain false Rows.flatDoesUptoRow.laid) (((Rows.OpenSpec.upto Rows.flatDoesSpec).at F).post enc Tryd.prog Tryd.f3 false true false false) := by
  obtain ⟨places, hx⟩ := does_reads os enc
  refine returnsInHanded_of_row (C := Tryd.checked) (s := Rows.OpenSpec.upto Rows.flatDoesSpec) own started (by kernel_rfl) Tryd.func3
    (witness_row_at (enc := enc) (C := Tryd.checked) false (laidWorld os) #[.slice none 0 0] rfl (by kernel_rfl) (by kernel_rfl) (by kernel_rfl)
      (OpenSpec.preRow_of_cond 8 hx (by kernel_rfl) (fun k hk => by cases hk; kernel_rfl) (by kernel_rfl) (laidWorld_met os _))) ?_
  intro W base args ds gs before hval hW _ hcond _ hL _ _
  exact does_contract H enc W base args ds gs before hval hW hL (upto_small (hcond _ rfl))

theorem flatDoesUpto_said : Rows.FlatDoesUptoSaid :=
  OpenClaim.holds_of_cond 3 Tryd.f3 rfl rfl rfl rfl rfl rfl rfl ⟨rfl, rfl, rfl, rfl, rfl⟩ rfl rfl rfl rfl rfl (by kernel_rfl) Tryd.func3 (by kernel_rfl)
    (of_decide_eq_true (by kernel_rfl)) (by unfold Func.isWrapper; first | (rw [if_pos (by decide +kernel)]; kernel_rfl) | (rw [if_neg (by decide +kernel)]; exact ⟨rfl, rfl⟩))
    (fun os started H enc _ F => by rw [OpenClaim.pre_eq_preRow]; exact does_lifted os started H enc F)

theorem does_plain (f : FuncId) (fn : Func) (hf : Tryd.pinned.checked.prog.funcNamed "buttery/butterylaw33.FlatDoes" = some f) (hfn : Tryd.pinned.checked.prog.funcs[f]? = some fn) :
    true = Tryd.pinned.checked.prog.looks [] ∧ ∀ (j : Nat) (t : TypeId), fn.params[j]? = some t → Tryd.pinned.checked.prog.wantsStandIn t = false := by
  obtain rfl : f = 3 := Option.some.inj ((show Tryd.prog.funcNamed "buttery/butterylaw33.FlatDoes" = some 3 by kernel_rfl).symm.trans hf) |>.symm
  obtain rfl : fn = Tryd.f3 := (Option.some.inj (Tryd.func3.symm.trans hfn)).symm
  refine ⟨by kernel_rfl, fun j t ht => ?_⟩
  rw [Tryd.params3] at ht
  obtain rfl : t = 22 := by simpa using Array.mem_of_getElem? ht
  exact (show Tryd.prog.wantsStandIn 22 = false by kernel_rfl)

/-- FlatDoes, where what it reads is of bulk at most 1048576: the second form's card. -/
theorem flatDoesUpto_card : Rows.FlatDoesUptoCardSaid :=
  Claim7.holds_tied_plain_at .later [] _ _ _ _ flatDoesUpto_said (fun _ h => by cases h) (by kernel_rfl) (fun _ h => by cases h) flatDoesUpto_row_tie rfl ⟨rfl, rfl⟩ (by kernel_rfl) rfl does_plain (by kernel_rfl)
end Go.Proofs.YtncincpkdphojaaDoor
end
