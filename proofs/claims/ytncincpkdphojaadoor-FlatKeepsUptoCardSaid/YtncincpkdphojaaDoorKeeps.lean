/- FlatKeeps, for all arguments that are together of bulk at most 1048576: it answers true and its arguments read as they did; the variable errors.errorType as the program's text lays it. -/
import Derived.Test.YtncincpkdphojaaDoorDoes
section
namespace Go.Proofs.YtncincpkdphojaaDoor
open Go Go.Av Go.ChangeShapes Go.WideShapes Go.ChangeAt Go.RowKit
set_option linter.unusedVariables false
set_option linter.unusedSimpArgs false
set_option maxRecDepth 100000

/-! ### FlatKeeps -/
def keepsArgs : Array Value := #[.slice none 0 0, .agg #[.string ⟨#[]⟩, .int .i64 0, .int .i64 0, .int .i64 0, .slice none 0 0], .string ⟨#[]⟩, .int .i64 0]
theorem keeps_reads (os : Os) {H : Type} (enc : TypeId × Value → H) : ∃ places, DataW.whole enc Tryd.prog ((laidWorld os).forCall (fun _ _ => 0) ⟨#[], keepsArgs, []⟩).memory Tryd.f4.params.toList Rows.flatKeepsSpec.vars false keepsArgs.toList 8 = some ([.nil, .agg [.lit (.string []), .lit (.int .i64 0), .lit (.int .i64 0), .lit (.int .i64 0), .nil], .lit (.string []), .lit (.int .i64 0)], [], places) :=
  ⟨[], by kernel_rfl⟩

theorem keeps_contract (H : Type) (enc : TypeId × Value → H) (W : World) (base : Nat) (args : Array Value) (ds gs : List (DataW H)) (before : List MemPlace)
    (hval : ∀ (j : Nat) (t : TypeId) (v : Value), Tryd.f4.params[j]? = some t → args[j]? = some v → Value.okWide Tryd.prog W .any base t v)
    (hW : DataW.Whole enc Tryd.prog Tryd.f4.params.toList Rows.flatKeepsSpec.vars false W args.toList ds gs before) (hL : laidMetH Tryd.prog Rows.flatDoesRow.laid W) (hb : bulkAll (ds ++ gs) ≤ 1048576) :
    Calls Tryd.prog 4 args W fun e W' => ∃ v, e = .returned v ∧ Rows.flatKeepsSpec.post enc Tryd.prog Tryd.f4 false true false false W args v W' := by
  have hW' := hW
  obtain ⟨p, q, hA, hV, rfl, hfz, hnd⟩ := hW
  obtain ⟨rfl, rfl⟩ := trodVars_none hV
  rw [List.append_nil] at hb
  have hA2 : DataW.TrodAll enc Tryd.prog W 0 (fun _ => true) true [22, 33, 9, 3] args.toList ds p := by
    have := hA; rw [Tryd.params4] at this; exact this
  have hpl : ∀ t ∈ [22, 33, 9, 3], plainT Tryd.prog 6 t = true := by
    intro t ht
    simp only [List.mem_cons, List.not_mem_nil, or_false] at ht
    rcases ht with rfl | rfl | rfl | rfl <;> kernel_rfl
  have hrd : ∀ t ∈ [22, 33, 9, 3], Tryd.prog.readableRec t = true ∧ t < Tryd.prog.types.size := by
    intro t ht
    simp only [List.mem_cons, List.not_mem_nil, or_false] at ht
    rcases ht with rfl | rfl | rfl | rfl <;> exact ⟨by kernel_rfl, of_decide_eq_true (by kernel_rfl)⟩
  obtain ⟨xs, hr, hs⟩ := args_rel (M := 1048576) (k := 6) (by decide) hpl
    (fun j t v ht hv => hval j t v (by rw [Tryd.params4]; simpa using ht) (by simpa using hv)) hA2 hb
  obtain ⟨d1, d2, d3, d4, hds⟩ : ∃ d1 d2 d3 d4, ds = [d1, d2, d3, d4] := by
    obtain ⟨_, _, d1, _, _, _, -, rfl, -, -, hA3⟩ := trodAll_cons hA2
    obtain ⟨_, _, d2, _, _, _, -, rfl, -, -, hA4⟩ := trodAll_cons hA3
    obtain ⟨_, _, d3, _, _, _, -, rfl, -, -, hA5⟩ := trodAll_cons hA4
    obtain ⟨_, _, d4, _, _, _, -, rfl, -, -, hA6⟩ := trodAll_cons hA5
    obtain ⟨-, rfl, -⟩ := trodAll_nil hA6
    exact ⟨_, _, _, _, rfl⟩
  subst hds
  obtain ⟨y1, ys1, rfl, hy1, y2, ys2, rfl, hy2, y3, ys3, rfl, hy3, y4, ys4, rfl, hy4, rfl⟩ := hs
  unfold ArgShp at hy1 hy2 hy3 hy4
  simp only [Tryd.underlying22] at hy1
  simp only [Tryd.underlying33] at hy2
  simp only [Tryd.underlying9] at hy3
  simp only [Tryd.underlying3] at hy4
  obtain ⟨l, e1, hl, hll⟩ := shp_ops (k := 0) hy1
  simp only [List.cons.injEq, and_true] at e1
  subst e1
  obtain ⟨xs2, rfl, hy2⟩ := hy2
  obtain ⟨x, rfl, -, -⟩ := shp_entry (k := 3) hy2
  unfold Shp at hy3 hy4
  simp only [Tryd.underlying9] at hy3
  simp only [Tryd.underlying3] at hy4
  obtain ⟨key, e3, -⟩ := hy3
  simp only [List.cons.injEq, and_true] at e3
  subst e3
  obtain ⟨a, e4, -⟩ := hy4
  simp only [List.cons.injEq, and_true] at e4
  subst e4
  refine (calls_of_acalls (flatKeeps_ok l x key a (by omega) (fun o ho => by have := hll o ho; omega)) (handle_of_laid hL) hr).mono fun e W' ⟨he, hB⟩ => ?_
  subst he
  exact ⟨_, rfl, law_post hW' hB laidOut (by rw [Tryd.params4]; exact hrd) rfl Tryd.underlying4 rfl rfl⟩

theorem keeps_lifted (os : Os) (started : os.Started) (H : Type) (enc : TypeId × Value → H) (F : Stop.Interp) :
    ReturnsInHanded {} Tryd.checked os 4 .any ((Rows.OpenSpec.upto Rows.flatKeepsSpec).preRow enc Tryd.prog Tryd.f4 Rows.flatKeepsUptoRow.domain false Rows.flatKeepsUptoRow.laid) (((Rows.OpenSpec.upto Rows.flatKeepsSpec).at F).post enc Tryd.prog Tryd.f4 false true false false) := by
  obtain ⟨places, hx⟩ := keeps_reads os enc
  refine returnsInHanded_of_row (C := Tryd.checked) (s := Rows.OpenSpec.upto Rows.flatKeepsSpec) own started (by kernel_rfl) Tryd.func4
    (witness_row_at (enc := enc) (C := Tryd.checked) false (laidWorld os) keepsArgs rfl (by kernel_rfl) (by kernel_rfl) (by kernel_rfl)
      (OpenSpec.preRow_of_cond 8 hx (by kernel_rfl) (fun k hk => by cases hk; kernel_rfl) (by kernel_rfl) (laidWorld_met os _))) ?_
  intro W base args ds gs before hval hW _ hcond _ hL _ _
  exact keeps_contract H enc W base args ds gs before hval hW hL (upto_small (hcond _ rfl))

theorem flatKeepsUpto_said : Rows.FlatKeepsUptoSaid :=
  OpenClaim.holds_of_cond 4 Tryd.f4 rfl rfl rfl rfl rfl rfl rfl ⟨rfl, rfl, rfl, rfl, rfl⟩ rfl rfl rfl rfl rfl (by kernel_rfl) Tryd.func4 (by kernel_rfl)
    (of_decide_eq_true (by kernel_rfl)) (by unfold Func.isWrapper; first | (rw [if_pos (by decide +kernel)]; kernel_rfl) | (rw [if_neg (by decide +kernel)]; exact ⟨rfl, rfl⟩))
    (fun os started H enc _ F => by rw [OpenClaim.pre_eq_preRow]; exact keeps_lifted os started H enc F)

theorem keeps_plain (f : FuncId) (fn : Func) (hf : Tryd.pinned.checked.prog.funcNamed "buttery/butterylaw33.FlatKeeps" = some f) (hfn : Tryd.pinned.checked.prog.funcs[f]? = some fn) :
    true = Tryd.pinned.checked.prog.looks [] ∧ ∀ (j : Nat) (t : TypeId), fn.params[j]? = some t → Tryd.pinned.checked.prog.wantsStandIn t = false := by
  obtain rfl : f = 4 := Option.some.inj ((show Tryd.prog.funcNamed "buttery/butterylaw33.FlatKeeps" = some 4 by kernel_rfl).symm.trans hf) |>.symm
  obtain rfl : fn = Tryd.f4 := (Option.some.inj (Tryd.func4.symm.trans hfn)).symm
  refine ⟨by kernel_rfl, fun j t ht => ?_⟩
  rw [Tryd.params4] at ht
  have hm := Array.mem_of_getElem? ht
  have : t = 22 ∨ t = 33 ∨ t = 9 ∨ t = 3 := by simpa using hm
  rcases this with rfl | rfl | rfl | rfl
  · exact (show Tryd.prog.wantsStandIn 22 = false by kernel_rfl)
  · exact (show Tryd.prog.wantsStandIn 33 = false by kernel_rfl)
  · exact (show Tryd.prog.wantsStandIn 9 = false by kernel_rfl)
  · exact (show Tryd.prog.wantsStandIn 3 = false by kernel_rfl)

/-- FlatKeeps, where what it reads is of bulk at most 1048576: the second form's card. -/
theorem flatKeepsUpto_card : Rows.FlatKeepsUptoCardSaid :=
  Claim7.holds_tied_plain_at .later [] _ _ _ _ flatKeepsUpto_said (fun _ h => by cases h) (by kernel_rfl) (fun _ h => by cases h) flatKeepsUpto_row_tie rfl ⟨rfl, rfl⟩ (by kernel_rfl) rfl keeps_plain (by kernel_rfl)
end Go.Proofs.YtncincpkdphojaaDoor
end
