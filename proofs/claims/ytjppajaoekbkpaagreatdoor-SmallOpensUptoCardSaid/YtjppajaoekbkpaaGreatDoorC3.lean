/- SmallOpens, for all arguments that are together of bulk at most 1048576: it answers true and its arguments read as they did; the variable errors.errorType as the program's text lays it. -/
import Derived.Test.YtjppajaoekbkpaaGreatDoorC1
import Derived.Test.YtjppajaoekbkpaaGreatDoorC2
set_option linter.unusedVariables false
set_option linter.unusedSimpArgs false
set_option maxRecDepth 100000
set_option maxHeartbeats 4000000
namespace Go.Proofs.YtjppajaoekbkpaaGreatDoor
open Go Go.Av Go.ChangeShapes Go.WideShapes Go.ChangeAt Go.RowKit
section
/-! ### SmallOpens -/
def sopArgs : Array Value := #[.slice none 0 0, .int .i64 0, .int .i64 0]
theorem sop_reads (os : Os) {H : Type} (enc : TypeId × Value → H) : ∃ places, DataW.whole enc Tryz.prog ((laidWorld os).forCall (fun _ _ => 0) ⟨#[], sopArgs, []⟩).memory Tryz.f6.params.toList Rows.smallOpensSpec.vars false sopArgs.toList 8 = some ([.nil, .lit (.int .i64 0), .lit (.int .i64 0)], [], places) :=
 ⟨[], by kernel_rfl⟩
theorem sop_contract (H : Type) (enc : TypeId × Value → H) (W : World) (base : Nat) (args : Array Value) (ds gs : List (DataW H)) (before : List MemPlace)
   (hval : ∀ (j : Nat) (t : TypeId) (v : Value), Tryz.f6.params[j]? = some t → args[j]? = some v → Value.okWide Tryz.prog W .any base t v)
   (hW : DataW.Whole enc Tryz.prog Tryz.f6.params.toList Rows.smallOpensSpec.vars false W args.toList ds gs before) (hL : laidMetH Tryz.prog Rows.smallDoesRow.laid W) (hb : bulkAll (ds ++ gs) ≤ 1048576) :
   Calls Tryz.prog 6 args W fun e W' => ∃ v, e = .returned v ∧ Rows.smallOpensSpec.post enc Tryz.prog Tryz.f6 false true false false W args v W' := by
 have hW' := hW
 obtain ⟨p, q, hA, hV, rfl, hfz, hnd⟩ := hW
 obtain ⟨rfl, rfl⟩ := trodVars_none hV
 rw [List.append_nil] at hb
 have hA2 : DataW.TrodAll enc Tryz.prog W 0 (fun _ => true) true [68, 3, 3] args.toList ds p := by
   have := hA; rw [Tryz.params6] at this; exact this
 have hpl : ∀ t ∈ [68, 3, 3], plainT Tryz.prog 8 t = true := by
   intro t ht
   simp only [List.mem_cons, List.not_mem_nil, or_false] at ht
   rcases ht with rfl | rfl | rfl <;> kernel_rfl
 have hrd : ∀ t ∈ [68, 3, 3], Tryz.prog.readableRec t = true ∧ t < Tryz.prog.types.size := by
   intro t ht
   simp only [List.mem_cons, List.not_mem_nil, or_false] at ht
   rcases ht with rfl | rfl | rfl <;> exact ⟨by kernel_rfl, of_decide_eq_true (by kernel_rfl)⟩
 obtain ⟨xs, hr, hs⟩ := args_rel (M := 1048576) (k := 8) (by decide) hpl
   (fun j t v ht hv => hval j t v (by rw [Tryz.params6]; simpa using ht) (by simpa using hv)) hA2 hb
 obtain ⟨d1, d2, d3, hds⟩ : ∃ d1 d2 d3, ds = [d1, d2, d3] := by
   obtain ⟨_, _, d1, _, _, _, -, rfl, -, -, hA3⟩ := trodAll_cons hA2
   obtain ⟨_, _, d2, _, _, _, -, rfl, -, -, hA4⟩ := trodAll_cons hA3
   obtain ⟨_, _, d3, _, _, _, -, rfl, -, -, hA5⟩ := trodAll_cons hA4
   obtain ⟨-, rfl, -⟩ := trodAll_nil hA5
   exact ⟨_, _, _, rfl⟩
 subst hds
 obtain ⟨y1, ys1, rfl, hy1, y2, ys2, rfl, hy2, y3, ys3, rfl, hy3, rfl⟩ := hs
 unfold ArgShp at hy1 hy2 hy3
 simp only [Tryz.underlying68] at hy1
 simp only [Tryz.underlying3] at hy2 hy3
 obtain ⟨l, e1, hl, hll⟩ := shp_ops13 (k := 3) hy1
 simp only [List.cons.injEq, and_true] at e1
 subst e1
 obtain ⟨base, e2, -⟩ := shp_int (k := 7) hy2
 simp only [List.cons.injEq, and_true] at e2
 subst e2
 obtain ⟨n, e3, hn3, -⟩ := shp_int (k := 7) hy3
 simp only [List.cons.injEq, and_true] at e3
 subst e3
 refine (calls_of_acalls (smallOpens_ok l base n (by omega) (fun o ho => by have := hll o ho; exact ⟨by omega, by omega, by omega, this.2.2.2⟩) hn3) (handle_of_laid hL) hr).mono fun e W' ⟨he, hB⟩ => ?_
 subst he
 exact ⟨_, rfl, law_post hW' hB laidOut (by rw [Tryz.params6]; exact hrd) rfl Tryz.underlying4 rfl rfl⟩
theorem sop_lifted (os : Os) (started : os.Started) (H : Type) (enc : TypeId × Value → H) (F : Stop.Interp) :
   ReturnsInHanded {} Tryz.checked os 6 .any ((Rows.OpenSpec.upto Rows.smallOpensSpec).preRow enc Tryz.prog Tryz.f6 Rows.smallOpensUptoRow.domain false Rows.smallOpensUptoRow.laid) (((Rows.OpenSpec.upto Rows.smallOpensSpec).at F).post enc Tryz.prog Tryz.f6 false true false false) := by
 obtain ⟨places, hx⟩ := sop_reads os enc
 refine returnsInHanded_of_row (C := Tryz.checked) (s := Rows.OpenSpec.upto Rows.smallOpensSpec) own started (by kernel_rfl) Tryz.func6
   (witness_row_at (enc := enc) (C := Tryz.checked) false (laidWorld os) sopArgs rfl (by kernel_rfl) (by kernel_rfl) (by kernel_rfl)
     (OpenSpec.preRow_of_cond 8 hx (by kernel_rfl) (fun k hk => by cases hk; kernel_rfl) (by kernel_rfl) (laidWorld_met os _))) ?_
 intro W base args ds gs before hval hW _ hcond _ hL _ _
 exact sop_contract H enc W base args ds gs before hval hW hL (upto_small (hcond _ rfl))
theorem sop_f1 : (Rows.smallOpensUptoRow.inPlace == Tryz.pinned.checked.prog.inPlace 6) = true := by kernel_rfl
theorem sop_f2 : (Rows.smallOpensUptoRow.unfollowed == Tryz.pinned.checked.prog.unfollowed 6) = true := by kernel_rfl
theorem sop_f3 : (Rows.smallOpensUptoRow.recurses == Tryz.pinned.checked.prog.recurses 6) = true := by kernel_rfl
theorem sop_f4 : (Rows.smallOpensUptoRow.named == Tryz.pinned.checked.prog.varsNamed 6) = true := by kernel_rfl
theorem sop_closed : joinedFacts Tryz.pinned.checked.prog 6 Tryz.f6 (Rows.OpenSpec.upto Rows.smallOpensSpec).bare Rows.smallOpensUptoRow = true := by
 unfold joinedFacts
 rw [sop_f1, sop_f2, sop_f3, sop_f4]
 kernel_rfl
theorem smallOpensUpto_said : Rows.SmallOpensUptoSaid :=
 OpenClaim.holds_of_cond 6 Tryz.f6 rfl rfl rfl rfl rfl rfl rfl ⟨rfl, rfl, rfl, rfl, rfl⟩ rfl rfl rfl rfl rfl (by kernel_rfl) Tryz.func6 sop_closed
   (of_decide_eq_true (by kernel_rfl)) (by unfold Func.isWrapper; first | (rw [if_pos (by decide +kernel)]; kernel_rfl) | (rw [if_neg (by decide +kernel)]; exact ⟨rfl, rfl⟩))
   (fun os started H enc _ F => by rw [OpenClaim.pre_eq_preRow]; exact sop_lifted os started H enc F)
theorem sop_plain (f : FuncId) (fn : Func) (hf : Tryz.pinned.checked.prog.funcNamed "buttery/butterylaw13.SmallOpens" = some f) (hfn : Tryz.pinned.checked.prog.funcs[f]? = some fn) :
   true = Tryz.pinned.checked.prog.looks [] ∧ ∀ (j : Nat) (t : TypeId), fn.params[j]? = some t → Tryz.pinned.checked.prog.wantsStandIn t = false := by
 obtain rfl : f = 6 := Option.some.inj ((show Tryz.prog.funcNamed "buttery/butterylaw13.SmallOpens" = some 6 by kernel_rfl).symm.trans hf) |>.symm
 obtain rfl : fn = Tryz.f6 := (Option.some.inj (Tryz.func6.symm.trans hfn)).symm
 refine ⟨by kernel_rfl, fun j t ht => ?_⟩
 rw [Tryz.params6] at ht
 have hm := Array.mem_of_getElem? ht
 have hw : ∀ t ∈ [68, 3, 3], Tryz.prog.wantsStandIn t = false := by
   intro t ht
   simp only [List.mem_cons, List.not_mem_nil, or_false] at ht
   rcases ht with rfl | rfl | rfl <;> kernel_rfl
 exact hw t (by simpa using hm)
/-- SmallOpens, where what it reads is of bulk at most 1048576: the second form's card. -/
theorem smallOpensUpto_card : Rows.SmallOpensUptoCardSaid :=
 Claim7.holds_tied_plain_at .later [] _ _ _ _ smallOpensUpto_said (fun _ h => by cases h) (by kernel_rfl) (fun _ h => by cases h) smallOpensUpto_row_tie rfl ⟨rfl, rfl⟩ (by kernel_rfl) rfl sop_plain (by kernel_rfl)
end
end Go.Proofs.YtjppajaoekbkpaaGreatDoor
