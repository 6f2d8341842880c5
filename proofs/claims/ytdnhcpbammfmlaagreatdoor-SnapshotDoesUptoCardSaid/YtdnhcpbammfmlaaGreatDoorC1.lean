/- SnapshotDoes, for all arguments that are together of bulk at most 1048576: it answers true and its arguments read as they did; the variable errors.errorType as the program's text lays it. -/
import Derived.Test.YtdnhcpbammfmlaaGreatDoorB9
set_option linter.unusedVariables false
set_option linter.unusedSimpArgs false
set_option maxRecDepth 100000
set_option maxHeartbeats 4000000
namespace Go.Proofs.YtdnhcpbammfmlaaGreatDoor
open Go Go.Av Go.ChangeShapes Go.WideShapes Go.ChangeAt Go.RowKit
section
/-! ### SnapshotDoes -/
def sndArgs : Array Value := #[.slice none 0 0, .int .i64 0, .int .i64 0, .int .i64 0]
theorem snd_reads (os : Os) {H : Type} (enc : TypeId × Value → H) : ∃ places, DataW.whole enc Tryz.prog ((laidWorld os).forCall (fun _ _ => 0) ⟨#[], sndArgs, []⟩).memory Tryz.f4.params.toList Rows.snapshotDoesSpec.vars false sndArgs.toList 8 = some ([.nil, .lit (.int .i64 0), .lit (.int .i64 0), .lit (.int .i64 0)], [], places) :=
 ⟨[], by kernel_rfl⟩
theorem snd_contract (H : Type) (enc : TypeId × Value → H) (W : World) (base : Nat) (args : Array Value) (ds gs : List (DataW H)) (before : List MemPlace)
   (hval : ∀ (j : Nat) (t : TypeId) (v : Value), Tryz.f4.params[j]? = some t → args[j]? = some v → Value.okWide Tryz.prog W .any base t v)
   (hW : DataW.Whole enc Tryz.prog Tryz.f4.params.toList Rows.snapshotDoesSpec.vars false W args.toList ds gs before) (hL : laidMetH Tryz.prog Rows.snapshotDoesRow.laid W) (hb : bulkAll (ds ++ gs) ≤ 1048576) :
   Calls Tryz.prog 4 args W fun e W' => ∃ v, e = .returned v ∧ Rows.snapshotDoesSpec.post enc Tryz.prog Tryz.f4 false true false false W args v W' := by
 have hW' := hW
 obtain ⟨p, q, hA, hV, rfl, hfz, hnd⟩ := hW
 obtain ⟨rfl, rfl⟩ := trodVars_none hV
 rw [List.append_nil] at hb
 have hA2 : DataW.TrodAll enc Tryz.prog W 0 (fun _ => true) true [40, 3, 3, 3] args.toList ds p := by
   have := hA; rw [Tryz.params4] at this; exact this
 have hpl : ∀ t ∈ [40, 3, 3, 3], plainT Tryz.prog 8 t = true := by
   intro t ht
   simp only [List.mem_cons, List.not_mem_nil, or_false] at ht
   rcases ht with rfl | rfl | rfl | rfl <;> kernel_rfl
 have hrd : ∀ t ∈ [40, 3, 3, 3], Tryz.prog.readableRec t = true ∧ t < Tryz.prog.types.size := by
   intro t ht
   simp only [List.mem_cons, List.not_mem_nil, or_false] at ht
   rcases ht with rfl | rfl | rfl | rfl <;> exact ⟨by kernel_rfl, of_decide_eq_true (by kernel_rfl)⟩
 obtain ⟨xs, hr, hs⟩ := args_rel (M := 1048576) (k := 8) (by decide) hpl
   (fun j t v ht hv => hval j t v (by rw [Tryz.params4]; simpa using ht) (by simpa using hv)) hA2 hb
 obtain ⟨d1, d2, d3, d4, hds⟩ : ∃ d1 d2 d3 d4, ds = [d1, d2, d3, d4] := by
   obtain ⟨_, _, d1, _, _, _, -, rfl, -, -, hA3⟩ := trodAll_cons hA2
   obtain ⟨_, _, d2, _, _, _, -, rfl, -, -, hA4⟩ := trodAll_cons hA3
   obtain ⟨_, _, d3, _, _, _, -, rfl, -, -, hA5⟩ := trodAll_cons hA4
   obtain ⟨_, _, d4, _, _, _, -, rfl, -, -, hA6⟩ := trodAll_cons hA5
   obtain ⟨-, rfl, -⟩ := trodAll_nil hA6
   exact ⟨_, _, _, _, rfl⟩
 subst hds
 obtain ⟨y1, ys1, rfl, hy1, y2, ys2, rfl, hy2, y3, ys3, rfl, hy3, y4, ys4, rfl, hy4, rfl⟩ := hs
 unfold ArgShp at hy1 hy2 hy3 hy4
 simp only [Tryz.underlying40] at hy1
 simp only [Tryz.underlying3] at hy2 hy3 hy4
 obtain ⟨l, e1, hl, hll⟩ := shp_ops20 (k := 3) hy1
 simp only [List.cons.injEq, and_true] at e1
 subst e1
 obtain ⟨n2, e2, -⟩ := shp_int (k := 7) hy2
 simp only [List.cons.injEq, and_true] at e2
 subst e2
 obtain ⟨n3, e3, -⟩ := shp_int (k := 7) hy3
 simp only [List.cons.injEq, and_true] at e3
 subst e3
 obtain ⟨n4, e4, -⟩ := shp_int (k := 7) hy4
 simp only [List.cons.injEq, and_true] at e4
 subst e4
 refine (calls_of_acalls (snapshotDoes_ok l n2 n3 n4 (by omega) (fun o ho => by have := hll o ho; exact ⟨by omega, by omega, this.2.2.1, this.2.2.2⟩)) (handle_of_laid hL) hr).mono fun e W' ⟨he, hB⟩ => ?_
 subst he
 exact ⟨_, rfl, law_post hW' hB laidOut (by rw [Tryz.params4]; exact hrd) rfl Tryz.underlying4 rfl rfl⟩
theorem snd_lifted (os : Os) (started : os.Started) (H : Type) (enc : TypeId × Value → H) (F : Stop.Interp) :
   ReturnsInHanded {} Tryz.checked os 4 .any ((Rows.OpenSpec.upto Rows.snapshotDoesSpec).preRow enc Tryz.prog Tryz.f4 Rows.snapshotDoesUptoRow.domain false Rows.snapshotDoesUptoRow.laid) (((Rows.OpenSpec.upto Rows.snapshotDoesSpec).at F).post enc Tryz.prog Tryz.f4 false true false false) := by
 obtain ⟨places, hx⟩ := snd_reads os enc
 refine returnsInHanded_of_row (C := Tryz.checked) (s := Rows.OpenSpec.upto Rows.snapshotDoesSpec) own started (by kernel_rfl) Tryz.func4
   (witness_row_at (enc := enc) (C := Tryz.checked) false (laidWorld os) sndArgs rfl (by kernel_rfl) (by kernel_rfl) (by kernel_rfl)
     (OpenSpec.preRow_of_cond 8 hx (by kernel_rfl) (fun k hk => by cases hk; kernel_rfl) (by kernel_rfl) (laidWorld_met os _))) ?_
 intro W base args ds gs before hval hW _ hcond _ hL _ _
 exact snd_contract H enc W base args ds gs before hval hW hL (upto_small (hcond _ rfl))
theorem snd_f1 : (Rows.snapshotDoesUptoRow.inPlace == Tryz.pinned.checked.prog.inPlace 4) = true := by kernel_rfl
theorem snd_f2 : (Rows.snapshotDoesUptoRow.unfollowed == Tryz.pinned.checked.prog.unfollowed 4) = true := by kernel_rfl
theorem snd_f3 : (Rows.snapshotDoesUptoRow.recurses == Tryz.pinned.checked.prog.recurses 4) = true := by kernel_rfl
theorem snd_f4 : (Rows.snapshotDoesUptoRow.named == Tryz.pinned.checked.prog.varsNamed 4) = true := by kernel_rfl
theorem snd_closed : joinedFacts Tryz.pinned.checked.prog 4 Tryz.f4 (Rows.OpenSpec.upto Rows.snapshotDoesSpec).bare Rows.snapshotDoesUptoRow = true := by
 unfold joinedFacts
 rw [snd_f1, snd_f2, snd_f3, snd_f4]
 kernel_rfl
theorem snapshotDoesUpto_said : Rows.SnapshotDoesUptoSaid :=
 OpenClaim.holds_of_cond 4 Tryz.f4 rfl rfl rfl rfl rfl rfl rfl ⟨rfl, rfl, rfl, rfl, rfl⟩ rfl rfl rfl rfl rfl (by kernel_rfl) Tryz.func4 snd_closed
   (of_decide_eq_true (by kernel_rfl)) (by unfold Func.isWrapper; first | (rw [if_pos (by decide +kernel)]; kernel_rfl) | (rw [if_neg (by decide +kernel)]; exact ⟨rfl, rfl⟩))
   (fun os started H enc _ F => by rw [OpenClaim.pre_eq_preRow]; exact snd_lifted os started H enc F)
theorem snd_plain (f : FuncId) (fn : Func) (hf : Tryz.pinned.checked.prog.funcNamed "buttery/butterylaw20.SnapshotDoes" = some f) (hfn : Tryz.pinned.checked.prog.funcs[f]? = some fn) :
   true = Tryz.pinned.checked.prog.looks [] ∧ ∀ (j : Nat) (t : TypeId), fn.params[j]? = some t → Tryz.pinned.checked.prog.wantsStandIn t = false := by
 obtain rfl : f = 4 := Option.some.inj ((show Tryz.prog.funcNamed "buttery/butterylaw20.SnapshotDoes" = some 4 by kernel_rfl).symm.trans hf) |>.symm
 obtain rfl : fn = Tryz.f4 := (Option.some.inj (Tryz.func4.symm.trans hfn)).symm
 refine ⟨by kernel_rfl, fun j t ht => ?_⟩
 rw [Tryz.params4] at ht
 have hm := Array.mem_of_getElem? ht
 have hw : ∀ t ∈ [40, 3, 3, 3], Tryz.prog.wantsStandIn t = false := by
   intro t ht
   simp only [List.mem_cons, List.not_mem_nil, or_false] at ht
   rcases ht with rfl | rfl | rfl | rfl <;> kernel_rfl
 exact hw t (by simpa using hm)
/-- SnapshotDoes, where what it reads is of bulk at most 1048576: the second form's card. -/
theorem snapshotDoesUpto_card : Rows.SnapshotDoesUptoCardSaid :=
 Claim7.holds_tied_plain_at .later [] _ _ _ _ snapshotDoesUpto_said (fun _ h => by cases h) (by kernel_rfl) (fun _ h => by cases h) snapshotDoesUpto_row_tie rfl ⟨rfl, rfl⟩ (by kernel_rfl) rfl snd_plain (by kernel_rfl)
end
end Go.Proofs.YtdnhcpbammfmlaaGreatDoor
