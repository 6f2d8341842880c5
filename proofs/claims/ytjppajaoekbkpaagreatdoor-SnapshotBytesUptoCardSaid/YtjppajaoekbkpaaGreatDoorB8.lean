/- SnapshotBytes, for all arguments that are together of bulk at most 1048576: it answers true and its arguments read as they did; the variable errors.errorType as the program's text lays it. -/
import Derived.Test.YtjppajaoekbkpaaGreatDoorB6
import Derived.Test.YtjppajaoekbkpaaGreatDoorB7
set_option linter.unusedVariables false
set_option linter.unusedSimpArgs false
set_option maxRecDepth 100000
set_option maxHeartbeats 4000000
namespace Go.Proofs.YtjppajaoekbkpaaGreatDoor
open Go Go.Av Go.ChangeShapes Go.WideShapes Go.ChangeAt Go.RowKit
section
/-! ### SnapshotBytes -/
def snbArgs : Array Value := #[.slice none 0 0, .slice none 0 0, .int .u16 0]
theorem snb_reads (os : Os) {H : Type} (enc : TypeId × Value → H) : ∃ places, DataW.whole enc Tryz.prog ((laidWorld os).forCall (fun _ _ => 0) ⟨#[], snbArgs, []⟩).memory Tryz.f3.params.toList Rows.snapshotBytesSpec.vars false snbArgs.toList 8 = some ([.nil, .nil, .lit (.int .u16 0)], [], places) :=
 ⟨[], by kernel_rfl⟩
theorem snb_contract (H : Type) (enc : TypeId × Value → H) (W : World) (base : Nat) (args : Array Value) (ds gs : List (DataW H)) (before : List MemPlace)
   (hval : ∀ (j : Nat) (t : TypeId) (v : Value), Tryz.f3.params[j]? = some t → args[j]? = some v → Value.okWide Tryz.prog W .any base t v)
   (hW : DataW.Whole enc Tryz.prog Tryz.f3.params.toList Rows.snapshotBytesSpec.vars false W args.toList ds gs before) (hL : laidMetH Tryz.prog Rows.smallDoesRow.laid W) (hb : bulkAll (ds ++ gs) ≤ 1048576) :
   Calls Tryz.prog 3 args W fun e W' => ∃ v, e = .returned v ∧ Rows.snapshotBytesSpec.post enc Tryz.prog Tryz.f3 false true false false W args v W' := by
 have hW' := hW
 obtain ⟨p, q, hA, hV, rfl, hfz, hnd⟩ := hW
 obtain ⟨rfl, rfl⟩ := trodVars_none hV
 rw [List.append_nil] at hb
 have hA2 : DataW.TrodAll enc Tryz.prog W 0 (fun _ => true) true [22, 23, 24] args.toList ds p := by
   have := hA; rw [Tryz.params3] at this; exact this
 have hpl : ∀ t ∈ [22, 23, 24], plainT Tryz.prog 8 t = true := by
   intro t ht
   simp only [List.mem_cons, List.not_mem_nil, or_false] at ht
   rcases ht with rfl | rfl | rfl <;> kernel_rfl
 have hrd : ∀ t ∈ [22, 23, 24], Tryz.prog.readableRec t = true ∧ t < Tryz.prog.types.size := by
   intro t ht
   simp only [List.mem_cons, List.not_mem_nil, or_false] at ht
   rcases ht with rfl | rfl | rfl <;> exact ⟨by kernel_rfl, of_decide_eq_true (by kernel_rfl)⟩
 obtain ⟨xs, hr, hs⟩ := args_rel (M := 1048576) (k := 8) (by decide) hpl
   (fun j t v ht hv => hval j t v (by rw [Tryz.params3]; simpa using ht) (by simpa using hv)) hA2 hb
 obtain ⟨d1, d2, d3, hds⟩ : ∃ d1 d2 d3, ds = [d1, d2, d3] := by
   obtain ⟨_, _, d1, _, _, _, -, rfl, -, -, hA3⟩ := trodAll_cons hA2
   obtain ⟨_, _, d2, _, _, _, -, rfl, -, -, hA4⟩ := trodAll_cons hA3
   obtain ⟨_, _, d3, _, _, _, -, rfl, -, -, hA5⟩ := trodAll_cons hA4
   obtain ⟨-, rfl, -⟩ := trodAll_nil hA5
   exact ⟨_, _, _, rfl⟩
 subst hds
 obtain ⟨y1, ys1, rfl, hy1, y2, ys2, rfl, hy2, y3, ys3, rfl, hy3, rfl⟩ := hs
 unfold ArgShp at hy1 hy2 hy3
 simp only [Tryz.underlying22] at hy1
 simp only [Tryz.underlying23] at hy2
 simp only [Tryz.underlying24] at hy3
 obtain ⟨l, e1, hl, hh⟩ := shp_sn (k := 5) hy1
 simp only [List.cons.injEq, and_true] at e1
 subst e1
 obtain ⟨bs, e2, hbs⟩ := shp_bytes (k := 6) hy2
 simp only [List.cons.injEq, and_true] at e2
 subst e2
 obtain ⟨n, e3, hn⟩ := shp_u16 (k := 7) hy3
 simp only [List.cons.injEq, and_true] at e3
 subst e3
 refine (calls_of_acalls (snapshotBytes_ok l bs n (by omega) hh (by omega) hn) (handle_of_laid hL) hr).mono fun e W' ⟨he, hB⟩ => ?_
 subst he
 exact ⟨_, rfl, law_post hW' hB laidOut (by rw [Tryz.params3]; exact hrd) rfl Tryz.underlying4 rfl rfl⟩
theorem snb_lifted (os : Os) (started : os.Started) (H : Type) (enc : TypeId × Value → H) (F : Stop.Interp) :
   ReturnsInHanded {} Tryz.checked os 3 .any ((Rows.OpenSpec.upto Rows.snapshotBytesSpec).preRow enc Tryz.prog Tryz.f3 Rows.snapshotBytesUptoRow.domain false Rows.snapshotBytesUptoRow.laid) (((Rows.OpenSpec.upto Rows.snapshotBytesSpec).at F).post enc Tryz.prog Tryz.f3 false true false false) := by
 obtain ⟨places, hx⟩ := snb_reads os enc
 refine returnsInHanded_of_row (C := Tryz.checked) (s := Rows.OpenSpec.upto Rows.snapshotBytesSpec) own started (by kernel_rfl) Tryz.func3
   (witness_row_at (enc := enc) (C := Tryz.checked) false (laidWorld os) snbArgs rfl (by kernel_rfl) (by kernel_rfl) (by kernel_rfl)
     (OpenSpec.preRow_of_cond 8 hx (by kernel_rfl) (fun k hk => by cases hk; kernel_rfl) (by kernel_rfl) (laidWorld_met os _))) ?_
 intro W base args ds gs before hval hW _ hcond _ hL _ _
 exact snb_contract H enc W base args ds gs before hval hW hL (upto_small (hcond _ rfl))
theorem snb_f1 : (Rows.snapshotBytesUptoRow.inPlace == Tryz.pinned.checked.prog.inPlace 3) = true := by kernel_rfl
theorem snb_f2 : (Rows.snapshotBytesUptoRow.unfollowed == Tryz.pinned.checked.prog.unfollowed 3) = true := by kernel_rfl
theorem snb_f3 : (Rows.snapshotBytesUptoRow.recurses == Tryz.pinned.checked.prog.recurses 3) = true := by kernel_rfl
theorem snb_f4 : (Rows.snapshotBytesUptoRow.named == Tryz.pinned.checked.prog.varsNamed 3) = true := by kernel_rfl
theorem snb_closed : joinedFacts Tryz.pinned.checked.prog 3 Tryz.f3 (Rows.OpenSpec.upto Rows.snapshotBytesSpec).bare Rows.snapshotBytesUptoRow = true := by
 unfold joinedFacts
 rw [snb_f1, snb_f2, snb_f3, snb_f4]
 kernel_rfl
theorem snapshotBytesUpto_said : Rows.SnapshotBytesUptoSaid :=
 OpenClaim.holds_of_cond 3 Tryz.f3 rfl rfl rfl rfl rfl rfl rfl ⟨rfl, rfl, rfl, rfl, rfl⟩ rfl rfl rfl rfl rfl (by kernel_rfl) Tryz.func3 snb_closed
   (of_decide_eq_true (by kernel_rfl)) (by unfold Func.isWrapper; first | (rw [if_pos (by decide +kernel)]; kernel_rfl) | (rw [if_neg (by decide +kernel)]; exact ⟨rfl, rfl⟩))
   (fun os started H enc _ F => by rw [OpenClaim.pre_eq_preRow]; exact snb_lifted os started H enc F)
theorem snb_plain (f : FuncId) (fn : Func) (hf : Tryz.pinned.checked.prog.funcNamed "buttery/butterylaw20.SnapshotBytes" = some f) (hfn : Tryz.pinned.checked.prog.funcs[f]? = some fn) :
   true = Tryz.pinned.checked.prog.looks [] ∧ ∀ (j : Nat) (t : TypeId), fn.params[j]? = some t → Tryz.pinned.checked.prog.wantsStandIn t = false := by
 obtain rfl : f = 3 := Option.some.inj ((show Tryz.prog.funcNamed "buttery/butterylaw20.SnapshotBytes" = some 3 by kernel_rfl).symm.trans hf) |>.symm
 obtain rfl : fn = Tryz.f3 := (Option.some.inj (Tryz.func3.symm.trans hfn)).symm
 refine ⟨by kernel_rfl, fun j t ht => ?_⟩
 rw [Tryz.params3] at ht
 have hm := Array.mem_of_getElem? ht
 have hw : ∀ t ∈ [22, 23, 24], Tryz.prog.wantsStandIn t = false := by
   intro t ht
   simp only [List.mem_cons, List.not_mem_nil, or_false] at ht
   rcases ht with rfl | rfl | rfl <;> kernel_rfl
 exact hw t (by simpa using hm)
/-- SnapshotBytes, where what it reads is of bulk at most 1048576: the second form's card. -/
theorem snapshotBytesUpto_card : Rows.SnapshotBytesUptoCardSaid :=
 Claim7.holds_tied_plain_at .later [] _ _ _ _ snapshotBytesUpto_said (fun _ h => by cases h) (by kernel_rfl) (fun _ h => by cases h) snapshotBytesUpto_row_tie rfl ⟨rfl, rfl⟩ (by kernel_rfl) rfl snb_plain (by kernel_rfl)
end
end Go.Proofs.YtjppajaoekbkpaaGreatDoor
