/- SnapshotWhole, for all arguments that are together of bulk at most 1048576: it answers true and its arguments read as they did; the variable errors.errorType as the program's text lays it. -/
import Derived.Test.YtdnhcpbammfmlaaGreatDoorB7
set_option linter.unusedVariables false
set_option linter.unusedSimpArgs false
set_option maxRecDepth 100000
set_option maxHeartbeats 4000000
namespace Go.Proofs.YtdnhcpbammfmlaaGreatDoor
open Go Go.Av Go.ChangeShapes Go.WideShapes Go.ChangeAt Go.RowKit
section
/-! ### SnapshotWhole -/
def snwArgs : Array Value := #[.slice none 0 0, .slice none 0 0, .int .u8 0, .int .u8 0, .slice none 0 0]
theorem snw_reads (os : Os) {H : Type} (enc : TypeId × Value → H) : ∃ places, DataW.whole enc Tryz.prog ((laidWorld os).forCall (fun _ _ => 0) ⟨#[], snwArgs, []⟩).memory Tryz.f5.params.toList Rows.snapshotWholeSpec.vars false snwArgs.toList 8 = some ([.nil, .nil, .lit (.int .u8 0), .lit (.int .u8 0), .nil], [], places) :=
 ⟨[], by kernel_rfl⟩
theorem snw_contract (H : Type) (enc : TypeId × Value → H) (W : World) (base : Nat) (args : Array Value) (ds gs : List (DataW H)) (before : List MemPlace)
   (hval : ∀ (j : Nat) (t : TypeId) (v : Value), Tryz.f5.params[j]? = some t → args[j]? = some v → Value.okWide Tryz.prog W .any base t v)
   (hW : DataW.Whole enc Tryz.prog Tryz.f5.params.toList Rows.snapshotWholeSpec.vars false W args.toList ds gs before) (hL : laidMetH Tryz.prog Rows.snapshotDoesRow.laid W) (hb : bulkAll (ds ++ gs) ≤ 1048576) :
   Calls Tryz.prog 5 args W fun e W' => ∃ v, e = .returned v ∧ Rows.snapshotWholeSpec.post enc Tryz.prog Tryz.f5 false true false false W args v W' := by
 have hW' := hW
 obtain ⟨p, q, hA, hV, rfl, hfz, hnd⟩ := hW
 obtain ⟨rfl, rfl⟩ := trodVars_none hV
 rw [List.append_nil] at hb
 have hA2 : DataW.TrodAll enc Tryz.prog W 0 (fun _ => true) true [22, 22, 5, 5, 56] args.toList ds p := by
   have := hA; rw [Tryz.params5] at this; exact this
 have hpl : ∀ t ∈ [22, 22, 5, 5, 56], plainT Tryz.prog 8 t = true := by
   intro t ht
   simp only [List.mem_cons, List.not_mem_nil, or_false] at ht
   rcases ht with rfl | rfl | rfl | rfl | rfl <;> kernel_rfl
 have hrd : ∀ t ∈ [22, 22, 5, 5, 56], Tryz.prog.readableRec t = true ∧ t < Tryz.prog.types.size := by
   intro t ht
   simp only [List.mem_cons, List.not_mem_nil, or_false] at ht
   rcases ht with rfl | rfl | rfl | rfl | rfl <;> exact ⟨by kernel_rfl, of_decide_eq_true (by kernel_rfl)⟩
 obtain ⟨xs, hr, hs⟩ := args_rel (M := 1048576) (k := 8) (by decide) hpl
   (fun j t v ht hv => hval j t v (by rw [Tryz.params5]; simpa using ht) (by simpa using hv)) hA2 hb
 obtain ⟨d1, d2, d3, d4, d5, hds⟩ : ∃ d1 d2 d3 d4 d5, ds = [d1, d2, d3, d4, d5] := by
   obtain ⟨_, _, d1, _, _, _, -, rfl, -, -, hA3⟩ := trodAll_cons hA2
   obtain ⟨_, _, d2, _, _, _, -, rfl, -, -, hA4⟩ := trodAll_cons hA3
   obtain ⟨_, _, d3, _, _, _, -, rfl, -, -, hA5⟩ := trodAll_cons hA4
   obtain ⟨_, _, d4, _, _, _, -, rfl, -, -, hA6⟩ := trodAll_cons hA5
   obtain ⟨_, _, d5, _, _, _, -, rfl, -, -, hA7⟩ := trodAll_cons hA6
   obtain ⟨-, rfl, -⟩ := trodAll_nil hA7
   exact ⟨_, _, _, _, _, rfl⟩
 subst hds
 obtain ⟨y1, ys1, rfl, hy1, y2, ys2, rfl, hy2, y3, ys3, rfl, hy3, y4, ys4, rfl, hy4, y5, ys5, rfl, hy5, rfl⟩ := hs
 unfold ArgShp at hy1 hy2 hy3 hy4 hy5
 simp only [Tryz.underlying22] at hy1 hy2
 simp only [Tryz.underlying5] at hy3 hy4
 simp only [Tryz.underlying56] at hy5
 obtain ⟨l, e1, hl, hh⟩ := shp_sn (k := 5) hy1
 simp only [List.cons.injEq, and_true] at e1
 subst e1
 obtain ⟨m, e2, hm, hh2⟩ := shp_sn (k := 5) hy2
 simp only [List.cons.injEq, and_true] at e2
 subst e2
 obtain ⟨n3, e3, hn3⟩ := shp_u8S (k := 7) hy3
 simp only [List.cons.injEq, and_true] at e3
 subst e3
 obtain ⟨n4, e4, hn4⟩ := shp_u8S (k := 7) hy4
 simp only [List.cons.injEq, and_true] at e4
 subst e4
 obtain ⟨ks, e5, hks, -⟩ := shp_ints (k := 6) hy5
 simp only [List.cons.injEq, and_true] at e5
 subst e5
 refine (calls_of_acalls (snapshotWhole_ok l m n3 n4 ks (by omega) (by omega) hh hh2 hn3 hn4 (by omega)) (handle_of_laid hL) hr).mono fun e W' ⟨he, hB⟩ => ?_
 subst he
 exact ⟨_, rfl, law_post hW' hB laidOut (by rw [Tryz.params5]; exact hrd) rfl Tryz.underlying4 rfl rfl⟩
theorem snw_lifted (os : Os) (started : os.Started) (H : Type) (enc : TypeId × Value → H) (F : Stop.Interp) :
   ReturnsInHanded {} Tryz.checked os 5 .any ((Rows.OpenSpec.upto Rows.snapshotWholeSpec).preRow enc Tryz.prog Tryz.f5 Rows.snapshotWholeUptoRow.domain false Rows.snapshotWholeUptoRow.laid) (((Rows.OpenSpec.upto Rows.snapshotWholeSpec).at F).post enc Tryz.prog Tryz.f5 false true false false) := by
 obtain ⟨places, hx⟩ := snw_reads os enc
 refine returnsInHanded_of_row (C := Tryz.checked) (s := Rows.OpenSpec.upto Rows.snapshotWholeSpec) own started (by kernel_rfl) Tryz.func5
   (witness_row_at (enc := enc) (C := Tryz.checked) false (laidWorld os) snwArgs rfl (by kernel_rfl) (by kernel_rfl) (by kernel_rfl)
     (OpenSpec.preRow_of_cond 8 hx (by kernel_rfl) (fun k hk => by cases hk; kernel_rfl) (by kernel_rfl) (laidWorld_met os _))) ?_
 intro W base args ds gs before hval hW _ hcond _ hL _ _
 exact snw_contract H enc W base args ds gs before hval hW hL (upto_small (hcond _ rfl))
theorem snw_f1 : (Rows.snapshotWholeUptoRow.inPlace == Tryz.pinned.checked.prog.inPlace 5) = true := by kernel_rfl
theorem snw_f2 : (Rows.snapshotWholeUptoRow.unfollowed == Tryz.pinned.checked.prog.unfollowed 5) = true := by kernel_rfl
theorem snw_f3 : (Rows.snapshotWholeUptoRow.recurses == Tryz.pinned.checked.prog.recurses 5) = true := by kernel_rfl
theorem snw_f4 : (Rows.snapshotWholeUptoRow.named == Tryz.pinned.checked.prog.varsNamed 5) = true := by kernel_rfl
theorem snw_closed : joinedFacts Tryz.pinned.checked.prog 5 Tryz.f5 (Rows.OpenSpec.upto Rows.snapshotWholeSpec).bare Rows.snapshotWholeUptoRow = true := by
 unfold joinedFacts
 rw [snw_f1, snw_f2, snw_f3, snw_f4]
 kernel_rfl
theorem snapshotWholeUpto_said : Rows.SnapshotWholeUptoSaid :=
 OpenClaim.holds_of_cond 5 Tryz.f5 rfl rfl rfl rfl rfl rfl rfl ⟨rfl, rfl, rfl, rfl, rfl⟩ rfl rfl rfl rfl rfl (by kernel_rfl) Tryz.func5 snw_closed
   (of_decide_eq_true (by kernel_rfl)) (by unfold Func.isWrapper; first | (rw [if_pos (by decide +kernel)]; kernel_rfl) | (rw [if_neg (by decide +kernel)]; exact ⟨rfl, rfl⟩))
   (fun os started H enc _ F => by rw [OpenClaim.pre_eq_preRow]; exact snw_lifted os started H enc F)
theorem snw_plain (f : FuncId) (fn : Func) (hf : Tryz.pinned.checked.prog.funcNamed "buttery/butterylaw20.SnapshotWhole" = some f) (hfn : Tryz.pinned.checked.prog.funcs[f]? = some fn) :
   true = Tryz.pinned.checked.prog.looks [] ∧ ∀ (j : Nat) (t : TypeId), fn.params[j]? = some t → Tryz.pinned.checked.prog.wantsStandIn t = false := by
 obtain rfl : f = 5 := Option.some.inj ((show Tryz.prog.funcNamed "buttery/butterylaw20.SnapshotWhole" = some 5 by kernel_rfl).symm.trans hf) |>.symm
 obtain rfl : fn = Tryz.f5 := (Option.some.inj (Tryz.func5.symm.trans hfn)).symm
 refine ⟨by kernel_rfl, fun j t ht => ?_⟩
 rw [Tryz.params5] at ht
 have hm := Array.mem_of_getElem? ht
 have hw : ∀ t ∈ [22, 22, 5, 5, 56], Tryz.prog.wantsStandIn t = false := by
   intro t ht
   simp only [List.mem_cons, List.not_mem_nil, or_false] at ht
   rcases ht with rfl | rfl | rfl | rfl | rfl <;> kernel_rfl
 exact hw t (by simpa using hm)
/-- SnapshotWhole, where what it reads is of bulk at most 1048576: the second form's card. -/
theorem snapshotWholeUpto_card : Rows.SnapshotWholeUptoCardSaid :=
 Claim7.holds_tied_plain_at .later [] _ _ _ _ snapshotWholeUpto_said (fun _ h => by cases h) (by kernel_rfl) (fun _ h => by cases h) snapshotWholeUpto_row_tie rfl ⟨rfl, rfl⟩ (by kernel_rfl) rfl snw_plain (by kernel_rfl)
end
end Go.Proofs.YtdnhcpbammfmlaaGreatDoor
