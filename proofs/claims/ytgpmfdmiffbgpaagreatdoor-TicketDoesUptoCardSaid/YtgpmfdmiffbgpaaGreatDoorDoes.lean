/- TicketDoes, for every list of acts that is of bulk at most 1048576: it answers true and its argument reads as it did; the variable errors.errorType as the program's text lays it. -/
import Derived.Test.YtgpmfdmiffbgpaaGreatDoorC6
import Derived.Test.YtgpmfdmiffbgpaaGreatDoorE1
section
namespace Go.Proofs.YtgpmfdmiffbgpaaGreatDoor
open Go Go.Av Go.ChangeShapes Go.WideShapes Go.ChangeAt Go.RowKit
set_option linter.unusedVariables false
set_option linter.unusedSimpArgs false
set_option maxRecDepth 100000

/-! ### TicketDoes -/
theorem cellsOpT : Tryz.prog.cellsOf 53 = 5 := by kernel_rfl
theorem shp_opT {M k : Nat} {xs : List AV} (h : Shp Tryz.prog M (k + 3) 53 xs) : ∃ o : OpT, xs = o.cells ∧ o.b.length ≤ M ∧ o.keep.length ≤ M ∧ o.at_ < 9223372036854775808 := by
  unfold Shp at h
  simp only [Tryz.underlying53, FieldsAre] at h
  obtain ⟨p1, q1, rfl, h1, p2, q2, rfl, h2, p3, q3, rfl, h3, p4, q4, rfl, h4, p5, q5, rfl, h5, rfl⟩ := h
  obtain ⟨n1, rfl, -⟩ := shp_int (k := k + 1) h1
  obtain ⟨n2, rfl, hn2, -⟩ := shp_int (k := k + 1) h2
  obtain ⟨n3, rfl, -⟩ := shp_int (k := k + 1) h3
  obtain ⟨b, rfl, hb⟩ := shp_bytes (k := k) h4
  obtain ⟨ks, rfl, hk, -⟩ := shp_ints (k := k) h5
  exact ⟨⟨n1, n2, n3, b, ks⟩, rfl, hb, hk, hn2⟩
theorem shp_opsT {M k : Nat} {xs : List AV} (h : Shp Tryz.prog M (k + 4) 42 xs) : ∃ l : List OpT, xs = [.sl 5 (opsT l)] ∧ l.length ≤ M ∧ ∀ o ∈ l, o.b.length ≤ M ∧ o.keep.length ≤ M ∧ o.at_ < 9223372036854775808 := by
  unfold Shp at h
  simp only [Tryz.underlying42, cellsOpT] at h
  obtain ⟨rows, rfl, hl, hr⟩ := h
  have : ∃ l : List OpT, rows = opsT l ∧ ∀ o ∈ l, o.b.length ≤ M ∧ o.keep.length ≤ M ∧ o.at_ < 9223372036854775808 := by
    clear hl
    induction rows with
    | nil => exact ⟨[], rfl, by simp⟩
    | cons r rows ih =>
      obtain ⟨l, rfl, h2⟩ := ih fun r hr' => hr r (List.mem_cons_of_mem _ hr')
      obtain ⟨o, rfl, h3⟩ := shp_opT (k := k) (hr r (List.mem_cons_self ..))
      exact ⟨o :: l, rfl, fun o' ho' => by rcases List.mem_cons.1 ho' with rfl | h; (· exact h3); (· exact h2 o' h)⟩
  obtain ⟨l, rfl, h2⟩ := this
  exact ⟨l, rfl, by rwa [opsT_len] at hl, h2⟩

def doesArgs : Array Value := #[.slice none 0 0]
theorem does_reads (os : Os) {H : Type} (enc : TypeId × Value → H) : ∃ places, DataW.whole enc Tryz.prog ((laidWorld os).forCall (fun _ _ => 0) ⟨#[], doesArgs, []⟩).memory Tryz.f4.params.toList Rows.ticketDoesSpec.vars false doesArgs.toList 8 = some ([.nil], [], places) :=
  ⟨[], by kernel_rfl⟩

theorem does_contract (H : Type) (enc : TypeId × Value → H) (W : World) (base : Nat) (args : Array Value) (ds gs : List (DataW H)) (before : List MemPlace)
    (hval : ∀ (j : Nat) (t : TypeId) (v : Value), Tryz.f4.params[j]? = some t → args[j]? = some v → Value.okWide Tryz.prog W .any base t v)
    (hW : DataW.Whole enc Tryz.prog Tryz.f4.params.toList Rows.ticketDoesSpec.vars false W args.toList ds gs before) (hL : laidMetH Tryz.prog Rows.ticketTornRow.laid W) (hb : bulkAll (ds ++ gs) ≤ 1048576) :
    Calls Tryz.prog 4 args W fun e W' => ∃ v, e = .returned v ∧ Rows.ticketDoesSpec.post enc Tryz.prog Tryz.f4 false true false false W args v W' := by
  have hW' := hW
  obtain ⟨p, q, hA, hV, rfl, hfz, hnd⟩ := hW
  obtain ⟨rfl, rfl⟩ := trodVars_none hV
  rw [List.append_nil] at hb
  have hA2 : DataW.TrodAll enc Tryz.prog W 0 (fun _ => true) true [42] args.toList ds p := by
    have := hA; rw [Tryz.params4] at this; exact this
  have hpl : ∀ t ∈ [42], plainT Tryz.prog 6 t = true := by
    intro t ht
    simp only [List.mem_cons, List.not_mem_nil, or_false] at ht
    subst ht <;> kernel_rfl
  have hrd : ∀ t ∈ [42], Tryz.prog.readableRec t = true ∧ t < Tryz.prog.types.size := by
    intro t ht
    simp only [List.mem_cons, List.not_mem_nil, or_false] at ht
    subst ht <;> exact ⟨by kernel_rfl, of_decide_eq_true (by kernel_rfl)⟩
  obtain ⟨xs, hr, hs⟩ := args_rel (M := 1048576) (k := 6) (by decide) hpl
    (fun j t v ht hv => hval j t v (by rw [Tryz.params4]; simpa using ht) (by simpa using hv)) hA2 hb
  obtain ⟨d1, hds⟩ : ∃ d1, ds = [d1] := by
    obtain ⟨_, _, d1, _, _, _, -, rfl, -, -, hA3⟩ := trodAll_cons hA2
    obtain ⟨-, rfl, -⟩ := trodAll_nil hA3
    exact ⟨_, rfl⟩
  subst hds
  obtain ⟨y1, ys1, rfl, hy1, rfl⟩ := hs
  unfold ArgShp at hy1
  simp only [Tryz.underlying42] at hy1
  obtain ⟨l, e1, hl, hll⟩ := shp_opsT (k := 2) hy1
  simp only [List.cons.injEq, and_true] at e1
  subst e1
  refine (calls_of_acalls (ticketDoes_ok l (by omega) (fun o ho => by have := hll o ho; exact ⟨⟨by omega, by omega⟩, this.2.2⟩)) (handle_of_laid hL) hr).mono fun e W' ⟨he, hB⟩ => ?_
  subst he
  exact ⟨_, rfl, law_post hW' hB laidOut (by rw [Tryz.params4]; exact hrd) rfl Tryz.underlying4 rfl rfl⟩

theorem does_lifted (os : Os) (started : os.Started) (H : Type) (enc : TypeId × Value → H) (F : Stop.Interp) :
    ReturnsInHanded {} Tryz.checked os 4 .any ((Rows.OpenSpec.upto Rows.ticketDoesSpec).preRow enc Tryz.prog Tryz.f4 Rows.ticketDoesUptoRow.domain false Rows.ticketDoesUptoRow.laid) (((Rows.OpenSpec.upto Rows.ticketDoesSpec).at F).post enc Tryz.prog Tryz.f4 false true false false) := by
  obtain ⟨places, hx⟩ := does_reads os enc
  refine returnsInHanded_of_row (C := Tryz.checked) (s := Rows.OpenSpec.upto Rows.ticketDoesSpec) own started (by kernel_rfl) Tryz.func4
    (witness_row_at (enc := enc) (C := Tryz.checked) false (laidWorld os) doesArgs rfl (by kernel_rfl) (by kernel_rfl) (by kernel_rfl)
      (OpenSpec.preRow_of_cond 8 hx (by kernel_rfl) (fun k hk => by cases hk; kernel_rfl) (by kernel_rfl) (laidWorld_met os _))) ?_
  intro W base args ds gs before hval hW _ hcond _ hL _ _
  exact does_contract H enc W base args ds gs before hval hW hL (upto_small (hcond _ rfl))

theorem ticketDoesUpto_said : Rows.TicketDoesUptoSaid :=
  OpenClaim.holds_of_cond 4 Tryz.f4 rfl rfl rfl rfl rfl rfl rfl ⟨rfl, rfl, rfl, rfl, rfl⟩ rfl rfl rfl rfl rfl (by kernel_rfl) Tryz.func4 (by kernel_rfl)
    (of_decide_eq_true (by kernel_rfl)) (by unfold Func.isWrapper; first | (rw [if_pos (by decide +kernel)]; kernel_rfl) | (rw [if_neg (by decide +kernel)]; exact ⟨rfl, rfl⟩))
    (fun os started H enc _ F => by rw [OpenClaim.pre_eq_preRow]; exact does_lifted os started H enc F)

theorem does_plain (f : FuncId) (fn : Func) (hf : Tryz.pinned.checked.prog.funcNamed "buttery/butterylaw10.TicketDoes" = some f) (hfn : Tryz.pinned.checked.prog.funcs[f]? = some fn) :
    true = Tryz.pinned.checked.prog.looks [] ∧ ∀ (j : Nat) (t : TypeId), fn.params[j]? = some t → Tryz.pinned.checked.prog.wantsStandIn t = false := by
  obtain rfl : f = 4 := Option.some.inj ((show Tryz.prog.funcNamed "buttery/butterylaw10.TicketDoes" = some 4 by kernel_rfl).symm.trans hf) |>.symm
  obtain rfl : fn = Tryz.f4 := (Option.some.inj (Tryz.func4.symm.trans hfn)).symm
  refine ⟨by kernel_rfl, fun j t ht => ?_⟩
  rw [Tryz.params4] at ht
  have hm := Array.mem_of_getElem? ht
  have hw : ∀ t ∈ [42], Tryz.prog.wantsStandIn t = false := by
    intro t ht
    simp only [List.mem_cons, List.not_mem_nil, or_false] at ht
    subst ht <;> kernel_rfl
  exact hw t (by simpa using hm)

/-- TicketDoes, where what it reads is of bulk at most 1048576: the second form's card. -/
theorem ticketDoesUpto_card : Rows.TicketDoesUptoCardSaid :=
  Claim7.holds_tied_plain_at .later [] _ _ _ _ ticketDoesUpto_said (fun _ h => by cases h) (by kernel_rfl) (fun _ h => by cases h) ticketDoesUpto_row_tie rfl ⟨rfl, rfl⟩ (by kernel_rfl) rfl does_plain (by kernel_rfl)
end Go.Proofs.YtgpmfdmiffbgpaaGreatDoor
end
