/- TicketNew, for all arguments that are together of bulk at most 1048576: it answers true and its arguments read as they did; the variable errors.errorType as the program's text lays it. -/
import Derived.Test.YtgpmfdmiffbgpaaGreatDoorC7
import Derived.Test.YtgpmfdmiffbgpaaGreatDoorE1
section
namespace Go.Proofs.YtgpmfdmiffbgpaaGreatDoor
open Go Go.Av Go.ChangeShapes Go.WideShapes Go.ChangeAt Go.RowKit
set_option linter.unusedVariables false
set_option linter.unusedSimpArgs false
set_option maxRecDepth 100000

/-! ### TicketNew -/
theorem cellsOp4 : Tryz.prog.cellsOf 76 = 6 := by kernel_rfl
theorem shp_u8 {M k : Nat} {xs : List AV} (h : Shp Tryz.prog M (k + 1) 5 xs) : ∃ c : UInt8, xs = [.c (.int .u8 c.toNat)] := by
  unfold Shp at h
  simp only [Tryz.underlying5] at h
  obtain ⟨n, rfl, hw⟩ := h
  have hn : 0 ≤ n ∧ n ≤ 255 := by
    simp only [Lit.wf, Bool.and_eq_true, decide_eq_true_eq] at hw
    have e1 : IntKind.u8.min = 0 := by rfl
    have e2 : IntKind.u8.max = 255 := by rfl
    omega
  refine ⟨UInt8.ofNat n.toNat, ?_⟩
  have : ((UInt8.ofNat n.toNat).toNat : Int) = n := by
    rw [UInt8.toNat_ofNat']; omega
  rw [this]
theorem shp_leaf {M k : Nat} {xs : List AV} (h : Shp Tryz.prog M (k + 3) 36 xs) : ∃ n1 n2 b, xs = [.c (.int .i64 n1), .c (.int .i64 n2), .sl 1 (bytesRows b)] ∧ b.length ≤ M := by
  unfold Shp at h
  simp only [Tryz.underlying36, FieldsAre] at h
  obtain ⟨p1, q1, rfl, h1, p2, q2, rfl, h2, p3, q3, rfl, h3, rfl⟩ := h
  obtain ⟨n1, rfl, -⟩ := shp_int (k := k + 1) h1
  obtain ⟨n2, rfl, -⟩ := shp_int (k := k + 1) h2
  obtain ⟨b, rfl, hb⟩ := shp_bytes (k := k) h3
  exact ⟨n1, n2, b, rfl, hb⟩
theorem shp_op4 {M k : Nat} {xs : List AV} (h : Shp Tryz.prog M (k + 3) 76 xs) : ∃ o : Op4, xs = o.cells ∧ o.keep.length ≤ M ∧ o.n < 9223372036854775808 := by
  unfold Shp at h
  simp only [Tryz.underlying76, FieldsAre] at h
  obtain ⟨p1, q1, rfl, h1, p2, q2, rfl, h2, p3, q3, rfl, h3, p4, q4, rfl, h4, p5, q5, rfl, h5, p6, q6, rfl, h6, rfl⟩ := h
  obtain ⟨n1, rfl, -⟩ := shp_int (k := k + 1) h1
  obtain ⟨n2, rfl, -⟩ := shp_int (k := k + 1) h2
  obtain ⟨a, rfl⟩ := shp_u8 (k := k + 1) h3
  obtain ⟨b, rfl⟩ := shp_u8 (k := k + 1) h4
  obtain ⟨n, rfl, hn, -⟩ := shp_int (k := k + 1) h5
  obtain ⟨ks, rfl, hk, -⟩ := shp_ints (k := k) h6
  exact ⟨⟨n1, n2, a, b, n, ks⟩, rfl, hk, hn⟩
theorem shp_ops4 {M k : Nat} {xs : List AV} (h : Shp Tryz.prog M (k + 4) 71 xs) : ∃ l : List Op4, xs = [.sl 6 (ops4 l)] ∧ l.length ≤ M ∧ ∀ o ∈ l, o.keep.length ≤ M ∧ o.n < 9223372036854775808 := by
  unfold Shp at h
  simp only [Tryz.underlying71, cellsOp4] at h
  obtain ⟨rows, rfl, hl, hr⟩ := h
  have : ∃ l : List Op4, rows = ops4 l ∧ ∀ o ∈ l, o.keep.length ≤ M ∧ o.n < 9223372036854775808 := by
    clear hl
    induction rows with
    | nil => exact ⟨[], rfl, by simp⟩
    | cons r rows ih =>
      obtain ⟨l, rfl, h2⟩ := ih fun r hr' => hr r (List.mem_cons_of_mem _ hr')
      obtain ⟨o, rfl, h3⟩ := shp_op4 (k := k) (hr r (List.mem_cons_self ..))
      exact ⟨o :: l, rfl, fun o' ho' => by rcases List.mem_cons.1 ho' with rfl | h; (· exact h3); (· exact h2 o' h)⟩
  obtain ⟨l, rfl, h2⟩ := this
  exact ⟨l, rfl, by rwa [ops4_len] at hl, h2⟩

def tnewArgs : Array Value := #[.slice none 0 0, .agg #[.int .i64 0, .int .i64 0, .slice none 0 0], .int .u8 0, .slice none 0 0]
theorem tnew_reads (os : Os) {H : Type} (enc : TypeId × Value → H) : ∃ places, DataW.whole enc Tryz.prog ((laidWorld os).forCall (fun _ _ => 0) ⟨#[], tnewArgs, []⟩).memory Tryz.f5.params.toList Rows.ticketNewSpec.vars false tnewArgs.toList 8 = some ([.nil, .agg [.lit (.int .i64 0), .lit (.int .i64 0), .nil], .lit (.int .u8 0), .nil], [], places) :=
  ⟨[], by kernel_rfl⟩

theorem tnew_contract (H : Type) (enc : TypeId × Value → H) (W : World) (base : Nat) (args : Array Value) (ds gs : List (DataW H)) (before : List MemPlace)
    (hval : ∀ (j : Nat) (t : TypeId) (v : Value), Tryz.f5.params[j]? = some t → args[j]? = some v → Value.okWide Tryz.prog W .any base t v)
    (hW : DataW.Whole enc Tryz.prog Tryz.f5.params.toList Rows.ticketNewSpec.vars false W args.toList ds gs before) (hL : laidMetH Tryz.prog Rows.ticketTornRow.laid W) (hb : bulkAll (ds ++ gs) ≤ 1048576) :
    Calls Tryz.prog 5 args W fun e W' => ∃ v, e = .returned v ∧ Rows.ticketNewSpec.post enc Tryz.prog Tryz.f5 false true false false W args v W' := by
  have hW' := hW
  obtain ⟨p, q, hA, hV, rfl, hfz, hnd⟩ := hW
  obtain ⟨rfl, rfl⟩ := trodVars_none hV
  rw [List.append_nil] at hb
  have hA2 : DataW.TrodAll enc Tryz.prog W 0 (fun _ => true) true [71, 36, 5, 34] args.toList ds p := by
    have := hA; rw [Tryz.params5] at this; exact this
  have hpl : ∀ t ∈ [71, 36, 5, 34], plainT Tryz.prog 6 t = true := by
    intro t ht
    simp only [List.mem_cons, List.not_mem_nil, or_false] at ht
    rcases ht with rfl | rfl | rfl | rfl <;> kernel_rfl
  have hrd : ∀ t ∈ [71, 36, 5, 34], Tryz.prog.readableRec t = true ∧ t < Tryz.prog.types.size := by
    intro t ht
    simp only [List.mem_cons, List.not_mem_nil, or_false] at ht
    rcases ht with rfl | rfl | rfl | rfl <;> exact ⟨by kernel_rfl, of_decide_eq_true (by kernel_rfl)⟩
  obtain ⟨xs, hr, hs⟩ := args_rel (M := 1048576) (k := 6) (by decide) hpl
    (fun j t v ht hv => hval j t v (by rw [Tryz.params5]; simpa using ht) (by simpa using hv)) hA2 hb
  obtain ⟨d1, d2, d3, d4, hds⟩ : ∃ d1 d2 d3 d4, ds = [d1, d2, d3, d4] := by
    obtain ⟨_, _, d1, _, _, _, -, rfl, -, -, hA3⟩ := trodAll_cons hA2
    obtain ⟨_, _, d2, _, _, _, -, rfl, -, -, hA4⟩ := trodAll_cons hA3
    obtain ⟨_, _, d3, _, _, _, -, rfl, -, -, hA5⟩ := trodAll_cons hA4
    obtain ⟨_, _, d4, _, _, _, -, rfl, -, -, hA6⟩ := trodAll_cons hA5
    obtain ⟨-, rfl, -⟩ := trodAll_nil hA6
    exact ⟨_, _, _, _, rfl⟩
  subst hds
  obtain ⟨y1, ys1, rfl, hy1, y2, ys2, rfl, hy2, y3, ys3, rfl, hy3, y4, ys4, rfl, hy4, rfl⟩ := hs
  unfold ArgShp at hy1 hy2 hy3 hy4
  simp only [Tryz.underlying71] at hy1
  simp only [Tryz.underlying36] at hy2
  simp only [Tryz.underlying5] at hy3
  simp only [Tryz.underlying34] at hy4
  obtain ⟨l, e1, hl, hll⟩ := shp_ops4 (k := 2) hy1
  simp only [List.cons.injEq, and_true] at e1
  subst e1
  obtain ⟨xs2, rfl, hy2⟩ := hy2
  obtain ⟨n1, n2, b, rfl, hb2⟩ := shp_leaf (k := 3) hy2
  obtain ⟨u, e3⟩ := shp_u8 (k := 5) hy3
  simp only [List.cons.injEq, and_true] at e3
  subst e3
  obtain ⟨ks, e4, hk4, -⟩ := shp_ints (k := 4) hy4
  simp only [List.cons.injEq, and_true] at e4
  subst e4
  refine (calls_of_acalls (ticketNew_ok l n1 n2 b u ks (by omega) (fun o ho => by have := hll o ho; exact ⟨by omega, this.2⟩) (by omega) (by omega)) (handle_of_laid hL) hr).mono fun e W' ⟨he, hB⟩ => ?_
  subst he
  exact ⟨_, rfl, law_post hW' hB laidOut (by rw [Tryz.params5]; exact hrd) rfl Tryz.underlying4 rfl rfl⟩

theorem tnew_lifted (os : Os) (started : os.Started) (H : Type) (enc : TypeId × Value → H) (F : Stop.Interp) :
    ReturnsInHanded {} Tryz.checked os 5 .any ((Rows.OpenSpec.upto Rows.ticketNewSpec).preRow enc Tryz.prog Tryz.f5 Rows.ticketNewUptoRow.domain false Rows.ticketNewUptoRow.laid) (((Rows.OpenSpec.upto Rows.ticketNewSpec).at F).post enc Tryz.prog Tryz.f5 false true false false) := by
  obtain ⟨places, hx⟩ := tnew_reads os enc
  refine returnsInHanded_of_row (C := Tryz.checked) (s := Rows.OpenSpec.upto Rows.ticketNewSpec) own started (by kernel_rfl) Tryz.func5
    (witness_row_at (enc := enc) (C := Tryz.checked) false (laidWorld os) tnewArgs rfl (by kernel_rfl) (by kernel_rfl) (by kernel_rfl)
      (OpenSpec.preRow_of_cond 8 hx (by kernel_rfl) (fun k hk => by cases hk; kernel_rfl) (by kernel_rfl) (laidWorld_met os _))) ?_
  intro W base args ds gs before hval hW _ hcond _ hL _ _
  exact tnew_contract H enc W base args ds gs before hval hW hL (upto_small (hcond _ rfl))

theorem ticketNewUpto_said : Rows.TicketNewUptoSaid :=
  OpenClaim.holds_of_cond 5 Tryz.f5 rfl rfl rfl rfl rfl rfl rfl ⟨rfl, rfl, rfl, rfl, rfl⟩ rfl rfl rfl rfl rfl (by kernel_rfl) Tryz.func5 (by kernel_rfl)
    (of_decide_eq_true (by kernel_rfl)) (by unfold Func.isWrapper; first | (rw [if_pos (by decide +kernel)]; kernel_rfl) | (rw [if_neg (by decide +kernel)]; exact ⟨rfl, rfl⟩))
    (fun os started H enc _ F => by rw [OpenClaim.pre_eq_preRow]; exact tnew_lifted os started H enc F)

theorem tnew_plain (f : FuncId) (fn : Func) (hf : Tryz.pinned.checked.prog.funcNamed "buttery/butterylaw10.TicketNew" = some f) (hfn : Tryz.pinned.checked.prog.funcs[f]? = some fn) :
    true = Tryz.pinned.checked.prog.looks [] ∧ ∀ (j : Nat) (t : TypeId), fn.params[j]? = some t → Tryz.pinned.checked.prog.wantsStandIn t = false := by
  obtain rfl : f = 5 := Option.some.inj ((show Tryz.prog.funcNamed "buttery/butterylaw10.TicketNew" = some 5 by kernel_rfl).symm.trans hf) |>.symm
  obtain rfl : fn = Tryz.f5 := (Option.some.inj (Tryz.func5.symm.trans hfn)).symm
  refine ⟨by kernel_rfl, fun j t ht => ?_⟩
  rw [Tryz.params5] at ht
  have hm := Array.mem_of_getElem? ht
  have hw : ∀ t ∈ [71, 36, 5, 34], Tryz.prog.wantsStandIn t = false := by
    intro t ht
    simp only [List.mem_cons, List.not_mem_nil, or_false] at ht
    rcases ht with rfl | rfl | rfl | rfl <;> kernel_rfl
  exact hw t (by simpa using hm)

/-- TicketNew, where what it reads is of bulk at most 1048576: the second form's card. -/
theorem ticketNewUpto_card : Rows.TicketNewUptoCardSaid :=
  Claim7.holds_tied_plain_at .later [] _ _ _ _ ticketNewUpto_said (fun _ h => by cases h) (by kernel_rfl) (fun _ h => by cases h) ticketNewUpto_row_tie rfl ⟨rfl, rfl⟩ (by kernel_rfl) rfl tnew_plain (by kernel_rfl)
end Go.Proofs.YtgpmfdmiffbgpaaGreatDoor
end
