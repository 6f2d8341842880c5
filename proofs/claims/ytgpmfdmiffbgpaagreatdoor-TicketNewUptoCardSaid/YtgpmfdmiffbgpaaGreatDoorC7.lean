/- A part of the proof: what the calls do, told by values. -/
import Derived.Test.YtgpmfdmiffbgpaaGreatDoorC6
section
namespace Go.Proofs.YtgpmfdmiffbgpaaGreatDoor
open Go Go.Av
set_option linter.unusedVariables false
set_option linter.unusedSimpArgs false
set_option maxRecDepth 100000
set_option maxHeartbeats 4000000
attribute [local go_sem] packed List.set_cons_zero List.set_cons_succ List.cons_append List.nil_append bytesRows_length cellRows_len chRows_len rCells intRows_len
attribute [-go_sem] cellsOf AV.isCell
attribute [local go_sem] cellsOf_agg cellsOf_int cellsOf_bool cellsOf_str cellsOf_map cellsOf_ptr cellsOf_nilI cellsOf_slice cellsOf_sl cellsOf_ifc cellsOf_fp cellsOf_opt optAV_cell icell_int icell_bool icell_str icell_map icell_ptr icell_nilI icell_slice icell_sl icell_ifc icell_fp

/-! ### TicketNew -/
theorem mk256o_op {env : Env} {Δ : List HP} {o : Oper} {x y : Operand} (hop : o.op = .makeSlice 22 x y) (hx : env.eval x = some (.c (.int .i64 256))) (hy : env.eval y = some (.c (.int .i64 256))) :
    OpOK Tryz.prog env Δ o (fun r Δ' => ∃ b, r = .c (.slice (some ⟨b, 0, none⟩) 256 256) ∧ Δ' = .box b 5 (bytesRows z256).flatten :: Δ) := by
  have h := mko_op (P := Tryz.prog) (Δ := Δ) (env := env) (n := 256) (s := 1) (zs := [.int .u8 0]) hop Tryz.underlying22 tb_5 tk_5 tz_5 rfl (by decide) (by decide) (by decide) (by decide) hx hy
  rw [zeros8] at h
  exact h
theorem bytesRows_set (c : UInt8) : ∀ (w : List UInt8) (i : Nat), bytesRows (w.set i c) = (bytesRows w).set i [.c (.int .u8 c.toNat)]
  | [], i => by simp [bytesRows]
  | x :: w, 0 => rfl
  | x :: w, i + 1 => by simp only [List.set_cons_succ, bytesRows, bytesRows_set c w i]
theorem set_byte {w : List UInt8} {i : Nat} (hi : i < w.length) (c : UInt8) : (bytesRows w).flatten.take (i * 1) ++ [.c (.int .u8 c.toNat)] ++ (bytesRows w).flatten.drop (i * 1 + 1) = (bytesRows (w.set i c)).flatten := by
  have h := set_row (s := 1) (sp := []) (x := [AV.c (.int .u8 c.toNat)]) (bytes_row w) (i := i) (by rw [bytesRows_length]; exact hi) rfl
  simp only [List.append_nil] at h
  rw [h, bytesRows_set]
theorem bytes04_ok (a b : UInt8) : ACalls Tryz.prog 64 [.c (.int .u8 a.toNat), .c (.int .u8 b.toNat)] [] (fun r Δ => (∃ w : List UInt8, w.length = 256 ∧ r = .ret (.sl 1 (bytesRows w))) ∧ Δ = []) := by
  refine calls_of_J cl_64 Tryz.func64 rfl (by simp [Tryz.ntmps64]) ?_
  refine J_mrun (own := []) (m := 2000) (by simp (maxSteps := 2000000) (disch := omega) only [go_sem, ↓reduceIte, Int.reduceLT, Int.reduceLE, Int.reduceToNat, Int.reducePow, Int.reduceNeg, Nat.reduceBEq, Tryz.ntmps64] <;> with_reducible rfl) ?_
  refine J_op1 rfl (by simp only [go_sem, ↓reduceIte, Int.reduceLT, Int.reduceLE, Int.reduceToNat, Int.reducePow, Int.reduceNeg, Nat.reduceBEq, Tryz.ntmps64]) (mk256o_op rfl (by simp only [go_sem, ↓reduceIte, Int.reduceLT, Int.reduceLE, Int.reduceToNat, Int.reducePow, Int.reduceNeg, Nat.reduceBEq] <;> with_reducible rfl) (by simp only [go_sem, ↓reduceIte, Int.reduceLT, Int.reduceLE, Int.reduceToNat, Int.reducePow, Int.reduceNeg, Nat.reduceBEq] <;> with_reducible rfl)) ?_
  rintro _ _ ⟨k, rfl, rfl⟩
  refine J_mrun (own := []) (m := 2000) (by simp (maxSteps := 2000000) (disch := omega) only [go_sem, ↓reduceIte, Int.reduceLT, Int.reduceLE, Int.reduceToNat, Int.reducePow, Int.reduceNeg, Nat.reduceBEq, Tryz.ntmps64] <;> with_reducible rfl) ?_
  refine J_keep [0, 1, 5, 6] (by simp only [go_sem, ↓reduceIte, Int.reduceLT, Int.reduceLE, Int.reduceToNat, Int.reducePow, Int.reduceNeg, Nat.reduceBEq] <;> with_reducible rfl) ?_
  refine J_loopI (I := fun m e D => ∃ (i : Nat) (w : List UInt8), i ≤ 256 ∧ m = 256 - i ∧ w.length = 256 ∧ D = [.box k 5 (bytesRows w).flatten] ∧ e = [(0, .c (.int .u8 a.toNat)), (1, .c (.int .u8 b.toNat)), (5, .c (.slice (some ⟨k, 0, none⟩) 256 256)), (6, .c (.int .i64 i))]) ?_ ?_
  · exact ⟨_, 0, z256, by omega, rfl, by simp [z256], rfl, rfl⟩
  · rintro m e D ⟨i, w, hi, rfl, hw, rfl, rfl⟩ ih
    refine J_mrun (own := []) (m := 2000) (by simp (maxSteps := 2000000) (disch := omega) only [go_sem, ↓reduceIte, Int.reduceLT, Int.reduceLE, Int.reduceToNat, Int.reducePow, Int.reduceNeg, Nat.reduceBEq, Tryz.ntmps64] <;> with_reducible rfl) ?_
    refine J_if (by simp only [go_sem, ↓reduceIte, Int.reduceLT, Int.reduceLE, Int.reduceToNat, Int.reducePow, Int.reduceNeg, Nat.reduceBEq] <;> with_reducible rfl) (fun hc => ?_) (fun hc => ?_)
    · have hlt : i < 256 := by omega
      have h0 : (0 : Int) ≤ (i : Int) := by omega
      have hfl : (bytesRows w).flatten.length = 256 := by rw [flatB_len, hw]
      have hs1 := set_byte (w := w) (i := i) (by omega) a
      have hw1 : (w.set i a).length = 256 := by rw [List.length_set]; exact hw
      have hfl1 : (bytesRows (w.set i a)).flatten.length = 256 := by rw [flatB_len, hw1]
      have hs2 := set_byte (w := w.set i a) (i := i) (by omega) b
      have hw2 : ((w.set i a).set i b).length = 256 := by rw [List.length_set]; exact hw1
      refine J_mrun (own := []) (m := 2000) (by simp (maxSteps := 2000000) (disch := omega) only [go_sem, ↓reduceIte, Int.reduceLT, Int.reduceLE, Int.reduceToNat, Int.reducePow, Int.reduceNeg, Nat.reduceBEq, Tryz.ntmps64, hfl, hs1] <;> with_reducible rfl) ?_
      refine J_if (by simp only [go_sem, ↓reduceIte, Int.reduceLT, Int.reduceLE, Int.reduceToNat, Int.reducePow, Int.reduceNeg, Nat.reduceBEq] <;> with_reducible rfl) (fun hm => ?_) (fun hm => ?_)
      · refine J_mrun (own := []) (m := 2000) (by simp (maxSteps := 2000000) (disch := omega) only [go_sem, ↓reduceIte, Int.reduceLT, Int.reduceLE, Int.reduceToNat, Int.reducePow, Int.reduceNeg, Nat.reduceBEq, Tryz.ntmps64, hfl1, hs2] <;> with_reducible rfl) ?_
        refine J_keep [0, 1, 5, 6] (by simp only [go_sem, ↓reduceIte, Int.reduceLT, Int.reduceLE, Int.reduceToNat, Int.reducePow, Int.reduceNeg, Nat.reduceBEq] <;> with_reducible rfl) ?_
        refine ih _ _ _ ?_ ⟨i + 1, _, by omega, rfl, hw2, rfl, rfl⟩
        omega
      · refine J_mrun (own := []) (m := 2000) (by simp (maxSteps := 2000000) (disch := omega) only [go_sem, ↓reduceIte, Int.reduceLT, Int.reduceLE, Int.reduceToNat, Int.reducePow, Int.reduceNeg, Nat.reduceBEq, Tryz.ntmps64] <;> with_reducible rfl) ?_
        refine J_keep [0, 1, 5, 6] (by simp only [go_sem, ↓reduceIte, Int.reduceLT, Int.reduceLE, Int.reduceToNat, Int.reducePow, Int.reduceNeg, Nat.reduceBEq] <;> with_reducible rfl) ?_
        refine ih _ _ _ ?_ ⟨i + 1, _, by omega, rfl, hw1, rfl, rfl⟩
        omega
    · refine J_mrun (own := []) (m := 2000) (by simp (maxSteps := 2000000) (disch := omega) only [go_sem, ↓reduceIte, Int.reduceLT, Int.reduceLE, Int.reduceToNat, Int.reducePow, Int.reduceNeg, Nat.reduceBEq, Tryz.ntmps64] <;> with_reducible rfl) ?_
      have how : OwnB 5 w (.slice (some ⟨k, 0, none⟩) 256 256) [.box k 5 (bytesRows w).flatten] := by
        have := Own.box (e := 5) (s := 1) (cells := (bytesRows w).flatten) (len := 256) k 256 [] (by rw [flatB_len, hw]) (by simp) (Nat.le_refl _)
        rw [List.append_nil] at this
        unfold OwnB; rw [hw]; exact this
      refine J_freezeB (Fr := []) how (by unfold maxRows; omega) ?_
      refine J_is (t := 4) (by simp only [go_sem] <;> rfl) (List.mem_cons_self ..) (J_drop ?_)
      refine J_retX Tryz.func64 (by simp only [go_sem, ↓reduceIte, Int.reduceLT, Int.reduceLE, Int.reduceToNat, Int.reducePow, Int.reduceNeg, Nat.reduceBEq, Tryz.f64] <;> first | with_reducible rfl | rfl) ⟨⟨w, hw, rfl⟩, rfl⟩

structure Op4 where
  kind : Int
  at_ : Int
  a : UInt8
  b : UInt8
  n : Int
  keep : List Int
def Op4.cells (o : Op4) : List AV := [.c (.int .i64 o.kind), .c (.int .i64 o.at_), .c (.int .u8 o.a.toNat), .c (.int .u8 o.b.toNat), .c (.int .i64 o.n), .sl 1 (intRows o.keep)]
theorem nil_sl1 : (AV.c (.slice none 0 0)).le (.sl 1 (bytesRows [])) := fun g v h => by
  simp only [rel] at h ⊢
  exact ⟨none, 0, by rw [h]; rfl, by decide, .inl rfl⟩
theorem rem16 (n : Int) : aint .rem .i64 n 16 = some (.c (.int .i64 (n.tmod 16))) := by unfold aint; simp only []; rw [if_neg (by omega)]
theorem flushS_pages (s : Fl) : (flushS s).pages = s.pages := by
  unfold flushS
  split
  · rfl
  · split
    · exact burnS_pages s
    · exact burnS_pages s
theorem _root_.Go.Av.ACalls.under1 {f : FuncId} {args : List AV} {D : List HP} {R : APost} (x : HP) (h : ACalls Tryz.prog f args D R) : ACalls Tryz.prog f args (x :: D) (fun r Δ' => ∃ D', R r D' ∧ Δ' = x :: D') :=
  h.reorder (Fr := [x]) (List.perm_append_comm (l₁ := [x])) (fun D' => x :: D') (fun D' => List.perm_append_comm)
theorem _root_.Go.Av.ACalls.under2 {f : FuncId} {args : List AV} {D : List HP} {R : APost} (x y : HP) (h : ACalls Tryz.prog f args D R) : ACalls Tryz.prog f args (x :: y :: D) (fun r Δ' => ∃ D', R r D' ∧ Δ' = x :: y :: D') :=
  h.reorder (Fr := [x, y]) (List.perm_append_comm (l₁ := [x, y])) (fun D' => x :: y :: D') (fun D' => List.perm_append_comm)
theorem do04_ok {f : Nat} {s : Fl} {c : List (Int × List UInt8)} {m : Nat} {D : List HP} (hO : OwnF f s D) (hrel : Rel s c m) (hm : m < 536870000) (o : Op4) (hk : o.keep.length < 2 ^ 37) (hon : o.n < 9223372036854775808) :
    ACalls Tryz.prog 33 [ptr f, rAV (wc s c), .agg o.cells] (GL :: D) (fun r D' => ∃ s' c' b D1, r = .ret (.tup [rAV (wc s' c'), .c (.bool b)]) ∧ Rel s' c' (m + 1) ∧ s'.pages = s.pages ∧ OwnF f s' D1 ∧ D' = GL :: D1) := by
  have hwf := hrel.b.wf (by omega)
  have hlo := hrel.len
  have hR := B_R hrel.rb (by omega)
  have hw' := hR.w
  have hl29 : (wc s c).loose.length < 2 ^ 29 := by show s.loose.length < 2 ^ 29; omega
  unfold Op4.cells rAV
  refine calls_of_J cl_33 Tryz.func33 rfl (by simp [Tryz.ntmps33]) ?_
  refine J_mrun (own := [6]) (m := 2000) (by simp (maxSteps := 2000000) (disch := omega) only [go_sem, ↓reduceIte, Int.reduceLT, Int.reduceLE, Int.reduceToNat, Int.reducePow, Int.reduceNeg, Nat.reduceBEq, Tryz.ntmps33] <;> with_reducible rfl) ?_
  refine J_newvar rfl (by simp only [go_sem, ↓reduceIte, Int.reduceLT, Int.reduceLE, Int.reduceToNat, Int.reducePow, Int.reduceNeg, Nat.reduceBEq, Tryz.ntmps33]) (by simp only [go_sem, ↓reduceIte, Int.reduceLT, Int.reduceLE, Int.reduceToNat, Int.reducePow, Int.reduceNeg, Nat.reduceBEq] <;> with_reducible rfl) (fun b6 hb6 => ?_)
  refine J_mrun (own := []) (m := 2000) (by simp (maxSteps := 2000000) (disch := omega) only [go_sem, ↓reduceIte, Int.reduceLT, Int.reduceLE, Int.reduceToNat, Int.reducePow, Int.reduceNeg, Nat.reduceBEq, Tryz.ntmps33] <;> with_reducible rfl) ?_
  refine J_if (by simp only [go_sem, ↓reduceIte, Int.reduceLT, Int.reduceLE, Int.reduceToNat, Int.reducePow, Int.reduceNeg, Nat.reduceBEq] <;> with_reducible rfl) (fun hk0 => ?_) (fun hk0 => ?_)
  · refine J_mrun (own := []) (m := 2000) (by simp (maxSteps := 2000000) (disch := omega) only [go_sem, ↓reduceIte, Int.reduceLT, Int.reduceLE, Int.reduceToNat, Int.reducePow, Int.reduceNeg, Nat.reduceBEq, Tryz.ntmps33] <;> with_reducible rfl) ?_
    refine J_calls (by simp only [go_sem, ↓reduceIte, Int.reduceLT, Int.reduceLE, Int.reduceToNat, Int.reducePow, Int.reduceNeg, Nat.reduceBEq, Tryz.ntmps33] <;> with_reducible rfl) (bytes04_ok o.a o.b) (Δ1 := []) (Fr := _ :: GL :: D) (List.Perm.refl _) ?_ (by rintro x Δ' ⟨⟨w, _, h⟩, _⟩; cases h)
    rintro x _ ⟨⟨w, hw, h⟩, rfl⟩
    cases h
    have hr16 := rem16 o.n
    by_cases hx : o.n.tmod 16 = 5
    have d1 := decide_eq_true hx
    refine J_mrun (own := []) (m := 2000) (by simp (maxSteps := 2000000) (disch := omega) only [go_sem, ↓reduceIte, Int.reduceLT, Int.reduceLE, Int.reduceToNat, Int.reducePow, Int.reduceNeg, Nat.reduceBEq, Tryz.ntmps33, hr16, d1] <;> with_reducible rfl) ?_
    refine J_true (by simp only [go_sem, ↓reduceIte, Int.reduceLT, Int.reduceLE, Int.reduceToNat, Int.reducePow, Int.reduceNeg, Nat.reduceBEq] <;> with_reducible rfl) ?_
    refine J_mrun (own := []) (m := 2000) (by simp (maxSteps := 2000000) (disch := omega) only [go_sem, ↓reduceIte, Int.reduceLT, Int.reduceLE, Int.reduceToNat, Int.reducePow, Int.reduceNeg, Nat.reduceBEq, Tryz.ntmps33, hw] <;> with_reducible rfl) ?_
    refine J_keep [0, 4, 5, 6, 7, 8, 35, 37, 38] (by simp only [go_sem, ↓reduceIte, Int.reduceLT, Int.reduceLE, Int.reduceToNat, Int.reducePow, Int.reduceNeg, Nat.reduceBEq] <;> with_reducible rfl) ?_
    have hl9 : (w.take 255).length < 2 ^ 37 := by rw [List.length_take]; omega
    generalize w.take 255 = w9 at *
    rotate_left
    have d1 := decide_eq_false hx
    refine J_mrun (own := []) (m := 2000) (by simp (maxSteps := 2000000) (disch := omega) only [go_sem, ↓reduceIte, Int.reduceLT, Int.reduceLE, Int.reduceToNat, Int.reducePow, Int.reduceNeg, Nat.reduceBEq, Tryz.ntmps33, hr16, d1] <;> with_reducible rfl) ?_
    refine J_false (by simp only [go_sem, ↓reduceIte, Int.reduceLT, Int.reduceLE, Int.reduceToNat, Int.reducePow, Int.reduceNeg, Nat.reduceBEq] <;> with_reducible rfl) ?_
    refine J_mrun (own := []) (m := 2000) (by simp (maxSteps := 2000000) (disch := omega) only [go_sem, ↓reduceIte, Int.reduceLT, Int.reduceLE, Int.reduceToNat, Int.reducePow, Int.reduceNeg, Nat.reduceBEq, Tryz.ntmps33, hw] <;> with_reducible rfl) ?_
    refine J_keep [0, 4, 5, 6, 7, 8, 35, 37, 38] (by simp only [go_sem, ↓reduceIte, Int.reduceLT, Int.reduceLE, Int.reduceToNat, Int.reducePow, Int.reduceNeg, Nat.reduceBEq] <;> with_reducible rfl) ?_
    have hl9 : w.length < 2 ^ 37 := by omega
    generalize hww : w = w9 at hl9 ⊢
    all_goals
      have hp := write04_ok (wc s c) hw' hl29 o.at_ w9 (by omega)
      rw [writeS_wc] at hp
      have hC : writeC (wc s c) o.at_ w9.length = writeC s o.at_ w9.length := rfl
      rw [hC] at hp
      have hq := write_ok hO hwf o.at_ w9 hl9
      have hr2 := hrel.write o.at_ w9
      have hpg := writeS_pages s o.at_ w9
      unfold rAV at hp
      clear hC
      generalize writeS s o.at_ w9 = s2 at *
      generalize writeC s o.at_ w9.length = cc at *
      refine J_callp (by simp only [go_sem, ↓reduceIte, Int.reduceLT, Int.reduceLE, Int.reduceToNat, Int.reducePow, Int.reduceNeg, Nat.reduceBEq, Tryz.ntmps33] <;> with_reducible rfl) (hp) ?_
      refine J_mrun (own := [9]) (m := 2000) (by simp (maxSteps := 2000000) (disch := omega) only [go_sem, ↓reduceIte, Int.reduceLT, Int.reduceLE, Int.reduceToNat, Int.reducePow, Int.reduceNeg, Nat.reduceBEq, Tryz.ntmps33] <;> with_reducible rfl) ?_
      refine J_newvar rfl (by simp only [go_sem, ↓reduceIte, Int.reduceLT, Int.reduceLE, Int.reduceToNat, Int.reducePow, Int.reduceNeg, Nat.reduceBEq, Tryz.ntmps33]) (by simp only [go_sem, ↓reduceIte, Int.reduceLT, Int.reduceLE, Int.reduceToNat, Int.reducePow, Int.reduceNeg, Nat.reduceBEq] <;> with_reducible rfl) (fun b9 hb9 => ?_)
      refine J_mrun (own := []) (m := 1) (by simp (maxSteps := 2000000) (disch := omega) only [go_sem, ↓reduceIte, Int.reduceLT, Int.reduceLE, Int.reduceToNat, Int.reducePow, Int.reduceNeg, Nat.reduceBEq, Tryz.ntmps33] <;> with_reducible rfl) ?_
      refine J_freeze (s := 9) (o := 0) (by simp only [go_sem]) ?_
      refine J_mrun (own := []) (m := 2000) (by simp (maxSteps := 2000000) (disch := omega) only [go_sem, ↓reduceIte, Int.reduceLT, Int.reduceLE, Int.reduceToNat, Int.reducePow, Int.reduceNeg, Nat.reduceBEq, Tryz.ntmps33] <;> with_reducible rfl) ?_
      refine J_draw [[], [], [], [2], [], [1, 2, 3, 4], [1, 2, 3, 4, 5], [], [1, 2, 3, 4, 5, 6, 7], [0, 1, 2, 3, 4, 5, 6], [0, 1, 2, 3, 4, 5, 6, 7, 8, 9]] [(0, .pure), (1, .pure), (2, .pure), (3, .read), (4, .pure), (7, .pure), (5, .act), (6, .read), (8, .pure), (9, .act), (10, .pure)] mixed (by kernel_rfl) ?_
      refine Can_run (own := []) (by simp (maxSteps := 2000000) (disch := omega) only [go_sem, ↓reduceIte, Int.reduceLT, Int.reduceLE, Int.reduceToNat, Int.reducePow, Int.reduceNeg, Nat.reduceBEq, Tryz.ntmps33] <;> with_reducible rfl) ?_
      refine Can_call (by simp only [go_sem, ↓reduceIte, Int.reduceLT, Int.reduceLE, Int.reduceToNat, Int.reducePow, Int.reduceNeg, Nat.reduceBEq, Tryz.ntmps33] <;> with_reducible rfl) (hq.under2 _ GL) (Fr := []) (by rw [List.append_nil]) ?_ (by rintro x Δ' ⟨_, ⟨e, h, _⟩, _⟩; cases h)
      rintro x _ ⟨D2, ⟨e, h, he, -, hO2⟩, rfl⟩
      cases h
      rw [List.append_nil]
      refine Can_run (own := []) (by simp (maxSteps := 2000000) (disch := omega) only [go_sem, ↓reduceIte, Int.reduceLT, Int.reduceLE, Int.reduceToNat, Int.reducePow, Int.reduceNeg, Nat.reduceBEq, Tryz.ntmps33] <;> with_reducible rfl) ?_
      refine Can_callr (by simp only [go_sem, ↓reduceIte, Int.reduceLT, Int.reduceLE, Int.reduceToNat, Int.reducePow, Int.reduceNeg, Nat.reduceBEq, Tryz.ntmps33] <;> with_reducible rfl) (((of_ok he).globKeep (by simp [GL]))) ?_
      refine Can_run (own := []) (by simp (maxSteps := 2000000) (disch := omega) only [go_sem, ↓reduceIte, Int.reduceLT, Int.reduceLE, Int.reduceToNat, Int.reducePow, Int.reduceNeg, Nat.reduceBEq, Tryz.ntmps33] <;> with_reducible rfl) ?_
      refine Can_nil ?_
      refine J_forgetP ?_
      refine J_retX Tryz.func33 (by simp only [go_sem, ↓reduceIte, Int.reduceLT, Int.reduceLE, Int.reduceToNat, Int.reducePow, Int.reduceNeg, Nat.reduceBEq, Tryz.f33] <;> first | with_reducible rfl | rfl) ⟨[_], _, List.Perm.refl _, s2, c, _, D2, rfl, hr2, hpg, hO2, rfl⟩
  · refine J_mrun (own := []) (m := 2000) (by simp (maxSteps := 2000000) (disch := omega) only [go_sem, ↓reduceIte, Int.reduceLT, Int.reduceLE, Int.reduceToNat, Int.reducePow, Int.reduceNeg, Nat.reduceBEq, Tryz.ntmps33] <;> with_reducible rfl) ?_
    refine J_if (by simp only [go_sem, ↓reduceIte, Int.reduceLT, Int.reduceLE, Int.reduceToNat, Int.reducePow, Int.reduceNeg, Nat.reduceBEq] <;> with_reducible rfl) (fun hk1 => ?_) (fun hk1 => ?_)
    · have hp := trim04_ok (wc s c) hw' hl29 o.at_
      rw [trimS_wc] at hp
      have hC : trimC (wc s c) o.at_ = trimC s o.at_ := rfl
      rw [hC] at hp
      have hq := trim_ok hO hwf o.at_
      have hr2 := hrel.trim o.at_
      have hpg := trimS_pages s o.at_
      unfold rAV at hp
      clear hC
      generalize trimS s o.at_ = s2 at *
      generalize trimC s o.at_ = cc at *
      refine J_mrun (own := []) (m := 2000) (by simp (maxSteps := 2000000) (disch := omega) only [go_sem, ↓reduceIte, Int.reduceLT, Int.reduceLE, Int.reduceToNat, Int.reducePow, Int.reduceNeg, Nat.reduceBEq, Tryz.ntmps33] <;> with_reducible rfl) ?_
      refine J_callp (by simp only [go_sem, ↓reduceIte, Int.reduceLT, Int.reduceLE, Int.reduceToNat, Int.reducePow, Int.reduceNeg, Nat.reduceBEq, Tryz.ntmps33] <;> with_reducible rfl) (hp) ?_
      refine J_mrun (own := [11]) (m := 2000) (by simp (maxSteps := 2000000) (disch := omega) only [go_sem, ↓reduceIte, Int.reduceLT, Int.reduceLE, Int.reduceToNat, Int.reducePow, Int.reduceNeg, Nat.reduceBEq, Tryz.ntmps33] <;> with_reducible rfl) ?_
      refine J_newvar rfl (by simp only [go_sem, ↓reduceIte, Int.reduceLT, Int.reduceLE, Int.reduceToNat, Int.reducePow, Int.reduceNeg, Nat.reduceBEq, Tryz.ntmps33]) (by simp only [go_sem, ↓reduceIte, Int.reduceLT, Int.reduceLE, Int.reduceToNat, Int.reducePow, Int.reduceNeg, Nat.reduceBEq] <;> with_reducible rfl) (fun b9 hb9 => ?_)
      refine J_mrun (own := []) (m := 1) (by simp (maxSteps := 2000000) (disch := omega) only [go_sem, ↓reduceIte, Int.reduceLT, Int.reduceLE, Int.reduceToNat, Int.reducePow, Int.reduceNeg, Nat.reduceBEq, Tryz.ntmps33] <;> with_reducible rfl) ?_
      refine J_freeze (s := 11) (o := 0) (by simp only [go_sem]) ?_
      refine J_mrun (own := []) (m := 2000) (by simp (maxSteps := 2000000) (disch := omega) only [go_sem, ↓reduceIte, Int.reduceLT, Int.reduceLE, Int.reduceToNat, Int.reducePow, Int.reduceNeg, Nat.reduceBEq, Tryz.ntmps33] <;> with_reducible rfl) ?_
      refine J_draw [[], [], [], [2], [1, 2, 3], [1, 2, 3, 4], [], [1, 2, 3, 4, 5, 6], [0, 1, 2, 3, 4, 5], [0, 1, 2, 3, 4, 5, 6, 7, 8]] [(0, .pure), (1, .pure), (2, .pure), (3, .read), (6, .pure), (4, .act), (5, .read), (7, .pure), (8, .act), (9, .pure)] mixed (by kernel_rfl) ?_
      refine Can_run (own := []) (by simp (maxSteps := 2000000) (disch := omega) only [go_sem, ↓reduceIte, Int.reduceLT, Int.reduceLE, Int.reduceToNat, Int.reducePow, Int.reduceNeg, Nat.reduceBEq, Tryz.ntmps33] <;> with_reducible rfl) ?_
      refine Can_call (by simp only [go_sem, ↓reduceIte, Int.reduceLT, Int.reduceLE, Int.reduceToNat, Int.reducePow, Int.reduceNeg, Nat.reduceBEq, Tryz.ntmps33] <;> with_reducible rfl) (hq.under2 _ GL) (Fr := []) (by rw [List.append_nil]) ?_ (by rintro x Δ' ⟨_, ⟨e, h, _⟩, _⟩; cases h)
      rintro x _ ⟨D2, ⟨e, h, he, -, hO2⟩, rfl⟩
      cases h
      rw [List.append_nil]
      refine Can_run (own := []) (by simp (maxSteps := 2000000) (disch := omega) only [go_sem, ↓reduceIte, Int.reduceLT, Int.reduceLE, Int.reduceToNat, Int.reducePow, Int.reduceNeg, Nat.reduceBEq, Tryz.ntmps33] <;> with_reducible rfl) ?_
      refine Can_callr (by simp only [go_sem, ↓reduceIte, Int.reduceLT, Int.reduceLE, Int.reduceToNat, Int.reducePow, Int.reduceNeg, Nat.reduceBEq, Tryz.ntmps33] <;> with_reducible rfl) (((of_ok he).globKeep (by simp [GL]))) ?_
      refine Can_run (own := []) (by simp (maxSteps := 2000000) (disch := omega) only [go_sem, ↓reduceIte, Int.reduceLT, Int.reduceLE, Int.reduceToNat, Int.reducePow, Int.reduceNeg, Nat.reduceBEq, Tryz.ntmps33] <;> with_reducible rfl) ?_
      refine Can_nil ?_
      refine J_forgetP ?_
      refine J_retX Tryz.func33 (by simp only [go_sem, ↓reduceIte, Int.reduceLT, Int.reduceLE, Int.reduceToNat, Int.reducePow, Int.reduceNeg, Nat.reduceBEq, Tryz.f33] <;> first | with_reducible rfl | rfl) ⟨[_], _, List.Perm.refl _, s2, c, _, D2, rfl, hr2, hpg, hO2, rfl⟩
    · refine J_mrun (own := []) (m := 2000) (by simp (maxSteps := 2000000) (disch := omega) only [go_sem, ↓reduceIte, Int.reduceLT, Int.reduceLE, Int.reduceToNat, Int.reducePow, Int.reduceNeg, Nat.reduceBEq, Tryz.ntmps33] <;> with_reducible rfl) ?_
      refine J_if (by simp only [go_sem, ↓reduceIte, Int.reduceLT, Int.reduceLE, Int.reduceToNat, Int.reducePow, Int.reduceNeg, Nat.reduceBEq] <;> with_reducible rfl) (fun hk2 => ?_) (fun hk2 => ?_)
      · have hp := read04_ok (wc s c) o.at_ (by have := hrel.rb.len; omega) (by omega)
        have hl2 : lookB (wc s c) o.at_ = lookB s o.at_ := hrel.look o.at_
        have hC : checkF (wc s c) o.at_ = checkF s o.at_ := rfl
        rw [hC, hl2] at hp
        have hq := read_ok' hO hwf o.at_
        have hlen := look_len hwf o.at_
        unfold rAV at hp
        clear hC hl2
        unfold pageAV at hq
        generalize checkF s o.at_ = cc at *
        generalize lookB s o.at_ = pg at *
        refine J_mrun (own := []) (m := 2000) (by simp (maxSteps := 2000000) (disch := omega) only [go_sem, ↓reduceIte, Int.reduceLT, Int.reduceLE, Int.reduceToNat, Int.reducePow, Int.reduceNeg, Nat.reduceBEq, Tryz.ntmps33] <;> with_reducible rfl) ?_
        refine J_callp (by simp only [go_sem, ↓reduceIte, Int.reduceLT, Int.reduceLE, Int.reduceToNat, Int.reducePow, Int.reduceNeg, Nat.reduceBEq, Tryz.ntmps33] <;> with_reducible rfl) (hp) ?_
        refine J_mrun (own := []) (m := 2000) (by simp (maxSteps := 2000000) (disch := omega) only [go_sem, ↓reduceIte, Int.reduceLT, Int.reduceLE, Int.reduceToNat, Int.reducePow, Int.reduceNeg, Nat.reduceBEq, Tryz.ntmps33] <;> with_reducible rfl) ?_
        refine J_calls (by simp only [go_sem, ↓reduceIte, Int.reduceLT, Int.reduceLE, Int.reduceToNat, Int.reducePow, Int.reduceNeg, Nat.reduceBEq, Tryz.ntmps33] <;> with_reducible rfl) hq (Δ1 := D) (Fr := [_, GL]) (List.perm_append_comm (l₁ := [_, GL])) ?_ (by rintro x Δ' ⟨h1, h2, _⟩; by_cases hc : cc = 0; (· cases h1 hc); (· obtain ⟨e, h3, _⟩ := h2 hc; cases h3))
        rintro x _ ⟨h1, h2, rfl⟩
        refine J_perm List.perm_append_comm ?_
        by_cases hcc : cc = 0
        · subst hcc
          cases h1 rfl
          rw [if_pos rfl]
          have hsm := same02_ok pg pg (by omega)
          rw [decide_eq_true rfl] at hsm
          refine J_mrun (own := []) (m := 2000) (by simp (maxSteps := 2000000) (disch := omega) only [go_sem, ↓reduceIte, Int.reduceLT, Int.reduceLE, Int.reduceToNat, Int.reducePow, Int.reduceNeg, Nat.reduceBEq, Tryz.ntmps33] <;> with_reducible rfl) ?_
          refine J_draw [[], [], [1], [], [1, 2, 3], [1, 2, 3, 4], [1, 2, 3, 4, 5], [1, 2, 3, 4, 5], [1, 2, 3, 4, 5, 6, 7], [1, 2, 3, 4, 5, 6, 7, 8], [0, 1, 2, 3, 4, 5, 6, 7, 8], [0, 1, 2, 3, 4, 5, 6, 7, 8, 9, 10]] [(0, .pure), (1, .pure), (2, .read), (3, .pure), (4, .pure), (5, .pure), (6, .pure), (7, .pure), (8, .pure), (9, .pure), (10, .act), (11, .pure)] mixed (by kernel_rfl) ?_
          refine Can_run (own := []) (by simp (maxSteps := 2000000) (disch := omega) only [go_sem, ↓reduceIte, Int.reduceLT, Int.reduceLE, Int.reduceToNat, Int.reducePow, Int.reduceNeg, Nat.reduceBEq, Tryz.ntmps33] <;> with_reducible rfl) ?_
          refine Can_callr (by simp only [go_sem, ↓reduceIte, Int.reduceLT, Int.reduceLE, Int.reduceToNat, Int.reducePow, Int.reduceNeg, Nat.reduceBEq, Tryz.ntmps33] <;> with_reducible rfl) (((of_ok .none).globKeep (by simp [GL]))) ?_
          refine Can_run (own := []) (by simp (maxSteps := 2000000) (disch := omega) only [go_sem, ↓reduceIte, Int.reduceLT, Int.reduceLE, Int.reduceToNat, Int.reducePow, Int.reduceNeg, Nat.reduceBEq, Tryz.ntmps33, eq_self, decide_true] <;> with_reducible rfl) ?_
          refine Can_callp (by simp only [go_sem, ↓reduceIte, Int.reduceLT, Int.reduceLE, Int.reduceToNat, Int.reducePow, Int.reduceNeg, Nat.reduceBEq, Tryz.ntmps33] <;> with_reducible rfl) (hsm) ?_
          refine Can_run (own := []) (by simp (maxSteps := 2000000) (disch := omega) only [go_sem, ↓reduceIte, Int.reduceLT, Int.reduceLE, Int.reduceToNat, Int.reducePow, Int.reduceNeg, Nat.reduceBEq, Tryz.ntmps33] <;> with_reducible rfl) ?_
          refine Can_nil ?_
          refine J_forgetP ?_
          refine J_retX Tryz.func33 (by simp only [go_sem, ↓reduceIte, Int.reduceLT, Int.reduceLE, Int.reduceToNat, Int.reducePow, Int.reduceNeg, Nat.reduceBEq, Tryz.f33] <;> first | with_reducible rfl | rfl) ⟨[_], _, List.Perm.refl _, s, c, _, _, rfl, hrel.mono (Nat.le_succ _), rfl, hO, rfl⟩
        · obtain ⟨e, h3, he⟩ := h2 hcc
          cases h3
          rw [if_neg hcc]
          have hsm := same02_ok [] [] (by simp)
          rw [decide_eq_true rfl] at hsm
          refine J_mrun (own := []) (m := 8) (by simp (maxSteps := 2000000) (disch := omega) only [go_sem, ↓reduceIte, Int.reduceLT, Int.reduceLE, Int.reduceToNat, Int.reducePow, Int.reduceNeg, Nat.reduceBEq, Tryz.ntmps33] <;> with_reducible rfl) ?_
          refine J_wk (t := 15) (by simp only [go_sem]) nil_sl1 ?_
          refine J_wk (t := 13) (by simp only [go_sem]) nil_sl1 ?_
          refine J_draw [[], [], [1], [], [1, 2, 3], [1, 2, 3, 4], [1, 2, 3, 4, 5], [1, 2, 3, 4, 5], [1, 2, 3, 4, 5, 6, 7], [1, 2, 3, 4, 5, 6, 7, 8], [0, 1, 2, 3, 4, 5, 6, 7, 8], [0, 1, 2, 3, 4, 5, 6, 7, 8, 9, 10]] [(0, .pure), (1, .pure), (2, .read), (3, .pure), (4, .pure), (5, .pure), (6, .pure), (7, .pure), (8, .pure), (9, .pure), (10, .act), (11, .pure)] mixed (by kernel_rfl) ?_
          refine Can_run (own := []) (by simp (maxSteps := 2000000) (disch := omega) only [go_sem, ↓reduceIte, Int.reduceLT, Int.reduceLE, Int.reduceToNat, Int.reducePow, Int.reduceNeg, Nat.reduceBEq, Tryz.ntmps33] <;> with_reducible rfl) ?_
          refine Can_callr (by simp only [go_sem, ↓reduceIte, Int.reduceLT, Int.reduceLE, Int.reduceToNat, Int.reducePow, Int.reduceNeg, Nat.reduceBEq, Tryz.ntmps33] <;> with_reducible rfl) (((of_ok he).globKeep (by simp [GL]))) ?_
          refine Can_run (own := []) (by simp (maxSteps := 2000000) (disch := omega) only [go_sem, ↓reduceIte, Int.reduceLT, Int.reduceLE, Int.reduceToNat, Int.reducePow, Int.reduceNeg, Nat.reduceBEq, Tryz.ntmps33, eq_self, decide_true] <;> with_reducible rfl) ?_
          refine Can_callp (by simp only [go_sem, ↓reduceIte, Int.reduceLT, Int.reduceLE, Int.reduceToNat, Int.reducePow, Int.reduceNeg, Nat.reduceBEq, Tryz.ntmps33] <;> with_reducible rfl) (hsm) ?_
          refine Can_run (own := []) (by simp (maxSteps := 2000000) (disch := omega) only [go_sem, ↓reduceIte, Int.reduceLT, Int.reduceLE, Int.reduceToNat, Int.reducePow, Int.reduceNeg, Nat.reduceBEq, Tryz.ntmps33] <;> with_reducible rfl) ?_
          refine Can_nil ?_
          refine J_forgetP ?_
          refine J_retX Tryz.func33 (by simp only [go_sem, ↓reduceIte, Int.reduceLT, Int.reduceLE, Int.reduceToNat, Int.reducePow, Int.reduceNeg, Nat.reduceBEq, Tryz.f33] <;> first | with_reducible rfl | rfl) ⟨[_], _, List.Perm.refl _, s, c, _, _, rfl, hrel.mono (Nat.le_succ _), rfl, hO, rfl⟩
      · refine J_mrun (own := []) (m := 2000) (by simp (maxSteps := 2000000) (disch := omega) only [go_sem, ↓reduceIte, Int.reduceLT, Int.reduceLE, Int.reduceToNat, Int.reducePow, Int.reduceNeg, Nat.reduceBEq, Tryz.ntmps33] <;> with_reducible rfl) ?_
        refine J_if (by simp only [go_sem, ↓reduceIte, Int.reduceLT, Int.reduceLE, Int.reduceToNat, Int.reducePow, Int.reduceNeg, Nat.reduceBEq] <;> with_reducible rfl) (fun hk3 => ?_) (fun hk3 => ?_)
        · have hp := flush04_ok (wc s c) hR
          rw [flush_wc] at hp
          have hC : flushC (wc s c) = flushC s := rfl
          rw [hC] at hp
          have hq := flush_ok hO hwf
          have hr2 := hrel.flush
          have hpg := flushS_pages s
          unfold rAV at hp
          clear hC
          generalize flushS s = s2 at *
          generalize flushCC s c = c2 at *
          generalize flushC s = cc at *
          refine J_mrun (own := []) (m := 2000) (by simp (maxSteps := 2000000) (disch := omega) only [go_sem, ↓reduceIte, Int.reduceLT, Int.reduceLE, Int.reduceToNat, Int.reducePow, Int.reduceNeg, Nat.reduceBEq, Tryz.ntmps33] <;> with_reducible rfl) ?_
          refine J_callp (by simp only [go_sem, ↓reduceIte, Int.reduceLT, Int.reduceLE, Int.reduceToNat, Int.reducePow, Int.reduceNeg, Nat.reduceBEq, Tryz.ntmps33] <;> with_reducible rfl) (hp) ?_
          refine J_mrun (own := [17]) (m := 2000) (by simp (maxSteps := 2000000) (disch := omega) only [go_sem, ↓reduceIte, Int.reduceLT, Int.reduceLE, Int.reduceToNat, Int.reducePow, Int.reduceNeg, Nat.reduceBEq, Tryz.ntmps33] <;> with_reducible rfl) ?_
          refine J_newvar rfl (by simp only [go_sem, ↓reduceIte, Int.reduceLT, Int.reduceLE, Int.reduceToNat, Int.reducePow, Int.reduceNeg, Nat.reduceBEq, Tryz.ntmps33]) (by simp only [go_sem, ↓reduceIte, Int.reduceLT, Int.reduceLE, Int.reduceToNat, Int.reducePow, Int.reduceNeg, Nat.reduceBEq] <;> with_reducible rfl) (fun b9 hb9 => ?_)
          refine J_mrun (own := []) (m := 1) (by simp (maxSteps := 2000000) (disch := omega) only [go_sem, ↓reduceIte, Int.reduceLT, Int.reduceLE, Int.reduceToNat, Int.reducePow, Int.reduceNeg, Nat.reduceBEq, Tryz.ntmps33] <;> with_reducible rfl) ?_
          refine J_freeze (s := 17) (o := 0) (by simp only [go_sem]) ?_
          refine J_mrun (own := []) (m := 2000) (by simp (maxSteps := 2000000) (disch := omega) only [go_sem, ↓reduceIte, Int.reduceLT, Int.reduceLE, Int.reduceToNat, Int.reducePow, Int.reduceNeg, Nat.reduceBEq, Tryz.ntmps33] <;> with_reducible rfl) ?_
          refine J_draw [[], [], [1], [1, 2], [], [1, 2, 3, 4], [0, 1, 2, 3], [0, 1, 2, 3, 4, 5, 6]] [(0, .pure), (1, .pure), (4, .pure), (2, .act), (3, .read), (5, .pure), (6, .act), (7, .pure)] mixed (by kernel_rfl) ?_
          refine Can_run (own := []) (by simp (maxSteps := 2000000) (disch := omega) only [go_sem, ↓reduceIte, Int.reduceLT, Int.reduceLE, Int.reduceToNat, Int.reducePow, Int.reduceNeg, Nat.reduceBEq, Tryz.ntmps33] <;> with_reducible rfl) ?_
          refine Can_call (by simp only [go_sem, ↓reduceIte, Int.reduceLT, Int.reduceLE, Int.reduceToNat, Int.reducePow, Int.reduceNeg, Nat.reduceBEq, Tryz.ntmps33] <;> with_reducible rfl) (hq.under2 _ GL) (Fr := []) (by rw [List.append_nil]) ?_ (by rintro x Δ' ⟨_, ⟨e, h, _⟩, _⟩; cases h)
          rintro x _ ⟨D2, ⟨e, h, he, -, hO2⟩, rfl⟩
          cases h
          rw [List.append_nil]
          refine Can_run (own := []) (by simp (maxSteps := 2000000) (disch := omega) only [go_sem, ↓reduceIte, Int.reduceLT, Int.reduceLE, Int.reduceToNat, Int.reducePow, Int.reduceNeg, Nat.reduceBEq, Tryz.ntmps33] <;> with_reducible rfl) ?_
          refine Can_callr (by simp only [go_sem, ↓reduceIte, Int.reduceLT, Int.reduceLE, Int.reduceToNat, Int.reducePow, Int.reduceNeg, Nat.reduceBEq, Tryz.ntmps33] <;> with_reducible rfl) (((of_ok he).globKeep (by simp [GL]))) ?_
          refine Can_run (own := []) (by simp (maxSteps := 2000000) (disch := omega) only [go_sem, ↓reduceIte, Int.reduceLT, Int.reduceLE, Int.reduceToNat, Int.reducePow, Int.reduceNeg, Nat.reduceBEq, Tryz.ntmps33] <;> with_reducible rfl) ?_
          refine Can_nil ?_
          refine J_forgetP ?_
          refine J_retX Tryz.func33 (by simp only [go_sem, ↓reduceIte, Int.reduceLT, Int.reduceLE, Int.reduceToNat, Int.reducePow, Int.reduceNeg, Nat.reduceBEq, Tryz.f33] <;> first | with_reducible rfl | rfl) ⟨[_], _, List.Perm.refl _, s2, c2, _, D2, rfl, hr2, hpg, hO2, rfl⟩
        · refine J_mrun (own := []) (m := 2000) (by simp (maxSteps := 2000000) (disch := omega) only [go_sem, ↓reduceIte, Int.reduceLT, Int.reduceLE, Int.reduceToNat, Int.reducePow, Int.reduceNeg, Nat.reduceBEq, Tryz.ntmps33] <;> with_reducible rfl) ?_
          refine J_if (by simp only [go_sem, ↓reduceIte, Int.reduceLT, Int.reduceLE, Int.reduceToNat, Int.reducePow, Int.reduceNeg, Nat.reduceBEq] <;> with_reducible rfl) (fun hk4 => ?_) (fun hk4 => ?_)
          · have hp := fuse04_ok (wc s c) o.n
            rw [show fuseS (wc s c) o.n = wc (fuseS s o.n) c from rfl] at hp
            have hq := fuse_ok hO o.n
            have hr2 := (hrel.fuse hon).mono (Nat.le_succ _)
            have hpg : (fuseS s o.n).pages = s.pages := rfl
            unfold rAV at hp
            generalize fuseS s o.n = s2 at *
            refine J_mrun (own := []) (m := 2000) (by simp (maxSteps := 2000000) (disch := omega) only [go_sem, ↓reduceIte, Int.reduceLT, Int.reduceLE, Int.reduceToNat, Int.reducePow, Int.reduceNeg, Nat.reduceBEq, Tryz.ntmps33] <;> with_reducible rfl) ?_
            refine J_calls (by simp only [go_sem, ↓reduceIte, Int.reduceLT, Int.reduceLE, Int.reduceToNat, Int.reducePow, Int.reduceNeg, Nat.reduceBEq, Tryz.ntmps33] <;> with_reducible rfl) hq (Δ1 := D) (Fr := [_, GL]) (List.perm_append_comm (l₁ := [_, GL])) ?_ (by rintro x Δ' ⟨h, _⟩; cases h)
            rintro x D2 ⟨h, hO2⟩
            cases h
            refine J_perm List.perm_append_comm ?_
            refine J_mrun (own := []) (m := 2000) (by simp (maxSteps := 2000000) (disch := omega) only [go_sem, ↓reduceIte, Int.reduceLT, Int.reduceLE, Int.reduceToNat, Int.reducePow, Int.reduceNeg, Nat.reduceBEq, Tryz.ntmps33] <;> with_reducible rfl) ?_
            refine J_callp (by simp only [go_sem, ↓reduceIte, Int.reduceLT, Int.reduceLE, Int.reduceToNat, Int.reducePow, Int.reduceNeg, Nat.reduceBEq, Tryz.ntmps33] <;> with_reducible rfl) (hp) ?_
            refine J_mrun (own := []) (m := 2000) (by simp (maxSteps := 2000000) (disch := omega) only [go_sem, ↓reduceIte, Int.reduceLT, Int.reduceLE, Int.reduceToNat, Int.reducePow, Int.reduceNeg, Nat.reduceBEq, Tryz.ntmps33] <;> with_reducible rfl) ?_
            refine J_forgetP ?_
            refine J_retX Tryz.func33 (by simp only [go_sem, ↓reduceIte, Int.reduceLT, Int.reduceLE, Int.reduceToNat, Int.reducePow, Int.reduceNeg, Nat.reduceBEq, Tryz.f33] <;> first | with_reducible rfl | rfl) ⟨[_], _, List.Perm.refl _, s2, c, _, D2, rfl, hr2, hpg, hO2, rfl⟩
          · refine J_mrun (own := []) (m := 2000) (by simp (maxSteps := 2000000) (disch := omega) only [go_sem, ↓reduceIte, Int.reduceLT, Int.reduceLE, Int.reduceToNat, Int.reducePow, Int.reduceNeg, Nat.reduceBEq, Tryz.ntmps33] <;> with_reducible rfl) ?_
            refine J_if (by simp only [go_sem, ↓reduceIte, Int.reduceLT, Int.reduceLE, Int.reduceToNat, Int.reducePow, Int.reduceNeg, Nat.reduceBEq] <;> with_reducible rfl) (fun hk5 => ?_) (fun hk5 => ?_)
            · have hp := crash04_ok (wc s c) hR o.keep hk
              rw [show crash04S (wc s c) o.keep = wc (crashS s o.keep) (settleKeepC c s.loose o.keep) from rfl] at hp
              have hq := crash_ok hO hwf o.keep hk
              have hr2 := (hrel.crash o.keep).mono (Nat.le_succ _)
              have hpg : (crashS s o.keep).pages = s.pages := rfl
              unfold rAV at hp
              generalize crashS s o.keep = s2 at *
              generalize settleKeepC c s.loose o.keep = c2 at *
              refine J_mrun (own := []) (m := 2000) (by simp (maxSteps := 2000000) (disch := omega) only [go_sem, ↓reduceIte, Int.reduceLT, Int.reduceLE, Int.reduceToNat, Int.reducePow, Int.reduceNeg, Nat.reduceBEq, Tryz.ntmps33] <;> with_reducible rfl) ?_
              refine J_calls (by simp only [go_sem, ↓reduceIte, Int.reduceLT, Int.reduceLE, Int.reduceToNat, Int.reducePow, Int.reduceNeg, Nat.reduceBEq, Tryz.ntmps33] <;> with_reducible rfl) hq (Δ1 := D) (Fr := [_, GL]) (List.perm_append_comm (l₁ := [_, GL])) ?_ (by rintro x Δ' ⟨h, _⟩; cases h)
              rintro x D2 ⟨h, hO2⟩
              cases h
              refine J_perm List.perm_append_comm ?_
              refine J_mrun (own := []) (m := 2000) (by simp (maxSteps := 2000000) (disch := omega) only [go_sem, ↓reduceIte, Int.reduceLT, Int.reduceLE, Int.reduceToNat, Int.reducePow, Int.reduceNeg, Nat.reduceBEq, Tryz.ntmps33] <;> with_reducible rfl) ?_
              refine J_callp (by simp only [go_sem, ↓reduceIte, Int.reduceLT, Int.reduceLE, Int.reduceToNat, Int.reducePow, Int.reduceNeg, Nat.reduceBEq, Tryz.ntmps33] <;> with_reducible rfl) (hp) ?_
              refine J_mrun (own := []) (m := 2000) (by simp (maxSteps := 2000000) (disch := omega) only [go_sem, ↓reduceIte, Int.reduceLT, Int.reduceLE, Int.reduceToNat, Int.reducePow, Int.reduceNeg, Nat.reduceBEq, Tryz.ntmps33] <;> with_reducible rfl) ?_
              refine J_forgetP ?_
              refine J_retX Tryz.func33 (by simp only [go_sem, ↓reduceIte, Int.reduceLT, Int.reduceLE, Int.reduceToNat, Int.reducePow, Int.reduceNeg, Nat.reduceBEq, Tryz.f33] <;> first | with_reducible rfl | rfl) ⟨[_], _, List.Perm.refl _, s2, c2, _, D2, rfl, hr2, hpg, hO2, rfl⟩
            · refine J_mrun (own := []) (m := 2000) (by simp (maxSteps := 2000000) (disch := omega) only [go_sem, ↓reduceIte, Int.reduceLT, Int.reduceLE, Int.reduceToNat, Int.reducePow, Int.reduceNeg, Nat.reduceBEq, Tryz.ntmps33] <;> with_reducible rfl) ?_
              refine J_forgetP ?_
              refine J_retX Tryz.func33 (by simp only [go_sem, ↓reduceIte, Int.reduceLT, Int.reduceLE, Int.reduceToNat, Int.reducePow, Int.reduceNeg, Nat.reduceBEq, Tryz.f33] <;> first | with_reducible rfl | rfl) ⟨[_], _, List.Perm.refl _, s, c, _, _, rfl, hrel.mono (Nat.le_succ _), rfl, hO, rfl⟩

def ops4 (l : List Op4) : List (List AV) := l.map Op4.cells
theorem ops4_len (l : List Op4) : (ops4 l).length = l.length := by simp [ops4]
theorem ops4_get {l : List Op4} {i : Nat} {o : Op4} (h : l[i]? = some o) : (ops4 l)[i]? = some [.c (.int .i64 o.kind), .c (.int .i64 o.at_), .c (.int .u8 o.a.toNat), .c (.int .u8 o.b.toNat), .c (.int .i64 o.n), .sl 1 (intRows o.keep)] := by simp [ops4, h, Op4.cells]
theorem foldN_ge : ∀ (l : List (Int × List UInt8)) (n : Int), n ≤ l.foldl stepN n ∧ ∀ c ∈ l, ((stampsB c.2).1 : Int) < l.foldl stepN n ∧ ((stampsB c.2).2 : Int) < l.foldl stepN n
  | [], n => ⟨Int.le_refl _, by simp⟩
  | c :: l, n => by
    have ih := foldN_ge l (stepN n c)
    rw [List.foldl_cons]
    have hs : n ≤ stepN n c ∧ ((stampsB c.2).1 : Int) < stepN n c ∧ ((stampsB c.2).2 : Int) < stepN n c := by unfold stepN; omega
    refine ⟨by have := ih.1; omega, fun d hd => ?_⟩
    rcases List.mem_cons.1 hd with rfl | hd
    · have := ih.1; omega
    · exact ih.2 d hd

theorem ticketNew_ok (l : List Op4) (st kd : Int) (b : List UInt8) (at_ : UInt8) (keep : List Int) (hl : l.length < 2 ^ 40) (hll : ∀ o ∈ l, o.keep.length < 2 ^ 37 ∧ o.n < 9223372036854775808) (hb : b.length < 2 ^ 37) (hk : keep.length < 2 ^ 37) :
    ACalls Tryz.prog 5 [.sl 6 (ops4 l), leafAV st kd (.sl 1 (bytesRows b)), .c (.int .u8 at_.toNat), .sl 1 (intRows keep)] [GL] (Ret (.c (.bool true))) := by
  have hck := check05_ok st kd b (by omega)
  unfold leafAV at *
  by_cases h1 : l.length > 40
  · have d1 := decide_eq_true (show (l.length : Int) > 40 by omega)
    refine calls_of_J cl_5 Tryz.func5 rfl (by simp [Tryz.ntmps5]) ?_
    refine J_mrun (own := []) (m := 2000) (by simp (maxSteps := 2000000) (disch := omega) only [go_sem, ↓reduceIte, Int.reduceLT, Int.reduceLE, Int.reduceToNat, Int.reducePow, Int.reduceNeg, Nat.reduceBEq, Tryz.ntmps5, ops4_len, d1] <;> with_reducible rfl) ?_
    refine J_true (by simp only [go_sem, ↓reduceIte, Int.reduceLT, Int.reduceLE, Int.reduceToNat, Int.reducePow, Int.reduceNeg, Nat.reduceBEq] <;> with_reducible rfl) ?_
    refine J_mrun (own := []) (m := 2000) (by simp (maxSteps := 2000000) (disch := omega) only [go_sem, ↓reduceIte, Int.reduceLT, Int.reduceLE, Int.reduceToNat, Int.reducePow, Int.reduceNeg, Nat.reduceBEq, Tryz.ntmps5] <;> with_reducible rfl) ?_
    refine J_callg (by simp only [go_sem, ↓reduceIte, Int.reduceLT, Int.reduceLE, Int.reduceToNat, Int.reducePow, Int.reduceNeg, Nat.reduceBEq, Tryz.ntmps5] <;> with_reducible rfl) (by simp [GL]) (works_ok) ?_
    refine J_mrun (own := []) (m := 2000) (by simp (maxSteps := 2000000) (disch := omega) only [go_sem, ↓reduceIte, Int.reduceLT, Int.reduceLE, Int.reduceToNat, Int.reducePow, Int.reduceNeg, Nat.reduceBEq, Tryz.ntmps5] <;> with_reducible rfl) ?_
    refine J_forget ?_
    refine J_retX Tryz.func5 (by simp only [go_sem, ↓reduceIte, Int.reduceLT, Int.reduceLE, Int.reduceToNat, Int.reducePow, Int.reduceNeg, Nat.reduceBEq, Tryz.f5] <;> first | with_reducible rfl | rfl) ⟨rfl, rfl⟩
  have d1 := decide_eq_false (show ¬ (l.length : Int) > 40 by omega)
  by_cases h2 : keep.length > 60
  · have d2 := decide_eq_true (show (keep.length : Int) > 60 by omega)
    refine calls_of_J cl_5 Tryz.func5 rfl (by simp [Tryz.ntmps5]) ?_
    refine J_mrun (own := []) (m := 2000) (by simp (maxSteps := 2000000) (disch := omega) only [go_sem, ↓reduceIte, Int.reduceLT, Int.reduceLE, Int.reduceToNat, Int.reducePow, Int.reduceNeg, Nat.reduceBEq, Tryz.ntmps5, ops4_len, d1, d2] <;> with_reducible rfl) ?_
    refine J_true (by simp only [go_sem, ↓reduceIte, Int.reduceLT, Int.reduceLE, Int.reduceToNat, Int.reducePow, Int.reduceNeg, Nat.reduceBEq] <;> with_reducible rfl) ?_
    refine J_mrun (own := []) (m := 2000) (by simp (maxSteps := 2000000) (disch := omega) only [go_sem, ↓reduceIte, Int.reduceLT, Int.reduceLE, Int.reduceToNat, Int.reducePow, Int.reduceNeg, Nat.reduceBEq, Tryz.ntmps5] <;> with_reducible rfl) ?_
    refine J_callg (by simp only [go_sem, ↓reduceIte, Int.reduceLT, Int.reduceLE, Int.reduceToNat, Int.reducePow, Int.reduceNeg, Nat.reduceBEq, Tryz.ntmps5] <;> with_reducible rfl) (by simp [GL]) (works_ok) ?_
    refine J_mrun (own := []) (m := 2000) (by simp (maxSteps := 2000000) (disch := omega) only [go_sem, ↓reduceIte, Int.reduceLT, Int.reduceLE, Int.reduceToNat, Int.reducePow, Int.reduceNeg, Nat.reduceBEq, Tryz.ntmps5] <;> with_reducible rfl) ?_
    refine J_forget ?_
    refine J_retX Tryz.func5 (by simp only [go_sem, ↓reduceIte, Int.reduceLT, Int.reduceLE, Int.reduceToNat, Int.reducePow, Int.reduceNeg, Nat.reduceBEq, Tryz.f5] <;> first | with_reducible rfl | rfl) ⟨rfl, rfl⟩
  have d2 := decide_eq_false (show ¬ (keep.length : Int) > 60 by omega)
  by_cases hc0 : checkC st kd b.length = 0
  rotate_left
  · have d3 := decide_eq_true (show checkC st kd b.length ≠ 0 from hc0)
    refine calls_of_J cl_5 Tryz.func5 rfl (by simp [Tryz.ntmps5]) ?_
    refine J_mrun (own := []) (m := 2000) (by simp (maxSteps := 2000000) (disch := omega) only [go_sem, ↓reduceIte, Int.reduceLT, Int.reduceLE, Int.reduceToNat, Int.reducePow, Int.reduceNeg, Nat.reduceBEq, Tryz.ntmps5, ops4_len, d1, d2] <;> with_reducible rfl) ?_
    refine J_callp (by simp only [go_sem, ↓reduceIte, Int.reduceLT, Int.reduceLE, Int.reduceToNat, Int.reducePow, Int.reduceNeg, Nat.reduceBEq, Tryz.ntmps5] <;> with_reducible rfl) (hck) ?_
    refine J_mrun (own := []) (m := 2000) (by simp (maxSteps := 2000000) (disch := omega) only [go_sem, ↓reduceIte, Int.reduceLT, Int.reduceLE, Int.reduceToNat, Int.reducePow, Int.reduceNeg, Nat.reduceBEq, Tryz.ntmps5, d3] <;> with_reducible rfl) ?_
    refine J_true (by simp only [go_sem, ↓reduceIte, Int.reduceLT, Int.reduceLE, Int.reduceToNat, Int.reducePow, Int.reduceNeg, Nat.reduceBEq] <;> with_reducible rfl) ?_
    refine J_mrun (own := []) (m := 2000) (by simp (maxSteps := 2000000) (disch := omega) only [go_sem, ↓reduceIte, Int.reduceLT, Int.reduceLE, Int.reduceToNat, Int.reducePow, Int.reduceNeg, Nat.reduceBEq, Tryz.ntmps5] <;> with_reducible rfl) ?_
    refine J_callg (by simp only [go_sem, ↓reduceIte, Int.reduceLT, Int.reduceLE, Int.reduceToNat, Int.reducePow, Int.reduceNeg, Nat.reduceBEq, Tryz.ntmps5] <;> with_reducible rfl) (by simp [GL]) (works_ok) ?_
    refine J_mrun (own := []) (m := 2000) (by simp (maxSteps := 2000000) (disch := omega) only [go_sem, ↓reduceIte, Int.reduceLT, Int.reduceLE, Int.reduceToNat, Int.reducePow, Int.reduceNeg, Nat.reduceBEq, Tryz.ntmps5] <;> with_reducible rfl) ?_
    refine J_forget ?_
    refine J_retX Tryz.func5 (by simp only [go_sem, ↓reduceIte, Int.reduceLT, Int.reduceLE, Int.reduceToNat, Int.reducePow, Int.reduceNeg, Nat.reduceBEq, Tryz.f5] <;> first | with_reducible rfl | rfl) ⟨rfl, rfl⟩
  obtain ⟨⟨h3, h4⟩, ⟨h5, h6⟩, h7⟩ := checkC_zero hc0
  rw [hc0] at hck
  have hR0 := rel_new (p := 9) (by decide) (by decide)
  refine calls_of_J cl_5 Tryz.func5 rfl (by simp [Tryz.ntmps5]) ?_
  refine J_mrun (own := []) (m := 2000) (by simp (maxSteps := 2000000) (disch := omega) only [go_sem, ↓reduceIte, Int.reduceLT, Int.reduceLE, Int.reduceToNat, Int.reducePow, Int.reduceNeg, Nat.reduceBEq, Tryz.ntmps5, ops4_len, d1, d2] <;> with_reducible rfl) ?_
  refine J_callp (by simp only [go_sem, ↓reduceIte, Int.reduceLT, Int.reduceLE, Int.reduceToNat, Int.reducePow, Int.reduceNeg, Nat.reduceBEq, Tryz.ntmps5] <;> with_reducible rfl) (hck) ?_
  refine J_mrun (own := []) (m := 2000) (by simp (maxSteps := 2000000) (disch := omega) only [go_sem, ↓reduceIte, Int.reduceLT, Int.reduceLE, Int.reduceToNat, Int.reducePow, Int.reduceNeg, Nat.reduceBEq, Tryz.ntmps5, ne_eq, eq_self, not_true_eq_false, decide_false] <;> with_reducible rfl) ?_
  refine J_false (by simp only [go_sem, ↓reduceIte, Int.reduceLT, Int.reduceLE, Int.reduceToNat, Int.reducePow, Int.reduceNeg, Nat.reduceBEq] <;> with_reducible rfl) ?_
  refine J_mrun (own := []) (m := 2000) (by simp (maxSteps := 2000000) (disch := omega) only [go_sem, ↓reduceIte, Int.reduceLT, Int.reduceLE, Int.reduceToNat, Int.reducePow, Int.reduceNeg, Nat.reduceBEq, Tryz.ntmps5] <;> with_reducible rfl) ?_
  refine J_calls (by simp only [go_sem, ↓reduceIte, Int.reduceLT, Int.reduceLE, Int.reduceToNat, Int.reducePow, Int.reduceNeg, Nat.reduceBEq, Tryz.ntmps5] <;> with_reducible rfl) (fnew_ok 9 (by decide) (by decide)) (Δ1 := []) (Fr := [GL]) (by simp) ?_ (by rintro x Δ' ⟨f, e, _⟩; cases e)
  rintro x D ⟨f, e, hO⟩
  cases e
  refine J_perm List.perm_append_comm ?_
  refine J_mrun (own := []) (m := 2000) (by simp (maxSteps := 2000000) (disch := omega) only [go_sem, ↓reduceIte, Int.reduceLT, Int.reduceLE, Int.reduceToNat, Int.reducePow, Int.reduceNeg, Nat.reduceBEq, Tryz.ntmps5] <;> with_reducible rfl) ?_
  refine J_false (by simp only [go_sem, ↓reduceIte, Int.reduceLT, Int.reduceLE, Int.reduceToNat, Int.reducePow, Int.reduceNeg, Nat.reduceBEq] <;> with_reducible rfl) ?_
  refine J_mrun (own := []) (m := 2000) (by simp (maxSteps := 2000000) (disch := omega) only [go_sem, ↓reduceIte, Int.reduceLT, Int.reduceLE, Int.reduceToNat, Int.reducePow, Int.reduceNeg, Nat.reduceBEq, Tryz.ntmps5] <;> with_reducible rfl) ?_
  have hn9 := new04_ok 9 (by decide) (by decide)
  unfold rAV at hn9
  refine J_callp (by simp only [go_sem, ↓reduceIte, Int.reduceLT, Int.reduceLE, Int.reduceToNat, Int.reducePow, Int.reduceNeg, Nat.reduceBEq, Tryz.ntmps5] <;> with_reducible rfl) (hn9) ?_
  refine J_mrun (own := [11]) (m := 2000) (by simp (maxSteps := 2000000) (disch := omega) only [go_sem, ↓reduceIte, Int.reduceLT, Int.reduceLE, Int.reduceToNat, Int.reducePow, Int.reduceNeg, Nat.reduceBEq, Tryz.ntmps5] <;> with_reducible rfl) ?_
  refine J_newvar rfl (by simp only [go_sem, ↓reduceIte, Int.reduceLT, Int.reduceLE, Int.reduceToNat, Int.reducePow, Int.reduceNeg, Nat.reduceBEq, Tryz.ntmps5]) (by simp only [go_sem, ↓reduceIte, Int.reduceLT, Int.reduceLE, Int.reduceToNat, Int.reducePow, Int.reduceNeg, Nat.reduceBEq] <;> with_reducible rfl) (fun b11 hb11 => ?_)
  refine J_mrun (own := []) (m := 2000) (by simp (maxSteps := 2000000) (disch := omega) only [go_sem, ↓reduceIte, Int.reduceLT, Int.reduceLE, Int.reduceToNat, Int.reducePow, Int.reduceNeg, Nat.reduceBEq, Tryz.ntmps5] <;> with_reducible rfl) ?_
  refine J_keep [0, 2, 3, 5, 9, 11, 13] (by simp only [go_sem, ↓reduceIte, Int.reduceLT, Int.reduceLE, Int.reduceToNat, Int.reducePow, Int.reduceNeg, Nat.reduceBEq] <;> with_reducible rfl) ?_
  refine J_loopI (I := fun w e D => ∃ (i : Nat) (s : Fl) (c : List (Int × List UInt8)) (D1 : List HP), i ≤ l.length ∧ w = l.length - i ∧ Rel s c i ∧ s.pages = 9 ∧ OwnF f s D1 ∧ D = .box b11 47 (rCells (wc s c)) :: GL :: D1 ∧ e = [(0, .sl 6 (ops4 l)), (2, .c (.int .u8 at_.toNat)), (3, .sl 1 (intRows keep)), (5, .fp [.c (.int .i64 st), .c (.int .i64 kd), .sl 1 (bytesRows b)]), (9, ptr f), (11, .c (.pointer (some ⟨b11, 0, none⟩))), (13, .c (.int .i64 i))]) ?_ ?_
  · exact ⟨_, 0, newFl 9, [], D, Nat.zero_le _, rfl, hR0, rfl, hO, rfl, rfl⟩
  · rintro w e D ⟨i, s, c, D1, hi, rfl, hrel, hpg, hO, rfl, rfl⟩ ih
    refine J_mrun (own := []) (m := 2000) (by simp (maxSteps := 2000000) (disch := omega) only [go_sem, ↓reduceIte, Int.reduceLT, Int.reduceLE, Int.reduceToNat, Int.reducePow, Int.reduceNeg, Nat.reduceBEq, Tryz.ntmps5, ops4_len] <;> with_reducible rfl) ?_
    refine J_if (by simp only [go_sem, ↓reduceIte, Int.reduceLT, Int.reduceLE, Int.reduceToNat, Int.reducePow, Int.reduceNeg, Nat.reduceBEq] <;> with_reducible rfl) (fun hc => ?_) (fun hc => ?_)
    · have hlt : i < l.length := by omega
      have g1 := ops4_get (List.getElem?_eq_getElem hlt)
      have h0 : (0 : Int) ≤ (i : Int) := by omega
      obtain ⟨hok, hon⟩ := hll l[i] (List.getElem_mem _)
      generalize l[i] = o at *
      refine J_mrun (own := []) (m := 2000) (by simp (maxSteps := 2000000) (disch := omega) only [go_sem, ↓reduceIte, Int.reduceLT, Int.reduceLE, Int.reduceToNat, Int.reducePow, Int.reduceNeg, Nat.reduceBEq, Tryz.ntmps5, g1, ops4_len] <;> with_reducible rfl) ?_
      refine J_if (by simp only [go_sem, ↓reduceIte, Int.reduceLT, Int.reduceLE, Int.reduceToNat, Int.reducePow, Int.reduceNeg, Nat.reduceBEq] <;> with_reducible rfl) (fun hkp => ?_) (fun hkp => ?_)
      · refine J_mrun (own := []) (m := 2000) (by simp (maxSteps := 2000000) (disch := omega) only [go_sem, ↓reduceIte, Int.reduceLT, Int.reduceLE, Int.reduceToNat, Int.reducePow, Int.reduceNeg, Nat.reduceBEq, Tryz.ntmps5] <;> with_reducible rfl) ?_
        refine J_callg (by simp only [go_sem, ↓reduceIte, Int.reduceLT, Int.reduceLE, Int.reduceToNat, Int.reducePow, Int.reduceNeg, Nat.reduceBEq, Tryz.ntmps5] <;> with_reducible rfl) (by simp [GL]) (works_ok) ?_
        refine J_mrun (own := []) (m := 2000) (by simp (maxSteps := 2000000) (disch := omega) only [go_sem, ↓reduceIte, Int.reduceLT, Int.reduceLE, Int.reduceToNat, Int.reducePow, Int.reduceNeg, Nat.reduceBEq, Tryz.ntmps5] <;> with_reducible rfl) ?_
        refine J_forget ?_
        refine J_retX Tryz.func5 (by simp only [go_sem, ↓reduceIte, Int.reduceLT, Int.reduceLE, Int.reduceToNat, Int.reducePow, Int.reduceNeg, Nat.reduceBEq, Tryz.f5] <;> first | with_reducible rfl | rfl) ⟨rfl, rfl⟩
      · have hdo := do04_ok hO hrel (by omega) o hok hon
        unfold rAV Op4.cells at hdo
        refine J_mrun (own := []) (m := 2000) (by simp (maxSteps := 2000000) (disch := omega) only [go_sem, ↓reduceIte, Int.reduceLT, Int.reduceLE, Int.reduceToNat, Int.reducePow, Int.reduceNeg, Nat.reduceBEq, Tryz.ntmps5] <;> with_reducible rfl) ?_
        refine J_draw [[], [], [], [], [2, 3], [2, 3, 4], [0, 1, 2, 3, 4, 5], [0, 1, 2, 3, 4, 5, 6], [0, 1, 2, 3, 4, 5, 6, 7], [0, 1, 2, 3, 4, 5, 6, 7], [0, 1, 2, 3, 4, 5, 6, 7, 8]] [(0, .pure), (1, .read), (2, .pure), (3, .pure), (4, .pure), (5, .pure), (6, .act), (7, .pure), (8, .pure), (9, .pure), (10, .act)] mixed (by kernel_rfl) ?_
        refine Can_run (own := []) (by simp (maxSteps := 2000000) (disch := omega) only [go_sem, ↓reduceIte, Int.reduceLT, Int.reduceLE, Int.reduceToNat, Int.reducePow, Int.reduceNeg, Nat.reduceBEq, Tryz.ntmps5, g1, ops4_len] <;> with_reducible rfl) ?_
        refine Can_call (by simp only [go_sem, ↓reduceIte, Int.reduceLT, Int.reduceLE, Int.reduceToNat, Int.reducePow, Int.reduceNeg, Nat.reduceBEq, Tryz.ntmps5] <;> with_reducible rfl) (hdo.under1 _) (Fr := []) (by rw [List.append_nil]) ?_ (by rintro x Δ' ⟨_, ⟨_, _, _, _, h, _⟩, _⟩; cases h)
        rintro x _ ⟨_, ⟨s', c', bb, D2, h, hrel', hpg', hO', rfl⟩, rfl⟩
        cases h
        rw [List.append_nil]
        refine Can_run (own := []) (by simp (maxSteps := 2000000) (disch := omega) only [go_sem, ↓reduceIte, Int.reduceLT, Int.reduceLE, Int.reduceToNat, Int.reducePow, Int.reduceNeg, Nat.reduceBEq, Tryz.ntmps5] <;> with_reducible rfl) ?_
        refine Can_nil ?_
        refine J_mrun (own := []) (m := 2000) (by simp (maxSteps := 2000000) (disch := omega) only [go_sem, ↓reduceIte, Int.reduceLT, Int.reduceLE, Int.reduceToNat, Int.reducePow, Int.reduceNeg, Nat.reduceBEq, Tryz.ntmps5] <;> with_reducible rfl) ?_
        refine J_keep [0, 2, 3, 5, 9, 11, 13] (by simp only [go_sem, ↓reduceIte, Int.reduceLT, Int.reduceLE, Int.reduceToNat, Int.reducePow, Int.reduceNeg, Nat.reduceBEq] <;> with_reducible rfl) ?_
        refine ih _ _ _ ?_ ⟨i + 1, s', c', D2, by omega, rfl, hrel', hpg'.trans hpg, hO', rfl, rfl⟩
        omega
    · have hi' : i = l.length := by omega
      subst hi'
      have hwf := hrel.b.wf (by omega)
      have hq := (crash_ok hO hwf [] (by simp)).nilArg (pre := [ptr f]) (post := [])
      have hb1 := crashS_B hrel.b []
      have hp1 : (crashS s []).pages = 9 := hpg
      have hd1 : (crashS s []).down = false := rfl
      have hf1 : (crashS s []).fuse = -1 := rfl
      generalize crashS s [] = s1 at *
      refine J_mrun (own := []) (m := 2000) (by simp (maxSteps := 2000000) (disch := omega) only [go_sem, ↓reduceIte, Int.reduceLT, Int.reduceLE, Int.reduceToNat, Int.reducePow, Int.reduceNeg, Nat.reduceBEq, Tryz.ntmps5] <;> with_reducible rfl) ?_
      refine J_calls (by simp only [go_sem, ↓reduceIte, Int.reduceLT, Int.reduceLE, Int.reduceToNat, Int.reducePow, Int.reduceNeg, Nat.reduceBEq, Tryz.ntmps5] <;> with_reducible rfl) hq (Δ1 := D1) (Fr := [_, GL]) (List.perm_append_comm (l₁ := [_, GL])) ?_ (by rintro x Δ' ⟨h, _⟩; cases h)
      rintro x D2 ⟨h, hO1⟩
      cases h
      refine J_perm List.perm_append_comm (J_drop ?_)
      have hp := put_ok st.toNat kd.toNat b (by omega) (by omega) (by omega) (by omega) h7
      rw [show ((st.toNat : Nat) : Int) = st from by omega, show ((kd.toNat : Nat) : Int) = kd from by omega] at hp
      have hpl := putB_len st.toNat kd.toNat b h7
      unfold leafAV at hp
      generalize putB st.toNat kd.toNat b = w at *
      refine J_mrun (own := []) (m := 2000) (by simp (maxSteps := 2000000) (disch := omega) only [go_sem, ↓reduceIte, Int.reduceLT, Int.reduceLE, Int.reduceToNat, Int.reducePow, Int.reduceNeg, Nat.reduceBEq, Tryz.ntmps5] <;> with_reducible rfl) ?_
      refine J_callp (by simp only [go_sem, ↓reduceIte, Int.reduceLT, Int.reduceLE, Int.reduceToNat, Int.reducePow, Int.reduceNeg, Nat.reduceBEq, Tryz.ntmps5] <;> with_reducible rfl) (hp) ?_
      have hat := at_.toNat_lt
      have hwr := write_ok hO1 (hb1.wf (by omega)) ((at_.toNat : Int) % 9) w (by omega)
      have hck1 : checkF s1 ((at_.toNat : Int) % 9) = 0 := by
        unfold checkF; rw [if_neg (by simp [hd1]), if_neg (by rw [hp1]; omega)]
      have hwc : writeC s1 ((at_.toNat : Int) % 9) w.length = 0 := by
        unfold writeC changeC burnB
        rw [if_neg (by simp [hck1]), if_neg (by omega), hf1]; rfl
      rw [hwc] at hwr
      have hb2 := writeS_B hb1 ((at_.toNat : Int) % 9) w
      generalize writeS s1 ((at_.toNat : Int) % 9) w = s2 at *
      refine J_mrun (own := []) (m := 2000) (by simp (maxSteps := 2000000) (disch := omega) only [go_sem, ↓reduceIte, Int.reduceLT, Int.reduceLE, Int.reduceToNat, Int.reducePow, Int.reduceNeg, Nat.reduceBEq, Tryz.ntmps5, anil] <;> with_reducible rfl) ?_
      refine J_calls (by simp only [go_sem, ↓reduceIte, Int.reduceLT, Int.reduceLE, Int.reduceToNat, Int.reducePow, Int.reduceNeg, Nat.reduceBEq, Tryz.ntmps5] <;> with_reducible rfl) hwr (Δ1 := D2) (Fr := [GL]) (List.perm_append_comm (l₁ := [GL])) ?_ (by rintro x Δ' ⟨e, h, _⟩; cases h)
      rintro x D3 ⟨e, h, -, hz, hO2⟩
      cases h
      obtain rfl := hz rfl
      refine J_perm List.perm_append_comm ?_
      refine J_mrun (own := []) (m := 2000) (by simp (maxSteps := 2000000) (disch := omega) only [go_sem, ↓reduceIte, Int.reduceLT, Int.reduceLE, Int.reduceToNat, Int.reducePow, Int.reduceNeg, Nat.reduceBEq, Tryz.ntmps5] <;> with_reducible rfl) ?_
      refine J_false (by simp only [go_sem, ↓reduceIte, Int.reduceLT, Int.reduceLE, Int.reduceToNat, Int.reducePow, Int.reduceNeg, Nat.reduceBEq] <;> with_reducible rfl) ?_
      have hq3 := crash_ok hO2 (hb2.wf (by omega)) keep hk
      have hb3 := crashS_B hb2 keep
      have hd3 : (crashS s2 keep).down = false := rfl
      generalize crashS s2 keep = s3 at *
      refine J_mrun (own := []) (m := 2000) (by simp (maxSteps := 2000000) (disch := omega) only [go_sem, ↓reduceIte, Int.reduceLT, Int.reduceLE, Int.reduceToNat, Int.reducePow, Int.reduceNeg, Nat.reduceBEq, Tryz.ntmps5] <;> with_reducible rfl) ?_
      refine J_calls (by simp only [go_sem, ↓reduceIte, Int.reduceLT, Int.reduceLE, Int.reduceToNat, Int.reducePow, Int.reduceNeg, Nat.reduceBEq, Tryz.ntmps5] <;> with_reducible rfl) hq3 (Δ1 := D3) (Fr := [GL]) (List.perm_append_comm (l₁ := [GL])) ?_ (by rintro x Δ' ⟨h, _⟩; cases h)
      rintro x D4 ⟨h, hO3⟩
      cases h
      refine J_perm List.perm_append_comm ?_
      have hcl := cellsF_len hb3
      have hpgs := cellsF_page (hb3.wf (by omega))
      have hcf := cellsF_ok hO3 (hb3.wf (by omega)) (hb3.small (by omega))
      have hto := topen_ok hO3 (hb3.wf (by omega)) (hb3.small (by omega)) hd3 (by omega)
      have hnb := nextF_bd s3
      have hge := (foldN_ge (cellsF s3) 1).2
      rw [show (cellsF s3).foldl stepN 1 = nextF s3 from rfl] at hge
      generalize nextF s3 = nx at *
      generalize cellsF s3 = cs at *
      refine J_mrun (own := []) (m := 2000) (by simp (maxSteps := 2000000) (disch := omega) only [go_sem, ↓reduceIte, Int.reduceLT, Int.reduceLE, Int.reduceToNat, Int.reducePow, Int.reduceNeg, Nat.reduceBEq, Tryz.ntmps5] <;> with_reducible rfl) ?_
      refine J_calls (by simp only [go_sem, ↓reduceIte, Int.reduceLT, Int.reduceLE, Int.reduceToNat, Int.reducePow, Int.reduceNeg, Nat.reduceBEq, Tryz.ntmps5] <;> with_reducible rfl) hto (Δ1 := D4) (Fr := [GL]) (List.perm_append_comm (l₁ := [GL])) ?_ (by rintro x Δ' ⟨u, h, _⟩; cases h)
      rintro x _ ⟨t, h, rfl⟩
      cases h
      refine J_perm List.perm_append_comm ?_
      refine J_mrun (own := []) (m := 2000) (by simp (maxSteps := 2000000) (disch := omega) only [go_sem, ↓reduceIte, Int.reduceLT, Int.reduceLE, Int.reduceToNat, Int.reducePow, Int.reduceNeg, Nat.reduceBEq, Tryz.ntmps5] <;> with_reducible rfl) ?_
      refine J_false (by simp only [go_sem, ↓reduceIte, Int.reduceLT, Int.reduceLE, Int.reduceToNat, Int.reducePow, Int.reduceNeg, Nat.reduceBEq] <;> with_reducible rfl) ?_
      refine J_mrun (own := []) (m := 2000) (by simp (maxSteps := 2000000) (disch := omega) only [go_sem, ↓reduceIte, Int.reduceLT, Int.reduceLE, Int.reduceToNat, Int.reducePow, Int.reduceNeg, Nat.reduceBEq, Tryz.ntmps5] <;> with_reducible rfl) ?_
      refine J_calls (by simp only [go_sem, ↓reduceIte, Int.reduceLT, Int.reduceLE, Int.reduceToNat, Int.reducePow, Int.reduceNeg, Nat.reduceBEq, Tryz.ntmps5] <;> with_reducible rfl) hcf (Δ1 := D4) (Fr := [GL, _]) (List.perm_append_comm (l₁ := [GL, _])) ?_ (by rintro x Δ' ⟨h, _⟩; cases h)
      rintro x D4 ⟨h, rfl⟩
      cases h
      refine J_perm List.perm_append_comm ?_
      have hnx := fun Fr => (tnext_ok (t := t) (f := f) (n := nx)).around (Δ := [GL, tbox t f nx] ++ Fr) (Fr := GL :: Fr) (List.Perm.swap _ _ _)
      refine J_mrun (own := []) (m := 2000) (by simp (maxSteps := 2000000) (disch := omega) only [go_sem, ↓reduceIte, Int.reduceLT, Int.reduceLE, Int.reduceToNat, Int.reducePow, Int.reduceNeg, Nat.reduceBEq, Tryz.ntmps5] <;> with_reducible rfl) ?_
      refine J_keep [16, 18, 19] (by simp only [go_sem, ↓reduceIte, Int.reduceLT, Int.reduceLE, Int.reduceToNat, Int.reducePow, Int.reduceNeg, Nat.reduceBEq] <;> with_reducible rfl) ?_
      refine J_loopI (I := fun w e D => ∃ (i : Nat), i ≤ cs.length ∧ w = cs.length - i ∧ D = [GL, tbox t f nx] ++ D4 ∧ e = [(16, ptr t), (18, .sl 2 (cellRows cs)), (19, .c (.int .i64 i))]) ?_ ?_
      · exact ⟨_, 0, Nat.zero_le _, rfl, rfl, rfl⟩
      · rintro w e D ⟨i, hi, rfl, rfl, rfl⟩ ih
        refine J_mrun (own := []) (m := 2000) (by simp (maxSteps := 2000000) (disch := omega) only [go_sem, ↓reduceIte, Int.reduceLT, Int.reduceLE, Int.reduceToNat, Int.reducePow, Int.reduceNeg, Nat.reduceBEq, Tryz.ntmps5] <;> with_reducible rfl) ?_
        refine J_if (by simp only [go_sem, ↓reduceIte, Int.reduceLT, Int.reduceLE, Int.reduceToNat, Int.reducePow, Int.reduceNeg, Nat.reduceBEq] <;> with_reducible rfl) (fun hc => ?_) (fun hc => ?_)
        · have hlt : i < cs.length := by omega
          have g0 := List.getElem?_eq_getElem hlt
          have g1 := cellRows_get g0
          have h0 : (0 : Int) ≤ (i : Int) := by omega
          have hb9 := hpgs _ (List.getElem_mem hlt)
          have hg9 := hge _ (List.getElem_mem hlt)
          have e1 := decide_eq_false (show ¬ nx ≤ ((stampsB cs[i].2).1 : Int) by omega)
          have e2 := decide_eq_false (show ¬ nx ≤ ((stampsB cs[i].2).2 : Int) by omega)
          refine J_mrun (own := []) (m := 2000) (by simp (maxSteps := 2000000) (disch := omega) only [go_sem, ↓reduceIte, Int.reduceLT, Int.reduceLE, Int.reduceToNat, Int.reducePow, Int.reduceNeg, Nat.reduceBEq, Tryz.ntmps5, g1] <;> with_reducible rfl) ?_
          refine J_callp (by simp only [go_sem, ↓reduceIte, Int.reduceLT, Int.reduceLE, Int.reduceToNat, Int.reducePow, Int.reduceNeg, Nat.reduceBEq, Tryz.ntmps5] <;> with_reducible rfl) (stamps_ok cs[i].2 (by omega)) ?_
          refine J_mrun (own := []) (m := 2000) (by simp (maxSteps := 2000000) (disch := omega) only [go_sem, ↓reduceIte, Int.reduceLT, Int.reduceLE, Int.reduceToNat, Int.reducePow, Int.reduceNeg, Nat.reduceBEq, Tryz.ntmps5] <;> with_reducible rfl) ?_
          refine J_callr (by simp only [go_sem, ↓reduceIte, Int.reduceLT, Int.reduceLE, Int.reduceToNat, Int.reducePow, Int.reduceNeg, Nat.reduceBEq, Tryz.ntmps5] <;> with_reducible rfl) (hnx _) ?_
          refine J_mrun (own := []) (m := 2000) (by simp (maxSteps := 2000000) (disch := omega) only [go_sem, ↓reduceIte, Int.reduceLT, Int.reduceLE, Int.reduceToNat, Int.reducePow, Int.reduceNeg, Nat.reduceBEq, Tryz.ntmps5, e1] <;> with_reducible rfl) ?_
          refine J_callr (by simp only [go_sem, ↓reduceIte, Int.reduceLT, Int.reduceLE, Int.reduceToNat, Int.reducePow, Int.reduceNeg, Nat.reduceBEq, Tryz.ntmps5] <;> with_reducible rfl) (hnx _) ?_
          refine J_mrun (own := []) (m := 2000) (by simp (maxSteps := 2000000) (disch := omega) only [go_sem, ↓reduceIte, Int.reduceLT, Int.reduceLE, Int.reduceToNat, Int.reducePow, Int.reduceNeg, Nat.reduceBEq, Tryz.ntmps5, e1, e2] <;> with_reducible rfl) ?_
          refine J_false (by simp only [go_sem, ↓reduceIte, Int.reduceLT, Int.reduceLE, Int.reduceToNat, Int.reducePow, Int.reduceNeg, Nat.reduceBEq] <;> with_reducible rfl) ?_
          refine J_mrun (own := []) (m := 2000) (by simp (maxSteps := 2000000) (disch := omega) only [go_sem, ↓reduceIte, Int.reduceLT, Int.reduceLE, Int.reduceToNat, Int.reducePow, Int.reduceNeg, Nat.reduceBEq, Tryz.ntmps5] <;> with_reducible rfl) ?_
          refine J_keep [16, 18, 19] (by simp only [go_sem, ↓reduceIte, Int.reduceLT, Int.reduceLE, Int.reduceToNat, Int.reducePow, Int.reduceNeg, Nat.reduceBEq] <;> with_reducible rfl) ?_
          refine ih _ _ _ ?_ ⟨i + 1, by omega, rfl, rfl, rfl⟩
          omega
        · have d5 := decide_eq_true (show (1 : Int) ≤ nx by omega)
          refine J_mrun (own := []) (m := 2000) (by simp (maxSteps := 2000000) (disch := omega) only [go_sem, ↓reduceIte, Int.reduceLT, Int.reduceLE, Int.reduceToNat, Int.reducePow, Int.reduceNeg, Nat.reduceBEq, Tryz.ntmps5] <;> with_reducible rfl) ?_
          refine J_callr (by simp only [go_sem, ↓reduceIte, Int.reduceLT, Int.reduceLE, Int.reduceToNat, Int.reducePow, Int.reduceNeg, Nat.reduceBEq, Tryz.ntmps5] <;> with_reducible rfl) (hnx _) ?_
          refine J_mrun (own := []) (m := 2000) (by simp (maxSteps := 2000000) (disch := omega) only [go_sem, ↓reduceIte, Int.reduceLT, Int.reduceLE, Int.reduceToNat, Int.reducePow, Int.reduceNeg, Nat.reduceBEq, Tryz.ntmps5, d5] <;> with_reducible rfl) ?_
          refine J_callg (by simp only [go_sem, ↓reduceIte, Int.reduceLT, Int.reduceLE, Int.reduceToNat, Int.reducePow, Int.reduceNeg, Nat.reduceBEq, Tryz.ntmps5] <;> with_reducible rfl) (by simp [GL]) (works_ok) ?_
          refine J_mrun (own := []) (m := 2000) (by simp (maxSteps := 2000000) (disch := omega) only [go_sem, ↓reduceIte, Int.reduceLT, Int.reduceLE, Int.reduceToNat, Int.reducePow, Int.reduceNeg, Nat.reduceBEq, Tryz.ntmps5] <;> with_reducible rfl) ?_
          refine J_forget ?_
          refine J_retX Tryz.func5 (by simp only [go_sem, ↓reduceIte, Int.reduceLT, Int.reduceLE, Int.reduceToNat, Int.reducePow, Int.reduceNeg, Nat.reduceBEq, Tryz.f5] <;> first | with_reducible rfl | rfl) ⟨rfl, rfl⟩
end Go.Proofs.YtgpmfdmiffbgpaaGreatDoor
end
