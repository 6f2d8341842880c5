/- A part of the proof: what the calls do, told by values. -/
import Derived.Test.YtlmahffjidgplaaGreatDoorD2
import Derived.Test.YtlmahffjidgplaaGreatDoorD1
section
namespace Go.Proofs.YtlmahffjidgplaaGreatDoor
open Go Go.Av
set_option linter.unusedVariables false
set_option linter.unusedSimpArgs false
set_option maxRecDepth 100000
set_option maxHeartbeats 4000000
attribute [local go_sem] packed List.set_cons_zero List.set_cons_succ List.cons_append List.nil_append bytesRows_length cellRows_len chRows_len rCells intRows_len
attribute [-go_sem] cellsOf AV.isCell
attribute [local go_sem] cellsOf_agg cellsOf_int cellsOf_bool cellsOf_str cellsOf_map cellsOf_ptr cellsOf_nilI cellsOf_slice cellsOf_sl cellsOf_ifc cellsOf_fp cellsOf_opt optAV_cell icell_int icell_bool icell_str icell_map icell_ptr icell_nilI icell_slice icell_sl icell_ifc icell_fp

/-! ### LedgerDoes -/
attribute [local go_sem] getBox_GL setBox_GL fresh_GL
theorem LS.step_x {a : LS} (h : a.x.l.length ≤ 12) (o : Op17) : (a.step o).x.l.length ≤ 12 := by
  unfold LS.step
  split
  · unfold LS.put
    split
    · exact h
    · rename_i hx
      simp only
      split
      · exact flC_len (rec_range (Classical.not_not.1 hx)).2
      · exact h
  · split
    · exact h
    · have hz : ∀ (s : Fl) (k : Nat), (lgN s 1 k).2.1.l.length ≤ 12 := fun s k => by
        induction k with
        | zero => exact Nat.zero_le _
        | succ k ih =>
          simp only [lgN]
          unfold lgStep
          split
          · exact ih
          · split
            · exact ih
            · exact getRec_len _
      exact hz _ 2
theorem LS.step_n {a : LS} (h : 1 ≤ a.n ∧ a.n ≤ 1099511627777) (o : Op17) : 1 ≤ (a.step o).n ∧ (a.step o).n ≤ 1099511627777 := by
  unfold LS.step
  split
  · unfold LS.put
    split
    · exact h
    · exact tputN_bd h
  · split
    · exact h
    · exact nextF_bd _
theorem tputS_pages (s : Fl) (n at_ kd : Int) (b : List UInt8) : (tputS s n at_ kd b).pages = s.pages := by
  unfold tputS; split; (· rfl); (· exact writeS_pages _ _ _)
theorem flushS_pages (s : Fl) : (flushS s).pages = s.pages := by
  unfold flushS
  split
  · rfl
  · split
    · exact burnS_pages s
    · exact burnS_pages s
theorem tfirmS_pages (s : Fl) (n at_ kd : Int) (b : List UInt8) : (tfirmS s n at_ kd b).pages = s.pages := by
  unfold tfirmS; split
  · exact tputS_pages _ _ _ _ _
  · rw [flushS_pages, tputS_pages]
theorem LS.step_p (a : LS) (o : Op17) : (a.step o).s.pages = a.s.pages := by
  unfold LS.step
  split
  · unfold LS.put
    split
    · rfl
    · exact tfirmS_pages _ _ _ _ _
  · split <;> rfl
attribute [local go_sem] lgAV tAV wAV lgCells
theorem ledgerDoes_ok (l : List Op17) (base : Int) (hl : l.length < 2 ^ 40) (hll : ∀ o ∈ l, ((o.keep.length < 2 ^ 37 ∧ o.x.l.length < 2 ^ 37) ∧ o.n < 9223372036854775808) ∧ ∀ p ∈ o.x.l, p.1 < 2 ^ 64) :
    ACalls Tryz.prog 5 [.sl 7 (ops17 l), .c (.int .i64 base)] [GL] (Ret (.c (.bool true))) := by
  refine calls_of_J cl_5 Tryz.func5 rfl (by simp [Tryz.ntmps5]) ?_
  refine jr (own := []) (h := ?_)
  refine jc (hs := light17_ok l hl (fun o ho => (hll o ho).1.1)) (hk := ?_)
  refine jr (own := []) (h := ?_)
  cases hlt : light17 l with
  | false =>
    simp only [Bool.not_false]
    refine jt (h := ?_)
    refine jr (own := []) (h := ?_)
    refine jcg (hin := by simp [GL]) (hs := works17_ok) (hk := ?_)
    refine jr (own := []) (h := ?_)
    refine J_forget ?_
    refine jret Tryz.func5 (h := ⟨rfl, rfl⟩)
  | true =>
    have hlen := light17_len hlt
    have hok := light17_each hlt
    simp only [Bool.not_true]
    refine jn (h := ?_)
    refine jr (own := []) (h := ?_)
    refine jcs (Δ1 := [GL]) (Fr := []) (hs := begin_ok) (hp := (List.Perm.refl _)) (hk := ?_) (hpan := (by rintro x Δ' ⟨f, t, l, D, e, _⟩; cases e))
    rintro x _ ⟨f, t, lg, D, e, hOw, rfl⟩
    cases e
    simp only [List.cons_append, List.append_nil]
    refine J_perm (Δ' := GL :: ldg lg t 1 (-1) zRec :: tbox t f 1 :: D) (List.perm_middle (l₁ := [_, _])) ?_
    refine jr (own := [5]) (h := ?_)
    refine jnv (hh := fun b5 hb5 => ?_)
    refine jr (own := []) (h := ?_)
    refine jk [0, 1, 5, 6, 7] (h := ?_)
    refine J_loopI (I := fun w e D => ∃ (i : Nat) (a : LS) (c : List (Int × List UInt8)) (t lg : Nat) (D1 : List HP), i ≤ l.length ∧ w = l.length - i ∧ Rel a.s c (2 * i) ∧ (1 ≤ a.n ∧ a.n ≤ 1099511627777) ∧ a.s.pages = 3 ∧ a.x.l.length ≤ 12 ∧ OwnF f a.s D1 ∧ D = .box b5 56 (ptr t :: ptr lg :: lgCells (wc a.s c) a.n 1 a.nw a.x) :: GL :: ldg lg t 1 a.nw a.x :: tbox t f a.n :: D1 ∧ e = [(0, .sl 7 (ops17 l)), (1, .c (.int .i64 base)), (5, .c (.pointer (some ⟨b5, 0, none⟩))), (6, .c (.bool true)), (7, .c (.int .i64 i))]) ?_ ?_
    · exact ⟨_, 0, ⟨newFl 3, 1, -1, zRec⟩, [], t, lg, D, Nat.zero_le _, rfl, rel_new (by decide) (by decide), by decide, rfl, by decide, hOw, rfl, rfl⟩
    · rintro w e D ⟨i, a, c, t, lg, D1, hi, rfl, hrel, hn, hp3, hx12, hO, rfl, rfl⟩ ih
      refine J_apart (b1 := lg) (b2 := t) (List.perm_append_comm_assoc [_, _] [_, _] _) (fun hne hne2 => ?_)
      refine J_mrun (own := []) (m := 2000) (by simp (maxSteps := 2000000) (disch := omega) only [go_sem, ↓reduceIte, Int.reduceLT, Int.reduceLE, Int.reduceToNat, Int.reducePow, Int.reduceNeg, Nat.reduceBEq, Tryz.ntmps5, ops17_len] <;> with_reducible rfl) ?_
      by_cases hc : i < l.length
      · have hdc : decide ((i : Int) < (l.length : Int)) = true := decide_eq_true (by omega)
        refine J_mrun (own := []) (m := 2000) (by simp (maxSteps := 2000000) (disch := omega) only [go_sem, ↓reduceIte, Int.reduceLT, Int.reduceLE, Int.reduceToNat, Int.reducePow, Int.reduceNeg, Nat.reduceBEq, Tryz.ntmps5, ops17_len, hdc] <;> with_reducible rfl) ?_
        refine jt (h := ?_)
        have g1 := ops17_get (List.getElem?_eq_getElem hc)
        have h0 : (0 : Int) ≤ (i : Int) := by omega
        obtain ⟨⟨⟨hk1, hk2⟩, hk3⟩, hk4⟩ := hll l[i] (List.getElem_mem _)
        generalize l[i] = o at *
        have hdo := do17_ok hO hrel (by omega) hn hp3 hne o hk1 hk4 hk3
        unfold Op17.cells at hdo
        have hn2 := LS.step_n hn o
        have hx2 := LS.step_x hx12 o
        have hp2 := (LS.step_p a o).trans hp3
        generalize a.step o = a2 at *
        refine jr (own := []) (h := ?_)
        refine jd [(0, .read), (1, .pure), (2, .pure), (3, .pure), (4, .pure), (5, .act), (6, .pure), (7, .pure), (8, .pure), (9, .act), (10, .pure)] mixed (by kernel_rfl) ?_
        refine Can_run (own := []) (by simp (maxSteps := 2000000) (disch := omega) only [go_sem, ↓reduceIte, Int.reduceLT, Int.reduceLE, Int.reduceToNat, Int.reducePow, Int.reduceNeg, Nat.reduceBEq, Tryz.ntmps5, g1, ops17_len] <;> with_reducible rfl) ?_
        refine ccs (Fr := []) (hs := (hdo.under1 _)) (hp := (by rw [List.append_nil])) (hk := ?_) (hn := (by rintro x Δ' ⟨_, ⟨_, _, _, _, h, _⟩, _⟩; cases h))
        rintro x _ ⟨_, ⟨t2, lg2, c2, D2, h, hrel2, hO2, rfl⟩, rfl⟩
        cases h
        rw [List.append_nil]
        refine cr (own := []) (hk := ?_)
        refine Can_nil ?_
        refine jr (own := []) (h := ?_)
        refine jn (h := ?_)
        refine jr (own := []) (h := ?_)
        refine jcs (Δ1 := [_]) (Fr := _ :: GL :: _ :: D2) (hs := (last_ok lg2 t2 1 a2.nw a2.x (by omega))) (hp := (List.perm_middle (l₁ := [_, _]))) (hk := ?_) (hpan := (by rintro x Δ' ⟨e, _⟩; cases e))
        rintro x _ ⟨e, rfl⟩
        cases e
        refine J_perm (List.perm_middle (l₁ := [_, _])).symm ?_
        simp only [List.cons_append, List.nil_append]
        have hsm := recsame17_ok a2.x a2.x (by omega)
        rw [decide_eq_true rfl] at hsm
        refine jr (own := [8]) (h := ?_)
        refine jnv (hh := fun b8 hb8 => ?_)
        refine J_mrun (own := []) (m := 1) (by simp (maxSteps := 2000000) (disch := omega) only [go_sem, ↓reduceIte, Int.reduceLT, Int.reduceLE, Int.reduceToNat, Int.reducePow, Int.reduceNeg, Nat.reduceBEq, Tryz.ntmps5] <;> with_reducible rfl) ?_
        refine J_freeze (s := 8) (o := 0) (by simp only [go_sem]) ?_
        simp only [List.drop_zero]
        cases hB : decide (0 ≤ a2.nw) with
        | false =>
          refine jf (own := []) hB (h := ?_)
          refine jn (h := ?_)
          refine jr (own := []) (h := ?_)
          refine jk [0, 1, 5, 6, 7] (h := ?_)
          refine ih _ _ _ ?_ ⟨i + 1, a2, c2, t2, lg2, D2, by omega, rfl, hrel2, hn2, hp2, hx2, hO2, rfl, rfl⟩
          omega
        | true =>
          refine jf (own := []) hB (h := ?_)
          refine jc (hs := hsm) (hk := ?_)
          refine jr (own := []) (h := ?_)
          refine jn (h := ?_)
          refine jr (own := []) (h := ?_)
          refine jk [0, 1, 5, 6, 7] (h := ?_)
          refine ih _ _ _ ?_ ⟨i + 1, a2, c2, t2, lg2, D2, by omega, rfl, hrel2, hn2, hp2, hx2, hO2, rfl, rfl⟩
          omega
      · have hdc : decide ((i : Int) < (l.length : Int)) = false := decide_eq_false (by omega)
        refine J_mrun (own := []) (m := 2000) (by simp (maxSteps := 2000000) (disch := omega) only [go_sem, ↓reduceIte, Int.reduceLT, Int.reduceLE, Int.reduceToNat, Int.reducePow, Int.reduceNeg, Nat.reduceBEq, Tryz.ntmps5, ops17_len, hdc] <;> with_reducible rfl) ?_
        refine jn (h := ?_)
        refine jr (own := []) (h := ?_)
        refine jn (h := ?_)
        refine jr (own := []) (h := ?_)
        have hwf := hrel.b.wf (by omega)
        have hlo := hrel.len
        by_cases hbs : base < 0 ∨ a.s.pages - 2 < base
        · refine jcs (Δ1 := tbox t f a.n :: D1) (Fr := [_, GL, _]) (hs := (lopen_err1 t f a.n a.s D1 hO base hbs (by omega))) (hp := (List.perm_append_comm (l₁ := [_, GL, _]))) (hk := ?_) (hpan := (by rintro x Δ' ⟨⟨e, h, _⟩, _⟩; cases h))
          rintro x _ ⟨⟨er, h, he⟩, rfl⟩
          cases h
          refine J_perm (List.perm_append_comm (l₂ := [_, GL, _])) ?_
          simp only [List.cons_append, List.nil_append]
          refine jr (own := []) (h := ?_)
          refine jc (hs := lopen17_err (wc a.s c) a.n base hbs (by show 0 ≤ a.s.pages ∧ a.s.pages ≤ 4096; omega)) (hk := ?_)
          refine jr (own := [12]) (h := ?_)
          refine jnv (hh := fun b12 hb12 => ?_)
          refine jr (own := []) (h := ?_)
          refine jcg (hin := by simp [GL]) (hs := of_ok he) (hk := ?_)
          have hz : decide (¬ (2 : Int) = 0) = true := rfl
          refine jq (own := []) hz (h := ?_)
          refine jcg (hin := by simp [GL]) (hs := works17_ok) (hk := ?_)
          refine jr (own := []) (h := ?_)
          refine J_forget ?_
          refine jret Tryz.func5 (h := ⟨rfl, rfl⟩)
        · have hbs2 : 0 ≤ base ∧ base ≤ a.s.pages - 2 := by omega
          rcases Bool.eq_false_or_eq_true a.s.down with hdn | hdn
          · refine jcs (Δ1 := tbox t f a.n :: D1) (Fr := [_, GL, _]) (hs := (lopen_down t f a.n a.s D1 hO hwf base hbs2 (by omega) hdn)) (hp := (List.perm_append_comm (l₁ := [_, GL, _]))) (hk := ?_) (hpan := (by rintro x Δ' ⟨⟨e, h, _⟩, _⟩; cases h))
            rintro x _ ⟨⟨er, h, he⟩, rfl⟩
            cases h
            refine J_perm (List.perm_append_comm (l₂ := [_, GL, _])) ?_
            simp only [List.cons_append, List.nil_append]
            refine jr (own := []) (h := ?_)
            refine jc (hs := lopen17_down (wc a.s c) a.n base (by show 0 ≤ base ∧ base ≤ a.s.pages - 2; omega) (by show 0 ≤ a.s.pages ∧ a.s.pages ≤ 4096; omega) hdn) (hk := ?_)
            refine jr (own := [12]) (h := ?_)
            refine jnv (hh := fun b12 hb12 => ?_)
            refine jr (own := []) (h := ?_)
            refine jcg (hin := by simp [GL]) (hs := of_ok he) (hk := ?_)
            have hz : decide (¬ (11 : Int) = 0) = true := rfl
            refine jq (own := []) hz (h := ?_)
            refine jcg (hin := by simp [GL]) (hs := works17_ok) (hk := ?_)
            refine jr (own := []) (h := ?_)
            refine J_forget ?_
            refine jret Tryz.func5 (h := ⟨rfl, rfl⟩)
          · have hl17 := lopen17_ok (wc a.s c) a.n base (by show 0 ≤ base ∧ base ≤ a.s.pages - 2; omega) (by show 0 ≤ a.s.pages ∧ a.s.pages ≤ 4096; omega) hdn hrel.rb.safe.page hrel.rb.lpage (by have := hrel.rb.len; omega) (by have := hrel.rb.len; omega)
            have hlo2 := lopen_ok t f a.n a.s D1 hO hwf base hbs2 (by omega) hdn
            rw [lgN_wc hrel] at hl17
            generalize (lgN a.s base 2).1 = w2 at *
            generalize (lgN a.s base 2).2.1 = x2 at *
            refine jcs (Δ1 := tbox t f a.n :: GL :: D1) (Fr := [_, _]) (hs := hlo2) (hp := ((List.perm_middle (l₁ := [_, _, _])).trans (.cons _ ((List.Perm.swap _ _ _).trans (.cons _ (List.perm_append_comm (l₁ := [_, _]))))))) (hk := ?_) (hpan := (by rintro x Δ' ⟨l, e, _⟩; cases e))
            rintro x _ ⟨l2, h, rfl⟩
            cases h
            refine J_perm (List.perm_append_comm (l₂ := [_, _])) ?_
            simp only [List.cons_append, List.nil_append]
            refine jr (own := []) (h := ?_)
            refine jc (hs := hl17) (hk := ?_)
            refine jr (own := [12]) (h := ?_)
            refine jnv (hh := fun b12 hb12 => ?_)
            refine jr (own := []) (h := ?_)
            refine jcg (hin := by simp [GL]) (hs := of_ok .none) (hk := ?_)
            have hz : decide (¬ (0 : Int) = 0) = false := rfl
            refine jq (own := []) hz (h := ?_)
            refine jcg (hin := by simp [GL]) (hs := works17_ok) (hk := ?_)
            refine jr (own := []) (h := ?_)
            refine J_forget ?_
            refine jret Tryz.func5 (h := ⟨rfl, rfl⟩)
end Go.Proofs.YtlmahffjidgplaaGreatDoor
end

section
namespace Go.Proofs.YtlmahffjidgplaaGreatDoor
open Go Go.Av
set_option linter.unusedVariables false
set_option linter.unusedSimpArgs false
set_option maxRecDepth 100000
set_option maxHeartbeats 4000000
attribute [local go_sem] packed List.set_cons_zero List.set_cons_succ List.cons_append List.nil_append bytesRows_length cellRows_len chRows_len rCells intRows_len
attribute [-go_sem] cellsOf AV.isCell
attribute [local go_sem] cellsOf_agg cellsOf_int cellsOf_bool cellsOf_str cellsOf_map cellsOf_ptr cellsOf_nilI cellsOf_slice cellsOf_sl cellsOf_ifc cellsOf_fp cellsOf_opt optAV_cell icell_int icell_bool icell_str icell_map icell_ptr icell_nilI icell_slice icell_sl icell_ifc icell_fp

/-! ### LedgerKeeps -/
attribute [local go_sem] getBox_GL setBox_GL fresh_GL
theorem KL.p3 {a : LS} {i : Nat} (h : KL a i) : a.s.pages = 3 := by
  obtain ⟨p, q, h, -, -⟩ := h
  exact h.hp
theorem KL.x12 {a : LS} {i : Nat} (h : KL a i) : a.x.l.length ≤ 12 := by
  obtain ⟨p, q, h, -, e⟩ := h
  rw [e]
  have hz : ∀ {p : PV} {n : Int} (h : PgOK p n) (i : Int) (st : Int × Rec × Nat), st.2.1.l.length ≤ 12 → (lgP p i st).2.1.l.length ≤ 12 := fun {p n} h i st hs => by
    rcases p with _ | ⟨k, r⟩
    · exact hs
    · unfold lgP
      simp only
      split
      · exact hs
      · exact flC_len (rec_range (h.ok k r rfl).2.1).2
  exact hz h.o2 _ _ (hz h.o1 _ _ (Nat.zero_le _))
theorem KL.same {a : LS} {i m : Nat} (h : KL a i) (hi : i ≤ 200) (hB : a.s.B m) (keep : List Int) : (lgN (crashS a.s keep) 1 2).1 = a.nw ∧ (lgN (crashS a.s keep) 1 2).2.1 = a.x := by
  obtain ⟨p, q, h, h1, h2⟩ := h
  have hk := h.crash hi hB keep
  rw [hk.lg hi]
  exact ⟨h1.symm, h2.symm⟩
/-- A save with a fuse, and what a crash leaves of it. -/
theorem lsaveT {a : LS} {i m : Nat} (hK : KL a i) (hi : i ≤ 200) (hB : a.s.B m) (hm : m < 536870000) {l t f : Nat} {D : List HP} (fu : Int) (hfu : fu = 0 ∨ fu = 1 ∨ fu = 2) (keep : List Int) (hO : OwnF f (fuseS a.s fu) D) (hlt : l ≠ t) {y : Rec} (h64 : ∀ o ∈ y.l, o.1 < 2 ^ 64) :
    ACalls Tryz.prog 22 [ptr l, recAV y] (ldg l t 1 a.nw a.x :: tbox t f a.n :: D)
      (fun r D' => ∃ e D1 w2 x2 n2 S C, r = .ret e ∧ IsErr e C ∧ OwnF f S D1 ∧ D' = ldg l t 1 w2 x2 :: tbox t f n2 :: D1 ∧ S.B (m + 2) ∧ S.pages = 3 ∧
        ((C = 0 ∧ 0 ≤ (lgN (crashS S keep) 1 2).1 ∧ (lgN (crashS S keep) 1 2).2.1 = y) ∨ (C ≠ 0 ∧ (lgN (crashS S keep) 1 2).1 = a.nw ∧ (lgN (crashS S keep) 1 2).2.1 = a.x) ∨ (C = 11 ∧ 0 ≤ (lgN (crashS S keep) 1 2).1 ∧ (lgN (crashS S keep) 1 2).2.1 = y))) := by
  have hB1 : (fuseS a.s fu).B m := fuseS_B hB (by omega)
  have hp3 : (fuseS a.s fu).pages = 3 := hK.p3
  by_cases hy : recC y = 0
  rotate_left
  · have hs := hK.same hi hB keep
    have e : crashS (fuseS a.s fu) keep = crashS a.s keep := rfl
    rw [← e] at hs
    refine (lsave_err l t f a.n 1 a.nw a.x y D h64 hy).mono fun r D' h => ?_
    obtain ⟨⟨er, hr, he⟩, hD⟩ := h
    exact ⟨er, D, _, _, _, _, _, hr, he, hO, hD, hB1.mono (by omega), hp3, .inr (.inl ⟨hy, hs.1, hs.2⟩)⟩
  · obtain ⟨p, q, hk, h1, h2⟩ := hK
    have hn1 := hk.n1
    have hn2 := hk.n2
    have hbl := rec_len y h64 hy
    have hfl : y.l.length ≤ 12 := flC_len (rec_range hy).2
    have h := lsave_ok l t f a.n 1 a.nw a.x y (fuseS a.s fu) D hO (hB1.wf (by omega)) ((tputS_B hB1 _ _ _ _).wf (by omega)) (by omega) (by omega) (by omega) h64 hy (by omega) hlt
    have hpS := tfirmS_pages (fuseS a.s fu) a.n (1 + lgTo a.nw) 4 (recB y)
    have hBS := tfirmS_B hB1 a.n (1 + lgTo a.nw) 4 (recB y)
    have ht := hk.torn hi hB hy h64 fu hfu keep _ rfl (by rw [← h1]; exact hpS.trans hp3)
    rw [← h1, ← h2] at ht
    refine h.mono fun r D' h => ?_
    obtain ⟨er, D1, hr, he, hO1, hD⟩ := h
    refine ⟨er, D1, if tfirmC (fuseS a.s fu) a.n (1 + lgTo a.nw) 4 (recB y) = 0 then lgTo a.nw else a.nw, if tfirmC (fuseS a.s fu) a.n (1 + lgTo a.nw) 4 (recB y) = 0 then y else a.x, tputN (fuseS a.s fu) a.n (1 + lgTo a.nw) 4 (recB y), _, _, hr, he, hO1, ?_, hBS, hpS.trans hp3, ?_⟩
    · rw [hD]; split <;> rfl
    · rcases ht with ⟨c1, c2, c3⟩ | ⟨c1, ⟨c2, c3⟩ | ⟨c2, c3⟩⟩
      · exact .inl ⟨c1, c2, c3⟩
      · exact .inr (.inl ⟨by rw [c1]; decide, c2, c3⟩)
      · exact .inr (.inr ⟨c1, c2, c3⟩)
theorem rem3 (n : Int) : aint .rem .i64 n 3 = some (.c (.int .i64 (n.tmod 3))) := by unfold aint; simp only []; rw [if_neg (by omega)]
attribute [local go_sem] lgAV tAV wAV lgCells
theorem ledgerKeeps_ok (l : List Op17) (y : Rec) (at_ : UInt8) (keep : List Int) (hl : l.length < 2 ^ 40) (hll : ∀ o ∈ l, ((o.keep.length < 2 ^ 37 ∧ o.x.l.length < 2 ^ 37) ∧ o.n < 9223372036854775808) ∧ ∀ p ∈ o.x.l, p.1 < 2 ^ 64) (hyl : y.l.length < 2 ^ 37) (h64 : ∀ p ∈ y.l, p.1 < 2 ^ 64) (hk : keep.length < 2 ^ 37) :
    ACalls Tryz.prog 6 [.sl 7 (ops17 l), recAV y, .c (.int .u8 at_.toNat), .sl 1 (intRows keep)] [GL] (Ret (.c (.bool true))) := by
  have hfl := flRows_len y.l
  refine calls_of_J cl_6 Tryz.func6 rfl (by simp [Tryz.ntmps6]) ?_
  refine jr (own := []) (h := ?_)
  refine jc (hs := light17_ok l hl (fun o ho => (hll o ho).1.1)) (hk := ?_)
  cases hlt : light17 l with
  | false =>
    refine J_mrun (own := []) (m := 2000) (by simp (maxSteps := 2000000) (disch := omega) only [go_sem, ↓reduceIte, Int.reduceLT, Int.reduceLE, Int.reduceToNat, Int.reducePow, Int.reduceNeg, Nat.reduceBEq, Tryz.ntmps6, Bool.not_false] <;> with_reducible rfl) ?_
    refine jt (h := ?_)
    refine jr (own := []) (h := ?_)
    refine jcg (hin := by simp [GL]) (hs := works17_ok) (hk := ?_)
    refine jr (own := []) (h := ?_)
    refine J_forget ?_
    refine jret Tryz.func6 (h := ⟨rfl, rfl⟩)
  | true =>
  by_cases h1 : keep.length > 60
  · have hd1 : decide ((60 : Int) < (keep.length : Int)) = true := decide_eq_true (by omega)
    refine J_mrun (own := []) (m := 2000) (by simp (maxSteps := 2000000) (disch := omega) only [go_sem, ↓reduceIte, Int.reduceLT, Int.reduceLE, Int.reduceToNat, Int.reducePow, Int.reduceNeg, Nat.reduceBEq, Tryz.ntmps6, Bool.not_true, hd1] <;> with_reducible rfl) ?_
    refine jt (h := ?_)
    refine jr (own := []) (h := ?_)
    refine jcg (hin := by simp [GL]) (hs := works17_ok) (hk := ?_)
    refine jr (own := []) (h := ?_)
    refine J_forget ?_
    refine jret Tryz.func6 (h := ⟨rfl, rfl⟩)
  have hd1 : decide ((60 : Int) < (keep.length : Int)) = false := decide_eq_false (by omega)
  by_cases h2 : y.l.length > 100
  · have hd2 : decide ((100 : Int) < (y.l.length : Int)) = true := decide_eq_true (by omega)
    refine J_mrun (own := []) (m := 2000) (by simp (maxSteps := 2000000) (disch := omega) only [go_sem, ↓reduceIte, Int.reduceLT, Int.reduceLE, Int.reduceToNat, Int.reducePow, Int.reduceNeg, Nat.reduceBEq, Tryz.ntmps6, Bool.not_true, hd1, hfl, hd2] <;> with_reducible rfl) ?_
    refine jt (h := ?_)
    refine jr (own := []) (h := ?_)
    refine jcg (hin := by simp [GL]) (hs := works17_ok) (hk := ?_)
    refine jr (own := []) (h := ?_)
    refine J_forget ?_
    refine jret Tryz.func6 (h := ⟨rfl, rfl⟩)
  have hd2 : decide ((100 : Int) < (y.l.length : Int)) = false := decide_eq_false (by omega)
  have hlen := light17_len hlt
  refine J_mrun (own := []) (m := 2000) (by simp (maxSteps := 2000000) (disch := omega) only [go_sem, ↓reduceIte, Int.reduceLT, Int.reduceLE, Int.reduceToNat, Int.reducePow, Int.reduceNeg, Nat.reduceBEq, Tryz.ntmps6, Bool.not_true, hd1, hfl, hd2] <;> with_reducible rfl) ?_
  refine jn (h := ?_)
  refine jr (own := []) (h := ?_)
  refine jcs (Δ1 := [GL]) (Fr := []) (hs := begin_ok) (hp := (List.Perm.refl _)) (hk := ?_) (hpan := (by rintro x Δ' ⟨f, t, l, D, e, _⟩; cases e))
  rintro x _ ⟨f, t, lg, D, e, hOw, rfl⟩
  cases e
  simp only [List.cons_append, List.append_nil]
  refine J_perm (Δ' := GL :: ldg lg t 1 (-1) zRec :: tbox t f 1 :: D) (List.perm_middle (l₁ := [_, _])) ?_
  refine jr (own := [9]) (h := ?_)
  refine jnv (hh := fun b9 hb9 => ?_)
  refine jr (own := []) (h := ?_)
  refine jk [0, 2, 3, 5, 9, 10, 11] (h := ?_)
  refine J_loopI (I := fun w e D => ∃ (i : Nat) (a : LS) (c : List (Int × List UInt8)) (t lg : Nat) (D1 : List HP), i ≤ l.length ∧ w = l.length - i ∧ Rel a.s c (2 * i) ∧ KL a i ∧ OwnF f a.s D1 ∧ D = .box b9 56 (ptr t :: ptr lg :: lgCells (wc a.s c) a.n 1 a.nw a.x) :: GL :: ldg lg t 1 a.nw a.x :: tbox t f a.n :: D1 ∧ e = [(0, .sl 7 (ops17 l)), (2, .c (.int .u8 at_.toNat)), (3, .sl 1 (intRows keep)), (5, .fp [.c (.int .i64 y.e), .c (.bool y.cl), .c (.int .i64 y.low), .sl 2 (flRows y.l)]), (9, .c (.pointer (some ⟨b9, 0, none⟩))), (10, .c (.bool true)), (11, .c (.int .i64 i))]) ?_ ?_
  · exact ⟨_, 0, ⟨newFl 3, 1, -1, zRec⟩, [], t, lg, D, Nat.zero_le _, rfl, rel_new (by decide) (by decide), KL.new, hOw, rfl, rfl⟩
  · rintro w e D ⟨i, a, c, t, lg, D1, hi, rfl, hrel, hK, hO, rfl, rfl⟩ ih
    refine J_apart (b1 := lg) (b2 := t) (List.perm_append_comm_assoc [_, _] [_, _] _) (fun hne hne2 => ?_)
    by_cases hc : i < l.length
    · have hdc : decide ((i : Int) < (l.length : Int)) = true := decide_eq_true (by omega)
      refine J_mrun (own := []) (m := 2000) (by simp (maxSteps := 2000000) (disch := omega) only [go_sem, ↓reduceIte, Int.reduceLT, Int.reduceLE, Int.reduceToNat, Int.reducePow, Int.reduceNeg, Nat.reduceBEq, Tryz.ntmps6, ops17_len, hdc] <;> with_reducible rfl) ?_
      refine jt (h := ?_)
      have g1 := ops17_get (List.getElem?_eq_getElem hc)
      have h0 : (0 : Int) ≤ (i : Int) := by omega
      obtain ⟨⟨⟨hk1, hk2⟩, hk3⟩, hk4⟩ := hll l[i] (List.getElem_mem _)
      generalize l[i] = o at *
      refine J_mrun (own := []) (m := 2000) (by simp (maxSteps := 2000000) (disch := omega) only [go_sem, ↓reduceIte, Int.reduceLT, Int.reduceLE, Int.reduceToNat, Int.reducePow, Int.reduceNeg, Nat.reduceBEq, Tryz.ntmps6, g1, ops17_len] <;> with_reducible rfl) ?_
      refine jif (h1 := fun hkd => ?_) (h2 := fun hkd => ?_)
      · have hn := hK.n
        have hdo := do17_ok hO hrel (by omega) (by omega) hK.p3 hne o hk1 hk4 hk3
        have hK2 := hK.step (by omega) hrel.b o hkd hk4
        unfold Op17.cells at hdo
        generalize a.step o = a2 at *
        refine jr (own := []) (h := ?_)
        refine jd [(0, .read), (1, .pure), (2, .pure), (3, .pure), (4, .pure), (5, .act), (6, .pure), (7, .pure), (8, .pure), (9, .act), (10, .pure)] mixed (by kernel_rfl) ?_
        refine Can_run (own := []) (by simp (maxSteps := 2000000) (disch := omega) only [go_sem, ↓reduceIte, Int.reduceLT, Int.reduceLE, Int.reduceToNat, Int.reducePow, Int.reduceNeg, Nat.reduceBEq, Tryz.ntmps6, g1, ops17_len] <;> with_reducible rfl) ?_
        refine ccs (Fr := []) (hs := (hdo.under1 _)) (hp := (by rw [List.append_nil])) (hk := ?_) (hn := (by rintro x Δ' ⟨_, ⟨_, _, _, _, h, _⟩, _⟩; cases h))
        rintro x _ ⟨_, ⟨t2, lg2, c2, D2, h, hrel2, hO2, rfl⟩, rfl⟩
        cases h
        rw [List.append_nil]
        refine cr (own := []) (hk := ?_)
        refine Can_nil ?_
        refine jr (own := []) (h := ?_)
        refine jk [0, 2, 3, 5, 9, 10, 11] (h := ?_)
        refine ih _ _ _ ?_ ⟨i + 1, a2, c2, t2, lg2, D2, by omega, rfl, hrel2, hK2, hO2, rfl, rfl⟩
        omega
      · refine jr (own := []) (h := ?_)
        refine jk [0, 2, 3, 5, 9, 10, 11] (h := ?_)
        refine ih _ _ _ ?_ ⟨i + 1, a, c, t, lg, D1, by omega, rfl, hrel.mono (by omega), hK.mono (by omega), hO, rfl, rfl⟩
        omega
    · have hdc : decide ((i : Int) < (l.length : Int)) = false := decide_eq_false (by omega)
      refine J_mrun (own := []) (m := 2000) (by simp (maxSteps := 2000000) (disch := omega) only [go_sem, ↓reduceIte, Int.reduceLT, Int.reduceLE, Int.reduceToNat, Int.reducePow, Int.reduceNeg, Nat.reduceBEq, Tryz.ntmps6, ops17_len, hdc] <;> with_reducible rfl) ?_
      refine jn (h := ?_)
      refine jr (own := []) (h := ?_)
      refine jn (h := ?_)
      refine jr (own := []) (h := ?_)
      have hx12 := hK.x12
      refine jcs (Δ1 := [_]) (Fr := _ :: GL :: _ :: D1) (hs := (last_ok lg t 1 a.nw a.x (by omega))) (hp := (List.perm_middle (l₁ := [_, _]))) (hk := ?_) (hpan := (by rintro x Δ' ⟨e, _⟩; cases e))
      rintro x _ ⟨e, rfl⟩
      cases e
      refine J_perm (List.perm_middle (l₁ := [_, _])).symm ?_
      simp only [List.cons_append, List.nil_append]
      refine jr (own := [12]) (h := ?_)
      refine jnv (hh := fun b12 hb12 => ?_)
      refine J_mrun (own := []) (m := 1) (by simp (maxSteps := 2000000) (disch := omega) only [go_sem, ↓reduceIte, Int.reduceLT, Int.reduceLE, Int.reduceToNat, Int.reducePow, Int.reduceNeg, Nat.reduceBEq, Tryz.ntmps6] <;> with_reducible rfl) ?_
      refine J_freeze (s := 12) (o := 0) (by simp only [go_sem]) ?_
      simp only [List.drop_zero]
      have hr3 := rem3 (at_.toNat : Int)
      have hfu : (at_.toNat : Int).tmod 3 = 0 ∨ (at_.toNat : Int).tmod 3 = 1 ∨ (at_.toNat : Int).tmod 3 = 2 := by
        have e : (at_.toNat : Int).tmod 3 = ((at_.toNat % 3 : Nat) : Int) := rfl
        rw [e]; omega
      generalize (at_.toNat : Int).tmod 3 = fu at *
      refine J_apart (b1 := b9) (b2 := t) (.cons _ (List.perm_middle (l₁ := [_, _]))) (fun hbt hbt2 => ?_)
      refine jf (own := []) (a5 hr3 hne hne2 hbt hbt2) (h := ?_)
      refine jcs (Δ1 := D1) (Fr := [_, GL, _, _]) (hs := (fuse_ok hO fu)) (hp := (List.perm_append_comm (l₁ := [_, GL, _, _]))) (hk := ?_) (hpan := (by rintro x Δ' ⟨h, _⟩; cases h))
      rintro x D2 ⟨h, hO2⟩
      cases h
      refine J_perm (List.perm_append_comm (l₂ := [_, GL, _, _])) ?_
      simp only [List.cons_append, List.nil_append]
      refine jr (own := []) (h := ?_)
      refine jcs (Δ1 := ldg lg t 1 a.nw a.x :: tbox t f a.n :: D2) (Fr := [_, GL]) (hs := (lsaveT hK (by omega) hrel.b (by omega) fu hfu keep hO2 hne h64)) (hp := (List.perm_append_comm (l₁ := [_, GL]))) (hk := ?_) (hpan := (by rintro x Δ' ⟨e, _, _, _, _, _, _, h, _⟩; cases h))
      rintro x _ ⟨er, D3, w2, x2, n2, S, C, h, he, hO3, rfl, hBS, hpS, hout⟩
      cases h
      refine J_perm (List.perm_append_comm (l₂ := [_, GL])) ?_
      simp only [List.cons_append, List.nil_append]
      have hcr := crash_ok hO3 (hBS.wf (by omega)) keep hk
      have hB2 := crashS_B hBS keep
      have hp2 : (crashS S keep).pages = 3 := hpS
      have hdn : (crashS S keep).down = false := rfl
      generalize crashS S keep = s2 at *
      refine jf (own := []) (a4 hne hne2 hbt hbt2) (h := ?_)
      refine jcs (Δ1 := D3) (Fr := [_, GL, _, _]) (hs := hcr) (hp := (List.perm_append_comm (l₁ := [_, GL, _, _]))) (hk := ?_) (hpan := (by rintro x Δ' ⟨h, _⟩; cases h))
      rintro x D4 ⟨h, hO4⟩
      cases h
      refine J_perm (List.perm_append_comm (l₂ := [_, GL, _, _])) ?_
      simp only [List.cons_append, List.nil_append]
      have hto := topen_ok hO4 (hB2.wf (by omega)) (hB2.small (by omega)) hdn (by have := cellsF_len hB2; omega)
      have hlo := fun t => lopen_ok t f (nextF s2) s2 D4 hO4 (hB2.wf (by omega)) 1 (by omega) (by omega) hdn
      generalize nextF s2 = n3 at *
      refine jf (own := []) (a4 hne hne2 hbt hbt2) (h := ?_)
      refine jcs (Δ1 := D4) (Fr := [_, GL, _, _]) (hs := hto) (hp := (List.perm_append_comm (l₁ := [_, GL, _, _]))) (hk := ?_) (hpan := (by rintro x Δ' ⟨t, e, _⟩; cases e))
      rintro x _ ⟨t2, e, rfl⟩
      cases e
      refine J_perm (List.perm_append_comm (l₂ := [_, GL, _, _])) ?_
      simp only [List.cons_append, List.nil_append]
      refine jr (own := []) (h := ?_)
      refine jn (h := ?_)
      refine jr (own := []) (h := ?_)
      have hx2 : (lgN s2 1 2).2.1.l.length < 2 ^ 20 := by
        by_cases hy : recC y = 0
        · have := flC_len (rec_range hy).2
          rcases hout with ⟨-, -, e⟩ | ⟨-, -, e⟩ | ⟨-, -, e⟩ <;> rw [e] <;> omega
        · rcases hout with ⟨-, -, e⟩ | ⟨-, -, e⟩ | ⟨-, -, e⟩ <;> rw [e] <;> omega
      generalize (lgN s2 1 2).1 = w3 at *
      generalize (lgN s2 1 2).2.1 = x3 at *
      refine jcs (Δ1 := tbox t2 f n3 :: GL :: D4) (Fr := [_, _, _]) (hs := (hlo t2)) (hp := ((List.perm_middle (l₁ := [_, _, _, _])).trans (.cons _ ((List.Perm.swap _ _ _).trans (.cons _ (List.perm_append_comm (l₁ := [_, _, _]))))))) (hk := ?_) (hpan := (by rintro x Δ' ⟨l, e, _⟩; cases e))
      rintro x _ ⟨l2, h, rfl⟩
      cases h
      simp only [List.cons_append, List.nil_append]
      refine jr (own := []) (h := ?_)
      refine jn (h := ?_)
      refine jr (own := []) (h := ?_)
      refine jcs (Δ1 := [_]) (Fr := _ :: GL :: _) (hs := (last_ok l2 t2 1 w3 x3 hx2)) (hp := (List.Perm.refl _)) (hk := ?_) (hpan := (by rintro x Δ' ⟨e, _⟩; cases e))
      rintro x _ ⟨e, rfl⟩
      cases e
      simp only [List.cons_append, List.nil_append]
      refine jr (own := [19]) (h := ?_)
      refine jnv (hh := fun b19 hb19 => ?_)
      refine J_mrun (own := []) (m := 1) (by simp (maxSteps := 2000000) (disch := omega) only [go_sem, ↓reduceIte, Int.reduceLT, Int.reduceLE, Int.reduceToNat, Int.reducePow, Int.reduceNeg, Nat.reduceBEq, Tryz.ntmps6] <;> with_reducible rfl) ?_
      refine J_freeze (s := 19) (o := 0) (by simp only [go_sem]) ?_
      simp only [List.drop_zero]
      have hsm1 := recsame17_ok x3 y (by omega)
      have hsm2 := recsame17_ok x3 a.x (by omega)
      rcases hout with ⟨hC, hw, e⟩ | ⟨hC, hw, e⟩ | ⟨hC, hw, e⟩
      · subst hC e
        obtain rfl := iserr_zero he
        have hd : decide (0 ≤ w3) = true := decide_eq_true hw
        rw [decide_eq_true rfl] at hsm1
        refine jr (own := []) (h := ?_)
        refine jt (h := ?_)
        refine jf (own := []) hd (h := ?_)
        refine jc (hs := hsm1) (hk := ?_)
        refine jr (own := []) (h := ?_)
        refine jcg (hin := by simp [GL]) (hs := works17_ok) (hk := ?_)
        refine jr (own := []) (h := ?_)
        refine J_forget ?_
        refine jret Tryz.func6 (h := ⟨rfl, rfl⟩)
      · subst hw e
        obtain ⟨te, ve, rfl⟩ := iserr_ne he hC
        rw [decide_eq_true rfl] at hsm2
        refine jr (own := []) (h := ?_)
        refine jn (h := ?_)
        refine jq (own := []) True.intro (h := ?_)
        refine jc (hs := hsm2) (hk := ?_)
        refine jr (own := []) (h := ?_)
        refine jt (h := ?_)
        refine jr (own := []) (h := ?_)
        refine jcg (hin := by simp [GL]) (hs := works17_ok) (hk := ?_)
        refine jr (own := []) (h := ?_)
        refine J_forget ?_
        refine jret Tryz.func6 (h := ⟨rfl, rfl⟩)
      · subst hC e
        have hd : decide (0 ≤ w3) = true := decide_eq_true hw
        rw [decide_eq_true rfl] at hsm1
        obtain ⟨te, ve, rfl⟩ := iserr_ne he (by decide)
        refine jr (own := []) (h := ?_)
        refine jn (h := ?_)
        cases hB : decide (0 ≤ a.nw) with
        | false =>
          refine jf (own := []) hd (h := ?_)
          refine jn (h := ?_)
          refine jr (own := []) (h := ?_)
          refine jcg (hin := by simp [GL]) (hs := of_ok he) (hk := ?_)
          refine jq (own := []) hd (h := ?_)
          refine jc (hs := hsm1) (hk := ?_)
          refine jr (own := []) (h := ?_)
          refine jcg (hin := by simp [GL]) (hs := works17_ok) (hk := ?_)
          refine jr (own := []) (h := ?_)
          refine J_forget ?_
          refine jret Tryz.func6 (h := ⟨rfl, rfl⟩)
        | true =>
          refine jq (own := []) hd (h := ?_)
          refine jc (hs := hsm2) (hk := ?_)
          cases hB2 : decide (x3 = a.x) with
          | true =>
            refine jr (own := []) (h := ?_)
            refine jt (h := ?_)
            refine jr (own := []) (h := ?_)
            refine jcg (hin := by simp [GL]) (hs := works17_ok) (hk := ?_)
            refine jr (own := []) (h := ?_)
            refine J_forget ?_
            refine jret Tryz.func6 (h := ⟨rfl, rfl⟩)
          | false =>
            refine jr (own := []) (h := ?_)
            refine jn (h := ?_)
            refine jr (own := []) (h := ?_)
            refine jcg (hin := by simp [GL]) (hs := of_ok he) (hk := ?_)
            refine jq (own := []) hd (h := ?_)
            refine jc (hs := hsm1) (hk := ?_)
            refine jr (own := []) (h := ?_)
            refine jcg (hin := by simp [GL]) (hs := works17_ok) (hk := ?_)
            refine jr (own := []) (h := ?_)
            refine J_forget ?_
            refine jret Tryz.func6 (h := ⟨rfl, rfl⟩)
end Go.Proofs.YtlmahffjidgplaaGreatDoor
end
