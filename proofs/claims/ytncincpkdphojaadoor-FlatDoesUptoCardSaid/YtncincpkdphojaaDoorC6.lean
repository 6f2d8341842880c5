/- A part of the proof: what the calls do, told by values. -/
import Derived.Test.YtncincpkdphojaaDoorC5
section
namespace Go.Proofs.YtncincpkdphojaaDoor
open Go Go.Av
set_option linter.unusedVariables false
set_option linter.unusedSimpArgs false
set_option maxRecDepth 100000
set_option maxHeartbeats 8000000
attribute [local go_sem] Entry.av Entry.cells packed List.set_cons_zero List.set_cons_succ List.cons_append List.nil_append RM.av

def mcells (r : RM) : List AV := [.sl 5 (ents r.L), .sl 2 (flos r.F), .c (.int .i64 r.n)]

theorem flatDoes_ok (l : List OpD) (hl : l.length < 2 ^ 40) (hll : ∀ o ∈ l, o.l.length < 2 ^ 37) : ACalls Tryd.prog 3 [.sl 9 (opsD l)] [GL] (Ret (.c (.bool true))) := by
  refine calls_of_J cl_3 Tryd.func3 rfl (by simp [Tryd.ntmps3]) ?_
  refine J_mrun (own := []) (m := 2000) (by simp (maxSteps := 2000000) (disch := omega) only [go_sem, ↓reduceIte, Int.reduceLT, Int.reduceLE, Int.reduceToNat, Int.reducePow, Int.reduceNeg, Nat.reduceBEq, Tryd.ntmps3] <;> with_reducible rfl) ?_
  refine J_callp (by simp only [go_sem, ↓reduceIte, Int.reduceLT, Int.reduceLE, Int.reduceToNat, Int.reducePow, Int.reduceNeg, Nat.reduceBEq, Tryd.ntmps3] <;> with_reducible rfl) (light_ok l hl hll) ?_
  refine J_mrun (own := []) (m := 2000) (by simp (maxSteps := 2000000) (disch := omega) only [go_sem, ↓reduceIte, Int.reduceLT, Int.reduceLE, Int.reduceToNat, Int.reducePow, Int.reduceNeg, Nat.reduceBEq, Tryd.ntmps3] <;> with_reducible rfl) ?_
  cases hlt : lightD l with
  | false =>
    simp only [Bool.not_false]
    refine J_true (by simp only [go_sem, ↓reduceIte, Int.reduceLT, Int.reduceLE, Int.reduceToNat, Int.reducePow, Int.reduceNeg, Nat.reduceBEq] <;> with_reducible rfl) ?_
    refine J_mrun (own := []) (m := 2000) (by simp (maxSteps := 2000000) (disch := omega) only [go_sem, ↓reduceIte, Int.reduceLT, Int.reduceLE, Int.reduceToNat, Int.reducePow, Int.reduceNeg, Nat.reduceBEq, Tryd.ntmps3] <;> with_reducible rfl) ?_
    refine J_callg (by simp only [go_sem, ↓reduceIte, Int.reduceLT, Int.reduceLE, Int.reduceToNat, Int.reducePow, Int.reduceNeg, Nat.reduceBEq, Tryd.ntmps3] <;> with_reducible rfl) (by simp [GL]) (works_ok) ?_
    refine J_mrun (own := []) (m := 2000) (by simp (maxSteps := 2000000) (disch := omega) only [go_sem, ↓reduceIte, Int.reduceLT, Int.reduceLE, Int.reduceToNat, Int.reducePow, Int.reduceNeg, Nat.reduceBEq, Tryd.ntmps3] <;> with_reducible rfl) ?_
    refine J_forget ?_
    refine J_retX Tryd.func3 (by simp only [go_sem, ↓reduceIte, Int.reduceLT, Int.reduceLE, Int.reduceToNat, Int.reducePow, Int.reduceNeg, Nat.reduceBEq, Tryd.f3] <;> first | with_reducible rfl | rfl) ⟨rfl, rfl⟩
  | true =>
    have hlen := lightD_len hlt
    have hok := lightD_ok hlt
    simp only [Bool.not_true]
    refine J_false (by simp only [go_sem, ↓reduceIte, Int.reduceLT, Int.reduceLE, Int.reduceToNat, Int.reducePow, Int.reduceNeg, Nat.reduceBEq] <;> with_reducible rfl) ?_
    refine J_mrun (own := []) (m := 2000) (by simp (maxSteps := 2000000) (disch := omega) only [go_sem, ↓reduceIte, Int.reduceLT, Int.reduceLE, Int.reduceToNat, Int.reducePow, Int.reduceNeg, Nat.reduceBEq, Tryd.ntmps3] <;> with_reducible rfl) ?_
    refine J_calls (by simp only [go_sem, ↓reduceIte, Int.reduceLT, Int.reduceLE, Int.reduceToNat, Int.reducePow, Int.reduceNeg, Nat.reduceBEq, Tryd.ntmps3] <;> with_reducible rfl) mnew_ok (Δ1 := []) (Fr := [GL]) (by simp) ?_ (by rintro x Δ' ⟨b, e1, _⟩; cases e1)
    rintro x D ⟨b, h1, hm0⟩
    cases h1
    refine J_perm List.perm_append_comm ?_
    refine J_mrun (own := []) (m := 2000) (by simp (maxSteps := 2000000) (disch := omega) only [go_sem, ↓reduceIte, Int.reduceLT, Int.reduceLE, Int.reduceToNat, Int.reducePow, Int.reduceNeg, Nat.reduceBEq, Tryd.ntmps3] <;> with_reducible rfl) ?_
    refine J_false (by simp only [go_sem, ↓reduceIte, Int.reduceLT, Int.reduceLE, Int.reduceToNat, Int.reducePow, Int.reduceNeg, Nat.reduceBEq] <;> with_reducible rfl) ?_
    refine J_mrun (own := [4]) (m := 2000) (by simp (maxSteps := 2000000) (disch := omega) only [go_sem, ↓reduceIte, Int.reduceLT, Int.reduceLE, Int.reduceToNat, Int.reducePow, Int.reduceNeg, Nat.reduceBEq, Tryd.ntmps3] <;> with_reducible rfl) ?_
    refine J_newvar rfl (by simp only [go_sem, ↓reduceIte, Int.reduceLT, Int.reduceLE, Int.reduceToNat, Int.reducePow, Int.reduceNeg, Nat.reduceBEq, Tryd.ntmps3]) (by simp only [go_sem, ↓reduceIte, Int.reduceLT, Int.reduceLE, Int.reduceToNat, Int.reducePow, Int.reduceNeg, Nat.reduceBEq] <;> with_reducible rfl) (fun b4 hb4 => ?_)
    refine J_mrun (own := []) (m := 2000) (by simp (maxSteps := 2000000) (disch := omega) only [go_sem, ↓reduceIte, Int.reduceLT, Int.reduceLE, Int.reduceToNat, Int.reducePow, Int.reduceNeg, Nat.reduceBEq, Tryd.ntmps3] <;> with_reducible rfl) ?_
    refine J_nilBox 0 5 (by simp only [go_sem]) ?_
    refine J_nilBox 1 2 (by simp only [go_sem]) ?_
    simp only [go_sem]
    refine J_keep [0, 3, 4, 5] (by simp only [go_sem, ↓reduceIte, Int.reduceLT, Int.reduceLE, Int.reduceToNat, Int.reducePow, Int.reduceNeg, Nat.reduceBEq] <;> with_reducible rfl) ?_
    refine J_loopI (I := fun w e D => ∃ (i : Nat) (r m : RM) (D1 : List HP), i ≤ l.length ∧ w = l.length - i ∧ Rel r m i ∧ OwnM b m D1 ∧ D = .box b4 30 [.sl 5 (ents r.L), .sl 2 (flos r.F), .c (.int .i64 r.n)] :: GL :: D1 ∧ e = [(0, .sl 9 (opsD l)), (3, .c (.pointer (some ⟨b, 0, none⟩))), (4, .c (.pointer (some ⟨b4, 0, none⟩))), (5, .c (.int .i64 i))]) ?_ ?_
    · exact ⟨_, 0, ⟨[], [], 0⟩, ⟨[], [], 0⟩, D, Nat.zero_le _, rfl, rel_start, hm0, rfl, rfl⟩
    · rintro w e D ⟨i, r, m, D1, hi, rfl, hrel, hm, rfl, rfl⟩ ih
      refine J_mrun (own := []) (m := 2000) (by simp (maxSteps := 2000000) (disch := omega) only [go_sem, ↓reduceIte, Int.reduceLT, Int.reduceLE, Int.reduceToNat, Int.reducePow, Int.reduceNeg, Nat.reduceBEq, Tryd.ntmps3, opsD_len] <;> with_reducible rfl) ?_
      refine J_if (by simp only [go_sem, ↓reduceIte, Int.reduceLT, Int.reduceLE, Int.reduceToNat, Int.reducePow, Int.reduceNeg, Nat.reduceBEq] <;> with_reducible rfl) (fun hc => ?_) (fun hc => ?_)
      · have hlt : i < l.length := by omega
        have g1 := opsD_get (List.getElem?_eq_getElem hlt)
        have h0 : (0 : Int) ≤ (i : Int) := by omega
        obtain ⟨ho8, hox, hol⟩ := hok l[i] (List.getElem_mem _)
        generalize l[i] = o at *
        have hlL := hrel.lL
        have hlF := hrel.lF
        have hlR := hrel.lR
        have hkeys : ∀ x ∈ m.L, x.key.length < 2 ^ 62 := fun x hx => by have := (hrel.ok x hx).1; omega
        have hrl : r.L.length < 2 ^ 30 := by rw [hrel.L]; omega
        refine J_mrun (own := [6]) (m := 2000) (by simp (maxSteps := 2000000) (disch := omega) only [go_sem, ↓reduceIte, Int.reduceLT, Int.reduceLE, Int.reduceToNat, Int.reducePow, Int.reduceNeg, Nat.reduceBEq, Tryd.ntmps3, g1] <;> with_reducible rfl) ?_
        refine J_newvar rfl (by simp only [go_sem, ↓reduceIte, Int.reduceLT, Int.reduceLE, Int.reduceToNat, Int.reducePow, Int.reduceNeg, Nat.reduceBEq, Tryd.ntmps3]) (by simp only [go_sem, ↓reduceIte, Int.reduceLT, Int.reduceLE, Int.reduceToNat, Int.reducePow, Int.reduceNeg, Nat.reduceBEq] <;> with_reducible rfl) (fun b6 hb6 => ?_)
        refine J_mrun (own := [39]) (m := 2000) (by simp (maxSteps := 2000000) (disch := omega) only [go_sem, ↓reduceIte, Int.reduceLT, Int.reduceLE, Int.reduceToNat, Int.reducePow, Int.reduceNeg, Nat.reduceBEq, Tryd.ntmps3] <;> with_reducible rfl) ?_
        refine J_freeze (s := 6) (o := 0) (by simp only [go_sem]) ?_
        refine J_mrun (own := []) (m := 2000) (by simp (maxSteps := 2000000) (disch := omega) only [go_sem, ↓reduceIte, Int.reduceLT, Int.reduceLE, Int.reduceToNat, Int.reducePow, Int.reduceNeg, Nat.reduceBEq, Tryd.ntmps3] <;> with_reducible rfl) ?_
        refine J_cut (fun e D => ∃ r' m' D', Rel r' m' (i + 1) ∧ OwnM b m' D' ∧ D = .box b4 30 [.sl 5 (ents r'.L), .sl 2 (flos r'.F), .c (.int .i64 r'.n)] :: GL :: D' ∧ e.keep [0, 3, 4, 5, 7, 8] = some [(0, .sl 9 (opsD l)), (3, .c (.pointer (some ⟨b, 0, none⟩))), (4, .c (.pointer (some ⟨b4, 0, none⟩))), (5, .c (.int .i64 i)), (7, .c (.string (mkStr o.x.key))), (8, .c (.bool true))]) ?_ ?_
        · rintro e D ⟨r', m', D', hrel', hm', rfl, hkeep⟩
          refine J_keep [0, 3, 4, 5, 7, 8] hkeep ?_
          have hlL' := hrel'.lL
          have hlF' := hrel'.lF
          have hlR' := hrel'.lR
          have hmg := mget_ok hm' o.x.key hrel'.sE (by omega)
          have hrg := rget_ok r' o.x.key (by rw [hrel'.L]; omega)
          rw [hrel'.L] at hrg
          have hmf := mfloor_ok hm' o.x.key (by omega) hrel'.sF (by omega)
          have hrf := rfloor_ok r' o.x.key (by omega) (by omega)
          rw [hrel'.F] at hrf
          have hmn := mforgot_ok hm'
          have hma := mall_ok hm' (by omega)
          have hsa := sameAll_ok m'.L m'.L (by omega) (fun x hx => by have := (hrel'.ok x hx).2; omega)
          obtain ⟨y, hy, hyv⟩ : ∃ y, y = (getE m'.L o.x.key).getD zeroE ∧ y.val.length < 2 ^ 62 := by
            refine ⟨_, rfl, ?_⟩
            cases hg : getE m'.L o.x.key with
            | none => simp [zeroE]
            | some y =>
              have : y ∈ m'.L := by
                unfold getE at hg
                cases hf : findE m'.L o.x.key with
                | none => rw [hf] at hg; simp at hg
                | some j => rw [hf] at hg; exact List.mem_of_getElem? hg
              have := (hrel'.ok y this).2
              simp only [Option.getD_some]; omega
          have hsame := same06_ok y y hyv
          rw [← hy] at hmg hrg
          simp only [RM.av, Entry.av, Entry.cells, hrel'.L, decide_true] at hmg hrg hrf hsame hsa
          rw [hrel'.L]
          generalize floorF m'.F (hash64 o.x.key) = fl at *
          generalize (getE m'.L o.x.key).isSome = sm at *
          have hnn := hrel'.n
          rw [hnn] at hrg hrf
          rw [hnn]
          refine J_mrun (own := []) (m := 2000) (by simp (maxSteps := 2000000) (disch := omega) only [go_sem, ↓reduceIte, Int.reduceLT, Int.reduceLE, Int.reduceToNat, Int.reducePow, Int.reduceNeg, Nat.reduceBEq, Tryd.ntmps3] <;> with_reducible rfl) ?_
          refine J_callr (by simp only [go_sem, ↓reduceIte, Int.reduceLT, Int.reduceLE, Int.reduceToNat, Int.reducePow, Int.reduceNeg, Nat.reduceBEq, Tryd.ntmps3] <;> with_reducible rfl) (hmg.around (Fr := [_, _]) (List.perm_append_comm (l₁ := [_, _]))) ?_
          refine J_mrun (own := [17]) (m := 2000) (by simp (maxSteps := 2000000) (disch := omega) only [go_sem, ↓reduceIte, Int.reduceLT, Int.reduceLE, Int.reduceToNat, Int.reducePow, Int.reduceNeg, Nat.reduceBEq, Tryd.ntmps3] <;> with_reducible rfl) ?_
          refine J_newvar rfl (by simp only [go_sem, ↓reduceIte, Int.reduceLT, Int.reduceLE, Int.reduceToNat, Int.reducePow, Int.reduceNeg, Nat.reduceBEq, Tryd.ntmps3]) (by simp only [go_sem, ↓reduceIte, Int.reduceLT, Int.reduceLE, Int.reduceToNat, Int.reducePow, Int.reduceNeg, Nat.reduceBEq] <;> with_reducible rfl) (fun b17 hb17 => ?_)
          simp only [fresh] at hb17
          refine J_mrun (own := []) (m := 2000) (by simp (maxSteps := 2000000) (disch := omega) only [go_sem, ↓reduceIte, Int.reduceLT, Int.reduceLE, Int.reduceToNat, Int.reducePow, Int.reduceNeg, Nat.reduceBEq, Tryd.ntmps3, hb17.1, hb17.2.1] <;> with_reducible rfl) ?_
          refine J_callp (by simp only [go_sem, ↓reduceIte, Int.reduceLT, Int.reduceLE, Int.reduceToNat, Int.reducePow, Int.reduceNeg, Nat.reduceBEq, Tryd.ntmps3] <;> with_reducible rfl) (hrg) ?_
          refine J_mrun (own := [19]) (m := 2000) (by simp (maxSteps := 2000000) (disch := omega) only [go_sem, ↓reduceIte, Int.reduceLT, Int.reduceLE, Int.reduceToNat, Int.reducePow, Int.reduceNeg, Nat.reduceBEq, Tryd.ntmps3] <;> with_reducible rfl) ?_
          refine J_newvar rfl (by simp only [go_sem, ↓reduceIte, Int.reduceLT, Int.reduceLE, Int.reduceToNat, Int.reducePow, Int.reduceNeg, Nat.reduceBEq, Tryd.ntmps3]) (by simp only [go_sem, ↓reduceIte, Int.reduceLT, Int.reduceLE, Int.reduceToNat, Int.reducePow, Int.reduceNeg, Nat.reduceBEq] <;> with_reducible rfl) (fun b19 hb19 => ?_)
          simp only [fresh] at hb19
          refine J_mrun (own := []) (m := 2000) (by simp (maxSteps := 2000000) (disch := omega) only [go_sem, ↓reduceIte, Int.reduceLT, Int.reduceLE, Int.reduceToNat, Int.reducePow, Int.reduceNeg, Nat.reduceBEq, Tryd.ntmps3, hb17.1, hb17.2.1, hb19.1, hb19.2.1, hb19.2.2.1, hb19.2.2.2.1] <;> with_reducible rfl) ?_
          refine J_draw [[], [0], [0, 1], [0, 1, 2], [0, 1, 2], [0, 1, 2, 3, 4], [0, 1, 2, 3, 4, 5], [0, 1, 2, 3, 4, 5, 6], [0, 1, 2, 3, 4, 5, 6, 7], [0, 1, 2, 3, 4, 5, 6, 7], [0, 1, 2, 3, 4, 5, 6, 7, 8, 9], [0, 1, 2, 3, 4, 5, 6, 7, 8, 9, 10], [0, 1, 2, 3, 4, 5, 6, 7, 8, 9, 10, 11], [0, 1, 2, 3, 4, 5, 6, 7, 8, 9, 10, 11, 12], [0, 1, 2, 3, 4, 5, 6, 7, 8, 9, 10, 11, 12, 13], [0, 1, 2, 3, 4, 5, 6, 7, 8, 9, 10, 11, 12, 13], [0, 1, 2, 3, 4, 5, 6, 7, 8, 9, 10, 11, 12, 13, 14, 15], [0, 1, 2, 3, 4, 5, 6, 7, 8, 9, 10, 11, 12, 13], [0, 1, 2, 3, 4, 5, 6, 7, 8, 9, 10, 11, 12, 13], [0, 1, 2, 3, 4, 5, 6, 7, 8, 9, 10, 11, 12, 13, 14, 15, 16, 17, 18], [0, 1, 2, 3, 4, 5, 6, 7, 8, 9, 10, 11, 12, 13, 14, 15, 16, 17, 18, 19], [0, 1, 2, 3, 4, 5, 6, 7, 8, 9, 10, 11, 12, 13, 14, 15, 16, 17, 18, 19, 20], [0, 1, 2, 3, 4, 5, 6, 7, 8, 9, 10, 11, 12, 13, 14, 15, 16, 17, 18, 19, 20, 21], [0, 1, 2, 3, 4, 5, 6, 7, 8, 9, 10, 11, 12, 13, 14, 15, 16, 17, 18, 19, 20, 21, 22], [0, 1, 2, 3, 4, 5, 6, 7, 8, 9, 10, 11, 12, 13, 14, 15, 16, 17, 18, 19, 20, 21, 22, 23], [0, 1, 2, 3, 4, 5, 6, 7, 8, 9, 10, 11, 12, 13, 14, 15, 16, 17, 18, 19, 20, 21, 22], [0, 1, 2, 3, 4, 5, 6, 7, 8, 9, 10, 11, 12, 13, 14, 15, 16, 17, 18, 19, 20, 21, 22, 25], [0, 1, 2, 3, 4, 5, 6, 7, 8, 9, 10, 11, 12, 13, 14, 15, 16, 17, 18, 19, 20, 21, 22, 23, 24, 25, 26], [0, 1, 2, 3, 4, 5, 6, 7, 8, 9, 10, 11, 12, 13, 14, 15, 16, 17, 18, 19, 20, 21, 22, 23, 24, 25, 26, 27], [0, 1, 2, 3, 4, 5, 6, 7, 8, 9, 10, 11, 12, 13, 14, 15, 16, 17, 18, 19, 20, 21, 22, 23, 24, 25, 26, 27, 28], [0, 1, 2, 3, 4, 5, 6, 7, 8, 9, 10, 11, 12, 13, 14, 15, 16, 17, 18, 19, 20, 21, 22, 23, 24, 25, 26, 27, 28, 29], [0, 1, 2, 3, 4, 5, 6, 7, 8, 9, 10, 11, 12, 13, 14, 15, 16, 17, 18, 19, 20, 21, 22, 23, 24, 25, 26, 27, 28, 29, 30], [0, 1, 2, 3, 4, 5, 6, 7, 8, 9, 10, 11, 12, 13, 14, 15, 16, 17, 18, 19, 20, 21, 22, 23, 24, 25, 26, 27, 28, 29], [0, 1, 2, 3, 4, 5, 6, 7, 8, 9, 10, 11, 12, 13, 14, 15, 16, 17, 18, 19, 20, 21, 22, 23, 24, 25, 26, 27, 28, 29, 32], [0, 1, 2, 3, 4, 5, 6, 7, 8, 9, 10, 11, 12, 13, 14, 15, 16, 17, 18, 19, 20, 21, 22, 23, 24, 25, 26, 27, 28, 29, 30, 31, 32, 33], [0, 1, 2, 3, 4, 5, 6, 7, 8, 9, 10, 11, 12, 13, 14, 15, 16, 17, 18, 19, 20, 21, 22, 23, 24, 25, 26, 27, 28, 29, 30, 31, 32, 33, 34], [0, 1, 2, 3, 4, 5, 6, 7, 8, 9, 10, 11, 12, 13, 14, 15, 16, 17, 18, 19, 20, 21, 22, 23, 24, 25, 26, 27, 28, 29, 30, 31, 32, 33, 34, 35]] [(0, .pure), (1, .pure), (2, .pure), (3, .pure), (4, .pure), (5, .pure), (6, .pure), (7, .pure), (8, .read), (9, .read), (10, .pure), (11, .pure), (12, .pure), (13, .pure), (14, .pure), (15, .pure), (16, .read), (17, .read), (18, .pure), (19, .pure), (20, .pure), (21, .pure), (22, .pure), (23, .pure), (24, .read), (25, .pure), (26, .read), (27, .pure), (28, .pure), (29, .pure), (30, .pure), (31, .read), (32, .pure), (33, .read), (34, .pure), (35, .pure), (36, .pure)] mixed (by kernel_rfl) ?_
          cases sm with
          | false =>
            refine Can_run (own := []) (by simp (maxSteps := 2000000) (disch := omega) only [go_sem, ↓reduceIte, Int.reduceLT, Int.reduceLE, Int.reduceToNat, Int.reducePow, Int.reduceNeg, Nat.reduceBEq, Tryd.ntmps3, hb17.1, hb17.2.1, hb19.1, hb19.2.1, hb19.2.2.1, hb19.2.2.2.1] <;> with_reducible rfl) ?_
            refine Can_callp (by simp only [go_sem, ↓reduceIte, Int.reduceLT, Int.reduceLE, Int.reduceToNat, Int.reducePow, Int.reduceNeg, Nat.reduceBEq, Tryd.ntmps3] <;> with_reducible rfl) (hsame) ?_
            refine Can_run (own := []) (by simp (maxSteps := 2000000) (disch := omega) only [go_sem, ↓reduceIte, Int.reduceLT, Int.reduceLE, Int.reduceToNat, Int.reducePow, Int.reduceNeg, Nat.reduceBEq, Tryd.ntmps3, hb17.1, hb17.2.1, hb19.1, hb19.2.1, hb19.2.2.1, hb19.2.2.2.1] <;> with_reducible rfl) ?_
            refine Can_callr (by simp only [go_sem, ↓reduceIte, Int.reduceLT, Int.reduceLE, Int.reduceToNat, Int.reducePow, Int.reduceNeg, Nat.reduceBEq, Tryd.ntmps3] <;> with_reducible rfl) (hmf.around (Fr := [_, _, _, _]) (List.perm_append_comm (l₁ := [_, _, _, _]))) ?_
            refine Can_run (own := []) (by simp (maxSteps := 2000000) (disch := omega) only [go_sem, ↓reduceIte, Int.reduceLT, Int.reduceLE, Int.reduceToNat, Int.reducePow, Int.reduceNeg, Nat.reduceBEq, Tryd.ntmps3, hb17.1, hb17.2.1, hb19.1, hb19.2.1, hb19.2.2.1, hb19.2.2.2.1] <;> with_reducible rfl) ?_
            refine Can_callp (by simp only [go_sem, ↓reduceIte, Int.reduceLT, Int.reduceLE, Int.reduceToNat, Int.reducePow, Int.reduceNeg, Nat.reduceBEq, Tryd.ntmps3] <;> with_reducible rfl) (hrf) ?_
            refine Can_run (own := []) (by simp (maxSteps := 2000000) (disch := omega) only [go_sem, ↓reduceIte, Int.reduceLT, Int.reduceLE, Int.reduceToNat, Int.reducePow, Int.reduceNeg, Nat.reduceBEq, Tryd.ntmps3, hb17.1, hb17.2.1, hb19.1, hb19.2.1, hb19.2.2.1, hb19.2.2.2.1, ne_eq, eq_self, not_true_eq_false, decide_false] <;> with_reducible rfl) ?_
            refine Can_callr (by simp only [go_sem, ↓reduceIte, Int.reduceLT, Int.reduceLE, Int.reduceToNat, Int.reducePow, Int.reduceNeg, Nat.reduceBEq, Tryd.ntmps3] <;> with_reducible rfl) (hmn.around (Fr := [_, _, _, _]) (List.perm_append_comm (l₁ := [_, _, _, _]))) ?_
            refine Can_run (own := []) (by simp (maxSteps := 2000000) (disch := omega) only [go_sem, ↓reduceIte, Int.reduceLT, Int.reduceLE, Int.reduceToNat, Int.reducePow, Int.reduceNeg, Nat.reduceBEq, Tryd.ntmps3, hb17.1, hb17.2.1, hb19.1, hb19.2.1, hb19.2.2.1, hb19.2.2.2.1, ne_eq, eq_self, not_true_eq_false, decide_false] <;> with_reducible rfl) ?_
            refine Can_callr (by simp only [go_sem, ↓reduceIte, Int.reduceLT, Int.reduceLE, Int.reduceToNat, Int.reducePow, Int.reduceNeg, Nat.reduceBEq, Tryd.ntmps3] <;> with_reducible rfl) (hma.around (Fr := [_, _, _, _]) (List.perm_append_comm (l₁ := [_, _, _, _]))) ?_
            refine Can_run (own := []) (by simp (maxSteps := 2000000) (disch := omega) only [go_sem, ↓reduceIte, Int.reduceLT, Int.reduceLE, Int.reduceToNat, Int.reducePow, Int.reduceNeg, Nat.reduceBEq, Tryd.ntmps3, hb17.1, hb17.2.1, hb19.1, hb19.2.1, hb19.2.2.1, hb19.2.2.2.1, ne_eq, eq_self, not_true_eq_false, decide_false] <;> with_reducible rfl) ?_
            refine Can_callp (by simp only [go_sem, ↓reduceIte, Int.reduceLT, Int.reduceLE, Int.reduceToNat, Int.reducePow, Int.reduceNeg, Nat.reduceBEq, Tryd.ntmps3] <;> with_reducible rfl) (hsa) ?_
            refine Can_run (own := []) (by simp (maxSteps := 2000000) (disch := omega) only [go_sem, ↓reduceIte, Int.reduceLT, Int.reduceLE, Int.reduceToNat, Int.reducePow, Int.reduceNeg, Nat.reduceBEq, Tryd.ntmps3, hb17.1, hb17.2.1, hb19.1, hb19.2.1, hb19.2.2.1, hb19.2.2.2.1, ne_eq, eq_self, not_true_eq_false, decide_false] <;> with_reducible rfl) ?_
            refine Can_nil ?_
            refine J_false (by simp only [go_sem, ↓reduceIte, Int.reduceLT, Int.reduceLE, Int.reduceToNat, Int.reducePow, Int.reduceNeg, Nat.reduceBEq] <;> with_reducible rfl) ?_
            refine J_mrun (own := []) (m := 2000) (by simp (maxSteps := 2000000) (disch := omega) only [go_sem, ↓reduceIte, Int.reduceLT, Int.reduceLE, Int.reduceToNat, Int.reducePow, Int.reduceNeg, Nat.reduceBEq, Tryd.ntmps3] <;> with_reducible rfl) ?_
            refine J_drop (J_drop ?_)
            refine J_keep [0, 3, 4, 5] (by simp only [go_sem, ↓reduceIte, Int.reduceLT, Int.reduceLE, Int.reduceToNat, Int.reducePow, Int.reduceNeg, Nat.reduceBEq] <;> with_reducible rfl) ?_
            refine ih _ _ _ ?_ ⟨i + 1, r', m', D', hlt, rfl, hrel', hm', by rw [hrel'.L, hnn], by simp only [Int.natCast_add, Int.cast_ofNat_Int]⟩
            omega
          | true =>
            refine Can_run (own := []) (by simp (maxSteps := 2000000) (disch := omega) only [go_sem, ↓reduceIte, Int.reduceLT, Int.reduceLE, Int.reduceToNat, Int.reducePow, Int.reduceNeg, Nat.reduceBEq, Tryd.ntmps3, hb17.1, hb17.2.1, hb19.1, hb19.2.1, hb19.2.2.1, hb19.2.2.2.1] <;> with_reducible rfl) ?_
            refine Can_callp (by simp only [go_sem, ↓reduceIte, Int.reduceLT, Int.reduceLE, Int.reduceToNat, Int.reducePow, Int.reduceNeg, Nat.reduceBEq, Tryd.ntmps3] <;> with_reducible rfl) (hsame) ?_
            refine Can_run (own := []) (by simp (maxSteps := 2000000) (disch := omega) only [go_sem, ↓reduceIte, Int.reduceLT, Int.reduceLE, Int.reduceToNat, Int.reducePow, Int.reduceNeg, Nat.reduceBEq, Tryd.ntmps3, hb17.1, hb17.2.1, hb19.1, hb19.2.1, hb19.2.2.1, hb19.2.2.2.1] <;> with_reducible rfl) ?_
            refine Can_callr (by simp only [go_sem, ↓reduceIte, Int.reduceLT, Int.reduceLE, Int.reduceToNat, Int.reducePow, Int.reduceNeg, Nat.reduceBEq, Tryd.ntmps3] <;> with_reducible rfl) (hmf.around (Fr := [_, _, _, _]) (List.perm_append_comm (l₁ := [_, _, _, _]))) ?_
            refine Can_run (own := []) (by simp (maxSteps := 2000000) (disch := omega) only [go_sem, ↓reduceIte, Int.reduceLT, Int.reduceLE, Int.reduceToNat, Int.reducePow, Int.reduceNeg, Nat.reduceBEq, Tryd.ntmps3, hb17.1, hb17.2.1, hb19.1, hb19.2.1, hb19.2.2.1, hb19.2.2.2.1] <;> with_reducible rfl) ?_
            refine Can_callp (by simp only [go_sem, ↓reduceIte, Int.reduceLT, Int.reduceLE, Int.reduceToNat, Int.reducePow, Int.reduceNeg, Nat.reduceBEq, Tryd.ntmps3] <;> with_reducible rfl) (hrf) ?_
            refine Can_run (own := []) (by simp (maxSteps := 2000000) (disch := omega) only [go_sem, ↓reduceIte, Int.reduceLT, Int.reduceLE, Int.reduceToNat, Int.reducePow, Int.reduceNeg, Nat.reduceBEq, Tryd.ntmps3, hb17.1, hb17.2.1, hb19.1, hb19.2.1, hb19.2.2.1, hb19.2.2.2.1, ne_eq, eq_self, not_true_eq_false, decide_false] <;> with_reducible rfl) ?_
            refine Can_callr (by simp only [go_sem, ↓reduceIte, Int.reduceLT, Int.reduceLE, Int.reduceToNat, Int.reducePow, Int.reduceNeg, Nat.reduceBEq, Tryd.ntmps3] <;> with_reducible rfl) (hmn.around (Fr := [_, _, _, _]) (List.perm_append_comm (l₁ := [_, _, _, _]))) ?_
            refine Can_run (own := []) (by simp (maxSteps := 2000000) (disch := omega) only [go_sem, ↓reduceIte, Int.reduceLT, Int.reduceLE, Int.reduceToNat, Int.reducePow, Int.reduceNeg, Nat.reduceBEq, Tryd.ntmps3, hb17.1, hb17.2.1, hb19.1, hb19.2.1, hb19.2.2.1, hb19.2.2.2.1, ne_eq, eq_self, not_true_eq_false, decide_false] <;> with_reducible rfl) ?_
            refine Can_callr (by simp only [go_sem, ↓reduceIte, Int.reduceLT, Int.reduceLE, Int.reduceToNat, Int.reducePow, Int.reduceNeg, Nat.reduceBEq, Tryd.ntmps3] <;> with_reducible rfl) (hma.around (Fr := [_, _, _, _]) (List.perm_append_comm (l₁ := [_, _, _, _]))) ?_
            refine Can_run (own := []) (by simp (maxSteps := 2000000) (disch := omega) only [go_sem, ↓reduceIte, Int.reduceLT, Int.reduceLE, Int.reduceToNat, Int.reducePow, Int.reduceNeg, Nat.reduceBEq, Tryd.ntmps3, hb17.1, hb17.2.1, hb19.1, hb19.2.1, hb19.2.2.1, hb19.2.2.2.1, ne_eq, eq_self, not_true_eq_false, decide_false] <;> with_reducible rfl) ?_
            refine Can_callp (by simp only [go_sem, ↓reduceIte, Int.reduceLT, Int.reduceLE, Int.reduceToNat, Int.reducePow, Int.reduceNeg, Nat.reduceBEq, Tryd.ntmps3] <;> with_reducible rfl) (hsa) ?_
            refine Can_run (own := []) (by simp (maxSteps := 2000000) (disch := omega) only [go_sem, ↓reduceIte, Int.reduceLT, Int.reduceLE, Int.reduceToNat, Int.reducePow, Int.reduceNeg, Nat.reduceBEq, Tryd.ntmps3, hb17.1, hb17.2.1, hb19.1, hb19.2.1, hb19.2.2.1, hb19.2.2.2.1, ne_eq, eq_self, not_true_eq_false, decide_false] <;> with_reducible rfl) ?_
            refine Can_nil ?_
            refine J_false (by simp only [go_sem, ↓reduceIte, Int.reduceLT, Int.reduceLE, Int.reduceToNat, Int.reducePow, Int.reduceNeg, Nat.reduceBEq] <;> with_reducible rfl) ?_
            refine J_mrun (own := []) (m := 2000) (by simp (maxSteps := 2000000) (disch := omega) only [go_sem, ↓reduceIte, Int.reduceLT, Int.reduceLE, Int.reduceToNat, Int.reducePow, Int.reduceNeg, Nat.reduceBEq, Tryd.ntmps3] <;> with_reducible rfl) ?_
            refine J_drop (J_drop ?_)
            refine J_keep [0, 3, 4, 5] (by simp only [go_sem, ↓reduceIte, Int.reduceLT, Int.reduceLE, Int.reduceToNat, Int.reducePow, Int.reduceNeg, Nat.reduceBEq] <;> with_reducible rfl) ?_
            refine ih _ _ _ ?_ ⟨i + 1, r', m', D', hlt, rfl, hrel', hm', by rw [hrel'.L, hnn], by simp only [Int.natCast_add, Int.cast_ofNat_Int]⟩
            omega
        · intro hcut
          refine J_if (by simp only [go_sem, ↓reduceIte, Int.reduceLT, Int.reduceLE, Int.reduceToNat, Int.reducePow, Int.reduceNeg, Nat.reduceBEq] <;> with_reducible rfl) (fun hk0 => ?_) (fun hk0 => ?_)
          · have hs := rset_ok r o.x hrl (by omega)
            have hsr := rel_set hrel hox
            simp only [RM.av, Entry.av, Entry.cells] at hs
            have hsm := mset_ok hm o.x hrel.sE hrel.sF (by omega) (by omega)
            simp only [Entry.av, Entry.cells] at hsm
            rw [hsr.1] at hs
            generalize (setRM r o.x).1 = r' at *
            generalize (setRM m o.x).1 = m' at *
            generalize (setRM m o.x).2 = c at *
            refine J_mrun (own := []) (m := 2000) (by simp (maxSteps := 2000000) (disch := omega) only [go_sem, ↓reduceIte, Int.reduceLT, Int.reduceLE, Int.reduceToNat, Int.reducePow, Int.reduceNeg, Nat.reduceBEq, Tryd.ntmps3] <;> with_reducible rfl) ?_
            refine J_callp (by simp only [go_sem, ↓reduceIte, Int.reduceLT, Int.reduceLE, Int.reduceToNat, Int.reducePow, Int.reduceNeg, Nat.reduceBEq, Tryd.ntmps3] <;> with_reducible rfl) (hs) ?_
            refine J_mrun (own := [9]) (m := 2000) (by simp (maxSteps := 2000000) (disch := omega) only [go_sem, ↓reduceIte, Int.reduceLT, Int.reduceLE, Int.reduceToNat, Int.reducePow, Int.reduceNeg, Nat.reduceBEq, Tryd.ntmps3] <;> with_reducible rfl) ?_
            refine J_newvar rfl (by simp only [go_sem, ↓reduceIte, Int.reduceLT, Int.reduceLE, Int.reduceToNat, Int.reducePow, Int.reduceNeg, Nat.reduceBEq, Tryd.ntmps3]) (by simp only [go_sem, ↓reduceIte, Int.reduceLT, Int.reduceLE, Int.reduceToNat, Int.reducePow, Int.reduceNeg, Nat.reduceBEq] <;> with_reducible rfl) (fun b9 hb9 => ?_)
            simp only [fresh] at hb9
            refine J_mrun (own := []) (m := 2000) (by simp (maxSteps := 2000000) (disch := omega) only [go_sem, ↓reduceIte, Int.reduceLT, Int.reduceLE, Int.reduceToNat, Int.reducePow, Int.reduceNeg, Nat.reduceBEq, Tryd.ntmps3, hb9.1, hb9.2.1] <;> with_reducible rfl) ?_
            refine J_drop ?_
            refine J_calls (by simp only [go_sem, ↓reduceIte, Int.reduceLT, Int.reduceLE, Int.reduceToNat, Int.reducePow, Int.reduceNeg, Nat.reduceBEq, Tryd.ntmps3] <;> with_reducible rfl) hsm (Δ1 := D1) (Fr := [_, GL]) (List.perm_append_comm (l₁ := [_, _])) ?_ (by rintro x Δ' ⟨⟨e, e1, _⟩, _⟩; cases e1)
            rintro x D2 ⟨⟨e, h1, he⟩, hm2⟩
            cases h1
            refine J_perm List.perm_append_comm ?_
            refine J_mrun (own := []) (m := 2000) (by simp (maxSteps := 2000000) (disch := omega) only [go_sem, ↓reduceIte, Int.reduceLT, Int.reduceLE, Int.reduceToNat, Int.reducePow, Int.reduceNeg, Nat.reduceBEq, Tryd.ntmps3] <;> with_reducible rfl) ?_
            refine J_callg (by simp only [go_sem, ↓reduceIte, Int.reduceLT, Int.reduceLE, Int.reduceToNat, Int.reducePow, Int.reduceNeg, Nat.reduceBEq, Tryd.ntmps3] <;> with_reducible rfl) (by simp [GL]) (of_ok he) ?_
            refine J_mrunK hcut (own := []) (m := 300) (by simp (maxSteps := 2000000) (disch := omega) only [go_sem, ↓reduceIte, Int.reduceLT, Int.reduceLE, Int.reduceToNat, Int.reducePow, Int.reduceNeg, Nat.reduceBEq, Tryd.ntmps3, eq_self, decide_true] <;> with_reducible rfl) ?_
            exact ⟨r', m', D2, hsr.2, hm2, rfl, by simp only [go_sem, eq_self, decide_true]⟩
          · refine J_mrun (own := []) (m := 2000) (by simp (maxSteps := 2000000) (disch := omega) only [go_sem, ↓reduceIte, Int.reduceLT, Int.reduceLE, Int.reduceToNat, Int.reducePow, Int.reduceNeg, Nat.reduceBEq, Tryd.ntmps3] <;> with_reducible rfl) ?_
            refine J_if (by simp only [go_sem, ↓reduceIte, Int.reduceLT, Int.reduceLE, Int.reduceToNat, Int.reducePow, Int.reduceNeg, Nat.reduceBEq] <;> with_reducible rfl) (fun hk1 => ?_) (fun hk1 => ?_)
            · have hs := rforget_ok r o.x.key hrl
              have hsr := rel_forget hrel o.x.key
              simp only [RM.av] at hs
              have hsm := mforget_ok hm o.x.key hrel.sE (by omega)
              rw [hsr.1] at hs
              generalize (forgetRM r o.x.key).1 = r' at *
              generalize (forgetRM m o.x.key).1 = m' at *
              generalize (forgetRM m o.x.key).2 = c at *
              refine J_mrun (own := []) (m := 2000) (by simp (maxSteps := 2000000) (disch := omega) only [go_sem, ↓reduceIte, Int.reduceLT, Int.reduceLE, Int.reduceToNat, Int.reducePow, Int.reduceNeg, Nat.reduceBEq, Tryd.ntmps3] <;> with_reducible rfl) ?_
              refine J_callp (by simp only [go_sem, ↓reduceIte, Int.reduceLT, Int.reduceLE, Int.reduceToNat, Int.reducePow, Int.reduceNeg, Nat.reduceBEq, Tryd.ntmps3] <;> with_reducible rfl) (hs) ?_
              refine J_mrun (own := [11]) (m := 2000) (by simp (maxSteps := 2000000) (disch := omega) only [go_sem, ↓reduceIte, Int.reduceLT, Int.reduceLE, Int.reduceToNat, Int.reducePow, Int.reduceNeg, Nat.reduceBEq, Tryd.ntmps3] <;> with_reducible rfl) ?_
              refine J_newvar rfl (by simp only [go_sem, ↓reduceIte, Int.reduceLT, Int.reduceLE, Int.reduceToNat, Int.reducePow, Int.reduceNeg, Nat.reduceBEq, Tryd.ntmps3]) (by simp only [go_sem, ↓reduceIte, Int.reduceLT, Int.reduceLE, Int.reduceToNat, Int.reducePow, Int.reduceNeg, Nat.reduceBEq] <;> with_reducible rfl) (fun b9 hb9 => ?_)
              simp only [fresh] at hb9
              refine J_mrun (own := []) (m := 2000) (by simp (maxSteps := 2000000) (disch := omega) only [go_sem, ↓reduceIte, Int.reduceLT, Int.reduceLE, Int.reduceToNat, Int.reducePow, Int.reduceNeg, Nat.reduceBEq, Tryd.ntmps3, hb9.1, hb9.2.1] <;> with_reducible rfl) ?_
              refine J_drop ?_
              refine J_calls (by simp only [go_sem, ↓reduceIte, Int.reduceLT, Int.reduceLE, Int.reduceToNat, Int.reducePow, Int.reduceNeg, Nat.reduceBEq, Tryd.ntmps3] <;> with_reducible rfl) hsm (Δ1 := D1) (Fr := [_, GL]) (List.perm_append_comm (l₁ := [_, _])) ?_ (by rintro x Δ' ⟨e1, _⟩; cases e1)
              rintro x D2 ⟨h1, hm2⟩
              cases h1
              refine J_perm List.perm_append_comm ?_
              refine J_mrunK hcut (own := []) (m := 300) (by simp (maxSteps := 2000000) (disch := omega) only [go_sem, ↓reduceIte, Int.reduceLT, Int.reduceLE, Int.reduceToNat, Int.reducePow, Int.reduceNeg, Nat.reduceBEq, Tryd.ntmps3, eq_self, decide_true, beq_self_eq_true] <;> with_reducible rfl) ?_
              exact ⟨r', m', D2, hsr.2.mono (by omega), hm2, rfl, by simp only [go_sem, eq_self, decide_true, beq_self_eq_true]⟩
            · refine J_mrun (own := []) (m := 2000) (by simp (maxSteps := 2000000) (disch := omega) only [go_sem, ↓reduceIte, Int.reduceLT, Int.reduceLE, Int.reduceToNat, Int.reducePow, Int.reduceNeg, Nat.reduceBEq, Tryd.ntmps3] <;> with_reducible rfl) ?_
              refine J_if (by simp only [go_sem, ↓reduceIte, Int.reduceLT, Int.reduceLE, Int.reduceToNat, Int.reducePow, Int.reduceNeg, Nat.reduceBEq] <;> with_reducible rfl) (fun hk2 => ?_) (fun hk2 => ?_)
              · have hs := rraise_ok r o.x.key o.n (by omega) hrl (by omega) (by rw [hrel.L]; exact hkeys)
                have hsr := rel_raise hrel o.x.key o.n
                simp only [RM.av] at hs
                have hsm := mraise_ok hm o.x.key o.n (by omega) hrel.sE hrel.sF (by omega) (by omega) hkeys
                generalize raiseRM r o.x.key o.n = r' at *
                generalize raiseM m o.x.key o.n = m' at *
                refine J_mrun (own := []) (m := 2000) (by simp (maxSteps := 2000000) (disch := omega) only [go_sem, ↓reduceIte, Int.reduceLT, Int.reduceLE, Int.reduceToNat, Int.reducePow, Int.reduceNeg, Nat.reduceBEq, Tryd.ntmps3] <;> with_reducible rfl) ?_
                refine J_callp (by simp only [go_sem, ↓reduceIte, Int.reduceLT, Int.reduceLE, Int.reduceToNat, Int.reducePow, Int.reduceNeg, Nat.reduceBEq, Tryd.ntmps3] <;> with_reducible rfl) (hs) ?_
                refine J_mrun (own := []) (m := 2000) (by simp (maxSteps := 2000000) (disch := omega) only [go_sem, ↓reduceIte, Int.reduceLT, Int.reduceLE, Int.reduceToNat, Int.reducePow, Int.reduceNeg, Nat.reduceBEq, Tryd.ntmps3] <;> with_reducible rfl) ?_
                refine J_calls (by simp only [go_sem, ↓reduceIte, Int.reduceLT, Int.reduceLE, Int.reduceToNat, Int.reducePow, Int.reduceNeg, Nat.reduceBEq, Tryd.ntmps3] <;> with_reducible rfl) hsm (Δ1 := D1) (Fr := [_, GL]) (List.perm_append_comm (l₁ := [_, _])) ?_ (by rintro x Δ' ⟨e1, _⟩; cases e1)
                rintro x D2 ⟨h1, hm2⟩
                cases h1
                refine J_perm List.perm_append_comm ?_
                refine J_mrunK hcut (own := []) (m := 300) (by simp (maxSteps := 2000000) (disch := omega) only [go_sem, ↓reduceIte, Int.reduceLT, Int.reduceLE, Int.reduceToNat, Int.reducePow, Int.reduceNeg, Nat.reduceBEq, Tryd.ntmps3] <;> with_reducible rfl) ?_
                exact ⟨r', m', D2, hsr, hm2, rfl, by simp only [go_sem]⟩
              · refine J_mrun (own := []) (m := 2000) (by simp (maxSteps := 2000000) (disch := omega) only [go_sem, ↓reduceIte, Int.reduceLT, Int.reduceLE, Int.reduceToNat, Int.reducePow, Int.reduceNeg, Nat.reduceBEq, Tryd.ntmps3] <;> with_reducible rfl) ?_
                refine J_if (by simp only [go_sem, ↓reduceIte, Int.reduceLT, Int.reduceLE, Int.reduceToNat, Int.reducePow, Int.reduceNeg, Nat.reduceBEq] <;> with_reducible rfl) (fun hk3 => ?_) (fun hk3 => ?_)
                · have hs := rrelease_ok r o.x.key (by omega) (by omega)
                  have hsr := rel_release hrel (hash64 o.x.key)
                  simp only [RM.av] at hs
                  have hsm := mrelease_ok hm o.x.key (by omega) hrel.sF (by omega)
                  refine J_mrun (own := []) (m := 2000) (by simp (maxSteps := 2000000) (disch := omega) only [go_sem, ↓reduceIte, Int.reduceLT, Int.reduceLE, Int.reduceToNat, Int.reducePow, Int.reduceNeg, Nat.reduceBEq, Tryd.ntmps3] <;> with_reducible rfl) ?_
                  refine J_calls (by simp only [go_sem, ↓reduceIte, Int.reduceLT, Int.reduceLE, Int.reduceToNat, Int.reducePow, Int.reduceNeg, Nat.reduceBEq, Tryd.ntmps3] <;> with_reducible rfl) hs (Δ1 := []) (Fr := .box b4 30 [.sl 5 (ents r.L), .sl 2 (flos r.F), .c (.int .i64 r.n)] :: GL :: D1) (by simp) ?_ (by rintro x Δ' ⟨v, e1, _⟩; cases e1)
                  rintro x D2 ⟨v, h1, how⟩
                  cases h1
                  obtain ⟨va, vc, rfl⟩ := how.slice
                  refine J_perm List.perm_append_comm ?_
                  refine J_mrun (own := []) (m := 2000) (by simp (maxSteps := 2000000) (disch := omega) only [go_sem, ↓reduceIte, Int.reduceLT, Int.reduceLE, Int.reduceToNat, Int.reducePow, Int.reduceNeg, Nat.reduceBEq, Tryd.ntmps3] <;> with_reducible rfl) ?_
                  refine J_freezeS (Fr := .box b4 30 [.sl 5 (ents r.L), .c (.slice va (flos (relF r.F (hash64 o.x.key))).length vc), .c (.int .i64 r.n)] :: GL :: D1) how (flos_row _) (by have := relF_len r.F (hash64 o.x.key); rw [flos_len]; unfold maxRows; omega) ?_
                  refine J_isBox (Fr := GL :: D1) 1 rfl (List.Perm.refl _) (J_perm (List.Perm.swap _ _ _) (J_drop ?_))
                  simp only [go_sem]
                  refine J_calls (by simp only [go_sem, ↓reduceIte, Int.reduceLT, Int.reduceLE, Int.reduceToNat, Int.reducePow, Int.reduceNeg, Nat.reduceBEq, Tryd.ntmps3] <;> with_reducible rfl) hsm (Δ1 := D1) (Fr := [_, GL]) (List.perm_append_comm (l₁ := [_, _])) ?_ (by rintro x Δ' ⟨e1, _⟩; cases e1)
                  rintro x D3 ⟨h1, hm2⟩
                  cases h1
                  refine J_perm List.perm_append_comm ?_
                  refine J_mrunK hcut (own := []) (m := 300) (by simp (maxSteps := 2000000) (disch := omega) only [go_sem, ↓reduceIte, Int.reduceLT, Int.reduceLE, Int.reduceToNat, Int.reducePow, Int.reduceNeg, Nat.reduceBEq, Tryd.ntmps3] <;> with_reducible rfl) ?_
                  exact ⟨{ r with F := relF r.F (hash64 o.x.key) }, _, D3, hsr.mono (by omega), hm2, rfl, by simp only [go_sem]⟩
                · refine J_mrun (own := []) (m := 2000) (by simp (maxSteps := 2000000) (disch := omega) only [go_sem, ↓reduceIte, Int.reduceLT, Int.reduceLE, Int.reduceToNat, Int.reducePow, Int.reduceNeg, Nat.reduceBEq, Tryd.ntmps3] <;> with_reducible rfl) ?_
                  refine J_if (by simp only [go_sem, ↓reduceIte, Int.reduceLT, Int.reduceLE, Int.reduceToNat, Int.reducePow, Int.reduceNeg, Nat.reduceBEq] <;> with_reducible rfl) (fun hk4 => ?_) (fun hk4 => ?_)
                  · have hs := rtold_ok r o.x.key o.x o.got hrl (by omega)
                    have hsr := rel_told hrel o.x.key o.x o.got
                    simp only [RM.av, Entry.av, Entry.cells] at hs
                    have hsm := mtold_ok hm o.x.key o.x o.got hrel.sE (by omega)
                    simp only [Entry.av, Entry.cells] at hsm
                    rw [hsr.1] at hs
                    generalize (toldRM r o.x.key o.x o.got).1 = r' at *
                    generalize (toldRM m o.x.key o.x o.got).1 = m' at *
                    generalize (toldRM m o.x.key o.x o.got).2 = c at *
                    refine J_mrun (own := []) (m := 2000) (by simp (maxSteps := 2000000) (disch := omega) only [go_sem, ↓reduceIte, Int.reduceLT, Int.reduceLE, Int.reduceToNat, Int.reducePow, Int.reduceNeg, Nat.reduceBEq, Tryd.ntmps3] <;> with_reducible rfl) ?_
                    refine J_callp (by simp only [go_sem, ↓reduceIte, Int.reduceLT, Int.reduceLE, Int.reduceToNat, Int.reducePow, Int.reduceNeg, Nat.reduceBEq, Tryd.ntmps3] <;> with_reducible rfl) (hs) ?_
                    refine J_mrun (own := [13]) (m := 2000) (by simp (maxSteps := 2000000) (disch := omega) only [go_sem, ↓reduceIte, Int.reduceLT, Int.reduceLE, Int.reduceToNat, Int.reducePow, Int.reduceNeg, Nat.reduceBEq, Tryd.ntmps3] <;> with_reducible rfl) ?_
                    refine J_newvar rfl (by simp only [go_sem, ↓reduceIte, Int.reduceLT, Int.reduceLE, Int.reduceToNat, Int.reducePow, Int.reduceNeg, Nat.reduceBEq, Tryd.ntmps3]) (by simp only [go_sem, ↓reduceIte, Int.reduceLT, Int.reduceLE, Int.reduceToNat, Int.reducePow, Int.reduceNeg, Nat.reduceBEq] <;> with_reducible rfl) (fun b9 hb9 => ?_)
                    simp only [fresh] at hb9
                    refine J_mrun (own := []) (m := 2000) (by simp (maxSteps := 2000000) (disch := omega) only [go_sem, ↓reduceIte, Int.reduceLT, Int.reduceLE, Int.reduceToNat, Int.reducePow, Int.reduceNeg, Nat.reduceBEq, Tryd.ntmps3, hb9.1, hb9.2.1] <;> with_reducible rfl) ?_
                    refine J_drop ?_
                    refine J_calls (by simp only [go_sem, ↓reduceIte, Int.reduceLT, Int.reduceLE, Int.reduceToNat, Int.reducePow, Int.reduceNeg, Nat.reduceBEq, Tryd.ntmps3] <;> with_reducible rfl) hsm (Δ1 := D1) (Fr := [_, GL]) (List.perm_append_comm (l₁ := [_, _])) ?_ (by rintro x Δ' ⟨e1, _⟩; cases e1)
                    rintro x D2 ⟨h1, hm2⟩
                    cases h1
                    refine J_perm List.perm_append_comm ?_
                    refine J_mrunK hcut (own := []) (m := 300) (by simp (maxSteps := 2000000) (disch := omega) only [go_sem, ↓reduceIte, Int.reduceLT, Int.reduceLE, Int.reduceToNat, Int.reducePow, Int.reduceNeg, Nat.reduceBEq, Tryd.ntmps3, eq_self, decide_true, beq_self_eq_true] <;> with_reducible rfl) ?_
                    exact ⟨r', m', D2, hsr.2.mono (by omega), hm2, rfl, by simp only [go_sem, eq_self, decide_true, beq_self_eq_true]⟩
                  · refine J_mrun (own := []) (m := 2000) (by simp (maxSteps := 2000000) (disch := omega) only [go_sem, ↓reduceIte, Int.reduceLT, Int.reduceLE, Int.reduceToNat, Int.reducePow, Int.reduceNeg, Nat.reduceBEq, Tryd.ntmps3] <;> with_reducible rfl) ?_
                    refine J_if (by simp only [go_sem, ↓reduceIte, Int.reduceLT, Int.reduceLE, Int.reduceToNat, Int.reducePow, Int.reduceNeg, Nat.reduceBEq] <;> with_reducible rfl) (fun hk5 => ?_) (fun hk5 => ?_)
                    · have hs := rwithin_ok r o.l hrl (by omega) (fun x hx => by have := (hol x hx).2; omega)
                      have hsr := rel_within hrel o.l
                      simp only [RM.av] at hs
                      have hsm := mwithin_ok hm o.l hrel.sE (by omega) (by omega)
                      rw [hsr.1] at hs
                      generalize (withinRM r o.l).1 = r' at *
                      generalize (withinRM m o.l).1 = m' at *
                      generalize (withinRM m o.l).2 = c at *
                      refine J_mrun (own := []) (m := 2000) (by simp (maxSteps := 2000000) (disch := omega) only [go_sem, ↓reduceIte, Int.reduceLT, Int.reduceLE, Int.reduceToNat, Int.reducePow, Int.reduceNeg, Nat.reduceBEq, Tryd.ntmps3] <;> with_reducible rfl) ?_
                      refine J_callp (by simp only [go_sem, ↓reduceIte, Int.reduceLT, Int.reduceLE, Int.reduceToNat, Int.reducePow, Int.reduceNeg, Nat.reduceBEq, Tryd.ntmps3] <;> with_reducible rfl) (hs) ?_
                      refine J_mrun (own := [15]) (m := 2000) (by simp (maxSteps := 2000000) (disch := omega) only [go_sem, ↓reduceIte, Int.reduceLT, Int.reduceLE, Int.reduceToNat, Int.reducePow, Int.reduceNeg, Nat.reduceBEq, Tryd.ntmps3] <;> with_reducible rfl) ?_
                      refine J_newvar rfl (by simp only [go_sem, ↓reduceIte, Int.reduceLT, Int.reduceLE, Int.reduceToNat, Int.reducePow, Int.reduceNeg, Nat.reduceBEq, Tryd.ntmps3]) (by simp only [go_sem, ↓reduceIte, Int.reduceLT, Int.reduceLE, Int.reduceToNat, Int.reducePow, Int.reduceNeg, Nat.reduceBEq] <;> with_reducible rfl) (fun b9 hb9 => ?_)
                      simp only [fresh] at hb9
                      refine J_mrun (own := []) (m := 2000) (by simp (maxSteps := 2000000) (disch := omega) only [go_sem, ↓reduceIte, Int.reduceLT, Int.reduceLE, Int.reduceToNat, Int.reducePow, Int.reduceNeg, Nat.reduceBEq, Tryd.ntmps3, hb9.1, hb9.2.1] <;> with_reducible rfl) ?_
                      refine J_drop ?_
                      refine J_calls (by simp only [go_sem, ↓reduceIte, Int.reduceLT, Int.reduceLE, Int.reduceToNat, Int.reducePow, Int.reduceNeg, Nat.reduceBEq, Tryd.ntmps3] <;> with_reducible rfl) hsm (Δ1 := D1) (Fr := [_, GL]) (List.perm_append_comm (l₁ := [_, _])) ?_ (by rintro x Δ' ⟨e1, _⟩; cases e1)
                      rintro x D2 ⟨h1, hm2⟩
                      cases h1
                      refine J_perm List.perm_append_comm ?_
                      refine J_mrunK hcut (own := []) (m := 300) (by simp (maxSteps := 2000000) (disch := omega) only [go_sem, ↓reduceIte, Int.reduceLT, Int.reduceLE, Int.reduceToNat, Int.reducePow, Int.reduceNeg, Nat.reduceBEq, Tryd.ntmps3, eq_self, decide_true, beq_self_eq_true] <;> with_reducible rfl) ?_
                      exact ⟨r', m', D2, hsr.2.mono (by omega), hm2, rfl, by simp only [go_sem, eq_self, decide_true, beq_self_eq_true]⟩
                    · refine J_mrunK hcut (own := []) (m := 300) (by simp (maxSteps := 2000000) (disch := omega) only [go_sem, ↓reduceIte, Int.reduceLT, Int.reduceLE, Int.reduceToNat, Int.reducePow, Int.reduceNeg, Nat.reduceBEq, Tryd.ntmps3] <;> with_reducible rfl) ?_
                      exact ⟨r, m, D1, hrel.mono (by omega), hm, rfl, by simp only [go_sem]⟩
      · refine J_mrun (own := []) (m := 2000) (by simp (maxSteps := 2000000) (disch := omega) only [go_sem, ↓reduceIte, Int.reduceLT, Int.reduceLE, Int.reduceToNat, Int.reducePow, Int.reduceNeg, Nat.reduceBEq, Tryd.ntmps3] <;> with_reducible rfl) ?_
        refine J_callg (by simp only [go_sem, ↓reduceIte, Int.reduceLT, Int.reduceLE, Int.reduceToNat, Int.reducePow, Int.reduceNeg, Nat.reduceBEq, Tryd.ntmps3] <;> with_reducible rfl) (by simp [GL]) (works_ok) ?_
        refine J_mrun (own := []) (m := 2000) (by simp (maxSteps := 2000000) (disch := omega) only [go_sem, ↓reduceIte, Int.reduceLT, Int.reduceLE, Int.reduceToNat, Int.reducePow, Int.reduceNeg, Nat.reduceBEq, Tryd.ntmps3] <;> with_reducible rfl) ?_
        refine J_forget ?_
        refine J_retX Tryd.func3 (by simp only [go_sem, ↓reduceIte, Int.reduceLT, Int.reduceLE, Int.reduceToNat, Int.reducePow, Int.reduceNeg, Nat.reduceBEq, Tryd.f3] <;> first | with_reducible rfl | rfl) ⟨rfl, rfl⟩
end Go.Proofs.YtncincpkdphojaaDoor
end
