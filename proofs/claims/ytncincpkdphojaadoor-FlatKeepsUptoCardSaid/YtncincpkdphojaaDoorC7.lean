/- A part of the proof: what the calls do, told by values. -/
import Derived.Test.YtncincpkdphojaaDoorC6
section
namespace Go.Proofs.YtncincpkdphojaaDoor
open Go Go.Av
set_option linter.unusedVariables false
set_option linter.unusedSimpArgs false
set_option maxRecDepth 100000
set_option maxHeartbeats 8000000
attribute [local go_sem] Entry.av Entry.cells packed List.set_cons_zero List.set_cons_succ List.cons_append List.nil_append

theorem getE_find : ∀ (l : List Entry) (k : List UInt8), getE l k = l.find? (fun x => decide (x.key = k))
  | [], k => rfl
  | x :: l, k => by
    have ih := getE_find l k
    unfold getE findE at ih ⊢
    rw [List.findIdx?_cons, List.find?_cons]
    by_cases h : x.key = k
    · simp [h]
    · simp only [h, decide_false, Bool.false_eq_true, if_false]
      rw [← ih]
      cases hf : l.findIdx? (fun x => decide (x.key = k)) <;> simp [hf]
theorem getE_but (l : List Entry) {k k' : List UInt8} (h : k ≠ k') : getE (but l k') k = getE l k := by
  rw [getE_find, getE_find]
  unfold but
  induction l with
  | nil => rfl
  | cons x l ih =>
    rw [List.filter_cons]
    by_cases hx : x.key = k'
    · rw [if_neg (by simp [hx]), ih, List.find?_cons]
      have : ¬ x.key = k := fun h2 => h (h2 ▸ hx)
      simp [this]
    · rw [if_pos (by simp [hx]), List.find?_cons, List.find?_cons, ih]
theorem getE_put {l : List Entry} (hs : SortedE l) (x : Entry) : getE (putL l x) x.key = some x := by
  cases hh : has (keyC x.key) l with
  | true =>
    obtain ⟨A, y, B, rfl, -, hy, hA, hB⟩ := split_has (hs.strict x.key) hh
    rw [put_split (but_split hA hy hB) hA hB]
    unfold getE
    rw [find_split hA (cmpB_zero.2 rfl)]
    simp
  | false =>
    obtain ⟨A, B, rfl, -, hA, hB⟩ := split_not (hs.strict x.key) hh
    rw [put_split (but_no hA hB) hA hB]
    unfold getE
    rw [find_split hA (cmpB_zero.2 rfl)]
    simp
theorem getE_forget (m : RM) {k k' : List UInt8} (h : k ≠ k') : getE (forgetRM m k').1.L k = getE m.L k := by
  unfold forgetRM; split
  · exact getE_but _ h
  · rfl
theorem getE_raise (m : RM) (k key : List UInt8) (a : Int) (h : hash64 key ≠ hash64 k) : getE (raiseM m k a).L key = getE m.L key := by
  unfold raiseM
  simp only
  generalize floorF _ _ = fl
  have : ∀ (l : List Entry) (o : RM), getE (l.foldl (raiseStep k fl) o).L key = getE o.L key := by
    intro l
    induction l with
    | nil => intro o; rfl
    | cons x l ih =>
      intro o
      rw [List.foldl_cons, ih]
      unfold raiseStep
      split
      · rename_i hx
        exact getE_forget o (fun h2 => h (by rw [h2]; exact hx.1))
      · rfl
  rw [this]

structure Plain0 (m : RM) (N : Nat) : Prop where
  sE : SortedE m.L
  F : m.F = []
  lL : m.L.length ≤ N
  ok : ∀ x ∈ m.L, x.key.length ≤ 200 ∧ x.val.length ≤ 5000
theorem plain_set {m : RM} {N : Nat} (h : Plain0 m N) {x : Entry} (hx : x.key.length ≤ 200 ∧ x.val.length ≤ 5000) : Plain0 (setRM m x).1 (N + 1) := by
  unfold setRM
  split
  · exact ⟨h.sE, h.F, by have := h.lL; show m.L.length ≤ _; omega, h.ok⟩
  · split
    · exact ⟨h.sE, h.F, by have := h.lL; show m.L.length ≤ _; omega, h.ok⟩
    · refine ⟨put_sorted h.sE x, h.F, ?_, ?_⟩
      · have := putL_len m.L x; have := h.lL; show (putL m.L x).length ≤ _; omega
      · intro y hy
        rcases putL_mem hy with rfl | h1
        · exact hx
        · exact h.ok y h1
theorem raise_fold (k : List UInt8) (fl : Int) : ∀ (l : List Entry) (o : RM), (l.foldl (raiseStep k fl) o).F = o.F ∧ (l.foldl (raiseStep k fl) o).L.length ≤ o.L.length ∧ (SortedE o.L → SortedE (l.foldl (raiseStep k fl) o).L) ∧ ∀ x ∈ (l.foldl (raiseStep k fl) o).L, x ∈ o.L
  | [], o => ⟨rfl, Nat.le_refl _, id, fun _ h => h⟩
  | x :: l, o => by
    rw [List.foldl_cons]
    obtain ⟨h1, h2, h3, h4⟩ := raise_fold k fl l (raiseStep k fl o x)
    refine ⟨by rw [h1, raiseStep_F], Nat.le_trans h2 (raiseStep_len _ _ _ _), fun hs => h3 (raiseStep_sorted hs x), fun y hy => ?_⟩
    have := h4 y hy
    unfold raiseStep at this
    split at this
    · unfold forgetRM at this
      split at this
      · exact but_mem this
      · exact this
    · exact this

theorem get_bound {L : List Entry} (h : ∀ x ∈ L, x.key.length ≤ 200 ∧ x.val.length ≤ 5000) (k : List UInt8) : ((getE L k).getD zeroE).val.length < 2 ^ 62 := by
  cases hg : getE L k with
  | none => simp [zeroE]
  | some y =>
    have : y ∈ L := by
      unfold getE at hg
      cases hf : findE L k with
      | none => rw [hf] at hg; simp at hg
      | some j => rw [hf] at hg; exact List.mem_of_getElem? hg
    have := (h y this).2
    simp only [Option.getD_some]; omega
theorem check_asof {x : Entry} (h : checkCode x = 0) : 1 ≤ x.asof := by
  unfold checkCode at h
  split at h
  · rename_i h1; exact absurd h h1
  · split at h
    · cases h
    · rename_i h2; unfold badNum at h2; omega

theorem isErrN {e : AV} {c : Int} (h : IsErr e c) (hc : c ≠ 0) : ∃ t y, e = .ifc t y := by
  cases h with
  | none => exact absurd rfl hc
  | code o a _ u h1 => exact ⟨_, _, rfl⟩
  | under o a u _ h1 h2 => exact ⟨_, _, rfl⟩

theorem flatKeeps_ok (l : List OpD) (x : Entry) (key : List UInt8) (a : Int) (hl : l.length < 2 ^ 40) (hll : ∀ o ∈ l, o.l.length < 2 ^ 37) : ACalls Tryd.prog 4 [.sl 9 (opsD l), x.av, .c (.string (mkStr key)), .c (.int .i64 a)] [GL] (Ret (.c (.bool true))) := by
  have hli := light06_ok [x] (by simp)
  simp only [ents, List.map_cons, List.map_nil, Entry.cells] at hli
  simp only [Entry.av, Entry.cells]
  refine calls_of_J cl_4 Tryd.func4 rfl (by simp [Tryd.ntmps4]) ?_
  refine J_mrun (own := []) (m := 2000) (by simp (maxSteps := 2000000) (disch := omega) only [go_sem, ↓reduceIte, Int.reduceLT, Int.reduceLE, Int.reduceToNat, Int.reducePow, Int.reduceNeg, Nat.reduceBEq, Tryd.ntmps4] <;> with_reducible rfl) ?_
  refine J_callp (by simp only [go_sem, ↓reduceIte, Int.reduceLT, Int.reduceLE, Int.reduceToNat, Int.reducePow, Int.reduceNeg, Nat.reduceBEq, Tryd.ntmps4] <;> with_reducible rfl) (light_ok l hl hll) ?_
  cases hlt : lightD l with
  | false =>
    refine J_mrun (own := []) (m := 2000) (by simp (maxSteps := 2000000) (disch := omega) only [go_sem, ↓reduceIte, Int.reduceLT, Int.reduceLE, Int.reduceToNat, Int.reducePow, Int.reduceNeg, Nat.reduceBEq, Tryd.ntmps4] <;> with_reducible rfl) ?_
    refine J_true (by simp only [go_sem, ↓reduceIte, Int.reduceLT, Int.reduceLE, Int.reduceToNat, Int.reducePow, Int.reduceNeg, Nat.reduceBEq] <;> with_reducible rfl) ?_
    refine J_mrun (own := []) (m := 2000) (by simp (maxSteps := 2000000) (disch := omega) only [go_sem, ↓reduceIte, Int.reduceLT, Int.reduceLE, Int.reduceToNat, Int.reducePow, Int.reduceNeg, Nat.reduceBEq, Tryd.ntmps4] <;> with_reducible rfl) ?_
    refine J_callg (by simp only [go_sem, ↓reduceIte, Int.reduceLT, Int.reduceLE, Int.reduceToNat, Int.reducePow, Int.reduceNeg, Nat.reduceBEq, Tryd.ntmps4] <;> with_reducible rfl) (by simp [GL]) (works_ok) ?_
    refine J_mrun (own := []) (m := 2000) (by simp (maxSteps := 2000000) (disch := omega) only [go_sem, ↓reduceIte, Int.reduceLT, Int.reduceLE, Int.reduceToNat, Int.reducePow, Int.reduceNeg, Nat.reduceBEq, Tryd.ntmps4] <;> with_reducible rfl) ?_
    refine J_forget ?_
    refine J_retX Tryd.func4 (by simp only [go_sem, ↓reduceIte, Int.reduceLT, Int.reduceLE, Int.reduceToNat, Int.reducePow, Int.reduceNeg, Nat.reduceBEq, Tryd.f4] <;> first | with_reducible rfl | rfl) ⟨rfl, rfl⟩
  | true =>
    refine J_mrun (own := []) (m := 2000) (by simp (maxSteps := 2000000) (disch := omega) only [go_sem, ↓reduceIte, Int.reduceLT, Int.reduceLE, Int.reduceToNat, Int.reducePow, Int.reduceNeg, Nat.reduceBEq, Tryd.ntmps4] <;> with_reducible rfl) ?_
    refine J_callp (by simp only [go_sem, ↓reduceIte, Int.reduceLT, Int.reduceLE, Int.reduceToNat, Int.reducePow, Int.reduceNeg, Nat.reduceBEq, Tryd.ntmps4] <;> with_reducible rfl) (hli) ?_
    by_cases hlx : 0 < lightI [x]
    · refine J_mrun (own := []) (m := 2000) (by simp (maxSteps := 2000000) (disch := omega) only [go_sem, ↓reduceIte, Int.reduceLT, Int.reduceLE, Int.reduceToNat, Int.reducePow, Int.reduceNeg, Nat.reduceBEq, Tryd.ntmps4, eq_true hlx] <;> with_reducible rfl) ?_
      refine J_true (by simp only [go_sem, ↓reduceIte, Int.reduceLT, Int.reduceLE, Int.reduceToNat, Int.reducePow, Int.reduceNeg, Nat.reduceBEq] <;> with_reducible rfl) ?_
      refine J_mrun (own := []) (m := 2000) (by simp (maxSteps := 2000000) (disch := omega) only [go_sem, ↓reduceIte, Int.reduceLT, Int.reduceLE, Int.reduceToNat, Int.reducePow, Int.reduceNeg, Nat.reduceBEq, Tryd.ntmps4] <;> with_reducible rfl) ?_
      refine J_callg (by simp only [go_sem, ↓reduceIte, Int.reduceLT, Int.reduceLE, Int.reduceToNat, Int.reducePow, Int.reduceNeg, Nat.reduceBEq, Tryd.ntmps4] <;> with_reducible rfl) (by simp [GL]) (works_ok) ?_
      refine J_mrun (own := []) (m := 2000) (by simp (maxSteps := 2000000) (disch := omega) only [go_sem, ↓reduceIte, Int.reduceLT, Int.reduceLE, Int.reduceToNat, Int.reducePow, Int.reduceNeg, Nat.reduceBEq, Tryd.ntmps4] <;> with_reducible rfl) ?_
      refine J_forget ?_
      refine J_retX Tryd.func4 (by simp only [go_sem, ↓reduceIte, Int.reduceLT, Int.reduceLE, Int.reduceToNat, Int.reducePow, Int.reduceNeg, Nat.reduceBEq, Tryd.f4] <;> first | with_reducible rfl | rfl) ⟨rfl, rfl⟩
    by_cases hk200 : (200 : Int) < (key.length : Int)
    · refine J_mrun (own := []) (m := 2000) (by simp (maxSteps := 2000000) (disch := omega) only [go_sem, ↓reduceIte, Int.reduceLT, Int.reduceLE, Int.reduceToNat, Int.reducePow, Int.reduceNeg, Nat.reduceBEq, Tryd.ntmps4, eq_false hlx, eq_true hk200] <;> with_reducible rfl) ?_
      refine J_true (by simp only [go_sem, ↓reduceIte, Int.reduceLT, Int.reduceLE, Int.reduceToNat, Int.reducePow, Int.reduceNeg, Nat.reduceBEq] <;> with_reducible rfl) ?_
      refine J_mrun (own := []) (m := 2000) (by simp (maxSteps := 2000000) (disch := omega) only [go_sem, ↓reduceIte, Int.reduceLT, Int.reduceLE, Int.reduceToNat, Int.reducePow, Int.reduceNeg, Nat.reduceBEq, Tryd.ntmps4] <;> with_reducible rfl) ?_
      refine J_callg (by simp only [go_sem, ↓reduceIte, Int.reduceLT, Int.reduceLE, Int.reduceToNat, Int.reducePow, Int.reduceNeg, Nat.reduceBEq, Tryd.ntmps4] <;> with_reducible rfl) (by simp [GL]) (works_ok) ?_
      refine J_mrun (own := []) (m := 2000) (by simp (maxSteps := 2000000) (disch := omega) only [go_sem, ↓reduceIte, Int.reduceLT, Int.reduceLE, Int.reduceToNat, Int.reducePow, Int.reduceNeg, Nat.reduceBEq, Tryd.ntmps4] <;> with_reducible rfl) ?_
      refine J_forget ?_
      refine J_retX Tryd.func4 (by simp only [go_sem, ↓reduceIte, Int.reduceLT, Int.reduceLE, Int.reduceToNat, Int.reducePow, Int.reduceNeg, Nat.reduceBEq, Tryd.f4] <;> first | with_reducible rfl | rfl) ⟨rfl, rfl⟩
    have hlen := lightD_len hlt
    have hok := lightD_ok hlt
    have hxo := lightI_ok hlx x (List.mem_cons_self ..)
    refine J_mrun (own := []) (m := 2000) (by simp (maxSteps := 2000000) (disch := omega) only [go_sem, ↓reduceIte, Int.reduceLT, Int.reduceLE, Int.reduceToNat, Int.reducePow, Int.reduceNeg, Nat.reduceBEq, Tryd.ntmps4, eq_false hlx, eq_false hk200] <;> with_reducible rfl) ?_
    refine J_false (by simp only [go_sem, ↓reduceIte, Int.reduceLT, Int.reduceLE, Int.reduceToNat, Int.reducePow, Int.reduceNeg, Nat.reduceBEq] <;> with_reducible rfl) ?_
    refine J_mrun (own := []) (m := 2000) (by simp (maxSteps := 2000000) (disch := omega) only [go_sem, ↓reduceIte, Int.reduceLT, Int.reduceLE, Int.reduceToNat, Int.reducePow, Int.reduceNeg, Nat.reduceBEq, Tryd.ntmps4] <;> with_reducible rfl) ?_
    refine J_calls (by simp only [go_sem, ↓reduceIte, Int.reduceLT, Int.reduceLE, Int.reduceToNat, Int.reducePow, Int.reduceNeg, Nat.reduceBEq, Tryd.ntmps4] <;> with_reducible rfl) mnew_ok (Δ1 := []) (Fr := [GL]) (by simp) ?_ (by rintro x Δ' ⟨b, e1, _⟩; cases e1)
    rintro y D ⟨b, h1, hm0⟩
    cases h1
    refine J_perm List.perm_append_comm ?_
    refine J_mrun (own := []) (m := 2000) (by simp (maxSteps := 2000000) (disch := omega) only [go_sem, ↓reduceIte, Int.reduceLT, Int.reduceLE, Int.reduceToNat, Int.reducePow, Int.reduceNeg, Nat.reduceBEq, Tryd.ntmps4] <;> with_reducible rfl) ?_
    refine J_false (by simp only [go_sem, ↓reduceIte, Int.reduceLT, Int.reduceLE, Int.reduceToNat, Int.reducePow, Int.reduceNeg, Nat.reduceBEq] <;> with_reducible rfl) ?_
    refine J_mrun (own := []) (m := 2000) (by simp (maxSteps := 2000000) (disch := omega) only [go_sem, ↓reduceIte, Int.reduceLT, Int.reduceLE, Int.reduceToNat, Int.reducePow, Int.reduceNeg, Nat.reduceBEq, Tryd.ntmps4] <;> with_reducible rfl) ?_
    refine J_keep [0, 2, 3, 5, 9, 10] (by simp only [go_sem, ↓reduceIte, Int.reduceLT, Int.reduceLE, Int.reduceToNat, Int.reducePow, Int.reduceNeg, Nat.reduceBEq] <;> with_reducible rfl) ?_
    refine J_loopI (I := fun w e D => ∃ (i : Nat) (m : RM) (D1 : List HP), i ≤ l.length ∧ w = l.length - i ∧ Plain0 m i ∧ OwnM b m D1 ∧ D = GL :: D1 ∧ e = [(0, .sl 9 (opsD l)), (2, .c (.string (mkStr key))), (3, .c (.int .i64 a)), (5, .fp [.c (.string (mkStr x.key)), .c (.int .i64 x.ver), .c (.int .i64 x.asof), .c (.int .i64 x.ends), .sl 1 (bytesRows x.val)]), (9, .c (.pointer (some ⟨b, 0, none⟩))), (10, .c (.int .i64 i))]) ?_ ?_
    · exact ⟨_, 0, ⟨[], [], 0⟩, D, Nat.zero_le _, rfl, ⟨List.Pairwise.nil, rfl, Nat.le_refl _, by simp⟩, hm0, rfl, rfl⟩
    · rintro w e D ⟨i, m, D1, hi, rfl, hpl, hm, rfl, rfl⟩ ih
      have hlL := hpl.lL
      have hsF : SortedF m.F := by rw [hpl.F]; exact List.Pairwise.nil
      have hlF : m.F.length = 0 := by rw [hpl.F]; rfl
      refine J_mrun (own := []) (m := 2000) (by simp (maxSteps := 2000000) (disch := omega) only [go_sem, ↓reduceIte, Int.reduceLT, Int.reduceLE, Int.reduceToNat, Int.reducePow, Int.reduceNeg, Nat.reduceBEq, Tryd.ntmps4, opsD_len] <;> with_reducible rfl) ?_
      refine J_if (by simp only [go_sem, ↓reduceIte, Int.reduceLT, Int.reduceLE, Int.reduceToNat, Int.reducePow, Int.reduceNeg, Nat.reduceBEq] <;> with_reducible rfl) (fun hc => ?_) (fun hc => ?_)
      · have hlt : i < l.length := by omega
        have g1 := opsD_get (List.getElem?_eq_getElem hlt)
        have h0 : (0 : Int) ≤ (i : Int) := by omega
        obtain ⟨ho8, hox, hol⟩ := hok l[i] (List.getElem_mem _)
        generalize l[i] = o at *
        have hsm := mset_ok hm o.x hpl.sE hsF (by omega) (by omega)
        have hps := plain_set hpl hox
        simp only [Entry.av, Entry.cells] at hsm
        refine J_mrun (own := []) (m := 2000) (by simp (maxSteps := 2000000) (disch := omega) only [go_sem, ↓reduceIte, Int.reduceLT, Int.reduceLE, Int.reduceToNat, Int.reducePow, Int.reduceNeg, Nat.reduceBEq, Tryd.ntmps4, g1] <;> with_reducible rfl) ?_
        refine J_calls (by simp only [go_sem, ↓reduceIte, Int.reduceLT, Int.reduceLE, Int.reduceToNat, Int.reducePow, Int.reduceNeg, Nat.reduceBEq, Tryd.ntmps4] <;> with_reducible rfl) hsm (Δ1 := D1) (Fr := [GL]) (List.perm_append_comm (l₁ := [_])) ?_ (by rintro x Δ' ⟨⟨e, e1, _⟩, _⟩; cases e1)
        rintro y D2 ⟨⟨e, h1, he⟩, hm2⟩
        cases h1
        refine J_perm List.perm_append_comm ?_
        refine J_mrun (own := []) (m := 2000) (by simp (maxSteps := 2000000) (disch := omega) only [go_sem, ↓reduceIte, Int.reduceLT, Int.reduceLE, Int.reduceToNat, Int.reducePow, Int.reduceNeg, Nat.reduceBEq, Tryd.ntmps4] <;> with_reducible rfl) ?_
        refine J_keep [0, 2, 3, 5, 9, 10] (by simp only [go_sem, ↓reduceIte, Int.reduceLT, Int.reduceLE, Int.reduceToNat, Int.reducePow, Int.reduceNeg, Nat.reduceBEq] <;> with_reducible rfl) ?_
        refine ih _ _ _ ?_ ⟨i + 1, _, D2, hlt, rfl, hps, hm2, rfl, by simp only [Int.natCast_add, Int.cast_ofNat_Int]⟩
        omega
      · have hmg := mget_ok hm key hpl.sE (by omega)
        have hkeys : ∀ x ∈ m.L, x.key.length < 2 ^ 62 := fun x hx => by have := (hpl.ok x hx).1; omega
        have hmr := mraise_ok hm x.key a (by omega) hpl.sE hsF (by omega) (by omega) hkeys
        have hfold := raise_fold x.key (floorF (raiseP m.F (hash64 x.key) a) (hash64 x.key)) m.L { m with F := raiseP m.F (hash64 x.key) a }
        have hg2 := getE_raise m x.key key a
        have hmF : (raiseM m x.key a).F = raiseP m.F (hash64 x.key) a := hfold.1
        have hmL : (raiseM m x.key a).L.length ≤ m.L.length := hfold.2.1
        have hmS : SortedE (raiseM m x.key a).L := hfold.2.2.1 hpl.sE
        have hmO : ∀ y ∈ (raiseM m x.key a).L, y.key.length ≤ 200 ∧ y.val.length ≤ 5000 := fun y hy => hpl.ok y (hfold.2.2.2 y hy)
        have hflo : floorF (raiseM m x.key a).F (hash64 x.key) = if 0 < a then a else 0 := by
          rw [hmF, floorF_raiseP hsF, if_pos rfl, hpl.F]; rfl
        have hmSF : SortedF (raiseM m x.key a).F := by rw [hmF]; exact raiseP_sorted hsF _ _
        have hmLF : (raiseM m x.key a).F.length ≤ 1 := by rw [hmF]; have := raiseP_len m.F (hash64 x.key) a; omega
        generalize raiseM m x.key a = m2 at *
        have hbd := get_bound hpl.ok key
        have hsame := same06_ok ((getE m.L key).getD zeroE) ((getE m.L key).getD zeroE) hbd
        have hcode : checkCode x ≠ 0 → setRM m2 x = (m2, checkCode x) := fun h => by unfold setRM; rw [if_pos h]
        have hstale : checkCode x = 0 → x.asof < a → (setRM m2 x).2 = 10 := fun h h2 => by
          have := check_asof h
          unfold setRM; rw [if_neg (by simpa using h), if_pos (by rw [hflo]; split <;> omega)]
        have hgood : checkCode x = 0 → ¬ x.asof < a → setRM m2 x = ({ m2 with L := putL m2.L x }, 0) := fun h h2 => by
          have := check_asof h
          unfold setRM; rw [if_neg (by simpa using h), if_neg (by rw [hflo]; split <;> omega)]
        have hsame2 := same06_ok x x (by omega)
        simp only [Entry.av, Entry.cells, decide_true] at hmg hsame hsame2
        have hck := rcheck_ok x
        simp only [Entry.av, Entry.cells] at hck
        refine J_mrun (own := []) (m := 2000) (by simp (maxSteps := 2000000) (disch := omega) only [go_sem, ↓reduceIte, Int.reduceLT, Int.reduceLE, Int.reduceToNat, Int.reducePow, Int.reduceNeg, Nat.reduceBEq, Tryd.ntmps4] <;> with_reducible rfl) ?_
        refine J_callr (by simp only [go_sem, ↓reduceIte, Int.reduceLT, Int.reduceLE, Int.reduceToNat, Int.reducePow, Int.reduceNeg, Nat.reduceBEq, Tryd.ntmps4] <;> with_reducible rfl) (hmg.around (Fr := [_]) (List.perm_append_comm (l₁ := [_]))) ?_
        refine J_mrun (own := [11]) (m := 2000) (by simp (maxSteps := 2000000) (disch := omega) only [go_sem, ↓reduceIte, Int.reduceLT, Int.reduceLE, Int.reduceToNat, Int.reducePow, Int.reduceNeg, Nat.reduceBEq, Tryd.ntmps4] <;> with_reducible rfl) ?_
        refine J_newvar rfl (by simp only [go_sem, ↓reduceIte, Int.reduceLT, Int.reduceLE, Int.reduceToNat, Int.reducePow, Int.reduceNeg, Nat.reduceBEq, Tryd.ntmps4]) (by simp only [go_sem, ↓reduceIte, Int.reduceLT, Int.reduceLE, Int.reduceToNat, Int.reducePow, Int.reduceNeg, Nat.reduceBEq] <;> with_reducible rfl) (fun b11 hb11 => ?_)
        refine J_mrun (own := []) (m := 2000) (by simp (maxSteps := 2000000) (disch := omega) only [go_sem, ↓reduceIte, Int.reduceLT, Int.reduceLE, Int.reduceToNat, Int.reducePow, Int.reduceNeg, Nat.reduceBEq, Tryd.ntmps4] <;> with_reducible rfl) ?_
        refine J_calls (by simp only [go_sem, ↓reduceIte, Int.reduceLT, Int.reduceLE, Int.reduceToNat, Int.reducePow, Int.reduceNeg, Nat.reduceBEq, Tryd.ntmps4] <;> with_reducible rfl) hmr (Δ1 := D1) (Fr := [_, GL]) (List.perm_append_comm (l₁ := [_, _])) ?_ (by rintro x Δ' ⟨e1, _⟩; cases e1)
        rintro y D2 ⟨h1, hm2⟩
        cases h1
        refine J_perm List.perm_append_comm ?_
        have hmg2 := mget_ok hm2 key hmS (by omega)
        simp only [Entry.av, Entry.cells] at hmg2
        refine J_mrun (own := []) (m := 2000) (by simp (maxSteps := 2000000) (disch := omega) only [go_sem, ↓reduceIte, Int.reduceLT, Int.reduceLE, Int.reduceToNat, Int.reducePow, Int.reduceNeg, Nat.reduceBEq, Tryd.ntmps4] <;> with_reducible rfl) ?_
        refine J_callr (by simp only [go_sem, ↓reduceIte, Int.reduceLT, Int.reduceLE, Int.reduceToNat, Int.reducePow, Int.reduceNeg, Nat.reduceBEq, Tryd.ntmps4] <;> with_reducible rfl) (hmg2.around (Fr := [_, _]) (List.perm_append_comm (l₁ := [_, _]))) ?_
        refine J_mrun (own := [13]) (m := 2000) (by simp (maxSteps := 2000000) (disch := omega) only [go_sem, ↓reduceIte, Int.reduceLT, Int.reduceLE, Int.reduceToNat, Int.reducePow, Int.reduceNeg, Nat.reduceBEq, Tryd.ntmps4] <;> with_reducible rfl) ?_
        refine J_newvar rfl (by simp only [go_sem, ↓reduceIte, Int.reduceLT, Int.reduceLE, Int.reduceToNat, Int.reducePow, Int.reduceNeg, Nat.reduceBEq, Tryd.ntmps4]) (by simp only [go_sem, ↓reduceIte, Int.reduceLT, Int.reduceLE, Int.reduceToNat, Int.reducePow, Int.reduceNeg, Nat.reduceBEq] <;> with_reducible rfl) (fun b13 hb13 => ?_)
        simp only [fresh] at hb13
        refine J_mrun (own := []) (m := 2000) (by simp (maxSteps := 2000000) (disch := omega) only [go_sem, ↓reduceIte, Int.reduceLT, Int.reduceLE, Int.reduceToNat, Int.reducePow, Int.reduceNeg, Nat.reduceBEq, Tryd.ntmps4, hb13.1, hb13.2.1] <;> with_reducible rfl) ?_
        have hset := mset_ok hm2 x hmS hmSF (by omega) (by omega)
        have hputg := getE_put hmS x
        simp only [Entry.av, Entry.cells] at hset
        refine J_cut (fun e D => (∃ x1 x2, D = x1 :: x2 :: GL :: D2) ∧ e.keep [3, 5, 9, 82] = some [(3, .c (.int .i64 a)), (5, .fp [.c (.string (mkStr x.key)), .c (.int .i64 x.ver), .c (.int .i64 x.asof), .c (.int .i64 x.ends), .sl 1 (bytesRows x.val)]), (9, .c (.pointer (some ⟨b, 0, none⟩))), (82, .c (.bool false))]) ?_ ?_
        · rintro e D ⟨⟨x1, x2, rfl⟩, hkeep⟩
          refine J_drop (J_drop ?_)
          refine J_keep [3, 5, 9, 82] hkeep ?_
          refine J_false (by simp only [go_sem, ↓reduceIte, Int.reduceLT, Int.reduceLE, Int.reduceToNat, Int.reducePow, Int.reduceNeg, Nat.reduceBEq] <;> with_reducible rfl) ?_
          refine J_mrun (own := []) (m := 2000) (by simp (maxSteps := 2000000) (disch := omega) only [go_sem, ↓reduceIte, Int.reduceLT, Int.reduceLE, Int.reduceToNat, Int.reducePow, Int.reduceNeg, Nat.reduceBEq, Tryd.ntmps4] <;> with_reducible rfl) ?_
          refine J_calls (by simp only [go_sem, ↓reduceIte, Int.reduceLT, Int.reduceLE, Int.reduceToNat, Int.reducePow, Int.reduceNeg, Nat.reduceBEq, Tryd.ntmps4] <;> with_reducible rfl) hset (Δ1 := D2) (Fr := [GL]) (List.perm_append_comm (l₁ := [_])) ?_ (by rintro x Δ' ⟨⟨e, e1, _⟩, _⟩; cases e1)
          rintro y D3 ⟨⟨er, h1, he⟩, hm3⟩
          cases h1
          refine J_perm List.perm_append_comm ?_
          refine J_mrun (own := []) (m := 2000) (by simp (maxSteps := 2000000) (disch := omega) only [go_sem, ↓reduceIte, Int.reduceLT, Int.reduceLE, Int.reduceToNat, Int.reducePow, Int.reduceNeg, Nat.reduceBEq, Tryd.ntmps4] <;> with_reducible rfl) ?_
          refine J_callp (by simp only [go_sem, ↓reduceIte, Int.reduceLT, Int.reduceLE, Int.reduceToNat, Int.reducePow, Int.reduceNeg, Nat.reduceBEq, Tryd.ntmps4] <;> with_reducible rfl) (hck) ?_
          refine J_mrun (own := []) (m := 2000) (by simp (maxSteps := 2000000) (disch := omega) only [go_sem, ↓reduceIte, Int.reduceLT, Int.reduceLE, Int.reduceToNat, Int.reducePow, Int.reduceNeg, Nat.reduceBEq, Tryd.ntmps4] <;> with_reducible rfl) ?_
          refine J_if (by simp only [go_sem, ↓reduceIte, Int.reduceLT, Int.reduceLE, Int.reduceToNat, Int.reducePow, Int.reduceNeg, Nat.reduceBEq] <;> with_reducible rfl) (fun hc0 => ?_) (fun hc0 => ?_)
          · rw [hcode hc0] at he
            obtain ⟨t, z, rfl⟩ := isErrN he hc0
            refine J_mrun (own := []) (m := 2000) (by simp (maxSteps := 2000000) (disch := omega) only [go_sem, ↓reduceIte, Int.reduceLT, Int.reduceLE, Int.reduceToNat, Int.reducePow, Int.reduceNeg, Nat.reduceBEq, Tryd.ntmps4] <;> with_reducible rfl) ?_
            refine J_callg (by simp only [go_sem, ↓reduceIte, Int.reduceLT, Int.reduceLE, Int.reduceToNat, Int.reducePow, Int.reduceNeg, Nat.reduceBEq, Tryd.ntmps4] <;> with_reducible rfl) (by simp [GL]) (works_ok) ?_
            refine J_mrun (own := []) (m := 2000) (by simp (maxSteps := 2000000) (disch := omega) only [go_sem, ↓reduceIte, Int.reduceLT, Int.reduceLE, Int.reduceToNat, Int.reducePow, Int.reduceNeg, Nat.reduceBEq, Tryd.ntmps4] <;> with_reducible rfl) ?_
            refine J_forget ?_
            refine J_retX Tryd.func4 (by simp only [go_sem, ↓reduceIte, Int.reduceLT, Int.reduceLE, Int.reduceToNat, Int.reducePow, Int.reduceNeg, Nat.reduceBEq, Tryd.f4] <;> first | with_reducible rfl | rfl) ⟨rfl, rfl⟩
          · have hc0' : checkCode x = 0 := by omega
            refine J_mrun (own := []) (m := 2000) (by simp (maxSteps := 2000000) (disch := omega) only [go_sem, ↓reduceIte, Int.reduceLT, Int.reduceLE, Int.reduceToNat, Int.reducePow, Int.reduceNeg, Nat.reduceBEq, Tryd.ntmps4] <;> with_reducible rfl) ?_
            refine J_if (by simp only [go_sem, ↓reduceIte, Int.reduceLT, Int.reduceLE, Int.reduceToNat, Int.reducePow, Int.reduceNeg, Nat.reduceBEq] <;> with_reducible rfl) (fun hst => ?_) (fun hst => ?_)
            · rw [hstale hc0' hst] at he
              refine J_mrun (own := []) (m := 2000) (by simp (maxSteps := 2000000) (disch := omega) only [go_sem, ↓reduceIte, Int.reduceLT, Int.reduceLE, Int.reduceToNat, Int.reducePow, Int.reduceNeg, Nat.reduceBEq, Tryd.ntmps4] <;> with_reducible rfl) ?_
              refine J_callg (by simp only [go_sem, ↓reduceIte, Int.reduceLT, Int.reduceLE, Int.reduceToNat, Int.reducePow, Int.reduceNeg, Nat.reduceBEq, Tryd.ntmps4] <;> with_reducible rfl) (by simp [GL]) (of_ok he) ?_
              refine J_mrun (own := []) (m := 2000) (by simp (maxSteps := 2000000) (disch := omega) only [go_sem, ↓reduceIte, Int.reduceLT, Int.reduceLE, Int.reduceToNat, Int.reducePow, Int.reduceNeg, Nat.reduceBEq, Tryd.ntmps4] <;> with_reducible rfl) ?_
              refine J_callg (by simp only [go_sem, ↓reduceIte, Int.reduceLT, Int.reduceLE, Int.reduceToNat, Int.reducePow, Int.reduceNeg, Nat.reduceBEq, Tryd.ntmps4] <;> with_reducible rfl) (by simp [GL]) (works_ok) ?_
              refine J_mrun (own := []) (m := 2000) (by simp (maxSteps := 2000000) (disch := omega) only [go_sem, ↓reduceIte, Int.reduceLT, Int.reduceLE, Int.reduceToNat, Int.reducePow, Int.reduceNeg, Nat.reduceBEq, Tryd.ntmps4] <;> with_reducible rfl) ?_
              refine J_forget ?_
              refine J_retX Tryd.func4 (by simp only [go_sem, ↓reduceIte, Int.reduceLT, Int.reduceLE, Int.reduceToNat, Int.reducePow, Int.reduceNeg, Nat.reduceBEq, Tryd.f4] <;> first | with_reducible rfl | rfl) ⟨rfl, rfl⟩
            · have hg := hgood hc0' hst
              rw [hg] at he hm3
              obtain rfl := isErr0 he rfl
              have hmg3 := mget_ok hm3 x.key (put_sorted hmS x) (by have := putL_len m2.L x; show (putL m2.L x).length < _; omega)
              simp only [hputg, Option.getD_some, Option.isSome_some, Entry.av, Entry.cells] at hmg3
              refine J_mrun (own := []) (m := 2000) (by simp (maxSteps := 2000000) (disch := omega) only [go_sem, ↓reduceIte, Int.reduceLT, Int.reduceLE, Int.reduceToNat, Int.reducePow, Int.reduceNeg, Nat.reduceBEq, Tryd.ntmps4] <;> with_reducible rfl) ?_
              refine J_callr (by simp only [go_sem, ↓reduceIte, Int.reduceLT, Int.reduceLE, Int.reduceToNat, Int.reducePow, Int.reduceNeg, Nat.reduceBEq, Tryd.ntmps4] <;> with_reducible rfl) (hmg3.around (Fr := [_]) (List.perm_append_comm (l₁ := [_]))) ?_
              refine J_mrun (own := [16]) (m := 2000) (by simp (maxSteps := 2000000) (disch := omega) only [go_sem, ↓reduceIte, Int.reduceLT, Int.reduceLE, Int.reduceToNat, Int.reducePow, Int.reduceNeg, Nat.reduceBEq, Tryd.ntmps4] <;> with_reducible rfl) ?_
              refine J_newvar rfl (by simp only [go_sem, ↓reduceIte, Int.reduceLT, Int.reduceLE, Int.reduceToNat, Int.reducePow, Int.reduceNeg, Nat.reduceBEq, Tryd.ntmps4]) (by simp only [go_sem, ↓reduceIte, Int.reduceLT, Int.reduceLE, Int.reduceToNat, Int.reducePow, Int.reduceNeg, Nat.reduceBEq] <;> with_reducible rfl) (fun b16 hb16 => ?_)
              refine J_mrun (own := []) (m := 2000) (by simp (maxSteps := 2000000) (disch := omega) only [go_sem, ↓reduceIte, Int.reduceLT, Int.reduceLE, Int.reduceToNat, Int.reducePow, Int.reduceNeg, Nat.reduceBEq, Tryd.ntmps4] <;> with_reducible rfl) ?_
              refine J_callp (by simp only [go_sem, ↓reduceIte, Int.reduceLT, Int.reduceLE, Int.reduceToNat, Int.reducePow, Int.reduceNeg, Nat.reduceBEq, Tryd.ntmps4] <;> with_reducible rfl) (hsame2) ?_
              refine J_mrun (own := []) (m := 2000) (by simp (maxSteps := 2000000) (disch := omega) only [go_sem, ↓reduceIte, Int.reduceLT, Int.reduceLE, Int.reduceToNat, Int.reducePow, Int.reduceNeg, Nat.reduceBEq, Tryd.ntmps4] <;> with_reducible rfl) ?_
              refine J_callg (by simp only [go_sem, ↓reduceIte, Int.reduceLT, Int.reduceLE, Int.reduceToNat, Int.reducePow, Int.reduceNeg, Nat.reduceBEq, Tryd.ntmps4] <;> with_reducible rfl) (by simp [GL]) (works_ok) ?_
              refine J_mrun (own := []) (m := 2000) (by simp (maxSteps := 2000000) (disch := omega) only [go_sem, ↓reduceIte, Int.reduceLT, Int.reduceLE, Int.reduceToNat, Int.reducePow, Int.reduceNeg, Nat.reduceBEq, Tryd.ntmps4] <;> with_reducible rfl) ?_
              refine J_forget ?_
              refine J_retX Tryd.func4 (by simp only [go_sem, ↓reduceIte, Int.reduceLT, Int.reduceLE, Int.reduceToNat, Int.reducePow, Int.reduceNeg, Nat.reduceBEq, Tryd.f4] <;> first | with_reducible rfl | rfl) ⟨rfl, rfl⟩
        · intro hcut
          by_cases hh : hash64 key = hash64 x.key
          · refine J_draw [[], [0], [], [2], [0, 1, 2, 3], [0, 1, 2, 3, 4], [0, 1, 2, 3, 4, 5], [0, 1, 2, 3, 4, 5, 6], [0, 1, 2, 3, 4, 5, 6], [0, 1, 2, 3, 4, 5, 6, 7, 8], [0, 1, 2, 3, 4, 5, 6, 7, 8, 9], [0, 1, 2, 3, 4, 5, 6, 7, 8, 9, 10], [0, 1, 2, 3, 4, 5, 6, 7, 8, 9, 10], [0, 1, 2, 3, 4, 5, 6, 7, 8, 9, 10, 11, 12], [0, 1, 2, 3, 4, 5, 6, 7, 8, 9, 10, 11, 12, 13], [0, 1, 2, 3, 4, 5, 6, 7, 8, 9, 10, 11, 12, 13, 14], [0, 1, 2, 3, 4, 5, 6, 7, 8, 9, 10, 11, 12, 13, 14, 15]] [(0, .pure), (1, .pure), (2, .pure), (3, .pure), (4, .pure), (5, .pure), (6, .pure), (7, .pure), (8, .pure), (9, .pure), (10, .pure), (11, .read), (12, .read), (13, .pure), (14, .pure), (15, .pure), (16, .pure)] mixed (by kernel_rfl) ?_
            refine Can_run (own := []) (by simp (maxSteps := 2000000) (disch := omega) only [go_sem, ↓reduceIte, Int.reduceLT, Int.reduceLE, Int.reduceToNat, Int.reducePow, Int.reduceNeg, Nat.reduceBEq, Tryd.ntmps4] <;> with_reducible rfl) ?_
            refine Can_callp (by simp only [go_sem, ↓reduceIte, Int.reduceLT, Int.reduceLE, Int.reduceToNat, Int.reducePow, Int.reduceNeg, Nat.reduceBEq, Tryd.ntmps4] <;> with_reducible rfl) (rhash_ok key (by omega)) ?_
            refine Can_run (own := []) (by simp (maxSteps := 2000000) (disch := omega) only [go_sem, ↓reduceIte, Int.reduceLT, Int.reduceLE, Int.reduceToNat, Int.reducePow, Int.reduceNeg, Nat.reduceBEq, Tryd.ntmps4] <;> with_reducible rfl) ?_
            refine Can_callp (by simp only [go_sem, ↓reduceIte, Int.reduceLT, Int.reduceLE, Int.reduceToNat, Int.reducePow, Int.reduceNeg, Nat.reduceBEq, Tryd.ntmps4] <;> with_reducible rfl) (rhash_ok x.key (by omega)) ?_
            refine Can_run (own := []) (by simp (maxSteps := 2000000) (disch := omega) only [go_sem, ↓reduceIte, Int.reduceLT, Int.reduceLE, Int.reduceToNat, Int.reducePow, Int.reduceNeg, Nat.reduceBEq, Tryd.ntmps4, eq_true hh, ne_eq, not_true_eq_false, decide_false] <;> with_reducible rfl) ?_
            refine Can_nil ?_
            exact hcut _ _ ⟨⟨_, _, rfl⟩, by simp only [go_sem]⟩
          · have hgg := hg2 hh
            rw [hgg]
            generalize (getE m.L key).getD zeroE = y at *
            cases (getE m.L key).isSome with
            | false =>
              refine J_draw [[], [0], [], [2], [0, 1, 2, 3], [0, 1, 2, 3, 4], [0, 1, 2, 3, 4, 5], [0, 1, 2, 3, 4, 5, 6], [0, 1, 2, 3, 4, 5, 6], [0, 1, 2, 3, 4, 5, 6, 7, 8], [0, 1, 2, 3, 4, 5, 6, 7, 8, 9], [0, 1, 2, 3, 4, 5, 6, 7, 8, 9, 10], [0, 1, 2, 3, 4, 5, 6, 7, 8, 9, 10], [0, 1, 2, 3, 4, 5, 6, 7, 8, 9, 10, 11, 12], [0, 1, 2, 3, 4, 5, 6, 7, 8, 9, 10, 11, 12, 13], [0, 1, 2, 3, 4, 5, 6, 7, 8, 9, 10, 11, 12, 13, 14], [0, 1, 2, 3, 4, 5, 6, 7, 8, 9, 10, 11, 12, 13, 14, 15]] [(0, .pure), (1, .pure), (2, .pure), (3, .pure), (4, .pure), (5, .pure), (6, .pure), (7, .pure), (8, .pure), (9, .pure), (10, .pure), (11, .read), (12, .read), (13, .pure), (14, .pure), (15, .pure), (16, .pure)] mixed (by kernel_rfl) ?_
              refine Can_run (own := []) (by simp (maxSteps := 2000000) (disch := omega) only [go_sem, ↓reduceIte, Int.reduceLT, Int.reduceLE, Int.reduceToNat, Int.reducePow, Int.reduceNeg, Nat.reduceBEq, Tryd.ntmps4] <;> with_reducible rfl) ?_
              refine Can_callp (by simp only [go_sem, ↓reduceIte, Int.reduceLT, Int.reduceLE, Int.reduceToNat, Int.reducePow, Int.reduceNeg, Nat.reduceBEq, Tryd.ntmps4] <;> with_reducible rfl) (rhash_ok key (by omega)) ?_
              refine Can_run (own := []) (by simp (maxSteps := 2000000) (disch := omega) only [go_sem, ↓reduceIte, Int.reduceLT, Int.reduceLE, Int.reduceToNat, Int.reducePow, Int.reduceNeg, Nat.reduceBEq, Tryd.ntmps4] <;> with_reducible rfl) ?_
              refine Can_callp (by simp only [go_sem, ↓reduceIte, Int.reduceLT, Int.reduceLE, Int.reduceToNat, Int.reducePow, Int.reduceNeg, Nat.reduceBEq, Tryd.ntmps4] <;> with_reducible rfl) (rhash_ok x.key (by omega)) ?_
              refine Can_run (own := []) (by simp (maxSteps := 2000000) (disch := omega) only [go_sem, ↓reduceIte, Int.reduceLT, Int.reduceLE, Int.reduceToNat, Int.reducePow, Int.reduceNeg, Nat.reduceBEq, Tryd.ntmps4, eq_false hh, ne_eq, not_false_eq_true, decide_true, hb13.1, hb13.2.1] <;> with_reducible rfl) ?_
              refine Can_callp (by simp only [go_sem, ↓reduceIte, Int.reduceLT, Int.reduceLE, Int.reduceToNat, Int.reducePow, Int.reduceNeg, Nat.reduceBEq, Tryd.ntmps4] <;> with_reducible rfl) (hsame) ?_
              refine Can_run (own := []) (by simp (maxSteps := 2000000) (disch := omega) only [go_sem, ↓reduceIte, Int.reduceLT, Int.reduceLE, Int.reduceToNat, Int.reducePow, Int.reduceNeg, Nat.reduceBEq, Tryd.ntmps4, eq_false hh, ne_eq, not_false_eq_true, decide_true] <;> with_reducible rfl) ?_
              refine Can_nil ?_
              exact hcut _ _ ⟨⟨_, _, rfl⟩, by simp only [go_sem]⟩
            | true =>
              refine J_draw [[], [0], [], [2], [0, 1, 2, 3], [0, 1, 2, 3, 4], [0, 1, 2, 3, 4, 5], [0, 1, 2, 3, 4, 5, 6], [0, 1, 2, 3, 4, 5, 6], [0, 1, 2, 3, 4, 5, 6, 7, 8], [0, 1, 2, 3, 4, 5, 6, 7, 8, 9], [0, 1, 2, 3, 4, 5, 6, 7, 8, 9, 10], [0, 1, 2, 3, 4, 5, 6, 7, 8, 9, 10], [0, 1, 2, 3, 4, 5, 6, 7, 8, 9, 10, 11, 12], [0, 1, 2, 3, 4, 5, 6, 7, 8, 9, 10, 11, 12, 13], [0, 1, 2, 3, 4, 5, 6, 7, 8, 9, 10, 11, 12, 13, 14], [0, 1, 2, 3, 4, 5, 6, 7, 8, 9, 10, 11, 12, 13, 14, 15]] [(0, .pure), (1, .pure), (2, .pure), (3, .pure), (4, .pure), (5, .pure), (6, .pure), (7, .pure), (8, .pure), (9, .pure), (10, .pure), (11, .read), (12, .read), (13, .pure), (14, .pure), (15, .pure), (16, .pure)] mixed (by kernel_rfl) ?_
              refine Can_run (own := []) (by simp (maxSteps := 2000000) (disch := omega) only [go_sem, ↓reduceIte, Int.reduceLT, Int.reduceLE, Int.reduceToNat, Int.reducePow, Int.reduceNeg, Nat.reduceBEq, Tryd.ntmps4] <;> with_reducible rfl) ?_
              refine Can_callp (by simp only [go_sem, ↓reduceIte, Int.reduceLT, Int.reduceLE, Int.reduceToNat, Int.reducePow, Int.reduceNeg, Nat.reduceBEq, Tryd.ntmps4] <;> with_reducible rfl) (rhash_ok key (by omega)) ?_
              refine Can_run (own := []) (by simp (maxSteps := 2000000) (disch := omega) only [go_sem, ↓reduceIte, Int.reduceLT, Int.reduceLE, Int.reduceToNat, Int.reducePow, Int.reduceNeg, Nat.reduceBEq, Tryd.ntmps4] <;> with_reducible rfl) ?_
              refine Can_callp (by simp only [go_sem, ↓reduceIte, Int.reduceLT, Int.reduceLE, Int.reduceToNat, Int.reducePow, Int.reduceNeg, Nat.reduceBEq, Tryd.ntmps4] <;> with_reducible rfl) (rhash_ok x.key (by omega)) ?_
              refine Can_run (own := []) (by simp (maxSteps := 2000000) (disch := omega) only [go_sem, ↓reduceIte, Int.reduceLT, Int.reduceLE, Int.reduceToNat, Int.reducePow, Int.reduceNeg, Nat.reduceBEq, Tryd.ntmps4, eq_false hh, ne_eq, not_false_eq_true, decide_true, hb13.1, hb13.2.1] <;> with_reducible rfl) ?_
              refine Can_callp (by simp only [go_sem, ↓reduceIte, Int.reduceLT, Int.reduceLE, Int.reduceToNat, Int.reducePow, Int.reduceNeg, Nat.reduceBEq, Tryd.ntmps4] <;> with_reducible rfl) (hsame) ?_
              refine Can_run (own := []) (by simp (maxSteps := 2000000) (disch := omega) only [go_sem, ↓reduceIte, Int.reduceLT, Int.reduceLE, Int.reduceToNat, Int.reducePow, Int.reduceNeg, Nat.reduceBEq, Tryd.ntmps4, eq_false hh, ne_eq, not_false_eq_true, decide_true] <;> with_reducible rfl) ?_
              refine Can_nil ?_
              exact hcut _ _ ⟨⟨_, _, rfl⟩, by simp only [go_sem]⟩
end Go.Proofs.YtncincpkdphojaaDoor
end
