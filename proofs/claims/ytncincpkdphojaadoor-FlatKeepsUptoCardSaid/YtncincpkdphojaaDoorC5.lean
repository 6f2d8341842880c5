/- A part of the proof: what the calls do, told by values. -/
import Derived.Test.YtncincpkdphojaaDoorC4
section
namespace Go.Proofs.YtncincpkdphojaaDoor
open Go Go.Av
set_option linter.unusedVariables false
set_option linter.unusedSimpArgs false
set_option maxRecDepth 100000
set_option maxHeartbeats 4000000
attribute [local go_sem] Entry.av Entry.cells packed List.set_cons_zero List.set_cons_succ List.cons_append List.nil_append

theorem forget_sorted {m : RM} (h : SortedE m.L) (k : List UInt8) : SortedE (forgetRM m k).1.L := by
  unfold forgetRM; split
  · exact but_sorted h k
  · exact h

theorem mtold_ok {b : Nat} {m : RM} {Δ : List HP} (hm : OwnM b m Δ) (k : List UInt8) (x : Entry) (got : Bool) (hs : SortedE m.L) (hl : m.L.length < 2 ^ 30) : ACalls Tryd.prog 18 [.c (.pointer (some ⟨b, 0, none⟩)), .c (.string (mkStr k)), x.av, .c (.bool got)] Δ (fun r Δ' => r = .ret (.c (.bool (toldRM m k x got).2)) ∧ OwnM b (toldRM m k x got).1 Δ') := by
  have hfg := mforget_ok hm k hs hl
  have hgt := mget_ok hm k hs hl
  cases got with
  | false =>
    simp only [Entry.av, Entry.cells]
    refine calls_of_J cl_18 Tryd.func18 rfl (by simp [Tryd.ntmps18]) ?_
    refine J_mrun (own := []) (m := 2000) (by simp (maxSteps := 2000000) (disch := omega) only [go_sem, ↓reduceIte, Int.reduceLT, Int.reduceLE, Int.reduceToNat, Int.reducePow, Int.reduceNeg, Nat.reduceBEq, Tryd.ntmps18] <;> with_reducible rfl) ?_
    refine J_true (by simp only [go_sem, ↓reduceIte, Int.reduceLT, Int.reduceLE, Int.reduceToNat, Int.reducePow, Int.reduceNeg, Nat.reduceBEq] <;> with_reducible rfl) ?_
    refine J_mrun (own := []) (m := 2000) (by simp (maxSteps := 2000000) (disch := omega) only [go_sem, ↓reduceIte, Int.reduceLT, Int.reduceLE, Int.reduceToNat, Int.reducePow, Int.reduceNeg, Nat.reduceBEq, Tryd.ntmps18] <;> with_reducible rfl) ?_
    refine J_calls (by simp only [go_sem, ↓reduceIte, Int.reduceLT, Int.reduceLE, Int.reduceToNat, Int.reducePow, Int.reduceNeg, Nat.reduceBEq, Tryd.ntmps18] <;> with_reducible rfl) hfg (Δ1 := Δ) (Fr := []) (by simp) ?_ (by rintro x Δ' ⟨e1, _⟩; cases e1)
    rintro y D' ⟨h1, h2⟩
    cases h1
    rw [List.append_nil]
    refine J_mrun (own := []) (m := 2000) (by simp (maxSteps := 2000000) (disch := omega) only [go_sem, ↓reduceIte, Int.reduceLT, Int.reduceLE, Int.reduceToNat, Int.reducePow, Int.reduceNeg, Nat.reduceBEq, Tryd.ntmps18] <;> with_reducible rfl) ?_
    refine J_retX Tryd.func18 (by simp only [go_sem, ↓reduceIte, Int.reduceLT, Int.reduceLE, Int.reduceToNat, Int.reducePow, Int.reduceNeg, Nat.reduceBEq, Tryd.f18] <;> first | with_reducible rfl | rfl) ⟨rfl, h2⟩
  | true =>
    cases hg : getE m.L k with
    | none =>
      have e1 : toldRM m k x true = (m, false) := by simp [toldRM, hg]
      rw [e1]
      simp only [hg, Option.getD_none, Option.isSome_none, zeroE, bytesRows] at hgt
      simp only [Entry.av, Entry.cells] at hgt ⊢
      refine calls_of_J cl_18 Tryd.func18 rfl (by simp [Tryd.ntmps18]) ?_
      refine J_mrun (own := []) (m := 2000) (by simp (maxSteps := 2000000) (disch := omega) only [go_sem, ↓reduceIte, Int.reduceLT, Int.reduceLE, Int.reduceToNat, Int.reducePow, Int.reduceNeg, Nat.reduceBEq, Tryd.ntmps18] <;> with_reducible rfl) ?_
      refine J_false (by simp only [go_sem, ↓reduceIte, Int.reduceLT, Int.reduceLE, Int.reduceToNat, Int.reducePow, Int.reduceNeg, Nat.reduceBEq] <;> with_reducible rfl) ?_
      refine J_mrun (own := []) (m := 2000) (by simp (maxSteps := 2000000) (disch := omega) only [go_sem, ↓reduceIte, Int.reduceLT, Int.reduceLE, Int.reduceToNat, Int.reducePow, Int.reduceNeg, Nat.reduceBEq, Tryd.ntmps18] <;> with_reducible rfl) ?_
      refine J_callr (by simp only [go_sem, ↓reduceIte, Int.reduceLT, Int.reduceLE, Int.reduceToNat, Int.reducePow, Int.reduceNeg, Nat.reduceBEq, Tryd.ntmps18] <;> with_reducible rfl) (hgt) ?_
      refine J_mrun (own := [9]) (m := 2000) (by simp (maxSteps := 2000000) (disch := omega) only [go_sem, ↓reduceIte, Int.reduceLT, Int.reduceLE, Int.reduceToNat, Int.reducePow, Int.reduceNeg, Nat.reduceBEq, Tryd.ntmps18] <;> with_reducible rfl) ?_
      refine J_newvar rfl (by simp only [go_sem, ↓reduceIte, Int.reduceLT, Int.reduceLE, Int.reduceToNat, Int.reducePow, Int.reduceNeg, Nat.reduceBEq, Tryd.ntmps18]) (by simp only [go_sem, ↓reduceIte, Int.reduceLT, Int.reduceLE, Int.reduceToNat, Int.reducePow, Int.reduceNeg, Nat.reduceBEq] <;> with_reducible rfl) (fun b9 hb9 => ?_)
      refine J_mrun (own := []) (m := 2000) (by simp (maxSteps := 2000000) (disch := omega) only [go_sem, ↓reduceIte, Int.reduceLT, Int.reduceLE, Int.reduceToNat, Int.reducePow, Int.reduceNeg, Nat.reduceBEq, Tryd.ntmps18] <;> with_reducible rfl) ?_
      refine J_forgetP ?_
      refine J_retX Tryd.func18 (by simp only [go_sem, ↓reduceIte, Int.reduceLT, Int.reduceLE, Int.reduceToNat, Int.reducePow, Int.reduceNeg, Nat.reduceBEq, Tryd.f18] <;> first | with_reducible rfl | rfl) ⟨[_], _, List.Perm.refl _, rfl, hm⟩
    | some y =>
      have e1 : toldRM m k x true = (m, decide (x.key = k ∧ x = y)) := by simp [toldRM, hg]
      rw [e1]
      have hsm := isame_ok x y
      simp only [hg, Option.getD_some, Option.isSome_some] at hgt
      simp only [Entry.av, Entry.cells] at hgt hsm ⊢
      refine calls_of_J cl_18 Tryd.func18 rfl (by simp [Tryd.ntmps18]) ?_
      refine J_mrun (own := []) (m := 2000) (by simp (maxSteps := 2000000) (disch := omega) only [go_sem, ↓reduceIte, Int.reduceLT, Int.reduceLE, Int.reduceToNat, Int.reducePow, Int.reduceNeg, Nat.reduceBEq, Tryd.ntmps18] <;> with_reducible rfl) ?_
      refine J_false (by simp only [go_sem, ↓reduceIte, Int.reduceLT, Int.reduceLE, Int.reduceToNat, Int.reducePow, Int.reduceNeg, Nat.reduceBEq] <;> with_reducible rfl) ?_
      refine J_mrun (own := []) (m := 2000) (by simp (maxSteps := 2000000) (disch := omega) only [go_sem, ↓reduceIte, Int.reduceLT, Int.reduceLE, Int.reduceToNat, Int.reducePow, Int.reduceNeg, Nat.reduceBEq, Tryd.ntmps18] <;> with_reducible rfl) ?_
      refine J_callr (by simp only [go_sem, ↓reduceIte, Int.reduceLT, Int.reduceLE, Int.reduceToNat, Int.reducePow, Int.reduceNeg, Nat.reduceBEq, Tryd.ntmps18] <;> with_reducible rfl) (hgt) ?_
      by_cases hk : x.key = k
      · refine J_mrun (own := [9]) (m := 2000) (by simp (maxSteps := 2000000) (disch := omega) only [go_sem, ↓reduceIte, Int.reduceLT, Int.reduceLE, Int.reduceToNat, Int.reducePow, Int.reduceNeg, Nat.reduceBEq, Tryd.ntmps18] <;> with_reducible rfl) ?_
        refine J_newvar rfl (by simp only [go_sem, ↓reduceIte, Int.reduceLT, Int.reduceLE, Int.reduceToNat, Int.reducePow, Int.reduceNeg, Nat.reduceBEq, Tryd.ntmps18]) (by simp only [go_sem, ↓reduceIte, Int.reduceLT, Int.reduceLE, Int.reduceToNat, Int.reducePow, Int.reduceNeg, Nat.reduceBEq] <;> with_reducible rfl) (fun b9 hb9 => ?_)
        refine J_mrun (own := []) (m := 2000) (by simp (maxSteps := 2000000) (disch := omega) only [go_sem, ↓reduceIte, Int.reduceLT, Int.reduceLE, Int.reduceToNat, Int.reducePow, Int.reduceNeg, Nat.reduceBEq, Tryd.ntmps18, eq_true hk] <;> with_reducible rfl) ?_
        refine J_callp (by simp only [go_sem, ↓reduceIte, Int.reduceLT, Int.reduceLE, Int.reduceToNat, Int.reducePow, Int.reduceNeg, Nat.reduceBEq, Tryd.ntmps18] <;> with_reducible rfl) (hsm) ?_
        refine J_mrun (own := []) (m := 2000) (by simp (maxSteps := 2000000) (disch := omega) only [go_sem, ↓reduceIte, Int.reduceLT, Int.reduceLE, Int.reduceToNat, Int.reducePow, Int.reduceNeg, Nat.reduceBEq, Tryd.ntmps18, eq_true hk] <;> with_reducible rfl) ?_
        refine J_forgetP ?_
        refine J_retX Tryd.func18 (by simp only [go_sem, ↓reduceIte, Int.reduceLT, Int.reduceLE, Int.reduceToNat, Int.reducePow, Int.reduceNeg, Nat.reduceBEq, Tryd.f18] <;> first | with_reducible rfl | rfl) ⟨[_], _, List.Perm.refl _, by simp [hk], hm⟩
      · refine J_mrun (own := [9]) (m := 2000) (by simp (maxSteps := 2000000) (disch := omega) only [go_sem, ↓reduceIte, Int.reduceLT, Int.reduceLE, Int.reduceToNat, Int.reducePow, Int.reduceNeg, Nat.reduceBEq, Tryd.ntmps18] <;> with_reducible rfl) ?_
        refine J_newvar rfl (by simp only [go_sem, ↓reduceIte, Int.reduceLT, Int.reduceLE, Int.reduceToNat, Int.reducePow, Int.reduceNeg, Nat.reduceBEq, Tryd.ntmps18]) (by simp only [go_sem, ↓reduceIte, Int.reduceLT, Int.reduceLE, Int.reduceToNat, Int.reducePow, Int.reduceNeg, Nat.reduceBEq] <;> with_reducible rfl) (fun b9 hb9 => ?_)
        refine J_mrun (own := []) (m := 2000) (by simp (maxSteps := 2000000) (disch := omega) only [go_sem, ↓reduceIte, Int.reduceLT, Int.reduceLE, Int.reduceToNat, Int.reducePow, Int.reduceNeg, Nat.reduceBEq, Tryd.ntmps18, eq_false hk] <;> with_reducible rfl) ?_
        refine J_forgetP ?_
        refine J_retX Tryd.func18 (by simp only [go_sem, ↓reduceIte, Int.reduceLT, Int.reduceLE, Int.reduceToNat, Int.reducePow, Int.reduceNeg, Nat.reduceBEq, Tryd.f18] <;> first | with_reducible rfl | rfl) ⟨[_], _, List.Perm.refl _, by simp [hk], hm⟩

theorem set_snd {α : Type} {C : List α} {n : Nat} {c0 c1 a : α} {rest : List α} (h : C.drop n = [c0, c1] ++ rest) : C.take (n + 1) ++ [a] ++ C.drop (n + 1 + 1) = C.take n ++ [c0, a] ++ C.drop (n + 2) := by
  rw [List.take_add, h]; simp

def raiseM (m : RM) (k : List UInt8) (a : Int) : RM :=
  let F' := raiseP m.F (hash64 k) a
  m.L.foldl (raiseStep k (floorF F' (hash64 k))) { m with F := F' }

theorem raiseStep_sorted {k : List UInt8} {fl : Int} {o : RM} (h : SortedE o.L) (x : Entry) : SortedE (raiseStep k fl o x).L := by
  unfold raiseStep; split
  · exact forget_sorted h _
  · exact h

theorem mraise_ok {b : Nat} {m : RM} {Δ : List HP} (hm : OwnM b m Δ) (k : List UInt8) (a : Int) (hk : k.length < 2 ^ 62) (hs : SortedE m.L) (hf : SortedF m.F) (hl : m.L.length < 2 ^ 30) (hlf : m.F.length < 2 ^ 29) (hkeys : ∀ x ∈ m.L, x.key.length < 2 ^ 62) :
    ACalls Tryd.prog 14 [.c (.pointer (some ⟨b, 0, none⟩)), .c (.string (mkStr k)), .c (.int .i64 a)] Δ (fun r Δ' => r = .ret (.tup []) ∧ OwnM b (raiseM m k a) Δ') := by
  have hfs := raiseP_sorted hf (hash64 k) a
  have hfl := raiseP_len m.F (hash64 k) a
  cases hm with
  | @mk vl vf Dl Df howl howf =>
  have hsl := fun Δ Fr hp => searchFl (Δ := Δ) (Fr := Fr) howf (hash64 k) hf (by omega) hp
  obtain ⟨c, hcc⟩ : ∃ c, c = has (hashC (hash64 k)) m.F := ⟨_, rfl⟩
  refine calls_of_J cl_14 Tryd.func14 rfl (by simp [Tryd.ntmps14]) ?_
  refine J_mrun (own := []) (m := 2000) (by simp (maxSteps := 2000000) (disch := omega) only [go_sem, ↓reduceIte, Int.reduceLT, Int.reduceLE, Int.reduceToNat, Int.reducePow, Int.reduceNeg, Nat.reduceBEq, Tryd.ntmps14] <;> with_reducible rfl) ?_
  refine J_callp (by simp only [go_sem, ↓reduceIte, Int.reduceLT, Int.reduceLE, Int.reduceToNat, Int.reducePow, Int.reduceNeg, Nat.reduceBEq, Tryd.ntmps14] <;> with_reducible rfl) (bhash_ok k hk) ?_
  refine J_mrun (own := []) (m := 2000) (by simp (maxSteps := 2000000) (disch := omega) only [go_sem, ↓reduceIte, Int.reduceLT, Int.reduceLE, Int.reduceToNat, Int.reducePow, Int.reduceNeg, Nat.reduceBEq, Tryd.ntmps14] <;> with_reducible rfl) ?_
  refine J_callr (by simp only [go_sem, ↓reduceIte, Int.reduceLT, Int.reduceLE, Int.reduceToNat, Int.reducePow, Int.reduceNeg, Nat.reduceBEq, Tryd.ntmps14] <;> with_reducible rfl) (hsl _ _ (List.perm_append_comm (l₁ := _ :: Dl) (l₂ := Df))) ?_
  refine J_mrun (own := []) (m := 2000) (by simp (maxSteps := 2000000) (disch := omega) only [go_sem, ↓reduceIte, Int.reduceLT, Int.reduceLE, Int.reduceToNat, Int.reducePow, Int.reduceNeg, Nat.reduceBEq, Tryd.ntmps14] <;> with_reducible rfl) ?_
  refine J_cut (fun e D => (∃ D0, D.Perm D0 ∧ OwnM b { m with F := raiseP m.F (hash64 k) a } D0) ∧ e.keep [0, 1, 6] = some [(0, .c (.pointer (some ⟨b, 0, none⟩))), (1, .c (.string (mkStr k))), (6, .c (.int .u64 (hash64 k)))]) ?_ ?_
  · rintro e D ⟨⟨D0, hperm, hown⟩, hkeep⟩
    refine J_perm hperm ?_
    refine J_keep [0, 1, 6] hkeep ?_
    have hall := mall_ok hown hl
    refine J_mrun (own := []) (m := 2000) (by simp (maxSteps := 2000000) (disch := omega) only [go_sem, ↓reduceIte, Int.reduceLT, Int.reduceLE, Int.reduceToNat, Int.reducePow, Int.reduceNeg, Nat.reduceBEq, Tryd.ntmps14] <;> with_reducible rfl) ?_
    refine J_callr (by simp only [go_sem, ↓reduceIte, Int.reduceLT, Int.reduceLE, Int.reduceToNat, Int.reducePow, Int.reduceNeg, Nat.reduceBEq, Tryd.ntmps14] <;> with_reducible rfl) (hall) ?_
    refine J_mrun (own := []) (m := 2000) (by simp (maxSteps := 2000000) (disch := omega) only [go_sem, ↓reduceIte, Int.reduceLT, Int.reduceLE, Int.reduceToNat, Int.reducePow, Int.reduceNeg, Nat.reduceBEq, Tryd.ntmps14, ents_len] <;> with_reducible rfl) ?_
    generalize hF' : raiseP m.F (hash64 k) a = F' at *
    refine J_keep [0, 1, 6, 59, 60, 61] (by simp only [go_sem, ↓reduceIte, Int.reduceLT, Int.reduceLE, Int.reduceToNat, Int.reducePow, Int.reduceNeg, Nat.reduceBEq] <;> with_reducible rfl) ?_
    refine J_loopI (I := fun w e D => ∃ (i : Nat) (o : RM), i ≤ m.L.length ∧ w = m.L.length - i ∧ o = (m.L.take i).foldl (raiseStep k (floorF F' (hash64 k))) { m with F := F' } ∧ o.F = F' ∧ o.L.length ≤ m.L.length ∧ SortedE o.L ∧ OwnM b o D ∧ e = [(0, .c (.pointer (some ⟨b, 0, none⟩))), (1, .c (.string (mkStr k))), (6, .c (.int .u64 (hash64 k))), (59, .sl 5 (ents m.L)), (60, .c (.int .i64 m.L.length)), (61, .c (.int .i64 i))]) ?_ ?_
    · exact ⟨_, 0, { m with F := F' }, Nat.zero_le _, rfl, rfl, rfl, Nat.le_refl _, hs, hown, rfl⟩
    · rintro w e D ⟨i, o, hi, rfl, ho, hoF, hoL, hoS, hoO, rfl⟩ ih
      refine J_mrun (own := []) (m := 2000) (by simp (maxSteps := 2000000) (disch := omega) only [go_sem, ↓reduceIte, Int.reduceLT, Int.reduceLE, Int.reduceToNat, Int.reducePow, Int.reduceNeg, Nat.reduceBEq, Tryd.ntmps14] <;> with_reducible rfl) ?_
      refine J_if (by simp only [go_sem, ↓reduceIte, Int.reduceLT, Int.reduceLE, Int.reduceToNat, Int.reducePow, Int.reduceNeg, Nat.reduceBEq] <;> with_reducible rfl) (fun hc => ?_) (fun hc => ?_)
      · have hlt : i < m.L.length := by omega
        have g0 := List.getElem?_eq_getElem hlt
        have g1 := ents_get g0
        have h0 : (0 : Int) ≤ (i : Int) := by omega
        have hkx := hkeys m.L[i] (List.getElem_mem _)
        have e1 : (m.L.take (i + 1)).foldl (raiseStep k (floorF F' (hash64 k))) { m with F := F' } = raiseStep k (floorF F' (hash64 k)) o m.L[i] := by
          rw [foldl_snoc hlt, ← ho]
        have fl_ok := mfloor_ok hoO k hk (by rw [hoF]; exact hfs) (by rw [hoF]; omega)
        have fg_ok := mforget_ok hoO m.L[i].key hoS (by omega)
        rw [hoF] at fl_ok
        refine J_mrun (own := [10]) (m := 2000) (by simp (maxSteps := 2000000) (disch := omega) only [go_sem, ↓reduceIte, Int.reduceLT, Int.reduceLE, Int.reduceToNat, Int.reducePow, Int.reduceNeg, Nat.reduceBEq, Tryd.ntmps14, g1] <;> with_reducible rfl) ?_
        refine J_newvar rfl (by simp only [go_sem, ↓reduceIte, Int.reduceLT, Int.reduceLE, Int.reduceToNat, Int.reducePow, Int.reduceNeg, Nat.reduceBEq, Tryd.ntmps14]) (by simp only [go_sem, ↓reduceIte, Int.reduceLT, Int.reduceLE, Int.reduceToNat, Int.reducePow, Int.reduceNeg, Nat.reduceBEq] <;> with_reducible rfl) (fun b10 hb10 => ?_)
        refine J_mrun (own := []) (m := 2000) (by simp (maxSteps := 2000000) (disch := omega) only [go_sem, ↓reduceIte, Int.reduceLT, Int.reduceLE, Int.reduceToNat, Int.reducePow, Int.reduceNeg, Nat.reduceBEq, Tryd.ntmps14] <;> with_reducible rfl) ?_
        by_cases h1 : hash64 m.L[i].key = hash64 k
        · refine J_draw [[], [0], [0, 1], [], [0, 1, 2, 3], [0, 1, 2, 3, 4], [0, 1, 2, 3, 4, 5], [0, 1, 2, 3, 4, 5, 6], [0, 1, 2, 3, 4, 5], [0, 1, 2, 3, 4, 5], [0, 1, 2, 3, 4, 5, 8, 9], [0, 1, 2, 3, 4, 5, 6, 7, 8, 9, 10], [0, 1, 2, 3, 4, 5, 6, 7, 8, 9, 10, 11]] [(0, .pure), (1, .read), (2, .pure), (3, .pure), (4, .pure), (5, .pure), (6, .pure), (7, .read), (8, .pure), (9, .pure), (10, .read), (11, .pure), (12, .pure)] mixed (by kernel_rfl) ?_
          refine Can_run (own := []) (by simp (maxSteps := 2000000) (disch := omega) only [go_sem, ↓reduceIte, Int.reduceLT, Int.reduceLE, Int.reduceToNat, Int.reducePow, Int.reduceNeg, Nat.reduceBEq, Tryd.ntmps14] <;> with_reducible rfl) ?_
          refine Can_callp (by simp only [go_sem, ↓reduceIte, Int.reduceLT, Int.reduceLE, Int.reduceToNat, Int.reducePow, Int.reduceNeg, Nat.reduceBEq, Tryd.ntmps14] <;> with_reducible rfl) (bhash_ok m.L[i].key hkx) ?_
          refine Can_run (own := []) (by simp (maxSteps := 2000000) (disch := omega) only [go_sem, ↓reduceIte, Int.reduceLT, Int.reduceLE, Int.reduceToNat, Int.reducePow, Int.reduceNeg, Nat.reduceBEq, Tryd.ntmps14, eq_true h1] <;> with_reducible rfl) ?_
          refine Can_callr (by simp only [go_sem, ↓reduceIte, Int.reduceLT, Int.reduceLE, Int.reduceToNat, Int.reducePow, Int.reduceNeg, Nat.reduceBEq, Tryd.ntmps14] <;> with_reducible rfl) (fl_ok.around (Fr := [_]) (List.perm_append_comm (l₁ := [_]))) ?_
          refine Can_run (own := []) (by simp (maxSteps := 2000000) (disch := omega) only [go_sem, ↓reduceIte, Int.reduceLT, Int.reduceLE, Int.reduceToNat, Int.reducePow, Int.reduceNeg, Nat.reduceBEq, Tryd.ntmps14, eq_true h1] <;> with_reducible rfl) ?_
          refine Can_nil ?_
          refine J_if (by simp only [go_sem, ↓reduceIte, Int.reduceLT, Int.reduceLE, Int.reduceToNat, Int.reducePow, Int.reduceNeg, Nat.reduceBEq] <;> with_reducible rfl) (fun h2 => ?_) (fun h2 => ?_)
          · refine J_mrun (own := []) (m := 2000) (by simp (maxSteps := 2000000) (disch := omega) only [go_sem, ↓reduceIte, Int.reduceLT, Int.reduceLE, Int.reduceToNat, Int.reducePow, Int.reduceNeg, Nat.reduceBEq, Tryd.ntmps14] <;> with_reducible rfl) ?_
            refine J_calls (by simp only [go_sem, ↓reduceIte, Int.reduceLT, Int.reduceLE, Int.reduceToNat, Int.reducePow, Int.reduceNeg, Nat.reduceBEq, Tryd.ntmps14] <;> with_reducible rfl) fg_ok (Δ1 := D) (Fr := [_]) (List.perm_append_comm (l₁ := [_])) ?_ (by rintro x Δ' ⟨e1, _⟩; cases e1)
            rintro y D' ⟨h3, h4⟩
            cases h3
            refine J_perm List.perm_append_comm (J_drop ?_)
            refine J_mrun (own := []) (m := 2000) (by simp (maxSteps := 2000000) (disch := omega) only [go_sem, ↓reduceIte, Int.reduceLT, Int.reduceLE, Int.reduceToNat, Int.reducePow, Int.reduceNeg, Nat.reduceBEq, Tryd.ntmps14] <;> with_reducible rfl) ?_
            refine J_keep [0, 1, 6, 59, 60, 61] (by simp only [go_sem, ↓reduceIte, Int.reduceLT, Int.reduceLE, Int.reduceToNat, Int.reducePow, Int.reduceNeg, Nat.reduceBEq] <;> with_reducible rfl) ?_
            refine ih _ _ _ ?_ ⟨i + 1, _, hlt, rfl, e1.symm, ?_, ?_, ?_, ?_, by simp only [Int.natCast_add, Int.cast_ofNat_Int]⟩
            · omega
            · rw [raiseStep_F, hoF]
            · exact Nat.le_trans (raiseStep_len _ _ _ _) hoL
            · exact raiseStep_sorted hoS _
            · unfold raiseStep
              rw [if_pos ⟨h1, h2⟩]
              exact h4
          · refine J_mrun (own := []) (m := 2000) (by simp (maxSteps := 2000000) (disch := omega) only [go_sem, ↓reduceIte, Int.reduceLT, Int.reduceLE, Int.reduceToNat, Int.reducePow, Int.reduceNeg, Nat.reduceBEq, Tryd.ntmps14] <;> with_reducible rfl) ?_
            refine J_drop ?_
            refine J_keep [0, 1, 6, 59, 60, 61] (by simp only [go_sem, ↓reduceIte, Int.reduceLT, Int.reduceLE, Int.reduceToNat, Int.reducePow, Int.reduceNeg, Nat.reduceBEq] <;> with_reducible rfl) ?_
            refine ih _ _ _ ?_ ⟨i + 1, _, hlt, rfl, e1.symm, ?_, ?_, ?_, ?_, by simp only [Int.natCast_add, Int.cast_ofNat_Int]⟩
            · omega
            · rw [raiseStep_F, hoF]
            · exact Nat.le_trans (raiseStep_len _ _ _ _) hoL
            · exact raiseStep_sorted hoS _
            · unfold raiseStep
              rw [if_neg (fun h => h2 h.2)]
              exact hoO
        · refine J_draw [[], [0], [0, 1], [], [0, 1, 2, 3], [0, 1, 2, 3, 4], [0, 1, 2, 3, 4, 5], [0, 1, 2, 3, 4, 5, 6], [0, 1, 2, 3, 4, 5], [0, 1, 2, 3, 4, 5], [0, 1, 2, 3, 4, 5, 8, 9], [0, 1, 2, 3, 4, 5, 6, 7, 8, 9, 10], [0, 1, 2, 3, 4, 5, 6, 7, 8, 9, 10, 11]] [(0, .pure), (1, .read), (2, .pure), (3, .pure), (4, .pure), (5, .pure), (6, .pure), (7, .read), (8, .pure), (9, .pure), (10, .read), (11, .pure), (12, .pure)] mixed (by kernel_rfl) ?_
          refine Can_run (own := []) (by simp (maxSteps := 2000000) (disch := omega) only [go_sem, ↓reduceIte, Int.reduceLT, Int.reduceLE, Int.reduceToNat, Int.reducePow, Int.reduceNeg, Nat.reduceBEq, Tryd.ntmps14] <;> with_reducible rfl) ?_
          refine Can_callp (by simp only [go_sem, ↓reduceIte, Int.reduceLT, Int.reduceLE, Int.reduceToNat, Int.reducePow, Int.reduceNeg, Nat.reduceBEq, Tryd.ntmps14] <;> with_reducible rfl) (bhash_ok m.L[i].key hkx) ?_
          refine Can_run (own := []) (by simp (maxSteps := 2000000) (disch := omega) only [go_sem, ↓reduceIte, Int.reduceLT, Int.reduceLE, Int.reduceToNat, Int.reducePow, Int.reduceNeg, Nat.reduceBEq, Tryd.ntmps14, eq_false h1] <;> with_reducible rfl) ?_
          refine Can_nil ?_
          refine J_false (by simp only [go_sem, ↓reduceIte, Int.reduceLT, Int.reduceLE, Int.reduceToNat, Int.reducePow, Int.reduceNeg, Nat.reduceBEq] <;> with_reducible rfl) ?_
          refine J_mrun (own := []) (m := 2000) (by simp (maxSteps := 2000000) (disch := omega) only [go_sem, ↓reduceIte, Int.reduceLT, Int.reduceLE, Int.reduceToNat, Int.reducePow, Int.reduceNeg, Nat.reduceBEq, Tryd.ntmps14] <;> with_reducible rfl) ?_
          refine J_drop ?_
          refine J_keep [0, 1, 6, 59, 60, 61] (by simp only [go_sem, ↓reduceIte, Int.reduceLT, Int.reduceLE, Int.reduceToNat, Int.reducePow, Int.reduceNeg, Nat.reduceBEq] <;> with_reducible rfl) ?_
          refine ih _ _ _ ?_ ⟨i + 1, _, hlt, rfl, e1.symm, ?_, ?_, ?_, ?_, by simp only [Int.natCast_add, Int.cast_ofNat_Int]⟩
          · omega
          · rw [raiseStep_F, hoF]
          · exact Nat.le_trans (raiseStep_len _ _ _ _) hoL
          · exact raiseStep_sorted hoS _
          · unfold raiseStep
            rw [if_neg (fun h => h1 h.1)]
            exact hoO
      · have hi' : i = m.L.length := by omega
        subst hi'
        rw [List.take_length] at ho
        refine J_mrun (own := []) (m := 2000) (by simp (maxSteps := 2000000) (disch := omega) only [go_sem, ↓reduceIte, Int.reduceLT, Int.reduceLE, Int.reduceToNat, Int.reducePow, Int.reduceNeg, Nat.reduceBEq, Tryd.ntmps14] <;> with_reducible rfl) ?_
        refine J_end Tryd.func14 (xs := []) (by rfl) ⟨rfl, by unfold raiseM; simp only [hF']; rw [← ho]; exact hoO⟩
  · intro hcut
    cases hh : has (hashC (hash64 k)) m.F with
    | false =>
      simp only [Bool.not_false]
      refine J_true (by simp only [go_sem, ↓reduceIte, Int.reduceLT, Int.reduceLE, Int.reduceToNat, Int.reducePow, Int.reduceNeg, Nat.reduceBEq] <;> with_reducible rfl) ?_
      refine J_mrun (own := []) (m := 2000) (by simp (maxSteps := 2000000) (disch := omega) only [go_sem, ↓reduceIte, Int.reduceLT, Int.reduceLE, Int.reduceToNat, Int.reducePow, Int.reduceNeg, Nat.reduceBEq, Tryd.ntmps14] <;> with_reducible rfl) ?_
      refine J_calls (by simp only [go_sem, ↓reduceIte, Int.reduceLT, Int.reduceLE, Int.reduceToNat, Int.reducePow, Int.reduceNeg, Nat.reduceBEq, Tryd.ntmps14] <;> with_reducible rfl) (insF_ok (flos m.F) (flos_row _) (flos_cell _) [.c (.int .u64 (hash64 k)), .c (.int .i64 (max a 0))] rfl rfl (low (hashC (hash64 k)) m.F) (by rw [flos_len]; exact low_le _ _) (by rw [flos_len]; omega) howf) (Δ1 := Df) (Fr := .box b 69 [.c vl, .c vf, .c (.int .i64 m.n)] :: Dl) (List.perm_append_comm (l₁ := _ :: Dl) (l₂ := Df)) ?_ (by rintro x Δ' ⟨v, e1, _⟩; cases e1)
      rintro x D' ⟨v', h1, how'⟩
      cases h1
      have er : m.F.take (low (hashC (hash64 k)) m.F) ++ ⟨hash64 k, max a 0⟩ :: m.F.drop (low (hashC (hash64 k)) m.F) = raiseP m.F (hash64 k) a := by unfold raiseP; rw [hh, if_neg (by simp)]
      have how2 : Own 87 2 (flos (raiseP m.F (hash64 k) a)).flatten (flos (raiseP m.F (hash64 k) a)).length v' D' := by
        have h3 := flos_ins m.F ⟨hash64 k, max a 0⟩ (low (hashC (hash64 k)) m.F)
        simp only [Flo.cells] at h3
        rw [h3, er] at how'
        have h4 : (flos m.F).length + 1 = (flos (raiseP m.F (hash64 k) a)).length := by
          have := low_le (hashC (hash64 k)) m.F
          rw [← er]; simp only [flos_len, List.length_append, List.length_cons, List.length_take, List.length_drop]; omega
        rw [h4] at how'
        exact how'
      obtain ⟨va, vc, rfl⟩ := how2.slice
      refine J_perm List.perm_append_comm ?_
      refine J_mrunK hcut (own := []) (m := 300) (by simp (maxSteps := 2000000) (disch := omega) only [go_sem, ↓reduceIte, Int.reduceLT, Int.reduceLE, Int.reduceToNat, Int.reducePow, Int.reduceNeg, Nat.reduceBEq, Tryd.ntmps14] <;> with_reducible rfl) ?_
      exact ⟨⟨_, List.Perm.refl _, .mk (m := { m with F := raiseP m.F (hash64 k) a }) howl how2⟩, by simp only [go_sem]⟩
    | true =>
      have hlt := has_lt hh
      have g0 := List.getElem?_eq_getElem hlt
      have hy : m.F[low (hashC (hash64 k)) m.F].hash = hash64 k := by
        have := hh
        unfold has at this
        rw [g0] at this
        have h9 : decide (hashC (hash64 k) m.F[low (hashC (hash64 k)) m.F] = 0) = true := this
        exact cmpI_zero.1 (of_decide_eq_true h9)
      have hfp : floorP m.F (hash64 k) = m.F[low (hashC (hash64 k)) m.F].at_ := by simp [floorP, hh, g0]
      cases howf with
      | nil _ h => rw [flos_len] at h; omega
      | box bf capf spf q1 q2 q3 =>
      refine J_perm (Δ' := .box b 69 [.c vl, .c (.slice (some ⟨bf, 0, none⟩) (flos m.F).length capf), .c (.int .i64 m.n)] :: .box bf 87 ((flos m.F).flatten ++ spf) :: Dl) (List.Perm.cons _ List.perm_append_comm) ?_
      refine J_ne2 fun n1 n2 => ?_
      have hd := get_row (sp := spf) (flos_row m.F) (flos_get g0)
      rw [hy] at hd
      have hd1 : (((flos m.F).flatten ++ spf).drop (low (hashC (hash64 k)) m.F * 2 + 1))[0]? = some (.c (.int .i64 (m.F[low (hashC (hash64 k)) m.F].at_))) := by rw [← List.drop_drop, hd]; rfl
      simp only [Bool.not_true]
      refine J_false (by simp only [go_sem, ↓reduceIte, Int.reduceLT, Int.reduceLE, Int.reduceToNat, Int.reducePow, Int.reduceNeg, Nat.reduceBEq] <;> with_reducible rfl) ?_
      refine J_mrun (own := []) (m := 2000) (by simp (maxSteps := 2000000) (disch := omega) only [go_sem, ↓reduceIte, Int.reduceLT, Int.reduceLE, Int.reduceToNat, Int.reducePow, Int.reduceNeg, Nat.reduceBEq, Tryd.ntmps14, n1, n2, flos_len, hd1] <;> with_reducible rfl) ?_
      have hstay : ¬ m.F[low (hashC (hash64 k)) m.F].at_ < a → m.F = raiseP m.F (hash64 k) a := by
        intro h2; unfold raiseP; rw [if_pos hh, hfp, if_neg h2]
      refine J_if (by simp only [go_sem, ↓reduceIte, Int.reduceLT, Int.reduceLE, Int.reduceToNat, Int.reducePow, Int.reduceNeg, Nat.reduceBEq] <;> with_reducible rfl) (fun h2 => ?_) (fun h2 => ?_)
      · have er : m.F.set (low (hashC (hash64 k)) m.F) ⟨hash64 k, a⟩ = raiseP m.F (hash64 k) a := by unfold raiseP; rw [if_pos hh, hfp, if_pos h2]
        have hrow := set_row (sp := spf) (x := [.c (.int .u64 (hash64 k)), .c (.int .i64 a)]) (flos_row m.F) (i := low (hashC (hash64 k)) m.F) (by rw [flos_len]; exact hlt) rfl
        have hst : (flos m.F).set (low (hashC (hash64 k)) m.F) [.c (.int .u64 (hash64 k)), .c (.int .i64 a)] = flos (raiseP m.F (hash64 k) a) := by
          rw [← er, ← flos_set]; rfl
        rw [hst, ← set_snd hd] at hrow
        have hin : (low (hashC (hash64 k)) m.F * 2 + 1 + 1 ≤ ((flos m.F).flatten ++ spf).length) = True := eq_true (by rw [List.length_append, q1, flos_len]; omega)
        have hlen : (flos (raiseP m.F (hash64 k) a)).length = m.F.length := by rw [← er, flos_len, List.length_set]
        have h3 : Own 87 2 (flos (raiseP m.F (hash64 k) a)).flatten (flos (raiseP m.F (hash64 k) a)).length (.slice (some ⟨bf, 0, none⟩) m.F.length capf) [.box bf 87 ((flos (raiseP m.F (hash64 k) a)).flatten ++ spf)] := by
          rw [hlen]
          exact .box bf capf spf (by rw [flat_len (flos_row _), hlen]) (by rw [q2, flos_len]) (by rw [flos_len] at q3; exact q3)
        rw [← hrow] at h3
        refine J_mrunK hcut (own := []) (m := 300) (by simp (maxSteps := 2000000) (disch := omega) only [go_sem, ↓reduceIte, Int.reduceLT, Int.reduceLE, Int.reduceToNat, Int.reducePow, Int.reduceNeg, Nat.reduceBEq, Tryd.ntmps14, n1, n2, flos_len, hin] <;> with_reducible rfl) ?_
        exact ⟨⟨_, List.Perm.cons _ (List.perm_append_comm (l₁ := [_])), .mk (m := { m with F := raiseP m.F (hash64 k) a }) howl h3⟩, by simp only [go_sem]⟩
      · refine J_mrunK hcut (own := []) (m := 300) (by simp (maxSteps := 2000000) (disch := omega) only [go_sem, ↓reduceIte, Int.reduceLT, Int.reduceLE, Int.reduceToNat, Int.reducePow, Int.reduceNeg, Nat.reduceBEq, Tryd.ntmps14] <;> with_reducible rfl) ?_
        exact ⟨⟨_, List.Perm.cons _ (List.perm_append_comm (l₁ := [_])), by
          rw [← hstay h2]
          have h5 := OwnM.mk (b := b) (m := m) howl (.box bf capf spf q1 q2 q3)
          rw [flos_len] at h5
          exact h5⟩, by simp only [go_sem]⟩
end Go.Proofs.YtncincpkdphojaaDoor
end

section
namespace Go.Proofs.YtncincpkdphojaaDoor
open Go Go.Av
set_option linter.unusedVariables false
set_option linter.unusedSimpArgs false
set_option maxRecDepth 100000
set_option maxHeartbeats 4000000
attribute [local go_sem] Entry.av Entry.cells packed List.set_cons_zero List.set_cons_succ List.cons_append List.nil_append

theorem wcls_ok (y x : Entry) : ACalls Tryd.prog 51 [y.av, .fp x.cells] [] (Ret (.c (.bool (decide (y.key = x.key))))) := by
  simp only [Entry.av, Entry.cells]
  refine calls_of_J cl_51 Tryd.func51 rfl (by simp [Tryd.ntmps51]) ?_
  refine J_mrun (own := []) (m := 2000) (by simp (maxSteps := 2000000) (disch := omega) only [go_sem, ↓reduceIte, Int.reduceLT, Int.reduceLE, Int.reduceToNat, Int.reducePow, Int.reduceNeg, Nat.reduceBEq, Tryd.ntmps51] <;> with_reducible rfl) ?_
  refine J_retX Tryd.func51 (by simp only [go_sem, ↓reduceIte, Int.reduceLT, Int.reduceLE, Int.reduceToNat, Int.reducePow, Int.reduceNeg, Nat.reduceBEq, Tryd.f51] <;> first | with_reducible rfl | rfl) ⟨rfl, rfl⟩

theorem indexF_ok (l : List Entry) (x : Entry) (hl : l.length < 2 ^ 62) : ACalls Tryd.prog 72 [.sl 5 (ents l), .fn (.func 51) [] [.fp x.cells]] [] (Ret (.c (.int .i64 (findI l x.key)))) := by
  refine calls_of_J cl_72 Tryd.func72 rfl (by simp [Tryd.ntmps72]) ?_
  refine J_mrun (own := []) (m := 2000) (by simp (maxSteps := 2000000) (disch := omega) only [go_sem, ↓reduceIte, Int.reduceLT, Int.reduceLE, Int.reduceToNat, Int.reducePow, Int.reduceNeg, Nat.reduceBEq, Tryd.ntmps72, ents_len] <;> with_reducible rfl) ?_
  refine J_keep [0, 1, 7, 8] (by simp only [go_sem, ↓reduceIte, Int.reduceLT, Int.reduceLE, Int.reduceToNat, Int.reducePow, Int.reduceNeg, Nat.reduceBEq] <;> with_reducible rfl) ?_
  refine J_loopI (I := fun m e D => ∃ i : Nat, i ≤ l.length ∧ m = l.length - i ∧ D = [] ∧ (∀ j (h : j < l.length), j < i → l[j].key ≠ x.key) ∧ e = [(0, .sl 5 (ents l)), (1, .fn (.func 51) [] [.fp x.cells]), (7, .c (.int .i64 l.length)), (8, .c (.int .i64 i))]) ?_ ?_
  · exact ⟨_, 0, Nat.zero_le _, rfl, rfl, by simp, rfl⟩
  · rintro m e D ⟨i, hi, rfl, rfl, hn, rfl⟩ ih
    refine J_mrun (own := []) (m := 2000) (by simp (maxSteps := 2000000) (disch := omega) only [go_sem, ↓reduceIte, Int.reduceLT, Int.reduceLE, Int.reduceToNat, Int.reducePow, Int.reduceNeg, Nat.reduceBEq, Tryd.ntmps72] <;> with_reducible rfl) ?_
    refine J_if (by simp only [go_sem, ↓reduceIte, Int.reduceLT, Int.reduceLE, Int.reduceToNat, Int.reducePow, Int.reduceNeg, Nat.reduceBEq] <;> with_reducible rfl) (fun hc => ?_) (fun hc => ?_)
    · have hlt : i < l.length := by omega
      have g1 := ents_get (List.getElem?_eq_getElem hlt)
      have h0 : (0 : Int) ≤ (i : Int) := by omega
      have hw := wcls_ok l[i] x
      simp only [Entry.av, Entry.cells] at hw
      refine J_mrun (own := []) (m := 2000) (by simp (maxSteps := 2000000) (disch := omega) only [go_sem, ↓reduceIte, Int.reduceLT, Int.reduceLE, Int.reduceToNat, Int.reducePow, Int.reduceNeg, Nat.reduceBEq, Tryd.ntmps72, g1] <;> with_reducible rfl) ?_
      refine J_callp (by simp only [go_sem, ↓reduceIte, Int.reduceLT, Int.reduceLE, Int.reduceToNat, Int.reducePow, Int.reduceNeg, Nat.reduceBEq, Tryd.ntmps72] <;> with_reducible rfl) (hw) ?_
      refine J_mrun (own := []) (m := 2000) (by simp (maxSteps := 2000000) (disch := omega) only [go_sem, ↓reduceIte, Int.reduceLT, Int.reduceLE, Int.reduceToNat, Int.reducePow, Int.reduceNeg, Nat.reduceBEq, Tryd.ntmps72] <;> with_reducible rfl) ?_
      refine J_if (by simp only [go_sem, ↓reduceIte, Int.reduceLT, Int.reduceLE, Int.reduceToNat, Int.reducePow, Int.reduceNeg, Nat.reduceBEq] <;> with_reducible rfl) (fun hd => ?_) (fun hd => ?_)
      · refine J_mrun (own := []) (m := 2000) (by simp (maxSteps := 2000000) (disch := omega) only [go_sem, ↓reduceIte, Int.reduceLT, Int.reduceLE, Int.reduceToNat, Int.reducePow, Int.reduceNeg, Nat.reduceBEq, Tryd.ntmps72] <;> with_reducible rfl) ?_
        refine J_retX Tryd.func72 (by simp only [go_sem, ↓reduceIte, Int.reduceLT, Int.reduceLE, Int.reduceToNat, Int.reducePow, Int.reduceNeg, Nat.reduceBEq, Tryd.f72] <;> first | with_reducible rfl | rfl) ⟨by
          have : findE l x.key = some i := by
            unfold findE
            rw [List.findIdx?_eq_some_iff_getElem]
            exact ⟨hlt, by simpa using hd, fun j hj => by simpa using hn j (by omega) hj⟩
          simp [findI, this], rfl⟩
      · refine J_mrun (own := []) (m := 2000) (by simp (maxSteps := 2000000) (disch := omega) only [go_sem, ↓reduceIte, Int.reduceLT, Int.reduceLE, Int.reduceToNat, Int.reducePow, Int.reduceNeg, Nat.reduceBEq, Tryd.ntmps72] <;> with_reducible rfl) ?_
        refine J_keep [0, 1, 7, 8] (by simp only [go_sem, ↓reduceIte, Int.reduceLT, Int.reduceLE, Int.reduceToNat, Int.reducePow, Int.reduceNeg, Nat.reduceBEq] <;> with_reducible rfl) ?_
        refine ih _ _ _ ?_ ⟨i + 1, hlt, rfl, rfl, ?_, by simp only [Int.natCast_add, Int.cast_ofNat_Int, Entry.cells]⟩
        · omega
        · intro j h hj
          rcases Nat.lt_succ_iff_lt_or_eq.1 hj with h1 | rfl
          · exact hn j h h1
          · exact hd
    · have hi' : i = l.length := by omega
      subst hi'
      have hno : findE l x.key = none := by
        unfold findE
        rw [List.findIdx?_eq_none_iff]
        intro y hy
        obtain ⟨j, hj, rfl⟩ := List.mem_iff_getElem.1 hy
        simpa using hn j hj hj
      refine J_mrun (own := []) (m := 2000) (by simp (maxSteps := 2000000) (disch := omega) only [go_sem, ↓reduceIte, Int.reduceLT, Int.reduceLE, Int.reduceToNat, Int.reducePow, Int.reduceNeg, Nat.reduceBEq, Tryd.ntmps72] <;> with_reducible rfl) ?_
      refine J_retX Tryd.func72 (by simp only [go_sem, ↓reduceIte, Int.reduceLT, Int.reduceLE, Int.reduceToNat, Int.reducePow, Int.reduceNeg, Nat.reduceBEq, Tryd.f72] <;> first | with_reducible rfl | rfl) ⟨by simp [findI, hno], rfl⟩

theorem containsF_ok (l : List Entry) (x : Entry) (hl : l.length < 2 ^ 62) : ACalls Tryd.prog 50 [.sl 5 (ents l), .fn (.func 51) [] [.fp x.cells]] [] (Ret (.c (.bool (findE l x.key).isSome))) := by
  have h := indexF_ok l x hl
  have he : decide ((0 : Int) ≤ findI l x.key) = (findE l x.key).isSome := by
    unfold findI; split
    · rename_i i hi; rw [hi]; simp
    · rename_i hi; rw [hi]; simp
  simp only [Entry.cells] at h ⊢
  refine calls_of_J cl_50 Tryd.func50 rfl (by simp [Tryd.ntmps50]) ?_
  refine J_mrun (own := []) (m := 2000) (by simp (maxSteps := 2000000) (disch := omega) only [go_sem, ↓reduceIte, Int.reduceLT, Int.reduceLE, Int.reduceToNat, Int.reducePow, Int.reduceNeg, Nat.reduceBEq, Tryd.ntmps50] <;> with_reducible rfl) ?_
  refine J_callp (by simp only [go_sem, ↓reduceIte, Int.reduceLT, Int.reduceLE, Int.reduceToNat, Int.reducePow, Int.reduceNeg, Nat.reduceBEq, Tryd.ntmps50] <;> with_reducible rfl) (h) ?_
  refine J_mrun (own := []) (m := 2000) (by simp (maxSteps := 2000000) (disch := omega) only [go_sem, ↓reduceIte, Int.reduceLT, Int.reduceLE, Int.reduceToNat, Int.reducePow, Int.reduceNeg, Nat.reduceBEq, Tryd.ntmps50, he] <;> with_reducible rfl) ?_
  refine J_retX Tryd.func50 (by simp only [go_sem, ↓reduceIte, Int.reduceLT, Int.reduceLE, Int.reduceToNat, Int.reducePow, Int.reduceNeg, Nat.reduceBEq, Tryd.f50] <;> first | with_reducible rfl | rfl) ⟨rfl, rfl⟩

theorem withinStep_sorted {l : List Entry} {o : RM} (h : SortedE o.L) (x : Entry) : SortedE (withinStep l o x).L := by
  unfold withinStep; split
  · exact forget_sorted h _
  · exact h

theorem mwithin_ok {b : Nat} {m : RM} {Δ : List HP} (hm : OwnM b m Δ) (l : List Entry) (hs : SortedE m.L) (hl : m.L.length < 2 ^ 30) (hl2 : l.length < 2 ^ 30) :
    ACalls Tryd.prog 20 [.c (.pointer (some ⟨b, 0, none⟩)), .sl 5 (ents l)] Δ (fun r Δ' => r = .ret (.c (.bool (withinRM m l).2)) ∧ OwnM b (withinRM m l).1 Δ') := by
  have hgt := fun k => mget_ok hm k hs hl
  have hall := mall_ok hm hl
  refine calls_of_J cl_20 Tryd.func20 rfl (by simp [Tryd.ntmps20]) ?_
  refine J_mrun (own := []) (m := 2000) (by simp (maxSteps := 2000000) (disch := omega) only [go_sem, ↓reduceIte, Int.reduceLT, Int.reduceLE, Int.reduceToNat, Int.reducePow, Int.reduceNeg, Nat.reduceBEq, Tryd.ntmps20, ents_len] <;> with_reducible rfl) ?_
  refine J_keep [0, 1, 11, 12, 13] (by simp only [go_sem, ↓reduceIte, Int.reduceLT, Int.reduceLE, Int.reduceToNat, Int.reducePow, Int.reduceNeg, Nat.reduceBEq] <;> with_reducible rfl) ?_
  refine J_loopI (I := fun w e D => ∃ i : Nat, i ≤ l.length ∧ w = l.length - i ∧ (∀ j (h : j < l.length), j < i → getE m.L l[j].key = some l[j]) ∧ D = Δ ∧ e = [(0, .c (.pointer (some ⟨b, 0, none⟩))), (1, .sl 5 (ents l)), (11, .sl 5 (ents l)), (12, .c (.int .i64 l.length)), (13, .c (.int .i64 i))]) ?_ ?_
  · exact ⟨_, 0, Nat.zero_le _, rfl, by simp, rfl, rfl⟩
  · rintro w e D ⟨i, hi, rfl, hin, rfl, rfl⟩ ih
    refine J_mrun (own := []) (m := 2000) (by simp (maxSteps := 2000000) (disch := omega) only [go_sem, ↓reduceIte, Int.reduceLT, Int.reduceLE, Int.reduceToNat, Int.reducePow, Int.reduceNeg, Nat.reduceBEq, Tryd.ntmps20] <;> with_reducible rfl) ?_
    refine J_if (by simp only [go_sem, ↓reduceIte, Int.reduceLT, Int.reduceLE, Int.reduceToNat, Int.reducePow, Int.reduceNeg, Nat.reduceBEq] <;> with_reducible rfl) (fun hc => ?_) (fun hc => ?_)
    · have hlt : i < l.length := by omega
      have g0 := List.getElem?_eq_getElem hlt
      have g1 := ents_get g0
      have h0 : (0 : Int) ≤ (i : Int) := by omega
      have hgt' := hgt l[i].key
      refine J_mrun (own := [6]) (m := 2000) (by simp (maxSteps := 2000000) (disch := omega) only [go_sem, ↓reduceIte, Int.reduceLT, Int.reduceLE, Int.reduceToNat, Int.reducePow, Int.reduceNeg, Nat.reduceBEq, Tryd.ntmps20, g1] <;> with_reducible rfl) ?_
      refine J_newvar rfl (by simp only [go_sem, ↓reduceIte, Int.reduceLT, Int.reduceLE, Int.reduceToNat, Int.reducePow, Int.reduceNeg, Nat.reduceBEq, Tryd.ntmps20]) (by simp only [go_sem, ↓reduceIte, Int.reduceLT, Int.reduceLE, Int.reduceToNat, Int.reducePow, Int.reduceNeg, Nat.reduceBEq] <;> with_reducible rfl) (fun b6 hb6 => ?_)
      refine J_mrun (own := []) (m := 2000) (by simp (maxSteps := 2000000) (disch := omega) only [go_sem, ↓reduceIte, Int.reduceLT, Int.reduceLE, Int.reduceToNat, Int.reducePow, Int.reduceNeg, Nat.reduceBEq, Tryd.ntmps20] <;> with_reducible rfl) ?_
      cases hg : getE m.L l[i].key with
      | none =>
        have e1 : inAll m l = false := inAll_not hlt (by rw [hg]; simp)
        simp only [hg, Option.getD_none, Option.isSome_none, zeroE, bytesRows] at hgt'
        simp only [Entry.av, Entry.cells] at hgt'
        refine J_callr (by simp only [go_sem, ↓reduceIte, Int.reduceLT, Int.reduceLE, Int.reduceToNat, Int.reducePow, Int.reduceNeg, Nat.reduceBEq, Tryd.ntmps20] <;> with_reducible rfl) (hgt'.around (Fr := [_]) (List.perm_append_comm (l₁ := [_]))) ?_
        refine J_mrun (own := [7]) (m := 2000) (by simp (maxSteps := 2000000) (disch := omega) only [go_sem, ↓reduceIte, Int.reduceLT, Int.reduceLE, Int.reduceToNat, Int.reducePow, Int.reduceNeg, Nat.reduceBEq, Tryd.ntmps20] <;> with_reducible rfl) ?_
        refine J_newvar rfl (by simp only [go_sem, ↓reduceIte, Int.reduceLT, Int.reduceLE, Int.reduceToNat, Int.reducePow, Int.reduceNeg, Nat.reduceBEq, Tryd.ntmps20]) (by simp only [go_sem, ↓reduceIte, Int.reduceLT, Int.reduceLE, Int.reduceToNat, Int.reducePow, Int.reduceNeg, Nat.reduceBEq] <;> with_reducible rfl) (fun b7 hb7 => ?_)
        simp only [fresh] at hb7
        refine J_mrun (own := []) (m := 2000) (by simp (maxSteps := 2000000) (disch := omega) only [go_sem, ↓reduceIte, Int.reduceLT, Int.reduceLE, Int.reduceToNat, Int.reducePow, Int.reduceNeg, Nat.reduceBEq, Tryd.ntmps20, hb7.1, hb7.2.1] <;> with_reducible rfl) ?_
        refine J_true (by simp only [go_sem, ↓reduceIte, Int.reduceLT, Int.reduceLE, Int.reduceToNat, Int.reducePow, Int.reduceNeg, Nat.reduceBEq] <;> with_reducible rfl) ?_
        refine J_mrun (own := []) (m := 2000) (by simp (maxSteps := 2000000) (disch := omega) only [go_sem, ↓reduceIte, Int.reduceLT, Int.reduceLE, Int.reduceToNat, Int.reducePow, Int.reduceNeg, Nat.reduceBEq, Tryd.ntmps20] <;> with_reducible rfl) ?_
        refine J_forgetP ?_
        refine J_retX Tryd.func20 (by simp only [go_sem, ↓reduceIte, Int.reduceLT, Int.reduceLE, Int.reduceToNat, Int.reducePow, Int.reduceNeg, Nat.reduceBEq, Tryd.f20] <;> first | with_reducible rfl | rfl) ⟨[_, _], _, List.Perm.refl _, by rw [withinRM, if_neg (by simp [e1])], by rw [withinRM, if_neg (by simp [e1])]; exact hm⟩
      | some y =>
        have hsm := isame_ok l[i] y
        simp only [hg, Option.getD_some, Option.isSome_some] at hgt'
        simp only [Entry.av, Entry.cells] at hgt' hsm
        refine J_callr (by simp only [go_sem, ↓reduceIte, Int.reduceLT, Int.reduceLE, Int.reduceToNat, Int.reducePow, Int.reduceNeg, Nat.reduceBEq, Tryd.ntmps20] <;> with_reducible rfl) (hgt'.around (Fr := [_]) (List.perm_append_comm (l₁ := [_]))) ?_
        refine J_mrun (own := [7]) (m := 2000) (by simp (maxSteps := 2000000) (disch := omega) only [go_sem, ↓reduceIte, Int.reduceLT, Int.reduceLE, Int.reduceToNat, Int.reducePow, Int.reduceNeg, Nat.reduceBEq, Tryd.ntmps20] <;> with_reducible rfl) ?_
        refine J_newvar rfl (by simp only [go_sem, ↓reduceIte, Int.reduceLT, Int.reduceLE, Int.reduceToNat, Int.reducePow, Int.reduceNeg, Nat.reduceBEq, Tryd.ntmps20]) (by simp only [go_sem, ↓reduceIte, Int.reduceLT, Int.reduceLE, Int.reduceToNat, Int.reducePow, Int.reduceNeg, Nat.reduceBEq] <;> with_reducible rfl) (fun b7 hb7 => ?_)
        simp only [fresh] at hb7
        refine J_mrun (own := []) (m := 2000) (by simp (maxSteps := 2000000) (disch := omega) only [go_sem, ↓reduceIte, Int.reduceLT, Int.reduceLE, Int.reduceToNat, Int.reducePow, Int.reduceNeg, Nat.reduceBEq, Tryd.ntmps20, hb7.1, hb7.2.1] <;> with_reducible rfl) ?_
        refine J_callp (by simp only [go_sem, ↓reduceIte, Int.reduceLT, Int.reduceLE, Int.reduceToNat, Int.reducePow, Int.reduceNeg, Nat.reduceBEq, Tryd.ntmps20] <;> with_reducible rfl) (hsm) ?_
        refine J_mrun (own := []) (m := 2000) (by simp (maxSteps := 2000000) (disch := omega) only [go_sem, ↓reduceIte, Int.reduceLT, Int.reduceLE, Int.reduceToNat, Int.reducePow, Int.reduceNeg, Nat.reduceBEq, Tryd.ntmps20] <;> with_reducible rfl) ?_
        by_cases h1 : l[i] = y
        · simp only [h1, decide_true, Bool.not_true]
          refine J_false (by simp only [go_sem, ↓reduceIte, Int.reduceLT, Int.reduceLE, Int.reduceToNat, Int.reducePow, Int.reduceNeg, Nat.reduceBEq] <;> with_reducible rfl) ?_
          refine J_mrun (own := []) (m := 2000) (by simp (maxSteps := 2000000) (disch := omega) only [go_sem, ↓reduceIte, Int.reduceLT, Int.reduceLE, Int.reduceToNat, Int.reducePow, Int.reduceNeg, Nat.reduceBEq, Tryd.ntmps20] <;> with_reducible rfl) ?_
          refine J_drop (J_drop ?_)
          refine J_keep [0, 1, 11, 12, 13] (by simp only [go_sem, ↓reduceIte, Int.reduceLT, Int.reduceLE, Int.reduceToNat, Int.reducePow, Int.reduceNeg, Nat.reduceBEq] <;> with_reducible rfl) ?_
          refine ih _ _ _ ?_ ⟨i + 1, hlt, rfl, ?_, rfl, by simp only [Int.natCast_add, Int.cast_ofNat_Int]⟩
          · omega
          · intro j h hj
            rcases Nat.lt_succ_iff_lt_or_eq.1 hj with h2 | rfl
            · exact hin j h h2
            · rw [hg, h1]
        · simp only [h1, decide_false, Bool.not_false]
          have e1 : inAll m l = false := inAll_not hlt (by rw [hg]; intro h2; exact h1 (by simpa using h2.symm))
          refine J_true (by simp only [go_sem, ↓reduceIte, Int.reduceLT, Int.reduceLE, Int.reduceToNat, Int.reducePow, Int.reduceNeg, Nat.reduceBEq] <;> with_reducible rfl) ?_
          refine J_mrun (own := []) (m := 2000) (by simp (maxSteps := 2000000) (disch := omega) only [go_sem, ↓reduceIte, Int.reduceLT, Int.reduceLE, Int.reduceToNat, Int.reducePow, Int.reduceNeg, Nat.reduceBEq, Tryd.ntmps20] <;> with_reducible rfl) ?_
          refine J_forgetP ?_
          refine J_retX Tryd.func20 (by simp only [go_sem, ↓reduceIte, Int.reduceLT, Int.reduceLE, Int.reduceToNat, Int.reducePow, Int.reduceNeg, Nat.reduceBEq, Tryd.f20] <;> first | with_reducible rfl | rfl) ⟨[_, _], _, List.Perm.refl _, by rw [withinRM, if_neg (by simp [e1])], by rw [withinRM, if_neg (by simp [e1])]; exact hm⟩
    · have hi' : i = l.length := by omega
      subst hi'
      have e1 : inAll m l = true := by
        unfold inAll
        rw [List.all_eq_true]
        intro x hx
        obtain ⟨j, hj, rfl⟩ := List.mem_iff_getElem.1 hx
        simpa using hin j hj hj
      refine J_mrun (own := []) (m := 2000) (by simp (maxSteps := 2000000) (disch := omega) only [go_sem, ↓reduceIte, Int.reduceLT, Int.reduceLE, Int.reduceToNat, Int.reducePow, Int.reduceNeg, Nat.reduceBEq, Tryd.ntmps20] <;> with_reducible rfl) ?_
      refine J_callr (by simp only [go_sem, ↓reduceIte, Int.reduceLT, Int.reduceLE, Int.reduceToNat, Int.reducePow, Int.reduceNeg, Nat.reduceBEq, Tryd.ntmps20] <;> with_reducible rfl) (hall) ?_
      refine J_mrun (own := []) (m := 2000) (by simp (maxSteps := 2000000) (disch := omega) only [go_sem, ↓reduceIte, Int.reduceLT, Int.reduceLE, Int.reduceToNat, Int.reducePow, Int.reduceNeg, Nat.reduceBEq, Tryd.ntmps20, ents_len] <;> with_reducible rfl) ?_
      refine J_keep [0, 1, 34, 35, 36] (by simp only [go_sem, ↓reduceIte, Int.reduceLT, Int.reduceLE, Int.reduceToNat, Int.reducePow, Int.reduceNeg, Nat.reduceBEq] <;> with_reducible rfl) ?_
      refine J_loopI (I := fun w e D => ∃ (i : Nat) (o : RM), i ≤ m.L.length ∧ w = m.L.length - i ∧ o = (m.L.take i).foldl (withinStep l) m ∧ o.L.length ≤ m.L.length ∧ SortedE o.L ∧ OwnM b o D ∧ e = [(0, .c (.pointer (some ⟨b, 0, none⟩))), (1, .sl 5 (ents l)), (34, .sl 5 (ents m.L)), (35, .c (.int .i64 m.L.length)), (36, .c (.int .i64 i))]) ?_ ?_
      · exact ⟨_, 0, m, Nat.zero_le _, rfl, rfl, Nat.le_refl _, hs, hm, rfl⟩
      · rintro w e D ⟨i, o, hi, rfl, ho, hoL, hoS, hoO, rfl⟩ ih
        refine J_mrun (own := []) (m := 2000) (by simp (maxSteps := 2000000) (disch := omega) only [go_sem, ↓reduceIte, Int.reduceLT, Int.reduceLE, Int.reduceToNat, Int.reducePow, Int.reduceNeg, Nat.reduceBEq, Tryd.ntmps20] <;> with_reducible rfl) ?_
        refine J_if (by simp only [go_sem, ↓reduceIte, Int.reduceLT, Int.reduceLE, Int.reduceToNat, Int.reducePow, Int.reduceNeg, Nat.reduceBEq] <;> with_reducible rfl) (fun hc => ?_) (fun hc => ?_)
        · have hlt : i < m.L.length := by omega
          have g0 := List.getElem?_eq_getElem hlt
          have g1 := ents_get g0
          have h0 : (0 : Int) ≤ (i : Int) := by omega
          have e2 : (m.L.take (i + 1)).foldl (withinStep l) m = withinStep l o m.L[i] := by
            rw [foldl_snoc hlt, ← ho]
          have hcf := containsF_ok l m.L[i] (by omega)
          simp only [Entry.cells] at hcf
          have fg_ok := mforget_ok hoO m.L[i].key hoS (by omega)
          refine J_mrun (own := [10]) (m := 2000) (by simp (maxSteps := 2000000) (disch := omega) only [go_sem, ↓reduceIte, Int.reduceLT, Int.reduceLE, Int.reduceToNat, Int.reducePow, Int.reduceNeg, Nat.reduceBEq, Tryd.ntmps20, g1] <;> with_reducible rfl) ?_
          refine J_newvar rfl (by simp only [go_sem, ↓reduceIte, Int.reduceLT, Int.reduceLE, Int.reduceToNat, Int.reducePow, Int.reduceNeg, Nat.reduceBEq, Tryd.ntmps20]) (by simp only [go_sem, ↓reduceIte, Int.reduceLT, Int.reduceLE, Int.reduceToNat, Int.reducePow, Int.reduceNeg, Nat.reduceBEq] <;> with_reducible rfl) (fun b10 hb10 => ?_)
          refine J_mrun (own := [41]) (m := 2000) (by simp (maxSteps := 2000000) (disch := omega) only [go_sem, ↓reduceIte, Int.reduceLT, Int.reduceLE, Int.reduceToNat, Int.reducePow, Int.reduceNeg, Nat.reduceBEq, Tryd.ntmps20] <;> with_reducible rfl) ?_
          refine J_freeze (s := 10) (o := 0) (by simp only [go_sem]) ?_
          refine J_mrun (own := []) (m := 2000) (by simp (maxSteps := 2000000) (disch := omega) only [go_sem, ↓reduceIte, Int.reduceLT, Int.reduceLE, Int.reduceToNat, Int.reducePow, Int.reduceNeg, Nat.reduceBEq, Tryd.ntmps20] <;> with_reducible rfl) ?_
          refine J_callp (by simp only [go_sem, ↓reduceIte, Int.reduceLT, Int.reduceLE, Int.reduceToNat, Int.reducePow, Int.reduceNeg, Nat.reduceBEq, Tryd.ntmps20] <;> with_reducible rfl) (hcf) ?_
          refine J_mrun (own := []) (m := 2000) (by simp (maxSteps := 2000000) (disch := omega) only [go_sem, ↓reduceIte, Int.reduceLT, Int.reduceLE, Int.reduceToNat, Int.reducePow, Int.reduceNeg, Nat.reduceBEq, Tryd.ntmps20] <;> with_reducible rfl) ?_
          cases hf : findE l m.L[i].key with
          | none =>
            simp only [Option.isSome_none, Bool.not_false]
            refine J_true (by simp only [go_sem, ↓reduceIte, Int.reduceLT, Int.reduceLE, Int.reduceToNat, Int.reducePow, Int.reduceNeg, Nat.reduceBEq] <;> with_reducible rfl) ?_
            refine J_mrun (own := []) (m := 2000) (by simp (maxSteps := 2000000) (disch := omega) only [go_sem, ↓reduceIte, Int.reduceLT, Int.reduceLE, Int.reduceToNat, Int.reducePow, Int.reduceNeg, Nat.reduceBEq, Tryd.ntmps20] <;> with_reducible rfl) ?_
            refine J_calls (by simp only [go_sem, ↓reduceIte, Int.reduceLT, Int.reduceLE, Int.reduceToNat, Int.reducePow, Int.reduceNeg, Nat.reduceBEq, Tryd.ntmps20] <;> with_reducible rfl) fg_ok (Δ1 := D) (Fr := []) (by simp) ?_ (by rintro x Δ' ⟨e1, _⟩; cases e1)
            rintro y D' ⟨h3, h4⟩
            cases h3
            rw [List.append_nil]
            refine J_mrun (own := []) (m := 2000) (by simp (maxSteps := 2000000) (disch := omega) only [go_sem, ↓reduceIte, Int.reduceLT, Int.reduceLE, Int.reduceToNat, Int.reducePow, Int.reduceNeg, Nat.reduceBEq, Tryd.ntmps20] <;> with_reducible rfl) ?_
            refine J_keep [0, 1, 34, 35, 36] (by simp only [go_sem, ↓reduceIte, Int.reduceLT, Int.reduceLE, Int.reduceToNat, Int.reducePow, Int.reduceNeg, Nat.reduceBEq] <;> with_reducible rfl) ?_
            refine ih _ _ _ ?_ ⟨i + 1, _, hlt, rfl, e2.symm, ?_, ?_, ?_, by simp only [Int.natCast_add, Int.cast_ofNat_Int]⟩
            · omega
            · exact Nat.le_trans (withinStep_len _ _ _) hoL
            · exact withinStep_sorted hoS _
            · unfold withinStep
              rw [if_pos hf]
              exact h4
          | some j =>
            simp only [Option.isSome_some, Bool.not_true]
            refine J_false (by simp only [go_sem, ↓reduceIte, Int.reduceLT, Int.reduceLE, Int.reduceToNat, Int.reducePow, Int.reduceNeg, Nat.reduceBEq] <;> with_reducible rfl) ?_
            refine J_mrun (own := []) (m := 2000) (by simp (maxSteps := 2000000) (disch := omega) only [go_sem, ↓reduceIte, Int.reduceLT, Int.reduceLE, Int.reduceToNat, Int.reducePow, Int.reduceNeg, Nat.reduceBEq, Tryd.ntmps20] <;> with_reducible rfl) ?_
            refine J_keep [0, 1, 34, 35, 36] (by simp only [go_sem, ↓reduceIte, Int.reduceLT, Int.reduceLE, Int.reduceToNat, Int.reducePow, Int.reduceNeg, Nat.reduceBEq] <;> with_reducible rfl) ?_
            refine ih _ _ _ ?_ ⟨i + 1, _, hlt, rfl, e2.symm, ?_, ?_, ?_, by simp only [Int.natCast_add, Int.cast_ofNat_Int]⟩
            · omega
            · exact Nat.le_trans (withinStep_len _ _ _) hoL
            · exact withinStep_sorted hoS _
            · unfold withinStep
              rw [if_neg (by rw [hf]; simp)]
              exact hoO
        · have hi' : i = m.L.length := by omega
          subst hi'
          rw [List.take_length] at ho
          refine J_mrun (own := []) (m := 2000) (by simp (maxSteps := 2000000) (disch := omega) only [go_sem, ↓reduceIte, Int.reduceLT, Int.reduceLE, Int.reduceToNat, Int.reducePow, Int.reduceNeg, Nat.reduceBEq, Tryd.ntmps20] <;> with_reducible rfl) ?_
          refine J_retX Tryd.func20 (by simp only [go_sem, ↓reduceIte, Int.reduceLT, Int.reduceLE, Int.reduceToNat, Int.reducePow, Int.reduceNeg, Nat.reduceBEq, Tryd.f20] <;> first | with_reducible rfl | rfl) ⟨by rw [withinRM, if_pos e1], by rw [withinRM, if_pos e1, ← ho]; exact hoO⟩
end Go.Proofs.YtncincpkdphojaaDoor
end

section
namespace Go.Proofs.YtncincpkdphojaaDoor
open Go Go.Av
set_option linter.unusedVariables false
set_option linter.unusedSimpArgs false
set_option maxRecDepth 100000
set_option maxHeartbeats 4000000
attribute [local go_sem] Entry.av Entry.cells packed List.set_cons_zero List.set_cons_succ List.cons_append List.nil_append

theorem mnew_ok : ACalls Tryd.prog 7 [] [] (fun r Δ' => ∃ b, r = .ret (.c (.pointer (some ⟨b, 0, none⟩))) ∧ OwnM b ⟨[], [], 0⟩ Δ') := by
  refine calls_of_J cl_7 Tryd.func7 rfl (by simp [Tryd.ntmps7]) ?_
  refine J_mrun (own := [2]) (m := 2000) (by simp (maxSteps := 2000000) (disch := omega) only [go_sem, ↓reduceIte, Int.reduceLT, Int.reduceLE, Int.reduceToNat, Int.reducePow, Int.reduceNeg, Nat.reduceBEq, Tryd.ntmps7] <;> with_reducible rfl) ?_
  refine J_newbox (y := .c undef) rfl (by simp only [go_sem, ↓reduceIte, Int.reduceLT, Int.reduceLE, Int.reduceToNat, Int.reducePow, Int.reduceNeg, Nat.reduceBEq, Tryd.ntmps7]) (by simp only [go_sem, ↓reduceIte, Int.reduceLT, Int.reduceLE, Int.reduceToNat, Int.reducePow, Int.reduceNeg, Nat.reduceBEq] <;> with_reducible rfl) (fun b hb => ?_)
  refine J_mrun (own := []) (m := 2000) (by simp (maxSteps := 2000000) (disch := omega) only [go_sem, ↓reduceIte, Int.reduceLT, Int.reduceLE, Int.reduceToNat, Int.reducePow, Int.reduceNeg, Nat.reduceBEq, Tryd.ntmps7] <;> with_reducible rfl) ?_
  refine J_retX Tryd.func7 (by simp only [go_sem, ↓reduceIte, Int.reduceLT, Int.reduceLE, Int.reduceToNat, Int.reducePow, Int.reduceNeg, Nat.reduceBEq, Tryd.f7] <;> first | with_reducible rfl | rfl) ⟨b, rfl, .mk (m := ⟨[], [], 0⟩) (.nil rfl rfl) (.nil rfl rfl)⟩

def lightGo : Nat → List Entry → Bool
  | _, [] => true
  | n, x :: r => if 200 < x.key.length ∨ 5000 < x.val.length then false else if 12000 < n + x.val.length then false else lightGo (n + x.val.length) r
def lightI (l : List Entry) : Int := if 40 < l.length then 1 else if lightGo 0 l = true then 0 else 1

theorem light06_ok (l : List Entry) (hl : l.length < 2 ^ 40) : ACalls Tryd.prog 29 [.sl 5 (ents l)] [] (Ret (.c (.int .i64 (lightI l)))) := by
  refine calls_of_J cl_29 Tryd.func29 rfl (by simp [Tryd.ntmps29]) ?_
  refine J_mrun (own := []) (m := 2000) (by simp (maxSteps := 2000000) (disch := omega) only [go_sem, ↓reduceIte, Int.reduceLT, Int.reduceLE, Int.reduceToNat, Int.reducePow, Int.reduceNeg, Nat.reduceBEq, Tryd.ntmps29, ents_len] <;> with_reducible rfl) ?_
  refine J_if (by simp only [go_sem, ↓reduceIte, Int.reduceLT, Int.reduceLE, Int.reduceToNat, Int.reducePow, Int.reduceNeg, Nat.reduceBEq] <;> with_reducible rfl) (fun hc => ?_) (fun hc => ?_)
  · refine J_mrun (own := []) (m := 2000) (by simp (maxSteps := 2000000) (disch := omega) only [go_sem, ↓reduceIte, Int.reduceLT, Int.reduceLE, Int.reduceToNat, Int.reducePow, Int.reduceNeg, Nat.reduceBEq, Tryd.ntmps29] <;> with_reducible rfl) ?_
    refine J_retX Tryd.func29 (by simp only [go_sem, ↓reduceIte, Int.reduceLT, Int.reduceLE, Int.reduceToNat, Int.reducePow, Int.reduceNeg, Nat.reduceBEq, Tryd.f29] <;> first | with_reducible rfl | rfl) ⟨by rw [lightI, if_pos (by omega)], rfl⟩
  · have h40 : ¬ 40 < l.length := by omega
    refine J_mrun (own := []) (m := 2000) (by simp (maxSteps := 2000000) (disch := omega) only [go_sem, ↓reduceIte, Int.reduceLT, Int.reduceLE, Int.reduceToNat, Int.reducePow, Int.reduceNeg, Nat.reduceBEq, Tryd.ntmps29] <;> with_reducible rfl) ?_
    refine J_keep [0, 3, 4] (by simp only [go_sem, ↓reduceIte, Int.reduceLT, Int.reduceLE, Int.reduceToNat, Int.reducePow, Int.reduceNeg, Nat.reduceBEq] <;> with_reducible rfl) ?_
    refine J_loopI (I := fun m e D => ∃ i n : Nat, i ≤ l.length ∧ m = l.length - i ∧ n ≤ 12000 ∧ D = [] ∧ lightGo 0 l = lightGo n (l.drop i) ∧ e = [(0, .sl 5 (ents l)), (3, .c (.int .i64 n)), (4, .c (.int .i64 i))]) ?_ ?_
    · exact ⟨_, 0, 0, Nat.zero_le _, rfl, by omega, rfl, rfl, rfl⟩
    · rintro m e D ⟨i, n, hi, rfl, hn, rfl, hgo, rfl⟩ ih
      refine J_mrun (own := []) (m := 2000) (by simp (maxSteps := 2000000) (disch := omega) only [go_sem, ↓reduceIte, Int.reduceLT, Int.reduceLE, Int.reduceToNat, Int.reducePow, Int.reduceNeg, Nat.reduceBEq, Tryd.ntmps29, ents_len] <;> with_reducible rfl) ?_
      refine J_if (by simp only [go_sem, ↓reduceIte, Int.reduceLT, Int.reduceLE, Int.reduceToNat, Int.reducePow, Int.reduceNeg, Nat.reduceBEq] <;> with_reducible rfl) (fun hc => ?_) (fun hc => ?_)
      · have hlt : i < l.length := by omega
        have g1 := ents_get (List.getElem?_eq_getElem hlt)
        have h0 : (0 : Int) ≤ (i : Int) := by omega
        rw [List.drop_eq_getElem_cons hlt] at hgo
        by_cases h1 : (200 : Int) < (l[i].key.length : Int)
        · refine J_mrun (own := []) (m := 2000) (by simp (maxSteps := 2000000) (disch := omega) only [go_sem, ↓reduceIte, Int.reduceLT, Int.reduceLE, Int.reduceToNat, Int.reducePow, Int.reduceNeg, Nat.reduceBEq, Tryd.ntmps29, g1, eq_true h1] <;> with_reducible rfl) ?_
          refine J_true (by simp only [go_sem, ↓reduceIte, Int.reduceLT, Int.reduceLE, Int.reduceToNat, Int.reducePow, Int.reduceNeg, Nat.reduceBEq] <;> with_reducible rfl) ?_
          refine J_mrun (own := []) (m := 2000) (by simp (maxSteps := 2000000) (disch := omega) only [go_sem, ↓reduceIte, Int.reduceLT, Int.reduceLE, Int.reduceToNat, Int.reducePow, Int.reduceNeg, Nat.reduceBEq, Tryd.ntmps29] <;> with_reducible rfl) ?_
          have hf : lightGo 0 l = false := by rw [hgo, lightGo, if_pos (Or.inl (by omega))]
          refine J_retX Tryd.func29 (by simp only [go_sem, ↓reduceIte, Int.reduceLT, Int.reduceLE, Int.reduceToNat, Int.reducePow, Int.reduceNeg, Nat.reduceBEq, Tryd.f29] <;> first | with_reducible rfl | rfl) ⟨by rw [lightI, if_neg h40, hf]; rfl, rfl⟩
        by_cases h2 : (5000 : Int) < (l[i].val.length : Int)
        · refine J_mrun (own := []) (m := 2000) (by simp (maxSteps := 2000000) (disch := omega) only [go_sem, ↓reduceIte, Int.reduceLT, Int.reduceLE, Int.reduceToNat, Int.reducePow, Int.reduceNeg, Nat.reduceBEq, Tryd.ntmps29, g1, eq_false h1, eq_true h2] <;> with_reducible rfl) ?_
          refine J_true (by simp only [go_sem, ↓reduceIte, Int.reduceLT, Int.reduceLE, Int.reduceToNat, Int.reducePow, Int.reduceNeg, Nat.reduceBEq] <;> with_reducible rfl) ?_
          refine J_mrun (own := []) (m := 2000) (by simp (maxSteps := 2000000) (disch := omega) only [go_sem, ↓reduceIte, Int.reduceLT, Int.reduceLE, Int.reduceToNat, Int.reducePow, Int.reduceNeg, Nat.reduceBEq, Tryd.ntmps29] <;> with_reducible rfl) ?_
          have hf : lightGo 0 l = false := by rw [hgo, lightGo, if_pos (Or.inr (by omega))]
          refine J_retX Tryd.func29 (by simp only [go_sem, ↓reduceIte, Int.reduceLT, Int.reduceLE, Int.reduceToNat, Int.reducePow, Int.reduceNeg, Nat.reduceBEq, Tryd.f29] <;> first | with_reducible rfl | rfl) ⟨by rw [lightI, if_neg h40, hf]; rfl, rfl⟩
        have h12 : ¬ (200 < l[i].key.length ∨ 5000 < l[i].val.length) := by omega
        refine J_mrun (own := []) (m := 2000) (by simp (maxSteps := 2000000) (disch := omega) only [go_sem, ↓reduceIte, Int.reduceLT, Int.reduceLE, Int.reduceToNat, Int.reducePow, Int.reduceNeg, Nat.reduceBEq, Tryd.ntmps29, g1, eq_false h1, eq_false h2] <;> with_reducible rfl) ?_
        refine J_false (by simp only [go_sem, ↓reduceIte, Int.reduceLT, Int.reduceLE, Int.reduceToNat, Int.reducePow, Int.reduceNeg, Nat.reduceBEq] <;> with_reducible rfl) ?_
        refine J_mrun (own := []) (m := 2000) (by simp (maxSteps := 2000000) (disch := omega) only [go_sem, ↓reduceIte, Int.reduceLT, Int.reduceLE, Int.reduceToNat, Int.reducePow, Int.reduceNeg, Nat.reduceBEq, Tryd.ntmps29, g1] <;> with_reducible rfl) ?_
        refine J_if (by simp only [go_sem, ↓reduceIte, Int.reduceLT, Int.reduceLE, Int.reduceToNat, Int.reducePow, Int.reduceNeg, Nat.reduceBEq] <;> with_reducible rfl) (fun h3 => ?_) (fun h3 => ?_)
        · refine J_mrun (own := []) (m := 2000) (by simp (maxSteps := 2000000) (disch := omega) only [go_sem, ↓reduceIte, Int.reduceLT, Int.reduceLE, Int.reduceToNat, Int.reducePow, Int.reduceNeg, Nat.reduceBEq, Tryd.ntmps29] <;> with_reducible rfl) ?_
          have hf : lightGo 0 l = false := by rw [hgo, lightGo, if_neg h12, if_pos (by omega)]
          refine J_retX Tryd.func29 (by simp only [go_sem, ↓reduceIte, Int.reduceLT, Int.reduceLE, Int.reduceToNat, Int.reducePow, Int.reduceNeg, Nat.reduceBEq, Tryd.f29] <;> first | with_reducible rfl | rfl) ⟨by rw [lightI, if_neg h40, hf]; rfl, rfl⟩
        · refine J_mrun (own := []) (m := 2000) (by simp (maxSteps := 2000000) (disch := omega) only [go_sem, ↓reduceIte, Int.reduceLT, Int.reduceLE, Int.reduceToNat, Int.reducePow, Int.reduceNeg, Nat.reduceBEq, Tryd.ntmps29] <;> with_reducible rfl) ?_
          refine J_keep [0, 3, 4] (by simp only [go_sem, ↓reduceIte, Int.reduceLT, Int.reduceLE, Int.reduceToNat, Int.reducePow, Int.reduceNeg, Nat.reduceBEq] <;> with_reducible rfl) ?_
          refine ih _ _ _ ?_ ⟨i + 1, n + l[i].val.length, hlt, rfl, by omega, rfl, ?_, by simp only [Int.natCast_add, Int.cast_ofNat_Int]⟩
          · omega
          · rw [hgo, lightGo, if_neg h12, if_neg (by omega)]
      · have hi' : i = l.length := by omega
        subst hi'
        rw [List.drop_length] at hgo
        refine J_mrun (own := []) (m := 2000) (by simp (maxSteps := 2000000) (disch := omega) only [go_sem, ↓reduceIte, Int.reduceLT, Int.reduceLE, Int.reduceToNat, Int.reducePow, Int.reduceNeg, Nat.reduceBEq, Tryd.ntmps29] <;> with_reducible rfl) ?_
        refine J_retX Tryd.func29 (by simp only [go_sem, ↓reduceIte, Int.reduceLT, Int.reduceLE, Int.reduceToNat, Int.reducePow, Int.reduceNeg, Nat.reduceBEq, Tryd.f29] <;> first | with_reducible rfl | rfl) ⟨by rw [lightI, if_neg h40, hgo]; rfl, rfl⟩

/-! ### Acts -/
structure OpD where
  kind : Int
  x : Entry
  n : Int
  got : Bool
  l : List Entry

def OpD.cells (o : OpD) : List AV := [.c (.int .i64 o.kind), .c (.string (mkStr o.x.key)), .c (.int .i64 o.x.ver), .c (.int .i64 o.x.asof), .c (.int .i64 o.x.ends), .sl 1 (bytesRows o.x.val), .c (.int .i64 o.n), .c (.bool o.got), .sl 5 (ents o.l)]
def opsD (l : List OpD) : List (List AV) := l.map OpD.cells
theorem opsD_len (l : List OpD) : (opsD l).length = l.length := by simp [opsD]
theorem opsD_get {l : List OpD} {i : Nat} {o : OpD} (h : l[i]? = some o) : (opsD l)[i]? = some [.c (.int .i64 o.kind), .c (.string (mkStr o.x.key)), .c (.int .i64 o.x.ver), .c (.int .i64 o.x.asof), .c (.int .i64 o.x.ends), .sl 1 (bytesRows o.x.val), .c (.int .i64 o.n), .c (.bool o.got), .sl 5 (ents o.l)] := by
  simp [opsD, h, OpD.cells]

def lightOp (o : OpD) : Bool := decide (¬ 8 < o.l.length) && decide (¬ 0 < lightI (o.x :: o.l))
def lightD (l : List OpD) : Bool := decide (¬ 40 < l.length) && l.all lightOp

theorem light_ok (l : List OpD) (hl : l.length < 2 ^ 40) (hll : ∀ o ∈ l, o.l.length < 2 ^ 37) : ACalls Tryd.prog 5 [.sl 9 (opsD l)] [] (Ret (.c (.bool (lightD l)))) := by
  refine calls_of_J cl_5 Tryd.func5 rfl (by simp [Tryd.ntmps5]) ?_
  refine J_mrun (own := []) (m := 2000) (by simp (maxSteps := 2000000) (disch := omega) only [go_sem, ↓reduceIte, Int.reduceLT, Int.reduceLE, Int.reduceToNat, Int.reducePow, Int.reduceNeg, Nat.reduceBEq, Tryd.ntmps5, opsD_len] <;> with_reducible rfl) ?_
  refine J_if (by simp only [go_sem, ↓reduceIte, Int.reduceLT, Int.reduceLE, Int.reduceToNat, Int.reducePow, Int.reduceNeg, Nat.reduceBEq] <;> with_reducible rfl) (fun hc => ?_) (fun hc => ?_)
  · refine J_mrun (own := []) (m := 2000) (by simp (maxSteps := 2000000) (disch := omega) only [go_sem, ↓reduceIte, Int.reduceLT, Int.reduceLE, Int.reduceToNat, Int.reducePow, Int.reduceNeg, Nat.reduceBEq, Tryd.ntmps5] <;> with_reducible rfl) ?_
    refine J_retX Tryd.func5 (by simp only [go_sem, ↓reduceIte, Int.reduceLT, Int.reduceLE, Int.reduceToNat, Int.reducePow, Int.reduceNeg, Nat.reduceBEq, Tryd.f5] <;> first | with_reducible rfl | rfl) ⟨by simp [lightD, show 40 < l.length by omega], rfl⟩
  · have h40 : ¬ 40 < l.length := by omega
    refine J_mrun (own := []) (m := 2000) (by simp (maxSteps := 2000000) (disch := omega) only [go_sem, ↓reduceIte, Int.reduceLT, Int.reduceLE, Int.reduceToNat, Int.reducePow, Int.reduceNeg, Nat.reduceBEq, Tryd.ntmps5] <;> with_reducible rfl) ?_
    refine J_keep [0, 3] (by simp only [go_sem, ↓reduceIte, Int.reduceLT, Int.reduceLE, Int.reduceToNat, Int.reducePow, Int.reduceNeg, Nat.reduceBEq] <;> with_reducible rfl) ?_
    refine J_loopI (I := fun m e D => ∃ i : Nat, i ≤ l.length ∧ m = l.length - i ∧ D = [] ∧ (∀ j (h : j < l.length), j < i → lightOp l[j] = true) ∧ e = [(0, .sl 9 (opsD l)), (3, .c (.int .i64 i))]) ?_ ?_
    · exact ⟨_, 0, Nat.zero_le _, rfl, rfl, by simp, rfl⟩
    · rintro m e D ⟨i, hi, rfl, rfl, hall, rfl⟩ ih
      refine J_mrun (own := []) (m := 2000) (by simp (maxSteps := 2000000) (disch := omega) only [go_sem, ↓reduceIte, Int.reduceLT, Int.reduceLE, Int.reduceToNat, Int.reducePow, Int.reduceNeg, Nat.reduceBEq, Tryd.ntmps5, opsD_len] <;> with_reducible rfl) ?_
      refine J_if (by simp only [go_sem, ↓reduceIte, Int.reduceLT, Int.reduceLE, Int.reduceToNat, Int.reducePow, Int.reduceNeg, Nat.reduceBEq] <;> with_reducible rfl) (fun hc => ?_) (fun hc => ?_)
      · have hlt : i < l.length := by omega
        have g1 := opsD_get (List.getElem?_eq_getElem hlt)
        have h0 : (0 : Int) ≤ (i : Int) := by omega
        have hli := hll l[i] (List.getElem_mem _)
        have hno : lightOp l[i] = false → lightD l = false := by
          intro h
          unfold lightD
          rw [Bool.and_eq_false_iff]
          refine .inr ?_
          rw [List.all_eq_false]
          exact ⟨l[i], List.getElem_mem _, by rw [h]; simp⟩
        refine J_mrun (own := []) (m := 2000) (by simp (maxSteps := 2000000) (disch := omega) only [go_sem, ↓reduceIte, Int.reduceLT, Int.reduceLE, Int.reduceToNat, Int.reducePow, Int.reduceNeg, Nat.reduceBEq, Tryd.ntmps5] <;> with_reducible rfl) ?_
        by_cases h1 : (8 : Int) < (l[i].l.length : Int)
        · refine J_draw [[], [], [0, 1], [0, 1, 2], [0, 1, 2, 3], [0, 1, 2, 3, 4], [0, 1, 2, 3, 4, 5], [0, 1, 2, 3, 4, 5, 6], [0, 1, 2, 3, 4, 5, 6, 7], [0, 1, 2, 3, 4, 5, 6, 7], [0, 1, 2, 3, 4, 5, 6, 7, 8, 9], [0, 1, 2, 3, 4, 5, 6, 7, 8, 9, 10], [0, 1, 2, 3, 4, 5, 6, 7, 8, 9, 10, 11], [0, 1, 2, 3, 4, 5, 6, 7, 8, 9, 10, 11, 12], [0, 1, 2, 3, 4, 5, 6, 7], [0, 1, 2, 3, 4, 5, 6, 7], [0, 1, 2, 3, 4, 5, 6, 7, 14, 15], [0, 1, 2, 3, 4, 5, 6, 7, 14, 15, 16], [0, 1, 2, 3, 4, 5, 6, 7, 14, 15, 16, 17], [0, 1, 2, 3, 4, 5, 6, 7, 8, 9, 10, 11, 12, 13, 14, 15, 16, 17, 18], [0, 1, 2, 3, 4, 5, 6, 7, 8, 9, 10, 11, 12, 13, 14, 15, 16, 17, 18, 19], [0, 1, 2, 3, 4, 5, 6, 7, 8, 9, 10, 11, 12, 13, 14, 15, 16, 17, 18, 19, 20], [0, 1, 2, 3, 4, 5, 6, 7, 8, 9, 10, 11, 12, 13, 14, 15, 16, 17, 18, 19, 20, 21]] [(0, .pure), (1, .pure), (2, .pure), (3, .pure), (4, .pure), (5, .pure), (6, .pure), (7, .pure), (8, .pure), (9, .pure), (10, .pure), (11, .pure), (12, .pure), (14, .pure), (15, .pure), (16, .pure), (17, .pure), (18, .pure), (13, .act), (19, .act), (20, .act), (21, .pure), (22, .pure)] mixed (by kernel_rfl) ?_
          refine Can_run (own := []) (by simp (maxSteps := 2000000) (disch := omega) only [go_sem, ↓reduceIte, Int.reduceLT, Int.reduceLE, Int.reduceToNat, Int.reducePow, Int.reduceNeg, Nat.reduceBEq, Tryd.ntmps5, g1, ents_len, eq_true h1] <;> with_reducible rfl) ?_
          refine Can_nil ?_
          refine J_true (by simp only [go_sem, ↓reduceIte, Int.reduceLT, Int.reduceLE, Int.reduceToNat, Int.reducePow, Int.reduceNeg, Nat.reduceBEq] <;> with_reducible rfl) ?_
          refine J_mrun (own := []) (m := 2000) (by simp (maxSteps := 2000000) (disch := omega) only [go_sem, ↓reduceIte, Int.reduceLT, Int.reduceLE, Int.reduceToNat, Int.reducePow, Int.reduceNeg, Nat.reduceBEq, Tryd.ntmps5] <;> with_reducible rfl) ?_
          refine J_retX Tryd.func5 (by simp only [go_sem, ↓reduceIte, Int.reduceLT, Int.reduceLE, Int.reduceToNat, Int.reducePow, Int.reduceNeg, Nat.reduceBEq, Tryd.f5] <;> first | with_reducible rfl | rfl) ⟨by rw [hno (by simp [lightOp, show 8 < l[i].l.length by omega])], rfl⟩
        · refine J_draw [[], [], [0, 1], [0, 1, 2], [0, 1, 2, 3], [0, 1, 2, 3, 4], [0, 1, 2, 3, 4, 5], [0, 1, 2, 3, 4, 5, 6], [0, 1, 2, 3, 4, 5, 6, 7], [0, 1, 2, 3, 4, 5, 6, 7], [0, 1, 2, 3, 4, 5, 6, 7, 8, 9], [0, 1, 2, 3, 4, 5, 6, 7, 8, 9, 10], [0, 1, 2, 3, 4, 5, 6, 7, 8, 9, 10, 11], [0, 1, 2, 3, 4, 5, 6, 7, 8, 9, 10, 11, 12], [0, 1, 2, 3, 4, 5, 6, 7], [0, 1, 2, 3, 4, 5, 6, 7], [0, 1, 2, 3, 4, 5, 6, 7, 14, 15], [0, 1, 2, 3, 4, 5, 6, 7, 14, 15, 16], [0, 1, 2, 3, 4, 5, 6, 7, 14, 15, 16, 17], [0, 1, 2, 3, 4, 5, 6, 7, 8, 9, 10, 11, 12, 13, 14, 15, 16, 17, 18], [0, 1, 2, 3, 4, 5, 6, 7, 8, 9, 10, 11, 12, 13, 14, 15, 16, 17, 18, 19], [0, 1, 2, 3, 4, 5, 6, 7, 8, 9, 10, 11, 12, 13, 14, 15, 16, 17, 18, 19, 20], [0, 1, 2, 3, 4, 5, 6, 7, 8, 9, 10, 11, 12, 13, 14, 15, 16, 17, 18, 19, 20, 21]] [(0, .pure), (1, .pure), (2, .pure), (3, .pure), (4, .pure), (5, .pure), (6, .pure), (7, .pure), (8, .pure), (9, .pure), (10, .pure), (11, .pure), (12, .pure), (14, .pure), (15, .pure), (16, .pure), (17, .pure), (18, .pure), (13, .act), (19, .act), (20, .act), (21, .pure), (22, .pure)] mixed (by kernel_rfl) ?_
          refine Can_run (own := [26]) (by simp (maxSteps := 2000000) (disch := omega) only [go_sem, ↓reduceIte, Int.reduceLT, Int.reduceLE, Int.reduceToNat, Int.reducePow, Int.reduceNeg, Nat.reduceBEq, Tryd.ntmps5, g1, ents_len, eq_false h1] <;> with_reducible rfl) ?_
          refine Can_newslice rfl (by simp only [go_sem, ↓reduceIte, Int.reduceLT, Int.reduceLE, Int.reduceToNat, Int.reducePow, Int.reduceNeg, Nat.reduceBEq] <;> with_reducible rfl) (by simp only [go_sem, ↓reduceIte, Int.reduceLT, Int.reduceLE, Int.reduceToNat, Int.reducePow, Int.reduceNeg, Nat.reduceBEq, Tryd.ntmps5]) (by simp only [go_sem, ↓reduceIte, Int.reduceLT, Int.reduceLE, Int.reduceToNat, Int.reducePow, Int.reduceNeg, Nat.reduceBEq] <;> with_reducible rfl) (by simp only [go_sem, ↓reduceIte, Int.reduceLT, Int.reduceLE, Int.reduceToNat, Int.reducePow, Int.reduceNeg, Nat.reduceBEq] <;> with_reducible rfl) (by simp only [go_sem, ↓reduceIte, Int.reduceLT, Int.reduceLE, Int.reduceToNat, Int.reducePow, Int.reduceNeg, Nat.reduceBEq] <;> with_reducible rfl) (by rfl) (by decide) (by decide) (by decide) (by simp only [go_sem, ↓reduceIte, Int.reduceLT, Int.reduceLE, Int.reduceToNat, Int.reducePow, Int.reduceNeg, Nat.reduceBEq] <;> with_reducible rfl) (by simp only [go_sem, ↓reduceIte, Int.reduceLT, Int.reduceLE, Int.reduceToNat, Int.reducePow, Int.reduceNeg, Nat.reduceBEq] <;> with_reducible rfl) (by rfl) (fun v D how => ?_)
          refine Can_run (own := [32]) (by simp (maxSteps := 2000000) (disch := omega) only [go_sem, ↓reduceIte, Int.reduceLT, Int.reduceLE, Int.reduceToNat, Int.reducePow, Int.reduceNeg, Nat.reduceBEq, Tryd.ntmps5, g1] <;> with_reducible rfl) ?_
          refine Can_bi (by simp only [go_sem, ↓reduceIte, Int.reduceLT, Int.reduceLE, Int.reduceToNat, Int.reducePow, Int.reduceNeg, Nat.reduceBEq, Tryd.ntmps5] <;> with_reducible rfl) (append_bi (by simp only [go_sem, ↓reduceIte, Int.reduceLT, Int.reduceLE, Int.reduceToNat, Int.reducePow, Int.reduceNeg, Nat.reduceBEq] <;> with_reducible rfl) how (Fr := []) (by simp) (by simp only [go_sem] <;> rfl) (ents_cell _) (by rw [ents_len]; omega)) ?_
          rintro _ D1 ⟨v1, _, rfl, rfl, how1⟩
          have how2 : Own 33 5 (ents (l[i].x :: l[i].l)).flatten (ents (l[i].x :: l[i].l)).length v1 D1 := by
            have e1 : (ents (l[i].x :: l[i].l)).length = 1 + (ents l[i].l).length := by simp [ents]; omega
            rw [e1]
            exact how1
          refine Can_run (own := []) (by simp (maxSteps := 2000000) (disch := omega) only [go_sem, ↓reduceIte, Int.reduceLT, Int.reduceLE, Int.reduceToNat, Int.reducePow, Int.reduceNeg, Nat.reduceBEq, Tryd.ntmps5] <;> with_reducible rfl) ?_
          refine Can_call (by simp only [go_sem, ↓reduceIte, Int.reduceLT, Int.reduceLE, Int.reduceToNat, Int.reducePow, Int.reduceNeg, Nat.reduceBEq, Tryd.ntmps5] <;> with_reducible rfl) (ACalls.lendOwn (pre := []) how2 (light06_ok (l[i].x :: l[i].l) (by simp only [List.length_cons]; omega)) (by rintro r Δ' ⟨rfl, rfl⟩; exact ⟨rfl, _, rfl, .c _⟩) (ents_row _) (by rw [ents_len]; unfold maxRows; simp only [List.length_cons]; omega)) (Δ1 := D1) (Fr := []) (by simp) ?_ (by rintro x Δ' ⟨⟨e1, _⟩, _⟩; cases e1)
          rintro x _ ⟨⟨h3, _⟩, rfl⟩
          cases h3
          refine Can_run (own := []) (by simp (maxSteps := 2000000) (disch := omega) only [go_sem, ↓reduceIte, Int.reduceLT, Int.reduceLE, Int.reduceToNat, Int.reducePow, Int.reduceNeg, Nat.reduceBEq, Tryd.ntmps5, eq_false h1] <;> with_reducible rfl) ?_
          refine Can_nil ?_
          refine J_dropall ?_
          refine J_if (by simp only [go_sem, ↓reduceIte, Int.reduceLT, Int.reduceLE, Int.reduceToNat, Int.reducePow, Int.reduceNeg, Nat.reduceBEq] <;> with_reducible rfl) (fun h2 => ?_) (fun h2 => ?_)
          · refine J_mrun (own := []) (m := 2000) (by simp (maxSteps := 2000000) (disch := omega) only [go_sem, ↓reduceIte, Int.reduceLT, Int.reduceLE, Int.reduceToNat, Int.reducePow, Int.reduceNeg, Nat.reduceBEq, Tryd.ntmps5] <;> with_reducible rfl) ?_
            refine J_retX Tryd.func5 (by simp only [go_sem, ↓reduceIte, Int.reduceLT, Int.reduceLE, Int.reduceToNat, Int.reducePow, Int.reduceNeg, Nat.reduceBEq, Tryd.f5] <;> first | with_reducible rfl | rfl) ⟨by rw [hno (by simp [lightOp, h2])], rfl⟩
          · have hyes : lightOp l[i] = true := by simp [lightOp, h2]; omega
            refine J_mrun (own := []) (m := 2000) (by simp (maxSteps := 2000000) (disch := omega) only [go_sem, ↓reduceIte, Int.reduceLT, Int.reduceLE, Int.reduceToNat, Int.reducePow, Int.reduceNeg, Nat.reduceBEq, Tryd.ntmps5] <;> with_reducible rfl) ?_
            refine J_keep [0, 3] (by simp only [go_sem, ↓reduceIte, Int.reduceLT, Int.reduceLE, Int.reduceToNat, Int.reducePow, Int.reduceNeg, Nat.reduceBEq] <;> with_reducible rfl) ?_
            refine ih _ _ _ ?_ ⟨i + 1, hlt, rfl, rfl, ?_, by simp only [Int.natCast_add, Int.cast_ofNat_Int]⟩
            · omega
            · intro j h hj
              rcases Nat.lt_succ_iff_lt_or_eq.1 hj with h3 | rfl
              · exact hall j h h3
              · exact hyes
      · have hi' : i = l.length := by omega
        subst hi'
        refine J_mrun (own := []) (m := 2000) (by simp (maxSteps := 2000000) (disch := omega) only [go_sem, ↓reduceIte, Int.reduceLT, Int.reduceLE, Int.reduceToNat, Int.reducePow, Int.reduceNeg, Nat.reduceBEq, Tryd.ntmps5] <;> with_reducible rfl) ?_
        refine J_retX Tryd.func5 (by simp only [go_sem, ↓reduceIte, Int.reduceLT, Int.reduceLE, Int.reduceToNat, Int.reducePow, Int.reduceNeg, Nat.reduceBEq, Tryd.f5] <;> first | with_reducible rfl | rfl) ⟨by
          unfold lightD
          rw [show decide (¬ 40 < l.length) = true by simpa using h40, Bool.true_and, List.all_eq_true.2]
          intro x hx
          obtain ⟨j, hj, rfl⟩ := List.mem_iff_getElem.1 hx
          exact hall j hj hj, rfl⟩
end Go.Proofs.YtncincpkdphojaaDoor
end

section
namespace Go.Proofs.YtncincpkdphojaaDoor
open Go Go.Av
set_option linter.unusedVariables false
set_option linter.unusedSimpArgs false
set_option maxRecDepth 100000
set_option maxHeartbeats 4000000
attribute [local go_sem] packed List.set_cons_zero List.set_cons_succ List.cons_append List.nil_append

theorem str_a : (ByteArray.mk #[97]) = mkStr [97] := rfl
attribute [local go_sem] str_a
def wx : Entry := ⟨[97], 3, 4, 0, []⟩
theorem wx_av : wx.av = .agg [.c (.string (mkStr [97])), .c (.int .i64 3), .c (.int .i64 4), .c (.int .i64 0), .sl 1 []] := rfl

theorem ws1 : setRM ⟨[], [], 0⟩ wx = (⟨[wx], [], 0⟩, 0) := by rfl
theorem wt1 : toldRM ⟨[wx], [], 0⟩ [97] wx true = (⟨[wx], [], 0⟩, true) := by rfl
theorem wr1 : raiseM ⟨[wx], [], 0⟩ [97] 5 = ⟨[], [⟨hash64 [97], 5⟩], 1⟩ := by
  have h1 : raiseP [] (hash64 [97]) 5 = [⟨hash64 [97], 5⟩] := rfl
  have h2 : floorF [⟨hash64 [97], 5⟩] (hash64 [97]) = 5 := by simp [floorF]
  unfold raiseM
  simp only [h1, h2, List.foldl_cons, List.foldl_nil]
  unfold raiseStep
  rw [if_pos ⟨rfl, by decide⟩]
  rfl
theorem wt2 : toldRM ⟨[], [⟨hash64 [97], 5⟩], 1⟩ [97] wx true = (⟨[], [⟨hash64 [97], 5⟩], 1⟩, false) := by
  unfold toldRM; simp [getE, findE]
theorem ws2 : setRM ⟨[], [⟨hash64 [97], 5⟩], 1⟩ wx = (⟨[], [⟨hash64 [97], 5⟩], 1⟩, 10) := by
  have h2 : floorF [⟨hash64 [97], 5⟩] (hash64 [97]) = 5 := by simp [floorF]
  unfold setRM
  rw [if_neg (by decide), if_pos (by show (4 : Int) < floorF [⟨hash64 [97], 5⟩] (hash64 [97]); rw [h2]; decide)]
theorem wf2 : floorF [⟨hash64 [97], 5⟩] (hash64 [97]) = 5 := by simp [floorF]
theorem wr2 : relF [⟨hash64 [97], 5⟩] (hash64 [97]) = [] := by simp [relF]
theorem ws3 : setRM ⟨[], [], 1⟩ wx = (⟨[wx], [], 1⟩, 0) := by rfl
theorem ww1 : withinRM ⟨[wx], [], 1⟩ [] = (⟨[], [], 2⟩, true) := by rfl
theorem wg1 : getE [] [97] = none := by rfl
theorem wfg : forgetRM ⟨[], [], 2⟩ [97] = (⟨[], [], 2⟩, false) := by rfl

theorem isErr0 {e : AV} {c : Int} (h : IsErr e c) (hc : c = 0) : e = .c .nilIface := by
  cases h with
  | none => rfl
  | code o a _ u h1 => exact absurd hc h1
  | under o a u _ h1 h2 => exact absurd hc h1

theorem works_ok : ACalls Tryd.prog 6 [] [GL] (Ret (.c (.bool true))) := by
  have sE0 : SortedE [] := List.Pairwise.nil
  have sE1 : SortedE [wx] := List.pairwise_singleton _ _
  have sF0 : SortedF [] := List.Pairwise.nil
  have sF1 : SortedF [⟨hash64 [97], 5⟩] := List.pairwise_singleton _ _
  refine calls_of_J cl_6 Tryd.func6 rfl (by simp [Tryd.ntmps6]) ?_
  refine J_mrun (own := []) (m := 2000) (by simp (maxSteps := 2000000) (disch := omega) only [go_sem, ↓reduceIte, Int.reduceLT, Int.reduceLE, Int.reduceToNat, Int.reducePow, Int.reduceNeg, Nat.reduceBEq, Tryd.ntmps6] <;> with_reducible rfl) ?_
  refine J_calls (by simp only [go_sem, ↓reduceIte, Int.reduceLT, Int.reduceLE, Int.reduceToNat, Int.reducePow, Int.reduceNeg, Nat.reduceBEq, Tryd.ntmps6] <;> with_reducible rfl) mnew_ok (Δ1 := []) (Fr := [GL]) (by simp) ?_ (by rintro x Δ' ⟨b, e1, _⟩; cases e1)
  rintro x D ⟨b, h1, hm0⟩
  cases h1
  refine J_perm List.perm_append_comm ?_
  refine J_mrun (own := []) (m := 2000) (by simp (maxSteps := 2000000) (disch := omega) only [go_sem, ↓reduceIte, Int.reduceLT, Int.reduceLE, Int.reduceToNat, Int.reducePow, Int.reduceNeg, Nat.reduceBEq, Tryd.ntmps6] <;> with_reducible rfl) ?_
  refine J_false (by simp only [go_sem, ↓reduceIte, Int.reduceLT, Int.reduceLE, Int.reduceToNat, Int.reducePow, Int.reduceNeg, Nat.reduceBEq] <;> with_reducible rfl) ?_
  refine J_mrun (own := [2]) (m := 2000) (by simp (maxSteps := 2000000) (disch := omega) only [go_sem, ↓reduceIte, Int.reduceLT, Int.reduceLE, Int.reduceToNat, Int.reducePow, Int.reduceNeg, Nat.reduceBEq, Tryd.ntmps6] <;> with_reducible rfl) ?_
  refine J_newvar rfl (by simp only [go_sem, ↓reduceIte, Int.reduceLT, Int.reduceLE, Int.reduceToNat, Int.reducePow, Int.reduceNeg, Nat.reduceBEq, Tryd.ntmps6]) (by simp only [go_sem, ↓reduceIte, Int.reduceLT, Int.reduceLE, Int.reduceToNat, Int.reducePow, Int.reduceNeg, Nat.reduceBEq] <;> with_reducible rfl) (fun b2 hb2 => ?_)
  refine J_mrun (own := [17]) (m := 2000) (by simp (maxSteps := 2000000) (disch := omega) only [go_sem, ↓reduceIte, Int.reduceLT, Int.reduceLE, Int.reduceToNat, Int.reducePow, Int.reduceNeg, Nat.reduceBEq, Tryd.ntmps6] <;> with_reducible rfl) ?_
  refine J_nilBox 4 1 (by simp only [go_sem]) ?_
  refine J_freeze (s := 2) (o := 0) (by simp only [go_sem]) ?_
  refine J_mrun (own := []) (m := 2000) (by simp (maxSteps := 2000000) (disch := omega) only [go_sem, ↓reduceIte, Int.reduceLT, Int.reduceLE, Int.reduceToNat, Int.reducePow, Int.reduceNeg, Nat.reduceBEq, Tryd.ntmps6] <;> with_reducible rfl) ?_
  have c1 := mset_ok hm0 wx sE0 sF0 (by decide) (by decide)
  rw [wx_av, ws1] at c1
  refine J_calls (by simp only [go_sem, ↓reduceIte, Int.reduceLT, Int.reduceLE, Int.reduceToNat, Int.reducePow, Int.reduceNeg, Nat.reduceBEq, Tryd.ntmps6] <;> with_reducible rfl) c1 (Δ1 := _) (Fr := [GL]) (List.perm_append_comm (l₁ := [GL])) ?_ (by rintro x Δ' ⟨⟨e, e1, _⟩, _⟩; cases e1)
  rintro x D1 ⟨⟨e3, h1, he3⟩, hm1⟩
  cases h1
  refine J_perm List.perm_append_comm ?_
  refine J_mrun (own := []) (m := 2000) (by simp (maxSteps := 2000000) (disch := omega) only [go_sem, ↓reduceIte, Int.reduceLT, Int.reduceLE, Int.reduceToNat, Int.reducePow, Int.reduceNeg, Nat.reduceBEq, Tryd.ntmps6] <;> with_reducible rfl) ?_
  have c2 := mtold_ok hm1 [97] wx true sE1 (by decide)
  rw [wx_av, wt1] at c2
  refine J_calls (by simp only [go_sem, ↓reduceIte, Int.reduceLT, Int.reduceLE, Int.reduceToNat, Int.reducePow, Int.reduceNeg, Nat.reduceBEq, Tryd.ntmps6] <;> with_reducible rfl) c2 (Δ1 := _) (Fr := [GL]) (List.perm_append_comm (l₁ := [GL])) ?_ (by rintro x Δ' ⟨e1, _⟩; cases e1)
  rintro x D2 ⟨h1, hm2⟩
  cases h1
  refine J_perm List.perm_append_comm ?_
  refine J_mrun (own := []) (m := 2000) (by simp (maxSteps := 2000000) (disch := omega) only [go_sem, ↓reduceIte, Int.reduceLT, Int.reduceLE, Int.reduceToNat, Int.reducePow, Int.reduceNeg, Nat.reduceBEq, Tryd.ntmps6] <;> with_reducible rfl) ?_
  have c3 := mraise_ok hm2 [97] 5 (by decide) sE1 sF0 (by decide) (by decide) (by simp [wx])
  rw [wr1] at c3
  refine J_calls (by simp only [go_sem, ↓reduceIte, Int.reduceLT, Int.reduceLE, Int.reduceToNat, Int.reducePow, Int.reduceNeg, Nat.reduceBEq, Tryd.ntmps6] <;> with_reducible rfl) c3 (Δ1 := _) (Fr := [GL]) (List.perm_append_comm (l₁ := [GL])) ?_ (by rintro x Δ' ⟨e1, _⟩; cases e1)
  rintro x D3 ⟨h1, hm3⟩
  cases h1
  refine J_perm List.perm_append_comm ?_
  refine J_mrun (own := []) (m := 2000) (by simp (maxSteps := 2000000) (disch := omega) only [go_sem, ↓reduceIte, Int.reduceLT, Int.reduceLE, Int.reduceToNat, Int.reducePow, Int.reduceNeg, Nat.reduceBEq, Tryd.ntmps6] <;> with_reducible rfl) ?_
  have c4 := mtold_ok hm3 [97] wx true sE0 (by decide)
  rw [wx_av, wt2] at c4
  refine J_calls (by simp only [go_sem, ↓reduceIte, Int.reduceLT, Int.reduceLE, Int.reduceToNat, Int.reducePow, Int.reduceNeg, Nat.reduceBEq, Tryd.ntmps6] <;> with_reducible rfl) c4 (Δ1 := _) (Fr := [GL]) (List.perm_append_comm (l₁ := [GL])) ?_ (by rintro x Δ' ⟨e1, _⟩; cases e1)
  rintro x D4 ⟨h1, hm4⟩
  cases h1
  refine J_perm List.perm_append_comm ?_
  refine J_mrun (own := []) (m := 2000) (by simp (maxSteps := 2000000) (disch := omega) only [go_sem, ↓reduceIte, Int.reduceLT, Int.reduceLE, Int.reduceToNat, Int.reducePow, Int.reduceNeg, Nat.reduceBEq, Tryd.ntmps6] <;> with_reducible rfl) ?_
  have c5 := mset_ok hm4 wx sE0 sF1 (by decide) (by decide)
  rw [wx_av, ws2] at c5
  refine J_calls (by simp only [go_sem, ↓reduceIte, Int.reduceLT, Int.reduceLE, Int.reduceToNat, Int.reducePow, Int.reduceNeg, Nat.reduceBEq, Tryd.ntmps6] <;> with_reducible rfl) c5 (Δ1 := _) (Fr := [GL]) (List.perm_append_comm (l₁ := [GL])) ?_ (by rintro x Δ' ⟨⟨e, e1, _⟩, _⟩; cases e1)
  rintro x D5 ⟨⟨e6, h1, he6⟩, hm5⟩
  cases h1
  refine J_perm List.perm_append_comm ?_
  refine J_mrun (own := []) (m := 2000) (by simp (maxSteps := 2000000) (disch := omega) only [go_sem, ↓reduceIte, Int.reduceLT, Int.reduceLE, Int.reduceToNat, Int.reducePow, Int.reduceNeg, Nat.reduceBEq, Tryd.ntmps6] <;> with_reducible rfl) ?_
  have c6 := mfloor_ok hm5 [97] (by decide) sF1 (by decide)
  rw [wf2] at c6
  refine J_callr (by simp only [go_sem, ↓reduceIte, Int.reduceLT, Int.reduceLE, Int.reduceToNat, Int.reducePow, Int.reduceNeg, Nat.reduceBEq, Tryd.ntmps6] <;> with_reducible rfl) (c6.around (Fr := [GL]) (List.perm_append_comm (l₁ := [GL]))) ?_
  refine J_mrun (own := []) (m := 2000) (by simp (maxSteps := 2000000) (disch := omega) only [go_sem, ↓reduceIte, Int.reduceLT, Int.reduceLE, Int.reduceToNat, Int.reducePow, Int.reduceNeg, Nat.reduceBEq, Tryd.ntmps6] <;> with_reducible rfl) ?_
  have c7 := mrelease_ok hm5 [97] (by decide) sF1 (by decide)
  rw [wr2] at c7
  refine J_calls (by simp only [go_sem, ↓reduceIte, Int.reduceLT, Int.reduceLE, Int.reduceToNat, Int.reducePow, Int.reduceNeg, Nat.reduceBEq, Tryd.ntmps6] <;> with_reducible rfl) c7 (Δ1 := _) (Fr := [GL]) (List.perm_append_comm (l₁ := [GL])) ?_ (by rintro x Δ' ⟨e1, _⟩; cases e1)
  rintro x D6 ⟨h1, hm6⟩
  cases h1
  refine J_perm List.perm_append_comm ?_
  refine J_mrun (own := []) (m := 2000) (by simp (maxSteps := 2000000) (disch := omega) only [go_sem, ↓reduceIte, Int.reduceLT, Int.reduceLE, Int.reduceToNat, Int.reducePow, Int.reduceNeg, Nat.reduceBEq, Tryd.ntmps6] <;> with_reducible rfl) ?_
  have c8 := mset_ok hm6 wx sE0 sF0 (by decide) (by decide)
  rw [wx_av, ws3] at c8
  refine J_calls (by simp only [go_sem, ↓reduceIte, Int.reduceLT, Int.reduceLE, Int.reduceToNat, Int.reducePow, Int.reduceNeg, Nat.reduceBEq, Tryd.ntmps6] <;> with_reducible rfl) c8 (Δ1 := _) (Fr := [GL]) (List.perm_append_comm (l₁ := [GL])) ?_ (by rintro x Δ' ⟨⟨e, e1, _⟩, _⟩; cases e1)
  rintro x D7 ⟨⟨e8, h1, he8⟩, hm7⟩
  cases h1
  refine J_perm List.perm_append_comm ?_
  refine J_mrun (own := []) (m := 2000) (by simp (maxSteps := 2000000) (disch := omega) only [go_sem, ↓reduceIte, Int.reduceLT, Int.reduceLE, Int.reduceToNat, Int.reducePow, Int.reduceNeg, Nat.reduceBEq, Tryd.ntmps6] <;> with_reducible rfl) ?_
  have c9' := mwithin_ok hm7 [] sE1 (by decide) (by decide)
  rw [ww1] at c9'
  have c9 := ACalls.nilArg (pre := [.c (.pointer (some ⟨b, 0, none⟩))]) (post := []) c9'
  refine J_calls (by simp only [go_sem, ↓reduceIte, Int.reduceLT, Int.reduceLE, Int.reduceToNat, Int.reducePow, Int.reduceNeg, Nat.reduceBEq, Tryd.ntmps6] <;> with_reducible rfl) c9 (Δ1 := _) (Fr := [GL]) (List.perm_append_comm (l₁ := [GL])) ?_ (by rintro x Δ' ⟨e1, _⟩; cases e1)
  rintro x D8 ⟨h1, hm8⟩
  cases h1
  refine J_perm List.perm_append_comm ?_
  refine J_mrun (own := []) (m := 2000) (by simp (maxSteps := 2000000) (disch := omega) only [go_sem, ↓reduceIte, Int.reduceLT, Int.reduceLE, Int.reduceToNat, Int.reducePow, Int.reduceNeg, Nat.reduceBEq, Tryd.ntmps6] <;> with_reducible rfl) ?_
  have c10 := mget_ok hm8 [97] sE0 (by decide)
  rw [wg1] at c10
  simp only [Option.getD_none, Option.isSome_none, zeroE, bytesRows, Entry.av, Entry.cells] at c10
  refine J_callr (by simp only [go_sem, ↓reduceIte, Int.reduceLT, Int.reduceLE, Int.reduceToNat, Int.reducePow, Int.reduceNeg, Nat.reduceBEq, Tryd.ntmps6] <;> with_reducible rfl) (c10.around (Fr := [GL]) (List.perm_append_comm (l₁ := [GL]))) ?_
  refine J_mrun (own := [10]) (m := 2000) (by simp (maxSteps := 2000000) (disch := omega) only [go_sem, ↓reduceIte, Int.reduceLT, Int.reduceLE, Int.reduceToNat, Int.reducePow, Int.reduceNeg, Nat.reduceBEq, Tryd.ntmps6] <;> with_reducible rfl) ?_
  refine J_newvar rfl (by simp only [go_sem, ↓reduceIte, Int.reduceLT, Int.reduceLE, Int.reduceToNat, Int.reducePow, Int.reduceNeg, Nat.reduceBEq, Tryd.ntmps6]) (by simp only [go_sem, ↓reduceIte, Int.reduceLT, Int.reduceLE, Int.reduceToNat, Int.reducePow, Int.reduceNeg, Nat.reduceBEq] <;> with_reducible rfl) (fun b10 hb10 => ?_)
  obtain rfl := isErr0 he3 rfl
  obtain rfl := isErr0 he8 rfl
  refine J_mrun (own := []) (m := 2000) (by simp (maxSteps := 2000000) (disch := omega) only [go_sem, ↓reduceIte, Int.reduceLT, Int.reduceLE, Int.reduceToNat, Int.reducePow, Int.reduceNeg, Nat.reduceBEq, Tryd.ntmps6] <;> with_reducible rfl) ?_
  refine J_callg (by simp only [go_sem, ↓reduceIte, Int.reduceLT, Int.reduceLE, Int.reduceToNat, Int.reducePow, Int.reduceNeg, Nat.reduceBEq, Tryd.ntmps6] <;> with_reducible rfl) (by simp [GL]) (of_ok he6) ?_
  refine J_mrun (own := []) (m := 2000) (by simp (maxSteps := 2000000) (disch := omega) only [go_sem, ↓reduceIte, Int.reduceLT, Int.reduceLE, Int.reduceToNat, Int.reducePow, Int.reduceNeg, Nat.reduceBEq, Tryd.ntmps6] <;> with_reducible rfl) ?_
  have c11 := mforgot_ok hm8
  refine J_callr (by simp only [go_sem, ↓reduceIte, Int.reduceLT, Int.reduceLE, Int.reduceToNat, Int.reducePow, Int.reduceNeg, Nat.reduceBEq, Tryd.ntmps6] <;> with_reducible rfl) (c11.around (Fr := [_, _]) (List.perm_append_comm (l₁ := [_, _]))) ?_
  refine J_mrun (own := []) (m := 2000) (by simp (maxSteps := 2000000) (disch := omega) only [go_sem, ↓reduceIte, Int.reduceLT, Int.reduceLE, Int.reduceToNat, Int.reducePow, Int.reduceNeg, Nat.reduceBEq, Tryd.ntmps6] <;> with_reducible rfl) ?_
  have c12 := mforget_ok hm8 [97] sE0 (by decide)
  rw [wfg] at c12
  refine J_calls (by simp only [go_sem, ↓reduceIte, Int.reduceLT, Int.reduceLE, Int.reduceToNat, Int.reducePow, Int.reduceNeg, Nat.reduceBEq, Tryd.ntmps6] <;> with_reducible rfl) c12 (Δ1 := _) (Fr := [_, _]) (List.perm_append_comm (l₁ := [_, _])) ?_ (by rintro x Δ' ⟨e1, _⟩; cases e1)
  rintro x D9 ⟨h1, hm9⟩
  cases h1
  refine J_perm List.perm_append_comm ?_
  refine J_mrun (own := []) (m := 2000) (by simp (maxSteps := 2000000) (disch := omega) only [go_sem, ↓reduceIte, Int.reduceLT, Int.reduceLE, Int.reduceToNat, Int.reducePow, Int.reduceNeg, Nat.reduceBEq, Tryd.ntmps6] <;> with_reducible rfl) ?_
  have c13 := mall_ok hm9 (by decide)
  refine J_callr (by simp only [go_sem, ↓reduceIte, Int.reduceLT, Int.reduceLE, Int.reduceToNat, Int.reducePow, Int.reduceNeg, Nat.reduceBEq, Tryd.ntmps6] <;> with_reducible rfl) (c13.around (Fr := [_, _]) (List.perm_append_comm (l₁ := [_, _]))) ?_
  refine J_mrun (own := []) (m := 2000) (by simp (maxSteps := 2000000) (disch := omega) only [go_sem, ↓reduceIte, Int.reduceLT, Int.reduceLE, Int.reduceToNat, Int.reducePow, Int.reduceNeg, Nat.reduceBEq, Tryd.ntmps6] <;> with_reducible rfl) ?_
  refine J_forget ?_
  refine J_retX Tryd.func6 (by simp only [go_sem, ↓reduceIte, Int.reduceLT, Int.reduceLE, Int.reduceToNat, Int.reducePow, Int.reduceNeg, Nat.reduceBEq, Tryd.f6] <;> first | with_reducible rfl | rfl) ⟨rfl, rfl⟩
end Go.Proofs.YtncincpkdphojaaDoor
end

section
namespace Go.Proofs.YtncincpkdphojaaDoor
open Go Go.Av
set_option linter.unusedVariables false
set_option linter.unusedSimpArgs false

/-- The document's map and the program's, side by side. -/
structure Rel (r m : RM) (N : Nat) : Prop where
  L : r.L = m.L
  n : r.n = m.n
  F : ∀ h, floorF r.F h = floorF m.F h
  sE : SortedE m.L
  sF : SortedF m.F
  lL : m.L.length ≤ N
  lF : m.F.length ≤ N
  lR : r.F.length ≤ N
  ok : ∀ x ∈ m.L, x.key.length ≤ 200 ∧ x.val.length ≤ 5000

theorem Rel.mono {r m : RM} {N N' : Nat} (h : Rel r m N) (hN : N ≤ N') : Rel r m N' :=
  ⟨h.L, h.n, h.F, h.sE, h.sF, Nat.le_trans h.lL hN, Nat.le_trans h.lF hN, Nat.le_trans h.lR hN, h.ok⟩

theorem but_mem {l : List Entry} {k : List UInt8} {y : Entry} (h : y ∈ but l k) : y ∈ l := (List.mem_filter.1 h).1
theorem putL_mem {l : List Entry} {x y : Entry} (h : y ∈ putL l x) : y = x ∨ y ∈ l := by
  unfold putL at h
  rcases List.mem_append.1 h with h | h
  · exact .inr (but_mem ((List.takeWhile_sublist _).subset h))
  · rcases List.mem_cons.1 h with h | h
    · exact .inl h
    · exact .inr (but_mem ((List.dropWhile_sublist _).subset h))
theorem putL_len (l : List Entry) (x : Entry) : (putL l x).length ≤ l.length + 1 := by
  have h1 := congrArg List.length (List.takeWhile_append_dropWhile (p := fun y : Entry => Op.bytesLess y.key x.key) (l := but l x.key))
  have h2 : (but l x.key).length ≤ l.length := List.length_filter_le _ _
  rw [List.length_append] at h1
  unfold putL
  simp only [List.length_append, List.length_cons]
  omega

theorem rel_set {r m : RM} {N : Nat} (h : Rel r m N) {x : Entry} (hx : x.key.length ≤ 200 ∧ x.val.length ≤ 5000) : (setRM r x).2 = (setRM m x).2 ∧ Rel (setRM r x).1 (setRM m x).1 (N + 1) := by
  unfold setRM
  rw [h.F]
  split
  · exact ⟨rfl, h.mono (by omega)⟩
  · split
    · exact ⟨rfl, h.mono (by omega)⟩
    · refine ⟨rfl, ⟨by show putL r.L x = putL m.L x; rw [h.L], h.n, h.F, put_sorted h.sE x, h.sF, ?_, by have := h.lF; show m.F.length ≤ _; omega, by have := h.lR; show r.F.length ≤ _; omega, ?_⟩⟩
      · have := putL_len m.L x; have := h.lL; show (putL m.L x).length ≤ _; omega
      · intro y hy
        rcases putL_mem hy with rfl | h1
        · exact hx
        · exact h.ok y h1

theorem rel_forget {r m : RM} {N : Nat} (h : Rel r m N) (k : List UInt8) : (forgetRM r k).2 = (forgetRM m k).2 ∧ Rel (forgetRM r k).1 (forgetRM m k).1 N := by
  unfold forgetRM
  rw [h.L]
  split
  · refine ⟨rfl, ⟨rfl, by show IntKind.i64.wrap (r.n + 1) = IntKind.i64.wrap (m.n + 1); rw [h.n], h.F, but_sorted h.sE k, h.sF, Nat.le_trans (List.length_filter_le _ _) h.lL, h.lF, h.lR, fun y hy => h.ok y (but_mem hy)⟩⟩
  · exact ⟨rfl, h⟩

theorem rel_fold {st : RM → Entry → RM} (hst : ∀ {r m : RM} {N : Nat}, Rel r m N → ∀ x, Rel (st r x) (st m x) N) {N : Nat} : ∀ (l : List Entry) {r m : RM}, Rel r m N → Rel (l.foldl st r) (l.foldl st m) N
  | [], _, _, h => h
  | x :: l, _, _, h => rel_fold hst l (hst h x)

theorem rel_raiseStep (k : List UInt8) (fl : Int) {r m : RM} {N : Nat} (h : Rel r m N) (x : Entry) : Rel (raiseStep k fl r x) (raiseStep k fl m x) N := by
  unfold raiseStep
  split
  · exact (rel_forget h x.key).2
  · exact h
theorem rel_withinStep (l : List Entry) {r m : RM} {N : Nat} (h : Rel r m N) (x : Entry) : Rel (withinStep l r x) (withinStep l m x) N := by
  unfold withinStep
  split
  · exact (rel_forget h x.key).2
  · exact h

theorem rel_raise {r m : RM} {N : Nat} (h : Rel r m N) (k : List UInt8) (a : Int) : Rel (raiseRM r k a) (raiseM m k a) (N + 1) := by
  unfold raiseRM raiseM
  simp only
  have hF : ∀ h', floorF (raiseF r.F (hash64 k) a) h' = floorF (raiseP m.F (hash64 k) a) h' := by
    intro h'; rw [floorF_raise, floorF_raiseP h.sF, h.F, h.F]
  rw [hF, h.L]
  refine rel_fold (fun h x => rel_raiseStep k _ h x) m.L ⟨rfl, h.n, hF, h.sE, raiseP_sorted h.sF _ _, by have := h.lL; show m.L.length ≤ _; omega, ?_, ?_, h.ok⟩
  · have := raiseP_len m.F (hash64 k) a; have := h.lF; show (raiseP m.F (hash64 k) a).length ≤ _; omega
  · have := raiseF_len r.F (hash64 k) a; have := h.lR; show (raiseF r.F (hash64 k) a).length ≤ _; omega

theorem rel_release {r m : RM} {N : Nat} (h : Rel r m N) (hh : Int) : Rel { r with F := relF r.F hh } { m with F := relF m.F hh } N :=
  ⟨h.L, h.n, fun h' => by show floorF (relF r.F hh) h' = floorF (relF m.F hh) h'; rw [floorF_rel, floorF_rel, h.F], h.sE, rel_sorted h.sF hh, h.lL, Nat.le_trans (relF_len _ _) h.lF, Nat.le_trans (relF_len _ _) h.lR, h.ok⟩

theorem rel_told {r m : RM} {N : Nat} (h : Rel r m N) (k : List UInt8) (x : Entry) (got : Bool) : (toldRM r k x got).2 = (toldRM m k x got).2 ∧ Rel (toldRM r k x got).1 (toldRM m k x got).1 N := by
  unfold toldRM
  split
  · exact ⟨by rw [h.L], h⟩
  · exact ⟨rfl, (rel_forget h k).2⟩

theorem rel_within {r m : RM} {N : Nat} (h : Rel r m N) (l : List Entry) : (withinRM r l).2 = (withinRM m l).2 ∧ Rel (withinRM r l).1 (withinRM m l).1 N := by
  unfold withinRM
  have e1 : inAll r l = inAll m l := by unfold inAll; rw [h.L]
  rw [e1]
  split
  · rw [h.L]
    exact ⟨rfl, rel_fold (fun h x => rel_withinStep l h x) m.L h⟩
  · exact ⟨rfl, h⟩

theorem rel_start : Rel ⟨[], [], 0⟩ ⟨[], [], 0⟩ 0 :=
  ⟨rfl, rfl, fun _ => rfl, List.Pairwise.nil, List.Pairwise.nil, Nat.le_refl _, Nat.le_refl _, Nat.le_refl _, by simp⟩

/-! ### What is light -/
theorem lightGo_ok : ∀ {l : List Entry} {n : Nat}, lightGo n l = true → ∀ x ∈ l, x.key.length ≤ 200 ∧ x.val.length ≤ 5000
  | [], _, _ => by simp
  | y :: l, n, h => by
    unfold lightGo at h
    split at h
    · simp at h
    · split at h
      · simp at h
      · intro x hx
        rcases List.mem_cons.1 hx with rfl | hx
        · omega
        · exact lightGo_ok h x hx
theorem lightI_ok {l : List Entry} (h : ¬ 0 < lightI l) : ∀ x ∈ l, x.key.length ≤ 200 ∧ x.val.length ≤ 5000 := by
  unfold lightI at h
  split at h
  · omega
  · split at h
    · rename_i h1; exact lightGo_ok h1
    · omega
theorem lightD_len {l : List OpD} (h : lightD l = true) : l.length ≤ 40 := by
  unfold lightD at h
  simp only [Bool.and_eq_true, decide_eq_true_eq] at h
  omega
theorem lightD_ok {l : List OpD} (h : lightD l = true) : ∀ o ∈ l, o.l.length ≤ 8 ∧ (o.x.key.length ≤ 200 ∧ o.x.val.length ≤ 5000) ∧ ∀ y ∈ o.l, y.key.length ≤ 200 ∧ y.val.length ≤ 5000 := by
  intro o ho
  unfold lightD at h
  simp only [Bool.and_eq_true, decide_eq_true_eq] at h
  have h1 := List.all_eq_true.1 h.2 o ho
  unfold lightOp at h1
  simp only [Bool.and_eq_true, decide_eq_true_eq] at h1
  have h2 := lightI_ok h1.2
  exact ⟨by omega, h2 o.x (List.mem_cons_self ..), fun y hy => h2 y (List.mem_cons_of_mem _ hy)⟩
end Go.Proofs.YtncincpkdphojaaDoor
end
