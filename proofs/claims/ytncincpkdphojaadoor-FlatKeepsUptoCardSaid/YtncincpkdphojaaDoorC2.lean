/- A part of the proof: what the calls do, told by values. -/
import Derived.Test.YtncincpkdphojaaDoorC1
section
namespace Go.Proofs.YtncincpkdphojaaDoor
open Go Go.Av
set_option linter.unusedVariables false
set_option linter.unusedSimpArgs false
set_option maxRecDepth 100000
set_option maxHeartbeats 4000000
attribute [local go_sem] Entry.av Entry.cells RM.av packed List.set_cons_zero List.set_cons_succ

def relF (F : List Flo) (h : Int) : List Flo := F.filter fun x => decide (x.hash ≠ h)
theorem relF_len (F : List Flo) (h : Int) : (relF F h).length ≤ F.length := List.length_filter_le _ _
theorem flos_append (a b : List Flo) : flos (a ++ b) = flos a ++ flos b := by simp [flos]
theorem own_snocF {e : TypeId} {l : List Flo} {y : Flo} {v : Value} {D : List HP} (h : Own e 2 ((flos l).flatten ++ y.cells) ((flos l).length + 1) v D) : Own e 2 (flos (l ++ [y])).flatten (flos (l ++ [y])).length v D := by
  rw [flos_append, List.flatten_append, List.length_append]
  have e1 : (flos [y]).flatten = y.cells := by simp [flos]
  rw [e1]; exact h

theorem rrelease_ok (m : RM) (k : List UInt8) (hk : k.length < 2 ^ 62) (hF : m.F.length < 2 ^ 30) : ACalls Tryd.prog 15 [m.av, .c (.string (mkStr k))] []
    (fun r Δ => ∃ v, r = .ret (.agg [.sl 5 (ents m.L), .c v, .c (.int .i64 m.n)]) ∧ Own 87 2 (flos (relF m.F (hash64 k))).flatten (flos (relF m.F (hash64 k))).length v Δ) := by
  simp only [RM.av]
  refine calls_of_J cl_15 Tryd.func15 rfl (by simp [Tryd.ntmps15]) ?_
  refine J_mrun (own := [4]) (m := 2000) (by simp (maxSteps := 2000000) (disch := omega) only [go_sem, ↓reduceIte, Int.reduceLT, Int.reduceLE, Int.reduceToNat, Int.reducePow, Int.reduceNeg, Nat.reduceBEq, Tryd.ntmps15] <;> with_reducible rfl) ?_
  refine J_newvar rfl (by simp only [go_sem, ↓reduceIte, Int.reduceLT, Int.reduceLE, Int.reduceToNat, Int.reducePow, Int.reduceNeg, Nat.reduceBEq, Tryd.ntmps15]) (by simp only [go_sem, ↓reduceIte, Int.reduceLT, Int.reduceLE, Int.reduceToNat, Int.reducePow, Int.reduceNeg, Nat.reduceBEq] <;> with_reducible rfl) (fun b4 hb4 => ?_)
  refine J_mrun (own := [5]) (m := 2000) (by simp (maxSteps := 2000000) (disch := omega) only [go_sem, ↓reduceIte, Int.reduceLT, Int.reduceLE, Int.reduceToNat, Int.reducePow, Int.reduceNeg, Nat.reduceBEq, Tryd.ntmps15] <;> with_reducible rfl) ?_
  refine J_newvar rfl (by simp only [go_sem, ↓reduceIte, Int.reduceLT, Int.reduceLE, Int.reduceToNat, Int.reducePow, Int.reduceNeg, Nat.reduceBEq, Tryd.ntmps15]) (by simp only [go_sem, ↓reduceIte, Int.reduceLT, Int.reduceLE, Int.reduceToNat, Int.reducePow, Int.reduceNeg, Nat.reduceBEq] <;> with_reducible rfl) (fun b5 hb5 => ?_)
  simp only [fresh] at hb5
  have n1 := hb5.1
  have n2 := hb5.2.1
  refine J_mrun (own := []) (m := 2000) (by simp (maxSteps := 2000000) (disch := omega) only [go_sem, ↓reduceIte, Int.reduceLT, Int.reduceLE, Int.reduceToNat, Int.reducePow, Int.reduceNeg, Nat.reduceBEq, Tryd.ntmps15, n1, n2] <;> with_reducible rfl) ?_
  refine J_keep [1, 2, 4, 5, 6] (by simp only [go_sem, ↓reduceIte, Int.reduceLT, Int.reduceLE, Int.reduceToNat, Int.reducePow, Int.reduceNeg, Nat.reduceBEq] <;> with_reducible rfl) ?_
  refine J_loopI (I := fun w e D => ∃ (i : Nat) (v : Value) (D' : List HP), i ≤ m.F.length ∧ w = m.F.length - i ∧ Own 87 2 (flos (relF (m.F.take i) (hash64 k))).flatten (flos (relF (m.F.take i) (hash64 k))).length v D' ∧ D = .box b5 30 [.sl 5 (ents m.L), .c v, .c (.int .i64 m.n)] :: .box b4 30 [.c (.slice none 0 0), .c (.slice none 0 0), .c (.int .i64 0)] :: D' ∧ e = [(1, .c (.string (mkStr k))), (2, .fp [.sl 5 (ents m.L), .sl 2 (flos m.F), .c (.int .i64 m.n)]), (4, .c (.pointer (some ⟨b4, 0, none⟩))), (5, .c (.pointer (some ⟨b5, 0, none⟩))), (6, .c (.int .i64 i))]) ?_ ?_
  · exact ⟨_, 0, _, [], Nat.zero_le _, rfl, .nil (by simp [flos, relF]) (by simp [flos, relF]), rfl, rfl⟩
  · rintro w e D ⟨i, v, D', hi, rfl, how, rfl, rfl⟩ ih
    refine J_mrun (own := []) (m := 2000) (by simp (maxSteps := 2000000) (disch := omega) only [go_sem, ↓reduceIte, Int.reduceLT, Int.reduceLE, Int.reduceToNat, Int.reducePow, Int.reduceNeg, Nat.reduceBEq, Tryd.ntmps15, flos_len] <;> with_reducible rfl) ?_
    refine J_if (by simp only [go_sem, ↓reduceIte, Int.reduceLT, Int.reduceLE, Int.reduceToNat, Int.reducePow, Int.reduceNeg, Nat.reduceBEq] <;> with_reducible rfl) (fun hc => ?_) (fun hc => ?_)
    · have hlt : i < m.F.length := by omega
      have g0 := List.getElem?_eq_getElem hlt
      have g1 := flos_get g0
      have h0 : (0 : Int) ≤ (i : Int) := by omega
      have hfl := relF_len (m.F.take i) (hash64 k)
      rw [List.length_take] at hfl
      refine J_mrun (own := []) (m := 2000) (by simp (maxSteps := 2000000) (disch := omega) only [go_sem, ↓reduceIte, Int.reduceLT, Int.reduceLE, Int.reduceToNat, Int.reducePow, Int.reduceNeg, Nat.reduceBEq, Tryd.ntmps15] <;> with_reducible rfl) ?_
      refine J_draw [[], [0], [], [0, 1, 2], [0, 1, 2, 3], [0, 1, 2, 3, 4], [], [6], [0, 1, 2, 3, 4, 5, 6, 7]] [(0, .pure), (1, .pure), (2, .pure), (3, .pure), (4, .pure), (5, .pure), (6, .pure), (7, .pure), (8, .pure)] mixed (by kernel_rfl) ?_
      refine Can_run (own := []) (by simp (maxSteps := 2000000) (disch := omega) only [go_sem, ↓reduceIte, Int.reduceLT, Int.reduceLE, Int.reduceToNat, Int.reducePow, Int.reduceNeg, Nat.reduceBEq, Tryd.ntmps15, g1] <;> with_reducible rfl) ?_
      refine Can_callp (by simp only [go_sem, ↓reduceIte, Int.reduceLT, Int.reduceLE, Int.reduceToNat, Int.reducePow, Int.reduceNeg, Nat.reduceBEq, Tryd.ntmps15] <;> with_reducible rfl) (rhash_ok k hk) ?_
      refine Can_run (own := []) (by simp (maxSteps := 2000000) (disch := omega) only [go_sem, ↓reduceIte, Int.reduceLT, Int.reduceLE, Int.reduceToNat, Int.reducePow, Int.reduceNeg, Nat.reduceBEq, Tryd.ntmps15, g1] <;> with_reducible rfl) ?_
      refine Can_nil ?_
      refine J_if (by simp only [go_sem, ↓reduceIte, Int.reduceLT, Int.reduceLE, Int.reduceToNat, Int.reducePow, Int.reduceNeg, Nat.reduceBEq] <;> with_reducible rfl) (fun hd => ?_) (fun hd => ?_)
      · refine J_mrun (own := []) (m := 2000) (by simp (maxSteps := 2000000) (disch := omega) only [go_sem, ↓reduceIte, Int.reduceLT, Int.reduceLE, Int.reduceToNat, Int.reducePow, Int.reduceNeg, Nat.reduceBEq, Tryd.ntmps15] <;> with_reducible rfl) ?_
        refine J_draw [[], [0], [], [2], [], [2, 3, 4], [2, 3, 4, 5], [2, 3, 4, 5, 6], [0, 1, 2, 3, 4, 5, 6, 7], [0, 1, 2, 3, 4, 5, 6, 7, 8], [0, 1, 2, 3, 4, 5, 6, 7, 8, 9]] [(0, .pure), (1, .read), (2, .pure), (3, .read), (4, .pure), (5, .pure), (6, .read), (7, .pure), (8, .act), (9, .pure), (10, .act)] mixed (by kernel_rfl) ?_
        refine Can_run (own := [33]) (by simp (maxSteps := 2000000) (disch := omega) only [go_sem, ↓reduceIte, Int.reduceLT, Int.reduceLE, Int.reduceToNat, Int.reducePow, Int.reduceNeg, Nat.reduceBEq, Tryd.ntmps15, g1] <;> with_reducible rfl) ?_
        refine Can_bi (by simp only [go_sem, ↓reduceIte, Int.reduceLT, Int.reduceLE, Int.reduceToNat, Int.reducePow, Int.reduceNeg, Nat.reduceBEq, Tryd.ntmps15] <;> with_reducible rfl) (append_bi (by simp only [go_sem, ↓reduceIte, Int.reduceLT, Int.reduceLE, Int.reduceToNat, Int.reducePow, Int.reduceNeg, Nat.reduceBEq] <;> with_reducible rfl) how (Fr := [_, _]) (List.Perm.refl _) (by simp only [go_sem] <;> rfl) (by rfl) (by rw [flos_len]; omega)) ?_
        rintro _ _ ⟨v', D'', rfl, rfl, how'⟩
        obtain ⟨va, vc, rfl⟩ := how'.slice
        simp only [List.cons_append, List.nil_append]
        refine Can_run (own := []) (by simp (maxSteps := 2000000) (disch := omega) only [go_sem, ↓reduceIte, Int.reduceLT, Int.reduceLE, Int.reduceToNat, Int.reducePow, Int.reduceNeg, Nat.reduceBEq, Tryd.ntmps15] <;> with_reducible rfl) ?_
        refine Can_nil ?_
        refine J_mrun (own := []) (m := 2000) (by simp (maxSteps := 2000000) (disch := omega) only [go_sem, ↓reduceIte, Int.reduceLT, Int.reduceLE, Int.reduceToNat, Int.reducePow, Int.reduceNeg, Nat.reduceBEq, Tryd.ntmps15] <;> with_reducible rfl) ?_
        refine J_keep [1, 2, 4, 5, 6] (by simp only [go_sem, ↓reduceIte, Int.reduceLT, Int.reduceLE, Int.reduceToNat, Int.reducePow, Int.reduceNeg, Nat.reduceBEq] <;> with_reducible rfl) ?_
        refine ih _ _ _ ?_ ⟨i + 1, _, D'', hlt, rfl, ?_, rfl, by simp only [Int.natCast_add, Int.cast_ofNat_Int]⟩
        · omega
        · have e1 : relF (m.F.take (i + 1)) (hash64 k) = relF (m.F.take i) (hash64 k) ++ [m.F[i]] := by
            simp only [relF, List.take_add_one, g0, Option.toList_some, List.filter_append]
            simp [hd]
          rw [e1]
          exact own_snocF how'
      · refine J_mrun (own := []) (m := 2000) (by simp (maxSteps := 2000000) (disch := omega) only [go_sem, ↓reduceIte, Int.reduceLT, Int.reduceLE, Int.reduceToNat, Int.reducePow, Int.reduceNeg, Nat.reduceBEq, Tryd.ntmps15] <;> with_reducible rfl) ?_
        refine J_keep [1, 2, 4, 5, 6] (by simp only [go_sem, ↓reduceIte, Int.reduceLT, Int.reduceLE, Int.reduceToNat, Int.reducePow, Int.reduceNeg, Nat.reduceBEq] <;> with_reducible rfl) ?_
        refine ih _ _ _ ?_ ⟨i + 1, v, D', hlt, rfl, ?_, rfl, by simp only [Int.natCast_add, Int.cast_ofNat_Int]⟩
        · omega
        · have e1 : relF (m.F.take (i + 1)) (hash64 k) = relF (m.F.take i) (hash64 k) := by
            simp only [relF, List.take_add_one, g0, Option.toList_some, List.filter_append]
            simp [hd]
          rw [e1]; exact how
    · have hi' : i = m.F.length := by omega
      subst hi'
      rw [List.take_length] at how
      obtain ⟨va, vc, rfl⟩ := how.slice
      refine J_mrun (own := []) (m := 2000) (by simp (maxSteps := 2000000) (disch := omega) only [go_sem, ↓reduceIte, Int.reduceLT, Int.reduceLE, Int.reduceToNat, Int.reducePow, Int.reduceNeg, Nat.reduceBEq, Tryd.ntmps15, n1, n2] <;> with_reducible rfl) ?_
      refine J_forgetP ?_
      refine J_retX Tryd.func15 (by simp only [go_sem, ↓reduceIte, Int.reduceLT, Int.reduceLE, Int.reduceToNat, Int.reducePow, Int.reduceNeg, Nat.reduceBEq, Tryd.f15, n1, n2] <;> first | with_reducible rfl | rfl) ⟨[_, _], D', List.Perm.refl _, _, rfl, how⟩
end Go.Proofs.YtncincpkdphojaaDoor
end

section
namespace Go.Proofs.YtncincpkdphojaaDoor
open Go Go.Av
set_option linter.unusedVariables false
set_option linter.unusedSimpArgs false
set_option maxRecDepth 100000
set_option maxHeartbeats 4000000
attribute [local go_sem] Entry.av Entry.cells RM.av packed List.set_cons_zero List.set_cons_succ

def raiseF (F : List Flo) (h a : Int) : List Flo := if floorF F h < a then relF F h ++ [⟨h, a⟩] else F
def raiseStep (k : List UInt8) (fl : Int) (o : RM) (x : Entry) : RM := if hash64 x.key = hash64 k ∧ x.asof < fl then (forgetRM o x.key).1 else o
def raiseRM (m : RM) (k : List UInt8) (a : Int) : RM :=
  let F' := raiseF m.F (hash64 k) a
  m.L.foldl (raiseStep k (floorF F' (hash64 k))) { m with F := F' }

theorem forgetRM_F (m : RM) (k : List UInt8) : (forgetRM m k).1.F = m.F := by unfold forgetRM; split <;> rfl
theorem forgetRM_len (m : RM) (k : List UInt8) : (forgetRM m k).1.L.length ≤ m.L.length := by unfold forgetRM; split; (· exact but_len _ _); (· exact Nat.le_refl _)
theorem raiseStep_F (k : List UInt8) (fl : Int) (o : RM) (x : Entry) : (raiseStep k fl o x).F = o.F := by unfold raiseStep; split; (· exact forgetRM_F _ _); (· rfl)
theorem raiseStep_len (k : List UInt8) (fl : Int) (o : RM) (x : Entry) : (raiseStep k fl o x).L.length ≤ o.L.length := by unfold raiseStep; split; (· exact forgetRM_len _ _); (· exact Nat.le_refl _)
theorem foldl_snoc {α β : Type} {l : List α} {i : Nat} (h : i < l.length) {f : β → α → β} {o : β} : (l.take (i + 1)).foldl f o = f ((l.take i).foldl f o) l[i] := by
  rw [List.take_add_one, List.getElem?_eq_getElem h, Option.toList_some, List.foldl_append, List.foldl_cons, List.foldl_nil]
theorem raiseF_len (F : List Flo) (h a : Int) : (raiseF F h a).length ≤ F.length + 1 := by
  unfold raiseF; split
  · have := relF_len F h; simp; omega
  · omega

theorem rraise_ok (m : RM) (k : List UInt8) (a : Int) (hk : k.length < 2 ^ 62) (hl : m.L.length < 2 ^ 30) (hF : m.F.length < 2 ^ 29) (hkeys : ∀ x ∈ m.L, x.key.length < 2 ^ 62) : ACalls Tryd.prog 13 [m.av, .c (.string (mkStr k)), .c (.int .i64 a)] [] (Ret (raiseRM m k a).av) := by
  simp only [RM.av]
  have hF2 := raiseF_len m.F (hash64 k) a
  refine calls_of_J cl_13 Tryd.func13 rfl (by simp [Tryd.ntmps13]) ?_
  refine J_mrun (own := [6]) (m := 2000) (by simp (maxSteps := 2000000) (disch := omega) only [go_sem, ↓reduceIte, Int.reduceLT, Int.reduceLE, Int.reduceToNat, Int.reducePow, Int.reduceNeg, Nat.reduceBEq, Tryd.ntmps13] <;> with_reducible rfl) ?_
  refine J_newvar rfl (by simp only [go_sem, ↓reduceIte, Int.reduceLT, Int.reduceLE, Int.reduceToNat, Int.reducePow, Int.reduceNeg, Nat.reduceBEq, Tryd.ntmps13]) (by simp only [go_sem, ↓reduceIte, Int.reduceLT, Int.reduceLE, Int.reduceToNat, Int.reducePow, Int.reduceNeg, Nat.reduceBEq] <;> with_reducible rfl) (fun b6 hb6 => ?_)
  refine J_mrun (own := [7]) (m := 2000) (by simp (maxSteps := 2000000) (disch := omega) only [go_sem, ↓reduceIte, Int.reduceLT, Int.reduceLE, Int.reduceToNat, Int.reducePow, Int.reduceNeg, Nat.reduceBEq, Tryd.ntmps13] <;> with_reducible rfl) ?_
  refine J_newvar rfl (by simp only [go_sem, ↓reduceIte, Int.reduceLT, Int.reduceLE, Int.reduceToNat, Int.reducePow, Int.reduceNeg, Nat.reduceBEq, Tryd.ntmps13]) (by simp only [go_sem, ↓reduceIte, Int.reduceLT, Int.reduceLE, Int.reduceToNat, Int.reducePow, Int.reduceNeg, Nat.reduceBEq] <;> with_reducible rfl) (fun b7 hb7 => ?_)
  simp only [fresh] at hb7
  have n1 := hb7.1
  have n2 := hb7.2.1
  refine J_mrun (own := []) (m := 2000) (by simp (maxSteps := 2000000) (disch := omega) only [go_sem, ↓reduceIte, Int.reduceLT, Int.reduceLE, Int.reduceToNat, Int.reducePow, Int.reduceNeg, Nat.reduceBEq, Tryd.ntmps13, n1, n2] <;> with_reducible rfl) ?_
  refine J_callp (by simp only [go_sem, ↓reduceIte, Int.reduceLT, Int.reduceLE, Int.reduceToNat, Int.reducePow, Int.reduceNeg, Nat.reduceBEq, Tryd.ntmps13] <;> with_reducible rfl) (rfloor_ok m k hk (by omega)) ?_
  refine J_mrun (own := []) (m := 2000) (by simp (maxSteps := 2000000) (disch := omega) only [go_sem, ↓reduceIte, Int.reduceLT, Int.reduceLE, Int.reduceToNat, Int.reducePow, Int.reduceNeg, Nat.reduceBEq, Tryd.ntmps13, n1, n2] <;> with_reducible rfl) ?_
  refine J_cut (fun e D => D = [.box b7 30 [.sl 5 (ents m.L), .sl 2 (flos (raiseF m.F (hash64 k) a)), .c (.int .i64 m.n)], .box b6 30 [.c (.slice none 0 0), .c (.slice none 0 0), .c (.int .i64 0)]] ∧ e.keep [1, 3, 6, 7] = some [(1, .c (.string (mkStr k))), (3, .fp [.sl 5 (ents m.L), .sl 2 (flos m.F), .c (.int .i64 m.n)]), (6, .c (.pointer (some ⟨b6, 0, none⟩))), (7, .c (.pointer (some ⟨b7, 0, none⟩)))]) ?_ ?_
  · rintro e D ⟨rfl, hkeep⟩
    refine J_keep [1, 3, 6, 7] hkeep ?_
    refine J_mrun (own := []) (m := 2000) (by simp (maxSteps := 2000000) (disch := omega) only [go_sem, ↓reduceIte, Int.reduceLT, Int.reduceLE, Int.reduceToNat, Int.reducePow, Int.reduceNeg, Nat.reduceBEq, Tryd.ntmps13] <;> with_reducible rfl) ?_
    generalize hF' : raiseF m.F (hash64 k) a = F' at *
    refine J_keep [1, 3, 6, 7, 8] (by simp only [go_sem, ↓reduceIte, Int.reduceLT, Int.reduceLE, Int.reduceToNat, Int.reducePow, Int.reduceNeg, Nat.reduceBEq] <;> with_reducible rfl) ?_
    refine J_loopI (I := fun w e D => ∃ (i : Nat) (o : RM), i ≤ m.L.length ∧ w = m.L.length - i ∧ o = (m.L.take i).foldl (raiseStep k (floorF F' (hash64 k))) { m with F := F' } ∧ o.F = F' ∧ o.L.length ≤ m.L.length ∧ D = [.box b7 30 [.sl 5 (ents o.L), .sl 2 (flos F'), .c (.int .i64 o.n)], .box b6 30 [.c (.slice none 0 0), .c (.slice none 0 0), .c (.int .i64 0)]] ∧ e = [(1, .c (.string (mkStr k))), (3, .fp [.sl 5 (ents m.L), .sl 2 (flos m.F), .c (.int .i64 m.n)]), (6, .c (.pointer (some ⟨b6, 0, none⟩))), (7, .c (.pointer (some ⟨b7, 0, none⟩))), (8, .c (.int .i64 i))]) ?_ ?_
    · exact ⟨_, 0, { m with F := F' }, Nat.zero_le _, rfl, rfl, rfl, Nat.le_refl _, rfl, rfl⟩
    · rintro w e D ⟨i, o, hi, rfl, ho, hoF, hoL, rfl, rfl⟩ ih
      refine J_mrun (own := []) (m := 2000) (by simp (maxSteps := 2000000) (disch := omega) only [go_sem, ↓reduceIte, Int.reduceLT, Int.reduceLE, Int.reduceToNat, Int.reducePow, Int.reduceNeg, Nat.reduceBEq, Tryd.ntmps13, ents_len] <;> with_reducible rfl) ?_
      refine J_if (by simp only [go_sem, ↓reduceIte, Int.reduceLT, Int.reduceLE, Int.reduceToNat, Int.reducePow, Int.reduceNeg, Nat.reduceBEq] <;> with_reducible rfl) (fun hc => ?_) (fun hc => ?_)
      · have hlt : i < m.L.length := by omega
        have g0 := List.getElem?_eq_getElem hlt
        have g1 := ents_get g0
        have h0 : (0 : Int) ≤ (i : Int) := by omega
        have hkx := hkeys m.L[i] (List.getElem_mem _)
        have e1 : (m.L.take (i + 1)).foldl (raiseStep k (floorF F' (hash64 k))) { m with F := F' } = raiseStep k (floorF F' (hash64 k)) o m.L[i] := by
          rw [foldl_snoc hlt, ← ho]
        have hoav : o.av = .agg [.sl 5 (ents o.L), .sl 2 (flos F'), .c (.int .i64 o.n)] := by unfold RM.av; rw [hoF]
        have fl_ok := rfloor_ok o k hk (by rw [hoF]; omega)
        have fg_ok := rforget_ok o m.L[i].key (by omega)
        rw [hoav, hoF] at fl_ok
        rw [hoav] at fg_ok
        refine J_mrun (own := []) (m := 2000) (by simp (maxSteps := 2000000) (disch := omega) only [go_sem, ↓reduceIte, Int.reduceLT, Int.reduceLE, Int.reduceToNat, Int.reducePow, Int.reduceNeg, Nat.reduceBEq, Tryd.ntmps13] <;> with_reducible rfl) ?_
        by_cases h1 : hash64 m.L[i].key = hash64 k
        · refine J_draw [[], [0], [], [0, 1, 2], [0, 1, 2, 3], [0, 1, 2, 3, 4], [0, 1, 2, 3, 4, 5], [], [0, 1, 2, 3, 4, 5, 6, 7], [0, 1, 2, 3, 4, 5, 6, 7, 8], [0, 1, 2, 3, 4, 5, 6, 7, 8, 9], [0, 1, 2, 3, 4, 5, 6, 7, 8, 9, 10], [0, 1, 2, 3, 4, 5, 6, 7, 8, 9, 10, 11], [0, 1, 2, 3, 4, 5, 6, 7, 8, 9, 10], [0, 1, 2, 3, 4, 5, 6, 7, 8, 9, 10, 11, 12, 13], [0, 1, 2, 3, 4, 5, 6, 7, 8, 9, 10, 11, 12, 13, 14], [0, 1, 2, 3, 4, 5, 6, 7, 8, 9, 10, 11, 12, 13, 14, 15], [0, 1, 2, 3, 4, 5, 6, 7, 8, 9, 10], [0, 1, 2, 3, 4, 5, 6, 7, 8, 9, 10], [0, 1, 2, 3, 4, 5, 6, 7, 8, 9, 10, 17, 18], [0, 1, 2, 3, 4, 5, 6, 7, 8, 9, 10, 11, 12, 13, 14, 15, 16, 17, 18, 19], [0, 1, 2, 3, 4, 5, 6, 7, 8, 9, 10, 11, 12, 13, 14, 15, 16, 17, 18, 19, 20]] [(0, .pure), (1, .pure), (2, .pure), (3, .pure), (4, .pure), (5, .pure), (6, .pure), (7, .pure), (8, .pure), (9, .pure), (10, .pure), (11, .pure), (12, .pure), (13, .pure), (14, .pure), (15, .pure), (16, .pure), (17, .read), (18, .pure), (19, .pure), (20, .pure), (21, .pure)] mixed (by kernel_rfl) ?_
          refine Can_run (own := []) (by simp (maxSteps := 2000000) (disch := omega) only [go_sem, ↓reduceIte, Int.reduceLT, Int.reduceLE, Int.reduceToNat, Int.reducePow, Int.reduceNeg, Nat.reduceBEq, Tryd.ntmps13, g1] <;> with_reducible rfl) ?_
          refine Can_callp (by simp only [go_sem, ↓reduceIte, Int.reduceLT, Int.reduceLE, Int.reduceToNat, Int.reducePow, Int.reduceNeg, Nat.reduceBEq, Tryd.ntmps13] <;> with_reducible rfl) (rhash_ok m.L[i].key hkx) ?_
          refine Can_run (own := []) (by simp (maxSteps := 2000000) (disch := omega) only [go_sem, ↓reduceIte, Int.reduceLT, Int.reduceLE, Int.reduceToNat, Int.reducePow, Int.reduceNeg, Nat.reduceBEq, Tryd.ntmps13, g1] <;> with_reducible rfl) ?_
          refine Can_callp (by simp only [go_sem, ↓reduceIte, Int.reduceLT, Int.reduceLE, Int.reduceToNat, Int.reducePow, Int.reduceNeg, Nat.reduceBEq, Tryd.ntmps13] <;> with_reducible rfl) (rhash_ok k hk) ?_
          refine Can_run (own := []) (by simp (maxSteps := 2000000) (disch := omega) only [go_sem, ↓reduceIte, Int.reduceLT, Int.reduceLE, Int.reduceToNat, Int.reducePow, Int.reduceNeg, Nat.reduceBEq, Tryd.ntmps13, g1, eq_true h1] <;> with_reducible rfl) ?_
          refine Can_callp (by simp only [go_sem, ↓reduceIte, Int.reduceLT, Int.reduceLE, Int.reduceToNat, Int.reducePow, Int.reduceNeg, Nat.reduceBEq, Tryd.ntmps13, g1, eq_true h1] <;> with_reducible rfl) (fl_ok) ?_
          refine Can_run (own := []) (by simp (maxSteps := 2000000) (disch := omega) only [go_sem, ↓reduceIte, Int.reduceLT, Int.reduceLE, Int.reduceToNat, Int.reducePow, Int.reduceNeg, Nat.reduceBEq, Tryd.ntmps13, g1, eq_true h1] <;> with_reducible rfl) ?_
          refine Can_nil ?_
          refine J_if (by simp only [go_sem, ↓reduceIte, Int.reduceLT, Int.reduceLE, Int.reduceToNat, Int.reducePow, Int.reduceNeg, Nat.reduceBEq] <;> with_reducible rfl) (fun h2 => ?_) (fun h2 => ?_)
          · refine J_mrun (own := []) (m := 2000) (by simp (maxSteps := 2000000) (disch := omega) only [go_sem, ↓reduceIte, Int.reduceLT, Int.reduceLE, Int.reduceToNat, Int.reducePow, Int.reduceNeg, Nat.reduceBEq, Tryd.ntmps13] <;> with_reducible rfl) ?_
            refine J_draw [[], [], [1], [], [1, 2, 3], [1, 2, 3, 4], [1, 2, 3, 4, 5], [0, 1, 2, 3, 4, 5, 6], [0, 1, 2, 3, 4, 5, 6, 7], [0, 1, 2, 3, 4, 5, 6, 7, 8], [0, 1, 2, 3, 4, 5, 6, 7, 8], [], [0, 1, 2, 3, 4, 5, 6, 7, 8, 9, 11], [0, 1, 2, 3, 4, 5, 6, 7, 8, 9, 10, 11, 12]] [(0, .read), (1, .pure), (2, .pure), (3, .pure), (4, .pure), (5, .pure), (6, .pure), (7, .pure), (8, .pure), (9, .pure), (10, .pure), (11, .new), (12, .act), (13, .pure)] mixed (by kernel_rfl) ?_
            refine Can_run (own := []) (by simp (maxSteps := 2000000) (disch := omega) only [go_sem, ↓reduceIte, Int.reduceLT, Int.reduceLE, Int.reduceToNat, Int.reducePow, Int.reduceNeg, Nat.reduceBEq, Tryd.ntmps13, g1] <;> with_reducible rfl) ?_
            refine Can_callp (by simp only [go_sem, ↓reduceIte, Int.reduceLT, Int.reduceLE, Int.reduceToNat, Int.reducePow, Int.reduceNeg, Nat.reduceBEq, Tryd.ntmps13] <;> with_reducible rfl) (fg_ok) ?_
            refine Can_run (own := []) (by simp (maxSteps := 2000000) (disch := omega) only [go_sem, ↓reduceIte, Int.reduceLT, Int.reduceLE, Int.reduceToNat, Int.reducePow, Int.reduceNeg, Nat.reduceBEq, Tryd.ntmps13, g1] <;> with_reducible rfl) ?_
            refine Can_newvar rfl (by simp only [go_sem, ↓reduceIte, Int.reduceLT, Int.reduceLE, Int.reduceToNat, Int.reducePow, Int.reduceNeg, Nat.reduceBEq, Tryd.ntmps13]) (by simp only [go_sem, ↓reduceIte, Int.reduceLT, Int.reduceLE, Int.reduceToNat, Int.reducePow, Int.reduceNeg, Nat.reduceBEq] <;> with_reducible rfl) (fun b9 hb9 => ?_)
            simp only [fresh] at hb9
            refine Can_run (own := []) (by simp (maxSteps := 2000000) (disch := omega) only [go_sem, ↓reduceIte, Int.reduceLT, Int.reduceLE, Int.reduceToNat, Int.reducePow, Int.reduceNeg, Nat.reduceBEq, Tryd.ntmps13, hb9.1, hb9.2.1] <;> with_reducible rfl) ?_
            refine Can_nil ?_
            refine J_mrun (own := []) (m := 2000) (by simp (maxSteps := 2000000) (disch := omega) only [go_sem, ↓reduceIte, Int.reduceLT, Int.reduceLE, Int.reduceToNat, Int.reducePow, Int.reduceNeg, Nat.reduceBEq, Tryd.ntmps13, hb9.1, hb9.2.1] <;> with_reducible rfl) ?_
            refine J_drop ?_
            refine J_keep [1, 3, 6, 7, 8] (by simp only [go_sem, ↓reduceIte, Int.reduceLT, Int.reduceLE, Int.reduceToNat, Int.reducePow, Int.reduceNeg, Nat.reduceBEq] <;> with_reducible rfl) ?_
            refine ih _ _ _ ?_ ⟨i + 1, _, hlt, rfl, e1.symm, ?_, ?_, ?_, by simp only [Int.natCast_add, Int.cast_ofNat_Int]⟩
            · omega
            · rw [raiseStep_F, hoF]
            · exact Nat.le_trans (raiseStep_len _ _ _ _) hoL
            · unfold raiseStep
              rw [if_pos ⟨h1, h2⟩, forgetRM_F, hoF]
          · refine J_mrun (own := []) (m := 2000) (by simp (maxSteps := 2000000) (disch := omega) only [go_sem, ↓reduceIte, Int.reduceLT, Int.reduceLE, Int.reduceToNat, Int.reducePow, Int.reduceNeg, Nat.reduceBEq, Tryd.ntmps13] <;> with_reducible rfl) ?_
            refine J_keep [1, 3, 6, 7, 8] (by simp only [go_sem, ↓reduceIte, Int.reduceLT, Int.reduceLE, Int.reduceToNat, Int.reducePow, Int.reduceNeg, Nat.reduceBEq] <;> with_reducible rfl) ?_
            refine ih _ _ _ ?_ ⟨i + 1, _, hlt, rfl, e1.symm, ?_, ?_, ?_, by simp only [Int.natCast_add, Int.cast_ofNat_Int]⟩
            · omega
            · rw [raiseStep_F, hoF]
            · exact Nat.le_trans (raiseStep_len _ _ _ _) hoL
            · unfold raiseStep
              rw [if_neg (fun h => h2 h.2)]
        · refine J_draw [[], [0], [], [0, 1, 2], [0, 1, 2, 3], [0, 1, 2, 3, 4], [0, 1, 2, 3, 4, 5], [], [0, 1, 2, 3, 4, 5, 6, 7], [0, 1, 2, 3, 4, 5, 6, 7, 8], [0, 1, 2, 3, 4, 5, 6, 7, 8, 9], [0, 1, 2, 3, 4, 5, 6, 7, 8, 9, 10], [0, 1, 2, 3, 4, 5, 6, 7, 8, 9, 10, 11], [0, 1, 2, 3, 4, 5, 6, 7, 8, 9, 10], [0, 1, 2, 3, 4, 5, 6, 7, 8, 9, 10, 11, 12, 13], [0, 1, 2, 3, 4, 5, 6, 7, 8, 9, 10, 11, 12, 13, 14], [0, 1, 2, 3, 4, 5, 6, 7, 8, 9, 10, 11, 12, 13, 14, 15], [0, 1, 2, 3, 4, 5, 6, 7, 8, 9, 10], [0, 1, 2, 3, 4, 5, 6, 7, 8, 9, 10], [0, 1, 2, 3, 4, 5, 6, 7, 8, 9, 10, 17, 18], [0, 1, 2, 3, 4, 5, 6, 7, 8, 9, 10, 11, 12, 13, 14, 15, 16, 17, 18, 19], [0, 1, 2, 3, 4, 5, 6, 7, 8, 9, 10, 11, 12, 13, 14, 15, 16, 17, 18, 19, 20]] [(0, .pure), (1, .pure), (2, .pure), (3, .pure), (4, .pure), (5, .pure), (6, .pure), (7, .pure), (8, .pure), (9, .pure), (10, .pure), (11, .pure), (12, .pure), (13, .pure), (14, .pure), (15, .pure), (16, .pure), (17, .read), (18, .pure), (19, .pure), (20, .pure), (21, .pure)] mixed (by kernel_rfl) ?_
          refine Can_run (own := []) (by simp (maxSteps := 2000000) (disch := omega) only [go_sem, ↓reduceIte, Int.reduceLT, Int.reduceLE, Int.reduceToNat, Int.reducePow, Int.reduceNeg, Nat.reduceBEq, Tryd.ntmps13, g1] <;> with_reducible rfl) ?_
          refine Can_callp (by simp only [go_sem, ↓reduceIte, Int.reduceLT, Int.reduceLE, Int.reduceToNat, Int.reducePow, Int.reduceNeg, Nat.reduceBEq, Tryd.ntmps13] <;> with_reducible rfl) (rhash_ok m.L[i].key hkx) ?_
          refine Can_run (own := []) (by simp (maxSteps := 2000000) (disch := omega) only [go_sem, ↓reduceIte, Int.reduceLT, Int.reduceLE, Int.reduceToNat, Int.reducePow, Int.reduceNeg, Nat.reduceBEq, Tryd.ntmps13, g1] <;> with_reducible rfl) ?_
          refine Can_callp (by simp only [go_sem, ↓reduceIte, Int.reduceLT, Int.reduceLE, Int.reduceToNat, Int.reducePow, Int.reduceNeg, Nat.reduceBEq, Tryd.ntmps13] <;> with_reducible rfl) (rhash_ok k hk) ?_
          refine Can_run (own := []) (by simp (maxSteps := 2000000) (disch := omega) only [go_sem, ↓reduceIte, Int.reduceLT, Int.reduceLE, Int.reduceToNat, Int.reducePow, Int.reduceNeg, Nat.reduceBEq, Tryd.ntmps13, g1, eq_false h1] <;> with_reducible rfl) ?_
          refine Can_nil ?_
          refine J_false (by simp only [go_sem, ↓reduceIte, Int.reduceLT, Int.reduceLE, Int.reduceToNat, Int.reducePow, Int.reduceNeg, Nat.reduceBEq] <;> with_reducible rfl) ?_
          refine J_mrun (own := []) (m := 2000) (by simp (maxSteps := 2000000) (disch := omega) only [go_sem, ↓reduceIte, Int.reduceLT, Int.reduceLE, Int.reduceToNat, Int.reducePow, Int.reduceNeg, Nat.reduceBEq, Tryd.ntmps13] <;> with_reducible rfl) ?_
          refine J_keep [1, 3, 6, 7, 8] (by simp only [go_sem, ↓reduceIte, Int.reduceLT, Int.reduceLE, Int.reduceToNat, Int.reducePow, Int.reduceNeg, Nat.reduceBEq] <;> with_reducible rfl) ?_
          refine ih _ _ _ ?_ ⟨i + 1, _, hlt, rfl, e1.symm, ?_, ?_, ?_, by simp only [Int.natCast_add, Int.cast_ofNat_Int]⟩
          · omega
          · rw [raiseStep_F, hoF]
          · exact Nat.le_trans (raiseStep_len _ _ _ _) hoL
          · unfold raiseStep
            rw [if_neg (fun h => h1 h.1)]
      · have hi' : i = m.L.length := by omega
        subst hi'
        rw [List.take_length] at ho
        refine J_mrun (own := []) (m := 2000) (by simp (maxSteps := 2000000) (disch := omega) only [go_sem, ↓reduceIte, Int.reduceLT, Int.reduceLE, Int.reduceToNat, Int.reducePow, Int.reduceNeg, Nat.reduceBEq, Tryd.ntmps13, n1, n2] <;> with_reducible rfl) ?_
        refine J_forget ?_
        refine J_retX Tryd.func13 (by simp only [go_sem, ↓reduceIte, Int.reduceLT, Int.reduceLE, Int.reduceToNat, Int.reducePow, Int.reduceNeg, Nat.reduceBEq, Tryd.f13, n1, n2] <;> first | with_reducible rfl | rfl) ⟨by unfold raiseRM; simp only [hF']; rw [← ho, hoF], rfl⟩
  · intro hcut
    refine J_if (by simp only [go_sem, ↓reduceIte, Int.reduceLT, Int.reduceLE, Int.reduceToNat, Int.reducePow, Int.reduceNeg, Nat.reduceBEq] <;> with_reducible rfl) (fun hc => ?_) (fun hc => ?_)
    · refine J_mrun (own := []) (m := 2000) (by simp (maxSteps := 2000000) (disch := omega) only [go_sem, ↓reduceIte, Int.reduceLT, Int.reduceLE, Int.reduceToNat, Int.reducePow, Int.reduceNeg, Nat.reduceBEq, Tryd.ntmps13, n1, n2] <;> with_reducible rfl) ?_
      refine J_calls (by simp only [go_sem, ↓reduceIte, Int.reduceLT, Int.reduceLE, Int.reduceToNat, Int.reducePow, Int.reduceNeg, Nat.reduceBEq, Tryd.ntmps13] <;> with_reducible rfl) (rrelease_ok m k hk (by omega)) (Δ1 := []) (Fr := [_, _]) (List.Perm.refl _) ?_ (by rintro x Δ' ⟨v, e1, _⟩; cases e1)
      rintro x D' ⟨v, e1, how⟩
      cases e1
      obtain ⟨va, vc, rfl⟩ := how.slice
      refine J_perm List.perm_append_comm ?_
      simp only [List.cons_append, List.nil_append]
      refine J_mrun (own := []) (m := 2000) (by simp (maxSteps := 2000000) (disch := omega) only [go_sem, ↓reduceIte, Int.reduceLT, Int.reduceLE, Int.reduceToNat, Int.reducePow, Int.reduceNeg, Nat.reduceBEq, Tryd.ntmps13, n1, n2] <;> with_reducible rfl) ?_
      refine J_draw [[], [0], [], [2], [], [2, 3, 4], [2, 3, 4, 5], [0, 1, 2, 3, 4, 5, 6], [0, 1, 2, 3, 4, 5, 6, 7], [0, 1, 2, 3, 4, 5, 6, 7, 8]] [(0, .pure), (1, .read), (2, .pure), (3, .pure), (4, .pure), (5, .pure), (6, .pure), (7, .act), (8, .pure), (9, .act)] mixed (by kernel_rfl) ?_
      refine Can_run (own := []) (by simp (maxSteps := 2000000) (disch := omega) only [go_sem, ↓reduceIte, Int.reduceLT, Int.reduceLE, Int.reduceToNat, Int.reducePow, Int.reduceNeg, Nat.reduceBEq, Tryd.ntmps13] <;> with_reducible rfl) ?_
      refine Can_callp (by simp only [go_sem, ↓reduceIte, Int.reduceLT, Int.reduceLE, Int.reduceToNat, Int.reducePow, Int.reduceNeg, Nat.reduceBEq, Tryd.ntmps13] <;> with_reducible rfl) (rhash_ok k hk) ?_
      refine Can_run (own := [27]) (by simp (maxSteps := 2000000) (disch := omega) only [go_sem, ↓reduceIte, Int.reduceLT, Int.reduceLE, Int.reduceToNat, Int.reducePow, Int.reduceNeg, Nat.reduceBEq, Tryd.ntmps13] <;> with_reducible rfl) ?_
      refine Can_bi (by simp only [go_sem, ↓reduceIte, Int.reduceLT, Int.reduceLE, Int.reduceToNat, Int.reducePow, Int.reduceNeg, Nat.reduceBEq, Tryd.ntmps13] <;> with_reducible rfl) (append_bi (by simp only [go_sem, ↓reduceIte, Int.reduceLT, Int.reduceLE, Int.reduceToNat, Int.reducePow, Int.reduceNeg, Nat.reduceBEq] <;> with_reducible rfl) how (Fr := [_, _]) (List.Perm.refl _) (by simp only [go_sem] <;> rfl) (by rfl) (by have := relF_len m.F (hash64 k); rw [flos_len]; omega)) ?_
      rintro _ _ ⟨v', D'', rfl, rfl, how'⟩
      obtain ⟨va', vc', rfl⟩ := how'.slice
      simp only [List.cons_append, List.nil_append]
      refine Can_run (own := []) (by simp (maxSteps := 2000000) (disch := omega) only [go_sem, ↓reduceIte, Int.reduceLT, Int.reduceLE, Int.reduceToNat, Int.reducePow, Int.reduceNeg, Nat.reduceBEq, Tryd.ntmps13] <;> with_reducible rfl) ?_
      refine Can_nil ?_
      have how2 := own_snocF (y := ⟨hash64 k, a⟩) how'
      have er : relF m.F (hash64 k) ++ [⟨hash64 k, a⟩] = raiseF m.F (hash64 k) a := by unfold raiseF; rw [if_pos hc]
      rw [er] at how2
      refine J_freezeS (Fr := [_, _]) how2 (flos_row _) (by rw [flos_len]; unfold maxRows; omega) ?_
      refine J_isBox (Fr := [_]) 1 rfl (List.Perm.refl _) (J_perm (List.Perm.swap _ _ _) (J_drop ?_))
      refine J_mrunK hcut (own := []) (m := 300) (by simp (maxSteps := 2000000) (disch := omega) only [go_sem, ↓reduceIte, Int.reduceLT, Int.reduceLE, Int.reduceToNat, Int.reducePow, Int.reduceNeg, Nat.reduceBEq, Tryd.ntmps13] <;> with_reducible rfl) ?_
      exact ⟨rfl, by simp only [go_sem]⟩
    · have er : m.F = raiseF m.F (hash64 k) a := by unfold raiseF; rw [if_neg hc]
      refine J_mrunK hcut (own := []) (m := 300) (by simp (maxSteps := 2000000) (disch := omega) only [go_sem, ↓reduceIte, Int.reduceLT, Int.reduceLE, Int.reduceToNat, Int.reducePow, Int.reduceNeg, Nat.reduceBEq, Tryd.ntmps13] <;> with_reducible rfl) ?_
      exact ⟨by rw [← er], by simp only [go_sem]⟩
end Go.Proofs.YtncincpkdphojaaDoor
end

section
namespace Go.Proofs.YtncincpkdphojaaDoor
open Go Go.Av
set_option linter.unusedVariables false
set_option linter.unusedSimpArgs false
set_option maxRecDepth 100000
set_option maxHeartbeats 4000000
attribute [local go_sem] Entry.av Entry.cells RM.av packed List.set_cons_zero List.set_cons_succ

def toldRM (m : RM) (k : List UInt8) (x : Entry) (got : Bool) : RM × Bool :=
  if got then (m, decide (∃ y, getE m.L k = some y ∧ x.key = k ∧ x = y)) else ((forgetRM m k).1, true)

theorem rtold_ok (m : RM) (k : List UInt8) (x : Entry) (got : Bool) (hl : m.L.length < 2 ^ 30) (hx : x.val.length < 2 ^ 62) : ACalls Tryd.prog 17 [m.av, .c (.string (mkStr k)), x.av, .c (.bool got)] [] (Ret (.tup [(toldRM m k x got).1.av, .c (.bool (toldRM m k x got).2)])) := by
  have hget := rget_ok m k (by omega)
  have hforget := rforget_ok m k hl
  simp only [RM.av, Entry.av, Entry.cells] at hget hforget ⊢
  refine calls_of_J cl_17 Tryd.func17 rfl (by simp [Tryd.ntmps17]) ?_
  refine J_mrun (own := [8]) (m := 2000) (by simp (maxSteps := 2000000) (disch := omega) only [go_sem, ↓reduceIte, Int.reduceLT, Int.reduceLE, Int.reduceToNat, Int.reducePow, Int.reduceNeg, Nat.reduceBEq, Tryd.ntmps17] <;> with_reducible rfl) ?_
  refine J_newvar rfl (by simp only [go_sem, ↓reduceIte, Int.reduceLT, Int.reduceLE, Int.reduceToNat, Int.reducePow, Int.reduceNeg, Nat.reduceBEq, Tryd.ntmps17]) (by simp only [go_sem, ↓reduceIte, Int.reduceLT, Int.reduceLE, Int.reduceToNat, Int.reducePow, Int.reduceNeg, Nat.reduceBEq] <;> with_reducible rfl) (fun b8 hb8 => ?_)
  cases got with
  | false =>
    refine J_mrun (own := []) (m := 2000) (by simp (maxSteps := 2000000) (disch := omega) only [go_sem, ↓reduceIte, Int.reduceLT, Int.reduceLE, Int.reduceToNat, Int.reducePow, Int.reduceNeg, Nat.reduceBEq, Tryd.ntmps17] <;> with_reducible rfl) ?_
    refine J_true (by simp only [go_sem, ↓reduceIte, Int.reduceLT, Int.reduceLE, Int.reduceToNat, Int.reducePow, Int.reduceNeg, Nat.reduceBEq] <;> with_reducible rfl) ?_
    refine J_mrun (own := []) (m := 2000) (by simp (maxSteps := 2000000) (disch := omega) only [go_sem, ↓reduceIte, Int.reduceLT, Int.reduceLE, Int.reduceToNat, Int.reducePow, Int.reduceNeg, Nat.reduceBEq, Tryd.ntmps17] <;> with_reducible rfl) ?_
    refine J_callp (by simp only [go_sem, ↓reduceIte, Int.reduceLT, Int.reduceLE, Int.reduceToNat, Int.reducePow, Int.reduceNeg, Nat.reduceBEq, Tryd.ntmps17] <;> with_reducible rfl) (hforget) ?_
    refine J_mrun (own := [10]) (m := 2000) (by simp (maxSteps := 2000000) (disch := omega) only [go_sem, ↓reduceIte, Int.reduceLT, Int.reduceLE, Int.reduceToNat, Int.reducePow, Int.reduceNeg, Nat.reduceBEq, Tryd.ntmps17] <;> with_reducible rfl) ?_
    refine J_newvar rfl (by simp only [go_sem, ↓reduceIte, Int.reduceLT, Int.reduceLE, Int.reduceToNat, Int.reducePow, Int.reduceNeg, Nat.reduceBEq, Tryd.ntmps17]) (by simp only [go_sem, ↓reduceIte, Int.reduceLT, Int.reduceLE, Int.reduceToNat, Int.reducePow, Int.reduceNeg, Nat.reduceBEq] <;> with_reducible rfl) (fun b10 hb10 => ?_)
    simp only [fresh] at hb10
    refine J_mrun (own := []) (m := 2000) (by simp (maxSteps := 2000000) (disch := omega) only [go_sem, ↓reduceIte, Int.reduceLT, Int.reduceLE, Int.reduceToNat, Int.reducePow, Int.reduceNeg, Nat.reduceBEq, Tryd.ntmps17, hb10.1, hb10.2.1] <;> with_reducible rfl) ?_
    refine J_forget ?_
    refine J_retX Tryd.func17 (by simp only [go_sem, ↓reduceIte, Int.reduceLT, Int.reduceLE, Int.reduceToNat, Int.reducePow, Int.reduceNeg, Nat.reduceBEq, Tryd.f17, hb10.1, hb10.2.1] <;> first | with_reducible rfl | rfl) ⟨rfl, rfl⟩
  | true =>
    refine J_mrun (own := []) (m := 2000) (by simp (maxSteps := 2000000) (disch := omega) only [go_sem, ↓reduceIte, Int.reduceLT, Int.reduceLE, Int.reduceToNat, Int.reducePow, Int.reduceNeg, Nat.reduceBEq, Tryd.ntmps17] <;> with_reducible rfl) ?_
    refine J_false (by simp only [go_sem, ↓reduceIte, Int.reduceLT, Int.reduceLE, Int.reduceToNat, Int.reducePow, Int.reduceNeg, Nat.reduceBEq] <;> with_reducible rfl) ?_
    refine J_mrun (own := []) (m := 2000) (by simp (maxSteps := 2000000) (disch := omega) only [go_sem, ↓reduceIte, Int.reduceLT, Int.reduceLE, Int.reduceToNat, Int.reducePow, Int.reduceNeg, Nat.reduceBEq, Tryd.ntmps17] <;> with_reducible rfl) ?_
    refine J_callp (by simp only [go_sem, ↓reduceIte, Int.reduceLT, Int.reduceLE, Int.reduceToNat, Int.reducePow, Int.reduceNeg, Nat.reduceBEq, Tryd.ntmps17] <;> with_reducible rfl) (hget) ?_
    refine J_mrun (own := [12]) (m := 2000) (by simp (maxSteps := 2000000) (disch := omega) only [go_sem, ↓reduceIte, Int.reduceLT, Int.reduceLE, Int.reduceToNat, Int.reducePow, Int.reduceNeg, Nat.reduceBEq, Tryd.ntmps17] <;> with_reducible rfl) ?_
    refine J_newvar rfl (by simp only [go_sem, ↓reduceIte, Int.reduceLT, Int.reduceLE, Int.reduceToNat, Int.reducePow, Int.reduceNeg, Nat.reduceBEq, Tryd.ntmps17]) (by simp only [go_sem, ↓reduceIte, Int.reduceLT, Int.reduceLE, Int.reduceToNat, Int.reducePow, Int.reduceNeg, Nat.reduceBEq] <;> with_reducible rfl) (fun b12 hb12 => ?_)
    simp only [fresh] at hb12
    refine J_mrun (own := []) (m := 2000) (by simp (maxSteps := 2000000) (disch := omega) only [go_sem, ↓reduceIte, Int.reduceLT, Int.reduceLE, Int.reduceToNat, Int.reducePow, Int.reduceNeg, Nat.reduceBEq, Tryd.ntmps17, hb12.1, hb12.2.1] <;> with_reducible rfl) ?_
    cases hg : getE m.L k with
    | none =>
      simp only [hg, Option.getD_none, Option.isSome_none]
      refine J_draw [[], [], [1], [1, 2], [1, 2, 3], [1, 2], [1, 2, 3, 4, 5], [1, 2, 3, 4, 5, 6], [1, 2, 3, 4, 5, 6, 7], [1, 2, 3, 4, 5, 6, 7, 8], [1, 2, 3, 4, 5, 6, 7, 8], [1, 2, 3, 4, 5, 6, 7, 8, 9, 10], [1, 2, 3, 4, 5, 6, 7, 8, 9, 10, 11], [0, 1, 2, 3, 4, 5, 6, 7, 8, 9, 10, 11], [0, 1, 2, 3, 4, 5, 6, 7, 8, 9, 10, 11, 12, 13]] [(0, .pure), (1, .pure), (2, .pure), (3, .pure), (4, .read), (5, .pure), (6, .pure), (7, .pure), (8, .pure), (9, .pure), (10, .read), (11, .pure), (12, .pure), (13, .act), (14, .pure)] mixed (by kernel_rfl) ?_
      refine Can_run (own := []) (by simp (maxSteps := 2000000) (disch := omega) only [go_sem, ↓reduceIte, Int.reduceLT, Int.reduceLE, Int.reduceToNat, Int.reducePow, Int.reduceNeg, Nat.reduceBEq, Tryd.ntmps17, hb12.1, hb12.2.1] <;> with_reducible rfl) ?_
      refine Can_nil ?_
      refine J_mrun (own := []) (m := 2000) (by simp (maxSteps := 2000000) (disch := omega) only [go_sem, ↓reduceIte, Int.reduceLT, Int.reduceLE, Int.reduceToNat, Int.reducePow, Int.reduceNeg, Nat.reduceBEq, Tryd.ntmps17] <;> with_reducible rfl) ?_
      refine J_forget ?_
      refine J_retX Tryd.func17 (by simp only [go_sem, ↓reduceIte, Int.reduceLT, Int.reduceLE, Int.reduceToNat, Int.reducePow, Int.reduceNeg, Nat.reduceBEq, Tryd.f17, hb12.1, hb12.2.1] <;> first | with_reducible rfl | rfl) ⟨by simp [toldRM, hg], rfl⟩
    | some y =>
      have hs := same06_ok x y hx
      simp only [Entry.av, Entry.cells] at hs
      simp only [hg, Option.getD_some, Option.isSome_some]
      by_cases h1 : x.key = k
      · refine J_draw [[], [], [1], [1, 2], [1, 2, 3], [1, 2], [1, 2, 3, 4, 5], [1, 2, 3, 4, 5, 6], [1, 2, 3, 4, 5, 6, 7], [1, 2, 3, 4, 5, 6, 7, 8], [1, 2, 3, 4, 5, 6, 7, 8], [1, 2, 3, 4, 5, 6, 7, 8, 9, 10], [1, 2, 3, 4, 5, 6, 7, 8, 9, 10, 11], [0, 1, 2, 3, 4, 5, 6, 7, 8, 9, 10, 11], [0, 1, 2, 3, 4, 5, 6, 7, 8, 9, 10, 11, 12, 13]] [(0, .pure), (1, .pure), (2, .pure), (3, .pure), (4, .read), (5, .pure), (6, .pure), (7, .pure), (8, .pure), (9, .pure), (10, .read), (11, .pure), (12, .pure), (13, .act), (14, .pure)] mixed (by kernel_rfl) ?_
        refine Can_run (own := []) (by simp (maxSteps := 2000000) (disch := omega) only [go_sem, ↓reduceIte, Int.reduceLT, Int.reduceLE, Int.reduceToNat, Int.reducePow, Int.reduceNeg, Nat.reduceBEq, Tryd.ntmps17, eq_true h1, hb12.1, hb12.2.1] <;> with_reducible rfl) ?_
        refine Can_callp (by simp only [go_sem, ↓reduceIte, Int.reduceLT, Int.reduceLE, Int.reduceToNat, Int.reducePow, Int.reduceNeg, Nat.reduceBEq, Tryd.ntmps17, eq_true h1] <;> with_reducible rfl) (hs) ?_
        refine Can_run (own := []) (by simp (maxSteps := 2000000) (disch := omega) only [go_sem, ↓reduceIte, Int.reduceLT, Int.reduceLE, Int.reduceToNat, Int.reducePow, Int.reduceNeg, Nat.reduceBEq, Tryd.ntmps17, eq_true h1, hb12.1, hb12.2.1] <;> with_reducible rfl) ?_
        refine Can_nil ?_
        refine J_mrun (own := []) (m := 2000) (by simp (maxSteps := 2000000) (disch := omega) only [go_sem, ↓reduceIte, Int.reduceLT, Int.reduceLE, Int.reduceToNat, Int.reducePow, Int.reduceNeg, Nat.reduceBEq, Tryd.ntmps17] <;> with_reducible rfl) ?_
        refine J_forget ?_
        refine J_retX Tryd.func17 (by simp only [go_sem, ↓reduceIte, Int.reduceLT, Int.reduceLE, Int.reduceToNat, Int.reducePow, Int.reduceNeg, Nat.reduceBEq, Tryd.f17, hb12.1, hb12.2.1] <;> first | with_reducible rfl | rfl) ⟨by simp [toldRM, hg, h1], rfl⟩
      · refine J_draw [[], [], [1], [1, 2], [1, 2, 3], [1, 2], [1, 2, 3, 4, 5], [1, 2, 3, 4, 5, 6], [1, 2, 3, 4, 5, 6, 7], [1, 2, 3, 4, 5, 6, 7, 8], [1, 2, 3, 4, 5, 6, 7, 8], [1, 2, 3, 4, 5, 6, 7, 8, 9, 10], [1, 2, 3, 4, 5, 6, 7, 8, 9, 10, 11], [0, 1, 2, 3, 4, 5, 6, 7, 8, 9, 10, 11], [0, 1, 2, 3, 4, 5, 6, 7, 8, 9, 10, 11, 12, 13]] [(0, .pure), (1, .pure), (2, .pure), (3, .pure), (4, .read), (5, .pure), (6, .pure), (7, .pure), (8, .pure), (9, .pure), (10, .read), (11, .pure), (12, .pure), (13, .act), (14, .pure)] mixed (by kernel_rfl) ?_
        refine Can_run (own := []) (by simp (maxSteps := 2000000) (disch := omega) only [go_sem, ↓reduceIte, Int.reduceLT, Int.reduceLE, Int.reduceToNat, Int.reducePow, Int.reduceNeg, Nat.reduceBEq, Tryd.ntmps17, eq_false h1, hb12.1, hb12.2.1] <;> with_reducible rfl) ?_
        refine Can_nil ?_
        refine J_mrun (own := []) (m := 2000) (by simp (maxSteps := 2000000) (disch := omega) only [go_sem, ↓reduceIte, Int.reduceLT, Int.reduceLE, Int.reduceToNat, Int.reducePow, Int.reduceNeg, Nat.reduceBEq, Tryd.ntmps17] <;> with_reducible rfl) ?_
        refine J_forget ?_
        refine J_retX Tryd.func17 (by simp only [go_sem, ↓reduceIte, Int.reduceLT, Int.reduceLE, Int.reduceToNat, Int.reducePow, Int.reduceNeg, Nat.reduceBEq, Tryd.f17, hb12.1, hb12.2.1] <;> first | with_reducible rfl | rfl) ⟨by simp [toldRM, hg, h1], rfl⟩
end Go.Proofs.YtncincpkdphojaaDoor
end

section
namespace Go.Proofs.YtncincpkdphojaaDoor
open Go Go.Av
set_option linter.unusedVariables false
set_option linter.unusedSimpArgs false
set_option maxRecDepth 100000
set_option maxHeartbeats 4000000
attribute [local go_sem] Entry.av Entry.cells RM.av packed List.set_cons_zero List.set_cons_succ

def inAll (m : RM) (l : List Entry) : Bool := l.all fun x => decide (getE m.L x.key = some x)
def withinStep (l : List Entry) (o : RM) (x : Entry) : RM := if findE l x.key = none then (forgetRM o x.key).1 else o
def withinRM (m : RM) (l : List Entry) : RM × Bool := if inAll m l = true then (m.L.foldl (withinStep l) m, true) else (m, false)
theorem withinStep_F (l : List Entry) (o : RM) (x : Entry) : (withinStep l o x).F = o.F := by unfold withinStep; split; (· exact forgetRM_F _ _); (· rfl)
theorem withinStep_len (l : List Entry) (o : RM) (x : Entry) : (withinStep l o x).L.length ≤ o.L.length := by unfold withinStep; split; (· exact forgetRM_len _ _); (· exact Nat.le_refl _)
theorem inAll_not {m : RM} {l : List Entry} {i : Nat} (h : i < l.length) (hn : getE m.L l[i].key ≠ some l[i]) : inAll m l = false := by
  unfold inAll
  rw [List.all_eq_false]
  exact ⟨l[i], List.getElem_mem _, by simpa using hn⟩

theorem rwithin_ok (m : RM) (l : List Entry) (hl : m.L.length < 2 ^ 30) (hl2 : l.length < 2 ^ 30) (hv : ∀ x ∈ l, x.val.length < 2 ^ 62) : ACalls Tryd.prog 19 [m.av, .sl 5 (ents l)] [] (Ret (.tup [(withinRM m l).1.av, .c (.bool (withinRM m l).2)])) := by
  have hget := fun k => rget_ok m k (by omega)
  simp only [RM.av, Entry.av, Entry.cells] at hget ⊢
  refine calls_of_J cl_19 Tryd.func19 rfl (by simp [Tryd.ntmps19]) ?_
  refine J_mrun (own := [4]) (m := 2000) (by simp (maxSteps := 2000000) (disch := omega) only [go_sem, ↓reduceIte, Int.reduceLT, Int.reduceLE, Int.reduceToNat, Int.reducePow, Int.reduceNeg, Nat.reduceBEq, Tryd.ntmps19] <;> with_reducible rfl) ?_
  refine J_newvar rfl (by simp only [go_sem, ↓reduceIte, Int.reduceLT, Int.reduceLE, Int.reduceToNat, Int.reducePow, Int.reduceNeg, Nat.reduceBEq, Tryd.ntmps19]) (by simp only [go_sem, ↓reduceIte, Int.reduceLT, Int.reduceLE, Int.reduceToNat, Int.reducePow, Int.reduceNeg, Nat.reduceBEq] <;> with_reducible rfl) (fun b4 hb4 => ?_)
  refine J_mrun (own := []) (m := 2000) (by simp (maxSteps := 2000000) (disch := omega) only [go_sem, ↓reduceIte, Int.reduceLT, Int.reduceLE, Int.reduceToNat, Int.reducePow, Int.reduceNeg, Nat.reduceBEq, Tryd.ntmps19] <;> with_reducible rfl) ?_
  refine J_keep [1, 2, 4, 6] (by simp only [go_sem, ↓reduceIte, Int.reduceLT, Int.reduceLE, Int.reduceToNat, Int.reducePow, Int.reduceNeg, Nat.reduceBEq] <;> with_reducible rfl) ?_
  refine J_loopI (I := fun w e D => ∃ i : Nat, i ≤ l.length ∧ w = l.length - i ∧ (∀ j (h : j < l.length), j < i → getE m.L l[j].key = some l[j]) ∧ D = [.box b4 30 [.c (.slice none 0 0), .c (.slice none 0 0), .c (.int .i64 0)]] ∧ e = [(1, .sl 5 (ents l)), (2, .fp [.sl 5 (ents m.L), .sl 2 (flos m.F), .c (.int .i64 m.n)]), (4, .c (.pointer (some ⟨b4, 0, none⟩))), (6, .c (.int .i64 i))]) ?_ ?_
  · exact ⟨_, 0, Nat.zero_le _, rfl, by simp, rfl, rfl⟩
  · rintro w e D ⟨i, hi, rfl, hall, rfl, rfl⟩ ih
    refine J_mrun (own := []) (m := 2000) (by simp (maxSteps := 2000000) (disch := omega) only [go_sem, ↓reduceIte, Int.reduceLT, Int.reduceLE, Int.reduceToNat, Int.reducePow, Int.reduceNeg, Nat.reduceBEq, Tryd.ntmps19, ents_len] <;> with_reducible rfl) ?_
    refine J_if (by simp only [go_sem, ↓reduceIte, Int.reduceLT, Int.reduceLE, Int.reduceToNat, Int.reducePow, Int.reduceNeg, Nat.reduceBEq] <;> with_reducible rfl) (fun hc => ?_) (fun hc => ?_)
    · have hlt : i < l.length := by omega
      have g0 := List.getElem?_eq_getElem hlt
      have g1 := ents_get g0
      have h0 : (0 : Int) ≤ (i : Int) := by omega
      refine J_mrun (own := []) (m := 2000) (by simp (maxSteps := 2000000) (disch := omega) only [go_sem, ↓reduceIte, Int.reduceLT, Int.reduceLE, Int.reduceToNat, Int.reducePow, Int.reduceNeg, Nat.reduceBEq, Tryd.ntmps19] <;> with_reducible rfl) ?_
      refine J_draw [[], [], [], [1, 2], [1, 2, 3], [1, 2, 3, 4], [0, 1, 2, 3, 4, 5], [0, 1, 2, 3, 4, 5, 6], [0, 1, 2, 3, 4, 5, 6, 7], [0, 1, 2, 3, 4, 5, 6, 7], [], [0, 1, 2, 3, 4, 5, 6, 7, 8, 10], [0, 1, 2, 3, 4, 5, 6, 7, 8, 9, 10, 11]] [(0, .pure), (1, .pure), (2, .pure), (3, .pure), (4, .pure), (5, .pure), (6, .pure), (7, .pure), (8, .pure), (9, .pure), (10, .new), (11, .act), (12, .pure)] mixed (by kernel_rfl) ?_
      refine Can_run (own := []) (by simp (maxSteps := 2000000) (disch := omega) only [go_sem, ↓reduceIte, Int.reduceLT, Int.reduceLE, Int.reduceToNat, Int.reducePow, Int.reduceNeg, Nat.reduceBEq, Tryd.ntmps19, g1] <;> with_reducible rfl) ?_
      refine Can_callp (by simp only [go_sem, ↓reduceIte, Int.reduceLT, Int.reduceLE, Int.reduceToNat, Int.reducePow, Int.reduceNeg, Nat.reduceBEq, Tryd.ntmps19] <;> with_reducible rfl) (hget l[i].key) ?_
      refine Can_run (own := []) (by simp (maxSteps := 2000000) (disch := omega) only [go_sem, ↓reduceIte, Int.reduceLT, Int.reduceLE, Int.reduceToNat, Int.reducePow, Int.reduceNeg, Nat.reduceBEq, Tryd.ntmps19, g1] <;> with_reducible rfl) ?_
      refine Can_newvar rfl (by simp only [go_sem, ↓reduceIte, Int.reduceLT, Int.reduceLE, Int.reduceToNat, Int.reducePow, Int.reduceNeg, Nat.reduceBEq, Tryd.ntmps19]) (by simp only [go_sem, ↓reduceIte, Int.reduceLT, Int.reduceLE, Int.reduceToNat, Int.reducePow, Int.reduceNeg, Nat.reduceBEq] <;> with_reducible rfl) (fun b7 hb7 => ?_)
      simp only [fresh] at hb7
      refine Can_run (own := []) (by simp (maxSteps := 2000000) (disch := omega) only [go_sem, ↓reduceIte, Int.reduceLT, Int.reduceLE, Int.reduceToNat, Int.reducePow, Int.reduceNeg, Nat.reduceBEq, Tryd.ntmps19, hb7.1, hb7.2.1] <;> with_reducible rfl) ?_
      refine Can_nil ?_
      cases hg : getE m.L l[i].key with
      | none =>
        simp only [hg, Option.getD_none, Option.isSome_none]
        refine J_mrun (own := []) (m := 2000) (by simp (maxSteps := 2000000) (disch := omega) only [go_sem, ↓reduceIte, Int.reduceLT, Int.reduceLE, Int.reduceToNat, Int.reducePow, Int.reduceNeg, Nat.reduceBEq, Tryd.ntmps19] <;> with_reducible rfl) ?_
        refine J_draw [[], [0], [0, 1], [0, 1, 2], [0, 1, 2], [0, 1, 2, 3, 4], [0, 1, 2, 3, 4, 5], [0, 1, 2], [0, 1, 2, 3, 4, 5, 6, 7], [0, 1, 2, 3, 4, 5, 6, 7, 8], [0, 1, 2, 3, 4, 5, 6, 7, 8, 9]] [(0, .pure), (1, .pure), (2, .pure), (3, .pure), (4, .pure), (5, .pure), (6, .pure), (7, .read), (8, .pure), (9, .pure), (10, .pure)] mixed (by kernel_rfl) ?_
        refine Can_run (own := []) (by simp (maxSteps := 2000000) (disch := omega) only [go_sem, ↓reduceIte, Int.reduceLT, Int.reduceLE, Int.reduceToNat, Int.reducePow, Int.reduceNeg, Nat.reduceBEq, Tryd.ntmps19, g1, hb7.1, hb7.2.1] <;> with_reducible rfl) ?_
        refine Can_nil ?_
        refine J_true (by simp only [go_sem, ↓reduceIte, Int.reduceLT, Int.reduceLE, Int.reduceToNat, Int.reducePow, Int.reduceNeg, Nat.reduceBEq] <;> with_reducible rfl) ?_
        refine J_mrun (own := []) (m := 2000) (by simp (maxSteps := 2000000) (disch := omega) only [go_sem, ↓reduceIte, Int.reduceLT, Int.reduceLE, Int.reduceToNat, Int.reducePow, Int.reduceNeg, Nat.reduceBEq, Tryd.ntmps19, hb7.1, hb7.2.1] <;> with_reducible rfl) ?_
        have e1 : inAll m l = false := inAll_not hlt (by rw [hg]; simp)
        refine J_forget ?_
        refine J_retX Tryd.func19 (by simp only [go_sem, ↓reduceIte, Int.reduceLT, Int.reduceLE, Int.reduceToNat, Int.reducePow, Int.reduceNeg, Nat.reduceBEq, Tryd.f19, hb7.1, hb7.2.1] <;> first | with_reducible rfl | rfl) ⟨by simp [withinRM, e1], rfl⟩
      | some y =>
        have hs := same06_ok l[i] y (hv _ (List.getElem_mem _))
        simp only [Entry.av, Entry.cells] at hs
        simp only [hg, Option.getD_some, Option.isSome_some]
        refine J_mrun (own := []) (m := 2000) (by simp (maxSteps := 2000000) (disch := omega) only [go_sem, ↓reduceIte, Int.reduceLT, Int.reduceLE, Int.reduceToNat, Int.reducePow, Int.reduceNeg, Nat.reduceBEq, Tryd.ntmps19] <;> with_reducible rfl) ?_
        refine J_draw [[], [0], [0, 1], [0, 1, 2], [0, 1, 2], [0, 1, 2, 3, 4], [0, 1, 2, 3, 4, 5], [0, 1, 2], [0, 1, 2, 3, 4, 5, 6, 7], [0, 1, 2, 3, 4, 5, 6, 7, 8], [0, 1, 2, 3, 4, 5, 6, 7, 8, 9]] [(0, .pure), (1, .pure), (2, .pure), (3, .pure), (4, .pure), (5, .pure), (6, .pure), (7, .read), (8, .pure), (9, .pure), (10, .pure)] mixed (by kernel_rfl) ?_
        refine Can_run (own := []) (by simp (maxSteps := 2000000) (disch := omega) only [go_sem, ↓reduceIte, Int.reduceLT, Int.reduceLE, Int.reduceToNat, Int.reducePow, Int.reduceNeg, Nat.reduceBEq, Tryd.ntmps19, g1, hb7.1, hb7.2.1] <;> with_reducible rfl) ?_
        refine Can_callp (by simp only [go_sem, ↓reduceIte, Int.reduceLT, Int.reduceLE, Int.reduceToNat, Int.reducePow, Int.reduceNeg, Nat.reduceBEq, Tryd.ntmps19] <;> with_reducible rfl) (hs) ?_
        refine Can_run (own := []) (by simp (maxSteps := 2000000) (disch := omega) only [go_sem, ↓reduceIte, Int.reduceLT, Int.reduceLE, Int.reduceToNat, Int.reducePow, Int.reduceNeg, Nat.reduceBEq, Tryd.ntmps19, g1, hb7.1, hb7.2.1] <;> with_reducible rfl) ?_
        refine Can_nil ?_
        by_cases h2 : l[i] = y
        · simp only [h2, decide_true, Bool.not_true]
          refine J_false (by simp only [go_sem, ↓reduceIte, Int.reduceLT, Int.reduceLE, Int.reduceToNat, Int.reducePow, Int.reduceNeg, Nat.reduceBEq] <;> with_reducible rfl) ?_
          refine J_mrun (own := []) (m := 2000) (by simp (maxSteps := 2000000) (disch := omega) only [go_sem, ↓reduceIte, Int.reduceLT, Int.reduceLE, Int.reduceToNat, Int.reducePow, Int.reduceNeg, Nat.reduceBEq, Tryd.ntmps19] <;> with_reducible rfl) ?_
          refine J_drop ?_
          refine J_keep [1, 2, 4, 6] (by simp only [go_sem, ↓reduceIte, Int.reduceLT, Int.reduceLE, Int.reduceToNat, Int.reducePow, Int.reduceNeg, Nat.reduceBEq] <;> with_reducible rfl) ?_
          refine ih _ _ _ ?_ ⟨i + 1, hlt, rfl, ?_, rfl, by simp only [Int.natCast_add, Int.cast_ofNat_Int]⟩
          · omega
          · intro j h hj
            rcases Nat.lt_succ_iff_lt_or_eq.1 hj with h1 | rfl
            · exact hall j h h1
            · rw [hg, h2]
        · simp only [h2, decide_false, Bool.not_false]
          refine J_true (by simp only [go_sem, ↓reduceIte, Int.reduceLT, Int.reduceLE, Int.reduceToNat, Int.reducePow, Int.reduceNeg, Nat.reduceBEq] <;> with_reducible rfl) ?_
          refine J_mrun (own := []) (m := 2000) (by simp (maxSteps := 2000000) (disch := omega) only [go_sem, ↓reduceIte, Int.reduceLT, Int.reduceLE, Int.reduceToNat, Int.reducePow, Int.reduceNeg, Nat.reduceBEq, Tryd.ntmps19, hb7.1, hb7.2.1] <;> with_reducible rfl) ?_
          have e1 : inAll m l = false := inAll_not hlt (by rw [hg]; simpa using fun h => h2 h.symm)
          refine J_forget ?_
          refine J_retX Tryd.func19 (by simp only [go_sem, ↓reduceIte, Int.reduceLT, Int.reduceLE, Int.reduceToNat, Int.reducePow, Int.reduceNeg, Nat.reduceBEq, Tryd.f19, hb7.1, hb7.2.1] <;> first | with_reducible rfl | rfl) ⟨by simp [withinRM, e1], rfl⟩
    · have hi' : i = l.length := by omega
      subst hi'
      have hin : inAll m l = true := by
        unfold inAll
        rw [List.all_eq_true]
        intro x hx
        obtain ⟨j, hj, rfl⟩ := List.mem_iff_getElem.1 hx
        simpa using hall j hj hj
      refine J_mrun (own := [9]) (m := 2000) (by simp (maxSteps := 2000000) (disch := omega) only [go_sem, ↓reduceIte, Int.reduceLT, Int.reduceLE, Int.reduceToNat, Int.reducePow, Int.reduceNeg, Nat.reduceBEq, Tryd.ntmps19] <;> with_reducible rfl) ?_
      refine J_newvar rfl (by simp only [go_sem, ↓reduceIte, Int.reduceLT, Int.reduceLE, Int.reduceToNat, Int.reducePow, Int.reduceNeg, Nat.reduceBEq, Tryd.ntmps19]) (by simp only [go_sem, ↓reduceIte, Int.reduceLT, Int.reduceLE, Int.reduceToNat, Int.reducePow, Int.reduceNeg, Nat.reduceBEq] <;> with_reducible rfl) (fun b9 hb9 => ?_)
      simp only [fresh] at hb9
      have n1 := hb9.1
      have n2 := hb9.2.1
      refine J_mrun (own := []) (m := 2000) (by simp (maxSteps := 2000000) (disch := omega) only [go_sem, ↓reduceIte, Int.reduceLT, Int.reduceLE, Int.reduceToNat, Int.reducePow, Int.reduceNeg, Nat.reduceBEq, Tryd.ntmps19, n1, n2] <;> with_reducible rfl) ?_
      refine J_keep [1, 2, 4, 9, 10] (by simp only [go_sem, ↓reduceIte, Int.reduceLT, Int.reduceLE, Int.reduceToNat, Int.reducePow, Int.reduceNeg, Nat.reduceBEq] <;> with_reducible rfl) ?_
      refine J_loopI (I := fun w e D => ∃ (i : Nat) (o : RM), i ≤ m.L.length ∧ w = m.L.length - i ∧ o = (m.L.take i).foldl (withinStep l) m ∧ o.F = m.F ∧ o.L.length ≤ m.L.length ∧ D = [.box b9 30 [.sl 5 (ents o.L), .sl 2 (flos m.F), .c (.int .i64 o.n)], .box b4 30 [.c (.slice none 0 0), .c (.slice none 0 0), .c (.int .i64 0)]] ∧ e = [(1, .sl 5 (ents l)), (2, .fp [.sl 5 (ents m.L), .sl 2 (flos m.F), .c (.int .i64 m.n)]), (4, .c (.pointer (some ⟨b4, 0, none⟩))), (9, .c (.pointer (some ⟨b9, 0, none⟩))), (10, .c (.int .i64 i))]) ?_ ?_
      · exact ⟨_, 0, m, Nat.zero_le _, rfl, rfl, rfl, Nat.le_refl _, rfl, rfl⟩
      · rintro w e D ⟨i, o, hi, rfl, ho, hoF, hoL, rfl, rfl⟩ ih
        refine J_mrun (own := []) (m := 2000) (by simp (maxSteps := 2000000) (disch := omega) only [go_sem, ↓reduceIte, Int.reduceLT, Int.reduceLE, Int.reduceToNat, Int.reducePow, Int.reduceNeg, Nat.reduceBEq, Tryd.ntmps19, ents_len] <;> with_reducible rfl) ?_
        refine J_if (by simp only [go_sem, ↓reduceIte, Int.reduceLT, Int.reduceLE, Int.reduceToNat, Int.reducePow, Int.reduceNeg, Nat.reduceBEq] <;> with_reducible rfl) (fun hd => ?_) (fun hd => ?_)
        · have hlt : i < m.L.length := by omega
          have g0 := List.getElem?_eq_getElem hlt
          have g1 := ents_get g0
          have h0 : (0 : Int) ≤ (i : Int) := by omega
          have e1 : (m.L.take (i + 1)).foldl (withinStep l) m = withinStep l o m.L[i] := by
            rw [foldl_snoc hlt, ← ho]
          have hoav : o.av = .agg [.sl 5 (ents o.L), .sl 2 (flos m.F), .c (.int .i64 o.n)] := by unfold RM.av; rw [hoF]
          have fg_ok := rforget_ok o m.L[i].key (by omega)
          rw [hoav] at fg_ok
          refine J_mrun (own := []) (m := 2000) (by simp (maxSteps := 2000000) (disch := omega) only [go_sem, ↓reduceIte, Int.reduceLT, Int.reduceLE, Int.reduceToNat, Int.reducePow, Int.reduceNeg, Nat.reduceBEq, Tryd.ntmps19, g1] <;> with_reducible rfl) ?_
          refine J_callp (by simp only [go_sem, ↓reduceIte, Int.reduceLT, Int.reduceLE, Int.reduceToNat, Int.reducePow, Int.reduceNeg, Nat.reduceBEq, Tryd.ntmps19] <;> with_reducible rfl) (find_ok l m.L[i].key (by omega)) ?_
          refine J_mrun (own := []) (m := 2000) (by simp (maxSteps := 2000000) (disch := omega) only [go_sem, ↓reduceIte, Int.reduceLT, Int.reduceLE, Int.reduceToNat, Int.reducePow, Int.reduceNeg, Nat.reduceBEq, Tryd.ntmps19] <;> with_reducible rfl) ?_
          cases hf : findE l m.L[i].key with
          | none =>
            have e2 : findI l m.L[i].key = -1 := by simp [findI, hf]
            refine J_if (by simp only [go_sem, ↓reduceIte, Int.reduceLT, Int.reduceLE, Int.reduceToNat, Int.reducePow, Int.reduceNeg, Nat.reduceBEq] <;> with_reducible rfl) (fun h2 => ?_) (fun h2 => ?_)
            · refine J_mrun (own := []) (m := 2000) (by simp (maxSteps := 2000000) (disch := omega) only [go_sem, ↓reduceIte, Int.reduceLT, Int.reduceLE, Int.reduceToNat, Int.reducePow, Int.reduceNeg, Nat.reduceBEq, Tryd.ntmps19] <;> with_reducible rfl) ?_
              refine J_draw [[], [], [1], [], [1, 2, 3], [1, 2, 3, 4], [1, 2, 3, 4, 5], [0, 1, 2, 3, 4, 5, 6], [0, 1, 2, 3, 4, 5, 6, 7], [0, 1, 2, 3, 4, 5, 6, 7, 8], [0, 1, 2, 3, 4, 5, 6, 7, 8], [], [0, 1, 2, 3, 4, 5, 6, 7, 8, 9, 11], [0, 1, 2, 3, 4, 5, 6, 7, 8, 9, 10, 11, 12]] [(0, .read), (1, .pure), (2, .pure), (3, .pure), (4, .pure), (5, .pure), (6, .pure), (7, .pure), (8, .pure), (9, .pure), (10, .pure), (11, .new), (12, .act), (13, .pure)] mixed (by kernel_rfl) ?_
              refine Can_run (own := []) (by simp (maxSteps := 2000000) (disch := omega) only [go_sem, ↓reduceIte, Int.reduceLT, Int.reduceLE, Int.reduceToNat, Int.reducePow, Int.reduceNeg, Nat.reduceBEq, Tryd.ntmps19, g1] <;> with_reducible rfl) ?_
              refine Can_callp (by simp only [go_sem, ↓reduceIte, Int.reduceLT, Int.reduceLE, Int.reduceToNat, Int.reducePow, Int.reduceNeg, Nat.reduceBEq, Tryd.ntmps19] <;> with_reducible rfl) (fg_ok) ?_
              refine Can_run (own := []) (by simp (maxSteps := 2000000) (disch := omega) only [go_sem, ↓reduceIte, Int.reduceLT, Int.reduceLE, Int.reduceToNat, Int.reducePow, Int.reduceNeg, Nat.reduceBEq, Tryd.ntmps19, g1] <;> with_reducible rfl) ?_
              refine Can_newvar rfl (by simp only [go_sem, ↓reduceIte, Int.reduceLT, Int.reduceLE, Int.reduceToNat, Int.reducePow, Int.reduceNeg, Nat.reduceBEq, Tryd.ntmps19]) (by simp only [go_sem, ↓reduceIte, Int.reduceLT, Int.reduceLE, Int.reduceToNat, Int.reducePow, Int.reduceNeg, Nat.reduceBEq] <;> with_reducible rfl) (fun b11 hb11 => ?_)
              simp only [fresh] at hb11
              refine Can_run (own := []) (by simp (maxSteps := 2000000) (disch := omega) only [go_sem, ↓reduceIte, Int.reduceLT, Int.reduceLE, Int.reduceToNat, Int.reducePow, Int.reduceNeg, Nat.reduceBEq, Tryd.ntmps19, hb11.1, hb11.2.1] <;> with_reducible rfl) ?_
              refine Can_nil ?_
              refine J_mrun (own := []) (m := 2000) (by simp (maxSteps := 2000000) (disch := omega) only [go_sem, ↓reduceIte, Int.reduceLT, Int.reduceLE, Int.reduceToNat, Int.reducePow, Int.reduceNeg, Nat.reduceBEq, Tryd.ntmps19, hb11.1, hb11.2.1] <;> with_reducible rfl) ?_
              refine J_drop ?_
              refine J_keep [1, 2, 4, 9, 10] (by simp only [go_sem, ↓reduceIte, Int.reduceLT, Int.reduceLE, Int.reduceToNat, Int.reducePow, Int.reduceNeg, Nat.reduceBEq] <;> with_reducible rfl) ?_
              refine ih _ _ _ ?_ ⟨i + 1, _, hlt, rfl, e1.symm, ?_, ?_, ?_, by simp only [Int.natCast_add, Int.cast_ofNat_Int]⟩
              · omega
              · rw [withinStep_F, hoF]
              · exact Nat.le_trans (withinStep_len _ _ _) hoL
              · unfold withinStep
                rw [if_pos hf, forgetRM_F, hoF]
            · omega
          | some j =>
            have e2 : findI l m.L[i].key = j := by simp [findI, hf]
            refine J_if (by simp only [go_sem, ↓reduceIte, Int.reduceLT, Int.reduceLE, Int.reduceToNat, Int.reducePow, Int.reduceNeg, Nat.reduceBEq] <;> with_reducible rfl) (fun h2 => ?_) (fun h2 => ?_)
            · omega
            · refine J_mrun (own := []) (m := 2000) (by simp (maxSteps := 2000000) (disch := omega) only [go_sem, ↓reduceIte, Int.reduceLT, Int.reduceLE, Int.reduceToNat, Int.reducePow, Int.reduceNeg, Nat.reduceBEq, Tryd.ntmps19] <;> with_reducible rfl) ?_
              refine J_keep [1, 2, 4, 9, 10] (by simp only [go_sem, ↓reduceIte, Int.reduceLT, Int.reduceLE, Int.reduceToNat, Int.reducePow, Int.reduceNeg, Nat.reduceBEq] <;> with_reducible rfl) ?_
              refine ih _ _ _ ?_ ⟨i + 1, _, hlt, rfl, e1.symm, ?_, ?_, ?_, by simp only [Int.natCast_add, Int.cast_ofNat_Int]⟩
              · omega
              · rw [withinStep_F, hoF]
              · exact Nat.le_trans (withinStep_len _ _ _) hoL
              · unfold withinStep
                rw [if_neg (by rw [hf]; simp)]
        · have hi' : i = m.L.length := by omega
          subst hi'
          rw [List.take_length] at ho
          refine J_mrun (own := []) (m := 2000) (by simp (maxSteps := 2000000) (disch := omega) only [go_sem, ↓reduceIte, Int.reduceLT, Int.reduceLE, Int.reduceToNat, Int.reducePow, Int.reduceNeg, Nat.reduceBEq, Tryd.ntmps19, n1, n2] <;> with_reducible rfl) ?_
          refine J_forget ?_
          refine J_retX Tryd.func19 (by simp only [go_sem, ↓reduceIte, Int.reduceLT, Int.reduceLE, Int.reduceToNat, Int.reducePow, Int.reduceNeg, Nat.reduceBEq, Tryd.f19, n1, n2] <;> first | with_reducible rfl | rfl) ⟨by simp only [withinRM, hin, if_true]; rw [← ho, hoF], rfl⟩
end Go.Proofs.YtncincpkdphojaaDoor
end

section
namespace Go.Proofs.YtncincpkdphojaaDoor
open Go Go.Av
set_option linter.unusedVariables false
set_option linter.unusedSimpArgs false
set_option maxRecDepth 100000
set_option maxHeartbeats 4000000
attribute [local go_sem] Entry.av Entry.cells packed List.set_cons_zero List.set_cons_succ

theorem sameAll_ok (a b : List Entry) (ha : a.length < 2 ^ 62) (hv : ∀ x ∈ a, x.val.length < 2 ^ 62) : ACalls Tryd.prog 27 [.sl 5 (ents a), .sl 5 (ents b)] [] (Ret (.c (.bool (decide (a = b))))) := by
  refine calls_of_J cl_27 Tryd.func27 rfl (by simp [Tryd.ntmps27]) ?_
  refine J_mrun (own := []) (m := 2000) (by simp (maxSteps := 2000000) (disch := omega) only [go_sem, ↓reduceIte, Int.reduceLT, Int.reduceLE, Int.reduceToNat, Int.reducePow, Int.reduceNeg, Nat.reduceBEq, Tryd.ntmps27, ents_len] <;> with_reducible rfl) ?_
  refine J_if (by simp only [go_sem, ↓reduceIte, Int.reduceLT, Int.reduceLE, Int.reduceToNat, Int.reducePow, Int.reduceNeg, Nat.reduceBEq] <;> with_reducible rfl) (fun h1 => ?_) (fun h1 => ?_)
  · refine J_mrun (own := []) (m := 2000) (by simp (maxSteps := 2000000) (disch := omega) only [go_sem, ↓reduceIte, Int.reduceLT, Int.reduceLE, Int.reduceToNat, Int.reducePow, Int.reduceNeg, Nat.reduceBEq, Tryd.ntmps27] <;> with_reducible rfl) ?_
    have hne : a ≠ b := fun e => h1 (by rw [e])
    refine J_retX Tryd.func27 (by simp only [go_sem, ↓reduceIte, Int.reduceLT, Int.reduceLE, Int.reduceToNat, Int.reducePow, Int.reduceNeg, Nat.reduceBEq, Tryd.f27] <;> first | with_reducible rfl | rfl) ⟨by simp [hne], rfl⟩
  · have hl : a.length = b.length := by omega
    refine J_mrun (own := []) (m := 2000) (by simp (maxSteps := 2000000) (disch := omega) only [go_sem, ↓reduceIte, Int.reduceLT, Int.reduceLE, Int.reduceToNat, Int.reducePow, Int.reduceNeg, Nat.reduceBEq, Tryd.ntmps27] <;> with_reducible rfl) ?_
    refine J_keep [0, 1, 5] (by simp only [go_sem, ↓reduceIte, Int.reduceLT, Int.reduceLE, Int.reduceToNat, Int.reducePow, Int.reduceNeg, Nat.reduceBEq] <;> with_reducible rfl) ?_
    refine J_loopI (I := fun m e D => ∃ i : Nat, i ≤ a.length ∧ m = a.length - i ∧ D = [] ∧ a.take i = b.take i ∧ e = [(0, .sl 5 (ents a)), (1, .sl 5 (ents b)), (5, .c (.int .i64 i))]) ?_ ?_
    · exact ⟨_, 0, Nat.zero_le _, rfl, rfl, rfl, rfl⟩
    · rintro m e D ⟨i, hi, rfl, rfl, heq, rfl⟩ ih
      refine J_mrun (own := []) (m := 2000) (by simp (maxSteps := 2000000) (disch := omega) only [go_sem, ↓reduceIte, Int.reduceLT, Int.reduceLE, Int.reduceToNat, Int.reducePow, Int.reduceNeg, Nat.reduceBEq, Tryd.ntmps27, ents_len] <;> with_reducible rfl) ?_
      refine J_if (by simp only [go_sem, ↓reduceIte, Int.reduceLT, Int.reduceLE, Int.reduceToNat, Int.reducePow, Int.reduceNeg, Nat.reduceBEq] <;> with_reducible rfl) (fun hc => ?_) (fun hc => ?_)
      · have hlt : i < a.length := by omega
        have hlb : i < b.length := by omega
        have g1 := ents_get (List.getElem?_eq_getElem hlt)
        have g2 := ents_get (List.getElem?_eq_getElem hlb)
        have h0 : (0 : Int) ≤ (i : Int) := by omega
        have hs := same06_ok a[i] b[i] (hv _ (List.getElem_mem _))
        simp only [Entry.av, Entry.cells] at hs
        refine J_mrun (own := []) (m := 2000) (by simp (maxSteps := 2000000) (disch := omega) only [go_sem, ↓reduceIte, Int.reduceLT, Int.reduceLE, Int.reduceToNat, Int.reducePow, Int.reduceNeg, Nat.reduceBEq, Tryd.ntmps27] <;> with_reducible rfl) ?_
        refine J_draw [[], [], [0, 1], [0, 1, 2], [], [], [4, 5], [4, 5, 6], [0, 1, 2, 3, 4, 5, 6, 7], [0, 1, 2, 3, 4, 5, 6, 7, 8]] [(0, .pure), (1, .pure), (2, .pure), (3, .read), (4, .pure), (5, .pure), (6, .pure), (7, .read), (8, .pure), (9, .pure)] mixed (by kernel_rfl) ?_
        refine Can_run (own := []) (by simp (maxSteps := 2000000) (disch := omega) only [go_sem, ↓reduceIte, Int.reduceLT, Int.reduceLE, Int.reduceToNat, Int.reducePow, Int.reduceNeg, Nat.reduceBEq, Tryd.ntmps27, g1, g2] <;> with_reducible rfl) ?_
        refine Can_callp (by simp only [go_sem, ↓reduceIte, Int.reduceLT, Int.reduceLE, Int.reduceToNat, Int.reducePow, Int.reduceNeg, Nat.reduceBEq, Tryd.ntmps27] <;> with_reducible rfl) (hs) ?_
        refine Can_run (own := []) (by simp (maxSteps := 2000000) (disch := omega) only [go_sem, ↓reduceIte, Int.reduceLT, Int.reduceLE, Int.reduceToNat, Int.reducePow, Int.reduceNeg, Nat.reduceBEq, Tryd.ntmps27] <;> with_reducible rfl) ?_
        refine Can_nil ?_
        by_cases h2 : a[i] = b[i]
        · simp only [h2, decide_true, Bool.not_true]
          refine J_false (by simp only [go_sem, ↓reduceIte, Int.reduceLT, Int.reduceLE, Int.reduceToNat, Int.reducePow, Int.reduceNeg, Nat.reduceBEq] <;> with_reducible rfl) ?_
          refine J_mrun (own := []) (m := 2000) (by simp (maxSteps := 2000000) (disch := omega) only [go_sem, ↓reduceIte, Int.reduceLT, Int.reduceLE, Int.reduceToNat, Int.reducePow, Int.reduceNeg, Nat.reduceBEq, Tryd.ntmps27] <;> with_reducible rfl) ?_
          refine J_keep [0, 1, 5] (by simp only [go_sem, ↓reduceIte, Int.reduceLT, Int.reduceLE, Int.reduceToNat, Int.reducePow, Int.reduceNeg, Nat.reduceBEq] <;> with_reducible rfl) ?_
          refine ih _ _ _ ?_ ⟨i + 1, hlt, rfl, rfl, ?_, by simp only [Int.natCast_add, Int.cast_ofNat_Int]⟩
          · omega
          · rw [List.take_add_one, List.take_add_one, heq, List.getElem?_eq_getElem hlt, List.getElem?_eq_getElem hlb, h2]
        · simp only [h2, decide_false, Bool.not_false]
          refine J_true (by simp only [go_sem, ↓reduceIte, Int.reduceLT, Int.reduceLE, Int.reduceToNat, Int.reducePow, Int.reduceNeg, Nat.reduceBEq] <;> with_reducible rfl) ?_
          refine J_mrun (own := []) (m := 2000) (by simp (maxSteps := 2000000) (disch := omega) only [go_sem, ↓reduceIte, Int.reduceLT, Int.reduceLE, Int.reduceToNat, Int.reducePow, Int.reduceNeg, Nat.reduceBEq, Tryd.ntmps27] <;> with_reducible rfl) ?_
          have hne : a ≠ b := fun e => h2 (by simp only [e])
          refine J_retX Tryd.func27 (by simp only [go_sem, ↓reduceIte, Int.reduceLT, Int.reduceLE, Int.reduceToNat, Int.reducePow, Int.reduceNeg, Nat.reduceBEq, Tryd.f27] <;> first | with_reducible rfl | rfl) ⟨by simp [hne], rfl⟩
      · have hi' : i = a.length := by omega
        subst hi'
        refine J_mrun (own := []) (m := 2000) (by simp (maxSteps := 2000000) (disch := omega) only [go_sem, ↓reduceIte, Int.reduceLT, Int.reduceLE, Int.reduceToNat, Int.reducePow, Int.reduceNeg, Nat.reduceBEq, Tryd.ntmps27] <;> with_reducible rfl) ?_
        have hab : a = b := by
          have := heq
          rwa [List.take_length, hl, List.take_length] at this
        refine J_retX Tryd.func27 (by simp only [go_sem, ↓reduceIte, Int.reduceLT, Int.reduceLE, Int.reduceToNat, Int.reducePow, Int.reduceNeg, Nat.reduceBEq, Tryd.f27] <;> first | with_reducible rfl | rfl) ⟨by simp [hab], rfl⟩

theorem isame_ok (x y : Entry) : ACalls Tryd.prog 49 [x.av, y.av] [] (Ret (.c (.bool (decide (x = y))))) := by
  obtain ⟨k, v, a, e, b⟩ := x
  obtain ⟨k', v', a', e', b'⟩ := y
  simp only [Entry.av, Entry.cells]
  refine calls_of_J cl_49 Tryd.func49 rfl (by simp [Tryd.ntmps49]) ?_
  by_cases h1 : k = k'
  · by_cases h2 : v = v'
    · by_cases h3 : a = a'
      · by_cases h4 : e = e'
        · refine J_mrun (own := []) (m := 2000) (by simp (maxSteps := 2000000) (disch := omega) only [go_sem, ↓reduceIte, Int.reduceLT, Int.reduceLE, Int.reduceToNat, Int.reducePow, Int.reduceNeg, Nat.reduceBEq, Tryd.ntmps49, eq_true h1, eq_true h2, eq_true h3, eq_true h4, rowsBytes_bytesRows] <;> with_reducible rfl) ?_
          refine J_retX Tryd.func49 (by simp only [go_sem, ↓reduceIte, Int.reduceLT, Int.reduceLE, Int.reduceToNat, Int.reducePow, Int.reduceNeg, Nat.reduceBEq, Tryd.f49] <;> first | with_reducible rfl | rfl) ⟨by simp [h1, h2, h3, h4], rfl⟩
        · refine J_mrun (own := []) (m := 2000) (by simp (maxSteps := 2000000) (disch := omega) only [go_sem, ↓reduceIte, Int.reduceLT, Int.reduceLE, Int.reduceToNat, Int.reducePow, Int.reduceNeg, Nat.reduceBEq, Tryd.ntmps49, eq_true h1, eq_true h2, eq_true h3, eq_false h4] <;> with_reducible rfl) ?_
          refine J_retX Tryd.func49 (by simp only [go_sem, ↓reduceIte, Int.reduceLT, Int.reduceLE, Int.reduceToNat, Int.reducePow, Int.reduceNeg, Nat.reduceBEq, Tryd.f49] <;> first | with_reducible rfl | rfl) ⟨by simp [h4], rfl⟩
      · refine J_mrun (own := []) (m := 2000) (by simp (maxSteps := 2000000) (disch := omega) only [go_sem, ↓reduceIte, Int.reduceLT, Int.reduceLE, Int.reduceToNat, Int.reducePow, Int.reduceNeg, Nat.reduceBEq, Tryd.ntmps49, eq_true h1, eq_true h2, eq_false h3] <;> with_reducible rfl) ?_
        refine J_retX Tryd.func49 (by simp only [go_sem, ↓reduceIte, Int.reduceLT, Int.reduceLE, Int.reduceToNat, Int.reducePow, Int.reduceNeg, Nat.reduceBEq, Tryd.f49] <;> first | with_reducible rfl | rfl) ⟨by simp [h3], rfl⟩
    · refine J_mrun (own := []) (m := 2000) (by simp (maxSteps := 2000000) (disch := omega) only [go_sem, ↓reduceIte, Int.reduceLT, Int.reduceLE, Int.reduceToNat, Int.reducePow, Int.reduceNeg, Nat.reduceBEq, Tryd.ntmps49, eq_true h1, eq_false h2] <;> with_reducible rfl) ?_
      refine J_retX Tryd.func49 (by simp only [go_sem, ↓reduceIte, Int.reduceLT, Int.reduceLE, Int.reduceToNat, Int.reducePow, Int.reduceNeg, Nat.reduceBEq, Tryd.f49] <;> first | with_reducible rfl | rfl) ⟨by simp [h2], rfl⟩
  · refine J_mrun (own := []) (m := 2000) (by simp (maxSteps := 2000000) (disch := omega) only [go_sem, ↓reduceIte, Int.reduceLT, Int.reduceLE, Int.reduceToNat, Int.reducePow, Int.reduceNeg, Nat.reduceBEq, Tryd.ntmps49, eq_false h1] <;> with_reducible rfl) ?_
    refine J_retX Tryd.func49 (by simp only [go_sem, ↓reduceIte, Int.reduceLT, Int.reduceLE, Int.reduceToNat, Int.reducePow, Int.reduceNeg, Nat.reduceBEq, Tryd.f49] <;> first | with_reducible rfl | rfl) ⟨by simp [h1], rfl⟩

theorem icopy_ok (x : Entry) : ACalls Tryd.prog 39 [x.av] [] (Ret x.av) := by
  simp only [Entry.av, Entry.cells]
  refine calls_of_J cl_39 Tryd.func39 rfl (by simp [Tryd.ntmps39]) ?_
  refine J_mrun (own := [1]) (m := 2000) (by simp (maxSteps := 2000000) (disch := omega) only [go_sem, ↓reduceIte, Int.reduceLT, Int.reduceLE, Int.reduceToNat, Int.reducePow, Int.reduceNeg, Nat.reduceBEq, Tryd.ntmps39] <;> with_reducible rfl) ?_
  refine J_newbox (y := .c undef) rfl (by simp only [go_sem, ↓reduceIte, Int.reduceLT, Int.reduceLE, Int.reduceToNat, Int.reducePow, Int.reduceNeg, Nat.reduceBEq, Tryd.ntmps39]) (by simp only [go_sem, ↓reduceIte, Int.reduceLT, Int.reduceLE, Int.reduceToNat, Int.reducePow, Int.reduceNeg, Nat.reduceBEq] <;> with_reducible rfl) (fun b1 hb1 => ?_)
  refine J_mrun (own := [2]) (m := 2000) (by simp (maxSteps := 2000000) (disch := omega) only [go_sem, ↓reduceIte, Int.reduceLT, Int.reduceLE, Int.reduceToNat, Int.reducePow, Int.reduceNeg, Nat.reduceBEq, Tryd.ntmps39] <;> with_reducible rfl) ?_
  refine J_newvar rfl (by simp only [go_sem, ↓reduceIte, Int.reduceLT, Int.reduceLE, Int.reduceToNat, Int.reducePow, Int.reduceNeg, Nat.reduceBEq, Tryd.ntmps39]) (by simp only [go_sem, ↓reduceIte, Int.reduceLT, Int.reduceLE, Int.reduceToNat, Int.reducePow, Int.reduceNeg, Nat.reduceBEq] <;> with_reducible rfl) (fun b2 hb2 => ?_)
  simp only [fresh] at hb2
  refine J_mrun (own := []) (m := 2000) (by simp (maxSteps := 2000000) (disch := omega) only [go_sem, ↓reduceIte, Int.reduceLT, Int.reduceLE, Int.reduceToNat, Int.reducePow, Int.reduceNeg, Nat.reduceBEq, Tryd.ntmps39, hb2.1, hb2.2.1] <;> with_reducible rfl) ?_
  refine J_forget ?_
  refine J_retX Tryd.func39 (by simp only [go_sem, ↓reduceIte, Int.reduceLT, Int.reduceLE, Int.reduceToNat, Int.reducePow, Int.reduceNeg, Nat.reduceBEq, Tryd.f39, hb2.1, hb2.2.1] <;> first | with_reducible rfl | rfl) ⟨rfl, rfl⟩
end Go.Proofs.YtncincpkdphojaaDoor
end
