/- A part of the proof: what the calls do, told by values. -/
import Derived.Test.YtlmahffjidgplaaGreatDoorC4
section
namespace Go.Proofs.YtlmahffjidgplaaGreatDoor
open Go Go.Av
set_option linter.unusedVariables false
set_option linter.unusedSimpArgs false
set_option maxRecDepth 100000
set_option maxHeartbeats 4000000
attribute [local go_sem] packed List.set_cons_zero List.set_cons_succ List.cons_append List.nil_append bytesRows_length cellRows_len chRows_len rCells
attribute [-go_sem] cellsOf AV.isCell
attribute [local go_sem] cellsOf_agg cellsOf_int cellsOf_bool cellsOf_str cellsOf_map cellsOf_ptr cellsOf_nilI cellsOf_slice cellsOf_sl cellsOf_ifc cellsOf_fp cellsOf_opt optAV_cell icell_int icell_bool icell_str icell_map icell_ptr icell_nilI icell_slice icell_sl icell_ifc icell_fp

theorem lookL_snoc {l : List (Int × Option (List UInt8))} {i : Nat} {p : Int × Option (List UInt8)} (h : l[i]? = some p) (at_ : Int) : lookL (l.take (i + 1)) at_ = if p.1 = at_ then some p.2 else lookL (l.take i) at_ := by
  unfold lookL; rw [List.take_add_one, h, List.foldl_append]; rfl
def lookP (r : Fl) (at_ : Int) (i : Nat) : List UInt8 := match lookL (r.loose.take i) at_ with
  | some o => o.getD z256
  | none => pageOr r.safe at_
theorem lookP_snoc {r : Fl} {i : Nat} {p : Int × Option (List UInt8)} (h : r.loose[i]? = some p) (at_ : Int) : lookP r at_ (i + 1) = if p.1 = at_ then p.2.getD z256 else lookP r at_ i := by
  unfold lookP; rw [lookL_snoc h]
  by_cases hk : p.1 = at_
  · rw [if_pos hk, if_pos hk]
  · rw [if_neg hk, if_neg hk]
theorem lookP_all (r : Fl) (at_ : Int) : lookP r at_ r.loose.length = lookB r at_ := by
  unfold lookP lookB pageOr; rw [List.take_length]
  cases lookL r.loose at_ <;> rfl

theorem look04_ok (r : Fl) (at_ : Int) (h1 : r.safe.length < 2 ^ 60) (h2 : r.loose.length < 2 ^ 60) : ACalls Tryz.prog 144 [rAV r, .c (.int .i64 at_)] [] (Ret (.sl 1 (bytesRows (lookB r at_)))) := by
  unfold rAV
  refine calls_of_J cl_144 Tryz.func144 rfl (by simp [Tryz.ntmps144]) ?_
  refine jr (own := []) (h := ?_)
  refine jc (hs := safe04_ok r.safe at_ h1) (hk := ?_)
  refine jr (own := []) (h := ?_)
  refine jk [1, 2, 5, 6] (h := ?_)
  refine J_loopI (I := fun m e D => ∃ i : Nat, i ≤ r.loose.length ∧ m = r.loose.length - i ∧ D = [] ∧ e = [(1, .c (.int .i64 at_)), (2, .fp (rCells r)), (5, .sl 1 (bytesRows (lookP r at_ i))), (6, .c (.int .i64 i))]) ?_ ?_
  · exact ⟨_, 0, by omega, rfl, rfl, rfl⟩
  · rintro m e D ⟨i, hi, rfl, rfl, rfl⟩ ih
    refine jr (own := []) (h := ?_)
    refine jif (h1 := fun hc => ?_) (h2 := fun hc => ?_)
    · have hlt : i < r.loose.length := by omega
      have g0 := List.getElem?_eq_getElem hlt
      have g1 := chRows_get g0
      have h0 : (0 : Int) ≤ (i : Int) := by omega
      have hs := lookP_snoc g0 at_
      refine J_mrun (own := []) (m := 2000) (by simp (maxSteps := 2000000) (disch := omega) only [go_sem, ↓reduceIte, Int.reduceLT, Int.reduceLE, Int.reduceToNat, Int.reducePow, Int.reduceNeg, Nat.reduceBEq, Tryz.ntmps144, g1] <;> with_reducible rfl) ?_
      refine jif (h1 := fun hk => ?_) (h2 := fun hk => ?_)
      · rw [if_pos hk] at hs
        refine J_mrun (own := []) (m := 2000) (by simp (maxSteps := 2000000) (disch := omega) only [go_sem, ↓reduceIte, Int.reduceLT, Int.reduceLE, Int.reduceToNat, Int.reducePow, Int.reduceNeg, Nat.reduceBEq, Tryz.ntmps144, g1] <;> with_reducible rfl) ?_
        cases ho : r.loose[i].2 with
        | none =>
          rw [ho] at hs
          refine J_mrun (own := []) (m := 2000) (by simp (maxSteps := 2000000) (disch := omega) only [go_sem, ↓reduceIte, Int.reduceLT, Int.reduceLE, Int.reduceToNat, Int.reducePow, Int.reduceNeg, Nat.reduceBEq, Tryz.ntmps144, ho, Option.isNone_none] <;> with_reducible rfl) ?_
          refine jt (h := ?_)
          refine jr (own := []) (h := ?_)
          refine jop (ho := rfl) (hh := mk256_op rfl (by simp only [go_sem, ↓reduceIte, Int.reduceLT, Int.reduceLE, Int.reduceToNat, Int.reducePow, Int.reduceNeg, Nat.reduceBEq] <;> with_reducible rfl) (by simp only [go_sem, ↓reduceIte, Int.reduceLT, Int.reduceLE, Int.reduceToNat, Int.reducePow, Int.reduceNeg, Nat.reduceBEq] <;> with_reducible rfl)) (hk := ?_)
          rintro _ _ ⟨rfl, rfl⟩
          refine jr (own := []) (h := ?_)
          refine jk [1, 2, 5, 6] (h := ?_)
          refine ih _ _ _ ?_ ⟨i + 1, by omega, rfl, rfl, ?_⟩
          · omega
          · rw [hs]; rfl
        | some b =>
          rw [ho] at hs
          refine J_mrun (own := []) (m := 2000) (by simp (maxSteps := 2000000) (disch := omega) only [go_sem, ↓reduceIte, Int.reduceLT, Int.reduceLE, Int.reduceToNat, Int.reducePow, Int.reduceNeg, Nat.reduceBEq, Tryz.ntmps144, ho, Option.isNone_some] <;> with_reducible rfl) ?_
          refine jn (h := ?_)
          refine jr (own := []) (h := ?_)
          refine jk [1, 2, 5, 6] (h := ?_)
          refine ih _ _ _ ?_ ⟨i + 1, by omega, rfl, rfl, ?_⟩
          · omega
          · rw [hs]; rfl
      · rw [if_neg hk] at hs
        refine jr (own := []) (h := ?_)
        refine jk [1, 2, 5, 6] (h := ?_)
        refine ih _ _ _ ?_ ⟨i + 1, by omega, rfl, rfl, ?_⟩
        · omega
        · rw [hs]; rfl
    · have hi' : i = r.loose.length := by omega
      subst hi'
      refine jr (own := []) (h := ?_)
      refine jret Tryz.func144 (h := ⟨by rw [lookP_all], rfl⟩)

theorem read04_ok (r : Fl) (at_ : Int) (h1 : r.safe.length < 2 ^ 60) (h2 : r.loose.length < 2 ^ 60) : ACalls Tryz.prog 131 [rAV r, .c (.int .i64 at_)] []
    (Ret (.tup [if checkF r at_ = 0 then .sl 1 (bytesRows (lookB r at_)) else .c (.slice none 0 0), .c (.int .i64 (checkF r at_))])) := by
  have hk := check04_ok r at_
  have hl := look04_ok r at_ h1 h2
  unfold rAV at *
  refine calls_of_J cl_131 Tryz.func131 rfl (by simp [Tryz.ntmps131]) ?_
  refine jr (own := []) (h := ?_)
  refine jc (hs := hk) (hk := ?_)
  refine jr (own := []) (h := ?_)
  refine jif (h1 := fun hc => ?_) (h2 := fun hc => ?_)
  · refine jr (own := []) (h := ?_)
    refine jret Tryz.func131 (h := ⟨by rw [if_neg hc], rfl⟩)
  · have hc0 : checkF r at_ = 0 := by omega
    refine jr (own := []) (h := ?_)
    refine jc (hs := hl) (hk := ?_)
    refine jr (own := []) (h := ?_)
    refine jret Tryz.func131 (h := ⟨by rw [if_pos hc0, hc0], rfl⟩)

def lowC (l : List (Int × List UInt8)) (at_ : Int) : Nat := (l.takeWhile fun p => decide (p.1 < at_)).length
theorem lowC_eq {l : List (Int × List UInt8)} {at_ : Int} {i : Nat} (h1 : ∀ j, j < i → ∀ p, l[j]? = some p → p.1 < at_) (h2 : i = l.length ∨ ∃ p, l[i]? = some p ∧ ¬ p.1 < at_) : lowC l at_ = i := by
  induction l generalizing i with
  | nil =>
    rcases h2 with rfl | ⟨p, h, _⟩
    · rfl
    · simp at h
  | cons q l ih =>
    unfold lowC at ih ⊢
    cases i with
    | zero =>
      rcases h2 with h | ⟨p, h, hn⟩
      · simp at h
      · simp at h; subst h
        rw [List.takeWhile_cons, if_neg (by simpa using hn)]; rfl
    | succ i =>
      have h0 := h1 0 (by omega) q rfl
      rw [List.takeWhile_cons, if_pos (by simpa using h0), List.length_cons, ih (i := i)]
      · exact fun j hj p hp => h1 (j + 1) (by omega) p (by simpa using hp)
      · rcases h2 with h | ⟨p, h, hn⟩
        · left; simpa using h
        · right; exact ⟨p, by simpa using h, hn⟩
def hitC (l : List (Int × List UInt8)) (at_ : Int) (i : Nat) : Bool := match l[i]? with
  | some p => decide (p.1 = at_)
  | none => false
def putC (l : List (Int × List UInt8)) (at_ : Int) (b : List UInt8) : List (Int × List UInt8) :=
  l.take (lowC l at_) ++ (if blankB b then [] else [(at_, b)]) ++ l.drop (lowC l at_ + (if hitC l at_ (lowC l at_) then 1 else 0))
theorem cellRows_app (a b : List (Int × List UInt8)) : cellRows (a ++ b) = cellRows a ++ cellRows b := by simp [cellRows]
theorem cellRows_drop (l : List (Int × List UInt8)) (n : Nat) : (cellRows l).drop n = cellRows (l.drop n) := by simp [cellRows, List.map_drop]
theorem cellRows_cell (l : List (Int × List UInt8)) : (cellRows l).flatten.all AV.isCell = true := by
  induction l with
  | nil => rfl
  | cons p l ih => simp only [cellRows, List.map_cons, List.flatten_cons, List.all_append, cellRow] at ih ⊢; rw [ih]; rfl
theorem own_app {e : TypeId} {a b : List (Int × List UInt8)} {v : Value} {D : List HP} (h : Own e 2 ((cellRows a).flatten ++ (cellRows b).flatten) (a.length + b.length) v D) : Own e 2 (cellRows (a ++ b)).flatten (a ++ b).length v D := by
  rw [cellRows_app, List.flatten_append, List.length_append]; exact h

theorem put04_ok (l : List (Int × List UInt8)) (at_ : Int) (b : List UInt8) (hl : l.length < 2 ^ 30) (hb : b.length < 2 ^ 37) : ACalls Tryz.prog 178 [.sl 2 (cellRows l), .c (.int .i64 at_), .sl 1 (bytesRows b)] [] (Ret (.sl 2 (cellRows (putC l at_ b)))) := by
  refine calls_of_J cl_178 Tryz.func178 rfl (by simp [Tryz.ntmps178]) ?_
  refine jr (own := []) (h := ?_)
  refine jk [0, 1, 2, 7, 8] (h := ?_)
  refine J_loopI (I := fun m e D => ∃ (i : Nat) (v : Value), i ≤ l.length ∧ m = l.length - i ∧ (∀ j, j < i → ∀ p, l[j]? = some p → p.1 < at_) ∧ Own 177 2 (cellRows (l.take i)).flatten (l.take i).length v D ∧ e = [(0, .sl 2 (cellRows l)), (1, .c (.int .i64 at_)), (2, .sl 1 (bytesRows b)), (7, .c v), (8, .c (.int .i64 i))]) ?_ ?_
  · exact ⟨_, 0, .slice none 0 0, by omega, rfl, fun j hj => by omega, .nil none rfl rfl, rfl⟩
  · rintro m e D ⟨i, v, hi, rfl, hlow, how, rfl⟩ ih
    have h0 : (0 : Int) ≤ (i : Int) := by omega
    obtain ⟨hlt, hk⟩ | ⟨hlt, hk⟩ | hlt : (∃ h : i < l.length, l[i].1 < at_) ∨ (∃ h : i < l.length, ¬ l[i].1 < at_) ∨ ¬ i < l.length := by
      by_cases h : i < l.length
      · by_cases h2 : l[i].1 < at_
        · exact .inl ⟨h, h2⟩
        · exact .inr (.inl ⟨h, h2⟩)
      · exact .inr (.inr h)
    · have g0 := List.getElem?_eq_getElem hlt
      have g1 := cellRows_get g0
      have d1 := decide_eq_true (show (i : Int) < (l.length : Int) by omega)
      have d2 := decide_eq_true hk
      have hti : l.take (i + 1) = l.take i ++ [l[i]] := by rw [List.take_add_one, g0]; rfl
      refine J_mrun (own := []) (m := 2000) (by simp (maxSteps := 2000000) (disch := omega) only [go_sem, ↓reduceIte, Int.reduceLT, Int.reduceLE, Int.reduceToNat, Int.reducePow, Int.reduceNeg, Nat.reduceBEq, Tryz.ntmps178, d1, d2, g1] <;> with_reducible rfl) ?_
      refine jt (h := ?_)
      refine J_mrun (own := [28]) (m := 2000) (by simp (maxSteps := 2000000) (disch := omega) only [go_sem, ↓reduceIte, Int.reduceLT, Int.reduceLE, Int.reduceToNat, Int.reducePow, Int.reduceNeg, Nat.reduceBEq, Tryz.ntmps178, g1] <;> with_reducible rfl) ?_
      refine jap (Fr := []) (how := how) (hp := (by simp)) (hsrc := (by simp only [go_sem, srcOf] <;> rfl)) (hc := (by rfl)) (hmax := (by rw [List.length_take]; omega)) (hk := ?_)
      rintro _ D2 ⟨v2, _, rfl, rfl, how2⟩
      refine jr (own := []) (h := ?_)
      refine jk [0, 1, 2, 7, 8] (h := ?_)
      refine ih _ _ _ ?_ ⟨i + 1, v2, by omega, rfl, ?_, ?_, rfl⟩
      · omega
      · intro j hj p hp
        by_cases hji : j = i
        · subst hji; rw [g0] at hp; cases hp; exact hk
        · exact hlow j (by omega) p hp
      · rw [hti]; exact own_app (b := [l[i]]) how2
    have g0 := List.getElem?_eq_getElem hlt
    have g1 := cellRows_get g0
    have d1 := decide_eq_true (show (i : Int) < (l.length : Int) by omega)
    have d2 := decide_eq_false hk
    have hlo : lowC l at_ = i := lowC_eq hlow (.inr ⟨_, g0, hk⟩)
    refine J_mrun (own := []) (m := 2000) (by simp (maxSteps := 2000000) (disch := omega) only [go_sem, ↓reduceIte, Int.reduceLT, Int.reduceLE, Int.reduceToNat, Int.reducePow, Int.reduceNeg, Nat.reduceBEq, Tryz.ntmps178, d1, d2, g1] <;> with_reducible rfl) ?_
    refine jn (h := ?_)
    refine jk [0, 1, 2, 7, 8] (h := ?_)
    clear g0 g1 d1 d2 hk hlt
    rotate_left
    have hlo : lowC l at_ = i := lowC_eq hlow (.inl (by omega))
    have d1 := decide_eq_false (show ¬ (i : Int) < (l.length : Int) by omega)
    refine J_mrun (own := []) (m := 2000) (by simp (maxSteps := 2000000) (disch := omega) only [go_sem, ↓reduceIte, Int.reduceLT, Int.reduceLE, Int.reduceToNat, Int.reducePow, Int.reduceNeg, Nat.reduceBEq, Tryz.ntmps178, d1] <;> with_reducible rfl) ?_
    refine jn (h := ?_)
    refine jk [0, 1, 2, 7, 8] (h := ?_)
    clear d1 hlt
    all_goals
      refine jr (own := []) (h := ?_)
      refine jc (hs := blank04_ok b (by omega)) (hk := ?_)
      refine jr (own := []) (h := ?_)
      have hpc : putC l at_ b = l.take i ++ (if blankB b then [] else [(at_, b)]) ++ l.drop (i + (if hitC l at_ i then 1 else 0)) := by unfold putC; rw [hlo]
      rw [hpc]
      rcases hbl : blankB b with _ | _
      refine jt (h := ?_)
      refine jr (own := [39]) (h := ?_)
      refine jap (Fr := []) (how := how) (hp := (by simp)) (hsrc := (by simp only [go_sem, srcOf] <;> rfl)) (hc := (by rfl)) (hmax := (by rw [List.length_take]; omega)) (hk := ?_)
      rintro _ D2 ⟨v2, _, rfl, rfl, how2⟩
      have how8 : Own 177 2 (cellRows (l.take i ++ (if false = true then [] else [(at_, b)]))).flatten (l.take i ++ (if false = true then [] else [(at_, b)])).length v2 D2 := own_app (b := [(at_, b)]) how2
      have hl8 : (l.take i ++ (if false = true then [] else [(at_, b)])).length ≤ i + 1 := by simp only [Bool.false_eq_true, if_false, List.length_append, List.length_take, List.length_cons, List.length_nil]; omega
      refine J_mrun (own := []) (m := 1) (by simp (maxSteps := 2000000) (disch := omega) only [go_sem, ↓reduceIte, Int.reduceLT, Int.reduceLE, Int.reduceToNat, Int.reducePow, Int.reduceNeg, Nat.reduceBEq, Tryz.ntmps178] <;> with_reducible rfl) ?_
      refine jk [0, 1, 7, 8] (h := ?_)
      rotate_left
      refine jn (h := ?_)
      have how8 : Own 177 2 (cellRows (l.take i ++ (if true = true then [] else [(at_, b)]))).flatten (l.take i ++ (if true = true then [] else [(at_, b)])).length v D := by rw [if_pos rfl, List.append_nil]; exact how
      have hl8 : (l.take i ++ (if true = true then [] else [(at_, b)])).length ≤ i + 1 := by simp only [if_true, List.append_nil, List.length_take]; omega
      refine jk [0, 1, 7, 8] (h := ?_)
      all_goals
        generalize hX : l.take i ++ _ = X at how8 hl8 ⊢
        have hcut : ∀ k, List.drop k (List.take l.length (cellRows l)) = cellRows (l.drop k) := fun k => by rw [List.take_of_length_le (by rw [cellRows_len]; exact Nat.le_refl _), cellRows_drop]
        have hto : ((i : Int) + 1).toNat = i + 1 := by omega
        obtain ⟨hlt, hk⟩ | ⟨hlt, hk⟩ | hlt : (∃ h : i < l.length, l[i].1 = at_) ∨ (∃ h : i < l.length, ¬ l[i].1 = at_) ∨ ¬ i < l.length := by
          by_cases h : i < l.length
          · by_cases h2 : l[i].1 = at_
            · exact .inl ⟨h, h2⟩
            · exact .inr (.inl ⟨h, h2⟩)
          · exact .inr (.inr h)
        have g0 := List.getElem?_eq_getElem hlt
        have g1 := cellRows_get g0
        have d1 := decide_eq_true (show (i : Int) < (l.length : Int) by omega)
        have d2 := decide_eq_true hk
        have hh : hitC l at_ i = true := by unfold hitC; rw [g0]; exact d2
        rw [hh, if_pos rfl]
        refine J_mrun (own := []) (m := 2000) (by simp (maxSteps := 2000000) (disch := omega) only [go_sem, ↓reduceIte, Int.reduceLT, Int.reduceLE, Int.reduceToNat, Int.reducePow, Int.reduceNeg, Nat.reduceBEq, Tryz.ntmps178, d1, d2, g1] <;> with_reducible rfl) ?_
        refine jt (h := ?_)
        refine jf (own := [59]) (a2 hcut hto) (h := ?_)
        rotate_left
        have g0 := List.getElem?_eq_getElem hlt
        have g1 := cellRows_get g0
        have d1 := decide_eq_true (show (i : Int) < (l.length : Int) by omega)
        have d2 := decide_eq_false hk
        have hh : hitC l at_ i = false := by unfold hitC; rw [g0]; exact d2
        rw [hh, if_neg (by decide)]
        refine J_mrun (own := []) (m := 2000) (by simp (maxSteps := 2000000) (disch := omega) only [go_sem, ↓reduceIte, Int.reduceLT, Int.reduceLE, Int.reduceToNat, Int.reducePow, Int.reduceNeg, Nat.reduceBEq, Tryz.ntmps178, d1, d2, g1] <;> with_reducible rfl) ?_
        refine jn (h := ?_)
        refine jf (own := [59]) (a2 hcut hto) (h := ?_)
        rotate_left
        have d1 := decide_eq_false (show ¬ (i : Int) < (l.length : Int) by omega)
        have hh : hitC l at_ i = false := by unfold hitC; rw [List.getElem?_eq_none (by omega)]
        rw [hh, if_neg (by decide)]
        refine J_mrun (own := []) (m := 2000) (by simp (maxSteps := 2000000) (disch := omega) only [go_sem, ↓reduceIte, Int.reduceLT, Int.reduceLE, Int.reduceToNat, Int.reducePow, Int.reduceNeg, Nat.reduceBEq, Tryz.ntmps178, d1] <;> with_reducible rfl) ?_
        refine jn (h := ?_)
        refine jf (own := [59]) (a2 hcut hto) (h := ?_)
        all_goals
          refine jap (Fr := []) (how := how8) (hp := (by simp)) (hsrc := (by simp only [go_sem, srcOf] <;> rfl)) (hc := (cellRows_cell _)) (hmax := (by rw [List.length_drop]; omega)) (hk := ?_)
          rintro _ D9 ⟨v9, _, rfl, rfl, how9⟩
          have how10 := own_app how9
          obtain ⟨a9, c9, rfl⟩ := how10.slice
          refine jr (own := []) (h := ?_)
          refine J_freezeS (rows := cellRows _) (Fr := []) (by rw [cellRows_len]; exact how10) (cellRows_row _) (by rw [cellRows_len, List.length_append, List.length_drop]; unfold maxRows; omega) ?_
          refine J_is (t := 6) (by simp only [go_sem] <;> rfl) (List.mem_cons_self ..) (J_drop ?_)
          refine jret Tryz.func178 (h := ⟨rfl, rfl⟩)
end Go.Proofs.YtlmahffjidgplaaGreatDoor
end

section
namespace Go.Proofs.YtlmahffjidgplaaGreatDoor
open Go Go.Av
set_option linter.unusedVariables false
set_option linter.unusedSimpArgs false
set_option maxRecDepth 100000
set_option maxHeartbeats 4000000
attribute [local go_sem] packed List.set_cons_zero List.set_cons_succ List.cons_append List.nil_append bytesRows_length cellRows_len chRows_len rCells intRows_len
attribute [-go_sem] cellsOf AV.isCell
attribute [local go_sem] cellsOf_agg cellsOf_int cellsOf_bool cellsOf_str cellsOf_map cellsOf_ptr cellsOf_nilI cellsOf_slice cellsOf_sl cellsOf_ifc cellsOf_fp cellsOf_opt optAV_cell icell_int icell_bool icell_str icell_map icell_ptr icell_nilI icell_slice icell_sl icell_ifc icell_fp

def keepN (keep : Int) : Nat := (min keep 256).toNat
def settleC (l : List (Int × List UInt8)) (at_ : Int) (o : Option (List UInt8)) (keep : Int) : List (Int × List UInt8) := match o with
  | none => if keep < 256 then l else putC l at_ z256
  | some b => putC l at_ (b.take (keepN keep) ++ (pageOr l at_).drop (keepN keep))
theorem pageOr_len {l : List (Int × List UInt8)} (h : ∀ p ∈ l, p.2.length = 256) (at_ : Int) : (pageOr l at_).length = 256 := by
  unfold pageOr
  cases hf : findM l at_ with
  | none => simp [z256]
  | some w => exact h _ (mem_find hf)

theorem settle04_ok (l : List (Int × List UInt8)) (at_ : Int) (o : Option (List UInt8)) (keep : Int) (hl : l.length < 2 ^ 30) (hp : ∀ p ∈ l, p.2.length = 256) (ho : ∀ b, o = some b → b.length = 256) :
    ACalls Tryz.prog 127 [.sl 2 (cellRows l), .agg [.c (.int .i64 at_), .sl 1 (bytesRows (o.getD [])), .c (.bool o.isNone)], .c (.int .i64 keep)] [] (Ret (.sl 2 (cellRows (settleC l at_ o keep)))) := by
  cases o with
  | none =>
    refine calls_of_J cl_127 Tryz.func127 rfl (by simp [Tryz.ntmps127]) ?_
    refine J_mrun (own := []) (m := 2000) (by simp (maxSteps := 2000000) (disch := omega) only [go_sem, ↓reduceIte, Int.reduceLT, Int.reduceLE, Int.reduceToNat, Int.reducePow, Int.reduceNeg, Nat.reduceBEq, Tryz.ntmps127, Option.isNone_none, Option.getD_none] <;> with_reducible rfl) ?_
    refine jt (h := ?_)
    refine jr (own := []) (h := ?_)
    refine jif (h1 := fun hk => ?_) (h2 := fun hk => ?_)
    · refine jr (own := []) (h := ?_)
      refine jret Tryz.func127 (h := ⟨by unfold settleC; simp only; rw [if_pos hk], rfl⟩)
    · refine jr (own := []) (h := ?_)
      refine jd [(0, .pure), (1, .pure), (2, .pure), (3, .act), (4, .pure), (5, .pure)] mixed (by kernel_rfl) ?_
      refine cr (own := []) (hk := ?_)
      refine Can_op rfl (by simp only [go_sem, ↓reduceIte, Int.reduceLT, Int.reduceLE, Int.reduceToNat, Int.reducePow, Int.reduceNeg, Nat.reduceBEq, Tryz.ntmps127]) (fun e' ha => mk256_op rfl (agree_eval rfl ha (by simp [Op.operands]) (by simp only [go_sem, ↓reduceIte, Int.reduceLT, Int.reduceLE, Int.reduceToNat, Int.reducePow, Int.reduceNeg, Nat.reduceBEq] <;> rfl)) (agree_eval rfl ha (by simp [Op.operands]) (by simp only [go_sem, ↓reduceIte, Int.reduceLT, Int.reduceLE, Int.reduceToNat, Int.reducePow, Int.reduceNeg, Nat.reduceBEq] <;> rfl))) ?_
      rintro _ _ ⟨rfl, rfl⟩
      refine cr (own := []) (hk := ?_)
      refine ccp (hs := put04_ok l at_ z256 hl (by simp [z256])) (hk := ?_)
      refine cr (own := []) (hk := ?_)
      refine Can_nil ?_
      refine jret Tryz.func127 (h := ⟨by unfold settleC; simp only; rw [if_neg hk], rfl⟩)
  | some b =>
    have hb := ho b rfl
    have hw := pageOr_len hp at_
    have hS : settleC l at_ (some b) keep = putC l at_ (b.take (keepN keep) ++ (pageOr l at_).drop (keepN keep)) := rfl
    have hkl : keepN keep ≤ 256 := by unfold keepN; omega
    rw [hS]
    refine calls_of_J cl_127 Tryz.func127 rfl (by simp [Tryz.ntmps127]) ?_
    refine J_mrun (own := []) (m := 2000) (by simp (maxSteps := 2000000) (disch := omega) only [go_sem, ↓reduceIte, Int.reduceLT, Int.reduceLE, Int.reduceToNat, Int.reducePow, Int.reduceNeg, Nat.reduceBEq, Tryz.ntmps127, Option.isNone_some, Option.getD_some] <;> with_reducible rfl) ?_
    refine jn (h := ?_)
    refine jr (own := []) (h := ?_)
    refine jc (hs := safe04_ok l at_ (by omega)) (hk := ?_)
    generalize pageOr l at_ = w at hw ⊢
    have hn : (b.take (keepN keep) ++ w.drop (keepN keep)).length = 256 := by rw [List.length_append, List.length_take, List.length_drop]; omega
    have hget : ∀ i : Nat, (h : i < 256) → (b.take (keepN keep) ++ w.drop (keepN keep))[i]? = if (i : Int) < keep then b[i]? else w[i]? := fun i h => by
      by_cases hik : (i : Int) < keep
      · have : i < keepN keep := by unfold keepN; omega
        rw [if_pos hik, List.getElem?_append_left (by rw [List.length_take]; omega), List.getElem?_take_of_lt this]
      · have : keepN keep ≤ i := by unfold keepN; omega
        rw [if_neg hik, List.getElem?_append_right (by rw [List.length_take]; omega), List.getElem?_drop, List.length_take]
        congr 1; omega
    generalize b.take (keepN keep) ++ w.drop (keepN keep) = nb at hn hget ⊢
    refine jr (own := []) (h := ?_)
    refine jk [0, 2, 4, 7, 8, 9] (h := ?_)
    refine J_loopI (I := fun m e D => ∃ (i : Nat) (v : Value), i ≤ 256 ∧ m = 256 - i ∧ OwnB 5 (nb.take i) v D ∧ e = [(0, .sl 2 (cellRows l)), (2, .c (.int .i64 keep)), (4, .fp [.c (.int .i64 at_), .sl 1 (bytesRows b), .c (.bool false)]), (7, .c v), (8, .sl 1 (bytesRows w)), (9, .c (.int .i64 i))]) ?_ ?_
    · exact ⟨_, 0, .slice none 0 0, by omega, rfl, .nil none rfl rfl, rfl⟩
    · rintro m e D ⟨i, v, hi, rfl, how, rfl⟩ ih
      refine jr (own := []) (h := ?_)
      refine jif (h1 := fun hc => ?_) (h2 := fun hc => ?_)
      · have hlt : i < 256 := by omega
        have g0 := List.getElem?_eq_getElem (l := nb) (i := i) (by omega)
        have hti : nb.take (i + 1) = nb.take i ++ [nb[i]] := by rw [List.take_add_one, g0]; rfl
        have hg := hget i hlt
        have h0 : (0 : Int) ≤ (i : Int) := by omega
        rw [g0] at hg
        generalize nb[i] = c at hti hg
        refine jr (own := []) (h := ?_)
        refine jif (h1 := fun hik => ?_) (h2 := fun hik => ?_)
        · rw [if_pos hik] at hg
          have g1 := bytes_get hg.symm
          refine J_mrun (own := [38]) (m := 2000) (by simp (maxSteps := 2000000) (disch := omega) only [go_sem, ↓reduceIte, Int.reduceLT, Int.reduceLE, Int.reduceToNat, Int.reducePow, Int.reduceNeg, Nat.reduceBEq, Tryz.ntmps127, g1] <;> with_reducible rfl) ?_
          refine jap (Fr := []) (how := how) (hp := (by simp)) (hsrc := (by simp only [go_sem, srcOf] <;> rfl)) (hc := (by rfl)) (hmax := (by rw [List.length_take]; omega)) (hk := ?_)
          rintro _ D2 ⟨v2, _, rfl, rfl, how2⟩
          have how3 : OwnB 5 (nb.take (i + 1)) v2 D2 := by rw [hti]; exact ownB_app (b := [c]) how2
          refine jr (own := []) (h := ?_)
          refine jk [0, 2, 4, 7, 8, 9] (h := ?_)
          refine ih _ _ _ ?_ ⟨i + 1, v2, by omega, rfl, how3, rfl⟩
          omega
        · rw [if_neg hik] at hg
          have g1 := bytes_get hg.symm
          refine J_mrun (own := [45]) (m := 2000) (by simp (maxSteps := 2000000) (disch := omega) only [go_sem, ↓reduceIte, Int.reduceLT, Int.reduceLE, Int.reduceToNat, Int.reducePow, Int.reduceNeg, Nat.reduceBEq, Tryz.ntmps127, g1] <;> with_reducible rfl) ?_
          refine jap (Fr := []) (how := how) (hp := (by simp)) (hsrc := (by simp only [go_sem, srcOf] <;> rfl)) (hc := (by rfl)) (hmax := (by rw [List.length_take]; omega)) (hk := ?_)
          rintro _ D2 ⟨v2, _, rfl, rfl, how2⟩
          have how3 : OwnB 5 (nb.take (i + 1)) v2 D2 := by rw [hti]; exact ownB_app (b := [c]) how2
          refine jr (own := []) (h := ?_)
          refine jk [0, 2, 4, 7, 8, 9] (h := ?_)
          refine ih _ _ _ ?_ ⟨i + 1, v2, by omega, rfl, how3, rfl⟩
          omega
      · have hi' : i = 256 := by omega
        subst hi'
        rw [List.take_of_length_le (by omega)] at how
        refine jr (own := []) (h := ?_)
        refine J_freezeB (Fr := []) how (by unfold maxRows; omega) ?_
        refine J_is (t := 49) (by simp only [go_sem] <;> rfl) (List.mem_cons_self ..) (J_drop ?_)
        refine jc (hs := put04_ok l at_ nb hl (by omega)) (hk := ?_)
        refine jr (own := []) (h := ?_)
        refine jret Tryz.func127 (h := ⟨rfl, rfl⟩)

theorem fuse04_ok (r : Fl) (n : Int) : ACalls Tryz.prog 77 [rAV r, .c (.int .i64 n)] [] (Ret (rAV (fuseS r n))) := by
  unfold rAV
  refine calls_of_J cl_77 Tryz.func77 rfl (by simp [Tryz.ntmps77]) ?_
  refine jr (own := [4, 5]) (h := ?_)
  refine jnv (hh := fun b4 hb4 => ?_)
  refine jr (own := [5]) (h := ?_)
  refine jnv (hh := fun b5 hb5 => ?_)
  simp only [fresh] at hb5
  refine jf (own := []) hb5 (h := ?_)
  refine jif (h1 := fun hc => ?_) (h2 := fun hc => ?_)
  · have hm : max n (-1) = -1 := by omega
    refine jf (own := []) hb5 (h := ?_)
    refine J_forget ?_
    refine jretf hb5 Tryz.func77 (h := ⟨by unfold fuseS rCells; simp only [hm], rfl⟩)
  · have hm : max n (-1) = n := by omega
    refine jf (own := []) hb5 (h := ?_)
    refine J_forget ?_
    refine jretf hb5 Tryz.func77 (h := ⟨by unfold fuseS rCells; simp only [hm], rfl⟩)

/-! ### What a device holds -/
theorem putC_page {l : List (Int × List UInt8)} {at_ : Int} {b : List UInt8} (h : ∀ p ∈ l, p.2.length = 256) (hb : b.length = 256) : ∀ p ∈ putC l at_ b, p.2.length = 256 := by
  intro p hp
  unfold putC at hp
  rcases List.mem_append.1 hp with hp | hp
  · rcases List.mem_append.1 hp with hp | hp
    · exact h p (List.take_subset _ _ hp)
    · split at hp
      · cases hp
      · rw [List.mem_singleton.1 hp]; exact hb
  · exact h p (List.drop_subset _ _ hp)
theorem putC_len (l : List (Int × List UInt8)) (at_ : Int) (b : List UInt8) : (putC l at_ b).length ≤ l.length + 1 := by
  unfold putC
  rw [List.length_append, List.length_append, List.length_take, List.length_drop]
  split <;> simp <;> omega
theorem settleC_page {l : List (Int × List UInt8)} {at_ : Int} {o : Option (List UInt8)} {keep : Int} (h : ∀ p ∈ l, p.2.length = 256) (ho : ∀ b, o = some b → b.length = 256) : ∀ p ∈ settleC l at_ o keep, p.2.length = 256 := by
  cases o with
  | none =>
    unfold settleC
    simp only
    split
    · exact h
    · exact putC_page h (by simp [z256])
  | some b =>
    refine putC_page h ?_
    have hb := ho b rfl
    have hw := pageOr_len h at_
    have hkl : keepN keep ≤ 256 := by unfold keepN; omega
    rw [List.length_append, List.length_take, List.length_drop]; omega
theorem settleC_len (l : List (Int × List UInt8)) (at_ : Int) (o : Option (List UInt8)) (keep : Int) : (settleC l at_ o keep).length ≤ l.length + 1 := by
  cases o with
  | none =>
    unfold settleC
    simp only
    split
    · omega
    · exact putC_len _ _ _
  | some b => exact putC_len _ _ _
def settleAllC (l : List (Int × List UInt8)) (ls : List (Int × Option (List UInt8))) : List (Int × List UInt8) := ls.foldl (fun m p => settleC m p.1 p.2 256) l
theorem settleAllC_ok : ∀ {ls : List (Int × Option (List UInt8))} {l : List (Int × List UInt8)}, (∀ p ∈ l, p.2.length = 256) → (∀ p ∈ ls, ∀ b, p.2 = some b → b.length = 256) → (∀ p ∈ settleAllC l ls, p.2.length = 256) ∧ (settleAllC l ls).length ≤ l.length + ls.length
  | [], l, h, _ => ⟨h, Nat.le_refl _⟩
  | p :: ls, l, h, h1 => by
    have := settleAllC_ok (ls := ls) (settleC_page (keep := 256) (at_ := p.1) h (h1 p (by simp))) (fun q hq => h1 q (by simp [hq]))
    have h2 := settleC_len l p.1 p.2 256
    exact ⟨this.1, by have h3 := this.2; unfold settleAllC at h3 ⊢; simp only [List.foldl_cons, List.length_cons]; omega⟩
def settleKeepC (l : List (Int × List UInt8)) : List (Int × Option (List UInt8)) → List Int → List (Int × List UInt8)
  | p :: ls, k :: ks => settleKeepC (settleC l p.1 p.2 k) ls ks
  | _, _ => l
theorem settleKeepC_ok : ∀ {ls : List (Int × Option (List UInt8))} {ks : List Int} {l : List (Int × List UInt8)}, (∀ p ∈ l, p.2.length = 256) → (∀ p ∈ ls, ∀ b, p.2 = some b → b.length = 256) → (∀ p ∈ settleKeepC l ls ks, p.2.length = 256) ∧ (settleKeepC l ls ks).length ≤ l.length + ls.length
  | [], ks, l, h, _ => ⟨h, Nat.le_refl _⟩
  | p :: ls, [], l, h, _ => ⟨h, Nat.le_add_right _ _⟩
  | p :: ls, k :: ks, l, h, h1 => by
    have := settleKeepC_ok (ls := ls) (ks := ks) (settleC_page (keep := k) (at_ := p.1) h (h1 p (by simp))) (fun q hq => h1 q (by simp [hq]))
    have h2 := settleC_len l p.1 p.2 k
    exact ⟨this.1, by have h3 := this.2; simp only [settleKeepC, List.length_cons]; omega⟩
theorem settleKeepC_take : ∀ {ls : List (Int × Option (List UInt8))} {ks : List Int} {l : List (Int × List UInt8)} {i : Nat} {p : Int × Option (List UInt8)} {k : Int}, ls[i]? = some p → ks[i]? = some k →
    settleKeepC l (ls.take (i + 1)) ks = settleC (settleKeepC l (ls.take i) ks) p.1 p.2 k
  | [], _, _, _, _, _, h, _ => by simp at h
  | _ :: _, [], _, _, _, _, _, h => by simp at h
  | q :: ls, k' :: ks, l, 0, p, k, h1, h2 => by
    simp at h1 h2; subst h1 h2
    cases ls <;> simp [settleKeepC]
  | q :: ls, k' :: ks, l, i + 1, p, k, h1, h2 => by
    simp only [List.take_succ_cons, settleKeepC]
    exact settleKeepC_take (by simpa using h1) (by simpa using h2)
theorem settleKeepC_stop : ∀ {ls : List (Int × Option (List UInt8))} {ks : List Int} {l : List (Int × List UInt8)} {i : Nat}, (ls.length ≤ i ∨ ks.length ≤ i) → settleKeepC l (ls.take i) ks = settleKeepC l ls ks
  | [], ks, l, i, h => by simp
  | q :: ls, [], l, i, h => by cases i <;> simp [settleKeepC]
  | q :: ls, k :: ks, l, 0, h => by simp at h
  | q :: ls, k :: ks, l, i + 1, h => by
    simp only [List.take_succ_cons, settleKeepC]
    exact settleKeepC_stop (by simpa using h)

structure Fl.R (r : Fl) : Prop where
  page : ∀ p ∈ r.safe, p.2.length = 256
  lpage : ∀ p ∈ r.loose, ∀ b, p.2 = some b → b.length = 256
  len : r.safe.length + r.loose.length < 2 ^ 29
  w : r.WF'

def flush04S (r : Fl) : Fl := if r.down = true then r else if burnB r then burnS r else { burnS r with safe := settleAllC r.safe r.loose, loose := [] }
theorem flush04_ok (r : Fl) (h : r.R) : ACalls Tryz.prog 203 [rAV r] [] (Ret (.tup [rAV (flush04S r), .c (.int .i64 (flushC r))])) := by
  unfold rAV
  cases hd : r.down with
  | true =>
    have hC : flushC r = 11 := by unfold flushC; rw [if_pos hd]
    have hS : flush04S r = r := by unfold flush04S; rw [if_pos hd]
    refine calls_of_J cl_203 Tryz.func203 rfl (by simp [Tryz.ntmps203]) ?_
    refine jf (own := [2]) hd (h := ?_)
    refine jnv (hh := fun b2 hb2 => ?_)
    refine jf (own := []) hd (h := ?_)
    refine jt (h := ?_)
    refine jr (own := []) (h := ?_)
    refine J_forget ?_
    refine jret Tryz.func203 (h := ⟨by rw [hC, hS]; unfold rCells; rw [hd], rfl⟩)
  | false =>
    have hbn := burns04_ok r hd h.w
    unfold rAV at hbn
    have q1 := burnS_loose r
    have q2 := burnS_safe r
    have hlen := h.len
    refine calls_of_J cl_203 Tryz.func203 rfl (by simp [Tryz.ntmps203]) ?_
    refine jf (own := [2]) hd (h := ?_)
    refine jnv (hh := fun b2 hb2 => ?_)
    refine jf (own := []) hd (h := ?_)
    refine jn (h := ?_)
    refine jr (own := []) (h := ?_)
    have hre : ([.c (.int .i64 r.pages), .sl 2 (cellRows r.safe), .sl 3 (chRows r.loose), .c (.int .i64 r.fuse), .c (.bool false), .c (.int .i64 r.done)] : List AV) = rCells r := by unfold rCells; rw [hd]
    rw [hre]
    refine jc (hs := hbn) (hk := ?_)
    cases hb : burnB r with
    | true =>
      have hC : flushC r = 11 := by unfold flushC; rw [if_neg (by simp [hd]), hb]; rfl
      have hS : flush04S r = burnS r := by unfold flush04S; rw [if_neg (by simp [hd]), hb]; rfl
      refine jr (own := [4]) (h := ?_)
      refine jnv (hh := fun b4 hb4 => ?_)
      simp only [fresh] at hb4
      refine jf (own := []) hb4 (h := ?_)
      refine jt (h := ?_)
      refine jf (own := []) hb4 (h := ?_)
      refine J_forget ?_
      refine jretf hb4 Tryz.func203 (h := ⟨by rw [hC, hS]; rfl, rfl⟩)
    | false =>
      have hC : flushC r = 0 := by unfold flushC; rw [if_neg (by simp [hd]), hb]; rfl
      have hS : flush04S r = { burnS r with safe := settleAllC r.safe r.loose, loose := [] } := by unfold flush04S; rw [if_neg (by simp [hd]), hb]; rfl
      rw [hC, hS]
      have hc1 : rCells (burnS r) = [.c (.int .i64 (burnS r).pages), .sl 2 (cellRows r.safe), .sl 3 (chRows r.loose), .c (.int .i64 (burnS r).fuse), .c (.bool (burnS r).down), .c (.int .i64 (burnS r).done)] := by unfold rCells; rw [q1, q2]
      rw [hc1]
      generalize burnS r = s1 at *
      refine jr (own := [4]) (h := ?_)
      refine jnv (hh := fun b4 hb4 => ?_)
      simp only [fresh] at hb4
      refine jf (own := []) hb4 (h := ?_)
      refine jn (h := ?_)
      refine jr (own := []) (h := ?_)
      refine jk [1, 2, 4, 6] (h := ?_)
      refine J_loopI (I := fun m e D => ∃ i : Nat, i ≤ r.loose.length ∧ m = r.loose.length - i ∧ D = [.box b4 50 [.c (.int .i64 s1.pages), .sl 2 (cellRows (settleAllC r.safe (r.loose.take i))), .sl 3 (chRows r.loose), .c (.int .i64 s1.fuse), .c (.bool s1.down), .c (.int .i64 s1.done)], .box b2 50 [.c (.int .i64 0), .c (.slice none 0 0), .c (.slice none 0 0), .c (.int .i64 0), .c (.bool false), .c (.int .i64 0)]] ∧ e = [(1, .fp (rCells r)), (2, .c (.pointer (some ⟨b2, 0, none⟩))), (4, .c (.pointer (some ⟨b4, 0, none⟩))), (6, .c (.int .i64 i))]) ?_ ?_
      · exact ⟨_, 0, by omega, rfl, rfl, rfl⟩
      · rintro m e D ⟨i, hi, rfl, rfl, rfl⟩ ih
        refine jr (own := []) (h := ?_)
        refine jif (h1 := fun hc => ?_) (h2 := fun hc => ?_)
        · have hlt : i < r.loose.length := by omega
          have g0 := List.getElem?_eq_getElem hlt
          have g1 := chRows_get g0
          have h0 : (0 : Int) ≤ (i : Int) := by omega
          have hso := settleAllC_ok (ls := r.loose.take i) h.page (fun p hp => h.lpage p (List.take_subset _ _ hp))
          have hsl := settle04_ok (settleAllC r.safe (r.loose.take i)) r.loose[i].1 r.loose[i].2 256 (by have := hso.2; rw [List.length_take] at this; omega) hso.1 (h.lpage _ (List.getElem_mem hlt))
          have hst : settleC (settleAllC r.safe (r.loose.take i)) r.loose[i].1 r.loose[i].2 256 = settleAllC r.safe (r.loose.take (i + 1)) := by
            unfold settleAllC; rw [List.take_add_one, g0, List.foldl_append]; rfl
          rw [hst] at hsl
          refine jr (own := []) (h := ?_)
          refine jd [(0, .pure), (1, .read), (2, .pure), (3, .pure), (4, .pure), (5, .pure), (6, .pure), (7, .pure), (8, .pure), (9, .act)] mixed (by kernel_rfl) ?_
          refine Can_run (own := []) (by simp (maxSteps := 2000000) (disch := omega) only [go_sem, ↓reduceIte, Int.reduceLT, Int.reduceLE, Int.reduceToNat, Int.reducePow, Int.reduceNeg, Nat.reduceBEq, Tryz.ntmps203, hb4.1, hb4.2.1, g1] <;> with_reducible rfl) ?_
          refine ccp (hs := hsl) (hk := ?_)
          refine cf (own := []) hb4 (hk := ?_)
          refine Can_nil ?_
          refine jf (own := []) hb4 (h := ?_)
          refine jk [1, 2, 4, 6] (h := ?_)
          refine ih _ _ _ ?_ ⟨i + 1, by omega, rfl, rfl, rfl⟩
          omega
        · have hi' : i = r.loose.length := by omega
          subst hi'
          rw [List.take_length]
          refine jf (own := []) hb4 (h := ?_)
          refine J_perm (List.Perm.swap _ _ _) ?_
          refine J_nilBox 2 3 (by simp only [go_sem]) ?_
          simp only [go_sem]
          refine J_forget ?_
          refine jret Tryz.func203 (h := ⟨rfl, rfl⟩)

def crash04S (r : Fl) (keep : List Int) : Fl := { r with safe := settleKeepC r.safe r.loose keep, loose := [], down := false, fuse := -1 }
theorem crash04_ok (r : Fl) (h : r.R) (keep : List Int) (hk : keep.length < 2 ^ 37) : ACalls Tryz.prog 78 [rAV r, .sl 1 (intRows keep)] [] (Ret (rAV (crash04S r keep))) := by
  unfold rAV
  have hlen := h.len
  refine calls_of_J cl_78 Tryz.func78 rfl (by simp [Tryz.ntmps78]) ?_
  refine jr (own := [4, 5]) (h := ?_)
  refine jnv (hh := fun b2 hb2 => ?_)
  refine jr (own := [5]) (h := ?_)
  refine jnv (hh := fun b4 hb4 => ?_)
  simp only [fresh] at hb4
  refine jf (own := []) hb4 (h := ?_)
  refine jk [1, 2, 4, 5, 6] (h := ?_)
  refine J_loopI (I := fun m e D => ∃ i : Nat, i ≤ r.loose.length ∧ m = r.loose.length - i ∧ D = [.box b4 50 [.c (.int .i64 r.pages), .sl 2 (cellRows (settleKeepC r.safe (r.loose.take i) keep)), .sl 3 (chRows r.loose), .c (.int .i64 r.fuse), .c (.bool r.down), .c (.int .i64 r.done)], .box b2 50 [.c (.int .i64 0), .c (.slice none 0 0), .c (.slice none 0 0), .c (.int .i64 0), .c (.bool false), .c (.int .i64 0)]] ∧ e = [(1, .sl 1 (intRows keep)), (2, .fp (rCells r)), (4, .c (.pointer (some ⟨b2, 0, none⟩))), (5, .c (.pointer (some ⟨b4, 0, none⟩))), (6, .c (.int .i64 i))]) ?_ ?_
  · exact ⟨_, 0, by omega, rfl, by cases keep <;> rfl, rfl⟩
  · rintro m e D ⟨i, hi, rfl, rfl, rfl⟩ ih
    have h0 : (0 : Int) ≤ (i : Int) := by omega
    by_cases hlt : i < r.loose.length
    · have d1 := decide_eq_true (show (i : Int) < (r.loose.length : Int) by omega)
      by_cases hki : i < keep.length
      · have d2 := decide_eq_true (show (i : Int) < (keep.length : Int) by omega)
        have g0 := List.getElem?_eq_getElem hlt
        have g1 := chRows_get g0
        have gk := List.getElem?_eq_getElem hki
        have gk1 := int_get gk
        have hso := settleKeepC_ok (ls := r.loose.take i) (ks := keep) h.page (fun p hp => h.lpage p (List.take_subset _ _ hp))
        have hsl := settle04_ok (settleKeepC r.safe (r.loose.take i) keep) r.loose[i].1 r.loose[i].2 keep[i] (by have := hso.2; rw [List.length_take] at this; omega) hso.1 (h.lpage _ (List.getElem_mem hlt))
        rw [← settleKeepC_take g0 gk] at hsl
        refine J_mrun (own := []) (m := 2000) (by simp (maxSteps := 2000000) (disch := omega) only [go_sem, ↓reduceIte, Int.reduceLT, Int.reduceLE, Int.reduceToNat, Int.reducePow, Int.reduceNeg, Nat.reduceBEq, Tryz.ntmps78, d1, d2] <;> with_reducible rfl) ?_
        refine jt (h := ?_)
        refine jr (own := []) (h := ?_)
        refine jd [(0, .pure), (1, .read), (2, .pure), (3, .pure), (4, .pure), (5, .pure), (6, .pure), (7, .pure), (8, .pure), (9, .pure), (10, .pure), (11, .pure), (12, .pure), (13, .act)] mixed (by kernel_rfl) ?_
        refine Can_run (own := []) (by simp (maxSteps := 2000000) (disch := omega) only [go_sem, ↓reduceIte, Int.reduceLT, Int.reduceLE, Int.reduceToNat, Int.reducePow, Int.reduceNeg, Nat.reduceBEq, Tryz.ntmps78, hb4.1, hb4.2.1, g1, gk1] <;> with_reducible rfl) ?_
        refine ccp (hs := hsl) (hk := ?_)
        refine cf (own := []) hb4 (hk := ?_)
        refine Can_nil ?_
        refine jf (own := []) hb4 (h := ?_)
        refine jk [1, 2, 4, 5, 6] (h := ?_)
        refine ih _ _ _ ?_ ⟨i + 1, by omega, rfl, rfl, rfl⟩
        omega
      · have d2 := decide_eq_false (show ¬ (i : Int) < (keep.length : Int) by omega)
        have hst := settleKeepC_stop (ls := r.loose) (ks := keep) (l := r.safe) (i := i) (.inr (by omega))
        rw [hst]
        refine J_mrun (own := []) (m := 2000) (by simp (maxSteps := 2000000) (disch := omega) only [go_sem, ↓reduceIte, Int.reduceLT, Int.reduceLE, Int.reduceToNat, Int.reducePow, Int.reduceNeg, Nat.reduceBEq, Tryz.ntmps78, d1, d2] <;> with_reducible rfl) ?_
        refine jn (h := ?_)
        refine jf (own := []) hb4 (h := ?_)
        refine J_perm (List.Perm.swap _ _ _) ?_
        refine J_nilBox 2 3 (by simp only [go_sem]) ?_
        simp only [go_sem]
        refine J_forget ?_
        refine jret Tryz.func78 (h := ⟨rfl, rfl⟩)
    · have d1 := decide_eq_false (show ¬ (i : Int) < (r.loose.length : Int) by omega)
      have hst := settleKeepC_stop (ls := r.loose) (ks := keep) (l := r.safe) (i := i) (.inl (by omega))
      rw [hst]
      refine J_mrun (own := []) (m := 2000) (by simp (maxSteps := 2000000) (disch := omega) only [go_sem, ↓reduceIte, Int.reduceLT, Int.reduceLE, Int.reduceToNat, Int.reducePow, Int.reduceNeg, Nat.reduceBEq, Tryz.ntmps78, d1] <;> with_reducible rfl) ?_
      refine jn (h := ?_)
      refine jf (own := []) hb4 (h := ?_)
      refine J_perm (List.Perm.swap _ _ _) ?_
      refine J_nilBox 2 3 (by simp only [go_sem]) ?_
      simp only [go_sem]
      refine J_forget ?_
      refine jret Tryz.func78 (h := ⟨rfl, rfl⟩)
end Go.Proofs.YtlmahffjidgplaaGreatDoor
end

section
namespace Go.Proofs.YtlmahffjidgplaaGreatDoor
open Go Go.Av
set_option linter.unusedVariables false
set_option linter.unusedSimpArgs false
set_option maxRecDepth 100000
set_option maxHeartbeats 4000000
attribute [local go_sem] packed List.set_cons_zero List.set_cons_succ List.cons_append List.nil_append bytesRows_length cellRows_len chRows_len rCells intRows_len
attribute [-go_sem] cellsOf AV.isCell
attribute [local go_sem] cellsOf_agg cellsOf_int cellsOf_bool cellsOf_str cellsOf_map cellsOf_ptr cellsOf_nilI cellsOf_slice cellsOf_sl cellsOf_ifc cellsOf_fp cellsOf_opt optAV_cell icell_int icell_bool icell_str icell_map icell_ptr icell_nilI icell_slice icell_sl icell_ifc icell_fp

theorem chRows_flat (l : List (Int × Option (List UInt8))) : (chRows l).flatten.length = l.length * 3 := by rw [flat_len (chRows_row l), chRows_len]
theorem chRows_cell (l : List (Int × Option (List UInt8))) : (chRows l).flatten.all AV.isCell = true := by
  induction l with
  | nil => rfl
  | cons p l ih => simp only [chRows, List.map_cons, List.flatten_cons, List.all_append, chRow] at ih ⊢; rw [ih]; rfl
theorem change04_ok (r : Fl) (hd : r.down = false) (hw : r.WF') (hl : r.loose.length < 2 ^ 29) (at_ : Int) (o : Option (List UInt8)) : ACalls Tryz.prog 225 [rAV r, .agg [.c (.int .i64 at_), .sl 1 (bytesRows (o.getD [])), .c (.bool o.isNone)]] []
    (Ret (.tup [rAV (changeS r at_ o), .c (.int .i64 (changeC r))])) := by
  have hbn := burns04_ok { r with loose := r.loose ++ [(at_, o)] } hd ⟨hw.f1, hw.f2, hw.d1, hw.d2⟩
  have hch : changeS r at_ o = burnS { r with loose := r.loose ++ [(at_, o)] } := rfl
  have hbb : burnB { r with loose := r.loose ++ [(at_, o)] } = burnB r := rfl
  rw [hbb, ← hch] at hbn
  unfold rAV at *
  clear hch
  generalize changeS r at_ o = s at *
  refine calls_of_J cl_225 Tryz.func225 rfl (by simp [Tryz.ntmps225]) ?_
  refine jr (own := [4, 6]) (h := ?_)
  refine jnv (hh := fun b4 hb4 => ?_)
  refine jr (own := [6]) (h := ?_)
  refine jnv (hh := fun b6 hb6 => ?_)
  simp only [fresh] at hb6
  refine jf (own := [15]) hb6 (h := ?_)
  refine J_wk (t := 12) (y := .sl0) (by simp only [go_sem]) nil_sl0 ?_
  refine jbi (hb := append0_bi (by simp only [go_sem, ↓reduceIte, Int.reduceLT, Int.reduceLE, Int.reduceToNat, Int.reducePow, Int.reduceNeg, Nat.reduceBEq] <;> with_reducible rfl) (by simp only [go_sem, srcOf] <;> rfl) (chRows_cell _) (by omega)) (hk := ?_)
  rintro _ _ ⟨v, D, rfl, rfl, how⟩
  obtain ⟨va, vc, rfl⟩ := how.slice
  refine jf (own := [21]) hb6 (h := ?_)
  refine jap (Fr := [_, _]) (how := how) (hp := (by first | exact List.Perm.refl _ | exact List.perm_append_comm)) (hsrc := (by simp only [go_sem, srcOf] <;> rfl)) (hc := (by rfl)) (hmax := (by omega)) (hk := ?_)
  rintro _ _ ⟨v2, D2, rfl, rfl, how2⟩
  have how3 : Own 238 3 (chRows (r.loose ++ [(at_, o)])).flatten (chRows (r.loose ++ [(at_, o)])).length v2 D2 := by
    rw [chRows_len, List.length_append]
    simp only [chRows, List.map_append, List.flatten_append] at how2 ⊢; exact how2
  obtain ⟨v2a, v2c, rfl⟩ := how3.slice
  refine J_mrun (own := []) (m := 2) (by simp (maxSteps := 2000000) (disch := omega) only [go_sem, ↓reduceIte, Int.reduceLT, Int.reduceLE, Int.reduceToNat, Int.reducePow, Int.reduceNeg, Nat.reduceBEq, Tryz.ntmps225, hb6.1, hb6.2.1] <;> with_reducible rfl) ?_
  refine J_freezeS (Fr := [_, _]) how3 (chRows_row _) (by rw [chRows_len, List.length_append]; unfold maxRows; simp only [List.length_cons, List.length_nil]; omega) ?_
  refine J_isBox (Fr := [_]) 2 (by rw [chRows_len]; rfl) (List.Perm.refl _) (J_perm (List.Perm.swap _ _ _) (J_drop ?_))
  simp only [go_sem]
  simp only [rCells] at hbn
  refine jr (own := []) (h := ?_)
  refine jc (hs := hbn) (hk := ?_)
  refine jf (own := [7]) hb6 (h := ?_)
  refine jnv (hh := fun b7 hb7 => ?_)
  simp only [fresh] at hb7
  have hcc : changeC r = if burnB r then 11 else 0 := rfl
  cases hb : burnB r with
  | true =>
    rw [hb] at hcc
    refine jf (own := []) (a3 hb hb7 hb6) (h := ?_)
    refine jt (h := ?_)
    refine jf (own := []) (a2 hb7 hb6) (h := ?_)
    refine J_forget ?_
    refine jretf (a2 hb7 hb6) Tryz.func225 (h := ⟨by rw [hcc]; rfl, rfl⟩)
  | false =>
    rw [hb] at hcc
    refine jf (own := []) (a3 hb hb7 hb6) (h := ?_)
    refine jn (h := ?_)
    refine jf (own := []) (a2 hb7 hb6) (h := ?_)
    refine J_forget ?_
    refine jretf (a2 hb7 hb6) Tryz.func225 (h := ⟨by rw [hcc]; rfl, rfl⟩)

theorem nnr {n : Int} (h : 0 ≤ n) : ((n.toNat : Nat) : Int) = n := by omega
def upto (n : Nat) : List Int := (List.range n).map fun i : Nat => (i : Int)
theorem upto_succ (n : Nat) : upto (n + 1) = upto n ++ [(n : Int)] := by simp [upto, List.range_succ]
theorem all04_ok (r : Fl) (hp : 0 ≤ r.pages ∧ r.pages ≤ 4096) (hw : ∀ at_, (lookB r at_).length = 256) (h1 : r.safe.length < 2 ^ 60) (h2 : r.loose.length < 2 ^ 60) : ACalls Tryz.prog 91 [rAV r] [] (Ret (.sl 2 (cellRows (cellsAt r (upto r.pages.toNat))))) := by
  have hlk := fun at_ => look04_ok r at_ h1 h2
  unfold rAV at *
  have hpp : r.pages = (r.pages.toNat : Int) := by omega
  have hpn : r.pages.toNat ≤ 4096 := by omega
  generalize r.pages.toNat = n at hpp hpn ⊢
  refine calls_of_J cl_91 Tryz.func91 rfl (by simp [Tryz.ntmps91]) ?_
  refine jr (own := []) (h := ?_)
  refine jk [1, 3, 4] (h := ?_)
  refine J_loopI (I := fun m e D => ∃ (i : Nat) (v : Value), i ≤ n ∧ m = n - i ∧ Own 177 2 (cellRows (cellsAt r (upto i))).flatten (cellsAt r (upto i)).length v D ∧ e = [(1, .fp (rCells r)), (3, .c v), (4, .c (.int .i64 i))]) ?_ ?_
  · exact ⟨_, 0, .slice none 0 0, by omega, rfl, .nil none rfl rfl, rfl⟩
  · rintro m e D ⟨i, v, hi, rfl, how, rfl⟩ ih
    have hcl : (cellsAt r (upto i)).length ≤ i := by
      unfold cellsAt
      refine Nat.le_trans (List.length_filter_le _ _) ?_
      simp [upto]
    have hsn := cellsAt_snoc r (upto i) i
    rw [← upto_succ] at hsn
    refine jf (own := []) hpp (h := ?_)
    refine jif (h1 := fun hc => ?_) (h2 := fun hc => ?_)
    · have hlt : i < n := by omega
      have hwi := hw i
      have hlki := hlk i
      unfold rCells at hlki
      rw [hpp] at hlki
      refine jr (own := []) (h := ?_)
      refine jcs (Δ1 := []) (Fr := D) (hs := hlki) (hp := (List.Perm.refl _)) (hk := ?_) (hpan := (by rintro x Δ' ⟨e, _⟩; cases e))
      rintro x _ ⟨e, rfl⟩
      cases e
      refine jr (own := []) (h := ?_)
      refine jcs (Δ1 := []) (Fr := D) (hs := (blank04_ok (lookB r i) (by omega))) (hp := (List.Perm.refl _)) (hk := ?_) (hpan := (by rintro x Δ' ⟨e, _⟩; cases e))
      rintro x _ ⟨e, rfl⟩
      cases e
      cases hb : blankB (lookB r i) with
      | true =>
        rw [hb, if_pos rfl, List.append_nil] at hsn
        refine jr (own := []) (h := ?_)
        refine jn (h := ?_)
        refine jr (own := []) (h := ?_)
        refine jk [1, 3, 4] (h := ?_)
        refine ih _ _ _ ?_ ⟨i + 1, v, by omega, rfl, by rw [hsn]; exact how, ?_⟩
        · omega
        · unfold rCells; rw [hpp]; rfl
      | false =>
        rw [hb, if_neg (by decide)] at hsn
        refine jr (own := []) (h := ?_)
        refine jt (h := ?_)
        refine jr (own := [23]) (h := ?_)
        refine jap (Fr := []) (how := how) (hp := (by simp)) (hsrc := (by simp only [go_sem, srcOf] <;> rfl)) (hc := (by rfl)) (hmax := (by omega)) (hk := ?_)
        rintro _ D2 ⟨v2, _, rfl, rfl, how2⟩
        refine jr (own := []) (h := ?_)
        refine jk [1, 3, 4] (h := ?_)
        refine ih _ _ _ ?_ ⟨i + 1, v2, by omega, rfl, ?_, ?_⟩
        · omega
        · rw [hsn]; exact own_app (b := [((i : Int), lookB r i)]) how2
        · unfold rCells; rw [hpp]; rfl
    · have hi' : i = n := by omega
      subst hi'
      obtain ⟨a9, c9, rfl⟩ := how.slice
      refine jr (own := []) (h := ?_)
      refine J_freezeS (rows := cellRows _) (Fr := []) (by rw [cellRows_len]; exact how) (cellRows_row _) (by rw [cellRows_len]; unfold maxRows; omega) ?_
      refine J_is (t := 2) (by simp only [go_sem] <;> rfl) (List.mem_cons_self ..) (J_drop ?_)
      refine jret Tryz.func91 (h := ⟨rfl, rfl⟩)
end Go.Proofs.YtlmahffjidgplaaGreatDoor
end

section
namespace Go.Proofs.YtlmahffjidgplaaGreatDoor
open Go Go.Av
set_option linter.unusedVariables false
set_option linter.unusedSimpArgs false
set_option maxRecDepth 100000
set_option maxHeartbeats 4000000
attribute [local go_sem] packed List.set_cons_zero List.set_cons_succ List.cons_append List.nil_append bytesRows_length cellRows_len chRows_len rCells intRows_len
attribute [-go_sem] cellsOf AV.isCell
attribute [local go_sem] cellsOf_agg cellsOf_int cellsOf_bool cellsOf_str cellsOf_map cellsOf_ptr cellsOf_nilI cellsOf_slice cellsOf_sl cellsOf_ifc cellsOf_fp cellsOf_opt optAV_cell icell_int icell_bool icell_str icell_map icell_ptr icell_nilI icell_slice icell_sl icell_ifc icell_fp

theorem write04_ok (r : Fl) (hw : r.WF') (hl : r.loose.length < 2 ^ 29) (at_ : Int) (b : List UInt8) (hb : b.length < 2 ^ 60) : ACalls Tryz.prog 214 [rAV r, .c (.int .i64 at_), .sl 1 (bytesRows b)] [] (Ret (.tup [rAV (writeS r at_ b), .c (.int .i64 (writeC r at_ b.length))])) := by
  have hk := check04_ok r at_
  unfold rAV at *
  by_cases hc : checkF r at_ = 0
  rotate_left
  · have hC : writeC r at_ b.length = checkF r at_ := by unfold writeC; rw [if_pos hc]
    have hS : writeS r at_ b = r := by unfold writeS; rw [if_pos (.inl hc)]
    rw [hC, hS]
    refine calls_of_J cl_214 Tryz.func214 rfl (by simp [Tryz.ntmps214]) ?_
    refine jr (own := [6]) (h := ?_)
    refine jnv (hh := fun b6 hb6 => ?_)
    refine jr (own := []) (h := ?_)
    refine jc (hs := hk) (hk := ?_)
    refine jr (own := []) (h := ?_)
    refine jif (h1 := fun _ => ?_) (h2 := fun hc => absurd (by assumption) hc)
    refine jr (own := []) (h := ?_)
    refine J_forget ?_
    refine jret Tryz.func214 (h := ⟨rfl, rfl⟩)
  obtain ⟨hd, -⟩ := checkF_rng hc
  have hch := change04_ok r hd hw hl at_ (some b)
  rw [hc] at hk
  unfold rAV at hch
  by_cases hl6 : b.length = 256
  · have hC : writeC r at_ b.length = changeC r := by unfold writeC; rw [if_neg (by simp [hc]), if_neg (by omega)]
    have hS : writeS r at_ b = changeS r at_ (some b) := by unfold writeS; rw [if_neg (by simp [hc, hl6])]
    rw [hC, hS]
    generalize changeS r at_ (some b) = s at *
    simp only [Option.getD_some, Option.isNone_some] at hch
    refine calls_of_J cl_214 Tryz.func214 rfl (by simp [Tryz.ntmps214]) ?_
    refine jr (own := [6]) (h := ?_)
    refine jnv (hh := fun b6 hb6 => ?_)
    refine jr (own := []) (h := ?_)
    refine jc (hs := hk) (hk := ?_)
    refine jr (own := []) (h := ?_)
    refine jif (h1 := fun hc => absurd hc (by first | omega | simp)) (h2 := fun _ => ?_)
    refine jr (own := []) (h := ?_)
    refine jif (h1 := fun hc => absurd hc (by first | omega | simp)) (h2 := fun _ => ?_)
    refine jr (own := []) (h := ?_)
    refine jc (hs := hch) (hk := ?_)
    refine jr (own := []) (h := ?_)
    refine J_forget ?_
    refine jret Tryz.func214 (h := ⟨rfl, rfl⟩)
  · have hC : writeC r at_ b.length = 3 := by unfold writeC; rw [if_neg (by simp [hc]), if_pos (by omega)]
    have hS : writeS r at_ b = r := by unfold writeS; rw [if_pos (.inr hl6)]
    rw [hC, hS]
    refine calls_of_J cl_214 Tryz.func214 rfl (by simp [Tryz.ntmps214]) ?_
    refine jr (own := [6]) (h := ?_)
    refine jnv (hh := fun b6 hb6 => ?_)
    refine jr (own := []) (h := ?_)
    refine jc (hs := hk) (hk := ?_)
    refine jr (own := []) (h := ?_)
    refine jif (h1 := fun hc => absurd hc (by first | omega | simp)) (h2 := fun _ => ?_)
    refine jr (own := []) (h := ?_)
    refine jif (h1 := fun _ => ?_) (h2 := fun hc => absurd (by first | omega | simp) hc)
    refine jr (own := []) (h := ?_)
    refine J_forget ?_
    refine jret Tryz.func214 (h := ⟨rfl, rfl⟩)

theorem trim04_ok (r : Fl) (hw : r.WF') (hl : r.loose.length < 2 ^ 29) (at_ : Int) : ACalls Tryz.prog 202 [rAV r, .c (.int .i64 at_)] [] (Ret (.tup [rAV (trimS r at_), .c (.int .i64 (trimC r at_))])) := by
  have hk := check04_ok r at_
  unfold rAV at *
  by_cases hc : checkF r at_ = 0
  rotate_left
  · have hC : trimC r at_ = checkF r at_ := by unfold trimC; rw [if_pos hc]
    have hS : trimS r at_ = r := by unfold trimS; rw [if_pos hc]
    rw [hC, hS]
    refine calls_of_J cl_202 Tryz.func202 rfl (by simp [Tryz.ntmps202]) ?_
    refine jr (own := [4]) (h := ?_)
    refine jnv (hh := fun b6 hb6 => ?_)
    refine jr (own := []) (h := ?_)
    refine jc (hs := hk) (hk := ?_)
    refine jr (own := []) (h := ?_)
    refine jif (h1 := fun _ => ?_) (h2 := fun hc => absurd (by assumption) hc)
    refine jr (own := []) (h := ?_)
    refine J_forget ?_
    refine jret Tryz.func202 (h := ⟨rfl, rfl⟩)
  obtain ⟨hd, -⟩ := checkF_rng hc
  have hch := change04_ok r hd hw hl at_ none
  rw [hc] at hk
  unfold rAV at hch
  have hC : trimC r at_ = changeC r := by unfold trimC; rw [if_neg (by simp [hc])]
  have hS : trimS r at_ = changeS r at_ none := by unfold trimS; rw [if_neg (by simp [hc])]
  rw [hC, hS]
  generalize changeS r at_ none = s at *
  simp only [Option.getD_none, Option.isNone_none] at hch
  have hnil : (AV.agg [.c (.int .i64 at_), .c (.slice none 0 0), .c (.bool true)]).le (.agg [.c (.int .i64 at_), .sl 1 (bytesRows []), .c (.bool true)]) := fun g v h => by
    simp only [rel, relL] at h ⊢
    obtain ⟨us, rfl, v1, vs1, rfl, h1, v2, vs2, rfl, h2, v3, vs3, rfl, h3, rfl⟩ := h
    exact ⟨_, rfl, v1, _, rfl, h1, v2, _, rfl, ⟨none, 0, by rw [h2]; rfl, by decide, .inl rfl⟩, v3, _, rfl, h3, rfl⟩
  refine calls_of_J cl_202 Tryz.func202 rfl (by simp [Tryz.ntmps202]) ?_
  refine jr (own := [4]) (h := ?_)
  refine jnv (hh := fun b6 hb6 => ?_)
  refine jr (own := []) (h := ?_)
  refine jc (hs := hk) (hk := ?_)
  refine jr (own := []) (h := ?_)
  refine jif (h1 := fun hc => absurd hc (by first | omega | simp)) (h2 := fun _ => ?_)
  refine jr (own := []) (h := ?_)
  refine J_wk (t := 16) (by simp only [go_sem]) hnil ?_
  refine jc (hs := hch) (hk := ?_)
  refine jr (own := []) (h := ?_)
  refine J_forget ?_
  refine jret Tryz.func202 (h := ⟨rfl, rfl⟩)

/-! ### The document's tickets -/
def tAV (r : Fl) (n : Int) : AV := .agg (rCells r ++ [.c (.int .i64 n)])
theorem lookB_len {r : Fl} (h1 : ∀ p ∈ r.safe, p.2.length = 256) (h2 : ∀ p ∈ r.loose, ∀ b, p.2 = some b → b.length = 256) (at_ : Int) : (lookB r at_).length = 256 := by
  have hw : ∀ l : List (Int × Option (List UInt8)), (∀ p ∈ l, ∀ b, p.2 = some b → b.length = 256) → ∀ o, lookL l at_ = some o → (o.getD z256).length = 256 := by
    intro l
    unfold lookL
    suffices h : ∀ (l : List (Int × Option (List UInt8))) (acc : Option (Option (List UInt8))), (∀ p ∈ l, ∀ b, p.2 = some b → b.length = 256) → (∀ o, acc = some o → (o.getD z256).length = 256) → ∀ o, l.foldl (fun acc p => if p.1 = at_ then some p.2 else acc) acc = some o → (o.getD z256).length = 256 from fun hl => h l none hl (fun o ho => by cases ho)
    intro l
    induction l with
    | nil => intro acc _ ha o ho; exact ha o ho
    | cons p l ih =>
      intro acc hl ha o ho
      rw [List.foldl_cons] at ho
      refine ih _ (fun q hq => hl q (by simp [hq])) (fun o' ho' => ?_) o ho
      split at ho'
      · simp only [Option.some.injEq] at ho'; subst ho'
        cases hp : p.2 with
        | none => simp [z256]
        | some b => exact hl p (by simp) b hp
      · exact ha o' ho'
  unfold lookB
  cases hl : lookL r.loose at_ with
  | some o => exact hw r.loose h2 o hl
  | none => exact pageOr_len h1 at_

theorem open10_ok (r : Fl) (hd : r.down = false) (hp : 0 ≤ r.pages ∧ r.pages ≤ 4096) (h : r.R) : ACalls Tryz.prog 34 [rAV r] [] (Ret (.tup [tAV r ((cellsAt r (upto r.pages.toNat)).foldl stepN 1), .c (.int .i64 0)])) := by
  have hlen := h.len
  have hal := all04_ok r hp (lookB_len h.page h.lpage) (by omega) (by omega)
  have hpg : ∀ p ∈ cellsAt r (upto r.pages.toNat), p.2.length = 256 := by
    intro p hp
    obtain ⟨k, -, rfl⟩ := List.mem_map.1 (List.mem_filter.1 hp).1
    exact lookB_len h.page h.lpage k
  have hcl : (cellsAt r (upto r.pages.toNat)).length ≤ 4096 := by
    unfold cellsAt
    refine Nat.le_trans (List.length_filter_le _ _) ?_
    simp only [upto, List.length_map, List.length_range]; omega
  unfold rAV tAV at *
  generalize cellsAt r (upto r.pages.toNat) = cs at *
  clear h hp hlen
  obtain ⟨rp, rs, rl, rf, rd, rn⟩ := r
  obtain rfl : rd = false := hd
  refine calls_of_J cl_34 Tryz.func34 rfl (by simp [Tryz.ntmps34]) ?_
  refine jr (own := [2]) (h := ?_)
  refine jnv (hh := fun b2 hb2 => ?_)
  refine jr (own := []) (h := ?_)
  refine jn (h := ?_)
  refine jr (own := []) (h := ?_)
  refine jc (hs := hal) (hk := ?_)
  refine jr (own := []) (h := ?_)
  refine jk [1, 2, 4, 5, 6] (h := ?_)
  refine J_loopI (I := fun m e D' => ∃ i : Nat, i ≤ cs.length ∧ m = cs.length - i ∧ D' = [.box b2 52 [.c (.int .i64 0), .c (.slice none 0 0), .c (.slice none 0 0), .c (.int .i64 0), .c (.bool false), .c (.int .i64 0), .c (.int .i64 0)]] ∧ e = [(1, .fp (rCells ⟨rp, rs, rl, rf, false, rn⟩)), (2, .c (.pointer (some ⟨b2, 0, none⟩))), (4, .c (.int .i64 ((cs.take i).foldl stepN 1))), (5, .sl 2 (cellRows cs)), (6, .c (.int .i64 i))]) ?_ ?_
  · exact ⟨_, 0, Nat.zero_le _, rfl, rfl, rfl⟩
  · rintro m e D' ⟨i, hi, rfl, rfl, rfl⟩ ih
    refine jr (own := []) (h := ?_)
    refine jif (h1 := fun hc => ?_) (h2 := fun hc => ?_)
    · have hlt : i < cs.length := by omega
      have g0 := List.getElem?_eq_getElem hlt
      have g1 := cellRows_get g0
      have h0 : (0 : Int) ≤ (i : Int) := by omega
      have hb := hpg _ (List.getElem_mem hlt)
      have hst := stampsB_le cs[i].2
      have hbd := foldN_bd (cs.take i) (n := 1) (by decide)
      have hsn : (cs.take (i + 1)).foldl stepN 1 = max (max ((cs.take i).foldl stepN 1) (((stampsB cs[i].2).1 : Int) + 1)) (((stampsB cs[i].2).2 : Int) + 1) := by rw [List.take_add_one, g0, List.foldl_append]; rfl
      generalize (cs.take i).foldl stepN 1 = nx at *
      refine J_mrun (own := []) (m := 2000) (by simp (maxSteps := 2000000) (disch := omega) only [go_sem, ↓reduceIte, Int.reduceLT, Int.reduceLE, Int.reduceToNat, Int.reducePow, Int.reduceNeg, Nat.reduceBEq, Tryz.ntmps34, g1] <;> with_reducible rfl) ?_
      refine jc (hs := stamps05_ok cs[i].2 (by omega)) (hk := ?_)
      generalize (stampsB cs[i].2).1 = a at *
      generalize (stampsB cs[i].2).2 = b at *
      refine jr (own := []) (h := ?_)
      refine jif (h1 := fun ha => ?_) (h2 := fun ha => ?_)
      · refine jr (own := []) (h := ?_)
        refine jif (h1 := fun hb9 => ?_) (h2 := fun hb9 => ?_)
        · refine jr (own := []) (h := ?_)
          refine jk [1, 2, 4, 5, 6] (h := ?_)
          refine ih _ _ _ ?_ ⟨i + 1, by omega, rfl, rfl, ?_⟩
          · omega
          · rw [show (cs.take (i + 1)).foldl stepN 1 = (b : Int) + 1 from by rw [hsn]; omega]; rfl
        · refine jr (own := []) (h := ?_)
          refine jk [1, 2, 4, 5, 6] (h := ?_)
          refine ih _ _ _ ?_ ⟨i + 1, by omega, rfl, rfl, ?_⟩
          · omega
          · rw [show (cs.take (i + 1)).foldl stepN 1 = (a : Int) + 1 from by rw [hsn]; omega]; rfl
      · refine jr (own := []) (h := ?_)
        refine jif (h1 := fun hb9 => ?_) (h2 := fun hb9 => ?_)
        · refine jr (own := []) (h := ?_)
          refine jk [1, 2, 4, 5, 6] (h := ?_)
          refine ih _ _ _ ?_ ⟨i + 1, by omega, rfl, rfl, ?_⟩
          · omega
          · rw [show (cs.take (i + 1)).foldl stepN 1 = (b : Int) + 1 from by rw [hsn]; omega]; rfl
        · refine jr (own := []) (h := ?_)
          refine jk [1, 2, 4, 5, 6] (h := ?_)
          refine ih _ _ _ ?_ ⟨i + 1, by omega, rfl, rfl, ?_⟩
          · omega
          · rw [show (cs.take (i + 1)).foldl stepN 1 = nx from by rw [hsn]; omega]; rfl
    · have hi' : i = cs.length := by omega
      subst hi'
      rw [List.take_length]
      refine jr (own := []) (h := ?_)
      refine J_forget ?_
      refine jret Tryz.func34 (h := ⟨rfl, rfl⟩)

theorem put10_ok (r : Fl) (n : Int) (hn : n < 4611686018427387904) (hw : r.WF') (hl : r.loose.length < 2 ^ 29) (at_ kd : Int) (b : List UInt8) (hb : b.length < 2 ^ 37) : ACalls Tryz.prog 177 [tAV r n, .c (.int .i64 at_), .c (.int .i64 kd), .sl 1 (bytesRows b)] []
    (Ret (.tup [tAV (tputS r n at_ kd b) (tputN r n at_ kd b), .c (.int .i64 (tputC r n at_ kd b))])) := by
  by_cases hck : checkC n kd b.length = 0
  rotate_left
  · have hC : tputC r n at_ kd b = checkC n kd b.length := by unfold tputC; rw [if_pos hck]
    have hS : tputS r n at_ kd b = r := by unfold tputS; rw [if_pos hck]
    have hN : tputN r n at_ kd b = n := by unfold tputN; rw [hC, if_neg hck]
    have hp := put05_err n kd b hb hck
    rw [hC, hS, hN]
    unfold leafAV tAV at *
    refine calls_of_J cl_177 Tryz.func177 rfl (by simp [Tryz.ntmps177]) ?_
    refine jr (own := [8]) (h := ?_)
    refine jnv (hh := fun b8 hb8 => ?_)
    refine jr (own := []) (h := ?_)
    refine jc (hs := hp) (hk := ?_)
    refine J_mrun (own := []) (m := 2000) (by simp (maxSteps := 2000000) (disch := omega) only [go_sem, ↓reduceIte, Int.reduceLT, Int.reduceLE, Int.reduceToNat, Int.reducePow, Int.reduceNeg, Nat.reduceBEq, Tryz.ntmps177, anil] <;> with_reducible rfl) ?_
    refine jif (h1 := fun _ => ?_) (h2 := fun hc => absurd (by assumption) hc)
    refine jr (own := []) (h := ?_)
    refine J_forget ?_
    refine jret Tryz.func177 (h := ⟨rfl, rfl⟩)
  · obtain ⟨⟨h1, h2⟩, ⟨h3, h4⟩, h5⟩ := checkC_zero hck
    have hC : tputC r n at_ kd b = writeC r at_ 256 := by unfold tputC; rw [if_neg (by simp [hck])]
    have hS : tputS r n at_ kd b = writeS r at_ (putB n.toNat kd.toNat b) := by unfold tputS; rw [if_neg (by simp [hck])]
    have hN : tputN r n at_ kd b = if writeC r at_ 256 = 0 then n + 1 else n := by unfold tputN; rw [hC]
    rw [hC, hS, hN]
    have hpl := putB_len n.toNat kd.toNat b h5
    have hp := put05_ok n.toNat kd.toNat b (by omega) (by omega) (by omega) (by omega) h5
    rw [show ((n.toNat : Nat) : Int) = n from by omega, show ((kd.toNat : Nat) : Int) = kd from by omega] at hp
    have hwr := write04_ok r hw hl at_ (putB n.toNat kd.toNat b) (by omega)
    rw [hpl] at hwr
    unfold leafAV tAV rAV at *
    generalize writeS r at_ (putB n.toNat kd.toNat b) = s at *
    generalize writeC r at_ 256 = c at *
    refine calls_of_J cl_177 Tryz.func177 rfl (by simp [Tryz.ntmps177]) ?_
    refine jr (own := [8]) (h := ?_)
    refine jnv (hh := fun b8 hb8 => ?_)
    refine jr (own := []) (h := ?_)
    refine jc (hs := hp) (hk := ?_)
    refine J_mrun (own := []) (m := 2000) (by simp (maxSteps := 2000000) (disch := omega) only [go_sem, ↓reduceIte, Int.reduceLT, Int.reduceLE, Int.reduceToNat, Int.reducePow, Int.reduceNeg, Nat.reduceBEq, Tryz.ntmps177, anil] <;> with_reducible rfl) ?_
    refine jif (h1 := fun hc => absurd hc (by first | omega | simp)) (h2 := fun _ => ?_)
    refine jr (own := []) (h := ?_)
    refine jc (hs := hwr) (hk := ?_)
    refine jr (own := [12, 14]) (h := ?_)
    refine jnv (hh := fun b12 hb12 => ?_)
    simp only [fresh] at hb12
    refine jf (own := [14]) hb12 (h := ?_)
    refine jnv (hh := fun b14 hb14 => ?_)
    simp only [fresh] at hb14
    refine jf (own := []) (a2 hb14 hb12) (h := ?_)
    refine jif (h1 := fun hz => ?_) (h2 := fun hz => ?_)
    · rw [if_pos hz]
      refine jf (own := []) (a2 hb14 hb12) (h := ?_)
      refine J_forget ?_
      refine jretf (a2 hb14 hb12) Tryz.func177 (h := ⟨rfl, rfl⟩)
    · rw [if_neg hz]
      refine jf (own := []) (a2 hb14 hb12) (h := ?_)
      refine J_forget ?_
      refine jretf (a2 hb14 hb12) Tryz.func177 (h := ⟨rfl, rfl⟩)

theorem flush10_ok (r : Fl) (n : Int) (h : r.R) : ACalls Tryz.prog 159 [tAV r n] [] (Ret (.tup [tAV (flush04S r) n, .c (.int .i64 (flushC r))])) := by
  have hf := flush04_ok r h
  unfold tAV rAV at *
  generalize flush04S r = s at *
  generalize flushC r = c at *
  refine calls_of_J cl_159 Tryz.func159 rfl (by simp [Tryz.ntmps159]) ?_
  refine jr (own := [2, 4, 5]) (h := ?_)
  refine jnv (hh := fun b2 hb2 => ?_)
  refine jr (own := [4, 5]) (h := ?_)
  refine jnv (hh := fun b4 hb4 => ?_)
  simp only [fresh] at hb4
  refine jf (own := [5]) hb4 (h := ?_)
  refine jc (hs := hf) (hk := ?_)
  refine jf (own := [5]) hb4 (h := ?_)
  refine jnv (hh := fun b5 hb5 => ?_)
  simp only [fresh] at hb5
  refine jf (own := []) (a2 hb5 hb4) (h := ?_)
  refine J_forget ?_
  refine jretf (a2 hb5 hb4) Tryz.func159 (h := ⟨rfl, rfl⟩)

theorem trim10_ok (r : Fl) (n : Int) (hw : r.WF') (hl : r.loose.length < 2 ^ 29) (at_ : Int) : ACalls Tryz.prog 158 [tAV r n, .c (.int .i64 at_)] [] (Ret (.tup [tAV (trimS r at_) n, .c (.int .i64 (trimC r at_))])) := by
  have hf := trim04_ok r hw hl at_
  unfold tAV rAV at *
  generalize trimS r at_ = s at *
  generalize trimC r at_ = c at *
  refine calls_of_J cl_158 Tryz.func158 rfl (by simp [Tryz.ntmps158]) ?_
  refine jr (own := [4, 6, 7]) (h := ?_)
  refine jnv (hh := fun b2 hb2 => ?_)
  refine jr (own := [6, 7]) (h := ?_)
  refine jnv (hh := fun b4 hb4 => ?_)
  simp only [fresh] at hb4
  refine jf (own := [7]) hb4 (h := ?_)
  refine jc (hs := hf) (hk := ?_)
  refine jf (own := [7]) hb4 (h := ?_)
  refine jnv (hh := fun b5 hb5 => ?_)
  simp only [fresh] at hb5
  refine jf (own := []) (a2 hb5 hb4) (h := ?_)
  refine J_forget ?_
  refine jretf (a2 hb5 hb4) Tryz.func158 (h := ⟨rfl, rfl⟩)

def tfirm04S (r : Fl) (n at_ kd : Int) (b : List UInt8) : Fl := if tputC r n at_ kd b ≠ 0 then tputS r n at_ kd b else flush04S (tputS r n at_ kd b)
theorem firm10_ok (r : Fl) (n : Int) (hn : n < 4611686018427387904) (hw : r.WF') (hl : r.loose.length < 2 ^ 29) (at_ kd : Int) (b : List UInt8) (hb : b.length < 2 ^ 37) (h2 : (tputS r n at_ kd b).R) : ACalls Tryz.prog 126 [tAV r n, .c (.int .i64 at_), .c (.int .i64 kd), .sl 1 (bytesRows b)] []
    (Ret (.tup [tAV (tfirm04S r n at_ kd b) (tputN r n at_ kd b), .c (.int .i64 (tfirmC r n at_ kd b))])) := by
  have hp := put10_ok r n hn hw hl at_ kd b hb
  have hf := flush10_ok (tputS r n at_ kd b) (tputN r n at_ kd b) h2
  have hC : tfirmC r n at_ kd b = if tputC r n at_ kd b ≠ 0 then tputC r n at_ kd b else flushC (tputS r n at_ kd b) := rfl
  have hS : tfirm04S r n at_ kd b = if tputC r n at_ kd b ≠ 0 then tputS r n at_ kd b else flush04S (tputS r n at_ kd b) := rfl
  rw [hC, hS]
  clear hC hS h2
  unfold tAV at *
  generalize flush04S (tputS r n at_ kd b) = s2 at *
  generalize flushC (tputS r n at_ kd b) = c2 at *
  generalize tputS r n at_ kd b = s at *
  generalize tputC r n at_ kd b = c at *
  generalize tputN r n at_ kd b = m at *
  refine calls_of_J cl_126 Tryz.func126 rfl (by simp [Tryz.ntmps126]) ?_
  refine jr (own := [8, 10]) (h := ?_)
  refine jnv (hh := fun b8 hb8 => ?_)
  refine jr (own := [10]) (h := ?_)
  refine jc (hs := hp) (hk := ?_)
  refine jr (own := [10]) (h := ?_)
  refine jnv (hh := fun b10 hb10 => ?_)
  simp only [fresh] at hb10
  refine jf (own := []) hb10 (h := ?_)
  refine jif (h1 := fun hz => ?_) (h2 := fun hz => ?_)
  · rw [if_pos hz, if_pos hz]
    refine jf (own := []) hb10 (h := ?_)
    refine J_forget ?_
    refine jretf hb10 Tryz.func126 (h := ⟨rfl, rfl⟩)
  · rw [if_neg hz, if_neg hz]
    refine jf (own := []) hb10 (h := ?_)
    refine jc (hs := hf) (hk := ?_)
    refine jf (own := []) hb10 (h := ?_)
    refine J_forget ?_
    refine jretf hb10 Tryz.func126 (h := ⟨rfl, rfl⟩)

theorem get10_ok (r : Fl) (n : Int) (at_ kd : Int) (h1 : ∀ p ∈ r.safe, p.2.length = 256) (h2 : ∀ p ∈ r.loose, ∀ b, p.2 = some b → b.length = 256) (h3 : r.safe.length < 2 ^ 60) (h4 : r.loose.length < 2 ^ 60) : ACalls Tryz.prog 82 [tAV r n, .c (.int .i64 at_), .c (.int .i64 kd)] []
    (Ret (.tup [if tgetC r at_ kd = 0 then leafAV (stampsB (lookB r at_)).1 (kdB (lookB r at_)) (.sl 1 (bytesRows (txtB (lookB r at_)))) else leafAV 0 0 (.c (.slice none 0 0)), .c (.int .i64 (tgetC r at_ kd))])) := by
  have hrd := read04_ok r at_ h3 h4
  have hlb := lookB_len h1 h2 at_
  have hgt := get05_ok (lookB r at_) (by omega)
  unfold tgetC
  unfold leafAV tAV rAV at *
  generalize lookB r at_ = pg at *
  generalize checkF r at_ = c at *
  refine calls_of_J cl_82 Tryz.func82 rfl (by simp [Tryz.ntmps82]) ?_
  refine jr (own := [6, 10]) (h := ?_)
  refine jnv (hh := fun b6 hb6 => ?_)
  refine jr (own := [10]) (h := ?_)
  refine jc (hs := hrd) (hk := ?_)
  by_cases hc : c = 0
  rotate_left
  · rw [if_pos hc, if_neg hc, if_neg hc]
    refine jr (own := []) (h := ?_)
    refine jif (h1 := fun _ => ?_) (h2 := fun hc => absurd (by assumption) hc)
    refine jr (own := []) (h := ?_)
    refine J_forget ?_
    refine jret Tryz.func82 (h := ⟨rfl, rfl⟩)
  subst hc
  rw [if_pos rfl]
  have e0 : (if (0 : Int) ≠ 0 then (0 : Int) else if getC pg ≠ 0 then getC pg else if (kdB pg : Int) ≠ kd then 12 else 0) = if getC pg ≠ 0 then getC pg else if (kdB pg : Int) ≠ kd then 12 else 0 := if_neg (by simp)
  rw [e0]
  refine jr (own := []) (h := ?_)
  refine jif (h1 := fun hc => absurd hc (by first | omega | simp)) (h2 := fun _ => ?_)
  refine jr (own := [10]) (h := ?_)
  refine jc (hs := hgt) (hk := ?_)
  by_cases hg : getC pg = 0
  rotate_left
  · rw [if_neg hg, if_pos hg, if_neg hg]
    refine jr (own := [10]) (h := ?_)
    refine jnv (hh := fun b10 hb10 => ?_)
    simp only [fresh] at hb10
    refine jf (own := []) hb10 (h := ?_)
    refine jif (h1 := fun _ => ?_) (h2 := fun hc => absurd (by assumption) hc)
    refine jf (own := []) hb10 (h := ?_)
    refine J_forget ?_
    refine jretf hb10 Tryz.func82 (h := ⟨rfl, rfl⟩)
  have e1 : (if getC pg ≠ 0 then getC pg else if (kdB pg : Int) ≠ kd then 12 else 0) = if (kdB pg : Int) ≠ kd then 12 else 0 := if_neg (by simp [hg])
  rw [e1, if_pos hg]
  refine jf (own := [10]) hg (h := ?_)
  refine jnv (hh := fun b10 hb10 => ?_)
  simp only [fresh] at hb10
  refine jf (own := []) (a2 hg hb10) (h := ?_)
  refine jif (h1 := fun hc => absurd hc (by first | omega | simp)) (h2 := fun _ => ?_)
  refine jf (own := []) hb10 (h := ?_)
  refine jif (h1 := fun hk => ?_) (h2 := fun hk => ?_)
  · rw [if_pos hk, if_neg (by decide)]
    refine jf (own := []) hb10 (h := ?_)
    refine J_forget ?_
    refine jretf hb10 Tryz.func82 (h := ⟨rfl, rfl⟩)
  · rw [if_neg hk, if_pos rfl]
    refine jf (own := []) hb10 (h := ?_)
    refine J_forget ?_
    refine jretf hb10 Tryz.func82 (h := ⟨rfl, rfl⟩)
end Go.Proofs.YtlmahffjidgplaaGreatDoor
end
