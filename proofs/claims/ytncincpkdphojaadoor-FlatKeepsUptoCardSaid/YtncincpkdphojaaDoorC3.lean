/- A part of the proof: what the calls do, told by values. -/
import Derived.Test.YtncincpkdphojaaDoorC2
import Derived.Test.YtncincpkdphojaaDoorA3
import Derived.Test.YtncincpkdphojaaDoorA4
section
namespace Go.Proofs.YtncincpkdphojaaDoor
open Go Go.Av
set_option linter.unusedVariables false
set_option linter.unusedSimpArgs false
set_option maxRecDepth 100000
set_option maxHeartbeats 4000000
attribute [local go_sem] Entry.av Entry.cells packed List.set_cons_zero List.set_cons_succ

theorem nanS_ok (a : List UInt8) : ACalls Tryd.prog 77 [.c (.string (mkStr a))] [] (Ret (.c (.bool false))) := by
  refine calls_of_J cl_77 Tryd.func77 rfl (by simp [Tryd.ntmps77]) ?_
  refine J_mrun (own := []) (m := 2000) (by simp (maxSteps := 2000000) (disch := omega) only [go_sem, ↓reduceIte, Int.reduceLT, Int.reduceLE, Int.reduceToNat, Int.reducePow, Int.reduceNeg, Nat.reduceBEq, Tryd.ntmps77] <;> with_reducible rfl) ?_
  refine J_retX Tryd.func77 (by simp only [go_sem, ↓reduceIte, Int.reduceLT, Int.reduceLE, Int.reduceToNat, Int.reducePow, Int.reduceNeg, Nat.reduceBEq, Tryd.f77] <;> first | with_reducible rfl | rfl) ⟨by simp, rfl⟩

theorem cmpS_ok (a b : List UInt8) : ACalls Tryd.prog 63 [.c (.string (mkStr a)), .c (.string (mkStr b))] [] (Ret (.c (.int .i64 (cmpB a b)))) := by
  refine calls_of_J cl_63 Tryd.func63 rfl (by simp [Tryd.ntmps63]) ?_
  refine J_mrun (own := []) (m := 2000) (by simp (maxSteps := 2000000) (disch := omega) only [go_sem, ↓reduceIte, Int.reduceLT, Int.reduceLE, Int.reduceToNat, Int.reducePow, Int.reduceNeg, Nat.reduceBEq, Tryd.ntmps63] <;> with_reducible rfl) ?_
  refine J_callp (by simp only [go_sem, ↓reduceIte, Int.reduceLT, Int.reduceLE, Int.reduceToNat, Int.reducePow, Int.reduceNeg, Nat.reduceBEq, Tryd.ntmps63] <;> with_reducible rfl) (nanS_ok a) ?_
  refine J_mrun (own := []) (m := 2000) (by simp (maxSteps := 2000000) (disch := omega) only [go_sem, ↓reduceIte, Int.reduceLT, Int.reduceLE, Int.reduceToNat, Int.reducePow, Int.reduceNeg, Nat.reduceBEq, Tryd.ntmps63] <;> with_reducible rfl) ?_
  refine J_callp (by simp only [go_sem, ↓reduceIte, Int.reduceLT, Int.reduceLE, Int.reduceToNat, Int.reducePow, Int.reduceNeg, Nat.reduceBEq, Tryd.ntmps63] <;> with_reducible rfl) (nanS_ok b) ?_
  refine J_mrun (own := []) (m := 2000) (by simp (maxSteps := 2000000) (disch := omega) only [go_sem, ↓reduceIte, Int.reduceLT, Int.reduceLE, Int.reduceToNat, Int.reducePow, Int.reduceNeg, Nat.reduceBEq, Tryd.ntmps63] <;> with_reducible rfl) ?_
  refine J_false (by simp only [go_sem, ↓reduceIte, Int.reduceLT, Int.reduceLE, Int.reduceToNat, Int.reducePow, Int.reduceNeg, Nat.reduceBEq] <;> with_reducible rfl) ?_
  refine J_mrun (own := []) (m := 2000) (by simp (maxSteps := 2000000) (disch := omega) only [go_sem, ↓reduceIte, Int.reduceLT, Int.reduceLE, Int.reduceToNat, Int.reducePow, Int.reduceNeg, Nat.reduceBEq, Tryd.ntmps63] <;> with_reducible rfl) ?_
  refine J_false (by simp only [go_sem, ↓reduceIte, Int.reduceLT, Int.reduceLE, Int.reduceToNat, Int.reducePow, Int.reduceNeg, Nat.reduceBEq] <;> with_reducible rfl) ?_
  refine J_mrun (own := []) (m := 2000) (by simp (maxSteps := 2000000) (disch := omega) only [go_sem, ↓reduceIte, Int.reduceLT, Int.reduceLE, Int.reduceToNat, Int.reducePow, Int.reduceNeg, Nat.reduceBEq, Tryd.ntmps63] <;> with_reducible rfl) ?_
  cases h1 : Op.bytesLess a b with
  | true =>
    refine J_true (by simp only [go_sem, ↓reduceIte, Int.reduceLT, Int.reduceLE, Int.reduceToNat, Int.reducePow, Int.reduceNeg, Nat.reduceBEq] <;> with_reducible rfl) ?_
    refine J_mrun (own := []) (m := 2000) (by simp (maxSteps := 2000000) (disch := omega) only [go_sem, ↓reduceIte, Int.reduceLT, Int.reduceLE, Int.reduceToNat, Int.reducePow, Int.reduceNeg, Nat.reduceBEq, Tryd.ntmps63] <;> with_reducible rfl) ?_
    refine J_retX Tryd.func63 (by simp only [go_sem, ↓reduceIte, Int.reduceLT, Int.reduceLE, Int.reduceToNat, Int.reducePow, Int.reduceNeg, Nat.reduceBEq, Tryd.f63] <;> first | with_reducible rfl | rfl) ⟨by simp [cmpB, h1], rfl⟩
  | false =>
    refine J_false (by simp only [go_sem, ↓reduceIte, Int.reduceLT, Int.reduceLE, Int.reduceToNat, Int.reducePow, Int.reduceNeg, Nat.reduceBEq] <;> with_reducible rfl) ?_
    refine J_mrun (own := []) (m := 2000) (by simp (maxSteps := 2000000) (disch := omega) only [go_sem, ↓reduceIte, Int.reduceLT, Int.reduceLE, Int.reduceToNat, Int.reducePow, Int.reduceNeg, Nat.reduceBEq, Tryd.ntmps63] <;> with_reducible rfl) ?_
    cases h2 : Op.bytesLess b a with
    | true =>
      refine J_true (by simp only [go_sem, ↓reduceIte, Int.reduceLT, Int.reduceLE, Int.reduceToNat, Int.reducePow, Int.reduceNeg, Nat.reduceBEq] <;> with_reducible rfl) ?_
      refine J_mrun (own := []) (m := 2000) (by simp (maxSteps := 2000000) (disch := omega) only [go_sem, ↓reduceIte, Int.reduceLT, Int.reduceLE, Int.reduceToNat, Int.reducePow, Int.reduceNeg, Nat.reduceBEq, Tryd.ntmps63] <;> with_reducible rfl) ?_
      refine J_retX Tryd.func63 (by simp only [go_sem, ↓reduceIte, Int.reduceLT, Int.reduceLE, Int.reduceToNat, Int.reducePow, Int.reduceNeg, Nat.reduceBEq, Tryd.f63] <;> first | with_reducible rfl | rfl) ⟨by simp [cmpB, h1, h2], rfl⟩
    | false =>
      refine J_false (by simp only [go_sem, ↓reduceIte, Int.reduceLT, Int.reduceLE, Int.reduceToNat, Int.reducePow, Int.reduceNeg, Nat.reduceBEq] <;> with_reducible rfl) ?_
      refine J_mrun (own := []) (m := 2000) (by simp (maxSteps := 2000000) (disch := omega) only [go_sem, ↓reduceIte, Int.reduceLT, Int.reduceLE, Int.reduceToNat, Int.reducePow, Int.reduceNeg, Nat.reduceBEq, Tryd.ntmps63] <;> with_reducible rfl) ?_
      refine J_retX Tryd.func63 (by simp only [go_sem, ↓reduceIte, Int.reduceLT, Int.reduceLE, Int.reduceToNat, Int.reducePow, Int.reduceNeg, Nat.reduceBEq, Tryd.f63] <;> first | with_reducible rfl | rfl) ⟨by simp [cmpB, h1, h2], rfl⟩

/-- How flat's search compares an entry with a key. -/
def keyFn : AV := .fn (.func 62) [] [.fp [.fn (.func 38) [] []]]

theorem cmpE_ok (x : Entry) (k : List UInt8) : ACalls Tryd.prog 62 [x.av, .c (.string (mkStr k)), .fp [.fn (.func 38) [] []]] [] (Ret (.c (.int .i64 (cmpB x.key k)))) := by
  have hk := keyOf_ok x
  simp only [Entry.av, Entry.cells]
  refine calls_of_J cl_62 Tryd.func62 rfl (by simp [Tryd.ntmps62]) ?_
  refine J_mrun (own := []) (m := 2000) (by simp (maxSteps := 2000000) (disch := omega) only [go_sem, ↓reduceIte, Int.reduceLT, Int.reduceLE, Int.reduceToNat, Int.reducePow, Int.reduceNeg, Nat.reduceBEq, Tryd.ntmps62] <;> with_reducible rfl) ?_
  refine J_callp (by simp only [go_sem, ↓reduceIte, Int.reduceLT, Int.reduceLE, Int.reduceToNat, Int.reducePow, Int.reduceNeg, Nat.reduceBEq, Tryd.ntmps62] <;> with_reducible rfl) (hk) ?_
  refine J_mrun (own := []) (m := 2000) (by simp (maxSteps := 2000000) (disch := omega) only [go_sem, ↓reduceIte, Int.reduceLT, Int.reduceLE, Int.reduceToNat, Int.reducePow, Int.reduceNeg, Nat.reduceBEq, Tryd.ntmps62] <;> with_reducible rfl) ?_
  refine J_callp (by simp only [go_sem, ↓reduceIte, Int.reduceLT, Int.reduceLE, Int.reduceToNat, Int.reducePow, Int.reduceNeg, Nat.reduceBEq, Tryd.ntmps62] <;> with_reducible rfl) (cmpS_ok x.key k) ?_
  refine J_mrun (own := []) (m := 2000) (by simp (maxSteps := 2000000) (disch := omega) only [go_sem, ↓reduceIte, Int.reduceLT, Int.reduceLE, Int.reduceToNat, Int.reducePow, Int.reduceNeg, Nat.reduceBEq, Tryd.ntmps62] <;> with_reducible rfl) ?_
  refine J_retX Tryd.func62 (by simp only [go_sem, ↓reduceIte, Int.reduceLT, Int.reduceLE, Int.reduceToNat, Int.reducePow, Int.reduceNeg, Nat.reduceBEq, Tryd.f62] <;> first | with_reducible rfl | rfl) ⟨rfl, rfl⟩
end Go.Proofs.YtncincpkdphojaaDoor
end

section
namespace Go.Proofs.YtncincpkdphojaaDoor
open Go Go.Av
set_option linter.unusedVariables false
set_option linter.unusedSimpArgs false
set_option maxRecDepth 100000
set_option maxHeartbeats 4000000
attribute [local go_sem] Entry.av Entry.cells packed List.set_cons_zero List.set_cons_succ

/-! ### Where a thing stands among things by a rising number or text -/
def low {α : Type} (c : α → Int) (l : List α) : Nat := (l.takeWhile (fun x => decide (c x < 0))).length
def has {α : Type} (c : α → Int) (l : List α) : Bool := match l[low c l]? with | some x => decide (c x = 0) | none => false
def Mono {α : Type} (c : α → Int) (l : List α) : Prop := ∀ i j (hi : i < l.length) (hj : j < l.length), i ≤ j → c l[j] < 0 → c l[i] < 0
theorem low_eq {α : Type} {c : α → Int} {l : List α} {h : Nat} (hle : h ≤ l.length) (h1 : ∀ j (hj : j < l.length), j < h → c l[j] < 0) (h2 : ∀ hj : h < l.length, ¬ c l[h] < 0) : low c l = h := by
  unfold low
  rw [(while_take (p := fun x => decide (c x < 0)) hle (fun j hj hjh => by simpa using h1 j hj hjh) (fun hj => by simpa using h2 hj)).1, List.length_take]
  omega
theorem low_le {α : Type} (c : α → Int) (l : List α) : low c l ≤ l.length := by
  unfold low
  exact (List.takeWhile_sublist _).length_le

theorem bsearchE_ok (l : List Entry) (k : List UInt8) (hl : l.length < 2 ^ 60) (hs : Mono (fun x => cmpB x.key k) l) :
    ACalls Tryd.prog 61 [.sl 5 (ents l), .c (.string (mkStr k)), keyFn] [] (Ret (.tup [.c (.int .i64 (low (fun x => cmpB x.key k) l)), .c (.bool (has (fun x => cmpB x.key k) l))])) := by
  unfold keyFn
  refine calls_of_J cl_61 Tryd.func61 rfl (by simp [Tryd.ntmps61]) ?_
  refine J_mrun (own := []) (m := 2000) (by simp (maxSteps := 2000000) (disch := omega) only [go_sem, ↓reduceIte, Int.reduceLT, Int.reduceLE, Int.reduceToNat, Int.reducePow, Int.reduceNeg, Nat.reduceBEq, Tryd.ntmps61, ents_len] <;> with_reducible rfl) ?_
  refine J_keep [0, 1, 2, 8, 9, 10] (by simp only [go_sem, ↓reduceIte, Int.reduceLT, Int.reduceLE, Int.reduceToNat, Int.reducePow, Int.reduceNeg, Nat.reduceBEq] <;> with_reducible rfl) ?_
  refine J_loopI (I := fun m e D => ∃ lo hi : Nat, lo ≤ hi ∧ hi ≤ l.length ∧ m = hi - lo ∧ (∀ j (hj : j < l.length), j < lo → cmpB l[j].key k < 0) ∧ (∀ j (hj : j < l.length), hi ≤ j → ¬ cmpB l[j].key k < 0) ∧ D = [] ∧ e = [(0, .sl 5 (ents l)), (1, .c (.string (mkStr k))), (2, keyFn), (8, .c (.int .i64 l.length)), (9, .c (.int .i64 lo)), (10, .c (.int .i64 hi))]) ?_ ?_
  · exact ⟨_, 0, l.length, Nat.zero_le _, Nat.le_refl _, rfl, by simp, fun j hj h => by omega, rfl, rfl⟩
  · rintro m e D ⟨lo, hi, hlh, hhn, rfl, h1, h2, rfl, rfl⟩ ih
    refine J_mrun (own := []) (m := 2000) (by simp (maxSteps := 2000000) (disch := omega) only [go_sem, ↓reduceIte, Int.reduceLT, Int.reduceLE, Int.reduceToNat, Int.reducePow, Int.reduceNeg, Nat.reduceBEq, Tryd.ntmps61] <;> with_reducible rfl) ?_
    refine J_if (by simp only [go_sem, ↓reduceIte, Int.reduceLT, Int.reduceLE, Int.reduceToNat, Int.reducePow, Int.reduceNeg, Nat.reduceBEq] <;> with_reducible rfl) (fun hc => ?_) (fun hc => ?_)
    · obtain ⟨h, hh⟩ : ∃ h : Nat, h = (lo + hi) / 2 := ⟨_, rfl⟩
      have hmid : ((lo : Int) + (hi : Int)) / 2 = (h : Int) := by omega
      have hlt : h < l.length := by omega
      have g0 := List.getElem?_eq_getElem hlt
      have g1 := ents_get g0
      have hcmp := cmpE_ok l[h] k
      simp only [Entry.av, Entry.cells] at hcmp
      unfold keyFn
      refine J_mrun (own := []) (m := 2000) (by simp (maxSteps := 2000000) (disch := omega) only [go_sem, ↓reduceIte, Int.reduceLT, Int.reduceLE, Int.reduceToNat, Int.reducePow, Int.reduceNeg, Nat.reduceBEq, Tryd.ntmps61, hmid, g1] <;> with_reducible rfl) ?_
      refine J_callp (by simp only [go_sem, ↓reduceIte, Int.reduceLT, Int.reduceLE, Int.reduceToNat, Int.reducePow, Int.reduceNeg, Nat.reduceBEq, Tryd.ntmps61] <;> with_reducible rfl) (hcmp) ?_
      refine J_mrun (own := []) (m := 2000) (by simp (maxSteps := 2000000) (disch := omega) only [go_sem, ↓reduceIte, Int.reduceLT, Int.reduceLE, Int.reduceToNat, Int.reducePow, Int.reduceNeg, Nat.reduceBEq, Tryd.ntmps61] <;> with_reducible rfl) ?_
      refine J_if (by simp only [go_sem, ↓reduceIte, Int.reduceLT, Int.reduceLE, Int.reduceToNat, Int.reducePow, Int.reduceNeg, Nat.reduceBEq] <;> with_reducible rfl) (fun hd => ?_) (fun hd => ?_)
      · refine J_mrun (own := []) (m := 2000) (by simp (maxSteps := 2000000) (disch := omega) only [go_sem, ↓reduceIte, Int.reduceLT, Int.reduceLE, Int.reduceToNat, Int.reducePow, Int.reduceNeg, Nat.reduceBEq, Tryd.ntmps61] <;> with_reducible rfl) ?_
        refine J_keep [0, 1, 2, 8, 9, 10] (by simp only [go_sem, ↓reduceIte, Int.reduceLT, Int.reduceLE, Int.reduceToNat, Int.reducePow, Int.reduceNeg, Nat.reduceBEq] <;> with_reducible rfl) ?_
        refine ih _ _ _ ?_ ⟨h + 1, hi, by omega, hhn, rfl, ?_, h2, rfl, by simp only [Int.natCast_add, Int.cast_ofNat_Int, keyFn]⟩
        · omega
        · intro j hj hjh
          exact hs j h hj hlt (by omega) hd
      · refine J_mrun (own := []) (m := 2000) (by simp (maxSteps := 2000000) (disch := omega) only [go_sem, ↓reduceIte, Int.reduceLT, Int.reduceLE, Int.reduceToNat, Int.reducePow, Int.reduceNeg, Nat.reduceBEq, Tryd.ntmps61] <;> with_reducible rfl) ?_
        refine J_keep [0, 1, 2, 8, 9, 10] (by simp only [go_sem, ↓reduceIte, Int.reduceLT, Int.reduceLE, Int.reduceToNat, Int.reducePow, Int.reduceNeg, Nat.reduceBEq] <;> with_reducible rfl) ?_
        refine ih _ _ _ ?_ ⟨lo, h, by omega, by omega, rfl, h1, ?_, rfl, by simp only [keyFn]⟩
        · omega
        · intro j hj hjh hn
          exact hd (hs h j hlt hj hjh hn)
    · have hi' : lo = hi := by omega
      subst hi'
      have hlow : low (fun x => cmpB x.key k) l = lo := low_eq hhn (fun j hj hjl => h1 j hj hjl) (fun hj => h2 lo hj (Nat.le_refl _))
      by_cases hlt : lo < l.length
      · have g0 := List.getElem?_eq_getElem hlt
        have g1 := ents_get g0
        have hcmp := cmpE_ok l[lo] k
        simp only [Entry.av, Entry.cells] at hcmp
        have hlt' : ((lo : Int) < (l.length : Int)) = True := eq_true (by omega)
        unfold keyFn
        refine J_mrun (own := []) (m := 2000) (by simp (maxSteps := 2000000) (disch := omega) only [go_sem, ↓reduceIte, Int.reduceLT, Int.reduceLE, Int.reduceToNat, Int.reducePow, Int.reduceNeg, Nat.reduceBEq, Tryd.ntmps61, hlt', g1] <;> with_reducible rfl) ?_
        refine J_callp (by simp only [go_sem, ↓reduceIte, Int.reduceLT, Int.reduceLE, Int.reduceToNat, Int.reducePow, Int.reduceNeg, Nat.reduceBEq, Tryd.ntmps61] <;> with_reducible rfl) (hcmp) ?_
        refine J_mrun (own := []) (m := 2000) (by simp (maxSteps := 2000000) (disch := omega) only [go_sem, ↓reduceIte, Int.reduceLT, Int.reduceLE, Int.reduceToNat, Int.reducePow, Int.reduceNeg, Nat.reduceBEq, Tryd.ntmps61] <;> with_reducible rfl) ?_
        refine J_retX Tryd.func61 (by simp only [go_sem, ↓reduceIte, Int.reduceLT, Int.reduceLE, Int.reduceToNat, Int.reducePow, Int.reduceNeg, Nat.reduceBEq, Tryd.f61] <;> first | with_reducible rfl | rfl) ⟨by simp only [has, hlow, g0], rfl⟩
      · have hlt' : ((lo : Int) < (l.length : Int)) = False := eq_false (by omega)
        have g0 : l[lo]? = none := List.getElem?_eq_none (by omega)
        unfold keyFn
        refine J_mrun (own := []) (m := 2000) (by simp (maxSteps := 2000000) (disch := omega) only [go_sem, ↓reduceIte, Int.reduceLT, Int.reduceLE, Int.reduceToNat, Int.reducePow, Int.reduceNeg, Nat.reduceBEq, Tryd.ntmps61, hlt'] <;> with_reducible rfl) ?_
        refine J_retX Tryd.func61 (by simp only [go_sem, ↓reduceIte, Int.reduceLT, Int.reduceLE, Int.reduceToNat, Int.reducePow, Int.reduceNeg, Nat.reduceBEq, Tryd.f61] <;> first | with_reducible rfl | rfl) ⟨by simp only [has, hlow, g0], rfl⟩
end Go.Proofs.YtncincpkdphojaaDoor
end

section
namespace Go.Proofs.YtncincpkdphojaaDoor
open Go Go.Av
set_option linter.unusedVariables false
set_option linter.unusedSimpArgs false
set_option maxRecDepth 100000
set_option maxHeartbeats 4000000
attribute [local go_sem] Entry.av Entry.cells packed List.set_cons_zero List.set_cons_succ

theorem searchE_ok (l : List Entry) (k : List UInt8) (hl : l.length < 2 ^ 60) (hs : Mono (fun x => cmpB x.key k) l) :
    ACalls Tryd.prog 37 [.sl 5 (ents l), .c (.string (mkStr k)), .fn (.func 38) [] []] [] (Ret (.tup [.c (.int .i64 (low (fun x => cmpB x.key k) l)), .c (.bool (has (fun x => cmpB x.key k) l))])) := by
  have hb := bsearchE_ok l k hl hs
  unfold keyFn at hb
  refine calls_of_J cl_37 Tryd.func37 rfl (by simp [Tryd.ntmps37]) ?_
  refine J_mrun (own := []) (m := 2000) (by simp (maxSteps := 2000000) (disch := omega) only [go_sem, ↓reduceIte, Int.reduceLT, Int.reduceLE, Int.reduceToNat, Int.reducePow, Int.reduceNeg, Nat.reduceBEq, Tryd.ntmps37] <;> with_reducible rfl) ?_
  refine J_callp (by simp only [go_sem, ↓reduceIte, Int.reduceLT, Int.reduceLE, Int.reduceToNat, Int.reducePow, Int.reduceNeg, Nat.reduceBEq, Tryd.ntmps37] <;> with_reducible rfl) (hb) ?_
  refine J_mrun (own := []) (m := 2000) (by simp (maxSteps := 2000000) (disch := omega) only [go_sem, ↓reduceIte, Int.reduceLT, Int.reduceLE, Int.reduceToNat, Int.reducePow, Int.reduceNeg, Nat.reduceBEq, Tryd.ntmps37] <;> with_reducible rfl) ?_
  refine J_retX Tryd.func37 (by simp only [go_sem, ↓reduceIte, Int.reduceLT, Int.reduceLE, Int.reduceToNat, Int.reducePow, Int.reduceNeg, Nat.reduceBEq, Tryd.f37] <;> first | with_reducible rfl | rfl) ⟨rfl, rfl⟩

/-! ### Floors -/
def cmpI (a b : Int) : Int := if a < b then -1 else if b < a then 1 else 0
theorem cmpI_neg {a b : Int} : cmpI a b < 0 ↔ a < b := by
  unfold cmpI; split
  · simp_all
  · split <;> simp_all
theorem cmpI_zero {a b : Int} : cmpI a b = 0 ↔ a = b := by
  unfold cmpI; split
  · simp; omega
  · split
    · simp; omega
    · simp; omega

theorem nanU_ok (a : Int) : ACalls Tryd.prog 79 [.c (.int .u64 a)] [] (Ret (.c (.bool false))) := by
  refine calls_of_J cl_79 Tryd.func79 rfl (by simp [Tryd.ntmps79]) ?_
  refine J_mrun (own := []) (m := 2000) (by simp (maxSteps := 2000000) (disch := omega) only [go_sem, ↓reduceIte, Int.reduceLT, Int.reduceLE, Int.reduceToNat, Int.reducePow, Int.reduceNeg, Nat.reduceBEq, Tryd.ntmps79] <;> with_reducible rfl) ?_
  refine J_retX Tryd.func79 (by simp only [go_sem, ↓reduceIte, Int.reduceLT, Int.reduceLE, Int.reduceToNat, Int.reducePow, Int.reduceNeg, Nat.reduceBEq, Tryd.f79] <;> first | with_reducible rfl | rfl) ⟨by simp, rfl⟩

theorem cmpU_ok (a b : Int) : ACalls Tryd.prog 69 [.c (.int .u64 a), .c (.int .u64 b)] [] (Ret (.c (.int .i64 (cmpI a b)))) := by
  refine calls_of_J cl_69 Tryd.func69 rfl (by simp [Tryd.ntmps69]) ?_
  refine J_mrun (own := []) (m := 2000) (by simp (maxSteps := 2000000) (disch := omega) only [go_sem, ↓reduceIte, Int.reduceLT, Int.reduceLE, Int.reduceToNat, Int.reducePow, Int.reduceNeg, Nat.reduceBEq, Tryd.ntmps69] <;> with_reducible rfl) ?_
  refine J_callp (by simp only [go_sem, ↓reduceIte, Int.reduceLT, Int.reduceLE, Int.reduceToNat, Int.reducePow, Int.reduceNeg, Nat.reduceBEq, Tryd.ntmps69] <;> with_reducible rfl) (nanU_ok a) ?_
  refine J_mrun (own := []) (m := 2000) (by simp (maxSteps := 2000000) (disch := omega) only [go_sem, ↓reduceIte, Int.reduceLT, Int.reduceLE, Int.reduceToNat, Int.reducePow, Int.reduceNeg, Nat.reduceBEq, Tryd.ntmps69] <;> with_reducible rfl) ?_
  refine J_callp (by simp only [go_sem, ↓reduceIte, Int.reduceLT, Int.reduceLE, Int.reduceToNat, Int.reducePow, Int.reduceNeg, Nat.reduceBEq, Tryd.ntmps69] <;> with_reducible rfl) (nanU_ok b) ?_
  refine J_mrun (own := []) (m := 2000) (by simp (maxSteps := 2000000) (disch := omega) only [go_sem, ↓reduceIte, Int.reduceLT, Int.reduceLE, Int.reduceToNat, Int.reducePow, Int.reduceNeg, Nat.reduceBEq, Tryd.ntmps69] <;> with_reducible rfl) ?_
  refine J_false (by simp only [go_sem, ↓reduceIte, Int.reduceLT, Int.reduceLE, Int.reduceToNat, Int.reducePow, Int.reduceNeg, Nat.reduceBEq] <;> with_reducible rfl) ?_
  refine J_mrun (own := []) (m := 2000) (by simp (maxSteps := 2000000) (disch := omega) only [go_sem, ↓reduceIte, Int.reduceLT, Int.reduceLE, Int.reduceToNat, Int.reducePow, Int.reduceNeg, Nat.reduceBEq, Tryd.ntmps69] <;> with_reducible rfl) ?_
  refine J_false (by simp only [go_sem, ↓reduceIte, Int.reduceLT, Int.reduceLE, Int.reduceToNat, Int.reducePow, Int.reduceNeg, Nat.reduceBEq] <;> with_reducible rfl) ?_
  refine J_mrun (own := []) (m := 2000) (by simp (maxSteps := 2000000) (disch := omega) only [go_sem, ↓reduceIte, Int.reduceLT, Int.reduceLE, Int.reduceToNat, Int.reducePow, Int.reduceNeg, Nat.reduceBEq, Tryd.ntmps69] <;> with_reducible rfl) ?_
  refine J_if (by simp only [go_sem, ↓reduceIte, Int.reduceLT, Int.reduceLE, Int.reduceToNat, Int.reducePow, Int.reduceNeg, Nat.reduceBEq] <;> with_reducible rfl) (fun h1 => ?_) (fun h1 => ?_)
  · refine J_mrun (own := []) (m := 2000) (by simp (maxSteps := 2000000) (disch := omega) only [go_sem, ↓reduceIte, Int.reduceLT, Int.reduceLE, Int.reduceToNat, Int.reducePow, Int.reduceNeg, Nat.reduceBEq, Tryd.ntmps69] <;> with_reducible rfl) ?_
    refine J_retX Tryd.func69 (by simp only [go_sem, ↓reduceIte, Int.reduceLT, Int.reduceLE, Int.reduceToNat, Int.reducePow, Int.reduceNeg, Nat.reduceBEq, Tryd.f69] <;> first | with_reducible rfl | rfl) ⟨by rw [cmpI, if_pos h1], rfl⟩
  · refine J_mrun (own := []) (m := 2000) (by simp (maxSteps := 2000000) (disch := omega) only [go_sem, ↓reduceIte, Int.reduceLT, Int.reduceLE, Int.reduceToNat, Int.reducePow, Int.reduceNeg, Nat.reduceBEq, Tryd.ntmps69] <;> with_reducible rfl) ?_
    refine J_if (by simp only [go_sem, ↓reduceIte, Int.reduceLT, Int.reduceLE, Int.reduceToNat, Int.reducePow, Int.reduceNeg, Nat.reduceBEq] <;> with_reducible rfl) (fun h2 => ?_) (fun h2 => ?_)
    · refine J_mrun (own := []) (m := 2000) (by simp (maxSteps := 2000000) (disch := omega) only [go_sem, ↓reduceIte, Int.reduceLT, Int.reduceLE, Int.reduceToNat, Int.reducePow, Int.reduceNeg, Nat.reduceBEq, Tryd.ntmps69] <;> with_reducible rfl) ?_
      refine J_retX Tryd.func69 (by simp only [go_sem, ↓reduceIte, Int.reduceLT, Int.reduceLE, Int.reduceToNat, Int.reducePow, Int.reduceNeg, Nat.reduceBEq, Tryd.f69] <;> first | with_reducible rfl | rfl) ⟨by rw [cmpI, if_neg h1, if_pos (by omega)], rfl⟩
    · refine J_mrun (own := []) (m := 2000) (by simp (maxSteps := 2000000) (disch := omega) only [go_sem, ↓reduceIte, Int.reduceLT, Int.reduceLE, Int.reduceToNat, Int.reducePow, Int.reduceNeg, Nat.reduceBEq, Tryd.ntmps69] <;> with_reducible rfl) ?_
      refine J_retX Tryd.func69 (by simp only [go_sem, ↓reduceIte, Int.reduceLT, Int.reduceLE, Int.reduceToNat, Int.reducePow, Int.reduceNeg, Nat.reduceBEq, Tryd.f69] <;> first | with_reducible rfl | rfl) ⟨by rw [cmpI, if_neg h1, if_neg (by omega)], rfl⟩

def hashFn : AV := .fn (.func 68) [] [.fp [.fn (.func 46) [] []]]

theorem cmpF_ok (x : Flo) (k : Int) : ACalls Tryd.prog 68 [.agg [.c (.int .u64 x.hash), .c (.int .i64 x.at_)], .c (.int .u64 k), .fp [.fn (.func 46) [] []]] [] (Ret (.c (.int .i64 (cmpI x.hash k)))) := by
  have hk := hashOf_ok x.hash x.at_
  refine calls_of_J cl_68 Tryd.func68 rfl (by simp [Tryd.ntmps68]) ?_
  refine J_mrun (own := []) (m := 2000) (by simp (maxSteps := 2000000) (disch := omega) only [go_sem, ↓reduceIte, Int.reduceLT, Int.reduceLE, Int.reduceToNat, Int.reducePow, Int.reduceNeg, Nat.reduceBEq, Tryd.ntmps68] <;> with_reducible rfl) ?_
  refine J_callp (by simp only [go_sem, ↓reduceIte, Int.reduceLT, Int.reduceLE, Int.reduceToNat, Int.reducePow, Int.reduceNeg, Nat.reduceBEq, Tryd.ntmps68] <;> with_reducible rfl) (hk) ?_
  refine J_mrun (own := []) (m := 2000) (by simp (maxSteps := 2000000) (disch := omega) only [go_sem, ↓reduceIte, Int.reduceLT, Int.reduceLE, Int.reduceToNat, Int.reducePow, Int.reduceNeg, Nat.reduceBEq, Tryd.ntmps68] <;> with_reducible rfl) ?_
  refine J_callp (by simp only [go_sem, ↓reduceIte, Int.reduceLT, Int.reduceLE, Int.reduceToNat, Int.reducePow, Int.reduceNeg, Nat.reduceBEq, Tryd.ntmps68] <;> with_reducible rfl) (cmpU_ok x.hash k) ?_
  refine J_mrun (own := []) (m := 2000) (by simp (maxSteps := 2000000) (disch := omega) only [go_sem, ↓reduceIte, Int.reduceLT, Int.reduceLE, Int.reduceToNat, Int.reducePow, Int.reduceNeg, Nat.reduceBEq, Tryd.ntmps68] <;> with_reducible rfl) ?_
  refine J_retX Tryd.func68 (by simp only [go_sem, ↓reduceIte, Int.reduceLT, Int.reduceLE, Int.reduceToNat, Int.reducePow, Int.reduceNeg, Nat.reduceBEq, Tryd.f68] <;> first | with_reducible rfl | rfl) ⟨rfl, rfl⟩

theorem bsearchF_ok (l : List Flo) (k : Int) (hl : l.length < 2 ^ 60) (hs : Mono (fun x : Flo => cmpI x.hash k) l) :
    ACalls Tryd.prog 67 [.sl 2 (flos l), .c (.int .u64 k), hashFn] [] (Ret (.tup [.c (.int .i64 (low (fun x : Flo => cmpI x.hash k) l)), .c (.bool (has (fun x : Flo => cmpI x.hash k) l))])) := by
  unfold hashFn
  refine calls_of_J cl_67 Tryd.func67 rfl (by simp [Tryd.ntmps67]) ?_
  refine J_mrun (own := []) (m := 2000) (by simp (maxSteps := 2000000) (disch := omega) only [go_sem, ↓reduceIte, Int.reduceLT, Int.reduceLE, Int.reduceToNat, Int.reducePow, Int.reduceNeg, Nat.reduceBEq, Tryd.ntmps67, flos_len] <;> with_reducible rfl) ?_
  refine J_keep [0, 1, 2, 8, 9, 10] (by simp only [go_sem, ↓reduceIte, Int.reduceLT, Int.reduceLE, Int.reduceToNat, Int.reducePow, Int.reduceNeg, Nat.reduceBEq] <;> with_reducible rfl) ?_
  refine J_loopI (I := fun m e D => ∃ lo hi : Nat, lo ≤ hi ∧ hi ≤ l.length ∧ m = hi - lo ∧ (∀ j (hj : j < l.length), j < lo → cmpI l[j].hash k < 0) ∧ (∀ j (hj : j < l.length), hi ≤ j → ¬ cmpI l[j].hash k < 0) ∧ D = [] ∧ e = [(0, .sl 2 (flos l)), (1, .c (.int .u64 k)), (2, hashFn), (8, .c (.int .i64 l.length)), (9, .c (.int .i64 lo)), (10, .c (.int .i64 hi))]) ?_ ?_
  · exact ⟨_, 0, l.length, Nat.zero_le _, Nat.le_refl _, rfl, by simp, fun j hj h => by omega, rfl, rfl⟩
  · rintro m e D ⟨lo, hi, hlh, hhn, rfl, h1, h2, rfl, rfl⟩ ih
    refine J_mrun (own := []) (m := 2000) (by simp (maxSteps := 2000000) (disch := omega) only [go_sem, ↓reduceIte, Int.reduceLT, Int.reduceLE, Int.reduceToNat, Int.reducePow, Int.reduceNeg, Nat.reduceBEq, Tryd.ntmps67] <;> with_reducible rfl) ?_
    refine J_if (by simp only [go_sem, ↓reduceIte, Int.reduceLT, Int.reduceLE, Int.reduceToNat, Int.reducePow, Int.reduceNeg, Nat.reduceBEq] <;> with_reducible rfl) (fun hc => ?_) (fun hc => ?_)
    · obtain ⟨h, hh⟩ : ∃ h : Nat, h = (lo + hi) / 2 := ⟨_, rfl⟩
      have hmid : ((lo : Int) + (hi : Int)) / 2 = (h : Int) := by omega
      have hlt : h < l.length := by omega
      have g0 := List.getElem?_eq_getElem hlt
      have g1 := flos_get g0
      have hcmp := cmpF_ok l[h] k
      unfold hashFn
      refine J_mrun (own := []) (m := 2000) (by simp (maxSteps := 2000000) (disch := omega) only [go_sem, ↓reduceIte, Int.reduceLT, Int.reduceLE, Int.reduceToNat, Int.reducePow, Int.reduceNeg, Nat.reduceBEq, Tryd.ntmps67, hmid, g1] <;> with_reducible rfl) ?_
      refine J_callp (by simp only [go_sem, ↓reduceIte, Int.reduceLT, Int.reduceLE, Int.reduceToNat, Int.reducePow, Int.reduceNeg, Nat.reduceBEq, Tryd.ntmps67] <;> with_reducible rfl) (hcmp) ?_
      refine J_mrun (own := []) (m := 2000) (by simp (maxSteps := 2000000) (disch := omega) only [go_sem, ↓reduceIte, Int.reduceLT, Int.reduceLE, Int.reduceToNat, Int.reducePow, Int.reduceNeg, Nat.reduceBEq, Tryd.ntmps67] <;> with_reducible rfl) ?_
      refine J_if (by simp only [go_sem, ↓reduceIte, Int.reduceLT, Int.reduceLE, Int.reduceToNat, Int.reducePow, Int.reduceNeg, Nat.reduceBEq] <;> with_reducible rfl) (fun hd => ?_) (fun hd => ?_)
      · refine J_mrun (own := []) (m := 2000) (by simp (maxSteps := 2000000) (disch := omega) only [go_sem, ↓reduceIte, Int.reduceLT, Int.reduceLE, Int.reduceToNat, Int.reducePow, Int.reduceNeg, Nat.reduceBEq, Tryd.ntmps67] <;> with_reducible rfl) ?_
        refine J_keep [0, 1, 2, 8, 9, 10] (by simp only [go_sem, ↓reduceIte, Int.reduceLT, Int.reduceLE, Int.reduceToNat, Int.reducePow, Int.reduceNeg, Nat.reduceBEq] <;> with_reducible rfl) ?_
        refine ih _ _ _ ?_ ⟨h + 1, hi, by omega, hhn, rfl, ?_, h2, rfl, by simp only [Int.natCast_add, Int.cast_ofNat_Int, hashFn]⟩
        · omega
        · intro j hj hjh
          exact hs j h hj hlt (by omega) hd
      · refine J_mrun (own := []) (m := 2000) (by simp (maxSteps := 2000000) (disch := omega) only [go_sem, ↓reduceIte, Int.reduceLT, Int.reduceLE, Int.reduceToNat, Int.reducePow, Int.reduceNeg, Nat.reduceBEq, Tryd.ntmps67] <;> with_reducible rfl) ?_
        refine J_keep [0, 1, 2, 8, 9, 10] (by simp only [go_sem, ↓reduceIte, Int.reduceLT, Int.reduceLE, Int.reduceToNat, Int.reducePow, Int.reduceNeg, Nat.reduceBEq] <;> with_reducible rfl) ?_
        refine ih _ _ _ ?_ ⟨lo, h, by omega, by omega, rfl, h1, ?_, rfl, by simp only [hashFn]⟩
        · omega
        · intro j hj hjh hn
          exact hd (hs h j hlt hj hjh hn)
    · have hi' : lo = hi := by omega
      subst hi'
      have hlow : low (fun x : Flo => cmpI x.hash k) l = lo := low_eq hhn (fun j hj hjl => h1 j hj hjl) (fun hj => h2 lo hj (Nat.le_refl _))
      by_cases hlt : lo < l.length
      · have g0 := List.getElem?_eq_getElem hlt
        have g1 := flos_get g0
        have hcmp := cmpF_ok l[lo] k
        have hlt' : ((lo : Int) < (l.length : Int)) = True := eq_true (by omega)
        unfold hashFn
        refine J_mrun (own := []) (m := 2000) (by simp (maxSteps := 2000000) (disch := omega) only [go_sem, ↓reduceIte, Int.reduceLT, Int.reduceLE, Int.reduceToNat, Int.reducePow, Int.reduceNeg, Nat.reduceBEq, Tryd.ntmps67, hlt', g1] <;> with_reducible rfl) ?_
        refine J_callp (by simp only [go_sem, ↓reduceIte, Int.reduceLT, Int.reduceLE, Int.reduceToNat, Int.reducePow, Int.reduceNeg, Nat.reduceBEq, Tryd.ntmps67] <;> with_reducible rfl) (hcmp) ?_
        refine J_mrun (own := []) (m := 2000) (by simp (maxSteps := 2000000) (disch := omega) only [go_sem, ↓reduceIte, Int.reduceLT, Int.reduceLE, Int.reduceToNat, Int.reducePow, Int.reduceNeg, Nat.reduceBEq, Tryd.ntmps67] <;> with_reducible rfl) ?_
        refine J_retX Tryd.func67 (by simp only [go_sem, ↓reduceIte, Int.reduceLT, Int.reduceLE, Int.reduceToNat, Int.reducePow, Int.reduceNeg, Nat.reduceBEq, Tryd.f67] <;> first | with_reducible rfl | rfl) ⟨by simp only [has, hlow, g0], rfl⟩
      · have hlt' : ((lo : Int) < (l.length : Int)) = False := eq_false (by omega)
        have g0 : l[lo]? = none := List.getElem?_eq_none (by omega)
        unfold hashFn
        refine J_mrun (own := []) (m := 2000) (by simp (maxSteps := 2000000) (disch := omega) only [go_sem, ↓reduceIte, Int.reduceLT, Int.reduceLE, Int.reduceToNat, Int.reducePow, Int.reduceNeg, Nat.reduceBEq, Tryd.ntmps67, hlt'] <;> with_reducible rfl) ?_
        refine J_retX Tryd.func67 (by simp only [go_sem, ↓reduceIte, Int.reduceLT, Int.reduceLE, Int.reduceToNat, Int.reducePow, Int.reduceNeg, Nat.reduceBEq, Tryd.f67] <;> first | with_reducible rfl | rfl) ⟨by simp only [has, hlow, g0], rfl⟩

theorem searchF_ok (l : List Flo) (k : Int) (hl : l.length < 2 ^ 60) (hs : Mono (fun x : Flo => cmpI x.hash k) l) :
    ACalls Tryd.prog 45 [.sl 2 (flos l), .c (.int .u64 k), .fn (.func 46) [] []] [] (Ret (.tup [.c (.int .i64 (low (fun x : Flo => cmpI x.hash k) l)), .c (.bool (has (fun x : Flo => cmpI x.hash k) l))])) := by
  have hb := bsearchF_ok l k hl hs
  unfold hashFn at hb
  refine calls_of_J cl_45 Tryd.func45 rfl (by simp [Tryd.ntmps45]) ?_
  refine J_mrun (own := []) (m := 2000) (by simp (maxSteps := 2000000) (disch := omega) only [go_sem, ↓reduceIte, Int.reduceLT, Int.reduceLE, Int.reduceToNat, Int.reducePow, Int.reduceNeg, Nat.reduceBEq, Tryd.ntmps45] <;> with_reducible rfl) ?_
  refine J_callp (by simp only [go_sem, ↓reduceIte, Int.reduceLT, Int.reduceLE, Int.reduceToNat, Int.reducePow, Int.reduceNeg, Nat.reduceBEq, Tryd.ntmps45] <;> with_reducible rfl) (hb) ?_
  refine J_mrun (own := []) (m := 2000) (by simp (maxSteps := 2000000) (disch := omega) only [go_sem, ↓reduceIte, Int.reduceLT, Int.reduceLE, Int.reduceToNat, Int.reducePow, Int.reduceNeg, Nat.reduceBEq, Tryd.ntmps45] <;> with_reducible rfl) ?_
  refine J_retX Tryd.func45 (by simp only [go_sem, ↓reduceIte, Int.reduceLT, Int.reduceLE, Int.reduceToNat, Int.reducePow, Int.reduceNeg, Nat.reduceBEq, Tryd.f45] <;> first | with_reducible rfl | rfl) ⟨rfl, rfl⟩
end Go.Proofs.YtncincpkdphojaaDoor
end

section
namespace Go.Proofs.YtncincpkdphojaaDoor
open Go Go.Av
set_option linter.unusedVariables false
set_option linter.unusedSimpArgs false
set_option maxRecDepth 100000
set_option maxHeartbeats 4000000
attribute [local go_sem] packed List.set_cons_zero List.set_cons_succ

/-! ### item.Check -/
theorem str_key : (ByteArray.mk #[107, 101, 121]) = mkStr [107, 101, 121] := rfl
theorem str_version : (ByteArray.mk #[118, 101, 114, 115, 105, 111, 110]) = mkStr [118, 101, 114, 115, 105, 111, 110] := rfl
theorem str_asof : (ByteArray.mk #[97, 115, 111, 102]) = mkStr [97, 115, 111, 102] := rfl
theorem str_ends : (ByteArray.mk #[101, 110, 100, 115]) = mkStr [101, 110, 100, 115] := rfl
theorem str_value : (ByteArray.mk #[118, 97, 108, 117, 101]) = mkStr [118, 97, 108, 117, 101] := rfl
attribute [local go_sem] str_key str_version str_asof str_ends str_value
def chk (name : List UInt8) (x lo : Int) : AV := if x < lo ∨ 1099511627776 < x then .ifc 71 (.fp [.c (.string (mkStr name)), .c (.int .i64 x), .c (.int .i64 2), .c .nilIface]) else .c .nilIface

theorem chkNil_ok (b : Nat) (name : List UInt8) (x lo : Int) : ACalls Tryd.prog 60 [.c (.string (mkStr name)), .c (.int .i64 x), .c (.int .i64 lo), .c (.pointer (some ⟨b, 0, none⟩))] [.box b 41 [.c .nilIface]]
    (fun r Δ => r = .ret (.tup []) ∧ Δ = [.box b 41 [chk name x lo]]) := by
  have hn : errNew name x 2 = .ifc 71 (.fp [.c (.string (mkStr name)), .c (.int .i64 x), .c (.int .i64 2), .c .nilIface]) := by simp [errNew, AV.str]
  have hnew := new_ok name x 2
  rw [hn] at hnew
  refine calls_of_J cl_60 Tryd.func60 rfl (by simp [Tryd.ntmps60]) ?_
  by_cases h1 : x < lo
  · have e1 : chk name x lo = .ifc 71 (.fp [.c (.string (mkStr name)), .c (.int .i64 x), .c (.int .i64 2), .c .nilIface]) := by rw [chk, if_pos (.inl h1)]
    refine J_mrun (own := []) (m := 2000) (by simp (maxSteps := 2000000) (disch := omega) only [go_sem, ↓reduceIte, Int.reduceLT, Int.reduceLE, Int.reduceToNat, Int.reducePow, Int.reduceNeg, Nat.reduceBEq, Tryd.ntmps60, eq_true h1] <;> with_reducible rfl) ?_
    refine J_true (by simp only [go_sem, ↓reduceIte, Int.reduceLT, Int.reduceLE, Int.reduceToNat, Int.reducePow, Int.reduceNeg, Nat.reduceBEq] <;> with_reducible rfl) ?_
    refine J_mrun (own := []) (m := 2000) (by simp (maxSteps := 2000000) (disch := omega) only [go_sem, ↓reduceIte, Int.reduceLT, Int.reduceLE, Int.reduceToNat, Int.reducePow, Int.reduceNeg, Nat.reduceBEq, Tryd.ntmps60] <;> with_reducible rfl) ?_
    refine J_callp (by simp only [go_sem, ↓reduceIte, Int.reduceLT, Int.reduceLE, Int.reduceToNat, Int.reducePow, Int.reduceNeg, Nat.reduceBEq, Tryd.ntmps60] <;> with_reducible rfl) (hnew) ?_
    refine J_mrun (own := []) (m := 2000) (by simp (maxSteps := 2000000) (disch := omega) only [go_sem, ↓reduceIte, Int.reduceLT, Int.reduceLE, Int.reduceToNat, Int.reducePow, Int.reduceNeg, Nat.reduceBEq, Tryd.ntmps60] <;> with_reducible rfl) ?_
    refine J_end Tryd.func60 (xs := []) (by rfl) ⟨rfl, by rw [e1]⟩
  · by_cases h2 : 1099511627776 < x
    · have e1 : chk name x lo = .ifc 71 (.fp [.c (.string (mkStr name)), .c (.int .i64 x), .c (.int .i64 2), .c .nilIface]) := by rw [chk, if_pos (.inr h2)]
      refine J_mrun (own := []) (m := 2000) (by simp (maxSteps := 2000000) (disch := omega) only [go_sem, ↓reduceIte, Int.reduceLT, Int.reduceLE, Int.reduceToNat, Int.reducePow, Int.reduceNeg, Nat.reduceBEq, Tryd.ntmps60, eq_false h1, eq_true h2] <;> with_reducible rfl) ?_
      refine J_true (by simp only [go_sem, ↓reduceIte, Int.reduceLT, Int.reduceLE, Int.reduceToNat, Int.reducePow, Int.reduceNeg, Nat.reduceBEq] <;> with_reducible rfl) ?_
      refine J_mrun (own := []) (m := 2000) (by simp (maxSteps := 2000000) (disch := omega) only [go_sem, ↓reduceIte, Int.reduceLT, Int.reduceLE, Int.reduceToNat, Int.reducePow, Int.reduceNeg, Nat.reduceBEq, Tryd.ntmps60] <;> with_reducible rfl) ?_
      refine J_callp (by simp only [go_sem, ↓reduceIte, Int.reduceLT, Int.reduceLE, Int.reduceToNat, Int.reducePow, Int.reduceNeg, Nat.reduceBEq, Tryd.ntmps60] <;> with_reducible rfl) (hnew) ?_
      refine J_mrun (own := []) (m := 2000) (by simp (maxSteps := 2000000) (disch := omega) only [go_sem, ↓reduceIte, Int.reduceLT, Int.reduceLE, Int.reduceToNat, Int.reducePow, Int.reduceNeg, Nat.reduceBEq, Tryd.ntmps60] <;> with_reducible rfl) ?_
      refine J_end Tryd.func60 (xs := []) (by rfl) ⟨rfl, by rw [e1]⟩
    · have e1 : chk name x lo = .c .nilIface := by rw [chk, if_neg (by omega)]
      refine J_mrun (own := []) (m := 2000) (by simp (maxSteps := 2000000) (disch := omega) only [go_sem, ↓reduceIte, Int.reduceLT, Int.reduceLE, Int.reduceToNat, Int.reducePow, Int.reduceNeg, Nat.reduceBEq, Tryd.ntmps60, eq_false h1, eq_false h2] <;> with_reducible rfl) ?_
      refine J_false (by simp only [go_sem, ↓reduceIte, Int.reduceLT, Int.reduceLE, Int.reduceToNat, Int.reducePow, Int.reduceNeg, Nat.reduceBEq] <;> with_reducible rfl) ?_
      refine J_mrun (own := []) (m := 2000) (by simp (maxSteps := 2000000) (disch := omega) only [go_sem, ↓reduceIte, Int.reduceLT, Int.reduceLE, Int.reduceToNat, Int.reducePow, Int.reduceNeg, Nat.reduceBEq, Tryd.ntmps60] <;> with_reducible rfl) ?_
      refine J_end Tryd.func60 (xs := []) (by rfl) ⟨rfl, by rw [e1]⟩

theorem chkErr_ok (b : Nat) (name : List UInt8) (x lo : Int) (t : TypeId) (y : AV) : ACalls Tryd.prog 60 [.c (.string (mkStr name)), .c (.int .i64 x), .c (.int .i64 lo), .c (.pointer (some ⟨b, 0, none⟩))] [.box b 41 [.ifc t y]]
    (fun r Δ => r = .ret (.tup []) ∧ Δ = [.box b 41 [.ifc t y]]) := by
  refine calls_of_J cl_60 Tryd.func60 rfl (by simp [Tryd.ntmps60]) ?_
  refine J_mrun (own := []) (m := 2000) (by simp (maxSteps := 2000000) (disch := omega) only [go_sem, ↓reduceIte, Int.reduceLT, Int.reduceLE, Int.reduceToNat, Int.reducePow, Int.reduceNeg, Nat.reduceBEq, Tryd.ntmps60] <;> with_reducible rfl) ?_
  refine J_false (by simp only [go_sem, ↓reduceIte, Int.reduceLT, Int.reduceLE, Int.reduceToNat, Int.reducePow, Int.reduceNeg, Nat.reduceBEq] <;> with_reducible rfl) ?_
  refine J_mrun (own := []) (m := 2000) (by simp (maxSteps := 2000000) (disch := omega) only [go_sem, ↓reduceIte, Int.reduceLT, Int.reduceLE, Int.reduceToNat, Int.reducePow, Int.reduceNeg, Nat.reduceBEq, Tryd.ntmps60] <;> with_reducible rfl) ?_
  refine J_end Tryd.func60 (xs := []) (by rfl) ⟨rfl, rfl⟩

/-- One of the three numbers is looked at. -/
def badB (x lo : Int) : Prop := x < lo ∨ 1099511627776 < x
instance (x lo : Int) : Decidable (badB x lo) := by unfold badB; infer_instance
theorem chk_bad {name : List UInt8} {x lo : Int} (h : badB x lo) : chk name x lo = .ifc 71 (.fp [.c (.string (mkStr name)), .c (.int .i64 x), .c (.int .i64 2), .c .nilIface]) := if_pos h
theorem chk_good {name : List UInt8} {x lo : Int} (h : ¬ badB x lo) : chk name x lo = .c .nilIface := if_neg h

theorem check_ok (x : Entry) : ACalls Tryd.prog 34 [x.av] [] (fun r Δ => (∃ e, r = .ret e ∧ IsErr e (checkCode x)) ∧ Δ = []) := by
  obtain ⟨k, v, a, e, bs⟩ := x
  simp only [Entry.av, Entry.cells]
  refine calls_of_J cl_34 Tryd.func34 rfl (by simp [Tryd.ntmps34]) ?_
  refine J_mrun (own := []) (m := 2000) (by simp (maxSteps := 2000000) (disch := omega) only [go_sem, ↓reduceIte, Int.reduceLT, Int.reduceLE, Int.reduceToNat, Int.reducePow, Int.reduceNeg, Nat.reduceBEq, Tryd.ntmps34] <;> with_reducible rfl) ?_
  refine J_callp (by simp only [go_sem, ↓reduceIte, Int.reduceLT, Int.reduceLE, Int.reduceToNat, Int.reducePow, Int.reduceNeg, Nat.reduceBEq, Tryd.ntmps34] <;> with_reducible rfl) (key_ok k) ?_
  refine J_mrun (own := []) (m := 2000) (by simp (maxSteps := 2000000) (disch := omega) only [go_sem, ↓reduceIte, Int.reduceLT, Int.reduceLE, Int.reduceToNat, Int.reducePow, Int.reduceNeg, Nat.reduceBEq, Tryd.ntmps34] <;> with_reducible rfl) ?_
  refine J_if (by simp only [go_sem, ↓reduceIte, Int.reduceLT, Int.reduceLE, Int.reduceToNat, Int.reducePow, Int.reduceNeg, Nat.reduceBEq] <;> with_reducible rfl) (fun h0 => ?_) (fun h0 => ?_)
  · refine J_mrun (own := []) (m := 2000) (by simp (maxSteps := 2000000) (disch := omega) only [go_sem, ↓reduceIte, Int.reduceLT, Int.reduceLE, Int.reduceToNat, Int.reducePow, Int.reduceNeg, Nat.reduceBEq, Tryd.ntmps34] <;> with_reducible rfl) ?_
    refine J_callp (by simp only [go_sem, ↓reduceIte, Int.reduceLT, Int.reduceLE, Int.reduceToNat, Int.reducePow, Int.reduceNeg, Nat.reduceBEq, Tryd.ntmps34] <;> with_reducible rfl) (new_ok [107, 101, 121] k.length (keyCode k)) ?_
    refine J_mrun (own := []) (m := 2000) (by simp (maxSteps := 2000000) (disch := omega) only [go_sem, ↓reduceIte, Int.reduceLT, Int.reduceLE, Int.reduceToNat, Int.reducePow, Int.reduceNeg, Nat.reduceBEq, Tryd.ntmps34] <;> with_reducible rfl) ?_
    refine J_retX Tryd.func34 (by simp only [go_sem, ↓reduceIte, Int.reduceLT, Int.reduceLE, Int.reduceToNat, Int.reducePow, Int.reduceNeg, Nat.reduceBEq, Tryd.f34] <;> first | with_reducible rfl | rfl) ⟨⟨_, rfl, by have := errNew_is [107, 101, 121] k.length (keyCode k); rwa [show checkCode ⟨k, v, a, e, bs⟩ = keyCode k from if_pos h0]⟩, rfl⟩
  · have h0' : keyCode k = 0 := by simpa using h0
    refine J_mrun (own := [4]) (m := 2000) (by simp (maxSteps := 2000000) (disch := omega) only [go_sem, ↓reduceIte, Int.reduceLT, Int.reduceLE, Int.reduceToNat, Int.reducePow, Int.reduceNeg, Nat.reduceBEq, Tryd.ntmps34] <;> with_reducible rfl) ?_
    refine J_newvar rfl (by simp only [go_sem, ↓reduceIte, Int.reduceLT, Int.reduceLE, Int.reduceToNat, Int.reducePow, Int.reduceNeg, Nat.reduceBEq, Tryd.ntmps34]) (by simp only [go_sem, ↓reduceIte, Int.reduceLT, Int.reduceLE, Int.reduceToNat, Int.reducePow, Int.reduceNeg, Nat.reduceBEq] <;> with_reducible rfl) (fun b hb => ?_)
    refine J_mrun (own := []) (m := 2000) (by simp (maxSteps := 2000000) (disch := omega) only [go_sem, ↓reduceIte, Int.reduceLT, Int.reduceLE, Int.reduceToNat, Int.reducePow, Int.reduceNeg, Nat.reduceBEq, Tryd.ntmps34] <;> with_reducible rfl) ?_
    refine J_calls (by simp only [go_sem, ↓reduceIte, Int.reduceLT, Int.reduceLE, Int.reduceToNat, Int.reducePow, Int.reduceNeg, Nat.reduceBEq, Tryd.ntmps34] <;> with_reducible rfl) (chkNil_ok b [118, 101, 114, 115, 105, 111, 110] v 1) (Δ1 := [_]) (Fr := []) (List.Perm.refl _) ?_ (by rintro x Δ' ⟨e1, _⟩; cases e1)
    rintro x D' ⟨e1, rfl⟩
    cases e1
    simp only [List.append_nil]
    by_cases h1 : badB v 1
    · have hc : checkCode ⟨k, v, a, e, bs⟩ = 2 := by
        simp only [checkCode]; rw [if_neg (by simpa using h0'), if_pos (by unfold badNum; unfold badB at h1; simp only; omega)]
      rw [chk_bad h1]
      refine J_mrun (own := []) (m := 2000) (by simp (maxSteps := 2000000) (disch := omega) only [go_sem, ↓reduceIte, Int.reduceLT, Int.reduceLE, Int.reduceToNat, Int.reducePow, Int.reduceNeg, Nat.reduceBEq, Tryd.ntmps34] <;> with_reducible rfl) ?_
      refine J_calls (by simp only [go_sem, ↓reduceIte, Int.reduceLT, Int.reduceLE, Int.reduceToNat, Int.reducePow, Int.reduceNeg, Nat.reduceBEq, Tryd.ntmps34] <;> with_reducible rfl) (chkErr_ok b [97, 115, 111, 102] a v _ _) (Δ1 := [_]) (Fr := []) (List.Perm.refl _) ?_ (by rintro x Δ' ⟨e1, _⟩; cases e1)
      rintro x D' ⟨e1, rfl⟩
      cases e1
      simp only [List.append_nil]
      refine J_mrun (own := []) (m := 2000) (by simp (maxSteps := 2000000) (disch := omega) only [go_sem, ↓reduceIte, Int.reduceLT, Int.reduceLE, Int.reduceToNat, Int.reducePow, Int.reduceNeg, Nat.reduceBEq, Tryd.ntmps34] <;> with_reducible rfl) ?_
      refine J_calls (by simp only [go_sem, ↓reduceIte, Int.reduceLT, Int.reduceLE, Int.reduceToNat, Int.reducePow, Int.reduceNeg, Nat.reduceBEq, Tryd.ntmps34] <;> with_reducible rfl) (chkErr_ok b [101, 110, 100, 115] e 0 _ _) (Δ1 := [_]) (Fr := []) (List.Perm.refl _) ?_ (by rintro x Δ' ⟨e1, _⟩; cases e1)
      rintro x D' ⟨e1, rfl⟩
      cases e1
      simp only [List.append_nil]
      refine J_mrun (own := []) (m := 2000) (by simp (maxSteps := 2000000) (disch := omega) only [go_sem, ↓reduceIte, Int.reduceLT, Int.reduceLE, Int.reduceToNat, Int.reducePow, Int.reduceNeg, Nat.reduceBEq, Tryd.ntmps34] <;> with_reducible rfl) ?_
      refine J_false (by simp only [go_sem, ↓reduceIte, Int.reduceLT, Int.reduceLE, Int.reduceToNat, Int.reducePow, Int.reduceNeg, Nat.reduceBEq] <;> with_reducible rfl) ?_
      refine J_mrun (own := []) (m := 2000) (by simp (maxSteps := 2000000) (disch := omega) only [go_sem, ↓reduceIte, Int.reduceLT, Int.reduceLE, Int.reduceToNat, Int.reducePow, Int.reduceNeg, Nat.reduceBEq, Tryd.ntmps34] <;> with_reducible rfl) ?_
      refine J_forget ?_
      refine J_retX Tryd.func34 (by simp only [go_sem, ↓reduceIte, Int.reduceLT, Int.reduceLE, Int.reduceToNat, Int.reducePow, Int.reduceNeg, Nat.reduceBEq, Tryd.f34] <;> first | with_reducible rfl | rfl) ⟨⟨_, rfl, by rw [hc]; exact .code _ _ _ _ (by decide)⟩, rfl⟩
    · rw [chk_good h1]
      refine J_mrun (own := []) (m := 2000) (by simp (maxSteps := 2000000) (disch := omega) only [go_sem, ↓reduceIte, Int.reduceLT, Int.reduceLE, Int.reduceToNat, Int.reducePow, Int.reduceNeg, Nat.reduceBEq, Tryd.ntmps34] <;> with_reducible rfl) ?_
      refine J_calls (by simp only [go_sem, ↓reduceIte, Int.reduceLT, Int.reduceLE, Int.reduceToNat, Int.reducePow, Int.reduceNeg, Nat.reduceBEq, Tryd.ntmps34] <;> with_reducible rfl) (chkNil_ok b [97, 115, 111, 102] a v) (Δ1 := [_]) (Fr := []) (List.Perm.refl _) ?_ (by rintro x Δ' ⟨e1, _⟩; cases e1)
      rintro x D' ⟨e1, rfl⟩
      cases e1
      simp only [List.append_nil]
      by_cases h2 : badB a v
      · have hc : checkCode ⟨k, v, a, e, bs⟩ = 2 := by
          simp only [checkCode]; rw [if_neg (by simpa using h0'), if_pos (by unfold badNum; unfold badB at h2; simp only; omega)]
        rw [chk_bad h2]
        refine J_mrun (own := []) (m := 2000) (by simp (maxSteps := 2000000) (disch := omega) only [go_sem, ↓reduceIte, Int.reduceLT, Int.reduceLE, Int.reduceToNat, Int.reducePow, Int.reduceNeg, Nat.reduceBEq, Tryd.ntmps34] <;> with_reducible rfl) ?_
        refine J_calls (by simp only [go_sem, ↓reduceIte, Int.reduceLT, Int.reduceLE, Int.reduceToNat, Int.reducePow, Int.reduceNeg, Nat.reduceBEq, Tryd.ntmps34] <;> with_reducible rfl) (chkErr_ok b [101, 110, 100, 115] e 0 _ _) (Δ1 := [_]) (Fr := []) (List.Perm.refl _) ?_ (by rintro x Δ' ⟨e1, _⟩; cases e1)
        rintro x D' ⟨e1, rfl⟩
        cases e1
        simp only [List.append_nil]
        refine J_mrun (own := []) (m := 2000) (by simp (maxSteps := 2000000) (disch := omega) only [go_sem, ↓reduceIte, Int.reduceLT, Int.reduceLE, Int.reduceToNat, Int.reducePow, Int.reduceNeg, Nat.reduceBEq, Tryd.ntmps34] <;> with_reducible rfl) ?_
        refine J_false (by simp only [go_sem, ↓reduceIte, Int.reduceLT, Int.reduceLE, Int.reduceToNat, Int.reducePow, Int.reduceNeg, Nat.reduceBEq] <;> with_reducible rfl) ?_
        refine J_mrun (own := []) (m := 2000) (by simp (maxSteps := 2000000) (disch := omega) only [go_sem, ↓reduceIte, Int.reduceLT, Int.reduceLE, Int.reduceToNat, Int.reducePow, Int.reduceNeg, Nat.reduceBEq, Tryd.ntmps34] <;> with_reducible rfl) ?_
        refine J_forget ?_
        refine J_retX Tryd.func34 (by simp only [go_sem, ↓reduceIte, Int.reduceLT, Int.reduceLE, Int.reduceToNat, Int.reducePow, Int.reduceNeg, Nat.reduceBEq, Tryd.f34] <;> first | with_reducible rfl | rfl) ⟨⟨_, rfl, by rw [hc]; exact .code _ _ _ _ (by decide)⟩, rfl⟩
      · rw [chk_good h2]
        refine J_mrun (own := []) (m := 2000) (by simp (maxSteps := 2000000) (disch := omega) only [go_sem, ↓reduceIte, Int.reduceLT, Int.reduceLE, Int.reduceToNat, Int.reducePow, Int.reduceNeg, Nat.reduceBEq, Tryd.ntmps34] <;> with_reducible rfl) ?_
        refine J_calls (by simp only [go_sem, ↓reduceIte, Int.reduceLT, Int.reduceLE, Int.reduceToNat, Int.reducePow, Int.reduceNeg, Nat.reduceBEq, Tryd.ntmps34] <;> with_reducible rfl) (chkNil_ok b [101, 110, 100, 115] e 0) (Δ1 := [_]) (Fr := []) (List.Perm.refl _) ?_ (by rintro x Δ' ⟨e1, _⟩; cases e1)
        rintro x D' ⟨e1, rfl⟩
        cases e1
        simp only [List.append_nil]
        by_cases h3 : badB e 0
        · have hc : checkCode ⟨k, v, a, e, bs⟩ = 2 := by
            simp only [checkCode]; rw [if_neg (by simpa using h0'), if_pos (by unfold badNum; unfold badB at h3; simp only; omega)]
          rw [chk_bad h3]
          refine J_mrun (own := []) (m := 2000) (by simp (maxSteps := 2000000) (disch := omega) only [go_sem, ↓reduceIte, Int.reduceLT, Int.reduceLE, Int.reduceToNat, Int.reducePow, Int.reduceNeg, Nat.reduceBEq, Tryd.ntmps34] <;> with_reducible rfl) ?_
          refine J_false (by simp only [go_sem, ↓reduceIte, Int.reduceLT, Int.reduceLE, Int.reduceToNat, Int.reducePow, Int.reduceNeg, Nat.reduceBEq] <;> with_reducible rfl) ?_
          refine J_mrun (own := []) (m := 2000) (by simp (maxSteps := 2000000) (disch := omega) only [go_sem, ↓reduceIte, Int.reduceLT, Int.reduceLE, Int.reduceToNat, Int.reducePow, Int.reduceNeg, Nat.reduceBEq, Tryd.ntmps34] <;> with_reducible rfl) ?_
          refine J_forget ?_
          refine J_retX Tryd.func34 (by simp only [go_sem, ↓reduceIte, Int.reduceLT, Int.reduceLE, Int.reduceToNat, Int.reducePow, Int.reduceNeg, Nat.reduceBEq, Tryd.f34] <;> first | with_reducible rfl | rfl) ⟨⟨_, rfl, by rw [hc]; exact .code _ _ _ _ (by decide)⟩, rfl⟩
        · have hbad : ¬ badNum ⟨k, v, a, e, bs⟩ := by unfold badNum; unfold badB at h1 h2 h3; simp only; omega
          rw [chk_good h3]
          refine J_mrun (own := []) (m := 2000) (by simp (maxSteps := 2000000) (disch := omega) only [go_sem, ↓reduceIte, Int.reduceLT, Int.reduceLE, Int.reduceToNat, Int.reducePow, Int.reduceNeg, Nat.reduceBEq, Tryd.ntmps34] <;> with_reducible rfl) ?_
          refine J_if (by simp only [go_sem, ↓reduceIte, Int.reduceLT, Int.reduceLE, Int.reduceToNat, Int.reducePow, Int.reduceNeg, Nat.reduceBEq] <;> with_reducible rfl) (fun h7 => ?_) (fun h7 => ?_)
          · have hc : checkCode ⟨k, v, a, e, bs⟩ = 3 := by
              simp only [checkCode]; rw [if_neg (by simpa using h0'), if_neg hbad, if_pos (by show 4096 < bs.length; omega)]
            refine J_mrun (own := []) (m := 2000) (by simp (maxSteps := 2000000) (disch := omega) only [go_sem, ↓reduceIte, Int.reduceLT, Int.reduceLE, Int.reduceToNat, Int.reducePow, Int.reduceNeg, Nat.reduceBEq, Tryd.ntmps34] <;> with_reducible rfl) ?_
            have hnew := new_ok [118, 97, 108, 117, 101] bs.length 3
            rw [errNew, if_neg (by decide), AV.str] at hnew
            refine J_callp (by simp only [go_sem, ↓reduceIte, Int.reduceLT, Int.reduceLE, Int.reduceToNat, Int.reducePow, Int.reduceNeg, Nat.reduceBEq, Tryd.ntmps34] <;> with_reducible rfl) (hnew) ?_
            refine J_mrun (own := []) (m := 2000) (by simp (maxSteps := 2000000) (disch := omega) only [go_sem, ↓reduceIte, Int.reduceLT, Int.reduceLE, Int.reduceToNat, Int.reducePow, Int.reduceNeg, Nat.reduceBEq, Tryd.ntmps34] <;> with_reducible rfl) ?_
            refine J_forget ?_
            refine J_retX Tryd.func34 (by simp only [go_sem, ↓reduceIte, Int.reduceLT, Int.reduceLE, Int.reduceToNat, Int.reducePow, Int.reduceNeg, Nat.reduceBEq, Tryd.f34] <;> first | with_reducible rfl | rfl) ⟨⟨_, rfl, by rw [hc]; exact .code _ _ _ _ (by decide)⟩, rfl⟩
          · have hc : checkCode ⟨k, v, a, e, bs⟩ = 0 := by
              simp only [checkCode]; rw [if_neg (by simpa using h0'), if_neg hbad, if_neg (by show ¬ 4096 < bs.length; omega)]
            refine J_mrun (own := []) (m := 2000) (by simp (maxSteps := 2000000) (disch := omega) only [go_sem, ↓reduceIte, Int.reduceLT, Int.reduceLE, Int.reduceToNat, Int.reducePow, Int.reduceNeg, Nat.reduceBEq, Tryd.ntmps34] <;> with_reducible rfl) ?_
            refine J_forget ?_
            refine J_retX Tryd.func34 (by simp only [go_sem, ↓reduceIte, Int.reduceLT, Int.reduceLE, Int.reduceToNat, Int.reducePow, Int.reduceNeg, Nat.reduceBEq, Tryd.f34] <;> first | with_reducible rfl | rfl) ⟨⟨_, rfl, by rw [hc]; exact .none⟩, rfl⟩
end Go.Proofs.YtncincpkdphojaaDoor
end

section
namespace Go.Proofs.YtncincpkdphojaaDoor
open Go Go.Av
set_option linter.unusedVariables false
set_option linter.unusedSimpArgs false
set_option maxRecDepth 100000
set_option maxHeartbeats 4000000
attribute [local go_sem] packed List.set_cons_zero List.set_cons_succ

theorem delE_ok (rows : List (List AV)) (hs : ∀ r ∈ rows, r.length = 5) (hc : rows.flatten.all AV.isCell = true) (i : Nat) (hi : i < rows.length) (hl : rows.length < 2 ^ 30) {v : Value} {D : List HP} (how : Own 33 5 rows.flatten rows.length v D) :
    ACalls Tryd.prog 43 [.c v, .c (.int .i64 i), .c (.int .i64 (i + 1))] D (fun r Δ' => ∃ v', r = .ret (.c v') ∧ Own 33 5 (rows.eraseIdx i).flatten (rows.length - 1) v' Δ') := by
  cases how with
  | nil _ h => omega
  | box b cap sp hcl hsp hcap =>
  have h0 : (0 : Int) ≤ (i : Int) := by omega
  have hne : ((i : Int) = (i : Int) + 1) = False := eq_false (by omega)
  have h3 : ((i : Int) + 1).toNat = i + 1 := by omega
  have h4 : (rows.length = i) = False := eq_false (by omega)
  have h5 : (cap = i) = False := eq_false (by omega)
  obtain ⟨sp1, q1, q2⟩ := del_cells (sp := sp) hs hi
  have hlen := flat_len hs
  have hcall : ((rows.flatten ++ sp).drop ((i + 1) * 5)).take ((rows.length - (i + 1)) * 5) = (rows.drop (i + 1)).flatten := by
    rw [List.drop_append_of_le_length (by rw [hlen]; exact Nat.mul_le_mul_right _ (by omega)), flat_drop _ hs, List.take_append_of_le_length, List.take_of_length_le]
    · rw [flat_len (s := 5) (fun r hr => hs r (List.mem_of_mem_drop hr)), List.length_drop]; omega
    · rw [flat_len (s := 5) (fun r hr => hs r (List.mem_of_mem_drop hr)), List.length_drop]; omega
  have hcd : (rows.drop (i + 1)).flatten.all AV.isCell = true := by
    rw [List.all_eq_true] at hc ⊢
    intro x hx
    rw [List.mem_flatten] at hx
    obtain ⟨r, hr, hx⟩ := hx
    exact hc x (List.mem_flatten.2 ⟨r, List.mem_of_mem_drop hr, hx⟩)
  have hsrc : ∀ c, srcOf [HP.box b 33 (rows.flatten ++ sp)] 5 (.c (.slice (if cap = i + 1 then some ⟨b, 0, none⟩ else some ⟨b, (i + 1) * 5, none⟩) (rows.length - (i + 1)) c)) = some (rows.length - (i + 1), (rows.drop (i + 1)).flatten) := by
    intro c
    by_cases hcp : cap = i + 1
    · have e1 : rows.length - (i + 1) = 0 := by omega
      have e2 : rows.drop (i + 1) = [] := List.drop_of_length_le (by omega)
      simp [srcOf, getBox, hcp, e1, e2]
    · rw [if_neg hcp]
      simp only [srcOf, getBox, if_true]
      rw [if_pos (by rw [List.length_append, hlen, ← Nat.add_mul]; exact Nat.le_trans (Nat.mul_le_mul_right _ (by omega)) (Nat.le_add_right _ _)), hcall]
  have hbox : getBox [HP.box b 33 (rows.flatten ++ sp)] b = some (33, rows.flatten ++ sp) := by simp only [getBox, if_true]
  refine calls_of_J cl_43 Tryd.func43 rfl (by simp [Tryd.ntmps43]) ?_
  refine J_mrun (own := []) (m := 2000) (by simp (maxSteps := 2000000) (disch := omega) only [go_sem, ↓reduceIte, Int.reduceLT, Int.reduceLE, Int.reduceToNat, Int.reducePow, Int.reduceNeg, Nat.reduceBEq, Tryd.ntmps43, hne, h3] <;> with_reducible rfl) ?_
  refine J_false (by simp only [go_sem, ↓reduceIte, Int.reduceLT, Int.reduceLE, Int.reduceToNat, Int.reducePow, Int.reduceNeg, Nat.reduceBEq] <;> with_reducible rfl) ?_
  refine J_mrun (own := []) (m := 2000) (by simp (maxSteps := 2000000) (disch := omega) only [go_sem, ↓reduceIte, Int.reduceLT, Int.reduceLE, Int.reduceToNat, Int.reducePow, Int.reduceNeg, Nat.reduceBEq, Tryd.ntmps43] <;> with_reducible rfl) ?_
  refine J_draw [[], [], [0, 1], [], [], [3, 4], [0, 1, 2, 3, 4, 5], [0, 1, 2, 3, 4, 5, 6]] [(0, .pure), (1, .pure), (2, .pure), (3, .pure), (4, .pure), (5, .pure), (6, .act), (7, .pure)] mixed (by kernel_rfl) ?_
  refine Can_run (own := []) (by simp (maxSteps := 2000000) (disch := omega) only [go_sem, ↓reduceIte, Int.reduceLT, Int.reduceLE, Int.reduceToNat, Int.reducePow, Int.reduceNeg, Nat.reduceBEq, Tryd.ntmps43, h3, h5] <;> with_reducible rfl) ?_
  refine Can_bi (by simp only [go_sem, ↓reduceIte, Int.reduceLT, Int.reduceLE, Int.reduceToNat, Int.reducePow, Int.reduceNeg, Nat.reduceBEq, Tryd.ntmps43] <;> with_reducible rfl) (appendIn_bi (by simp only [go_sem, ↓reduceIte, Int.reduceLT, Int.reduceLE, Int.reduceToNat, Int.reducePow, Int.reduceNeg, Nat.reduceBEq] <;> with_reducible rfl) (hsrc _) (by omega) hbox hcd (by rw [List.length_append, hlen, Nat.zero_add]; exact Nat.le_trans (Nat.mul_le_mul_right _ (by omega)) (Nat.le_add_right _ _))) ?_
  rintro x D' ⟨rfl, rfl⟩
  refine Can_run (own := []) (by simp (maxSteps := 2000000) (disch := omega) only [go_sem, ↓reduceIte, Int.reduceLT, Int.reduceLE, Int.reduceToNat, Int.reducePow, Int.reduceNeg, Nat.reduceBEq, Tryd.ntmps43] <;> with_reducible rfl) ?_
  refine Can_nil ?_
  rw [hcall] at q2
  rw [q2]
  have hm : i + (rows.length - (i + 1)) = rows.length - 1 := by omega
  have hm1 : (cap = rows.length - 1) = False := eq_false (by omega)
  have hm2 : rows.length - (rows.length - 1) = 1 := by omega
  have hel : (rows.eraseIdx i).flatten.length = (rows.length - 1) * 5 := by
    rw [flat_len (s := 5) (fun r hr => hs r (List.mem_of_mem_eraseIdx hr)), List.length_eraseIdx_of_lt hi]
  refine J_mrun (own := []) (m := 2000) (by simp (maxSteps := 2000000) (disch := omega) only [go_sem, ↓reduceIte, Int.reduceLT, Int.reduceLE, Int.reduceToNat, Int.reducePow, Int.reduceNeg, Nat.reduceBEq, Tryd.ntmps43, hm, hm1, hm2] <;> with_reducible rfl) ?_
  refine J_bi (by simp only [go_sem, ↓reduceIte, Int.reduceLT, Int.reduceLE, Int.reduceToNat, Int.reducePow, Int.reduceNeg, Nat.reduceBEq, Tryd.ntmps43] <;> with_reducible rfl) (clear_bi (by simp only [go_sem, ↓reduceIte, Int.reduceLT, Int.reduceLE, Int.reduceToNat, Int.reducePow, Int.reduceNeg, Nat.reduceBEq] <;> with_reducible rfl) (by simp only [go_sem, ↓reduceIte, Int.reduceLT, Int.reduceLE, Int.reduceToNat, Int.reducePow, Int.reduceNeg, Nat.reduceBEq] <;> with_reducible rfl) (by simp only [go_sem, ↓reduceIte, Int.reduceLT, Int.reduceLE, Int.reduceToNat, Int.reducePow, Int.reduceNeg, Nat.reduceBEq] <;> with_reducible rfl) (by rfl) (by rfl) getBox_head (by rw [List.length_append, hel, q1]; omega)) ?_
  rintro x D' ⟨z, hz, rfl⟩
  simp only [setBox, if_true]
  obtain ⟨sp2, r1, r2⟩ := wipe_cells (z := z) (m := (rows.length - 1) * 5) (s := 5) (by rw [hz]) hel (by rw [q1]; omega)
  rw [r2]
  refine J_mrun (own := []) (m := 2000) (by simp (maxSteps := 2000000) (disch := omega) only [go_sem, ↓reduceIte, Int.reduceLT, Int.reduceLE, Int.reduceToNat, Int.reducePow, Int.reduceNeg, Nat.reduceBEq, Tryd.ntmps43] <;> with_reducible rfl) ?_
  refine J_retX Tryd.func43 (by simp only [go_sem, ↓reduceIte, Int.reduceLT, Int.reduceLE, Int.reduceToNat, Int.reducePow, Int.reduceNeg, Nat.reduceBEq, Tryd.f43] <;> first | with_reducible rfl | rfl) ⟨_, rfl, .box b cap sp2 hel (by rw [r1, q1, hsp]; omega) (by omega)⟩
theorem delF_ok (rows : List (List AV)) (hs : ∀ r ∈ rows, r.length = 2) (hc : rows.flatten.all AV.isCell = true) (i : Nat) (hi : i < rows.length) (hl : rows.length < 2 ^ 30) {v : Value} {D : List HP} (how : Own 87 2 rows.flatten rows.length v D) :
    ACalls Tryd.prog 48 [.c v, .c (.int .i64 i), .c (.int .i64 (i + 1))] D (fun r Δ' => ∃ v', r = .ret (.c v') ∧ Own 87 2 (rows.eraseIdx i).flatten (rows.length - 1) v' Δ') := by
  cases how with
  | nil _ h => omega
  | box b cap sp hcl hsp hcap =>
  have h0 : (0 : Int) ≤ (i : Int) := by omega
  have hne : ((i : Int) = (i : Int) + 1) = False := eq_false (by omega)
  have h3 : ((i : Int) + 1).toNat = i + 1 := by omega
  have h4 : (rows.length = i) = False := eq_false (by omega)
  have h5 : (cap = i) = False := eq_false (by omega)
  obtain ⟨sp1, q1, q2⟩ := del_cells (sp := sp) hs hi
  have hlen := flat_len hs
  have hcall : ((rows.flatten ++ sp).drop ((i + 1) * 2)).take ((rows.length - (i + 1)) * 2) = (rows.drop (i + 1)).flatten := by
    rw [List.drop_append_of_le_length (by rw [hlen]; exact Nat.mul_le_mul_right _ (by omega)), flat_drop _ hs, List.take_append_of_le_length, List.take_of_length_le]
    · rw [flat_len (s := 2) (fun r hr => hs r (List.mem_of_mem_drop hr)), List.length_drop]; omega
    · rw [flat_len (s := 2) (fun r hr => hs r (List.mem_of_mem_drop hr)), List.length_drop]; omega
  have hcd : (rows.drop (i + 1)).flatten.all AV.isCell = true := by
    rw [List.all_eq_true] at hc ⊢
    intro x hx
    rw [List.mem_flatten] at hx
    obtain ⟨r, hr, hx⟩ := hx
    exact hc x (List.mem_flatten.2 ⟨r, List.mem_of_mem_drop hr, hx⟩)
  have hsrc : ∀ c, srcOf [HP.box b 87 (rows.flatten ++ sp)] 2 (.c (.slice (if cap = i + 1 then some ⟨b, 0, none⟩ else some ⟨b, (i + 1) * 2, none⟩) (rows.length - (i + 1)) c)) = some (rows.length - (i + 1), (rows.drop (i + 1)).flatten) := by
    intro c
    by_cases hcp : cap = i + 1
    · have e1 : rows.length - (i + 1) = 0 := by omega
      have e2 : rows.drop (i + 1) = [] := List.drop_of_length_le (by omega)
      simp [srcOf, getBox, hcp, e1, e2]
    · rw [if_neg hcp]
      simp only [srcOf, getBox, if_true]
      rw [if_pos (by rw [List.length_append, hlen, ← Nat.add_mul]; exact Nat.le_trans (Nat.mul_le_mul_right _ (by omega)) (Nat.le_add_right _ _)), hcall]
  have hbox : getBox [HP.box b 87 (rows.flatten ++ sp)] b = some (87, rows.flatten ++ sp) := by simp only [getBox, if_true]
  refine calls_of_J cl_48 Tryd.func48 rfl (by simp [Tryd.ntmps48]) ?_
  refine J_mrun (own := []) (m := 2000) (by simp (maxSteps := 2000000) (disch := omega) only [go_sem, ↓reduceIte, Int.reduceLT, Int.reduceLE, Int.reduceToNat, Int.reducePow, Int.reduceNeg, Nat.reduceBEq, Tryd.ntmps48, hne, h3] <;> with_reducible rfl) ?_
  refine J_false (by simp only [go_sem, ↓reduceIte, Int.reduceLT, Int.reduceLE, Int.reduceToNat, Int.reducePow, Int.reduceNeg, Nat.reduceBEq] <;> with_reducible rfl) ?_
  refine J_mrun (own := []) (m := 2000) (by simp (maxSteps := 2000000) (disch := omega) only [go_sem, ↓reduceIte, Int.reduceLT, Int.reduceLE, Int.reduceToNat, Int.reducePow, Int.reduceNeg, Nat.reduceBEq, Tryd.ntmps48] <;> with_reducible rfl) ?_
  refine J_draw [[], [], [0, 1], [], [], [3, 4], [0, 1, 2, 3, 4, 5], [0, 1, 2, 3, 4, 5, 6]] [(0, .pure), (1, .pure), (2, .pure), (3, .pure), (4, .pure), (5, .pure), (6, .act), (7, .pure)] mixed (by kernel_rfl) ?_
  refine Can_run (own := []) (by simp (maxSteps := 2000000) (disch := omega) only [go_sem, ↓reduceIte, Int.reduceLT, Int.reduceLE, Int.reduceToNat, Int.reducePow, Int.reduceNeg, Nat.reduceBEq, Tryd.ntmps48, h3, h5] <;> with_reducible rfl) ?_
  refine Can_bi (by simp only [go_sem, ↓reduceIte, Int.reduceLT, Int.reduceLE, Int.reduceToNat, Int.reducePow, Int.reduceNeg, Nat.reduceBEq, Tryd.ntmps48] <;> with_reducible rfl) (appendIn_bi (by simp only [go_sem, ↓reduceIte, Int.reduceLT, Int.reduceLE, Int.reduceToNat, Int.reducePow, Int.reduceNeg, Nat.reduceBEq] <;> with_reducible rfl) (hsrc _) (by omega) hbox hcd (by rw [List.length_append, hlen, Nat.zero_add]; exact Nat.le_trans (Nat.mul_le_mul_right _ (by omega)) (Nat.le_add_right _ _))) ?_
  rintro x D' ⟨rfl, rfl⟩
  refine Can_run (own := []) (by simp (maxSteps := 2000000) (disch := omega) only [go_sem, ↓reduceIte, Int.reduceLT, Int.reduceLE, Int.reduceToNat, Int.reducePow, Int.reduceNeg, Nat.reduceBEq, Tryd.ntmps48] <;> with_reducible rfl) ?_
  refine Can_nil ?_
  rw [hcall] at q2
  rw [q2]
  have hm : i + (rows.length - (i + 1)) = rows.length - 1 := by omega
  have hm1 : (cap = rows.length - 1) = False := eq_false (by omega)
  have hm2 : rows.length - (rows.length - 1) = 1 := by omega
  have hel : (rows.eraseIdx i).flatten.length = (rows.length - 1) * 2 := by
    rw [flat_len (s := 2) (fun r hr => hs r (List.mem_of_mem_eraseIdx hr)), List.length_eraseIdx_of_lt hi]
  refine J_mrun (own := []) (m := 2000) (by simp (maxSteps := 2000000) (disch := omega) only [go_sem, ↓reduceIte, Int.reduceLT, Int.reduceLE, Int.reduceToNat, Int.reducePow, Int.reduceNeg, Nat.reduceBEq, Tryd.ntmps48, hm, hm1, hm2] <;> with_reducible rfl) ?_
  refine J_bi (by simp only [go_sem, ↓reduceIte, Int.reduceLT, Int.reduceLE, Int.reduceToNat, Int.reducePow, Int.reduceNeg, Nat.reduceBEq, Tryd.ntmps48] <;> with_reducible rfl) (clear_bi (by simp only [go_sem, ↓reduceIte, Int.reduceLT, Int.reduceLE, Int.reduceToNat, Int.reducePow, Int.reduceNeg, Nat.reduceBEq] <;> with_reducible rfl) (by simp only [go_sem, ↓reduceIte, Int.reduceLT, Int.reduceLE, Int.reduceToNat, Int.reducePow, Int.reduceNeg, Nat.reduceBEq] <;> with_reducible rfl) (by simp only [go_sem, ↓reduceIte, Int.reduceLT, Int.reduceLE, Int.reduceToNat, Int.reducePow, Int.reduceNeg, Nat.reduceBEq] <;> with_reducible rfl) (by rfl) (by rfl) getBox_head (by rw [List.length_append, hel, q1]; omega)) ?_
  rintro x D' ⟨z, hz, rfl⟩
  simp only [setBox, if_true]
  obtain ⟨sp2, r1, r2⟩ := wipe_cells (z := z) (m := (rows.length - 1) * 2) (s := 2) (by rw [hz]) hel (by rw [q1]; omega)
  rw [r2]
  refine J_mrun (own := []) (m := 2000) (by simp (maxSteps := 2000000) (disch := omega) only [go_sem, ↓reduceIte, Int.reduceLT, Int.reduceLE, Int.reduceToNat, Int.reducePow, Int.reduceNeg, Nat.reduceBEq, Tryd.ntmps48] <;> with_reducible rfl) ?_
  refine J_retX Tryd.func48 (by simp only [go_sem, ↓reduceIte, Int.reduceLT, Int.reduceLE, Int.reduceToNat, Int.reducePow, Int.reduceNeg, Nat.reduceBEq, Tryd.f48] <;> first | with_reducible rfl | rfl) ⟨_, rfl, .box b cap sp2 hel (by rw [r1, q1, hsp]; omega) (by omega)⟩
end Go.Proofs.YtncincpkdphojaaDoor
end

section
namespace Go.Proofs.YtncincpkdphojaaDoor
open Go Go.Av
set_option linter.unusedVariables false
set_option linter.unusedSimpArgs false
set_option maxRecDepth 100000
set_option maxHeartbeats 4000000
attribute [local go_sem] packed List.set_cons_zero List.set_cons_succ

theorem insE_ok (rows : List (List AV)) (hs : ∀ r ∈ rows, r.length = 5) (hc : rows.flatten.all AV.isCell = true) (x : List AV) (hx : x.length = 5) (hxc : x.all AV.isCell = true) (i : Nat) (hi : i ≤ rows.length) (hl : rows.length < 2 ^ 30) {v : Value} {D : List HP}
    (how : Own 33 5 rows.flatten rows.length v D) :
    ACalls Tryd.prog 40 [.c v, .c (.int .i64 i), .sl 5 [x]] D (fun r Δ' => ∃ v', r = .ret (.c v') ∧ Own 33 5 ((rows.take i).flatten ++ x ++ (rows.drop i).flatten) (rows.length + 1) v' Δ') := by
  have h0 : (0 : Int) ≤ (i : Int) := by omega
  have hz : (((1 : Nat) : Int) = 0) = False := eq_false (by decide)
  have hsx : ∀ Δ, srcOf Δ 5 (.sl 5 [x]) = some (1, x) := fun Δ => by simp [srcOf]
  cases how with
  | nil hnil hlen =>
    have hr : rows = [] := List.eq_nil_of_length_eq_zero hlen
    subst hr
    have hi0 : i = 0 := by simpa using hi
    subst hi0
    refine calls_of_J cl_40 Tryd.func40 rfl (by simp [Tryd.ntmps40]) ?_
    refine J_mrun (own := []) (m := 2000) (by simp (maxSteps := 2000000) (disch := omega) only [go_sem, ↓reduceIte, Int.reduceLT, Int.reduceLE, Int.reduceToNat, Int.reducePow, Int.reduceNeg, Nat.reduceBEq, Tryd.ntmps40, hz] <;> with_reducible rfl) ?_
    refine J_false (by simp only [go_sem, ↓reduceIte, Int.reduceLT, Int.reduceLE, Int.reduceToNat, Int.reducePow, Int.reduceNeg, Nat.reduceBEq] <;> with_reducible rfl) ?_
    refine J_mrun (own := []) (m := 2000) (by simp (maxSteps := 2000000) (disch := omega) only [go_sem, ↓reduceIte, Int.reduceLT, Int.reduceLE, Int.reduceToNat, Int.reducePow, Int.reduceNeg, Nat.reduceBEq, Tryd.ntmps40] <;> with_reducible rfl) ?_
    refine J_true (by simp only [go_sem, ↓reduceIte, Int.reduceLT, Int.reduceLE, Int.reduceToNat, Int.reducePow, Int.reduceNeg, Nat.reduceBEq] <;> with_reducible rfl) ?_
    refine J_mrun (own := [25]) (m := 2000) (by simp (maxSteps := 2000000) (disch := omega) only [go_sem, ↓reduceIte, Int.reduceLT, Int.reduceLE, Int.reduceToNat, Int.reducePow, Int.reduceNeg, Nat.reduceBEq, Tryd.ntmps40] <;> with_reducible rfl) ?_
    refine J_bi (by simp only [go_sem, ↓reduceIte, Int.reduceLT, Int.reduceLE, Int.reduceToNat, Int.reducePow, Int.reduceNeg, Nat.reduceBEq, Tryd.ntmps40] <;> with_reducible rfl) (append_bi (by simp only [go_sem, ↓reduceIte, Int.reduceLT, Int.reduceLE, Int.reduceToNat, Int.reducePow, Int.reduceNeg, Nat.reduceBEq] <;> with_reducible rfl) (Own.nil (e := 33) (s := 5) (cells := []) rfl rfl) (Fr := []) (by simp) (hsx _) hxc (by omega)) ?_
    rintro _ _ ⟨v', D', rfl, rfl, how'⟩
    refine J_mrun (own := []) (m := 2000) (by simp (maxSteps := 2000000) (disch := omega) only [go_sem, ↓reduceIte, Int.reduceLT, Int.reduceLE, Int.reduceToNat, Int.reducePow, Int.reduceNeg, Nat.reduceBEq, Tryd.ntmps40] <;> with_reducible rfl) ?_
    refine J_retX Tryd.func40 (by simp only [go_sem, ↓reduceIte, Int.reduceLT, Int.reduceLE, Int.reduceToNat, Int.reducePow, Int.reduceNeg, Nat.reduceBEq, Tryd.f40] <;> first | with_reducible rfl | rfl) ⟨v', rfl, by simpa using how'⟩
  | box b cap sp hcl hsp hcap =>
    have hlen := flat_len hs
    refine calls_of_J cl_40 Tryd.func40 rfl (by simp [Tryd.ntmps40]) ?_
    by_cases hil : i = rows.length
    · subst hil
      refine J_mrun (own := []) (m := 2000) (by simp (maxSteps := 2000000) (disch := omega) only [go_sem, ↓reduceIte, Int.reduceLT, Int.reduceLE, Int.reduceToNat, Int.reducePow, Int.reduceNeg, Nat.reduceBEq, Tryd.ntmps40, hz] <;> with_reducible rfl) ?_
      refine J_false (by simp only [go_sem, ↓reduceIte, Int.reduceLT, Int.reduceLE, Int.reduceToNat, Int.reducePow, Int.reduceNeg, Nat.reduceBEq] <;> with_reducible rfl) ?_
      refine J_mrun (own := []) (m := 2000) (by simp (maxSteps := 2000000) (disch := omega) only [go_sem, ↓reduceIte, Int.reduceLT, Int.reduceLE, Int.reduceToNat, Int.reducePow, Int.reduceNeg, Nat.reduceBEq, Tryd.ntmps40] <;> with_reducible rfl) ?_
      refine J_true (by simp only [go_sem, ↓reduceIte, Int.reduceLT, Int.reduceLE, Int.reduceToNat, Int.reducePow, Int.reduceNeg, Nat.reduceBEq] <;> with_reducible rfl) ?_
      refine J_mrun (own := []) (m := 2000) (by simp (maxSteps := 2000000) (disch := omega) only [go_sem, ↓reduceIte, Int.reduceLT, Int.reduceLE, Int.reduceToNat, Int.reducePow, Int.reduceNeg, Nat.reduceBEq, Tryd.ntmps40] <;> with_reducible rfl) ?_
      refine J_bi (by simp only [go_sem, ↓reduceIte, Int.reduceLT, Int.reduceLE, Int.reduceToNat, Int.reducePow, Int.reduceNeg, Nat.reduceBEq, Tryd.ntmps40] <;> with_reducible rfl) (append_bi (by simp only [go_sem, ↓reduceIte, Int.reduceLT, Int.reduceLE, Int.reduceToNat, Int.reducePow, Int.reduceNeg, Nat.reduceBEq] <;> with_reducible rfl) (Own.box (e := 33) (s := 5) (cells := rows.flatten) (len := rows.length) b cap sp hcl hsp hcap) (Fr := []) (by simp) (hsx _) hxc (by omega)) ?_
      rintro _ _ ⟨v', D', rfl, rfl, how'⟩
      refine J_mrun (own := []) (m := 2000) (by simp (maxSteps := 2000000) (disch := omega) only [go_sem, ↓reduceIte, Int.reduceLT, Int.reduceLE, Int.reduceToNat, Int.reducePow, Int.reduceNeg, Nat.reduceBEq, Tryd.ntmps40] <;> with_reducible rfl) ?_
      refine J_retX Tryd.func40 (by simp only [go_sem, ↓reduceIte, Int.reduceLT, Int.reduceLE, Int.reduceToNat, Int.reducePow, Int.reduceNeg, Nat.reduceBEq, Tryd.f40] <;> first | with_reducible rfl | rfl) ⟨v', rfl, by simpa using how'⟩
    · have hlt : i < rows.length := by omega
      have e1 : ((i : Int) = (rows.length : Int)) = False := eq_false (by omega)
      have hT : (rows.take i).flatten.length = i * 5 := by rw [flat_len (s := 5) (fun r hr => hs r (List.mem_of_mem_take hr)), List.length_take]; congr 1; omega
      have hR : (rows.drop i).flatten.length = (rows.length - i) * 5 := by rw [flat_len (s := 5) (fun r hr => hs r (List.mem_of_mem_drop hr)), List.length_drop]
      have hTR : rows.flatten = (rows.take i).flatten ++ (rows.drop i).flatten := by rw [← List.flatten_append, List.take_append_drop]
      have hRc : (rows.drop i).flatten.all AV.isCell = true := by rw [hTR, List.all_append, Bool.and_eq_true] at hc; exact hc.2
      by_cases hgr : cap < rows.length + 1
      · have e2 : ((cap : Int) < (rows.length : Int) + ((1 : Nat) : Int)) = True := eq_true (by omega)
        refine J_mrun (own := []) (m := 2000) (by simp (maxSteps := 2000000) (disch := omega) only [go_sem, ↓reduceIte, Int.reduceLT, Int.reduceLE, Int.reduceToNat, Int.reducePow, Int.reduceNeg, Nat.reduceBEq, Tryd.ntmps40, hz, e1] <;> with_reducible rfl) ?_
        refine J_false (by simp only [go_sem, ↓reduceIte, Int.reduceLT, Int.reduceLE, Int.reduceToNat, Int.reducePow, Int.reduceNeg, Nat.reduceBEq] <;> with_reducible rfl) ?_
        refine J_mrun (own := []) (m := 2000) (by simp (maxSteps := 2000000) (disch := omega) only [go_sem, ↓reduceIte, Int.reduceLT, Int.reduceLE, Int.reduceToNat, Int.reducePow, Int.reduceNeg, Nat.reduceBEq, Tryd.ntmps40, e1] <;> with_reducible rfl) ?_
        refine J_false (by simp only [go_sem, ↓reduceIte, Int.reduceLT, Int.reduceLE, Int.reduceToNat, Int.reducePow, Int.reduceNeg, Nat.reduceBEq] <;> with_reducible rfl) ?_
        refine J_mrun (own := []) (m := 2000) (by simp (maxSteps := 2000000) (disch := omega) only [go_sem, ↓reduceIte, Int.reduceLT, Int.reduceLE, Int.reduceToNat, Int.reducePow, Int.reduceNeg, Nat.reduceBEq, Tryd.ntmps40] <;> with_reducible rfl) ?_
        refine J_bi (by simp only [go_sem, ↓reduceIte, Int.reduceLT, Int.reduceLE, Int.reduceToNat, Int.reducePow, Int.reduceNeg, Nat.reduceBEq, Tryd.ntmps40] <;> with_reducible rfl) (cap_bi (by simp only [go_sem, ↓reduceIte, Int.reduceLT, Int.reduceLE, Int.reduceToNat, Int.reducePow, Int.reduceNeg, Nat.reduceBEq] <;> with_reducible rfl)) ?_
        rintro x D' ⟨rfl, rfl⟩
        refine J_mrun (own := []) (m := 2000) (by simp (maxSteps := 2000000) (disch := omega) only [go_sem, ↓reduceIte, Int.reduceLT, Int.reduceLE, Int.reduceToNat, Int.reducePow, Int.reduceNeg, Nat.reduceBEq, Tryd.ntmps40, e2] <;> with_reducible rfl) ?_
        refine J_true (by simp only [go_sem, ↓reduceIte, Int.reduceLT, Int.reduceLE, Int.reduceToNat, Int.reducePow, Int.reduceNeg, Nat.reduceBEq] <;> with_reducible rfl) ?_
        have e3 : (rows.length : Int) + ((1 : Nat) : Int) - (i : Int) = ((rows.length + 1 - i : Nat) : Int) := by omega
        refine J_mrun (own := []) (m := 2000) (by simp (maxSteps := 2000000) (disch := omega) only [go_sem, ↓reduceIte, Int.reduceLT, Int.reduceLE, Int.reduceToNat, Int.reducePow, Int.reduceNeg, Nat.reduceBEq, Tryd.ntmps40, e3] <;> with_reducible rfl) ?_
        refine J_bi (by simp only [go_sem, ↓reduceIte, Int.reduceLT, Int.reduceLE, Int.reduceToNat, Int.reducePow, Int.reduceNeg, Nat.reduceBEq, Tryd.ntmps40] <;> with_reducible rfl) (growZ_bi (s := 5) (old := (rows.take i).flatten) (by simp only [go_sem, ↓reduceIte, Int.reduceLT, Int.reduceLE, Int.reduceToNat, Int.reducePow, Int.reduceNeg, Nat.reduceBEq] <;> with_reducible rfl) (by simp only [srcOf, getBox_head, Nat.zero_add, List.drop_zero]; rw [if_pos (by rw [List.length_append, hlen]; omega), List.take_append_of_le_length (by omega), flat_take i hs]) (by omega) (by omega) (by omega)) ?_
        rintro _ _ ⟨b', cap', more, rfl, rfl, hfr, hmore, hcap'⟩
        simp only [fresh] at hfr
        obtain ⟨f1, f2, -⟩ := hfr
        have e4 : i + (rows.length + 1 - i) = rows.length + 1 := by omega
        have e3' : ((i : Int) + ((1 : Nat) : Int)).toNat = i + 1 := by omega
        have e7 : (cap = i) = False := eq_false (by omega)
        have e5 : (cap' = i) = False := eq_false (by omega)
        have e6 : (cap' = i + 1) = False := eq_false (by omega)
        refine J_mrun (own := []) (m := 2000) (by simp (maxSteps := 2000000) (disch := omega) only [go_sem, ↓reduceIte, Int.reduceLT, Int.reduceLE, Int.reduceToNat, Int.reducePow, Int.reduceNeg, Nat.reduceBEq, Tryd.ntmps40, e4, e5, e6, f1, f2] <;> with_reducible rfl) ?_
        have hm1 : min 1 (rows.length + 1 - i) = 1 := by omega
        have hm2 : min (rows.length - i) (rows.length + 1 - (i + 1)) = rows.length - i := by omega
        obtain ⟨rest, r1, r2⟩ := ins_grow (T := (rows.take i).flatten) (more := more) (x := x) (R := (rows.drop i).flatten) (a := i * 5) (c := (i + 1) * 5) (r := (rows.length - i) * 5) hT (by rw [List.length_append, hT, hx]; omega) hR (by rw [hx, hmore]; omega)
        rw [hx] at r2
        refine J_bi (by simp only [go_sem, ↓reduceIte, Int.reduceLT, Int.reduceLE, Int.reduceToNat, Int.reducePow, Int.reduceNeg, Nat.reduceBEq, Tryd.ntmps40] <;> with_reducible rfl) (copy_bi (n := 1) (cs := x) (s := 5) (ag := true) (e := 33) (by simp only [go_sem, ↓reduceIte, Int.reduceLT, Int.reduceLE, Int.reduceToNat, Int.reducePow, Int.reduceNeg, Nat.reduceBEq] <;> with_reducible rfl) (by simp only [go_sem, ↓reduceIte, Int.reduceLT, Int.reduceLE, Int.reduceToNat, Int.reducePow, Int.reduceNeg, Nat.reduceBEq] <;> with_reducible rfl) (hsx _) getBox_head (by rw [List.all_eq_true] at hxc ⊢; exact fun y hy => hxc y (List.mem_of_mem_take hy)) (by rw [hm1, List.length_append, hT, hmore]; omega)) ?_
        rintro _ _ ⟨rfl, rfl⟩
        simp only [setBox, if_true, hm1, Nat.one_mul]
        rw [List.take_of_length_le (l := x) (by omega)]
        refine J_mrun (own := []) (m := 2000) (by simp (maxSteps := 2000000) (disch := omega) only [go_sem, ↓reduceIte, Int.reduceLT, Int.reduceLE, Int.reduceToNat, Int.reducePow, Int.reduceNeg, Nat.reduceBEq, Tryd.ntmps40] <;> with_reducible rfl) ?_
        refine J_draw [[], [], [], [1, 2], [0, 1, 2, 3], [], [], [5, 6], [0, 1, 2, 3, 4, 5, 6, 7]] [(0, .pure), (1, .pure), (2, .pure), (3, .pure), (4, .pure), (5, .pure), (6, .pure), (7, .pure), (8, .act)] mixed (by kernel_rfl) ?_
        refine Can_run (own := []) (by simp (maxSteps := 2000000) (disch := omega) only [go_sem, ↓reduceIte, Int.reduceLT, Int.reduceLE, Int.reduceToNat, Int.reducePow, Int.reduceNeg, Nat.reduceBEq, Tryd.ntmps40, e3', e5, e6, e7, f1, f2] <;> with_reducible rfl) ?_
        refine Can_bi (by simp only [go_sem, ↓reduceIte, Int.reduceLT, Int.reduceLE, Int.reduceToNat, Int.reducePow, Int.reduceNeg, Nat.reduceBEq, Tryd.ntmps40] <;> with_reducible rfl) (copy_bi (n := rows.length - i) (cs := (rows.drop i).flatten) (s := 5) (ag := true) (e := 33) (by simp only [go_sem, ↓reduceIte, Int.reduceLT, Int.reduceLE, Int.reduceToNat, Int.reducePow, Int.reduceNeg, Nat.reduceBEq] <;> with_reducible rfl) (by simp only [go_sem, ↓reduceIte, Int.reduceLT, Int.reduceLE, Int.reduceToNat, Int.reducePow, Int.reduceNeg, Nat.reduceBEq] <;> with_reducible rfl) (by simp only [srcOf, getBox, f1, f2, if_false, if_true]; rw [if_pos (by rw [List.length_append, hlen]; omega), List.drop_append_of_le_length (by omega), flat_drop i hs, List.take_append_of_le_length (by omega), List.take_of_length_le (by omega)]) getBox_head (by rw [hm2, List.take_of_length_le (by omega)]; exact hRc) (by rw [hm2]; simp only [List.length_append, List.length_take, List.length_drop, hT, hmore, hx]; omega)) ?_
        rintro _ _ ⟨rfl, rfl⟩
        simp only [setBox, if_true, hm2]
        rw [List.take_of_length_le (l := (rows.drop i).flatten) (by omega), r2]
        refine Can_nil ?_
        refine J_mrun (own := []) (m := 2000) (by simp (maxSteps := 2000000) (disch := omega) only [go_sem, ↓reduceIte, Int.reduceLT, Int.reduceLE, Int.reduceToNat, Int.reducePow, Int.reduceNeg, Nat.reduceBEq, Tryd.ntmps40] <;> with_reducible rfl) ?_
        refine J_forgetP ?_
        refine J_retX Tryd.func40 (by simp only [go_sem, ↓reduceIte, Int.reduceLT, Int.reduceLE, Int.reduceToNat, Int.reducePow, Int.reduceNeg, Nat.reduceBEq, Tryd.f40] <;> first | with_reducible rfl | rfl) ⟨[_], [_], List.perm_append_comm (l₁ := [_]) (l₂ := [_]), _, rfl, .box b' cap' rest (by simp only [List.length_append, hT, hx, hR]; omega) (by rw [r1, hmore, hx]; omega) (by omega)⟩
      · have e2 : ((cap : Int) < (rows.length : Int) + ((1 : Nat) : Int)) = False := eq_false (by omega)
        refine J_mrun (own := []) (m := 2000) (by simp (maxSteps := 2000000) (disch := omega) only [go_sem, ↓reduceIte, Int.reduceLT, Int.reduceLE, Int.reduceToNat, Int.reducePow, Int.reduceNeg, Nat.reduceBEq, Tryd.ntmps40, hz, e1] <;> with_reducible rfl) ?_
        refine J_false (by simp only [go_sem, ↓reduceIte, Int.reduceLT, Int.reduceLE, Int.reduceToNat, Int.reducePow, Int.reduceNeg, Nat.reduceBEq] <;> with_reducible rfl) ?_
        refine J_mrun (own := []) (m := 2000) (by simp (maxSteps := 2000000) (disch := omega) only [go_sem, ↓reduceIte, Int.reduceLT, Int.reduceLE, Int.reduceToNat, Int.reducePow, Int.reduceNeg, Nat.reduceBEq, Tryd.ntmps40, e1] <;> with_reducible rfl) ?_
        refine J_false (by simp only [go_sem, ↓reduceIte, Int.reduceLT, Int.reduceLE, Int.reduceToNat, Int.reducePow, Int.reduceNeg, Nat.reduceBEq] <;> with_reducible rfl) ?_
        refine J_mrun (own := []) (m := 2000) (by simp (maxSteps := 2000000) (disch := omega) only [go_sem, ↓reduceIte, Int.reduceLT, Int.reduceLE, Int.reduceToNat, Int.reducePow, Int.reduceNeg, Nat.reduceBEq, Tryd.ntmps40] <;> with_reducible rfl) ?_
        refine J_bi (by simp only [go_sem, ↓reduceIte, Int.reduceLT, Int.reduceLE, Int.reduceToNat, Int.reducePow, Int.reduceNeg, Nat.reduceBEq, Tryd.ntmps40] <;> with_reducible rfl) (cap_bi (by simp only [go_sem, ↓reduceIte, Int.reduceLT, Int.reduceLE, Int.reduceToNat, Int.reducePow, Int.reduceNeg, Nat.reduceBEq] <;> with_reducible rfl)) ?_
        rintro x D' ⟨rfl, rfl⟩
        refine J_mrun (own := []) (m := 2000) (by simp (maxSteps := 2000000) (disch := omega) only [go_sem, ↓reduceIte, Int.reduceLT, Int.reduceLE, Int.reduceToNat, Int.reducePow, Int.reduceNeg, Nat.reduceBEq, Tryd.ntmps40, e2] <;> with_reducible rfl) ?_
        refine J_false (by simp only [go_sem, ↓reduceIte, Int.reduceLT, Int.reduceLE, Int.reduceToNat, Int.reducePow, Int.reduceNeg, Nat.reduceBEq] <;> with_reducible rfl) ?_
        have e3 : ((i : Int) + ((1 : Nat) : Int)).toNat = i + 1 := by omega
        have e4 : ((rows.length : Int) + ((1 : Nat) : Int)).toNat = rows.length + 1 := by omega
        have e5 : (cap = i + 1) = False := eq_false (by omega)
        have e6 : (cap = i) = False := eq_false (by omega)
        refine J_mrun (own := []) (m := 2000) (by simp (maxSteps := 2000000) (disch := omega) only [go_sem, ↓reduceIte, Int.reduceLT, Int.reduceLE, Int.reduceToNat, Int.reducePow, Int.reduceNeg, Nat.reduceBEq, Tryd.ntmps40, e3, e4, e5, e6] <;> with_reducible rfl) ?_
        refine J_x (by simp only [go_sem, ↓reduceIte, Int.reduceLT, Int.reduceLE, Int.reduceToNat, Int.reducePow, Int.reduceNeg, Nat.reduceBEq, Tryd.ntmps40] <;> with_reducible rfl) (overlapsF_x (sT := 27) (rT := 4) (e := 33) (s := 5) (ag := true) rfl rfl rfl (by kernel_rfl) (by kernel_rfl) (by simp only [go_sem, ↓reduceIte, Int.reduceLT, Int.reduceLE, Int.reduceToNat, Int.reducePow, Int.reduceNeg, Nat.reduceBEq] <;> with_reducible rfl) (by simp only [go_sem, ↓reduceIte, Int.reduceLT, Int.reduceLE, Int.reduceToNat, Int.reducePow, Int.reduceNeg, Nat.reduceBEq] <;> with_reducible rfl) (by decide) getBox_head (by rw [List.length_append, hlen]; omega)) ?_
        refine J_mrun (own := []) (m := 2000) (by simp (maxSteps := 2000000) (disch := omega) only [go_sem, ↓reduceIte, Int.reduceLT, Int.reduceLE, Int.reduceToNat, Int.reducePow, Int.reduceNeg, Nat.reduceBEq, Tryd.ntmps40] <;> with_reducible rfl) ?_
        refine J_true (by simp only [go_sem, ↓reduceIte, Int.reduceLT, Int.reduceLE, Int.reduceToNat, Int.reducePow, Int.reduceNeg, Nat.reduceBEq] <;> with_reducible rfl) ?_
        refine J_mrun (own := []) (m := 2000) (by simp (maxSteps := 2000000) (disch := omega) only [go_sem, ↓reduceIte, Int.reduceLT, Int.reduceLE, Int.reduceToNat, Int.reducePow, Int.reduceNeg, Nat.reduceBEq, Tryd.ntmps40] <;> with_reducible rfl) ?_
        refine J_draw [[], [], [], [1, 2], [0, 1, 2, 3], [], [], [5, 6], [0, 1, 2, 3, 4, 5, 6, 7]] [(0, .pure), (1, .pure), (2, .pure), (3, .pure), (4, .pure), (5, .pure), (6, .pure), (7, .pure), (8, .act)] mixed (by kernel_rfl) ?_
        refine Can_run (own := []) (by simp (maxSteps := 2000000) (disch := omega) only [go_sem, ↓reduceIte, Int.reduceLT, Int.reduceLE, Int.reduceToNat, Int.reducePow, Int.reduceNeg, Nat.reduceBEq, Tryd.ntmps40, e3, e5, e6] <;> with_reducible rfl) ?_
        have hm1 : min 1 (rows.length + 1 - i) = 1 := by omega
        have hm2 : min (rows.length + 1 - i) (rows.length + 1 - (i + 1)) = rows.length - i := by omega
        have hC : (((rows.flatten ++ sp).drop (i * 5)).take ((rows.length + 1 - i) * 5)).take ((rows.length - i) * 5) = (rows.drop i).flatten := by
          rw [List.take_take, Nat.min_eq_left (by omega), List.drop_append_of_le_length (by omega), flat_drop i hs, List.take_append_of_le_length (by omega), List.take_of_length_le (by omega)]
        have r2 := ins_in (C := rows.flatten ++ sp) (x := x) (R := (rows.drop i).flatten) (a := i * 5) (c := (i + 1) * 5) (r := (rows.length - i) * 5) hx (by omega) hR (by rw [List.length_append, hlen, hsp]; omega)
        have hTk : (rows.flatten ++ sp).take (i * 5) = (rows.take i).flatten := by rw [List.take_append_of_le_length (by omega), flat_take i hs]
        rw [hTk] at r2
        refine Can_bi (by simp only [go_sem, ↓reduceIte, Int.reduceLT, Int.reduceLE, Int.reduceToNat, Int.reducePow, Int.reduceNeg, Nat.reduceBEq, Tryd.ntmps40] <;> with_reducible rfl) (copy_bi (n := rows.length + 1 - i) (cs := ((rows.flatten ++ sp).drop (i * 5)).take ((rows.length + 1 - i) * 5)) (s := 5) (ag := true) (e := 33) (by simp only [go_sem, ↓reduceIte, Int.reduceLT, Int.reduceLE, Int.reduceToNat, Int.reducePow, Int.reduceNeg, Nat.reduceBEq] <;> with_reducible rfl) (by simp only [go_sem, ↓reduceIte, Int.reduceLT, Int.reduceLE, Int.reduceToNat, Int.reducePow, Int.reduceNeg, Nat.reduceBEq] <;> with_reducible rfl) (by simp only [srcOf, getBox_head]; rw [if_pos (by rw [List.length_append, hlen, hsp]; omega)]) getBox_head (by rw [hm2, hC]; exact hRc) (by rw [hm2, List.length_append, hlen, hsp]; omega)) ?_
        rintro _ _ ⟨rfl, rfl⟩
        simp only [setBox, if_true, hm2, hC]
        refine Can_nil ?_
        refine J_mrun (own := []) (m := 2000) (by simp (maxSteps := 2000000) (disch := omega) only [go_sem, ↓reduceIte, Int.reduceLT, Int.reduceLE, Int.reduceToNat, Int.reducePow, Int.reduceNeg, Nat.reduceBEq, Tryd.ntmps40, e6] <;> with_reducible rfl) ?_
        refine J_bi (by simp only [go_sem, ↓reduceIte, Int.reduceLT, Int.reduceLE, Int.reduceToNat, Int.reducePow, Int.reduceNeg, Nat.reduceBEq, Tryd.ntmps40] <;> with_reducible rfl) (copy_bi (n := 1) (cs := x) (s := 5) (ag := true) (e := 33) (by simp only [go_sem, ↓reduceIte, Int.reduceLT, Int.reduceLE, Int.reduceToNat, Int.reducePow, Int.reduceNeg, Nat.reduceBEq] <;> with_reducible rfl) (by simp only [go_sem, ↓reduceIte, Int.reduceLT, Int.reduceLE, Int.reduceToNat, Int.reducePow, Int.reduceNeg, Nat.reduceBEq] <;> with_reducible rfl) (hsx _) getBox_head (by rw [List.all_eq_true] at hxc ⊢; exact fun y hy => hxc y (List.mem_of_mem_take hy)) (by rw [hm1]; simp only [List.length_append, List.length_take, List.length_drop, hR, hlen, hsp]; omega)) ?_
        rintro _ _ ⟨rfl, rfl⟩
        simp only [setBox, if_true, hm1, Nat.one_mul]
        rw [List.take_of_length_le (l := x) (by omega), r2]
        refine J_mrun (own := []) (m := 2000) (by simp (maxSteps := 2000000) (disch := omega) only [go_sem, ↓reduceIte, Int.reduceLT, Int.reduceLE, Int.reduceToNat, Int.reducePow, Int.reduceNeg, Nat.reduceBEq, Tryd.ntmps40] <;> with_reducible rfl) ?_
        refine J_retX Tryd.func40 (by simp only [go_sem, ↓reduceIte, Int.reduceLT, Int.reduceLE, Int.reduceToNat, Int.reducePow, Int.reduceNeg, Nat.reduceBEq, Tryd.f40] <;> first | with_reducible rfl | rfl) ⟨_, rfl, .box b cap _ (by simp only [List.length_append, hT, hx, hR]; omega) (by rw [List.length_drop, List.length_append, hlen, hsp]; omega) (by omega)⟩
end Go.Proofs.YtncincpkdphojaaDoor
end

section
namespace Go.Proofs.YtncincpkdphojaaDoor
open Go Go.Av
set_option linter.unusedVariables false
set_option linter.unusedSimpArgs false
set_option maxRecDepth 100000
set_option maxHeartbeats 4000000
attribute [local go_sem] packed List.set_cons_zero List.set_cons_succ

theorem insF_ok (rows : List (List AV)) (hs : ∀ r ∈ rows, r.length = 2) (hc : rows.flatten.all AV.isCell = true) (x : List AV) (hx : x.length = 2) (hxc : x.all AV.isCell = true) (i : Nat) (hi : i ≤ rows.length) (hl : rows.length < 2 ^ 30) {v : Value} {D : List HP}
    (how : Own 87 2 rows.flatten rows.length v D) :
    ACalls Tryd.prog 47 [.c v, .c (.int .i64 i), .sl 2 [x]] D (fun r Δ' => ∃ v', r = .ret (.c v') ∧ Own 87 2 ((rows.take i).flatten ++ x ++ (rows.drop i).flatten) (rows.length + 1) v' Δ') := by
  have h0 : (0 : Int) ≤ (i : Int) := by omega
  have hz : (((1 : Nat) : Int) = 0) = False := eq_false (by decide)
  have hsx : ∀ Δ, srcOf Δ 2 (.sl 2 [x]) = some (1, x) := fun Δ => by simp [srcOf]
  cases how with
  | nil hnil hlen =>
    have hr : rows = [] := List.eq_nil_of_length_eq_zero hlen
    subst hr
    have hi0 : i = 0 := by simpa using hi
    subst hi0
    refine calls_of_J cl_47 Tryd.func47 rfl (by simp [Tryd.ntmps47]) ?_
    refine J_mrun (own := []) (m := 2000) (by simp (maxSteps := 2000000) (disch := omega) only [go_sem, ↓reduceIte, Int.reduceLT, Int.reduceLE, Int.reduceToNat, Int.reducePow, Int.reduceNeg, Nat.reduceBEq, Tryd.ntmps47, hz] <;> with_reducible rfl) ?_
    refine J_false (by simp only [go_sem, ↓reduceIte, Int.reduceLT, Int.reduceLE, Int.reduceToNat, Int.reducePow, Int.reduceNeg, Nat.reduceBEq] <;> with_reducible rfl) ?_
    refine J_mrun (own := []) (m := 2000) (by simp (maxSteps := 2000000) (disch := omega) only [go_sem, ↓reduceIte, Int.reduceLT, Int.reduceLE, Int.reduceToNat, Int.reducePow, Int.reduceNeg, Nat.reduceBEq, Tryd.ntmps47] <;> with_reducible rfl) ?_
    refine J_true (by simp only [go_sem, ↓reduceIte, Int.reduceLT, Int.reduceLE, Int.reduceToNat, Int.reducePow, Int.reduceNeg, Nat.reduceBEq] <;> with_reducible rfl) ?_
    refine J_mrun (own := [25]) (m := 2000) (by simp (maxSteps := 2000000) (disch := omega) only [go_sem, ↓reduceIte, Int.reduceLT, Int.reduceLE, Int.reduceToNat, Int.reducePow, Int.reduceNeg, Nat.reduceBEq, Tryd.ntmps47] <;> with_reducible rfl) ?_
    refine J_bi (by simp only [go_sem, ↓reduceIte, Int.reduceLT, Int.reduceLE, Int.reduceToNat, Int.reducePow, Int.reduceNeg, Nat.reduceBEq, Tryd.ntmps47] <;> with_reducible rfl) (append_bi (by simp only [go_sem, ↓reduceIte, Int.reduceLT, Int.reduceLE, Int.reduceToNat, Int.reducePow, Int.reduceNeg, Nat.reduceBEq] <;> with_reducible rfl) (Own.nil (e := 87) (s := 2) (cells := []) rfl rfl) (Fr := []) (by simp) (hsx _) hxc (by omega)) ?_
    rintro _ _ ⟨v', D', rfl, rfl, how'⟩
    refine J_mrun (own := []) (m := 2000) (by simp (maxSteps := 2000000) (disch := omega) only [go_sem, ↓reduceIte, Int.reduceLT, Int.reduceLE, Int.reduceToNat, Int.reducePow, Int.reduceNeg, Nat.reduceBEq, Tryd.ntmps47] <;> with_reducible rfl) ?_
    refine J_retX Tryd.func47 (by simp only [go_sem, ↓reduceIte, Int.reduceLT, Int.reduceLE, Int.reduceToNat, Int.reducePow, Int.reduceNeg, Nat.reduceBEq, Tryd.f47] <;> first | with_reducible rfl | rfl) ⟨v', rfl, by simpa using how'⟩
  | box b cap sp hcl hsp hcap =>
    have hlen := flat_len hs
    refine calls_of_J cl_47 Tryd.func47 rfl (by simp [Tryd.ntmps47]) ?_
    by_cases hil : i = rows.length
    · subst hil
      refine J_mrun (own := []) (m := 2000) (by simp (maxSteps := 2000000) (disch := omega) only [go_sem, ↓reduceIte, Int.reduceLT, Int.reduceLE, Int.reduceToNat, Int.reducePow, Int.reduceNeg, Nat.reduceBEq, Tryd.ntmps47, hz] <;> with_reducible rfl) ?_
      refine J_false (by simp only [go_sem, ↓reduceIte, Int.reduceLT, Int.reduceLE, Int.reduceToNat, Int.reducePow, Int.reduceNeg, Nat.reduceBEq] <;> with_reducible rfl) ?_
      refine J_mrun (own := []) (m := 2000) (by simp (maxSteps := 2000000) (disch := omega) only [go_sem, ↓reduceIte, Int.reduceLT, Int.reduceLE, Int.reduceToNat, Int.reducePow, Int.reduceNeg, Nat.reduceBEq, Tryd.ntmps47] <;> with_reducible rfl) ?_
      refine J_true (by simp only [go_sem, ↓reduceIte, Int.reduceLT, Int.reduceLE, Int.reduceToNat, Int.reducePow, Int.reduceNeg, Nat.reduceBEq] <;> with_reducible rfl) ?_
      refine J_mrun (own := []) (m := 2000) (by simp (maxSteps := 2000000) (disch := omega) only [go_sem, ↓reduceIte, Int.reduceLT, Int.reduceLE, Int.reduceToNat, Int.reducePow, Int.reduceNeg, Nat.reduceBEq, Tryd.ntmps47] <;> with_reducible rfl) ?_
      refine J_bi (by simp only [go_sem, ↓reduceIte, Int.reduceLT, Int.reduceLE, Int.reduceToNat, Int.reducePow, Int.reduceNeg, Nat.reduceBEq, Tryd.ntmps47] <;> with_reducible rfl) (append_bi (by simp only [go_sem, ↓reduceIte, Int.reduceLT, Int.reduceLE, Int.reduceToNat, Int.reducePow, Int.reduceNeg, Nat.reduceBEq] <;> with_reducible rfl) (Own.box (e := 87) (s := 2) (cells := rows.flatten) (len := rows.length) b cap sp hcl hsp hcap) (Fr := []) (by simp) (hsx _) hxc (by omega)) ?_
      rintro _ _ ⟨v', D', rfl, rfl, how'⟩
      refine J_mrun (own := []) (m := 2000) (by simp (maxSteps := 2000000) (disch := omega) only [go_sem, ↓reduceIte, Int.reduceLT, Int.reduceLE, Int.reduceToNat, Int.reducePow, Int.reduceNeg, Nat.reduceBEq, Tryd.ntmps47] <;> with_reducible rfl) ?_
      refine J_retX Tryd.func47 (by simp only [go_sem, ↓reduceIte, Int.reduceLT, Int.reduceLE, Int.reduceToNat, Int.reducePow, Int.reduceNeg, Nat.reduceBEq, Tryd.f47] <;> first | with_reducible rfl | rfl) ⟨v', rfl, by simpa using how'⟩
    · have hlt : i < rows.length := by omega
      have e1 : ((i : Int) = (rows.length : Int)) = False := eq_false (by omega)
      have hT : (rows.take i).flatten.length = i * 2 := by rw [flat_len (s := 2) (fun r hr => hs r (List.mem_of_mem_take hr)), List.length_take]; congr 1; omega
      have hR : (rows.drop i).flatten.length = (rows.length - i) * 2 := by rw [flat_len (s := 2) (fun r hr => hs r (List.mem_of_mem_drop hr)), List.length_drop]
      have hTR : rows.flatten = (rows.take i).flatten ++ (rows.drop i).flatten := by rw [← List.flatten_append, List.take_append_drop]
      have hRc : (rows.drop i).flatten.all AV.isCell = true := by rw [hTR, List.all_append, Bool.and_eq_true] at hc; exact hc.2
      by_cases hgr : cap < rows.length + 1
      · have e2 : ((cap : Int) < (rows.length : Int) + ((1 : Nat) : Int)) = True := eq_true (by omega)
        refine J_mrun (own := []) (m := 2000) (by simp (maxSteps := 2000000) (disch := omega) only [go_sem, ↓reduceIte, Int.reduceLT, Int.reduceLE, Int.reduceToNat, Int.reducePow, Int.reduceNeg, Nat.reduceBEq, Tryd.ntmps47, hz, e1] <;> with_reducible rfl) ?_
        refine J_false (by simp only [go_sem, ↓reduceIte, Int.reduceLT, Int.reduceLE, Int.reduceToNat, Int.reducePow, Int.reduceNeg, Nat.reduceBEq] <;> with_reducible rfl) ?_
        refine J_mrun (own := []) (m := 2000) (by simp (maxSteps := 2000000) (disch := omega) only [go_sem, ↓reduceIte, Int.reduceLT, Int.reduceLE, Int.reduceToNat, Int.reducePow, Int.reduceNeg, Nat.reduceBEq, Tryd.ntmps47, e1] <;> with_reducible rfl) ?_
        refine J_false (by simp only [go_sem, ↓reduceIte, Int.reduceLT, Int.reduceLE, Int.reduceToNat, Int.reducePow, Int.reduceNeg, Nat.reduceBEq] <;> with_reducible rfl) ?_
        refine J_mrun (own := []) (m := 2000) (by simp (maxSteps := 2000000) (disch := omega) only [go_sem, ↓reduceIte, Int.reduceLT, Int.reduceLE, Int.reduceToNat, Int.reducePow, Int.reduceNeg, Nat.reduceBEq, Tryd.ntmps47] <;> with_reducible rfl) ?_
        refine J_bi (by simp only [go_sem, ↓reduceIte, Int.reduceLT, Int.reduceLE, Int.reduceToNat, Int.reducePow, Int.reduceNeg, Nat.reduceBEq, Tryd.ntmps47] <;> with_reducible rfl) (cap_bi (by simp only [go_sem, ↓reduceIte, Int.reduceLT, Int.reduceLE, Int.reduceToNat, Int.reducePow, Int.reduceNeg, Nat.reduceBEq] <;> with_reducible rfl)) ?_
        rintro x D' ⟨rfl, rfl⟩
        refine J_mrun (own := []) (m := 2000) (by simp (maxSteps := 2000000) (disch := omega) only [go_sem, ↓reduceIte, Int.reduceLT, Int.reduceLE, Int.reduceToNat, Int.reducePow, Int.reduceNeg, Nat.reduceBEq, Tryd.ntmps47, e2] <;> with_reducible rfl) ?_
        refine J_true (by simp only [go_sem, ↓reduceIte, Int.reduceLT, Int.reduceLE, Int.reduceToNat, Int.reducePow, Int.reduceNeg, Nat.reduceBEq] <;> with_reducible rfl) ?_
        have e3 : (rows.length : Int) + ((1 : Nat) : Int) - (i : Int) = ((rows.length + 1 - i : Nat) : Int) := by omega
        refine J_mrun (own := []) (m := 2000) (by simp (maxSteps := 2000000) (disch := omega) only [go_sem, ↓reduceIte, Int.reduceLT, Int.reduceLE, Int.reduceToNat, Int.reducePow, Int.reduceNeg, Nat.reduceBEq, Tryd.ntmps47, e3] <;> with_reducible rfl) ?_
        refine J_bi (by simp only [go_sem, ↓reduceIte, Int.reduceLT, Int.reduceLE, Int.reduceToNat, Int.reducePow, Int.reduceNeg, Nat.reduceBEq, Tryd.ntmps47] <;> with_reducible rfl) (growZ_bi (s := 2) (old := (rows.take i).flatten) (by simp only [go_sem, ↓reduceIte, Int.reduceLT, Int.reduceLE, Int.reduceToNat, Int.reducePow, Int.reduceNeg, Nat.reduceBEq] <;> with_reducible rfl) (by simp only [srcOf, getBox_head, Nat.zero_add, List.drop_zero]; rw [if_pos (by rw [List.length_append, hlen]; omega), List.take_append_of_le_length (by omega), flat_take i hs]) (by omega) (by omega) (by omega)) ?_
        rintro _ _ ⟨b', cap', more, rfl, rfl, hfr, hmore, hcap'⟩
        simp only [fresh] at hfr
        obtain ⟨f1, f2, -⟩ := hfr
        have e4 : i + (rows.length + 1 - i) = rows.length + 1 := by omega
        have e3' : ((i : Int) + ((1 : Nat) : Int)).toNat = i + 1 := by omega
        have e7 : (cap = i) = False := eq_false (by omega)
        have e5 : (cap' = i) = False := eq_false (by omega)
        have e6 : (cap' = i + 1) = False := eq_false (by omega)
        refine J_mrun (own := []) (m := 2000) (by simp (maxSteps := 2000000) (disch := omega) only [go_sem, ↓reduceIte, Int.reduceLT, Int.reduceLE, Int.reduceToNat, Int.reducePow, Int.reduceNeg, Nat.reduceBEq, Tryd.ntmps47, e4, e5, e6, f1, f2] <;> with_reducible rfl) ?_
        have hm1 : min 1 (rows.length + 1 - i) = 1 := by omega
        have hm2 : min (rows.length - i) (rows.length + 1 - (i + 1)) = rows.length - i := by omega
        obtain ⟨rest, r1, r2⟩ := ins_grow (T := (rows.take i).flatten) (more := more) (x := x) (R := (rows.drop i).flatten) (a := i * 2) (c := (i + 1) * 2) (r := (rows.length - i) * 2) hT (by rw [List.length_append, hT, hx]; omega) hR (by rw [hx, hmore]; omega)
        rw [hx] at r2
        refine J_bi (by simp only [go_sem, ↓reduceIte, Int.reduceLT, Int.reduceLE, Int.reduceToNat, Int.reducePow, Int.reduceNeg, Nat.reduceBEq, Tryd.ntmps47] <;> with_reducible rfl) (copy_bi (n := 1) (cs := x) (s := 2) (ag := true) (e := 87) (by simp only [go_sem, ↓reduceIte, Int.reduceLT, Int.reduceLE, Int.reduceToNat, Int.reducePow, Int.reduceNeg, Nat.reduceBEq] <;> with_reducible rfl) (by simp only [go_sem, ↓reduceIte, Int.reduceLT, Int.reduceLE, Int.reduceToNat, Int.reducePow, Int.reduceNeg, Nat.reduceBEq] <;> with_reducible rfl) (hsx _) getBox_head (by rw [List.all_eq_true] at hxc ⊢; exact fun y hy => hxc y (List.mem_of_mem_take hy)) (by rw [hm1, List.length_append, hT, hmore]; omega)) ?_
        rintro _ _ ⟨rfl, rfl⟩
        simp only [setBox, if_true, hm1, Nat.one_mul]
        rw [List.take_of_length_le (l := x) (by omega)]
        refine J_mrun (own := []) (m := 2000) (by simp (maxSteps := 2000000) (disch := omega) only [go_sem, ↓reduceIte, Int.reduceLT, Int.reduceLE, Int.reduceToNat, Int.reducePow, Int.reduceNeg, Nat.reduceBEq, Tryd.ntmps47] <;> with_reducible rfl) ?_
        refine J_draw [[], [], [], [1, 2], [0, 1, 2, 3], [], [], [5, 6], [0, 1, 2, 3, 4, 5, 6, 7]] [(0, .pure), (1, .pure), (2, .pure), (3, .pure), (4, .pure), (5, .pure), (6, .pure), (7, .pure), (8, .act)] mixed (by kernel_rfl) ?_
        refine Can_run (own := []) (by simp (maxSteps := 2000000) (disch := omega) only [go_sem, ↓reduceIte, Int.reduceLT, Int.reduceLE, Int.reduceToNat, Int.reducePow, Int.reduceNeg, Nat.reduceBEq, Tryd.ntmps47, e3', e5, e6, e7, f1, f2] <;> with_reducible rfl) ?_
        refine Can_bi (by simp only [go_sem, ↓reduceIte, Int.reduceLT, Int.reduceLE, Int.reduceToNat, Int.reducePow, Int.reduceNeg, Nat.reduceBEq, Tryd.ntmps47] <;> with_reducible rfl) (copy_bi (n := rows.length - i) (cs := (rows.drop i).flatten) (s := 2) (ag := true) (e := 87) (by simp only [go_sem, ↓reduceIte, Int.reduceLT, Int.reduceLE, Int.reduceToNat, Int.reducePow, Int.reduceNeg, Nat.reduceBEq] <;> with_reducible rfl) (by simp only [go_sem, ↓reduceIte, Int.reduceLT, Int.reduceLE, Int.reduceToNat, Int.reducePow, Int.reduceNeg, Nat.reduceBEq] <;> with_reducible rfl) (by simp only [srcOf, getBox, f1, f2, if_false, if_true]; rw [if_pos (by rw [List.length_append, hlen]; omega), List.drop_append_of_le_length (by omega), flat_drop i hs, List.take_append_of_le_length (by omega), List.take_of_length_le (by omega)]) getBox_head (by rw [hm2, List.take_of_length_le (by omega)]; exact hRc) (by rw [hm2]; simp only [List.length_append, List.length_take, List.length_drop, hT, hmore, hx]; omega)) ?_
        rintro _ _ ⟨rfl, rfl⟩
        simp only [setBox, if_true, hm2]
        rw [List.take_of_length_le (l := (rows.drop i).flatten) (by omega), r2]
        refine Can_nil ?_
        refine J_mrun (own := []) (m := 2000) (by simp (maxSteps := 2000000) (disch := omega) only [go_sem, ↓reduceIte, Int.reduceLT, Int.reduceLE, Int.reduceToNat, Int.reducePow, Int.reduceNeg, Nat.reduceBEq, Tryd.ntmps47] <;> with_reducible rfl) ?_
        refine J_forgetP ?_
        refine J_retX Tryd.func47 (by simp only [go_sem, ↓reduceIte, Int.reduceLT, Int.reduceLE, Int.reduceToNat, Int.reducePow, Int.reduceNeg, Nat.reduceBEq, Tryd.f47] <;> first | with_reducible rfl | rfl) ⟨[_], [_], List.perm_append_comm (l₁ := [_]) (l₂ := [_]), _, rfl, .box b' cap' rest (by simp only [List.length_append, hT, hx, hR]; omega) (by rw [r1, hmore, hx]; omega) (by omega)⟩
      · have e2 : ((cap : Int) < (rows.length : Int) + ((1 : Nat) : Int)) = False := eq_false (by omega)
        refine J_mrun (own := []) (m := 2000) (by simp (maxSteps := 2000000) (disch := omega) only [go_sem, ↓reduceIte, Int.reduceLT, Int.reduceLE, Int.reduceToNat, Int.reducePow, Int.reduceNeg, Nat.reduceBEq, Tryd.ntmps47, hz, e1] <;> with_reducible rfl) ?_
        refine J_false (by simp only [go_sem, ↓reduceIte, Int.reduceLT, Int.reduceLE, Int.reduceToNat, Int.reducePow, Int.reduceNeg, Nat.reduceBEq] <;> with_reducible rfl) ?_
        refine J_mrun (own := []) (m := 2000) (by simp (maxSteps := 2000000) (disch := omega) only [go_sem, ↓reduceIte, Int.reduceLT, Int.reduceLE, Int.reduceToNat, Int.reducePow, Int.reduceNeg, Nat.reduceBEq, Tryd.ntmps47, e1] <;> with_reducible rfl) ?_
        refine J_false (by simp only [go_sem, ↓reduceIte, Int.reduceLT, Int.reduceLE, Int.reduceToNat, Int.reducePow, Int.reduceNeg, Nat.reduceBEq] <;> with_reducible rfl) ?_
        refine J_mrun (own := []) (m := 2000) (by simp (maxSteps := 2000000) (disch := omega) only [go_sem, ↓reduceIte, Int.reduceLT, Int.reduceLE, Int.reduceToNat, Int.reducePow, Int.reduceNeg, Nat.reduceBEq, Tryd.ntmps47] <;> with_reducible rfl) ?_
        refine J_bi (by simp only [go_sem, ↓reduceIte, Int.reduceLT, Int.reduceLE, Int.reduceToNat, Int.reducePow, Int.reduceNeg, Nat.reduceBEq, Tryd.ntmps47] <;> with_reducible rfl) (cap_bi (by simp only [go_sem, ↓reduceIte, Int.reduceLT, Int.reduceLE, Int.reduceToNat, Int.reducePow, Int.reduceNeg, Nat.reduceBEq] <;> with_reducible rfl)) ?_
        rintro x D' ⟨rfl, rfl⟩
        refine J_mrun (own := []) (m := 2000) (by simp (maxSteps := 2000000) (disch := omega) only [go_sem, ↓reduceIte, Int.reduceLT, Int.reduceLE, Int.reduceToNat, Int.reducePow, Int.reduceNeg, Nat.reduceBEq, Tryd.ntmps47, e2] <;> with_reducible rfl) ?_
        refine J_false (by simp only [go_sem, ↓reduceIte, Int.reduceLT, Int.reduceLE, Int.reduceToNat, Int.reducePow, Int.reduceNeg, Nat.reduceBEq] <;> with_reducible rfl) ?_
        have e3 : ((i : Int) + ((1 : Nat) : Int)).toNat = i + 1 := by omega
        have e4 : ((rows.length : Int) + ((1 : Nat) : Int)).toNat = rows.length + 1 := by omega
        have e5 : (cap = i + 1) = False := eq_false (by omega)
        have e6 : (cap = i) = False := eq_false (by omega)
        refine J_mrun (own := []) (m := 2000) (by simp (maxSteps := 2000000) (disch := omega) only [go_sem, ↓reduceIte, Int.reduceLT, Int.reduceLE, Int.reduceToNat, Int.reducePow, Int.reduceNeg, Nat.reduceBEq, Tryd.ntmps47, e3, e4, e5, e6] <;> with_reducible rfl) ?_
        refine J_x (by simp only [go_sem, ↓reduceIte, Int.reduceLT, Int.reduceLE, Int.reduceToNat, Int.reducePow, Int.reduceNeg, Nat.reduceBEq, Tryd.ntmps47] <;> with_reducible rfl) (overlapsF_x (sT := 28) (rT := 4) (e := 87) (s := 2) (ag := true) rfl rfl rfl (by kernel_rfl) (by kernel_rfl) (by simp only [go_sem, ↓reduceIte, Int.reduceLT, Int.reduceLE, Int.reduceToNat, Int.reducePow, Int.reduceNeg, Nat.reduceBEq] <;> with_reducible rfl) (by simp only [go_sem, ↓reduceIte, Int.reduceLT, Int.reduceLE, Int.reduceToNat, Int.reducePow, Int.reduceNeg, Nat.reduceBEq] <;> with_reducible rfl) (by decide) getBox_head (by rw [List.length_append, hlen]; omega)) ?_
        refine J_mrun (own := []) (m := 2000) (by simp (maxSteps := 2000000) (disch := omega) only [go_sem, ↓reduceIte, Int.reduceLT, Int.reduceLE, Int.reduceToNat, Int.reducePow, Int.reduceNeg, Nat.reduceBEq, Tryd.ntmps47] <;> with_reducible rfl) ?_
        refine J_true (by simp only [go_sem, ↓reduceIte, Int.reduceLT, Int.reduceLE, Int.reduceToNat, Int.reducePow, Int.reduceNeg, Nat.reduceBEq] <;> with_reducible rfl) ?_
        refine J_mrun (own := []) (m := 2000) (by simp (maxSteps := 2000000) (disch := omega) only [go_sem, ↓reduceIte, Int.reduceLT, Int.reduceLE, Int.reduceToNat, Int.reducePow, Int.reduceNeg, Nat.reduceBEq, Tryd.ntmps47] <;> with_reducible rfl) ?_
        refine J_draw [[], [], [], [1, 2], [0, 1, 2, 3], [], [], [5, 6], [0, 1, 2, 3, 4, 5, 6, 7]] [(0, .pure), (1, .pure), (2, .pure), (3, .pure), (4, .pure), (5, .pure), (6, .pure), (7, .pure), (8, .act)] mixed (by kernel_rfl) ?_
        refine Can_run (own := []) (by simp (maxSteps := 2000000) (disch := omega) only [go_sem, ↓reduceIte, Int.reduceLT, Int.reduceLE, Int.reduceToNat, Int.reducePow, Int.reduceNeg, Nat.reduceBEq, Tryd.ntmps47, e3, e5, e6] <;> with_reducible rfl) ?_
        have hm1 : min 1 (rows.length + 1 - i) = 1 := by omega
        have hm2 : min (rows.length + 1 - i) (rows.length + 1 - (i + 1)) = rows.length - i := by omega
        have hC : (((rows.flatten ++ sp).drop (i * 2)).take ((rows.length + 1 - i) * 2)).take ((rows.length - i) * 2) = (rows.drop i).flatten := by
          rw [List.take_take, Nat.min_eq_left (by omega), List.drop_append_of_le_length (by omega), flat_drop i hs, List.take_append_of_le_length (by omega), List.take_of_length_le (by omega)]
        have r2 := ins_in (C := rows.flatten ++ sp) (x := x) (R := (rows.drop i).flatten) (a := i * 2) (c := (i + 1) * 2) (r := (rows.length - i) * 2) hx (by omega) hR (by rw [List.length_append, hlen, hsp]; omega)
        have hTk : (rows.flatten ++ sp).take (i * 2) = (rows.take i).flatten := by rw [List.take_append_of_le_length (by omega), flat_take i hs]
        rw [hTk] at r2
        refine Can_bi (by simp only [go_sem, ↓reduceIte, Int.reduceLT, Int.reduceLE, Int.reduceToNat, Int.reducePow, Int.reduceNeg, Nat.reduceBEq, Tryd.ntmps47] <;> with_reducible rfl) (copy_bi (n := rows.length + 1 - i) (cs := ((rows.flatten ++ sp).drop (i * 2)).take ((rows.length + 1 - i) * 2)) (s := 2) (ag := true) (e := 87) (by simp only [go_sem, ↓reduceIte, Int.reduceLT, Int.reduceLE, Int.reduceToNat, Int.reducePow, Int.reduceNeg, Nat.reduceBEq] <;> with_reducible rfl) (by simp only [go_sem, ↓reduceIte, Int.reduceLT, Int.reduceLE, Int.reduceToNat, Int.reducePow, Int.reduceNeg, Nat.reduceBEq] <;> with_reducible rfl) (by simp only [srcOf, getBox_head]; rw [if_pos (by rw [List.length_append, hlen, hsp]; omega)]) getBox_head (by rw [hm2, hC]; exact hRc) (by rw [hm2, List.length_append, hlen, hsp]; omega)) ?_
        rintro _ _ ⟨rfl, rfl⟩
        simp only [setBox, if_true, hm2, hC]
        refine Can_nil ?_
        refine J_mrun (own := []) (m := 2000) (by simp (maxSteps := 2000000) (disch := omega) only [go_sem, ↓reduceIte, Int.reduceLT, Int.reduceLE, Int.reduceToNat, Int.reducePow, Int.reduceNeg, Nat.reduceBEq, Tryd.ntmps47, e6] <;> with_reducible rfl) ?_
        refine J_bi (by simp only [go_sem, ↓reduceIte, Int.reduceLT, Int.reduceLE, Int.reduceToNat, Int.reducePow, Int.reduceNeg, Nat.reduceBEq, Tryd.ntmps47] <;> with_reducible rfl) (copy_bi (n := 1) (cs := x) (s := 2) (ag := true) (e := 87) (by simp only [go_sem, ↓reduceIte, Int.reduceLT, Int.reduceLE, Int.reduceToNat, Int.reducePow, Int.reduceNeg, Nat.reduceBEq] <;> with_reducible rfl) (by simp only [go_sem, ↓reduceIte, Int.reduceLT, Int.reduceLE, Int.reduceToNat, Int.reducePow, Int.reduceNeg, Nat.reduceBEq] <;> with_reducible rfl) (hsx _) getBox_head (by rw [List.all_eq_true] at hxc ⊢; exact fun y hy => hxc y (List.mem_of_mem_take hy)) (by rw [hm1]; simp only [List.length_append, List.length_take, List.length_drop, hR, hlen, hsp]; omega)) ?_
        rintro _ _ ⟨rfl, rfl⟩
        simp only [setBox, if_true, hm1, Nat.one_mul]
        rw [List.take_of_length_le (l := x) (by omega), r2]
        refine J_mrun (own := []) (m := 2000) (by simp (maxSteps := 2000000) (disch := omega) only [go_sem, ↓reduceIte, Int.reduceLT, Int.reduceLE, Int.reduceToNat, Int.reducePow, Int.reduceNeg, Nat.reduceBEq, Tryd.ntmps47] <;> with_reducible rfl) ?_
        refine J_retX Tryd.func47 (by simp only [go_sem, ↓reduceIte, Int.reduceLT, Int.reduceLE, Int.reduceToNat, Int.reducePow, Int.reduceNeg, Nat.reduceBEq, Tryd.f47] <;> first | with_reducible rfl | rfl) ⟨_, rfl, .box b cap _ (by simp only [List.length_append, hT, hx, hR]; omega) (by rw [List.length_drop, List.length_append, hlen, hsp]; omega) (by omega)⟩
end Go.Proofs.YtncincpkdphojaaDoor
end
