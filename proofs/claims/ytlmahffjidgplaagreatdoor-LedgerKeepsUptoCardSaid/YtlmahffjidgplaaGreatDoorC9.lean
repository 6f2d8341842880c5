/- A part of the proof: what the calls do, told by values. -/
import Derived.Test.YtlmahffjidgplaaGreatDoorC8
import Derived.Test.YtlmahffjidgplaaGreatDoorC3
import Derived.Test.YtlmahffjidgplaaGreatDoorC6
section
namespace Go.Proofs.YtlmahffjidgplaaGreatDoor
open Go Go.Av
set_option linter.unusedVariables false
set_option linter.unusedSimpArgs false
set_option maxRecDepth 100000
set_option maxHeartbeats 4000000
attribute [local go_sem] packed List.set_cons_zero List.set_cons_succ List.cons_append List.nil_append bytesRows_length

/-! ### Records -/
structure Rec where
  e : Int
  cl : Bool
  low : Int
  l : FL
abbrev recAV (x : Rec) : AV := .agg [.c (.int .i64 x.e), .c (.bool x.cl), .c (.int .i64 x.low), .sl 2 (flRows x.l)]
def recC (x : Rec) : Int := if x.e < 1 ∨ 1099511627776 < x.e then 2 else flC x.low x.l
def recB (x : Rec) : List UInt8 := flPut (numsB [x.e.toNat, if x.cl then 1 else 0]) x.low x.l
def zRec : Rec := ⟨0, false, 0, []⟩
theorem flS_zero (low : Int) (l : FL) : ∀ (k i : Nat), i + k = l.length → (flS low l k i).1 = 0 → ∀ j, i ≤ j → j < l.length → low < (l.getD j (0, 0)).2 ∧ (l.getD j (0, 0)).2 ≤ 1099511627776
  | 0, i, h, _, j, h1, h2 => by omega
  | k + 1, i, h, hz, j, h1, h2 => by
    simp only [flS] at hz
    split at hz
    · simp at hz
    · split at hz
      · simp at hz
      · rename_i h3
        by_cases hj : j = i
        · subst hj; omega
        · exact flS_zero low l k (i + 1) (by omega) hz j (by omega) h2
theorem flS_what (low : Int) (l : FL) : ∀ (k i : Nat), (flS low l k i).1 = 0 ∨ (flS low l k i).1 = 3 ∨ (flS low l k i).1 = 4
  | 0, i => .inl rfl
  | k + 1, i => by
    simp only [flS]
    split
    · exact .inr (.inl rfl)
    · split
      · exact .inr (.inr rfl)
      · exact flS_what low l k (i + 1)
theorem flC_zero {low : Int} {l : FL} (h : flC low l = 0) : (0 ≤ low ∧ low ≤ 1099511627776) ∧ l.length ≤ 12 ∧ ∀ j, j < l.length → low < (l.getD j (0, 0)).2 ∧ (l.getD j (0, 0)).2 ≤ 1099511627776 := by
  unfold flC flLook at h
  split at h
  · simp [wcode] at h
  · split at h
    · simp [wcode] at h
    · rename_i h1 h2
      refine ⟨by omega, by omega, fun j hj => ?_⟩
      have h3 : (flS low l l.length 0).1 = 0 := by
        rcases flS_what low l l.length 0 with h4 | h4 | h4
        · exact h4
        · rw [h4] at h; simp [wcode] at h
        · rw [h4] at h; simp [wcode] at h
      exact flS_zero low l l.length 0 (by omega) h3 j (by omega) hj
theorem flW_of {low : Int} {l : FL} (h : flC low l = 0) (h64 : ∀ p ∈ l, p.1 < 2 ^ 64) : FlW low l := by
  obtain ⟨h1, h2, h3⟩ := flC_zero h
  refine ⟨h1, h2, h64, fun p hp => ?_⟩
  obtain ⟨j, hj, rfl⟩ := List.mem_iff_getElem.1 hp
  have := h3 j hj
  rw [List.getD_eq_getElem?_getD, List.getElem?_eq_getElem hj] at this
  simp only [Option.getD_some] at this
  omega
def getC17 (b : List UInt8) : Int × Nat × Nat := numR b 0 0 1099511627776
def getK17 (b : List UInt8) : Int × Nat × Nat := numR b (getC17 b).2.1 (getC17 b).1 1
def getE17 (b : List UInt8) : Int := if frC b (getK17 b).2.1 (getK17 b).1 = 0 ∧ (getC17 b).2.2 = 0 then 2 else frC b (getK17 b).2.1 (getK17 b).1
def getX17 (b : List UInt8) : Int := endR b (frA b (getK17 b).2.1 (getK17 b).1).2.1 (getE17 b)
def getRec (b : List UInt8) : Rec := if getX17 b ≠ 0 then zRec else ⟨((getC17 b).2.2 : Int), decide ((getK17 b).2.2 = 1), (frF b (getK17 b).2.1 (getK17 b).1).1, (frF b (getK17 b).2.1 (getK17 b).1).2⟩
instance : DecidableEq Rec := fun a b => if h : a.e = b.e ∧ a.cl = b.cl ∧ a.low = b.low ∧ a.l = b.l then isTrue (by cases a; cases b; simp_all) else isFalse (fun e => h (by subst e; simp))
theorem pick_ok (x y : Int) (t : Bool) : ACalls Tryz.prog 56 [.c (.int .i64 x), .c (.int .i64 y), .c (.bool t)] [] (Ret (.c (.int .i64 (if t then y else x)))) := by
  cases t with
  | true =>
    refine calls_of_J cl_56 Tryz.func56 rfl (by simp [Tryz.ntmps56]) ?_
    refine jr (own := []) (h := ?_)
    refine jt (h := ?_)
    refine jr (own := []) (h := ?_)
    refine jret Tryz.func56 (h := ⟨rfl, rfl⟩)
  | false =>
    refine calls_of_J cl_56 Tryz.func56 rfl (by simp [Tryz.ntmps56]) ?_
    refine jr (own := []) (h := ?_)
    refine jn (h := ?_)
    refine jr (own := []) (h := ?_)
    refine jret Tryz.func56 (h := ⟨rfl, rfl⟩)
theorem recsame_ok (x y : Rec) (hx : x.l.length < 2 ^ 62) : ACalls Tryz.prog 19 [recAV x, recAV y] [] (Ret (.c (.bool (decide (x = y))))) := by
  obtain ⟨e, cl, low, l⟩ := x
  obtain ⟨e', cl', low', l'⟩ := y
  have hs := flsame_ok low low' l l' hx
  refine calls_of_J cl_19 Tryz.func19 rfl (by simp [Tryz.ntmps19]) ?_
  by_cases h1 : e = e'
  · have hd1 : decide (e = e') = true := decide_eq_true h1
    by_cases h2 : cl = cl'
    · have hd2 : decide (cl = cl') = true := decide_eq_true h2
      refine jf (own := []) (a2 hd1 hd2) (h := ?_)
      refine jc (hs := hs) (hk := ?_)
      refine jr (own := []) (h := ?_)
      refine jret Tryz.func19 (h := ⟨by simp [h1, h2], rfl⟩)
    · have hd2 : decide (cl = cl') = false := decide_eq_false h2
      refine jf (own := []) (a2 hd1 hd2) (h := ?_)
      refine jret Tryz.func19 (h := ⟨by simp [h2], rfl⟩)
  · have hd1 : decide (e = e') = false := decide_eq_false h1
    refine jf (own := []) hd1 (h := ?_)
    refine jret Tryz.func19 (h := ⟨by simp [h1], rfl⟩)
theorem recsame17_ok (x y : Rec) (hx : x.l.length < 2 ^ 62) : ACalls Tryz.prog 18 [recAV x, recAV y] [] (Ret (.c (.bool (decide (x = y))))) := by
  obtain ⟨e, cl, low, l⟩ := x
  obtain ⟨e', cl', low', l'⟩ := y
  have hs := flsame16_ok low low' l l' hx
  refine calls_of_J cl_18 Tryz.func18 rfl (by simp [Tryz.ntmps18]) ?_
  by_cases h1 : e = e'
  · have hd1 : decide (e = e') = true := decide_eq_true h1
    by_cases h2 : cl = cl'
    · have hd2 : decide (cl = cl') = true := decide_eq_true h2
      refine jf (own := []) (a2 hd1 hd2) (h := ?_)
      refine jc (hs := hs) (hk := ?_)
      refine jr (own := []) (h := ?_)
      refine jret Tryz.func18 (h := ⟨by simp [h1, h2], rfl⟩)
    · have hd2 : decide (cl = cl') = false := decide_eq_false h2
      refine jf (own := []) (a2 hd1 hd2) (h := ?_)
      refine jret Tryz.func18 (h := ⟨by simp [h2], rfl⟩)
  · have hd1 : decide (e = e') = false := decide_eq_false h1
    refine jf (own := []) hd1 (h := ?_)
    refine jret Tryz.func18 (h := ⟨by simp [h1], rfl⟩)
def recO (x : Rec) : List UInt8 := if recC x = 0 then recB x else []
theorem recput_ok (x : Rec) (h64 : ∀ p ∈ x.l, p.1 < 2 ^ 64) : ACalls Tryz.prog 12 [recAV x] [] (fun r Δ => (∃ e, r = .ret (.tup [.sl 1 (bytesRows (recO x)), e]) ∧ IsErr e (recC x)) ∧ Δ = []) := by
  obtain ⟨e, cl, low, l⟩ := x
  simp only at h64
  have hO : recO ⟨e, cl, low, l⟩ = if recC ⟨e, cl, low, l⟩ = 0 then recB ⟨e, cl, low, l⟩ else [] := rfl
  have hC : recC ⟨e, cl, low, l⟩ = if e < 1 ∨ 1099511627776 < e then 2 else flC low l := rfl
  have hB : recB ⟨e, cl, low, l⟩ = flPut (numsB [e.toNat, if cl then 1 else 0]) low l := rfl
  have hce := check_fl_ok low l
  refine calls_of_J cl_12 Tryz.func12 rfl (by simp [Tryz.ntmps12]) ?_
  have err1 : (e < 1 ∨ 1099511627776 < e) → recC ⟨e, cl, low, l⟩ = 2 ∧ recO ⟨e, cl, low, l⟩ = [] := fun h => by
    have h1 : recC ⟨e, cl, low, l⟩ = 2 := by rw [hC, if_pos h]
    exact ⟨h1, by rw [hO, h1]; rfl⟩
  by_cases h1 : e < 1
  · have hd1 : decide (e < 1) = true := decide_eq_true h1
    obtain ⟨q1, q2⟩ := err1 (.inl h1)
    rw [q1, q2]
    refine jf (own := []) hd1 (h := ?_)
    refine jt (h := ?_)
    refine jr (own := []) (h := ?_)
    refine jc (hs := newS_ok _ _ _) (hk := ?_)
    refine jr (own := []) (h := ?_)
    refine J_wk (t := 2) (y := .sl 1 []) (by simp only [go_sem]) nil_le_sl ?_
    refine jret Tryz.func12 (h := ⟨⟨_, rfl, errNew_is _ _ 2⟩, rfl⟩)
  · have hd1 : decide (e < 1) = false := decide_eq_false h1
    refine jf (own := []) hd1 (h := ?_)
    refine jif (h1 := fun h2 => ?_) (h2 := fun h2 => ?_)
    · obtain ⟨q1, q2⟩ := err1 (.inr h2)
      rw [q1, q2]
      refine jr (own := []) (h := ?_)
      refine jc (hs := newS_ok _ _ _) (hk := ?_)
      refine jr (own := []) (h := ?_)
      refine J_wk (t := 2) (y := .sl 1 []) (by simp only [go_sem]) nil_le_sl ?_
      refine jret Tryz.func12 (h := ⟨⟨_, rfl, errNew_is _ _ 2⟩, rfl⟩)
    · have hC2 : recC ⟨e, cl, low, l⟩ = flC low l := by rw [hC, if_neg (by omega)]
      rw [hC2] at hO ⊢
      refine jr (own := []) (h := ?_)
      refine jcs (Δ1 := []) (Fr := []) (hs := hce) (hp := (List.Perm.refl _)) (hk := ?_) (hpan := (by rintro x Δ' ⟨⟨e, h, _⟩, _⟩; cases h))
      rintro x _ ⟨⟨er, h, he⟩, rfl⟩
      cases h
      by_cases hz : flC low l = 0
      · rw [if_pos hz] at hO
        rw [hO, hB]
        rw [hz] at he ⊢
        obtain rfl := iserr_zero he
        have hw := flW_of hz h64
        have hpu := put02_fz [] [e.toNat, if cl then 1 else 0] (by simp) (by simp) (by intro n hn; simp at hn; rcases hn with rfl | rfl; (· omega); (· split <;> omega))
        have hpn := hpu.nilArg (pre := [])
        simp only [natRows, List.map_cons, List.map_nil, Int.toNat_of_nonneg (show 0 ≤ e by omega), List.nil_append] at hpn
        have hcast : (((if cl then 1 else 0 : Nat)) : Int) = if cl then 1 else 0 := by split <;> rfl
        rw [hcast] at hpn
        have hlen := numsB_len (l := [e.toNat, if cl then 1 else 0]) (by intro n hn; simp at hn; rcases hn with rfl | rfl; (· omega); (· split <;> omega))
        simp only [List.length_cons, List.length_nil] at hlen
        have hfp := flput_ok (numsB [e.toNat, if cl then 1 else 0]) low l (by omega) hw
        refine jr (own := []) (h := ?_)
        refine jn (h := ?_)
        refine jr (own := []) (h := ?_)
        refine jd [(0, .pure), (1, .read), (2, .pure), (3, .read), (4, .pure), (5, .pure), (6, .pure), (7, .pure), (8, .read), (9, .pure), (10, .pure), (11, .pure)] mixed (by kernel_rfl) ?_
        refine cr (own := []) (hk := ?_)
        refine ccp (hs := pick_ok 0 1 cl) (hk := ?_)
        refine cr (own := []) (hk := ?_)
        refine ccp (hs := hpn) (hk := ?_)
        refine cr (own := []) (hk := ?_)
        refine ccp (hs := hfp) (hk := ?_)
        refine cr (own := []) (hk := ?_)
        refine Can_nil ?_
        refine jr (own := []) (h := ?_)
        refine jret Tryz.func12 (h := ⟨⟨_, rfl, .none⟩, rfl⟩)
      · rw [if_neg hz] at hO
        rw [hO]
        obtain ⟨t, v, rfl⟩ := iserr_ne he hz
        refine jr (own := []) (h := ?_)
        refine jt (h := ?_)
        refine jr (own := []) (h := ?_)
        refine jcs (Δ1 := []) (Fr := []) (hs := (wrapS_ok _ _ he)) (hp := (List.Perm.refl _)) (hk := ?_) (hpan := (by rintro x Δ' ⟨⟨e, h, _⟩, _⟩; cases h))
        rintro x _ ⟨⟨er2, h, he2⟩, rfl⟩
        cases h
        refine jr (own := []) (h := ?_)
        refine J_wk (t := 2) (y := .sl 1 []) (by simp only [go_sem]) nil_le_sl ?_
        refine jret Tryz.func12 (h := ⟨⟨_, rfl, he2⟩, rfl⟩)
theorem recput17_ok (x : Rec) (h64 : ∀ p ∈ x.l, p.1 < 2 ^ 64) : ACalls Tryz.prog 13 [recAV x] [] (Ret (.tup [.sl 1 (bytesRows (recO x)), .c (.int .i64 (recC x))])) := by
  obtain ⟨e, cl, low, l⟩ := x
  simp only at h64
  have hO : recO ⟨e, cl, low, l⟩ = if recC ⟨e, cl, low, l⟩ = 0 then recB ⟨e, cl, low, l⟩ else [] := rfl
  have hC : recC ⟨e, cl, low, l⟩ = if e < 1 ∨ 1099511627776 < e then 2 else flC low l := rfl
  have hB : recB ⟨e, cl, low, l⟩ = flPut (numsB [e.toNat, if cl then 1 else 0]) low l := rfl
  refine calls_of_J cl_13 Tryz.func13 rfl (by simp [Tryz.ntmps13]) ?_
  have err1 : (e < 1 ∨ 1099511627776 < e) → recC ⟨e, cl, low, l⟩ = 2 ∧ recO ⟨e, cl, low, l⟩ = [] := fun h => by
    have h1 : recC ⟨e, cl, low, l⟩ = 2 := by rw [hC, if_pos h]
    exact ⟨h1, by rw [hO, h1]; rfl⟩
  by_cases h1 : e < 1
  · have hd1 : decide (e < 1) = true := decide_eq_true h1
    obtain ⟨q1, q2⟩ := err1 (.inl h1)
    rw [q1, q2]
    refine jf (own := []) hd1 (h := ?_)
    refine jt (h := ?_)
    refine jr (own := []) (h := ?_)
    refine J_wk (t := 2) (y := .sl 1 []) (by simp only [go_sem]) nil_le_sl ?_
    refine jret Tryz.func13 (h := ⟨rfl, rfl⟩)
  · have hd1 : decide (e < 1) = false := decide_eq_false h1
    refine jf (own := []) hd1 (h := ?_)
    refine jif (h1 := fun h2 => ?_) (h2 := fun h2 => ?_)
    · obtain ⟨q1, q2⟩ := err1 (.inr h2)
      rw [q1, q2]
      refine jr (own := []) (h := ?_)
      refine J_wk (t := 2) (y := .sl 1 []) (by simp only [go_sem]) nil_le_sl ?_
      refine jret Tryz.func13 (h := ⟨rfl, rfl⟩)
    · have hC2 : recC ⟨e, cl, low, l⟩ = flC low l := by rw [hC, if_neg (by omega)]
      rw [hC2] at hO ⊢
      refine jr (own := []) (h := ?_)
      refine jc (hs := check16_ok low l) (hk := ?_)
      refine jr (own := []) (h := ?_)
      refine jif (h1 := fun hz => ?_) (h2 := fun hz => ?_)
      · rw [if_neg hz] at hO
        rw [hO]
        refine jr (own := []) (h := ?_)
        refine J_wk (t := 2) (y := .sl 1 []) (by simp only [go_sem]) nil_le_sl ?_
        refine jret Tryz.func13 (h := ⟨rfl, rfl⟩)
      · have hz2 : flC low l = 0 := Classical.not_not.1 hz
        rw [if_pos hz2] at hO
        rw [hO, hB]
        have hw := flW_of hz2 h64
        have hpu := putR_fz [] [e.toNat, if cl then 1 else 0] (by simp) (by simp) (by intro n hn; simp at hn; rcases hn with rfl | rfl; (· omega); (· split <;> omega))
        have hpn := hpu.nilArg (pre := [])
        simp only [natRows, List.map_cons, List.map_nil, Int.toNat_of_nonneg (show 0 ≤ e by omega), List.nil_append] at hpn
        have hcast : (((if cl then 1 else 0 : Nat)) : Int) = if cl then 1 else 0 := by split <;> rfl
        rw [hcast] at hpn
        have hlen := numsB_len (l := [e.toNat, if cl then 1 else 0]) (by intro n hn; simp at hn; rcases hn with rfl | rfl; (· omega); (· split <;> omega))
        simp only [List.length_cons, List.length_nil] at hlen
        have hfp := flput16_ok (numsB [e.toNat, if cl then 1 else 0]) low l (by omega) hw
        cases cl with
        | true =>
          simp only [if_true] at hpn hfp
          refine jr (own := []) (h := ?_)
          refine jt (h := ?_)
          refine jr (own := []) (h := ?_)
          refine jd [(0, .pure), (1, .read), (2, .pure), (3, .pure), (4, .pure), (5, .pure), (6, .read), (7, .pure), (8, .pure), (9, .pure)] mixed (by kernel_rfl) ?_
          refine cr (own := []) (hk := ?_)
          refine ccp (hs := hpn) (hk := ?_)
          refine cr (own := []) (hk := ?_)
          refine ccp (hs := hfp) (hk := ?_)
          refine cr (own := []) (hk := ?_)
          refine Can_nil ?_
          refine jr (own := []) (h := ?_)
          refine jret Tryz.func13 (h := ⟨by rw [hz2]; rfl, rfl⟩)
        | false =>
          simp only [Bool.false_eq_true, if_false] at hpn hfp
          refine jr (own := []) (h := ?_)
          refine jn (h := ?_)
          refine jr (own := []) (h := ?_)
          refine jd [(0, .pure), (1, .read), (2, .pure), (3, .pure), (4, .pure), (5, .pure), (6, .read), (7, .pure), (8, .pure), (9, .pure)] mixed (by kernel_rfl) ?_
          refine cr (own := []) (hk := ?_)
          refine ccp (hs := hpn) (hk := ?_)
          refine cr (own := []) (hk := ?_)
          refine ccp (hs := hfp) (hk := ?_)
          refine cr (own := []) (hk := ?_)
          refine Can_nil ?_
          refine jr (own := []) (h := ?_)
          refine jret Tryz.func13 (h := ⟨by rw [hz2]; rfl, rfl⟩)
theorem recget_ok (b : List UInt8) (hb : b.length < 2 ^ 37) : ACalls Tryz.prog 14 [.sl 1 (bytesRows b)] [GL] (fun r Δ => (∃ e, r = .ret (.tup [recAV (getRec b), e]) ∧ IsErr e (getX17 b)) ∧ Δ = [GL]) := by
  have ha1 : (getC17 b).2.1 ≤ b.length := numR_at b 0 1099511627776 (Nat.zero_le _)
  have ha2 : (getK17 b).2.1 ≤ b.length := numR_at b _ 1 ha1
  have hn1 : ∀ a, ACalls _ _ _ [rdr a b 0 0] (fun r Δ => r = .ret (.c (.int .i64 (getC17 b).2.2)) ∧ Δ = [rdr a b (getC17 b).2.1 (getC17 b).1]) := fun a => rnumL40_ok a b 0 0 (Nat.zero_le _) hb
  have hn2 : ∀ a, ACalls _ _ _ [rdr a b (getC17 b).2.1 (getC17 b).1] (fun r Δ => r = .ret (.c (.int .i64 (getK17 b).2.2)) ∧ Δ = [rdr a b (getK17 b).2.1 (getK17 b).1]) := fun a => rnumL1_ok a b (getC17 b).2.1 (getC17 b).1 ha1 hb
  have hn3 := fun a => from_ok a b (getK17 b).2.1 (getK17 b).1 ha2 hb
  have ha3 : (frA b (getK17 b).2.1 (getK17 b).1).2.1 ≤ b.length := frL_at b _ _ _ (numR_at b _ 12 (numR_at b _ 1099511627776 ha2))
  have hE : getE17 b = if frC b (getK17 b).2.1 (getK17 b).1 = 0 ∧ (getC17 b).2.2 = 0 then 2 else frC b (getK17 b).2.1 (getK17 b).1 := rfl
  have hX : getX17 b = endR b (frA b (getK17 b).2.1 (getK17 b).1).2.1 (getE17 b) := rfl
  have hG : getRec b = if getX17 b ≠ 0 then zRec else ⟨((getC17 b).2.2 : Int), decide ((getK17 b).2.2 = 1), (frF b (getK17 b).2.1 (getK17 b).1).1, (frF b (getK17 b).2.1 (getK17 b).1).2⟩ := rfl
  generalize getX17 b = X at *
  generalize getE17 b = E at *
  generalize frF b (getK17 b).2.1 (getK17 b).1 = F at *
  generalize frC b (getK17 b).2.1 (getK17 b).1 = FC at *
  generalize frA b (getK17 b).2.1 (getK17 b).1 = FA at *
  generalize getK17 b = K at *
  generalize getC17 b = C at *
  have hkd : decide (((K.2.2 : Nat) : Int) = 1) = decide (K.2.2 = 1) := by congr 1; exact propext (by omega)
  refine calls_of_J cl_14 Tryz.func14 rfl (by simp [Tryz.ntmps14]) ?_
  refine jr (own := [2]) (h := ?_)
  refine jnv (hh := fun b2 hb2 => ?_)
  refine jr (own := []) (h := ?_)
  refine jcs (Δ1 := []) (Fr := [_, _]) (hs := (read_ok b hb)) (hp := (List.Perm.refl _)) (hk := ?_) (hpan := (by rintro x Δ' ⟨a, e, _⟩; cases e))
  rintro x _ ⟨a, e, rfl⟩
  cases e
  simp only [List.cons_append, List.nil_append]
  refine J_ne2 (fun hab hba => ?_)
  refine jr (own := []) (h := ?_)
  refine jcs (Δ1 := [_]) (Fr := [_, _]) (hs := (hn1 a)) (hp := (List.Perm.refl _)) (hk := ?_) (hpan := (by rintro x Δ' ⟨e, _⟩; cases e))
  rintro x _ ⟨e, rfl⟩
  cases e
  simp only [List.cons_append, List.nil_append]
  refine jr (own := [5]) (h := ?_)
  refine jnv (hh := fun b5 hb5 => ?_)
  simp only [fresh, GL, HP.glob] at hb2 hb5
  refine jf (own := []) hb5 (h := ?_)
  refine jcs (Δ1 := [_]) (Fr := [_, _, _]) (hs := (hn2 a)) (hp := (List.Perm.swap _ _ _)) (hk := ?_) (hpan := (by rintro x Δ' ⟨e, _⟩; cases e))
  rintro x _ ⟨e, rfl⟩
  cases e
  simp only [List.cons_append, List.nil_append]
  refine jf (own := []) (a2 hb5 hkd) (h := ?_)
  refine jcs (Δ1 := [_, _]) (Fr := [_, _]) (hs := (hn3 a)) (hp := (.cons _ (List.perm_append_comm (l₁ := [_, _]) (l₂ := [_])))) (hk := ?_) (hpan := (by rintro x Δ' ⟨e, _⟩; cases e))
  rintro x _ ⟨e, rfl⟩
  cases e
  refine J_perm (.cons _ (List.perm_append_comm (l₁ := [_]) (l₂ := [_, _]))) ?_
  simp only [List.cons_append, List.nil_append]
  refine jf (own := []) hb5 (h := ?_)
  refine jcs (Δ1 := [_]) (Fr := [_, _, _]) (hs := (rcode_ok a b _ FC)) (hp := (List.Perm.refl _)) (hk := ?_) (hpan := (by rintro x Δ' ⟨e, _⟩; cases e))
  rintro x _ ⟨e, rfl⟩
  cases e
  simp only [List.cons_append, List.nil_append]
  by_cases hz : FC = 0
  · have hdz : decide (FC = 0) = true := decide_eq_true hz
    refine jf (own := []) (a2 hb5 hdz) (h := ?_)
    refine jif (h1 := fun he0 => ?_) (h2 := fun he0 => ?_)
    · have hE2 : E = 2 := by rw [hE, if_pos ⟨hz, by omega⟩]
      refine jr (own := []) (h := ?_)
      refine jcs (Δ1 := [_]) (Fr := [_, _, _]) (hs := (rfail_ok a b _ FC 2)) (hp := (List.Perm.refl _)) (hk := ?_) (hpan := (by rintro x Δ' ⟨e, _⟩; cases e))
      rintro x _ ⟨e, rfl⟩
      cases e
      rw [if_pos hz, ← hE2]
      simp only [List.cons_append, List.nil_append]
      refine jr (own := []) (h := ?_)
      refine jcs (Δ1 := [_]) (Fr := [_, _, _]) (hs := (rend_ok a b FA.2.1 E ha3 hb)) (hp := (List.Perm.refl _)) (hk := ?_) (hpan := (by rintro x Δ' ⟨e, _⟩; cases e))
      rintro x _ ⟨e, rfl⟩
      cases e
      rw [← hX]
      simp only [List.cons_append, List.nil_append]
      refine jr (own := []) (h := ?_)
      refine jif (h1 := fun hx => ?_) (h2 := fun hx => ?_)
      · rw [if_pos hx] at hG
        rw [hG]
        refine jr (own := []) (h := ?_)
        refine jcs (Δ1 := [_]) (Fr := [_, _, _]) (hs := (rat_ok a b FA.2.1 X)) (hp := (List.Perm.refl _)) (hk := ?_) (hpan := (by rintro x Δ' ⟨e, _⟩; cases e))
        rintro x _ ⟨e, rfl⟩
        cases e
        simp only [List.cons_append, List.nil_append]
        refine jr (own := []) (h := ?_)
        refine jc (hs := newS_ok _ _ _) (hk := ?_)
        refine jf (own := []) (a4 hb5 hb2 hab hba) (h := ?_)
        refine J_wkBox (b := b2) (t := 26) (cells := [.c (.int .i64 0), .c (.bool false), .c (.int .i64 0), .c (.slice none 0 0)]) (y := .sl 2 (flRows [])) 3 rfl nil_le_sl (List.perm_middle (l₁ := [_, _]) (l₂ := [_])) ?_
        refine J_forgetP ?_
        refine jretf (a4 hb5 hb2 hab hba) Tryz.func14 (h := ⟨[_, _, _], [_], List.Perm.refl _, ⟨_, rfl, errNew_is _ _ X⟩, rfl⟩)
      · rw [if_neg hx] at hG
        rw [hG]
        have hx2 : X = 0 := Classical.not_not.1 hx
        refine jf (own := []) (a4 hb5 hb2 hab hba) (h := ?_)
        refine J_forgetP ?_
        refine jretf (a4 hb5 hb2 hab hba) Tryz.func14 (h := ⟨[_, _, _], [_], List.Perm.refl _, ⟨_, rfl, by rw [hx2]; exact .none⟩, rfl⟩)
    · have hE2 : E = FC := by rw [hE, if_neg (fun h => he0 (by omega))]
      rw [← hE2]
      refine jr (own := []) (h := ?_)
      refine jcs (Δ1 := [_]) (Fr := [_, _, _]) (hs := (rend_ok a b FA.2.1 E ha3 hb)) (hp := (List.Perm.refl _)) (hk := ?_) (hpan := (by rintro x Δ' ⟨e, _⟩; cases e))
      rintro x _ ⟨e, rfl⟩
      cases e
      rw [← hX]
      simp only [List.cons_append, List.nil_append]
      refine jr (own := []) (h := ?_)
      refine jif (h1 := fun hx => ?_) (h2 := fun hx => ?_)
      · rw [if_pos hx] at hG
        rw [hG]
        refine jr (own := []) (h := ?_)
        refine jcs (Δ1 := [_]) (Fr := [_, _, _]) (hs := (rat_ok a b FA.2.1 X)) (hp := (List.Perm.refl _)) (hk := ?_) (hpan := (by rintro x Δ' ⟨e, _⟩; cases e))
        rintro x _ ⟨e, rfl⟩
        cases e
        simp only [List.cons_append, List.nil_append]
        refine jr (own := []) (h := ?_)
        refine jc (hs := newS_ok _ _ _) (hk := ?_)
        refine jf (own := []) (a4 hb5 hb2 hab hba) (h := ?_)
        refine J_wkBox (b := b2) (t := 26) (cells := [.c (.int .i64 0), .c (.bool false), .c (.int .i64 0), .c (.slice none 0 0)]) (y := .sl 2 (flRows [])) 3 rfl nil_le_sl (List.perm_middle (l₁ := [_, _]) (l₂ := [_])) ?_
        refine J_forgetP ?_
        refine jretf (a4 hb5 hb2 hab hba) Tryz.func14 (h := ⟨[_, _, _], [_], List.Perm.refl _, ⟨_, rfl, errNew_is _ _ X⟩, rfl⟩)
      · rw [if_neg hx] at hG
        rw [hG]
        have hx2 : X = 0 := Classical.not_not.1 hx
        refine jf (own := []) (a4 hb5 hb2 hab hba) (h := ?_)
        refine J_forgetP ?_
        refine jretf (a4 hb5 hb2 hab hba) Tryz.func14 (h := ⟨[_, _, _], [_], List.Perm.refl _, ⟨_, rfl, by rw [hx2]; exact .none⟩, rfl⟩)
  · have hdz : decide (FC = 0) = false := decide_eq_false hz
    have hE2 : E = FC := by rw [hE, if_neg (fun h => hz h.1)]
    refine jf (own := []) (a2 hb5 hdz) (h := ?_)
    refine jn (h := ?_)
    rw [← hE2]
    refine jr (own := []) (h := ?_)
    refine jcs (Δ1 := [_]) (Fr := [_, _, _]) (hs := (rend_ok a b FA.2.1 E ha3 hb)) (hp := (List.Perm.refl _)) (hk := ?_) (hpan := (by rintro x Δ' ⟨e, _⟩; cases e))
    rintro x _ ⟨e, rfl⟩
    cases e
    rw [← hX]
    simp only [List.cons_append, List.nil_append]
    refine jr (own := []) (h := ?_)
    refine jif (h1 := fun hx => ?_) (h2 := fun hx => ?_)
    · rw [if_pos hx] at hG
      rw [hG]
      refine jr (own := []) (h := ?_)
      refine jcs (Δ1 := [_]) (Fr := [_, _, _]) (hs := (rat_ok a b FA.2.1 X)) (hp := (List.Perm.refl _)) (hk := ?_) (hpan := (by rintro x Δ' ⟨e, _⟩; cases e))
      rintro x _ ⟨e, rfl⟩
      cases e
      simp only [List.cons_append, List.nil_append]
      refine jr (own := []) (h := ?_)
      refine jc (hs := newS_ok _ _ _) (hk := ?_)
      refine jf (own := []) (a4 hb5 hb2 hab hba) (h := ?_)
      refine J_wkBox (b := b2) (t := 26) (cells := [.c (.int .i64 0), .c (.bool false), .c (.int .i64 0), .c (.slice none 0 0)]) (y := .sl 2 (flRows [])) 3 rfl nil_le_sl (List.perm_middle (l₁ := [_, _]) (l₂ := [_])) ?_
      refine J_forgetP ?_
      refine jretf (a4 hb5 hb2 hab hba) Tryz.func14 (h := ⟨[_, _, _], [_], List.Perm.refl _, ⟨_, rfl, errNew_is _ _ X⟩, rfl⟩)
    · rw [if_neg hx] at hG
      rw [hG]
      have hx2 : X = 0 := Classical.not_not.1 hx
      refine jf (own := []) (a4 hb5 hb2 hab hba) (h := ?_)
      refine J_forgetP ?_
      refine jretf (a4 hb5 hb2 hab hba) Tryz.func14 (h := ⟨[_, _, _], [_], List.Perm.refl _, ⟨_, rfl, by rw [hx2]; exact .none⟩, rfl⟩)
theorem recget17_ok (b : List UInt8) (hb : b.length < 2 ^ 37) : ACalls Tryz.prog 15 [.sl 1 (bytesRows b)] [] (Ret (.tup [recAV (getRec b), .c (.int .i64 (getX17 b))])) := by
  have ha1 : (getC17 b).2.1 ≤ b.length := numR_at b 0 1099511627776 (Nat.zero_le _)
  have ha2 : (getK17 b).2.1 ≤ b.length := numR_at b _ 1 ha1
  have hn1 : ACalls Tryz.prog 66 [rdV b 0 0, .c (.int .i64 1099511627776)] [] (Ret (.tup [rdV b (getC17 b).2.1 (getC17 b).1, .c (.int .i64 (getC17 b).2.2)])) := num02L40_ok b 0 0 (Nat.zero_le _) hb
  have hn2 : ACalls Tryz.prog 66 [rdV b (getC17 b).2.1 (getC17 b).1, .c (.int .i64 1)] [] (Ret (.tup [rdV b (getK17 b).2.1 (getK17 b).1, .c (.int .i64 (getK17 b).2.2)])) := num02L1_ok b (getC17 b).2.1 (getC17 b).1 ha1 hb
  have hn3 := from16_ok b (getK17 b).2.1 (getK17 b).1 ha2 hb
  have ha3 : (frA b (getK17 b).2.1 (getK17 b).1).2.1 ≤ b.length := frL_at b _ _ _ (numR_at b _ 12 (numR_at b _ 1099511627776 ha2))
  have hn4 := end02_ok b (frA b (getK17 b).2.1 (getK17 b).1).2.1 (getE17 b) ha3 hb
  have hE : getE17 b = if frC b (getK17 b).2.1 (getK17 b).1 = 0 ∧ (getC17 b).2.2 = 0 then 2 else frC b (getK17 b).2.1 (getK17 b).1 := rfl
  have hX : getX17 b = endR b (frA b (getK17 b).2.1 (getK17 b).1).2.1 (getE17 b) := rfl
  have hG : getRec b = if getX17 b ≠ 0 then zRec else ⟨((getC17 b).2.2 : Int), decide ((getK17 b).2.2 = 1), (frF b (getK17 b).2.1 (getK17 b).1).1, (frF b (getK17 b).2.1 (getK17 b).1).2⟩ := rfl
  rw [← hX] at hn4
  generalize getX17 b = X at *
  generalize getE17 b = E at *
  generalize frF b (getK17 b).2.1 (getK17 b).1 = F at *
  generalize frC b (getK17 b).2.1 (getK17 b).1 = FC at *
  generalize frA b (getK17 b).2.1 (getK17 b).1 = FA at *
  generalize getK17 b = K at *
  generalize getC17 b = C at *
  have hkd : decide (((K.2.2 : Nat) : Int) = 1) = decide (K.2.2 = 1) := by congr 1; exact propext (by omega)
  refine calls_of_J cl_15 Tryz.func15 rfl (by simp [Tryz.ntmps15]) ?_
  refine jr (own := [2]) (h := ?_)
  refine jnv (hh := fun b2 hb2 => ?_)
  refine jr (own := []) (h := ?_)
  refine jc (hs := hn1) (hk := ?_)
  refine jr (own := [4]) (h := ?_)
  refine jnv (hh := fun b4 hb4 => ?_)
  simp only [fresh] at hb2 hb4
  refine jf (own := []) hb4 (h := ?_)
  refine jc (hs := hn2) (hk := ?_)
  refine jr (own := [6]) (h := ?_)
  refine jnv (hh := fun b6 hb6 => ?_)
  simp only [fresh] at hb6
  refine jf (own := []) (a2 hb6 hb4) (h := ?_)
  refine jc (hs := hn3) (hk := ?_)
  refine jr (own := [8, 9]) (h := ?_)
  refine jnv (hh := fun b8 hb8 => ?_)
  simp only [fresh] at hb8
  refine jr (own := [9]) (h := ?_)
  refine jnv (hh := fun b9 hb9 => ?_)
  simp only [fresh] at hb9
  by_cases hz : FC = 0
  · have hdz : decide (FC = 0) = true := decide_eq_true hz
    refine jf (own := []) (a3 hb9 hb8 hdz) (h := ?_)
    refine jif (h1 := fun he0 => ?_) (h2 := fun he0 => ?_)
    · have hE2 : E = 2 := by rw [hE, if_pos ⟨hz, by omega⟩]
      rw [hE2] at hn4
      refine jf (own := []) (a2 hb9 hb8) (h := ?_)
      refine jc (hs := hn4) (hk := ?_)
      refine jr (own := []) (h := ?_)
      refine jif (h1 := fun hx => ?_) (h2 := fun hx => ?_)
      · rw [if_pos hx] at hG
        rw [hG]
        refine jf (own := []) (a4 hb9 hb8 hb6 hb4) (h := ?_)
        refine J_wkBox (b := b2) (t := 26) (cells := [.c (.int .i64 0), .c (.bool false), .c (.int .i64 0), .c (.slice none 0 0)]) (y := .sl 2 (flRows [])) 3 rfl nil_le_sl (List.perm_middle (l₁ := [_, _, _, _]) (l₂ := [])) ?_
        refine J_forget ?_
        refine jretf (a4 hb9 hb8 hb6 hb4) Tryz.func15 (h := ⟨rfl, rfl⟩)
      · rw [if_neg hx] at hG
        rw [hG]
        have hx2 : X = 0 := Classical.not_not.1 hx
        refine jf (own := []) (a5 hb9 hb8 hb6 hb4 hkd) (h := ?_)
        refine J_forget ?_
        refine jretf (a4 hb9 hb8 hb6 hb4) Tryz.func15 (h := ⟨by rw [hx2], rfl⟩)
    · have hE2 : E = FC := by rw [hE, if_neg (fun h => he0 (by omega))]
      rw [hE2] at hn4
      refine jf (own := []) (a2 hb9 hb8) (h := ?_)
      refine jc (hs := hn4) (hk := ?_)
      refine jr (own := []) (h := ?_)
      refine jif (h1 := fun hx => ?_) (h2 := fun hx => ?_)
      · rw [if_pos hx] at hG
        rw [hG]
        refine jf (own := []) (a4 hb9 hb8 hb6 hb4) (h := ?_)
        refine J_wkBox (b := b2) (t := 26) (cells := [.c (.int .i64 0), .c (.bool false), .c (.int .i64 0), .c (.slice none 0 0)]) (y := .sl 2 (flRows [])) 3 rfl nil_le_sl (List.perm_middle (l₁ := [_, _, _, _]) (l₂ := [])) ?_
        refine J_forget ?_
        refine jretf (a4 hb9 hb8 hb6 hb4) Tryz.func15 (h := ⟨rfl, rfl⟩)
      · rw [if_neg hx] at hG
        rw [hG]
        have hx2 : X = 0 := Classical.not_not.1 hx
        refine jf (own := []) (a5 hb9 hb8 hb6 hb4 hkd) (h := ?_)
        refine J_forget ?_
        refine jretf (a4 hb9 hb8 hb6 hb4) Tryz.func15 (h := ⟨by rw [hx2], rfl⟩)
  · have hdz : decide (FC = 0) = false := decide_eq_false hz
    have hE2 : E = FC := by rw [hE, if_neg (fun h => hz h.1)]
    rw [hE2] at hn4
    refine jf (own := []) (a3 hb9 hb8 hdz) (h := ?_)
    refine jn (h := ?_)
    refine jf (own := []) (a2 hb9 hb8) (h := ?_)
    refine jc (hs := hn4) (hk := ?_)
    refine jr (own := []) (h := ?_)
    refine jif (h1 := fun hx => ?_) (h2 := fun hx => ?_)
    · rw [if_pos hx] at hG
      rw [hG]
      refine jf (own := []) (a4 hb9 hb8 hb6 hb4) (h := ?_)
      refine J_wkBox (b := b2) (t := 26) (cells := [.c (.int .i64 0), .c (.bool false), .c (.int .i64 0), .c (.slice none 0 0)]) (y := .sl 2 (flRows [])) 3 rfl nil_le_sl (List.perm_middle (l₁ := [_, _, _, _]) (l₂ := [])) ?_
      refine J_forget ?_
      refine jretf (a4 hb9 hb8 hb6 hb4) Tryz.func15 (h := ⟨rfl, rfl⟩)
    · rw [if_neg hx] at hG
      rw [hG]
      have hx2 : X = 0 := Classical.not_not.1 hx
      refine jf (own := []) (a5 hb9 hb8 hb6 hb4 hkd) (h := ?_)
      refine J_forget ?_
      refine jretf (a4 hb9 hb8 hb6 hb4) Tryz.func15 (h := ⟨by rw [hx2], rfl⟩)
end Go.Proofs.YtlmahffjidgplaaGreatDoor
end

section
namespace Go.Proofs.YtlmahffjidgplaaGreatDoor
open Go Go.Av
set_option linter.unusedVariables false
set_option linter.unusedSimpArgs false
set_option maxRecDepth 100000
set_option maxHeartbeats 4000000
attribute [local go_sem] packed List.set_cons_zero List.set_cons_succ List.cons_append List.nil_append bytesRows_length

/-! ### Ledgers -/
abbrev ldg (l t : Nat) (base newest : Int) (x : Rec) : HP := .box l 155 [ptr t, .c (.int .i64 base), .c (.int .i64 newest), .c (.int .i64 x.e), .c (.bool x.cl), .c (.int .i64 x.low), .sl 2 (flRows x.l)]
def lgStep (s : Fl) (base : Int) (st : Int × Rec × Nat) (i : Nat) : Int × Rec × Nat :=
  if tgetC s (base + i) 4 ≠ 0 ∨ (stampsB (lookB s (base + i))).1 < st.2.2 then st
  else if getX17 (txtB (lookB s (base + i))) ≠ 0 then st
  else ((i : Int), getRec (txtB (lookB s (base + i))), (stampsB (lookB s (base + i))).1)
def lgOpen (s : Fl) (base : Int) : Int × Rec × Nat := lgStep s base (lgStep s base (-1, zRec, 0) 0) 1
theorem last_ok (l t : Nat) (base newest : Int) (x : Rec) (hx : x.l.length < 2 ^ 20) : ACalls Tryz.prog 23 [ptr l] [ldg l t base newest x] (fun r Δ => r = .ret (.tup [recAV x, .c (.bool (decide (0 ≤ newest)))]) ∧ Δ = [ldg l t base newest x]) := by
  obtain ⟨e, cl, low, fl⟩ := x
  refine calls_of_J cl_23 Tryz.func23 rfl (by simp [Tryz.ntmps23]) ?_
  refine jr (own := [2]) (h := ?_)
  refine jnv (hh := fun b2 hb2 => ?_)
  simp only [fresh] at hb2
  refine jf (own := [4]) hb2 (h := ?_)
  refine jnv (hh := fun b4 hb4 => ?_)
  simp only [fresh] at hb4
  refine jf (own := []) (a2 hb4 hb2) (h := ?_)
  refine jc (hs := flcopy_ok low fl hx) (hk := ?_)
  refine jf (own := []) (a2 hb4 hb2) (h := ?_)
  refine jd2 4 6 [(0, .read), (1, .pure), (2, .pure), (3, .pure), (4, .read), (5, .pure), (6, .act), (7, .pure)] [(0, .read), (1, .pure), (2, .pure), (3, .pure), (6, .act), (4, .read), (5, .pure), (7, .pure)] mixed (by kernel_rfl) ?_ ?_
  all_goals
    refine cf (own := []) (a2 hb4 hb2) (hk := ?_)
    refine Can_nil ?_
    refine jr (own := []) (h := ?_)
    refine J_forgetP ?_
    refine jretf (a2 hb4 hb2) Tryz.func23 (h := ⟨[_, _], [_], List.Perm.refl _, rfl, rfl⟩)
theorem checkC_ne11 (st kd : Int) (n : Nat) : checkC st kd n ≠ 11 := by
  unfold checkC; split
  · decide
  · split
    · decide
    · split <;> decide
theorem getC_ne11 (b : List UInt8) : getC b ≠ 11 := by
  have := checkC_ne11 (stampsB b).1 (kdB b) (nB b)
  unfold getC
  repeat' split
  all_goals first | decide | assumption
theorem tgetC_up {s : Fl} (h : s.down = false) (at_ kd : Int) : tgetC s at_ kd ≠ 11 := by
  unfold tgetC
  have h1 : checkF s at_ ≠ 11 := by unfold checkF; rw [h]; simp only [Bool.false_eq_true, if_false]; split <;> decide
  have := getC_ne11 (lookB s at_)
  repeat' split
  all_goals first | decide | assumption
theorem tgetC_down {s : Fl} (h : s.down = true) (at_ kd : Int) : tgetC s at_ kd = 11 := by
  unfold tgetC checkF; rw [h]; rfl
def lgN (s : Fl) (base : Int) : Nat → Int × Rec × Nat
  | 0 => (-1, zRec, 0)
  | k + 1 => lgStep s base (lgN s base k) k
theorem lopen_err1 (t f : Nat) (n : Int) (s : Fl) (D : List HP) (h : OwnF f s D) (base : Int) (hb : base < 0 ∨ s.pages - 2 < base) (hp : 0 ≤ s.pages ∧ s.pages ≤ 4096) : ACalls Tryz.prog 26 [ptr t, .c (.int .i64 base)] (tbox t f n :: D)
    (fun r D' => (∃ e, r = .ret (.tup [.c (.pointer none), e]) ∧ IsErr e 2) ∧ D' = tbox t f n :: D) := by
  refine calls_of_J cl_26 Tryz.func26 rfl (by simp [Tryz.ntmps26]) ?_
  refine jr (own := []) (h := ?_)
  refine jn (h := ?_)
  by_cases h1 : base < 0
  · have hd : decide (base < 0) = true := decide_eq_true h1
    refine jf (own := []) hd (h := ?_)
    refine jt (h := ?_)
    refine jr (own := []) (h := ?_)
    refine jc (hs := newS_ok _ _ _) (hk := ?_)
    refine jr (own := []) (h := ?_)
    refine jret Tryz.func26 (h := ⟨⟨_, rfl, errNew_is _ _ 2⟩, rfl⟩)
  · have hd : decide (base < 0) = false := decide_eq_false h1
    refine jf (own := []) hd (h := ?_)
    refine jcs (Δ1 := D) (Fr := [_]) (hs := (pages_ok h)) (hp := (List.perm_append_comm (l₁ := [_]))) (hk := ?_) (hpan := (by rintro x Δ' ⟨e, _⟩; cases e))
    rintro x _ ⟨e, rfl⟩
    cases e
    refine J_perm (List.perm_append_comm (l₂ := [_])) ?_
    simp only [List.cons_append, List.nil_append]
    refine jf (own := []) hd (h := ?_)
    refine jif (h1 := fun _ => ?_) (h2 := fun hc => absurd (by first | omega | simp) hc)
    refine jr (own := []) (h := ?_)
    refine jc (hs := newS_ok _ _ _) (hk := ?_)
    refine jr (own := []) (h := ?_)
    refine jret Tryz.func26 (h := ⟨⟨_, rfl, errNew_is _ _ 2⟩, rfl⟩)
theorem lopen_ok (t f : Nat) (n : Int) (s : Fl) (D : List HP) (h : OwnF f s D) (hw : s.WF) (base : Int) (hb : 0 ≤ base ∧ base ≤ s.pages - 2) (hp : s.pages ≤ 4096) (hd : s.down = false) : ACalls Tryz.prog 26 [ptr t, .c (.int .i64 base)] (tbox t f n :: GL :: D)
    (fun r D' => ∃ l, r = .ret (.tup [ptr l, .c .nilIface]) ∧ D' = ldg l t base (lgN s base 2).1 (lgN s base 2).2.1 :: tbox t f n :: GL :: D) := by
  have hpt : ∀ x : HP, (x :: tbox t f n :: GL :: D).Perm ((tbox t f n :: D) ++ [x, GL]) := fun x => (List.Perm.swap _ _ _).trans (.cons _ (List.perm_append_comm (l₁ := [_, _])))
  refine calls_of_J cl_26 Tryz.func26 rfl (by simp [Tryz.ntmps26]) ?_
  refine jr (own := []) (h := ?_)
  refine jn (h := ?_)
  have hd1 : decide (base < 0) = false := decide_eq_false (by omega)
  refine jf (own := []) hd1 (h := ?_)
  refine jcs (Δ1 := D) (Fr := [_, _]) (hs := (pages_ok h)) (hp := (List.perm_append_comm (l₁ := [_, _]))) (hk := ?_) (hpan := (by rintro x Δ' ⟨e, _⟩; cases e))
  rintro x D ⟨e, rfl⟩
  cases e
  refine J_perm (List.perm_append_comm (l₂ := [_, _])) ?_
  simp only [List.cons_append, List.nil_append]
  refine jf (own := []) hd1 (h := ?_)
  refine jif (h1 := fun hc => absurd hc (by first | omega | simp)) (h2 := fun _ => ?_)
  refine jr (own := [32]) (h := ?_)
  refine jnb (hh := fun l hl => ?_)
  simp only [fresh] at hl
  refine jf (own := []) hl (h := ?_)
  refine J_wkBox (b := l) (t := 155) (cells := [ptr t, .c (.int .i64 base), .c (.int .i64 (-1)), .c (.int .i64 0), .c (.bool false), .c (.int .i64 0), .c (.slice none 0 0)]) (y := .sl 2 (flRows [])) 6 rfl nil_le_sl (List.Perm.refl _) ?_
  simp only [List.set_cons_succ, List.set_cons_zero]
  refine jk [0, 1, 6, 7, 33] (h := ?_)
  refine J_loopI (I := fun m e D' => ∃ i : Nat, i ≤ 2 ∧ m = 2 - i ∧ D' = ldg l t base (lgN s base i).1 (lgN s base i).2.1 :: tbox t f n :: GL :: D ∧ e = [(0, ptr t), (1, .c (.int .i64 base)), (6, ptr l), (7, .c (.int .i64 (lgN s base i).2.2)), (33, .c (.int .i64 i))]) ?_ ?_
  · exact ⟨_, 0, by omega, rfl, rfl, rfl⟩
  · rintro m e D' ⟨i, hi, rfl, rfl, rfl⟩ ih
    refine jr (own := []) (h := ?_)
    refine jif (h1 := fun hc => ?_) (h2 := fun hc => ?_)
    · have hst : lgN s base (i + 1) = lgStep s base (lgN s base i) i := rfl
      have hbk : ∀ st', lgStep s base (lgN s base i) i = st' → lgN s base (i + 1) = st' := fun st' h => hst.trans h
      unfold lgStep at hst
      generalize lgN s base i = st at *
      have hg := tget_ok (t := t) (n := n) h hw (base + i) 4
      have hlen : (txtB (lookB s (base + i))).length < 2 ^ 37 := by
        have := look_len hw (base + i)
        unfold txtB; rw [List.length_take, List.length_drop]; omega
      have h11 := tgetC_up hd (base + i) 4
      generalize hCC : tgetC s (base + i) 4 = c at *
      generalize hLB : lookB s (base + i) = LB at *
      refine jr (own := []) (h := ?_)
      refine jcs (Δ1 := tbox t f n :: D) (Fr := [_, GL]) (hs := hg) (hp := (hpt _)) (hk := ?_) (hpan := (by rintro x Δ' ⟨h1, h2, _⟩; by_cases hc : c = 0; (· cases h1 hc); (· obtain ⟨e, h3, _⟩ := h2 hc; cases h3)))
      rintro x _ ⟨k1, k2, rfl⟩
      refine J_perm (hpt _).symm ?_
      by_cases hz : c = 0
      · have k := k1 hz
        cases k
        have hh := has_ok IsErr.none 11
        rw [decide_eq_false (fun h => h.1 rfl)] at hh
        unfold leafAV
        refine jr (own := [9]) (h := ?_)
        refine jnv (hh := fun b9 hb9 => ?_)
        simp only [fresh] at hb9
        refine jf (own := []) (a2 hb9 hl) (h := ?_)
        refine jc (hs := hh) (hk := ?_)
        refine jr (own := []) (h := ?_)
        refine jn (h := ?_)
        refine jf (own := []) hb9 (h := ?_)
        refine jif (h1 := fun hs => ?_) (h2 := fun hs => ?_)
        · have hN := hbk st (by unfold lgStep; rw [hLB, hCC, if_pos (.inr (by omega))])
          refine jr (own := []) (h := ?_)
          refine J_drop ?_
          refine jk [0, 1, 6, 7, 33] (h := ?_)
          refine ih (2 - (i + 1)) _ _ (by omega) ⟨i + 1, by omega, rfl, by rw [hN], by rw [hN]; rfl⟩
        · have hgt := recget_ok (txtB LB) hlen
          refine jf (own := []) hb9 (h := ?_)
          refine jcs (Δ1 := [_]) (Fr := _ :: _ :: _ :: D) (hs := hgt) (hp := (List.perm_middle (l₁ := [_, _, _]))) (hk := ?_) (hpan := (by rintro x Δ' ⟨⟨e, h, _⟩, _⟩; cases h))
          rintro x _ ⟨⟨e, k, he⟩, rfl⟩
          cases k
          refine J_perm (List.perm_middle (l₁ := [_, _, _])).symm ?_
          simp only [List.cons_append, List.nil_append]
          refine jr (own := [11]) (h := ?_)
          refine jnv (hh := fun b11 hb11 => ?_)
          simp only [fresh] at hb11
          by_cases hx : getX17 (txtB LB) = 0
          · rw [hx] at he
            obtain rfl := iserr_zero he
            have hN := hbk ((i : Int), getRec (txtB LB), (stampsB LB).1) (by unfold lgStep; rw [hLB, hCC, if_neg (fun h => by rcases h with h | h; (· exact absurd hz h); (· omega)), if_neg (fun h => h hx)])
            refine jf (own := []) (a3 hb11 hb9 hl) (h := ?_)
            refine jn (h := ?_)
            refine J_freeze (s := 11) (o := 0) (by simp only [go_sem]) ?_
            refine J_freeze (s := 9) (o := 0) (by simp only [go_sem]) ?_
            simp only [List.drop_zero]
            refine jr (own := []) (h := ?_)
            refine jd [(0, .pure), (1, .pure), (2, .pure), (3, .pure), (4, .pure), (5, .pure), (6, .pure), (7, .pure), (8, .act), (9, .pure), (10, .pure), (11, .act), (12, .pure)] mixed (by kernel_rfl) ?_
            refine cr (own := []) (hk := ?_)
            refine Can_nil ?_
            refine jr (own := []) (h := ?_)
            refine jk [0, 1, 6, 7, 33] (h := ?_)
            refine ih (2 - (i + 1)) _ _ (by omega) ⟨i + 1, by omega, rfl, by rw [hN], by rw [hN]; rfl⟩
          · have hN := hbk st (by unfold lgStep; rw [hLB, hCC, if_neg (fun h => by rcases h with h | h; (· exact absurd hz h); (· omega)), if_pos hx])
            obtain ⟨te, ve, rfl⟩ := iserr_ne he hx
            refine jf (own := []) (a3 hb11 hb9 hl) (h := ?_)
            refine jt (h := ?_)
            refine jr (own := []) (h := ?_)
            refine J_drop (J_drop ?_)
            refine jk [0, 1, 6, 7, 33] (h := ?_)
            refine ih (2 - (i + 1)) _ _ (by omega) ⟨i + 1, by omega, rfl, by rw [hN], by rw [hN]; rfl⟩
      · obtain ⟨e, k, he⟩ := k2 hz
        cases k
        have hN := hbk st (by unfold lgStep; rw [hLB, hCC, if_pos (.inl hz)])
        obtain ⟨te, ve, rfl⟩ := iserr_ne he hz
        have hh := has_ok he 11
        rw [decide_eq_false (fun h => h11 h.2)] at hh
        unfold leafAV
        refine jr (own := [9]) (h := ?_)
        refine jnv (hh := fun b9 hb9 => ?_)
        simp only [fresh] at hb9
        refine jf (own := []) (a2 hb9 hl) (h := ?_)
        refine jc (hs := hh) (hk := ?_)
        refine jr (own := []) (h := ?_)
        refine jn (h := ?_)
        refine jf (own := []) hb9 (h := ?_)
        refine jt (h := ?_)
        refine jr (own := []) (h := ?_)
        refine J_drop ?_
        refine jk [0, 1, 6, 7, 33] (h := ?_)
        refine ih (2 - (i + 1)) _ _ (by omega) ⟨i + 1, by omega, rfl, by rw [hN], by rw [hN]; rfl⟩
    · have hi2 : i = 2 := by omega
      subst hi2
      refine jr (own := []) (h := ?_)
      refine jret Tryz.func26 (h := ⟨l, rfl, rfl⟩)
theorem lopen_down (t f : Nat) (n : Int) (s : Fl) (D : List HP) (h : OwnF f s D) (hw : s.WF) (base : Int) (hb : 0 ≤ base ∧ base ≤ s.pages - 2) (hp : s.pages ≤ 4096) (hd : s.down = true) : ACalls Tryz.prog 26 [ptr t, .c (.int .i64 base)] (tbox t f n :: D)
    (fun r D' => (∃ e, r = .ret (.tup [.c (.pointer none), e]) ∧ IsErr e 11) ∧ D' = tbox t f n :: D) := by
  refine calls_of_J cl_26 Tryz.func26 rfl (by simp [Tryz.ntmps26]) ?_
  refine jr (own := []) (h := ?_)
  refine jn (h := ?_)
  have hd1 : decide (base < 0) = false := decide_eq_false (by omega)
  refine jf (own := []) hd1 (h := ?_)
  refine jcs (Δ1 := D) (Fr := [_]) (hs := (pages_ok h)) (hp := (List.perm_append_comm (l₁ := [_]))) (hk := ?_) (hpan := (by rintro x Δ' ⟨e, _⟩; cases e))
  rintro x D ⟨e, rfl⟩
  cases e
  refine J_perm (List.perm_append_comm (l₂ := [_])) ?_
  simp only [List.cons_append, List.nil_append]
  refine jf (own := []) hd1 (h := ?_)
  refine jif (h1 := fun hc => absurd hc (by first | omega | simp)) (h2 := fun _ => ?_)
  refine jr (own := [32]) (h := ?_)
  refine jnb (hh := fun l hl => ?_)
  simp only [fresh] at hl
  refine jf (own := []) hl (h := ?_)
  refine J_drop ?_
  refine jk [0, 1, 6, 7, 33] (h := ?_)
  refine J_loop ?_
  refine jr (own := []) (h := ?_)
  refine jt (h := ?_)
  have hg := tget_ok (t := t) (n := n) h hw (base + 0) 4
  have hC := tgetC_down hd (base + 0) 4
  rw [hC] at hg
  refine jr (own := []) (h := ?_)
  refine jcs (Δ1 := tbox t f n :: D) (Fr := []) (hs := hg) (hp := (by simp)) (hk := ?_) (hpan := (by rintro x Δ' ⟨h1, h2, _⟩; obtain ⟨e, h3, _⟩ := h2 (by decide); cases h3))
  rintro x _ ⟨_, k2, rfl⟩
  obtain ⟨e, k, he⟩ := k2 (by decide)
  cases k
  have hh := has_ok he 11
  rw [decide_eq_true ⟨by decide, rfl⟩] at hh
  obtain ⟨te, ve, rfl⟩ := iserr_ne he (by decide)
  unfold leafAV
  refine jr (own := [9]) (h := ?_)
  refine jnv (hh := fun b9 hb9 => ?_)
  simp only [fresh] at hb9
  refine jf (own := []) hb9 (h := ?_)
  refine jc (hs := hh) (hk := ?_)
  refine jr (own := []) (h := ?_)
  refine jt (h := ?_)
  refine jr (own := []) (h := ?_)
  refine jcs (Δ1 := []) (Fr := _ :: _ :: _) (hs := (wrapS_ok _ _ he)) (hp := (List.Perm.refl _)) (hk := ?_) (hpan := (by rintro x Δ' ⟨⟨e, h, _⟩, _⟩; cases h))
  rintro x _ ⟨⟨er2, h, he2⟩, rfl⟩
  cases h
  refine jr (own := []) (h := ?_)
  refine J_forgetP ?_
  refine jret Tryz.func26 (h := ⟨[_], _, List.Perm.refl _, ⟨_, rfl, he2⟩, rfl⟩)
def lgTo (newest : Int) : Int := if newest = 0 then 1 else 0
theorem lsave_err (l t f : Nat) (n base newest : Int) (y x : Rec) (D : List HP) (h64 : ∀ p ∈ x.l, p.1 < 2 ^ 64) (hx : recC x ≠ 0) : ACalls Tryz.prog 22 [ptr l, recAV x] (ldg l t base newest y :: tbox t f n :: D)
    (fun r D' => (∃ e, r = .ret e ∧ IsErr e (recC x)) ∧ D' = ldg l t base newest y :: tbox t f n :: D) := by
  have hpu := recput_ok x h64
  obtain ⟨e, cl, low, fl⟩ := x
  refine calls_of_J cl_22 Tryz.func22 rfl (by simp [Tryz.ntmps22]) ?_
  refine jr (own := []) (h := ?_)
  refine jcs (Δ1 := []) (Fr := _ :: _ :: D) (hs := hpu) (hp := (List.Perm.refl _)) (hk := ?_) (hpan := (by rintro x Δ' ⟨⟨e, h, _⟩, _⟩; cases h))
  rintro z _ ⟨⟨er, h, he⟩, rfl⟩
  cases h
  obtain ⟨te, ve, rfl⟩ := iserr_ne he hx
  simp only [List.nil_append]
  refine jr (own := []) (h := ?_)
  refine jt (h := ?_)
  refine jr (own := []) (h := ?_)
  refine jcs (Δ1 := []) (Fr := _ :: _ :: D) (hs := (wrapS_ok _ _ he)) (hp := (List.Perm.refl _)) (hk := ?_) (hpan := (by rintro x Δ' ⟨⟨e, h, _⟩, _⟩; cases h))
  rintro z _ ⟨⟨er2, h, he2⟩, rfl⟩
  cases h
  refine jr (own := []) (h := ?_)
  refine jret Tryz.func22 (h := ⟨⟨_, rfl, he2⟩, rfl⟩)
theorem lsave_ok (l t f : Nat) (n base newest : Int) (y x : Rec) (s : Fl) (D : List HP) (h : OwnF f s D) (hw : s.WF) (hw2 : (tputS s n (base + lgTo newest) 4 (recB x)).WF) (hn : n < 4611686018427387904) (hb : 0 ≤ base ∧ base ≤ 4096) (hl : (recB x).length < 2 ^ 37) (h64 : ∀ p ∈ x.l, p.1 < 2 ^ 64) (hx : recC x = 0) (hxl : x.l.length < 2 ^ 20) (hlt : l ≠ t) :
    ACalls Tryz.prog 22 [ptr l, recAV x] (ldg l t base newest y :: tbox t f n :: D)
    (fun r D' => ∃ e D1, r = .ret e ∧ IsErr e (tfirmC s n (base + lgTo newest) 4 (recB x)) ∧ OwnF f (tfirmS s n (base + lgTo newest) 4 (recB x)) D1 ∧
      D' = (if tfirmC s n (base + lgTo newest) 4 (recB x) = 0 then ldg l t base (lgTo newest) x else ldg l t base newest y) :: tbox t f (tputN s n (base + lgTo newest) 4 (recB x)) :: D1) := by
  have hpu := recput_ok x h64
  have hO : recO x = recB x := by unfold recO; rw [if_pos hx]
  rw [hO, hx] at hpu
  have hto : (if decide (newest = 0) = true then (1 : Int) else 0) = lgTo newest := by unfold lgTo; simp
  have htb : 0 ≤ lgTo newest ∧ lgTo newest ≤ 1 := by unfold lgTo; split <;> omega
  have hpk := pick_ok 0 1 (decide (newest = 0))
  rw [hto] at hpk
  have hfm := tfirm_ok (t := t) (base + lgTo newest) 4 (recB x) h hw hw2 hn hl
  generalize recB x = bb at *
  generalize tfirmC s n (base + lgTo newest) 4 bb = c at *
  generalize tfirmS s n (base + lgTo newest) 4 bb = s2 at *
  generalize tputN s n (base + lgTo newest) 4 bb = n2 at *
  generalize lgTo newest = to at *
  obtain ⟨e, cl, low, fl⟩ := x
  refine calls_of_J cl_22 Tryz.func22 rfl (by simp [Tryz.ntmps22]) ?_
  refine jr (own := []) (h := ?_)
  refine jcs (Δ1 := []) (Fr := _ :: _ :: D) (hs := hpu) (hp := (List.Perm.refl _)) (hk := ?_) (hpan := (by rintro x Δ' ⟨⟨e, h, _⟩, _⟩; cases h))
  rintro z _ ⟨⟨er, hr, he⟩, rfl⟩
  cases hr
  obtain rfl := iserr_zero he
  simp only [List.nil_append]
  refine jr (own := []) (h := ?_)
  refine jn (h := ?_)
  refine jr (own := []) (h := ?_)
  refine jc (hs := hpk) (hk := ?_)
  refine jr (own := []) (h := ?_)
  refine jd [(0, .pure), (1, .pure), (2, .pure), (3, .read), (4, .pure), (5, .pure), (6, .pure), (7, .read), (8, .pure), (9, .pure), (10, .pure), (11, .act), (12, .pure)] mixed (by kernel_rfl) ?_
  refine cr (own := []) (hk := ?_)
  refine ccs (Δ1 := tbox t f n :: D) (Fr := [_]) (hs := hfm) (hp := (List.perm_append_comm (l₁ := [_]))) (hk := ?_) (hn := (by rintro x Δ' ⟨e, D1, h, _⟩; cases h))
  rintro z _ ⟨er, D1, hr, he1, hz, hO1, rfl⟩
  cases hr
  refine cr (own := []) (hk := ?_)
  refine Can_nil ?_
  refine J_perm (List.perm_append_comm (l₁ := tbox t f n2 :: D1) (l₂ := [_])) ?_
  simp only [List.cons_append, List.nil_append]
  by_cases hc : c = 0
  · obtain rfl := hz hc
    rw [if_pos hc]
    refine jr (own := []) (h := ?_)
    refine jn (h := ?_)
    refine jr (own := []) (h := ?_)
    refine jd [(0, .pure), (1, .pure), (2, .pure), (3, .pure), (4, .pure), (5, .pure), (6, .act), (7, .pure), (8, .pure), (9, .act)] mixed (by kernel_rfl) ?_
    refine cr (own := []) (hk := ?_)
    refine Can_nil ?_
    refine jr (own := []) (h := ?_)
    refine jc (hs := flcopy_ok low fl hxl) (hk := ?_)
    refine jr (own := []) (h := ?_)
    refine jret Tryz.func22 (h := ⟨_, D1, rfl, he1, hO1, rfl⟩)
  · obtain ⟨te, ve, rfl⟩ := iserr_ne he1 hc
    rw [if_neg hc]
    refine jr (own := []) (h := ?_)
    refine jt (h := ?_)
    refine jr (own := []) (h := ?_)
    refine jcs (Δ1 := []) (Fr := _ :: _ :: D1) (hs := (wrapS_ok _ _ he1)) (hp := (List.Perm.refl _)) (hk := ?_) (hpan := (by rintro x Δ' ⟨⟨e, h, _⟩, _⟩; cases h))
    rintro z _ ⟨⟨er2, hr, he2⟩, rfl⟩
    cases hr
    refine jr (own := []) (h := ?_)
    refine jret Tryz.func22 (h := ⟨_, D1, rfl, he2, hO1, rfl⟩)
end Go.Proofs.YtlmahffjidgplaaGreatDoor
end

section
namespace Go.Proofs.YtlmahffjidgplaaGreatDoor
open Go Go.Av
set_option linter.unusedVariables false
set_option linter.unusedSimpArgs false
set_option maxRecDepth 100000
set_option maxHeartbeats 4000000
attribute [local go_sem] packed List.set_cons_zero List.set_cons_succ List.cons_append List.nil_append bytesRows_length cellRows_len chRows_len rCells intRows_len
attribute [-go_sem] cellsOf AV.isCell
attribute [local go_sem] cellsOf_agg cellsOf_int cellsOf_bool cellsOf_str cellsOf_map cellsOf_ptr cellsOf_nilI cellsOf_slice cellsOf_sl cellsOf_ifc cellsOf_fp cellsOf_opt optAV_cell icell_int icell_bool icell_str icell_map icell_ptr icell_nilI icell_slice icell_sl icell_ifc icell_fp

/-! ### The document's ledger -/
def lgAV (r : Fl) (n base newest : Int) (x : Rec) : AV := .agg (rCells r ++ [.c (.int .i64 n), .c (.int .i64 base), .c (.int .i64 newest), .c (.int .i64 x.e), .c (.bool x.cl), .c (.int .i64 x.low), .sl 2 (flRows x.l)])
attribute [local go_sem] lgAV tAV
abbrev zLg : AV := .agg [.c (.int .i64 0), .c (.slice none 0 0), .c (.slice none 0 0), .c (.int .i64 0), .c (.bool false), .c (.int .i64 0), .c (.int .i64 0), .c (.int .i64 0), .c (.int .i64 0), .c (.int .i64 0), .c (.bool false), .c (.int .i64 0), .c (.slice none 0 0)]
theorem lopen17_err (r : Fl) (n base : Int) (h : base < 0 ∨ r.pages - 2 < base) (hp : 0 ≤ r.pages ∧ r.pages ≤ 4096) : ACalls Tryz.prog 27 [tAV r n, .c (.int .i64 base)] [] (Ret (.tup [zLg, .c (.int .i64 2)])) := by
  refine calls_of_J cl_27 Tryz.func27 rfl (by simp [Tryz.ntmps27]) ?_
  refine jr (own := [4]) (h := ?_)
  refine jnv (hh := fun b4 hb4 => ?_)
  by_cases h1 : base < 0
  · have hd : decide (base < 0) = true := decide_eq_true h1
    refine jf (own := []) hd (h := ?_)
    refine jt (h := ?_)
    refine jr (own := []) (h := ?_)
    refine J_forget ?_
    refine jret Tryz.func27 (h := ⟨rfl, rfl⟩)
  · have hd : decide (base < 0) = false := decide_eq_false h1
    refine jf (own := []) hd (h := ?_)
    refine jif (h1 := fun _ => ?_) (h2 := fun hc => absurd (by first | omega | simp) hc)
    refine jr (own := []) (h := ?_)
    refine J_forget ?_
    refine jret Tryz.func27 (h := ⟨rfl, rfl⟩)
theorem lopen17_down (r : Fl) (n base : Int) (h : 0 ≤ base ∧ base ≤ r.pages - 2) (hp : 0 ≤ r.pages ∧ r.pages ≤ 4096) (hd : r.down = true) : ACalls Tryz.prog 27 [tAV r n, .c (.int .i64 base)] [] (Ret (.tup [zLg, .c (.int .i64 11)])) := by
  refine calls_of_J cl_27 Tryz.func27 rfl (by simp [Tryz.ntmps27]) ?_
  refine jr (own := [4]) (h := ?_)
  refine jnv (hh := fun b4 hb4 => ?_)
  have hd1 : decide (base < 0) = false := decide_eq_false (by omega)
  refine jf (own := []) hd1 (h := ?_)
  refine jif (h1 := fun hc => absurd hc (by first | omega | simp)) (h2 := fun _ => ?_)
  refine jf (own := []) hd (h := ?_)
  refine jt (h := ?_)
  refine jr (own := []) (h := ?_)
  refine J_forget ?_
  refine jret Tryz.func27 (h := ⟨rfl, rfl⟩)
theorem lopen17_ok (r : Fl) (n base : Int) (h : 0 ≤ base ∧ base ≤ r.pages - 2) (hp : 0 ≤ r.pages ∧ r.pages ≤ 4096) (hd : r.down = false) (h1 : ∀ p ∈ r.safe, p.2.length = 256) (h2 : ∀ p ∈ r.loose, ∀ b, p.2 = some b → b.length = 256) (h3 : r.safe.length < 2 ^ 60) (h4 : r.loose.length < 2 ^ 60) :
    ACalls Tryz.prog 27 [tAV r n, .c (.int .i64 base)] [] (Ret (.tup [lgAV r n base (lgN r base 2).1 (lgN r base 2).2.1, .c (.int .i64 0)])) := by
  have hgt : ∀ i : Nat, _ := fun i => get10_ok r n (base + i) 4 h1 h2 h3 h4
  have hlb : ∀ i : Nat, (txtB (lookB r (base + i))).length < 2 ^ 37 := fun i => by
    have := lookB_len h1 h2 (base + i)
    unfold txtB; rw [List.length_take, List.length_drop]; omega
  obtain ⟨pg, sf, lo, fu, dn, dc⟩ := r
  simp only at hd h hp
  subst hd
  generalize hR : (⟨pg, sf, lo, fu, false, dc⟩ : Fl) = r at *
  have hcs : rCells r = [.c (.int .i64 pg), .sl 2 (cellRows sf), .sl 3 (chRows lo), .c (.int .i64 fu), .c (.bool false), .c (.int .i64 dc)] := by rw [← hR]; rfl
  unfold tAV lgAV at *
  rw [hcs]
  refine calls_of_J cl_27 Tryz.func27 rfl (by simp [Tryz.ntmps27]) ?_
  refine jr (own := [4]) (h := ?_)
  refine jnv (hh := fun b4 hb4 => ?_)
  simp only [fresh] at hb4
  have hd1 : decide (base < 0) = false := decide_eq_false (by omega)
  refine jf (own := []) hd1 (h := ?_)
  refine jif (h1 := fun hc => absurd hc (by first | omega | simp)) (h2 := fun _ => ?_)
  refine jr (own := []) (h := ?_)
  refine jn (h := ?_)
  refine jr (own := [6]) (h := ?_)
  refine jnv (hh := fun b6 hb6 => ?_)
  simp only [fresh] at hb6
  refine jr (own := []) (h := ?_)
  refine J_wkBox (b := b6) (t := 54) (cells := [.c (.int .i64 pg), .sl 2 (cellRows sf), .sl 3 (chRows lo), .c (.int .i64 fu), .c (.bool false), .c (.int .i64 dc), .c (.int .i64 n), .c (.int .i64 base), .c (.int .i64 (-1)), .c (.int .i64 0), .c (.bool false), .c (.int .i64 0), .c (.slice none 0 0)]) (y := .sl 2 (flRows [])) 12 rfl nil_le_sl (List.Perm.refl _) ?_
  simp only [List.set_cons_succ, List.set_cons_zero]
  refine jk [1, 2, 4, 6, 7, 8] (h := ?_)
  refine J_loopI (I := fun m e D' => ∃ i : Nat, i ≤ 2 ∧ m = 2 - i ∧ D' = [.box b6 54 [.c (.int .i64 pg), .sl 2 (cellRows sf), .sl 3 (chRows lo), .c (.int .i64 fu), .c (.bool false), .c (.int .i64 dc), .c (.int .i64 n), .c (.int .i64 base), .c (.int .i64 (lgN r base i).1), .c (.int .i64 (lgN r base i).2.1.e), .c (.bool (lgN r base i).2.1.cl), .c (.int .i64 (lgN r base i).2.1.low), .sl 2 (flRows (lgN r base i).2.1.l)], .box b4 54 [.c (.int .i64 0), .c (.slice none 0 0), .c (.slice none 0 0), .c (.int .i64 0), .c (.bool false), .c (.int .i64 0), .c (.int .i64 0), .c (.int .i64 0), .c (.int .i64 0), .c (.int .i64 0), .c (.bool false), .c (.int .i64 0), .c (.slice none 0 0)]] ∧ e = [(1, .c (.int .i64 base)), (2, .fp [.c (.int .i64 pg), .sl 2 (cellRows sf), .sl 3 (chRows lo), .c (.int .i64 fu), .c (.bool false), .c (.int .i64 dc), .c (.int .i64 n)]), (4, ptr b4), (6, ptr b6), (7, .c (.int .i64 (lgN r base i).2.2)), (8, .c (.int .i64 i))]) ?_ ?_
  · exact ⟨_, 0, by omega, rfl, rfl, rfl⟩
  · rintro m e D' ⟨i, hi, rfl, rfl, rfl⟩ ih
    refine jr (own := []) (h := ?_)
    refine jif (h1 := fun hc => ?_) (h2 := fun hc => ?_)
    · have hst : lgN r base (i + 1) = lgStep r base (lgN r base i) i := rfl
      have hbk : ∀ st', lgStep r base (lgN r base i) i = st' → lgN r base (i + 1) = st' := fun st' h => hst.trans h
      have hg := hgt i
      unfold tAV at hg
      rw [hcs] at hg
      have hlen := hlb i
      generalize lgN r base i = st at *
      generalize hCC : tgetC r (base + i) 4 = c at *
      generalize hLB : lookB r (base + i) = LB at *
      clear hgt hlb
      by_cases hz : c = 0
      · have hdc : decide (c ≠ 0) = false := decide_eq_false (fun h => h hz)
        rw [if_pos hz] at hg
        unfold leafAV at hg
        refine jr (own := []) (h := ?_)
        refine jc (hs := hg) (hk := ?_)
        refine jr (own := [9]) (h := ?_)
        refine jnv (hh := fun b9 hb9 => ?_)
        simp only [fresh] at hb9
        refine jf (own := []) (a2 hb9 hdc) (h := ?_)
        refine jif (h1 := fun hs => ?_) (h2 := fun hs => ?_)
        · have hN := hbk st (by unfold lgStep; rw [hLB, hCC, if_pos (.inr (by omega))])
          refine jr (own := []) (h := ?_)
          refine J_drop ?_
          refine jk [1, 2, 4, 6, 7, 8] (h := ?_)
          refine ih (2 - (i + 1)) _ _ (by omega) ⟨i + 1, by omega, rfl, by rw [hN], by rw [hN]; rfl⟩
        · refine jf (own := []) hb9 (h := ?_)
          refine jc (hs := recget17_ok (txtB LB) hlen) (hk := ?_)
          refine jr (own := [11]) (h := ?_)
          refine jnv (hh := fun b11 hb11 => ?_)
          simp only [fresh] at hb11
          refine jf (own := []) (a3 hb11 hb9 hb6) (h := ?_)
          refine jif (h1 := fun hx => ?_) (h2 := fun hx => ?_)
          · have hN := hbk st (by unfold lgStep; rw [hLB, hCC, if_neg (fun h => by rcases h with h | h; (· exact absurd hz h); (· omega)), if_pos hx])
            refine jr (own := []) (h := ?_)
            refine J_drop (J_drop ?_)
            refine jk [1, 2, 4, 6, 7, 8] (h := ?_)
            refine ih (2 - (i + 1)) _ _ (by omega) ⟨i + 1, by omega, rfl, by rw [hN], by rw [hN]; rfl⟩
          · have hN := hbk ((i : Int), getRec (txtB LB), (stampsB LB).1) (by unfold lgStep; rw [hLB, hCC, if_neg (fun h => by rcases h with h | h; (· exact absurd hz h); (· omega)), if_neg hx])
            refine jf (own := []) (a3 hb11 hb9 hb6) (h := ?_)
            refine J_drop (J_drop ?_)
            refine jk [1, 2, 4, 6, 7, 8] (h := ?_)
            refine ih (2 - (i + 1)) _ _ (by omega) ⟨i + 1, by omega, rfl, by rw [hN], by rw [hN]; rfl⟩
      · have hdc : decide (c ≠ 0) = true := decide_eq_true hz
        have hN := hbk st (by unfold lgStep; rw [hLB, hCC, if_pos (.inl hz)])
        rw [if_neg hz] at hg
        unfold leafAV at hg
        refine jr (own := []) (h := ?_)
        refine jc (hs := hg) (hk := ?_)
        refine jr (own := [9]) (h := ?_)
        refine jnv (hh := fun b9 hb9 => ?_)
        simp only [fresh] at hb9
        refine jf (own := []) (a2 hb9 hdc) (h := ?_)
        refine jt (h := ?_)
        refine jr (own := []) (h := ?_)
        refine J_drop ?_
        refine jk [1, 2, 4, 6, 7, 8] (h := ?_)
        refine ih (2 - (i + 1)) _ _ (by omega) ⟨i + 1, by omega, rfl, by rw [hN], by rw [hN]; rfl⟩
    · have hi2 : i = 2 := by omega
      subst hi2
      refine jf (own := []) hb6 (h := ?_)
      refine J_forget ?_
      refine jretf hb6 Tryz.func27 (h := ⟨rfl, rfl⟩)
theorem lsave17_err (r : Fl) (n base newest : Int) (y x : Rec) (h64 : ∀ p ∈ x.l, p.1 < 2 ^ 64) (hx : recC x ≠ 0) : ACalls Tryz.prog 76 [lgAV r n base newest y, recAV x] [] (Ret (.tup [lgAV r n base newest y, .c (.int .i64 (recC x))])) := by
  have hpu := recput17_ok x h64
  obtain ⟨e, cl, low, fl⟩ := x
  refine calls_of_J cl_76 Tryz.func76 rfl (by simp [Tryz.ntmps76]) ?_
  refine jr (own := [4]) (h := ?_)
  refine jnv (hh := fun b4 hb4 => ?_)
  refine jr (own := []) (h := ?_)
  refine jc (hs := hpu) (hk := ?_)
  refine jr (own := []) (h := ?_)
  refine jif (h1 := fun _ => ?_) (h2 := fun hc => absurd (by exact hx) hc)
  refine jr (own := []) (h := ?_)
  refine J_forget ?_
  refine jret Tryz.func76 (h := ⟨rfl, rfl⟩)
theorem lsave17_ok (r : Fl) (n base newest : Int) (y x : Rec) (h64 : ∀ p ∈ x.l, p.1 < 2 ^ 64) (hx : recC x = 0) (hn : n < 4611686018427387904) (hw : r.WF') (hl : r.loose.length < 2 ^ 29) (hb : 0 ≤ base ∧ base ≤ 4096) (hbl : (recB x).length < 2 ^ 37) (h2 : (tputS r n (base + lgTo newest) 4 (recB x)).R) :
    ACalls Tryz.prog 76 [lgAV r n base newest y, recAV x] [] (Ret (.tup [lgAV (tfirm04S r n (base + lgTo newest) 4 (recB x)) (tputN r n (base + lgTo newest) 4 (recB x)) base (if tfirmC r n (base + lgTo newest) 4 (recB x) = 0 then lgTo newest else newest) (if tfirmC r n (base + lgTo newest) 4 (recB x) = 0 then x else y), .c (.int .i64 (tfirmC r n (base + lgTo newest) 4 (recB x)))])) := by
  have hpu := recput17_ok x h64
  have hO : recO x = recB x := by unfold recO; rw [if_pos hx]
  rw [hO, hx] at hpu
  have htb : 0 ≤ lgTo newest ∧ lgTo newest ≤ 1 := by unfold lgTo; split <;> omega
  have hto : (newest = 0 ∧ lgTo newest = 1) ∨ (newest ≠ 0 ∧ lgTo newest = 0) := by unfold lgTo; by_cases h : newest = 0; (· exact .inl ⟨h, if_pos h⟩); (· exact .inr ⟨h, if_neg h⟩)
  have hfm := firm10_ok r n hn hw hl (base + lgTo newest) 4 (recB x) hbl h2
  generalize recB x = bb at *
  generalize tfirmC r n (base + lgTo newest) 4 bb = c at *
  generalize tputN r n (base + lgTo newest) 4 bb = n2 at *
  generalize tfirm04S r n (base + lgTo newest) 4 bb = s2 at *
  generalize lgTo newest = to at *
  obtain ⟨e, cl, low, fl⟩ := x
  obtain ⟨ye, ycl, ylow, yfl⟩ := y
  have hzz : decide ((0 : Int) ≠ 0) = false := rfl
  refine calls_of_J cl_76 Tryz.func76 rfl (by simp [Tryz.ntmps76]) ?_
  refine jr (own := [4]) (h := ?_)
  refine jnv (hh := fun b4 hb4 => ?_)
  simp only [fresh] at hb4
  refine jr (own := []) (h := ?_)
  refine jc (hs := hpu) (hk := ?_)
  refine jr (own := []) (h := ?_)
  refine jif (h1 := fun hc => absurd hc (by exact fun h => h rfl)) (h2 := fun _ => ?_)
  refine jr (own := []) (h := ?_)
  rcases hto with ⟨hn0, rfl⟩ | ⟨hn0, rfl⟩
  · refine jif (h1 := fun _ => ?_) (h2 := fun hc => absurd (by exact hn0) hc)
    refine jr (own := []) (h := ?_)
    refine jc (hs := hfm) (hk := ?_)
    refine jr (own := [9]) (h := ?_)
    refine jnv (hh := fun b9 hb9 => ?_)
    simp only [fresh] at hb9
    refine jf (own := [11]) hb9 (h := ?_)
    refine jnv (hh := fun b11 hb11 => ?_)
    simp only [fresh] at hb11
    refine jf (own := []) (a2 hb11 hb9) (h := ?_)
    refine jif (h1 := fun hc => ?_) (h2 := fun hc => ?_)
    · rw [if_pos hc, if_pos hc]
      refine jf (own := []) (a2 hb11 hb9) (h := ?_)
      refine J_forget ?_
      refine jretf (a2 hb11 hb9) Tryz.func76 (h := ⟨rfl, rfl⟩)
    · rw [if_neg hc, if_neg hc]
      refine jf (own := []) (a2 hb11 hb9) (h := ?_)
      refine J_forget ?_
      refine jretf (a2 hb11 hb9) Tryz.func76 (h := ⟨rfl, rfl⟩)
  · refine jif (h1 := fun hc => absurd hc (by exact hn0)) (h2 := fun _ => ?_)
    refine jr (own := []) (h := ?_)
    refine jc (hs := hfm) (hk := ?_)
    refine jr (own := [9]) (h := ?_)
    refine jnv (hh := fun b9 hb9 => ?_)
    simp only [fresh] at hb9
    refine jf (own := [11]) hb9 (h := ?_)
    refine jnv (hh := fun b11 hb11 => ?_)
    simp only [fresh] at hb11
    refine jf (own := []) (a2 hb11 hb9) (h := ?_)
    refine jif (h1 := fun hc => ?_) (h2 := fun hc => ?_)
    · rw [if_pos hc, if_pos hc]
      refine jf (own := []) (a2 hb11 hb9) (h := ?_)
      refine J_forget ?_
      refine jretf (a2 hb11 hb9) Tryz.func76 (h := ⟨rfl, rfl⟩)
    · rw [if_neg hc, if_neg hc]
      refine jf (own := []) (a2 hb11 hb9) (h := ?_)
      refine J_forget ?_
      refine jretf (a2 hb11 hb9) Tryz.func76 (h := ⟨rfl, rfl⟩)
end Go.Proofs.YtlmahffjidgplaaGreatDoor
end
