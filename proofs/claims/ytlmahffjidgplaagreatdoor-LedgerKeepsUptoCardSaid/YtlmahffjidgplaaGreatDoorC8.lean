/- A part of the proof: what the calls do, told by values. -/
import Derived.Test.YtlmahffjidgplaaGreatDoorC7
import Derived.Test.YtlmahffjidgplaaGreatDoorA9
section
namespace Go.Proofs.YtlmahffjidgplaaGreatDoor
open Go Go.Av
set_option linter.unusedVariables false
set_option linter.unusedSimpArgs false
set_option maxRecDepth 100000
set_option maxHeartbeats 4000000
attribute [local go_sem] packed List.set_cons_zero List.set_cons_succ List.cons_append List.nil_append bytesRows_length

/-! ### Floors -/
abbrev FL := List (Nat × Int)
def flRows (l : FL) : List (List AV) := l.map fun (p : Nat × Int) => [.c (.int .u64 (p.1 : Int)), .c (.int .i64 p.2)]
theorem flRows_len (l : FL) : (flRows l).length = l.length := by simp [flRows]
theorem flRows_get {l : FL} {i : Nat} (h : i < l.length) : (flRows l)[i]? = some [.c (.int .u64 ((l.getD i (0, 0)).1 : Int)), .c (.int .i64 (l.getD i (0, 0)).2)] := by
  have h1 : l[i]? = some (l.getD i (0, 0)) := by rw [List.getD_eq_getElem?_getD, List.getElem?_eq_getElem h]; rfl
  rw [flRows, List.getElem?_map, h1]; rfl
abbrev flAV (low : Int) (l : FL) : AV := .agg [.c (.int .i64 low), .sl 2 (flRows l)]
def flS (low : Int) (l : FL) : Nat → Nat → Int × Int
  | 0, _ => (0, 0)
  | k + 1, i => if 0 < i ∧ (l.getD i (0, 0)).1 ≤ (l.getD (i - 1) (0, 0)).1 then (3, i) else if (l.getD i (0, 0)).2 ≤ low ∨ 1099511627776 < (l.getD i (0, 0)).2 then (4, i) else flS low l k (i + 1)
def flLook (low : Int) (l : FL) : Int × Int := if low < 0 ∨ 1099511627776 < low then (1, low) else if 12 < l.length then (2, l.length) else flS low l l.length 0
def wcode (w : Int) : Int := if w = 1 then 2 else if w = 2 then 17 else if w = 3 then 1 else if w = 4 then 2 else 0
def flC (low : Int) (l : FL) : Int := wcode (flLook low l).1
theorem fllook_ok (low : Int) (l : FL) : ACalls Tryz.prog 110 [flAV low l] [] (Ret (.tup [.c (.int .i64 (flLook low l).1), .c (.int .i64 (flLook low l).2)])) := by
  have hfl := flRows_len l
  refine calls_of_J cl_110 Tryz.func110 rfl (by simp [Tryz.ntmps110]) ?_
  by_cases h1 : low < 0
  · have hd : decide (low < 0) = true := decide_eq_true h1
    have e : flLook low l = (1, low) := by unfold flLook; rw [if_pos (.inl h1)]
    rw [e]
    refine jf (own := []) hd (h := ?_)
    refine jt (h := ?_)
    refine jr (own := []) (h := ?_)
    refine jd [(0, .pure), (1, .read), (2, .pure), (3, .pure)] mixed (by kernel_rfl) ?_
    refine cr (own := []) (hk := ?_)
    refine Can_nil ?_
    refine jr (own := []) (h := ?_)
    refine jret Tryz.func110 (h := ⟨rfl, rfl⟩)
  · have hd : decide (low < 0) = false := decide_eq_false h1
    refine jf (own := []) hd (h := ?_)
    refine jif (h1 := fun h2 => ?_) (h2 := fun h2 => ?_)
    · have e : flLook low l = (1, low) := by unfold flLook; rw [if_pos (.inr h2)]
      rw [e]
      refine jr (own := []) (h := ?_)
      refine jd [(0, .pure), (1, .read), (2, .pure), (3, .pure)] mixed (by kernel_rfl) ?_
      refine cr (own := []) (hk := ?_)
      refine Can_nil ?_
      refine jr (own := []) (h := ?_)
      refine jret Tryz.func110 (h := ⟨rfl, rfl⟩)
    · refine jf (own := []) hfl (h := ?_)
      refine jif (h1 := fun h3 => ?_) (h2 := fun h3 => ?_)
      · have e : flLook low l = (2, (l.length : Int)) := by unfold flLook; rw [if_neg (by omega), if_pos (by omega)]
        rw [e]
        refine jr (own := []) (h := ?_)
        refine jd [(0, .pure), (1, .read), (2, .pure), (3, .pure), (4, .pure)] mixed (by kernel_rfl) ?_
        refine cf (own := []) hfl (hk := ?_)
        refine Can_nil ?_
        refine jr (own := []) (h := ?_)
        refine jret Tryz.func110 (h := ⟨rfl, rfl⟩)
      · have e : flLook low l = flS low l l.length 0 := by unfold flLook; rw [if_neg (by omega), if_neg (by omega)]
        rw [e]
        refine jf (own := []) hfl (h := ?_)
        refine jk [1, 26, 27, 28] (h := ?_)
        refine J_loopI (I := fun m e D => ∃ i : Nat, i ≤ l.length ∧ m = l.length - i ∧ D = [] ∧ flS low l l.length 0 = flS low l (l.length - i) i ∧ e = [(1, .fp [.c (.int .i64 low), .sl 2 (flRows l)]), (26, .sl 2 (flRows l)), (27, .c (.int .i64 l.length)), (28, .c (.int .i64 i))]) ?_ ?_
        · exact ⟨_, 0, by omega, rfl, rfl, rfl, rfl⟩
        · rintro m e D ⟨i, hi, rfl, rfl, hS, rfl⟩ ih
          refine jr (own := []) (h := ?_)
          refine jif (h1 := fun hc => ?_) (h2 := fun hc => ?_)
          · have hlt : i < l.length := by omega
            have hg := flRows_get hlt
            have h0 : (0 : Int) ≤ (i : Int) := by omega
            have hk : l.length - i = (l.length - (i + 1)) + 1 := by omega
            rw [hk] at hS
            simp only [flS] at hS
            generalize hq : l.getD i (0, 0) = q at *
            refine jf (own := [5]) (a2 hg hfl) (h := ?_)
            refine jnv (hh := fun b5 hb5 => ?_)
            refine jf (own := []) (a2 hg hfl) (h := ?_)
            by_cases hi0 : i = 0
            · have hd0 : decide ((0 : Int) < (i : Int)) = false := decide_eq_false (by omega)
              rw [if_neg (fun h => by omega)] at hS
              refine jd [(0, .pure), (1, .pure), (2, .pure), (3, .pure), (4, .read), (5, .pure), (6, .pure), (7, .pure), (8, .pure), (9, .read), (10, .pure), (11, .read), (12, .pure), (13, .pure), (14, .pure)] mixed (by kernel_rfl) ?_
              refine cf (own := []) hd0 (hk := ?_)
              refine Can_nil ?_
              refine jn (h := ?_)
              refine jr (own := []) (h := ?_)
              by_cases h5 : q.2 ≤ low
              · have hd5 : decide (q.2 ≤ low) = true := decide_eq_true h5
                rw [if_pos (.inl h5)] at hS
                rw [hS]
                refine jf (own := []) hd5 (h := ?_)
                refine jt (h := ?_)
                refine jr (own := []) (h := ?_)
                refine J_dropall ?_
                refine jret Tryz.func110 (h := ⟨rfl, rfl⟩)
              · have hd5 : decide (q.2 ≤ low) = false := decide_eq_false h5
                refine jf (own := []) hd5 (h := ?_)
                refine jif (h1 := fun h6 => ?_) (h2 := fun h6 => ?_)
                · rw [if_pos (.inr h6)] at hS
                  rw [hS]
                  refine jr (own := []) (h := ?_)
                  refine J_dropall ?_
                  refine jret Tryz.func110 (h := ⟨rfl, rfl⟩)
                · rw [if_neg (fun h => by rcases h with h | h; (· exact h5 h); (· exact h6 h))] at hS
                  refine jr (own := []) (h := ?_)
                  refine J_dropall ?_
                  refine jk [1, 26, 27, 28] (h := ?_)
                  exact ih (l.length - (i + 1)) _ _ (by omega) ⟨i + 1, by omega, rfl, rfl, hS, rfl⟩
            · have hd0 : decide ((0 : Int) < (i : Int)) = true := decide_eq_true (by omega)
              have hg' := flRows_get (l := l) (i := i - 1) (by omega)
              have hI : ((i : Int) - 1).toNat = i - 1 := by omega
              generalize hq' : l.getD (i - 1) (0, 0) = q' at *
              refine jd [(0, .pure), (1, .pure), (2, .pure), (3, .pure), (4, .read), (5, .pure), (6, .pure), (7, .pure), (8, .pure), (9, .read), (10, .pure), (11, .read), (12, .pure), (13, .pure), (14, .pure)] mixed (by kernel_rfl) ?_
              refine cf (own := []) (a4 hd0 hI hg' hfl) (hk := ?_)
              refine Can_nil ?_
              refine jif (h1 := fun h4 => ?_) (h2 := fun h4 => ?_)
              · rw [if_pos ⟨by omega, by omega⟩] at hS
                rw [hS]
                refine jr (own := []) (h := ?_)
                refine J_dropall ?_
                refine jret Tryz.func110 (h := ⟨rfl, rfl⟩)
              · rw [if_neg (fun h => by omega)] at hS
                refine jr (own := []) (h := ?_)
                by_cases h5 : q.2 ≤ low
                · have hd5 : decide (q.2 ≤ low) = true := decide_eq_true h5
                  rw [if_pos (.inl h5)] at hS
                  rw [hS]
                  refine jf (own := []) hd5 (h := ?_)
                  refine jt (h := ?_)
                  refine jr (own := []) (h := ?_)
                  refine J_dropall ?_
                  refine jret Tryz.func110 (h := ⟨rfl, rfl⟩)
                · have hd5 : decide (q.2 ≤ low) = false := decide_eq_false h5
                  refine jf (own := []) hd5 (h := ?_)
                  refine jif (h1 := fun h6 => ?_) (h2 := fun h6 => ?_)
                  · rw [if_pos (.inr h6)] at hS
                    rw [hS]
                    refine jr (own := []) (h := ?_)
                    refine J_dropall ?_
                    refine jret Tryz.func110 (h := ⟨rfl, rfl⟩)
                  · rw [if_neg (fun h => by rcases h with h | h; (· exact h5 h); (· exact h6 h))] at hS
                    refine jr (own := []) (h := ?_)
                    refine J_dropall ?_
                    refine jk [1, 26, 27, 28] (h := ?_)
                    exact ih (l.length - (i + 1)) _ _ (by omega) ⟨i + 1, by omega, rfl, rfl, hS, rfl⟩
          · have hi2 : l.length - i = 0 := by omega
            rw [hi2] at hS
            rw [hS]
            refine jr (own := []) (h := ?_)
            refine jret Tryz.func110 (h := ⟨rfl, rfl⟩)
theorem check16_ok (low : Int) (l : FL) : ACalls Tryz.prog 20 [flAV low l] [] (Ret (.c (.int .i64 (flC low l)))) := by
  have hfl := flRows_len l
  refine calls_of_J cl_20 Tryz.func20 rfl (by simp [Tryz.ntmps20]) ?_
  by_cases h1 : low < 0
  · have hd : decide (low < 0) = true := decide_eq_true h1
    have e : flC low l = 2 := by unfold flC flLook; rw [if_pos (.inl h1)]; rfl
    rw [e]
    refine jf (own := []) hd (h := ?_)
    refine jt (h := ?_)
    refine jr (own := []) (h := ?_)
    refine jret Tryz.func20 (h := ⟨rfl, rfl⟩)
  · have hd : decide (low < 0) = false := decide_eq_false h1
    refine jf (own := []) hd (h := ?_)
    refine jif (h1 := fun h2 => ?_) (h2 := fun h2 => ?_)
    · have e : flC low l = 2 := by unfold flC flLook; rw [if_pos (.inr h2)]; rfl
      rw [e]
      refine jr (own := []) (h := ?_)
      refine jret Tryz.func20 (h := ⟨rfl, rfl⟩)
    · refine jf (own := []) hfl (h := ?_)
      refine jif (h1 := fun h3 => ?_) (h2 := fun h3 => ?_)
      · have e : flC low l = 17 := by unfold flC flLook; rw [if_neg (by omega), if_pos (by omega)]; rfl
        rw [e]
        refine jr (own := []) (h := ?_)
        refine jret Tryz.func20 (h := ⟨rfl, rfl⟩)
      · have e : flC low l = wcode (flS low l l.length 0).1 := by unfold flC flLook; rw [if_neg (by omega), if_neg (by omega)]
        rw [e]
        refine jf (own := []) hfl (h := ?_)
        refine jk [1, 3] (h := ?_)
        refine J_loopI (I := fun m e D => ∃ i : Nat, i ≤ l.length ∧ m = l.length - i ∧ D = [] ∧ flS low l l.length 0 = flS low l (l.length - i) i ∧ e = [(1, .fp [.c (.int .i64 low), .sl 2 (flRows l)]), (3, .c (.int .i64 i))]) ?_ ?_
        · exact ⟨_, 0, by omega, rfl, rfl, rfl, rfl⟩
        · rintro m e D ⟨i, hi, rfl, rfl, hS, rfl⟩ ih
          refine jf (own := []) hfl (h := ?_)
          refine jif (h1 := fun hc => ?_) (h2 := fun hc => ?_)
          · have hlt : i < l.length := by omega
            have hg := flRows_get hlt
            have h0 : (0 : Int) ≤ (i : Int) := by omega
            have hk : l.length - i = (l.length - (i + 1)) + 1 := by omega
            rw [hk] at hS
            simp only [flS] at hS
            generalize hq : l.getD i (0, 0) = q at *
            refine jr (own := []) (h := ?_)
            by_cases hi0 : i = 0
            · have hd0 : decide ((0 : Int) < (i : Int)) = false := decide_eq_false (by omega)
              rw [if_neg (fun h => by omega)] at hS
              refine jd [(0, .pure), (1, .pure), (2, .pure), (3, .pure), (4, .read), (5, .pure), (6, .pure), (7, .pure), (8, .read), (9, .pure), (10, .read), (11, .pure), (12, .pure), (13, .pure), (14, .pure), (15, .read), (16, .pure), (17, .pure)] mixed (by kernel_rfl) ?_
              refine cf (own := []) hd0 (hk := ?_)
              refine Can_nil ?_
              refine jn (h := ?_)
              refine jr (own := []) (h := ?_)
              by_cases h5 : q.2 ≤ low
              · have hd5 : decide (q.2 ≤ low) = true := decide_eq_true h5
                rw [if_pos (.inl h5)] at hS
                rw [hS]
                refine jd [(0, .pure), (1, .read), (2, .pure), (3, .pure), (4, .pure), (5, .read), (6, .pure), (7, .read), (8, .pure), (9, .pure), (10, .pure), (11, .read), (12, .pure), (13, .pure), (14, .pure), (15, .read), (16, .pure), (17, .pure)] mixed (by kernel_rfl) ?_
                refine cf (own := []) (a3 hg hfl hd5) (hk := ?_)
                refine Can_nil ?_
                refine jt (h := ?_)
                refine jr (own := []) (h := ?_)
                refine jret Tryz.func20 (h := ⟨rfl, rfl⟩)
              · have hd5 : decide (q.2 ≤ low) = false := decide_eq_false h5
                refine jd [(0, .pure), (1, .read), (2, .pure), (3, .pure), (4, .pure), (5, .read), (6, .pure), (7, .read), (8, .pure), (9, .pure), (10, .pure), (11, .read), (12, .pure), (13, .pure), (14, .pure), (15, .read), (16, .pure), (17, .pure)] mixed (by kernel_rfl) ?_
                refine cf (own := []) (a3 hg hfl hd5) (hk := ?_)
                refine Can_nil ?_
                refine jif (h1 := fun h6 => ?_) (h2 := fun h6 => ?_)
                · rw [if_pos (.inr h6)] at hS
                  rw [hS]
                  refine jr (own := []) (h := ?_)
                  refine jret Tryz.func20 (h := ⟨rfl, rfl⟩)
                · rw [if_neg (fun h => by rcases h with h | h; (· exact h5 h); (· exact h6 h))] at hS
                  refine jr (own := []) (h := ?_)
                  refine jk [1, 3] (h := ?_)
                  exact ih (l.length - (i + 1)) _ _ (by omega) ⟨i + 1, by omega, rfl, rfl, hS, rfl⟩
            · have hd0 : decide ((0 : Int) < (i : Int)) = true := decide_eq_true (by omega)
              have hg' := flRows_get (l := l) (i := i - 1) (by omega)
              have hI : ((i : Int) - 1).toNat = i - 1 := by omega
              generalize hq' : l.getD (i - 1) (0, 0) = q' at *
              refine jd [(0, .pure), (1, .pure), (2, .pure), (3, .pure), (4, .read), (5, .pure), (6, .pure), (7, .pure), (8, .read), (9, .pure), (10, .read), (11, .pure), (12, .pure), (13, .pure), (14, .pure), (15, .read), (16, .pure), (17, .pure)] mixed (by kernel_rfl) ?_
              refine cf (own := []) (a5 hd0 hI hg hg' hfl) (hk := ?_)
              refine Can_nil ?_
              refine jif (h1 := fun h4 => ?_) (h2 := fun h4 => ?_)
              · rw [if_pos ⟨by omega, by omega⟩] at hS
                rw [hS]
                refine jr (own := []) (h := ?_)
                refine jret Tryz.func20 (h := ⟨rfl, rfl⟩)
              · rw [if_neg (fun h => by omega)] at hS
                refine jr (own := []) (h := ?_)
                by_cases h5 : q.2 ≤ low
                · have hd5 : decide (q.2 ≤ low) = true := decide_eq_true h5
                  rw [if_pos (.inl h5)] at hS
                  rw [hS]
                  refine jd [(0, .pure), (1, .read), (2, .pure), (3, .pure), (4, .pure), (5, .read), (6, .pure), (7, .read), (8, .pure), (9, .pure), (10, .pure), (11, .read), (12, .pure), (13, .pure), (14, .pure), (15, .read), (16, .pure), (17, .pure)] mixed (by kernel_rfl) ?_
                  refine cf (own := []) (a3 hg hfl hd5) (hk := ?_)
                  refine Can_nil ?_
                  refine jt (h := ?_)
                  refine jr (own := []) (h := ?_)
                  refine jret Tryz.func20 (h := ⟨rfl, rfl⟩)
                · have hd5 : decide (q.2 ≤ low) = false := decide_eq_false h5
                  refine jd [(0, .pure), (1, .read), (2, .pure), (3, .pure), (4, .pure), (5, .read), (6, .pure), (7, .read), (8, .pure), (9, .pure), (10, .pure), (11, .read), (12, .pure), (13, .pure), (14, .pure), (15, .read), (16, .pure), (17, .pure)] mixed (by kernel_rfl) ?_
                  refine cf (own := []) (a3 hg hfl hd5) (hk := ?_)
                  refine Can_nil ?_
                  refine jif (h1 := fun h6 => ?_) (h2 := fun h6 => ?_)
                  · rw [if_pos (.inr h6)] at hS
                    rw [hS]
                    refine jr (own := []) (h := ?_)
                    refine jret Tryz.func20 (h := ⟨rfl, rfl⟩)
                  · rw [if_neg (fun h => by rcases h with h | h; (· exact h5 h); (· exact h6 h))] at hS
                    refine jr (own := []) (h := ?_)
                    refine jk [1, 3] (h := ?_)
                    exact ih (l.length - (i + 1)) _ _ (by omega) ⟨i + 1, by omega, rfl, rfl, hS, rfl⟩
          · have hi2 : l.length - i = 0 := by omega
            rw [hi2] at hS
            rw [hS]
            refine jr (own := []) (h := ?_)
            refine jret Tryz.func20 (h := ⟨rfl, rfl⟩)
theorem check_fl_ok (low : Int) (l : FL) : ACalls Tryz.prog 52 [flAV low l] [] (fun r Δ => (∃ e, r = .ret e ∧ IsErr e (flC low l)) ∧ Δ = []) := by
  unfold flC
  refine calls_of_J cl_52 Tryz.func52 rfl (by simp [Tryz.ntmps52]) ?_
  refine jr (own := []) (h := ?_)
  refine jc (hs := fllook_ok low l) (hk := ?_)
  generalize flLook low l = w
  refine jr (own := []) (h := ?_)
  refine jif (h1 := fun h1 => ?_) (h2 := fun h1 => ?_)
  · refine jr (own := []) (h := ?_)
    refine jc (hs := newS_ok _ _ _) (hk := ?_)
    refine jr (own := []) (h := ?_)
    refine jret Tryz.func52 (h := ⟨⟨_, rfl, by rw [h1]; exact errNew_is _ _ 2⟩, rfl⟩)
  · refine jr (own := []) (h := ?_)
    refine jif (h1 := fun h2 => ?_) (h2 := fun h2 => ?_)
    · refine jr (own := []) (h := ?_)
      refine jc (hs := newS_ok _ _ _) (hk := ?_)
      refine jr (own := []) (h := ?_)
      refine jret Tryz.func52 (h := ⟨⟨_, rfl, by rw [h2]; exact errNew_is _ _ 17⟩, rfl⟩)
    · refine jr (own := []) (h := ?_)
      refine jif (h1 := fun h3 => ?_) (h2 := fun h3 => ?_)
      · refine jr (own := []) (h := ?_)
        refine jc (hs := newS_ok _ _ _) (hk := ?_)
        refine jr (own := []) (h := ?_)
        refine jret Tryz.func52 (h := ⟨⟨_, rfl, by rw [h3]; exact errNew_is _ _ 1⟩, rfl⟩)
      · refine jr (own := []) (h := ?_)
        refine jif (h1 := fun h4 => ?_) (h2 := fun h4 => ?_)
        · refine jr (own := []) (h := ?_)
          refine jc (hs := newS_ok _ _ _) (hk := ?_)
          refine jr (own := []) (h := ?_)
          refine jret Tryz.func52 (h := ⟨⟨_, rfl, by rw [h4]; exact errNew_is _ _ 2⟩, rfl⟩)
        · refine jr (own := []) (h := ?_)
          refine jret Tryz.func52 (h := ⟨⟨_, rfl, by unfold wcode; rw [if_neg h1, if_neg h2, if_neg h3, if_neg h4]; exact .none⟩, rfl⟩)
end Go.Proofs.YtlmahffjidgplaaGreatDoor
end

section
namespace Go.Proofs.YtlmahffjidgplaaGreatDoor
open Go Go.Av
set_option linter.unusedVariables false
set_option linter.unusedSimpArgs false
set_option maxRecDepth 100000
set_option maxHeartbeats 4000000
attribute [local go_sem] packed List.set_cons_zero List.set_cons_succ List.cons_append List.nil_append bytesRows_length

/-! ### Floors as bytes -/
def flB : FL → List UInt8
  | [] => []
  | (h, a) :: l => word8 h ++ numsB [a.toNat] ++ flB l
def flPut (b : List UInt8) (low : Int) (l : FL) : List UInt8 := b ++ numsB [low.toNat, l.length] ++ flB l
theorem flB_take {l : FL} {i : Nat} (h : i < l.length) : flB (l.take (i + 1)) = flB (l.take i) ++ (word8 (l.getD i (0, 0)).1 ++ numsB [(l.getD i (0, 0)).2.toNat]) := by
  induction l generalizing i with
  | nil => simp at h
  | cons p l ih =>
    cases i with
    | zero => simp [flB]
    | succ i =>
      have := ih (i := i) (by simpa using h)
      simp only [List.take_succ_cons, flB, List.getD_cons_succ, this, List.append_assoc]
theorem flB_len : ∀ {l : FL}, (∀ p ∈ l, p.2 ≤ 1099511627776) → (flB l).length ≤ 14 * l.length
  | [], _ => by simp [flB]
  | (h, a) :: l, hp => by
    have h1 := flB_len (l := l) fun p q => hp p (by simp [q])
    have h2 := numsB_len (l := [a.toNat]) (by intro n hn; have := hp (h, a) (by simp); simp at hn; simp at this; omega)
    have h3 : (word8 h).length = 8 := rfl
    simp only [flB, List.length_append, List.length_cons, List.length_nil] at h1 h2 ⊢
    omega
/-- Floors that may be written. -/
structure FlW (low : Int) (l : FL) : Prop where
  low : 0 ≤ low ∧ low ≤ 1099511627776
  len : l.length ≤ 12
  hash : ∀ p ∈ l, p.1 < 2 ^ 64
  at_ : ∀ p ∈ l, 0 ≤ p.2 ∧ p.2 ≤ 1099511627776
theorem flput_ok (b : List UInt8) (low : Int) (l : FL) (hb : b.length < 2 ^ 30) (hw : FlW low l) : ACalls Tryz.prog 54 [.sl 1 (bytesRows b), flAV low l] [] (Ret (.sl 1 (bytesRows (flPut b low l)))) := by
  have hfl := flRows_len l
  have hlen := hw.len
  have hlow := hw.low
  have hp0 := put02_fz b [low.toNat, l.length] (by omega) (by simp) (by intro n hn; simp at hn; omega)
  simp only [natRows, List.map_cons, List.map_nil, Int.toNat_of_nonneg hlow.1] at hp0
  have hb0 := numsB_len (l := [low.toNat, l.length]) (by intro n hn; simp at hn; omega)
  simp only [List.length_cons, List.length_nil] at hb0
  refine calls_of_J cl_54 Tryz.func54 rfl (by simp [Tryz.ntmps54]) ?_
  refine jf (own := []) hfl (h := ?_)
  refine jc (hs := hp0) (hk := ?_)
  refine jf (own := []) hfl (h := ?_)
  refine jk [0, 16, 17, 18] (h := ?_)
  refine J_loopI (I := fun m e D => ∃ i : Nat, i ≤ l.length ∧ m = l.length - i ∧ D = [] ∧ e = [(0, .sl 1 (bytesRows (b ++ numsB [low.toNat, l.length] ++ flB (l.take i)))), (16, .sl 2 (flRows l)), (17, .c (.int .i64 l.length)), (18, .c (.int .i64 i))]) ?_ ?_
  · exact ⟨_, 0, by omega, rfl, rfl, by simp [flB]⟩
  · rintro m e D ⟨i, hi, rfl, rfl, rfl⟩ ih
    refine jr (own := []) (h := ?_)
    refine jif (h1 := fun hc => ?_) (h2 := fun hc => ?_)
    · have hlt : i < l.length := by omega
      have hg := flRows_get hlt
      have h0 : (0 : Int) ≤ (i : Int) := by omega
      have htk := flB_take hlt
      have hbl := flB_len (l := l.take i) fun p q => (hw.at_ p (List.mem_of_mem_take q)).2
      rw [List.length_take] at hbl
      have hm : l.getD i (0, 0) ∈ l := by rw [List.getD_eq_getElem?_getD, List.getElem?_eq_getElem hlt]; exact List.getElem_mem hlt
      have hh := hw.hash _ hm
      have ha := hw.at_ _ hm
      generalize l.getD i (0, 0) = q at *
      generalize hcur : b ++ numsB [low.toNat, l.length] ++ flB (l.take i) = cur at *
      have hcl : cur.length < 2 ^ 31 := by rw [← hcur]; simp only [List.length_append]; omega
      have hp1 := put02_fz (cur ++ word8 q.1) [q.2.toNat] (by have : (word8 q.1).length = 8 := rfl; rw [List.length_append]; omega) (by simp) (by intro n hn; simp at hn; omega)
      simp only [natRows, List.map_cons, List.map_nil, Int.toNat_of_nonneg ha.1] at hp1
      refine jf (own := [6]) (a2 hg hfl) (h := ?_)
      refine jnv (hh := fun b6 hb6 => ?_)
      refine jr (own := []) (h := ?_)
      refine jd [(0, .pure), (1, .pure), (2, .read), (3, .pure), (4, .pure), (5, .read), (6, .pure), (7, .pure), (8, .pure)] mixed (by kernel_rfl) ?_
      refine cr (own := []) (hk := ?_)
      refine ccp (hs := word_ok cur q.1 (by omega) hh) (hk := ?_)
      refine cr (own := []) (hk := ?_)
      refine ccp (hs := hp1) (hk := ?_)
      refine cr (own := []) (hk := ?_)
      refine Can_nil ?_
      refine jr (own := []) (h := ?_)
      refine J_dropall ?_
      refine jk [0, 16, 17, 18] (h := ?_)
      refine ih (l.length - (i + 1)) _ _ (by omega) ⟨i + 1, by omega, rfl, rfl, ?_⟩
      rw [htk, ← hcur]
      simp only [List.append_assoc]
      rfl
    · have hi2 : i = l.length := by omega
      subst hi2
      rw [List.take_length]
      refine jr (own := []) (h := ?_)
      refine jret Tryz.func54 (h := ⟨rfl, rfl⟩)
theorem flput16_ok (b : List UInt8) (low : Int) (l : FL) (hb : b.length < 2 ^ 30) (hw : FlW low l) : ACalls Tryz.prog 57 [.sl 1 (bytesRows b), flAV low l] [] (Ret (.sl 1 (bytesRows (flPut b low l)))) := by
  have hfl := flRows_len l
  have hlen := hw.len
  have hlow := hw.low
  have hp0 := putR_fz b [low.toNat, l.length] (by omega) (by simp) (by intro n hn; simp at hn; omega)
  simp only [natRows, List.map_cons, List.map_nil, Int.toNat_of_nonneg hlow.1] at hp0
  have hb0 := numsB_len (l := [low.toNat, l.length]) (by intro n hn; simp at hn; omega)
  simp only [List.length_cons, List.length_nil] at hb0
  refine calls_of_J cl_57 Tryz.func57 rfl (by simp [Tryz.ntmps57]) ?_
  refine jf (own := []) hfl (h := ?_)
  refine jc (hs := hp0) (hk := ?_)
  refine jf (own := []) hfl (h := ?_)
  refine jk [3, 5, 6] (h := ?_)
  refine J_loopI (I := fun m e D => ∃ i : Nat, i ≤ l.length ∧ m = l.length - i ∧ D = [] ∧ e = [(3, .fp [.c (.int .i64 low), .sl 2 (flRows l)]), (5, .sl 1 (bytesRows (b ++ numsB [low.toNat, l.length] ++ flB (l.take i)))), (6, .c (.int .i64 i))]) ?_ ?_
  · exact ⟨_, 0, by omega, rfl, rfl, by simp [flB]⟩
  · rintro m e D ⟨i, hi, rfl, rfl, rfl⟩ ih
    refine jf (own := []) hfl (h := ?_)
    refine jif (h1 := fun hc => ?_) (h2 := fun hc => ?_)
    · have hlt : i < l.length := by omega
      have hg := flRows_get hlt
      have h0 : (0 : Int) ≤ (i : Int) := by omega
      have htk := flB_take hlt
      have hbl := flB_len (l := l.take i) fun p q => (hw.at_ p (List.mem_of_mem_take q)).2
      rw [List.length_take] at hbl
      have hm : l.getD i (0, 0) ∈ l := by rw [List.getD_eq_getElem?_getD, List.getElem?_eq_getElem hlt]; exact List.getElem_mem hlt
      have hh := hw.hash _ hm
      have ha := hw.at_ _ hm
      generalize l.getD i (0, 0) = q at *
      generalize hcur : b ++ numsB [low.toNat, l.length] ++ flB (l.take i) = cur at *
      have hcl : cur.length < 2 ^ 31 := by rw [← hcur]; simp only [List.length_append]; omega
      have hp1 := putR_fz (cur ++ word8 q.1) [q.2.toNat] (by have : (word8 q.1).length = 8 := rfl; rw [List.length_append]; omega) (by simp) (by intro n hn; simp at hn; omega)
      simp only [natRows, List.map_cons, List.map_nil, Int.toNat_of_nonneg ha.1] at hp1
      refine jf (own := []) (a2 hg hfl) (h := ?_)
      refine jc (hs := word02_fz cur q.1 (by omega) hh) (hk := ?_)
      refine jf (own := []) (a2 hg hfl) (h := ?_)
      refine jc (hs := hp1) (hk := ?_)
      refine jr (own := []) (h := ?_)
      refine jk [3, 5, 6] (h := ?_)
      refine ih (l.length - (i + 1)) _ _ (by omega) ⟨i + 1, by omega, rfl, rfl, ?_⟩
      rw [htk, ← hcur]
      simp only [List.append_assoc]
      rfl
    · have hi2 : i = l.length := by omega
      subst hi2
      rw [List.take_length]
      refine jr (own := []) (h := ?_)
      refine jret Tryz.func57 (h := ⟨rfl, rfl⟩)
theorem flo_fields : (Tryz.prog.fieldsOf 124).toList.map (fun f => (f.name, f.type, f.offset)) = [("Hash", 122, 0), ("At", 3, 1)] := by kernel_rfl
theorem flo_part0 (u v : Value) (w : World) : (part 122 #[u, v] 0).run Tryz.prog w = .ok u w := by kernel_rfl
theorem flo_part1 (u v : Value) (w : World) : (part 3 #[u, v] 1).run Tryz.prog w = .ok v w := by kernel_rfl
theorem flo_eq0 (d : Nat) (a b : Int) (w : World) : (Op.equalIn (d + 1) 122 (.int .u64 a) (.int .u64 b)).run Tryz.prog w = .ok (decide (a = b)) w := by simp [Op.equalIn, run_underlying Tryz.underlying122]; rfl
theorem flo_eq1 (d : Nat) (a b : Int) (w : World) : (Op.equalIn (d + 1) 3 (.int .i64 a) (.int .i64 b)).run Tryz.prog w = .ok (decide (a = b)) w := by simp [Op.equalIn, run_underlying Tryz.underlying3]; rfl
theorem flo_equal (a b c d : Int) (w : World) : (Op.equalIn 10000 124 (.agg #[.int .u64 a, .int .i64 c]) (.agg #[.int .u64 b, .int .i64 d])).run Tryz.prog w = .ok (decide (a = b ∧ c = d)) w := by
  rw [run_equalIn_agg w 9999 124 _ _ Tryz.underlying124 Tryz.stoodInHeld124]
  have hf := flo_fields
  generalize (Tryz.prog.fieldsOf 124).toList = fs at hf
  rcases fs with _ | ⟨f1, _ | ⟨f2, _ | ⟨f3, r⟩⟩⟩
  · simp at hf
  · simp at hf
  · simp only [List.map_cons, List.map_nil, List.cons.injEq, Prod.mk.injEq, and_true] at hf
    obtain ⟨⟨n1, t1, o1⟩, n2, t2, o2⟩ := hf
    by_cases h1 : a = b <;> by_cases h2 : c = d <;> simp [Op.eqFields, n1, t1, o1, n2, t2, o2, h1, h2, flo_part0, flo_part1, flo_eq0, flo_eq1, Result.andThen_ok, Sem.run_bind]
  · simp at hf
theorem neq_floor {o : Oper} {x y : Operand} {dT : TypeId} {a b c d : Int} {env : Env} {Δ : List HP} (hop : o.op = .binOp .neq 124 x y dT) (hx : env.eval x = some (.agg [.c (.int .u64 a), .c (.int .i64 c)])) (hy : env.eval y = some (.agg [.c (.int .u64 b), .c (.int .i64 d)])) :
    OpOK Tryz.prog env Δ o (fun r Δ' => r = .c (.bool (decide (¬ (a = b ∧ c = d)))) ∧ Δ' = Δ) := by
  intro g B tmps sm hee
  have h1 := Env.eval_rel hee hx
  have h2 := Env.eval_rel hee hy
  simp only [rel, relL] at h1 h2
  obtain ⟨us, e1, _, _, rfl, rfl, _, _, rfl, rfl, rfl⟩ := h1
  obtain ⟨vs, e2, _, _, rfl, rfl, _, _, rfl, rfl, rfl⟩ := h2
  refine ⟨g, B, _, Δ, .value (.bool (decide (¬ (a = b ∧ c = d)))), _, ?_, .inl rfl, .refl _ _, sm, rel_c, rfl, rfl⟩
  simp only [execOp, hop, e1, e2, Sem.run_bind, run_eqGuard_agg _ _ _ _ _ _ _ Tryz.eqGuardType124, Result.andThen_ok, run_neq_struct, flo_equal, Sem.run_pure]
  simp
theorem fl_eq_at {l m : FL} (hl : l.length = m.length) (h : ∀ i, i < l.length → l.getD i (0, 0) = m.getD i (0, 0)) : l = m := by
  apply List.ext_getElem hl
  intro i h1 h2
  have := h i h1
  rwa [List.getD_eq_getElem?_getD, List.getD_eq_getElem?_getD, List.getElem?_eq_getElem h1, List.getElem?_eq_getElem h2] at this
theorem flsame16_ok (la lb : Int) (a b : FL) (ha : a.length < 2 ^ 62) : ACalls Tryz.prog 70 [flAV la a, flAV lb b] [] (Ret (.c (.bool (decide (la = lb ∧ a = b))))) := by
  have hfa := flRows_len a
  have hfb := flRows_len b
  refine calls_of_J cl_70 Tryz.func70 rfl (by simp [Tryz.ntmps70]) ?_
  by_cases h1 : la = lb
  · have hd : decide (la ≠ lb) = false := decide_eq_false (fun h => h h1)
    refine jf (own := []) (a3 hd hfa hfb) (h := ?_)
    refine jif (h1 := fun h2 => ?_) (h2 := fun h2 => ?_)
    · refine jr (own := []) (h := ?_)
      refine jret Tryz.func70 (h := ⟨by rw [decide_eq_false (fun h => h2 (by rw [h.2]))], rfl⟩)
    · have hl : a.length = b.length := by omega
      refine jr (own := []) (h := ?_)
      refine jk [2, 3, 5] (h := ?_)
      refine J_loopI (I := fun m e D => ∃ i : Nat, i ≤ a.length ∧ m = a.length - i ∧ D = [] ∧ (∀ j, j < i → a.getD j (0, 0) = b.getD j (0, 0)) ∧ e = [(2, .fp [.c (.int .i64 la), .sl 2 (flRows a)]), (3, .fp [.c (.int .i64 lb), .sl 2 (flRows b)]), (5, .c (.int .i64 i))]) ?_ ?_
      · exact ⟨_, 0, by omega, rfl, rfl, fun j h => by omega, rfl⟩
      · rintro m e D ⟨i, hi, rfl, rfl, hj, rfl⟩ ih
        refine jf (own := []) hfa (h := ?_)
        refine jif (h1 := fun hc => ?_) (h2 := fun hc => ?_)
        · have hlt : i < a.length := by omega
          have hga := flRows_get hlt
          have hgb := flRows_get (l := b) (i := i) (by omega)
          have h0 : (0 : Int) ≤ (i : Int) := by omega
          refine jr (own := []) (h := ?_)
          refine jd [(0, .pure), (1, .read), (2, .pure), (3, .pure), (4, .read), (5, .pure), (6, .read), (7, .pure), (8, .pure), (9, .read), (10, .act)] mixed (by kernel_rfl) ?_
          refine cf (own := []) (a4 hga hgb hfa hfb) (hk := ?_)
          refine Can_op rfl (by simp only [go_sem, ↓reduceIte, Int.reduceLT, Int.reduceLE, Int.reduceToNat, Int.reducePow, Int.reduceNeg, Nat.reduceBEq, Tryz.ntmps70]) (fun e' ha => neq_floor rfl (agree_eval rfl ha (by simp [Op.operands]) (by simp only [go_sem, ↓reduceIte, Int.reduceLT, Int.reduceLE, Int.reduceToNat, Int.reducePow, Int.reduceNeg, Nat.reduceBEq] <;> rfl)) (agree_eval rfl ha (by simp [Op.operands]) (by simp only [go_sem, ↓reduceIte, Int.reduceLT, Int.reduceLE, Int.reduceToNat, Int.reducePow, Int.reduceNeg, Nat.reduceBEq] <;> rfl))) ?_
          rintro _ _ ⟨rfl, rfl⟩
          refine cr (own := []) (hk := ?_)
          refine Can_nil ?_
          refine jif (h1 := fun h3 => ?_) (h2 := fun h3 => ?_)
          · refine jr (own := []) (h := ?_)
            refine jret Tryz.func70 (h := ⟨by rw [decide_eq_false (fun h => h3 ⟨by rw [h.2], by rw [h.2]⟩)], rfl⟩)
          · have he : a.getD i (0, 0) = b.getD i (0, 0) := by
              have h4 := Classical.not_not.1 h3
              exact Prod.ext (by omega) h4.2
            refine jr (own := []) (h := ?_)
            refine jk [2, 3, 5] (h := ?_)
            refine ih (a.length - (i + 1)) _ _ (by omega) ⟨i + 1, by omega, rfl, rfl, ?_, rfl⟩
            intro j hjl
            by_cases hji : j = i
            · subst hji; exact he
            · exact hj j (by omega)
        · refine jr (own := []) (h := ?_)
          refine jret Tryz.func70 (h := ⟨by rw [decide_eq_true ⟨h1, fl_eq_at hl fun j h => hj j (by omega)⟩], rfl⟩)
  · have hd : decide (la ≠ lb) = true := decide_eq_true h1
    refine jf (own := []) hd (h := ?_)
    refine jt (h := ?_)
    refine jr (own := []) (h := ?_)
    refine jret Tryz.func70 (h := ⟨by rw [decide_eq_false (fun h => h1 h.1)], rfl⟩)
theorem flequal_ok (a b : FL) (ha : a.length < 2 ^ 62) : ACalls Tryz.prog 122 [.sl 2 (flRows a), .sl 2 (flRows b)] [] (Ret (.c (.bool (decide (a = b))))) := by
  have hfa := flRows_len a
  have hfb := flRows_len b
  refine calls_of_J cl_122 Tryz.func122 rfl (by simp [Tryz.ntmps122]) ?_
  refine jf (own := []) (a2 hfa hfb) (h := ?_)
  refine jif (h1 := fun h2 => ?_) (h2 := fun h2 => ?_)
  · refine jr (own := []) (h := ?_)
    refine jret Tryz.func122 (h := ⟨by rw [decide_eq_false (fun h => h2 (by rw [h]))], rfl⟩)
  · have hl : a.length = b.length := by omega
    refine jf (own := []) hfa (h := ?_)
    refine jk [0, 1, 12, 13] (h := ?_)
    refine J_loopI (I := fun m e D => ∃ i : Nat, i ≤ a.length ∧ m = a.length - i ∧ D = [] ∧ (∀ j, j < i → a.getD j (0, 0) = b.getD j (0, 0)) ∧ e = [(0, .sl 2 (flRows a)), (1, .sl 2 (flRows b)), (12, .c (.int .i64 a.length)), (13, .c (.int .i64 i))]) ?_ ?_
    · exact ⟨_, 0, by omega, rfl, rfl, fun j h => by omega, rfl⟩
    · rintro m e D ⟨i, hi, rfl, rfl, hj, rfl⟩ ih
      refine jr (own := []) (h := ?_)
      refine jif (h1 := fun hc => ?_) (h2 := fun hc => ?_)
      · have hlt : i < a.length := by omega
        have hga := flRows_get hlt
        have hgb := flRows_get (l := b) (i := i) (by omega)
        have h0 : (0 : Int) ≤ (i : Int) := by omega
        refine jr (own := []) (h := ?_)
        refine jd [(0, .pure), (1, .pure), (2, .pure), (3, .read), (4, .pure), (5, .pure), (6, .pure), (7, .read), (8, .act)] mixed (by kernel_rfl) ?_
        refine cf (own := []) (a4 hga hgb hfa hfb) (hk := ?_)
        refine Can_op rfl (by simp only [go_sem, ↓reduceIte, Int.reduceLT, Int.reduceLE, Int.reduceToNat, Int.reducePow, Int.reduceNeg, Nat.reduceBEq, Tryz.ntmps122]) (fun e' ha => neq_floor rfl (agree_eval rfl ha (by simp [Op.operands]) (by simp only [go_sem, ↓reduceIte, Int.reduceLT, Int.reduceLE, Int.reduceToNat, Int.reducePow, Int.reduceNeg, Nat.reduceBEq] <;> rfl)) (agree_eval rfl ha (by simp [Op.operands]) (by simp only [go_sem, ↓reduceIte, Int.reduceLT, Int.reduceLE, Int.reduceToNat, Int.reducePow, Int.reduceNeg, Nat.reduceBEq] <;> rfl))) ?_
        rintro _ _ ⟨rfl, rfl⟩
        refine cr (own := []) (hk := ?_)
        refine Can_nil ?_
        refine jif (h1 := fun h3 => ?_) (h2 := fun h3 => ?_)
        · refine jr (own := []) (h := ?_)
          refine jret Tryz.func122 (h := ⟨by rw [decide_eq_false (fun h => h3 ⟨by rw [h], by rw [h]⟩)], rfl⟩)
        · have he : a.getD i (0, 0) = b.getD i (0, 0) := by
            have h4 := Classical.not_not.1 h3
            exact Prod.ext (by omega) h4.2
          refine jr (own := []) (h := ?_)
          refine jk [0, 1, 12, 13] (h := ?_)
          refine ih (a.length - (i + 1)) _ _ (by omega) ⟨i + 1, by omega, rfl, rfl, ?_, rfl⟩
          intro j hjl
          by_cases hji : j = i
          · subst hji; exact he
          · exact hj j (by omega)
      · refine jr (own := []) (h := ?_)
        refine jret Tryz.func122 (h := ⟨by rw [decide_eq_true (fl_eq_at hl fun j h => hj j (by omega))], rfl⟩)
theorem flsame_ok (la lb : Int) (a b : FL) (ha : a.length < 2 ^ 62) : ACalls Tryz.prog 71 [flAV la a, flAV lb b] [] (Ret (.c (.bool (decide (la = lb ∧ a = b))))) := by
  refine calls_of_J cl_71 Tryz.func71 rfl (by simp [Tryz.ntmps71]) ?_
  by_cases h1 : la = lb
  · have hd : decide (la = lb) = true := decide_eq_true h1
    refine jf (own := []) hd (h := ?_)
    refine jc (hs := flequal_ok a b ha) (hk := ?_)
    refine jr (own := []) (h := ?_)
    refine jret Tryz.func71 (h := ⟨by simp [h1], rfl⟩)
  · have hd : decide (la = lb) = false := decide_eq_false h1
    refine jf (own := []) hd (h := ?_)
    refine jret Tryz.func71 (h := ⟨by rw [decide_eq_false (fun h => h1 h.1)], rfl⟩)
theorem flRows_cell (l : FL) : (flRows l).flatten.all AV.isCell = true := by
  induction l with
  | nil => rfl
  | cons p l ih =>
    show (([.c (.int .u64 (p.1 : Int)), .c (.int .i64 p.2)] : List AV) ++ (flRows l).flatten).all AV.isCell = true
    rw [List.all_append, ih]; rfl
theorem flRows_row (l : FL) : ∀ r ∈ flRows l, r.length = 2 := by
  intro r hr
  obtain ⟨p, _, rfl⟩ := List.mem_map.1 hr
  rfl
theorem flclone_ok (l : FL) (hl : l.length < 2 ^ 20) : ACalls Tryz.prog 125 [.sl 2 (flRows l)] [] (Ret (.sl 2 (flRows l))) := by
  have hfl := flRows_len l
  refine calls_of_J cl_125 Tryz.func125 rfl (by simp [Tryz.ntmps125]) ?_
  refine jr (own := [4]) (h := ?_)
  refine jog (ho := rfl) (hh := nil_sl_op rfl Tryz.underlying22 (by simp only [go_sem, ↓reduceIte, Int.reduceLT, Int.reduceLE, Int.reduceToNat, Int.reducePow, Int.reduceNeg, Nat.reduceBEq] <;> with_reducible rfl)) (hk := ?_)
  rintro _ _ ⟨⟨t, rfl, ht⟩, rfl⟩
  cases t with
  | true =>
    obtain rfl : l = [] := by have := ht rfl; cases l; (· rfl); (· simp [flRows] at this)
    refine jr (own := []) (h := ?_)
    refine jt (h := ?_)
    refine jr (own := []) (h := ?_)
    refine J_wk (t := 2) (y := .sl 2 []) (by simp only [go_sem]) nil_le_sl ?_
    refine jret Tryz.func125 (h := ⟨rfl, rfl⟩)
  | false =>
    refine jr (own := []) (h := ?_)
    refine jn (h := ?_)
    refine jr (own := [7]) (h := ?_)
    refine jbi (hb := append0_bi (by simp only [go_sem, ↓reduceIte, Int.reduceLT, Int.reduceLE, Int.reduceToNat, Int.reducePow, Int.reduceNeg, Nat.reduceBEq] <;> with_reducible rfl) (by simp only [go_sem, srcOf] <;> rfl) (flRows_cell l) (by rw [hfl]; omega)) (hk := ?_)
    rintro _ D ⟨v, _, rfl, rfl, how⟩
    refine J_freezeS (Fr := []) how (flRows_row l) (by rw [hfl]; unfold maxRows; omega) ?_
    refine J_is (t := 7) (by simp only [go_sem]) (List.mem_cons_self ..) (J_drop ?_)
    refine jr (own := []) (h := ?_)
    refine jret Tryz.func125 (h := ⟨rfl, rfl⟩)
theorem flcopy_ok (low : Int) (l : FL) (hl : l.length < 2 ^ 20) : ACalls Tryz.prog 75 [flAV low l] [] (Ret (flAV low l)) := by
  refine calls_of_J cl_75 Tryz.func75 rfl (by simp [Tryz.ntmps75]) ?_
  refine jr (own := [2]) (h := ?_)
  refine jnv (hh := fun b2 hb2 => ?_)
  refine jr (own := []) (h := ?_)
  refine jd [(0, .pure), (1, .read), (2, .pure), (3, .read), (4, .pure), (5, .pure), (6, .act)] mixed (by kernel_rfl) ?_
  refine cr (own := []) (hk := ?_)
  refine ccp (hs := flclone_ok l hl) (hk := ?_)
  refine cr (own := []) (hk := ?_)
  refine Can_nil ?_
  refine jr (own := []) (h := ?_)
  refine J_forget ?_
  refine jret Tryz.func75 (h := ⟨rfl, rfl⟩)
end Go.Proofs.YtlmahffjidgplaaGreatDoor
end

section
namespace Go.Proofs.YtlmahffjidgplaaGreatDoor
open Go Go.Av
set_option linter.unusedVariables false
set_option linter.unusedSimpArgs false
set_option maxRecDepth 100000
set_option maxHeartbeats 4000000
attribute [local go_sem] packed List.set_cons_zero List.set_cons_succ List.cons_append List.nil_append bytesRows_length

/-! ### Floors read -/
abbrev M40 : Nat := 1099511627776
def frL (b : List UInt8) : Nat → Nat → Int → FL × Nat × Int
  | 0, a, c => ([], a, c)
  | k + 1, a, c =>
    let r := frL b k (numR b (eightR b a c).2.1 (eightR b a c).1 1099511627776).2.1 (numR b (eightR b a c).2.1 (eightR b a c).1 1099511627776).1
    (((eightR b a c).2.2, ((numR b (eightR b a c).2.1 (eightR b a c).1 1099511627776).2.2 : Int)) :: r.1, r.2)
def frLow (b : List UInt8) (at_ : Nat) (c : Int) : Int := ((numR b at_ c 1099511627776).2.2 : Int)
def frN (b : List UInt8) (at_ : Nat) (c : Int) : Int × Nat × Nat := numR b (numR b at_ c 1099511627776).2.1 (numR b at_ c 1099511627776).1 12
def frA (b : List UInt8) (at_ : Nat) (c : Int) : FL × Nat × Int := frL b (frN b at_ c).2.2 (frN b at_ c).2.1 (frN b at_ c).1
def frC (b : List UInt8) (at_ : Nat) (c : Int) : Int := if (frA b at_ c).2.2 = 0 then flC (frLow b at_ c) (frA b at_ c).1 else (frA b at_ c).2.2
def frF (b : List UInt8) (at_ : Nat) (c : Int) : Int × FL := if frC b at_ c ≠ 0 then (0, []) else (frLow b at_ c, (frA b at_ c).1)
theorem frL_at (b : List UInt8) : ∀ (k a : Nat) (c : Int), a ≤ b.length → (frL b k a c).2.1 ≤ b.length
  | 0, a, c, h => h
  | k + 1, a, c, h => by
    simp only [frL]
    exact frL_at b k _ _ (numR_at b _ _ (eightR_at b c h))
theorem frL_len (b : List UInt8) : ∀ (k a : Nat) (c : Int), (frL b k a c).1.length = k
  | 0, a, c => rfl
  | k + 1, a, c => by simp only [frL, List.length_cons, frL_len b k]
theorem flRows_app (l m : FL) : flRows (l ++ m) = flRows l ++ flRows m := by simp [flRows]
theorem rnumL40_ok (a : Nat) (b : List UInt8) (at_ : Nat) (c : Int) (h : at_ ≤ b.length) (hb : b.length < 2 ^ 37) :
    ACalls Tryz.prog 60 [.c (.pointer (some ⟨a, 0, none⟩)), .c (.int .i64 1099511627776)] [rdr a b at_ c]
    (fun r Δ => r = .ret (.c (.int .i64 (numR b at_ c 1099511627776).2.2)) ∧ Δ = [rdr a b (numR b at_ c 1099511627776).2.1 (numR b at_ c 1099511627776).1]) := rnum_ok a b at_ c 1099511627776 h hb (by omega)
theorem num02L40_ok (b : List UInt8) (at_ : Nat) (c : Int) (h : at_ ≤ b.length) (hb : b.length < 2 ^ 37) :
    ACalls Tryz.prog 66 [rdV b at_ c, .c (.int .i64 1099511627776)] [] (Ret (.tup [rdV b (numR b at_ c 1099511627776).2.1 (numR b at_ c 1099511627776).1, .c (.int .i64 (numR b at_ c 1099511627776).2.2)])) := num02R_ok b at_ c 1099511627776 h hb (by omega)
theorem rnumL12_ok (a : Nat) (b : List UInt8) (at_ : Nat) (c : Int) (h : at_ ≤ b.length) (hb : b.length < 2 ^ 37) :
    ACalls Tryz.prog 60 [.c (.pointer (some ⟨a, 0, none⟩)), .c (.int .i64 12)] [rdr a b at_ c]
    (fun r Δ => r = .ret (.c (.int .i64 (numR b at_ c 12).2.2)) ∧ Δ = [rdr a b (numR b at_ c 12).2.1 (numR b at_ c 12).1]) := rnum_ok a b at_ c 12 h hb (by omega)
theorem num02L12_ok (b : List UInt8) (at_ : Nat) (c : Int) (h : at_ ≤ b.length) (hb : b.length < 2 ^ 37) :
    ACalls Tryz.prog 66 [rdV b at_ c, .c (.int .i64 12)] [] (Ret (.tup [rdV b (numR b at_ c 12).2.1 (numR b at_ c 12).1, .c (.int .i64 (numR b at_ c 12).2.2)])) := num02R_ok b at_ c 12 h hb (by omega)
theorem rnumL1_ok (a : Nat) (b : List UInt8) (at_ : Nat) (c : Int) (h : at_ ≤ b.length) (hb : b.length < 2 ^ 37) :
    ACalls Tryz.prog 60 [.c (.pointer (some ⟨a, 0, none⟩)), .c (.int .i64 1)] [rdr a b at_ c]
    (fun r Δ => r = .ret (.c (.int .i64 (numR b at_ c 1).2.2)) ∧ Δ = [rdr a b (numR b at_ c 1).2.1 (numR b at_ c 1).1]) := rnum_ok a b at_ c 1 h hb (by omega)
theorem num02L1_ok (b : List UInt8) (at_ : Nat) (c : Int) (h : at_ ≤ b.length) (hb : b.length < 2 ^ 37) :
    ACalls Tryz.prog 66 [rdV b at_ c, .c (.int .i64 1)] [] (Ret (.tup [rdV b (numR b at_ c 1).2.1 (numR b at_ c 1).1, .c (.int .i64 (numR b at_ c 1).2.2)])) := num02R_ok b at_ c 1 h hb (by omega)
theorem from_ok (a : Nat) (b : List UInt8) (at_ : Nat) (c : Int) (h : at_ ≤ b.length) (hb : b.length < 2 ^ 37) :
    ACalls Tryz.prog 61 [.c (.pointer (some ⟨a, 0, none⟩))] [rdr a b at_ c, GL] (fun r Δ => r = .ret (flAV (frF b at_ c).1 (frF b at_ c).2) ∧ Δ = [rdr a b (frA b at_ c).2.1 (frC b at_ c), GL]) := by
  have ha1 := numR_at b c 1099511627776 h
  have hv2 : (frN b at_ c).2.2 ≤ 12 := numR_val b _ 12 ha1
  have hp2 : (frN b at_ c).2.1 ≤ b.length := numR_at b _ 12 ha1
  have hn1 : ACalls _ _ _ [rdr a b at_ c] (fun r Δ => r = .ret (.c (.int .i64 (frLow b at_ c))) ∧ Δ = [rdr a b (numR b at_ c 1099511627776).2.1 (numR b at_ c 1099511627776).1]) := rnumL40_ok a b at_ c h hb
  have hn2 : ACalls _ _ _ [rdr a b (numR b at_ c 1099511627776).2.1 (numR b at_ c 1099511627776).1] (fun r Δ => r = .ret (.c (.int .i64 (frN b at_ c).2.2)) ∧ Δ = [rdr a b (frN b at_ c).2.1 (frN b at_ c).1]) := rnumL12_ok a b (numR b at_ c 1099511627776).2.1 (numR b at_ c 1099511627776).1 ha1 hb
  have hA : frA b at_ c = frL b (frN b at_ c).2.2 (frN b at_ c).2.1 (frN b at_ c).1 := rfl
  have hC : frC b at_ c = if (frA b at_ c).2.2 = 0 then flC (frLow b at_ c) (frA b at_ c).1 else (frA b at_ c).2.2 := rfl
  have hF : frF b at_ c = if frC b at_ c ≠ 0 then (0, []) else (frLow b at_ c, (frA b at_ c).1) := rfl
  generalize frN b at_ c = N at *
  generalize frLow b at_ c = low at *
  obtain ⟨c2, p2, n⟩ := N
  simp only at hn2 hA hv2 hp2
  refine calls_of_J cl_61 Tryz.func61 rfl (by simp [Tryz.ntmps61]) ?_
  refine jr (own := [2]) (h := ?_)
  refine jnv (hh := fun b2 hb2 => ?_)
  refine jr (own := []) (h := ?_)
  refine jcs (Δ1 := [_]) (Fr := [_, _]) (hs := hn1) (hp := (List.Perm.swap _ _ _)) (hk := ?_) (hpan := (by rintro x Δ' ⟨e, _⟩; cases e))
  rintro x _ ⟨e, rfl⟩
  cases e
  simp only [List.cons_append, List.nil_append]
  refine jr (own := [3]) (h := ?_)
  refine jnv (hh := fun b3 hb3 => ?_)
  simp only [fresh, GL, HP.glob] at hb2 hb3
  refine jf (own := []) (a2 hb3 hb2) (h := ?_)
  refine jcs (Δ1 := [_]) (Fr := [_, _, _]) (hs := hn2) (hp := (List.Perm.swap _ _ _)) (hk := ?_) (hpan := (by rintro x Δ' ⟨e, _⟩; cases e))
  rintro x _ ⟨e, rfl⟩
  cases e
  simp only [List.cons_append, List.nil_append]
  refine jf (own := []) (a2 hb3 hb2) (h := ?_)
  refine jk [0, 2, 3, 11, 12] (h := ?_)
  refine J_loopI (I := fun m e D' => ∃ (i a' : Nat) (c' : Int) (acc : FL) (v : Value) (L : List HP), i ≤ n ∧ m = n - i ∧ acc.length = i ∧ a' ≤ b.length ∧ acc ++ (frL b (n - i) a' c').1 = (frL b n p2 c2).1 ∧ (frL b (n - i) a' c').2 = (frL b n p2 c2).2 ∧ Own 124 2 (flRows acc).flatten acc.length v L ∧ D' = rdr a b a' c' :: .box b3 24 [.c (.int .i64 low), .c v] :: .box b2 24 [.c (.int .i64 0), .c (.slice none 0 0)] :: GL :: L ∧ e = [(0, .c (.pointer (some ⟨a, 0, none⟩))), (2, .c (.pointer (some ⟨b2, 0, none⟩))), (3, .c (.pointer (some ⟨b3, 0, none⟩))), (11, .c (.int .i64 n)), (12, .c (.int .i64 i))]) ?_ ?_
  · exact ⟨_, 0, p2, c2, [], .slice none 0 0, [], by omega, rfl, rfl, hp2, rfl, rfl, .nil none rfl rfl, rfl, rfl⟩
  · rintro m e D ⟨i, a', c', acc, v, L, hi, rfl, hal, ha', ht1, ht2, how, rfl, rfl⟩ ih
    refine jr (own := []) (h := ?_)
    refine jif (h1 := fun hc => ?_) (h2 := fun hc => ?_)
    · have hk : n - i = (n - (i + 1)) + 1 := by omega
      rw [hk] at ht1 ht2
      simp only [frL] at ht1 ht2
      have hw := rwordE_ok a b a' c' ha' hb
      have hea := eightR_at b c' ha'
      generalize eightR b a' c' = E at *
      have hm := rnumL40_ok a b E.2.1 E.1 hea hb
      have hma := numR_at b E.1 1099511627776 hea
      generalize numR b E.2.1 E.1 1099511627776 = M at *
      refine jr (own := []) (h := ?_)
      refine jcs (Δ1 := [_]) (Fr := _ :: _ :: _ :: L) (hs := hw) (hp := (List.Perm.refl _)) (hk := ?_) (hpan := (by rintro x Δ' ⟨e, _⟩; cases e))
      rintro x _ ⟨e, rfl⟩
      cases e
      simp only [List.cons_append, List.nil_append]
      refine jf (own := []) (a2 hb3 hb2) (h := ?_)
      refine jd2 1 4 [(0, .pure), (1, .read), (2, .pure), (3, .pure), (4, .act), (5, .pure), (6, .pure), (7, .act), (8, .pure), (9, .act)] [(0, .pure), (2, .pure), (3, .pure), (4, .act), (1, .read), (5, .pure), (6, .pure), (7, .act), (8, .pure), (9, .act)] mixed (by kernel_rfl) ?_ ?_
      all_goals
        refine cf (own := []) (a2 hb3 hb2) (hk := ?_)
        refine ccs (Δ1 := [_]) (Fr := _ :: _ :: _ :: L) (hs := hm) (hp := (List.Perm.refl _)) (hk := ?_) (hn := (by rintro x Δ' ⟨e, _⟩; cases e))
        rintro x _ ⟨e, rfl⟩
        cases e
        simp only [List.cons_append, List.nil_append]
        refine cf (own := []) (a2 hb3 hb2) (hk := ?_)
        refine Can_bi (by simp only [go_sem, ↓reduceIte, Int.reduceLT, Int.reduceLE, Int.reduceToNat, Int.reducePow, Int.reduceNeg, Nat.reduceBEq, Tryz.ntmps61] <;> with_reducible rfl) (append_bi (by simp only [go_sem, ↓reduceIte, Int.reduceLT, Int.reduceLE, Int.reduceToNat, Int.reducePow, Int.reduceNeg, Nat.reduceBEq] <;> with_reducible rfl) how (Fr := [_, _, _, _]) (List.Perm.refl _) (by simp only [go_sem, srcOf] <;> rfl) (by rfl) (by omega)) ?_
        rintro _ _ ⟨v2, L2, rfl, rfl, how2⟩
        simp only [List.cons_append, List.nil_append]
        obtain ⟨av2, cv2, rfl⟩ := how2.slice
        refine cf (own := []) (a2 hb3 hb2) (hk := ?_)
        refine Can_nil ?_
        refine jr (own := []) (h := ?_)
        refine jk [0, 2, 3, 11, 12] (h := ?_)
        refine ih (n - (i + 1)) _ _ (by omega) ⟨i + 1, M.2.1, M.1, acc ++ [(E.2.2, (M.2.2 : Int))], _, L2, by omega, rfl, by simp [hal], hma, ?_, ht2, ?_, rfl, rfl⟩
        · rw [← ht1]; simp
        · rw [flRows_app, List.flatten_append, List.length_append]; exact how2
    · have hi2 : i = n := by omega
      subst hi2
      simp only [Nat.sub_self, frL, List.append_nil] at ht1 ht2
      have hA1 : (frA b at_ c).1 = acc := by rw [hA, ← ht1]
      have hA2 : (frA b at_ c).2 = (a', c') := by rw [hA, ← ht2]
      rw [hA2]
      rw [hA1, hA2] at hC
      rw [hA1] at hF
      simp only at hC
      have hac : acc.length = i := hal
      refine J_freezeS (Fr := [_, _, _, _]) (show Own 124 2 (flRows acc).flatten (flRows acc).length v L by rw [flRows_len]; exact how) (flRows_row acc) (by rw [flRows_len]; unfold maxRows; omega) ?_
      refine J_isBox (b := b3) (u := v) (x := .sl 2 (flRows acc)) (t := 24) (cells := [.c (.int .i64 low), .c v]) 1 rfl (Fr := [rdr a b a' c', .box b2 24 [.c (.int .i64 0), .c (.slice none 0 0)], GL]) ?_ ?_
      · exact List.Perm.cons _ (List.Perm.swap _ _ _)
      refine J_perm (Δ' := [HP.is v (.sl 2 (flRows acc)), rdr a b a' c', .box b3 24 [.c (.int .i64 low), .sl 2 (flRows acc)], .box b2 24 [.c (.int .i64 0), .c (.slice none 0 0)], GL]) ?_ (J_drop ?_)
      · exact (List.perm_middle (l₁ := [_, _]) (l₂ := [_, _])).symm
      refine jr (own := []) (h := ?_)
      refine jcs (Δ1 := [_]) (Fr := [_, _, _]) (hs := (rcode_ok a b a' c')) (hp := (List.Perm.refl _)) (hk := ?_) (hpan := (by rintro x Δ' ⟨e, _⟩; cases e))
      rintro x _ ⟨e, rfl⟩
      cases e
      simp only [List.cons_append, List.nil_append]
      refine jr (own := []) (h := ?_)
      refine jif (h1 := fun hz => ?_) (h2 := fun hz => ?_)
      · refine jf (own := []) (a2 hb3 hb2) (h := ?_)
        refine jcs (Δ1 := []) (Fr := [_, _, _, _]) (hs := (check_fl_ok low acc)) (hp := (List.Perm.refl _)) (hk := ?_) (hpan := (by rintro x Δ' ⟨⟨e, h, _⟩, _⟩; cases h))
        rintro x _ ⟨⟨e, h, he⟩, rfl⟩
        cases h
        simp only [List.cons_append, List.nil_append]
        refine jcg (hin := by simp [GL]) (hs := of_ok he) (hk := ?_)
        refine jr (own := []) (h := ?_)
        refine jcs (Δ1 := [_]) (Fr := [_, _, _]) (hs := (rfail_ok a b a' c' (flC low acc))) (hp := (List.Perm.refl _)) (hk := ?_) (hpan := (by rintro x Δ' ⟨e, _⟩; cases e))
        rintro x _ ⟨e, rfl⟩
        cases e
        simp only [List.cons_append, List.nil_append]
        have hC2 : frC b at_ c = if c' = 0 then flC low acc else c' := hC
        rw [hC2] at hF ⊢
        refine jr (own := []) (h := ?_)
        refine jcs (Δ1 := [_]) (Fr := [_, _, _]) (hs := (rcode_ok a b a' _)) (hp := (List.Perm.refl _)) (hk := ?_) (hpan := (by rintro x Δ' ⟨e, _⟩; cases e))
        rintro x _ ⟨e, rfl⟩
        cases e
        simp only [List.cons_append, List.nil_append]
        refine jr (own := []) (h := ?_)
        refine jif (h1 := fun hy => ?_) (h2 := fun hy => ?_)
        · rw [if_pos hy] at hF
          rw [hF]
          refine jf (own := []) (a2 hb3 hb2) (h := ?_)
          refine J_wkBox (b := b2) (t := 24) (cells := [.c (.int .i64 0), .c (.slice none 0 0)]) (y := .sl 2 (flRows [])) 1 rfl nil_le_sl (List.perm_middle (l₁ := [_, _]) (l₂ := [_])) ?_
          refine J_forgetP ?_
          refine jretf (a2 hb3 hb2) Tryz.func61 (h := ⟨[_, _], _, List.Perm.cons _ (List.Perm.swap _ _ _), rfl, rfl⟩)
        · rw [if_neg hy] at hF
          rw [hF]
          refine jf (own := []) (a2 hb3 hb2) (h := ?_)
          refine J_forgetP ?_
          refine jretf (a2 hb3 hb2) Tryz.func61 (h := ⟨[_, _], _, (List.perm_middle (l₁ := [_, _]) (l₂ := [_])).symm, rfl, rfl⟩)
      · have hC2 : frC b at_ c = c' := by rw [hC, if_neg hz]
        rw [hC2] at hF ⊢
        refine jr (own := []) (h := ?_)
        refine jcs (Δ1 := [_]) (Fr := [_, _, _]) (hs := (rcode_ok a b a' _)) (hp := (List.Perm.refl _)) (hk := ?_) (hpan := (by rintro x Δ' ⟨e, _⟩; cases e))
        rintro x _ ⟨e, rfl⟩
        cases e
        simp only [List.cons_append, List.nil_append]
        refine jr (own := []) (h := ?_)
        refine jif (h1 := fun hy => ?_) (h2 := fun hy => ?_)
        · rw [if_pos hy] at hF
          rw [hF]
          refine jf (own := []) (a2 hb3 hb2) (h := ?_)
          refine J_wkBox (b := b2) (t := 24) (cells := [.c (.int .i64 0), .c (.slice none 0 0)]) (y := .sl 2 (flRows [])) 1 rfl nil_le_sl (List.perm_middle (l₁ := [_, _]) (l₂ := [_])) ?_
          refine J_forgetP ?_
          refine jretf (a2 hb3 hb2) Tryz.func61 (h := ⟨[_, _], _, List.Perm.cons _ (List.Perm.swap _ _ _), rfl, rfl⟩)
        · exact absurd hz hy
theorem from16_ok (b : List UInt8) (at_ : Nat) (c : Int) (h : at_ ≤ b.length) (hb : b.length < 2 ^ 37) :
    ACalls Tryz.prog 67 [rdV b at_ c] [] (Ret (.tup [rdV b (frA b at_ c).2.1 (frC b at_ c), flAV (frF b at_ c).1 (frF b at_ c).2])) := by
  have ha1 := numR_at b c 1099511627776 h
  have hv2 : (frN b at_ c).2.2 ≤ 12 := numR_val b _ 12 ha1
  have hp2 : (frN b at_ c).2.1 ≤ b.length := numR_at b _ 12 ha1
  have hn1 : ACalls _ _ _ [] (Ret (.tup [rdV b (numR b at_ c 1099511627776).2.1 (numR b at_ c 1099511627776).1, .c (.int .i64 (frLow b at_ c))])) := num02L40_ok b at_ c h hb
  have hn2 : ACalls _ _ _ [] (Ret (.tup [rdV b (frN b at_ c).2.1 (frN b at_ c).1, .c (.int .i64 (frN b at_ c).2.2)])) := num02L12_ok b (numR b at_ c 1099511627776).2.1 (numR b at_ c 1099511627776).1 ha1 hb
  have hA : frA b at_ c = frL b (frN b at_ c).2.2 (frN b at_ c).2.1 (frN b at_ c).1 := rfl
  have hC : frC b at_ c = if (frA b at_ c).2.2 = 0 then flC (frLow b at_ c) (frA b at_ c).1 else (frA b at_ c).2.2 := rfl
  have hF : frF b at_ c = if frC b at_ c ≠ 0 then (0, []) else (frLow b at_ c, (frA b at_ c).1) := rfl
  generalize frN b at_ c = N at *
  generalize frLow b at_ c = low at *
  obtain ⟨c2, p2, n⟩ := N
  simp only at hn2 hA hv2 hp2
  refine calls_of_J cl_67 Tryz.func67 rfl (by simp [Tryz.ntmps67]) ?_
  refine jr (own := [2, 3]) (h := ?_)
  refine jnv (hh := fun b2 hb2 => ?_)
  refine jr (own := [2, 3]) (h := ?_)
  refine jnv (hh := fun b3 hb3 => ?_)
  refine jr (own := []) (h := ?_)
  refine jc (hs := hn1) (hk := ?_)
  refine jr (own := [4]) (h := ?_)
  refine jnv (hh := fun b4 hb4 => ?_)
  simp only [fresh] at hb2 hb3 hb4
  refine jf (own := []) (a2 hb4 hb3) (h := ?_)
  refine jc (hs := hn2) (hk := ?_)
  refine jr (own := [6]) (h := ?_)
  refine jnv (hh := fun b6 hb6 => ?_)
  simp only [fresh] at hb6
  refine jf (own := [8]) (a3 hb6 hb4 hb3) (h := ?_)
  refine jnv (hh := fun b8 hb8 => ?_)
  simp only [fresh] at hb8
  refine jf (own := []) (a4 hb8 hb6 hb4 hb3) (h := ?_)
  refine J_perm (List.perm_middle (l₁ := [_, _]) (l₂ := [_, _])) (J_drop ?_)
  simp only [List.cons_append, List.nil_append]
  refine jk [2, 3, 6, 7, 8, 9] (h := ?_)
  refine J_loopI (I := fun m e D' => ∃ (i a' : Nat) (c' : Int) (acc : FL) (v : Value) (L : List HP), i ≤ n ∧ m = n - i ∧ acc.length = i ∧ a' ≤ b.length ∧ acc ++ (frL b (n - i) a' c').1 = (frL b n p2 c2).1 ∧ (frL b (n - i) a' c').2 = (frL b n p2 c2).2 ∧ Own 124 2 (flRows acc).flatten acc.length v L ∧ D' = .box b8 24 [.c (.int .i64 low), .c v] :: .box b6 139 [.sl 1 (bytesRows b), .c (.int .i64 a'), .c (.int .i64 c')] :: .box b3 24 [.c (.int .i64 0), .c (.slice none 0 0)] :: .box b2 139 [.c (.slice none 0 0), .c (.int .i64 0), .c (.int .i64 0)] :: L ∧ e = [(2, .c (.pointer (some ⟨b2, 0, none⟩))), (3, .c (.pointer (some ⟨b3, 0, none⟩))), (6, .c (.pointer (some ⟨b6, 0, none⟩))), (7, .c (.int .i64 n)), (8, .c (.pointer (some ⟨b8, 0, none⟩))), (9, .c (.int .i64 i))]) ?_ ?_
  · exact ⟨_, 0, p2, c2, [], .slice none 0 0, [], by omega, rfl, rfl, hp2, rfl, rfl, .nil none rfl rfl, rfl, rfl⟩
  · rintro m e D ⟨i, a', c', acc, v, L, hi, rfl, hal, ha', ht1, ht2, how, rfl, rfl⟩ ih
    refine jr (own := []) (h := ?_)
    refine jif (h1 := fun hc => ?_) (h2 := fun hc => ?_)
    · have hk : n - i = (n - (i + 1)) + 1 := by omega
      rw [hk] at ht1 ht2
      simp only [frL] at ht1 ht2
      have hw := eight02E_ok b a' c' ha' hb
      have hea := eightR_at b c' ha'
      generalize eightR b a' c' = E at *
      have hm := num02L40_ok b E.2.1 E.1 hea hb
      have hma := numR_at b E.1 1099511627776 hea
      generalize numR b E.2.1 E.1 1099511627776 = M at *
      refine jf (own := []) (a4 hb8 hb6 hb4 hb3) (h := ?_)
      refine jc (hs := hw) (hk := ?_)
      refine jr (own := [10]) (h := ?_)
      refine jnv (hh := fun b10 hb10 => ?_)
      simp only [fresh] at hb10
      refine jf (own := []) (a5 hb10 hb8 hb6 hb4 hb3) (h := ?_)
      refine jc (hs := hm) (hk := ?_)
      refine jr (own := [12]) (h := ?_)
      refine jnv (hh := fun b12 hb12 => ?_)
      simp only [fresh] at hb12
      refine jf (own := [48]) (a5 hb12 hb10 hb8 hb6 (a2 hb4 hb3)) (h := ?_)
      refine jap (Fr := [_, _, _, _, _, _]) (how := how) (hp := (List.Perm.refl _)) (hsrc := (by simp only [go_sem, srcOf] <;> rfl)) (hc := (by rfl)) (hmax := (by omega)) (hk := ?_)
      rintro _ _ ⟨v2, L2, rfl, rfl, how2⟩
      simp only [List.cons_append, List.nil_append]
      obtain ⟨av2, cv2, rfl⟩ := how2.slice
      refine jf (own := []) (a5 hb12 hb10 hb8 hb6 (a2 hb4 hb3)) (h := ?_)
      refine J_drop (J_drop ?_)
      refine jk [2, 3, 6, 7, 8, 9] (h := ?_)
      refine ih (n - (i + 1)) _ _ (by omega) ⟨i + 1, M.2.1, M.1, acc ++ [(E.2.2, (M.2.2 : Int))], _, L2, by omega, rfl, by simp [hal], hma, ?_, ht2, ?_, rfl, rfl⟩
      · rw [← ht1]; simp
      · rw [flRows_app, List.flatten_append, List.length_append]; exact how2
    · have hi2 : i = n := by omega
      subst hi2
      simp only [Nat.sub_self, frL, List.append_nil] at ht1 ht2
      have hA1 : (frA b at_ c).1 = acc := by rw [hA, ← ht1]
      have hA2 : (frA b at_ c).2 = (a', c') := by rw [hA, ← ht2]
      rw [hA2]
      rw [hA1, hA2] at hC
      rw [hA1] at hF
      simp only at hC
      refine J_freezeS (Fr := [_, _, _, _]) (show Own 124 2 (flRows acc).flatten (flRows acc).length v L by rw [flRows_len]; exact how) (flRows_row acc) (by rw [flRows_len]; unfold maxRows; omega) ?_
      refine J_isBox (b := b8) (u := v) (x := .sl 2 (flRows acc)) (t := 24) (cells := [.c (.int .i64 low), .c v]) 1 rfl (List.Perm.refl _) ?_
      refine J_perm (List.Perm.swap _ _ _) (J_drop ?_)
      simp only [List.set_cons_succ, List.set_cons_zero]
      refine jf (own := []) (a4 hb8 hb6 hb4 hb3) (h := ?_)
      refine jif (h1 := fun hz => ?_) (h2 := fun hz => ?_)
      · refine jf (own := []) (a4 hb8 hb6 hb4 hb3) (h := ?_)
        refine jc (hs := check16_ok low acc) (hk := ?_)
        have hC2 : frC b at_ c = flC low acc := by rw [hC, if_pos hz]
        rw [hC2] at hF ⊢
        refine jf (own := []) (a4 hb8 hb6 hb4 hb3) (h := ?_)
        refine jif (h1 := fun hy => ?_) (h2 := fun hy => ?_)
        · rw [if_pos hy] at hF
          rw [hF]
          refine jf (own := []) (a4 hb8 hb6 hb4 hb3) (h := ?_)
          refine J_wkBox (b := b3) (t := 24) (cells := [.c (.int .i64 0), .c (.slice none 0 0)]) (y := .sl 2 (flRows [])) 1 rfl nil_le_sl (List.perm_middle (l₁ := [_, _]) (l₂ := [_])) ?_
          refine J_forget ?_
          refine jretf (a4 hb8 hb6 hb4 hb3) Tryz.func67 (h := ⟨rfl, rfl⟩)
        · rw [if_neg hy] at hF
          rw [hF]
          refine jf (own := []) (a4 hb8 hb6 hb4 hb3) (h := ?_)
          refine jd2 1 2 [(0, .read), (1, .read), (2, .act), (3, .act)] [(0, .read), (2, .act), (1, .read), (3, .act)] mixed (by kernel_rfl) ?_ ?_
          all_goals
            refine cf (own := []) (a4 hb8 hb6 hb4 hb3) (hk := ?_)
            refine Can_nil ?_
            refine jr (own := []) (h := ?_)
            refine J_forget ?_
            refine jretf (a4 hb8 hb6 hb4 hb3) Tryz.func67 (h := ⟨rfl, rfl⟩)
      · have hC2 : frC b at_ c = c' := by rw [hC, if_neg hz]
        rw [hC2] at hF ⊢
        refine jf (own := []) (a4 hb8 hb6 hb4 hb3) (h := ?_)
        refine jif (h1 := fun hy => ?_) (h2 := fun hy => ?_)
        · rw [if_pos hy] at hF
          rw [hF]
          refine jf (own := []) (a4 hb8 hb6 hb4 hb3) (h := ?_)
          refine J_wkBox (b := b3) (t := 24) (cells := [.c (.int .i64 0), .c (.slice none 0 0)]) (y := .sl 2 (flRows [])) 1 rfl nil_le_sl (List.perm_middle (l₁ := [_, _]) (l₂ := [_])) ?_
          refine J_forget ?_
          refine jretf (a4 hb8 hb6 hb4 hb3) Tryz.func67 (h := ⟨rfl, rfl⟩)
        · exact absurd hz hy
end Go.Proofs.YtlmahffjidgplaaGreatDoor
end
