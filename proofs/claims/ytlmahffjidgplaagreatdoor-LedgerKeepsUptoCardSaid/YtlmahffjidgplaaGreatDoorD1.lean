/- A part of the proof: what the calls do, told by values. -/
import Derived.Test.YtlmahffjidgplaaGreatDoorC9
import Derived.Test.YtlmahffjidgplaaGreatDoorC3
section
namespace Go.Proofs.YtlmahffjidgplaaGreatDoor
open Go Go.Av
set_option linter.unusedVariables false
set_option linter.unusedSimpArgs false
set_option maxRecDepth 100000
set_option maxHeartbeats 4000000
attribute [local go_sem] packed List.set_cons_zero List.set_cons_succ List.cons_append List.nil_append bytesRows_length cellRows_len chRows_len rCells intRows_len
attribute [-go_sem] cellsOf AV.isCell
attribute [local go_sem] cellsOf_agg cellsOf_int cellsOf_bool cellsOf_str cellsOf_map cellsOf_ptr cellsOf_nilI cellsOf_slice cellsOf_sl cellsOf_ifc cellsOf_fp cellsOf_opt optAV_cell icell_int icell_bool icell_str icell_map icell_ptr icell_nilI icell_slice icell_sl icell_ifc icell_fp

/-! ### The law's world -/
theorem tgetC_wc {s : Fl} {c : List (Int × List UInt8)} {m : Nat} (h : Rel s c m) (at_ kd : Int) : tgetC (wc s c) at_ kd = tgetC s at_ kd := by
  unfold tgetC; rw [h.look]; rfl
theorem lgN_wc {s : Fl} {c : List (Int × List UInt8)} {m : Nat} (h : Rel s c m) (base : Int) : ∀ k, lgN (wc s c) base k = lgN s base k
  | 0 => rfl
  | k + 1 => by simp only [lgN, lgN_wc h base k]; unfold lgStep; rw [tgetC_wc h, h.look]
def lgCells (r : Fl) (n base newest : Int) (x : Rec) : List AV := rCells r ++ [.c (.int .i64 n), .c (.int .i64 base), .c (.int .i64 newest), .c (.int .i64 x.e), .c (.bool x.cl), .c (.int .i64 x.low), .sl 2 (flRows x.l)]
def wAV (t l : Nat) (r : Fl) (n base newest : Int) (x : Rec) : AV := .agg (ptr t :: ptr l :: lgCells r n base newest x)
attribute [local go_sem] lgAV tAV wAV lgCells newFl
theorem wopen_ok (f : Nat) (n : Int) (s : Fl) (c : List (Int × List UInt8)) (m : Nat) (D : List HP) (h : OwnF f s D) (hrel : Rel s c m) (hm : m < 2 ^ 29) (hd : s.down = false) (hp : s.pages = 3) :
    ACalls Tryz.prog 73 [ptr f, tAV (wc s c) n] (GL :: D) (fun q Δ => ∃ t l, q = .ret (.tup [wAV t l (wc s c) n 1 (lgN s 1 2).1 (lgN s 1 2).2.1, .c (.bool true)]) ∧ Δ = ldg l t 1 (lgN s 1 2).1 (lgN s 1 2).2.1 :: tbox t f (nextF s) :: GL :: D) := by
  have hto := topen_ok h (hrel.b.wf (by omega)) (hrel.b.small (by omega)) hd (by have := cellsF_len hrel.b; omega)
  have hlo := fun t => lopen_ok t f (nextF s) s D h (hrel.b.wf (by omega)) 1 (by omega) (by omega) hd
  have hl17 := lopen17_ok (wc s c) n 1 (by show 0 ≤ (1 : Int) ∧ (1 : Int) ≤ s.pages - 2; omega) (by show 0 ≤ s.pages ∧ s.pages ≤ 4096; omega) hd hrel.rb.safe.page hrel.rb.lpage (by have := hrel.rb.len; omega) (by have := hrel.rb.len; omega)
  rw [lgN_wc hrel] at hl17
  generalize (lgN s 1 2).1 = nw at *
  generalize (lgN s 1 2).2.1 = xx at *
  generalize nextF s = nx at *
  have hpt : ∀ t, ∀ x : HP, (x :: tbox t f nx :: GL :: D).Perm ((tbox t f nx :: D) ++ [x, GL]) := fun t x => (List.Perm.swap _ _ _).trans (.cons _ (List.perm_append_comm (l₁ := [_, _])))
  refine calls_of_J cl_73 Tryz.func73 rfl (by simp [Tryz.ntmps73]) ?_
  refine jr (own := [4]) (h := ?_)
  refine jnv (hh := fun b4 hb4 => ?_)
  refine jr (own := []) (h := ?_)
  refine jcs (Δ1 := D) (Fr := [_, GL]) (hs := hto) (hp := (List.perm_append_comm (l₁ := [_, GL]))) (hk := ?_) (hpan := (by rintro x Δ' ⟨t, e, _⟩; cases e))
  rintro x _ ⟨t, e, rfl⟩
  cases e
  refine J_perm (hpt t _).symm ?_
  refine jr (own := []) (h := ?_)
  refine jn (h := ?_)
  refine jr (own := []) (h := ?_)
  refine jcs (Δ1 := tbox t f nx :: GL :: D) (Fr := [_]) (hs := (hlo t)) (hp := (List.perm_append_comm (l₁ := [_]))) (hk := ?_) (hpan := (by rintro x Δ' ⟨t, e, _⟩; cases e))
  rintro x _ ⟨l, e, rfl⟩
  cases e
  refine J_perm (List.perm_append_comm (l₂ := [_])) ?_
  simp only [List.cons_append, List.nil_append]
  refine jr (own := []) (h := ?_)
  refine jc (hs := hl17) (hk := ?_)
  refine jr (own := [9]) (h := ?_)
  refine jnv (hh := fun b9 hb9 => ?_)
  refine jr (own := []) (h := ?_)
  refine J_freeze (s := 9) (o := 0) (by simp only [go_sem]) ?_
  simp only [List.drop_zero]
  refine jd [(0, .pure), (1, .pure), (2, .pure), (3, .pure), (4, .pure), (5, .pure), (6, .pure), (7, .pure), (8, .pure), (9, .pure), (10, .pure), (11, .pure), (12, .pure), (13, .pure), (14, .act), (15, .pure)] mixed (by kernel_rfl) ?_
  refine cr (own := []) (hk := ?_)
  refine Can_nil ?_
  refine jr (own := []) (h := ?_)
  refine J_forgetP ?_
  refine jret Tryz.func73 (h := ⟨[_], _, List.Perm.refl _, t, l, rfl, rfl⟩)
theorem lgN_new : ∀ k, lgN (newFl 3) 1 k = (-1, zRec, 0)
  | 0 => rfl
  | k + 1 => by
    have hne : tgetC (newFl 3) (1 + (k : Int)) 4 ≠ 0 := by
      have h1 : lookB (newFl 3) (1 + (k : Int)) = z256 := rfl
      have h2 : getC z256 = 9 := by decide +kernel
      unfold tgetC
      rw [h1, h2]
      split
      · assumption
      · simp
    simp only [lgN, lgN_new k]
    unfold lgStep
    rw [if_pos (.inl hne)]
theorem begin_ok : ACalls Tryz.prog 21 [] [GL] (fun q Δ => ∃ f t l D, q = .ret (.tup [wAV t l (newFl 3) 1 1 (-1) zRec, .c (.bool true)]) ∧ OwnF f (newFl 3) D ∧ Δ = ldg l t 1 (-1) zRec :: tbox t f 1 :: GL :: D) := by
  have hrel : Rel (newFl 3) [] 0 := rel_new (by decide) (by decide)
  have hcn : cellsAt (newFl 3) (upto (newFl 3).pages.toNat) = [] := by have := hrel.cells; rw [cellsF_new] at this; exact this
  have ho10 : ACalls Tryz.prog 34 [rAV (newFl 3)] [] (Ret (.tup [tAV (newFl 3) 1, .c (.int .i64 0)])) := by
    have := open10_ok (newFl 3) rfl (by decide) (B_R hrel.b (by decide))
    rw [hcn] at this
    exact this
  have hnx : nextF (newFl 3) = 1 := by unfold nextF; rw [cellsF_new]; rfl
  have hwo : ∀ f D, OwnF f (newFl 3) D → _ := fun f D hO => wopen_ok f 1 (newFl 3) [] 0 D hO hrel (by decide) rfl rfl
  refine calls_of_J cl_21 Tryz.func21 rfl (by simp [Tryz.ntmps21]) ?_
  refine jr (own := [0]) (h := ?_)
  refine jnv (hh := fun b0 hb0 => ?_)
  refine jr (own := []) (h := ?_)
  refine jcs (Δ1 := []) (Fr := [_, GL]) (hs := (fnew_ok 3 (by decide) (by decide))) (hp := (List.Perm.refl _)) (hk := ?_) (hpan := (by rintro x Δ' ⟨f, e, _⟩; cases e))
  rintro x D ⟨f, e, hO⟩
  cases e
  have hw := hwo f D hO
  rw [lgN_new, hnx] at hw
  refine jr (own := []) (h := ?_)
  refine jn (h := ?_)
  refine jr (own := [19]) (h := ?_)
  refine J_wk (t := 18) (by simp only [go_sem] <;> rfl) (agg_le 1 rfl (nil_le_sl (s := 2))) ?_
  refine J_wk (t := 18) (by simp only [go_sem] <;> rfl) (agg_le 2 rfl (nil_le_sl (s := 3))) ?_
  have ho11 : ACalls Tryz.prog 34 [.agg [.c (.int .i64 3), .sl 2 [], .sl 3 [], .c (.int .i64 (-1)), .c (.bool false), .c (.int .i64 0)]] [] (Ret (.tup [tAV (newFl 3) 1, .c (.int .i64 0)])) := ho10
  refine jc (hs := ho11) (hk := ?_)
  refine J_perm (List.perm_append_comm (l₂ := [_, GL])) ?_
  simp only [List.cons_append, List.nil_append]
  refine jr (own := [4]) (h := ?_)
  refine jnv (hh := fun b4 hb4 => ?_)
  simp only [fresh] at hb4
  refine jf (own := []) hb4 (h := ?_)
  refine jcs (Δ1 := GL :: D) (Fr := [_, _]) (hs := hw) (hp := (List.perm_append_comm (l₁ := [_, _]))) (hk := ?_) (hpan := (by rintro x Δ' ⟨t, l, e, _⟩; cases e))
  rintro x _ ⟨t, l, e, rfl⟩
  cases e
  refine J_perm (List.perm_append_comm (l₂ := [_, _])) ?_
  simp only [List.cons_append, List.nil_append]
  refine jf (own := []) hb4 (h := ?_)
  refine J_forgetP ?_
  refine jretf hb4 Tryz.func21 (h := ⟨[_, _], _, List.Perm.refl _, f, t, l, D, rfl, hO, rfl⟩)
end Go.Proofs.YtlmahffjidgplaaGreatDoor
end

section
namespace Go.Proofs.YtlmahffjidgplaaGreatDoor
open Go Go.Av
set_option linter.unusedVariables false
set_option linter.unusedSimpArgs false
set_option maxRecDepth 100000
set_option maxHeartbeats 4000000

/-! ### A record is read as it was -/
theorem getD_at {pre r : List UInt8} {x : UInt8} {p : Nat} (hp : pre.length = p) : (pre ++ x :: r).getD p 0 = x := by
  subst hp; rw [List.getD_eq_getElem?_getD, List.getElem?_append_right (Nat.le_refl _)]; simp
theorem scan_hi (most at_ : Nat) (pre : List UInt8) (hpre : pre.length = at_) : ∀ (q : Nat), q ≤ most / 128 → ∀ (rest b : List UInt8), b = pre ++ (hi7 q ++ rest) →
    scanN b at_ most (b.length - at_) at_ 0 = scanN b at_ most (b.length - (at_ + (hi7 q).length)) (at_ + (hi7 q).length) q := by
  intro q
  induction q using Nat.strongRecOn with
  | ind q ih =>
    intro hq rest b hb
    by_cases h0 : q = 0
    · subst h0; simp [hi7_zero]
    · have hsn := hi7_pos h0
      have hb' : b = pre ++ (hi7 (q / 128) ++ (UInt8.ofNat (q % 128 + 128) :: rest)) := by rw [hb, hsn]; simp
      rw [ih (q / 128) (by omega) (by omega) _ b hb']
      have hlen : (hi7 q).length = (hi7 (q / 128)).length + 1 := by rw [hsn]; simp
      have hbl : b.length = at_ + (hi7 (q / 128)).length + 1 + rest.length := by rw [hb', ← hpre]; simp; omega
      have hk : b.length - (at_ + (hi7 (q / 128)).length) = (b.length - (at_ + (hi7 q).length)) + 1 := by omega
      rw [hk]
      have hg : b.getD (at_ + (hi7 (q / 128)).length) 0 = UInt8.ofNat (q % 128 + 128) := by
        rw [hb', ← List.append_assoc]; exact getD_at (by rw [List.length_append, hpre])
      have hd : (UInt8.ofNat (q % 128 + 128)).toNat = q % 128 + 128 := by rw [UInt8.toNat_ofNat']; omega
      have hz : q / 128 = 0 → (hi7 (q / 128)).length = 0 := fun h => by rw [h, hi7_zero]; rfl
      have hz2 : q / 128 ≠ 0 → 0 < (hi7 (q / 128)).length := fun h => by rw [hi7_pos h]; simp
      simp only [scanN, hg, hd]
      rw [if_neg (fun h => by
        by_cases hq1 : q / 128 = 0
        · omega
        · have := hz2 hq1; omega), if_neg (by omega), if_pos (by omega)]
      rw [hlen]
      have e1 : q / 128 * 128 + (q % 128 + 128) % 128 = q := by omega
      rw [e1]; rfl
theorem numR_num {most at_ n : Nat} {pre rest b : List UInt8} (hpre : pre.length = at_) (hn : n ≤ most) (hb : b = pre ++ (numB n ++ rest)) : numR b at_ 0 most = (0, at_ + (numB n).length, n) := by
  unfold numR
  rw [if_neg (by simp)]
  have hb' : b = pre ++ (hi7 (n / 128) ++ (UInt8.ofNat (n % 128) :: rest)) := by rw [hb, numB]; simp
  rw [scan_hi most at_ pre hpre (n / 128) (by omega) _ b hb']
  have hbl : b.length = at_ + (hi7 (n / 128)).length + 1 + rest.length := by rw [hb', ← hpre]; simp; omega
  have hk : b.length - (at_ + (hi7 (n / 128)).length) = rest.length + 1 := by omega
  have hg : b.getD (at_ + (hi7 (n / 128)).length) 0 = UInt8.ofNat (n % 128) := by
    rw [hb', ← List.append_assoc]; exact getD_at (by rw [List.length_append, hpre])
  have hd : (UInt8.ofNat (n % 128)).toNat = n % 128 := by rw [UInt8.toNat_ofNat']; omega
  rw [hk]
  simp only [scanN, hg, hd]
  rw [if_neg (by omega), if_neg (by omega), if_neg (by omega), if_neg (by omega)]
  have e1 : n / 128 * 128 + n % 128 = n := by omega
  have e2 : (numB n).length = (hi7 (n / 128)).length + 1 := by unfold numB; simp
  rw [e1, e2]; rfl
theorem eightR_word {at_ h : Nat} {pre rest b : List UInt8} (hpre : pre.length = at_) (hh : h < 2 ^ 64) (hb : b = pre ++ (word8 h ++ rest)) : eightR b at_ 0 = (0, at_ + 8, h) := by
  have hw : (word8 h).length = 8 := rfl
  have hl : at_ + 8 ≤ b.length := by rw [hb, ← hpre]; simp only [List.length_append, hw]; omega
  unfold eightR
  rw [if_neg (by simp), if_neg (by omega)]
  have : (b.drop at_).take 8 = word8 h := by
    rw [hb, ← hpre, List.drop_left, ← hw, List.take_left]
  rw [this, be8_word h hh]
theorem frL_fl : ∀ (l : FL) (at_ : Nat) (pre rest b : List UInt8), pre.length = at_ → (∀ p ∈ l, p.1 < 2 ^ 64) → (∀ p ∈ l, 0 ≤ p.2 ∧ p.2 ≤ 1099511627776) → b = pre ++ (flB l ++ rest) → frL b l.length at_ 0 = (l, at_ + (flB l).length, 0)
  | [], at_, pre, rest, b, hp, _, _, hb => by simp [frL, flB]
  | (h, a) :: l, at_, pre, rest, b, hp, h64, ha, hb => by
    have hh := h64 (h, a) (by simp)
    have hha := ha (h, a) (by simp)
    simp only at hh hha
    have hw : (word8 h).length = 8 := rfl
    have hb1 : b = pre ++ (word8 h ++ (numB a.toNat ++ (flB l ++ rest))) := by rw [hb, flB]; simp [numsB]
    have he := eightR_word hp hh hb1
    have hb2 : b = (pre ++ word8 h) ++ (numB a.toNat ++ (flB l ++ rest)) := by rw [hb1]; simp
    have hn := numR_num (most := 1099511627776) (at_ := at_ + 8) (by rw [List.length_append, hp, hw]) (show a.toNat ≤ 1099511627776 by omega) hb2
    have hb3 : b = (pre ++ word8 h ++ numB a.toNat) ++ (flB l ++ rest) := by rw [hb1]; simp
    have hr := frL_fl l (at_ + 8 + (numB a.toNat).length) _ rest b (by simp only [List.length_append, hp, hw]) (fun p q => h64 p (by simp [q])) (fun p q => ha p (by simp [q])) hb3
    simp only [List.length_cons, frL, he, hn, hr]
    have hlen : (flB ((h, a) :: l)).length = 8 + (numB a.toNat).length + (flB l).length := by simp [flB, numsB, hw]; omega
    rw [hlen, Int.toNat_of_nonneg hha.1]
    refine Prod.ext rfl (Prod.ext ?_ rfl)
    show at_ + 8 + (numB a.toNat).length + (flB l).length = at_ + (8 + (numB a.toNat).length + (flB l).length)
    omega
theorem rec_range {x : Rec} (hx : recC x = 0) : (1 ≤ x.e ∧ x.e ≤ 1099511627776) ∧ flC x.low x.l = 0 := by
  unfold recC at hx
  split at hx
  · simp at hx
  · exact ⟨by omega, hx⟩
theorem rec_back (x : Rec) (h64 : ∀ p ∈ x.l, p.1 < 2 ^ 64) (hx : recC x = 0) : getX17 (recB x) = 0 ∧ getRec (recB x) = x := by
  obtain ⟨hr, hf⟩ := rec_range hx
  have hw := flW_of hf h64
  obtain ⟨e, cl, low, l⟩ := x
  simp only at hr hf hw h64
  have hc : (if cl then 1 else 0 : Nat) ≤ 1 := by split <;> omega
  have hB : recB ⟨e, cl, low, l⟩ = [] ++ (numB e.toNat ++ (numB (if cl then 1 else 0) ++ (numB low.toNat ++ (numB l.length ++ (flB l ++ []))))) := by
    simp [recB, flPut, numsB]
  generalize recB ⟨e, cl, low, l⟩ = b at *
  generalize hcc : (if cl then 1 else 0 : Nat) = c at *
  have hbl : b.length = (numB e.toNat).length + (numB c).length + (numB low.toNat).length + (numB l.length).length + (flB l).length := by rw [hB]; simp; omega
  have n1 : getC17 b = (0, 0 + (numB e.toNat).length, e.toNat) := numR_num (pre := []) rfl (by omega) hB
  have hB2 : b = numB e.toNat ++ (numB c ++ (numB low.toNat ++ (numB l.length ++ (flB l ++ [])))) := by rw [hB]; simp
  have n2 : getK17 b = (0, 0 + (numB e.toNat).length + (numB c).length, c) := by unfold getK17; rw [n1]; exact numR_num (by simp) hc hB2
  have hB3 : b = (numB e.toNat ++ numB c) ++ (numB low.toNat ++ (numB l.length ++ (flB l ++ []))) := by rw [hB]; simp
  have n3 := numR_num (most := 1099511627776) (at_ := 0 + (numB e.toNat).length + (numB c).length) (by simp) (show low.toNat ≤ 1099511627776 by have := hw.low; omega) hB3
  have hB4 : b = (numB e.toNat ++ numB c ++ numB low.toNat) ++ (numB l.length ++ (flB l ++ [])) := by rw [hB]; simp
  have n4 := numR_num (most := 12) (at_ := 0 + (numB e.toNat).length + (numB c).length + (numB low.toNat).length) (by simp; omega) hw.len hB4
  have hB5 : b = (numB e.toNat ++ numB c ++ numB low.toNat ++ numB l.length) ++ (flB l ++ []) := by rw [hB]; simp
  have n5 := frL_fl l (0 + (numB e.toNat).length + (numB c).length + (numB low.toNat).length + (numB l.length).length) _ [] b (by simp; omega) h64 hw.at_ hB5
  generalize hp : 0 + (numB e.toNat).length + (numB c).length = p at *
  have hN : frN b p 0 = (0, p + (numB low.toNat).length + (numB l.length).length, l.length) := by unfold frN; rw [n3]; exact n4
  have hA : frA b p 0 = (l, p + (numB low.toNat).length + (numB l.length).length + (flB l).length, 0) := by unfold frA; rw [hN]; exact n5
  have hLow : frLow b p 0 = low := by unfold frLow; rw [n3]; exact Int.toNat_of_nonneg hw.low.1
  have hC : frC b p 0 = 0 := by unfold frC; rw [hA, hLow, if_pos rfl]; exact hf
  have hF : frF b p 0 = (low, l) := by unfold frF; rw [hC, hA, hLow, if_neg (by simp)]
  have hE : getE17 b = 0 := by unfold getE17; rw [n2, n1]; simp only []; rw [hC, if_neg (fun h => by omega)]
  have hX : getX17 b = 0 := by
    unfold getX17; rw [hE, n2]; simp only []; rw [hA]
    unfold endR; rw [if_neg (fun h => by have := h.2; simp only [] at this; omega)]
  refine ⟨hX, ?_⟩
  unfold getRec
  rw [hX, if_neg (by simp), n1, n2]
  simp only []
  rw [hF]
  have e1 : ((e.toNat : Nat) : Int) = e := Int.toNat_of_nonneg (by omega)
  have e2 : decide (c = 1) = cl := by rw [← hcc]; cases cl <;> rfl
  rw [e1, e2]
theorem rec_len (x : Rec) (h64 : ∀ p ∈ x.l, p.1 < 2 ^ 64) (hx : recC x = 0) : (recB x).length ≤ 233 := by
  obtain ⟨hr, hf⟩ := rec_range hx
  have hw := flW_of hf h64
  have h1 := flB_len (l := x.l) fun p q => (hw.at_ p q).2
  have h2 := numB_len (n := x.e.toNat) (by omega)
  have h3 := numB_len (n := x.low.toNat) (by have := hw.low; omega)
  have h4 := numB_len (n := x.l.length) (by have := hw.len; omega)
  have h5 := numB_len (n := if x.cl then 1 else 0) (by split <;> omega)
  have h6 := hw.len
  have h7 : (recB x).length = (numB x.e.toNat).length + (numB (if x.cl then 1 else 0)).length + (numB x.low.toNat).length + (numB x.l.length).length + (flB x.l).length := by simp [recB, flPut, numsB]; omega
  omega
end Go.Proofs.YtlmahffjidgplaaGreatDoor
end

section
namespace Go.Proofs.YtlmahffjidgplaaGreatDoor
open Go Go.Av
set_option linter.unusedVariables false
set_option linter.unusedSimpArgs false
set_option maxRecDepth 100000
set_option maxHeartbeats 4000000
attribute [local go_sem] packed List.set_cons_zero List.set_cons_succ List.cons_append List.nil_append bytesRows_length cellRows_len chRows_len rCells intRows_len
attribute [-go_sem] cellsOf AV.isCell
attribute [local go_sem] cellsOf_agg cellsOf_int cellsOf_bool cellsOf_str cellsOf_map cellsOf_ptr cellsOf_nilI cellsOf_slice cellsOf_sl cellsOf_ifc cellsOf_fp cellsOf_opt optAV_cell icell_int icell_bool icell_str icell_map icell_ptr icell_nilI icell_slice icell_sl icell_ifc icell_fp

attribute [local go_sem] lgAV tAV wAV lgCells
def x0 : Rec := ⟨2, true, 3, [(4, 9)]⟩
theorem x0_ok : recC x0 = 0 := by decide
theorem x0_64 : ∀ p ∈ x0.l, p.1 < 2 ^ 64 := by decide
theorem lgTo_neg : lgTo (-1) = 0 := rfl
attribute [local go_sem] recAV x0 zRec flRows List.map_cons List.map_nil Int.cast_ofNat_Int
theorem works17_ok : ACalls Tryz.prog 11 [] [GL] (Ret (.c (.bool true))) := by
  have hbl := rec_len x0 x0_64 x0_ok
  obtain ⟨hbx, hbr⟩ := rec_back x0 x0_64 x0_ok
  have hpu := recput_ok x0 x0_64
  have hO : recO x0 = recB x0 := by unfold recO; rw [if_pos x0_ok]
  rw [hO, x0_ok] at hpu
  have hgt := recget_ok (recB x0) (by omega)
  rw [hbx, hbr] at hgt
  obtain ⟨q1, q2, q3⟩ : tfirmC (newFl 3) 1 1 4 (recB x0) = 0 ∧ tputN (newFl 3) 1 1 4 (recB x0) = 2 ∧ tfirmS (newFl 3) 1 1 4 (recB x0) = ⟨3, [(1, putB 1 4 (recB x0))], [], -1, false, 2⟩ := firm_new (p := 3) (at_ := 1) (kd := 4) (a := recB x0) (by decide) (by decide) (by decide) hbl
  have hB0 := newFl_B (p := 3) (by decide) (by decide)
  have hsv : ∀ l t f D, OwnF f (newFl 3) D → l ≠ t → _ := fun l t f D hO hlt => lsave_ok l t f 1 1 (-1) zRec x0 (newFl 3) D hO (hB0.wf (by decide)) ((tputS_B hB0 _ _ _ _).wf (by decide)) (by decide) (by decide) (by omega) x0_64 x0_ok (by decide) hlt
  rw [lgTo_neg, show (1 : Int) + 0 = 1 from rfl, q1, q2, q3] at hsv
  generalize recB x0 = bb at *
  refine calls_of_J cl_11 Tryz.func11 rfl (by simp [Tryz.ntmps11]) ?_
  refine jr (own := []) (h := ?_)
  refine jcs (Δ1 := [GL]) (Fr := []) (hs := begin_ok) (hp := (List.Perm.refl _)) (hk := ?_) (hpan := (by rintro x Δ' ⟨f, t, l, D, e, _⟩; cases e))
  rintro x _ ⟨f, t, l, D, e, hOw, rfl⟩
  cases e
  simp only [List.cons_append, List.append_nil]
  refine J_ne2 (fun hlt htl => ?_)
  refine jr (own := [1]) (h := ?_)
  refine jnv (hh := fun b1 hb1 => ?_)
  refine jr (own := []) (h := ?_)
  refine J_freeze (s := 1) (o := 0) (by simp only [go_sem]) ?_
  simp only [List.drop_zero]
  refine jn (h := ?_)
  refine jr (own := []) (h := ?_)
  refine jcs (Δ1 := [_]) (Fr := _ :: GL :: D) (hs := (last_ok l t 1 (-1) zRec (by decide))) (hp := (List.Perm.refl _)) (hk := ?_) (hpan := (by rintro x Δ' ⟨e, _⟩; cases e))
  rintro x _ ⟨e, rfl⟩
  cases e
  simp only [List.cons_append, List.nil_append]
  refine jr (own := [3]) (h := ?_)
  refine jnv (hh := fun b3 hb3 => ?_)
  refine jr (own := [5]) (h := ?_)
  refine J_freeze (s := 3) (o := 0) (by simp only [go_sem]) ?_
  simp only [List.drop_zero]
  refine jnv (hh := fun b5 hb5 => ?_)
  refine jr (own := []) (h := ?_)
  refine J_freeze (s := 5) (o := 0) (by simp only [go_sem]) ?_
  simp only [List.drop_zero]
  refine jcs (Δ1 := ldg l t 1 (-1) zRec :: tbox t f 1 :: D) (Fr := [GL]) (hs := (hsv l t f D hOw hlt)) (hp := (.cons _ (.cons _ (List.perm_append_comm (l₁ := [_]))))) (hk := ?_) (hpan := (by rintro x Δ' ⟨e, D1, h, _⟩; cases h))
  rintro x _ ⟨e, D1, h, he, hO1, rfl⟩
  cases h
  obtain rfl := iserr_zero he
  rw [if_pos rfl]
  refine J_perm (Δ' := ldg l t 1 0 x0 :: tbox t f 2 :: GL :: D1) (.cons _ (.cons _ (List.perm_append_comm (l₂ := [_])))) ?_
  refine jr (own := []) (h := ?_)
  refine jcs (Δ1 := [_]) (Fr := _ :: GL :: D1) (hs := (last_ok l t 1 0 x0 (by decide))) (hp := (List.Perm.refl _)) (hk := ?_) (hpan := (by rintro x Δ' ⟨e, _⟩; cases e))
  rintro x _ ⟨e, rfl⟩
  cases e
  simp only [List.cons_append, List.nil_append]
  refine jr (own := [7]) (h := ?_)
  refine jnv (hh := fun b7 hb7 => ?_)
  refine jr (own := []) (h := ?_)
  refine J_freeze (s := 7) (o := 0) (by simp only [go_sem]) ?_
  simp only [List.drop_zero]
  refine J_wk (t := 44) (by simp only [go_sem] <;> rfl) (agg_le 3 rfl (nil_le_sl (s := 2))) ?_
  simp only [List.set_cons_succ, List.set_cons_zero]
  refine jcs (Δ1 := ldg l t 1 0 x0 :: tbox t f 2 :: GL :: D1) (Fr := []) (hs := (lsave_err l t f 2 1 0 x0 zRec (GL :: D1) (by intro p hp; cases hp) (by decide))) (hp := (by rw [List.append_nil]; exact List.Perm.refl _)) (hk := ?_) (hpan := (by rintro x Δ' ⟨⟨e, h, _⟩, _⟩; cases h))
  rintro x _ ⟨⟨e9, h, he9⟩, rfl⟩
  cases h
  rw [show recC zRec = 2 from by decide] at he9
  simp only [List.append_nil]
  refine jr (own := []) (h := ?_)
  refine jcs (Δ1 := tbox t f 2 :: D1) (Fr := [_, GL]) (hs := (lopen_err1 t f 2 ⟨3, [(1, putB 1 4 bb)], [], -1, false, 2⟩ D1 hO1 2 (.inr (show (3 : Int) - 2 < 2 by decide)) (show (0 : Int) ≤ 3 ∧ (3 : Int) ≤ 4096 by decide))) (hp := ((List.Perm.swap _ _ _).trans (.cons _ (List.perm_append_comm (l₁ := [_, _]))))) (hk := ?_) (hpan := (by rintro x Δ' ⟨⟨e, h, _⟩, _⟩; cases h))
  rintro x _ ⟨⟨e11, h, he11⟩, rfl⟩
  cases h
  refine jr (own := []) (h := ?_)
  refine jcs (Δ1 := []) (Fr := tbox t f 2 :: (D1 ++ [ldg l t 1 0 x0, GL])) (hs := hpu) (hp := (List.Perm.refl _)) (hk := ?_) (hpan := (by rintro x Δ' ⟨⟨e, h, _⟩, _⟩; cases h))
  rintro x _ ⟨⟨e13, h, he13⟩, rfl⟩
  cases h
  obtain rfl := iserr_zero he13
  simp only [List.nil_append]
  refine J_perm (Δ' := GL :: ldg l t 1 0 x0 :: tbox t f 2 :: D1) ?_ ?_
  · exact ((List.perm_append_comm (l₁ := tbox t f 2 :: D1) (l₂ := [ldg l t 1 0 x0, GL])).trans (List.Perm.swap _ _ _))
  refine jr (own := []) (h := ?_)
  refine jcs (Δ1 := [_]) (Fr := ldg l t 1 0 x0 :: tbox t f 2 :: D1) (hs := hgt) (hp := (List.Perm.refl _)) (hk := ?_) (hpan := (by rintro x Δ' ⟨⟨e, h, _⟩, _⟩; cases h))
  rintro x _ ⟨⟨e15, h, he15⟩, rfl⟩
  cases h
  obtain rfl := iserr_zero he15
  simp only [List.cons_append, List.nil_append]
  refine jr (own := [14]) (h := ?_)
  refine jnv (hh := fun b14 hb14 => ?_)
  refine jr (own := []) (h := ?_)
  refine J_freeze (s := 14) (o := 0) (by simp only [go_sem]) ?_
  simp only [List.drop_zero]
  refine jr (own := []) (h := ?_)
  have hsm := recsame_ok x0 x0 (by decide)
  rw [decide_eq_true rfl] at hsm
  refine jc (hs := hsm) (hk := ?_)
  refine jr (own := []) (h := ?_)
  refine jcg (hin := by simp [GL]) (hs := of_ok he9) (hk := ?_)
  refine jr (own := []) (h := ?_)
  refine jcg (hin := by simp [GL]) (hs := of_ok he11) (hk := ?_)
  refine jr (own := []) (h := ?_)
  refine jc (hs := hsm) (hk := ?_)
  refine jr (own := []) (h := ?_)
  refine J_forget ?_
  refine jret Tryz.func11 (h := ⟨rfl, rfl⟩)
end Go.Proofs.YtlmahffjidgplaaGreatDoor
end

section
namespace Go.Proofs.YtlmahffjidgplaaGreatDoor
open Go Go.Av
set_option linter.unusedVariables false
set_option linter.unusedSimpArgs false
set_option maxRecDepth 100000
set_option maxHeartbeats 4000000
attribute [local go_sem] packed List.set_cons_zero List.set_cons_succ List.cons_append List.nil_append bytesRows_length cellRows_len chRows_len rCells intRows_len
attribute [-go_sem] cellsOf AV.isCell
attribute [local go_sem] cellsOf_agg cellsOf_int cellsOf_bool cellsOf_str cellsOf_map cellsOf_ptr cellsOf_nilI cellsOf_slice cellsOf_sl cellsOf_ifc cellsOf_fp cellsOf_opt optAV_cell icell_int icell_bool icell_str icell_map icell_ptr icell_nilI icell_slice icell_sl icell_ifc icell_fp

theorem getRec_len (b : List UInt8) : (getRec b).l.length ≤ 12 := by
  have ha1 : (getC17 b).2.1 ≤ b.length := numR_at b 0 1099511627776 (Nat.zero_le _)
  have ha2 : (getK17 b).2.1 ≤ b.length := numR_at b _ 1 ha1
  have hv : (frN b (getK17 b).2.1 (getK17 b).1).2.2 ≤ 12 := numR_val b _ 12 (numR_at b _ 1099511627776 ha2)
  unfold getRec
  split
  · simp [zRec]
  · show (frF b (getK17 b).2.1 (getK17 b).1).2.length ≤ 12
    unfold frF
    split
    · simp
    · show (frA b _ _).1.length ≤ 12
      unfold frA; rw [frL_len]; exact hv
theorem records_ok (x y : Rec) (b : List UInt8) (hx : x.l.length < 2 ^ 40) (hy : y.l.length < 2 ^ 40) (hb : b.length < 2 ^ 40) (h64 : ∀ p ∈ x.l, p.1 < 2 ^ 64) : ACalls Tryz.prog 3 [recAV x, recAV y, .sl 1 (bytesRows b)] [GL] (Ret (.c (.bool true))) := by
  have hfx := flRows_len x.l
  have hfy := flRows_len y.l
  have hpu := recput_ok x h64
  have hpu17 := recput17_ok x h64
  have hs1 := recsame_ok x y (by omega)
  have hs2 := recsame17_ok x y (by omega)
  have hs3 := recsame17_ok x x (by omega)
  rw [decide_eq_true rfl] at hs3
  have hback := rec_back x h64
  have hblen := rec_len x h64
  have hO : recO x = if recC x = 0 then recB x else [] := rfl
  obtain ⟨e, cl, low, l⟩ := x
  obtain ⟨e', cl', low', l'⟩ := y
  simp only at hx hy hfx hfy
  generalize recC ⟨e, cl, low, l⟩ = C at *
  generalize recB ⟨e, cl, low, l⟩ = B at *
  generalize recO ⟨e, cl, low, l⟩ = O at *
  generalize hBB : decide ((⟨e, cl, low, l⟩ : Rec) = ⟨e', cl', low', l'⟩) = BB at *
  refine calls_of_J cl_3 Tryz.func3 rfl (by simp [Tryz.ntmps3]) ?_
  by_cases h1 : 100 < l.length
  · have hd1 : decide ((100 : Int) < (l.length : Int)) = true := decide_eq_true (by omega)
    refine jf (own := []) (a2 hfx hd1) (h := ?_)
    refine jt (h := ?_)
    refine jr (own := []) (h := ?_)
    refine jcs (Δ1 := [GL]) (Fr := []) (hs := works17_ok) (hp := (List.Perm.refl _)) (hk := ?_) (hpan := (by rintro x Δ' ⟨e, _⟩; cases e))
    rintro x _ ⟨h, rfl⟩
    cases h
    refine jr (own := []) (h := ?_)
    refine jret Tryz.func3 (h := ⟨rfl, rfl⟩)
  have hd1 : decide ((100 : Int) < (l.length : Int)) = false := decide_eq_false (by omega)
  by_cases h2 : 100 < l'.length
  · have hd2 : decide ((100 : Int) < (l'.length : Int)) = true := decide_eq_true (by omega)
    refine jf (own := []) (a4 hfx hd1 hfy hd2) (h := ?_)
    refine jt (h := ?_)
    refine jr (own := []) (h := ?_)
    refine jcs (Δ1 := [GL]) (Fr := []) (hs := works17_ok) (hp := (List.Perm.refl _)) (hk := ?_) (hpan := (by rintro x Δ' ⟨e, _⟩; cases e))
    rintro x _ ⟨h, rfl⟩
    cases h
    refine jr (own := []) (h := ?_)
    refine jret Tryz.func3 (h := ⟨rfl, rfl⟩)
  have hd2 : decide ((100 : Int) < (l'.length : Int)) = false := decide_eq_false (by omega)
  refine jf (own := []) (a4 hfx hd1 hfy hd2) (h := ?_)
  refine jif (h1 := fun h3 => ?_) (h2 := fun h3 => ?_)
  · refine jr (own := []) (h := ?_)
    refine jcs (Δ1 := [GL]) (Fr := []) (hs := works17_ok) (hp := (List.Perm.refl _)) (hk := ?_) (hpan := (by rintro x Δ' ⟨e, _⟩; cases e))
    rintro x _ ⟨h, rfl⟩
    cases h
    refine jr (own := []) (h := ?_)
    refine jret Tryz.func3 (h := ⟨rfl, rfl⟩)
  have hgl := getRec_len b
  have hg := recget_ok b (by omega)
  have hg17 := recget17_ok b (by omega)
  have hs4 := recsame17_ok (getRec b) (getRec b) (by omega)
  rw [decide_eq_true rfl] at hs4
  have hOl : O.length ≤ 233 := by
    rw [hO]; split
    · rename_i h; exact hblen h
    · simp
  have hss := same02_ok O O (by omega)
  rw [decide_eq_true rfl] at hss
  generalize getX17 b = X at *
  generalize getRec b = G at *
  obtain ⟨ge, gcl, glow, gl⟩ := G
  refine jr (own := []) (h := ?_)
  refine jcs (Δ1 := []) (Fr := [GL]) (hs := hpu) (hp := (List.Perm.refl _)) (hk := ?_) (hpan := (by rintro x Δ' ⟨⟨e, h, _⟩, _⟩; cases h))
  rintro x _ ⟨⟨er, h, he⟩, rfl⟩
  cases h
  simp only [List.nil_append]
  refine jr (own := []) (h := ?_)
  refine jc (hs := hpu17) (hk := ?_)
  refine jr (own := []) (h := ?_)
  refine jcs (Δ1 := [GL]) (Fr := []) (hs := hg) (hp := (List.Perm.refl _)) (hk := ?_) (hpan := (by rintro x Δ' ⟨⟨e, h, _⟩, _⟩; cases h))
  rintro x _ ⟨⟨er2, h, he2⟩, rfl⟩
  cases h
  simp only [List.append_nil]
  refine jr (own := [11]) (h := ?_)
  refine jnv (hh := fun b11 hb11 => ?_)
  refine jr (own := []) (h := ?_)
  refine J_freeze (s := 11) (o := 0) (by simp only [go_sem]) ?_
  simp only [List.drop_zero]
  refine jc (hs := hg17) (hk := ?_)
  refine jr (own := [13]) (h := ?_)
  refine jnv (hh := fun b13 hb13 => ?_)
  refine jr (own := []) (h := ?_)
  refine J_freeze (s := 13) (o := 0) (by simp only [go_sem]) ?_
  simp only [List.drop_zero]
  have hof := (of_ok he).globKeep (Δ := [GL]) (by simp [GL])
  have hof2 := (of_ok he2).globKeep (Δ := [GL]) (by simp [GL])
  have hcc : decide (C ≠ C) = false := decide_eq_false (fun h => h rfl)
  have hxx : decide (X ≠ X) = false := decide_eq_false (fun h => h rfl)
  cases BB
  all_goals
    refine jd [(0, .pure), (1, .pure), (2, .pure), (3, .pure), (4, .pure), (5, .pure), (6, .read), (7, .pure), (8, .pure), (9, .pure), (10, .pure), (11, .pure), (12, .pure), (13, .pure), (14, .pure), (15, .pure), (16, .pure), (17, .pure), (18, .read), (19, .pure), (20, .pure), (21, .pure), (22, .pure), (23, .pure), (24, .pure), (25, .pure), (26, .pure), (27, .pure), (28, .pure), (29, .pure), (30, .pure)] mixed (by kernel_rfl) ?_
    refine cr (own := []) (hk := ?_)
    refine ccp (hs := hss) (hk := ?_)
    refine cr (own := []) (hk := ?_)
    refine ccr (hs := hof) (hk := ?_)
    refine cf (own := []) hcc (hk := ?_)
    refine ccp (hs := hs4) (hk := ?_)
    refine cr (own := []) (hk := ?_)
    refine ccr (hs := hof2) (hk := ?_)
    refine cf (own := []) hxx (hk := ?_)
    refine ccp (hs := hs1) (hk := ?_)
    refine cr (own := []) (hk := ?_)
    refine ccp (hs := hs2) (hk := ?_)
    refine cr (own := []) (hk := ?_)
    refine Can_nil ?_
    refine jn (h := ?_)
    refine jr (own := []) (h := ?_)
    refine jif (h1 := fun hC => ?_) (h2 := fun hC => ?_)
    · refine jr (own := []) (h := ?_)
      refine jcs (Δ1 := [GL]) (Fr := []) (hs := works17_ok) (hp := (List.Perm.refl _)) (hk := ?_) (hpan := (by rintro x Δ' ⟨e, _⟩; cases e))
      rintro x _ ⟨h, rfl⟩
      cases h
      refine jr (own := []) (h := ?_)
      refine jret Tryz.func3 (h := ⟨rfl, rfl⟩)
    · have hC0 : C = 0 := Classical.not_not.1 hC
      have hOB : O = B := by rw [hO, if_pos hC0]
      obtain ⟨k1, k2⟩ := hback hC0
      have hg9 := recget_ok B (by rw [← hOB]; omega)
      rw [k1, k2, ← hOB] at hg9
      refine jr (own := []) (h := ?_)
      refine jcs (Δ1 := [GL]) (Fr := []) (hs := hg9) (hp := (List.Perm.refl _)) (hk := ?_) (hpan := (by rintro x Δ' ⟨⟨e, h, _⟩, _⟩; cases h))
      rintro x _ ⟨⟨er3, h, he3⟩, rfl⟩
      cases h
      obtain rfl := iserr_zero he3
      simp only [List.append_nil]
      refine jr (own := [15]) (h := ?_)
      refine jnv (hh := fun b15 hb15 => ?_)
      refine jr (own := []) (h := ?_)
      refine J_freeze (s := 15) (o := 0) (by simp only [go_sem]) ?_
      simp only [List.drop_zero]
      refine jc (hs := hs3) (hk := ?_)
      have hle : decide ((O.length : Int) ≤ 233) = true := decide_eq_true (by omega)
      refine jf (own := []) hle (h := ?_)
      refine jcs (Δ1 := [GL]) (Fr := []) (hs := works17_ok) (hp := (List.Perm.refl _)) (hk := ?_) (hpan := (by rintro x Δ' ⟨e, _⟩; cases e))
      rintro x _ ⟨h, rfl⟩
      cases h
      refine jr (own := []) (h := ?_)
      refine jret Tryz.func3 (h := ⟨rfl, rfl⟩)
end Go.Proofs.YtlmahffjidgplaaGreatDoor
end
