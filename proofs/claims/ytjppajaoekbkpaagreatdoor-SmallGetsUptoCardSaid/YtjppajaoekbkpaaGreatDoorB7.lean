/- A part of the proof: what the calls do, told by values. -/
import Derived.Test.YtjppajaoekbkpaaGreatDoorB6
import Derived.Test.YtjppajaoekbkpaaGreatDoorB4
import Derived.Test.YtjppajaoekbkpaaGreatDoorA8
set_option linter.unusedVariables false
set_option linter.unusedSimpArgs false
set_option maxRecDepth 100000
set_option maxHeartbeats 4000000
namespace Go.Proofs.YtjppajaoekbkpaaGreatDoor
open Go Go.Av
attribute [local go_sem] packed List.set_cons_zero List.set_cons_succ List.cons_append List.nil_append bytesRows_length cellRows_len chRows_len rCells intRows_len
attribute [-go_sem] cellsOf AV.isCell
attribute [local go_sem] cellsOf_agg cellsOf_int cellsOf_bool cellsOf_str cellsOf_map cellsOf_ptr cellsOf_nilI cellsOf_slice cellsOf_sl cellsOf_ifc cellsOf_fp cellsOf_opt optAV_cell icell_int icell_bool icell_str icell_map icell_ptr icell_nilI icell_slice icell_sl icell_ifc icell_fp
section
attribute [local go_sem] Entry.av Entry.cells
@[go_sem] theorem cellsOf_errNew (s : List UInt8) (a c : Int) : cellsOf (errNew s a c) = [errNew s a c] := by unfold errNew; split <;> rfl
@[go_sem] theorem icell_errNew (s : List UInt8) (a c : Int) : (errNew s a c).isCell = true := by unfold errNew; split <;> rfl
theorem numR_back {b : List UInt8} {at_ : Nat} {c : Int} {most : Nat} (h : at_ ≤ b.length) (hn : (numR b at_ c most).1 ≠ 0) : (numR b at_ c most).2 = (at_, 0) := by
 unfold numR at hn ⊢
 split
 · rfl
 · rename_i hc
   rw [if_neg hc] at hn
   exact (scanN_spec b at_ most _ _ _ (by omega) h).2.2.1 hn
def txtR (b : List UInt8) (at_ : Nat) (c : Int) (most : Nat) : Int × Nat × List UInt8 :=
 if (numR b at_ c most).1 ≠ 0 then ((numR b at_ c most).1, at_, [])
 else if b.length < (numR b at_ c most).2.1 + (numR b at_ c most).2.2 then (6, at_, [])
 else (0, (numR b at_ c most).2.1 + (numR b at_ c most).2.2, (b.drop (numR b at_ c most).2.1).take (numR b at_ c most).2.2)
theorem txtR_at (b : List UInt8) {at_ : Nat} (c : Int) (most : Nat) (h : at_ ≤ b.length) : (txtR b at_ c most).2.1 ≤ b.length := by
 unfold txtR
 split
 · exact h
 · split
   · exact h
   · simp only; omega
theorem drop_take_nat (b : List UInt8) (p n : Nat) : (b.take ((p : Int) + (n : Int)).toNat).drop p = (b.drop p).take n := by
 rw [show ((p : Int) + (n : Int)).toNat = p + n from by omega, List.drop_take, Nat.add_sub_cancel_left]
theorem rbytes_ok (a : Nat) (b : List UInt8) (at_ : Nat) (c : Int) (most : Nat) (h : at_ ≤ b.length) (hb : b.length < 2 ^ 36) (hm : most ≤ 1099511627776) :
   ACalls Tryz.prog 234 [.c (.pointer (some ⟨a, 0, none⟩)), .c (.int .i64 most)] [rdr a b at_ c]
   (fun r Δ => r = .ret (.sl 1 (bytesRows (txtR b at_ c most).2.2)) ∧ Δ = [rdr a b (txtR b at_ c most).2.1 (txtR b at_ c most).1]) := by
 have hn := rnum_ok a b at_ c most h (by omega) hm
 have hat := numR_at b c most h
 have hval := numR_val b c most h
 have hbk := numR_back (b := b) (at_ := at_) (c := c) (most := most) h
 have hx : txtR b at_ c most = if (numR b at_ c most).1 ≠ 0 then ((numR b at_ c most).1, at_, []) else if b.length < (numR b at_ c most).2.1 + (numR b at_ c most).2.2 then (6, at_, []) else (0, (numR b at_ c most).2.1 + (numR b at_ c most).2.2, (b.drop (numR b at_ c most).2.1).take (numR b at_ c most).2.2) := rfl
 rw [hx]
 generalize numR b at_ c most = R at *
 obtain ⟨c1, p, n⟩ := R
 simp only at *
 have hfl := flatB_len b
 refine calls_of_J cl_234 Tryz.func234 rfl (by simp [Tryz.ntmps234]) ?_
 refine jr (h := ?_)
 refine jcs (Δ1 := [_]) (Fr := []) (hs := hn) (hp := (List.Perm.refl _)) (hk := ?_) (hpan := (by rintro x Δ' ⟨e, _⟩; cases e))
 rintro x _ ⟨e, rfl⟩
 cases e
 simp only [List.append_nil]
 refine jr (h := ?_)
 refine jif (h1 := fun hc => ?_) (h2 := fun hc => ?_)
 · rw [if_pos hc]
   obtain ⟨rfl, rfl⟩ := Prod.mk.inj (hbk hc)
   refine jr (h := ?_)
   refine J_wk (t := 4) (by simp only [go_sem]) nil_bytes ?_
   refine jret Tryz.func234 (h := ⟨rfl, rfl⟩)
 · rw [if_neg hc]
   have hc0 : c1 = 0 := Classical.not_not.1 hc
   subst hc0
   refine jr (h := ?_)
   refine jcr (hs := left_ok a b p 0 ⟨by omega, by omega⟩ (by omega)) (hk := ?_)
   refine jr (h := ?_)
   refine jif (h1 := fun hl => ?_) (h2 := fun hl => ?_)
   · rw [if_pos (by omega)]
     refine jr (h := ?_)
     refine jcs (Δ1 := [_]) (Fr := []) (hs := (rfail_ok a b at_ 0 6)) (hp := (List.Perm.refl _)) (hk := ?_) (hpan := (by rintro x Δ' ⟨e, _⟩; cases e))
     rintro x _ ⟨e, rfl⟩
     cases e
     simp only [List.append_nil, if_true]
     refine jr (h := ?_)
     refine J_wk (t := 4) (by simp only [go_sem]) nil_bytes ?_
     refine jret Tryz.func234 (h := ⟨rfl, rfl⟩)
   · rw [if_neg (by omega)]
     have hbr := bytesRows_length b
     refine jr (h := ?_)
     refine jd [(0, .pure), (1, .pure), (2, .pure), (3, .pure), (4, .read), (5, .pure), (6, .pure), (7, .pure), (8, .read), (9, .pure), (10, .pure), (11, .pure), (12, .read), (13, .pure), (14, .pure), (15, .pure), (16, .act), (17, .pure)] mixed (by kernel_rfl) ?_
     refine cf hbr (hk := ?_)
     refine cbi (hb := append0_bi (by simp only [go_sem, ↓reduceIte, Int.reduceLT, Int.reduceLE, Int.reduceToNat, Int.reducePow, Int.reduceNeg, Nat.reduceBEq] <;> with_reducible rfl) (by simp only [go_sem, srcOf] <;> rfl) bytes_cell (by rw [List.length_drop, List.length_take]; omega)) (hk := ?_)
     rintro _ D ⟨v, D9, rfl, rfl, how⟩
     refine cr (hk := ?_)
     refine Can_nil ?_
     have hX := drop_take_nat b p n
     rw [hX] at how
     refine jr (h := ?_)
     refine J_freezeB (Fr := [_]) (b := (b.drop p).take n) how (by rw [List.length_take]; unfold maxRows; omega) ?_
     refine J_is (t := 4) (by simp only [go_sem]) (List.mem_cons_self ..) (J_drop ?_)
     refine jret Tryz.func234 (h := ⟨rfl, by simp only [Int.natCast_add]⟩)
theorem text02_ok (b : List UInt8) (at_ : Nat) (c : Int) (most : Nat) (h : at_ ≤ b.length) (hb : b.length < 2 ^ 36) (hm : most ≤ 1099511627776) :
   ACalls Tryz.prog 220 [rdV b at_ c, .c (.int .i64 most)] [] (Ret (.tup [rdV b (txtR b at_ c most).2.1 (txtR b at_ c most).1, .sl 1 (bytesRows (txtR b at_ c most).2.2)])) := by
 have hn := num02R_ok b at_ c most h (by omega) hm
 have hat := numR_at b c most h
 have hval := numR_val b c most h
 have hbk := numR_back (b := b) (at_ := at_) (c := c) (most := most) h
 have hx : txtR b at_ c most = if (numR b at_ c most).1 ≠ 0 then ((numR b at_ c most).1, at_, []) else if b.length < (numR b at_ c most).2.1 + (numR b at_ c most).2.2 then (6, at_, []) else (0, (numR b at_ c most).2.1 + (numR b at_ c most).2.2, (b.drop (numR b at_ c most).2.1).take (numR b at_ c most).2.2) := rfl
 rw [hx]
 have hc00 : (numR b at_ c most).1 = 0 → c = 0 := by
   unfold numR
   by_cases hc : c ≠ 0
   · rw [if_pos hc]; exact fun h => h
   · exact fun _ => Classical.not_not.1 hc
 generalize numR b at_ c most = R at *
 obtain ⟨c1, p, n⟩ := R
 simp only at *
 have hbr := bytesRows_length b
 refine calls_of_J cl_220 Tryz.func220 rfl (by simp [Tryz.ntmps220]) ?_
 refine jr (own := [4]) (h := ?_)
 refine jnv (hh := fun b4 hb4 => ?_)
 simp only [fresh] at hb4
 refine jf hb4 (h := ?_)
 refine jc (hs := hn) (hk := ?_)
 refine jr (own := [6]) (h := ?_)
 refine jnv (hh := fun b6 hb6 => ?_)
 simp only [fresh] at hb6
 refine jf (a2 hb6 hb4) (h := ?_)
 refine jif (h1 := fun hc => ?_) (h2 := fun hc => ?_)
 · rw [if_pos hc]
   obtain ⟨rfl, rfl⟩ := Prod.mk.inj (hbk hc)
   refine jf (a2 hb6 hb4) (h := ?_)
   refine J_wk (t := 5) (by simp only [go_sem]) nil_bytes ?_
   refine J_forget ?_
   refine jretf (a2 hb6 hb4) Tryz.func220 (h := ⟨rfl, rfl⟩)
 · rw [if_neg hc]
   have hc0 : c1 = 0 := Classical.not_not.1 hc
   subst hc0
   obtain rfl := hc00 rfl
   refine jf (a3 hb6 hb4 hbr) (h := ?_)
   refine jif (h1 := fun hl => ?_) (h2 := fun hl => ?_)
   · rw [if_pos (by omega)]
     refine jf (a2 hb6 hb4) (h := ?_)
     refine jc (hs := failN_ok b at_ 6) (hk := ?_)
     refine jf (a2 hb6 hb4) (h := ?_)
     refine J_wk (t := 5) (by simp only [go_sem]) nil_bytes ?_
     refine J_forget ?_
     refine jretf (a2 hb6 hb4) Tryz.func220 (h := ⟨rfl, rfl⟩)
   · rw [if_neg (by omega)]
     have hX := drop_take_nat b p n
     refine jf (a3 hb6 hb4 hbr) (h := ?_)
     simp only [hX]
     refine J_forget ?_
     refine jretf (a2 hb6 hb4) Tryz.func220 (h := ⟨by simp only [Int.natCast_add], rfl⟩)
def chkN (c n low : Int) : Int := if c ≠ 0 then c else if n < low ∨ 1099511627776 < n then 2 else 0
theorem chk3 (k : List UInt8) (v a e : Int) (w : List UInt8) : chkN (chkN (chkN 0 v 1) a v) e 0 = if badNum ⟨k, v, a, e, w⟩ then 2 else 0 := by
 have hb : badNum ⟨k, v, a, e, w⟩ ↔ (v < 1 ∨ 1099511627776 < v) ∨ (a < v ∨ 1099511627776 < a) ∨ (e < 0 ∨ 1099511627776 < e) := by
   unfold badNum; simp only [or_assoc]
 by_cases h1 : v < 1 ∨ 1099511627776 < v
 · rw [if_pos (hb.2 (.inl h1))]; unfold chkN; simp [h1]
 · by_cases h2 : a < v ∨ 1099511627776 < a
   · rw [if_pos (hb.2 (.inr (.inl h2)))]; unfold chkN; simp [h1, h2]
   · by_cases h3 : e < 0 ∨ 1099511627776 < e
     · rw [if_pos (hb.2 (.inr (.inr h3)))]; unfold chkN; simp [h1, h2, h3]
     · rw [if_neg (fun h => by rcases hb.1 h with h | h | h; (· exact h1 h); (· exact h2 h); (· exact h3 h))]; unfold chkN; simp [h1, h2, h3]
theorem icheck1_ok (bx : Nat) (op : ByteArray) (n low : Int) {e : AV} {c : Int} (he : IsErr e c) :
   ACalls Tryz.prog 195 [.c (.string op), .c (.int .i64 n), .c (.int .i64 low), .c (.pointer (some ⟨bx, 0, none⟩))] [.box bx 27 [e]]
   (fun r Δ => ∃ e', r = .ret (.tup []) ∧ IsErr e' (chkN c n low) ∧ Δ = [.box bx 27 [e']]) := by
 refine calls_of_J cl_195 Tryz.func195 rfl (by simp [Tryz.ntmps195]) ?_
 by_cases hc : c = 0
 · subst hc
   obtain rfl := iserr_zero he
   by_cases h1 : n < low
   · have hd1 := decide_eq_true h1
     refine jf hd1 (h := ?_)
     refine jt (h := ?_)
     refine jr (h := ?_)
     refine jc (hs := newS_ok _ _ _) (hk := ?_)
     refine jr (h := ?_)
     refine J_end Tryz.func195 (xs := []) (by rfl) ⟨_, rfl, by unfold chkN; rw [if_neg (by simp), if_pos (.inl h1)]; exact errNew_is _ _ 2, rfl⟩
   · have hd1 := decide_eq_false h1
     by_cases h2 : 1099511627776 < n
     · have hd2 := decide_eq_true h2
       refine jf (a2 hd1 hd2) (h := ?_)
       refine jt (h := ?_)
       refine jr (h := ?_)
       refine jc (hs := newS_ok _ _ _) (hk := ?_)
       refine jr (h := ?_)
       refine J_end Tryz.func195 (xs := []) (by rfl) ⟨_, rfl, by unfold chkN; rw [if_neg (by simp), if_pos (.inr h2)]; exact errNew_is _ _ 2, rfl⟩
     · have hd2 := decide_eq_false h2
       refine jf (a2 hd1 hd2) (h := ?_)
       refine jn (h := ?_)
       refine jr (h := ?_)
       refine J_end Tryz.func195 (xs := []) (by rfl) ⟨_, rfl, by unfold chkN; rw [if_neg (by simp), if_neg (by omega)]; exact he, rfl⟩
 · obtain ⟨te, ve, rfl⟩ := iserr_ne he hc
   refine jr (h := ?_)
   refine jn (h := ?_)
   refine jr (h := ?_)
   refine J_end Tryz.func195 (xs := []) (by rfl) ⟨_, rfl, by unfold chkN; rw [if_pos hc]; exact he, rfl⟩
theorem icheck_ok (x : Entry) : ACalls Tryz.prog 150 [x.av] [] (fun r Δ => (∃ e, r = .ret e ∧ IsErr e (checkCode x)) ∧ Δ = []) := by
 have hk := key_ok x.key
 have hC : checkCode x = if keyCode x.key ≠ 0 then keyCode x.key else if badNum x then 2 else if 4096 < x.val.length then 3 else 0 := rfl
 rw [hC]
 clear hC
 obtain ⟨k, v, a, e, w⟩ := x
 simp only [Entry.av, Entry.cells] at *
 have hbr := bytesRows_length w
 generalize keyCode k = kc at *
 refine calls_of_J cl_150 Tryz.func150 rfl (by simp [Tryz.ntmps150]) ?_
 refine jr (h := ?_)
 refine jc (hs := hk) (hk := ?_)
 refine jr (h := ?_)
 refine jif (h1 := fun hc => ?_) (h2 := fun hc => ?_)
 · rw [if_pos hc]
   refine jr (h := ?_)
   refine jc (hs := newS_ok _ _ _) (hk := ?_)
   refine jr (h := ?_)
   refine jret Tryz.func150 (h := ⟨⟨_, rfl, errNew_is _ _ _⟩, rfl⟩)
 · rw [if_neg hc]
   refine jr (own := [4]) (h := ?_)
   refine jnv (hh := fun b4 hb4 => ?_)
   refine jr (h := ?_)
   refine jcs (Δ1 := [_]) (Fr := []) (hs := (icheck1_ok b4 _ v 1 .none)) (hp := (List.Perm.refl _)) (hk := ?_) (hpan := (by rintro x Δ' ⟨_, h, _⟩; cases h))
   rintro x _ ⟨e1, h, he1, rfl⟩
   cases h
   simp only [List.append_nil]
   refine jr (h := ?_)
   refine jcs (Δ1 := [_]) (Fr := []) (hs := (icheck1_ok b4 _ a v he1)) (hp := (List.Perm.refl _)) (hk := ?_) (hpan := (by rintro x Δ' ⟨_, h, _⟩; cases h))
   rintro x _ ⟨e2, h, he2, rfl⟩
   cases h
   simp only [List.append_nil]
   refine jr (h := ?_)
   refine jcs (Δ1 := [_]) (Fr := []) (hs := (icheck1_ok b4 _ e 0 he2)) (hp := (List.Perm.refl _)) (hk := ?_) (hpan := (by rintro x Δ' ⟨_, h, _⟩; cases h))
   rintro x _ ⟨e3, h, he3, rfl⟩
   cases h
   simp only [List.append_nil]
   rw [chk3 k v a e w] at he3
   by_cases hbn : badNum ⟨k, v, a, e, w⟩
   · rw [if_pos hbn] at he3 ⊢
     obtain ⟨te, ve, rfl⟩ := iserr_ne he3 (by decide)
     refine jr (h := ?_)
     refine jn (h := ?_)
     refine jr (h := ?_)
     refine J_forget ?_
     refine jret Tryz.func150 (h := ⟨⟨_, rfl, he3⟩, rfl⟩)
   · rw [if_neg hbn] at he3 ⊢
     obtain rfl := iserr_zero he3
     by_cases h5 : 4096 < w.length
     · have hd : decide ((4096 : Int) < (w.length : Int)) = true := decide_eq_true (by omega)
       rw [if_pos h5]
       refine jf (a2 hbr hd) (h := ?_)
       refine jt (h := ?_)
       refine jr (h := ?_)
       refine jc (hs := newS_ok _ _ _) (hk := ?_)
       refine jr (h := ?_)
       refine J_forget ?_
       refine jret Tryz.func150 (h := ⟨⟨_, rfl, errNew_is _ _ 3⟩, rfl⟩)
     · have hd : decide ((4096 : Int) < (w.length : Int)) = false := decide_eq_false (by omega)
       rw [if_neg h5]
       refine jf (a2 hbr hd) (h := ?_)
       refine jn (h := ?_)
       refine jr (h := ?_)
       refine J_forget ?_
       refine jret Tryz.func150 (h := ⟨⟨_, rfl, he3⟩, rfl⟩)
end
section
attribute [local go_sem] Entry.av Entry.cells rowsBytes_bytesRows Option.map_some
abbrev zEntAV : AV := .agg [.c (.string ⟨#[]⟩), .c (.int .i64 0), .c (.int .i64 0), .c (.int .i64 0), .c (.slice none 0 0)]
def fK (b : List UInt8) (at_ : Nat) (c : Int) : Int × Nat × List UInt8 := txtR b at_ c 40
def fV (b : List UInt8) (at_ : Nat) (c : Int) : Int × Nat × Nat := numR b (fK b at_ c).2.1 (fK b at_ c).1 1099511627776
def fA (b : List UInt8) (at_ : Nat) (c : Int) : Int × Nat × Nat := numR b (fV b at_ c).2.1 (fV b at_ c).1 1099511627776
def fE (b : List UInt8) (at_ : Nat) (c : Int) : Int × Nat × Nat := numR b (fA b at_ c).2.1 (fA b at_ c).1 1099511627776
def fW (b : List UInt8) (at_ : Nat) (c : Int) : Int × Nat × List UInt8 := txtR b (fE b at_ c).2.1 (fE b at_ c).1 4096
def fX (b : List UInt8) (at_ : Nat) (c : Int) : Entry := ⟨(fK b at_ c).2.2, (fV b at_ c).2.2, (fA b at_ c).2.2, (fE b at_ c).2.2, (fW b at_ c).2.2⟩
def fC (b : List UInt8) (at_ : Nat) (c : Int) : Int := if (fW b at_ c).1 = 0 then checkCode (fX b at_ c) else (fW b at_ c).1
def fAV (b : List UInt8) (at_ : Nat) (c : Int) : AV := if fC b at_ c ≠ 0 then zEntAV else (fX b at_ c).av
theorem fK_at {b : List UInt8} {at_ : Nat} (c : Int) (h : at_ ≤ b.length) : (fK b at_ c).2.1 ≤ b.length := txtR_at b c 40 h
theorem fV_at {b : List UInt8} {at_ : Nat} (c : Int) (h : at_ ≤ b.length) : (fV b at_ c).2.1 ≤ b.length := numR_at b _ _ (fK_at c h)
theorem fA_at {b : List UInt8} {at_ : Nat} (c : Int) (h : at_ ≤ b.length) : (fA b at_ c).2.1 ≤ b.length := numR_at b _ _ (fV_at c h)
theorem fE_at {b : List UInt8} {at_ : Nat} (c : Int) (h : at_ ≤ b.length) : (fE b at_ c).2.1 ≤ b.length := numR_at b _ _ (fA_at c h)
theorem fW_at {b : List UInt8} {at_ : Nat} (c : Int) (h : at_ ≤ b.length) : (fW b at_ c).2.1 ≤ b.length := txtR_at b _ _ (fE_at c h)
theorem from06i_ok (a : Nat) (b : List UInt8) (at_ : Nat) (c : Int) (h : at_ ≤ b.length) (hb : b.length < 2 ^ 36) :
   ACalls Tryz.prog 217 [.c (.pointer (some ⟨a, 0, none⟩))] [rdr a b at_ c, GL] (fun r Δ => r = .ret (fAV b at_ c) ∧ Δ = [rdr a b (fW b at_ c).2.1 (fC b at_ c), GL]) := by
 have h1 := rbytes_ok a b at_ c 40 h hb (by decide)
 have h2 := rnum_ok a b (fK b at_ c).2.1 (fK b at_ c).1 1099511627776 (fK_at c h) (by omega) (by decide)
 have h3 := rnum_ok a b (fV b at_ c).2.1 (fV b at_ c).1 1099511627776 (fV_at c h) (by omega) (by decide)
 have h4 := rnum_ok a b (fA b at_ c).2.1 (fA b at_ c).1 1099511627776 (fA_at c h) (by omega) (by decide)
 have h5 := rbytes_ok a b (fE b at_ c).2.1 (fE b at_ c).1 4096 (fE_at c h) hb (by decide)
 have hck := icheck_ok (fX b at_ c)
 change ACalls _ _ _ _ (fun r Δ => r = .ret (.sl 1 (bytesRows (fK b at_ c).2.2)) ∧ Δ = [rdr a b (fK b at_ c).2.1 (fK b at_ c).1]) at h1
 change ACalls _ _ _ _ (fun r Δ => r = .ret (.c (.int .i64 (fV b at_ c).2.2)) ∧ Δ = [rdr a b (fV b at_ c).2.1 (fV b at_ c).1]) at h2
 change ACalls _ _ _ _ (fun r Δ => r = .ret (.c (.int .i64 (fA b at_ c).2.2)) ∧ Δ = [rdr a b (fA b at_ c).2.1 (fA b at_ c).1]) at h3
 change ACalls _ _ _ _ (fun r Δ => r = .ret (.c (.int .i64 (fE b at_ c).2.2)) ∧ Δ = [rdr a b (fE b at_ c).2.1 (fE b at_ c).1]) at h4
 change ACalls _ _ _ _ (fun r Δ => r = .ret (.sl 1 (bytesRows (fW b at_ c).2.2)) ∧ Δ = [rdr a b (fW b at_ c).2.1 (fW b at_ c).1]) at h5
 have hAV : fAV b at_ c = if (if (fW b at_ c).1 = 0 then checkCode (fX b at_ c) else (fW b at_ c).1) ≠ 0 then zEntAV else (fX b at_ c).av := rfl
 have hC : fC b at_ c = if (fW b at_ c).1 = 0 then checkCode (fX b at_ c) else (fW b at_ c).1 := rfl
 have hX : fX b at_ c = ⟨(fK b at_ c).2.2, (fV b at_ c).2.2, (fA b at_ c).2.2, (fE b at_ c).2.2, (fW b at_ c).2.2⟩ := rfl
 rw [hAV, hC]
 generalize fW b at_ c = W at *
 generalize fE b at_ c = E at *
 generalize fA b at_ c = A at *
 generalize fV b at_ c = V at *
 generalize fK b at_ c = K at *
 rw [hX] at hck ⊢
 clear hX hAV hC
 generalize hCC : checkCode ⟨K.2.2, V.2.2, A.2.2, E.2.2, W.2.2⟩ = C at *
 obtain ⟨c1, a1, k⟩ := K
 obtain ⟨c2, p2, v⟩ := V
 obtain ⟨c3, p3, s⟩ := A
 obtain ⟨c4, p4, e⟩ := E
 obtain ⟨c5, p5, w⟩ := W
 simp only [Entry.av, Entry.cells, Int.cast_ofNat_Int] at *
 refine calls_of_J cl_217 Tryz.func217 rfl (by simp [Tryz.ntmps217]) ?_
 refine jr (own := [2]) (h := ?_)
 refine jnv (hh := fun b2 hb2 => ?_)
 simp only [fresh] at hb2
 refine jf hb2 (h := ?_)
 refine jcs (Δ1 := [_]) (Fr := [_, GL]) (hs := h1) (hp := (List.perm_middle (l₁ := [_]))) (hk := ?_) (hpan := (by rintro x Δ' ⟨e, _⟩; cases e))
 rintro x _ ⟨e, rfl⟩
 cases e
 refine J_perm (List.perm_middle (l₁ := [_])).symm ?_
 simp only [List.cons_append, List.nil_append]
 refine jf (own := [3]) hb2 (h := ?_)
 refine jnv (hh := fun b3 hb3 => ?_)
 simp only [fresh] at hb3
 refine jf (a2 hb3 hb2) (h := ?_)
 refine jcs (Δ1 := [_]) (Fr := [_, _, GL]) (hs := h2) (hp := (List.perm_middle (l₁ := [_, _]))) (hk := ?_) (hpan := (by rintro x Δ' ⟨e, _⟩; cases e))
 rintro x _ ⟨e, rfl⟩
 cases e
 refine J_perm (List.perm_middle (l₁ := [_, _])).symm ?_
 simp only [List.cons_append, List.nil_append]
 refine jf (a2 hb3 hb2) (h := ?_)
 refine jcs (Δ1 := [_]) (Fr := [_, _, GL]) (hs := h3) (hp := (List.perm_middle (l₁ := [_, _]))) (hk := ?_) (hpan := (by rintro x Δ' ⟨e, _⟩; cases e))
 rintro x _ ⟨e, rfl⟩
 cases e
 refine J_perm (List.perm_middle (l₁ := [_, _])).symm ?_
 simp only [List.cons_append, List.nil_append]
 refine jf (a2 hb3 hb2) (h := ?_)
 refine jcs (Δ1 := [_]) (Fr := [_, _, GL]) (hs := h4) (hp := (List.perm_middle (l₁ := [_, _]))) (hk := ?_) (hpan := (by rintro x Δ' ⟨e, _⟩; cases e))
 rintro x _ ⟨e, rfl⟩
 cases e
 refine J_perm (List.perm_middle (l₁ := [_, _])).symm ?_
 simp only [List.cons_append, List.nil_append]
 refine jf (a2 hb3 hb2) (h := ?_)
 refine jcs (Δ1 := [_]) (Fr := [_, _, GL]) (hs := h5) (hp := (List.perm_middle (l₁ := [_, _]))) (hk := ?_) (hpan := (by rintro x Δ' ⟨e, _⟩; cases e))
 rintro x _ ⟨e, rfl⟩
 cases e
 refine J_perm (List.perm_middle (l₁ := [_, _])).symm ?_
 simp only [List.cons_append, List.nil_append]
 refine jf (a2 hb3 hb2) (h := ?_)
 refine jcs (Δ1 := [_]) (Fr := [_, _, GL]) (hs := (rcode_ok a b p5 c5)) (hp := (List.perm_middle (l₁ := [_, _]))) (hk := ?_) (hpan := (by rintro x Δ' ⟨e, _⟩; cases e))
 rintro x _ ⟨e, rfl⟩
 cases e
 refine J_perm (List.perm_middle (l₁ := [_, _])).symm ?_
 simp only [List.cons_append, List.nil_append]
 refine jr (h := ?_)
 refine jif (h1 := fun hc => ?_) (h2 := fun hc => ?_)
 · subst hc
   rw [if_pos rfl]
   refine jf (a2 hb3 hb2) (h := ?_)
   refine jcs (Δ1 := []) (Fr := [_, _, _, GL]) (hs := hck) (hp := (List.Perm.refl _)) (hk := ?_) (hpan := (by rintro x Δ' ⟨⟨e, h, _⟩, _⟩; cases h))
   rintro x _ ⟨⟨er, h, he⟩, rfl⟩
   cases h
   simp only [List.nil_append]
   by_cases hC : C = 0
   · rw [if_neg (fun h => h hC)]
     subst hC
     obtain rfl := iserr_zero he
     refine jr (h := ?_)
     refine jn (h := ?_)
     refine jr (h := ?_)
     refine jcs (Δ1 := [_]) (Fr := [_, _, GL]) (hs := (rcode_ok a b p5 0)) (hp := (List.perm_middle (l₁ := [_, _]))) (hk := ?_) (hpan := (by rintro x Δ' ⟨e, _⟩; cases e))
     rintro x _ ⟨e, rfl⟩
     cases e
     refine J_perm (List.perm_middle (l₁ := [_, _])).symm ?_
     simp only [List.cons_append, List.nil_append]
     refine jq True.intro (h := ?_)
     refine jn (h := ?_)
     refine jf (a2 hb3 hb2) (h := ?_)
     refine J_forgetP ?_
     refine jretf (a2 hb3 hb2) Tryz.func217 (h := ⟨[_, _], _, List.Perm.refl _, rfl, rfl⟩)
   · rw [if_pos hC]
     obtain ⟨te, ve, rfl⟩ := iserr_ne he hC
     refine jr (h := ?_)
     refine jt (h := ?_)
     refine jr (h := ?_)
     refine jcg (hin := by simp [GL]) (hs := of_ok he) (hk := ?_)
     refine jr (h := ?_)
     refine jcs (Δ1 := [_]) (Fr := [_, _, GL]) (hs := (rfail_ok a b p5 0 C)) (hp := (List.perm_middle (l₁ := [_, _]))) (hk := ?_) (hpan := (by rintro x Δ' ⟨e, _⟩; cases e))
     rintro x _ ⟨e, rfl⟩
     cases e
     refine J_perm (List.perm_middle (l₁ := [_, _])).symm ?_
     simp only [List.cons_append, List.nil_append]
     try rw [if_pos rfl]
     refine jr (h := ?_)
     refine jcs (Δ1 := [_]) (Fr := [_, _, GL]) (hs := (rcode_ok a b p5 C)) (hp := (List.perm_middle (l₁ := [_, _]))) (hk := ?_) (hpan := (by rintro x Δ' ⟨e, _⟩; cases e))
     rintro x _ ⟨e, rfl⟩
     cases e
     refine J_perm (List.perm_middle (l₁ := [_, _])).symm ?_
     simp only [List.cons_append, List.nil_append]
     have hd : decide (C ≠ 0) = true := decide_eq_true hC
     refine jf hd (h := ?_)
     refine jt (h := ?_)
     refine jf (a2 hb3 hb2) (h := ?_)
     refine J_forgetP ?_
     refine jretf (a2 hb3 hb2) Tryz.func217 (h := ⟨[_, _], _, List.Perm.refl _, rfl, rfl⟩)
 · rw [if_neg hc, if_pos hc]
   refine jf (a2 hb3 hb2) (h := ?_)
   refine jcs (Δ1 := [_]) (Fr := [_, _, GL]) (hs := (rcode_ok a b p5 c5)) (hp := (List.perm_middle (l₁ := [_, _]))) (hk := ?_) (hpan := (by rintro x Δ' ⟨e, _⟩; cases e))
   rintro x _ ⟨e, rfl⟩
   cases e
   refine J_perm (List.perm_middle (l₁ := [_, _])).symm ?_
   simp only [List.cons_append, List.nil_append]
   have hd : decide (c5 ≠ 0) = true := decide_eq_true hc
   refine jf hd (h := ?_)
   refine jt (h := ?_)
   refine jf (a2 hb3 hb2) (h := ?_)
   refine J_forgetP ?_
   refine jretf (a2 hb3 hb2) Tryz.func217 (h := ⟨[_, _], _, List.Perm.refl _, rfl, rfl⟩)
theorem from06r_ok (b : List UInt8) (at_ : Nat) (c : Int) (h : at_ ≤ b.length) (hb : b.length < 2 ^ 36) :
   ACalls Tryz.prog 202 [rdV b at_ c] [] (Ret (.tup [rdV b (fW b at_ c).2.1 (fC b at_ c), fAV b at_ c])) := by
 have h1 := text02_ok b at_ c 40 h hb (by decide)
 have h2 := num02R_ok b (fK b at_ c).2.1 (fK b at_ c).1 1099511627776 (fK_at c h) (by omega) (by decide)
 have h3 := num02R_ok b (fV b at_ c).2.1 (fV b at_ c).1 1099511627776 (fV_at c h) (by omega) (by decide)
 have h4 := num02R_ok b (fA b at_ c).2.1 (fA b at_ c).1 1099511627776 (fA_at c h) (by omega) (by decide)
 have h5 := text02_ok b (fE b at_ c).2.1 (fE b at_ c).1 4096 (fE_at c h) hb (by decide)
 have hck := rcheck_ok (fX b at_ c)
 change ACalls _ _ _ _ (Ret (.tup [rdV b (fK b at_ c).2.1 (fK b at_ c).1, .sl 1 (bytesRows (fK b at_ c).2.2)])) at h1
 change ACalls _ _ _ _ (Ret (.tup [rdV b (fV b at_ c).2.1 (fV b at_ c).1, .c (.int .i64 (fV b at_ c).2.2)])) at h2
 change ACalls _ _ _ _ (Ret (.tup [rdV b (fA b at_ c).2.1 (fA b at_ c).1, .c (.int .i64 (fA b at_ c).2.2)])) at h3
 change ACalls _ _ _ _ (Ret (.tup [rdV b (fE b at_ c).2.1 (fE b at_ c).1, .c (.int .i64 (fE b at_ c).2.2)])) at h4
 change ACalls _ _ _ _ (Ret (.tup [rdV b (fW b at_ c).2.1 (fW b at_ c).1, .sl 1 (bytesRows (fW b at_ c).2.2)])) at h5
 have hAV : fAV b at_ c = if (if (fW b at_ c).1 = 0 then checkCode (fX b at_ c) else (fW b at_ c).1) ≠ 0 then zEntAV else (fX b at_ c).av := rfl
 have hC : fC b at_ c = if (fW b at_ c).1 = 0 then checkCode (fX b at_ c) else (fW b at_ c).1 := rfl
 have hX : fX b at_ c = ⟨(fK b at_ c).2.2, (fV b at_ c).2.2, (fA b at_ c).2.2, (fE b at_ c).2.2, (fW b at_ c).2.2⟩ := rfl
 rw [hAV, hC]
 generalize fW b at_ c = W at *
 generalize fE b at_ c = E at *
 generalize fA b at_ c = A at *
 generalize fV b at_ c = V at *
 generalize fK b at_ c = K at *
 rw [hX] at hck ⊢
 clear hX hAV hC
 generalize hCC : checkCode ⟨K.2.2, V.2.2, A.2.2, E.2.2, W.2.2⟩ = C at *
 obtain ⟨c1, p1, k⟩ := K
 obtain ⟨c2, p2, v⟩ := V
 obtain ⟨c3, p3, s⟩ := A
 obtain ⟨c4, p4, e⟩ := E
 obtain ⟨c5, p5, w⟩ := W
 simp only [Entry.av, Entry.cells, Int.cast_ofNat_Int] at *
 refine calls_of_J cl_202 Tryz.func202 rfl (by simp [Tryz.ntmps202]) ?_
 refine jr (own := [2]) (h := ?_)
 refine jnv (hh := fun b2 hb2 => ?_)
 simp only [fresh] at hb2
 refine jf (own := [3]) hb2 (h := ?_)
 refine jnv (hh := fun b3 hb3 => ?_)
 simp only [fresh] at hb3
 refine jf (a2 hb3 hb2) (h := ?_)
 refine jc (hs := h1) (hk := ?_)
 refine jf (own := [4]) (a2 hb3 hb2) (h := ?_)
 refine jnv (hh := fun b4 hb4 => ?_)
 simp only [fresh] at hb4
 refine jm 1 (h := ?_)
 refine J_freeze (s := 4) (o := 0) (by simp only [go_sem]) ?_
 simp only [List.drop_zero]
 refine jf (a2 hb3 hb2) (h := ?_)
 refine jc (hs := h2) (hk := ?_)
 refine jf (own := [6]) (a2 hb3 hb2) (h := ?_)
 refine jnv (hh := fun b6 hb6 => ?_)
 simp only [fresh] at hb6
 refine jm 1 (h := ?_)
 refine J_freeze (s := 6) (o := 0) (by simp only [go_sem]) ?_
 simp only [List.drop_zero]
 refine jf (a2 hb3 hb2) (h := ?_)
 refine jc (hs := h3) (hk := ?_)
 refine jf (own := [8]) (a2 hb3 hb2) (h := ?_)
 refine jnv (hh := fun b8 hb8 => ?_)
 simp only [fresh] at hb8
 refine jm 1 (h := ?_)
 refine J_freeze (s := 8) (o := 0) (by simp only [go_sem]) ?_
 simp only [List.drop_zero]
 refine jf (a2 hb3 hb2) (h := ?_)
 refine jc (hs := h4) (hk := ?_)
 refine jf (own := [10]) (a2 hb3 hb2) (h := ?_)
 refine jnv (hh := fun b10 hb10 => ?_)
 simp only [fresh] at hb10
 refine jm 1 (h := ?_)
 refine J_freeze (s := 10) (o := 0) (by simp only [go_sem]) ?_
 simp only [List.drop_zero]
 refine jf (a2 hb3 hb2) (h := ?_)
 refine jc (hs := h5) (hk := ?_)
 refine jf (own := [12]) (a2 hb3 hb2) (h := ?_)
 refine jnv (hh := fun b12 hb12 => ?_)
 simp only [fresh] at hb12
 refine jf (own := [14]) (a3 hb12 hb3 hb2) (h := ?_)
 refine jnv (hh := fun b14 hb14 => ?_)
 refine jm 1 (h := ?_)
 refine J_freeze (s := 14) (o := 0) (by simp only [go_sem]) ?_
 simp only [List.drop_zero]
 refine jf (a3 hb12 hb3 hb2) (h := ?_)
 refine jif (h1 := fun hc => ?_) (h2 := fun hc => ?_)
 · subst hc
   rw [if_pos rfl]
   refine jf (a3 hb12 hb3 hb2) (h := ?_)
   refine jc (hs := hck) (hk := ?_)
   refine jf (a3 hb12 hb3 hb2) (h := ?_)
   refine jif (h1 := fun hC => ?_) (h2 := fun hC => ?_)
   · rw [if_pos hC]
     refine jf (a3 hb12 hb3 hb2) (h := ?_)
     refine J_forget ?_
     refine jretf (a3 hb12 hb3 hb2) Tryz.func202 (h := ⟨rfl, rfl⟩)
   · rw [if_neg hC]
     refine jf (a3 hb12 hb3 hb2) (h := ?_)
     refine jd [(0, .read), (1, .pure), (2, .act), (3, .act)] mixed (by kernel_rfl) ?_
     refine cf (a3 hb12 hb3 hb2) (hk := ?_)
     refine Can_nil ?_
     refine J_forget ?_
     refine jretf (a3 hb12 hb3 hb2) Tryz.func202 (h := ⟨rfl, rfl⟩)
 · rw [if_neg hc, if_pos hc]
   refine jf (a3 hb12 hb3 hb2) (h := ?_)
   refine jif (h1 := fun hC => ?_) (h2 := fun hC => ?_)
   · refine jf (a3 hb12 hb3 hb2) (h := ?_)
     refine J_forget ?_
     refine jretf (a3 hb12 hb3 hb2) Tryz.func202 (h := ⟨rfl, rfl⟩)
   · exact absurd hc hC
end
end Go.Proofs.YtjppajaoekbkpaaGreatDoor
namespace Go.Proofs.YtjppajaoekbkpaaGreatDoor
open Go Go.Av
section
theorem getD_at {pre r : List UInt8} {x : UInt8} {p : Nat} (hp : pre.length = p) : (pre ++ x :: r).getD p 0 = x := by
 subst hp; rw [List.getD_eq_getElem?_getD, List.getElem?_append_right (Nat.le_refl _)]; simp
theorem scan_hi (most at_ : Nat) (pre : List UInt8) (hpre : pre.length = at_) : ∀ (q : Nat), q ≤ most / 128 → ∀ (rest b : List UInt8), b = pre ++ (hi7 q ++ rest) →
   scanN b at_ most (b.length - at_) at_ 0 = scanN b at_ most (b.length - (at_ + (hi7 q).length)) (at_ + (hi7 q).length) q := by
 intro q
 induction q using Nat.strongRecOn with
 | ind q ih =>
   intro hq rest b hb
   by_cases h0 : q = 0
   · subst h0; simp [hi7_zero]
   · have hsn := hi7_pos h0
     have hb' : b = pre ++ (hi7 (q / 128) ++ (UInt8.ofNat (q % 128 + 128) :: rest)) := by rw [hb, hsn]; simp
     rw [ih (q / 128) (by omega) (by omega) _ b hb']
     have hlen : (hi7 q).length = (hi7 (q / 128)).length + 1 := by rw [hsn]; simp
     have hbl : b.length = at_ + (hi7 (q / 128)).length + 1 + rest.length := by rw [hb', ← hpre]; simp; omega
     have hk : b.length - (at_ + (hi7 (q / 128)).length) = (b.length - (at_ + (hi7 q).length)) + 1 := by omega
     rw [hk]
     have hg : b.getD (at_ + (hi7 (q / 128)).length) 0 = UInt8.ofNat (q % 128 + 128) := by
       rw [hb', ← List.append_assoc]; exact getD_at (by rw [List.length_append, hpre])
     have hd : (UInt8.ofNat (q % 128 + 128)).toNat = q % 128 + 128 := by rw [UInt8.toNat_ofNat']; omega
     have hz : q / 128 = 0 → (hi7 (q / 128)).length = 0 := fun h => by rw [h, hi7_zero]; rfl
     have hz2 : q / 128 ≠ 0 → 0 < (hi7 (q / 128)).length := fun h => by rw [hi7_pos h]; simp
     simp only [scanN, hg, hd]
     rw [if_neg (fun h => by
       by_cases hq1 : q / 128 = 0
       · omega
       · have := hz2 hq1; omega), if_neg (by omega), if_pos (by omega)]
     rw [hlen]
     have e1 : q / 128 * 128 + (q % 128 + 128) % 128 = q := by omega
     rw [e1]; rfl
theorem numR_num {most at_ n : Nat} {pre rest b : List UInt8} (hpre : pre.length = at_) (hn : n ≤ most) (hb : b = pre ++ (numB n ++ rest)) : numR b at_ 0 most = (0, at_ + (numB n).length, n) := by
 unfold numR
 rw [if_neg (by simp)]
 have hb' : b = pre ++ (hi7 (n / 128) ++ (UInt8.ofNat (n % 128) :: rest)) := by rw [hb, numB]; simp
 rw [scan_hi most at_ pre hpre (n / 128) (by omega) _ b hb']
 have hbl : b.length = at_ + (hi7 (n / 128)).length + 1 + rest.length := by rw [hb', ← hpre]; simp; omega
 have hk : b.length - (at_ + (hi7 (n / 128)).length) = rest.length + 1 := by omega
 have hg : b.getD (at_ + (hi7 (n / 128)).length) 0 = UInt8.ofNat (n % 128) := by
   rw [hb', ← List.append_assoc]; exact getD_at (by rw [List.length_append, hpre])
 have hd : (UInt8.ofNat (n % 128)).toNat = n % 128 := by rw [UInt8.toNat_ofNat']; omega
 rw [hk]
 simp only [scanN, hg, hd]
 rw [if_neg (by omega), if_neg (by omega), if_neg (by omega), if_neg (by omega)]
 have e1 : n / 128 * 128 + n % 128 = n := by omega
 have e2 : (numB n).length = (hi7 (n / 128)).length + 1 := by unfold numB; simp
 rw [e1, e2]; rfl
end
section
attribute [local go_sem] packed List.set_cons_zero List.set_cons_succ List.cons_append List.nil_append bytesRows_length cellRows_len chRows_len rCells intRows_len
attribute [-go_sem] cellsOf AV.isCell
attribute [local go_sem] cellsOf_agg cellsOf_int cellsOf_bool cellsOf_str cellsOf_map cellsOf_ptr cellsOf_nilI cellsOf_slice cellsOf_sl cellsOf_ifc cellsOf_fp cellsOf_opt optAV_cell icell_int icell_bool icell_str icell_map icell_ptr icell_nilI icell_slice icell_sl icell_ifc icell_fp
attribute [local go_sem] Entry.av Entry.cells rowsBytes_bytesRows Option.map_some
theorem scanN_adv (b : List UInt8) (at_ most : Nat) : ∀ (k p n : Nat), (scanN b at_ most k p n).1 = 0 → p < (scanN b at_ most k p n).2.1
 | 0, p, n, h => by simp [scanN] at h
 | k + 1, p, n, h => by
   simp only [scanN] at h ⊢
   split
   · rename_i h1; rw [if_pos h1] at h; simp at h
   · rename_i h1; rw [if_neg h1] at h
     split
     · rename_i h2; rw [if_pos h2] at h; simp at h
     · rename_i h2; rw [if_neg h2] at h
       split
       · rename_i h3; rw [if_pos h3] at h
         have := scanN_adv b at_ most k _ _ h
         omega
       · rename_i h3; rw [if_neg h3] at h
         split
         · rename_i h4; rw [if_pos h4] at h; simp at h
         · simp
theorem numR_ok0 {b : List UInt8} {at_ : Nat} {c : Int} {most : Nat} (h : (numR b at_ c most).1 = 0) : c = 0 ∧ at_ < (numR b at_ c most).2.1 := by
 unfold numR at h ⊢
 by_cases hc : c ≠ 0
 · rw [if_pos hc] at h; exact absurd h hc
 · rw [if_neg hc] at h ⊢
   exact ⟨Classical.not_not.1 hc, scanN_adv _ _ _ _ _ _ h⟩
theorem txtR_ok0 {b : List UInt8} {at_ : Nat} {c : Int} {most : Nat} (h : (txtR b at_ c most).1 = 0) : c = 0 ∧ at_ < (txtR b at_ c most).2.1 := by
 unfold txtR at h ⊢
 by_cases h1 : (numR b at_ c most).1 ≠ 0
 · rw [if_pos h1] at h; exact absurd h h1
 · rw [if_neg h1] at h ⊢
   obtain ⟨k1, k2⟩ := numR_ok0 (Classical.not_not.1 h1)
   split
   · rename_i h2; rw [if_pos h2] at h; simp at h
   · exact ⟨k1, by simp only; omega⟩
theorem fC_zero {b : List UInt8} {at_ : Nat} {c : Int} (hc : fC b at_ c = 0) : at_ < (fW b at_ c).2.1 ∧ EntW (fX b at_ c) ∧ c = 0 := by
 unfold fC at hc
 by_cases hw : (fW b at_ c).1 = 0
 · rw [if_pos hw] at hc
   obtain ⟨e1, p1⟩ := txtR_ok0 (show (txtR b (fE b at_ c).2.1 (fE b at_ c).1 4096).1 = 0 from hw)
   obtain ⟨e2, p2⟩ := numR_ok0 (show (numR b (fA b at_ c).2.1 (fA b at_ c).1 1099511627776).1 = 0 from e1)
   obtain ⟨e3, p3⟩ := numR_ok0 (show (numR b (fV b at_ c).2.1 (fV b at_ c).1 1099511627776).1 = 0 from e2)
   obtain ⟨e4, p4⟩ := numR_ok0 (show (numR b (fK b at_ c).2.1 (fK b at_ c).1 1099511627776).1 = 0 from e3)
   obtain ⟨e5, p5⟩ := txtR_ok0 (show (txtR b at_ c 40).1 = 0 from e4)
   refine ⟨?_, (entW_iff _).1 hc, e5⟩
   have q1 : (fE b at_ c).2.1 < (fW b at_ c).2.1 := p1
   have q2 : (fA b at_ c).2.1 < (fE b at_ c).2.1 := p2
   have q3 : (fV b at_ c).2.1 < (fA b at_ c).2.1 := p3
   have q4 : (fK b at_ c).2.1 < (fV b at_ c).2.1 := p4
   have q5 : at_ < (fK b at_ c).2.1 := p5
   omega
 · rw [if_neg hw] at hc; exact absurd hc hw
theorem txt_back {most at_ : Nat} {t pre rest b : List UInt8} (hpre : pre.length = at_) (ht : t.length ≤ most) (hb : b = pre ++ (numB t.length ++ (t ++ rest))) : txtR b at_ 0 most = (0, at_ + (numB t.length).length + t.length, t) := by
 have hn := numR_num (most := most) hpre ht hb
 unfold txtR
 rw [hn]
 simp only [ne_eq, not_true_eq_false, if_false]
 have hl : b.length = at_ + ((numB t.length).length + (t.length + rest.length)) := by rw [hb, ← hpre]; simp only [List.length_append]
 rw [if_neg (by omega)]
 have hd : b.drop (at_ + (numB t.length).length) = t ++ rest := by
   rw [hb, ← List.append_assoc, List.drop_left' (by rw [List.length_append, hpre])]
 rw [hd, List.take_left' rfl]
theorem from_back {x : Entry} {at_ : Nat} {pre rest b : List UInt8} (h : EntW x) (hpre : pre.length = at_) (hb : b = pre ++ (entB x ++ rest)) :
   fC b at_ 0 = 0 ∧ (fW b at_ 0).2.1 = at_ + (entB x).length ∧ fX b at_ 0 = x := by
 have q1 := h.v1; have q2 := h.a1; have q3 := h.a2'; have q4 := h.e1; have q5 := h.e2
 have hk : fK b at_ 0 = (0, at_ + (numB x.key.length).length + x.key.length, x.key) := by
   refine txt_back (rest := numsB [x.ver.toNat, x.asof.toNat, x.ends.toNat] ++ (numB x.val.length ++ x.val) ++ rest) hpre h.k2 ?_
   rw [hb]; unfold entB; simp only [List.append_assoc]
 have hv : fV b at_ 0 = (0, at_ + (numB x.key.length).length + x.key.length + (numB x.ver.toNat).length, x.ver.toNat) := by
   unfold fV; rw [hk]
   refine numR_num (pre := pre ++ numB x.key.length ++ x.key) (rest := numB x.asof.toNat ++ (numB x.ends.toNat ++ ((numB x.val.length ++ x.val) ++ rest))) (by simp only [List.length_append, hpre]) (by omega) ?_
   rw [hb]; unfold entB numsB; simp only [List.append_assoc, List.flatMap_cons, List.flatMap_nil, List.nil_append]
 have ha : fA b at_ 0 = (0, at_ + (numB x.key.length).length + x.key.length + (numB x.ver.toNat).length + (numB x.asof.toNat).length, x.asof.toNat) := by
   unfold fA; rw [hv]
   refine numR_num (pre := pre ++ numB x.key.length ++ x.key ++ numB x.ver.toNat) (rest := numB x.ends.toNat ++ ((numB x.val.length ++ x.val) ++ rest)) (by simp only [List.length_append, hpre]) (by omega) ?_
   rw [hb]; unfold entB numsB; simp only [List.append_assoc, List.flatMap_cons, List.flatMap_nil, List.nil_append]
 have he : fE b at_ 0 = (0, at_ + (numB x.key.length).length + x.key.length + (numB x.ver.toNat).length + (numB x.asof.toNat).length + (numB x.ends.toNat).length, x.ends.toNat) := by
   unfold fE; rw [ha]
   refine numR_num (pre := pre ++ numB x.key.length ++ x.key ++ numB x.ver.toNat ++ numB x.asof.toNat) (rest := (numB x.val.length ++ x.val) ++ rest) (by simp only [List.length_append, hpre]) (by omega) ?_
   rw [hb]; unfold entB numsB; simp only [List.append_assoc, List.flatMap_cons, List.flatMap_nil, List.nil_append]
 have hw : fW b at_ 0 = (0, at_ + (numB x.key.length).length + x.key.length + (numB x.ver.toNat).length + (numB x.asof.toNat).length + (numB x.ends.toNat).length + (numB x.val.length).length + x.val.length, x.val) := by
   unfold fW; rw [he]
   refine txt_back (pre := pre ++ numB x.key.length ++ x.key ++ numB x.ver.toNat ++ numB x.asof.toNat ++ numB x.ends.toNat) (rest := rest) (by simp only [List.length_append, hpre]) h.b ?_
   rw [hb]; unfold entB numsB; simp only [List.append_assoc, List.flatMap_cons, List.flatMap_nil, List.nil_append]
 have hx : fX b at_ 0 = x := by
   unfold fX; rw [hk, hv, ha, he, hw]
   simp only [Int.toNat_of_nonneg (show 0 ≤ x.ver by omega), Int.toNat_of_nonneg (show 0 ≤ x.asof by omega), Int.toNat_of_nonneg (show 0 ≤ x.ends by omega)]
 refine ⟨by unfold fC; rw [hw, hx, if_pos rfl]; exact (entW_iff x).2 h, ?_, hx⟩
 rw [hw]
 unfold entB numsB
 simp only [List.length_append, List.flatMap_cons, List.flatMap_nil, List.length_nil]
 omega
def readA (b : List UInt8) : Nat → Nat → List Entry → Int × List Entry
 | 0, _, acc => (0, acc)
 | k + 1, at_, acc => if b.length ≤ at_ then (0, acc) else if fC b at_ 0 ≠ 0 then (fC b at_ 0, []) else readA b k (fW b at_ 0).2.1 (acc ++ [fX b at_ 0])
def readE (b : List UInt8) : Int × List Entry := readA b (b.length + 1) 0 []
theorem readA_spec (b : List UInt8) : ∀ (k at_ : Nat) (acc : List Entry), (∀ x ∈ acc, EntW x) → acc.length ≤ at_ → at_ ≤ b.length → (∀ x ∈ (readA b k at_ acc).2, EntW x) ∧ (readA b k at_ acc).2.length ≤ b.length
 | 0, at_, acc, h, h1, h2 => ⟨h, by show acc.length ≤ _; omega⟩
 | k + 1, at_, acc, h, h1, h2 => by
   unfold readA
   by_cases h3 : b.length ≤ at_
   · rw [if_pos h3]; exact ⟨h, by show acc.length ≤ _; omega⟩
   · rw [if_neg h3]
     by_cases h4 : fC b at_ 0 ≠ 0
     · rw [if_pos h4]; exact ⟨by simp, Nat.zero_le _⟩
     · rw [if_neg h4]
       obtain ⟨k1, k2, -⟩ := fC_zero (Classical.not_not.1 h4)
       refine readA_spec b k _ _ (fun x hx => ?_) (by rw [List.length_append, List.length_singleton]; omega) (fW_at 0 (by omega))
       rcases List.mem_append.1 hx with hx | hx
       · exact h x hx
       · rw [List.mem_singleton.1 hx]; exact k2
theorem readE_w (b : List UInt8) : (∀ x ∈ (readE b).2, EntW x) ∧ (readE b).2.length ≤ b.length := readA_spec b _ _ _ (by simp) (Nat.le_refl _) (Nat.zero_le _)
theorem readA_back : ∀ (l : List Entry) (b pre : List UInt8) (k at_ : Nat) (acc : List Entry), (∀ x ∈ l, EntW x) → pre.length = at_ → b = pre ++ allB l → l.length < k → readA b k at_ acc = (0, acc ++ l)
 | [], b, pre, k + 1, at_, acc, _, hp, hb, _ => by
   unfold readA
   rw [if_pos (by rw [hb, ← hp]; simp [allB])]; simp
 | x :: l, b, pre, k + 1, at_, acc, h, hp, hb, hk => by
   have hb2 : b = pre ++ (entB x ++ allB l) := by rw [hb]; simp [allB]
   obtain ⟨e1, e2, e3⟩ := from_back (h x (by simp)) hp hb2
   have hpos : 0 < (entB x).length := by
     have := (h x (by simp)).k1
     unfold entB; simp only [List.length_append]; omega
   unfold readA
   rw [if_neg (by rw [hb2, ← hp]; simp only [List.length_append]; omega), e1, if_neg (by simp), e2, e3]
   have := readA_back l b (pre ++ entB x) k (at_ + (entB x).length) (acc ++ [x]) (fun y hy => h y (by simp [hy])) (by rw [List.length_append, hp]) (by rw [hb2, List.append_assoc]) (by simp at hk; omega)
   rw [this]; simp
theorem readE_back {l : List Entry} (h : ∀ x ∈ l, EntW x) : readE (allB l) = (0, l) := by
 unfold readE
 have hl : l.length ≤ (allB l).length := by
   clear h
   induction l with
   | nil => exact Nat.zero_le _
   | cons x l ih =>
     have e : allB (x :: l) = entB x ++ allB l := by simp [allB]
     have hpos : 1 ≤ (entB x).length := by
       unfold entB numB; simp only [List.length_append, List.length_singleton]; omega
     rw [e, List.length_append, List.length_cons]; omega
 have := readA_back l (allB l) [] ((allB l).length + 1) 0 [] h rfl rfl (by omega)
 rw [this, List.nil_append]
theorem iread_ok (b : List UInt8) (hb : b.length < 2 ^ 30) : ACalls Tryz.prog 192 [.sl 1 (bytesRows b)] [GL] (fun r Δ => (∃ e, r = .ret (.tup [.sl 5 (ents (readE b).2), e]) ∧ IsErr e (readE b).1) ∧ Δ = [GL]) := by
 have hlast := (readE_w b).2
 refine calls_of_J cl_192 Tryz.func192 rfl (by simp [Tryz.ntmps192]) ?_
 refine jr (h := ?_)
 refine jcs (Δ1 := []) (Fr := [GL]) (hs := (read_ok b (by omega))) (hp := (List.Perm.refl _)) (hk := ?_) (hpan := (by rintro x Δ' ⟨a, h, _⟩; cases h))
 rintro x _ ⟨a, h, rfl⟩
 cases h
 simp only [List.cons_append, List.nil_append]
 refine jr (h := ?_)
 refine jk [4, 5] (h := ?_)
 refine J_loopI (I := fun m e D => ∃ (k at_ : Nat) (acc : List Entry) (v : Value) (Dv : List HP), at_ ≤ b.length ∧ readE b = readA b k at_ acc ∧ b.length < k + at_ ∧ m = k ∧ acc.length ≤ at_ ∧ Own 78 5 (ents acc).flatten (ents acc).length v Dv ∧ D = rdr a b (at_ : Int) 0 :: GL :: Dv ∧ e = [(4, .c (.pointer (some ⟨a, 0, none⟩))), (5, .c v)]) ?_ ?_
 · exact ⟨_, b.length + 1, 0, [], _, [], Nat.zero_le _, rfl, by omega, rfl, Nat.zero_le _, .nil none (by simp [ents]) (by simp [ents]), rfl, rfl⟩
 · rintro m e D ⟨k, at_, acc, v, Dv, hat, hre, hk, rfl, hacc, how, rfl, rfl⟩ ih
   refine jr (h := ?_)
   refine jcs (Δ1 := [_]) (Fr := GL :: Dv) (hs := (rcode_ok a b at_ 0)) (hp := (List.Perm.refl _)) (hk := ?_) (hpan := (by rintro x Δ' ⟨e, _⟩; cases e))
   rintro x _ ⟨e, rfl⟩
   cases e
   simp only [List.cons_append, List.nil_append]
   refine jq True.intro (h := ?_)
   refine jcs (Δ1 := [_]) (Fr := GL :: Dv) (hs := (left_ok a b at_ 0 ⟨by omega, by omega⟩ (by omega))) (hp := (List.Perm.refl _)) (hk := ?_) (hpan := (by rintro x Δ' ⟨e, _⟩; cases e))
   rintro x _ ⟨e, rfl⟩
   cases e
   simp only [List.cons_append, List.nil_append]
   refine jr (h := ?_)
   refine jif (h1 := fun hc => ?_) (h2 := fun hc => ?_)
   · obtain ⟨k, rfl⟩ : ∃ k', m = k' + 1 := ⟨m - 1, by omega⟩
     have hre2 := hre
     unfold readA at hre2
     rw [if_neg (by omega)] at hre2
     refine jr (h := ?_)
     refine jcs (Δ1 := [_]) (Fr := GL :: Dv) (hs := (rat_ok a b at_ 0)) (hp := (List.Perm.refl _)) (hk := ?_) (hpan := (by rintro x Δ' ⟨e, _⟩; cases e))
     rintro x _ ⟨e, rfl⟩
     cases e
     simp only [List.cons_append, List.nil_append]
     have hfr := from06i_ok a b at_ 0 hat (by omega)
     unfold fAV at hfr
     have hfz := @fC_zero b at_ 0
     have hfw := fW_at (b := b) (at_ := at_) 0 hat
     generalize hCC : fC b at_ 0 = C at *
     generalize (fW b at_ 0).2.1 = p2 at *
     generalize fX b at_ 0 = x at *
     refine jr (h := ?_)
     refine jcs (Δ1 := [_, GL]) (Fr := Dv) (hs := hfr) (hp := (List.Perm.refl _)) (hk := ?_) (hpan := (by rintro x Δ' ⟨e, _⟩; cases e))
     rintro z _ ⟨e, rfl⟩
     cases e
     simp only [List.cons_append, List.nil_append]
     by_cases hz : C = 0
     · subst hz
       rw [if_neg (by simp)] at hre2
       rw [if_neg (by simp)]
       obtain ⟨k1, k2, -⟩ := hfz rfl
       obtain ⟨xk, xv, xa, xe, xb⟩ := x
       refine jr (own := [7]) (h := ?_)
       refine jnv (hh := fun b7 hb7 => ?_)
       refine jm 1 (h := ?_)
       refine J_freeze (s := 7) (o := 0) (by simp only [go_sem]) ?_
       simp only [List.drop_zero]
       refine jr (h := ?_)
       refine jcs (Δ1 := [_]) (Fr := GL :: Dv) (hs := (rcode_ok a b p2 0)) (hp := (List.Perm.refl _)) (hk := ?_) (hpan := (by rintro x Δ' ⟨e, _⟩; cases e))
       rintro z _ ⟨e, rfl⟩
       cases e
       simp only [List.cons_append, List.nil_append]
       refine jq True.intro (h := ?_)
       refine jn (h := ?_)
       refine jr (own := [35]) (h := ?_)
       refine jap (Fr := [_, GL]) (how := how) (hp := (List.Perm.refl _)) (hsrc := (by simp only [go_sem] <;> rfl)) (hc := (by rfl)) (hmax := (by rw [ents_len]; omega)) (hk := ?_)
       rintro _ _ ⟨v', D', rfl, rfl, how'⟩
       refine jr (h := ?_)
       refine jk [4, 5] (h := ?_)
       refine ih k _ _ (by omega) ⟨k, p2, acc ++ [⟨xk, xv, xa, xe, xb⟩], v', D', hfw, hre2, by omega, rfl, by rw [List.length_append, List.length_singleton]; omega, own_snoc (by simpa [Entry.cells] using how'), rfl, rfl⟩
     · rw [if_pos hz] at hre2
       rw [if_pos hz]
       rw [hre2]
       refine jr (own := [7]) (h := ?_)
       refine jnv (hh := fun b7 hb7 => ?_)
       refine jm 1 (h := ?_)
       refine J_freeze (s := 7) (o := 0) (by simp only [go_sem]) ?_
       simp only [List.drop_zero]
       refine jr (h := ?_)
       refine jcs (Δ1 := [_]) (Fr := GL :: Dv) (hs := (rcode_ok a b p2 C)) (hp := (List.Perm.refl _)) (hk := ?_) (hpan := (by rintro x Δ' ⟨e, _⟩; cases e))
       rintro z _ ⟨e, rfl⟩
       cases e
       simp only [List.cons_append, List.nil_append]
       have hd : decide (C ≠ 0) = true := decide_eq_true hz
       refine jf hd (h := ?_)
       refine jt (h := ?_)
       obtain ⟨a7, c7, rfl⟩ := how.slice
       refine jr (h := ?_)
       refine jcs (Δ1 := [_]) (Fr := GL :: Dv) (hs := (rcode_ok a b p2 C)) (hp := (List.Perm.refl _)) (hk := ?_) (hpan := (by rintro x Δ' ⟨e, _⟩; cases e))
       rintro z _ ⟨e, rfl⟩
       cases e
       simp only [List.cons_append, List.nil_append]
       refine jr (h := ?_)
       refine jc (hs := newS_ok _ _ _) (hk := ?_)
       refine jr (h := ?_)
       refine jcs (Δ1 := []) (Fr := _ :: GL :: Dv) (hs := (wrapS_ok _ _ (errNew_is _ _ C))) (hp := (List.Perm.refl _)) (hk := ?_) (hpan := (by rintro x Δ' ⟨⟨e, h, _⟩, _⟩; cases h))
       rintro z _ ⟨⟨er, h, he⟩, rfl⟩
       cases h
       simp only [List.nil_append]
       refine jr (h := ?_)
       refine J_wk (t := 2) (by simp only [go_sem]) (nil_le_sl (s := 5)) ?_
       refine J_forgetP ?_
       refine jret Tryz.func192 (h := ⟨_ :: Dv, [GL], .cons _ (List.perm_append_comm (l₁ := [GL])), ⟨_, rfl, he⟩, rfl⟩)
   · have hre2 : readE b = (0, acc) := by
       rw [hre]
       cases m with
       | zero => rfl
       | succ k => unfold readA; rw [if_pos (by omega)]
     rw [hre2]
     refine jr (h := ?_)
     refine J_freezeS (Fr := [_, GL]) how (ents_row _) (by rw [ents_len]; unfold maxRows; omega) ?_
     refine J_is (t := 2) (by simp only [go_sem]) (List.mem_cons_self ..) (J_drop ?_)
     refine J_forgetP ?_
     refine jret Tryz.func192 (h := ⟨[_], [GL], List.Perm.refl _, ⟨_, rfl, .none⟩, rfl⟩)
end
section
attribute [local go_sem] packed List.set_cons_zero List.set_cons_succ List.cons_append List.nil_append bytesRows_length cellRows_len chRows_len rCells intRows_len
attribute [-go_sem] cellsOf AV.isCell
attribute [local go_sem] cellsOf_agg cellsOf_int cellsOf_bool cellsOf_str cellsOf_map cellsOf_ptr cellsOf_nilI cellsOf_slice cellsOf_sl cellsOf_ifc cellsOf_fp cellsOf_opt optAV_cell icell_int icell_bool icell_str icell_map icell_ptr icell_nilI icell_slice icell_sl icell_ifc icell_fp
attribute [local go_sem] Entry.av Entry.cells rowsBytes_bytesRows Option.map_some
theorem rread_ok (b : List UInt8) (hb : b.length < 2 ^ 30) : ACalls Tryz.prog 161 [.sl 1 (bytesRows b)] [] (Ret (.tup [.sl 5 (ents (readE b).2), .c (.int .i64 (readE b).1)])) := by
 have hlast := (readE_w b).2
 have hbr := bytesRows_length b
 refine calls_of_J cl_161 Tryz.func161 rfl (by simp [Tryz.ntmps161]) ?_
 refine jr (own := [4]) (h := ?_)
 refine jnv (hh := fun b4 hb4 => ?_)
 refine jm 1 (h := ?_)
 refine J_wkBox (b := b4) (t := 117) (cells := [.sl 1 (bytesRows b), .c (.int .i64 0), .c (.int .i64 0)]) (y := .sl 1 (bytesRows b)) 0 rfl (fun g v h => h) (List.Perm.refl _) ?_
 refine jr (h := ?_)
 refine jk [0, 4, 5] (h := ?_)
 refine J_loopI (I := fun m e D => ∃ (at_ : Nat) (acc : List Entry) (v : Value) (Dv : List HP), at_ ≤ b.length ∧ readE b = readA b m at_ acc ∧ b.length < m + at_ ∧ acc.length ≤ at_ ∧ Own 78 5 (ents acc).flatten (ents acc).length v Dv ∧ D = .box b4 117 [.sl 1 (bytesRows b), .c (.int .i64 (at_ : Int)), .c (.int .i64 0)] :: Dv ∧ e = [(0, .sl 1 (bytesRows b)), (4, .c (.pointer (some ⟨b4, 0, none⟩))), (5, .c v)]) ?_ ?_
 · exact ⟨b.length + 1, 0, [], _, [], Nat.zero_le _, rfl, by omega, Nat.zero_le _, .nil none (by simp [ents]) (by simp [ents]), rfl, rfl⟩
 · rintro m e D ⟨at_, acc, v, Dv, hat, hre, hk, hacc, how, rfl, rfl⟩ ih
   refine jf hbr (h := ?_)
   refine jif (h1 := fun hc => ?_) (h2 := fun hc => ?_)
   · obtain ⟨k, rfl⟩ : ∃ k', m = k' + 1 := ⟨m - 1, by omega⟩
     have hre2 := hre
     unfold readA at hre2
     rw [if_neg (by omega)] at hre2
     have hfr := from06r_ok b at_ 0 hat (by omega)
     unfold fAV at hfr
     have hfz := @fC_zero b at_ 0
     have hfw := fW_at (b := b) (at_ := at_) 0 hat
     generalize hCC : fC b at_ 0 = C at *
     generalize (fW b at_ 0).2.1 = p2 at *
     generalize fX b at_ 0 = x at *
     refine jr (h := ?_)
     refine jc (hs := hfr) (hk := ?_)
     by_cases hz : C = 0
     · subst hz
       rw [if_neg (by simp)] at hre2
       rw [if_neg (by simp)]
       obtain ⟨k1, k2, -⟩ := hfz rfl
       obtain ⟨xk, xv, xa, xe, xb⟩ := x
       refine jr (own := [6]) (h := ?_)
       refine jnv (hh := fun b6 hb6 => ?_)
       simp only [fresh] at hb6
       refine jr (own := [7]) (h := ?_)
       refine jnv (hh := fun b7 hb7 => ?_)
       simp only [fresh] at hb7
       refine jmf 2 (a2 hb7 hb6) (h := ?_)
       refine J_freeze (s := 7) (o := 0) (by simp only [go_sem]) ?_
       refine J_freeze (s := 6) (o := 0) (by simp only [go_sem]) ?_
       simp only [List.drop_zero]
       refine jq True.intro (h := ?_)
       refine jn (h := ?_)
       refine jr (own := [29]) (h := ?_)
       refine jap (Fr := [_]) (how := how) (hp := (List.Perm.refl _)) (hsrc := (by simp only [go_sem] <;> rfl)) (hc := (by rfl)) (hmax := (by rw [ents_len]; omega)) (hk := ?_)
       rintro _ _ ⟨v', D', rfl, rfl, how'⟩
       refine jr (h := ?_)
       refine jk [0, 4, 5] (h := ?_)
       refine ih k _ _ (by omega) ⟨p2, acc ++ [⟨xk, xv, xa, xe, xb⟩], v', D', hfw, hre2, by omega, by rw [List.length_append, List.length_singleton]; omega, own_snoc (by simpa [Entry.cells] using how'), rfl, rfl⟩
     · rw [if_pos hz] at hre2
       rw [if_pos hz]
       rw [hre2]
       refine jr (own := [6]) (h := ?_)
       refine jnv (hh := fun b6 hb6 => ?_)
       simp only [fresh] at hb6
       refine jr (own := [7]) (h := ?_)
       refine jnv (hh := fun b7 hb7 => ?_)
       simp only [fresh] at hb7
       refine jmf 2 (a2 hb7 hb6) (h := ?_)
       refine J_freeze (s := 7) (o := 0) (by simp only [go_sem]) ?_
       refine J_freeze (s := 6) (o := 0) (by simp only [go_sem]) ?_
       simp only [List.drop_zero]
       have hd : decide (C ≠ 0) = true := decide_eq_true hz
       refine jf hd (h := ?_)
       refine jt (h := ?_)
       refine jr (h := ?_)
       refine jd [(0, .pure), (1, .pure), (2, .pure), (3, .pure)] mixed (by kernel_rfl) ?_
       refine cr (hk := ?_)
       refine Can_nil ?_
       refine J_wk (t := 2) (by simp only [go_sem]) (nil_le_sl (s := 5)) ?_
       refine J_forgetP ?_
       refine jret Tryz.func161 (h := ⟨_ :: Dv, [], by rw [List.append_nil], rfl, rfl⟩)
   · have hre2 : readE b = (0, acc) := by
       rw [hre]
       cases m with
       | zero => rfl
       | succ k => unfold readA; rw [if_pos (by omega)]
     rw [hre2]
     refine jr (h := ?_)
     refine J_freezeS (Fr := [_]) how (ents_row _) (by rw [ents_len]; unfold maxRows; omega) ?_
     refine J_is (t := 2) (by simp only [go_sem]) (List.mem_cons_self ..) (J_drop ?_)
     refine J_forget ?_
     refine jret Tryz.func161 (h := ⟨rfl, rfl⟩)
theorem bfind1_ok (x : Entry) (k : List UInt8) : ACalls Tryz.prog 157 [x.av, .fp [.c (.string (mkStr k))]] [] (Ret (.c (.bool (decide (x.key = k))))) := by
 refine calls_of_J cl_157 Tryz.func157 rfl (by simp [Tryz.ntmps157]) ?_
 refine jr (h := ?_)
 refine jret Tryz.func157 (h := ⟨rfl, rfl⟩)
theorem indexE_ok (l : List Entry) (k : List UInt8) (hl : l.length < 2 ^ 62) : ACalls Tryz.prog 156 [.sl 5 (ents l), .fn (.func 157) [] [.fp [.c (.string (mkStr k))]]] [] (Ret (.c (.int .i64 (findI l k)))) := by
 refine calls_of_J cl_156 Tryz.func156 rfl (by simp [Tryz.ntmps156]) ?_
 refine jr (h := ?_)
 refine jk [0, 1, 7, 8] (h := ?_)
 refine J_loopI (I := fun m e D => ∃ i : Nat, i ≤ l.length ∧ m = l.length - i ∧ D = [] ∧ (∀ j (h : j < l.length), j < i → l[j].key ≠ k) ∧ e = [(0, .sl 5 (ents l)), (1, .fn (.func 157) [] [.fp [.c (.string (mkStr k))]]), (7, .c (.int .i64 l.length)), (8, .c (.int .i64 i))]) ?_ ?_
 · exact ⟨_, 0, Nat.zero_le _, rfl, rfl, by simp, by rw [ents_len]; rfl⟩
 · rintro m e D ⟨i, hi, rfl, rfl, hn, rfl⟩ ih
   refine jr (h := ?_)
   refine jif (h1 := fun hc => ?_) (h2 := fun hc => ?_)
   · have hlt : i < l.length := by omega
     have g1 := ents_get (List.getElem?_eq_getElem hlt)
     have h0 : (0 : Int) ≤ (i : Int) := by omega
     have hf := bfind1_ok l[i] k
     simp only [Entry.av, Entry.cells] at hf
     refine jf (a2 g1 ents_len) (h := ?_)
     refine jc (hs := hf) (hk := ?_)
     refine jr (h := ?_)
     refine jif (h1 := fun hd => ?_) (h2 := fun hd => ?_)
     · refine jr (h := ?_)
       refine J_retX Tryz.func156 (by simp only [go_sem, ↓reduceIte, Int.reduceLT, Int.reduceLE, Int.reduceToNat, Int.reducePow, Int.reduceNeg, Nat.reduceBEq, Tryz.f156] <;> first | with_reducible rfl | rfl) ⟨by
         have : findE l k = some i := by
           unfold findE
           rw [List.findIdx?_eq_some_iff_getElem]
           exact ⟨hlt, by simpa using hd, fun j hj => by simpa using hn j (by omega) hj⟩
         simp [findI, this], rfl⟩
     · refine jr (h := ?_)
       refine jk [0, 1, 7, 8] (h := ?_)
       refine ih _ _ _ ?_ ⟨i + 1, hlt, rfl, rfl, ?_, by simp only [Int.natCast_add, Int.cast_ofNat_Int]⟩
       · omega
       · intro j h hj
         rcases Nat.lt_succ_iff_lt_or_eq.1 hj with h1 | rfl
         · exact hn j h h1
         · exact hd
   · have hi' : i = l.length := by omega
     subst hi'
     refine jr (h := ?_)
     refine J_retX Tryz.func156 (by simp only [go_sem, ↓reduceIte, Int.reduceLT, Int.reduceLE, Int.reduceToNat, Int.reducePow, Int.reduceNeg, Nat.reduceBEq, Tryz.f156] <;> first | with_reducible rfl | rfl) ⟨by
       have : findE l k = none := by
         unfold findE
         rw [List.findIdx?_eq_none_iff]
         intro x hx
         obtain ⟨j, hj, rfl⟩ := List.mem_iff_getElem.1 hx
         simpa using hn j hj hj
       simp [findI, this], rfl⟩
theorem bfind_ok (l : List Entry) (k : List UInt8) (hl : l.length < 2 ^ 62) : ACalls Tryz.prog 99 [.sl 5 (ents l), .c (.string (mkStr k))] [] (Ret (.c (.int .i64 (findI l k)))) := by
 refine calls_of_J cl_99 Tryz.func99 rfl (by simp [Tryz.ntmps99]) ?_
 refine jr (h := ?_)
 refine jc (hs := indexE_ok l k hl) (hk := ?_)
 refine jr (h := ?_)
 refine jret Tryz.func99 (h := ⟨rfl, rfl⟩)
def uniqE (l : List Entry) : Bool := decide (l.map (·.key)).Nodup
def bktR (b : List UInt8) : Int × List Entry := if (readE b).1 ≠ 0 then ((readE b).1, []) else if uniqE (readE b).2 then (0, (readE b).2) else (13, [])
theorem findE_some {l : List Entry} {k : List UInt8} {i : Nat} (h : findE l k = some i) : ∃ h : i < l.length, l[i].key = k ∧ ∀ j (hj : j < i), l[j].key ≠ k := by
 unfold findE at h
 rw [List.findIdx?_eq_some_iff_getElem] at h
 obtain ⟨h1, h2, h3⟩ := h
 exact ⟨h1, by simpa using h2, fun j hj => by simpa using h3 j hj⟩
theorem findE_none {l : List Entry} {k : List UInt8} : findE l k = none ↔ ∀ x ∈ l, x.key ≠ k := by
 unfold findE
 rw [List.findIdx?_eq_none_iff]
 exact ⟨fun h x hx => by simpa using h x hx, fun h x hx => by simpa using h x hx⟩
theorem findI_neg {l : List Entry} {k : List UInt8} : findI l k < 0 ↔ ∀ x ∈ l, x.key ≠ k := by
 rw [← findE_none]
 unfold findI
 cases findE l k with
 | none => simp
 | some i => simp
theorem uniqE_iff (l : List Entry) : uniqE l = true ↔ ∀ i j (hi : i < l.length) (hj : j < l.length), i < j → l[i].key ≠ l[j].key := by
 unfold uniqE
 rw [decide_eq_true_eq, List.nodup_iff_pairwise_ne, List.pairwise_iff_getElem]
 simp only [List.length_map, List.getElem_map]
theorem find_take {l : List Entry} {i : Nat} (hi : i < l.length) : (0 ≤ findI (l.take i) l[i].key) ↔ ∃ j, ∃ h : j < i, l[j].key = l[i].key := by
 have h1 : (¬ findI (l.take i) l[i].key < 0) ↔ ∃ j, ∃ h : j < i, l[j].key = l[i].key := by
   rw [findI_neg]
   constructor
   · intro h
     obtain ⟨x, hx⟩ := Classical.not_forall.1 h
     obtain ⟨hx1, hx2⟩ := Classical.not_imp.1 hx
     obtain ⟨j, hj, rfl⟩ := List.mem_iff_getElem.1 hx1
     rw [List.length_take] at hj
     exact ⟨j, by omega, by rw [List.getElem_take] at hx2; exact Classical.not_not.1 hx2⟩
   · rintro ⟨j, hj, e⟩ h
     exact h l[j] (List.mem_iff_getElem.2 ⟨j, by rw [List.length_take]; omega, by rw [List.getElem_take]⟩) e
 rw [← h1]; omega
theorem find_self {l : List Entry} {i : Nat} (hi : i < l.length) : findI l l[i].key = i ↔ ∀ j, (hj : j < i) → l[j].key ≠ l[i].key := by
 unfold findI
 cases hf : findE l l[i].key with
 | none => exact absurd rfl (findE_none.1 hf l[i] (List.getElem_mem _))
 | some k =>
   obtain ⟨h1, h2, h3⟩ := findE_some hf
   constructor
   · intro e j hj
     have : ((k : Nat) : Int) = i := by simpa using e
     have : k = i := by omega
     subst this
     exact h3 j hj
   · intro h
     rcases Nat.lt_trichotomy k i with hlt | he | hgt
     · exact absurd h2 (h k hlt)
     · simp [he]
     · exact absurd rfl (h3 i hgt)
theorem bread_ok (b : List UInt8) (hb : b.length < 2 ^ 30) : ACalls Tryz.prog 148 [.sl 1 (bytesRows b)] [GL] (fun r Δ => (∃ e, r = .ret (.tup [.sl 5 (ents (bktR b).2), e]) ∧ IsErr e (bktR b).1) ∧ Δ = [GL]) := by
 have hr := iread_ok b hb
 have hl := (readE_w b).2
 have hX : bktR b = if (readE b).1 ≠ 0 then ((readE b).1, []) else if uniqE (readE b).2 then (0, (readE b).2) else (13, []) := rfl
 rw [hX]
 clear hX
 generalize readE b = R at *
 obtain ⟨c, l⟩ := R
 simp only at *
 have hbr := bytesRows_length b
 refine calls_of_J cl_148 Tryz.func148 rfl (by simp [Tryz.ntmps148]) ?_
 refine jr (h := ?_)
 refine jcs (Δ1 := [_]) (Fr := []) (hs := hr) (hp := (List.Perm.refl _)) (hk := ?_) (hpan := (by rintro x Δ' ⟨⟨e, h, _⟩, _⟩; cases h))
 rintro x _ ⟨⟨er, h, he⟩, rfl⟩
 cases h
 simp only [List.append_nil]
 by_cases hc : c = 0
 · subst hc
   obtain rfl := iserr_zero he
   rw [if_neg (by simp)]
   refine jr (h := ?_)
   refine jn (h := ?_)
   refine jr (h := ?_)
   refine jk [4, 19, 20, 21] (h := ?_)
   refine J_loopI (I := fun m e D => ∃ i : Nat, i ≤ l.length ∧ m = l.length - i ∧ D = [GL] ∧ (∀ k j (hk : k < i) (hkl : k < l.length) (hj : j < k), l[j].key ≠ l[k].key) ∧ e = [(4, .sl 5 (ents l)), (19, .sl 5 (ents l)), (20, .c (.int .i64 l.length)), (21, .c (.int .i64 i))]) ?_ ?_
   · exact ⟨_, 0, Nat.zero_le _, rfl, rfl, fun k j hk => absurd hk (Nat.not_lt_zero _), by rw [ents_len]; rfl⟩
   · rintro m e D ⟨i, hi, rfl, rfl, hn, rfl⟩ ih
     refine jr (h := ?_)
     refine jif (h1 := fun hc => ?_) (h2 := fun hc => ?_)
     · have hlt : i < l.length := by omega
       have g1 := ents_get (List.getElem?_eq_getElem hlt)
       have h0 : (0 : Int) ≤ (i : Int) := by omega
       have hf := bfind_ok (l.take i) l[i].key (by rw [List.length_take]; omega)
       have ht : (ents l).take i = ents (l.take i) := by simp [ents]
       have hft := find_take hlt
       refine jf (own := [7]) (a2 g1 ents_len) (h := ?_)
       refine jnv (hh := fun b7 hb7 => ?_)
       refine jm 2 (h := ?_)
       refine J_freeze (s := 7) (o := 0) (by simp only [go_sem]) ?_
       simp only [List.drop_zero]
       refine jr (h := ?_)
       refine jd [(0, .pure), (1, .pure), (2, .pure), (3, .pure), (4, .pure), (5, .pure), (6, .pure)] mixed (by kernel_rfl) ?_
       refine cf (a2 ents_len ht) (hk := ?_)
       refine ccp (hs := hf) (hk := ?_)
       refine cr (hk := ?_)
       refine Can_nil ?_
       refine jif (h1 := fun hd => ?_) (h2 := fun hd => ?_)
       · have hu : uniqE l = false := by
           cases hu : uniqE l with
           | false => rfl
           | true =>
             obtain ⟨j, hj, e⟩ := hft.1 hd
             exact absurd e ((uniqE_iff l).1 hu j i (by omega) hlt hj)
         rw [hu]
         simp only [Bool.false_eq_true, if_false]
         refine jr (h := ?_)
         refine jc (hs := newS_ok _ _ _) (hk := ?_)
         refine jr (h := ?_)
         refine J_wk (t := 2) (by simp only [go_sem]) (nil_le_sl (s := 5)) ?_
         refine jret Tryz.func148 (h := ⟨⟨_, rfl, errNew_is _ _ 13⟩, rfl⟩)
       · refine jr (h := ?_)
         refine jk [4, 19, 20, 21] (h := ?_)
         refine ih _ _ _ ?_ ⟨i + 1, hlt, rfl, rfl, ?_, by simp only [Int.natCast_add, Int.cast_ofNat_Int]⟩
         · omega
         · intro k j hk hkl hj e
           by_cases hki : k = i
           · subst hki; exact hd (hft.2 ⟨j, hj, e⟩)
           · exact hn k j (by omega) hkl hj e
     · have hi' : i = l.length := by omega
       subst hi'
       have hu : uniqE l = true := (uniqE_iff l).2 fun i j hi hj hij => hn j i hj hj hij
       rw [hu]
       simp only [if_true]
       refine jr (h := ?_)
       refine jret Tryz.func148 (h := ⟨⟨_, rfl, .none⟩, rfl⟩)
 · obtain ⟨te, ve, rfl⟩ := iserr_ne he hc
   rw [if_pos hc]
   refine jf hbr (h := ?_)
   refine jt (h := ?_)
   refine jf hbr (h := ?_)
   refine jcs (Δ1 := []) (Fr := [GL]) (hs := (wrapS_ok _ _ he)) (hp := (List.Perm.refl _)) (hk := ?_) (hpan := (by rintro x Δ' ⟨⟨e, h, _⟩, _⟩; cases h))
   rintro z _ ⟨⟨er2, h, he2⟩, rfl⟩
   cases h
   simp only [List.nil_append]
   refine jr (h := ?_)
   refine J_wk (t := 2) (by simp only [go_sem]) (nil_le_sl (s := 5)) ?_
   refine jret Tryz.func148 (h := ⟨⟨_, rfl, he2⟩, rfl⟩)
theorem bread12_ok (b : List UInt8) (hb : b.length < 2 ^ 30) : ACalls Tryz.prog 104 [.sl 1 (bytesRows b)] [] (Ret (.tup [.sl 5 (ents (bktR b).2), .c (.int .i64 (bktR b).1)])) := by
 have hr := rread_ok b hb
 have hl := (readE_w b).2
 have hX : bktR b = if (readE b).1 ≠ 0 then ((readE b).1, []) else if uniqE (readE b).2 then (0, (readE b).2) else (13, []) := rfl
 rw [hX]
 clear hX
 generalize readE b = R at *
 obtain ⟨c, l⟩ := R
 simp only at *
 refine calls_of_J cl_104 Tryz.func104 rfl (by simp [Tryz.ntmps104]) ?_
 refine jr (h := ?_)
 refine jc (hs := hr) (hk := ?_)
 refine jr (h := ?_)
 refine jif (h1 := fun hc => ?_) (h2 := fun hc => ?_)
 · rw [if_pos hc]
   refine jr (h := ?_)
   refine J_wk (t := 2) (by simp only [go_sem]) (nil_le_sl (s := 5)) ?_
   refine jret Tryz.func104 (h := ⟨rfl, rfl⟩)
 · rw [if_neg hc]
   have hc0 : c = 0 := Classical.not_not.1 hc
   refine jr (h := ?_)
   refine jk [4, 6] (h := ?_)
   refine J_loopI (I := fun m e D => ∃ i : Nat, i ≤ l.length ∧ m = l.length - i ∧ D = [] ∧ (∀ k j (hk : k < i) (hkl : k < l.length) (hj : j < k), l[j].key ≠ l[k].key) ∧ e = [(4, .sl 5 (ents l)), (6, .c (.int .i64 i))]) ?_ ?_
   · exact ⟨_, 0, Nat.zero_le _, rfl, rfl, fun k j hk => absurd hk (Nat.not_lt_zero _), rfl⟩
   · rintro m e D ⟨i, hi, rfl, rfl, hn, rfl⟩ ih
     refine jf ents_len (h := ?_)
     refine jif (h1 := fun hcl => ?_) (h2 := fun hcl => ?_)
     · have hlt : i < l.length := by omega
       have g1 := ents_get (List.getElem?_eq_getElem hlt)
       have h0 : (0 : Int) ≤ (i : Int) := by omega
       have hf := find_ok l l[i].key (by omega)
       have hft := find_self hlt
       refine jf (a2 g1 ents_len) (h := ?_)
       refine jc (hs := hf) (hk := ?_)
       refine jr (h := ?_)
       refine jif (h1 := fun hd => ?_) (h2 := fun hd => ?_)
       · have hu : uniqE l = false := by
           cases hu : uniqE l with
           | false => rfl
           | true => exact absurd (hft.2 fun j hj => (uniqE_iff l).1 hu j i (by omega) hlt hj) hd
         rw [hu]
         simp only [Bool.false_eq_true, if_false]
         refine jr (h := ?_)
         refine J_wk (t := 2) (by simp only [go_sem]) (nil_le_sl (s := 5)) ?_
         refine jret Tryz.func104 (h := ⟨rfl, rfl⟩)
       · have hd' := hft.1 (Classical.not_not.1 hd)
         refine jr (h := ?_)
         refine jk [4, 6] (h := ?_)
         refine ih _ _ _ ?_ ⟨i + 1, hlt, rfl, rfl, ?_, by simp only [Int.natCast_add, Int.cast_ofNat_Int]⟩
         · omega
         · intro k j hk hkl hj
           by_cases hki : k = i
           · subst hki; exact hd' j hj
           · exact hn k j (by omega) hkl hj
     · have hi' : i = l.length := by omega
       subst hi'
       have hu : uniqE l = true := (uniqE_iff l).2 fun i j hi hj hij => hn j i hj hj hij
       rw [hu]
       simp only [if_true]
       refine jr (h := ?_)
       refine jret Tryz.func104 (h := ⟨rfl, rfl⟩)
end
section
attribute [local go_sem] packed List.set_cons_zero List.set_cons_succ List.cons_append List.nil_append bytesRows_length cellRows_len chRows_len rCells intRows_len
attribute [-go_sem] cellsOf AV.isCell
attribute [local go_sem] cellsOf_agg cellsOf_int cellsOf_bool cellsOf_str cellsOf_map cellsOf_ptr cellsOf_nilI cellsOf_slice cellsOf_sl cellsOf_ifc cellsOf_fp cellsOf_opt optAV_cell icell_int icell_bool icell_str icell_map icell_ptr icell_nilI icell_slice icell_sl icell_ifc icell_fp
attribute [local go_sem] Entry.av Entry.cells rowsBytes_bytesRows Option.map_some
theorem delE_ok (rows : List (List AV)) (hs : ∀ r ∈ rows, r.length = 5) (hc : rows.flatten.all AV.isCell = true) (i : Nat) (hi : i < rows.length) (hl : rows.length < 2 ^ 30) {v : Value} {D : List HP} (how : Own 78 5 rows.flatten rows.length v D) :
   ACalls Tryz.prog 183 [.c v, .c (.int .i64 i), .c (.int .i64 (i + 1))] D (fun r Δ' => ∃ v', r = .ret (.c v') ∧ Own 78 5 (rows.eraseIdx i).flatten (rows.length - 1) v' Δ') := by
 cases how with
 | nil _ _ h => omega
 | box b cap sp hcl hsp hcap =>
 have h0 : (0 : Int) ≤ (i : Int) := by omega
 have hne : ((i : Int) = (i : Int) + 1) = False := eq_false (by omega)
 have h3 : ((i : Int) + 1).toNat = i + 1 := by omega
 have h4 : (rows.length = i) = False := eq_false (by omega)
 have h5 : (cap = i) = False := eq_false (by omega)
 obtain ⟨sp1, q1, q2⟩ := del_cells (sp := sp) hs hi
 have hlen := flat_len hs
 have hcall : ((rows.flatten ++ sp).drop ((i + 1) * 5)).take ((rows.length - (i + 1)) * 5) = (rows.drop (i + 1)).flatten := by
   rw [List.drop_append_of_le_length (by rw [hlen]; exact Nat.mul_le_mul_right _ (by omega)), flat_drop _ hs, List.take_append_of_le_length, List.take_of_length_le]
   · rw [flat_len (s := 5) (fun r hr => hs r (List.mem_of_mem_drop hr)), List.length_drop]; omega
   · rw [flat_len (s := 5) (fun r hr => hs r (List.mem_of_mem_drop hr)), List.length_drop]; omega
 have hcd : (rows.drop (i + 1)).flatten.all AV.isCell = true := by
   rw [List.all_eq_true] at hc ⊢
   intro x hx
   rw [List.mem_flatten] at hx
   obtain ⟨r, hr, hx⟩ := hx
   exact hc x (List.mem_flatten.2 ⟨r, List.mem_of_mem_drop hr, hx⟩)
 have hsrc : ∀ c, srcOf [HP.box b 78 (rows.flatten ++ sp)] 5 (.c (.slice (if cap = i + 1 then some ⟨b, 0, none⟩ else some ⟨b, (i + 1) * 5, none⟩) (rows.length - (i + 1)) c)) = some (rows.length - (i + 1), (rows.drop (i + 1)).flatten) := by
   intro c
   by_cases hcp : cap = i + 1
   · have e1 : rows.length - (i + 1) = 0 := by omega
     have e2 : rows.drop (i + 1) = [] := List.drop_of_length_le (by omega)
     simp [srcOf, getBox, hcp, e1, e2]
   · rw [if_neg hcp]
     simp only [srcOf, getBox, if_true]
     rw [if_pos (by rw [List.length_append, hlen, ← Nat.add_mul]; exact Nat.le_trans (Nat.mul_le_mul_right _ (by omega)) (Nat.le_add_right _ _)), hcall]
 have hbox : getBox [HP.box b 78 (rows.flatten ++ sp)] b = some (78, rows.flatten ++ sp) := by simp only [getBox, if_true]
 refine calls_of_J cl_183 Tryz.func183 rfl (by simp [Tryz.ntmps183]) ?_
 refine jf (a2 hne h3) (h := ?_)
 refine jn (h := ?_)
 refine jr (h := ?_)
 refine jd [(0, .pure), (1, .pure), (2, .pure), (3, .pure), (4, .pure), (5, .pure), (6, .act), (7, .pure)] mixed (by kernel_rfl) ?_
 refine cf (a2 h3 h5) (hk := ?_)
 refine cbi (hb := appendIn_bi (by simp only [go_sem, ↓reduceIte, Int.reduceLT, Int.reduceLE, Int.reduceToNat, Int.reducePow, Int.reduceNeg, Nat.reduceBEq] <;> with_reducible rfl) (hsrc _) (by omega) hbox hcd (by rw [List.length_append, hlen, Nat.zero_add]; exact Nat.le_trans (Nat.mul_le_mul_right _ (by omega)) (Nat.le_add_right _ _))) (hk := ?_)
 rintro x D' ⟨rfl, rfl⟩
 refine cr (hk := ?_)
 refine Can_nil ?_
 rw [hcall] at q2
 rw [q2]
 have hm : i + (rows.length - (i + 1)) = rows.length - 1 := by omega
 have hm1 : (cap = rows.length - 1) = False := eq_false (by omega)
 have hm2 : rows.length - (rows.length - 1) = 1 := by omega
 have hel : (rows.eraseIdx i).flatten.length = (rows.length - 1) * 5 := by
   rw [flat_len (s := 5) (fun r hr => hs r (List.mem_of_mem_eraseIdx hr)), List.length_eraseIdx_of_lt hi]
 refine jf (a3 hm hm1 hm2) (h := ?_)
 refine jbi (hb := clear_bi (by simp only [go_sem, ↓reduceIte, Int.reduceLT, Int.reduceLE, Int.reduceToNat, Int.reducePow, Int.reduceNeg, Nat.reduceBEq] <;> with_reducible rfl) (by simp only [go_sem, ↓reduceIte, Int.reduceLT, Int.reduceLE, Int.reduceToNat, Int.reducePow, Int.reduceNeg, Nat.reduceBEq] <;> with_reducible rfl) (by simp only [go_sem, ↓reduceIte, Int.reduceLT, Int.reduceLE, Int.reduceToNat, Int.reducePow, Int.reduceNeg, Nat.reduceBEq] <;> with_reducible rfl) (by rfl) (by rfl) getBox_head (by rw [List.length_append, hel, q1]; omega)) (hk := ?_)
 rintro x D' ⟨z, hz, rfl⟩
 simp only [setBox, if_true]
 obtain ⟨sp2, r1, r2⟩ := wipe_cells (z := z) (m := (rows.length - 1) * 5) (s := 5) (by rw [hz]) hel (by rw [q1]; omega)
 rw [r2]
 refine jr (h := ?_)
 refine jret Tryz.func183 (h := ⟨_, rfl, .box b cap sp2 hel (by rw [r1, q1, hsp]; omega) (by omega)⟩)
theorem ents_erase : ∀ (l : List Entry) (i : Nat), (ents l).eraseIdx i = ents (l.eraseIdx i)
 | [], _ => rfl
 | x :: l, 0 => rfl
 | x :: l, i + 1 => by
   have := ents_erase l i
   unfold ents at *
   simp only [List.map_cons, List.eraseIdx_cons_succ, this]
theorem cloneE_own (l : List Entry) (hl : l.length < 2 ^ 30) : ACalls Tryz.prog 144 [.sl 5 (ents l)] [] (fun r D => ∃ v, r = .ret (.c v) ∧ Own 78 5 (ents l).flatten (ents l).length v D) := by
 have hfl := ents_len l
 refine calls_of_J cl_144 Tryz.func144 rfl (by simp [Tryz.ntmps144]) ?_
 refine jr (own := [4]) (h := ?_)
 refine jog (ho := rfl) (hh := nil_sl_op rfl Tryz.underlying85 (by simp only [go_sem, ↓reduceIte, Int.reduceLT, Int.reduceLE, Int.reduceToNat, Int.reducePow, Int.reduceNeg, Nat.reduceBEq] <;> with_reducible rfl)) (hk := ?_)
 rintro _ _ ⟨⟨t, rfl, ht⟩, rfl⟩
 cases t with
 | true =>
   obtain rfl : l = [] := by have := ht rfl; cases l; (· rfl); (· simp [ents] at this)
   refine jr (h := ?_)
   refine jt (h := ?_)
   refine jr (h := ?_)
   refine jret Tryz.func144 (h := ⟨_, rfl, .nil none (by simp [ents]) (by simp [ents])⟩)
 | false =>
   refine jr (h := ?_)
   refine jn (h := ?_)
   refine jr (own := [7]) (h := ?_)
   refine jbi (hb := append0_bi (by simp only [go_sem, ↓reduceIte, Int.reduceLT, Int.reduceLE, Int.reduceToNat, Int.reducePow, Int.reduceNeg, Nat.reduceBEq] <;> with_reducible rfl) (by simp only [go_sem, srcOf] <;> rfl) (ents_cell l) (by rw [hfl]; omega)) (hk := ?_)
   rintro _ D ⟨v, _, rfl, rfl, how⟩
   refine jr (h := ?_)
   refine jret Tryz.func144 (h := ⟨v, rfl, how⟩)
theorem cloneE_ok (l : List Entry) (hl : l.length < 2 ^ 30) : ACalls Tryz.prog 144 [.sl 5 (ents l)] [] (Ret (.sl 5 (ents l))) :=
 (cloneE_own l hl).freezeR (ents_row l) (by rw [ents_len]; unfold maxRows; omega)
def rmE (l : List Entry) (k : List UInt8) : List Entry := match findE l k with | some i => l.eraseIdx i | none => l
theorem bremove_own (l : List Entry) (k : List UInt8) (hl : l.length < 2 ^ 30) : ACalls Tryz.prog 131 [.sl 5 (ents l), .c (.string (mkStr k))] [] (fun r D => ∃ v, r = .ret (.tup [.c v, .c (.bool (decide (0 ≤ findI l k)))]) ∧ Own 78 5 (ents (rmE l k)).flatten (ents (rmE l k)).length v D) := by
 have hfl := ents_len l
 have hfi := bfind_ok l k (by omega)
 refine calls_of_J cl_131 Tryz.func131 rfl (by simp [Tryz.ntmps131]) ?_
 refine jr (h := ?_)
 refine jcs (Δ1 := []) (Fr := []) (hs := (cloneE_own l hl)) (hp := (List.Perm.refl _)) (hk := ?_) (hpan := (by rintro x Δ' ⟨v, h, _⟩; cases h))
 rintro x D ⟨v, h, how⟩
 cases h
 rw [List.append_nil]
 refine jr (h := ?_)
 refine jcs (Δ1 := D) (Fr := []) (hs := (ACalls.lendOwn (pre := []) how hfi (by rintro r Δ' ⟨rfl, rfl⟩; exact ⟨rfl, _, rfl, .c _⟩) (ents_row _) (by rw [ents_len]; unfold maxRows; omega))) (hp := (by simp)) (hk := ?_) (hpan := (by rintro x Δ' ⟨⟨e1, _⟩, _⟩; cases e1))
 rintro x D ⟨⟨e1, -⟩, rfl⟩
 cases e1
 rw [List.append_nil]
 cases hf : findE l k with
 | none =>
   have e1 : findI l k = -1 := by unfold findI; rw [hf]
   have e2 : rmE l k = l := by unfold rmE; rw [hf]
   rw [e1, e2]
   refine jr (h := ?_)
   refine jt (h := ?_)
   refine jr (h := ?_)
   refine jret Tryz.func131 (h := ⟨v, rfl, how⟩)
 | some i =>
   have e1 : findI l k = i := by unfold findI; rw [hf]
   have e2 : rmE l k = l.eraseIdx i := by unfold rmE; rw [hf]
   have hi := (findE_some hf).1
   have hd : decide (0 ≤ (i : Int)) = true := decide_eq_true (by omega)
   have he := ents_erase l i
   have hdel := delE_ok (ents l) (ents_row l) (ents_cell l) i (by rw [hfl]; exact hi) (by rw [hfl]; exact hl) how
   rw [he] at hdel
   rw [e1, e2, hd]
   refine jr (h := ?_)
   refine jif (h1 := fun hc => absurd hc (by first | omega | simp)) (h2 := fun _ => ?_)
   refine jr (h := ?_)
   refine jcs (Δ1 := D) (Fr := []) (hs := hdel) (hp := (by simp)) (hk := ?_) (hpan := (by rintro x Δ' ⟨v, h, _⟩; cases h))
   rintro x D2 ⟨v2, h, how2⟩
   cases h
   rw [List.append_nil]
   refine jr (h := ?_)
   refine jret Tryz.func131 (h := ⟨v2, rfl, by rw [show (ents (l.eraseIdx i)).length = (ents l).length - 1 from by rw [ents_len, ents_len, List.length_eraseIdx_of_lt hi]]; exact how2⟩)
theorem rmE_len (l : List Entry) (k : List UInt8) : (rmE l k).length ≤ l.length := by
 unfold rmE
 split
 · exact List.length_eraseIdx_le _ _
 · exact Nat.le_refl _
theorem rmE_mem {l : List Entry} {k : List UInt8} {x : Entry} (h : x ∈ rmE l k) : x ∈ l := by
 unfold rmE at h
 split at h
 · exact List.mem_of_mem_eraseIdx h
 · exact h
theorem bremove_ok (l : List Entry) (k : List UInt8) (hl : l.length < 2 ^ 30) : ACalls Tryz.prog 131 [.sl 5 (ents l), .c (.string (mkStr k))] [] (Ret (.tup [.sl 5 (ents (rmE l k)), .c (.bool (decide (0 ≤ findI l k)))])) :=
 (bremove_own l k hl).freezeT (ents_row _) (by rw [ents_len]; have := rmE_len l k; unfold maxRows; omega)
end
section
attribute [local go_sem] packed List.set_cons_zero List.set_cons_succ List.cons_append List.nil_append bytesRows_length cellRows_len chRows_len rCells intRows_len
attribute [-go_sem] cellsOf AV.isCell
attribute [local go_sem] cellsOf_agg cellsOf_int cellsOf_bool cellsOf_str cellsOf_map cellsOf_ptr cellsOf_nilI cellsOf_slice cellsOf_sl cellsOf_ifc cellsOf_fp cellsOf_opt optAV_cell icell_int icell_bool icell_str icell_map icell_ptr icell_nilI icell_slice icell_sl icell_ifc icell_fp
attribute [local go_sem] Entry.av Entry.cells rowsBytes_bytesRows Option.map_some
def insK : List Entry → Nat
 | [] => 0
 | x :: l => if 233 < (allB (x :: l)).length then insK l + 1 else 0
def insE (l : List Entry) (x : Entry) : Int × List Entry × List Entry :=
 if checkCode x ≠ 0 then (checkCode x, [], []) else if 233 < (entB x).length then (3, [], [])
 else (0, (rmE l x.key ++ [x]).drop (insK (rmE l x.key ++ [x])), (rmE l x.key ++ [x]).take (insK (rmE l x.key ++ [x])))
theorem insK_step {o : List Entry} {k : Nat} (h : insK o = k + insK (o.drop k)) (hb : 233 < (allB (o.drop k)).length) : k < o.length ∧ insK o = k + 1 + insK (o.drop (k + 1)) := by
 have hk : k < o.length := by
   false_or_by_contra
   rename_i hn
   rw [List.drop_eq_nil_of_le (by omega)] at hb
   simp [allB] at hb
 refine ⟨hk, ?_⟩
 have e : o.drop k = o[k] :: o.drop (k + 1) := List.drop_eq_getElem_cons hk
 have e2 : insK (o[k] :: o.drop (k + 1)) = if 233 < (allB (o[k] :: o.drop (k + 1))).length then insK (o.drop (k + 1)) + 1 else 0 := rfl
 rw [← e, if_pos hb] at e2
 omega
theorem insK_stop {o : List Entry} {k : Nat} (h : insK o = k + insK (o.drop k)) (hb : ¬ 233 < (allB (o.drop k)).length) : insK o = k := by
 rw [h]
 cases hd : o.drop k with
 | nil => simp [insK]
 | cons x l =>
   unfold insK
   rw [if_neg (by rw [← hd]; exact hb)]
   rfl
theorem insert_ok (l : List Entry) (x : Entry) (hw : ∀ y ∈ l, EntW y) (hl : l.length < 2 ^ 18) : ACalls Tryz.prog 97 [.sl 5 (ents l), x.av] [] (fun r Δ => (∃ e, r = .ret (.tup [.sl 5 (ents (insE l x).2.1), .sl 5 (ents (insE l x).2.2), e]) ∧ IsErr e (insE l x).1) ∧ Δ = []) := by
 have hck := icheck_ok x
 have hcp := icopy_ok x
 have hE : insE l x = if checkCode x ≠ 0 then (checkCode x, [], []) else if 233 < (entB x).length then (3, [], []) else (0, (rmE l x.key ++ [x]).drop (insK (rmE l x.key ++ [x])), (rmE l x.key ++ [x]).take (insK (rmE l x.key ++ [x]))) := rfl
 rw [hE]
 clear hE
 have hw1 := entW_iff x
 have hrl := rmE_len l x.key
 have hrm : ∀ y ∈ rmE l x.key, EntW y := fun y hy => hw y (rmE_mem hy)
 have hbr := bremove_own l x.key (by omega)
 have hbs : EntW x → ACalls Tryz.prog 151 [.sl 5 (ents [x])] [] (Ret (.c (.int .i64 (allB [x]).length))) := fun h => bsize_ok [x] (by simpa using h) (by simp)
 have hbo : EntW x → ∀ k, ACalls Tryz.prog 151 [.sl 5 (ents ((rmE l x.key ++ [x]).drop k))] [] (Ret (.c (.int .i64 (allB ((rmE l x.key ++ [x]).drop k)).length))) := fun h k => bsize_ok _ (fun y hy => by
   have := List.mem_of_mem_drop hy
   rcases List.mem_append.1 this with h1 | h1
   · exact hrm y h1
   · rw [List.mem_singleton.1 h1]; exact h) (by rw [List.length_drop, List.length_append, List.length_singleton]; omega)
 have hsn : ents (rmE l x.key ++ [x]) = ents (rmE l x.key) ++ [x.cells] := by simp [ents]
 have hll : (rmE l x.key ++ [x]).length = (rmE l x.key).length + 1 := by simp
 have he1 : allB [x] = entB x := by simp [allB]
 rw [he1] at hbs
 generalize checkCode x = C at *
 generalize hO : rmE l x.key ++ [x] = o at *
 generalize entB x = eb at *
 have hfl := ents_len l
 have hdr : ∀ k, ((ents o).take o.length).drop k = ents (o.drop k) := fun k => by rw [ents_all, ents_drop]
 have htk : ∀ k, (ents o).take k = ents (o.take k) := fun k => by simp [ents]
 have hol := ents_len o
 obtain ⟨k, v, a, e, w⟩ := x
 simp only [Entry.av, Entry.cells] at *
 have hent1 : ents [⟨k, v, a, e, w⟩] = [[.c (.string (mkStr k)), .c (.int .i64 v), .c (.int .i64 a), .c (.int .i64 e), .sl 1 (bytesRows w)]] := rfl
 rw [hent1] at hbs
 refine calls_of_J cl_97 Tryz.func97 rfl (by simp [Tryz.ntmps97]) ?_
 refine jr (h := ?_)
 refine jcs (Δ1 := []) (Fr := []) (hs := hck) (hp := (List.Perm.refl _)) (hk := ?_) (hpan := (by rintro x Δ' ⟨⟨e, h, _⟩, _⟩; cases h))
 rintro z _ ⟨⟨er, h, he⟩, rfl⟩
 cases h
 simp only [List.append_nil]
 by_cases hC : C = 0
 rotate_left
 · rw [if_pos hC]
   obtain ⟨te, ve, rfl⟩ := iserr_ne he hC
   refine jr (h := ?_)
   refine jt (h := ?_)
   refine jf hfl (h := ?_)
   refine jcs (Δ1 := []) (Fr := []) (hs := (wrapS_ok _ _ he)) (hp := (List.Perm.refl _)) (hk := ?_) (hpan := (by rintro x Δ' ⟨⟨e, h, _⟩, _⟩; cases h))
   rintro z _ ⟨⟨er2, h, he2⟩, rfl⟩
   cases h
   refine jr (h := ?_)
   refine J_wk (t := 4) (by simp only [go_sem]) (nil_le_sl (s := 5)) ?_
   refine J_wk (t := 5) (by simp only [go_sem]) (nil_le_sl (s := 5)) ?_
   refine jret Tryz.func97 (h := ⟨⟨_, rfl, he2⟩, rfl⟩)
 rw [if_neg (fun h => h hC)]
 have hx := hw1.1 hC
 subst hC
 obtain rfl := iserr_zero he
 refine jr (h := ?_)
 refine jn (h := ?_)
 refine jr (h := ?_)
 refine jc (hs := (hbs hx)) (hk := ?_)
 refine jr (h := ?_)
 refine jif (h1 := fun hsz => ?_) (h2 := fun hsz => ?_)
 · rw [if_pos (by omega)]
   refine jr (h := ?_)
   refine jc (hs := newS_ok _ _ _) (hk := ?_)
   refine jr (h := ?_)
   refine J_wk (t := 4) (by simp only [go_sem]) (nil_le_sl (s := 5)) ?_
   refine J_wk (t := 5) (by simp only [go_sem]) (nil_le_sl (s := 5)) ?_
   refine jret Tryz.func97 (h := ⟨⟨_, rfl, errNew_is _ _ 3⟩, rfl⟩)
 rw [if_neg (by omega)]
 refine jr (h := ?_)
 refine jcs (Δ1 := []) (Fr := []) (hs := hbr) (hp := (List.Perm.refl _)) (hk := ?_) (hpan := (by rintro x Δ' ⟨v, h, _⟩; cases h))
 rintro z D ⟨vv, h, how⟩
 cases h
 rw [List.append_nil]
 refine jr (h := ?_)
 refine jc (hs := hcp) (hk := ?_)
 refine jr (own := [38]) (h := ?_)
 refine jap (Fr := []) (how := how) (hp := (by simp)) (hsrc := (by simp only [go_sem] <;> rfl)) (hc := (by rfl)) (hmax := (by rw [ents_len]; omega)) (hk := ?_)
 rintro _ D' ⟨v', _, rfl, rfl, how'⟩
 have how2 : Own 78 5 (ents o).flatten (ents o).length v' D' := by
   rw [hsn, List.flatten_append, List.length_append]
   simpa using how'
 refine J_freezeS (Fr := []) how2 (ents_row _) (by rw [ents_len]; unfold maxRows; omega) ?_
 refine J_is (t := 38) (by simp only [go_sem]) (List.mem_cons_self ..) (J_drop ?_)
 refine jr (h := ?_)
 refine jk [9, 11] (h := ?_)
 refine J_loopI (I := fun m e D => ∃ i : Nat, i ≤ o.length ∧ m = o.length - i ∧ D = [] ∧ insK o = i + insK (o.drop i) ∧ e = [(9, .sl 5 (ents o)), (11, .c (.int .i64 i))]) ?_ ?_
 · exact ⟨_, 0, Nat.zero_le _, rfl, rfl, by simp, rfl⟩
 · rintro m e D ⟨i, hi, rfl, rfl, hk, rfl⟩ ih
   refine jf (a2 hol hdr) (h := ?_)
   refine jc (hs := (hbo hx i)) (hk := ?_)
   refine jr (h := ?_)
   refine jif (h1 := fun hc => ?_) (h2 := fun hc => ?_)
   · obtain ⟨q1, q2⟩ := insK_step hk (by omega)
     refine jr (h := ?_)
     refine jk [9, 11] (h := ?_)
     refine ih _ _ _ ?_ ⟨i + 1, q1, rfl, rfl, q2, by simp only [Int.natCast_add, Int.cast_ofNat_Int]⟩
     omega
   · have hK := insK_stop hk (by omega)
     rw [hK]
     have htki := htk i
     refine jr (h := ?_)
     refine jd [(0, .pure), (1, .pure), (2, .pure), (3, .pure), (4, .pure), (5, .pure), (6, .pure), (7, .pure), (8, .pure), (9, .pure), (10, .pure)] mixed (by kernel_rfl) ?_
     refine cf (a3 hol hdr htki) (hk := ?_)
     refine ccp (hs := cloneE_ok (o.drop i) (by rw [List.length_drop]; omega)) (hk := ?_)
     refine cf (a3 hol hdr htki) (hk := ?_)
     refine ccp (hs := cloneE_ok (o.take i) (by rw [List.length_take]; omega)) (hk := ?_)
     refine cr (hk := ?_)
     refine Can_nil ?_
     refine jret Tryz.func97 (h := ⟨⟨_, rfl, .none⟩, rfl⟩)
theorem rm_but : ∀ {l : List Entry} (k : List UInt8), uniqE l = true → rmE l k = but l k
 | [], k, _ => rfl
 | x :: l, k, hu => by
   have hu2 : uniqE l = true := by
     unfold uniqE at *
     rw [decide_eq_true_eq] at *
     rw [List.map_cons, List.nodup_cons] at hu
     exact hu.2
   have ih := rm_but k hu2
   by_cases hk : x.key = k
   · have e1 : findE (x :: l) k = some 0 := by
       unfold findE; rw [List.findIdx?_cons]; simp [hk]
     have e2 : but l k = l := by
       unfold but
       rw [List.filter_eq_self]
       intro y hy
       unfold uniqE at hu
       rw [decide_eq_true_eq, List.map_cons, List.nodup_cons] at hu
       simp only [decide_eq_true_eq]
       rintro rfl
       exact hu.1 (List.mem_map.2 ⟨y, hy, hk.symm⟩)
     unfold rmE
     rw [e1]
     show l = but (x :: l) k
     unfold but at *
     rw [List.filter_cons_of_neg (by simp [hk])]
     exact e2.symm
   · have e1 : findE (x :: l) k = (findE l k).map (· + 1) := by
       unfold findE; rw [List.findIdx?_cons]; simp [hk]
     have e2 : but (x :: l) k = x :: but l k := by
       unfold but; rw [List.filter_cons_of_pos (by simp [hk])]
     rw [e2, ← ih]
     unfold rmE
     rw [e1]
     cases findE l k with
     | none => rfl
     | some i => rfl
theorem insert12_ok (l : List Entry) (x : Entry) (hw : ∀ y ∈ l, EntW y) (hu : uniqE l = true) (hl : l.length < 2 ^ 18) : ACalls Tryz.prog 134 [.sl 5 (ents l), x.av] [] (Ret (.tup [.sl 5 (ents (insE l x).2.1), .sl 5 (ents (insE l x).2.2), .c (.int .i64 (insE l x).1)])) := by
 have hck := rcheck_ok x
 have hE : insE l x = if checkCode x ≠ 0 then (checkCode x, [], []) else if 233 < (entB x).length then (3, [], []) else (0, (rmE l x.key ++ [x]).drop (insK (rmE l x.key ++ [x])), (rmE l x.key ++ [x]).take (insK (rmE l x.key ++ [x]))) := rfl
 rw [hE]
 clear hE
 have hw1 := entW_iff x
 have hrl := rmE_len l x.key
 have hrm : ∀ y ∈ rmE l x.key, EntW y := fun y hy => hw y (rmE_mem hy)
 have hbr := but_own l x.key (by omega)
 rw [← rm_but x.key hu] at hbr
 have hbs : EntW x → _ := fun h => rsize_ok x h
 have hbo : EntW x → ∀ k, ACalls Tryz.prog 136 [.sl 5 (ents ((rmE l x.key ++ [x]).drop k))] [] (Ret (.sl 1 (bytesRows (allB ((rmE l x.key ++ [x]).drop k))))) := fun h k => rall_ok _ (fun y hy => by
   have := List.mem_of_mem_drop hy
   rcases List.mem_append.1 this with h1 | h1
   · exact hrm y h1
   · rw [List.mem_singleton.1 h1]; exact h) (by rw [List.length_drop, List.length_append, List.length_singleton]; omega)
 have hsn : ents (rmE l x.key ++ [x]) = ents (rmE l x.key) ++ [x.cells] := by simp [ents]
 have hll : (rmE l x.key ++ [x]).length = (rmE l x.key).length + 1 := by simp
 generalize checkCode x = C at *
 generalize hO : rmE l x.key ++ [x] = o at *
 generalize entB x = eb at *
 have hdr : ∀ k, ((ents o).take o.length).drop k = ents (o.drop k) := fun k => by rw [ents_all, ents_drop]
 have htk : ∀ k, (ents o).take k = ents (o.take k) := fun k => by simp [ents]
 have hol := ents_len o
 obtain ⟨k, v, a, e, w⟩ := x
 simp only [Entry.av, Entry.cells] at *
 refine calls_of_J cl_134 Tryz.func134 rfl (by simp [Tryz.ntmps134]) ?_
 refine jr (h := ?_)
 refine jc (hs := hck) (hk := ?_)
 refine jr (h := ?_)
 refine jif (h1 := fun hC => ?_) (h2 := fun hC => ?_)
 · rw [if_pos hC]
   refine jr (h := ?_)
   refine J_wk (t := 4) (by simp only [go_sem]) (nil_le_sl (s := 5)) ?_
   refine J_wk (t := 5) (by simp only [go_sem]) (nil_le_sl (s := 5)) ?_
   refine jret Tryz.func134 (h := ⟨rfl, rfl⟩)
 rw [if_neg hC]
 have hx := hw1.1 (Classical.not_not.1 hC)
 refine jr (h := ?_)
 refine jc (hs := (hbs hx)) (hk := ?_)
 refine jr (h := ?_)
 refine jif (h1 := fun hsz => ?_) (h2 := fun hsz => ?_)
 · rw [if_pos (by omega)]
   refine jr (h := ?_)
   refine J_wk (t := 4) (by simp only [go_sem]) (nil_le_sl (s := 5)) ?_
   refine J_wk (t := 5) (by simp only [go_sem]) (nil_le_sl (s := 5)) ?_
   refine jret Tryz.func134 (h := ⟨rfl, rfl⟩)
 rw [if_neg (by omega)]
 refine jr (h := ?_)
 refine jd [(0, .pure), (1, .pure), (2, .pure), (4, .pure), (5, .pure), (3, .act), (6, .act), (7, .pure)] mixed (by kernel_rfl) ?_
 refine cr (hk := ?_)
 refine ccs (Δ1 := []) (Fr := []) (hs := hbr) (hp := (List.Perm.refl _)) (hk := ?_) (hn := (by rintro x Δ' ⟨v, h, _⟩; cases h))
 rintro z D ⟨vv, h, how⟩
 cases h
 rw [List.append_nil]
 refine cr (hk := ?_)
 refine Can_bi (by simp only [go_sem, ↓reduceIte, Int.reduceLT, Int.reduceLE, Int.reduceToNat, Int.reducePow, Int.reduceNeg, Nat.reduceBEq, Tryz.ntmps134] <;> with_reducible rfl) (append_bi (by simp only [go_sem, ↓reduceIte, Int.reduceLT, Int.reduceLE, Int.reduceToNat, Int.reducePow, Int.reduceNeg, Nat.reduceBEq] <;> with_reducible rfl) how (Fr := []) (by simp) (by simp only [go_sem] <;> rfl) (by rfl) (by rw [ents_len]; omega)) ?_
 rintro _ D' ⟨v', _, rfl, rfl, how'⟩
 refine cr (hk := ?_)
 refine Can_nil ?_
 have how2 : Own 78 5 (ents o).flatten (ents o).length v' D' := by
   rw [hsn, List.flatten_append, List.length_append]
   simpa using how'
 refine J_freezeS (Fr := []) how2 (ents_row _) (by rw [ents_len]; unfold maxRows; omega) ?_
 refine J_is (t := 8) (by simp only [go_sem]) (List.mem_cons_self ..) (J_drop ?_)
 refine jr (h := ?_)
 refine jk [8, 9] (h := ?_)
 refine J_loopI (I := fun m e D => ∃ i : Nat, i ≤ o.length ∧ m = o.length - i ∧ D = [] ∧ insK o = i + insK (o.drop i) ∧ e = [(8, .sl 5 (ents o)), (9, .c (.int .i64 i))]) ?_ ?_
 · exact ⟨_, 0, Nat.zero_le _, rfl, rfl, by simp, rfl⟩
 · rintro m e D ⟨i, hi, rfl, rfl, hk, rfl⟩ ih
   refine jf (a2 hol hdr) (h := ?_)
   refine jc (hs := (hbo hx i)) (hk := ?_)
   refine jr (h := ?_)
   refine jif (h1 := fun hc => ?_) (h2 := fun hc => ?_)
   · obtain ⟨q1, q2⟩ := insK_step hk (by omega)
     refine jr (h := ?_)
     refine jk [8, 9] (h := ?_)
     refine ih _ _ _ ?_ ⟨i + 1, q1, rfl, rfl, q2, by simp only [Int.natCast_add, Int.cast_ofNat_Int]⟩
     omega
   · have hK := insK_stop hk (by omega)
     rw [hK]
     have htki := htk i
     refine jr (h := ?_)
     refine jd [(0, .pure), (1, .pure), (2, .pure), (3, .pure), (4, .pure), (5, .pure), (6, .pure), (7, .pure), (8, .pure)] mixed (by kernel_rfl) ?_
     refine cf (a3 hol hdr htki) (hk := ?_)
     refine Can_nil ?_
     refine jret Tryz.func134 (h := ⟨rfl, rfl⟩)
end
section
attribute [local go_sem] packed List.set_cons_zero List.set_cons_succ List.cons_append List.nil_append bytesRows_length cellRows_len chRows_len rCells intRows_len
attribute [-go_sem] cellsOf AV.isCell
attribute [local go_sem] cellsOf_agg cellsOf_int cellsOf_bool cellsOf_str cellsOf_map cellsOf_ptr cellsOf_nilI cellsOf_slice cellsOf_sl cellsOf_ifc cellsOf_fp cellsOf_opt optAV_cell icell_int icell_bool icell_str icell_map icell_ptr icell_nilI icell_slice icell_sl icell_ifc icell_fp
attribute [local go_sem] Entry.av Entry.cells rowsBytes_bytesRows Option.map_some Int.cast_ofNat_Int
def plN (h : Int) : List Nat := [(h % 128).toNat, (h / 2097152 % 128).toNat, (h / 4398046511104 % 128).toNat]
theorem plN_lt {h : Int} : ∀ p ∈ plN h, p < 128 := by
 intro p hp
 simp only [plN, List.mem_cons, List.not_mem_nil, or_false] at hp
 rcases hp with rfl | rfl | rfl <;> omega
theorem and_low (n : Nat) (k m : Nat) (hm : m = 2 ^ k - 1) (hn : n < 2 ^ 64) (hk : k ≤ 32) : (BitVec.ofInt 64 (n : Int) &&& BitVec.ofInt 64 (m : Int)).toNat = n % 2 ^ k := by
 have hk2 : 2 ^ k ≤ 2 ^ 32 := Nat.pow_le_pow_right (by omega) hk
 have e1 : (BitVec.ofInt 64 (n : Int)).toNat = n := by rw [BitVec.toNat_ofInt]; omega
 have e2 : (BitVec.ofInt 64 (m : Int)).toNat = m := by rw [BitVec.toNat_ofInt]; omega
 rw [BitVec.toNat_and, e1, e2, hm, Nat.and_two_pow_sub_one_eq_mod]
theorem and127u (n : Nat) (hn : n < 2 ^ 64) : aint .and .u64 (n : Int) 127 = some (.c (.int .u64 ((n % 128 : Nat) : Int))) := by
 have h := and_low n 7 127 rfl hn (by decide)
 show some (AV.c (Value.int .u64 (IntKind.u64.wrap ((BitVec.ofInt 64 (n : Int) &&& BitVec.ofInt 64 ((127 : Nat) : Int)).toNat : Int)))) = _
 rw [h, wrap_u64 (by omega) (by omega)]
theorem and63i (n : Nat) (hn : n < 128) : aint .and .i64 (n : Int) 63 = some (.c (.int .i64 ((n % 64 : Nat) : Int))) := by
 have h := and_low n 6 63 rfl (by omega) (by decide)
 show some (AV.c (Value.int .i64 (IntKind.i64.wrap ((BitVec.ofInt 64 (n : Int) &&& BitVec.ofInt 64 ((63 : Nat) : Int)).toNat : Int)))) = _
 rw [h, wrap_i64 (by omega) (by omega)]
theorem and1u (n : Nat) (hn : n < 2 ^ 64) : aint .and .u64 (n : Int) 1 = some (.c (.int .u64 ((n % 2 : Nat) : Int))) := by
 have h := and_low n 1 1 rfl hn (by decide)
 show some (AV.c (Value.int .u64 (IntKind.u64.wrap ((BitVec.ofInt 64 (n : Int) &&& BitVec.ofInt 64 ((1 : Nat) : Int)).toNat : Int)))) = _
 rw [h, wrap_u64 (by omega) (by omega)]
theorem shl1u (j : Nat) (hj : j < 64) : ashift .shl .u64 1 (j : Int) = some (.c (.int .u64 ((2 ^ j : Nat) : Int))) := by
 have hp : 2 ^ j < 2 ^ 64 := Nat.pow_lt_pow_right (by omega) hj
 unfold ashift
 rw [if_neg (by omega)]
 have e : min (j : Int).toNat IntKind.u64.bits = j := by rw [bits_u64]; omega
 simp only [e]
 have e2 : (1 : Int) * 2 ^ j = ((2 ^ j : Nat) : Int) := by rw [Int.one_mul]; norm_cast
 rw [e2, wrap_u64 (Int.natCast_nonneg _) (Int.lt_of_lt_of_le (Int.ofNat_lt.2 hp) (by decide))]
theorem or_u (a b : Nat) (ha : a < 2 ^ 64) (hb : b < 2 ^ 64) : aint .or .u64 (a : Int) (b : Int) = some (.c (.int .u64 ((a ||| b : Nat) : Int))) := by
 have e1 : (BitVec.ofInt 64 (a : Int)).toNat = a := by rw [BitVec.toNat_ofInt]; omega
 have e2 : (BitVec.ofInt 64 (b : Int)).toNat = b := by rw [BitVec.toNat_ofInt]; omega
 have hl : a ||| b < 2 ^ 64 := Nat.or_lt_two_pow ha hb
 show some (AV.c (Value.int .u64 (IntKind.u64.wrap ((BitVec.ofInt 64 (a : Int) ||| BitVec.ofInt 64 (b : Int)).toNat : Int)))) = _
 rw [BitVec.toNat_or, e1, e2, wrap_u64 (by omega) (by omega)]
theorem shr_u (w j : Nat) (hj : j < 64) : ashift .shr .u64 (w : Int) (j : Int) = some (.c (.int .u64 ((w / 2 ^ j : Nat) : Int))) := by
 rw [ashift_shr_u64 (by omega) (by omega) (by omega)]
 have : (j : Int).toNat = j := by omega
 rw [this]; norm_cast
abbrev BF := Nat × Nat
abbrev bfAV (f : BF) : AV := .agg [.c (.int .u64 (f.1 : Int)), .c (.int .u64 (f.2 : Int))]
def setP (f : BF) (p : Nat) : BF := if p < 64 then (f.1 ||| 2 ^ (p % 64), f.2) else (f.1, f.2 ||| 2 ^ (p % 64))
def hasP (f : BF) (p : Nat) : Bool := if p < 64 then f.1.testBit (p % 64) else f.2.testBit (p % 64)
def BFok (f : BF) : Prop := f.1 < 2 ^ 64 ∧ f.2 < 2 ^ 64
theorem setP_ok {f : BF} (h : BFok f) (p : Nat) : BFok (setP f p) := by
 have hp : 2 ^ (p % 64) < 2 ^ 64 := Nat.pow_lt_pow_right (by omega) (Nat.mod_lt _ (by decide))
 unfold setP
 split
 · exact ⟨Nat.or_lt_two_pow h.1 hp, h.2⟩
 · exact ⟨h.1, Nat.or_lt_two_pow h.2 hp⟩
def addF (f : BF) (h : Int) : BF := (plN h).foldl setP f
def mayF (f : BF) (h : Int) : Bool := (plN h).all (hasP f)
theorem addF_ok {f : BF} (hf : BFok f) (h : Int) : BFok (addF f h) := setP_ok (setP_ok (setP_ok hf _) _) _
def ofF (ks : List (List UInt8)) : BF := ks.foldl (fun f k => addF f (hash64 k)) (0, 0)
theorem bits_ok (h : Int) (hh : In64 h) : ACalls Tryz.prog 184 [.c (.int .u64 h)] [] (Ret (.agg [.c (.int .i64 ((h % 128).toNat : Int)), .c (.int .i64 ((h / 2097152 % 128).toNat : Int)), .c (.int .i64 ((h / 4398046511104 % 128).toNat : Int))])) := by
 obtain ⟨h1, h2⟩ := hh
 obtain ⟨n, rfl⟩ : ∃ n : Nat, h = n := ⟨h.toNat, by omega⟩
 have a1' := and127u n (by omega)
 have a2' := and127u (n / 2097152) (by omega)
 have a3' := and127u (n / 4398046511104) (by omega)
 have e1 : (((n : Int) % 128).toNat : Int) = ((n % 128 : Nat) : Int) := by omega
 have e2 : (((n : Int) / 2097152 % 128).toNat : Int) = ((n / 2097152 % 128 : Nat) : Int) := by omega
 have e3 : (((n : Int) / 4398046511104 % 128).toNat : Int) = ((n / 4398046511104 % 128 : Nat) : Int) := by omega
 have hd1 : (n : Int) / 2097152 = ((n / 2097152 : Nat) : Int) := by omega
 have hd2 : (n : Int) / 4398046511104 = ((n / 4398046511104 : Nat) : Int) := by omega
 rw [e1, e2, e3]
 refine calls_of_J cl_184 Tryz.func184 rfl (by simp [Tryz.ntmps184]) ?_
 refine jr (own := [2]) (h := ?_)
 refine jnv (hh := fun b2 hb2 => ?_)
 refine J_mrun (own := []) (m := 2000) (by simp (maxSteps := 2000000) (disch := omega) only [go_sem, ↓reduceIte, Int.reduceLT, Int.reduceLE, Int.reduceToNat, Int.reducePow, Int.reduceNeg, Nat.reduceBEq, Tryz.ntmps184, a1', a2', a3', hd1, hd2] <;> with_reducible rfl) ?_
 refine J_forget ?_
 refine jret Tryz.func184 (h := ⟨rfl, rfl⟩)
theorem bfidx {p : Nat} (hp : p < 128) : (p < 64 ∧ (p : Int) / 64 = 0) ∨ (¬ p < 64 ∧ (p : Int) / 64 = 1) := by omega
theorem badd_ok (f : BF) (hf : BFok f) (h : Int) (hh : In64 h) : ACalls Tryz.prog 193 [bfAV f, .c (.int .u64 h)] [] (Ret (bfAV (addF f h))) := by
 have hb := bits_ok h hh
 have hpl := plN_lt (h := h)
 have hA : addF f h = setP (setP (setP f (h % 128).toNat) (h / 2097152 % 128).toNat) (h / 4398046511104 % 128).toNat := rfl
 rw [hA]
 have q1 := hpl _ (by simp [plN] : (h % 128).toNat ∈ plN h)
 have q2 := hpl _ (by simp [plN] : (h / 2097152 % 128).toNat ∈ plN h)
 have q3 := hpl _ (by simp [plN] : (h / 4398046511104 % 128).toNat ∈ plN h)
 generalize (h % 128).toNat = p1 at *
 generalize (h / 2097152 % 128).toNat = p2 at *
 generalize (h / 4398046511104 % 128).toNat = p3 at *
 refine calls_of_J cl_193 Tryz.func193 rfl (by simp [Tryz.ntmps193]) ?_
 refine jr (own := [2]) (h := ?_)
 refine jnb (hh := fun b2 hb2 => ?_)
 simp only [fresh] at hb2
 refine jf (own := [4]) hb2 (h := ?_)
 refine jnv (hh := fun b4 hb4 => ?_)
 simp only [fresh] at hb4
 refine jf (a2 hb4 hb2) (h := ?_)
 refine jc (hs := hb) (hk := ?_)
 refine jr (h := ?_)
 refine jk [2, 4, 8, 9] (h := ?_)
 refine J_loopI (I := fun m e D => ∃ (i : Nat) (g : BF) (z : Int), i ≤ 3 ∧ z = i ∧ m = 3 - i ∧ BFok g ∧ (i = 0 → g = f) ∧ (i = 1 → g = setP f p1) ∧ (i = 2 → g = setP (setP f p1) p2) ∧ (i = 3 → g = setP (setP (setP f p1) p2) p3) ∧ D = [.box b4 181 [.c (.int .u64 0), .c (.int .u64 0)], .box b2 181 [.c (.int .u64 (g.1 : Int)), .c (.int .u64 (g.2 : Int))]] ∧ e = [(2, .c (.pointer (some ⟨b2, 0, none⟩))), (4, .c (.pointer (some ⟨b4, 0, none⟩))), (8, .agg [.c (.int .i64 (p1 : Int)), .c (.int .i64 (p2 : Int)), .c (.int .i64 (p3 : Int))]), (9, .c (.int .i64 z))]) ?_ ?_
 · exact ⟨_, 0, f, 0, Nat.zero_le _, rfl, rfl, hf, fun _ => rfl, fun h => by omega, fun h => by omega, fun h => by omega, rfl, rfl⟩
 · rintro m e D ⟨i, g, z, hi, hz, hm, hg, g0, g1, g2, g3, rfl, rfl⟩ ih
   refine jr (h := ?_)
   by_cases hc : i < 3
   · have hw1 := hg.1
     have hw2 := hg.2
     have hstep : ∀ p : Nat, p < 128 → (p % 64 < 64 ∧ 2 ^ (p % 64) < 2 ^ 64) := fun p hp => ⟨Nat.mod_lt _ (by decide), Nat.pow_lt_pow_right (by omega) (Nat.mod_lt _ (by decide))⟩
     refine jif (h1 := fun _ => ?_) (h2 := fun hc => absurd (by first | omega | simp) hc)
     rcases (by omega : i = 0 ∨ i = 1 ∨ i = 2) with hi0 | hi0 | hi0
     · obtain rfl : z = 0 := by omega
       have hst := hstep p1 (by omega)
       have hand := and63i p1 (by omega)
       have hshl := shl1u (p1 % 64) hst.1
       rcases bfidx (p := p1) (by omega) with ⟨hlt, hix⟩ | ⟨hlt, hix⟩
       · have hor := or_u g.1 (2 ^ (p1 % 64)) hw1 hst.2
         have hgo : setP g p1 = (g.1 ||| 2 ^ (p1 % 64), g.2) := by unfold setP; rw [if_pos hlt]
         refine jf (a2 hb4 hb2) (h := ?_)
         refine jd [(0, .pure), (1, .pure), (2, .pure), (3, .read), (4, .pure), (5, .pure), (6, .pure), (7, .pure), (8, .pure), (9, .act)] mixed (by kernel_rfl) ?_
         refine cf (a5 hb4 hb2 hand hshl (a2 hor hix)) (hk := ?_)
         refine Can_nil ?_
         refine jr (h := ?_)
         refine jk [2, 4, 8, 9] (h := ?_)
         refine ih 2 _ _ (by omega) ⟨1, setP g p1, 1, by omega, by omega, by omega, setP_ok hg p1, fun h => by omega, fun _ => by rw [g0 hi0], fun h => by omega, fun h => by omega, by rw [hgo], rfl⟩
       · have hor := or_u g.2 (2 ^ (p1 % 64)) hw2 hst.2
         have hgo : setP g p1 = (g.1, g.2 ||| 2 ^ (p1 % 64)) := by unfold setP; rw [if_neg hlt]
         refine jf (a2 hb4 hb2) (h := ?_)
         refine jd [(0, .pure), (1, .pure), (2, .pure), (3, .read), (4, .pure), (5, .pure), (6, .pure), (7, .pure), (8, .pure), (9, .act)] mixed (by kernel_rfl) ?_
         refine cf (a5 hb4 hb2 hand hshl (a2 hor hix)) (hk := ?_)
         refine Can_nil ?_
         refine jr (h := ?_)
         refine jk [2, 4, 8, 9] (h := ?_)
         refine ih 2 _ _ (by omega) ⟨1, setP g p1, 1, by omega, by omega, by omega, setP_ok hg p1, fun h => by omega, fun _ => by rw [g0 hi0], fun h => by omega, fun h => by omega, by rw [hgo], rfl⟩
     · obtain rfl : z = 1 := by omega
       have hst := hstep p2 (by omega)
       have hand := and63i p2 (by omega)
       have hshl := shl1u (p2 % 64) hst.1
       rcases bfidx (p := p2) (by omega) with ⟨hlt, hix⟩ | ⟨hlt, hix⟩
       · have hor := or_u g.1 (2 ^ (p2 % 64)) hw1 hst.2
         have hgo : setP g p2 = (g.1 ||| 2 ^ (p2 % 64), g.2) := by unfold setP; rw [if_pos hlt]
         refine jf (a2 hb4 hb2) (h := ?_)
         refine jd [(0, .pure), (1, .pure), (2, .pure), (3, .read), (4, .pure), (5, .pure), (6, .pure), (7, .pure), (8, .pure), (9, .act)] mixed (by kernel_rfl) ?_
         refine cf (a5 hb4 hb2 hand hshl (a2 hor hix)) (hk := ?_)
         refine Can_nil ?_
         refine jr (h := ?_)
         refine jk [2, 4, 8, 9] (h := ?_)
         refine ih 1 _ _ (by omega) ⟨2, setP g p2, 2, by omega, by omega, by omega, setP_ok hg p2, fun h => by omega, fun h => by omega, fun _ => by rw [g1 hi0], fun h => by omega, by rw [hgo], rfl⟩
       · have hor := or_u g.2 (2 ^ (p2 % 64)) hw2 hst.2
         have hgo : setP g p2 = (g.1, g.2 ||| 2 ^ (p2 % 64)) := by unfold setP; rw [if_neg hlt]
         refine jf (a2 hb4 hb2) (h := ?_)
         refine jd [(0, .pure), (1, .pure), (2, .pure), (3, .read), (4, .pure), (5, .pure), (6, .pure), (7, .pure), (8, .pure), (9, .act)] mixed (by kernel_rfl) ?_
         refine cf (a5 hb4 hb2 hand hshl (a2 hor hix)) (hk := ?_)
         refine Can_nil ?_
         refine jr (h := ?_)
         refine jk [2, 4, 8, 9] (h := ?_)
         refine ih 1 _ _ (by omega) ⟨2, setP g p2, 2, by omega, by omega, by omega, setP_ok hg p2, fun h => by omega, fun h => by omega, fun _ => by rw [g1 hi0], fun h => by omega, by rw [hgo], rfl⟩
     · obtain rfl : z = 2 := by omega
       have hst := hstep p3 (by omega)
       have hand := and63i p3 (by omega)
       have hshl := shl1u (p3 % 64) hst.1
       rcases bfidx (p := p3) (by omega) with ⟨hlt, hix⟩ | ⟨hlt, hix⟩
       · have hor := or_u g.1 (2 ^ (p3 % 64)) hw1 hst.2
         have hgo : setP g p3 = (g.1 ||| 2 ^ (p3 % 64), g.2) := by unfold setP; rw [if_pos hlt]
         refine jf (a2 hb4 hb2) (h := ?_)
         refine jd [(0, .pure), (1, .pure), (2, .pure), (3, .read), (4, .pure), (5, .pure), (6, .pure), (7, .pure), (8, .pure), (9, .act)] mixed (by kernel_rfl) ?_
         refine cf (a5 hb4 hb2 hand hshl (a2 hor hix)) (hk := ?_)
         refine Can_nil ?_
         refine jr (h := ?_)
         refine jk [2, 4, 8, 9] (h := ?_)
         refine ih 0 _ _ (by omega) ⟨3, setP g p3, 3, by omega, by omega, by omega, setP_ok hg p3, fun h => by omega, fun h => by omega, fun h => by omega, fun _ => by rw [g2 hi0], by rw [hgo], rfl⟩
       · have hor := or_u g.2 (2 ^ (p3 % 64)) hw2 hst.2
         have hgo : setP g p3 = (g.1, g.2 ||| 2 ^ (p3 % 64)) := by unfold setP; rw [if_neg hlt]
         refine jf (a2 hb4 hb2) (h := ?_)
         refine jd [(0, .pure), (1, .pure), (2, .pure), (3, .read), (4, .pure), (5, .pure), (6, .pure), (7, .pure), (8, .pure), (9, .act)] mixed (by kernel_rfl) ?_
         refine cf (a5 hb4 hb2 hand hshl (a2 hor hix)) (hk := ?_)
         refine Can_nil ?_
         refine jr (h := ?_)
         refine jk [2, 4, 8, 9] (h := ?_)
         refine ih 0 _ _ (by omega) ⟨3, setP g p3, 3, by omega, by omega, by omega, setP_ok hg p3, fun h => by omega, fun h => by omega, fun h => by omega, fun _ => by rw [g2 hi0], by rw [hgo], rfl⟩
   · refine jif (h1 := fun hc => absurd hc (by first | omega | simp)) (h2 := fun _ => ?_)
     have hg3 := g3 (by omega)
     subst hg3
     refine jf (a2 hb4 hb2) (h := ?_)
     refine J_forget ?_
     refine jretf (a2 hb4 hb2) Tryz.func193 (h := ⟨rfl, rfl⟩)
end
end Go.Proofs.YtjppajaoekbkpaaGreatDoor
