/- A part of the proof: what the calls do, told by values. -/
import Derived.Test.YtjppajaoekbkpaaGreatDoorB4
import Derived.Test.YtjppajaoekbkpaaGreatDoorA5
import Derived.Test.YtjppajaoekbkpaaGreatDoorB3
import Derived.Test.YtjppajaoekbkpaaGreatDoorA8
set_option linter.unusedVariables false
set_option linter.unusedSimpArgs false
set_option maxRecDepth 100000
set_option maxHeartbeats 4000000
namespace Go.Proofs.YtjppajaoekbkpaaGreatDoor
open Go Go.Av
attribute [local go_sem] packed List.set_cons_zero List.set_cons_succ List.cons_append List.nil_append bytesRows_length leafAV
attribute [-go_sem] cellsOf AV.isCell
attribute [local go_sem] cellsOf_agg cellsOf_int cellsOf_bool cellsOf_str cellsOf_map cellsOf_ptr cellsOf_nilI cellsOf_slice cellsOf_sl cellsOf_ifc cellsOf_fp cellsOf_opt optAV_cell icell_int icell_bool icell_str icell_map icell_ptr icell_nilI icell_slice icell_sl icell_ifc icell_fp
section
theorem be8_inj {a b : List UInt8} (ha : a.length = 8) (hb : b.length = 8) (h : be8 a = be8 b) : a = b := by
 have key : ∀ l : List UInt8, l.length = 8 → l = word8 (be8 l).toNat := by
   intro l hl
   match l, hl with
   | [c0, c1, c2, c3, c4, c5, c6, c7], _ =>
     have h0 := c0.toNat_lt
     have h1 := c1.toNat_lt
     have h2 := c2.toNat_lt
     have h3 := c3.toNat_lt
     have h4 := c4.toNat_lt
     have h5 := c5.toNat_lt
     have h6 := c6.toNat_lt
     have h7 := c7.toNat_lt
     unfold be8 word8
     simp only [List.foldl_cons, List.foldl_nil, beStep_nat, UInt64.toNat_zero]
     simp only [List.cons.injEq, and_true]
     refine ⟨?_, ?_, ?_, ?_, ?_, ?_, ?_, ?_⟩ <;> (apply UInt8.toNat_inj.1; rw [UInt8.toNat_ofNat']; omega)
 rw [key a ha, key b hb, h]
theorem get05_ok (b : List UInt8) (hb : b.length < 2 ^ 37) : ACalls Tryz.prog 160 [.sl 1 (bytesRows b)] [] (Ret (.tup [if getC b = 0 then leafAV (stampsB b).1 (kdB b) (.sl 1 (bytesRows (txtB b))) else leafAV 0 0 (.c (.slice none 0 0)), .c (.int .i64 (getC b))])) := by
 unfold leafAV
 refine jen cl_160 Tryz.func160 (h := ?_)
 refine jr (own := [2, 4]) (h := ?_)
 refine jnv (hh := fun b2 hb2 => ?_)
 refine jr (own := [4]) (h := ?_)
 refine jnv (hh := fun b4 hb4 => ?_)
 simp only [fresh] at hb4
 refine jf hb4 (h := ?_)
 refine jif (h1 := fun hc => ?_) (h2 := fun hc => ?_)
 · have hg : getC b = 6 := by unfold getC; rw [if_pos (by omega)]
   refine jf hb4 (h := ?_)
   refine J_forget ?_
   refine jretf hb4 Tryz.func160 (h := ⟨by rw [hg]; rfl, rfl⟩)
 have hl : b.length = 256 := by omega
 have g8 := bytes_get (getD_get (b := b) (i := 8) (by omega))
 have g9 := bytes_get (getD_get (b := b) (i := 9) (by omega))
 have g10 := bytes_get (getD_get (b := b) (i := 10) (by omega))
 have hd8 : (b.drop 248).length = 8 := by rw [List.length_drop]; omega
 have ht8 : (b.take 8).length = 8 := by rw [List.length_take]; omega
 refine jr (h := ?_)
 refine jd [(0, .pure), (1, .pure), (2, .pure), (3, .pure), (4, .pure), (5, .pure)] mixed (by kernel_rfl) ?_
 refine Can_run (own := []) (by simp (maxSteps := 2000000) (disch := omega) only [go_sem, ↓reduceIte, Int.reduceLT, Int.reduceLE, Int.reduceToNat, Int.reducePow, Int.reduceNeg, Nat.reduceBEq, Tryz.ntmps160, hl, List.take_of_length_le (Nat.le_of_eq hl)] <;> with_reducible rfl) ?_
 refine Can_callp (by simp only [go_sem, ↓reduceIte, Int.reduceLT, Int.reduceLE, Int.reduceToNat, Int.reducePow, Int.reduceNeg, Nat.reduceBEq, Tryz.ntmps160, hl, List.take_of_length_le (Nat.le_of_eq hl)] <;> with_reducible rfl) (same02_ok (b.take 8) (b.drop 248) (by omega)) ?_
 refine cr (hk := ?_)
 refine Can_nil ?_
 by_cases he : b.take 8 = b.drop 248
 rotate_left
 · have hg : getC b = 8 := by unfold getC; rw [if_neg (by omega), if_pos (fun h => he (be8_inj ht8 hd8 h))]
   have d1 := decide_eq_false he
   refine jf d1 (h := ?_)
   refine jt (h := ?_)
   refine jf hb4 (h := ?_)
   refine J_forget ?_
   refine jretf hb4 Tryz.func160 (h := ⟨by rw [hg]; rfl, rfl⟩)
 have h8' : ¬ be8 (b.take 8) ≠ be8 (b.drop 248) := fun h => h (by rw [he])
 have d1 := decide_eq_true he
 have hst : stampsB b = (fitN (be8 (b.take 8)), fitN (be8 (b.take 8))) := by unfold stampsB; rw [if_pos hl, he]
 refine jf d1 (h := ?_)
 refine jn (h := ?_)
 refine jf hl (h := ?_)
 refine jc (hs := stamp05_ok (b.take 8) ht8) (hk := ?_)
 refine jr (h := ?_)
 refine jif (h1 := fun hs => ?_) (h2 := fun hs => ?_)
 · have hg : getC b = 9 := by unfold getC; rw [if_neg (by omega), if_neg h8', if_pos (by rw [hst]; omega)]
   refine jf hb4 (h := ?_)
   refine J_forget ?_
   refine jretf hb4 Tryz.func160 (h := ⟨by rw [hg]; rfl, rfl⟩)
 have hsn : ¬ ((stampsB b).1 = 0 ∨ (stampsB b).2 = 0) := by rw [hst]; simp only; omega
 have hstn : ((stampsB b).1 : Int) = (fitN (be8 (b.take 8)) : Int) := by rw [hst]
 refine jf hl (h := ?_)
 refine jc (hs := fits03_ok (b.take 248) (by rw [List.length_take]; omega) (by rw [List.length_take]; omega)) (hk := ?_)
 refine jr (h := ?_)
 cases hf : fitsB (b.take 248) with
 | false =>
   have hg : getC b = 7 := by unfold getC; rw [if_neg (by omega), if_neg h8', if_neg hsn, if_pos hf]
   refine jt (h := ?_)
   refine jf hb4 (h := ?_)
   refine J_forget ?_
   refine jretf hb4 Tryz.func160 (h := ⟨by rw [hg]; rfl, rfl⟩)
 | true =>
 refine jn (h := ?_)
 refine jr (h := ?_)
 have c9 := (b.getD 9 0).toNat_lt
 have c10 := (b.getD 10 0).toNat_lt
 refine jd [(0, .pure), (1, .pure), (2, .read), (3, .pure), (4, .pure), (5, .pure), (6, .pure), (7, .read), (8, .pure), (9, .pure), (10, .pure)] mixed (by kernel_rfl) ?_
 refine cf (cB g9 g10 hl) (hk := ?_)
 refine Can_nil ?_
 have hn : ((b.getD 9 0).toNat : Int) * 256 + ((b.getD 10 0).toNat : Int) = (nB b : Int) := by unfold nB; omega
 rw [hn]
 refine jr (h := ?_)
 refine jif (h1 := fun h5 => ?_) (h2 := fun h5 => ?_)
 · have hg : getC b = 5 := by unfold getC; rw [if_neg (by omega), if_neg h8', if_neg hsn, if_neg (by simp [hf]), if_pos (by omega)]
   refine jf hb4 (h := ?_)
   refine J_forget ?_
   refine jretf hb4 Tryz.func160 (h := ⟨by rw [hg]; rfl, rfl⟩)
 have hn5 : nB b ≤ 233 := by omega
 have htl : (txtB b).length = nB b := by unfold txtB; rw [List.length_take, List.length_drop]; omega
 refine jr (h := ?_)
 refine jd [(0, .pure), (1, .pure), (2, .pure), (3, .pure), (4, .pure), (5, .pure), (6, .pure), (7, .pure), (8, .new), (9, .act)] mixed (by kernel_rfl) ?_
 refine cf (own := [6]) (cA hl g8) (hk := ?_)
 refine Can_callp (by simp only [go_sem, ↓reduceIte, Int.reduceLT, Int.reduceLE, Int.reduceToNat, Int.reducePow, Int.reduceNeg, Nat.reduceBEq, Tryz.ntmps160, hl] <;> with_reducible rfl) (stamp05_ok (b.take 8) ht8) ?_
 refine cf (own := [6]) (cA hl g8) (hk := ?_)
 refine cnv (hk := fun b6 hb6 => ?_)
 simp only [fresh] at hb6
 refine cf hb6 (hk := ?_)
 refine Can_nil ?_
 have hk : ((b.getD 8 0).toNat : Int) = ((kdB b : Nat) : Int) := rfl
 rw [hk]
 rw [← hstn]
 have hck := check05_ok (stampsB b).1 (kdB b) (txtB b) (by omega)
 rw [htl] at hck
 unfold leafAV at hck
 refine jf hb6 (h := ?_)
 refine jd [(0, .pure), (1, .read), (2, .pure), (3, .pure), (4, .pure), (5, .pure), (6, .pure), (7, .pure), (8, .act)] mixed (by kernel_rfl) ?_
 refine cf (cA hl hb6) (hk := ?_)
 rw [show List.drop 11 (List.take ((11 : Int) + (nB b : Int)).toNat b) = txtB b from be_slice b 11 (nB b) (by omega)]
 refine Can_nil ?_
 refine jf hb6 (h := ?_)
 refine jc (hs := hck) (hk := ?_)
 refine jf hb6 (h := ?_)
 refine jif (h1 := fun hcc => ?_) (h2 := fun hcc => ?_)
 · have hg : getC b = checkC (stampsB b).1 (kdB b) (nB b) := by unfold getC; rw [if_neg (by omega), if_neg h8', if_neg hsn, if_neg (by simp [hf]), if_neg (by omega), if_pos hcc]
   refine jf (cA hb6 hb4) (h := ?_)
   refine J_forget ?_
   refine jretf (cA hb6 hb4) Tryz.func160 (h := ⟨by rw [hg, if_neg hcc], rfl⟩)
 have hrl : (restB b).length = 233 - nB b := by unfold restB; rw [List.length_take, List.length_drop]; omega
 have h70 : getC b = if blankB (restB b) = false then 5 else 0 := by
   unfold getC; rw [if_neg (by omega), if_neg h8', if_neg hsn, if_neg (by simp [hf]), if_neg (by omega), if_neg hcc]
 have hrg : ∀ j, j < 233 - nB b → b[11 + nB b + j]? = (restB b)[j]? := fun j hj => by
   unfold restB; rw [List.getElem?_take_of_lt hj, List.getElem?_drop]
 generalize restB b = w at hrl h70 hrg
 refine jr (h := ?_)
 refine jk [0, 2, 4, 6, 8] (h := ?_)
 refine J_loopI (I := fun m e D => ∃ i : Nat, i ≤ w.length ∧ m = w.length - i ∧ D = [.box b6 188 [.c (.int .i64 (stampsB b).1), .c (.int .i64 (kdB b)), .sl 1 (bytesRows (txtB b))], .box b4 188 [.c (.int .i64 0), .c (.int .i64 0), .c (.slice none 0 0)], .box b2 188 [.c (.int .i64 0), .c (.int .i64 0), .c (.slice none 0 0)]] ∧ blankB (w.take i) = true ∧ e = [(0, .sl 1 (bytesRows b)), (2, .c (.pointer (some ⟨b2, 0, none⟩))), (4, .c (.pointer (some ⟨b4, 0, none⟩))), (6, .c (.pointer (some ⟨b6, 0, none⟩))), (8, .c (.int .i64 ((11 : Int) + (nB b : Int) + (i : Int))))]) ?_ ?_
 · exact ⟨_, 0, by omega, rfl, rfl, rfl, by simp⟩
 · rintro m e D ⟨i, hi, rfl, rfl, hz, rfl⟩ ih
   refine jr (h := ?_)
   refine jif (h1 := fun hcl => ?_) (h2 := fun hcl => ?_)
   · have hlt : i < w.length := by omega
     have g0 := List.getElem?_eq_getElem hlt
     have g1 := bytes_get ((hrg i (by omega)).trans g0)
     have h0 : (0 : Int) ≤ (i : Int) := by omega
     have e1 : ((11 : Int) + (nB b : Int) + (i : Int)).toNat = 11 + nB b + i := by omega
     refine jf (cB g1 e1 hl) (h := ?_)
     refine jif (h1 := fun hnz => ?_) (h2 := fun hnz => ?_)
     · have hbf : blankB w = false := by
         simp only [blankB, List.all_eq_false]
         exact ⟨w[i], List.getElem_mem hlt, by
           intro hz0
           have : w[i] = 0 := by simpa using hz0
           rw [this] at hnz; exact hnz rfl⟩
       rw [if_pos hbf] at h70
       refine jf (cA hb6 hb4) (h := ?_)
       refine J_forget ?_
       refine jretf (cA hb6 hb4) Tryz.func160 (h := ⟨by rw [h70]; rfl, rfl⟩)
     · refine jr (h := ?_)
       refine jk [0, 2, 4, 6, 8] (h := ?_)
       refine ih _ _ _ ?_ ⟨i + 1, by omega, rfl, rfl, ?_, ?_⟩
       · omega
       · simp only [blankB] at hz ⊢
         rw [List.take_add_one, g0, List.all_append, hz]
         have : w[i] = 0 := by
           apply UInt8.toNat_inj.1
           have : ¬ ((w[i].toNat : Int) ≠ 0) := hnz
           simp only [UInt8.toNat_ofNat]; omega
         simp [this]
       · simp only [Int.natCast_add, Int.cast_ofNat_Int, Int.add_assoc]
   · have hi' : i = w.length := by omega
     subst hi'
     rw [List.take_length] at hz
     rw [if_neg (by simp [hz])] at h70
     refine jf (cA hb6 hb4) (h := ?_)
     refine J_forget ?_
     refine jretf (cA hb6 hb4) Tryz.func160 (h := ⟨by rw [h70]; rfl, rfl⟩)
end
end Go.Proofs.YtjppajaoekbkpaaGreatDoor
namespace Go.Proofs.YtjppajaoekbkpaaGreatDoor
open Go Go.Av
section
def chRow (p : Int × Option (List UInt8)) : List AV := [.c (.int .i64 p.1), .sl 1 (bytesRows (p.2.getD [])), .c (.bool p.2.isNone)]
def chRows (l : List (Int × Option (List UInt8))) : List (List AV) := l.map chRow
theorem chRows_len (l : List (Int × Option (List UInt8))) : (chRows l).length = l.length := by simp [chRows]
theorem chRows_row (l : List (Int × Option (List UInt8))) : ∀ r ∈ chRows l, r.length = 3 := by
 intro r hr
 obtain ⟨p, _, rfl⟩ := List.mem_map.1 hr
 rfl
theorem chRows_get {l : List (Int × Option (List UInt8))} {i : Nat} {p : Int × Option (List UInt8)} (h : l[i]? = some p) : (chRows l)[i]? = some [.c (.int .i64 p.1), .sl 1 (bytesRows (p.2.getD [])), .c (.bool p.2.isNone)] := by simp [chRows, h, chRow]
def rCells (r : Fl) : List AV := [.c (.int .i64 r.pages), .sl 2 (cellRows r.safe), .sl 3 (chRows r.loose), .c (.int .i64 r.fuse), .c (.bool r.down), .c (.int .i64 r.done)]
def rAV (r : Fl) : AV := .agg (rCells r)
attribute [local go_sem] packed List.set_cons_zero List.set_cons_succ List.cons_append List.nil_append bytesRows_length cellRows_len chRows_len rCells
attribute [-go_sem] cellsOf AV.isCell
attribute [local go_sem] cellsOf_agg cellsOf_int cellsOf_bool cellsOf_str cellsOf_map cellsOf_ptr cellsOf_nilI cellsOf_slice cellsOf_sl cellsOf_ifc cellsOf_fp cellsOf_opt optAV_cell icell_int icell_bool icell_str icell_map icell_ptr icell_nilI icell_slice icell_sl icell_ifc icell_fp
theorem check04_ok (r : Fl) (at_ : Int) : ACalls Tryz.prog 199 [rAV r, .c (.int .i64 at_)] [] (Ret (.c (.int .i64 (checkF r at_)))) := by
 unfold rAV
 cases hd : r.down with
 | true =>
   have hc : checkF r at_ = 11 := by unfold checkF; rw [if_pos hd]
   refine jen cl_199 Tryz.func199 (h := ?_)
   refine jf hd (h := ?_)
   refine jt (h := ?_)
   refine jr (h := ?_)
   refine jret Tryz.func199 (h := ⟨by rw [hc], rfl⟩)
 | false =>
   by_cases h1 : at_ < 0
   · have d1 := decide_eq_true h1
     have hc : checkF r at_ = 2 := by unfold checkF; rw [if_neg (by simp [hd]), if_pos (.inl h1)]
     refine jen cl_199 Tryz.func199 (h := ?_)
     refine jf hd (h := ?_)
     refine jn (h := ?_)
     refine jf d1 (h := ?_)
     refine jt (h := ?_)
     refine jr (h := ?_)
     refine jret Tryz.func199 (h := ⟨by rw [hc], rfl⟩)
   · have d1 := decide_eq_false h1
     by_cases h2 : at_ ≥ r.pages
     · have d2 := decide_eq_true h2
       have hc : checkF r at_ = 2 := by unfold checkF; rw [if_neg (by simp [hd]), if_pos (.inr h2)]
       refine jen cl_199 Tryz.func199 (h := ?_)
       refine jf hd (h := ?_)
       refine jn (h := ?_)
       refine jf (cA d1 d2) (h := ?_)
       refine jt (h := ?_)
       refine jr (h := ?_)
       refine jret Tryz.func199 (h := ⟨by rw [hc], rfl⟩)
     · have d2 := decide_eq_false h2
       have hc : checkF r at_ = 0 := by unfold checkF; rw [if_neg (by simp [hd]), if_neg (by omega)]
       refine jen cl_199 Tryz.func199 (h := ?_)
       refine jf hd (h := ?_)
       refine jn (h := ?_)
       refine jf (cA d1 d2) (h := ?_)
       refine jn (h := ?_)
       refine jr (h := ?_)
       refine jret Tryz.func199 (h := ⟨by rw [hc], rfl⟩)
theorem burns04_ok (r : Fl) (hd : r.down = false) (hw : r.WF') : ACalls Tryz.prog 205 [rAV r] [] (Ret (.tup [rAV (burnS r), .c (.bool (burnB r))])) := by
 have q1 := hw.f1
 have q2 := hw.f2
 have q3 := hw.d1
 have q4 := hw.d2
 unfold rAV
 refine jen cl_205 Tryz.func205 (h := ?_)
 refine jr (own := [2, 4]) (h := ?_)
 refine jnv (hh := fun b2 hb2 => ?_)
 refine jr (own := [4]) (h := ?_)
 refine jnv (hh := fun b4 hb4 => ?_)
 simp only [fresh] at hb4
 refine jf hb4 (h := ?_)
 refine jif (h1 := fun hc => ?_) (h2 := fun hc => ?_)
 · have hS : burnS r = { r with done := r.done + 1 } := by unfold burnS; rw [if_pos hc]
   have hB : burnB r = false := by unfold burnB; simp [hc]
   refine jf hb4 (h := ?_)
   refine J_forget ?_
   refine jretf hb4 Tryz.func205 (h := ⟨by rw [hS, hB]; rfl, rfl⟩)
 · refine jf hb4 (h := ?_)
   refine jif (h1 := fun hf => ?_) (h2 := fun hf => ?_)
   · have hS : burnS r = { r with done := r.done + 1, fuse := r.fuse - 1, down := true } := by unfold burnS; rw [if_neg hc, show decide (r.fuse - 1 < 0) = true from decide_eq_true (by omega)]
     have hB : burnB r = true := by unfold burnB; rw [decide_eq_true hc, decide_eq_true (show r.fuse - 1 < 0 by omega)]; rfl
     refine jf hb4 (h := ?_)
     refine J_forget ?_
     refine jretf hb4 Tryz.func205 (h := ⟨by rw [hS, hB]; rfl, rfl⟩)
   · have hS : burnS r = { r with done := r.done + 1, fuse := r.fuse - 1 } := by unfold burnS; rw [if_neg hc, show decide (r.fuse - 1 < 0) = false from decide_eq_false (by omega), ← hd]
     have hB : burnB r = false := by unfold burnB; rw [decide_eq_false (show ¬ r.fuse - 1 < 0 by omega)]; simp
     refine jf hb4 (h := ?_)
     refine J_forget ?_
     refine jretf hb4 Tryz.func205 (h := ⟨by rw [hS, hB]; rfl, rfl⟩)
theorem blank04_ok (b : List UInt8) (hb : b.length < 2 ^ 62) : ACalls Tryz.prog 114 [.sl 1 (bytesRows b)] [] (Ret (.c (.bool (blankB b)))) := by
 refine jen cl_114 Tryz.func114 (h := ?_)
 refine jr (h := ?_)
 refine jk [0, 3] (h := ?_)
 refine J_loopI (I := fun m e D => ∃ i : Nat, i ≤ b.length ∧ m = b.length - i ∧ D = [] ∧ blankB (b.take i) = true ∧ e = [(0, .sl 1 (bytesRows b)), (3, .c (.int .i64 i))]) ?_ ?_
 · exact ⟨_, 0, by omega, rfl, rfl, rfl, rfl⟩
 · rintro m e D ⟨i, hi, rfl, rfl, hz, rfl⟩ ih
   refine jr (h := ?_)
   refine jif (h1 := fun hcl => ?_) (h2 := fun hcl => ?_)
   · have hlt : i < b.length := by omega
     have g0 := List.getElem?_eq_getElem hlt
     have g1 := bytes_get g0
     have h0 : (0 : Int) ≤ (i : Int) := by omega
     refine jf g1 (h := ?_)
     refine jif (h1 := fun hnz => ?_) (h2 := fun hnz => ?_)
     · have hbf : blankB b = false := by
         simp only [blankB, List.all_eq_false]
         exact ⟨b[i], List.getElem_mem hlt, by
           intro hz0
           have : b[i] = 0 := by simpa using hz0
           rw [this] at hnz; exact hnz rfl⟩
       refine jr (h := ?_)
       refine jret Tryz.func114 (h := ⟨by rw [hbf], rfl⟩)
     · refine jr (h := ?_)
       refine jk [0, 3] (h := ?_)
       refine ih _ _ _ ?_ ⟨i + 1, by omega, rfl, rfl, ?_, ?_⟩
       · omega
       · simp only [blankB] at hz ⊢
         rw [List.take_add_one, g0, List.all_append, hz]
         have : b[i] = 0 := by
           apply UInt8.toNat_inj.1
           have : ¬ ((b[i].toNat : Int) ≠ 0) := hnz
           simp only [UInt8.toNat_ofNat]; omega
         simp [this]
       · simp only [Int.natCast_add, Int.cast_ofNat_Int]
   · have hi' : i = b.length := by omega
     subst hi'
     rw [List.take_length] at hz
     refine jr (h := ?_)
     refine jret Tryz.func114 (h := ⟨by rw [hz], rfl⟩)
theorem find_take_none {l : List (Int × List UInt8)} {k : Int} {i : Nat} (h : ∀ j, j < i → ∀ p, l[j]? = some p → p.1 ≠ k) {p : Int × List UInt8} (hp : l[i]? = some p) : findM l k = if p.1 = k then some p.2 else findM (l.drop i) k := by
 induction l generalizing i with
 | nil => simp at hp
 | cons q l ih =>
   cases i with
   | zero =>
     simp at hp; subst hp
     unfold findM
     by_cases hk : q.1 = k
     · simp [hk]
     · simp only [hk, if_false]; simp [findM, hk]
   | succ i =>
     have h0 := h 0 (by omega) q rfl
     have := ih (i := i) (fun j hj p hp => h (j + 1) (by omega) p (by simpa using hp)) (by simpa using hp)
     rw [List.drop_succ_cons, ← this]
     conv => lhs; unfold findM
     simp only [h0, if_false]
theorem find_all_none {l : List (Int × List UInt8)} {k : Int} (h : ∀ j, j < l.length → ∀ p, l[j]? = some p → p.1 ≠ k) : findM l k = none := by
 rw [findM_none]
 intro hk
 obtain ⟨p, hp, rfl⟩ := List.mem_map.1 hk
 obtain ⟨j, hj, rfl⟩ := List.getElem_of_mem hp
 exact h j hj _ (List.getElem?_eq_getElem hj) rfl
theorem mk256_op {env : Env} {Δ : List HP} {o : Oper} {x y : Operand} (hop : o.op = .makeSlice 23 x y) (hx : env.eval x = some (.c (.int .i64 256))) (hy : env.eval y = some (.c (.int .i64 256))) :
   OpOK Tryz.prog env Δ o (fun r Δ' => r = .sl 1 (bytesRows z256) ∧ Δ' = Δ) := by
 have h := mkz_op (P := Tryz.prog) (Δ := Δ) (env := env) (n := 256) (s := 1) (zs := [.int .u8 0]) hop Tryz.underlying23 tb_5 tk_5 tz_5 rfl (by decide) (by decide) (by decide) (by decide) hx hy
 have e : List.replicate 256 ([Value.int .u8 0].map AV.c) = bytesRows z256 := by rfl
 rw [e] at h
 exact h
theorem safe04_ok (l : List (Int × List UInt8)) (at_ : Int) (hl : l.length < 2 ^ 60) : ACalls Tryz.prog 165 [.sl 2 (cellRows l), .c (.int .i64 at_)] [] (Ret (.sl 1 (bytesRows (pageOr l at_)))) := by
 refine jen cl_165 Tryz.func165 (h := ?_)
 refine jr (h := ?_)
 refine jk [0, 1, 5] (h := ?_)
 refine J_loopI (I := fun m e D => ∃ i : Nat, i ≤ l.length ∧ m = l.length - i ∧ D = [] ∧ (∀ j, j < i → ∀ p, l[j]? = some p → p.1 ≠ at_) ∧ e = [(0, .sl 2 (cellRows l)), (1, .c (.int .i64 at_)), (5, .c (.int .i64 i))]) ?_ ?_
 · exact ⟨_, 0, by omega, rfl, rfl, fun j hj => by omega, rfl⟩
 · rintro m e D ⟨i, hi, rfl, rfl, hz, rfl⟩ ih
   refine jr (h := ?_)
   refine jif (h1 := fun hcl => ?_) (h2 := fun hcl => ?_)
   · have hlt : i < l.length := by omega
     have g0 := List.getElem?_eq_getElem hlt
     have g1 := cellRows_get g0
     have h0 : (0 : Int) ≤ (i : Int) := by omega
     refine jf g1 (h := ?_)
     refine jif (h1 := fun hk => ?_) (h2 := fun hk => ?_)
     · have hf : pageOr l at_ = l[i].2 := by unfold pageOr; rw [find_take_none hz g0, if_pos hk]; rfl
       refine jf g1 (h := ?_)
       refine jret Tryz.func165 (h := ⟨by rw [hf], rfl⟩)
     · refine jr (h := ?_)
       refine jk [0, 1, 5] (h := ?_)
       refine ih _ _ _ ?_ ⟨i + 1, by omega, rfl, rfl, ?_, ?_⟩
       · omega
       · intro j hj p hp
         by_cases hji : j = i
         · subst hji; rw [g0] at hp; cases hp; exact hk
         · exact hz j (by omega) p hp
       · simp only [Int.natCast_add, Int.cast_ofNat_Int]
   · have hi' : i = l.length := by omega
     subst hi'
     have hf : pageOr l at_ = z256 := by unfold pageOr; rw [find_all_none hz]; rfl
     refine jr (h := ?_)
     refine jop (ho := rfl) (hh := mk256_op rfl gS gS) (hk := ?_)
     rintro _ _ ⟨rfl, rfl⟩
     refine jr (h := ?_)
     refine jret Tryz.func165 (h := ⟨by rw [hf], rfl⟩)
end
section
attribute [local go_sem] packed List.set_cons_zero List.set_cons_succ List.cons_append List.nil_append bytesRows_length cellRows_len chRows_len rCells
attribute [-go_sem] cellsOf AV.isCell
attribute [local go_sem] cellsOf_agg cellsOf_int cellsOf_bool cellsOf_str cellsOf_map cellsOf_ptr cellsOf_nilI cellsOf_slice cellsOf_sl cellsOf_ifc cellsOf_fp cellsOf_opt optAV_cell icell_int icell_bool icell_str icell_map icell_ptr icell_nilI icell_slice icell_sl icell_ifc icell_fp
theorem lookL_snoc {l : List (Int × Option (List UInt8))} {i : Nat} {p : Int × Option (List UInt8)} (h : l[i]? = some p) (at_ : Int) : lookL (l.take (i + 1)) at_ = if p.1 = at_ then some p.2 else lookL (l.take i) at_ := by
 unfold lookL; rw [List.take_add_one, h, List.foldl_append]; rfl
def lookP (r : Fl) (at_ : Int) (i : Nat) : List UInt8 := match lookL (r.loose.take i) at_ with
 | some o => o.getD z256
 | none => pageOr r.safe at_
theorem lookP_snoc {r : Fl} {i : Nat} {p : Int × Option (List UInt8)} (h : r.loose[i]? = some p) (at_ : Int) : lookP r at_ (i + 1) = if p.1 = at_ then p.2.getD z256 else lookP r at_ i := by
 unfold lookP; rw [lookL_snoc h]
 by_cases hk : p.1 = at_
 · rw [if_pos hk, if_pos hk]
 · rw [if_neg hk, if_neg hk]
theorem lookP_all (r : Fl) (at_ : Int) : lookP r at_ r.loose.length = lookB r at_ := by
 unfold lookP lookB pageOr; rw [List.take_length]
 cases lookL r.loose at_ <;> rfl
theorem look04_ok (r : Fl) (at_ : Int) (h1 : r.safe.length < 2 ^ 60) (h2 : r.loose.length < 2 ^ 60) : ACalls Tryz.prog 113 [rAV r, .c (.int .i64 at_)] [] (Ret (.sl 1 (bytesRows (lookB r at_)))) := by
 unfold rAV
 refine jen cl_113 Tryz.func113 (h := ?_)
 refine jr (h := ?_)
 refine jc (hs := safe04_ok r.safe at_ h1) (hk := ?_)
 refine jr (h := ?_)
 refine jk [1, 2, 5, 6] (h := ?_)
 refine J_loopI (I := fun m e D => ∃ i : Nat, i ≤ r.loose.length ∧ m = r.loose.length - i ∧ D = [] ∧ e = [(1, .c (.int .i64 at_)), (2, .fp (rCells r)), (5, .sl 1 (bytesRows (lookP r at_ i))), (6, .c (.int .i64 i))]) ?_ ?_
 · exact ⟨_, 0, by omega, rfl, rfl, rfl⟩
 · rintro m e D ⟨i, hi, rfl, rfl, rfl⟩ ih
   refine jr (h := ?_)
   refine jif (h1 := fun hc => ?_) (h2 := fun hc => ?_)
   · have hlt : i < r.loose.length := by omega
     have g0 := List.getElem?_eq_getElem hlt
     have g1 := chRows_get g0
     have h0 : (0 : Int) ≤ (i : Int) := by omega
     have hs := lookP_snoc g0 at_
     refine jf g1 (h := ?_)
     refine jif (h1 := fun hk => ?_) (h2 := fun hk => ?_)
     · rw [if_pos hk] at hs
       refine jf g1 (h := ?_)
       cases ho : r.loose[i].2 with
       | none =>
         rw [ho] at hs
         refine jf ho (h := ?_)
         refine jt (h := ?_)
         refine jr (h := ?_)
         refine jop (ho := rfl) (hh := mk256_op rfl gS gS) (hk := ?_)
         rintro _ _ ⟨rfl, rfl⟩
         refine jr (h := ?_)
         refine jk [1, 2, 5, 6] (h := ?_)
         refine ih _ _ _ ?_ ⟨i + 1, by omega, rfl, rfl, ?_⟩
         · omega
         · rw [hs]; rfl
       | some b =>
         rw [ho] at hs
         refine jf ho (h := ?_)
         refine jn (h := ?_)
         refine jr (h := ?_)
         refine jk [1, 2, 5, 6] (h := ?_)
         refine ih _ _ _ ?_ ⟨i + 1, by omega, rfl, rfl, ?_⟩
         · omega
         · rw [hs]; rfl
     · rw [if_neg hk] at hs
       refine jr (h := ?_)
       refine jk [1, 2, 5, 6] (h := ?_)
       refine ih _ _ _ ?_ ⟨i + 1, by omega, rfl, rfl, ?_⟩
       · omega
       · rw [hs]; rfl
   · have hi' : i = r.loose.length := by omega
     subst hi'
     refine jr (h := ?_)
     refine jret Tryz.func113 (h := ⟨by rw [lookP_all], rfl⟩)
theorem read04_ok (r : Fl) (at_ : Int) (h1 : r.safe.length < 2 ^ 60) (h2 : r.loose.length < 2 ^ 60) : ACalls Tryz.prog 159 [rAV r, .c (.int .i64 at_)] []
   (Ret (.tup [if checkF r at_ = 0 then .sl 1 (bytesRows (lookB r at_)) else .c (.slice none 0 0), .c (.int .i64 (checkF r at_))])) := by
 have hk := check04_ok r at_
 have hl := look04_ok r at_ h1 h2
 unfold rAV at *
 refine jen cl_159 Tryz.func159 (h := ?_)
 refine jr (h := ?_)
 refine jc (hs := hk) (hk := ?_)
 refine jr (h := ?_)
 refine jif (h1 := fun hc => ?_) (h2 := fun hc => ?_)
 · refine jr (h := ?_)
   refine jret Tryz.func159 (h := ⟨by rw [if_neg hc], rfl⟩)
 · have hc0 : checkF r at_ = 0 := by omega
   refine jr (h := ?_)
   refine jc (hs := hl) (hk := ?_)
   refine jr (h := ?_)
   refine jret Tryz.func159 (h := ⟨by rw [if_pos hc0, hc0], rfl⟩)
def lowC (l : List (Int × List UInt8)) (at_ : Int) : Nat := (l.takeWhile fun p => decide (p.1 < at_)).length
theorem lowC_eq {l : List (Int × List UInt8)} {at_ : Int} {i : Nat} (h1 : ∀ j, j < i → ∀ p, l[j]? = some p → p.1 < at_) (h2 : i = l.length ∨ ∃ p, l[i]? = some p ∧ ¬ p.1 < at_) : lowC l at_ = i := by
 induction l generalizing i with
 | nil =>
   rcases h2 with rfl | ⟨p, h, _⟩
   · rfl
   · simp at h
 | cons q l ih =>
   unfold lowC at ih ⊢
   cases i with
   | zero =>
     rcases h2 with h | ⟨p, h, hn⟩
     · simp at h
     · simp at h; subst h
       rw [List.takeWhile_cons, if_neg (by simpa using hn)]; rfl
   | succ i =>
     have h0 := h1 0 (by omega) q rfl
     rw [List.takeWhile_cons, if_pos (by simpa using h0), List.length_cons, ih (i := i)]
     · exact fun j hj p hp => h1 (j + 1) (by omega) p (by simpa using hp)
     · rcases h2 with h | ⟨p, h, hn⟩
       · left; simpa using h
       · right; exact ⟨p, by simpa using h, hn⟩
def hitC (l : List (Int × List UInt8)) (at_ : Int) (i : Nat) : Bool := match l[i]? with
 | some p => decide (p.1 = at_)
 | none => false
def putC (l : List (Int × List UInt8)) (at_ : Int) (b : List UInt8) : List (Int × List UInt8) :=
 l.take (lowC l at_) ++ (if blankB b then [] else [(at_, b)]) ++ l.drop (lowC l at_ + (if hitC l at_ (lowC l at_) then 1 else 0))
theorem cellRows_app (a b : List (Int × List UInt8)) : cellRows (a ++ b) = cellRows a ++ cellRows b := by simp [cellRows]
theorem cellRows_drop (l : List (Int × List UInt8)) (n : Nat) : (cellRows l).drop n = cellRows (l.drop n) := by simp [cellRows, List.map_drop]
theorem cellRows_cell (l : List (Int × List UInt8)) : (cellRows l).flatten.all AV.isCell = true := by
 induction l with
 | nil => rfl
 | cons p l ih => simp only [cellRows, List.map_cons, List.flatten_cons, List.all_append, cellRow] at ih ⊢; rw [ih]; rfl
theorem own_app {e : TypeId} {a b : List (Int × List UInt8)} {v : Value} {D : List HP} (h : Own e 2 ((cellRows a).flatten ++ (cellRows b).flatten) (a.length + b.length) v D) : Own e 2 (cellRows (a ++ b)).flatten (a ++ b).length v D := by
 rw [cellRows_app, List.flatten_append, List.length_append]; exact h
theorem put04_ok (l : List (Int × List UInt8)) (at_ : Int) (b : List UInt8) (hl : l.length < 2 ^ 30) (hb : b.length < 2 ^ 37) : ACalls Tryz.prog 169 [.sl 2 (cellRows l), .c (.int .i64 at_), .sl 1 (bytesRows b)] [] (Ret (.sl 2 (cellRows (putC l at_ b)))) := by
 refine jen cl_169 Tryz.func169 (h := ?_)
 refine jr (h := ?_)
 refine jk [0, 1, 2, 7, 8] (h := ?_)
 refine J_loopI (I := fun m e D => ∃ (i : Nat) (v : Value), i ≤ l.length ∧ m = l.length - i ∧ (∀ j, j < i → ∀ p, l[j]? = some p → p.1 < at_) ∧ Own 137 2 (cellRows (l.take i)).flatten (l.take i).length v D ∧ e = [(0, .sl 2 (cellRows l)), (1, .c (.int .i64 at_)), (2, .sl 1 (bytesRows b)), (7, .c v), (8, .c (.int .i64 i))]) ?_ ?_
 · exact ⟨_, 0, .slice none 0 0, by omega, rfl, fun j hj => by omega, .nil none rfl rfl, rfl⟩
 · rintro m e D ⟨i, v, hi, rfl, hlow, how, rfl⟩ ih
   have h0 : (0 : Int) ≤ (i : Int) := by omega
   obtain ⟨hlt, hk⟩ | ⟨hlt, hk⟩ | hlt : (∃ h : i < l.length, l[i].1 < at_) ∨ (∃ h : i < l.length, ¬ l[i].1 < at_) ∨ ¬ i < l.length := by
     by_cases h : i < l.length
     · by_cases h2 : l[i].1 < at_
       · exact .inl ⟨h, h2⟩
       · exact .inr (.inl ⟨h, h2⟩)
     · exact .inr (.inr h)
   · have g0 := List.getElem?_eq_getElem hlt
     have g1 := cellRows_get g0
     have d1 := decide_eq_true (show (i : Int) < (l.length : Int) by omega)
     have d2 := decide_eq_true hk
     have hti : l.take (i + 1) = l.take i ++ [l[i]] := by rw [List.take_add_one, g0]; rfl
     refine jf (cB d1 d2 g1) (h := ?_)
     refine jt (h := ?_)
     refine jf (own := [28]) g1 (h := ?_)
     refine jap (Fr := []) (how := how) (hp := (by simp)) (hsrc := (by simp only [go_sem, srcOf] <;> rfl)) (hc := (by rfl)) (hmax := (by rw [List.length_take]; omega)) (hk := ?_)
     rintro _ D2 ⟨v2, _, rfl, rfl, how2⟩
     refine jr (h := ?_)
     refine jk [0, 1, 2, 7, 8] (h := ?_)
     refine ih _ _ _ ?_ ⟨i + 1, v2, by omega, rfl, ?_, ?_, rfl⟩
     · omega
     · intro j hj p hp
       by_cases hji : j = i
       · subst hji; rw [g0] at hp; cases hp; exact hk
       · exact hlow j (by omega) p hp
     · rw [hti]; exact own_app (b := [l[i]]) how2
   have g0 := List.getElem?_eq_getElem hlt
   have g1 := cellRows_get g0
   have d1 := decide_eq_true (show (i : Int) < (l.length : Int) by omega)
   have d2 := decide_eq_false hk
   have hlo : lowC l at_ = i := lowC_eq hlow (.inr ⟨_, g0, hk⟩)
   refine jf (cB d1 d2 g1) (h := ?_)
   refine jn (h := ?_)
   refine jk [0, 1, 2, 7, 8] (h := ?_)
   clear g0 g1 d1 d2 hk hlt
   rotate_left
   have hlo : lowC l at_ = i := lowC_eq hlow (.inl (by omega))
   have d1 := decide_eq_false (show ¬ (i : Int) < (l.length : Int) by omega)
   refine jf d1 (h := ?_)
   refine jn (h := ?_)
   refine jk [0, 1, 2, 7, 8] (h := ?_)
   clear d1 hlt
   all_goals
     refine jr (h := ?_)
     refine jc (hs := blank04_ok b (by omega)) (hk := ?_)
     refine jr (h := ?_)
     have hpc : putC l at_ b = l.take i ++ (if blankB b then [] else [(at_, b)]) ++ l.drop (i + (if hitC l at_ i then 1 else 0)) := by unfold putC; rw [hlo]
     rw [hpc]
     rcases hbl : blankB b with _ | _
     refine jt (h := ?_)
     refine jr (own := [39]) (h := ?_)
     refine jap (Fr := []) (how := how) (hp := (by simp)) (hsrc := (by simp only [go_sem, srcOf] <;> rfl)) (hc := (by rfl)) (hmax := (by rw [List.length_take]; omega)) (hk := ?_)
     rintro _ D2 ⟨v2, _, rfl, rfl, how2⟩
     have how8 : Own 137 2 (cellRows (l.take i ++ (if false = true then [] else [(at_, b)]))).flatten (l.take i ++ (if false = true then [] else [(at_, b)])).length v2 D2 := own_app (b := [(at_, b)]) how2
     have hl8 : (l.take i ++ (if false = true then [] else [(at_, b)])).length ≤ i + 1 := by simp only [Bool.false_eq_true, if_false, List.length_append, List.length_take, List.length_cons, List.length_nil]; omega
     refine jm 1 (h := ?_)
     refine jk [0, 1, 7, 8] (h := ?_)
     rotate_left
     refine jn (h := ?_)
     have how8 : Own 137 2 (cellRows (l.take i ++ (if true = true then [] else [(at_, b)]))).flatten (l.take i ++ (if true = true then [] else [(at_, b)])).length v D := by rw [if_pos rfl, List.append_nil]; exact how
     have hl8 : (l.take i ++ (if true = true then [] else [(at_, b)])).length ≤ i + 1 := by simp only [if_true, List.append_nil, List.length_take]; omega
     refine jk [0, 1, 7, 8] (h := ?_)
     all_goals
       generalize hX : l.take i ++ _ = X at how8 hl8 ⊢
       have hcut : ∀ k, List.drop k (List.take l.length (cellRows l)) = cellRows (l.drop k) := fun k => by rw [List.take_of_length_le (by rw [cellRows_len]; exact Nat.le_refl _), cellRows_drop]
       have hto : ((i : Int) + 1).toNat = i + 1 := by omega
       obtain ⟨hlt, hk⟩ | ⟨hlt, hk⟩ | hlt : (∃ h : i < l.length, l[i].1 = at_) ∨ (∃ h : i < l.length, ¬ l[i].1 = at_) ∨ ¬ i < l.length := by
         by_cases h : i < l.length
         · by_cases h2 : l[i].1 = at_
           · exact .inl ⟨h, h2⟩
           · exact .inr (.inl ⟨h, h2⟩)
         · exact .inr (.inr h)
       have g0 := List.getElem?_eq_getElem hlt
       have g1 := cellRows_get g0
       have d1 := decide_eq_true (show (i : Int) < (l.length : Int) by omega)
       have d2 := decide_eq_true hk
       have hh : hitC l at_ i = true := by unfold hitC; rw [g0]; exact d2
       rw [hh, if_pos rfl]
       refine jf (cB d1 d2 g1) (h := ?_)
       refine jt (h := ?_)
       refine jf (own := [59]) (cA hcut hto) (h := ?_)
       rotate_left
       have g0 := List.getElem?_eq_getElem hlt
       have g1 := cellRows_get g0
       have d1 := decide_eq_true (show (i : Int) < (l.length : Int) by omega)
       have d2 := decide_eq_false hk
       have hh : hitC l at_ i = false := by unfold hitC; rw [g0]; exact d2
       rw [hh, if_neg (by decide)]
       refine jf (cB d1 d2 g1) (h := ?_)
       refine jn (h := ?_)
       refine jf (own := [59]) (cA hcut hto) (h := ?_)
       rotate_left
       have d1 := decide_eq_false (show ¬ (i : Int) < (l.length : Int) by omega)
       have hh : hitC l at_ i = false := by unfold hitC; rw [List.getElem?_eq_none (by omega)]
       rw [hh, if_neg (by decide)]
       refine jf d1 (h := ?_)
       refine jn (h := ?_)
       refine jf (own := [59]) (cA hcut hto) (h := ?_)
       all_goals
         refine jap (Fr := []) (how := how8) (hp := (by simp)) (hsrc := (by simp only [go_sem, srcOf] <;> rfl)) (hc := (cellRows_cell _)) (hmax := (by rw [List.length_drop]; omega)) (hk := ?_)
         rintro _ D9 ⟨v9, _, rfl, rfl, how9⟩
         have how10 := own_app how9
         obtain ⟨a9, c9, rfl⟩ := how10.slice
         refine jr (h := ?_)
         refine J_freezeS (rows := cellRows _) (Fr := []) (by rw [cellRows_len]; exact how10) (cellRows_row _) (by rw [cellRows_len, List.length_append, List.length_drop]; unfold maxRows; omega) ?_
         refine J_is (t := 6) (by simp only [go_sem] <;> rfl) (List.mem_cons_self ..) (J_drop ?_)
         refine jret Tryz.func169 (h := ⟨rfl, rfl⟩)
end
section
attribute [local go_sem] packed List.set_cons_zero List.set_cons_succ List.cons_append List.nil_append bytesRows_length cellRows_len chRows_len rCells intRows_len
attribute [-go_sem] cellsOf AV.isCell
attribute [local go_sem] cellsOf_agg cellsOf_int cellsOf_bool cellsOf_str cellsOf_map cellsOf_ptr cellsOf_nilI cellsOf_slice cellsOf_sl cellsOf_ifc cellsOf_fp cellsOf_opt optAV_cell icell_int icell_bool icell_str icell_map icell_ptr icell_nilI icell_slice icell_sl icell_ifc icell_fp
def keepN (keep : Int) : Nat := (min keep 256).toNat
def settleC (l : List (Int × List UInt8)) (at_ : Int) (o : Option (List UInt8)) (keep : Int) : List (Int × List UInt8) := match o with
 | none => if keep < 256 then l else putC l at_ z256
 | some b => putC l at_ (b.take (keepN keep) ++ (pageOr l at_).drop (keepN keep))
theorem pageOr_len {l : List (Int × List UInt8)} (h : ∀ p ∈ l, p.2.length = 256) (at_ : Int) : (pageOr l at_).length = 256 := by
 unfold pageOr
 cases hf : findM l at_ with
 | none => simp [z256]
 | some w => exact h _ (mem_find hf)
theorem settle04_ok (l : List (Int × List UInt8)) (at_ : Int) (o : Option (List UInt8)) (keep : Int) (hl : l.length < 2 ^ 30) (hp : ∀ p ∈ l, p.2.length = 256) (ho : ∀ b, o = some b → b.length = 256) :
   ACalls Tryz.prog 118 [.sl 2 (cellRows l), .agg [.c (.int .i64 at_), .sl 1 (bytesRows (o.getD [])), .c (.bool o.isNone)], .c (.int .i64 keep)] [] (Ret (.sl 2 (cellRows (settleC l at_ o keep)))) := by
 cases o with
 | none =>
   refine jen cl_118 Tryz.func118 (h := ?_)
   refine jf True.intro (h := ?_)
   refine jt (h := ?_)
   refine jr (h := ?_)
   refine jif (h1 := fun hk => ?_) (h2 := fun hk => ?_)
   · refine jr (h := ?_)
     refine jret Tryz.func118 (h := ⟨by unfold settleC; simp only; rw [if_pos hk], rfl⟩)
   · refine jr (h := ?_)
     refine jd [(0, .pure), (1, .pure), (2, .pure), (3, .act), (4, .pure), (5, .pure)] mixed (by kernel_rfl) ?_
     refine cr (hk := ?_)
     refine Can_op rfl gN (fun e' ha => mk256_op rfl (agree_eval rfl ha (by simp [Op.operands]) gR) (agree_eval rfl ha (by simp [Op.operands]) gR)) ?_
     rintro _ _ ⟨rfl, rfl⟩
     refine cr (hk := ?_)
     refine ccp (hs := put04_ok l at_ z256 hl (by simp [z256])) (hk := ?_)
     refine cr (hk := ?_)
     refine Can_nil ?_
     refine jret Tryz.func118 (h := ⟨by unfold settleC; simp only; rw [if_neg hk], rfl⟩)
 | some b =>
   have hb := ho b rfl
   have hw := pageOr_len hp at_
   have hS : settleC l at_ (some b) keep = putC l at_ (b.take (keepN keep) ++ (pageOr l at_).drop (keepN keep)) := rfl
   have hkl : keepN keep ≤ 256 := by unfold keepN; omega
   rw [hS]
   refine jen cl_118 Tryz.func118 (h := ?_)
   refine jf True.intro (h := ?_)
   refine jn (h := ?_)
   refine jr (h := ?_)
   refine jc (hs := safe04_ok l at_ (by omega)) (hk := ?_)
   generalize pageOr l at_ = w at hw ⊢
   have hn : (b.take (keepN keep) ++ w.drop (keepN keep)).length = 256 := by rw [List.length_append, List.length_take, List.length_drop]; omega
   have hget : ∀ i : Nat, (h : i < 256) → (b.take (keepN keep) ++ w.drop (keepN keep))[i]? = if (i : Int) < keep then b[i]? else w[i]? := fun i h => by
     by_cases hik : (i : Int) < keep
     · have : i < keepN keep := by unfold keepN; omega
       rw [if_pos hik, List.getElem?_append_left (by rw [List.length_take]; omega), List.getElem?_take_of_lt this]
     · have : keepN keep ≤ i := by unfold keepN; omega
       rw [if_neg hik, List.getElem?_append_right (by rw [List.length_take]; omega), List.getElem?_drop, List.length_take]
       congr 1; omega
   generalize b.take (keepN keep) ++ w.drop (keepN keep) = nb at hn hget ⊢
   refine jr (h := ?_)
   refine jk [0, 2, 4, 7, 8, 9] (h := ?_)
   refine J_loopI (I := fun m e D => ∃ (i : Nat) (v : Value), i ≤ 256 ∧ m = 256 - i ∧ OwnB 5 (nb.take i) v D ∧ e = [(0, .sl 2 (cellRows l)), (2, .c (.int .i64 keep)), (4, .fp [.c (.int .i64 at_), .sl 1 (bytesRows b), .c (.bool false)]), (7, .c v), (8, .sl 1 (bytesRows w)), (9, .c (.int .i64 i))]) ?_ ?_
   · exact ⟨_, 0, .slice none 0 0, by omega, rfl, .nil none rfl rfl, rfl⟩
   · rintro m e D ⟨i, v, hi, rfl, how, rfl⟩ ih
     refine jr (h := ?_)
     refine jif (h1 := fun hc => ?_) (h2 := fun hc => ?_)
     · have hlt : i < 256 := by omega
       have g0 := List.getElem?_eq_getElem (l := nb) (i := i) (by omega)
       have hti : nb.take (i + 1) = nb.take i ++ [nb[i]] := by rw [List.take_add_one, g0]; rfl
       have hg := hget i hlt
       have h0 : (0 : Int) ≤ (i : Int) := by omega
       rw [g0] at hg
       generalize nb[i] = c at hti hg
       refine jr (h := ?_)
       refine jif (h1 := fun hik => ?_) (h2 := fun hik => ?_)
       · rw [if_pos hik] at hg
         have g1 := bytes_get hg.symm
         refine jf (own := [38]) g1 (h := ?_)
         refine jap (Fr := []) (how := how) (hp := (by simp)) (hsrc := (by simp only [go_sem, srcOf] <;> rfl)) (hc := (by rfl)) (hmax := (by rw [List.length_take]; omega)) (hk := ?_)
         rintro _ D2 ⟨v2, _, rfl, rfl, how2⟩
         have how3 : OwnB 5 (nb.take (i + 1)) v2 D2 := by rw [hti]; exact ownB_app (b := [c]) how2
         refine jr (h := ?_)
         refine jk [0, 2, 4, 7, 8, 9] (h := ?_)
         refine ih _ _ _ ?_ ⟨i + 1, v2, by omega, rfl, how3, rfl⟩
         omega
       · rw [if_neg hik] at hg
         have g1 := bytes_get hg.symm
         refine jf (own := [45]) g1 (h := ?_)
         refine jap (Fr := []) (how := how) (hp := (by simp)) (hsrc := (by simp only [go_sem, srcOf] <;> rfl)) (hc := (by rfl)) (hmax := (by rw [List.length_take]; omega)) (hk := ?_)
         rintro _ D2 ⟨v2, _, rfl, rfl, how2⟩
         have how3 : OwnB 5 (nb.take (i + 1)) v2 D2 := by rw [hti]; exact ownB_app (b := [c]) how2
         refine jr (h := ?_)
         refine jk [0, 2, 4, 7, 8, 9] (h := ?_)
         refine ih _ _ _ ?_ ⟨i + 1, v2, by omega, rfl, how3, rfl⟩
         omega
     · have hi' : i = 256 := by omega
       subst hi'
       rw [List.take_of_length_le (by omega)] at how
       refine jr (h := ?_)
       refine J_freezeB (Fr := []) how (by unfold maxRows; omega) ?_
       refine J_is (t := 49) (by simp only [go_sem] <;> rfl) (List.mem_cons_self ..) (J_drop ?_)
       refine jc (hs := put04_ok l at_ nb hl (by omega)) (hk := ?_)
       refine jr (h := ?_)
       refine jret Tryz.func118 (h := ⟨rfl, rfl⟩)
theorem fuse04_ok (r : Fl) (n : Int) : ACalls Tryz.prog 68 [rAV r, .c (.int .i64 n)] [] (Ret (rAV (fuseS r n))) := by
 unfold rAV
 refine jen cl_68 Tryz.func68 (h := ?_)
 refine jr (own := [4, 5]) (h := ?_)
 refine jnv (hh := fun b4 hb4 => ?_)
 refine jr (own := [5]) (h := ?_)
 refine jnv (hh := fun b5 hb5 => ?_)
 simp only [fresh] at hb5
 refine jf hb5 (h := ?_)
 refine jif (h1 := fun hc => ?_) (h2 := fun hc => ?_)
 · have hm : max n (-1) = -1 := by omega
   refine jf hb5 (h := ?_)
   refine J_forget ?_
   refine jretf hb5 Tryz.func68 (h := ⟨by unfold fuseS rCells; simp only [hm], rfl⟩)
 · have hm : max n (-1) = n := by omega
   refine jf hb5 (h := ?_)
   refine J_forget ?_
   refine jretf hb5 Tryz.func68 (h := ⟨by unfold fuseS rCells; simp only [hm], rfl⟩)
theorem putC_page {l : List (Int × List UInt8)} {at_ : Int} {b : List UInt8} (h : ∀ p ∈ l, p.2.length = 256) (hb : b.length = 256) : ∀ p ∈ putC l at_ b, p.2.length = 256 := by
 intro p hp
 unfold putC at hp
 rcases List.mem_append.1 hp with hp | hp
 · rcases List.mem_append.1 hp with hp | hp
   · exact h p (List.take_subset _ _ hp)
   · split at hp
     · cases hp
     · rw [List.mem_singleton.1 hp]; exact hb
 · exact h p (List.drop_subset _ _ hp)
theorem putC_len (l : List (Int × List UInt8)) (at_ : Int) (b : List UInt8) : (putC l at_ b).length ≤ l.length + 1 := by
 unfold putC
 rw [List.length_append, List.length_append, List.length_take, List.length_drop]
 split <;> simp <;> omega
theorem settleC_page {l : List (Int × List UInt8)} {at_ : Int} {o : Option (List UInt8)} {keep : Int} (h : ∀ p ∈ l, p.2.length = 256) (ho : ∀ b, o = some b → b.length = 256) : ∀ p ∈ settleC l at_ o keep, p.2.length = 256 := by
 cases o with
 | none =>
   unfold settleC
   simp only
   split
   · exact h
   · exact putC_page h (by simp [z256])
 | some b =>
   refine putC_page h ?_
   have hb := ho b rfl
   have hw := pageOr_len h at_
   have hkl : keepN keep ≤ 256 := by unfold keepN; omega
   rw [List.length_append, List.length_take, List.length_drop]; omega
theorem settleC_len (l : List (Int × List UInt8)) (at_ : Int) (o : Option (List UInt8)) (keep : Int) : (settleC l at_ o keep).length ≤ l.length + 1 := by
 cases o with
 | none =>
   unfold settleC
   simp only
   split
   · omega
   · exact putC_len _ _ _
 | some b => exact putC_len _ _ _
def settleAllC (l : List (Int × List UInt8)) (ls : List (Int × Option (List UInt8))) : List (Int × List UInt8) := ls.foldl (fun m p => settleC m p.1 p.2 256) l
theorem settleAllC_ok : ∀ {ls : List (Int × Option (List UInt8))} {l : List (Int × List UInt8)}, (∀ p ∈ l, p.2.length = 256) → (∀ p ∈ ls, ∀ b, p.2 = some b → b.length = 256) → (∀ p ∈ settleAllC l ls, p.2.length = 256) ∧ (settleAllC l ls).length ≤ l.length + ls.length
 | [], l, h, _ => ⟨h, Nat.le_refl _⟩
 | p :: ls, l, h, h1 => by
   have := settleAllC_ok (ls := ls) (settleC_page (keep := 256) (at_ := p.1) h (h1 p (by simp))) (fun q hq => h1 q (by simp [hq]))
   have h2 := settleC_len l p.1 p.2 256
   exact ⟨this.1, by have h3 := this.2; unfold settleAllC at h3 ⊢; simp only [List.foldl_cons, List.length_cons]; omega⟩
def settleKeepC (l : List (Int × List UInt8)) : List (Int × Option (List UInt8)) → List Int → List (Int × List UInt8)
 | p :: ls, k :: ks => settleKeepC (settleC l p.1 p.2 k) ls ks
 | _, _ => l
theorem settleKeepC_ok : ∀ {ls : List (Int × Option (List UInt8))} {ks : List Int} {l : List (Int × List UInt8)}, (∀ p ∈ l, p.2.length = 256) → (∀ p ∈ ls, ∀ b, p.2 = some b → b.length = 256) → (∀ p ∈ settleKeepC l ls ks, p.2.length = 256) ∧ (settleKeepC l ls ks).length ≤ l.length + ls.length
 | [], ks, l, h, _ => ⟨h, Nat.le_refl _⟩
 | p :: ls, [], l, h, _ => ⟨h, Nat.le_add_right _ _⟩
 | p :: ls, k :: ks, l, h, h1 => by
   have := settleKeepC_ok (ls := ls) (ks := ks) (settleC_page (keep := k) (at_ := p.1) h (h1 p (by simp))) (fun q hq => h1 q (by simp [hq]))
   have h2 := settleC_len l p.1 p.2 k
   exact ⟨this.1, by have h3 := this.2; simp only [settleKeepC, List.length_cons]; omega⟩
theorem settleKeepC_take : ∀ {ls : List (Int × Option (List UInt8))} {ks : List Int} {l : List (Int × List UInt8)} {i : Nat} {p : Int × Option (List UInt8)} {k : Int}, ls[i]? = some p → ks[i]? = some k →
   settleKeepC l (ls.take (i + 1)) ks = settleC (settleKeepC l (ls.take i) ks) p.1 p.2 k
 | [], _, _, _, _, _, h, _ => by simp at h
 | _ :: _, [], _, _, _, _, _, h => by simp at h
 | q :: ls, k' :: ks, l, 0, p, k, h1, h2 => by
   simp at h1 h2; subst h1 h2
   cases ls <;> simp [settleKeepC]
 | q :: ls, k' :: ks, l, i + 1, p, k, h1, h2 => by
   simp only [List.take_succ_cons, settleKeepC]
   exact settleKeepC_take (by simpa using h1) (by simpa using h2)
theorem settleKeepC_stop : ∀ {ls : List (Int × Option (List UInt8))} {ks : List Int} {l : List (Int × List UInt8)} {i : Nat}, (ls.length ≤ i ∨ ks.length ≤ i) → settleKeepC l (ls.take i) ks = settleKeepC l ls ks
 | [], ks, l, i, h => by simp
 | q :: ls, [], l, i, h => by cases i <;> simp [settleKeepC]
 | q :: ls, k :: ks, l, 0, h => by simp at h
 | q :: ls, k :: ks, l, i + 1, h => by
   simp only [List.take_succ_cons, settleKeepC]
   exact settleKeepC_stop (by simpa using h)
structure Fl.R (r : Fl) : Prop where
 page : ∀ p ∈ r.safe, p.2.length = 256
 lpage : ∀ p ∈ r.loose, ∀ b, p.2 = some b → b.length = 256
 len : r.safe.length + r.loose.length < 2 ^ 29
 w : r.WF'
def flush04S (r : Fl) : Fl := if r.down = true then r else if burnB r then burnS r else { burnS r with safe := settleAllC r.safe r.loose, loose := [] }
theorem flush04_ok (r : Fl) (h : r.R) : ACalls Tryz.prog 168 [rAV r] [] (Ret (.tup [rAV (flush04S r), .c (.int .i64 (flushC r))])) := by
 unfold rAV
 cases hd : r.down with
 | true =>
   have hC : flushC r = 11 := by unfold flushC; rw [if_pos hd]
   have hS : flush04S r = r := by unfold flush04S; rw [if_pos hd]
   refine jen cl_168 Tryz.func168 (h := ?_)
   refine jf (own := [2]) hd (h := ?_)
   refine jnv (hh := fun b2 hb2 => ?_)
   refine jf hd (h := ?_)
   refine jt (h := ?_)
   refine jr (h := ?_)
   refine J_forget ?_
   refine jret Tryz.func168 (h := ⟨by rw [hC, hS]; unfold rCells; rw [hd], rfl⟩)
 | false =>
   have hbn := burns04_ok r hd h.w
   unfold rAV at hbn
   have q1 := burnS_loose r
   have q2 := burnS_safe r
   have hlen := h.len
   refine jen cl_168 Tryz.func168 (h := ?_)
   refine jf (own := [2]) hd (h := ?_)
   refine jnv (hh := fun b2 hb2 => ?_)
   refine jf hd (h := ?_)
   refine jn (h := ?_)
   refine jr (h := ?_)
   have hre : ([.c (.int .i64 r.pages), .sl 2 (cellRows r.safe), .sl 3 (chRows r.loose), .c (.int .i64 r.fuse), .c (.bool false), .c (.int .i64 r.done)] : List AV) = rCells r := by unfold rCells; rw [hd]
   rw [hre]
   refine jc (hs := hbn) (hk := ?_)
   cases hb : burnB r with
   | true =>
     have hC : flushC r = 11 := by unfold flushC; rw [if_neg (by simp [hd]), hb]; rfl
     have hS : flush04S r = burnS r := by unfold flush04S; rw [if_neg (by simp [hd]), hb]; rfl
     refine jr (own := [4]) (h := ?_)
     refine jnv (hh := fun b4 hb4 => ?_)
     simp only [fresh] at hb4
     refine jf hb4 (h := ?_)
     refine jt (h := ?_)
     refine jf hb4 (h := ?_)
     refine J_forget ?_
     refine jretf hb4 Tryz.func168 (h := ⟨by rw [hC, hS]; rfl, rfl⟩)
   | false =>
     have hC : flushC r = 0 := by unfold flushC; rw [if_neg (by simp [hd]), hb]; rfl
     have hS : flush04S r = { burnS r with safe := settleAllC r.safe r.loose, loose := [] } := by unfold flush04S; rw [if_neg (by simp [hd]), hb]; rfl
     rw [hC, hS]
     have hc1 : rCells (burnS r) = [.c (.int .i64 (burnS r).pages), .sl 2 (cellRows r.safe), .sl 3 (chRows r.loose), .c (.int .i64 (burnS r).fuse), .c (.bool (burnS r).down), .c (.int .i64 (burnS r).done)] := by unfold rCells; rw [q1, q2]
     rw [hc1]
     generalize burnS r = s1 at *
     refine jr (own := [4]) (h := ?_)
     refine jnv (hh := fun b4 hb4 => ?_)
     simp only [fresh] at hb4
     refine jf hb4 (h := ?_)
     refine jn (h := ?_)
     refine jr (h := ?_)
     refine jk [1, 2, 4, 6] (h := ?_)
     refine J_loopI (I := fun m e D => ∃ i : Nat, i ≤ r.loose.length ∧ m = r.loose.length - i ∧ D = [.box b4 49 [.c (.int .i64 s1.pages), .sl 2 (cellRows (settleAllC r.safe (r.loose.take i))), .sl 3 (chRows r.loose), .c (.int .i64 s1.fuse), .c (.bool s1.down), .c (.int .i64 s1.done)], .box b2 49 [.c (.int .i64 0), .c (.slice none 0 0), .c (.slice none 0 0), .c (.int .i64 0), .c (.bool false), .c (.int .i64 0)]] ∧ e = [(1, .fp (rCells r)), (2, .c (.pointer (some ⟨b2, 0, none⟩))), (4, .c (.pointer (some ⟨b4, 0, none⟩))), (6, .c (.int .i64 i))]) ?_ ?_
     · exact ⟨_, 0, by omega, rfl, rfl, rfl⟩
     · rintro m e D ⟨i, hi, rfl, rfl, rfl⟩ ih
       refine jr (h := ?_)
       refine jif (h1 := fun hc => ?_) (h2 := fun hc => ?_)
       · have hlt : i < r.loose.length := by omega
         have g0 := List.getElem?_eq_getElem hlt
         have g1 := chRows_get g0
         have h0 : (0 : Int) ≤ (i : Int) := by omega
         have hso := settleAllC_ok (ls := r.loose.take i) h.page (fun p hp => h.lpage p (List.take_subset _ _ hp))
         have hsl := settle04_ok (settleAllC r.safe (r.loose.take i)) r.loose[i].1 r.loose[i].2 256 (by have := hso.2; rw [List.length_take] at this; omega) hso.1 (h.lpage _ (List.getElem_mem hlt))
         have hst : settleC (settleAllC r.safe (r.loose.take i)) r.loose[i].1 r.loose[i].2 256 = settleAllC r.safe (r.loose.take (i + 1)) := by
           unfold settleAllC; rw [List.take_add_one, g0, List.foldl_append]; rfl
         rw [hst] at hsl
         refine jr (h := ?_)
         refine jd [(0, .pure), (1, .read), (2, .pure), (3, .pure), (4, .pure), (5, .pure), (6, .pure), (7, .pure), (8, .pure), (9, .act)] mixed (by kernel_rfl) ?_
         refine cf (cA hb4 g1) (hk := ?_)
         refine ccp (hs := hsl) (hk := ?_)
         refine cf hb4 (hk := ?_)
         refine Can_nil ?_
         refine jf hb4 (h := ?_)
         refine jk [1, 2, 4, 6] (h := ?_)
         refine ih _ _ _ ?_ ⟨i + 1, by omega, rfl, rfl, rfl⟩
         omega
       · have hi' : i = r.loose.length := by omega
         subst hi'
         rw [List.take_length]
         refine jf hb4 (h := ?_)
         refine J_perm (List.Perm.swap _ _ _) ?_
         refine J_nilBox 2 3 (by simp only [go_sem]) ?_
         simp only [go_sem]
         refine J_forget ?_
         refine jret Tryz.func168 (h := ⟨rfl, rfl⟩)
def crash04S (r : Fl) (keep : List Int) : Fl := { r with safe := settleKeepC r.safe r.loose keep, loose := [], down := false, fuse := -1 }
theorem crash04_ok (r : Fl) (h : r.R) (keep : List Int) (hk : keep.length < 2 ^ 37) : ACalls Tryz.prog 70 [rAV r, .sl 1 (intRows keep)] [] (Ret (rAV (crash04S r keep))) := by
 unfold rAV
 have hlen := h.len
 refine jen cl_70 Tryz.func70 (h := ?_)
 refine jr (own := [4, 5]) (h := ?_)
 refine jnv (hh := fun b2 hb2 => ?_)
 refine jr (own := [5]) (h := ?_)
 refine jnv (hh := fun b4 hb4 => ?_)
 simp only [fresh] at hb4
 refine jf hb4 (h := ?_)
 refine jk [1, 2, 4, 5, 6] (h := ?_)
 refine J_loopI (I := fun m e D => ∃ i : Nat, i ≤ r.loose.length ∧ m = r.loose.length - i ∧ D = [.box b4 49 [.c (.int .i64 r.pages), .sl 2 (cellRows (settleKeepC r.safe (r.loose.take i) keep)), .sl 3 (chRows r.loose), .c (.int .i64 r.fuse), .c (.bool r.down), .c (.int .i64 r.done)], .box b2 49 [.c (.int .i64 0), .c (.slice none 0 0), .c (.slice none 0 0), .c (.int .i64 0), .c (.bool false), .c (.int .i64 0)]] ∧ e = [(1, .sl 1 (intRows keep)), (2, .fp (rCells r)), (4, .c (.pointer (some ⟨b2, 0, none⟩))), (5, .c (.pointer (some ⟨b4, 0, none⟩))), (6, .c (.int .i64 i))]) ?_ ?_
 · exact ⟨_, 0, by omega, rfl, by cases keep <;> rfl, rfl⟩
 · rintro m e D ⟨i, hi, rfl, rfl, rfl⟩ ih
   have h0 : (0 : Int) ≤ (i : Int) := by omega
   by_cases hlt : i < r.loose.length
   · have d1 := decide_eq_true (show (i : Int) < (r.loose.length : Int) by omega)
     by_cases hki : i < keep.length
     · have d2 := decide_eq_true (show (i : Int) < (keep.length : Int) by omega)
       have g0 := List.getElem?_eq_getElem hlt
       have g1 := chRows_get g0
       have gk := List.getElem?_eq_getElem hki
       have gk1 := int_get gk
       have hso := settleKeepC_ok (ls := r.loose.take i) (ks := keep) h.page (fun p hp => h.lpage p (List.take_subset _ _ hp))
       have hsl := settle04_ok (settleKeepC r.safe (r.loose.take i) keep) r.loose[i].1 r.loose[i].2 keep[i] (by have := hso.2; rw [List.length_take] at this; omega) hso.1 (h.lpage _ (List.getElem_mem hlt))
       rw [← settleKeepC_take g0 gk] at hsl
       refine jf (cA d1 d2) (h := ?_)
       refine jt (h := ?_)
       refine jr (h := ?_)
       refine jd [(0, .pure), (1, .read), (2, .pure), (3, .pure), (4, .pure), (5, .pure), (6, .pure), (7, .pure), (8, .pure), (9, .pure), (10, .pure), (11, .pure), (12, .pure), (13, .act)] mixed (by kernel_rfl) ?_
       refine cf (cB hb4 g1 gk1) (hk := ?_)
       refine ccp (hs := hsl) (hk := ?_)
       refine cf hb4 (hk := ?_)
       refine Can_nil ?_
       refine jf hb4 (h := ?_)
       refine jk [1, 2, 4, 5, 6] (h := ?_)
       refine ih _ _ _ ?_ ⟨i + 1, by omega, rfl, rfl, rfl⟩
       omega
     · have d2 := decide_eq_false (show ¬ (i : Int) < (keep.length : Int) by omega)
       have hst := settleKeepC_stop (ls := r.loose) (ks := keep) (l := r.safe) (i := i) (.inr (by omega))
       rw [hst]
       refine jf (cA d1 d2) (h := ?_)
       refine jn (h := ?_)
       refine jf hb4 (h := ?_)
       refine J_perm (List.Perm.swap _ _ _) ?_
       refine J_nilBox 2 3 (by simp only [go_sem]) ?_
       simp only [go_sem]
       refine J_forget ?_
       refine jret Tryz.func70 (h := ⟨rfl, rfl⟩)
   · have d1 := decide_eq_false (show ¬ (i : Int) < (r.loose.length : Int) by omega)
     have hst := settleKeepC_stop (ls := r.loose) (ks := keep) (l := r.safe) (i := i) (.inl (by omega))
     rw [hst]
     refine jf d1 (h := ?_)
     refine jn (h := ?_)
     refine jf hb4 (h := ?_)
     refine J_perm (List.Perm.swap _ _ _) ?_
     refine J_nilBox 2 3 (by simp only [go_sem]) ?_
     simp only [go_sem]
     refine J_forget ?_
     refine jret Tryz.func70 (h := ⟨rfl, rfl⟩)
end
section
attribute [local go_sem] packed List.set_cons_zero List.set_cons_succ List.cons_append List.nil_append bytesRows_length cellRows_len chRows_len rCells intRows_len
attribute [-go_sem] cellsOf AV.isCell
attribute [local go_sem] cellsOf_agg cellsOf_int cellsOf_bool cellsOf_str cellsOf_map cellsOf_ptr cellsOf_nilI cellsOf_slice cellsOf_sl cellsOf_ifc cellsOf_fp cellsOf_opt optAV_cell icell_int icell_bool icell_str icell_map icell_ptr icell_nilI icell_slice icell_sl icell_ifc icell_fp
theorem chRows_cell (l : List (Int × Option (List UInt8))) : (chRows l).flatten.all AV.isCell = true := by
 induction l with
 | nil => rfl
 | cons p l ih => simp only [chRows, List.map_cons, List.flatten_cons, List.all_append, chRow] at ih ⊢; rw [ih]; rfl
theorem change04_ok (r : Fl) (hd : r.down = false) (hw : r.WF') (hl : r.loose.length < 2 ^ 29) (at_ : Int) (o : Option (List UInt8)) : ACalls Tryz.prog 204 [rAV r, .agg [.c (.int .i64 at_), .sl 1 (bytesRows (o.getD [])), .c (.bool o.isNone)]] []
   (Ret (.tup [rAV (changeS r at_ o), .c (.int .i64 (changeC r))])) := by
 have hbn := burns04_ok { r with loose := r.loose ++ [(at_, o)] } hd ⟨hw.f1, hw.f2, hw.d1, hw.d2⟩
 have hch : changeS r at_ o = burnS { r with loose := r.loose ++ [(at_, o)] } := rfl
 have hbb : burnB { r with loose := r.loose ++ [(at_, o)] } = burnB r := rfl
 rw [hbb, ← hch] at hbn
 unfold rAV at *
 clear hch
 generalize changeS r at_ o = s at *
 refine jen cl_204 Tryz.func204 (h := ?_)
 refine jr (own := [4, 6]) (h := ?_)
 refine jnv (hh := fun b4 hb4 => ?_)
 refine jr (own := [6]) (h := ?_)
 refine jnv (hh := fun b6 hb6 => ?_)
 simp only [fresh] at hb6
 refine jf (own := [15]) hb6 (h := ?_)
 refine J_wk (t := 12) (y := .sl0) (by simp only [go_sem]) nil_sl0 ?_
 refine jbi (hb := append0_bi gS (by simp only [go_sem, srcOf] <;> rfl) (chRows_cell _) (by omega)) (hk := ?_)
 rintro _ _ ⟨v, D, rfl, rfl, how⟩
 obtain ⟨va, vc, rfl⟩ := how.slice
 refine jf (own := [21]) hb6 (h := ?_)
 refine jap (Fr := [_, _]) (how := how) (hp := (by first | exact List.Perm.refl _ | exact List.perm_append_comm)) (hsrc := (by simp only [go_sem, srcOf] <;> rfl)) (hc := (by rfl)) (hmax := (by omega)) (hk := ?_)
 rintro _ _ ⟨v2, D2, rfl, rfl, how2⟩
 have how3 : Own 218 3 (chRows (r.loose ++ [(at_, o)])).flatten (chRows (r.loose ++ [(at_, o)])).length v2 D2 := by
   rw [chRows_len, List.length_append]
   simp only [chRows, List.map_append, List.flatten_append] at how2 ⊢; exact how2
 obtain ⟨v2a, v2c, rfl⟩ := how3.slice
 refine jmf 2 hb6 (h := ?_)
 refine J_freezeS (Fr := [_, _]) how3 (chRows_row _) (by rw [chRows_len, List.length_append]; unfold maxRows; simp only [List.length_cons, List.length_nil]; omega) ?_
 refine J_isBox (Fr := [_]) 2 (by rw [chRows_len]; rfl) (List.Perm.refl _) (J_perm (List.Perm.swap _ _ _) (J_drop ?_))
 simp only [go_sem]
 simp only [rCells] at hbn
 refine jr (h := ?_)
 refine jc (hs := hbn) (hk := ?_)
 refine jf (own := [7]) hb6 (h := ?_)
 refine jnv (hh := fun b7 hb7 => ?_)
 simp only [fresh] at hb7
 have hcc : changeC r = if burnB r then 11 else 0 := rfl
 cases hb : burnB r with
 | true =>
   rw [hb] at hcc
   refine jf (cB hb hb7 hb6) (h := ?_)
   refine jt (h := ?_)
   refine jf (cA hb7 hb6) (h := ?_)
   refine J_forget ?_
   refine jretf (cA hb7 hb6) Tryz.func204 (h := ⟨by rw [hcc]; rfl, rfl⟩)
 | false =>
   rw [hb] at hcc
   refine jf (cB hb hb7 hb6) (h := ?_)
   refine jn (h := ?_)
   refine jf (cA hb7 hb6) (h := ?_)
   refine J_forget ?_
   refine jretf (cA hb7 hb6) Tryz.func204 (h := ⟨by rw [hcc]; rfl, rfl⟩)
def upto (n : Nat) : List Int := (List.range n).map fun i : Nat => (i : Int)
theorem upto_succ (n : Nat) : upto (n + 1) = upto n ++ [(n : Int)] := by simp [upto, List.range_succ]
theorem all04_ok (r : Fl) (hp : 0 ≤ r.pages ∧ r.pages ≤ 4096) (hw : ∀ at_, (lookB r at_).length = 256) (h1 : r.safe.length < 2 ^ 60) (h2 : r.loose.length < 2 ^ 60) : ACalls Tryz.prog 66 [rAV r] [] (Ret (.sl 2 (cellRows (cellsAt r (upto r.pages.toNat))))) := by
 have hlk := fun at_ => look04_ok r at_ h1 h2
 unfold rAV at *
 have hpp : r.pages = (r.pages.toNat : Int) := by omega
 have hpn : r.pages.toNat ≤ 4096 := by omega
 generalize r.pages.toNat = n at hpp hpn ⊢
 refine jen cl_66 Tryz.func66 (h := ?_)
 refine jr (h := ?_)
 refine jk [1, 3, 4] (h := ?_)
 refine J_loopI (I := fun m e D => ∃ (i : Nat) (v : Value), i ≤ n ∧ m = n - i ∧ Own 137 2 (cellRows (cellsAt r (upto i))).flatten (cellsAt r (upto i)).length v D ∧ e = [(1, .fp (rCells r)), (3, .c v), (4, .c (.int .i64 i))]) ?_ ?_
 · exact ⟨_, 0, .slice none 0 0, by omega, rfl, .nil none rfl rfl, rfl⟩
 · rintro m e D ⟨i, v, hi, rfl, how, rfl⟩ ih
   have hcl : (cellsAt r (upto i)).length ≤ i := by
     unfold cellsAt
     refine Nat.le_trans (List.length_filter_le _ _) ?_
     simp [upto]
   have hsn := cellsAt_snoc r (upto i) i
   rw [← upto_succ] at hsn
   refine jf hpp (h := ?_)
   refine jif (h1 := fun hc => ?_) (h2 := fun hc => ?_)
   · have hlt : i < n := by omega
     have hwi := hw i
     have hlki := hlk i
     unfold rCells at hlki
     rw [hpp] at hlki
     refine jr (h := ?_)
     refine jcs (Δ1 := []) (Fr := D) (hs := hlki) (hp := (List.Perm.refl _)) (hk := ?_) (hpan := (by rintro x Δ' ⟨e, _⟩; cases e))
     rintro x _ ⟨e, rfl⟩
     cases e
     refine jr (h := ?_)
     refine jcs (Δ1 := []) (Fr := D) (hs := (blank04_ok (lookB r i) (by omega))) (hp := (List.Perm.refl _)) (hk := ?_) (hpan := (by rintro x Δ' ⟨e, _⟩; cases e))
     rintro x _ ⟨e, rfl⟩
     cases e
     cases hb : blankB (lookB r i) with
     | true =>
       rw [hb, if_pos rfl, List.append_nil] at hsn
       refine jr (h := ?_)
       refine jn (h := ?_)
       refine jr (h := ?_)
       refine jk [1, 3, 4] (h := ?_)
       refine ih _ _ _ ?_ ⟨i + 1, v, by omega, rfl, by rw [hsn]; exact how, ?_⟩
       · omega
       · unfold rCells; rw [hpp]; rfl
     | false =>
       rw [hb, if_neg (by decide)] at hsn
       refine jr (h := ?_)
       refine jt (h := ?_)
       refine jr (own := [23]) (h := ?_)
       refine jap (Fr := []) (how := how) (hp := (by simp)) (hsrc := (by simp only [go_sem, srcOf] <;> rfl)) (hc := (by rfl)) (hmax := (by omega)) (hk := ?_)
       rintro _ D2 ⟨v2, _, rfl, rfl, how2⟩
       refine jr (h := ?_)
       refine jk [1, 3, 4] (h := ?_)
       refine ih _ _ _ ?_ ⟨i + 1, v2, by omega, rfl, ?_, ?_⟩
       · omega
       · rw [hsn]; exact own_app (b := [((i : Int), lookB r i)]) how2
       · unfold rCells; rw [hpp]; rfl
   · have hi' : i = n := by omega
     subst hi'
     obtain ⟨a9, c9, rfl⟩ := how.slice
     refine jr (h := ?_)
     refine J_freezeS (rows := cellRows _) (Fr := []) (by rw [cellRows_len]; exact how) (cellRows_row _) (by rw [cellRows_len]; unfold maxRows; omega) ?_
     refine J_is (t := 2) (by simp only [go_sem] <;> rfl) (List.mem_cons_self ..) (J_drop ?_)
     refine jret Tryz.func66 (h := ⟨rfl, rfl⟩)
end
section
attribute [local go_sem] packed List.set_cons_zero List.set_cons_succ List.cons_append List.nil_append bytesRows_length cellRows_len chRows_len rCells intRows_len
attribute [-go_sem] cellsOf AV.isCell
attribute [local go_sem] cellsOf_agg cellsOf_int cellsOf_bool cellsOf_str cellsOf_map cellsOf_ptr cellsOf_nilI cellsOf_slice cellsOf_sl cellsOf_ifc cellsOf_fp cellsOf_opt optAV_cell icell_int icell_bool icell_str icell_map icell_ptr icell_nilI icell_slice icell_sl icell_ifc icell_fp
theorem write04_ok (r : Fl) (hw : r.WF') (hl : r.loose.length < 2 ^ 29) (at_ : Int) (b : List UInt8) (hb : b.length < 2 ^ 60) : ACalls Tryz.prog 167 [rAV r, .c (.int .i64 at_), .sl 1 (bytesRows b)] [] (Ret (.tup [rAV (writeS r at_ b), .c (.int .i64 (writeC r at_ b.length))])) := by
 have hk := check04_ok r at_
 unfold rAV at *
 by_cases hc : checkF r at_ = 0
 rotate_left
 · have hC : writeC r at_ b.length = checkF r at_ := by unfold writeC; rw [if_pos hc]
   have hS : writeS r at_ b = r := by unfold writeS; rw [if_pos (.inl hc)]
   rw [hC, hS]
   refine jen cl_167 Tryz.func167 (h := ?_)
   refine jr (own := [6]) (h := ?_)
   refine jnv (hh := fun b6 hb6 => ?_)
   refine jr (h := ?_)
   refine jc (hs := hk) (hk := ?_)
   refine jr (h := ?_)
   refine jif (h1 := fun _ => ?_) (h2 := fun hc => absurd (by assumption) hc)
   refine jr (h := ?_)
   refine J_forget ?_
   refine jret Tryz.func167 (h := ⟨rfl, rfl⟩)
 obtain ⟨hd, -⟩ := checkF_rng hc
 have hch := change04_ok r hd hw hl at_ (some b)
 rw [hc] at hk
 unfold rAV at hch
 by_cases hl6 : b.length = 256
 · have hC : writeC r at_ b.length = changeC r := by unfold writeC; rw [if_neg (by simp [hc]), if_neg (by omega)]
   have hS : writeS r at_ b = changeS r at_ (some b) := by unfold writeS; rw [if_neg (by simp [hc, hl6])]
   rw [hC, hS]
   generalize changeS r at_ (some b) = s at *
   simp only [Option.getD_some, Option.isNone_some] at hch
   refine jen cl_167 Tryz.func167 (h := ?_)
   refine jr (own := [6]) (h := ?_)
   refine jnv (hh := fun b6 hb6 => ?_)
   refine jr (h := ?_)
   refine jc (hs := hk) (hk := ?_)
   refine jr (h := ?_)
   refine jif (h1 := fun hc => absurd hc (by first | omega | simp)) (h2 := fun _ => ?_)
   refine jr (h := ?_)
   refine jif (h1 := fun hc => absurd hc (by first | omega | simp)) (h2 := fun _ => ?_)
   refine jr (h := ?_)
   refine jc (hs := hch) (hk := ?_)
   refine jr (h := ?_)
   refine J_forget ?_
   refine jret Tryz.func167 (h := ⟨rfl, rfl⟩)
 · have hC : writeC r at_ b.length = 3 := by unfold writeC; rw [if_neg (by simp [hc]), if_pos (by omega)]
   have hS : writeS r at_ b = r := by unfold writeS; rw [if_pos (.inr hl6)]
   rw [hC, hS]
   refine jen cl_167 Tryz.func167 (h := ?_)
   refine jr (own := [6]) (h := ?_)
   refine jnv (hh := fun b6 hb6 => ?_)
   refine jr (h := ?_)
   refine jc (hs := hk) (hk := ?_)
   refine jr (h := ?_)
   refine jif (h1 := fun hc => absurd hc (by first | omega | simp)) (h2 := fun _ => ?_)
   refine jr (h := ?_)
   refine jif (h1 := fun _ => ?_) (h2 := fun hc => absurd (by first | omega | simp) hc)
   refine jr (h := ?_)
   refine J_forget ?_
   refine jret Tryz.func167 (h := ⟨rfl, rfl⟩)
theorem trim04_ok (r : Fl) (hw : r.WF') (hl : r.loose.length < 2 ^ 29) (at_ : Int) : ACalls Tryz.prog 190 [rAV r, .c (.int .i64 at_)] [] (Ret (.tup [rAV (trimS r at_), .c (.int .i64 (trimC r at_))])) := by
 have hk := check04_ok r at_
 unfold rAV at *
 by_cases hc : checkF r at_ = 0
 rotate_left
 · have hC : trimC r at_ = checkF r at_ := by unfold trimC; rw [if_pos hc]
   have hS : trimS r at_ = r := by unfold trimS; rw [if_pos hc]
   rw [hC, hS]
   refine jen cl_190 Tryz.func190 (h := ?_)
   refine jr (own := [4]) (h := ?_)
   refine jnv (hh := fun b6 hb6 => ?_)
   refine jr (h := ?_)
   refine jc (hs := hk) (hk := ?_)
   refine jr (h := ?_)
   refine jif (h1 := fun _ => ?_) (h2 := fun hc => absurd (by assumption) hc)
   refine jr (h := ?_)
   refine J_forget ?_
   refine jret Tryz.func190 (h := ⟨rfl, rfl⟩)
 obtain ⟨hd, -⟩ := checkF_rng hc
 have hch := change04_ok r hd hw hl at_ none
 rw [hc] at hk
 unfold rAV at hch
 have hC : trimC r at_ = changeC r := by unfold trimC; rw [if_neg (by simp [hc])]
 have hS : trimS r at_ = changeS r at_ none := by unfold trimS; rw [if_neg (by simp [hc])]
 rw [hC, hS]
 generalize changeS r at_ none = s at *
 simp only [Option.getD_none, Option.isNone_none] at hch
 have hnil : (AV.agg [.c (.int .i64 at_), .c (.slice none 0 0), .c (.bool true)]).le (.agg [.c (.int .i64 at_), .sl 1 (bytesRows []), .c (.bool true)]) := fun g v h => by
   simp only [rel, relL] at h ⊢
   obtain ⟨us, rfl, v1, vs1, rfl, h1, v2, vs2, rfl, h2, v3, vs3, rfl, h3, rfl⟩ := h
   exact ⟨_, rfl, v1, _, rfl, h1, v2, _, rfl, ⟨none, 0, by rw [h2]; rfl, by decide, .inl rfl⟩, v3, _, rfl, h3, rfl⟩
 refine jen cl_190 Tryz.func190 (h := ?_)
 refine jr (own := [4]) (h := ?_)
 refine jnv (hh := fun b6 hb6 => ?_)
 refine jr (h := ?_)
 refine jc (hs := hk) (hk := ?_)
 refine jr (h := ?_)
 refine jif (h1 := fun hc => absurd hc (by first | omega | simp)) (h2 := fun _ => ?_)
 refine jr (h := ?_)
 refine J_wk (t := 16) (by simp only [go_sem]) hnil ?_
 refine jc (hs := hch) (hk := ?_)
 refine jr (h := ?_)
 refine J_forget ?_
 refine jret Tryz.func190 (h := ⟨rfl, rfl⟩)
def tAV (r : Fl) (n : Int) : AV := .agg (rCells r ++ [.c (.int .i64 n)])
theorem lookB_len {r : Fl} (h1 : ∀ p ∈ r.safe, p.2.length = 256) (h2 : ∀ p ∈ r.loose, ∀ b, p.2 = some b → b.length = 256) (at_ : Int) : (lookB r at_).length = 256 := by
 have hw : ∀ l : List (Int × Option (List UInt8)), (∀ p ∈ l, ∀ b, p.2 = some b → b.length = 256) → ∀ o, lookL l at_ = some o → (o.getD z256).length = 256 := by
   intro l
   unfold lookL
   suffices h : ∀ (l : List (Int × Option (List UInt8))) (acc : Option (Option (List UInt8))), (∀ p ∈ l, ∀ b, p.2 = some b → b.length = 256) → (∀ o, acc = some o → (o.getD z256).length = 256) → ∀ o, l.foldl (fun acc p => if p.1 = at_ then some p.2 else acc) acc = some o → (o.getD z256).length = 256 from fun hl => h l none hl (fun o ho => by cases ho)
   intro l
   induction l with
   | nil => intro acc _ ha o ho; exact ha o ho
   | cons p l ih =>
     intro acc hl ha o ho
     rw [List.foldl_cons] at ho
     refine ih _ (fun q hq => hl q (by simp [hq])) (fun o' ho' => ?_) o ho
     split at ho'
     · simp only [Option.some.injEq] at ho'; subst ho'
       cases hp : p.2 with
       | none => simp [z256]
       | some b => exact hl p (by simp) b hp
     · exact ha o' ho'
 unfold lookB
 cases hl : lookL r.loose at_ with
 | some o => exact hw r.loose h2 o hl
 | none => exact pageOr_len h1 at_
theorem open10_ok (r : Fl) (hd : r.down = false) (hp : 0 ≤ r.pages ∧ r.pages ≤ 4096) (h : r.R) : ACalls Tryz.prog 23 [rAV r] [] (Ret (.tup [tAV r ((cellsAt r (upto r.pages.toNat)).foldl stepN 1), .c (.int .i64 0)])) := by
 have hlen := h.len
 have hal := all04_ok r hp (lookB_len h.page h.lpage) (by omega) (by omega)
 have hpg : ∀ p ∈ cellsAt r (upto r.pages.toNat), p.2.length = 256 := by
   intro p hp
   obtain ⟨k, -, rfl⟩ := List.mem_map.1 (List.mem_filter.1 hp).1
   exact lookB_len h.page h.lpage k
 have hcl : (cellsAt r (upto r.pages.toNat)).length ≤ 4096 := by
   unfold cellsAt
   refine Nat.le_trans (List.length_filter_le _ _) ?_
   simp only [upto, List.length_map, List.length_range]; omega
 unfold rAV tAV at *
 generalize cellsAt r (upto r.pages.toNat) = cs at *
 clear h hp hlen
 obtain ⟨rp, rs, rl, rf, rd, rn⟩ := r
 obtain rfl : rd = false := hd
 refine jen cl_23 Tryz.func23 (h := ?_)
 refine jr (own := [2]) (h := ?_)
 refine jnv (hh := fun b2 hb2 => ?_)
 refine jr (h := ?_)
 refine jn (h := ?_)
 refine jr (h := ?_)
 refine jc (hs := hal) (hk := ?_)
 refine jr (h := ?_)
 refine jk [1, 2, 4, 5, 6] (h := ?_)
 refine J_loopI (I := fun m e D' => ∃ i : Nat, i ≤ cs.length ∧ m = cs.length - i ∧ D' = [.box b2 51 [.c (.int .i64 0), .c (.slice none 0 0), .c (.slice none 0 0), .c (.int .i64 0), .c (.bool false), .c (.int .i64 0), .c (.int .i64 0)]] ∧ e = [(1, .fp (rCells ⟨rp, rs, rl, rf, false, rn⟩)), (2, .c (.pointer (some ⟨b2, 0, none⟩))), (4, .c (.int .i64 ((cs.take i).foldl stepN 1))), (5, .sl 2 (cellRows cs)), (6, .c (.int .i64 i))]) ?_ ?_
 · exact ⟨_, 0, Nat.zero_le _, rfl, rfl, rfl⟩
 · rintro m e D' ⟨i, hi, rfl, rfl, rfl⟩ ih
   refine jr (h := ?_)
   refine jif (h1 := fun hc => ?_) (h2 := fun hc => ?_)
   · have hlt : i < cs.length := by omega
     have g0 := List.getElem?_eq_getElem hlt
     have g1 := cellRows_get g0
     have h0 : (0 : Int) ≤ (i : Int) := by omega
     have hb := hpg _ (List.getElem_mem hlt)
     have hst := stampsB_le cs[i].2
     have hbd := foldN_bd (cs.take i) (n := 1) (by decide)
     have hsn : (cs.take (i + 1)).foldl stepN 1 = max (max ((cs.take i).foldl stepN 1) (((stampsB cs[i].2).1 : Int) + 1)) (((stampsB cs[i].2).2 : Int) + 1) := by rw [List.take_add_one, g0, List.foldl_append]; rfl
     generalize (cs.take i).foldl stepN 1 = nx at *
     refine jf g1 (h := ?_)
     refine jc (hs := stamps05_ok cs[i].2 (by omega)) (hk := ?_)
     generalize (stampsB cs[i].2).1 = a at *
     generalize (stampsB cs[i].2).2 = b at *
     refine jr (h := ?_)
     refine jif (h1 := fun ha => ?_) (h2 := fun ha => ?_)
     · refine jr (h := ?_)
       refine jif (h1 := fun hb9 => ?_) (h2 := fun hb9 => ?_)
       · refine jr (h := ?_)
         refine jk [1, 2, 4, 5, 6] (h := ?_)
         refine ih _ _ _ ?_ ⟨i + 1, by omega, rfl, rfl, ?_⟩
         · omega
         · rw [show (cs.take (i + 1)).foldl stepN 1 = (b : Int) + 1 from by rw [hsn]; omega]; rfl
       · refine jr (h := ?_)
         refine jk [1, 2, 4, 5, 6] (h := ?_)
         refine ih _ _ _ ?_ ⟨i + 1, by omega, rfl, rfl, ?_⟩
         · omega
         · rw [show (cs.take (i + 1)).foldl stepN 1 = (a : Int) + 1 from by rw [hsn]; omega]; rfl
     · refine jr (h := ?_)
       refine jif (h1 := fun hb9 => ?_) (h2 := fun hb9 => ?_)
       · refine jr (h := ?_)
         refine jk [1, 2, 4, 5, 6] (h := ?_)
         refine ih _ _ _ ?_ ⟨i + 1, by omega, rfl, rfl, ?_⟩
         · omega
         · rw [show (cs.take (i + 1)).foldl stepN 1 = (b : Int) + 1 from by rw [hsn]; omega]; rfl
       · refine jr (h := ?_)
         refine jk [1, 2, 4, 5, 6] (h := ?_)
         refine ih _ _ _ ?_ ⟨i + 1, by omega, rfl, rfl, ?_⟩
         · omega
         · rw [show (cs.take (i + 1)).foldl stepN 1 = nx from by rw [hsn]; omega]; rfl
   · have hi' : i = cs.length := by omega
     subst hi'
     rw [List.take_length]
     refine jr (h := ?_)
     refine J_forget ?_
     refine jret Tryz.func23 (h := ⟨rfl, rfl⟩)
theorem put10_ok (r : Fl) (n : Int) (hn : n < 4611686018427387904) (hw : r.WF') (hl : r.loose.length < 2 ^ 29) (at_ kd : Int) (b : List UInt8) (hb : b.length < 2 ^ 37) : ACalls Tryz.prog 116 [tAV r n, .c (.int .i64 at_), .c (.int .i64 kd), .sl 1 (bytesRows b)] []
   (Ret (.tup [tAV (tputS r n at_ kd b) (tputN r n at_ kd b), .c (.int .i64 (tputC r n at_ kd b))])) := by
 by_cases hck : checkC n kd b.length = 0
 rotate_left
 · have hC : tputC r n at_ kd b = checkC n kd b.length := by unfold tputC; rw [if_pos hck]
   have hS : tputS r n at_ kd b = r := by unfold tputS; rw [if_pos hck]
   have hN : tputN r n at_ kd b = n := by unfold tputN; rw [hC, if_neg hck]
   have hp := put05_err n kd b hb hck
   rw [hC, hS, hN]
   unfold leafAV tAV at *
   refine jen cl_116 Tryz.func116 (h := ?_)
   refine jr (own := [8]) (h := ?_)
   refine jnv (hh := fun b8 hb8 => ?_)
   refine jr (h := ?_)
   refine jc (hs := hp) (hk := ?_)
   refine J_mrun (own := []) (m := 2000) (by simp (maxSteps := 2000000) (disch := omega) only [go_sem, ↓reduceIte, Int.reduceLT, Int.reduceLE, Int.reduceToNat, Int.reducePow, Int.reduceNeg, Nat.reduceBEq, Tryz.ntmps116, anil] <;> with_reducible rfl) ?_
   refine jif (h1 := fun _ => ?_) (h2 := fun hc => absurd (by assumption) hc)
   refine jr (h := ?_)
   refine J_forget ?_
   refine jret Tryz.func116 (h := ⟨rfl, rfl⟩)
 · obtain ⟨⟨h1, h2⟩, ⟨h3, h4⟩, h5⟩ := checkC_zero hck
   have hC : tputC r n at_ kd b = writeC r at_ 256 := by unfold tputC; rw [if_neg (by simp [hck])]
   have hS : tputS r n at_ kd b = writeS r at_ (putB n.toNat kd.toNat b) := by unfold tputS; rw [if_neg (by simp [hck])]
   have hN : tputN r n at_ kd b = if writeC r at_ 256 = 0 then n + 1 else n := by unfold tputN; rw [hC]
   rw [hC, hS, hN]
   have hpl := putB_len n.toNat kd.toNat b h5
   have hp := put05_ok n.toNat kd.toNat b (by omega) (by omega) (by omega) (by omega) h5
   rw [show ((n.toNat : Nat) : Int) = n from by omega, show ((kd.toNat : Nat) : Int) = kd from by omega] at hp
   have hwr := write04_ok r hw hl at_ (putB n.toNat kd.toNat b) (by omega)
   rw [hpl] at hwr
   unfold leafAV tAV rAV at *
   generalize writeS r at_ (putB n.toNat kd.toNat b) = s at *
   generalize writeC r at_ 256 = c at *
   refine jen cl_116 Tryz.func116 (h := ?_)
   refine jr (own := [8]) (h := ?_)
   refine jnv (hh := fun b8 hb8 => ?_)
   refine jr (h := ?_)
   refine jc (hs := hp) (hk := ?_)
   refine J_mrun (own := []) (m := 2000) (by simp (maxSteps := 2000000) (disch := omega) only [go_sem, ↓reduceIte, Int.reduceLT, Int.reduceLE, Int.reduceToNat, Int.reducePow, Int.reduceNeg, Nat.reduceBEq, Tryz.ntmps116, anil] <;> with_reducible rfl) ?_
   refine jif (h1 := fun hc => absurd hc (by first | omega | simp)) (h2 := fun _ => ?_)
   refine jr (h := ?_)
   refine jc (hs := hwr) (hk := ?_)
   refine jr (own := [12, 14]) (h := ?_)
   refine jnv (hh := fun b12 hb12 => ?_)
   simp only [fresh] at hb12
   refine jf (own := [14]) hb12 (h := ?_)
   refine jnv (hh := fun b14 hb14 => ?_)
   simp only [fresh] at hb14
   refine jf (cA hb14 hb12) (h := ?_)
   refine jif (h1 := fun hz => ?_) (h2 := fun hz => ?_)
   · rw [if_pos hz]
     refine jf (cA hb14 hb12) (h := ?_)
     refine J_forget ?_
     refine jretf (cA hb14 hb12) Tryz.func116 (h := ⟨rfl, rfl⟩)
   · rw [if_neg hz]
     refine jf (cA hb14 hb12) (h := ?_)
     refine J_forget ?_
     refine jretf (cA hb14 hb12) Tryz.func116 (h := ⟨rfl, rfl⟩)
theorem flush10_ok (r : Fl) (n : Int) (h : r.R) : ACalls Tryz.prog 117 [tAV r n] [] (Ret (.tup [tAV (flush04S r) n, .c (.int .i64 (flushC r))])) := by
 have hf := flush04_ok r h
 unfold tAV rAV at *
 generalize flush04S r = s at *
 generalize flushC r = c at *
 refine jen cl_117 Tryz.func117 (h := ?_)
 refine jr (own := [2, 4, 5]) (h := ?_)
 refine jnv (hh := fun b2 hb2 => ?_)
 refine jr (own := [4, 5]) (h := ?_)
 refine jnv (hh := fun b4 hb4 => ?_)
 simp only [fresh] at hb4
 refine jf (own := [5]) hb4 (h := ?_)
 refine jc (hs := hf) (hk := ?_)
 refine jf (own := [5]) hb4 (h := ?_)
 refine jnv (hh := fun b5 hb5 => ?_)
 simp only [fresh] at hb5
 refine jf (cA hb5 hb4) (h := ?_)
 refine J_forget ?_
 refine jretf (cA hb5 hb4) Tryz.func117 (h := ⟨rfl, rfl⟩)
theorem trim10_ok (r : Fl) (n : Int) (hw : r.WF') (hl : r.loose.length < 2 ^ 29) (at_ : Int) : ACalls Tryz.prog 146 [tAV r n, .c (.int .i64 at_)] [] (Ret (.tup [tAV (trimS r at_) n, .c (.int .i64 (trimC r at_))])) := by
 have hf := trim04_ok r hw hl at_
 unfold tAV rAV at *
 generalize trimS r at_ = s at *
 generalize trimC r at_ = c at *
 refine jen cl_146 Tryz.func146 (h := ?_)
 refine jr (own := [4, 6, 7]) (h := ?_)
 refine jnv (hh := fun b2 hb2 => ?_)
 refine jr (own := [6, 7]) (h := ?_)
 refine jnv (hh := fun b4 hb4 => ?_)
 simp only [fresh] at hb4
 refine jf (own := [7]) hb4 (h := ?_)
 refine jc (hs := hf) (hk := ?_)
 refine jf (own := [7]) hb4 (h := ?_)
 refine jnv (hh := fun b5 hb5 => ?_)
 simp only [fresh] at hb5
 refine jf (cA hb5 hb4) (h := ?_)
 refine J_forget ?_
 refine jretf (cA hb5 hb4) Tryz.func146 (h := ⟨rfl, rfl⟩)
def tfirm04S (r : Fl) (n at_ kd : Int) (b : List UInt8) : Fl := if tputC r n at_ kd b ≠ 0 then tputS r n at_ kd b else flush04S (tputS r n at_ kd b)
theorem firm10_ok (r : Fl) (n : Int) (hn : n < 4611686018427387904) (hw : r.WF') (hl : r.loose.length < 2 ^ 29) (at_ kd : Int) (b : List UInt8) (hb : b.length < 2 ^ 37) (h2 : (tputS r n at_ kd b).R) : ACalls Tryz.prog 135 [tAV r n, .c (.int .i64 at_), .c (.int .i64 kd), .sl 1 (bytesRows b)] []
   (Ret (.tup [tAV (tfirm04S r n at_ kd b) (tputN r n at_ kd b), .c (.int .i64 (tfirmC r n at_ kd b))])) := by
 have hp := put10_ok r n hn hw hl at_ kd b hb
 have hf := flush10_ok (tputS r n at_ kd b) (tputN r n at_ kd b) h2
 have hC : tfirmC r n at_ kd b = if tputC r n at_ kd b ≠ 0 then tputC r n at_ kd b else flushC (tputS r n at_ kd b) := rfl
 have hS : tfirm04S r n at_ kd b = if tputC r n at_ kd b ≠ 0 then tputS r n at_ kd b else flush04S (tputS r n at_ kd b) := rfl
 rw [hC, hS]
 clear hC hS h2
 unfold tAV at *
 generalize flush04S (tputS r n at_ kd b) = s2 at *
 generalize flushC (tputS r n at_ kd b) = c2 at *
 generalize tputS r n at_ kd b = s at *
 generalize tputC r n at_ kd b = c at *
 generalize tputN r n at_ kd b = m at *
 refine jen cl_135 Tryz.func135 (h := ?_)
 refine jr (own := [8, 10]) (h := ?_)
 refine jnv (hh := fun b8 hb8 => ?_)
 refine jr (own := [10]) (h := ?_)
 refine jc (hs := hp) (hk := ?_)
 refine jr (own := [10]) (h := ?_)
 refine jnv (hh := fun b10 hb10 => ?_)
 simp only [fresh] at hb10
 refine jf hb10 (h := ?_)
 refine jif (h1 := fun hz => ?_) (h2 := fun hz => ?_)
 · rw [if_pos hz, if_pos hz]
   refine jf hb10 (h := ?_)
   refine J_forget ?_
   refine jretf hb10 Tryz.func135 (h := ⟨rfl, rfl⟩)
 · rw [if_neg hz, if_neg hz]
   refine jf hb10 (h := ?_)
   refine jc (hs := hf) (hk := ?_)
   refine jf hb10 (h := ?_)
   refine J_forget ?_
   refine jretf hb10 Tryz.func135 (h := ⟨rfl, rfl⟩)
theorem get10_ok (r : Fl) (n : Int) (at_ kd : Int) (h1 : ∀ p ∈ r.safe, p.2.length = 256) (h2 : ∀ p ∈ r.loose, ∀ b, p.2 = some b → b.length = 256) (h3 : r.safe.length < 2 ^ 60) (h4 : r.loose.length < 2 ^ 60) : ACalls Tryz.prog 103 [tAV r n, .c (.int .i64 at_), .c (.int .i64 kd)] []
   (Ret (.tup [if tgetC r at_ kd = 0 then leafAV (stampsB (lookB r at_)).1 (kdB (lookB r at_)) (.sl 1 (bytesRows (txtB (lookB r at_)))) else leafAV 0 0 (.c (.slice none 0 0)), .c (.int .i64 (tgetC r at_ kd))])) := by
 have hrd := read04_ok r at_ h3 h4
 have hlb := lookB_len h1 h2 at_
 have hgt := get05_ok (lookB r at_) (by omega)
 unfold tgetC
 unfold leafAV tAV rAV at *
 generalize lookB r at_ = pg at *
 generalize checkF r at_ = c at *
 refine jen cl_103 Tryz.func103 (h := ?_)
 refine jr (own := [6, 10]) (h := ?_)
 refine jnv (hh := fun b6 hb6 => ?_)
 refine jr (own := [10]) (h := ?_)
 refine jc (hs := hrd) (hk := ?_)
 by_cases hc : c = 0
 rotate_left
 · rw [if_pos hc, if_neg hc, if_neg hc]
   refine jr (h := ?_)
   refine jif (h1 := fun _ => ?_) (h2 := fun hc => absurd (by assumption) hc)
   refine jr (h := ?_)
   refine J_forget ?_
   refine jret Tryz.func103 (h := ⟨rfl, rfl⟩)
 subst hc
 rw [if_pos rfl]
 have e0 : (if (0 : Int) ≠ 0 then (0 : Int) else if getC pg ≠ 0 then getC pg else if (kdB pg : Int) ≠ kd then 12 else 0) = if getC pg ≠ 0 then getC pg else if (kdB pg : Int) ≠ kd then 12 else 0 := if_neg (by simp)
 rw [e0]
 refine jr (h := ?_)
 refine jif (h1 := fun hc => absurd hc (by first | omega | simp)) (h2 := fun _ => ?_)
 refine jr (own := [10]) (h := ?_)
 refine jc (hs := hgt) (hk := ?_)
 by_cases hg : getC pg = 0
 rotate_left
 · rw [if_neg hg, if_pos hg, if_neg hg]
   refine jr (own := [10]) (h := ?_)
   refine jnv (hh := fun b10 hb10 => ?_)
   simp only [fresh] at hb10
   refine jf hb10 (h := ?_)
   refine jif (h1 := fun _ => ?_) (h2 := fun hc => absurd (by assumption) hc)
   refine jf hb10 (h := ?_)
   refine J_forget ?_
   refine jretf hb10 Tryz.func103 (h := ⟨rfl, rfl⟩)
 have e1 : (if getC pg ≠ 0 then getC pg else if (kdB pg : Int) ≠ kd then 12 else 0) = if (kdB pg : Int) ≠ kd then 12 else 0 := if_neg (by simp [hg])
 rw [e1, if_pos hg]
 refine jf (own := [10]) hg (h := ?_)
 refine jnv (hh := fun b10 hb10 => ?_)
 simp only [fresh] at hb10
 refine jf (cA hg hb10) (h := ?_)
 refine jif (h1 := fun hc => absurd hc (by first | omega | simp)) (h2 := fun _ => ?_)
 refine jf hb10 (h := ?_)
 refine jif (h1 := fun hk => ?_) (h2 := fun hk => ?_)
 · rw [if_pos hk, if_neg (by decide)]
   refine jf hb10 (h := ?_)
   refine J_forget ?_
   refine jretf hb10 Tryz.func103 (h := ⟨rfl, rfl⟩)
 · rw [if_neg hk, if_pos rfl]
   refine jf hb10 (h := ?_)
   refine J_forget ?_
   refine jretf hb10 Tryz.func103 (h := ⟨rfl, rfl⟩)
end
section
abbrev SortC (l : List (Int × List UInt8)) : Prop := (l.map (·.1)).Pairwise (· < ·)
theorem findM_app {k : Int} : ∀ (A B : List (Int × List UInt8)), findM (A ++ B) k = (findM A k).or (findM B k)
 | [], B => rfl
 | p :: A, B => by
   show findM (p :: (A ++ B)) k = (findM (p :: A) k).or _
   have e1 : ∀ l : List (Int × List UInt8), findM (p :: l) k = if p.1 = k then some p.2 else findM l k := fun l => by conv => lhs; unfold findM
   rw [e1, e1]
   by_cases h : p.1 = k
   · rw [if_pos h, if_pos h]; rfl
   · rw [if_neg h, if_neg h]; exact findM_app A B
theorem find_none_of {l : List (Int × List UInt8)} {k : Int} (h : ∀ p ∈ l, p.1 ≠ k) : findM l k = none := findM_none.2 fun hk => by
 obtain ⟨p, hp, rfl⟩ := List.mem_map.1 hk
 exact h p hp rfl
theorem tw_lt {at_ : Int} : ∀ {l : List (Int × List UInt8)} {p : Int × List UInt8}, p ∈ l.takeWhile (fun p => decide (p.1 < at_)) → p.1 < at_
 | [], p, h => by cases h
 | q :: l, p, h => by
   rw [List.takeWhile_cons] at h
   split at h
   · rename_i hq
     rcases List.mem_cons.1 h with rfl | h
     · simpa using hq
     · exact tw_lt h
   · cases h
theorem split_at {l : List (Int × List UInt8)} (hs : SortC l) (at_ : Int) : ∃ A C, (∀ p ∈ A, p.1 < at_) ∧ (∀ p ∈ C, at_ < p.1) ∧ SortC A ∧ SortC C ∧ (l = A ++ C ∨ ∃ x, l = A ++ (at_, x) :: C) ∧ ∀ b, putC l at_ b = A ++ (if blankB b then [] else [(at_, b)]) ++ C := by
 have hA : ∀ p ∈ l.take (lowC l at_), p.1 < at_ := by
   intro p hp
   have e : l.take (lowC l at_) = l.takeWhile fun p => decide (p.1 < at_) := by
     unfold lowC
     exact (List.prefix_iff_eq_take.1 (List.takeWhile_prefix _)).symm
   rw [e] at hp
   exact tw_lt hp
 have hsplit := List.take_append_drop (lowC l at_) l
 have hs1 : SortC (l.take (lowC l at_)) := by unfold SortC; rw [List.map_take]; exact hs.take
 have hs2 : SortC (l.drop (lowC l at_)) := by unfold SortC; rw [List.map_drop]; exact hs.drop
 have hhd : ∀ p, l[lowC l at_]? = some p → ¬ p.1 < at_ := by
   intro p hp hlt
   have e : l.drop (lowC l at_) = l.dropWhile fun p => decide (p.1 < at_) := by
     unfold lowC
     have h1 := List.takeWhile_append_dropWhile (p := fun p : Int × List UInt8 => decide (p.1 < at_)) (l := l)
     have h2 := congrArg (List.drop (l.takeWhile fun p => decide (p.1 < at_)).length) h1
     rw [List.drop_left] at h2
     exact h2.symm
   have h3 : (l.dropWhile fun p => decide (p.1 < at_)).head? = some p := by rw [← e, List.head?_drop, hp]
   have := List.head?_dropWhile_not (fun p : Int × List UInt8 => decide (p.1 < at_)) l
   rw [h3] at this
   simp [hlt] at this
 cases hr : l.drop (lowC l at_) with
 | nil =>
   have hn : l[lowC l at_]? = none := by rw [← List.head?_drop, hr]; rfl
   refine ⟨l.take (lowC l at_), [], hA, by simp, hs1, by simp [SortC], .inl (by rw [List.append_nil]; rw [hr, List.append_nil] at hsplit; exact hsplit.symm), fun b => ?_⟩
   unfold putC hitC
   rw [hn]
   simp only [Bool.false_eq_true, if_false, Nat.add_zero, hr]
 | cons p C =>
   have hp : l[lowC l at_]? = some p := by rw [← List.head?_drop, hr]; rfl
   have hge := hhd p hp
   rw [hr] at hs2
   obtain ⟨hpC, hsC⟩ := List.pairwise_cons.1 (show ((p :: C).map (·.1)).Pairwise (· < ·) from hs2)
   have hC : ∀ q ∈ C, p.1 < q.1 := fun q hq => hpC q.1 (List.mem_map.2 ⟨q, hq, rfl⟩)
   have hdC : l.drop (lowC l at_ + 1) = C := by rw [← List.drop_drop, hr]; rfl
   by_cases hk : p.1 = at_
   · refine ⟨l.take (lowC l at_), C, hA, fun q hq => by have := hC q hq; omega, hs1, hsC, .inr ⟨p.2, ?_⟩, fun b => ?_⟩
     · rw [hr] at hsplit; rw [show (at_, p.2) = p from by rw [← hk]]; exact hsplit.symm
     · unfold putC hitC
       rw [hp]
       simp only [hk, decide_true, if_true, hdC]
   · refine ⟨l.take (lowC l at_), p :: C, hA, fun q hq => ?_, hs1, hs2, .inl (by rw [hr] at hsplit; exact hsplit.symm), fun b => ?_⟩
     · rcases List.mem_cons.1 hq with rfl | hq
       · omega
       · have := hC q hq; omega
     · unfold putC hitC
       rw [hp]
       simp only [hk, decide_false, Bool.false_eq_true, if_false, Nat.add_zero, hr]
theorem putC_find {l : List (Int × List UInt8)} (hs : SortC l) (at_ : Int) (b : List UInt8) (k : Int) : findM (putC l at_ b) k = if k = at_ then (if blankB b then none else some b) else findM l k := by
 obtain ⟨A, C, hA, hC, -, -, hl, hp⟩ := split_at hs at_
 rw [hp b, findM_app, findM_app]
 by_cases hk : k = at_
 · subst hk
   rw [if_pos rfl, find_none_of (fun p hp => by have := hA p hp; omega), find_none_of (l := C) (fun p hp => by have := hC p hp; omega)]
   cases blankB b <;> simp [findM]
 · rw [if_neg hk]
   have hm : findM (if blankB b then [] else [(at_, b)]) k = none := by
     refine find_none_of fun p hp => ?_
     split at hp
     · cases hp
     · rw [List.mem_singleton.1 hp]; exact fun h => hk h.symm
   rw [hm]
   rcases hl with rfl | ⟨x, rfl⟩
   · rw [findM_app]; simp
   · rw [findM_app]
     have : findM ((at_, x) :: C) k = findM C k := by
       conv => lhs; unfold findM
       rw [if_neg (fun h => hk h.symm)]
     rw [this]; simp
theorem putC_sorted {l : List (Int × List UInt8)} (hs : SortC l) (at_ : Int) (b : List UInt8) : SortC (putC l at_ b) := by
 obtain ⟨A, C, hA, hC, h1, h2, -, hp⟩ := split_at hs at_
 rw [hp b]
 unfold SortC at *
 rw [List.map_append, List.map_append, List.append_assoc]
 refine List.pairwise_append.2 ⟨h1, List.pairwise_append.2 ⟨?_, h2, ?_⟩, ?_⟩
 · split <;> simp
 · intro x hx y hy
   split at hx
   · cases hx
   · have e1 : x = at_ := by simpa using hx
     obtain ⟨q, hq, rfl⟩ := List.mem_map.1 hy
     rw [e1]; exact hC q hq
 · intro x hx y hy
   obtain ⟨p, hp, rfl⟩ := List.mem_map.1 hx
   have hpa := hA p hp
   rcases List.mem_append.1 hy with hy | hy
   · split at hy
     · cases hy
     · have e1 : y = at_ := by simpa using hy
       rw [e1]; exact hpa
   · obtain ⟨q, hq, rfl⟩ := List.mem_map.1 hy
     have := hC q hq
     omega
theorem sort_nodup {l : List (Int × List UInt8)} (hs : SortC l) : (l.map (·.1)).Nodup := hs.imp fun h e => by rw [e] at h; exact absurd h (Int.lt_irrefl _)
theorem putC_safe {pages : Int} {l : List (Int × List UInt8)} (hs : SortC l) (h : SafeOK pages l) {at_ : Int} {b : List UInt8} (hb : b.length = 256) (ha : 0 ≤ at_ ∧ at_ < pages) : SafeOK pages (putC l at_ b) := by
 refine ⟨sort_nodup (putC_sorted hs _ _), putC_page h.page hb, fun p hp => ?_, fun p hp => ?_⟩ <;> unfold putC at hp
 · rcases List.mem_append.1 hp with hp | hp
   · rcases List.mem_append.1 hp with hp | hp
     · exact h.nb p (List.take_subset _ _ hp)
     · split at hp
       · cases hp
       · rename_i hbl; rw [List.mem_singleton.1 hp]; simpa using hbl
   · exact h.nb p (List.drop_subset _ _ hp)
 · rcases List.mem_append.1 hp with hp | hp
   · rcases List.mem_append.1 hp with hp | hp
     · exact h.rng p (List.take_subset _ _ hp)
     · split at hp
       · cases hp
       · rw [List.mem_singleton.1 hp]; exact ha
   · exact h.rng p (List.drop_subset _ _ hp)
structure Pgs (pages : Int) (c m : List (Int × List UInt8)) : Prop where
 sort : SortC c
 cs : SafeOK pages c
 ms : SafeOK pages m
 find : ∀ k, findM c k = findM m k
theorem Pgs.pageOr {pages : Int} {c m : List (Int × List UInt8)} (h : Pgs pages c m) (k : Int) : pageOr c k = pageOr m k := by unfold Proofs.YtjppajaoekbkpaaGreatDoor.pageOr; rw [h.find]
theorem blank_z : blankB z256 = true := blank_zeros 256
theorem Pgs.settle {pages : Int} {c m : List (Int × List UInt8)} (h : Pgs pages c m) {at_ : Int} {o : Option (List UInt8)} {keep : Int} (ho : ∀ b, o = some b → b.length = 256) (ha : 0 ≤ at_ ∧ at_ < pages) :
   Pgs pages (settleC c at_ o keep) (settleM m at_ o keep) := by
 have hm := (settle_safe (keep := keep) h.ms ho ha).1
 cases o with
 | none =>
   unfold settleC settleM at *
   simp only at *
   by_cases hk : keep < 256
   · rw [if_pos hk, if_neg (by omega)]; exact h
   · rw [if_neg hk, if_pos (by omega)]
     rw [if_pos (by omega)] at hm
     refine ⟨putC_sorted h.sort _ _, putC_safe h.sort h.cs (by simp [z256]) ha, hm, fun k => ?_⟩
     rw [putC_find h.sort, findM_del h.ms.nodup, blank_z, h.find]
     by_cases hka : k = at_
     · rw [if_pos hka, if_pos rfl, if_pos hka.symm]
     · rw [if_neg hka, if_neg (fun e => hka e.symm)]
 | some b =>
   have hb := ho b rfl
   have hS : settleC c at_ (some b) keep = putC c at_ (b.take (keepN keep) ++ (Proofs.YtjppajaoekbkpaaGreatDoor.pageOr c at_).drop (keepN keep)) := rfl
   rw [hS, h.pageOr]
   have hpl : (Proofs.YtjppajaoekbkpaaGreatDoor.pageOr m at_).length = 256 := pageOr_len h.ms.page at_
   have hkl : keepN keep ≤ 256 := by unfold keepN; omega
   have hnl : (b.take (keepN keep) ++ (Proofs.YtjppajaoekbkpaaGreatDoor.pageOr m at_).drop (keepN keep)).length = 256 := by rw [List.length_append, List.length_take, List.length_drop]; omega
   refine ⟨putC_sorted h.sort _ _, putC_safe h.sort h.cs hnl ha, hm, fun k => ?_⟩
   rw [putC_find h.sort]
   unfold settleM
   simp only
   by_cases hk : keep ≤ 0
   · rw [if_pos hk, show keepN keep = 0 from by unfold keepN; omega, List.take_zero, List.nil_append, List.drop_zero, h.find]
     by_cases hka : k = at_
     · subst hka
       rw [if_pos rfl]
       unfold Proofs.YtjppajaoekbkpaaGreatDoor.pageOr
       cases hf : findM m k with
       | none => simp [blank_z]
       | some w =>
         have := h.ms.nb _ (mem_find hf)
         simp only [Option.getD_some]
         rw [if_neg (by simpa using this)]
     · rw [if_neg hka]
   · rw [if_neg hk]
     have e1 : (min keep 256).toNat = keepN keep := rfl
     rw [e1]
     by_cases hbl : blankB (b.take (keepN keep) ++ (Proofs.YtjppajaoekbkpaaGreatDoor.pageOr m at_).drop (keepN keep)) = true
     · rw [if_pos hbl, if_pos hbl, findM_del h.ms.nodup, h.find]
       by_cases hka : k = at_
       · rw [if_pos hka, if_pos hka.symm]
       · rw [if_neg hka, if_neg (fun e => hka e.symm)]
     · rw [if_neg hbl, if_neg hbl, findM_upd, h.find]
       by_cases hka : k = at_
       · rw [if_pos hka, if_pos hka.symm]
       · rw [if_neg hka, if_neg (fun e => hka e.symm)]
theorem Pgs.all {pages : Int} : ∀ {ls : List (Int × Option (List UInt8))} {c m : List (Int × List UInt8)}, Pgs pages c m → (∀ p ∈ ls, ∀ b, p.2 = some b → b.length = 256) → (∀ p ∈ ls, 0 ≤ p.1 ∧ p.1 < pages) → Pgs pages (settleAllC c ls) (settleAll m ls)
 | [], _, _, h, _, _ => h
 | p :: ls, c, m, h, h1, h2 => Pgs.all (ls := ls) (h.settle (keep := 256) (h1 p (by simp)) (h2 p (by simp))) (fun q hq => h1 q (by simp [hq])) (fun q hq => h2 q (by simp [hq]))
theorem Pgs.keep {pages : Int} : ∀ {ls : List (Int × Option (List UInt8))} {ks : List Int} {c m : List (Int × List UInt8)}, Pgs pages c m → (∀ p ∈ ls, ∀ b, p.2 = some b → b.length = 256) → (∀ p ∈ ls, 0 ≤ p.1 ∧ p.1 < pages) → Pgs pages (settleKeepC c ls ks) (settleKeep m ls ks)
 | [], _, _, _, h, _, _ => h
 | _ :: _, [], _, _, h, _, _ => h
 | p :: ls, k :: ks, c, m, h, h1, h2 => Pgs.keep (ls := ls) (ks := ks) (h.settle (keep := k) (h1 p (by simp)) (h2 p (by simp))) (fun q hq => h1 q (by simp [hq])) (fun q hq => h2 q (by simp [hq]))
abbrev wc (s : Fl) (c : List (Int × List UInt8)) : Fl := { s with safe := c }
theorem burnS_wc (s : Fl) (c : List (Int × List UInt8)) : burnS (wc s c) = wc (burnS s) c := by unfold burnS; split <;> rfl
theorem changeS_wc (s : Fl) (c : List (Int × List UInt8)) (at_ : Int) (o : Option (List UInt8)) : changeS (wc s c) at_ o = wc (changeS s at_ o) c := burnS_wc { s with loose := s.loose ++ [(at_, o)] } c
theorem writeS_wc (s : Fl) (c : List (Int × List UInt8)) (at_ : Int) (b : List UInt8) : writeS (wc s c) at_ b = wc (writeS s at_ b) c := by
 unfold writeS
 have : checkF (wc s c) at_ = checkF s at_ := rfl
 rw [this]
 split
 · rfl
 · exact changeS_wc s c at_ _
theorem trimS_wc (s : Fl) (c : List (Int × List UInt8)) (at_ : Int) : trimS (wc s c) at_ = wc (trimS s at_) c := by
 unfold trimS
 have : checkF (wc s c) at_ = checkF s at_ := rfl
 rw [this]
 split
 · rfl
 · exact changeS_wc s c at_ _
theorem tputS_wc (s : Fl) (c : List (Int × List UInt8)) (n at_ kd : Int) (b : List UInt8) : tputS (wc s c) n at_ kd b = wc (tputS s n at_ kd b) c := by
 unfold tputS; split
 · rfl
 · exact writeS_wc s c at_ _
theorem changeS_safe (s : Fl) (at_ : Int) (o : Option (List UInt8)) : (changeS s at_ o).safe = s.safe := burnS_safe _
theorem writeS_safe (s : Fl) (at_ : Int) (b : List UInt8) : (writeS s at_ b).safe = s.safe := by unfold writeS; split; (· rfl); (· exact changeS_safe _ _ _)
theorem trimS_safe (s : Fl) (at_ : Int) : (trimS s at_).safe = s.safe := by unfold trimS; split; (· rfl); (· exact changeS_safe _ _ _)
theorem changeS_pages (s : Fl) (at_ : Int) (o : Option (List UInt8)) : (changeS s at_ o).pages = s.pages := burnS_pages _
theorem writeS_pages (s : Fl) (at_ : Int) (b : List UInt8) : (writeS s at_ b).pages = s.pages := by unfold writeS; split; (· rfl); (· exact changeS_pages _ _ _)
theorem trimS_pages (s : Fl) (at_ : Int) : (trimS s at_).pages = s.pages := by unfold trimS; split; (· rfl); (· exact changeS_pages _ _ _)
def flushCC (s : Fl) (c : List (Int × List UInt8)) : List (Int × List UInt8) := if s.down = true then c else if burnB s then c else settleAllC c s.loose
theorem flush_wc (s : Fl) (c : List (Int × List UInt8)) : flush04S (wc s c) = wc (flushS s) (flushCC s c) := by
 unfold flush04S flushS flushCC
 have h1 : burnB (wc s c) = burnB s := rfl
 rw [h1, burnS_wc]
 by_cases hd : s.down = true
 · rw [if_pos hd, if_pos hd, if_pos hd]
 · rw [if_neg hd, if_neg hd, if_neg hd]
   split <;> rfl
structure Rel (s : Fl) (c : List (Int × List UInt8)) (n : Nat) : Prop where
 b : s.B n
 pg : Pgs s.pages c s.safe
 len : c.length + s.loose.length ≤ n
theorem Rel.rb {s : Fl} {c : List (Int × List UInt8)} {n : Nat} (h : Rel s c n) : (wc s c).B n := { h.b with safe := h.pg.cs, len := h.len }
theorem Rel.mono {s : Fl} {c : List (Int × List UInt8)} {n m : Nat} (h : Rel s c n) (hm : n ≤ m) : Rel s c m := ⟨h.b.mono hm, h.pg, Nat.le_trans h.len hm⟩
theorem B_R {s : Fl} {n : Nat} (h : s.B n) (hn : n < 2 ^ 29) : s.R := ⟨h.safe.page, h.lpage, by have := h.len; omega, (h.wf (by omega)).w⟩
theorem rel_new {p : Int} (h1 : 1 ≤ p) (h2 : p ≤ 4096) : Rel (newFl p) [] 0 := ⟨newFl_B h1 h2, ⟨List.Pairwise.nil, (newFl_B h1 h2).safe, (newFl_B h1 h2).safe, fun _ => rfl⟩, by simp [newFl]⟩
theorem Rel.write {s : Fl} {c : List (Int × List UInt8)} {n : Nat} (h : Rel s c n) (at_ : Int) (b : List UInt8) : Rel (writeS s at_ b) c (n + 1) :=
 ⟨writeS_B h.b at_ b, by rw [writeS_pages, writeS_safe]; exact h.pg, by have := (writeS_B h.rb at_ b).len; rw [writeS_wc] at this; exact this⟩
theorem Rel.trim {s : Fl} {c : List (Int × List UInt8)} {n : Nat} (h : Rel s c n) (at_ : Int) : Rel (trimS s at_) c (n + 1) :=
 ⟨trimS_B h.b at_, by rw [trimS_pages, trimS_safe]; exact h.pg, by have := (trimS_B h.rb at_).len; rw [trimS_wc] at this; exact this⟩
theorem Rel.put {s : Fl} {c : List (Int × List UInt8)} {m : Nat} (h : Rel s c m) (n at_ kd : Int) (b : List UInt8) : Rel (tputS s n at_ kd b) c (m + 1) := by
 unfold tputS; split
 · exact h.mono (Nat.le_succ _)
 · exact h.write _ _
theorem Rel.fuse {s : Fl} {c : List (Int × List UInt8)} {n : Nat} (h : Rel s c n) {k : Int} (hk : k < 9223372036854775808) : Rel (fuseS s k) c n := ⟨fuseS_B h.b hk, h.pg, h.len⟩
theorem Rel.crash {s : Fl} {c : List (Int × List UInt8)} {n : Nat} (h : Rel s c n) (keep : List Int) : Rel (crashS s keep) (settleKeepC c s.loose keep) n :=
 ⟨crashS_B h.b keep, h.pg.keep h.b.lpage h.b.lrng, by have := (settleKeepC_ok (ls := s.loose) (ks := keep) h.pg.cs.page h.b.lpage).2; have := h.len; show _ + 0 ≤ n; omega⟩
theorem Rel.flush {s : Fl} {c : List (Int × List UInt8)} {n : Nat} (h : Rel s c n) : Rel (flushS s) (flushCC s c) (n + 1) := by
 have hb := flushS_B h.b
 have hl := (settleAllC_ok (ls := s.loose) h.pg.cs.page h.b.lpage).2
 have h3 := h.len
 have e := burnS_pages s
 have e2 := burnS_safe s
 have e3 := burnS_loose s
 unfold flushS flushCC at *
 by_cases hd : s.down = true
 · rw [if_pos hd] at hb ⊢; rw [if_pos hd]; exact ⟨hb, h.pg, by omega⟩
 · rw [if_neg hd] at hb ⊢; rw [if_neg hd]
   by_cases hbb : burnB s = true
   · rw [if_pos hbb] at hb ⊢; rw [if_pos hbb]; exact ⟨hb, by rw [e, e2]; exact h.pg, by rw [e3]; omega⟩
   · rw [if_neg hbb] at hb ⊢; rw [if_neg hbb]; exact ⟨hb, by show Pgs (burnS s).pages _ _; rw [e]; exact h.pg.all h.b.lpage h.b.lrng, by show _ + 0 ≤ _; omega⟩
theorem Rel.look {s : Fl} {c : List (Int × List UInt8)} {n : Nat} (h : Rel s c n) (k : Int) : lookB (wc s c) k = lookB s k := by
 unfold lookB
 cases lookL s.loose k with
 | some o => rfl
 | none => exact congrArg (Option.getD · z256) (h.pg.find k)
theorem cellsAt_ext {s : Fl} {k1 k2 : List Int} (h1 : k1.Pairwise (· < ·)) (h2 : k2.Pairwise (· < ·)) (h : ∀ k, blankB (lookB s k) = false → (k ∈ k1 ↔ k ∈ k2)) : cellsAt s k1 = cellsAt s k2 := by
 unfold cellsAt
 rw [List.filter_map, List.filter_map]
 congr 1
 refine sorted_ext (h1.filter _) (h2.filter _) fun k => ?_
 rw [List.mem_filter, List.mem_filter]
 simp only [Function.comp_apply, Bool.not_eq_true']
 constructor
 · rintro ⟨h3, h4⟩; exact ⟨(h k h4).1 h3, h4⟩
 · rintro ⟨h3, h4⟩; exact ⟨(h k h4).2 h3, h4⟩
theorem upto_lt (n : Nat) : (upto n).Pairwise (· < ·) := by
 unfold upto
 rw [List.pairwise_map]
 exact List.pairwise_lt_range.imp fun h => by omega
theorem upto_mem {n : Nat} {k : Int} : k ∈ upto n ↔ 0 ≤ k ∧ k < n := by
 unfold upto
 rw [List.mem_map]
 constructor
 · rintro ⟨i, hi, rfl⟩; have := List.mem_range.1 hi; omega
 · rintro ⟨h1, h2⟩; exact ⟨k.toNat, List.mem_range.2 (by omega), by omega⟩
theorem lookL_mem {l : List (Int × Option (List UInt8))} {k : Int} (h : k ∉ l.map (·.1)) : lookL l k = none := foldl_none fun p hp e => h (List.mem_map.2 ⟨p, hp, e⟩)
theorem cells_all {s : Fl} {n : Nat} (h : s.B n) : cellsAt s (upto s.pages.toNat) = cellsF s := by
 refine cellsAt_ext (upto_lt _) (keysF_lt s) fun k hk => ?_
 have hp := h.p1
 have hmem : k ∈ s.safe.map (·.1) ∨ k ∈ s.loose.map (·.1) := by
   by_cases h1 : k ∈ s.loose.map (·.1)
   · exact .inr h1
   · by_cases h2 : k ∈ s.safe.map (·.1)
     · exact .inl h2
     · exfalso
       have : lookB s k = z256 := by unfold lookB; rw [lookL_mem h1, findM_none.2 h2]; rfl
       rw [this, blank_z] at hk; cases hk
 rw [upto_mem, keysF_mem]
 refine ⟨fun _ => hmem, fun _ => ?_⟩
 rcases hmem with hm | hm
 · obtain ⟨p, hp2, rfl⟩ := List.mem_map.1 hm
   have := h.safe.rng p hp2; omega
 · obtain ⟨p, hp2, rfl⟩ := List.mem_map.1 hm
   have := h.lrng p hp2; omega
theorem Rel.cells {s : Fl} {c : List (Int × List UInt8)} {n : Nat} (h : Rel s c n) : cellsAt (wc s c) (upto (wc s c).pages.toNat) = cellsF s := by
 rw [← cells_all h.b]
 unfold cellsAt
 have : (fun k => (k, lookB (wc s c) k)) = fun k => (k, lookB s k) := by funext k; rw [h.look]
 rw [this]
end
section
attribute [local go_sem] packed List.set_cons_zero List.set_cons_succ List.cons_append List.nil_append bytesRows_length cellRows_len chRows_len rCells intRows_len
attribute [-go_sem] cellsOf AV.isCell
attribute [local go_sem] cellsOf_agg cellsOf_int cellsOf_bool cellsOf_str cellsOf_map cellsOf_ptr cellsOf_nilI cellsOf_slice cellsOf_sl cellsOf_ifc cellsOf_fp cellsOf_opt optAV_cell icell_int icell_bool icell_str icell_map icell_ptr icell_nilI icell_slice icell_sl icell_ifc icell_fp
theorem getBox_GL (Δ : List HP) (b : Nat) : getBox (GL :: Δ) b = getBox Δ b := rfl
theorem setBox_GL (Δ : List HP) (b : Nat) (c : List AV) : setBox (GL :: Δ) b c = GL :: setBox Δ b c := rfl
theorem fresh_GL (Δ : List HP) (b : Nat) : fresh (GL :: Δ) b = fresh Δ b := rfl
theorem tputN_bd {s : Fl} {n at_ kd : Int} {b : List UInt8} (h : 1 ≤ n ∧ n ≤ 1099511627777) : 1 ≤ tputN s n at_ kd b ∧ tputN s n at_ kd b ≤ 1099511627777 := by
 unfold tputN
 split
 · rename_i hz
   have : checkC n kd b.length = 0 := by
     unfold tputC at hz
     false_or_by_contra
     rename_i hn
     rw [if_pos hn] at hz
     exact hn hz
   have := (checkC_zero this).1
   omega
 · exact h
def firmCC (s : Fl) (c : List (Int × List UInt8)) (n at_ kd : Int) (b : List UInt8) : List (Int × List UInt8) := if tputC s n at_ kd b ≠ 0 then c else flushCC (tputS s n at_ kd b) c
theorem firm_wc (s : Fl) (c : List (Int × List UInt8)) (n at_ kd : Int) (b : List UInt8) : tfirm04S (wc s c) n at_ kd b = wc (tfirmS s n at_ kd b) (firmCC s c n at_ kd b) := by
 unfold tfirm04S tfirmS firmCC
 have : tputC (wc s c) n at_ kd b = tputC s n at_ kd b := rfl
 rw [this, tputS_wc, flush_wc]
 split <;> rfl
theorem Rel.firm {s : Fl} {c : List (Int × List UInt8)} {m : Nat} (h : Rel s c m) (n at_ kd : Int) (b : List UInt8) : Rel (tfirmS s n at_ kd b) (firmCC s c n at_ kd b) (m + 2) := by
 unfold tfirmS firmCC
 by_cases hc : tputC s n at_ kd b ≠ 0
 · rw [if_pos hc, if_pos hc]; exact (h.put n at_ kd b).mono (by omega)
 · rw [if_neg hc, if_neg hc]; exact (h.put n at_ kd b).flush
theorem _root_.Go.Av.ACalls.underL {f : FuncId} {args : List AV} {D : List HP} {R : APost} (L : List HP) (h : ACalls Tryz.prog f args D R) : ACalls Tryz.prog f args (L ++ D) (fun r Δ' => ∃ D', R r D' ∧ Δ' = L ++ D') :=
 h.reorder (Fr := L) List.perm_append_comm (fun D' => L ++ D') (fun D' => List.perm_append_comm)
theorem _root_.Go.Av.ACalls.under1 {f : FuncId} {args : List AV} {D : List HP} {R : APost} (x : HP) (h : ACalls Tryz.prog f args D R) : ACalls Tryz.prog f args (x :: D) (fun r Δ' => ∃ D', R r D' ∧ Δ' = x :: D') := h.underL [x]
theorem _root_.Go.Av.ACalls.under5 {f : FuncId} {args : List AV} {D : List HP} {R : APost} (a b c d e : HP) (h : ACalls Tryz.prog f args D R) : ACalls Tryz.prog f args (a :: b :: c :: d :: e :: D) (fun r Δ' => ∃ D', R r D' ∧ Δ' = a :: b :: c :: d :: e :: D') := h.underL [a, b, c, d, e]
theorem checkC_ne11 (st kd : Int) (n : Nat) : checkC st kd n ≠ 11 := by
 unfold checkC; split
 · decide
 · split
   · decide
   · split <;> decide
theorem getC_ne11 (b : List UInt8) : getC b ≠ 11 := by
 have := checkC_ne11 (stampsB b).1 (kdB b) (nB b)
 unfold getC
 repeat' split
 all_goals first | decide | assumption
theorem tgetC_up {s : Fl} (h : s.down = false) (at_ kd : Int) : tgetC s at_ kd ≠ 11 := by
 unfold tgetC
 have h1 : checkF s at_ ≠ 11 := by unfold checkF; rw [h]; simp only [Bool.false_eq_true, if_false]; split <;> decide
 have := getC_ne11 (lookB s at_)
 repeat' split
 all_goals first | decide | assumption
theorem tgetC_down {s : Fl} (h : s.down = true) (at_ kd : Int) : tgetC s at_ kd = 11 := by
 unfold tgetC checkF; rw [h]; rfl
theorem _root_.Go.Av.ACalls.keepAll {f : FuncId} {args : List AV} {Δ1 Δ Fr : List HP} {Q : AEnd → Prop} (h : ACalls Tryz.prog f args Δ1 (fun r D' => Q r ∧ D' = Δ1)) (hp : Δ.Perm (Δ1 ++ Fr)) : ACalls Tryz.prog f args Δ (fun r D' => Q r ∧ D' = Δ) := by
 have h2 := (h.frame (Fr := Fr)).perm hp
 refine ⟨h.callable, fun g B us s r => (h2.run g B us s r).mono ?_⟩
 rintro e w' ⟨g', B', a, Δ', h1, h3, h4, h5, D1, rfl, h6, rfl⟩
 exact ⟨g', B', a, Δ, h1, h3, ⟨h4.fzlt, h4.blt, h4.disj, sep_perm hp.symm h4.sep⟩, h5, h6, rfl⟩
end
section
attribute [local go_sem] packed
def markAV (k : Int) : AV := .ifc 303 (.agg [.c (.int .i64 k)])
attribute [local go_sem] markAV
theorem unwrap_ok (op at_ c u : AV) : ACalls Tryz.prog 263 [.fp [op, at_, c, u]] [] (Ret u) := by
 refine jen cl_263 Tryz.func263 (h := ?_)
 refine jr (h := ?_)
 refine jret Tryz.func263 (h := ⟨rfl, rfl⟩)
theorem is1_ok (op at_ u : AV) (c k : Int) : ACalls Tryz.prog 262 [.fp [op, at_, .c (.int .i64 c), u], markAV k] [] (Ret (.c (.bool (decide (c = k) && !decide (c = 0))))) := by
 refine jen cl_262 Tryz.func262 (h := ?_)
 refine jr (own := [5]) (h := ?_)
 refine jnv (hh := fun b hb => ?_)
 refine jr (h := ?_)
 by_cases hck : c = k
 · refine jd [(0, .pure), (1, .pure), (2, .pure), (3, .pure), (4, .pure), (5, .read), (6, .pure), (7, .read), (8, .pure), (9, .pure), (10, .pure), (11, .pure), (12, .pure), (13, .pure), (14, .read), (15, .pure), (16, .pure), (17, .pure)] mixed (by kernel_rfl) ?_
   refine cq hck (hk := ?_)
   refine Can_nil ?_
   refine jr (h := ?_)
   refine J_forget ?_
   refine jret Tryz.func262 (h := ⟨by subst hck; simp, rfl⟩)
 · refine jd [(0, .pure), (1, .pure), (2, .pure), (3, .pure), (4, .pure), (5, .read), (6, .pure), (7, .read), (8, .pure), (9, .pure), (10, .pure), (11, .pure), (12, .pure), (13, .pure), (14, .read), (15, .pure), (16, .pure), (17, .pure)] mixed (by kernel_rfl) ?_
   refine cq hck (hk := ?_)
   refine Can_nil ?_
   refine jr (h := ?_)
   refine J_forget ?_
   refine jret Tryz.func262 (h := ⟨by simp [hck], rfl⟩)
theorem m_Is (v : Value) (w : World) : (Go.method (Tryz.prog.types.size + Made.depth) 123 v "Is").run Tryz.prog w = .ok (262, v) w := by kernel_rfl
theorem m_Unwrap (v : Value) (w : World) : (Go.method (Tryz.prog.types.size + Made.depth) 123 v "Unwrap").run Tryz.prog w = .ok (263, v) w := by kernel_rfl
theorem isl_ok {e : AV} {c : Int} (he : IsErr e c) (hc : c ≠ 0) (k : Int) : ACalls Tryz.prog 216 [e, markAV k, .c (.bool true)] [] (Ret (.c (.bool (decide (c = k))))) := by
 refine jen cl_216 Tryz.func216 (h := ?_)
 refine jr (h := ?_)
 refine J_loop ?_
 refine jk [0, 1, 2] (h := ?_)
 induction he with
 | none => exact absurd rfl hc
 | code op at_ c h =>
   have h1 := is1_ok op (.c (.int .i64 at_)) (.c .nilIface) c k
   rw [show (decide (c = k) && !decide (c = 0)) = decide (c = k) from by simp [h]] at h1
   refine jr (h := ?_)
   refine jog (ho := rfl) (hh := eql_types rfl gS gS Tryz.underlying27 (by decide)) (hk := ?_)
   rintro _ _ ⟨rfl, rfl⟩
   refine jr (h := ?_)
   refine jn (h := ?_)
   refine jr (h := ?_)
   refine jog (ho := rfl) (hh := tassert_has rfl gS Tryz.underlying339 (by kernel_rfl)) (hk := ?_)
   rintro _ _ ⟨rfl, rfl⟩
   refine jr (h := ?_)
   refine jic (hm := m_Is) (hs := h1) (hk := ?_)
   refine jr (h := ?_)
   refine jif (h1 := fun hck => ?_) (h2 := fun hck => ?_)
   · refine jr (h := ?_)
     refine jret Tryz.func216 (h := ⟨by simp [hck], rfl⟩)
   · refine jr (h := ?_)
     refine jog (ho := rfl) (hh := tassert_has rfl gS Tryz.underlying270 (by kernel_rfl)) (hk := ?_)
     rintro _ _ ⟨rfl, rfl⟩
     refine jr (h := ?_)
     refine jt (h := ?_)
     refine jr (h := ?_)
     refine jic (hm := m_Unwrap) (hs := (unwrap_ok _ _ _ _)) (hk := ?_)
     refine jr (h := ?_)
     refine jt (h := ?_)
     refine jr (h := ?_)
     refine jret Tryz.func216 (h := ⟨by simp [hck], rfl⟩)
 | under op at_ u c h hu ih =>
   have h1 := is1_ok op (.c (.int .i64 at_)) u 0 k
   simp only [decide_true, Bool.not_true, Bool.and_false] at h1
   have hif : ∃ t x, u = .ifc t x := by
     cases hu with
     | none => exact absurd rfl h
     | code => exact ⟨_, _, rfl⟩
     | under => exact ⟨_, _, rfl⟩
   refine jr (h := ?_)
   refine jog (ho := rfl) (hh := eql_types rfl gS gS Tryz.underlying27 (by decide)) (hk := ?_)
   rintro _ _ ⟨rfl, rfl⟩
   refine jr (h := ?_)
   refine jn (h := ?_)
   refine jr (h := ?_)
   refine jog (ho := rfl) (hh := tassert_has rfl gS Tryz.underlying339 (by kernel_rfl)) (hk := ?_)
   rintro _ _ ⟨rfl, rfl⟩
   refine jr (h := ?_)
   refine jic (hm := m_Is) (hs := h1) (hk := ?_)
   refine jr (h := ?_)
   refine jn (h := ?_)
   refine jr (h := ?_)
   refine jog (ho := rfl) (hh := tassert_has rfl gS Tryz.underlying270 (by kernel_rfl)) (hk := ?_)
   rintro _ _ ⟨rfl, rfl⟩
   refine jr (h := ?_)
   refine jt (h := ?_)
   refine jr (h := ?_)
   refine jic (hm := m_Unwrap) (hs := (unwrap_ok _ _ _ _)) (hk := ?_)
   obtain ⟨t, x, rfl⟩ := hif
   refine jr (h := ?_)
   refine jn (h := ?_)
   refine jr (h := ?_)
   refine J_inLoop ?_
   refine jk [0, 1, 2] (h := ?_)
   exact ih h
theorem typeOf_x (k : Int) {Δ : List HP} : XOK Tryz.prog 162 [markAV k] Δ (.ifc 262 (.c (.agg #[.pointer (some ⟨1, 303, none⟩)]))) := by
 refine ⟨fun g B us sm hr => ?_⟩
 simp only [relL, rel, markAV] at hr
 obtain ⟨u1, _, rfl, ⟨v1, rfl, hv⟩, rfl⟩ := hr
 have h10 := @run_callFunc_extern Tryz.prog 162 _ Go.Extern.ReflectliteType.typeOf Tryz.func162 (by kernel_rfl) (by kernel_rfl) (by kernel_rfl) (by kernel_rfl)
 have ht : (Go.Extern.ReflectliteType.typeOf #[.iface 303 v1]).run Tryz.prog g.w = .ok (.iface 262 (.agg #[.pointer (some ⟨1, 303, none⟩)])) g.w := by kernel_rfl
 refine ⟨_, ?_, by simp only [rel]; exact ⟨_, rfl, rfl⟩⟩
 rw [h10]
 simp only [Sem.run_bind, ht, Result.andThen_ok, Sem.run_pure]
theorem m_Comparable (v : Value) (w : World) : (Go.method (Tryz.prog.types.size + Made.depth) 262 v "Comparable").run Tryz.prog w = .ok (270, v) w := by kernel_rfl
theorem comparable_x (g : G) (v : Value) (h : rel g (.c (.agg #[.pointer (some ⟨1, 303, none⟩)])) v) : ∃ u, (callFunc 270 #[v]).run Tryz.prog g.w = .ok (.value u) g.w ∧ rel g (.c (.bool true)) u := by
 simp only [rel] at h
 subst h
 have h10 := @run_callFunc_extern Tryz.prog 270 _ (Go.Extern.ReflectliteType.method fun t => do Go.Extern.Rtype.noPackHeld "Comparable" t; pure (.bool (← typeInfo t).comparable)) Tryz.func270 (by kernel_rfl) (by kernel_rfl) (by kernel_rfl) (by kernel_rfl)
 have ht : ((Go.Extern.ReflectliteType.method fun t => do Go.Extern.Rtype.noPackHeld "Comparable" t; pure (.bool (← typeInfo t).comparable)) #[.agg #[.pointer (some ⟨1, 303, none⟩)]]).run Tryz.prog g.w = .ok (.bool true) g.w := by kernel_rfl
 refine ⟨.bool true, ?_, by simp only [rel]⟩
 rw [h10, ht]
 rfl
attribute [local go_sem] AV.isCell
theorem is_ok {e : AV} {c : Int} (he : IsErr e c) (hc : c ≠ 0) (k : Int) : ACalls Tryz.prog 191 [e, markAV k] [] (Ret (.c (.bool (decide (c = k))))) := by
 have hif : ∃ t x, e = .ifc t x := by
   cases he with
   | none => exact absurd rfl hc
   | code => exact ⟨_, _, rfl⟩
   | under => exact ⟨_, _, rfl⟩
 obtain ⟨t, x, rfl⟩ := hif
 refine jen cl_191 Tryz.func191 (h := ?_)
 refine jr (h := ?_)
 refine jn (h := ?_)
 refine jr (h := ?_)
 refine J_x gS (typeOf_x k) ?_
 refine jr (h := ?_)
 refine jog (ho := rfl) (hh := imethod_x rfl gS m_Comparable comparable_x) (hk := ?_)
 rintro _ _ ⟨rfl, rfl⟩
 refine jr (h := ?_)
 refine jc (hs := isl_ok he hc k) (hk := ?_)
 refine jr (h := ?_)
 refine jret Tryz.func191 (h := ⟨rfl, rfl⟩)
theorem has_ok {e : AV} {c : Int} (he : IsErr e c) (k : Int) : ACalls Tryz.prog 147 [e, .c (.int .i64 k)] [] (Ret (.c (.bool (decide (c ≠ 0 ∧ c = k))))) := by
 by_cases hc : c = 0
 · subst hc
   cases he with
   | none =>
     refine jen cl_147 Tryz.func147 (h := ?_)
     refine jr (h := ?_)
     refine jret Tryz.func147 (h := ⟨by simp, rfl⟩)
   | code _ _ _ h => exact absurd rfl h
   | under _ _ _ _ h => exact absurd rfl h
 · have hif : ∃ t x, e = .ifc t x := by
     cases he with
     | none => exact absurd rfl hc
     | code => exact ⟨_, _, rfl⟩
     | under => exact ⟨_, _, rfl⟩
   obtain ⟨t, x, rfl⟩ := hif
   have h1 := is_ok he hc k
   unfold markAV at h1
   refine jen cl_147 Tryz.func147 (h := ?_)
   refine jr (h := ?_)
   refine jc (hs := h1) (hk := ?_)
   refine jr (h := ?_)
   refine jret Tryz.func147 (h := ⟨by simp [hc], rfl⟩)
end
end Go.Proofs.YtjppajaoekbkpaaGreatDoor
