/- A part of the proof: what the calls do, told by values. -/
import Derived.Test.YtjppajaoekbkpaaGreatDoorB3
import Derived.Test.YtjppajaoekbkpaaGreatDoorB5
import Derived.Test.YtjppajaoekbkpaaGreatDoorA8
import Derived.Test.YtjppajaoekbkpaaGreatDoorB4
import Derived.Test.YtjppajaoekbkpaaGreatDoorA3
set_option linter.unusedVariables false
set_option linter.unusedSimpArgs false
set_option maxRecDepth 100000
set_option maxHeartbeats 4000000
namespace Go.Proofs.YtjppajaoekbkpaaGreatDoor
open Go Go.Av
attribute [local go_sem] packed List.set_cons_zero List.set_cons_succ List.cons_append List.nil_append bytesRows_length
section
def hi7 (n : Nat) : List UInt8 := if n = 0 then [] else hi7 (n / 128) ++ [UInt8.ofNat (n % 128 + 128)]
termination_by n
decreasing_by omega
def numB (n : Nat) : List UInt8 := hi7 (n / 128) ++ [UInt8.ofNat (n % 128)]
theorem hi7_zero : hi7 0 = [] := by rw [hi7]; simp
theorem hi7_pos {n : Nat} (h : n ≠ 0) : hi7 n = hi7 (n / 128) ++ [UInt8.ofNat (n % 128 + 128)] := by rw [hi7, if_neg h]
theorem hi7_len : ∀ (k n : Nat), n < 128 ^ k → (hi7 n).length ≤ k
 | 0, n, h => by have : n = 0 := by simpa using h
                 subst this; simp [hi7_zero]
 | k + 1, n, h => by
   by_cases h0 : n = 0
   · subst h0; simp [hi7_zero]
   · rw [hi7_pos h0, List.length_append]
     have := hi7_len k (n / 128) (by rw [Nat.pow_succ] at h; omega)
     simp; omega
theorem numB_len {n : Nat} (h : n ≤ 1099511627776) : (numB n).length ≤ 6 := by
 have := hi7_len 5 (n / 128) (by omega)
 unfold numB; rw [List.length_append]; simp; omega
def numsB (l : List Nat) : List UInt8 := l.flatMap numB
theorem numsB_take {l : List Nat} {i n : Nat} (h : l[i]? = some n) : numsB (l.take (i + 1)) = numsB (l.take i) ++ numB n := by
 have hl := (List.getElem?_eq_some_iff.1 h).1
 have hg := (List.getElem?_eq_some_iff.1 h).2
 rw [List.take_succ_eq_append_getElem hl, numsB, List.flatMap_append, hg]
 simp [numsB]
theorem numsB_len : ∀ {l : List Nat}, (∀ n ∈ l, n ≤ 1099511627776) → (numsB l).length ≤ 6 * l.length
 | [], _ => by simp [numsB]
 | n :: l, h => by
   have h1 := numB_len (h n (by simp))
   have h2 := numsB_len (l := l) fun m hm => h m (by simp [hm])
   simp only [numsB, List.flatMap_cons, List.length_append, List.length_cons] at h2 ⊢
   omega
def natRows (l : List Nat) : List (List AV) := l.map fun (n : Nat) => [.c (.int .i64 (n : Int))]
theorem natRows_len (l : List Nat) : (natRows l).length = l.length := by simp [natRows]
theorem natRows_get {l : List Nat} {i n : Nat} (h : l[i]? = some n) : (natRows l)[i]? = some [.c (.int .i64 (n : Int))] := by simp [natRows, h]
theorem or128 (y : UInt8) : aint .or .u8 (y.toNat : Int) 128 = some (.c (.int .u8 ((UInt8.ofNat (y.toNat % 128 + 128)).toNat : Int))) := by
 have h : ∀ y : Fin 256, aint .or .u8 (y.val : Int) 128 = some (.c (.int .u8 ((UInt8.ofNat (y.val % 128 + 128)).toNat : Int))) := by
   intro y
   refine congrArg some (congrArg AV.c (congrArg (Value.int .u8) ?_))
   revert y; decide +kernel
 exact h ⟨y.toNat, y.toNat_lt⟩
theorem and127 (y : UInt8) : aint .and .u8 (y.toNat : Int) 127 = some (.c (.int .u8 ((UInt8.ofNat (y.toNat % 128)).toNat : Int))) := by
 have h : ∀ y : Fin 256, aint .and .u8 (y.val : Int) 127 = some (.c (.int .u8 ((UInt8.ofNat (y.val % 128)).toNat : Int))) := by
   intro y
   refine congrArg some (congrArg AV.c (congrArg (Value.int .u8) ?_))
   revert y; decide +kernel
 exact h ⟨y.toNat, y.toNat_lt⟩
theorem pow128 (h : Nat) : 2 ^ (7 * h) = 128 ^ h := by rw [Nat.pow_mul]
theorem div128 (n h : Nat) : n / 128 ^ h / 128 = n / 128 ^ (h + 1) := by rw [Nat.div_div_eq_div_mul, Nat.pow_succ]
theorem high_le {n h : Nat} (hn : n ≤ 1099511627776) (h1 : 128 ≤ n / 128 ^ h) : h ≤ 4 := by
 by_cases h5 : h ≤ 4
 · exact h5
 · have h2 := (Nat.le_div_iff_mul_le (Nat.pow_pos (by decide))).1 h1
   have h3 : 128 ^ 5 ≤ 128 ^ h := Nat.pow_le_pow_right (by decide) (by omega)
   omega
theorem put02_ok (b : List UInt8) (l : List Nat) (hb : b.length < 2 ^ 36) (hl : l.length < 1000) (hn : ∀ n ∈ l, n ≤ 1099511627776) :
   ACalls Tryz.prog 61 [.sl 1 (bytesRows b), .sl 1 (natRows l)] [] (fun r D => ∃ v, r = .ret (.c v) ∧ OwnB 5 (b ++ numsB l) v D) := by
 refine jen cl_61 Tryz.func61 (h := ?_)
 refine jr (own := [11]) (h := ?_)
 refine jbi (hb := append0_bi gS (by simp only [go_sem, srcOf] <;> rfl) bytes_cell (by omega)) (hk := ?_)
 rintro _ D ⟨v, _, rfl, rfl, how⟩
 refine jf natRows_len (h := ?_)
 refine jk [5, 12, 13, 14] (h := ?_)
 refine J_loopI (I := fun m e D => ∃ (i : Nat) (v : Value), i ≤ l.length ∧ m = l.length - i ∧ OwnB 5 (b ++ numsB (l.take i)) v D ∧ e = [(5, .c v), (12, .sl 1 (natRows l)), (13, .c (.int .i64 l.length)), (14, .c (.int .i64 i))]) ?_ ?_
 · exact ⟨_, 0, v, by omega, rfl, by simpa [numsB] using how, rfl⟩
 · rintro m e D ⟨i, v, hi, rfl, how, rfl⟩ ih
   refine jr (h := ?_)
   refine jif (h1 := fun hc => ?_) (h2 := fun hc => ?_)
   · have hlt : i < l.length := by omega
     have hg := natRows_get (List.getElem?_eq_getElem hlt)
     have hnl := natRows_len l
     have h0 : (0 : Int) ≤ (i : Int) := by omega
     have hmax := hn _ (List.getElem_mem hlt)
     have hbl : (numsB (l.take i)).length ≤ 6 * i := by
       have := numsB_len (l := l.take i) fun n h => hn n (List.mem_of_mem_take h)
       rw [List.length_take] at this; omega
     generalize hx : l[i] = n at *
     refine jf (cB hg hnl h0) (h := ?_)
     refine jk [5, 7, 8, 12, 13, 14] (h := ?_)
     refine J_loopI (I := fun m e D' => ∃ (h : Nat), h ≤ 6 ∧ (∀ j, j < h → 128 ≤ n / 128 ^ j) ∧ m = 6 - h ∧ D' = D ∧ e = [(5, .c v), (7, .c (.int .i64 n)), (8, .c (.int .i64 h)), (12, .sl 1 (natRows l)), (13, .c (.int .i64 l.length)), (14, .c (.int .i64 i))]) ?_ ?_
     · exact ⟨_, 0, by omega, by intro j h; omega, rfl, rfl, rfl⟩
     · rintro m e _ ⟨h, hh, hj, rfl, rfl, rfl⟩ ih2
       have hsh : (7 * (h : Int)).toNat = 7 * h := by omega
       have hdiv : ((n : Int) / 2 ^ (7 * h)) = ((n / 128 ^ h : Nat) : Int) := by rw [← pow128]; simp
       refine jf (cA hsh hdiv) (h := ?_)
       refine jif (h1 := fun hd => ?_) (h2 := fun hd => ?_)
       · have h128 : 128 ≤ n / 128 ^ h := by omega
         have h4 := high_le hmax h128
         refine jr (h := ?_)
         refine jk [5, 7, 8, 12, 13, 14] (h := ?_)
         refine ih2 (6 - (h + 1)) _ _ (by omega) ⟨h + 1, by omega, ?_, rfl, rfl, rfl⟩
         intro j hjl
         by_cases hjh : j = h
         · subst hjh; exact h128
         · exact hj j (by omega)
       · have h128 : n / 128 ^ h < 128 := by omega
         refine jr (h := ?_)
         refine jk [5, 7, 8, 12, 13, 14] (h := ?_)
         refine J_loopI (I := fun m e D' => ∃ (j : Nat) (v' : Value), j ≤ h ∧ j = m ∧ OwnB 5 (b ++ numsB (l.take i) ++ hi7 (n / 128 ^ (j + 1))) v' D' ∧ e = [(5, .c v'), (7, .c (.int .i64 n)), (8, .c (.int .i64 j)), (12, .sl 1 (natRows l)), (13, .c (.int .i64 l.length)), (14, .c (.int .i64 i))]) ?_ ?_
         · refine ⟨_, h, v, by omega, rfl, ?_, rfl⟩
           rw [← div128, Nat.div_eq_of_lt h128, hi7_zero, List.append_nil]
           exact how
         · rintro m e D2 ⟨j, v', hjh, rfl, how2, rfl⟩ ih3
           have hbl2 : (hi7 (n / 128 ^ (j + 1))).length ≤ 6 := hi7_len 6 _ (Nat.lt_of_le_of_lt (Nat.div_le_self _ _) (by omega))
           refine jr (h := ?_)
           refine jif (h1 := fun hj0 => ?_) (h2 := fun hj0 => ?_)
           · have hsh2 : (7 * (j : Int)).toNat = 7 * j := by omega
             have hdiv2 : ((n : Int) / 2 ^ (7 * j)) = ((n / 128 ^ j : Nat) : Int) := by rw [← pow128]; simp
             have hw := wrap8_nat (n / 128 ^ j)
             have hor := or128 (UInt8.ofNat (n / 128 ^ j))
             refine jf (own := [37]) (cC hsh2 hdiv2 hw hor) (h := ?_)
             refine jap (Fr := []) (how := how2) (hp := (by simp)) (hsrc := (by simp only [go_sem, srcOf] <;> rfl)) (hc := (by rfl)) (hmax := (by simp only [List.length_append]; omega)) (hk := ?_)
             rintro _ D3 ⟨v3, _, rfl, rfl, how3⟩
             refine jr (h := ?_)
             refine jk [5, 7, 8, 12, 13, 14] (h := ?_)
             refine ih3 (j - 1) _ _ (by omega) ⟨j - 1, v3, by omega, rfl, ?_, ?_⟩
             · have hj1 : j - 1 + 1 = j := by omega
               have hnz : n / 128 ^ j ≠ 0 := by
                 have h1 := hj (j - 1) (by omega)
                 have h2 : n / 128 ^ j = n / 128 ^ (j - 1) / 128 := by rw [div128, hj1]
                 omega
               rw [hj1, hi7_pos hnz, div128, ← List.append_assoc]
               have he : UInt8.ofNat ((UInt8.ofNat (n / 128 ^ j)).toNat % 128 + 128) = UInt8.ofNat (n / 128 ^ j % 128 + 128) := by
                 rw [UInt8.toNat_ofNat']; congr 2; omega
               rw [← he]
               exact ownB_app (b := [UInt8.ofNat ((UInt8.ofNat (n / 128 ^ j)).toNat % 128 + 128)]) how3
             · have : (j : Int) - 1 = ((j - 1 : Nat) : Int) := by omega
               rw [this]
           · have hj0' : j = 0 := by omega
             subst hj0'
             have hw := wrap8_nat n
             have hand := and127 (UInt8.ofNat n)
             refine jf (own := [43]) (cA hw hand) (h := ?_)
             refine jap (Fr := []) (how := how2) (hp := (by simp)) (hsrc := (by simp only [go_sem, srcOf] <;> rfl)) (hc := (by rfl)) (hmax := (by simp only [List.length_append]; omega)) (hk := ?_)
             rintro _ D3 ⟨v3, _, rfl, rfl, how3⟩
             refine jr (h := ?_)
             refine jk [5, 12, 13, 14] (h := ?_)
             refine ih (l.length - (i + 1)) _ _ (by omega) ⟨i + 1, v3, by omega, rfl, ?_, rfl⟩
             rw [numsB_take (List.getElem?_eq_some_iff.2 ⟨hlt, hx⟩), ← List.append_assoc, numB, ← List.append_assoc]
             have he : UInt8.ofNat ((UInt8.ofNat n).toNat % 128) = UInt8.ofNat (n % 128) := by
               rw [UInt8.toNat_ofNat']; congr 1; omega
             rw [← he]
             exact ownB_app (b := [UInt8.ofNat ((UInt8.ofNat n).toNat % 128)]) how3
   · have hi2 : i = l.length := by omega
     subst hi2
     have how2 : OwnB 5 (b ++ numsB l) v D := by rw [List.take_length] at how; exact how
     refine jr (h := ?_)
     refine jret Tryz.func61 (h := ⟨v, rfl, how2⟩)
theorem put02_fz (b : List UInt8) (l : List Nat) (hb : b.length < 2 ^ 36) (hl : l.length < 1000) (hn : ∀ n ∈ l, n ≤ 1099511627776) : ACalls Tryz.prog 61 [.sl 1 (bytesRows b), .sl 1 (natRows l)] [] (Ret (.sl 1 (bytesRows (b ++ numsB l)))) :=
 (put02_ok b l hb hl hn).freezeB (by have := numsB_len hn; unfold maxRows; simp only [List.length_append]; omega)
theorem nil_slz : (AV.c (.slice none 0 0)).le .sl0 := fun g v h => by
 simp only [rel] at h ⊢; exact ⟨_, h⟩
theorem rem_natN (k : IntKind) {a b : Nat} (hb : 0 < b) : aint .rem k (a : Int) (b : Int) = some (.c (.int k ((a % b : Nat) : Int))) := by
 unfold aint; simp only []; rw [if_neg (by omega), Int.tmod_eq_emod_of_nonneg (by omega)]; rfl
theorem remN {a : Nat} : aint .rem .i64 (a : Int) 128 = some (.c (.int .i64 ((a % 128 : Nat) : Int))) := rem_natN .i64 (b := 128) (by decide)
theorem quo_i64 {a b : Nat} (ha : a < 2 ^ 62) (hb : 0 < b) : aint .quo .i64 (a : Int) (b : Int) = some (.c (.int .i64 ((a / b : Nat) : Int))) := by
 unfold aint; simp only []
 have h1 : a / b ≤ a := Nat.div_le_self _ _
 rw [if_neg (by omega), Int.tdiv_eq_ediv_of_nonneg (by omega), IntKind.wrap_i64, ← Int.natCast_ediv]
 generalize a / b = q at *
 refine congrArg some (congrArg AV.c (congrArg (Value.int .i64) ?_))
 omega
theorem quoN {a : Nat} (ha : a < 2 ^ 62) : aint .quo .i64 (a : Int) 128 = some (.c (.int .i64 ((a / 128 : Nat) : Int))) := quo_i64 (b := 128) ha (by decide)
theorem num02_ok (n : Nat) (hn : n ≤ 1099511627776) : ACalls Tryz.prog 112 [.c (.int .i64 n)] [] (Ret (.sl 1 (bytesRows (numB n)))) := by
 have hr := remN (a := n)
 have hq := quoN (a := n) (by omega)
 have hw := wrap8_nat (n % 128)
 refine jen cl_112 Tryz.func112 (h := ?_)
 refine jf (cB hr hq hw) (h := ?_)
 refine jk [3, 4] (h := ?_)
 refine J_loopI (I := fun m e D => ∃ (k : Nat) (cur : List UInt8), k ≤ 1099511627776 ∧ k = m ∧ D = [] ∧ hi7 k ++ cur = numB n ∧ e = [(3, .sl 1 (bytesRows cur)), (4, .c (.int .i64 k))]) ?_ ?_
 · exact ⟨_, n / 128, [UInt8.ofNat (n % 128)], by omega, rfl, rfl, rfl, rfl⟩
 · rintro m e D ⟨k, cur, hk, rfl, rfl, hcur, rfl⟩ ih
   have hcl : cur.length ≤ 6 := by
     have h1 := numB_len hn
     rw [← hcur, List.length_append] at h1; omega
   refine jr (h := ?_)
   refine jif (h1 := fun hc => ?_) (h2 := fun hc => ?_)
   · have hr2 := remN (a := k)
     have hq2 := quoN (a := k) (by omega)
     have hw2 := wrap8_nat (k % 128 + 128)
     have hca : (((k % 128 : Nat) : Int) + 128) = ((k % 128 + 128 : Nat) : Int) := by omega
     refine jf (own := [20]) (cB hr2 hca hw2) (h := ?_)
     refine J_op1 rfl gN (newslice_op rfl gS gS gS (by rfl) (by decide) (by decide) (by decide) gS gS (by rfl)) ?_
     rintro _ _ ⟨v7, D7, rfl, rfl, how7⟩
     refine jr (own := [23]) (h := ?_)
     refine jap (Fr := []) (how := (show OwnB 5 [UInt8.ofNat (k % 128 + 128)] v7 D7 from how7)) (hp := (by simp)) (hsrc := (by simp only [go_sem, srcOf] <;> rfl)) (hc := bytes_cell) (hmax := (by simp; omega)) (hk := ?_)
     rintro _ D3 ⟨v3, _, rfl, rfl, how3⟩
     have how4 : OwnB 5 ([UInt8.ofNat (k % 128 + 128)] ++ cur) v3 D3 := ownB_app how3
     refine J_freezeB (Fr := []) how4 (by unfold maxRows; simp; omega) ?_
     refine J_is (t := 23) (by simp only [go_sem]) (List.mem_cons_self ..) (J_drop ?_)
     refine jf hq2 (h := ?_)
     refine jk [3, 4] (h := ?_)
     refine ih (k / 128) _ _ (by omega) ⟨k / 128, [UInt8.ofNat (k % 128 + 128)] ++ cur, by omega, rfl, rfl, ?_, rfl⟩
     rw [← hcur, hi7_pos (by omega : k ≠ 0), List.append_assoc]
   · have hk0 : k = 0 := by omega
     subst hk0
     rw [hi7_zero, List.nil_append] at hcur
     subst hcur
     refine jr (h := ?_)
     refine jret Tryz.func112 (h := ⟨rfl, rfl⟩)
theorem putR_ok (b : List UInt8) (l : List Nat) (hb : b.length < 2 ^ 36) (hl : l.length < 1000) (hn : ∀ n ∈ l, n ≤ 1099511627776) :
   ACalls Tryz.prog 63 [.sl 1 (bytesRows b), .sl 1 (natRows l)] [] (fun r D => ∃ v, r = .ret (.c v) ∧ OwnB 5 (b ++ numsB l) v D) := by
 refine jen cl_63 Tryz.func63 (h := ?_)
 refine jr (own := [9]) (h := ?_)
 refine J_wk (t := 7) (y := .sl0) (by simp only [go_sem]) nil_slz ?_
 refine jbi (hb := append0_bi gS (by simp only [go_sem, srcOf] <;> rfl) bytes_cell (by omega)) (hk := ?_)
 rintro _ D ⟨v, _, rfl, rfl, how⟩
 refine jr (h := ?_)
 refine jk [1, 5, 6] (h := ?_)
 refine J_loopI (I := fun m e D => ∃ (i : Nat) (v : Value), i ≤ l.length ∧ m = l.length - i ∧ OwnB 5 (b ++ numsB (l.take i)) v D ∧ e = [(1, .sl 1 (natRows l)), (5, .c v), (6, .c (.int .i64 i))]) ?_ ?_
 · exact ⟨_, 0, v, by omega, rfl, by simpa [numsB] using how, rfl⟩
 · rintro m e D ⟨i, v, hi, rfl, how, rfl⟩ ih
   have hnl := natRows_len l
   refine jf hnl (h := ?_)
   refine jif (h1 := fun hc => ?_) (h2 := fun hc => ?_)
   · have hlt : i < l.length := by omega
     have hg := natRows_get (List.getElem?_eq_getElem hlt)
     have h0 : (0 : Int) ≤ (i : Int) := by omega
     have hmax := hn _ (List.getElem_mem hlt)
     have hbl : (numsB (l.take i)).length ≤ 6 * i := by
       have := numsB_len (l := l.take i) fun n h => hn n (List.mem_of_mem_take h)
       rw [List.length_take] at this; omega
     have hnb := numB_len hmax
     refine jf (own := [22]) (cB hg hnl h0) (h := ?_)
     refine jc (hs := num02_ok _ hmax) (hk := ?_)
     refine jr (own := [22]) (h := ?_)
     refine jap (Fr := []) (how := how) (hp := (by simp)) (hsrc := (by simp only [go_sem, srcOf] <;> rfl)) (hc := bytes_cell) (hmax := (by simp only [List.length_append]; omega)) (hk := ?_)
     rintro _ D2 ⟨v2, _, rfl, rfl, how2⟩
     refine jr (h := ?_)
     refine jk [1, 5, 6] (h := ?_)
     refine ih (l.length - (i + 1)) _ _ (by omega) ⟨i + 1, v2, by omega, rfl, ?_, rfl⟩
     rw [numsB_take (List.getElem?_eq_getElem hlt), ← List.append_assoc]
     exact ownB_app how2
   · have hi2 : i = l.length := by omega
     subst hi2
     have how2 : OwnB 5 (b ++ numsB l) v D := by rw [List.take_length] at how; exact how
     refine jr (h := ?_)
     refine jret Tryz.func63 (h := ⟨v, rfl, how2⟩)
theorem putR_fz (b : List UInt8) (l : List Nat) (hb : b.length < 2 ^ 36) (hl : l.length < 1000) (hn : ∀ n ∈ l, n ≤ 1099511627776) : ACalls Tryz.prog 63 [.sl 1 (bytesRows b), .sl 1 (natRows l)] [] (Ret (.sl 1 (bytesRows (b ++ numsB l)))) :=
 (putR_ok b l hb hl hn).freezeB (by have := numsB_len hn; unfold maxRows; simp only [List.length_append]; omega)
end
section
def scanN (b : List UInt8) (at_ most : Nat) : Nat → Nat → Nat → Int × Nat × Nat
 | 0, _, _ => (6, at_, 0)
 | k + 1, p, n =>
   let c := (b.getD p 0).toNat
   if c = 128 ∧ p = at_ then (5, at_, 0) else if most / 128 < n then (2, at_, 0)
   else if 128 ≤ c then scanN b at_ most k (p + 1) (n * 128 + c % 128)
   else if most < n * 128 + c then (2, at_, 0) else (0, p + 1, n * 128 + c)
def numR (b : List UInt8) (at_ : Nat) (c : Int) (most : Nat) : Int × Nat × Nat := if c ≠ 0 then (c, at_, 0) else scanN b at_ most (b.length - at_) at_ 0
theorem scanN_spec (b : List UInt8) (at_ most : Nat) : ∀ (k p n : Nat), p + k = b.length → at_ ≤ b.length → 0 ≤ (scanN b at_ most k p n).1 ∧ (scanN b at_ most k p n).2.1 ≤ b.length ∧ ((scanN b at_ most k p n).1 ≠ 0 → (scanN b at_ most k p n).2 = (at_, 0)) ∧ ((scanN b at_ most k p n).1 = 0 → (scanN b at_ most k p n).2.2 ≤ most)
 | 0, p, n, _, h => by simp [scanN, h]
 | k + 1, p, n, h1, h2 => by
   simp only [scanN]
   split
   · simp [h2]
   · split
     · simp [h2]
     · split
       · exact scanN_spec b at_ most k _ _ (by omega) h2
       · split
         · simp [h2]
         · exact ⟨by simp, by show p + 1 ≤ _; omega, fun h => absurd rfl h, fun _ => by show n * 128 + _ ≤ most; omega⟩
theorem numR_at (b : List UInt8) {at_ : Nat} (c : Int) (most : Nat) (h : at_ ≤ b.length) : (numR b at_ c most).2.1 ≤ b.length := by
 unfold numR; split
 · exact h
 · exact (scanN_spec b at_ most _ _ _ (by omega) h).2.1
theorem numR_val (b : List UInt8) {at_ : Nat} (c : Int) (most : Nat) (h : at_ ≤ b.length) : (numR b at_ c most).2.2 ≤ most := by
 unfold numR; split
 · simp
 · have h1 := scanN_spec b at_ most (b.length - at_) at_ 0 (by omega) h
   by_cases h0 : (scanN b at_ most (b.length - at_) at_ 0).1 = 0
   · exact h1.2.2.2 h0
   · rw [h1.2.2.1 h0]; exact Nat.zero_le _
theorem or7 {x y : Nat} (hx : x < 2 ^ 50) (hy : y < 128) : aint .or .i64 ((x : Int) * 128) (y : Int) = some (.c (.int .i64 ((x * 128 + y : Nat) : Int))) := by
 show some (AV.c (.int .i64 (IntKind.i64.wrap ((BitVec.ofInt IntKind.i64.bits ((x : Int) * 128) ||| BitVec.ofInt IntKind.i64.bits (y : Int)).toNat : Int)))) = _
 have e1 : BitVec.ofInt IntKind.i64.bits ((x : Int) * 128) = BitVec.ofNat 64 (x * 128) := by
   rw [show ((x : Int) * 128) = ((x * 128 : Nat) : Int) from by omega]; exact BitVec.ofInt_natCast _ _
 have e2 : BitVec.ofInt IntKind.i64.bits (y : Int) = BitVec.ofNat 64 y := BitVec.ofInt_natCast _ _
 rw [e1, e2]
 have e3 : (BitVec.ofNat 64 (x * 128) ||| BitVec.ofNat 64 y).toNat = x * 128 + y := by
   rw [BitVec.toNat_or, BitVec.toNat_ofNat, BitVec.toNat_ofNat, Nat.mod_eq_of_lt (by omega), Nat.mod_eq_of_lt (by omega)]
   have := Nat.shiftLeft_add_eq_or_of_lt (i := 7) (b := y) (by omega) x
   rw [Nat.shiftLeft_eq] at this
   exact this.symm
 have e4 := (congrArg (fun n : Nat => IntKind.i64.wrap (n : Int)) e3).trans (show _ = ((x * 128 + y : Nat) : Int) by rw [IntKind.wrap_i64]; omega)
 exact congrArg some (congrArg AV.c (congrArg (Value.int .i64) e4))
theorem rfail_ok (a : Nat) (b : List UInt8) (at_ c k : Int) : ACalls Tryz.prog 105 [.c (.pointer (some ⟨a, 0, none⟩)), .c (.int .i64 k)] [rdr a b at_ c] (fun r Δ => r = .ret (.tup []) ∧ Δ = [rdr a b at_ (if c = 0 then k else c)]) := by
 refine jen cl_105 Tryz.func105 (h := ?_)
 refine jr (h := ?_)
 refine jif (h1 := fun hc => ?_) (h2 := fun hc => ?_)
 · refine jr (h := ?_)
   refine J_end Tryz.func105 (xs := []) (by rfl) ⟨rfl, by rw [if_pos hc]⟩
 · refine jr (h := ?_)
   refine J_end Tryz.func105 (xs := []) (by rfl) ⟨rfl, by rw [if_neg hc]⟩
def NumI (a : Nat) (b : List UInt8) (at_ : Nat) (c : Int) (most : Nat) (m : Nat) (e : Env) (D : List HP) : Prop :=
 ∃ n p : Nat, e = [(0, .c (.pointer (some ⟨a, 0, none⟩))), (1, .c (.int .i64 most)), (5, .c (.int .i64 n)), (6, .c (.int .i64 p))] ∧
   ((c = 0 ∧ at_ ≤ p ∧ p ≤ b.length ∧ n ≤ most + 127 ∧ (p = at_ → n = 0) ∧ m = b.length - p + 1 ∧ D = [rdr a b at_ 0] ∧ numR b at_ c most = scanN b at_ most (b.length - p) p n) ∨
    ((numR b at_ c most).1 ≠ 0 ∧ m = 0 ∧ (numR b at_ c most).2 = (at_, 0) ∧ D = [rdr a b at_ (numR b at_ c most).1]))
theorem numI_back {a : Nat} {b : List UInt8} {at_ : Nat} {c : Int} {most n p : Nat} {k : Int} (hk : k ≠ 0) (h : numR b at_ c most = (k, at_, 0)) :
   NumI a b at_ c most 0 [(0, .c (.pointer (some ⟨a, 0, none⟩))), (1, .c (.int .i64 most)), (5, .c (.int .i64 n)), (6, .c (.int .i64 ((p : Int) + 1)))] [rdr a b at_ k] :=
 ⟨n, p + 1, rfl, .inr (by rw [h]; exact ⟨hk, rfl, rfl, rfl⟩)⟩
theorem rnum_ok (a : Nat) (b : List UInt8) (at_ : Nat) (c : Int) (most : Nat) (h : at_ ≤ b.length) (hb : b.length < 2 ^ 37) (hm : most ≤ 1099511627776) :
   ACalls Tryz.prog 51 [.c (.pointer (some ⟨a, 0, none⟩)), .c (.int .i64 most)] [rdr a b at_ c]
   (fun r Δ => r = .ret (.c (.int .i64 (numR b at_ c most).2.2)) ∧ Δ = [rdr a b (numR b at_ c most).2.1 (numR b at_ c most).1]) := by
 refine jen cl_51 Tryz.func51 (h := ?_)
 refine jr (h := ?_)
 refine jd [(0, .pure), (1, .pure), (2, .pure), (3, .read), (4, .pure), (5, .pure)] mixed (by kernel_rfl) ?_
 refine cr (hk := ?_)
 refine Can_nil ?_
 refine jr (h := ?_)
 refine jk [0, 1, 5, 6] (h := ?_)
 refine J_loopI (I := NumI a b at_ c most) ?_ ?_
 · refine ⟨if c = 0 then b.length - at_ + 1 else 0, 0, at_, rfl, ?_⟩
   by_cases hc : c = 0
   · subst hc
     exact .inl ⟨rfl, Nat.le_refl _, h, by omega, fun _ => rfl, rfl, rfl, by unfold numR; simp⟩
   · refine .inr ⟨by unfold numR; rw [if_pos hc]; exact hc, by rw [if_neg hc], by unfold numR; rw [if_pos hc], by unfold numR; rw [if_pos hc]⟩
 · rintro m e D ⟨n, p, rfl, hh⟩ ih
   rcases hh with ⟨rfl, hp1, hp2, hn, hz, rfl, rfl, hS⟩ | ⟨hne, rfl, hs2, rfl⟩
   · refine jr (h := ?_)
     refine jt (h := ?_)
     refine jr (h := ?_)
     refine jif (h1 := fun hge => ?_) (h2 := fun hge => ?_)
     · have hpe : b.length - p = 0 := by omega
       rw [hpe] at hS
       simp only [scanN] at hS
       refine jr (h := ?_)
       refine jcs (Δ1 := [_]) (Fr := []) (hs := (rfail_ok a b at_ 0 6)) (hp := (List.Perm.refl _)) (hk := ?_) (hpan := (by rintro x Δ' ⟨e, _⟩; cases e))
       rintro x _ ⟨e, rfl⟩
       cases e
       refine jr (h := ?_)
       refine jret Tryz.func51 (h := ⟨by rw [hS]; rfl, by rw [hS]⟩)
     · have hlt : p < b.length := by omega
       have hg := bytes_get (getD_get hlt)
       have h0 : (0 : Int) ≤ (p : Int) := by omega
       have hk : b.length - p = (b.length - (p + 1)) + 1 := by omega
       rw [hk] at hS
       simp only [scanN] at hS
       generalize hcc : b.getD p 0 = cc at *
       have hcl := cc.toNat_lt
       by_cases hA : cc.toNat = 128 ∧ p = at_
       · rw [if_pos hA] at hS
         obtain ⟨hA1, rfl⟩ := hA
         have hn0 : (n : Int) = 0 := by have := hz rfl; omega
         have hA2 : (cc.toNat : Int) = 128 := by omega
         refine jq (cB hg hA2 hn0) (h := ?_)
         refine jt (h := ?_)
         refine jr (h := ?_)
         refine jcs (Δ1 := [_]) (Fr := []) (hs := (rfail_ok a b p 0 5)) (hp := (List.Perm.refl _)) (hk := ?_) (hpan := (by rintro x Δ' ⟨e, _⟩; cases e))
         rintro x _ ⟨e, rfl⟩
         cases e
         refine jr (h := ?_)
         refine jk [0, 1, 5, 6] (h := ?_)
         exact ih 0 _ _ (by omega) (numI_back (by decide) hS)
       · rw [if_neg hA] at hS
         have hsel : (decide ((cc.toNat : Int) = 128) = true ∧ decide ((n : Int) = 0) = true ∧ decide ((p : Int) + 1 = (at_ : Int) + 1) = false) ∨ (decide ((cc.toNat : Int) = 128) = true ∧ decide ((n : Int) = 0) = false ∧ True) ∨ (decide ((cc.toNat : Int) = 128) = false ∧ True ∧ True) := by
           by_cases h1 : cc.toNat = 128
           · by_cases h2 : n = 0
             · exact .inl ⟨by simp; omega, by simp; omega, decide_eq_false fun h3 => hA ⟨h1, by omega⟩⟩
             · exact .inr (.inl ⟨by simp; omega, decide_eq_false (by omega), trivial⟩)
           · exact .inr (.inr ⟨decide_eq_false (by omega), trivial, trivial⟩)
         have hw128 : ((UInt8.ofNat (cc.toNat % 128)).toNat : Int) = ((cc.toNat % 128 : Nat) : Int) := by rw [UInt8.toNat_ofNat']; omega
         have hand := and127 cc
         have hor1 := or7 (x := n) (y := cc.toNat % 128) (by omega) (by omega)
         have hor2 : cc.toNat < 128 → _ := fun h => or7 (x := n) (y := cc.toNat) (by omega) h
         have hshl : ashift .shl .i64 (n : Int) 7 = some (.c (.int .i64 ((n : Int) * 128))) := by
           show some (AV.c (.int .i64 (IntKind.i64.wrap ((n : Int) * 2 ^ 7)))) = _
           refine congrArg some (congrArg AV.c (congrArg (Value.int .i64) ?_))
           rw [IntKind.wrap_i64]; omega
         rcases hsel with ⟨hd1, hd2, hd3⟩ | ⟨hd1, hd2, hd3⟩ | ⟨hd1, hd2, hd3⟩
         all_goals
           refine jf (cC hg hd1 hd2 hd3) (h := ?_)
           refine jk [0, 1, 5, 6, 7, 50] (h := ?_)
           refine jn (h := ?_)
           refine jr (h := ?_)
           refine jif (h1 := fun h2 => ?_) (h2 := fun h2 => ?_)
           · rw [if_pos (show most / 128 < n by omega)] at hS
             refine jr (h := ?_)
             refine jcs (Δ1 := [_]) (Fr := []) (hs := (rfail_ok a b at_ 0 2)) (hp := (List.Perm.refl _)) (hk := ?_) (hpan := (by rintro x Δ' ⟨e, _⟩; cases e))
             rintro x _ ⟨e, rfl⟩
             cases e
             refine jr (h := ?_)
             refine jk [0, 1, 5, 6] (h := ?_)
             exact ih 0 _ _ (by omega) (numI_back (by decide) hS)
           · rw [if_neg (show ¬ most / 128 < n by omega)] at hS
             refine jr (h := ?_)
             refine jif (h1 := fun h3 => ?_) (h2 := fun h3 => ?_)
             · rw [if_pos (show 128 ≤ cc.toNat by omega)] at hS
               refine jf (cC hand hw128 hshl hor1) (h := ?_)
               refine jk [0, 1, 5, 6] (h := ?_)
               exact ih (b.length - (p + 1) + 1) _ _ (by omega) ⟨n * 128 + cc.toNat % 128, p + 1, rfl, .inl ⟨rfl, by omega, by omega, by omega, fun h => by omega, rfl, rfl, hS⟩⟩
             · have hlt2 : cc.toNat < 128 := by omega
               rw [if_neg (show ¬ 128 ≤ cc.toNat by omega)] at hS
               have hor3 := hor2 hlt2
               refine jf (cA hshl hor3) (h := ?_)
               refine jif (h1 := fun h4 => ?_) (h2 := fun h4 => ?_)
               · rw [if_pos (show most < n * 128 + cc.toNat by omega)] at hS
                 refine jr (h := ?_)
                 refine jcs (Δ1 := [_]) (Fr := []) (hs := (rfail_ok a b at_ 0 2)) (hp := (List.Perm.refl _)) (hk := ?_) (hpan := (by rintro x Δ' ⟨e, _⟩; cases e))
                 rintro x _ ⟨e, rfl⟩
                 cases e
                 refine jr (h := ?_)
                 refine jk [0, 1, 5, 6] (h := ?_)
                 exact ih 0 _ _ (by omega) (numI_back (by decide) hS)
               · rw [if_neg (show ¬ most < n * 128 + cc.toNat by omega)] at hS
                 refine jr (h := ?_)
                 refine jret Tryz.func51 (h := ⟨by rw [hS], by rw [hS]; rfl⟩)
   · refine jr (h := ?_)
     refine jif (h1 := fun hc => ?_) (h2 := fun hc => ?_)
     · exact absurd hc hne
     · refine jr (h := ?_)
       refine jret Tryz.func51 (h := ⟨by rw [hs2]; rfl, by rw [hs2]⟩)
theorem rcode_ok (a : Nat) (b : List UInt8) (at_ c : Int) : ACalls Tryz.prog 52 [.c (.pointer (some ⟨a, 0, none⟩))] [rdr a b at_ c] (fun r Δ => r = .ret (.c (.int .i64 c)) ∧ Δ = [rdr a b at_ c]) := by
 refine jen cl_52 Tryz.func52 (h := ?_)
 refine jr (h := ?_)
 refine jret Tryz.func52 (h := ⟨rfl, rfl⟩)
theorem rat_ok (a : Nat) (b : List UInt8) (at_ c : Int) : ACalls Tryz.prog 56 [.c (.pointer (some ⟨a, 0, none⟩))] [rdr a b at_ c] (fun r Δ => r = .ret (.c (.int .i64 at_)) ∧ Δ = [rdr a b at_ c]) := by
 refine jen cl_56 Tryz.func56 (h := ?_)
 refine jr (h := ?_)
 refine jret Tryz.func56 (h := ⟨rfl, rfl⟩)
end
section
abbrev rdV (b : List UInt8) (at_ c : Int) : AV := .agg [.sl 1 (bytesRows b), .c (.int .i64 at_), .c (.int .i64 c)]
theorem fail02_ok (b : List UInt8) (at_ c k : Int) : ACalls Tryz.prog 107 [rdV b at_ c, .c (.int .i64 k)] [] (Ret (rdV b at_ (if c = 0 then k else c))) := by
 refine jen cl_107 Tryz.func107 (h := ?_)
 refine jr (own := [4, 5]) (h := ?_)
 refine jnv (hh := fun b4 hb4 => ?_)
 refine jr (own := [5]) (h := ?_)
 refine jnv (hh := fun b5 hb5 => ?_)
 simp only [fresh] at hb4 hb5
 refine jf hb5 (h := ?_)
 refine jif (h1 := fun hc => ?_) (h2 := fun hc => ?_)
 · refine jf hb5 (h := ?_)
   refine J_forget ?_
   refine jretf hb5 Tryz.func107 (h := ⟨by rw [if_pos hc], rfl⟩)
 · refine jf hb5 (h := ?_)
   refine J_forget ?_
   refine jretf hb5 Tryz.func107 (h := ⟨by rw [if_neg hc], rfl⟩)
theorem failN_ok (b : List UInt8) (at_ k : Int) : ACalls Tryz.prog 107 [rdV b at_ 0, .c (.int .i64 k)] [] (Ret (rdV b at_ k)) := by
 have h := fail02_ok b at_ 0 k
 rw [if_pos rfl] at h
 exact h
theorem num02R_ok (b : List UInt8) (at_ : Nat) (c : Int) (most : Nat) (h : at_ ≤ b.length) (hb : b.length < 2 ^ 37) (hm : most ≤ 1099511627776) :
   ACalls Tryz.prog 57 [rdV b at_ c, .c (.int .i64 most)] [] (Ret (.tup [rdV b (numR b at_ c most).2.1 (numR b at_ c most).1, .c (.int .i64 (numR b at_ c most).2.2)])) := by
 refine jen cl_57 Tryz.func57 (h := ?_)
 refine jr (own := [4]) (h := ?_)
 refine jnv (hh := fun b4 hb4 => ?_)
 simp only [fresh] at hb4
 refine jr (h := ?_)
 refine jif (h1 := fun hc => ?_) (h2 := fun hc => ?_)
 · have e : numR b at_ c most = (c, at_, 0) := by unfold numR; rw [if_pos hc]
   rw [e]
   refine jr (h := ?_)
   refine J_forget ?_
   refine jret Tryz.func57 (h := ⟨rfl, rfl⟩)
 · have hc0 : c = 0 := by omega
   subst hc0
   refine jr (h := ?_)
   refine jk [1, 2, 4, 6, 7] (h := ?_)
   refine J_loopI (I := fun m e D => ∃ n p : Nat, e = [(1, .c (.int .i64 most)), (2, .fp [.sl 1 (bytesRows b), .c (.int .i64 at_), .c (.int .i64 0)]), (4, .c (.pointer (some ⟨b4, 0, none⟩))), (6, .c (.int .i64 n)), (7, .c (.int .i64 p))] ∧ at_ ≤ p ∧ p ≤ b.length ∧ n ≤ most + 127 ∧ m = b.length - p ∧ D = [.box b4 117 [.c (.slice none 0 0), .c (.int .i64 0), .c (.int .i64 0)]] ∧ numR b at_ 0 most = scanN b at_ most (b.length - p) p n) ?_ ?_
   · exact ⟨_, 0, at_, rfl, Nat.le_refl _, h, by omega, rfl, rfl, by unfold numR; simp⟩
   · rintro m e D ⟨n, p, rfl, hp1, hp2, hn, rfl, rfl, hS⟩ ih
     refine jr (h := ?_)
     refine jif (h1 := fun hge => ?_) (h2 := fun hge => ?_)
     · have hlt : p < b.length := by omega
       have hg := bytes_get (getD_get hlt)
       have h0 : (0 : Int) ≤ (p : Int) := by omega
       have hk : b.length - p = (b.length - (p + 1)) + 1 := by omega
       rw [hk] at hS
       simp only [scanN] at hS
       generalize hcc : b.getD p 0 = cc at *
       have hcl := cc.toNat_lt
       by_cases hA : cc.toNat = 128 ∧ p = at_
       · rw [if_pos hA] at hS
         have hA2 : decide ((cc.toNat : Int) = 128) = true := decide_eq_true (by omega)
         have hA3 : decide ((p : Int) = (at_ : Int)) = true := decide_eq_true (by omega)
         rw [hS]
         refine jf (cB hg hA2 hA3) (h := ?_)
         refine jt (h := ?_)
         refine jr (h := ?_)
         refine jc (hs := failN_ok b at_ 5) (hk := ?_)
         refine jr (h := ?_)
         refine J_forget ?_
         refine jret Tryz.func57 (h := ⟨rfl, rfl⟩)
       · rw [if_neg hA] at hS
         have hsel : (decide ((cc.toNat : Int) = 128) = true ∧ decide ((p : Int) = (at_ : Int)) = false) ∨ (decide ((cc.toNat : Int) = 128) = false ∧ True) := by
           by_cases h1 : cc.toNat = 128
           · exact .inl ⟨decide_eq_true (by omega), decide_eq_false fun h3 => hA ⟨h1, by omega⟩⟩
           · exact .inr ⟨decide_eq_false (by omega), trivial⟩
         have hq := quoN (a := most) (by omega)
         have hr := remN (a := cc.toNat)
         rcases hsel with ⟨hd1, hd2⟩ | ⟨hd1, hd2⟩
         all_goals
           refine jf (cB hg hd1 hd2) (h := ?_)
           refine jk [1, 2, 4, 6, 7, 8, 36] (h := ?_)
           refine jn (h := ?_)
           refine jf hq (h := ?_)
           refine jif (h1 := fun h2 => ?_) (h2 := fun h2 => ?_)
           · rw [if_pos (show most / 128 < n by omega)] at hS
             rw [hS]
             refine jr (h := ?_)
             refine jc (hs := failN_ok b at_ 2) (hk := ?_)
             refine jr (h := ?_)
             refine J_forget ?_
             refine jret Tryz.func57 (h := ⟨rfl, rfl⟩)
           · rw [if_neg (show ¬ most / 128 < n by omega)] at hS
             refine jf hr (h := ?_)
             refine jif (h1 := fun h3 => ?_) (h2 := fun h3 => ?_)
             · rw [if_pos (show 128 ≤ cc.toNat by omega)] at hS
               refine jr (h := ?_)
               refine jk [1, 2, 4, 6, 7] (h := ?_)
               exact ih (b.length - (p + 1)) _ _ (by omega) ⟨n * 128 + cc.toNat % 128, p + 1, rfl, by omega, by omega, by omega, rfl, rfl, hS⟩
             · have hlt2 : cc.toNat < 128 := by omega
               rw [if_neg (show ¬ 128 ≤ cc.toNat by omega)] at hS
               have hmod : cc.toNat % 128 = cc.toNat := Nat.mod_eq_of_lt hlt2
               refine jf hmod (h := ?_)
               refine jif (h1 := fun h4 => ?_) (h2 := fun h4 => ?_)
               · rw [if_pos (show most < n * 128 + cc.toNat by omega)] at hS
                 rw [hS]
                 refine jr (h := ?_)
                 refine jc (hs := failN_ok b at_ 2) (hk := ?_)
                 refine jr (h := ?_)
                 refine J_forget ?_
                 refine jret Tryz.func57 (h := ⟨rfl, rfl⟩)
               · rw [if_neg (show ¬ most < n * 128 + cc.toNat by omega)] at hS
                 rw [hS]
                 refine jr (own := [9]) (h := ?_)
                 refine jnv (hh := fun b9 hb9 => ?_)
                 simp only [fresh] at hb9
                 refine jf hb9 (h := ?_)
                 refine J_forget ?_
                 refine jretf hb9 Tryz.func57 (h := ⟨rfl, rfl⟩)
     · have hpe : b.length - p = 0 := by omega
       rw [hpe] at hS
       simp only [scanN] at hS
       rw [hS]
       refine jr (h := ?_)
       refine jc (hs := failN_ok b at_ 6) (hk := ?_)
       refine jr (h := ?_)
       refine J_forget ?_
       refine jret Tryz.func57 (h := ⟨rfl, rfl⟩)
end
end Go.Proofs.YtjppajaoekbkpaaGreatDoor
namespace Go.Proofs.YtjppajaoekbkpaaGreatDoor
open Go Go.Av
section
structure Entry where
 key : List UInt8
 ver : Int
 asof : Int
 ends : Int
 val : List UInt8
deriving DecidableEq
def Entry.cells (x : Entry) : List AV := [.c (.string (mkStr x.key)), .c (.int .i64 x.ver), .c (.int .i64 x.asof), .c (.int .i64 x.ends), .sl 1 (bytesRows x.val)]
def Entry.av (x : Entry) : AV := .agg x.cells
attribute [local go_sem] Entry.av Entry.cells packed List.set_cons_zero List.set_cons_succ
def keyCode (k : List UInt8) : Int := if k.length = 0 then 1 else if 40 < k.length then 3 else 0
theorem key_ok (k : List UInt8) : ACalls Tryz.prog 194 [.c (.string (mkStr k))] [] (Ret (.c (.int .i64 (keyCode k)))) := by
 refine jen cl_194 Tryz.func194 (h := ?_)
 refine jr (h := ?_)
 refine jif (h1 := fun h1 => ?_) (h2 := fun h1 => ?_)
 · refine jr (h := ?_)
   refine jret Tryz.func194 (h := ⟨by simp only [keyCode]; rw [if_pos (by omega)], rfl⟩)
 · refine jr (h := ?_)
   refine jif (h1 := fun h2 => ?_) (h2 := fun h2 => ?_)
   · refine jr (h := ?_)
     refine jret Tryz.func194 (h := ⟨by simp only [keyCode]; rw [if_neg (by omega), if_pos (by omega)], rfl⟩)
   · refine jr (h := ?_)
     refine jret Tryz.func194 (h := ⟨by simp only [keyCode]; rw [if_neg (by omega), if_neg (by omega)], rfl⟩)
def fold64 (a : Int) : Int := x64 a (a / 8589934592)
def mix64 (a : Int) : Int := fold64 (m64 (fold64 (m64 (fold64 a) 18397679294719823053)) 14181476777654086739)
def step64 (h : Int) (b : UInt8) : Int := m64 (x64 h b.toNat) 1099511628211
def hash64 (k : List UInt8) : Int := mix64 (k.foldl step64 14695981039346656037)
theorem fold64_in (a : Int) : In64 (fold64 a) := x64_in _ _
theorem bmix_ok (a : Int) (h : In64 a) : ACalls Tryz.prog 142 [.c (.int .u64 a)] [] (Ret (.c (.int .u64 (mix64 a)))) := by
 have h1 := h.1
 refine jen cl_142 Tryz.func142 (h := ?_)
 refine jr (h := ?_)
 refine jret Tryz.func142 (h := ⟨rfl, rfl⟩)
theorem rfold_ok (a : Int) (h : In64 a) : ACalls Tryz.prog 198 [.c (.int .u64 a)] [] (Ret (.c (.int .u64 (fold64 a)))) := by
 have e := aint_quo_u64 h (b := 8589934592) (by omega)
 refine jen cl_198 Tryz.func198 (h := ?_)
 refine J_mrun (own := []) (m := 2000) (by simp (maxSteps := 2000000) (disch := omega) only [go_sem, ↓reduceIte, Int.reduceLT, Int.reduceLE, Int.reduceToNat, Int.reducePow, Int.reduceNeg, Nat.reduceBEq, Tryz.ntmps198, e] <;> with_reducible rfl) ?_
 refine jret Tryz.func198 (h := ⟨rfl, rfl⟩)
theorem rmix_ok (a : Int) (h : In64 a) : ACalls Tryz.prog 158 [.c (.int .u64 a)] [] (Ret (.c (.int .u64 (mix64 a)))) := by
 refine jen cl_158 Tryz.func158 (h := ?_)
 refine jr (h := ?_)
 refine jc (hs := rfold_ok _ h) (hk := ?_)
 refine jr (h := ?_)
 refine jc (hs := rfold_ok _ (m64_in _ _)) (hk := ?_)
 refine jr (h := ?_)
 refine jc (hs := rfold_ok _ (m64_in _ _)) (hk := ?_)
 refine jr (h := ?_)
 refine jret Tryz.func158 (h := ⟨rfl, rfl⟩)
theorem foldl_in (l : List UInt8) : ∀ h, In64 h → In64 (l.foldl step64 h) := by
 induction l with
 | nil => exact fun h hh => hh
 | cons b l ih => exact fun h _ => ih _ (m64_in _ _)
theorem bhash_ok (k : List UInt8) (hk : k.length < 2 ^ 62) : ACalls Tryz.prog 92 [.c (.string (mkStr k))] [] (Ret (.c (.int .u64 (hash64 k)))) := by
 refine jen cl_92 Tryz.func92 (h := ?_)
 refine jr (h := ?_)
 refine jk [0, 3, 6, 7] (h := ?_)
 refine J_loopI (I := fun m e D => ∃ i : Nat, i ≤ k.length ∧ m = k.length - i ∧ D = [] ∧ e = [(0, .c (.string (mkStr k))), (3, .c (.int .u64 ((k.take i).foldl step64 14695981039346656037))), (6, .c (.int .i64 k.length)), (7, .c (.int .i64 i))]) ?_ ?_
 · exact ⟨_, 0, Nat.zero_le _, rfl, rfl, by simp⟩
 · rintro m e D ⟨i, hi, rfl, rfl, rfl⟩ ih
   refine jr (h := ?_)
   refine jif (h1 := fun hc => ?_) (h2 := fun hc => ?_)
   · have hlt : i < k.length := by omega
     have hg : k[i]? = some k[i] := List.getElem?_eq_getElem hlt
     have hb := k[i].toNat_lt
     have h0 : (0 : Int) ≤ (i : Int) := by omega
     refine jf hg (h := ?_)
     refine jk [0, 3, 6, 7] (h := ?_)
     refine ih _ _ _ ?_ ⟨i + 1, hlt, rfl, rfl, ?_⟩
     · omega
     · simp only [List.take_add_one, hg, Option.toList_some, List.foldl_append, List.foldl_cons, List.foldl_nil, step64, UInt8.toNat_toUInt64, Int.natCast_add, Int.cast_ofNat_Int]
   · have hi' : i = k.length := by omega
     subst hi'
     refine jr (h := ?_)
     refine jc (hs := bmix_ok _ (foldl_in _ _ (by unfold In64; omega))) (hk := ?_)
     refine jr (h := ?_)
     refine jret Tryz.func92 (h := ⟨by simp [hash64], rfl⟩)
theorem same06_ok (x y : Entry) (hx : x.val.length < 2 ^ 62) : ACalls Tryz.prog 44 [x.av, y.av] [] (Ret (.c (.bool (decide (x = y))))) := by
 obtain ⟨k, v, a, e, b⟩ := x
 obtain ⟨k', v', a', e', b'⟩ := y
 simp only [Entry.av, Entry.cells]
 refine jen cl_44 Tryz.func44 (h := ?_)
 by_cases h1 : k = k'
 · by_cases h2 : v = v'
   · by_cases h3 : a = a'
     · by_cases h4 : e = e'
       · refine jf (cC (eq_true h1) (eq_true h2) (eq_true h3) (eq_true h4)) (h := ?_)
         refine jc (hs := same02_ok b b' hx) (hk := ?_)
         refine jf (cC (eq_true h1) (eq_true h2) (eq_true h3) (eq_true h4)) (h := ?_)
         refine jret Tryz.func44 (h := ⟨by simp [h1, h2, h3, h4], rfl⟩)
       · refine jf (cC (eq_true h1) (eq_true h2) (eq_true h3) (eq_false h4)) (h := ?_)
         refine jret Tryz.func44 (h := ⟨by simp [h4], rfl⟩)
     · refine jf (cB (eq_true h1) (eq_true h2) (eq_false h3)) (h := ?_)
       refine jret Tryz.func44 (h := ⟨by simp [h3], rfl⟩)
   · refine jf (cA (eq_true h1) (eq_false h2)) (h := ?_)
     refine jret Tryz.func44 (h := ⟨by simp [h2], rfl⟩)
 · refine jf (eq_false h1) (h := ?_)
   refine jret Tryz.func44 (h := ⟨by simp [h1], rfl⟩)
def ents (l : List Entry) : List (List AV) := l.map Entry.cells
theorem ents_len (l : List Entry) : (ents l).length = l.length := by simp [ents]
theorem ents_get {l : List Entry} {i : Nat} {x : Entry} (h : l[i]? = some x) : (ents l)[i]? = some [.c (.string (mkStr x.key)), .c (.int .i64 x.ver), .c (.int .i64 x.asof), .c (.int .i64 x.ends), .sl 1 (bytesRows x.val)] := by
 simp [ents, h, Entry.cells]
theorem ents_row (l : List Entry) : ∀ r ∈ ents l, r.length = 5 := by simp [ents, Entry.cells]
def findE (l : List Entry) (k : List UInt8) : Option Nat := l.findIdx? (fun x => decide (x.key = k))
def findI (l : List Entry) (k : List UInt8) : Int := match findE l k with | some i => i | none => -1
theorem find_ok (l : List Entry) (k : List UInt8) (hl : l.length < 2 ^ 62) : ACalls Tryz.prog 45 [.sl 5 (ents l), .c (.string (mkStr k))] [] (Ret (.c (.int .i64 (findI l k)))) := by
 refine jen cl_45 Tryz.func45 (h := ?_)
 refine jr (h := ?_)
 refine jk [0, 1, 5] (h := ?_)
 refine J_loopI (I := fun m e D => ∃ i : Nat, i ≤ l.length ∧ m = l.length - i ∧ D = [] ∧ (∀ j (h : j < l.length), j < i → l[j].key ≠ k) ∧ e = [(0, .sl 5 (ents l)), (1, .c (.string (mkStr k))), (5, .c (.int .i64 i))]) ?_ ?_
 · exact ⟨_, 0, Nat.zero_le _, rfl, rfl, by simp, rfl⟩
 · rintro m e D ⟨i, hi, rfl, rfl, hn, rfl⟩ ih
   refine jf ents_len (h := ?_)
   refine jif (h1 := fun hc => ?_) (h2 := fun hc => ?_)
   · have hlt : i < l.length := by omega
     have g1 := ents_get (List.getElem?_eq_getElem hlt)
     have h0 : (0 : Int) ≤ (i : Int) := by omega
     refine jf g1 (h := ?_)
     refine jif (h1 := fun hd => ?_) (h2 := fun hd => ?_)
     · refine jr (h := ?_)
       refine J_retX Tryz.func45 (by simp only [go_sem, ↓reduceIte, Int.reduceLT, Int.reduceLE, Int.reduceToNat, Int.reducePow, Int.reduceNeg, Nat.reduceBEq, Tryz.f45] <;> first | with_reducible rfl | rfl) ⟨by
         have : findE l k = some i := by
           unfold findE
           rw [List.findIdx?_eq_some_iff_getElem]
           exact ⟨hlt, by simpa using hd, fun j hj => by simpa using hn j (by omega) hj⟩
         simp [findI, this], rfl⟩
     · refine jr (h := ?_)
       refine jk [0, 1, 5] (h := ?_)
       refine ih _ _ _ ?_ ⟨i + 1, hlt, rfl, rfl, ?_, by simp only [Int.natCast_add, Int.cast_ofNat_Int]⟩
       · omega
       · intro j h hj
         rcases Nat.lt_succ_iff_lt_or_eq.1 hj with h1 | rfl
         · exact hn j h h1
         · exact hd
   · have hi' : i = l.length := by omega
     subst hi'
     refine jr (h := ?_)
     refine J_retX Tryz.func45 (by simp only [go_sem, ↓reduceIte, Int.reduceLT, Int.reduceLE, Int.reduceToNat, Int.reducePow, Int.reduceNeg, Nat.reduceBEq, Tryz.f45] <;> first | with_reducible rfl | rfl) ⟨by
       have : findE l k = none := by
         unfold findE
         rw [List.findIdx?_eq_none_iff]
         intro x hx
         obtain ⟨j, hj, rfl⟩ := List.mem_iff_getElem.1 hx
         simpa using hn j hj hj
       simp [findI, this], rfl⟩
def but (l : List Entry) (k : List UInt8) : List Entry := l.filter fun x => decide (x.key ≠ k)
theorem but_own (l : List Entry) (k : List UInt8) (hl : l.length < 2 ^ 30) : ACalls Tryz.prog 141 [.sl 5 (ents l), .c (.string (mkStr k))] [] (fun r D => ∃ v, r = .ret (.c v) ∧ Own 78 5 (ents (but l k)).flatten (ents (but l k)).length v D) := by
 refine jen cl_141 Tryz.func141 (h := ?_)
 refine jr (h := ?_)
 refine jk [0, 1, 5, 6] (h := ?_)
 refine J_loopI (I := fun m e D => ∃ (i : Nat) (v : Value), i ≤ l.length ∧ m = l.length - i ∧ Own 78 5 (ents (but (l.take i) k)).flatten (ents (but (l.take i) k)).length v D ∧ e = [(0, .sl 5 (ents l)), (1, .c (.string (mkStr k))), (5, .c v), (6, .c (.int .i64 i))]) ?_ ?_
 · exact ⟨_, 0, _, Nat.zero_le _, rfl, .nil none (by simp [ents, but]) (by simp [ents, but]), rfl⟩
 · rintro m e D ⟨i, v, hi, rfl, how, rfl⟩ ih
   refine jf ents_len (h := ?_)
   refine jif (h1 := fun hc => ?_) (h2 := fun hc => ?_)
   · have hlt : i < l.length := by omega
     have g0 := List.getElem?_eq_getElem hlt
     have g1 := ents_get g0
     have h0 : (0 : Int) ≤ (i : Int) := by omega
     refine jf g1 (h := ?_)
     refine jif (h1 := fun hd => ?_) (h2 := fun hd => ?_)
     · refine jf (own := [26]) g1 (h := ?_)
       refine jap (Fr := []) (how := how) (hp := (by simp)) (hsrc := (by simp only [go_sem] <;> rfl)) (hc := (by rfl)) (hmax := (by simp [ents, but]; have := List.length_filter_le (fun x => decide (¬ x.key = k)) (l.take i); simp at this; omega)) (hk := ?_)
       rintro _ _ ⟨v', D', rfl, rfl, how'⟩
       refine jr (h := ?_)
       refine jk [0, 1, 5, 6] (h := ?_)
       refine ih _ _ _ ?_ ⟨i + 1, v', hlt, rfl, ?_, by simp only [Int.natCast_add, Int.cast_ofNat_Int]⟩
       · omega
       · have e1 : but (l.take (i + 1)) k = but (l.take i) k ++ [l[i]] := by
           simp only [but, List.take_add_one, g0, Option.toList_some, List.filter_append]
           simp [hd]
         rw [e1]
         simpa [ents, Entry.cells] using how'
     · refine jr (h := ?_)
       refine jk [0, 1, 5, 6] (h := ?_)
       refine ih _ _ _ ?_ ⟨i + 1, v, hlt, rfl, ?_, by simp only [Int.natCast_add, Int.cast_ofNat_Int]⟩
       · omega
       · have e1 : but (l.take (i + 1)) k = but (l.take i) k := by
           simp only [but, List.take_add_one, g0, Option.toList_some, List.filter_append]
           simp [hd]
         rw [e1]; exact how
   · have hi' : i = l.length := by omega
     subst hi'
     rw [List.take_length] at how
     refine jr (h := ?_)
     refine jret Tryz.func141 (h := ⟨v, rfl, how⟩)
theorem but_ok (l : List Entry) (k : List UInt8) (hl : l.length < 2 ^ 30) : ACalls Tryz.prog 141 [.sl 5 (ents l), .c (.string (mkStr k))] [] (Ret (.sl 5 (ents (but l k)))) :=
 (but_own l k hl).freezeR (ents_row _) (by rw [ents_len]; have := List.length_filter_le (fun x => decide (x.key ≠ k)) l; unfold but maxRows; omega)
theorem rhash_ok (k : List UInt8) (hk : k.length < 2 ^ 62) : ACalls Tryz.prog 102 [.c (.string (mkStr k))] [] (Ret (.c (.int .u64 (hash64 k)))) := by
 refine jen cl_102 Tryz.func102 (h := ?_)
 refine jr (h := ?_)
 refine jk [0, 3, 4] (h := ?_)
 refine J_loopI (I := fun m e D => ∃ i : Nat, i ≤ k.length ∧ m = k.length - i ∧ D = [] ∧ e = [(0, .c (.string (mkStr k))), (3, .c (.int .u64 ((k.take i).foldl step64 14695981039346656037))), (4, .c (.int .i64 i))]) ?_ ?_
 · exact ⟨_, 0, Nat.zero_le _, rfl, rfl, by simp⟩
 · rintro m e D ⟨i, hi, rfl, rfl, rfl⟩ ih
   refine jr (h := ?_)
   refine jif (h1 := fun hc => ?_) (h2 := fun hc => ?_)
   · have hlt : i < k.length := by omega
     have hg : k[i]? = some k[i] := List.getElem?_eq_getElem hlt
     have hb := k[i].toNat_lt
     have h0 : (0 : Int) ≤ (i : Int) := by omega
     refine jf hg (h := ?_)
     refine jk [0, 3, 4] (h := ?_)
     refine ih _ _ _ ?_ ⟨i + 1, hlt, rfl, rfl, ?_⟩
     · omega
     · simp only [List.take_add_one, hg, Option.toList_some, List.foldl_append, List.foldl_cons, List.foldl_nil, step64, UInt8.toNat_toUInt64, Int.natCast_add, Int.cast_ofNat_Int]
   · have hi' : i = k.length := by omega
     subst hi'
     refine jr (h := ?_)
     refine jc (hs := rmix_ok _ (foldl_in _ _ (by unfold In64; omega))) (hk := ?_)
     refine jr (h := ?_)
     refine jret Tryz.func102 (h := ⟨by simp [hash64], rfl⟩)
theorem rkey_ok (k : List UInt8) : ACalls Tryz.prog 214 [.c (.string (mkStr k))] [] (Ret (.c (.int .i64 (keyCode k)))) := by
 refine jen cl_214 Tryz.func214 (h := ?_)
 refine jr (h := ?_)
 refine jif (h1 := fun h1 => ?_) (h2 := fun h1 => ?_)
 · refine jr (h := ?_)
   refine jret Tryz.func214 (h := ⟨by simp only [keyCode]; rw [if_pos (by rw [h1]; rfl)], rfl⟩)
 · have h1' : k.length ≠ 0 := fun h => h1 (List.eq_nil_of_length_eq_zero h)
   refine jr (h := ?_)
   refine jif (h1 := fun h2 => ?_) (h2 := fun h2 => ?_)
   · refine jr (h := ?_)
     refine jret Tryz.func214 (h := ⟨by simp only [keyCode]; rw [if_neg h1', if_pos (by omega)], rfl⟩)
   · refine jr (h := ?_)
     refine jret Tryz.func214 (h := ⟨by simp only [keyCode]; rw [if_neg h1', if_neg (by omega)], rfl⟩)
def badNum (x : Entry) : Prop := x.ver < 1 ∨ 1099511627776 < x.ver ∨ x.asof < x.ver ∨ 1099511627776 < x.asof ∨ x.ends < 0 ∨ 1099511627776 < x.ends
instance (x : Entry) : Decidable (badNum x) := by unfold badNum; infer_instance
def checkCode (x : Entry) : Int := if keyCode x.key ≠ 0 then keyCode x.key else if badNum x then 2 else if 4096 < x.val.length then 3 else 0
theorem rcheck_ok (x : Entry) : ACalls Tryz.prog 185 [x.av] [] (Ret (.c (.int .i64 (checkCode x)))) := by
 obtain ⟨k, v, a, e, b⟩ := x
 simp only [Entry.av, Entry.cells]
 refine jen cl_185 Tryz.func185 (h := ?_)
 refine jr (h := ?_)
 refine jc (hs := rkey_ok k) (hk := ?_)
 refine jr (h := ?_)
 refine jif (h1 := fun h0 => ?_) (h2 := fun h0 => ?_)
 · refine jr (h := ?_)
   refine jret Tryz.func185 (h := ⟨by simp [checkCode, h0], rfl⟩)
 · have h0' : keyCode k = 0 := by simpa using h0
   by_cases h1 : v < 1
   · refine jf (eq_true h1) (h := ?_)
     refine jt (h := ?_)
     refine jr (h := ?_)
     refine jret Tryz.func185 (h := ⟨by simp [checkCode, h0', badNum, h1], rfl⟩)
   by_cases h2 : 1099511627776 < v
   · refine jf (cA (eq_false h1) (eq_true h2)) (h := ?_)
     refine jt (h := ?_)
     refine jr (h := ?_)
     refine jret Tryz.func185 (h := ⟨by simp [checkCode, h0', badNum, h2], rfl⟩)
   by_cases h3 : a < v
   · refine jf (cB (eq_false h1) (eq_false h2) (eq_true h3)) (h := ?_)
     refine jt (h := ?_)
     refine jr (h := ?_)
     refine jret Tryz.func185 (h := ⟨by simp [checkCode, h0', badNum, h3], rfl⟩)
   by_cases h4 : 1099511627776 < a
   · refine jf (cC (eq_false h1) (eq_false h2) (eq_false h3) (eq_true h4)) (h := ?_)
     refine jt (h := ?_)
     refine jr (h := ?_)
     refine jret Tryz.func185 (h := ⟨by simp [checkCode, h0', badNum, h4], rfl⟩)
   by_cases h5 : e < 0
   · refine jf (cD (eq_false h1) (eq_false h2) (eq_false h3) (eq_false h4) (eq_true h5)) (h := ?_)
     refine jt (h := ?_)
     refine jr (h := ?_)
     refine jret Tryz.func185 (h := ⟨by simp [checkCode, h0', badNum, h5], rfl⟩)
   by_cases h6 : 1099511627776 < e
   · refine jf (cD (eq_false h1) (eq_false h2) (eq_false h3) (eq_false h4) (cA ((eq_false h5)) ((eq_true h6)))) (h := ?_)
     refine jt (h := ?_)
     refine jr (h := ?_)
     refine jret Tryz.func185 (h := ⟨by simp [checkCode, h0', badNum, h6], rfl⟩)
   refine jf (cD (eq_false h1) (eq_false h2) (eq_false h3) (eq_false h4) (cA ((eq_false h5)) ((eq_false h6)))) (h := ?_)
   refine jn (h := ?_)
   have hbad : ¬ badNum ⟨k, v, a, e, b⟩ := by unfold badNum; simp only; omega
   refine jr (h := ?_)
   refine jif (h1 := fun h7 => ?_) (h2 := fun h7 => ?_)
   · refine jr (h := ?_)
     refine jret Tryz.func185 (h := ⟨by simp only [checkCode]; rw [if_neg (by simpa using h0'), if_neg hbad, if_pos (by show 4096 < b.length; omega)], rfl⟩)
   · refine jr (h := ?_)
     refine jret Tryz.func185 (h := ⟨by simp only [checkCode]; rw [if_neg (by simpa using h0'), if_neg hbad, if_neg (by show ¬ 4096 < b.length; omega)], rfl⟩)
theorem ents_cell (l : List Entry) : (ents l).flatten.all AV.isCell = true := by
 induction l with
 | nil => rfl
 | cons x l ih => simp only [ents, List.map_cons, List.flatten_cons, List.all_append, Bool.and_eq_true] at ih ⊢; exact ⟨rfl, ih⟩
theorem ents_drop (l : List Entry) (i : Nat) : (ents l).drop i = ents (l.drop i) := by simp [ents]
theorem ents_append (a b : List Entry) : ents (a ++ b) = ents a ++ ents b := by simp [ents]
theorem ents_all (l : List Entry) : (ents l).take l.length = ents l := List.take_of_length_le (by rw [ents_len]; exact Nat.le_refl _)
theorem own_snoc {e : TypeId} {l : List Entry} {y : Entry} {v : Value} {D : List HP} (h : Own e 5 ((ents l).flatten ++ y.cells) ((ents l).length + 1) v D) : Own e 5 (ents (l ++ [y])).flatten (ents (l ++ [y])).length v D := by
 rw [ents_append, List.flatten_append, List.length_append]
 have e1 : (ents [y]).flatten = y.cells := by simp [ents]
 rw [e1]; exact h
theorem own_appE {e : TypeId} {l k : List Entry} {v : Value} {D : List HP} (h : Own e 5 ((ents l).flatten ++ (ents k).flatten) ((ents l).length + (ents k).length) v D) : Own e 5 (ents (l ++ k)).flatten (ents (l ++ k)).length v D := by
 rw [ents_append, List.flatten_append, List.length_append]; exact h
theorem sameAll_ok (a b : List Entry) (ha : a.length < 2 ^ 62) (hv : ∀ x ∈ a, x.val.length < 2 ^ 62) : ACalls Tryz.prog 38 [.sl 5 (ents a), .sl 5 (ents b)] [] (Ret (.c (.bool (decide (a = b))))) := by
 refine jen cl_38 Tryz.func38 (h := ?_)
 refine jf ents_len (h := ?_)
 refine jif (h1 := fun h1 => ?_) (h2 := fun h1 => ?_)
 · refine jr (h := ?_)
   have hne : a ≠ b := fun e => h1 (by rw [e])
   refine jret Tryz.func38 (h := ⟨by simp [hne], rfl⟩)
 · have hl : a.length = b.length := by omega
   refine jr (h := ?_)
   refine jk [0, 1, 5] (h := ?_)
   refine J_loopI (I := fun m e D => ∃ i : Nat, i ≤ a.length ∧ m = a.length - i ∧ D = [] ∧ a.take i = b.take i ∧ e = [(0, .sl 5 (ents a)), (1, .sl 5 (ents b)), (5, .c (.int .i64 i))]) ?_ ?_
   · exact ⟨_, 0, Nat.zero_le _, rfl, rfl, rfl, rfl⟩
   · rintro m e D ⟨i, hi, rfl, rfl, heq, rfl⟩ ih
     refine jf ents_len (h := ?_)
     refine jif (h1 := fun hc => ?_) (h2 := fun hc => ?_)
     · have hlt : i < a.length := by omega
       have hlb : i < b.length := by omega
       have g1 := ents_get (List.getElem?_eq_getElem hlt)
       have g2 := ents_get (List.getElem?_eq_getElem hlb)
       have h0 : (0 : Int) ≤ (i : Int) := by omega
       have hs := same06_ok a[i] b[i] (hv _ (List.getElem_mem _))
       simp only [Entry.av, Entry.cells] at hs
       refine jr (h := ?_)
       refine jd [(0, .pure), (1, .pure), (2, .pure), (3, .read), (4, .pure), (5, .pure), (6, .pure), (7, .read), (8, .pure), (9, .pure)] mixed (by kernel_rfl) ?_
       refine cf (cA g1 g2) (hk := ?_)
       refine ccp (hs := hs) (hk := ?_)
       refine cr (hk := ?_)
       refine Can_nil ?_
       by_cases h2 : a[i] = b[i]
       · simp only [h2, decide_true, Bool.not_true]
         refine jn (h := ?_)
         refine jr (h := ?_)
         refine jk [0, 1, 5] (h := ?_)
         refine ih _ _ _ ?_ ⟨i + 1, hlt, rfl, rfl, ?_, by simp only [Int.natCast_add, Int.cast_ofNat_Int]⟩
         · omega
         · rw [List.take_add_one, List.take_add_one, heq, List.getElem?_eq_getElem hlt, List.getElem?_eq_getElem hlb, h2]
       · simp only [h2, decide_false, Bool.not_false]
         refine jt (h := ?_)
         refine jr (h := ?_)
         have hne : a ≠ b := fun e => h2 (by simp only [e])
         refine jret Tryz.func38 (h := ⟨by simp [hne], rfl⟩)
     · have hi' : i = a.length := by omega
       subst hi'
       refine jr (h := ?_)
       have hab : a = b := by
         have := heq
         rwa [List.take_length, hl, List.take_length] at this
       refine jret Tryz.func38 (h := ⟨by simp [hab], rfl⟩)
theorem icopy_ok (x : Entry) : ACalls Tryz.prog 152 [x.av] [] (Ret x.av) := by
 simp only [Entry.av, Entry.cells]
 refine jen cl_152 Tryz.func152 (h := ?_)
 refine jr (own := [1]) (h := ?_)
 refine jnb (hh := fun b1 hb1 => ?_)
 refine jr (own := [2]) (h := ?_)
 refine jnv (hh := fun b2 hb2 => ?_)
 simp only [fresh] at hb2
 refine jf hb2 (h := ?_)
 refine J_forget ?_
 refine jretf hb2 Tryz.func152 (h := ⟨rfl, rfl⟩)
end
section
attribute [local go_sem] packed List.set_cons_zero List.set_cons_succ List.cons_append List.nil_append bytesRows_length cellRows_len chRows_len rCells intRows_len
attribute [-go_sem] cellsOf AV.isCell
attribute [local go_sem] cellsOf_agg cellsOf_int cellsOf_bool cellsOf_str cellsOf_map cellsOf_ptr cellsOf_nilI cellsOf_slice cellsOf_sl cellsOf_ifc cellsOf_fp cellsOf_opt optAV_cell icell_int icell_bool icell_str icell_map icell_ptr icell_nilI icell_slice icell_sl icell_ifc icell_fp
attribute [local go_sem] Entry.av Entry.cells
@[go_sem] theorem mkStr_dtl (l : List UInt8) : (mkStr l).data.toList = l := by simp [mkStr]
def entB (x : Entry) : List UInt8 := numB x.key.length ++ x.key ++ numsB [x.ver.toNat, x.asof.toNat, x.ends.toNat] ++ (numB x.val.length ++ x.val)
def allB (l : List Entry) : List UInt8 := l.flatMap entB
structure EntW (x : Entry) : Prop where
 k1 : 1 ≤ x.key.length
 k2 : x.key.length ≤ 40
 v1 : 1 ≤ x.ver
 a1 : x.ver ≤ x.asof
 a2' : x.asof ≤ 1099511627776
 e1 : 0 ≤ x.ends
 e2 : x.ends ≤ 1099511627776
 b : x.val.length ≤ 4096
theorem entW_iff (x : Entry) : checkCode x = 0 ↔ EntW x := by
 unfold checkCode keyCode
 by_cases h1 : x.key.length = 0
 · rw [if_pos h1]; simp only [ne_eq, Int.one_ne_zero, not_false_eq_true, if_true, if_pos h1]; exact ⟨fun h => absurd h (by decide), fun h => absurd h.k1 (by omega)⟩
 · rw [if_neg h1]
   by_cases h2 : 40 < x.key.length
   · rw [if_pos h2]; simp; intro h; have := h.k2; omega
   · rw [if_neg h2]
     simp only [ne_eq, not_true_eq_false, if_false]
     by_cases h3 : badNum x
     · rw [if_pos h3]; simp; intro h; unfold badNum at h3; have := h.v1; have := h.a1; have := h.a2'; have := h.e1; have := h.e2; omega
     · rw [if_neg h3]
       unfold badNum at h3
       by_cases h4 : 4096 < x.val.length
       · rw [if_pos h4]; simp; intro h; have := h.b; omega
       · rw [if_neg h4]; simp; exact ⟨by omega, by omega, by omega, by omega, by omega, by omega, by omega, by omega⟩
theorem allB_take {l : List Entry} {i : Nat} {x : Entry} (h : l[i]? = some x) : allB (l.take (i + 1)) = allB (l.take i) ++ entB x := by
 rw [List.take_add_one, h]; simp [allB]
theorem numB_one {n : Nat} (h : n < 128) : (numB n).length = 1 := by
 unfold numB; rw [show n / 128 = 0 from by omega, hi7_zero]; rfl
theorem numB_more {n : Nat} (h : 128 ≤ n) : (numB n).length = (numB (n / 128)).length + 1 := by
 unfold numB; rw [hi7_pos (show n / 128 ≠ 0 from by omega)]; simp
theorem entB_len {x : Entry} (h : EntW x) : (entB x).length ≤ 5000 := by
 have h1 := numB_len (n := x.key.length) (by have := h.k2; omega)
 have h2 := numB_len (n := x.val.length) (by have := h.b; omega)
 have h3 := numsB_len (l := [x.ver.toNat, x.asof.toNat, x.ends.toNat]) (by
   intro n hn
   simp only [List.mem_cons, List.not_mem_nil, or_false] at hn
   have := h.a1; have := h.a2'; have := h.e2
   rcases hn with rfl | rfl | rfl <;> omega)
 have := h.k2
 have := h.b
 unfold entB
 simp only [List.length_append, List.length_cons, List.length_nil] at *
 omega
theorem lenS_ok (n : Nat) (hn : n < 34359738368) : ACalls Tryz.prog 218 [.c (.int .i64 (n : Int))] [] (Ret (.c (.int .i64 (numB n).length))) := by
 refine jen cl_218 Tryz.func218 (h := ?_)
 refine jr (h := ?_)
 refine jif (h1 := fun hc => absurd hc (by first | omega | simp)) (h2 := fun _ => ?_)
 refine jr (h := ?_)
 refine jif (h1 := fun h1 => ?_) (h2 := fun h1 => ?_)
 · refine jr (h := ?_)
   refine jret Tryz.func218 (h := ⟨by rw [numB_more (by omega), numB_more (by omega), numB_more (by omega), numB_more (by omega), numB_one (by omega)]; rfl, rfl⟩)
 · refine jr (h := ?_)
   refine jif (h1 := fun h2 => ?_) (h2 := fun h2 => ?_)
   · refine jr (h := ?_)
     refine jret Tryz.func218 (h := ⟨by rw [numB_more (by omega), numB_more (by omega), numB_more (by omega), numB_one (by omega)]; rfl, rfl⟩)
   · refine jr (h := ?_)
     refine jif (h1 := fun h3 => ?_) (h2 := fun h3 => ?_)
     · refine jr (h := ?_)
       refine jret Tryz.func218 (h := ⟨by rw [numB_more (by omega), numB_more (by omega), numB_one (by omega)]; rfl, rfl⟩)
     · refine jr (h := ?_)
       refine jif (h1 := fun h4 => ?_) (h2 := fun h4 => ?_)
       · refine jr (h := ?_)
         refine jret Tryz.func218 (h := ⟨by rw [numB_more (by omega), numB_one (by omega)]; rfl, rfl⟩)
       · refine jr (h := ?_)
         refine jret Tryz.func218 (h := ⟨by rw [numB_one (by omega)]; rfl, rfl⟩)
theorem len_ok (n : Nat) (hn : n ≤ 1099511627776) : ACalls Tryz.prog 218 [.c (.int .i64 (n : Int))] [] (Ret (.c (.int .i64 (numB n).length))) := by
 by_cases h : n < 34359738368
 · exact lenS_ok n h
 · have hs := lenS_ok (n / 34359738368) (by omega)
   have e : ((n / 34359738368 : Nat) : Int) = (n : Int) / 34359738368 := by omega
   have hnb := numB_len (n := n / 34359738368) (by omega)
   rw [e] at hs
   have hl : (numB n).length = (numB (n / 34359738368)).length + 5 := by
     rw [numB_more (by omega), numB_more (by omega), numB_more (by omega), numB_more (by omega), numB_more (by omega)]
     rw [show n / 128 / 128 / 128 / 128 / 128 = n / 34359738368 from by omega]
   refine jen cl_218 Tryz.func218 (h := ?_)
   refine jr (h := ?_)
   refine jif (h1 := fun _ => ?_) (h2 := fun hc => absurd (by first | omega | simp) hc)
   refine jr (h := ?_)
   refine jc (hs := hs) (hk := ?_)
   refine jr (h := ?_)
   have e2 : ((numB n).length : Int) = 5 + ((numB (n / 34359738368)).length : Int) := by rw [hl]; omega
   refine jret Tryz.func218 (h := ⟨by rw [e2], rfl⟩)
theorem bytesO_own (b t : List UInt8) (hb : b.length < 2 ^ 36) (ht : t.length < 2 ^ 36) : ACalls Tryz.prog 219 [.sl 1 (bytesRows b), .sl 1 (bytesRows t)] [] (fun r D => ∃ v, r = .ret (.c v) ∧ OwnB 5 (b ++ numB t.length ++ t) v D) := by
 have hp := put02_ok b [t.length] hb (by simp) (by intro n hn; rw [List.mem_singleton.1 hn]; omega)
 rw [show natRows [t.length] = [[.c (.int .i64 (t.length : Int))]] from rfl, show numsB [t.length] = numB t.length from by simp [numsB]] at hp
 have hn := numB_len (n := t.length) (by omega)
 refine jen cl_219 Tryz.func219 (h := ?_)
 refine jr (h := ?_)
 refine jcs (Δ1 := []) (Fr := []) (hs := hp) (hp := (List.Perm.refl _)) (hk := ?_) (hpan := (by rintro x Δ' ⟨v, h, _⟩; cases h))
 rintro x D ⟨v, h, how⟩
 cases h
 rw [List.append_nil]
 refine jr (own := [11]) (h := ?_)
 refine jap (Fr := []) (how := how) (hp := (by simp)) (hsrc := (by simp only [go_sem, srcOf] <;> rfl)) (hc := bytes_cell) (hmax := (by simp only [List.length_append]; omega)) (hk := ?_)
 rintro _ D2 ⟨v2, _, rfl, rfl, how2⟩
 refine jr (h := ?_)
 refine jret Tryz.func219 (h := ⟨v2, rfl, ownB_app how2⟩)
theorem bytesO_ok (b t : List UInt8) (hb : b.length < 2 ^ 36) (ht : t.length < 2 ^ 36) : ACalls Tryz.prog 219 [.sl 1 (bytesRows b), .sl 1 (bytesRows t)] [] (Ret (.sl 1 (bytesRows (b ++ numB t.length ++ t)))) :=
 (bytesO_own b t hb ht).freezeB (by have hn := numB_len (n := t.length) (by omega); unfold maxRows; simp only [List.length_append]; omega)
theorem bytes02_own (b t : List UInt8) (hb : b.length < 2 ^ 36) (ht : t.length < 2 ^ 36) : ACalls Tryz.prog 215 [.sl 1 (bytesRows b), .sl 1 (bytesRows t)] [] (fun r D => ∃ v, r = .ret (.c v) ∧ OwnB 5 (b ++ numB t.length ++ t) v D) := by
 have hp := putR_ok b [t.length] hb (by simp) (by intro n hn; rw [List.mem_singleton.1 hn]; omega)
 rw [show natRows [t.length] = [[.c (.int .i64 (t.length : Int))]] from rfl, show numsB [t.length] = numB t.length from by simp [numsB]] at hp
 have hn := numB_len (n := t.length) (by omega)
 refine jen cl_215 Tryz.func215 (h := ?_)
 refine jr (h := ?_)
 refine jcs (Δ1 := []) (Fr := []) (hs := hp) (hp := (List.Perm.refl _)) (hk := ?_) (hpan := (by rintro x Δ' ⟨v, h, _⟩; cases h))
 rintro x D ⟨v, h, how⟩
 cases h
 rw [List.append_nil]
 refine jr (own := [11]) (h := ?_)
 refine jap (Fr := []) (how := how) (hp := (by simp)) (hsrc := (by simp only [go_sem, srcOf] <;> rfl)) (hc := bytes_cell) (hmax := (by simp only [List.length_append]; omega)) (hk := ?_)
 rintro _ D2 ⟨v2, _, rfl, rfl, how2⟩
 refine jr (h := ?_)
 refine jret Tryz.func215 (h := ⟨v2, rfl, ownB_app how2⟩)
theorem bytes02_ok (b t : List UInt8) (hb : b.length < 2 ^ 36) (ht : t.length < 2 ^ 36) : ACalls Tryz.prog 215 [.sl 1 (bytesRows b), .sl 1 (bytesRows t)] [] (Ret (.sl 1 (bytesRows (b ++ numB t.length ++ t)))) :=
 (bytes02_own b t hb ht).freezeB (by have hn := numB_len (n := t.length) (by omega); unfold maxRows; simp only [List.length_append]; omega)
theorem nums3 {x : Entry} (h : EntW x) : (∀ n ∈ [x.ver.toNat, x.asof.toNat, x.ends.toNat], n ≤ 1099511627776) ∧ natRows [x.ver.toNat, x.asof.toNat, x.ends.toNat] = [[.c (.int .i64 x.ver)], [.c (.int .i64 x.asof)], [.c (.int .i64 x.ends)]] := by
 have := h.v1; have := h.a1; have := h.a2'; have := h.e1; have := h.e2
 refine ⟨fun n hn => ?_, ?_⟩
 · simp only [List.mem_cons, List.not_mem_nil, or_false] at hn
   rcases hn with rfl | rfl | rfl <;> omega
 · simp only [natRows, List.map_cons, List.map_nil]
   rw [Int.toNat_of_nonneg (by omega), Int.toNat_of_nonneg (by omega), Int.toNat_of_nonneg (by omega)]
theorem isize_ok (x : Entry) (h : EntW x) : ACalls Tryz.prog 196 [x.av] [] (Ret (.c (.int .i64 (entB x).length))) := by
 have h1 := len_ok x.key.length (by have := h.k2; omega)
 have h2 := len_ok x.val.length (by have := h.b; omega)
 have q1 := h.v1; have q2 := h.a1; have q3 := h.a2'; have q4 := h.e1; have q5 := h.e2
 have h3 := len_ok x.ver.toNat (by omega)
 have h4 := len_ok x.asof.toNat (by omega)
 have h5 := len_ok x.ends.toNat (by omega)
 rw [Int.toNat_of_nonneg (by omega)] at h3 h4 h5
 have hl : ((entB x).length : Int) = (numB x.key.length).length + x.key.length + (numB x.val.length).length + x.val.length + (numB x.ver.toNat).length + (numB x.asof.toNat).length + (numB x.ends.toNat).length := by
   unfold entB numsB
   simp only [List.flatMap_cons, List.flatMap_nil, List.length_append, List.length_nil]
   omega
 have w1 := numB_len (n := x.key.length) (by have := h.k2; omega)
 have w2 := numB_len (n := x.val.length) (by have := h.b; omega)
 have w3 := numB_len (n := x.ver.toNat) (by omega)
 have w4 := numB_len (n := x.asof.toNat) (by omega)
 have w5 := numB_len (n := x.ends.toNat) (by omega)
 have w6 := h.k2
 have w7 := h.b
 obtain ⟨k, v, a, e, b⟩ := x
 simp only [Entry.av, Entry.cells] at *
 rw [hl]
 refine jen cl_196 Tryz.func196 (h := ?_)
 refine jr (h := ?_)
 refine jd [(0, .pure), (1, .pure), (2, .pure), (3, .pure), (4, .pure), (5, .pure), (6, .pure), (7, .pure), (8, .pure), (9, .pure), (10, .pure), (11, .pure), (12, .pure), (13, .pure), (14, .pure), (15, .pure), (16, .pure), (17, .pure)] mixed (by kernel_rfl) ?_
 refine cr (hk := ?_)
 refine ccp (hs := h1) (hk := ?_)
 refine cr (hk := ?_)
 refine ccp (hs := h2) (hk := ?_)
 refine cr (hk := ?_)
 refine Can_nil ?_
 refine jr (h := ?_)
 refine jd [(0, .pure), (1, .pure), (2, .pure), (3, .pure), (4, .pure), (5, .pure), (6, .pure), (7, .pure), (8, .pure), (9, .pure), (10, .pure), (11, .pure), (12, .pure), (13, .pure)] mixed (by kernel_rfl) ?_
 refine cr (hk := ?_)
 refine ccp (hs := h3) (hk := ?_)
 refine cr (hk := ?_)
 refine ccp (hs := h4) (hk := ?_)
 refine cr (hk := ?_)
 refine ccp (hs := h5) (hk := ?_)
 refine cr (hk := ?_)
 refine Can_nil ?_
 refine jr (h := ?_)
 refine jret Tryz.func196 (h := ⟨rfl, rfl⟩)
theorem iput_ok (b : List UInt8) (x : Entry) (h : EntW x) (hb : b.length < 2 ^ 35) : ACalls Tryz.prog 197 [.sl 1 (bytesRows b), x.av] [] (Ret (.sl 1 (bytesRows (b ++ entB x)))) := by
 obtain ⟨hn, hr⟩ := nums3 h
 have hk := h.k2
 have hv := h.b
 have e1 := numB_len (n := x.key.length) (by omega)
 have e3 := numsB_len hn
 have h1 := bytesO_ok b x.key (by omega) (by omega)
 have h2 := put02_fz (b ++ numB x.key.length ++ x.key) [x.ver.toNat, x.asof.toNat, x.ends.toNat] (by simp only [List.length_append]; omega) (by simp) hn
 have h3 := bytesO_ok (b ++ numB x.key.length ++ x.key ++ numsB [x.ver.toNat, x.asof.toNat, x.ends.toNat]) x.val (by simp only [List.length_append, List.length_cons, List.length_nil] at *; omega) (by omega)
 rw [hr] at h2
 have he : b ++ numB x.key.length ++ x.key ++ numsB [x.ver.toNat, x.asof.toNat, x.ends.toNat] ++ numB x.val.length ++ x.val = b ++ entB x := by unfold entB; simp only [List.append_assoc]
 rw [he] at h3
 generalize numsB [x.ver.toNat, x.asof.toNat, x.ends.toNat] = nn at *
 generalize entB x = eb at *
 obtain ⟨k, v, a, e, w⟩ := x
 simp only [Entry.av, Entry.cells] at *
 refine jen cl_197 Tryz.func197 (h := ?_)
 refine jr (h := ?_)
 refine jc (hs := h1) (hk := ?_)
 refine jr (h := ?_)
 refine jd [(0, .pure), (1, .pure), (2, .pure), (3, .pure), (4, .pure), (5, .pure), (6, .pure), (7, .pure), (8, .pure), (9, .pure), (10, .pure), (11, .pure), (12, .pure)] mixed (by kernel_rfl) ?_
 refine cr (hk := ?_)
 refine ccp (hs := h2) (hk := ?_)
 refine cr (hk := ?_)
 refine ccp (hs := h3) (hk := ?_)
 refine cr (hk := ?_)
 refine Can_nil ?_
 refine jret Tryz.func197 (h := ⟨rfl, rfl⟩)
theorem rput_ok (b : List UInt8) (x : Entry) (h : EntW x) (hb : b.length < 2 ^ 35) : ACalls Tryz.prog 187 [.sl 1 (bytesRows b), x.av] [] (Ret (.sl 1 (bytesRows (b ++ entB x)))) := by
 obtain ⟨hn, hr⟩ := nums3 h
 have hk := h.k2
 have hv := h.b
 have e1 := numB_len (n := x.key.length) (by omega)
 have e3 := numsB_len hn
 have h1 := bytes02_ok b x.key (by omega) (by omega)
 have h2 := putR_fz (b ++ numB x.key.length ++ x.key) [x.ver.toNat, x.asof.toNat, x.ends.toNat] (by simp only [List.length_append]; omega) (by simp) hn
 have h3 := bytes02_ok (b ++ numB x.key.length ++ x.key ++ numsB [x.ver.toNat, x.asof.toNat, x.ends.toNat]) x.val (by simp only [List.length_append, List.length_cons, List.length_nil] at *; omega) (by omega)
 rw [hr] at h2
 have he : b ++ numB x.key.length ++ x.key ++ numsB [x.ver.toNat, x.asof.toNat, x.ends.toNat] ++ numB x.val.length ++ x.val = b ++ entB x := by unfold entB; simp only [List.append_assoc]
 rw [he] at h3
 generalize numsB [x.ver.toNat, x.asof.toNat, x.ends.toNat] = nn at *
 generalize entB x = eb at *
 obtain ⟨k, v, a, e, w⟩ := x
 simp only [Entry.av, Entry.cells] at *
 refine jen cl_187 Tryz.func187 (h := ?_)
 refine jr (h := ?_)
 refine jc (hs := h1) (hk := ?_)
 refine jr (h := ?_)
 refine jc (hs := h2) (hk := ?_)
 refine jr (h := ?_)
 refine jc (hs := h3) (hk := ?_)
 refine jr (h := ?_)
 refine jret Tryz.func187 (h := ⟨rfl, rfl⟩)
theorem nil_bytes : (AV.c (.slice none 0 0)).le (.sl 1 (bytesRows [])) := fun g v h => by
 simp only [rel] at h ⊢
 exact ⟨none, 0, by rw [h]; rfl, by decide, .inl rfl⟩
theorem allB_len : ∀ {l : List Entry}, (∀ x ∈ l, EntW x) → (allB l).length ≤ 5000 * l.length
 | [], _ => Nat.zero_le _
 | x :: l, h => by
   have h1 := entB_len (h x (by simp))
   have h2 := allB_len (l := l) (fun y hy => h y (by simp [hy]))
   unfold allB at *
   simp only [List.flatMap_cons, List.length_append, List.length_cons]
   omega
theorem rsize_ok (x : Entry) (h : EntW x) : ACalls Tryz.prog 186 [x.av] [] (Ret (.c (.int .i64 (entB x).length))) := by
 have hp := rput_ok [] x h (by simp)
 rw [List.nil_append] at hp
 have hl := entB_len h
 generalize entB x = eb at *
 obtain ⟨k, v, a, e, w⟩ := x
 simp only [Entry.av, Entry.cells] at *
 refine jen cl_186 Tryz.func186 (h := ?_)
 refine jr (h := ?_)
 have hp2 := hp.nilArg (pre := []) (post := [_])
 refine jc (hs := hp2) (hk := ?_)
 refine jr (h := ?_)
 refine jret Tryz.func186 (h := ⟨rfl, rfl⟩)
theorem iall_ok (l : List Entry) (h : ∀ x ∈ l, EntW x) (hl : l.length < 2 ^ 20) : ACalls Tryz.prog 155 [.sl 5 (ents l)] [] (Ret (.sl 1 (bytesRows (allB l)))) := by
 refine jen cl_155 Tryz.func155 (h := ?_)
 refine jr (h := ?_)
 refine J_wk (t := 3) (by simp only [go_sem]) nil_bytes ?_
 refine jr (h := ?_)
 refine jk [3, 6, 7, 8] (h := ?_)
 refine J_loopI (I := fun m e D => ∃ i : Nat, i ≤ l.length ∧ m = l.length - i ∧ D = [] ∧ e = [(3, .sl 1 (bytesRows (allB (l.take i)))), (6, .sl 5 (ents l)), (7, .c (.int .i64 l.length)), (8, .c (.int .i64 i))]) ?_ ?_
 · exact ⟨_, 0, Nat.zero_le _, rfl, rfl, by simp [ents_len, allB] <;> rfl⟩
 · rintro m e D ⟨i, hi, rfl, rfl, rfl⟩ ih
   refine jr (h := ?_)
   refine jif (h1 := fun hc => ?_) (h2 := fun hc => ?_)
   · have hlt : i < l.length := by omega
     have g1 := ents_get (List.getElem?_eq_getElem hlt)
     have h0 : (0 : Int) ≤ (i : Int) := by omega
     have hb := allB_len (l := l.take i) fun x hx => h x (List.mem_of_mem_take hx)
     rw [List.length_take] at hb
     have hp := iput_ok (allB (l.take i)) l[i] (h _ (List.getElem_mem hlt)) (by omega)
     rw [← allB_take (List.getElem?_eq_getElem hlt)] at hp
     simp only [Entry.av, Entry.cells] at hp
     refine jf (own := [5]) (cA g1 ents_len) (h := ?_)
     refine jnv (hh := fun b5 hb5 => ?_)
     refine jr (h := ?_)
     refine jc (hs := hp) (hk := ?_)
     refine jr (h := ?_)
     refine J_drop ?_
     refine jk [3, 6, 7, 8] (h := ?_)
     refine ih _ _ _ ?_ ⟨i + 1, by omega, rfl, rfl, rfl⟩
     omega
   · have hi' : i = l.length := by omega
     subst hi'
     rw [List.take_length]
     refine jr (h := ?_)
     refine jret Tryz.func155 (h := ⟨rfl, rfl⟩)
theorem rall_ok (l : List Entry) (h : ∀ x ∈ l, EntW x) (hl : l.length < 2 ^ 20) : ACalls Tryz.prog 136 [.sl 5 (ents l)] [] (Ret (.sl 1 (bytesRows (allB l)))) := by
 refine jen cl_136 Tryz.func136 (h := ?_)
 refine jr (h := ?_)
 refine J_wk (t := 3) (by simp only [go_sem]) nil_bytes ?_
 refine jr (h := ?_)
 refine jk [0, 3, 4] (h := ?_)
 refine J_loopI (I := fun m e D => ∃ i : Nat, i ≤ l.length ∧ m = l.length - i ∧ D = [] ∧ e = [(0, .sl 5 (ents l)), (3, .sl 1 (bytesRows (allB (l.take i)))), (4, .c (.int .i64 i))]) ?_ ?_
 · exact ⟨_, 0, Nat.zero_le _, rfl, rfl, by simp [allB] <;> rfl⟩
 · rintro m e D ⟨i, hi, rfl, rfl, rfl⟩ ih
   refine jf ents_len (h := ?_)
   refine jif (h1 := fun hc => ?_) (h2 := fun hc => ?_)
   · have hlt : i < l.length := by omega
     have g1 := ents_get (List.getElem?_eq_getElem hlt)
     have h0 : (0 : Int) ≤ (i : Int) := by omega
     have hb := allB_len (l := l.take i) fun x hx => h x (List.mem_of_mem_take hx)
     rw [List.length_take] at hb
     have hp := rput_ok (allB (l.take i)) l[i] (h _ (List.getElem_mem hlt)) (by omega)
     rw [← allB_take (List.getElem?_eq_getElem hlt)] at hp
     simp only [Entry.av, Entry.cells] at hp
     refine jf (cA g1 ents_len) (h := ?_)
     refine jc (hs := hp) (hk := ?_)
     refine jr (h := ?_)
     refine jk [0, 3, 4] (h := ?_)
     refine ih _ _ _ ?_ ⟨i + 1, by omega, rfl, rfl, rfl⟩
     omega
   · have hi' : i = l.length := by omega
     subst hi'
     rw [List.take_length]
     refine jr (h := ?_)
     refine jret Tryz.func136 (h := ⟨rfl, rfl⟩)
theorem bsize_ok (l : List Entry) (h : ∀ x ∈ l, EntW x) (hl : l.length < 2 ^ 20) : ACalls Tryz.prog 151 [.sl 5 (ents l)] [] (Ret (.c (.int .i64 (allB l).length))) := by
 refine jen cl_151 Tryz.func151 (h := ?_)
 refine jr (h := ?_)
 refine jk [3, 6, 7, 8] (h := ?_)
 refine J_loopI (I := fun m e D => ∃ i : Nat, i ≤ l.length ∧ m = l.length - i ∧ D = [] ∧ e = [(3, .c (.int .i64 (allB (l.take i)).length)), (6, .sl 5 (ents l)), (7, .c (.int .i64 l.length)), (8, .c (.int .i64 i))]) ?_ ?_
 · exact ⟨_, 0, Nat.zero_le _, rfl, rfl, by simp [ents_len, allB] <;> rfl⟩
 · rintro m e D ⟨i, hi, rfl, rfl, rfl⟩ ih
   refine jr (h := ?_)
   refine jif (h1 := fun hc => ?_) (h2 := fun hc => ?_)
   · have hlt : i < l.length := by omega
     have g1 := ents_get (List.getElem?_eq_getElem hlt)
     have h0 : (0 : Int) ≤ (i : Int) := by omega
     have hb := allB_len (l := l.take i) fun x hx => h x (List.mem_of_mem_take hx)
     rw [List.length_take] at hb
     have hp := isize_ok l[i] (h _ (List.getElem_mem hlt))
     have he := entB_len (h _ (List.getElem_mem hlt))
     have ht : ((allB (l.take (i + 1))).length : Int) = (allB (l.take i)).length + (entB l[i]).length := by
       rw [allB_take (List.getElem?_eq_getElem hlt), List.length_append]; omega
     simp only [Entry.av, Entry.cells] at hp
     refine jf (own := [5]) (cA g1 ents_len) (h := ?_)
     refine jnv (hh := fun b5 hb5 => ?_)
     refine jr (h := ?_)
     refine jc (hs := hp) (hk := ?_)
     refine jr (h := ?_)
     refine J_drop ?_
     refine jk [3, 6, 7, 8] (h := ?_)
     refine ih _ _ _ ?_ ⟨i + 1, by omega, rfl, rfl, by rw [ht]; rfl⟩
     omega
   · have hi' : i = l.length := by omega
     subst hi'
     rw [List.take_length]
     refine jr (h := ?_)
     refine jret Tryz.func151 (h := ⟨rfl, rfl⟩)
end
section
attribute [local go_sem] packed List.set_cons_zero List.set_cons_succ List.cons_append List.nil_append bytesRows_length cellRows_len chRows_len rCells intRows_len
attribute [-go_sem] cellsOf AV.isCell
attribute [local go_sem] cellsOf_agg cellsOf_int cellsOf_bool cellsOf_str cellsOf_map cellsOf_ptr cellsOf_nilI cellsOf_slice cellsOf_sl cellsOf_ifc cellsOf_fp cellsOf_opt optAV_cell icell_int icell_bool icell_str icell_map icell_ptr icell_nilI icell_slice icell_sl icell_ifc icell_fp
attribute [local go_sem] Entry.av Entry.cells
@[go_sem] theorem cellsOf_errNew (s : List UInt8) (a c : Int) : cellsOf (errNew s a c) = [errNew s a c] := by unfold errNew; split <;> rfl
@[go_sem] theorem icell_errNew (s : List UInt8) (a c : Int) : (errNew s a c).isCell = true := by unfold errNew; split <;> rfl
theorem numR_back {b : List UInt8} {at_ : Nat} {c : Int} {most : Nat} (h : at_ ≤ b.length) (hn : (numR b at_ c most).1 ≠ 0) : (numR b at_ c most).2 = (at_, 0) := by
 unfold numR at hn ⊢
 split
 · rfl
 · rename_i hc
   rw [if_neg hc] at hn
   exact (scanN_spec b at_ most _ _ _ (by omega) h).2.2.1 hn
def txtR (b : List UInt8) (at_ : Nat) (c : Int) (most : Nat) : Int × Nat × List UInt8 :=
 if (numR b at_ c most).1 ≠ 0 then ((numR b at_ c most).1, at_, [])
 else if b.length < (numR b at_ c most).2.1 + (numR b at_ c most).2.2 then (6, at_, [])
 else (0, (numR b at_ c most).2.1 + (numR b at_ c most).2.2, (b.drop (numR b at_ c most).2.1).take (numR b at_ c most).2.2)
theorem txtR_at (b : List UInt8) {at_ : Nat} (c : Int) (most : Nat) (h : at_ ≤ b.length) : (txtR b at_ c most).2.1 ≤ b.length := by
 unfold txtR
 split
 · exact h
 · split
   · exact h
   · simp only; omega
theorem drop_take_nat (b : List UInt8) (p n : Nat) : (b.take ((p : Int) + (n : Int)).toNat).drop p = (b.drop p).take n := by
 rw [show ((p : Int) + (n : Int)).toNat = p + n from by omega, List.drop_take, Nat.add_sub_cancel_left]
theorem rbytes_ok (a : Nat) (b : List UInt8) (at_ : Nat) (c : Int) (most : Nat) (h : at_ ≤ b.length) (hb : b.length < 2 ^ 36) (hm : most ≤ 1099511627776) :
   ACalls Tryz.prog 234 [.c (.pointer (some ⟨a, 0, none⟩)), .c (.int .i64 most)] [rdr a b at_ c]
   (fun r Δ => r = .ret (.sl 1 (bytesRows (txtR b at_ c most).2.2)) ∧ Δ = [rdr a b (txtR b at_ c most).2.1 (txtR b at_ c most).1]) := by
 have hn := rnum_ok a b at_ c most h (by omega) hm
 have hat := numR_at b c most h
 have hval := numR_val b c most h
 have hbk := numR_back (b := b) (at_ := at_) (c := c) (most := most) h
 have hx : txtR b at_ c most = if (numR b at_ c most).1 ≠ 0 then ((numR b at_ c most).1, at_, []) else if b.length < (numR b at_ c most).2.1 + (numR b at_ c most).2.2 then (6, at_, []) else (0, (numR b at_ c most).2.1 + (numR b at_ c most).2.2, (b.drop (numR b at_ c most).2.1).take (numR b at_ c most).2.2) := rfl
 rw [hx]
 generalize numR b at_ c most = R at *
 obtain ⟨c1, p, n⟩ := R
 simp only at *
 have hfl := flatB_len b
 refine jen cl_234 Tryz.func234 (h := ?_)
 refine jr (h := ?_)
 refine jcs (Δ1 := [_]) (Fr := []) (hs := hn) (hp := (List.Perm.refl _)) (hk := ?_) (hpan := (by rintro x Δ' ⟨e, _⟩; cases e))
 rintro x _ ⟨e, rfl⟩
 cases e
 simp only [List.append_nil]
 refine jr (h := ?_)
 refine jif (h1 := fun hc => ?_) (h2 := fun hc => ?_)
 · rw [if_pos hc]
   obtain ⟨rfl, rfl⟩ := Prod.mk.inj (hbk hc)
   refine jr (h := ?_)
   refine J_wk (t := 4) (by simp only [go_sem]) nil_bytes ?_
   refine jret Tryz.func234 (h := ⟨rfl, rfl⟩)
 · rw [if_neg hc]
   have hc0 : c1 = 0 := Classical.not_not.1 hc
   subst hc0
   refine jr (h := ?_)
   refine jcr (hs := left_ok a b p 0 ⟨by omega, by omega⟩ (by omega)) (hk := ?_)
   refine jr (h := ?_)
   refine jif (h1 := fun hl => ?_) (h2 := fun hl => ?_)
   · rw [if_pos (by omega)]
     refine jr (h := ?_)
     refine jcs (Δ1 := [_]) (Fr := []) (hs := (rfail_ok a b at_ 0 6)) (hp := (List.Perm.refl _)) (hk := ?_) (hpan := (by rintro x Δ' ⟨e, _⟩; cases e))
     rintro x _ ⟨e, rfl⟩
     cases e
     simp only [List.append_nil, if_true]
     refine jr (h := ?_)
     refine J_wk (t := 4) (by simp only [go_sem]) nil_bytes ?_
     refine jret Tryz.func234 (h := ⟨rfl, rfl⟩)
   · rw [if_neg (by omega)]
     have hbr := bytesRows_length b
     refine jr (h := ?_)
     refine jd [(0, .pure), (1, .pure), (2, .pure), (3, .pure), (4, .read), (5, .pure), (6, .pure), (7, .pure), (8, .read), (9, .pure), (10, .pure), (11, .pure), (12, .read), (13, .pure), (14, .pure), (15, .pure), (16, .act), (17, .pure)] mixed (by kernel_rfl) ?_
     refine cf hbr (hk := ?_)
     refine cbi (hb := append0_bi gS (by simp only [go_sem, srcOf] <;> rfl) bytes_cell (by rw [List.length_drop, List.length_take]; omega)) (hk := ?_)
     rintro _ D ⟨v, D9, rfl, rfl, how⟩
     refine cr (hk := ?_)
     refine Can_nil ?_
     have hX := drop_take_nat b p n
     rw [hX] at how
     refine jr (h := ?_)
     refine J_freezeB (Fr := [_]) (b := (b.drop p).take n) how (by rw [List.length_take]; unfold maxRows; omega) ?_
     refine J_is (t := 4) (by simp only [go_sem]) (List.mem_cons_self ..) (J_drop ?_)
     refine jret Tryz.func234 (h := ⟨rfl, by simp only [Int.natCast_add]⟩)
theorem text02_ok (b : List UInt8) (at_ : Nat) (c : Int) (most : Nat) (h : at_ ≤ b.length) (hb : b.length < 2 ^ 36) (hm : most ≤ 1099511627776) :
   ACalls Tryz.prog 220 [rdV b at_ c, .c (.int .i64 most)] [] (Ret (.tup [rdV b (txtR b at_ c most).2.1 (txtR b at_ c most).1, .sl 1 (bytesRows (txtR b at_ c most).2.2)])) := by
 have hn := num02R_ok b at_ c most h (by omega) hm
 have hat := numR_at b c most h
 have hval := numR_val b c most h
 have hbk := numR_back (b := b) (at_ := at_) (c := c) (most := most) h
 have hx : txtR b at_ c most = if (numR b at_ c most).1 ≠ 0 then ((numR b at_ c most).1, at_, []) else if b.length < (numR b at_ c most).2.1 + (numR b at_ c most).2.2 then (6, at_, []) else (0, (numR b at_ c most).2.1 + (numR b at_ c most).2.2, (b.drop (numR b at_ c most).2.1).take (numR b at_ c most).2.2) := rfl
 rw [hx]
 have hc00 : (numR b at_ c most).1 = 0 → c = 0 := by
   unfold numR
   by_cases hc : c ≠ 0
   · rw [if_pos hc]; exact fun h => h
   · exact fun _ => Classical.not_not.1 hc
 generalize numR b at_ c most = R at *
 obtain ⟨c1, p, n⟩ := R
 simp only at *
 have hbr := bytesRows_length b
 refine jen cl_220 Tryz.func220 (h := ?_)
 refine jr (own := [4]) (h := ?_)
 refine jnv (hh := fun b4 hb4 => ?_)
 simp only [fresh] at hb4
 refine jf hb4 (h := ?_)
 refine jc (hs := hn) (hk := ?_)
 refine jr (own := [6]) (h := ?_)
 refine jnv (hh := fun b6 hb6 => ?_)
 simp only [fresh] at hb6
 refine jf (cA hb6 hb4) (h := ?_)
 refine jif (h1 := fun hc => ?_) (h2 := fun hc => ?_)
 · rw [if_pos hc]
   obtain ⟨rfl, rfl⟩ := Prod.mk.inj (hbk hc)
   refine jf (cA hb6 hb4) (h := ?_)
   refine J_wk (t := 5) (by simp only [go_sem]) nil_bytes ?_
   refine J_forget ?_
   refine jretf (cA hb6 hb4) Tryz.func220 (h := ⟨rfl, rfl⟩)
 · rw [if_neg hc]
   have hc0 : c1 = 0 := Classical.not_not.1 hc
   subst hc0
   obtain rfl := hc00 rfl
   refine jf (cB hb6 hb4 hbr) (h := ?_)
   refine jif (h1 := fun hl => ?_) (h2 := fun hl => ?_)
   · rw [if_pos (by omega)]
     refine jf (cA hb6 hb4) (h := ?_)
     refine jc (hs := failN_ok b at_ 6) (hk := ?_)
     refine jf (cA hb6 hb4) (h := ?_)
     refine J_wk (t := 5) (by simp only [go_sem]) nil_bytes ?_
     refine J_forget ?_
     refine jretf (cA hb6 hb4) Tryz.func220 (h := ⟨rfl, rfl⟩)
   · rw [if_neg (by omega)]
     have hX := drop_take_nat b p n
     refine jf (cB hb6 hb4 hbr) (h := ?_)
     simp only [hX]
     refine J_forget ?_
     refine jretf (cA hb6 hb4) Tryz.func220 (h := ⟨by simp only [Int.natCast_add], rfl⟩)
def chkN (c n low : Int) : Int := if c ≠ 0 then c else if n < low ∨ 1099511627776 < n then 2 else 0
theorem chk3 (k : List UInt8) (v a e : Int) (w : List UInt8) : chkN (chkN (chkN 0 v 1) a v) e 0 = if badNum ⟨k, v, a, e, w⟩ then 2 else 0 := by
 have hb : badNum ⟨k, v, a, e, w⟩ ↔ (v < 1 ∨ 1099511627776 < v) ∨ (a < v ∨ 1099511627776 < a) ∨ (e < 0 ∨ 1099511627776 < e) := by
   unfold badNum; simp only [or_assoc]
 by_cases h1 : v < 1 ∨ 1099511627776 < v
 · rw [if_pos (hb.2 (.inl h1))]; unfold chkN; simp [h1]
 · by_cases h2 : a < v ∨ 1099511627776 < a
   · rw [if_pos (hb.2 (.inr (.inl h2)))]; unfold chkN; simp [h1, h2]
   · by_cases h3 : e < 0 ∨ 1099511627776 < e
     · rw [if_pos (hb.2 (.inr (.inr h3)))]; unfold chkN; simp [h1, h2, h3]
     · rw [if_neg (fun h => by rcases hb.1 h with h | h | h; (· exact h1 h); (· exact h2 h); (· exact h3 h))]; unfold chkN; simp [h1, h2, h3]
theorem icheck1_ok (bx : Nat) (op : ByteArray) (n low : Int) {e : AV} {c : Int} (he : IsErr e c) :
   ACalls Tryz.prog 195 [.c (.string op), .c (.int .i64 n), .c (.int .i64 low), .c (.pointer (some ⟨bx, 0, none⟩))] [.box bx 27 [e]]
   (fun r Δ => ∃ e', r = .ret (.tup []) ∧ IsErr e' (chkN c n low) ∧ Δ = [.box bx 27 [e']]) := by
 refine jen cl_195 Tryz.func195 (h := ?_)
 by_cases hc : c = 0
 · subst hc
   obtain rfl := iserr_zero he
   by_cases h1 : n < low
   · have hd1 := decide_eq_true h1
     refine jf hd1 (h := ?_)
     refine jt (h := ?_)
     refine jr (h := ?_)
     refine jc (hs := newS_ok _ _ _) (hk := ?_)
     refine jr (h := ?_)
     refine J_end Tryz.func195 (xs := []) (by rfl) ⟨_, rfl, by unfold chkN; rw [if_neg (by simp), if_pos (.inl h1)]; exact errNew_is _ _ 2, rfl⟩
   · have hd1 := decide_eq_false h1
     by_cases h2 : 1099511627776 < n
     · have hd2 := decide_eq_true h2
       refine jf (cA hd1 hd2) (h := ?_)
       refine jt (h := ?_)
       refine jr (h := ?_)
       refine jc (hs := newS_ok _ _ _) (hk := ?_)
       refine jr (h := ?_)
       refine J_end Tryz.func195 (xs := []) (by rfl) ⟨_, rfl, by unfold chkN; rw [if_neg (by simp), if_pos (.inr h2)]; exact errNew_is _ _ 2, rfl⟩
     · have hd2 := decide_eq_false h2
       refine jf (cA hd1 hd2) (h := ?_)
       refine jn (h := ?_)
       refine jr (h := ?_)
       refine J_end Tryz.func195 (xs := []) (by rfl) ⟨_, rfl, by unfold chkN; rw [if_neg (by simp), if_neg (by omega)]; exact he, rfl⟩
 · obtain ⟨te, ve, rfl⟩ := iserr_ne he hc
   refine jr (h := ?_)
   refine jn (h := ?_)
   refine jr (h := ?_)
   refine J_end Tryz.func195 (xs := []) (by rfl) ⟨_, rfl, by unfold chkN; rw [if_pos hc]; exact he, rfl⟩
theorem icheck_ok (x : Entry) : ACalls Tryz.prog 150 [x.av] [] (fun r Δ => (∃ e, r = .ret e ∧ IsErr e (checkCode x)) ∧ Δ = []) := by
 have hk := key_ok x.key
 have hC : checkCode x = if keyCode x.key ≠ 0 then keyCode x.key else if badNum x then 2 else if 4096 < x.val.length then 3 else 0 := rfl
 rw [hC]
 clear hC
 obtain ⟨k, v, a, e, w⟩ := x
 simp only [Entry.av, Entry.cells] at *
 have hbr := bytesRows_length w
 generalize keyCode k = kc at *
 refine jen cl_150 Tryz.func150 (h := ?_)
 refine jr (h := ?_)
 refine jc (hs := hk) (hk := ?_)
 refine jr (h := ?_)
 refine jif (h1 := fun hc => ?_) (h2 := fun hc => ?_)
 · rw [if_pos hc]
   refine jr (h := ?_)
   refine jc (hs := newS_ok _ _ _) (hk := ?_)
   refine jr (h := ?_)
   refine jret Tryz.func150 (h := ⟨⟨_, rfl, errNew_is _ _ _⟩, rfl⟩)
 · rw [if_neg hc]
   refine jr (own := [4]) (h := ?_)
   refine jnv (hh := fun b4 hb4 => ?_)
   refine jr (h := ?_)
   refine jcs (Δ1 := [_]) (Fr := []) (hs := (icheck1_ok b4 _ v 1 .none)) (hp := (List.Perm.refl _)) (hk := ?_) (hpan := (by rintro x Δ' ⟨_, h, _⟩; cases h))
   rintro x _ ⟨e1, h, he1, rfl⟩
   cases h
   simp only [List.append_nil]
   refine jr (h := ?_)
   refine jcs (Δ1 := [_]) (Fr := []) (hs := (icheck1_ok b4 _ a v he1)) (hp := (List.Perm.refl _)) (hk := ?_) (hpan := (by rintro x Δ' ⟨_, h, _⟩; cases h))
   rintro x _ ⟨e2, h, he2, rfl⟩
   cases h
   simp only [List.append_nil]
   refine jr (h := ?_)
   refine jcs (Δ1 := [_]) (Fr := []) (hs := (icheck1_ok b4 _ e 0 he2)) (hp := (List.Perm.refl _)) (hk := ?_) (hpan := (by rintro x Δ' ⟨_, h, _⟩; cases h))
   rintro x _ ⟨e3, h, he3, rfl⟩
   cases h
   simp only [List.append_nil]
   rw [chk3 k v a e w] at he3
   by_cases hbn : badNum ⟨k, v, a, e, w⟩
   · rw [if_pos hbn] at he3 ⊢
     obtain ⟨te, ve, rfl⟩ := iserr_ne he3 (by decide)
     refine jr (h := ?_)
     refine jn (h := ?_)
     refine jr (h := ?_)
     refine J_forget ?_
     refine jret Tryz.func150 (h := ⟨⟨_, rfl, he3⟩, rfl⟩)
   · rw [if_neg hbn] at he3 ⊢
     obtain rfl := iserr_zero he3
     by_cases h5 : 4096 < w.length
     · have hd : decide ((4096 : Int) < (w.length : Int)) = true := decide_eq_true (by omega)
       rw [if_pos h5]
       refine jf (cA hbr hd) (h := ?_)
       refine jt (h := ?_)
       refine jr (h := ?_)
       refine jc (hs := newS_ok _ _ _) (hk := ?_)
       refine jr (h := ?_)
       refine J_forget ?_
       refine jret Tryz.func150 (h := ⟨⟨_, rfl, errNew_is _ _ 3⟩, rfl⟩)
     · have hd : decide ((4096 : Int) < (w.length : Int)) = false := decide_eq_false (by omega)
       rw [if_neg h5]
       refine jf (cA hbr hd) (h := ?_)
       refine jn (h := ?_)
       refine jr (h := ?_)
       refine J_forget ?_
       refine jret Tryz.func150 (h := ⟨⟨_, rfl, he3⟩, rfl⟩)
end
section
attribute [local go_sem] packed List.set_cons_zero List.set_cons_succ List.cons_append List.nil_append bytesRows_length cellRows_len chRows_len rCells intRows_len
attribute [-go_sem] cellsOf AV.isCell
attribute [local go_sem] cellsOf_agg cellsOf_int cellsOf_bool cellsOf_str cellsOf_map cellsOf_ptr cellsOf_nilI cellsOf_slice cellsOf_sl cellsOf_ifc cellsOf_fp cellsOf_opt optAV_cell icell_int icell_bool icell_str icell_map icell_ptr icell_nilI icell_slice icell_sl icell_ifc icell_fp
attribute [local go_sem] Entry.av Entry.cells rowsBytes_bytesRows Option.map_some
abbrev zEntAV : AV := .agg [.c (.string ⟨#[]⟩), .c (.int .i64 0), .c (.int .i64 0), .c (.int .i64 0), .c (.slice none 0 0)]
def fK (b : List UInt8) (at_ : Nat) (c : Int) : Int × Nat × List UInt8 := txtR b at_ c 40
def fV (b : List UInt8) (at_ : Nat) (c : Int) : Int × Nat × Nat := numR b (fK b at_ c).2.1 (fK b at_ c).1 1099511627776
def fA (b : List UInt8) (at_ : Nat) (c : Int) : Int × Nat × Nat := numR b (fV b at_ c).2.1 (fV b at_ c).1 1099511627776
def fE (b : List UInt8) (at_ : Nat) (c : Int) : Int × Nat × Nat := numR b (fA b at_ c).2.1 (fA b at_ c).1 1099511627776
def fW (b : List UInt8) (at_ : Nat) (c : Int) : Int × Nat × List UInt8 := txtR b (fE b at_ c).2.1 (fE b at_ c).1 4096
def fX (b : List UInt8) (at_ : Nat) (c : Int) : Entry := ⟨(fK b at_ c).2.2, (fV b at_ c).2.2, (fA b at_ c).2.2, (fE b at_ c).2.2, (fW b at_ c).2.2⟩
def fC (b : List UInt8) (at_ : Nat) (c : Int) : Int := if (fW b at_ c).1 = 0 then checkCode (fX b at_ c) else (fW b at_ c).1
def fAV (b : List UInt8) (at_ : Nat) (c : Int) : AV := if fC b at_ c ≠ 0 then zEntAV else (fX b at_ c).av
theorem fK_at {b : List UInt8} {at_ : Nat} (c : Int) (h : at_ ≤ b.length) : (fK b at_ c).2.1 ≤ b.length := txtR_at b c 40 h
theorem fV_at {b : List UInt8} {at_ : Nat} (c : Int) (h : at_ ≤ b.length) : (fV b at_ c).2.1 ≤ b.length := numR_at b _ _ (fK_at c h)
theorem fA_at {b : List UInt8} {at_ : Nat} (c : Int) (h : at_ ≤ b.length) : (fA b at_ c).2.1 ≤ b.length := numR_at b _ _ (fV_at c h)
theorem fE_at {b : List UInt8} {at_ : Nat} (c : Int) (h : at_ ≤ b.length) : (fE b at_ c).2.1 ≤ b.length := numR_at b _ _ (fA_at c h)
theorem fW_at {b : List UInt8} {at_ : Nat} (c : Int) (h : at_ ≤ b.length) : (fW b at_ c).2.1 ≤ b.length := txtR_at b _ _ (fE_at c h)
theorem from06i_ok (a : Nat) (b : List UInt8) (at_ : Nat) (c : Int) (h : at_ ≤ b.length) (hb : b.length < 2 ^ 36) :
   ACalls Tryz.prog 217 [.c (.pointer (some ⟨a, 0, none⟩))] [rdr a b at_ c, GL] (fun r Δ => r = .ret (fAV b at_ c) ∧ Δ = [rdr a b (fW b at_ c).2.1 (fC b at_ c), GL]) := by
 have h1 := rbytes_ok a b at_ c 40 h hb (by decide)
 have h2 := rnum_ok a b (fK b at_ c).2.1 (fK b at_ c).1 1099511627776 (fK_at c h) (by omega) (by decide)
 have h3 := rnum_ok a b (fV b at_ c).2.1 (fV b at_ c).1 1099511627776 (fV_at c h) (by omega) (by decide)
 have h4 := rnum_ok a b (fA b at_ c).2.1 (fA b at_ c).1 1099511627776 (fA_at c h) (by omega) (by decide)
 have h5 := rbytes_ok a b (fE b at_ c).2.1 (fE b at_ c).1 4096 (fE_at c h) hb (by decide)
 have hck := icheck_ok (fX b at_ c)
 change ACalls _ _ _ _ (fun r Δ => r = .ret (.sl 1 (bytesRows (fK b at_ c).2.2)) ∧ Δ = [rdr a b (fK b at_ c).2.1 (fK b at_ c).1]) at h1
 change ACalls _ _ _ _ (fun r Δ => r = .ret (.c (.int .i64 (fV b at_ c).2.2)) ∧ Δ = [rdr a b (fV b at_ c).2.1 (fV b at_ c).1]) at h2
 change ACalls _ _ _ _ (fun r Δ => r = .ret (.c (.int .i64 (fA b at_ c).2.2)) ∧ Δ = [rdr a b (fA b at_ c).2.1 (fA b at_ c).1]) at h3
 change ACalls _ _ _ _ (fun r Δ => r = .ret (.c (.int .i64 (fE b at_ c).2.2)) ∧ Δ = [rdr a b (fE b at_ c).2.1 (fE b at_ c).1]) at h4
 change ACalls _ _ _ _ (fun r Δ => r = .ret (.sl 1 (bytesRows (fW b at_ c).2.2)) ∧ Δ = [rdr a b (fW b at_ c).2.1 (fW b at_ c).1]) at h5
 have hAV : fAV b at_ c = if (if (fW b at_ c).1 = 0 then checkCode (fX b at_ c) else (fW b at_ c).1) ≠ 0 then zEntAV else (fX b at_ c).av := rfl
 have hC : fC b at_ c = if (fW b at_ c).1 = 0 then checkCode (fX b at_ c) else (fW b at_ c).1 := rfl
 have hX : fX b at_ c = ⟨(fK b at_ c).2.2, (fV b at_ c).2.2, (fA b at_ c).2.2, (fE b at_ c).2.2, (fW b at_ c).2.2⟩ := rfl
 rw [hAV, hC]
 generalize fW b at_ c = W at *
 generalize fE b at_ c = E at *
 generalize fA b at_ c = A at *
 generalize fV b at_ c = V at *
 generalize fK b at_ c = K at *
 rw [hX] at hck ⊢
 clear hX hAV hC
 generalize hCC : checkCode ⟨K.2.2, V.2.2, A.2.2, E.2.2, W.2.2⟩ = C at *
 obtain ⟨c1, a1, k⟩ := K
 obtain ⟨c2, p2, v⟩ := V
 obtain ⟨c3, p3, s⟩ := A
 obtain ⟨c4, p4, e⟩ := E
 obtain ⟨c5, p5, w⟩ := W
 simp only [Entry.av, Entry.cells, Int.cast_ofNat_Int] at *
 refine jen cl_217 Tryz.func217 (h := ?_)
 refine jr (own := [2]) (h := ?_)
 refine jnv (hh := fun b2 hb2 => ?_)
 simp only [fresh] at hb2
 refine jf hb2 (h := ?_)
 refine jcs (Δ1 := [_]) (Fr := [_, GL]) (hs := h1) (hp := (List.perm_middle (l₁ := [_]))) (hk := ?_) (hpan := (by rintro x Δ' ⟨e, _⟩; cases e))
 rintro x _ ⟨e, rfl⟩
 cases e
 refine J_perm (List.perm_middle (l₁ := [_])).symm ?_
 simp only [List.cons_append, List.nil_append]
 refine jf (own := [3]) hb2 (h := ?_)
 refine jnv (hh := fun b3 hb3 => ?_)
 simp only [fresh] at hb3
 refine jf (cA hb3 hb2) (h := ?_)
 refine jcs (Δ1 := [_]) (Fr := [_, _, GL]) (hs := h2) (hp := (List.perm_middle (l₁ := [_, _]))) (hk := ?_) (hpan := (by rintro x Δ' ⟨e, _⟩; cases e))
 rintro x _ ⟨e, rfl⟩
 cases e
 refine J_perm (List.perm_middle (l₁ := [_, _])).symm ?_
 simp only [List.cons_append, List.nil_append]
 refine jf (cA hb3 hb2) (h := ?_)
 refine jcs (Δ1 := [_]) (Fr := [_, _, GL]) (hs := h3) (hp := (List.perm_middle (l₁ := [_, _]))) (hk := ?_) (hpan := (by rintro x Δ' ⟨e, _⟩; cases e))
 rintro x _ ⟨e, rfl⟩
 cases e
 refine J_perm (List.perm_middle (l₁ := [_, _])).symm ?_
 simp only [List.cons_append, List.nil_append]
 refine jf (cA hb3 hb2) (h := ?_)
 refine jcs (Δ1 := [_]) (Fr := [_, _, GL]) (hs := h4) (hp := (List.perm_middle (l₁ := [_, _]))) (hk := ?_) (hpan := (by rintro x Δ' ⟨e, _⟩; cases e))
 rintro x _ ⟨e, rfl⟩
 cases e
 refine J_perm (List.perm_middle (l₁ := [_, _])).symm ?_
 simp only [List.cons_append, List.nil_append]
 refine jf (cA hb3 hb2) (h := ?_)
 refine jcs (Δ1 := [_]) (Fr := [_, _, GL]) (hs := h5) (hp := (List.perm_middle (l₁ := [_, _]))) (hk := ?_) (hpan := (by rintro x Δ' ⟨e, _⟩; cases e))
 rintro x _ ⟨e, rfl⟩
 cases e
 refine J_perm (List.perm_middle (l₁ := [_, _])).symm ?_
 simp only [List.cons_append, List.nil_append]
 refine jf (cA hb3 hb2) (h := ?_)
 refine jcs (Δ1 := [_]) (Fr := [_, _, GL]) (hs := (rcode_ok a b p5 c5)) (hp := (List.perm_middle (l₁ := [_, _]))) (hk := ?_) (hpan := (by rintro x Δ' ⟨e, _⟩; cases e))
 rintro x _ ⟨e, rfl⟩
 cases e
 refine J_perm (List.perm_middle (l₁ := [_, _])).symm ?_
 simp only [List.cons_append, List.nil_append]
 refine jr (h := ?_)
 refine jif (h1 := fun hc => ?_) (h2 := fun hc => ?_)
 · subst hc
   rw [if_pos rfl]
   refine jf (cA hb3 hb2) (h := ?_)
   refine jcs (Δ1 := []) (Fr := [_, _, _, GL]) (hs := hck) (hp := (List.Perm.refl _)) (hk := ?_) (hpan := (by rintro x Δ' ⟨⟨e, h, _⟩, _⟩; cases h))
   rintro x _ ⟨⟨er, h, he⟩, rfl⟩
   cases h
   simp only [List.nil_append]
   by_cases hC : C = 0
   · rw [if_neg (fun h => h hC)]
     subst hC
     obtain rfl := iserr_zero he
     refine jr (h := ?_)
     refine jn (h := ?_)
     refine jr (h := ?_)
     refine jcs (Δ1 := [_]) (Fr := [_, _, GL]) (hs := (rcode_ok a b p5 0)) (hp := (List.perm_middle (l₁ := [_, _]))) (hk := ?_) (hpan := (by rintro x Δ' ⟨e, _⟩; cases e))
     rintro x _ ⟨e, rfl⟩
     cases e
     refine J_perm (List.perm_middle (l₁ := [_, _])).symm ?_
     simp only [List.cons_append, List.nil_append]
     refine jq True.intro (h := ?_)
     refine jn (h := ?_)
     refine jf (cA hb3 hb2) (h := ?_)
     refine J_forgetP ?_
     refine jretf (cA hb3 hb2) Tryz.func217 (h := ⟨[_, _], _, List.Perm.refl _, rfl, rfl⟩)
   · rw [if_pos hC]
     obtain ⟨te, ve, rfl⟩ := iserr_ne he hC
     refine jr (h := ?_)
     refine jt (h := ?_)
     refine jr (h := ?_)
     refine jcg (hin := by simp [GL]) (hs := of_ok he) (hk := ?_)
     refine jr (h := ?_)
     refine jcs (Δ1 := [_]) (Fr := [_, _, GL]) (hs := (rfail_ok a b p5 0 C)) (hp := (List.perm_middle (l₁ := [_, _]))) (hk := ?_) (hpan := (by rintro x Δ' ⟨e, _⟩; cases e))
     rintro x _ ⟨e, rfl⟩
     cases e
     refine J_perm (List.perm_middle (l₁ := [_, _])).symm ?_
     simp only [List.cons_append, List.nil_append]
     try rw [if_pos rfl]
     refine jr (h := ?_)
     refine jcs (Δ1 := [_]) (Fr := [_, _, GL]) (hs := (rcode_ok a b p5 C)) (hp := (List.perm_middle (l₁ := [_, _]))) (hk := ?_) (hpan := (by rintro x Δ' ⟨e, _⟩; cases e))
     rintro x _ ⟨e, rfl⟩
     cases e
     refine J_perm (List.perm_middle (l₁ := [_, _])).symm ?_
     simp only [List.cons_append, List.nil_append]
     have hd : decide (C ≠ 0) = true := decide_eq_true hC
     refine jf hd (h := ?_)
     refine jt (h := ?_)
     refine jf (cA hb3 hb2) (h := ?_)
     refine J_forgetP ?_
     refine jretf (cA hb3 hb2) Tryz.func217 (h := ⟨[_, _], _, List.Perm.refl _, rfl, rfl⟩)
 · rw [if_neg hc, if_pos hc]
   refine jf (cA hb3 hb2) (h := ?_)
   refine jcs (Δ1 := [_]) (Fr := [_, _, GL]) (hs := (rcode_ok a b p5 c5)) (hp := (List.perm_middle (l₁ := [_, _]))) (hk := ?_) (hpan := (by rintro x Δ' ⟨e, _⟩; cases e))
   rintro x _ ⟨e, rfl⟩
   cases e
   refine J_perm (List.perm_middle (l₁ := [_, _])).symm ?_
   simp only [List.cons_append, List.nil_append]
   have hd : decide (c5 ≠ 0) = true := decide_eq_true hc
   refine jf hd (h := ?_)
   refine jt (h := ?_)
   refine jf (cA hb3 hb2) (h := ?_)
   refine J_forgetP ?_
   refine jretf (cA hb3 hb2) Tryz.func217 (h := ⟨[_, _], _, List.Perm.refl _, rfl, rfl⟩)
theorem from06r_ok (b : List UInt8) (at_ : Nat) (c : Int) (h : at_ ≤ b.length) (hb : b.length < 2 ^ 36) :
   ACalls Tryz.prog 202 [rdV b at_ c] [] (Ret (.tup [rdV b (fW b at_ c).2.1 (fC b at_ c), fAV b at_ c])) := by
 have h1 := text02_ok b at_ c 40 h hb (by decide)
 have h2 := num02R_ok b (fK b at_ c).2.1 (fK b at_ c).1 1099511627776 (fK_at c h) (by omega) (by decide)
 have h3 := num02R_ok b (fV b at_ c).2.1 (fV b at_ c).1 1099511627776 (fV_at c h) (by omega) (by decide)
 have h4 := num02R_ok b (fA b at_ c).2.1 (fA b at_ c).1 1099511627776 (fA_at c h) (by omega) (by decide)
 have h5 := text02_ok b (fE b at_ c).2.1 (fE b at_ c).1 4096 (fE_at c h) hb (by decide)
 have hck := rcheck_ok (fX b at_ c)
 change ACalls _ _ _ _ (Ret (.tup [rdV b (fK b at_ c).2.1 (fK b at_ c).1, .sl 1 (bytesRows (fK b at_ c).2.2)])) at h1
 change ACalls _ _ _ _ (Ret (.tup [rdV b (fV b at_ c).2.1 (fV b at_ c).1, .c (.int .i64 (fV b at_ c).2.2)])) at h2
 change ACalls _ _ _ _ (Ret (.tup [rdV b (fA b at_ c).2.1 (fA b at_ c).1, .c (.int .i64 (fA b at_ c).2.2)])) at h3
 change ACalls _ _ _ _ (Ret (.tup [rdV b (fE b at_ c).2.1 (fE b at_ c).1, .c (.int .i64 (fE b at_ c).2.2)])) at h4
 change ACalls _ _ _ _ (Ret (.tup [rdV b (fW b at_ c).2.1 (fW b at_ c).1, .sl 1 (bytesRows (fW b at_ c).2.2)])) at h5
 have hAV : fAV b at_ c = if (if (fW b at_ c).1 = 0 then checkCode (fX b at_ c) else (fW b at_ c).1) ≠ 0 then zEntAV else (fX b at_ c).av := rfl
 have hC : fC b at_ c = if (fW b at_ c).1 = 0 then checkCode (fX b at_ c) else (fW b at_ c).1 := rfl
 have hX : fX b at_ c = ⟨(fK b at_ c).2.2, (fV b at_ c).2.2, (fA b at_ c).2.2, (fE b at_ c).2.2, (fW b at_ c).2.2⟩ := rfl
 rw [hAV, hC]
 generalize fW b at_ c = W at *
 generalize fE b at_ c = E at *
 generalize fA b at_ c = A at *
 generalize fV b at_ c = V at *
 generalize fK b at_ c = K at *
 rw [hX] at hck ⊢
 clear hX hAV hC
 generalize hCC : checkCode ⟨K.2.2, V.2.2, A.2.2, E.2.2, W.2.2⟩ = C at *
 obtain ⟨c1, p1, k⟩ := K
 obtain ⟨c2, p2, v⟩ := V
 obtain ⟨c3, p3, s⟩ := A
 obtain ⟨c4, p4, e⟩ := E
 obtain ⟨c5, p5, w⟩ := W
 simp only [Entry.av, Entry.cells, Int.cast_ofNat_Int] at *
 refine jen cl_202 Tryz.func202 (h := ?_)
 refine jr (own := [2]) (h := ?_)
 refine jnv (hh := fun b2 hb2 => ?_)
 simp only [fresh] at hb2
 refine jf (own := [3]) hb2 (h := ?_)
 refine jnv (hh := fun b3 hb3 => ?_)
 simp only [fresh] at hb3
 refine jf (cA hb3 hb2) (h := ?_)
 refine jc (hs := h1) (hk := ?_)
 refine jf (own := [4]) (cA hb3 hb2) (h := ?_)
 refine jnv (hh := fun b4 hb4 => ?_)
 simp only [fresh] at hb4
 refine jm 1 (h := ?_)
 refine J_freeze (s := 4) (o := 0) (by simp only [go_sem]) ?_
 simp only [List.drop_zero]
 refine jf (cA hb3 hb2) (h := ?_)
 refine jc (hs := h2) (hk := ?_)
 refine jf (own := [6]) (cA hb3 hb2) (h := ?_)
 refine jnv (hh := fun b6 hb6 => ?_)
 simp only [fresh] at hb6
 refine jm 1 (h := ?_)
 refine J_freeze (s := 6) (o := 0) (by simp only [go_sem]) ?_
 simp only [List.drop_zero]
 refine jf (cA hb3 hb2) (h := ?_)
 refine jc (hs := h3) (hk := ?_)
 refine jf (own := [8]) (cA hb3 hb2) (h := ?_)
 refine jnv (hh := fun b8 hb8 => ?_)
 simp only [fresh] at hb8
 refine jm 1 (h := ?_)
 refine J_freeze (s := 8) (o := 0) (by simp only [go_sem]) ?_
 simp only [List.drop_zero]
 refine jf (cA hb3 hb2) (h := ?_)
 refine jc (hs := h4) (hk := ?_)
 refine jf (own := [10]) (cA hb3 hb2) (h := ?_)
 refine jnv (hh := fun b10 hb10 => ?_)
 simp only [fresh] at hb10
 refine jm 1 (h := ?_)
 refine J_freeze (s := 10) (o := 0) (by simp only [go_sem]) ?_
 simp only [List.drop_zero]
 refine jf (cA hb3 hb2) (h := ?_)
 refine jc (hs := h5) (hk := ?_)
 refine jf (own := [12]) (cA hb3 hb2) (h := ?_)
 refine jnv (hh := fun b12 hb12 => ?_)
 simp only [fresh] at hb12
 refine jf (own := [14]) (cB hb12 hb3 hb2) (h := ?_)
 refine jnv (hh := fun b14 hb14 => ?_)
 refine jm 1 (h := ?_)
 refine J_freeze (s := 14) (o := 0) (by simp only [go_sem]) ?_
 simp only [List.drop_zero]
 refine jf (cB hb12 hb3 hb2) (h := ?_)
 refine jif (h1 := fun hc => ?_) (h2 := fun hc => ?_)
 · subst hc
   rw [if_pos rfl]
   refine jf (cB hb12 hb3 hb2) (h := ?_)
   refine jc (hs := hck) (hk := ?_)
   refine jf (cB hb12 hb3 hb2) (h := ?_)
   refine jif (h1 := fun hC => ?_) (h2 := fun hC => ?_)
   · rw [if_pos hC]
     refine jf (cB hb12 hb3 hb2) (h := ?_)
     refine J_forget ?_
     refine jretf (cB hb12 hb3 hb2) Tryz.func202 (h := ⟨rfl, rfl⟩)
   · rw [if_neg hC]
     refine jf (cB hb12 hb3 hb2) (h := ?_)
     refine jd [(0, .read), (1, .pure), (2, .act), (3, .act)] mixed (by kernel_rfl) ?_
     refine cf (cB hb12 hb3 hb2) (hk := ?_)
     refine Can_nil ?_
     refine J_forget ?_
     refine jretf (cB hb12 hb3 hb2) Tryz.func202 (h := ⟨rfl, rfl⟩)
 · rw [if_neg hc, if_pos hc]
   refine jf (cB hb12 hb3 hb2) (h := ?_)
   refine jif (h1 := fun hC => ?_) (h2 := fun hC => ?_)
   · refine jf (cB hb12 hb3 hb2) (h := ?_)
     refine J_forget ?_
     refine jretf (cB hb12 hb3 hb2) Tryz.func202 (h := ⟨rfl, rfl⟩)
   · exact absurd hc hC
end
section
theorem getD_at {pre r : List UInt8} {x : UInt8} {p : Nat} (hp : pre.length = p) : (pre ++ x :: r).getD p 0 = x := by
 subst hp; rw [List.getD_eq_getElem?_getD, List.getElem?_append_right (Nat.le_refl _)]; simp
theorem scan_hi (most at_ : Nat) (pre : List UInt8) (hpre : pre.length = at_) : ∀ (q : Nat), q ≤ most / 128 → ∀ (rest b : List UInt8), b = pre ++ (hi7 q ++ rest) →
   scanN b at_ most (b.length - at_) at_ 0 = scanN b at_ most (b.length - (at_ + (hi7 q).length)) (at_ + (hi7 q).length) q := by
 intro q
 induction q using Nat.strongRecOn with
 | ind q ih =>
   intro hq rest b hb
   by_cases h0 : q = 0
   · subst h0; simp [hi7_zero]
   · have hsn := hi7_pos h0
     have hb' : b = pre ++ (hi7 (q / 128) ++ (UInt8.ofNat (q % 128 + 128) :: rest)) := by rw [hb, hsn]; simp
     rw [ih (q / 128) (by omega) (by omega) _ b hb']
     have hlen : (hi7 q).length = (hi7 (q / 128)).length + 1 := by rw [hsn]; simp
     have hbl : b.length = at_ + (hi7 (q / 128)).length + 1 + rest.length := by rw [hb', ← hpre]; simp; omega
     have hk : b.length - (at_ + (hi7 (q / 128)).length) = (b.length - (at_ + (hi7 q).length)) + 1 := by omega
     rw [hk]
     have hg : b.getD (at_ + (hi7 (q / 128)).length) 0 = UInt8.ofNat (q % 128 + 128) := by
       rw [hb', ← List.append_assoc]; exact getD_at (by rw [List.length_append, hpre])
     have hd : (UInt8.ofNat (q % 128 + 128)).toNat = q % 128 + 128 := by rw [UInt8.toNat_ofNat']; omega
     have hz : q / 128 = 0 → (hi7 (q / 128)).length = 0 := fun h => by rw [h, hi7_zero]; rfl
     have hz2 : q / 128 ≠ 0 → 0 < (hi7 (q / 128)).length := fun h => by rw [hi7_pos h]; simp
     simp only [scanN, hg, hd]
     rw [if_neg (fun h => by
       by_cases hq1 : q / 128 = 0
       · omega
       · have := hz2 hq1; omega), if_neg (by omega), if_pos (by omega)]
     rw [hlen]
     have e1 : q / 128 * 128 + (q % 128 + 128) % 128 = q := by omega
     rw [e1]; rfl
theorem numR_num {most at_ n : Nat} {pre rest b : List UInt8} (hpre : pre.length = at_) (hn : n ≤ most) (hb : b = pre ++ (numB n ++ rest)) : numR b at_ 0 most = (0, at_ + (numB n).length, n) := by
 unfold numR
 rw [if_neg (by simp)]
 have hb' : b = pre ++ (hi7 (n / 128) ++ (UInt8.ofNat (n % 128) :: rest)) := by rw [hb, numB]; simp
 rw [scan_hi most at_ pre hpre (n / 128) (by omega) _ b hb']
 have hbl : b.length = at_ + (hi7 (n / 128)).length + 1 + rest.length := by rw [hb', ← hpre]; simp; omega
 have hk : b.length - (at_ + (hi7 (n / 128)).length) = rest.length + 1 := by omega
 have hg : b.getD (at_ + (hi7 (n / 128)).length) 0 = UInt8.ofNat (n % 128) := by
   rw [hb', ← List.append_assoc]; exact getD_at (by rw [List.length_append, hpre])
 have hd : (UInt8.ofNat (n % 128)).toNat = n % 128 := by rw [UInt8.toNat_ofNat']; omega
 rw [hk]
 simp only [scanN, hg, hd]
 rw [if_neg (by omega), if_neg (by omega), if_neg (by omega), if_neg (by omega)]
 have e1 : n / 128 * 128 + n % 128 = n := by omega
 have e2 : (numB n).length = (hi7 (n / 128)).length + 1 := by unfold numB; simp
 rw [e1, e2]; rfl
end
end Go.Proofs.YtjppajaoekbkpaaGreatDoor
