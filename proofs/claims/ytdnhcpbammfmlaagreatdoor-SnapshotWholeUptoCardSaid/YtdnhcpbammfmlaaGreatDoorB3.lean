/- A part of the proof: what the calls do, told by values. -/
import Derived.Test.YtdnhcpbammfmlaaGreatDoorB1
import Derived.Test.YtdnhcpbammfmlaaGreatDoorB2
import Derived.Test.YtdnhcpbammfmlaaGreatDoorA8
import Derived.Test.YtdnhcpbammfmlaaGreatDoorA4
import Derived.Test.YtdnhcpbammfmlaaGreatDoorA5
import Derived.Test.YtdnhcpbammfmlaaGreatDoorA6
set_option linter.unusedVariables false
set_option linter.unusedSimpArgs false
set_option maxRecDepth 100000
set_option maxHeartbeats 4000000
namespace Go.Proofs.YtdnhcpbammfmlaaGreatDoor
open Go Go.Av
section
def errNew (op : List UInt8) (at_ c : Int) : AV := if c = 0 then .c .nilIface else .ifc 84 (.fp [.str op, .c (.int .i64 at_), .c (.int .i64 c), .c .nilIface])
theorem new_ok (op : List UInt8) (at_ c : Int) : ACalls Tryz.prog 32 [.c (.string (mkStr op)), .c (.int .i64 at_), .c (.int .i64 c)] [] (Ret (errNew op at_ c)) := by
 refine jen cl_32 Tryz.func32 (h := ?_)
 refine jr (h := ?_)
 refine jif (h1 := fun hc => ?_) (h2 := fun hc => ?_)
 · refine jr (h := ?_)
   refine jret Tryz.func32 (h := ⟨by simp [errNew, hc], rfl⟩)
 · refine jr (h := ?_)
   refine jret Tryz.func32 (h := ⟨by simp [errNew, hc, AV.str], rfl⟩)
inductive IsErr : AV → Int → Prop
 | none : IsErr (.c .nilIface) 0
 | code (op : AV) (at_ c : Int) : c ≠ 0 → IsErr (.ifc 84 (.fp [op, .c (.int .i64 at_), .c (.int .i64 c), .c .nilIface])) c
 | under (op : AV) (at_ : Int) (u : AV) (c : Int) : c ≠ 0 → IsErr u c → IsErr (.ifc 84 (.fp [op, .c (.int .i64 at_), .c (.int .i64 0), u])) c
theorem errNew_is (op : List UInt8) (at_ c : Int) : IsErr (errNew op at_ c) c := by
 unfold errNew
 split
 · rename_i h; subst h; exact .none
 · rename_i h; exact .code _ _ _ h
theorem wrap_ok (op : List UInt8) (at_ : Int) {e : AV} {c : Int} (he : IsErr e c) : ACalls Tryz.prog 53 [.c (.string (mkStr op)), .c (.int .i64 at_), e] [] (fun r Δ => (∃ e', r = .ret e' ∧ IsErr e' c) ∧ Δ = []) := by
 cases he with
 | none =>
   refine jen cl_53 Tryz.func53 (h := ?_)
   refine jr (h := ?_)
   refine J_cond (t := true) (by simp only [go_sem, ↓reduceIte] <;> with_reducible rfl) ?_
   simp only [if_true]
   refine jr (h := ?_)
   refine jret Tryz.func53 (h := ⟨⟨_, rfl, .none⟩, rfl⟩)
 | code o a _ hc =>
   refine jen cl_53 Tryz.func53 (h := ?_)
   refine jr (h := ?_)
   refine J_cond (t := false) (by simp only [go_sem, ↓reduceIte] <;> with_reducible rfl) ?_
   simp only [Bool.false_eq_true, if_false]
   refine jr (h := ?_)
   refine jret Tryz.func53 (h := ⟨⟨_, rfl, .under _ _ _ _ hc (.code _ _ _ hc)⟩, rfl⟩)
 | under o a u _ hc hu =>
   refine jen cl_53 Tryz.func53 (h := ?_)
   refine jr (h := ?_)
   refine J_cond (t := false) (by simp only [go_sem, ↓reduceIte] <;> with_reducible rfl) ?_
   simp only [Bool.false_eq_true, if_false]
   refine jr (h := ?_)
   refine jret Tryz.func53 (h := ⟨⟨_, rfl, .under _ _ _ _ hc (.under _ _ _ _ hc hu)⟩, rfl⟩)
def GL : HP := HP.glob 0 (.iface 167 (.agg #[.pointer (some ⟨1, 27, none⟩)]))
theorem as_ok (b : Nat) (old : AV) (cells : List AV) : ACalls Tryz.prog 37 [.ifc 84 (.fp cells), .ifc 86 (.c (.pointer (some ⟨b, 0, none⟩)))] [GL, .box b 84 [old]]
   (fun r Δ => r = .ret (.c (.bool true)) ∧ Δ = [.box b 84 [.fp cells]]) := by
 refine ⟨cl_37, fun g B us sm hr => ?_⟩
 simp only [relL, rel] at hr
 obtain ⟨u1, _, rfl, ⟨v1, rfl, be, oe, rfl, hbe, hce⟩, u2, _, rfl, ⟨v2, rfl, rfl⟩, rfl⟩ := hr
 have hg := glob_spec sm.sep (List.mem_cons_self ..)
 have hbx : getBox [GL, .box b 84 [old]] b = some (84, [old]) := by simp [getBox, GL, HP.glob]
 obtain ⟨hB, cs, h1, h2⟩ := getBox_spec sm.sep hbx
 have hl : cs.length = 1 := by simpa using relL_length h2
 obtain ⟨c, rfl⟩ : ∃ c, cs = [c] := by
   cases cs with
   | nil => simp at hl
   | cons c cs => cases cs with
     | nil => exact ⟨c, rfl⟩
     | cons _ _ => simp at hl
 have hc : g.w.cell? ⟨b, 0, none⟩ = some c := by simp [World.cell?, h1]
 have hf : g.w.frozen? ⟨b, 0, none⟩ = false := by simp [World.frozen?, h1]
 refine (as_hit ⟨be, oe, none⟩ ⟨b, 0, none⟩ c g.w hg.2 hc hf).mono ?_
 rintro e w' ⟨rfl, rfl⟩
 have hx : rel g (.fp cells) (.pointer (some ⟨be, oe, none⟩)) := by simp only [rel]; exact ⟨be, oe, rfl, hbe, hce⟩
 obtain ⟨g', k1, k2, k3⟩ := four_set sm hbx (.cells #[.pointer (some ⟨b, 0, none⟩)] 86) (.cells #[.pointer (some ⟨1, 86, none⟩), .pointer (some ⟨g.w.heap.size, 0, none⟩), .int .u64 150] 131)
   (.cells #[.pointer (some ⟨1, 86, none⟩), .pointer (some ⟨g.w.heap.size, 0, none⟩), .int .u64 150] 131) (.cells #[.pointer (some ⟨be, oe, none⟩)] 84) hx
 refine ⟨g', B, .ret (.c (.bool true)), [.box b 84 [.fp cells]], k1, k2, ?_, by simp [endRel, rel], rfl, rfl⟩
 have hs := k3.sep
 simp only [setBox, GL, HP.glob, if_true] at hs
 obtain ⟨B1, q1, q2, q3⟩ := hs
 exact ⟨k3.fzlt, k3.blt, k3.disj, sep_mono q3 (fun _ h => h.1) (fun _ h => h) (fun _ _ => rfl)⟩
theorem of_ok {e : AV} {c : Int} (he : IsErr e c) : ACalls Tryz.prog 10 [e] [GL] (Ret (.c (.int .i64 c))) := by
 refine jen cl_10 Tryz.func10 (h := ?_)
 refine jr (h := ?_)
 refine J_loop ?_
 refine jk [0] (h := ?_)
 induction he with
 | none =>
   refine jr (h := ?_)
   refine jn (h := ?_)
   refine jr (h := ?_)
   refine J_dropall ?_
   refine jret Tryz.func10 (h := ⟨rfl, rfl⟩)
 | code op at_ c hc =>
   refine jr (h := ?_)
   refine jt (h := ?_)
   refine jr (own := [3]) (h := ?_)
   refine jnv (hh := fun b hb => ?_)
   refine jr (h := ?_)
   refine J_calls_glob gS (by simp [GL]) (as_ok b _ _) (Δ1 := [_]) (Fr := [GL]) (List.Perm.refl _) ?_ (by rintro x Δ' ⟨e1, _⟩; cases e1)
   rintro x Δ' ⟨e1, rfl⟩
   cases e1
   simp only [List.cons_append, List.nil_append]
   refine jr (h := ?_)
   refine jn (h := ?_)
   refine jr (h := ?_)
   refine jif (h1 := fun hh => ?_) (h2 := fun hh => ?_)
   · refine jr (h := ?_)
     refine J_dropall ?_
     refine jret Tryz.func10 (h := ⟨rfl, rfl⟩)
   · exact absurd hc hh
 | under op at_ u c hc hu ih =>
   refine jr (h := ?_)
   refine jt (h := ?_)
   refine jr (own := [3]) (h := ?_)
   refine jnv (hh := fun b hb => ?_)
   refine jr (h := ?_)
   refine J_calls_glob gS (by simp [GL]) (as_ok b _ _) (Δ1 := [_]) (Fr := [GL]) (List.Perm.refl _) ?_ (by rintro x Δ' ⟨e1, _⟩; cases e1)
   rintro x Δ' ⟨e1, rfl⟩
   cases e1
   simp only [List.cons_append, List.nil_append]
   refine jr (h := ?_)
   refine jn (h := ?_)
   refine jr (h := ?_)
   refine jif (h1 := fun hh => ?_) (h2 := fun hh => ?_)
   · exact absurd rfl hh
   · refine jr (h := ?_)
     refine J_inLoop (J_drop ?_)
     refine jk [0] (h := ?_)
     exact ih
end
section
attribute [local go_sem] packed List.set_cons_zero List.set_cons_succ List.cons_append List.nil_append
def colStep (n : UInt32) : UInt32 := if n &&& 1 = 1 then (n >>> 1) ^^^ 0xedb88320 else n >>> 1
def colN : Nat → UInt32 → UInt32
 | 0, n => n
 | k + 1, n => colStep (colN k n)
def column (c : UInt8) : UInt32 := colN 8 c.toUInt32
theorem col_one : (1 : Int) = ((1 : UInt32).toNat : Int) := rfl
theorem col_poly : (3988292384 : Int) = ((0xedb88320 : UInt32).toNat : Int) := rfl
theorem column_ok (c : UInt8) : ACalls Tryz.prog 137 [.c (.int .u8 c.toNat)] [] (Ret (.c (.int .u32 (column c).toNat))) := by
 refine jen cl_137 Tryz.func137 (h := ?_)
 refine jr (h := ?_)
 refine jk [3, 6] (h := ?_)
 refine J_loopI (I := fun m e D => ∃ i : Nat, i ≤ 8 ∧ m = 8 - i ∧ D = [] ∧ e = [(3, .c (.int .u32 (colN i c.toUInt32).toNat)), (6, .c (.int .i64 i))]) ?_ ?_
 · exact ⟨_, 0, by omega, rfl, rfl, rfl⟩
 · rintro m e D ⟨i, hi, rfl, rfl, rfl⟩ ih
   refine jr (h := ?_)
   refine jif (h1 := fun hc => ?_) (h2 := fun hc => ?_)
   · have ha := and32 (colN i c.toUInt32) 1
     have hx := xor32 (colN i c.toUInt32 >>> 1) 0xedb88320
     rw [← col_one] at ha
     rw [← col_poly] at hx
     refine jf ha (h := ?_)
     refine jif (h1 := fun hd => ?_) (h2 := fun hd => ?_)
     · refine jf hx (h := ?_)
       refine jk [3, 6] (h := ?_)
       refine ih _ _ _ ?_ ⟨i + 1, by omega, rfl, rfl, ?_⟩
       · omega
       · have h1 : colN i c.toUInt32 &&& 1 = 1 := by
           apply UInt32.toNat_inj.1
           exact_mod_cast hd
         simp only [colN, colStep, h1, if_true, Int.natCast_add, Int.cast_ofNat_Int]
     · refine jr (h := ?_)
       refine jk [3, 6] (h := ?_)
       refine ih _ _ _ ?_ ⟨i + 1, by omega, rfl, rfl, ?_⟩
       · omega
       · have h1 : ¬ colN i c.toUInt32 &&& 1 = 1 := fun h => hd (by rw [h]; rfl)
         simp only [colN, colStep, h1, if_false, Int.natCast_add, Int.cast_ofNat_Int]
   · have hi' : i = 8 := by omega
     subst hi'
     refine jr (h := ?_)
     refine jret Tryz.func137 (h := ⟨rfl, rfl⟩)
end
section
attribute [local go_sem] packed List.set_cons_zero List.set_cons_succ List.cons_append List.nil_append bytesRows_length
theorem mixed : Tryz.prog.follows .mixedOrders = true := by kernel_rfl
def crcStep (n : UInt32) (c : UInt8) : UInt32 := (n >>> 8) ^^^ column (n.toUInt8 ^^^ c)
def crc (b : List UInt8) : UInt32 := ~~~ (b.foldl crcStep (~~~ 0))
theorem more_ok (b : List UInt8) (hb : b.length < 2 ^ 40) : ACalls Tryz.prog 125 [.c (.int .u32 0), .sl 1 (bytesRows b)] [] (Ret (.c (.int .u32 (crc b).toNat))) := by
 have hn := not32' 0
 rw [show (((0 : UInt32).toNat : Nat) : Int) = 0 from rfl] at hn
 refine jen cl_125 Tryz.func125 (h := ?_)
 refine jf hn (h := ?_)
 refine jk [5, 10, 11, 12] (h := ?_)
 refine J_loopI (I := fun m e D => ∃ i : Nat, i ≤ b.length ∧ m = b.length - i ∧ D = [] ∧ e = [(5, .c (.int .u32 ((b.take i).foldl crcStep (~~~ 0)).toNat)), (10, .sl 1 (bytesRows b)), (11, .c (.int .i64 b.length)), (12, .c (.int .i64 i))]) ?_ ?_
 · exact ⟨_, 0, Nat.zero_le _, rfl, rfl, rfl⟩
 · rintro m e D ⟨i, hi, rfl, rfl, rfl⟩ ih
   refine jr (h := ?_)
   refine jif (h1 := fun hc => ?_) (h2 := fun hc => ?_)
   · have hlt : i < b.length := by omega
     have g0 := List.getElem?_eq_getElem hlt
     have g1 := bytes_get g0
     have h0 : (0 : Int) ≤ (i : Int) := by omega
     refine jf g1 (h := ?_)
     refine jc (hs := column_ok _) (hk := ?_)
     refine jr (h := ?_)
     refine jk [5, 10, 11, 12] (h := ?_)
     refine ih _ _ _ ?_ ⟨i + 1, hlt, rfl, rfl, ?_⟩
     · omega
     · simp only [List.take_add_one, g0, Option.toList_some, List.foldl_append, List.foldl_cons, List.foldl_nil, crcStep, Int.natCast_add, Int.cast_ofNat_Int]
   · have hi' : i = b.length := by omega
     subst hi'
     rw [List.take_length]
     refine jr (h := ?_)
     refine jret Tryz.func125 (h := ⟨rfl, rfl⟩)
theorem sum_ok (b : List UInt8) (hb : b.length < 2 ^ 40) : ACalls Tryz.prog 118 [.sl 1 (bytesRows b)] [] (Ret (.c (.int .u32 (crc b).toNat))) := by
 refine jen cl_118 Tryz.func118 (h := ?_)
 refine jr (h := ?_)
 refine jc (hs := more_ok b hb) (hk := ?_)
 refine jr (h := ?_)
 refine jret Tryz.func118 (h := ⟨rfl, rfl⟩)
def four (n : UInt32) : List UInt8 := [n.toUInt8, (n >>> 8).toUInt8, (n >>> 16).toUInt8, (n >>> 24).toUInt8]
theorem four_ok (n : UInt32) : ACalls Tryz.prog 117 [.c (.int .u32 n.toNat)] [] (Ret (.agg [.c (.int .u8 n.toUInt8.toNat), .c (.int .u8 (n >>> 8).toUInt8.toNat), .c (.int .u8 (n >>> 16).toUInt8.toNat), .c (.int .u8 (n >>> 24).toUInt8.toNat)])) := by
 refine jen cl_117 Tryz.func117 (h := ?_)
 refine jr (own := [2]) (h := ?_)
 refine jnv (hh := fun b hb => ?_)
 refine jr (h := ?_)
 refine J_forget ?_
 refine jret Tryz.func117 (h := ⟨rfl, rfl⟩)
def sealB (b : List UInt8) : List UInt8 := b ++ four (crc b)
theorem seal_ok (b : List UInt8) (hb : b.length < 2 ^ 37) : ACalls Tryz.prog 100 [.sl 1 (bytesRows b)] [] (Ret (.sl 1 (bytesRows (sealB b)))) := by
 refine jen cl_100 Tryz.func100 (h := ?_)
 refine jr (h := ?_)
 refine jc (hs := sum_ok b (by omega)) (hk := ?_)
 refine jr (h := ?_)
 refine jc (hs := four_ok _) (hk := ?_)
 refine jr (own := [3]) (h := ?_)
 refine jnv (hh := fun b3 hb3 => ?_)
 refine jr (h := ?_)
 refine J_freeze (s := 3) (o := 0) (by simp only [go_sem]) ?_
 refine jd [(0, .pure), (1, .pure), (3, .pure), (2, .act), (4, .act), (5, .pure)] mixed (by kernel_rfl) ?_
 refine cr (own := [9, 11]) (hk := ?_)
 refine cbi (hb := append0_bi gS (by simp only [go_sem, srcOf] <;> rfl) bytes_cell (by omega)) (hk := ?_)
 rintro _ _ ⟨v, D', rfl, rfl, how⟩
 refine cr (own := [11]) (hk := ?_)
 refine Can_bi gS (append_bi gS how (Fr := []) (by simp) (by simp only [go_sem, srcOf] <;> rfl) (by rfl) (by show b.length + 4 ≤ 2 ^ 38; omega)) ?_
 rintro _ D2 ⟨v2, _, rfl, rfl, how2⟩
 have how3 : OwnB 5 (sealB b) v2 D2 := ownB_app (b := four (crc b)) how2
 refine cr (hk := ?_)
 refine Can_nil ?_
 refine J_freezeB (Fr := []) how3 (by unfold maxRows sealB four; simp only [List.length_append, List.length_cons, List.length_nil]; omega) ?_
 refine J_is (t := 2) (by simp only [go_sem]) (List.mem_cons_self ..) (J_drop ?_)
 refine jret Tryz.func100 (h := ⟨rfl, rfl⟩)
def word8 (n : Nat) : List UInt8 := [UInt8.ofNat (n / 2 ^ 56), UInt8.ofNat (n / 2 ^ 48), UInt8.ofNat (n / 2 ^ 40), UInt8.ofNat (n / 2 ^ 32), UInt8.ofNat (n / 2 ^ 24), UInt8.ofNat (n / 2 ^ 16), UInt8.ofNat (n / 2 ^ 8), UInt8.ofNat n]
theorem wrap8_nat (n : Nat) : IntKind.u8.wrap (n : Int) = ((UInt8.ofNat n).toNat : Int) := by rw [u8_wrap, UInt8.toNat_ofNat']; omega
theorem word8_take (n i : Nat) (h : i < 8) : (word8 n).take (i + 1) = (word8 n).take i ++ [UInt8.ofNat (n / 2 ^ (56 - 8 * i))] := by
 rcases (by omega : i = 0 ∨ i = 1 ∨ i = 2 ∨ i = 3 ∨ i = 4 ∨ i = 5 ∨ i = 6 ∨ i = 7) with rfl | rfl | rfl | rfl | rfl | rfl | rfl | rfl <;> simp [word8]
theorem wordO_ok (b : List UInt8) (n : Nat) (hb : b.length < 2 ^ 37) (hn : n < 2 ^ 64) : ACalls Tryz.prog 39 [.sl 1 (bytesRows b), .c (.int .u64 n)] [] (fun r D => ∃ v, r = .ret (.c v) ∧ OwnB 5 (b ++ word8 n) v D) := by
 refine jen cl_39 Tryz.func39 (h := ?_)
 refine jr (own := [9]) (h := ?_)
 refine jbi (hb := append0_bi gS (by simp only [go_sem, srcOf] <;> rfl) bytes_cell (by omega)) (hk := ?_)
 rintro _ D ⟨v, _, rfl, rfl, how⟩
 refine jr (h := ?_)
 refine jk [1, 5, 6] (h := ?_)
 refine J_loopI (I := fun m e D => ∃ (i : Nat) (v : Value), i ≤ 8 ∧ m = 8 - i ∧ OwnB 5 (b ++ (word8 n).take i) v D ∧ e = [(1, .c (.int .u64 n)), (5, .c v), (6, .c (.int .i64 (56 - 8 * i)))]) ?_ ?_
 · exact ⟨_, 0, v, by omega, rfl, by simpa using how, rfl⟩
 · rintro m e D ⟨i, v, hi, rfl, how, rfl⟩ ih
   refine jr (h := ?_)
   refine jif (h1 := fun hc => ?_) (h2 := fun hc => ?_)
   · have h0 : (0 : Int) ≤ (n : Int) := by omega
     have hi8 : i < 8 := by omega
     have hsh : (56 - 8 * (i : Int)).toNat = 56 - 8 * i := by omega
     have hdiv : ((n : Int) / 2 ^ (56 - 8 * i)) = ((n / 2 ^ (56 - 8 * i) : Nat) : Int) := by simp
     refine J_mrun (own := [20]) (m := 2000) (by simp (maxSteps := 2000000) (disch := omega) only [go_sem, ↓reduceIte, Int.reduceLT, Int.reduceLE, Int.reduceToNat, Int.reducePow, Int.reduceNeg, Nat.reduceBEq, Tryz.ntmps39, hsh, hdiv, wrap8_nat] <;> with_reducible rfl) ?_
     refine jap (Fr := []) (how := how) (hp := (by simp)) (hsrc := (by simp only [go_sem, srcOf] <;> rfl)) (hc := (by rfl)) (hmax := (by rw [List.length_append, List.length_take]; have : (word8 n).length = 8 := rfl; omega)) (hk := ?_)
     rintro _ D2 ⟨v2, _, rfl, rfl, how2⟩
     have how3 : OwnB 5 (b ++ (word8 n).take (i + 1)) v2 D2 := by
       rw [word8_take n i hi8, ← List.append_assoc]
       exact ownB_app (b := [UInt8.ofNat (n / 2 ^ (56 - 8 * i))]) how2
     refine jr (h := ?_)
     refine jk [1, 5, 6] (h := ?_)
     refine ih _ _ _ ?_ ⟨i + 1, v2, by omega, rfl, how3, ?_⟩
     · omega
     · have : (56 : Int) - 8 * (i : Int) - 8 = 56 - 8 * ((i + 1 : Nat) : Int) := by omega
       rw [this]
   · have hi8 : i = 8 := by omega
     subst hi8
     have how3 : OwnB 5 (b ++ word8 n) v D := how
     refine jr (h := ?_)
     refine jret Tryz.func39 (h := ⟨v, rfl, how3⟩)
theorem word_ok (b : List UInt8) (n : Nat) (hb : b.length < 2 ^ 37) (hn : n < 2 ^ 64) : ACalls Tryz.prog 39 [.sl 1 (bytesRows b), .c (.int .u64 n)] [] (Ret (.sl 1 (bytesRows (b ++ word8 n)))) :=
 (wordO_ok b n hb hn).freezeB (by unfold maxRows word8; simp only [List.length_append, List.length_cons, List.length_nil]; omega)
end
section
attribute [local go_sem] packed List.set_cons_zero List.set_cons_succ List.cons_append List.nil_append bytesRows_length
def beStep (n : UInt64) (c : UInt8) : UInt64 := n <<< 8 ||| c.toUInt64
def be8 (l : List UInt8) : UInt64 := l.foldl beStep 0
abbrev rdr (a : Nat) (l : List UInt8) (at_ code : Int) : HP := .box a 124 [.sl 1 (bytesRows l), .c (.int .i64 at_), .c (.int .i64 code)]
theorem read_ok (b : List UInt8) (hb : b.length < 2 ^ 37) : ACalls Tryz.prog 27 [.sl 1 (bytesRows b)] [] (fun r Δ => ∃ a, r = .ret (.c (.pointer (some ⟨a, 0, none⟩))) ∧ Δ = [rdr a b 0 0]) := by
 refine jen cl_27 Tryz.func27 (h := ?_)
 refine jr (own := [5, 7]) (h := ?_)
 refine jbi (hb := append0_bi gS (by simp only [go_sem, srcOf] <;> rfl) bytes_cell (by omega)) (hk := ?_)
 rintro _ D ⟨v, _, rfl, rfl, how⟩
 refine J_freezeB (Fr := []) (b := b) how (by unfold maxRows; omega) ?_
 refine J_is (t := 5) (by simp only [go_sem]) (List.mem_cons_self ..) (J_drop ?_)
 refine jr (own := [7]) (h := ?_)
 refine jnb (hh := fun a ha => ?_)
 refine jr (h := ?_)
 refine jret Tryz.func27 (h := ⟨a, rfl, rfl⟩)
theorem left_ok (a : Nat) (b : List UInt8) (at_ c : Int) (h : 0 ≤ at_ ∧ at_ ≤ b.length) (hb : b.length < 2 ^ 37) : ACalls Tryz.prog 61 [.c (.pointer (some ⟨a, 0, none⟩))] [rdr a b at_ c] (fun r Δ => r = .ret (.c (.int .i64 (b.length - at_))) ∧ Δ = [rdr a b at_ c]) := by
 refine jen cl_61 Tryz.func61 (h := ?_)
 refine jr (h := ?_)
 refine jd [(0, .pure), (1, .pure), (2, .pure), (3, .read), (4, .pure), (5, .pure), (6, .pure), (7, .pure), (8, .read), (9, .pure), (10, .pure)] mixed (by kernel_rfl) ?_
 refine cr (hk := ?_)
 refine Can_nil ?_
 refine jret Tryz.func61 (h := ⟨rfl, rfl⟩)
theorem be8_take (l : List UInt8) (i : Nat) (h : i < l.length) : be8 (l.take (i + 1)) = be8 (l.take i) <<< 8 ||| l[i].toUInt64 := by
 simp only [be8, List.take_add_one, List.getElem?_eq_getElem h, Option.toList_some, List.foldl_append, List.foldl_cons, List.foldl_nil, beStep]
theorem rword_ok (a : Nat) (b : List UInt8) (at_ : Nat) (h : at_ + 8 ≤ b.length) (hb : b.length < 2 ^ 37) :
   ACalls Tryz.prog 30 [.c (.pointer (some ⟨a, 0, none⟩))] [rdr a b at_ 0] (fun r Δ => r = .ret (.c (.int .u64 (be8 ((b.drop at_).take 8)).toNat)) ∧ Δ = [rdr a b (at_ + 8) 0]) := by
 refine jen cl_30 Tryz.func30 (h := ?_)
 refine jr (h := ?_)
 refine jcr (hs := left_ok a b at_ 0 ⟨by omega, by omega⟩ hb) (hk := ?_)
 refine jr (h := ?_)
 refine jif (h1 := fun hc => absurd hc (by first | omega | simp)) (h2 := fun _ => ?_)
 refine jr (h := ?_)
 refine jif (h1 := fun hc => absurd hc (by first | omega | simp)) (h2 := fun _ => ?_)
 refine jr (h := ?_)
 refine jd [(0, .pure), (1, .pure), (2, .pure), (3, .read), (4, .pure), (5, .pure), (6, .pure), (7, .read), (8, .pure), (9, .pure), (10, .pure), (11, .read), (12, .pure), (13, .pure), (14, .pure), (15, .pure)] mixed (by kernel_rfl) ?_
 refine cr (hk := ?_)
 refine Can_nil ?_
 rw [show List.drop at_ (List.take ((at_ : Int) + 8).toNat b) = (b.drop at_).take 8 from be_slice b at_ 8 (by omega)]
 have hl : ((b.drop at_).take 8).length = 8 := by rw [List.length_take, List.length_drop]; omega
 generalize hw : (b.drop at_).take 8 = w at hl ⊢
 refine jf hl (h := ?_)
 refine jk [0, 3, 36, 37, 38] (h := ?_)
 refine J_loopI (I := fun m e D => ∃ i : Nat, i ≤ 8 ∧ m = 8 - i ∧ D = [rdr a b at_ 0] ∧ e = [(0, .c (.pointer (some ⟨a, 0, none⟩))), (3, .c (.int .u64 (be8 (w.take i)).toNat)), (36, .sl 1 (bytesRows w)), (37, .c (.int .i64 8)), (38, .c (.int .i64 i))]) ?_ ?_
 · exact ⟨_, 0, by omega, rfl, rfl, by simp [hl, be8]⟩
 · rintro m e D ⟨i, hi, rfl, rfl, rfl⟩ ih
   refine jr (h := ?_)
   refine jif (h1 := fun hc => ?_) (h2 := fun hc => ?_)
   · have hlt : i < w.length := by omega
     have g0 := List.getElem?_eq_getElem hlt
     have g1 := bytes_get g0
     have h0 : (0 : Int) ≤ (i : Int) := by omega
     refine jf g1 (h := ?_)
     refine jk [0, 3, 36, 37, 38] (h := ?_)
     refine ih _ _ _ ?_ ⟨i + 1, by omega, rfl, rfl, ?_⟩
     · omega
     · rw [be8_take w i hlt]; rfl
   · have hi' : i = 8 := by omega
     subst hi'
     rw [List.take_of_length_le (by omega)]
     refine jr (h := ?_)
     refine jret Tryz.func30 (h := ⟨rfl, rfl⟩)
end
section
attribute [local go_sem] packed
attribute [local go_sem] AV.isCell

end
section
attribute [local go_sem] packed List.set_cons_zero List.set_cons_succ List.cons_append List.nil_append bytesRows_length
def hi7 (n : Nat) : List UInt8 := if n = 0 then [] else hi7 (n / 128) ++ [UInt8.ofNat (n % 128 + 128)]
termination_by n
decreasing_by omega
def numB (n : Nat) : List UInt8 := hi7 (n / 128) ++ [UInt8.ofNat (n % 128)]
theorem hi7_zero : hi7 0 = [] := by rw [hi7]; simp
theorem hi7_pos {n : Nat} (h : n ≠ 0) : hi7 n = hi7 (n / 128) ++ [UInt8.ofNat (n % 128 + 128)] := by rw [hi7, if_neg h]
theorem hi7_len : ∀ (k n : Nat), n < 128 ^ k → (hi7 n).length ≤ k
 | 0, n, h => by have : n = 0 := by simpa using h
                 subst this; simp [hi7_zero]
 | k + 1, n, h => by
   by_cases h0 : n = 0
   · subst h0; simp [hi7_zero]
   · rw [hi7_pos h0, List.length_append]
     have := hi7_len k (n / 128) (by rw [Nat.pow_succ] at h; omega)
     simp; omega
theorem numB_len {n : Nat} (h : n ≤ 1099511627776) : (numB n).length ≤ 6 := by
 have := hi7_len 5 (n / 128) (by omega)
 unfold numB; rw [List.length_append]; simp; omega
def numsB (l : List Nat) : List UInt8 := l.flatMap numB
theorem numsB_take {l : List Nat} {i n : Nat} (h : l[i]? = some n) : numsB (l.take (i + 1)) = numsB (l.take i) ++ numB n := by
 have hl := (List.getElem?_eq_some_iff.1 h).1
 have hg := (List.getElem?_eq_some_iff.1 h).2
 rw [List.take_succ_eq_append_getElem hl, numsB, List.flatMap_append, hg]
 simp [numsB]
theorem numsB_len : ∀ {l : List Nat}, (∀ n ∈ l, n ≤ 1099511627776) → (numsB l).length ≤ 6 * l.length
 | [], _ => by simp [numsB]
 | n :: l, h => by
   have h1 := numB_len (h n (by simp))
   have h2 := numsB_len (l := l) fun m hm => h m (by simp [hm])
   simp only [numsB, List.flatMap_cons, List.length_append, List.length_cons] at h2 ⊢
   omega
def natRows (l : List Nat) : List (List AV) := l.map fun (n : Nat) => [.c (.int .i64 (n : Int))]
theorem natRows_len (l : List Nat) : (natRows l).length = l.length := by simp [natRows]
theorem natRows_get {l : List Nat} {i n : Nat} (h : l[i]? = some n) : (natRows l)[i]? = some [.c (.int .i64 (n : Int))] := by simp [natRows, h]
theorem or128 (y : UInt8) : aint .or .u8 (y.toNat : Int) 128 = some (.c (.int .u8 ((UInt8.ofNat (y.toNat % 128 + 128)).toNat : Int))) := by
 have h : ∀ y : Fin 256, aint .or .u8 (y.val : Int) 128 = some (.c (.int .u8 ((UInt8.ofNat (y.val % 128 + 128)).toNat : Int))) := by
   intro y
   refine congrArg some (congrArg AV.c (congrArg (Value.int .u8) ?_))
   revert y; decide +kernel
 exact h ⟨y.toNat, y.toNat_lt⟩
theorem and127 (y : UInt8) : aint .and .u8 (y.toNat : Int) 127 = some (.c (.int .u8 ((UInt8.ofNat (y.toNat % 128)).toNat : Int))) := by
 have h : ∀ y : Fin 256, aint .and .u8 (y.val : Int) 127 = some (.c (.int .u8 ((UInt8.ofNat (y.val % 128)).toNat : Int))) := by
   intro y
   refine congrArg some (congrArg AV.c (congrArg (Value.int .u8) ?_))
   revert y; decide +kernel
 exact h ⟨y.toNat, y.toNat_lt⟩
theorem pow128 (h : Nat) : 2 ^ (7 * h) = 128 ^ h := by rw [Nat.pow_mul]
theorem div128 (n h : Nat) : n / 128 ^ h / 128 = n / 128 ^ (h + 1) := by rw [Nat.div_div_eq_div_mul, Nat.pow_succ]
theorem high_le {n h : Nat} (hn : n ≤ 1099511627776) (h1 : 128 ≤ n / 128 ^ h) : h ≤ 4 := by
 by_cases h5 : h ≤ 4
 · exact h5
 · have h2 := (Nat.le_div_iff_mul_le (Nat.pow_pos (by decide))).1 h1
   have h3 : 128 ^ 5 ≤ 128 ^ h := Nat.pow_le_pow_right (by decide) (by omega)
   omega
theorem put02_ok (b : List UInt8) (l : List Nat) (hb : b.length < 2 ^ 36) (hl : l.length < 1000) (hn : ∀ n ∈ l, n ≤ 1099511627776) :
   ACalls Tryz.prog 38 [.sl 1 (bytesRows b), .sl 1 (natRows l)] [] (fun r D => ∃ v, r = .ret (.c v) ∧ OwnB 5 (b ++ numsB l) v D) := by
 refine jen cl_38 Tryz.func38 (h := ?_)
 refine jr (own := [11]) (h := ?_)
 refine jbi (hb := append0_bi gS (by simp only [go_sem, srcOf] <;> rfl) bytes_cell (by omega)) (hk := ?_)
 rintro _ D ⟨v, _, rfl, rfl, how⟩
 refine jf natRows_len (h := ?_)
 refine jk [5, 12, 13, 14] (h := ?_)
 refine J_loopI (I := fun m e D => ∃ (i : Nat) (v : Value), i ≤ l.length ∧ m = l.length - i ∧ OwnB 5 (b ++ numsB (l.take i)) v D ∧ e = [(5, .c v), (12, .sl 1 (natRows l)), (13, .c (.int .i64 l.length)), (14, .c (.int .i64 i))]) ?_ ?_
 · exact ⟨_, 0, v, by omega, rfl, by simpa [numsB] using how, rfl⟩
 · rintro m e D ⟨i, v, hi, rfl, how, rfl⟩ ih
   refine jr (h := ?_)
   refine jif (h1 := fun hc => ?_) (h2 := fun hc => ?_)
   · have hlt : i < l.length := by omega
     have hg := natRows_get (List.getElem?_eq_getElem hlt)
     have hnl := natRows_len l
     have h0 : (0 : Int) ≤ (i : Int) := by omega
     have hmax := hn _ (List.getElem_mem hlt)
     have hbl : (numsB (l.take i)).length ≤ 6 * i := by
       have := numsB_len (l := l.take i) fun n h => hn n (List.mem_of_mem_take h)
       rw [List.length_take] at this; omega
     generalize hx : l[i] = n at *
     refine jf (cB hg hnl h0) (h := ?_)
     refine jk [5, 7, 8, 12, 13, 14] (h := ?_)
     refine J_loopI (I := fun m e D' => ∃ (h : Nat), h ≤ 6 ∧ (∀ j, j < h → 128 ≤ n / 128 ^ j) ∧ m = 6 - h ∧ D' = D ∧ e = [(5, .c v), (7, .c (.int .i64 n)), (8, .c (.int .i64 h)), (12, .sl 1 (natRows l)), (13, .c (.int .i64 l.length)), (14, .c (.int .i64 i))]) ?_ ?_
     · exact ⟨_, 0, by omega, by intro j h; omega, rfl, rfl, rfl⟩
     · rintro m e _ ⟨h, hh, hj, rfl, rfl, rfl⟩ ih2
       have hsh : (7 * (h : Int)).toNat = 7 * h := by omega
       have hdiv : ((n : Int) / 2 ^ (7 * h)) = ((n / 128 ^ h : Nat) : Int) := by rw [← pow128]; simp
       refine jf (cA hsh hdiv) (h := ?_)
       refine jif (h1 := fun hd => ?_) (h2 := fun hd => ?_)
       · have h128 : 128 ≤ n / 128 ^ h := by omega
         have h4 := high_le hmax h128
         refine jr (h := ?_)
         refine jk [5, 7, 8, 12, 13, 14] (h := ?_)
         refine ih2 (6 - (h + 1)) _ _ (by omega) ⟨h + 1, by omega, ?_, rfl, rfl, rfl⟩
         intro j hjl
         by_cases hjh : j = h
         · subst hjh; exact h128
         · exact hj j (by omega)
       · have h128 : n / 128 ^ h < 128 := by omega
         refine jr (h := ?_)
         refine jk [5, 7, 8, 12, 13, 14] (h := ?_)
         refine J_loopI (I := fun m e D' => ∃ (j : Nat) (v' : Value), j ≤ h ∧ j = m ∧ OwnB 5 (b ++ numsB (l.take i) ++ hi7 (n / 128 ^ (j + 1))) v' D' ∧ e = [(5, .c v'), (7, .c (.int .i64 n)), (8, .c (.int .i64 j)), (12, .sl 1 (natRows l)), (13, .c (.int .i64 l.length)), (14, .c (.int .i64 i))]) ?_ ?_
         · refine ⟨_, h, v, by omega, rfl, ?_, rfl⟩
           rw [← div128, Nat.div_eq_of_lt h128, hi7_zero, List.append_nil]
           exact how
         · rintro m e D2 ⟨j, v', hjh, rfl, how2, rfl⟩ ih3
           have hbl2 : (hi7 (n / 128 ^ (j + 1))).length ≤ 6 := hi7_len 6 _ (Nat.lt_of_le_of_lt (Nat.div_le_self _ _) (by omega))
           refine jr (h := ?_)
           refine jif (h1 := fun hj0 => ?_) (h2 := fun hj0 => ?_)
           · have hsh2 : (7 * (j : Int)).toNat = 7 * j := by omega
             have hdiv2 : ((n : Int) / 2 ^ (7 * j)) = ((n / 128 ^ j : Nat) : Int) := by rw [← pow128]; simp
             have hw := wrap8_nat (n / 128 ^ j)
             have hor := or128 (UInt8.ofNat (n / 128 ^ j))
             refine jf (own := [37]) (cC hsh2 hdiv2 hw hor) (h := ?_)
             refine jap (Fr := []) (how := how2) (hp := (by simp)) (hsrc := (by simp only [go_sem, srcOf] <;> rfl)) (hc := (by rfl)) (hmax := (by simp only [List.length_append]; omega)) (hk := ?_)
             rintro _ D3 ⟨v3, _, rfl, rfl, how3⟩
             refine jr (h := ?_)
             refine jk [5, 7, 8, 12, 13, 14] (h := ?_)
             refine ih3 (j - 1) _ _ (by omega) ⟨j - 1, v3, by omega, rfl, ?_, ?_⟩
             · have hj1 : j - 1 + 1 = j := by omega
               have hnz : n / 128 ^ j ≠ 0 := by
                 have h1 := hj (j - 1) (by omega)
                 have h2 : n / 128 ^ j = n / 128 ^ (j - 1) / 128 := by rw [div128, hj1]
                 omega
               rw [hj1, hi7_pos hnz, div128, ← List.append_assoc]
               have he : UInt8.ofNat ((UInt8.ofNat (n / 128 ^ j)).toNat % 128 + 128) = UInt8.ofNat (n / 128 ^ j % 128 + 128) := by
                 rw [UInt8.toNat_ofNat']; congr 2; omega
               rw [← he]
               exact ownB_app (b := [UInt8.ofNat ((UInt8.ofNat (n / 128 ^ j)).toNat % 128 + 128)]) how3
             · have : (j : Int) - 1 = ((j - 1 : Nat) : Int) := by omega
               rw [this]
           · have hj0' : j = 0 := by omega
             subst hj0'
             have hw := wrap8_nat n
             have hand := and127 (UInt8.ofNat n)
             refine jf (own := [43]) (cA hw hand) (h := ?_)
             refine jap (Fr := []) (how := how2) (hp := (by simp)) (hsrc := (by simp only [go_sem, srcOf] <;> rfl)) (hc := (by rfl)) (hmax := (by simp only [List.length_append]; omega)) (hk := ?_)
             rintro _ D3 ⟨v3, _, rfl, rfl, how3⟩
             refine jr (h := ?_)
             refine jk [5, 12, 13, 14] (h := ?_)
             refine ih (l.length - (i + 1)) _ _ (by omega) ⟨i + 1, v3, by omega, rfl, ?_, rfl⟩
             rw [numsB_take (List.getElem?_eq_some_iff.2 ⟨hlt, hx⟩), ← List.append_assoc, numB, ← List.append_assoc]
             have he : UInt8.ofNat ((UInt8.ofNat n).toNat % 128) = UInt8.ofNat (n % 128) := by
               rw [UInt8.toNat_ofNat']; congr 1; omega
             rw [← he]
             exact ownB_app (b := [UInt8.ofNat ((UInt8.ofNat n).toNat % 128)]) how3
   · have hi2 : i = l.length := by omega
     subst hi2
     have how2 : OwnB 5 (b ++ numsB l) v D := by rw [List.take_length] at how; exact how
     refine jr (h := ?_)
     refine jret Tryz.func38 (h := ⟨v, rfl, how2⟩)
theorem put02_fz (b : List UInt8) (l : List Nat) (hb : b.length < 2 ^ 36) (hl : l.length < 1000) (hn : ∀ n ∈ l, n ≤ 1099511627776) : ACalls Tryz.prog 38 [.sl 1 (bytesRows b), .sl 1 (natRows l)] [] (Ret (.sl 1 (bytesRows (b ++ numsB l)))) :=
 (put02_ok b l hb hl hn).freezeB (by have := numsB_len hn; unfold maxRows; simp only [List.length_append]; omega)
theorem quo_i64 {a b : Nat} (ha : a < 2 ^ 62) (hb : 0 < b) : aint .quo .i64 (a : Int) (b : Int) = some (.c (.int .i64 ((a / b : Nat) : Int))) := by
 unfold aint; simp only []
 have h1 : a / b ≤ a := Nat.div_le_self _ _
 rw [if_neg (by omega), Int.tdiv_eq_ediv_of_nonneg (by omega), IntKind.wrap_i64, ← Int.natCast_ediv]
 generalize a / b = q at *
 refine congrArg some (congrArg AV.c (congrArg (Value.int .i64) ?_))
 omega
end
section
attribute [local go_sem] packed List.set_cons_zero List.set_cons_succ List.cons_append List.nil_append bytesRows_length
theorem lword_ok (b : List UInt8) (h : 8 ≤ b.length) (hb : b.length < 2 ^ 37) : ACalls Tryz.prog 86 [.sl 1 (bytesRows b)] [] (Ret (.c (.int .u64 (be8 (b.take 8)).toNat))) := by
 have hl : (b.take 8).length = 8 := by rw [List.length_take]; omega
 refine jen cl_86 Tryz.func86 (h := ?_)
 refine jr (h := ?_)
 refine jcs (Δ1 := []) (Fr := []) (hs := (read_ok (b.take 8) (by omega))) (hp := (List.Perm.refl _)) (hk := ?_) (hpan := (by rintro x Δ' ⟨a, e, _⟩; cases e))
 rintro x Δ' ⟨a, e, rfl⟩
 cases e
 refine jr (h := ?_)
 refine jcs (Δ1 := [_]) (Fr := []) (hs := (rword_ok a (b.take 8) 0 (by omega) (by omega))) (hp := (List.Perm.refl _)) (hk := ?_) (hpan := (by rintro x Δ' ⟨e, _⟩; cases e))
 rintro x Δ' ⟨e, rfl⟩
 cases e
 refine jr (h := ?_)
 refine J_forget ?_
 refine jret Tryz.func86 (h := ⟨by rw [List.take_take]; rfl, rfl⟩)
def fitN (n : UInt64) : Nat := if n.toNat > 1099511627776 then 0 else n.toNat
theorem fit_ok (n : UInt64) : ACalls Tryz.prog 85 [.c (.int .u64 n.toNat)] [] (Ret (.c (.int .i64 (fitN n)))) := by
 refine jen cl_85 Tryz.func85 (h := ?_)
 refine jr (h := ?_)
 refine jif (h1 := fun hc => ?_) (h2 := fun hc => ?_)
 · refine jr (h := ?_)
   refine jret Tryz.func85 (h := ⟨by unfold fitN; rw [if_pos (by omega)]; rfl, rfl⟩)
 · refine jr (h := ?_)
   refine jret Tryz.func85 (h := ⟨by unfold fitN; rw [if_neg (by omega)], rfl⟩)
def stampsB (b : List UInt8) : Nat × Nat := if b.length = 256 then (fitN (be8 (b.take 8)), fitN (be8 (b.drop 248))) else (0, 0)
theorem stamps_ok (b : List UInt8) (hb : b.length < 2 ^ 37) : ACalls Tryz.prog 59 [.sl 1 (bytesRows b)] [] (Ret (.tup [.c (.int .i64 (stampsB b).1), .c (.int .i64 (stampsB b).2)])) := by
 refine jen cl_59 Tryz.func59 (h := ?_)
 refine jr (h := ?_)
 refine jif (h1 := fun hc => ?_) (h2 := fun hc => ?_)
 · refine jr (h := ?_)
   refine jret Tryz.func59 (h := ⟨by unfold stampsB; rw [if_neg (by omega)]; rfl, rfl⟩)
 · have hl : b.length = 256 := by omega
   refine jr (h := ?_)
   refine jd [(0, .pure), (1, .pure), (2, .pure), (3, .pure), (4, .pure), (5, .pure), (6, .pure), (7, .pure), (8, .pure), (9, .pure), (10, .pure)] mixed (by kernel_rfl) ?_
   refine cr (hk := ?_)
   refine ccp (hs := lword_ok b (by omega) hb) (hk := ?_)
   refine cr (hk := ?_)
   refine ccp (hs := fit_ok _) (hk := ?_)
   refine Can_run (own := []) (by simp (maxSteps := 2000000) (disch := omega) only [go_sem, ↓reduceIte, Int.reduceLT, Int.reduceLE, Int.reduceToNat, Int.reducePow, Int.reduceNeg, Nat.reduceBEq, Tryz.ntmps59, hl, List.take_of_length_le (Nat.le_of_eq hl)] <;> with_reducible rfl) ?_
   refine Can_callp (by simp only [go_sem, ↓reduceIte, Int.reduceLT, Int.reduceLE, Int.reduceToNat, Int.reducePow, Int.reduceNeg, Nat.reduceBEq, Tryz.ntmps59, hl, List.take_of_length_le (Nat.le_of_eq hl)] <;> with_reducible rfl) (lword_ok (b.drop 248) (by rw [List.length_drop]; omega) (by rw [List.length_drop]; omega)) ?_
   refine cr (hk := ?_)
   refine ccp (hs := fit_ok _) (hk := ?_)
   refine cr (hk := ?_)
   refine Can_nil ?_
   refine jret Tryz.func59 (h := ⟨by unfold stampsB; rw [if_pos hl, List.take_of_length_le (l := b.drop 248) (by rw [List.length_drop]; omega)], rfl⟩)
theorem newS_ok (s : ByteArray) (at_ c : Int) : ACalls Tryz.prog 32 [.c (.string s), .c (.int .i64 at_), .c (.int .i64 c)] [] (Ret (errNew s.data.toList at_ c)) := by
 have := new_ok s.data.toList at_ c
 have e : mkStr s.data.toList = s := by simp [mkStr]
 rwa [e] at this
theorem wrapS_ok (s : ByteArray) (at_ : Int) {e : AV} {c : Int} (he : IsErr e c) : ACalls Tryz.prog 53 [.c (.string s), .c (.int .i64 at_), e] [] (fun r Δ => (∃ e', r = .ret e' ∧ IsErr e' c) ∧ Δ = []) := by
 have := wrap_ok s.data.toList at_ he
 have e : mkStr s.data.toList = s := by simp [mkStr]
 rwa [e] at this
def checkC (st kd : Int) (n : Nat) : Int := if st < 1 ∨ st > 1099511627776 then 2 else if kd < 1 ∨ kd > 5 then 12 else if n > 233 then 3 else 0
def leafAV (st kd : Int) (x : AV) : AV := .agg [.c (.int .i64 st), .c (.int .i64 kd), x]
attribute [local go_sem] leafAV
theorem check_ok (st kd : Int) (b : List UInt8) (hb : b.length < 2 ^ 37) : ACalls Tryz.prog 99 [leafAV st kd (.sl 1 (bytesRows b))] [] (fun r Δ => (∃ e, r = .ret e ∧ IsErr e (checkC st kd b.length) ∧ (checkC st kd b.length = 0 → e = .c .nilIface)) ∧ Δ = []) := by
 unfold leafAV
 by_cases h1 : st < 1
 · have d1 := decide_eq_true h1
   refine jen cl_99 Tryz.func99 (h := ?_)
   refine jf d1 (h := ?_)
   refine jt (h := ?_)
   refine jr (h := ?_)
   refine jc (hs := newS_ok _ _ _) (hk := ?_)
   refine jr (h := ?_)
   refine jret Tryz.func99 (h := ⟨⟨_, rfl, by unfold checkC; rw [if_pos (by omega)]; exact errNew_is _ _ _, by unfold checkC; rw [if_pos (by omega)]; intro h; exact absurd h (by decide)⟩, rfl⟩)
 have d1 := decide_eq_false h1
 by_cases h2 : st > 1099511627776
 · have d2 := decide_eq_true h2
   refine jen cl_99 Tryz.func99 (h := ?_)
   refine jf (cA d1 d2) (h := ?_)
   refine jt (h := ?_)
   refine jr (h := ?_)
   refine jc (hs := newS_ok _ _ _) (hk := ?_)
   refine jr (h := ?_)
   refine jret Tryz.func99 (h := ⟨⟨_, rfl, by unfold checkC; rw [if_pos (by omega)]; exact errNew_is _ _ _, by unfold checkC; rw [if_pos (by omega)]; intro h; exact absurd h (by decide)⟩, rfl⟩)
 have d2 := decide_eq_false h2
 by_cases h3 : kd < 1
 · have d3 := decide_eq_true h3
   refine jen cl_99 Tryz.func99 (h := ?_)
   refine jf (cA d1 d2) (h := ?_)
   refine jn (h := ?_)
   refine jf d3 (h := ?_)
   refine jt (h := ?_)
   refine jr (h := ?_)
   refine jc (hs := newS_ok _ _ _) (hk := ?_)
   refine jr (h := ?_)
   refine jret Tryz.func99 (h := ⟨⟨_, rfl, by unfold checkC; rw [if_neg (by omega), if_pos (by omega)]; exact errNew_is _ _ _, by unfold checkC; rw [if_neg (by omega), if_pos (by omega)]; intro h; exact absurd h (by decide)⟩, rfl⟩)
 have d3 := decide_eq_false h3
 by_cases h4 : kd > 5
 · have d4 := decide_eq_true h4
   refine jen cl_99 Tryz.func99 (h := ?_)
   refine jf (cA d1 d2) (h := ?_)
   refine jn (h := ?_)
   refine jf (cA d3 d4) (h := ?_)
   refine jt (h := ?_)
   refine jr (h := ?_)
   refine jc (hs := newS_ok _ _ _) (hk := ?_)
   refine jr (h := ?_)
   refine jret Tryz.func99 (h := ⟨⟨_, rfl, by unfold checkC; rw [if_neg (by omega), if_pos (by omega)]; exact errNew_is _ _ _, by unfold checkC; rw [if_neg (by omega), if_pos (by omega)]; intro h; exact absurd h (by decide)⟩, rfl⟩)
 have d4 := decide_eq_false h4
 refine jen cl_99 Tryz.func99 (h := ?_)
 refine jf (cA d1 d2) (h := ?_)
 refine jn (h := ?_)
 refine jf (cA d3 d4) (h := ?_)
 refine jn (h := ?_)
 refine jr (h := ?_)
 refine jif (h1 := fun h5 => ?_) (h2 := fun h5 => ?_)
 · refine jr (h := ?_)
   refine jc (hs := newS_ok _ _ _) (hk := ?_)
   refine jr (h := ?_)
   refine jret Tryz.func99 (h := ⟨⟨_, rfl, by unfold checkC; rw [if_neg (by omega), if_neg (by omega), if_pos (by omega)]; exact errNew_is _ _ _, by unfold checkC; rw [if_neg (by omega), if_neg (by omega), if_pos (by omega)]; intro h; exact absurd h (by decide)⟩, rfl⟩)
 · refine jr (h := ?_)
   refine jret Tryz.func99 (h := ⟨⟨_, rfl, by unfold checkC; rw [if_neg (by omega), if_neg (by omega), if_neg (by omega)]; exact .none, fun _ => rfl⟩, rfl⟩)
end
section
attribute [local go_sem] packed List.set_cons_zero List.set_cons_succ List.cons_append List.nil_append bytesRows_length
theorem cloneN_ok : ACalls Tryz.prog 79 [.c (.slice none 0 0)] [] (Ret (.c (.slice none 0 0))) := by
 refine jen cl_79 Tryz.func79 (h := ?_)
 refine jr (h := ?_)
 refine jt (h := ?_)
 refine jr (h := ?_)
 refine jret Tryz.func79 (h := ⟨rfl, rfl⟩)
theorem clone_ok (b : List UInt8) (h0 : b ≠ []) (hb : b.length < 2 ^ 37) : ACalls Tryz.prog 79 [.sl 1 (bytesRows b)] [] (fun r Δ => ∃ v D, r = .ret (.c v) ∧ Δ = D ∧ OwnB 5 b v D) := by
 obtain ⟨x, b', rfl⟩ := List.exists_cons_of_ne_nil h0
 refine jen cl_79 Tryz.func79 (h := ?_)
 refine J_mrun (own := []) (m := 2000) (by simp (maxSteps := 2000000) (disch := omega) only [go_sem, ↓reduceIte, Int.reduceLT, Int.reduceLE, Int.reduceToNat, Int.reducePow, Int.reduceNeg, Nat.reduceBEq, Tryz.ntmps79, bytesRows] <;> with_reducible rfl) ?_
 refine jn (h := ?_)
 refine jr (own := [7]) (h := ?_)
 refine jbi (hb := append0_bi (n := (x :: b').length) gS (by simp only [go_sem, srcOf] <;> rfl) (bytes_cell (b := x :: b')) (by omega)) (hk := ?_)
 rintro _ D ⟨v, _, rfl, rfl, how⟩
 refine jr (h := ?_)
 refine jret Tryz.func79 (h := ⟨v, D, rfl, rfl, how⟩)
def blankB (b : List UInt8) : Bool := b.all (· == 0)
theorem nz_ok (c : UInt8) : ACalls Tryz.prog 104 [.c (.int .u8 c.toNat)] [] (Ret (.c (.bool (decide (¬ c = 0))))) := by
 refine jen cl_104 Tryz.func104 (h := ?_)
 refine jr (h := ?_)
 refine jret Tryz.func104 (h := ⟨by congr 3; simp [← UInt8.toNat_inj], rfl⟩)
theorem index_ok (b : List UInt8) (hb : b.length < 2 ^ 37) : ACalls Tryz.prog 119 [.sl 1 (bytesRows b), .fn (.func 104) [] []] [] (fun r Δ => (∃ n : Int, r = .ret (.c (.int .i64 n)) ∧ ((n ≥ 0) ↔ blankB b = false)) ∧ Δ = []) := by
 refine jen cl_119 Tryz.func119 (h := ?_)
 refine jr (h := ?_)
 refine jk [0, 1, 7, 8] (h := ?_)
 refine J_loopI (I := fun m e D => ∃ i : Nat, i ≤ b.length ∧ m = b.length - i ∧ D = [] ∧ blankB (b.take i) = true ∧ e = [(0, .sl 1 (bytesRows b)), (1, .fn (.func 104) [] []), (7, .c (.int .i64 b.length)), (8, .c (.int .i64 i))]) ?_ ?_
 · exact ⟨_, 0, by omega, rfl, rfl, rfl, rfl⟩
 · rintro m e D ⟨i, hi, rfl, rfl, hz, rfl⟩ ih
   refine jr (h := ?_)
   refine jif (h1 := fun hc => ?_) (h2 := fun hc => ?_)
   · have hlt : i < b.length := by omega
     have g0 := List.getElem?_eq_getElem hlt
     have g1 := bytes_get g0
     have h0 : (0 : Int) ≤ (i : Int) := by omega
     refine jf g1 (h := ?_)
     refine jc (hs := nz_ok _) (hk := ?_)
     refine jr (h := ?_)
     refine jif (h1 := fun hd => ?_) (h2 := fun hd => ?_)
     · refine jr (h := ?_)
       refine J_retX Tryz.func119 (by simp only [go_sem, ↓reduceIte, Int.reduceLT, Int.reduceLE, Int.reduceToNat, Int.reducePow, Int.reduceNeg, Nat.reduceBEq, Tryz.f119] <;> first | with_reducible rfl | rfl) ⟨⟨_, rfl, by
         have : blankB b = false := by
           simp only [blankB, List.all_eq_false]
           exact ⟨b[i], List.getElem_mem hlt, by simpa using hd⟩
         simp only [this, iff_true]; omega⟩, rfl⟩
     · refine jr (h := ?_)
       refine jk [0, 1, 7, 8] (h := ?_)
       refine ih _ _ _ ?_ ⟨i + 1, by omega, rfl, rfl, ?_, rfl⟩
       · omega
       · simp only [blankB] at hz ⊢
         rw [List.take_add_one, g0, List.all_append, hz]
         simpa using hd
   · have hi' : i = b.length := by omega
     subst hi'
     rw [List.take_length] at hz
     refine jr (h := ?_)
     refine jret Tryz.func119 (h := ⟨⟨_, rfl, by simp only [hz, reduceCtorEq, iff_false]; decide⟩, rfl⟩)
theorem contains_ok (b : List UInt8) (hb : b.length < 2 ^ 37) : ACalls Tryz.prog 103 [.sl 1 (bytesRows b), .fn (.func 104) [] []] [] (Ret (.c (.bool (!blankB b)))) := by
 refine jen cl_103 Tryz.func103 (h := ?_)
 refine jr (h := ?_)
 refine jcs (Δ1 := []) (Fr := []) (hs := (index_ok b hb)) (hp := (List.Perm.refl _)) (hk := ?_) (hpan := (by rintro x Δ' ⟨⟨n, e, _⟩, _⟩; cases e))
 rintro x Δ' ⟨⟨n, e, hn⟩, rfl⟩
 cases e
 refine jr (h := ?_)
 refine jret Tryz.func103 (h := ⟨by congr 3; cases hb : blankB b <;> simp_all, rfl⟩)
theorem blank_ok (b : List UInt8) (hb : b.length < 2 ^ 37) : ACalls Tryz.prog 80 [.sl 1 (bytesRows b)] [] (Ret (.c (.bool (blankB b)))) := by
 refine jen cl_80 Tryz.func80 (h := ?_)
 refine jr (h := ?_)
 refine jc (hs := contains_ok b hb) (hk := ?_)
 refine jr (h := ?_)
 refine jret Tryz.func80 (h := ⟨by simp, rfl⟩)
def fitsB (b : List UInt8) : Bool := if b.length < 4 then false else decide (four (crc (b.take (b.length - 4))) = b.drop (b.length - 4))
theorem fits_ok (b : List UInt8) (h4 : 4 ≤ b.length) (hb : b.length < 2 ^ 37) : ACalls Tryz.prog 115 [.sl 1 (bytesRows b)] [] (Ret (.c (.bool (fitsB b)))) := by
 have hk : ((b.length : Int) - 4).toNat = b.length - 4 := by omega
 have hl : (b.drop (b.length - 4)).length = 4 := by rw [List.length_drop]; omega
 have hf : fitsB b = decide (four (crc (b.take (b.length - 4))) = b.drop (b.length - 4)) := by unfold fitsB; rw [if_neg (by omega)]
 obtain ⟨b0, b1, b2, b3, hbs⟩ : ∃ b0 b1 b2 b3, b.drop (b.length - 4) = [b0, b1, b2, b3] := by
   match b.drop (b.length - 4), hl with
   | [b0, b1, b2, b3], _ => exact ⟨_, _, _, _, rfl⟩
 refine jen cl_115 Tryz.func115 (h := ?_)
 refine jr (h := ?_)
 refine jif (h1 := fun hc => absurd hc (by first | omega | simp)) (h2 := fun _ => ?_)
 refine jr (h := ?_)
 refine jd [(0, .pure), (1, .pure), (2, .pure), (3, .pure), (4, .pure), (5, .pure), (6, .pure), (7, .pure), (8, .act), (9, .pure), (10, .act), (11, .pure)] mixed (by kernel_rfl) ?_
 refine cf hk (hk := ?_)
 refine ccp (hs := sum_ok (b.take (b.length - 4)) (by rw [List.length_take]; omega)) (hk := ?_)
 refine cr (hk := ?_)
 refine ccp (hs := four_ok _) (hk := ?_)
 refine Can_run (own := []) (by simp (maxSteps := 2000000) (disch := omega) only [go_sem, ↓reduceIte, Int.reduceLT, Int.reduceLE, Int.reduceToNat, Int.reducePow, Int.reduceNeg, Nat.reduceBEq, Tryz.ntmps115, hk, List.take_of_length_le (Nat.le_refl b.length), hbs] <;> with_reducible rfl) ?_
 refine Can_op rfl gN (fun e' ha => arr_op (m := 4) (e := 5) rfl (by kernel_rfl) (agree_eval rfl ha (by simp [Op.operands]) gR) (by simp) (by simp)) ?_
 rintro _ _ ⟨rfl, rfl⟩
 refine cr (hk := ?_)
 refine Can_op rfl gN (fun e' ha => eqArr_op (e := 5) rfl (by kernel_rfl) (by kernel_rfl) (by kernel_rfl) (by kernel_rfl) (agree_eval rfl ha (by simp [Op.operands]) gR) (agree_eval rfl ha (by simp [Op.operands]) gR)) ?_
 rintro _ _ ⟨rfl, rfl⟩
 refine cr (hk := ?_)
 refine Can_nil ?_
 refine jret Tryz.func115 (h := ⟨by rw [hf, hbs]; simp [packed, four], rfl⟩)
end
section
attribute [local go_sem] packed List.set_cons_zero List.set_cons_succ List.cons_append List.nil_append bytesRows_length leafAV
def headB (st kd : Nat) (b : List UInt8) : List UInt8 := word8 st ++ [UInt8.ofNat kd, UInt8.ofNat (b.length / 256), UInt8.ofNat b.length] ++ b
def bodyB (st kd : Nat) (b : List UInt8) : List UInt8 := headB st kd b ++ List.replicate (244 - (headB st kd b).length) 0
def putB (st kd : Nat) (b : List UInt8) : List UInt8 := sealB (bodyB st kd b) ++ word8 st
theorem headB_len (st kd : Nat) (b : List UInt8) : (headB st kd b).length = 11 + b.length := by unfold headB word8; simp only [List.length_append, List.length_cons, List.length_nil]
theorem bodyB_len (st kd : Nat) (b : List UInt8) (h : b.length ≤ 233) : (bodyB st kd b).length = 244 := by
 unfold bodyB; rw [List.length_append, List.length_replicate, headB_len]; omega
theorem sealB_len (b : List UInt8) : (sealB b).length = b.length + 4 := by unfold sealB four; simp
theorem putB_len (st kd : Nat) (b : List UInt8) (h : b.length ≤ 233) : (putB st kd b).length = 256 := by
 unfold putB word8; rw [List.length_append, sealB_len, bodyB_len _ _ _ h]; rfl
theorem iserr_ne {e : AV} {c : Int} (he : IsErr e c) (hc : c ≠ 0) : ∃ t x, e = .ifc t x := by
 cases he with
 | none => exact absurd rfl hc
 | code => exact ⟨_, _, rfl⟩
 | under => exact ⟨_, _, rfl⟩
theorem put_err (st kd : Int) (b : List UInt8) (hb : b.length < 2 ^ 37) (hc : checkC st kd b.length ≠ 0) :
   ACalls Tryz.prog 76 [leafAV st kd (.sl 1 (bytesRows b))] [] (fun r Δ => (∃ e, r = .ret (.tup [.c (.slice none 0 0), e]) ∧ IsErr e (checkC st kd b.length)) ∧ Δ = []) := by
 refine jen cl_76 Tryz.func76 (h := ?_)
 refine jr (h := ?_)
 refine jcs (Δ1 := []) (Fr := []) (hs := (check_ok st kd b hb)) (hp := (List.Perm.refl _)) (hk := ?_) (hpan := (by rintro x Δ' ⟨⟨e, h, _⟩, _⟩; cases h))
 rintro x Δ' ⟨⟨e, h, he, _⟩, rfl⟩
 cases h
 obtain ⟨t, y, rfl⟩ := iserr_ne he hc
 refine jr (h := ?_)
 refine jt (h := ?_)
 refine jr (h := ?_)
 refine jret Tryz.func76 (h := ⟨⟨_, rfl, he⟩, rfl⟩)
theorem put_ok (st kd : Nat) (b : List UInt8) (h1 : 1 ≤ st) (h2 : st ≤ 1099511627776) (h3 : 1 ≤ kd) (h4 : kd ≤ 5) (h5 : b.length ≤ 233) :
   ACalls Tryz.prog 76 [leafAV st kd (.sl 1 (bytesRows b))] [] (Ret (.tup [.sl 1 (bytesRows (putB st kd b)), .c .nilIface])) := by
 have hc : checkC st kd b.length = 0 := by unfold checkC; rw [if_neg (by omega), if_neg (by omega), if_neg (by omega)]
 refine jen cl_76 Tryz.func76 (h := ?_)
 refine jr (h := ?_)
 refine jcs (Δ1 := []) (Fr := []) (hs := (check_ok st kd b (by omega))) (hp := (List.Perm.refl _)) (hk := ?_) (hpan := (by rintro x Δ' ⟨⟨e, h, _⟩, _⟩; cases h))
 rintro x Δ' ⟨⟨e, h, he, hz⟩, rfl⟩
 cases h
 obtain rfl := hz hc
 refine jr (h := ?_)
 refine jn (h := ?_)
 have hw : IntKind.u64.wrap (st : Int) = st := by rw [u64_wrap]; omega
 refine jf hw (h := ?_)
 refine jcs (Δ1 := []) (Fr := []) (hs := ((wordO_ok [] st (by simp) (by omega)).nilArg (pre := []))) (hp := (List.Perm.refl _)) (hk := ?_) (hpan := (by rintro x Δ' ⟨v, h, _⟩; cases h))
 rintro x D ⟨v, h, how⟩
 cases h
 have e1 : IntKind.u8.wrap ((b.length : Int) / 256) = ((UInt8.ofNat (b.length / 256)).toNat : Int) := by rw [← wrap8_nat]; rfl
 refine J_mrun (own := [29]) (m := 2000) (by simp (maxSteps := 2000000) (disch := omega) only [go_sem, ↓reduceIte, Int.reduceLT, Int.reduceLE, Int.reduceToNat, Int.reducePow, Int.reduceNeg, Nat.reduceBEq, Tryz.ntmps76, wrap8_nat, e1] <;> with_reducible rfl) ?_
 refine jap (Fr := []) (how := how) (hp := (by simp)) (hsrc := (by simp only [go_sem, srcOf] <;> rfl)) (hc := (by rfl)) (hmax := (by simp [word8])) (hk := ?_)
 rintro _ D2 ⟨v2, _, rfl, rfl, how2⟩
 have how3 : OwnB 5 (word8 st ++ [UInt8.ofNat kd, UInt8.ofNat (b.length / 256), UInt8.ofNat b.length]) v2 D2 := ownB_app (a := word8 st) (b := [UInt8.ofNat kd, UInt8.ofNat (b.length / 256), UInt8.ofNat b.length]) how2
 refine jr (own := [33]) (h := ?_)
 refine jap (Fr := []) (how := how3) (hp := (by simp)) (hsrc := (by simp only [go_sem, srcOf] <;> rfl)) (hc := bytes_cell) (hmax := (by simp [word8]; omega)) (hk := ?_)
 rintro _ D3 ⟨v3, _, rfl, rfl, how4⟩
 have how5 : OwnB 5 (headB st kd b) v3 D3 := ownB_app (b := b) how4
 obtain ⟨a3, c3, rfl⟩ := how5.slice
 have hlen := headB_len st kd b
 have e2 : (244 : Int) - ((11 + b.length : Nat) : Int) = ((233 - b.length : Nat) : Int) := by omega
 refine jf (own := [38]) (cA hlen e2) (h := ?_)
 rw [hlen] at how5
 refine jbi (hb := appendZ_bi (zs := [.int .u8 0]) (Fr := []) gS gS (by rfl) how5 (by simp) (by omega)) (hk := ?_)
 rintro _ D4 ⟨v4, _, rfl, rfl, how6⟩
 have how7 : OwnB 5 (bodyB st kd b) v4 D4 := by
   rw [zeros8] at how6
   have : bodyB st kd b = headB st kd b ++ List.replicate (233 - b.length) 0 := by unfold bodyB; rw [headB_len]; congr 2; omega
   rw [this]
   refine ownB_app ?_
   rw [List.length_replicate]; exact how6
 refine jr (h := ?_)
 have hl7 := bodyB_len st kd b h5
 refine J_freezeB (Fr := []) how7 (by unfold maxRows; omega) ?_
 refine J_is (t := 5) (by simp only [go_sem]) (List.mem_cons_self ..) (J_drop ?_)
 refine jd [(0, .pure), (1, .pure), (2, .pure), (3, .read), (4, .pure), (5, .pure), (6, .pure), (7, .pure)] mixed (by kernel_rfl) ?_
 refine cf hw (hk := ?_)
 refine ccp (hs := seal_ok (bodyB st kd b) (by omega)) (hk := ?_)
 refine cf hw (hk := ?_)
 refine ccp (hs := word_ok (sealB (bodyB st kd b)) st (by rw [sealB_len]; omega) (by omega)) (hk := ?_)
 refine cr (hk := ?_)
 refine Can_nil ?_
 refine jret Tryz.func76 (h := ⟨rfl, rfl⟩)
end
section
attribute [local go_sem] packed List.set_cons_zero List.set_cons_succ List.cons_append List.nil_append bytesRows_length leafAV
def nB (b : List UInt8) : Nat := (b.getD 9 0).toNat * 256 + (b.getD 10 0).toNat
def kdB (b : List UInt8) : Nat := (b.getD 8 0).toNat
def txtB (b : List UInt8) : List UInt8 := (b.drop 11).take (nB b)
def restB (b : List UInt8) : List UInt8 := (b.drop (11 + nB b)).take (233 - nB b)
def getC (b : List UInt8) : Int :=
 if b.length ≠ 256 then 6
 else if be8 (b.take 8) ≠ be8 (b.drop 248) then 8
 else if (stampsB b).1 = 0 ∨ (stampsB b).2 = 0 then 9
 else if fitsB (b.take 248) = false then 7
 else if nB b > 233 then 5
 else if checkC (stampsB b).1 (kdB b) (nB b) ≠ 0 then checkC (stampsB b).1 (kdB b) (nB b)
 else if blankB (restB b) = false then 5 else 0
theorem or_bytes (x y : UInt8) : aint .or .i64 ((x.toNat : Int) * 256) (y.toNat : Int) = some (.c (.int .i64 (((x.toNat * 256 + y.toNat : Nat)) : Int))) := by
 show some (AV.c (.int .i64 (IntKind.i64.wrap ((BitVec.ofInt IntKind.i64.bits ((x.toNat : Int) * 256) ||| BitVec.ofInt IntKind.i64.bits (y.toNat : Int)).toNat : Int)))) = _
 have hx := x.toNat_lt
 have hy := y.toNat_lt
 have e1 : BitVec.ofInt IntKind.i64.bits ((x.toNat : Int) * 256) = BitVec.ofNat 64 (x.toNat * 256) := by
   rw [show ((x.toNat : Int) * 256) = ((x.toNat * 256 : Nat) : Int) from by omega]; exact BitVec.ofInt_natCast _ _
 have e2 : BitVec.ofInt IntKind.i64.bits (y.toNat : Int) = BitVec.ofNat 64 y.toNat := BitVec.ofInt_natCast _ _
 rw [e1, e2]
 have e3 : (BitVec.ofNat 64 (x.toNat * 256) ||| BitVec.ofNat 64 y.toNat).toNat = x.toNat * 256 + y.toNat := by
   rw [BitVec.toNat_or, BitVec.toNat_ofNat, BitVec.toNat_ofNat, Nat.mod_eq_of_lt (by omega), Nat.mod_eq_of_lt (by omega)]
   have := Nat.shiftLeft_add_eq_or_of_lt (i := 8) (b := y.toNat) (by omega) x.toNat
   rw [Nat.shiftLeft_eq] at this
   exact this.symm
 have e4 := (congrArg (fun n : Nat => IntKind.i64.wrap (n : Int)) e3).trans (show _ = ((x.toNat * 256 + y.toNat : Nat) : Int) by rw [IntKind.wrap_i64]; omega)
 exact congrArg some (congrArg AV.c (congrArg (Value.int .i64) e4))
theorem getD_get {b : List UInt8} {i : Nat} (h : i < b.length) : b[i]? = some (b.getD i 0) := by
 rw [List.getD_eq_getElem?_getD, List.getElem?_eq_getElem h]; rfl
end
section
attribute [local go_sem] packed List.set_cons_zero List.set_cons_succ List.cons_append List.nil_append bytesRows_length
def scanN (b : List UInt8) (at_ most : Nat) : Nat → Nat → Nat → Int × Nat × Nat
 | 0, _, _ => (6, at_, 0)
 | k + 1, p, n =>
   let c := (b.getD p 0).toNat
   if c = 128 ∧ p = at_ then (5, at_, 0) else if most / 128 < n then (2, at_, 0)
   else if 128 ≤ c then scanN b at_ most k (p + 1) (n * 128 + c % 128)
   else if most < n * 128 + c then (2, at_, 0) else (0, p + 1, n * 128 + c)
def numR (b : List UInt8) (at_ : Nat) (c : Int) (most : Nat) : Int × Nat × Nat := if c ≠ 0 then (c, at_, 0) else scanN b at_ most (b.length - at_) at_ 0
theorem scanN_spec (b : List UInt8) (at_ most : Nat) : ∀ (k p n : Nat), p + k = b.length → at_ ≤ b.length → 0 ≤ (scanN b at_ most k p n).1 ∧ (scanN b at_ most k p n).2.1 ≤ b.length ∧ ((scanN b at_ most k p n).1 ≠ 0 → (scanN b at_ most k p n).2 = (at_, 0)) ∧ ((scanN b at_ most k p n).1 = 0 → (scanN b at_ most k p n).2.2 ≤ most)
 | 0, p, n, _, h => by simp [scanN, h]
 | k + 1, p, n, h1, h2 => by
   simp only [scanN]
   split
   · simp [h2]
   · split
     · simp [h2]
     · split
       · exact scanN_spec b at_ most k _ _ (by omega) h2
       · split
         · simp [h2]
         · exact ⟨by simp, by show p + 1 ≤ _; omega, fun h => absurd rfl h, fun _ => by show n * 128 + _ ≤ most; omega⟩
theorem numR_at (b : List UInt8) {at_ : Nat} (c : Int) (most : Nat) (h : at_ ≤ b.length) : (numR b at_ c most).2.1 ≤ b.length := by
 unfold numR; split
 · exact h
 · exact (scanN_spec b at_ most _ _ _ (by omega) h).2.1
theorem numR_val (b : List UInt8) {at_ : Nat} (c : Int) (most : Nat) (h : at_ ≤ b.length) : (numR b at_ c most).2.2 ≤ most := by
 unfold numR; split
 · simp
 · have h1 := scanN_spec b at_ most (b.length - at_) at_ 0 (by omega) h
   by_cases h0 : (scanN b at_ most (b.length - at_) at_ 0).1 = 0
   · exact h1.2.2.2 h0
   · rw [h1.2.2.1 h0]; exact Nat.zero_le _
theorem or7 {x y : Nat} (hx : x < 2 ^ 50) (hy : y < 128) : aint .or .i64 ((x : Int) * 128) (y : Int) = some (.c (.int .i64 ((x * 128 + y : Nat) : Int))) := by
 show some (AV.c (.int .i64 (IntKind.i64.wrap ((BitVec.ofInt IntKind.i64.bits ((x : Int) * 128) ||| BitVec.ofInt IntKind.i64.bits (y : Int)).toNat : Int)))) = _
 have e1 : BitVec.ofInt IntKind.i64.bits ((x : Int) * 128) = BitVec.ofNat 64 (x * 128) := by
   rw [show ((x : Int) * 128) = ((x * 128 : Nat) : Int) from by omega]; exact BitVec.ofInt_natCast _ _
 have e2 : BitVec.ofInt IntKind.i64.bits (y : Int) = BitVec.ofNat 64 y := BitVec.ofInt_natCast _ _
 rw [e1, e2]
 have e3 : (BitVec.ofNat 64 (x * 128) ||| BitVec.ofNat 64 y).toNat = x * 128 + y := by
   rw [BitVec.toNat_or, BitVec.toNat_ofNat, BitVec.toNat_ofNat, Nat.mod_eq_of_lt (by omega), Nat.mod_eq_of_lt (by omega)]
   have := Nat.shiftLeft_add_eq_or_of_lt (i := 7) (b := y) (by omega) x
   rw [Nat.shiftLeft_eq] at this
   exact this.symm
 have e4 := (congrArg (fun n : Nat => IntKind.i64.wrap (n : Int)) e3).trans (show _ = ((x * 128 + y : Nat) : Int) by rw [IntKind.wrap_i64]; omega)
 exact congrArg some (congrArg AV.c (congrArg (Value.int .i64) e4))
theorem rfail_ok (a : Nat) (b : List UInt8) (at_ c k : Int) : ACalls Tryz.prog 60 [.c (.pointer (some ⟨a, 0, none⟩)), .c (.int .i64 k)] [rdr a b at_ c] (fun r Δ => r = .ret (.tup []) ∧ Δ = [rdr a b at_ (if c = 0 then k else c)]) := by
 refine jen cl_60 Tryz.func60 (h := ?_)
 refine jr (h := ?_)
 refine jif (h1 := fun hc => ?_) (h2 := fun hc => ?_)
 · refine jr (h := ?_)
   refine J_end Tryz.func60 (xs := []) (by rfl) ⟨rfl, by rw [if_pos hc]⟩
 · refine jr (h := ?_)
   refine J_end Tryz.func60 (xs := []) (by rfl) ⟨rfl, by rw [if_neg hc]⟩
def NumI (a : Nat) (b : List UInt8) (at_ : Nat) (c : Int) (most : Nat) (m : Nat) (e : Env) (D : List HP) : Prop :=
 ∃ n p : Nat, e = [(0, .c (.pointer (some ⟨a, 0, none⟩))), (1, .c (.int .i64 most)), (5, .c (.int .i64 n)), (6, .c (.int .i64 p))] ∧
   ((c = 0 ∧ at_ ≤ p ∧ p ≤ b.length ∧ n ≤ most + 127 ∧ (p = at_ → n = 0) ∧ m = b.length - p + 1 ∧ D = [rdr a b at_ 0] ∧ numR b at_ c most = scanN b at_ most (b.length - p) p n) ∨
    ((numR b at_ c most).1 ≠ 0 ∧ m = 0 ∧ (numR b at_ c most).2 = (at_, 0) ∧ D = [rdr a b at_ (numR b at_ c most).1]))
theorem numI_back {a : Nat} {b : List UInt8} {at_ : Nat} {c : Int} {most n p : Nat} {k : Int} (hk : k ≠ 0) (h : numR b at_ c most = (k, at_, 0)) :
   NumI a b at_ c most 0 [(0, .c (.pointer (some ⟨a, 0, none⟩))), (1, .c (.int .i64 most)), (5, .c (.int .i64 n)), (6, .c (.int .i64 ((p : Int) + 1)))] [rdr a b at_ k] :=
 ⟨n, p + 1, rfl, .inr (by rw [h]; exact ⟨hk, rfl, rfl, rfl⟩)⟩
theorem rnum_ok (a : Nat) (b : List UInt8) (at_ : Nat) (c : Int) (most : Nat) (h : at_ ≤ b.length) (hb : b.length < 2 ^ 37) (hm : most ≤ 1099511627776) :
   ACalls Tryz.prog 28 [.c (.pointer (some ⟨a, 0, none⟩)), .c (.int .i64 most)] [rdr a b at_ c]
   (fun r Δ => r = .ret (.c (.int .i64 (numR b at_ c most).2.2)) ∧ Δ = [rdr a b (numR b at_ c most).2.1 (numR b at_ c most).1]) := by
 refine jen cl_28 Tryz.func28 (h := ?_)
 refine jr (h := ?_)
 refine jd [(0, .pure), (1, .pure), (2, .pure), (3, .read), (4, .pure), (5, .pure)] mixed (by kernel_rfl) ?_
 refine cr (hk := ?_)
 refine Can_nil ?_
 refine jr (h := ?_)
 refine jk [0, 1, 5, 6] (h := ?_)
 refine J_loopI (I := NumI a b at_ c most) ?_ ?_
 · refine ⟨if c = 0 then b.length - at_ + 1 else 0, 0, at_, rfl, ?_⟩
   by_cases hc : c = 0
   · subst hc
     exact .inl ⟨rfl, Nat.le_refl _, h, by omega, fun _ => rfl, rfl, rfl, by unfold numR; simp⟩
   · refine .inr ⟨by unfold numR; rw [if_pos hc]; exact hc, by rw [if_neg hc], by unfold numR; rw [if_pos hc], by unfold numR; rw [if_pos hc]⟩
 · rintro m e D ⟨n, p, rfl, hh⟩ ih
   rcases hh with ⟨rfl, hp1, hp2, hn, hz, rfl, rfl, hS⟩ | ⟨hne, rfl, hs2, rfl⟩
   · refine jr (h := ?_)
     refine jt (h := ?_)
     refine jr (h := ?_)
     refine jif (h1 := fun hge => ?_) (h2 := fun hge => ?_)
     · have hpe : b.length - p = 0 := by omega
       rw [hpe] at hS
       simp only [scanN] at hS
       refine jr (h := ?_)
       refine jcs (Δ1 := [_]) (Fr := []) (hs := (rfail_ok a b at_ 0 6)) (hp := (List.Perm.refl _)) (hk := ?_) (hpan := (by rintro x Δ' ⟨e, _⟩; cases e))
       rintro x _ ⟨e, rfl⟩
       cases e
       refine jr (h := ?_)
       refine jret Tryz.func28 (h := ⟨by rw [hS]; rfl, by rw [hS]⟩)
     · have hlt : p < b.length := by omega
       have hg := bytes_get (getD_get hlt)
       have h0 : (0 : Int) ≤ (p : Int) := by omega
       have hk : b.length - p = (b.length - (p + 1)) + 1 := by omega
       rw [hk] at hS
       simp only [scanN] at hS
       generalize hcc : b.getD p 0 = cc at *
       have hcl := cc.toNat_lt
       by_cases hA : cc.toNat = 128 ∧ p = at_
       · rw [if_pos hA] at hS
         obtain ⟨hA1, rfl⟩ := hA
         have hn0 : (n : Int) = 0 := by have := hz rfl; omega
         have hA2 : (cc.toNat : Int) = 128 := by omega
         refine jq (cB hg hA2 hn0) (h := ?_)
         refine jt (h := ?_)
         refine jr (h := ?_)
         refine jcs (Δ1 := [_]) (Fr := []) (hs := (rfail_ok a b p 0 5)) (hp := (List.Perm.refl _)) (hk := ?_) (hpan := (by rintro x Δ' ⟨e, _⟩; cases e))
         rintro x _ ⟨e, rfl⟩
         cases e
         refine jr (h := ?_)
         refine jk [0, 1, 5, 6] (h := ?_)
         exact ih 0 _ _ (by omega) (numI_back (by decide) hS)
       · rw [if_neg hA] at hS
         have hsel : (decide ((cc.toNat : Int) = 128) = true ∧ decide ((n : Int) = 0) = true ∧ decide ((p : Int) + 1 = (at_ : Int) + 1) = false) ∨ (decide ((cc.toNat : Int) = 128) = true ∧ decide ((n : Int) = 0) = false ∧ True) ∨ (decide ((cc.toNat : Int) = 128) = false ∧ True ∧ True) := by
           by_cases h1 : cc.toNat = 128
           · by_cases h2 : n = 0
             · exact .inl ⟨by simp; omega, by simp; omega, decide_eq_false fun h3 => hA ⟨h1, by omega⟩⟩
             · exact .inr (.inl ⟨by simp; omega, decide_eq_false (by omega), trivial⟩)
           · exact .inr (.inr ⟨decide_eq_false (by omega), trivial, trivial⟩)
         have hw128 : ((UInt8.ofNat (cc.toNat % 128)).toNat : Int) = ((cc.toNat % 128 : Nat) : Int) := by rw [UInt8.toNat_ofNat']; omega
         have hand := and127 cc
         have hor1 := or7 (x := n) (y := cc.toNat % 128) (by omega) (by omega)
         have hor2 : cc.toNat < 128 → _ := fun h => or7 (x := n) (y := cc.toNat) (by omega) h
         have hshl : ashift .shl .i64 (n : Int) 7 = some (.c (.int .i64 ((n : Int) * 128))) := by
           show some (AV.c (.int .i64 (IntKind.i64.wrap ((n : Int) * 2 ^ 7)))) = _
           refine congrArg some (congrArg AV.c (congrArg (Value.int .i64) ?_))
           rw [IntKind.wrap_i64]; omega
         rcases hsel with ⟨hd1, hd2, hd3⟩ | ⟨hd1, hd2, hd3⟩ | ⟨hd1, hd2, hd3⟩
         all_goals
           refine jf (cC hg hd1 hd2 hd3) (h := ?_)
           refine jk [0, 1, 5, 6, 7, 50] (h := ?_)
           refine jn (h := ?_)
           refine jr (h := ?_)
           refine jif (h1 := fun h2 => ?_) (h2 := fun h2 => ?_)
           · rw [if_pos (show most / 128 < n by omega)] at hS
             refine jr (h := ?_)
             refine jcs (Δ1 := [_]) (Fr := []) (hs := (rfail_ok a b at_ 0 2)) (hp := (List.Perm.refl _)) (hk := ?_) (hpan := (by rintro x Δ' ⟨e, _⟩; cases e))
             rintro x _ ⟨e, rfl⟩
             cases e
             refine jr (h := ?_)
             refine jk [0, 1, 5, 6] (h := ?_)
             exact ih 0 _ _ (by omega) (numI_back (by decide) hS)
           · rw [if_neg (show ¬ most / 128 < n by omega)] at hS
             refine jr (h := ?_)
             refine jif (h1 := fun h3 => ?_) (h2 := fun h3 => ?_)
             · rw [if_pos (show 128 ≤ cc.toNat by omega)] at hS
               refine jf (cC hand hw128 hshl hor1) (h := ?_)
               refine jk [0, 1, 5, 6] (h := ?_)
               exact ih (b.length - (p + 1) + 1) _ _ (by omega) ⟨n * 128 + cc.toNat % 128, p + 1, rfl, .inl ⟨rfl, by omega, by omega, by omega, fun h => by omega, rfl, rfl, hS⟩⟩
             · have hlt2 : cc.toNat < 128 := by omega
               rw [if_neg (show ¬ 128 ≤ cc.toNat by omega)] at hS
               have hor3 := hor2 hlt2
               refine jf (cA hshl hor3) (h := ?_)
               refine jif (h1 := fun h4 => ?_) (h2 := fun h4 => ?_)
               · rw [if_pos (show most < n * 128 + cc.toNat by omega)] at hS
                 refine jr (h := ?_)
                 refine jcs (Δ1 := [_]) (Fr := []) (hs := (rfail_ok a b at_ 0 2)) (hp := (List.Perm.refl _)) (hk := ?_) (hpan := (by rintro x Δ' ⟨e, _⟩; cases e))
                 rintro x _ ⟨e, rfl⟩
                 cases e
                 refine jr (h := ?_)
                 refine jk [0, 1, 5, 6] (h := ?_)
                 exact ih 0 _ _ (by omega) (numI_back (by decide) hS)
               · rw [if_neg (show ¬ most < n * 128 + cc.toNat by omega)] at hS
                 refine jr (h := ?_)
                 refine jret Tryz.func28 (h := ⟨by rw [hS], by rw [hS]; rfl⟩)
   · refine jr (h := ?_)
     refine jif (h1 := fun hc => ?_) (h2 := fun hc => ?_)
     · exact absurd hc hne
     · refine jr (h := ?_)
       refine jret Tryz.func28 (h := ⟨by rw [hs2]; rfl, by rw [hs2]⟩)
def eightR (b : List UInt8) (at_ : Nat) (c : Int) : Int × Nat × Nat := if c ≠ 0 then (c, at_, 0) else if b.length < at_ + 8 then (6, at_, 0) else (0, at_ + 8, (be8 ((b.drop at_).take 8)).toNat)
theorem eightR_at (b : List UInt8) {at_ : Nat} (c : Int) (h : at_ ≤ b.length) : (eightR b at_ c).2.1 ≤ b.length := by
 unfold eightR; split
 · exact h
 · split
   · exact h
   · show at_ + 8 ≤ _; omega
theorem rwordE_ok (a : Nat) (b : List UInt8) (at_ : Nat) (c : Int) (h : at_ ≤ b.length) (hb : b.length < 2 ^ 37) :
   ACalls Tryz.prog 30 [.c (.pointer (some ⟨a, 0, none⟩))] [rdr a b at_ c] (fun r Δ => r = .ret (.c (.int .u64 (eightR b at_ c).2.2)) ∧ Δ = [rdr a b (eightR b at_ c).2.1 (eightR b at_ c).1]) := by
 by_cases hc : c = 0
 · subst hc
   by_cases h8 : at_ + 8 ≤ b.length
   · have e : eightR b at_ 0 = (0, at_ + 8, (be8 ((b.drop at_).take 8)).toNat) := by unfold eightR; rw [if_neg (by simp), if_neg (by omega)]
     rw [e]
     exact rword_ok a b at_ h8 hb
   · have e : eightR b at_ 0 = (6, at_, 0) := by unfold eightR; rw [if_neg (by simp), if_pos (by omega)]
     rw [e]
     refine jen cl_30 Tryz.func30 (h := ?_)
     refine jr (h := ?_)
     refine jcr (hs := left_ok a b at_ 0 ⟨by omega, by omega⟩ hb) (hk := ?_)
     refine jr (h := ?_)
     refine jif (h1 := fun _ => ?_) (h2 := fun hc => absurd (by first | omega | simp) hc)
     refine jr (h := ?_)
     refine jcs (Δ1 := [_]) (Fr := []) (hs := (rfail_ok a b at_ 0 6)) (hp := (List.Perm.refl _)) (hk := ?_) (hpan := (by rintro x Δ' ⟨e, _⟩; cases e))
     rintro x _ ⟨e, rfl⟩
     cases e
     refine jr (h := ?_)
     refine jif (h1 := fun _ => ?_) (h2 := fun hc => absurd (by first | omega | simp) hc)
     refine jr (h := ?_)
     refine jret Tryz.func30 (h := ⟨rfl, rfl⟩)
 · have e : eightR b at_ c = (c, at_, 0) := by unfold eightR; rw [if_pos hc]
   rw [e]
   refine jen cl_30 Tryz.func30 (h := ?_)
   refine jq hc (h := ?_)
   refine jn (h := ?_)
   refine jr (h := ?_)
   refine jif (h1 := fun _ => ?_) (h2 := fun hc => absurd (by first | omega | simp) hc)
   refine jr (h := ?_)
   refine jret Tryz.func30 (h := ⟨rfl, rfl⟩)
theorem rcode_ok (a : Nat) (b : List UInt8) (at_ c : Int) : ACalls Tryz.prog 29 [.c (.pointer (some ⟨a, 0, none⟩))] [rdr a b at_ c] (fun r Δ => r = .ret (.c (.int .i64 c)) ∧ Δ = [rdr a b at_ c]) := by
 refine jen cl_29 Tryz.func29 (h := ?_)
 refine jr (h := ?_)
 refine jret Tryz.func29 (h := ⟨rfl, rfl⟩)
theorem rat_ok (a : Nat) (b : List UInt8) (at_ c : Int) : ACalls Tryz.prog 33 [.c (.pointer (some ⟨a, 0, none⟩))] [rdr a b at_ c] (fun r Δ => r = .ret (.c (.int .i64 at_)) ∧ Δ = [rdr a b at_ c]) := by
 refine jen cl_33 Tryz.func33 (h := ?_)
 refine jr (h := ?_)
 refine jret Tryz.func33 (h := ⟨rfl, rfl⟩)
def endR (b : List UInt8) (at_ : Nat) (c : Int) : Int := if c = 0 ∧ at_ < b.length then 5 else c
theorem rend_ok (a : Nat) (b : List UInt8) (at_ : Nat) (c : Int) (h : at_ ≤ b.length) (hb : b.length < 2 ^ 37) : ACalls Tryz.prog 31 [.c (.pointer (some ⟨a, 0, none⟩))] [rdr a b at_ c] (fun r Δ => r = .ret (.c (.int .i64 (endR b at_ c))) ∧ Δ = [rdr a b at_ (endR b at_ c)]) := by
 refine jen cl_31 Tryz.func31 (h := ?_)
 refine jr (h := ?_)
 refine jcr (hs := left_ok a b at_ c ⟨by omega, by omega⟩ hb) (hk := ?_)
 refine jr (h := ?_)
 refine jif (h1 := fun hl => ?_) (h2 := fun hl => ?_)
 · have e : endR b at_ c = if c = 0 then 5 else c := by
     unfold endR
     by_cases hc : c = 0
     · rw [if_pos ⟨hc, by omega⟩, if_pos hc]
     · rw [if_neg (fun h => hc h.1), if_neg hc]
   rw [e]
   refine jr (h := ?_)
   refine jcs (Δ1 := [_]) (Fr := []) (hs := (rfail_ok a b at_ c 5)) (hp := (List.Perm.refl _)) (hk := ?_) (hpan := (by rintro x Δ' ⟨e, _⟩; cases e))
   rintro x _ ⟨e, rfl⟩
   cases e
   refine jr (h := ?_)
   refine jret Tryz.func31 (h := ⟨rfl, rfl⟩)
 · have e : endR b at_ c = c := by unfold endR; rw [if_neg (fun h => by omega)]
   rw [e]
   refine jr (h := ?_)
   refine jret Tryz.func31 (h := ⟨rfl, rfl⟩)
end
section
attribute [local go_sem] packed List.set_cons_zero List.set_cons_succ List.cons_append List.nil_append bytesRows_length
attribute [-go_sem] cellsOf
@[local go_sem] theorem cellsOf_agg (xs : List AV) : cellsOf (.agg xs) = xs := rfl
@[local go_sem] theorem cellsOf_int (k : IntKind) (n : Int) : cellsOf (.c (.int k n)) = [.c (.int k n)] := rfl
@[local go_sem] theorem cellsOf_bool (b : Bool) : cellsOf (.c (.bool b)) = [.c (.bool b)] := rfl
@[local go_sem] theorem cellsOf_str (b : ByteArray) : cellsOf (.c (.string b)) = [.c (.string b)] := rfl
@[local go_sem] theorem cellsOf_map (b : Option Nat) : cellsOf (.c (.map b)) = [.c (.map b)] := rfl
@[local go_sem] theorem cellsOf_ptr (b : Option Addr) : cellsOf (.c (.pointer b)) = [.c (.pointer b)] := rfl
@[local go_sem] theorem cellsOf_nilI : cellsOf (.c .nilIface) = [.c .nilIface] := rfl
@[local go_sem] theorem cellsOf_slice (a : Option Addr) (l c : Nat) : cellsOf (.c (.slice a l c)) = [.c (.slice a l c)] := rfl
@[local go_sem] theorem cellsOf_sl (s : Nat) (r : List (List AV)) : cellsOf (.sl s r) = [.sl s r] := rfl
@[local go_sem] theorem cellsOf_ifc (t : TypeId) (x : AV) : cellsOf (.ifc t x) = [.ifc t x] := rfl
@[local go_sem] theorem cellsOf_fp (x : List AV) : cellsOf (.fp x) = [.fp x] := rfl
theorem icell_int (k : IntKind) (n : Int) : AV.isCell (.c (.int k n)) = true := rfl
theorem icell_bool (b : Bool) : AV.isCell (.c (.bool b)) = true := rfl
theorem icell_str (b : ByteArray) : AV.isCell (.c (.string b)) = true := rfl
theorem icell_map (b : Option Nat) : AV.isCell (.c (.map b)) = true := rfl
theorem icell_ptr (b : Option Addr) : AV.isCell (.c (.pointer b)) = true := rfl
theorem icell_nilI : AV.isCell (.c .nilIface) = true := rfl
theorem icell_slice (a : Option Addr) (l c : Nat) : AV.isCell (.c (.slice a l c)) = true := rfl
theorem icell_sl (s : Nat) (r : List (List AV)) : AV.isCell (.sl s r) = true := rfl
theorem icell_ifc (t : TypeId) (x : AV) : AV.isCell (.ifc t x) = true := rfl
theorem icell_fp (x : List AV) : AV.isCell (.fp x) = true := rfl
structure Fl where
 pages : Int
 safe : List (Int × List UInt8)
 loose : List (Int × Option (List UInt8))
 fuse : Int
 down : Bool
 done : Int
def pageAV (b : List UInt8) : AV := .sl 1 (bytesRows b)
def optAV : Option (List UInt8) → AV
 | none => .c (.slice none 0 0)
 | some b => pageAV b
def looseRow (p : Int × Option (List UInt8)) : List AV := [.c (.int .i64 p.1), optAV p.2]
def safeAV (l : List (Int × List UInt8)) : List (Int × AV) := l.map fun p => (p.1, pageAV p.2)
def looseAV (l : List (Int × Option (List UInt8))) : List (List AV) := l.map looseRow
def flCells (s : Fl) (mb : Nat) (v : Value) : List AV := [.c (.int .i64 s.pages), .c (.map (some mb)), .c v, .c (.int .i64 s.fuse), .c (.bool s.down), .c (.int .i64 s.done)]
structure Fl.WF (s : Fl) : Prop where
 p1 : 1 ≤ s.pages
 p2 : s.pages ≤ 4096
 nodup : (s.safe.map (·.1)).Nodup
 page : ∀ p ∈ s.safe, p.2.length = 256
 lpage : ∀ p ∈ s.loose, ∀ b, p.2 = some b → b.length = 256
 f1 : -1 ≤ s.fuse
 f2 : s.fuse < 9223372036854775808
 d1 : 0 ≤ s.done
 d2 : s.done < 4611686018427387904
 len : s.loose.length < 1073741824
structure Fl.WF' (s : Fl) : Prop where
 f1 : -1 ≤ s.fuse
 f2 : s.fuse < 9223372036854775808
 d1 : 0 ≤ s.done
 d2 : s.done < 4611686018427387904
theorem Fl.WF.w {s : Fl} (h : s.WF) : s.WF' := ⟨h.f1, h.f2, h.d1, h.d2⟩
def OwnF (f : Nat) (s : Fl) (D : List HP) : Prop :=
 ∃ mb v L, Own 120 2 (looseAV s.loose).flatten s.loose.length v L ∧ D = .box f 118 (flCells s mb v) :: .map mb (mi kI (safeAV s.safe)) :: L
abbrev ptr (f : Nat) : AV := .c (.pointer (some ⟨f, 0, none⟩))
attribute [local go_sem] flCells
def newFl (pages : Int) : Fl := ⟨pages, [], [], -1, false, 0⟩
theorem fnew_ok (pages : Int) (h1 : 1 ≤ pages) (h2 : pages ≤ 4096) : ACalls Tryz.prog 42 [.c (.int .i64 pages)] [] (fun r D => ∃ f, r = .ret (.tup [ptr f, .c .nilIface]) ∧ OwnF f (newFl pages) D) := by
 have d1 := decide_eq_false (show ¬ pages < 1 by omega)
 have d2 := decide_eq_false (show ¬ pages > 4096 by omega)
 refine jen cl_42 Tryz.func42 (h := ?_)
 refine jf (cA d1 d2) (h := ?_)
 refine jn (h := ?_)
 refine jr (h := ?_)
 refine jop (ho := rfl) (hh := makeMap_op rfl) (hk := ?_)
 rintro _ _ ⟨mb, hmb, rfl, rfl⟩
 refine jr (own := [15]) (h := ?_)
 refine jnb (hh := fun f hf => ?_)
 refine jr (h := ?_)
 refine jret Tryz.func42 (h := ⟨f, rfl, mb, .slice none 0 0, [], .nil none rfl rfl, rfl⟩)
section
variable {f : Nat} {s : Fl} {D : List HP}
theorem down_ok (h : OwnF f s D) : ACalls Tryz.prog 56 [ptr f] D (fun r Δ => r = .ret (.c (.bool s.down)) ∧ Δ = D) := by
 obtain ⟨mb, v, L, how, rfl⟩ := h
 refine jen cl_56 Tryz.func56 (h := ?_)
 refine jr (h := ?_)
 refine jret Tryz.func56 (h := ⟨rfl, rfl⟩)
def checkF (s : Fl) (at_ : Int) : Int := if s.down = true then 11 else if at_ < 0 ∨ at_ ≥ s.pages then 2 else 0
theorem fcheck_ok (h : OwnF f s D) (op : ByteArray) (at_ : Int) : ACalls Tryz.prog 101 [ptr f, .c (.string op), .c (.int .i64 at_)] D (fun r Δ => (∃ e, r = .ret e ∧ IsErr e (checkF s at_) ∧ (checkF s at_ = 0 → e = .c .nilIface)) ∧ Δ = D) := by
 obtain ⟨mb, v, L, how, rfl⟩ := h
 cases hd : s.down with
 | true =>
   have hc : checkF s at_ = 11 := by unfold checkF; rw [if_pos hd]
   refine jen cl_101 Tryz.func101 (h := ?_)
   refine jf hd (h := ?_)
   refine jt (h := ?_)
   refine jr (h := ?_)
   refine jc (hs := newS_ok _ _ _) (hk := ?_)
   refine jr (h := ?_)
   refine jret Tryz.func101 (h := ⟨⟨_, rfl, by rw [hc]; exact errNew_is _ _ _, by rw [hc]; intro h; exact absurd h (by decide)⟩, by simp only [flCells, hd]⟩)
 | false =>
   by_cases h1 : at_ < 0
   · have d1 := decide_eq_true h1
     have hc : checkF s at_ = 2 := by unfold checkF; rw [if_neg (by simp [hd]), if_pos (.inl h1)]
     refine jen cl_101 Tryz.func101 (h := ?_)
     refine jf hd (h := ?_)
     refine jn (h := ?_)
     refine jf d1 (h := ?_)
     refine jt (h := ?_)
     refine jr (h := ?_)
     refine jc (hs := newS_ok _ _ _) (hk := ?_)
     refine jr (h := ?_)
     refine jret Tryz.func101 (h := ⟨⟨_, rfl, by rw [hc]; exact errNew_is _ _ _, by rw [hc]; intro h; exact absurd h (by decide)⟩, by simp only [flCells, hd]⟩)
   · have d1 := decide_eq_false h1
     by_cases h2 : at_ ≥ s.pages
     · have d2 := decide_eq_true h2
       have hc : checkF s at_ = 2 := by unfold checkF; rw [if_neg (by simp [hd]), if_pos (.inr h2)]
       refine jen cl_101 Tryz.func101 (h := ?_)
       refine jf hd (h := ?_)
       refine jn (h := ?_)
       refine jf (cA d1 d2) (h := ?_)
       refine jt (h := ?_)
       refine jr (h := ?_)
       refine jc (hs := newS_ok _ _ _) (hk := ?_)
       refine jr (h := ?_)
       refine jret Tryz.func101 (h := ⟨⟨_, rfl, by rw [hc]; exact errNew_is _ _ _, by rw [hc]; intro h; exact absurd h (by decide)⟩, by simp only [flCells, hd]⟩)
     · have d2 := decide_eq_false h2
       have hc : checkF s at_ = 0 := by unfold checkF; rw [if_neg (by simp [hd]), if_neg (by omega)]
       refine jen cl_101 Tryz.func101 (h := ?_)
       refine jf hd (h := ?_)
       refine jn (h := ?_)
       refine jf (cA d1 d2) (h := ?_)
       refine jn (h := ?_)
       refine jr (h := ?_)
       refine jret Tryz.func101 (h := ⟨⟨_, rfl, by rw [hc]; exact .none, fun _ => rfl⟩, by simp only [flCells, hd]⟩)
def burnB (s : Fl) : Bool := decide (¬ s.fuse < 0) && decide (s.fuse - 1 < 0)
def burnS (s : Fl) : Fl := if s.fuse < 0 then { s with done := s.done + 1 } else { s with done := s.done + 1, fuse := s.fuse - 1, down := decide (s.fuse - 1 < 0) }
theorem burns_ok (h : OwnF f s D) (hw : s.WF') : ACalls Tryz.prog 78 [ptr f] D (fun r D' => r = .ret (.c (.bool (burnB s))) ∧ OwnF f (burnS s) D') := by
 obtain ⟨mb, v, L, how, rfl⟩ := h
 have q1 := hw.f1
 have q2 := hw.f2
 have q3 := hw.d1
 have q4 := hw.d2
 refine jen cl_78 Tryz.func78 (h := ?_)
 refine jr (h := ?_)
 refine jif (h1 := fun hc => ?_) (h2 := fun hc => ?_)
 · refine jr (h := ?_)
   refine jret Tryz.func78 (h := ⟨by unfold burnB; simp [hc], mb, v, L, by unfold burnS; rw [if_pos hc]; exact how, by unfold burnS; rw [if_pos hc]; rfl⟩)
 · refine jr (h := ?_)
   refine jret Tryz.func78 (h := ⟨by unfold burnB; simp [hc], mb, v, L, by unfold burnS; rw [if_neg hc]; exact how, by unfold burnS; rw [if_neg hc]; rfl⟩)
def changeS (s : Fl) (at_ : Int) (b : Option (List UInt8)) : Fl := burnS { s with loose := s.loose ++ [(at_, b)] }
def changeC (s : Fl) : Int := if burnB s then 11 else 0
@[local go_sem] theorem cellsOf_opt (b : Option (List UInt8)) : cellsOf (optAV b) = [optAV b] := by cases b <;> rfl
@[go_sem high] theorem optAV_cell (b : Option (List UInt8)) : (optAV b).isCell = true := by cases b <;> rfl
theorem change_ok (h : OwnF f s D) (hw : s.WF) (op : ByteArray) (at_ : Int) (b : Option (List UInt8)) : ACalls Tryz.prog 102 [ptr f, .c (.string op), .c (.int .i64 at_), optAV b] D
   (fun r D' => ∃ e, r = .ret e ∧ IsErr e (changeC s) ∧ (changeC s = 0 → e = .c .nilIface) ∧ OwnF f (changeS s at_ b) D') := by
 obtain ⟨mb, v, L, how, rfl⟩ := h
 have q1 := hw.len
 refine jen cl_102 Tryz.func102 (h := ?_)
 refine jr (own := [18]) (h := ?_)
 refine jap (Fr := [_, _]) (how := how) (hp := (List.Perm.refl _)) (hsrc := (by simp only [go_sem, srcOf] <;> rfl)) (hc := (by simp only [List.all_cons, List.all_nil, optAV_cell, Bool.and_true]; rfl)) (hmax := (by omega)) (hk := ?_)
 rintro _ _ ⟨v2, L2, rfl, rfl, how2⟩
 obtain ⟨a2, c2, rfl⟩ := how2.slice
 refine jr (h := ?_)
 have hOwn : OwnF f { s with loose := s.loose ++ [(at_, b)] } _ := ⟨mb, .slice a2 (s.loose.length + 1) c2, L2, by
   simp only [looseAV, List.map_append, List.flatten_append, List.length_append] at how2 ⊢; exact how2, rfl⟩
 have hw2 : ({ s with loose := s.loose ++ [(at_, b)] } : Fl).WF' := ⟨hw.f1, hw.f2, hw.d1, hw.d2⟩
 refine jcs (Fr := []) (hs := (burns_ok hOwn hw2)) (hp := (by simp [flCells])) (hk := ?_) (hpan := (by rintro x Δ' ⟨e, _⟩; cases e))
 rintro x D' ⟨e, hO⟩
 cases e
 have hbb : burnB { s with loose := s.loose ++ [(at_, b)] } = burnB s := rfl
 rw [hbb, List.append_nil]
 cases hb : burnB s with
 | true =>
   have hC : changeC s = 11 := by unfold changeC; rw [hb]; rfl
   refine jr (h := ?_)
   refine jt (h := ?_)
   refine jr (h := ?_)
   refine jc (hs := newS_ok _ _ _) (hk := ?_)
   refine jr (h := ?_)
   refine jret Tryz.func102 (h := ⟨_, rfl, by rw [hC]; exact errNew_is _ _ _, by rw [hC]; intro h; exact absurd h (by decide), hO⟩)
 | false =>
   have hC : changeC s = 0 := by unfold changeC; rw [hb]; rfl
   refine jr (h := ?_)
   refine jn (h := ?_)
   refine jr (h := ?_)
   refine jret Tryz.func102 (h := ⟨_, rfl, by rw [hC]; exact .none, fun _ => rfl, hO⟩)
end
end
section
attribute [local go_sem] packed List.set_cons_zero List.set_cons_succ List.cons_append List.nil_append bytesRows_length flCells
section
variable {f : Nat} {s : Fl} {D : List HP}
def writeC (s : Fl) (at_ : Int) (n : Nat) : Int := if checkF s at_ ≠ 0 then checkF s at_ else if n ≠ 256 then 3 else changeC s
def writeS (s : Fl) (at_ : Int) (b : List UInt8) : Fl := if checkF s at_ ≠ 0 ∨ b.length ≠ 256 then s else changeS s at_ (some b)
theorem write_ok (h : OwnF f s D) (hw : s.WF) (at_ : Int) (b : List UInt8) (hb : b.length < 2 ^ 37) : ACalls Tryz.prog 77 [ptr f, .c (.int .i64 at_), .sl 1 (bytesRows b)] D
   (fun r D' => ∃ e, r = .ret e ∧ IsErr e (writeC s at_ b.length) ∧ (writeC s at_ b.length = 0 → e = .c .nilIface) ∧ OwnF f (writeS s at_ b) D') := by
 refine jen cl_77 Tryz.func77 (h := ?_)
 refine jr (h := ?_)
 refine jcs (Fr := []) (hs := (fcheck_ok h _ at_)) (hp := (by simp)) (hk := ?_) (hpan := (by rintro x Δ' ⟨⟨e, h, _⟩, _⟩; cases h))
 rintro x D ⟨⟨e, h1, he, hz⟩, rfl⟩
 cases h1
 rw [List.append_nil]
 by_cases hc : checkF s at_ = 0
 rotate_left
 · have hC : writeC s at_ b.length = checkF s at_ := by unfold writeC; rw [if_pos hc]
   have hS : writeS s at_ b = s := by unfold writeS; rw [if_pos (.inl hc)]
   obtain ⟨t, y, rfl⟩ := iserr_ne he hc
   refine jr (h := ?_)
   refine jt (h := ?_)
   refine jr (h := ?_)
   refine jret Tryz.func77 (h := ⟨_, rfl, by rw [hC]; exact he, by rw [hC]; exact fun h => absurd h hc, by rw [hS]; exact h⟩)
 obtain rfl := hz hc
 refine jr (h := ?_)
 refine jn (h := ?_)
 refine jr (h := ?_)
 refine jif (h1 := fun hl => ?_) (h2 := fun hl => ?_)
 · have hC : writeC s at_ b.length = 3 := by unfold writeC; rw [if_neg (by simp [hc]), if_pos (by omega)]
   have hS : writeS s at_ b = s := by unfold writeS; rw [if_pos (.inr (by omega))]
   refine jr (h := ?_)
   refine jc (hs := newS_ok _ _ _) (hk := ?_)
   refine jr (h := ?_)
   refine jret Tryz.func77 (h := ⟨_, rfl, by rw [hC]; exact errNew_is _ _ _, by rw [hC]; intro h; exact absurd h (by decide), by rw [hS]; exact h⟩)
 have hl' : b.length = 256 := by omega
 have hC : writeC s at_ b.length = changeC s := by unfold writeC; rw [if_neg (by simp [hc]), if_neg (by omega)]
 have hS : writeS s at_ b = changeS s at_ (some b) := by unfold writeS; rw [if_neg (by simp [hc, hl'])]
 refine jr (h := ?_)
 refine jcs (Δ1 := []) (Fr := D) (hs := (clone_ok b (by rintro rfl; simp at hl') hb)) (hp := (List.Perm.refl _)) (hk := ?_) (hpan := (by rintro x Δ' ⟨v, D', h, _⟩; cases h))
 rintro x Δ' ⟨v, D', h1, rfl, how⟩
 cases h1
 refine J_perm (Δ' := D ++ Δ') List.perm_append_comm ?_
 refine J_freezeB how (by unfold maxRows; omega) ?_
 refine J_is (t := 22) (by simp only [go_sem]) (List.mem_cons_self ..) (J_drop ?_)
 refine jcs (Fr := []) (hs := (show ACalls _ _ [_, _, _, .sl 1 (bytesRows b)] _ _ from change_ok h hw _ at_ (some b))) (hp := (by simp)) (hk := ?_) (hpan := (by rintro x Δ' ⟨e, h, _⟩; cases h))
 rintro x D2 ⟨e, h1, he, hz, hO⟩
 cases h1
 rw [List.append_nil]
 refine jr (h := ?_)
 refine jret Tryz.func77 (h := ⟨_, rfl, by rw [hC]; exact he, by rw [hC]; exact hz, by rw [hS]; exact hO⟩)
def trimC (s : Fl) (at_ : Int) : Int := if checkF s at_ ≠ 0 then checkF s at_ else changeC s
def trimS (s : Fl) (at_ : Int) : Fl := if checkF s at_ ≠ 0 then s else changeS s at_ none
def fuseS (s : Fl) (n : Int) : Fl := { s with fuse := max n (-1) }
theorem fuse_ok (h : OwnF f s D) (n : Int) : ACalls Tryz.prog 24 [ptr f, .c (.int .i64 n)] D (fun r D' => r = .ret (.tup []) ∧ OwnF f (fuseS s n) D') := by
 obtain ⟨mb, v, L, how, rfl⟩ := h
 refine jen cl_24 Tryz.func24 (h := ?_)
 refine jr (h := ?_)
 refine J_end Tryz.func24 (xs := []) (by rfl) ⟨rfl, mb, v, L, how, rfl⟩
end
end
section
attribute [local go_sem] packed List.set_cons_zero List.set_cons_succ List.cons_append List.nil_append bytesRows_length flCells
attribute [-go_sem] cellsOf AV.isCell
attribute [local go_sem] cellsOf_agg cellsOf_int cellsOf_bool cellsOf_str cellsOf_map cellsOf_ptr cellsOf_nilI cellsOf_slice cellsOf_sl cellsOf_ifc cellsOf_fp cellsOf_opt optAV_cell icell_int icell_bool icell_str icell_map icell_ptr icell_nilI icell_slice icell_sl icell_ifc icell_fp
theorem backward_ok (a : Option Addr) (l c : Nat) : ACalls Tryz.prog 109 [.c (.slice a l c)] [] (Ret (.fn (.func 123) [] [.fp [.c (.slice a l c)]])) := by
 refine jen cl_109 Tryz.func109 (h := ?_)
 refine jr (h := ?_)
 refine jret Tryz.func109 (h := ⟨rfl, rfl⟩)
theorem backward1_ok {l : Nat} {v : Value} {rows : List (List AV)} {Δ : List HP} (p : Nat → Bool) (S : Nat → List HP → Prop) (hrow : ∀ r ∈ rows, r.length = 2) (hlen : rows.length < 2 ^ 40)
   (hv : (rows = [] ∧ ∃ a, v = .slice a 0 0) ∨ ∃ b cap t sp, v = .slice (some ⟨b, 0, none⟩) rows.length cap ∧ getBox Δ b = some (t, rows.flatten ++ sp) ∧ rows.length ≤ cap)
   (hy : ∀ (i : Nat) r, rows[i]? = some r → AYields Tryz.prog l [.c (.int .i64 i), .agg r] Δ (fun x D => (p i = false ∧ x = .ret (.c (.bool true)) ∧ D = Δ) ∨ (p i = true ∧ x = .ret (.c (.bool false)) ∧ S i D))) :
   ACalls Tryz.prog 123 [.fn (.yield l) [] [], .fp [.c v]] Δ (fun r D => ∃ y, r = .ret y ∧ (((∀ i, i < rows.length → p i = false) ∧ D = Δ) ∨ ∃ i, i < rows.length ∧ p i = true ∧ (∀ j, i < j → j < rows.length → p j = false) ∧ S i D)) := by
 obtain ⟨a, cap, rfl⟩ : ∃ a cap, v = .slice a rows.length cap := by
   rcases hv with ⟨rfl, a, rfl⟩ | ⟨b, cap, t, sp, rfl, _⟩
   · exact ⟨a, 0, rfl⟩
   · exact ⟨_, cap, rfl⟩
 refine jen cl_123 Tryz.func123 (h := ?_)
 refine jr (h := ?_)
 refine jk [0, 1, 3] (h := ?_)
 refine J_loopI (I := fun m e D => ∃ k : Nat, k ≤ rows.length ∧ m = k ∧ D = Δ ∧ (∀ j, k ≤ j → j < rows.length → p j = false) ∧ e = [(0, .fn (.yield l) [] []), (1, .fp [.c (.slice a rows.length cap)]), (3, .c (.int .i64 ((k : Int) - 1)))]) ?_ ?_
 · exact ⟨_, rows.length, Nat.le_refl _, rfl, rfl, fun j h1 h2 => by omega, rfl⟩
 · rintro m e D ⟨k, hk, hm, rfl, hp, rfl⟩ ih
   refine jr (h := ?_)
   refine jif (h1 := fun hc => ?_) (h2 := fun hc => ?_)
   · obtain ⟨q, rfl⟩ : ∃ q, k = q + 1 := ⟨k - 1, by omega⟩
     have hlt : q < rows.length := by omega
     have g0 := List.getElem?_eq_getElem hlt
     have he : (((q + 1 : Nat) : Int) - 1) = (q : Int) := by omega
     have h0 : (0 : Int) ≤ (q : Int) := by omega
     rcases hv with ⟨h, _⟩ | ⟨b, cap', t, sp, hv1, hg, hcap⟩
     · rw [h] at hlt; simp at hlt
     cases hv1
     have hr2 := hrow _ (List.getElem_mem hlt)
     have hgr := get_row (s := 2) (sp := sp) hrow g0
     have hpf := hp
     obtain ⟨x0, x1, hx⟩ : ∃ x0 x1, rows[q] = [x0, x1] := by
       match h : rows[q], hr2 with
       | [x0, x1], _ => exact ⟨x0, x1, rfl⟩
     have hy' := hy q _ g0
     rw [hx] at hgr hy'
     generalize rows.flatten ++ sp = cells at hg hgr
     generalize (rows.drop (q + 1)).flatten ++ sp = rest at hgr
     have hgr' : cells.drop (q * 2) = x0 :: x1 :: rest := hgr
     have h22 : (2 ≤ rest.length + 1 + 1) = True := by simp
     refine J_mrun (own := []) (m := 2000) (by simp (maxSteps := 2000000) (disch := omega) only [go_sem, ↓reduceIte, Int.reduceLT, Int.reduceLE, Int.reduceToNat, Int.reducePow, Int.reduceNeg, Nat.reduceBEq, Tryz.ntmps123, he, hg, hgr', h22, List.length_cons, List.take_succ_cons, List.take_zero] <;> with_reducible rfl) ?_
     refine J_yield rfl gR gR gR (hy') ?_
     rintro x D' (⟨hpq, e, rfl⟩ | ⟨hpq, e, hS⟩)
     · cases e
       refine jr (h := ?_)
       refine jn (h := ?_)
       refine jr (h := ?_)
       refine jk [0, 1, 3] (h := ?_)
       refine ih _ _ _ ?_ ⟨q, by omega, rfl, rfl, ?_, ?_⟩
       · omega
       · intro j h1 h2
         rcases Nat.eq_or_lt_of_le h1 with h | h
         · subst h; exact hpq
         · exact hp j h h2
       · rfl
     · cases e
       refine jr (h := ?_)
       refine jt (h := ?_)
       refine jret Tryz.func123 (h := ⟨_, rfl, .inr ⟨q, hlt, hpq, hp, hS⟩⟩)
   · have hk0 : k = 0 := by omega
     subst hk0
     refine jr (h := ?_)
     refine J_end Tryz.func123 (xs := []) (by rfl) ⟨_, rfl, .inl ⟨fun i h => hp i (Nat.zero_le _) h, rfl⟩⟩
end
section
attribute [local go_sem] packed List.set_cons_zero List.set_cons_succ List.cons_append List.nil_append bytesRows_length flCells
attribute [-go_sem] cellsOf AV.isCell
attribute [local go_sem] cellsOf_agg cellsOf_int cellsOf_bool cellsOf_str cellsOf_map cellsOf_ptr cellsOf_nilI cellsOf_slice cellsOf_sl cellsOf_ifc cellsOf_fp cellsOf_opt optAV_cell icell_int icell_bool icell_str icell_map icell_ptr icell_nilI icell_slice icell_sl icell_ifc icell_fp
def z256 : List UInt8 := List.replicate 256 0
def lookL (l : List (Int × Option (List UInt8))) (at_ : Int) : Option (Option (List UInt8)) := l.foldl (fun acc p => if p.1 = at_ then some p.2 else acc) none
def lookB (s : Fl) (at_ : Int) : List UInt8 := match lookL s.loose at_ with
 | some o => o.getD z256
 | none => (findM s.safe at_).getD z256
theorem foldl_none {at_ : Int} : ∀ {l : List (Int × Option (List UInt8))} {acc : Option (Option (List UInt8))}, (∀ p ∈ l, p.1 ≠ at_) → l.foldl (fun acc p => if p.1 = at_ then some p.2 else acc) acc = acc
 | [], _, _ => rfl
 | p :: l, acc, h => by
   rw [List.foldl_cons, if_neg (h p (by simp))]
   exact foldl_none fun q hq => h q (by simp [hq])
def pageAt (l : List (Int × Option (List UInt8))) (i : Nat) : List UInt8 := match l[i]? with
 | some q => q.2.getD z256
 | none => z256
def isAt (l : List (Int × Option (List UInt8))) (at_ : Int) (i : Nat) : Bool := match l[i]? with
 | some q => decide (q.1 = at_)
 | none => false
theorem lookL_none {l : List (Int × Option (List UInt8))} {at_ : Int} (h : ∀ i, i < l.length → isAt l at_ i = false) : lookL l at_ = none := by
 refine foldl_none fun p hp => ?_
 obtain ⟨i, hi, rfl⟩ := List.getElem_of_mem hp
 have := h i hi
 simpa [isAt, List.getElem?_eq_getElem hi] using this
theorem lookL_some {l : List (Int × Option (List UInt8))} {at_ : Int} {i : Nat} (hi : i < l.length) (h1 : isAt l at_ i = true) (h2 : ∀ j, i < j → j < l.length → isAt l at_ j = false) : lookL l at_ = some l[i].2 := by
 have e : l = l.take i ++ (l[i] :: l.drop (i + 1)) := by rw [List.getElem_cons_drop hi, List.take_append_drop]
 have h1' : l[i].1 = at_ := by simpa [isAt, List.getElem?_eq_getElem hi] using h1
 unfold lookL
 conv => lhs; rw [e]
 rw [List.foldl_append, List.foldl_cons, if_pos h1']
 refine foldl_none fun p hp => ?_
 obtain ⟨j, hj, rfl⟩ := List.getElem_of_mem hp
 rw [List.length_drop] at hj
 have := h2 (i + 1 + j) (by omega) (by omega)
 rw [List.getElem_drop]
 simpa [isAt, List.getElem?_eq_getElem (show i + 1 + j < l.length by omega)] using this
theorem look_len {s : Fl} (hw : s.WF) (at_ : Int) : (lookB s at_).length = 256 := by
 unfold lookB
 have hz : z256.length = 256 := by simp [z256]
 have hl : ∀ (l : List (Int × Option (List UInt8))) (acc : Option (Option (List UInt8))), (∀ p ∈ l, ∀ b, p.2 = some b → b.length = 256) → (∀ o, acc = some o → (o.getD z256).length = 256) →
     ∀ o, l.foldl (fun acc p => if p.1 = at_ then some p.2 else acc) acc = some o → (o.getD z256).length = 256 := by
   intro l
   induction l with
   | nil => intro acc _ h o e; exact h o e
   | cons p l ih =>
     intro acc h1 h2 o e
     rw [List.foldl_cons] at e
     refine ih _ (fun q hq => h1 q (by simp [hq])) ?_ o e
     intro o' e'
     split at e'
     · cases e'
       cases hp : p.2 with
       | none => simpa [hp] using hz
       | some b => simpa [hp] using h1 p (by simp) b hp
     · exact h2 o' e'
 split
 · rename_i o e
   exact hl s.loose none hw.lpage (by intro o h; cases h) o e
 · cases hf : findM s.safe at_ with
   | none => exact hz
   | some b => exact hw.page _ (mem_find hf)
theorem mt : mapTy Tryz.prog 115 = some (3, .int .i64, 23, .slice none 0 0) := by kernel_rfl
theorem row_len (l : List (Int × Option (List UInt8))) : ∀ r ∈ looseAV l, r.length = 2 := by
 intro r hr
 obtain ⟨p, _, rfl⟩ := List.mem_map.1 hr
 rfl
section
variable {f : Nat} {s : Fl} {D : List HP}
theorem own_at {e : TypeId} {rows : List (List AV)} {len : Nat} {v : Value} {L : List HP} (how : Own e 2 rows.flatten len v L) (hlen : rows.length = len) : (rows = [] ∧ L = [] ∧ ∃ a, v = .slice a 0 0) ∨ ∃ b cap sp, v = .slice (some ⟨b, 0, none⟩) rows.length cap ∧ L = [.box b e (rows.flatten ++ sp)] ∧ rows.length ≤ cap := by
 subst hlen
 cases how with
 | nil a e1 e2 => exact .inl ⟨List.eq_nil_of_length_eq_zero e2, rfl, a, rfl⟩
 | box b cap sp c1 c2 c3 => exact .inr ⟨b, cap, sp, rfl, rfl, c3⟩
theorem look_ok (h : OwnF f s D) (hw : s.WF) (at_ : Int) : ACalls Tryz.prog 84 [ptr f, .c (.int .i64 at_)] D (fun r Δ => r = .ret (pageAV (lookB s at_)) ∧ Δ = D) := by
 have hll := look_len hw at_
 obtain ⟨mb, v, L, how, rfl⟩ := h
 obtain ⟨av, cv, rfl⟩ := how.slice
 have hwl := hw.len
 have hrl : (looseAV s.loose).length = s.loose.length := by simp [looseAV]
 have hat := own_at how hrl
 refine jen cl_84 Tryz.func84 (h := ?_)
 refine jr (own := [4]) (h := ?_)
 refine jnv (hh := fun b4 hb4 => ?_)
 simp only [fresh] at hb4
 refine jf hb4 (h := ?_)
 refine jc (hs := backward_ok _ _ _) (hk := ?_)
 refine jr (h := ?_)
 refine jk [0, 3, 4, 11] (h := ?_)
 refine J_have ((looseAV s.loose = [] ∧ ∃ a, Value.slice av s.loose.length cv = .slice a 0 0) ∨ ∃ b cap t sp, Value.slice av s.loose.length cv = .slice (some ⟨b, 0, none⟩) (looseAV s.loose).length cap ∧
     getBox (HP.box b4 23 [AV.c (.slice none 0 0)] :: HP.box f 118 (flCells s mb (.slice av s.loose.length cv)) :: HP.map mb (mi kI (safeAV s.safe)) :: L) b = some (t, (looseAV s.loose).flatten ++ sp) ∧ (looseAV s.loose).length ≤ cap) ?_ (fun hbox => ?_)
 · intro g B sm
   rcases hat with ⟨h1, rfl, a, h2⟩ | ⟨b, cap, sp, h1, rfl, h2⟩
   · exact .inl ⟨h1, a, h2⟩
   · refine .inr ⟨b, cap, 120, sp, h1, ?_, h2⟩
     exact (grow_sep (D := [_, _, _]) (Δ := [_]) sm.sep).choose_spec.2.1 b _ _ (by simp [getBox])
 refine J_rangeFunc (ps := [12, 13]) (by simp only [go_sem] <;> rfl) cl_123 (fun l r tmps hl hr => ?_)
 refine ⟨_, backward1_ok (p := isAt s.loose at_) (S := fun i D' => ∃ r' v' L', r'.state ≠ .busy ∧ r'.pending = some .ret ∧ OwnB 5 (pageAt s.loose i) v' L' ∧ D'.Perm (HP.obj l (.loop r') :: HP.obj r (.deferred (some [])) :: .box b4 23 [.c v'] :: .box f 118 (flCells s mb (.slice av s.loose.length cv)) :: .map mb (mi kI (safeAV s.safe)) :: (L ++ L'))) (row_len _) (by omega) hbox ?_, ?_⟩
 · intro i rr hi
   obtain ⟨q, hq, rfl⟩ : ∃ q, s.loose[i]? = some q ∧ looseRow q = rr := by simpa [looseAV] using hi
   have hiA : isAt s.loose at_ i = decide (q.1 = at_) := by unfold isAt; rw [hq]
   have hpA : pageAt s.loose i = q.2.getD z256 := by unfold pageAt; rw [hq]
   have hqm := List.mem_of_getElem? hq
   refine yields_J (f := 84) (ps := [12, 13]) rfl rfl rfl rfl (by simp [Tryz.ntmps84]) rfl ⟨_, Tryz.func84⟩ ?_
   refine J_mrun (own := [6]) (m := 2000) (by simp (maxSteps := 2000000) (disch := omega) only [go_sem, ↓reduceIte, Int.reduceLT, Int.reduceLE, Int.reduceToNat, Int.reducePow, Int.reduceNeg, Nat.reduceBEq, Tryz.ntmps84, looseRow] <;> with_reducible rfl) ?_
   refine jnv (hh := fun b6 hb6 => ?_)
   simp only [fresh_obj, fresh_envp, fresh] at hb6
   refine J_mrun (own := []) (m := 2000) (by simp (maxSteps := 2000000) (disch := omega) only [go_sem, ↓reduceIte, Int.reduceLT, Int.reduceLE, Int.reduceToNat, Int.reducePow, Int.reduceNeg, Nat.reduceBEq, Tryz.ntmps84, looseRow, hb6.1, hb6.2.1, hb6.2.2.1, hb6.2.2.2.1] <;> with_reducible rfl) ?_
   refine J_perm (List.Perm.swap _ _ _) (J_beginRound rfl ?_)
   refine J_mrun (own := []) (m := 2000) (by simp (maxSteps := 2000000) (disch := omega) only [go_sem, ↓reduceIte, Int.reduceLT, Int.reduceLE, Int.reduceToNat, Int.reducePow, Int.reduceNeg, Nat.reduceBEq, Tryz.ntmps84, looseRow, hb6.1, hb6.2.1, hb6.2.2.1, hb6.2.2.2.1] <;> with_reducible rfl) ?_
   refine jif (h1 := fun hap => ?_) (h2 := fun hap => ?_)
   · obtain ⟨qa, qo⟩ := q
     cases qo with
     | none =>
       refine jr (h := ?_)
       refine jd [(0, .pure), (1, .read), (3, .pure), (4, .read), (5, .pure), (6, .pure), (2, .new), (7, .act), (8, .act)] mixed (by kernel_rfl) ?_
       refine Can_run (own := []) (by simp (maxSteps := 2000000) (disch := omega) only [go_sem, ↓reduceIte, Int.reduceLT, Int.reduceLE, Int.reduceToNat, Int.reducePow, Int.reduceNeg, Nat.reduceBEq, Tryz.ntmps84, optAV, looseRow, hb6.1, hb6.2.1, hb6.2.2.1, hb6.2.2.2.1] <;> with_reducible rfl) ?_
       refine Can_newcall gS cloneN_ok ?_ (by rintro x Δ' ⟨e, _⟩; cases e)
       rintro x L' ⟨e, rfl⟩
       cases e
       have how' : OwnB 5 [] (.slice none 0 0) [] := .nil none rfl rfl
       refine Can_run (own := []) (by simp (maxSteps := 2000000) (disch := omega) only [go_sem, ↓reduceIte, Int.reduceLT, Int.reduceLE, Int.reduceToNat, Int.reducePow, Int.reduceNeg, Nat.reduceBEq, Tryz.ntmps84, optAV, looseRow, hb6.1, hb6.2.1, hb6.2.2.1, hb6.2.2.2.1] <;> with_reducible rfl) ?_
       refine cbi (hb := appendZ_bi (n := 256) (zs := [.int .u8 0]) gS gS (by rfl) how' (List.perm_append_comm (l₁ := [])) (by decide)) (hk := ?_)
       rintro _ _ ⟨v2, L2, rfl, rfl, how2⟩
       obtain ⟨a2, c2, rfl⟩ := how2.slice
       have how3 : OwnB 5 z256 (.slice a2 256 c2) L2 := by
         rw [zeros8] at how2
         exact how2
       refine Can_run (own := []) (by simp (maxSteps := 2000000) (disch := omega) only [go_sem, ↓reduceIte, Int.reduceLT, Int.reduceLE, Int.reduceToNat, Int.reducePow, Int.reduceNeg, Nat.reduceBEq, Tryz.ntmps84, optAV, looseRow, hb6.1, hb6.2.1, hb6.2.2.1, hb6.2.2.2.1] <;> with_reducible rfl) ?_
       refine Can_nil ?_
       refine J_perm (List.Perm.swap _ _ _) (J_drop ?_)
       refine J_perm (List.Perm.swap _ _ _) (J_drop (JR_ret ?_))
       exact ⟨_, List.Perm.refl _, .inr ⟨rfl, .inr ⟨by rw [hiA]; simpa using hap, rfl, _, _, L2, by simp, rfl, by rw [hpA]; exact how3, List.Perm.refl _⟩⟩⟩
     | some b =>
       have hb256 : b.length = 256 := hw.lpage _ hqm b rfl
       refine jr (h := ?_)
       refine jd [(0, .pure), (1, .read), (3, .pure), (4, .read), (5, .pure), (6, .pure), (2, .new), (7, .act), (8, .act)] mixed (by kernel_rfl) ?_
       refine Can_run (own := []) (by simp (maxSteps := 2000000) (disch := omega) only [go_sem, ↓reduceIte, Int.reduceLT, Int.reduceLE, Int.reduceToNat, Int.reducePow, Int.reduceNeg, Nat.reduceBEq, Tryz.ntmps84, optAV, pageAV, hb256, looseRow, hb6.1, hb6.2.1, hb6.2.2.1, hb6.2.2.2.1] <;> with_reducible rfl) ?_
       refine Can_newcall gS (clone_ok b (by rintro rfl; simp at hb256) (by omega)) ?_ (by rintro x Δ' ⟨v, D', e, _⟩; cases e)
       rintro x L' ⟨v', D', e, rfl, how'⟩
       cases e
       obtain ⟨a', c', rfl⟩ := how'.slice
       change Own 5 1 (bytesRows b).flatten b.length (.slice a' b.length c') L' at how'
       rw [hb256] at how'
       rw [hb256]
       refine Can_run (own := []) (by simp (maxSteps := 2000000) (disch := omega) only [go_sem, ↓reduceIte, Int.reduceLT, Int.reduceLE, Int.reduceToNat, Int.reducePow, Int.reduceNeg, Nat.reduceBEq, Tryz.ntmps84, optAV, pageAV, hb256, looseRow, hb6.1, hb6.2.1, hb6.2.2.1, hb6.2.2.2.1] <;> with_reducible rfl) ?_
       refine cbi (hb := appendZ_bi (n := 0) (zs := [.int .u8 0]) gS gS (by rfl) how' (List.perm_append_comm (l₁ := L')) (by omega)) (hk := ?_)
       rintro _ _ ⟨v2, L2, rfl, rfl, how2⟩
       obtain ⟨a2, c2, rfl⟩ := how2.slice
       have how3 : OwnB 5 b (.slice a2 (256 + 0) c2) L2 := by
         rw [zeros, List.append_nil] at how2
         show Own 5 1 (bytesRows b).flatten b.length (.slice a2 (256 + 0) c2) L2
         rw [hb256]
         exact how2
       refine Can_run (own := []) (by simp (maxSteps := 2000000) (disch := omega) only [go_sem, ↓reduceIte, Int.reduceLT, Int.reduceLE, Int.reduceToNat, Int.reducePow, Int.reduceNeg, Nat.reduceBEq, Tryz.ntmps84, optAV, pageAV, hb256, looseRow, hb6.1, hb6.2.1, hb6.2.2.1, hb6.2.2.2.1] <;> with_reducible rfl) ?_
       refine Can_nil ?_
       refine J_perm (List.Perm.swap _ _ _) (J_drop ?_)
       refine J_perm (List.Perm.swap _ _ _) (J_drop (JR_ret ?_))
       exact ⟨_, List.Perm.refl _, .inr ⟨rfl, .inr ⟨by rw [hiA]; simpa using hap, rfl, _, _, L2, by simp, rfl, by rw [hpA]; exact how3, List.Perm.refl _⟩⟩⟩
   · refine jr (h := ?_)
     refine J_perm (List.Perm.swap _ _ _) (J_drop (JR_end ?_))
     exact ⟨_, List.Perm.refl _, .inl ⟨rfl, .inl ⟨by rw [hiA]; simpa using hap, rfl, rfl⟩⟩⟩
 · rintro x Δ' ⟨y, rfl, h⟩
   rcases h with ⟨hno, rfl⟩ | ⟨i, hi, hp, hlast, r', v', L', hb', hpd, how', hperm⟩
   · refine ⟨y, _, _, rfl, by simp, List.Perm.cons _ (List.Perm.swap _ _ _), ?_⟩
     refine J_perm (List.Perm.swap _ _ _) (J_drop ?_)
     simp only [Option.map_none, Option.toList_none, List.nil_append]
     rw [hrl] at hno
     have hlk := lookL_none hno
     cases hf : findM s.safe at_ with
     | none =>
       have hfs : findM (safeAV s.safe) at_ = none := by unfold safeAV; rw [findM_map, hf]; rfl
       refine jr (h := ?_)
       refine jd [(0, .pure), (1, .pure), (2, .pure), (3, .read), (4, .read), (5, .read), (7, .pure), (8, .pure), (9, .pure), (10, .read), (11, .read), (12, .read), (13, .pure), (14, .pure), (6, .new), (15, .act), (16, .act)] mixed (by kernel_rfl) ?_
       refine cf (cA hfs hb4) (hk := ?_)
       refine Can_look rfl gN kI_ok mt (by simp only [go_sem, ↓reduceIte, Int.reduceLT, Int.reduceLE, Int.reduceToNat, Int.reducePow, Int.reduceNeg, Nat.reduceBEq, hb4.1] <;> rfl) (by simp only [go_sem, ↓reduceIte, Int.reduceLT, Int.reduceLE, Int.reduceToNat, Int.reducePow, Int.reduceNeg, Nat.reduceBEq, hb4.1] <;> rfl) (by simp only [go_sem, ↓reduceIte, Int.reduceLT, Int.reduceLE, Int.reduceToNat, Int.reducePow, Int.reduceNeg, Nat.reduceBEq, hb4.1] <;> rfl) ?_
       refine cf (cA hfs hb4) (hk := ?_)
       refine Can_look rfl gN kI_ok mt (by simp only [go_sem, ↓reduceIte, Int.reduceLT, Int.reduceLE, Int.reduceToNat, Int.reducePow, Int.reduceNeg, Nat.reduceBEq, hb4.1] <;> rfl) (by simp only [go_sem, ↓reduceIte, Int.reduceLT, Int.reduceLE, Int.reduceToNat, Int.reducePow, Int.reduceNeg, Nat.reduceBEq, hb4.1] <;> rfl) (by simp only [go_sem, ↓reduceIte, Int.reduceLT, Int.reduceLE, Int.reduceToNat, Int.reducePow, Int.reduceNeg, Nat.reduceBEq, hb4.1] <;> rfl) ?_
       refine cf (cA hfs hb4) (hk := ?_)
       refine Can_newcall gS cloneN_ok ?_ (by rintro x Δ' ⟨e, _⟩; cases e)
       rintro x L' ⟨e, rfl⟩
       cases e
       have how' : OwnB 5 [] (.slice none 0 0) [] := .nil none rfl rfl
       refine cf (cA hfs hb4) (hk := ?_)
       refine cbi (hb := appendZ_bi (n := 256) (zs := [.int .u8 0]) gS gS (by rfl) how' (List.perm_append_comm (l₁ := [])) (by decide)) (hk := ?_)
       rintro _ _ ⟨v2, L2, rfl, rfl, how2⟩
       obtain ⟨a2, c2, rfl⟩ := how2.slice
       have how3 : OwnB 5 z256 (.slice a2 256 c2) L2 := by
         rw [zeros8] at how2
         exact how2
       refine cf (cA hfs hb4) (hk := ?_)
       refine Can_nil ?_
       refine J_freezeB (Fr := HP.obj r _ :: .box b4 _ _ :: .box f _ _ :: .map mb _ :: L) how3 (by rw [show z256.length = 256 from by simp [z256]]; decide) ?_
       refine J_isBox 0 rfl (List.Perm.cons _ (List.Perm.swap _ _ _)) ?_
       refine J_perm ((List.Perm.cons _ (List.Perm.swap _ _ _)).trans (List.Perm.swap _ _ _)) ?_
       refine J_forgetP ?_
       refine JM_ret Tryz.func84 (by simp only [go_sem, ↓reduceIte, Int.reduceLT, Int.reduceLE, Int.reduceToNat, Int.reducePow, Int.reduceNeg, Nat.reduceBEq, Tryz.f84, List.set_cons_zero] <;> first | with_reducible rfl | rfl) ⟨[_, _], _, List.Perm.refl _, by rw [show lookB s at_ = z256 from by unfold lookB; rw [hlk]; simp [hf]]; rfl, rfl⟩
     | some b =>
       have hfs : findM (safeAV s.safe) at_ = some (.sl 1 (bytesRows b)) := by unfold safeAV; rw [findM_map, hf]; rfl
       have hb256 : b.length = 256 := hw.page _ (mem_find hf)
       refine jr (h := ?_)
       refine jd [(0, .pure), (1, .pure), (2, .pure), (3, .read), (4, .read), (5, .read), (7, .pure), (8, .pure), (9, .pure), (10, .read), (11, .read), (12, .read), (13, .pure), (14, .pure), (6, .new), (15, .act), (16, .act)] mixed (by kernel_rfl) ?_
       refine cf (cB hfs hb4 hb256) (hk := ?_)
       refine Can_look rfl gN kI_ok mt (by simp only [go_sem, ↓reduceIte, Int.reduceLT, Int.reduceLE, Int.reduceToNat, Int.reducePow, Int.reduceNeg, Nat.reduceBEq, hb4.1] <;> rfl) (by simp only [go_sem, ↓reduceIte, Int.reduceLT, Int.reduceLE, Int.reduceToNat, Int.reducePow, Int.reduceNeg, Nat.reduceBEq, hb4.1] <;> rfl) (by simp only [go_sem, ↓reduceIte, Int.reduceLT, Int.reduceLE, Int.reduceToNat, Int.reducePow, Int.reduceNeg, Nat.reduceBEq, hb4.1] <;> rfl) ?_
       refine cf (cB hfs hb4 hb256) (hk := ?_)
       refine Can_look rfl gN kI_ok mt (by simp only [go_sem, ↓reduceIte, Int.reduceLT, Int.reduceLE, Int.reduceToNat, Int.reducePow, Int.reduceNeg, Nat.reduceBEq, hb4.1] <;> rfl) (by simp only [go_sem, ↓reduceIte, Int.reduceLT, Int.reduceLE, Int.reduceToNat, Int.reducePow, Int.reduceNeg, Nat.reduceBEq, hb4.1] <;> rfl) (by simp only [go_sem, ↓reduceIte, Int.reduceLT, Int.reduceLE, Int.reduceToNat, Int.reducePow, Int.reduceNeg, Nat.reduceBEq, hb4.1] <;> rfl) ?_
       refine cf (cB hfs hb4 hb256) (hk := ?_)
       refine Can_newcall gS (clone_ok b (by rintro rfl; simp at hb256) (by omega)) ?_ (by rintro x Δ' ⟨v, D', e, _⟩; cases e)
       rintro x L' ⟨v', D', e, rfl, how'⟩
       cases e
       obtain ⟨a', c', rfl⟩ := how'.slice
       change Own 5 1 (bytesRows b).flatten b.length (.slice a' b.length c') L' at how'
       rw [hb256] at how'
       rw [hb256]
       refine cf (cB hfs hb4 hb256) (hk := ?_)
       refine cbi (hb := appendZ_bi (n := 0) (zs := [.int .u8 0]) gS gS (by rfl) how' (List.perm_append_comm (l₁ := L')) (by omega)) (hk := ?_)
       rintro _ _ ⟨v2, L2, rfl, rfl, how2⟩
       obtain ⟨a2, c2, rfl⟩ := how2.slice
       have how3 : OwnB 5 b (.slice a2 (256 + 0) c2) L2 := by
         rw [zeros, List.append_nil] at how2
         show Own 5 1 (bytesRows b).flatten b.length (.slice a2 (256 + 0) c2) L2
         rw [hb256]
         exact how2
       refine cf (cB hfs hb4 hb256) (hk := ?_)
       refine Can_nil ?_
       refine J_freezeB (Fr := HP.obj r _ :: .box b4 _ _ :: .box f _ _ :: .map mb _ :: L) how3 (by rw [show b.length = 256 from hb256]; decide) ?_
       refine J_isBox 0 rfl (List.Perm.cons _ (List.Perm.swap _ _ _)) ?_
       refine J_perm ((List.Perm.cons _ (List.Perm.swap _ _ _)).trans (List.Perm.swap _ _ _)) ?_
       refine J_forgetP ?_
       refine JM_ret Tryz.func84 (by simp only [go_sem, ↓reduceIte, Int.reduceLT, Int.reduceLE, Int.reduceToNat, Int.reducePow, Int.reduceNeg, Nat.reduceBEq, Tryz.f84, List.set_cons_zero] <;> first | with_reducible rfl | rfl) ⟨[_, _], _, List.Perm.refl _, by rw [show lookB s at_ = b from by unfold lookB; rw [hlk]; simp [hf]]; rfl, rfl⟩
   · refine ⟨y, r', _, rfl, hb', hperm, ?_⟩
     rw [hrl] at hi hlast
     have hlk := lookL_some hi hp hlast
     have hpg : lookB s at_ = pageAt s.loose i := by unfold lookB pageAt; rw [hlk, List.getElem?_eq_getElem hi]
     simp only [hpd, Option.map_some, Option.toList_some, List.cons_append, List.nil_append]
     refine J_freezeB (Fr := HP.obj r _ :: .box b4 _ _ :: .box f _ _ :: .map mb _ :: L) how' (by rw [show (pageAt s.loose i).length = 256 from by rw [← hpg]; exact hll]; decide) ?_
     refine J_isBox 0 rfl (List.Perm.cons _ (List.Perm.swap _ _ _)) ?_
     refine J_perm ((List.Perm.cons _ (List.Perm.swap _ _ _)).trans (List.Perm.swap _ _ _)) ?_
     refine J_forgetP ?_
     refine JM_ret Tryz.func84 (by simp only [go_sem, ↓reduceIte, Int.reduceLT, Int.reduceLE, Int.reduceToNat, Int.reducePow, Int.reduceNeg, Nat.reduceBEq, Tryz.f84, List.set_cons_zero] <;> first | with_reducible rfl | rfl) ⟨[_, _], _, List.Perm.refl _, by rw [hpg]; rfl, rfl⟩
end
end
end Go.Proofs.YtdnhcpbammfmlaaGreatDoor
