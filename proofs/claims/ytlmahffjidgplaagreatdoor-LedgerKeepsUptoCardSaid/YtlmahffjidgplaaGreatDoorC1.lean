/- A part of the proof: what the calls do, told by values. -/
import Derived.Test.YtlmahffjidgplaaGreatDoorB1
import Derived.Test.YtlmahffjidgplaaGreatDoorB2
import Derived.Test.YtlmahffjidgplaaGreatDoorA9
import Derived.Test.YtlmahffjidgplaaGreatDoorA4
import Derived.Test.YtlmahffjidgplaaGreatDoorA6
section
namespace Go.Proofs.YtlmahffjidgplaaGreatDoor
open Go Go.Av
set_option linter.unusedVariables false
set_option linter.unusedSimpArgs false
set_option maxRecDepth 100000

/-! ### Faults -/
def errNew (op : List UInt8) (at_ c : Int) : AV := if c = 0 then .c .nilIface else .ifc 145 (.fp [.str op, .c (.int .i64 at_), .c (.int .i64 c), .c .nilIface])

theorem new_ok (op : List UInt8) (at_ c : Int) : ACalls Tryz.prog 51 [.c (.string (mkStr op)), .c (.int .i64 at_), .c (.int .i64 c)] [] (Ret (errNew op at_ c)) := by
  refine calls_of_J cl_51 Tryz.func51 rfl (by simp [Tryz.ntmps51]) ?_
  refine jr (own := []) (h := ?_)
  refine jif (h1 := fun hc => ?_) (h2 := fun hc => ?_)
  · refine jr (own := []) (h := ?_)
    refine jret Tryz.func51 (h := ⟨by simp [errNew, hc], rfl⟩)
  · refine jr (own := []) (h := ?_)
    refine jret Tryz.func51 (h := ⟨by simp [errNew, hc, AV.str], rfl⟩)

/-- An error whose code is c (0: none). -/
inductive IsErr : AV → Int → Prop
  | none : IsErr (.c .nilIface) 0
  | code (op : AV) (at_ c : Int) : c ≠ 0 → IsErr (.ifc 145 (.fp [op, .c (.int .i64 at_), .c (.int .i64 c), .c .nilIface])) c
  | under (op : AV) (at_ : Int) (u : AV) (c : Int) : c ≠ 0 → IsErr u c → IsErr (.ifc 145 (.fp [op, .c (.int .i64 at_), .c (.int .i64 0), u])) c

theorem errNew_is (op : List UInt8) (at_ c : Int) : IsErr (errNew op at_ c) c := by
  unfold errNew
  split
  · rename_i h; subst h; exact .none
  · rename_i h; exact .code _ _ _ h

def errWrap (op : List UInt8) (at_ : Int) (u : AV) : AV := .ifc 145 (.fp [.str op, .c (.int .i64 at_), .c (.int .i64 0), u])

theorem wrap_ok (op : List UInt8) (at_ : Int) {e : AV} {c : Int} (he : IsErr e c) : ACalls Tryz.prog 53 [.c (.string (mkStr op)), .c (.int .i64 at_), e] [] (fun r Δ => (∃ e', r = .ret e' ∧ IsErr e' c) ∧ Δ = []) := by
  cases he with
  | none =>
    refine calls_of_J cl_53 Tryz.func53 rfl (by simp [Tryz.ntmps53]) ?_
    refine jr (own := []) (h := ?_)
    refine J_cond (t := true) (by simp only [go_sem, ↓reduceIte] <;> with_reducible rfl) ?_
    simp only [if_true]
    refine jr (own := []) (h := ?_)
    refine jret Tryz.func53 (h := ⟨⟨_, rfl, .none⟩, rfl⟩)
  | code o a _ hc =>
    refine calls_of_J cl_53 Tryz.func53 rfl (by simp [Tryz.ntmps53]) ?_
    refine jr (own := []) (h := ?_)
    refine J_cond (t := false) (by simp only [go_sem, ↓reduceIte] <;> with_reducible rfl) ?_
    simp only [Bool.false_eq_true, if_false]
    refine jr (own := []) (h := ?_)
    refine jret Tryz.func53 (h := ⟨⟨_, rfl, .under _ _ _ _ hc (.code _ _ _ hc)⟩, rfl⟩)
  | under o a u _ hc hu =>
    refine calls_of_J cl_53 Tryz.func53 rfl (by simp [Tryz.ntmps53]) ?_
    refine jr (own := []) (h := ?_)
    refine J_cond (t := false) (by simp only [go_sem, ↓reduceIte] <;> with_reducible rfl) ?_
    simp only [Bool.false_eq_true, if_false]
    refine jr (own := []) (h := ?_)
    refine jret Tryz.func53 (h := ⟨⟨_, rfl, .under _ _ _ _ hc (.under _ _ _ _ hc hu)⟩, rfl⟩)

/-- What errors.errorType reads as. -/
def GL : HP := HP.glob 0 (.iface 284 (.agg #[.pointer (some ⟨1, 30, none⟩)]))

theorem as_ok (b : Nat) (old : AV) (cells : List AV) : ACalls Tryz.prog 69 [.ifc 145 (.fp cells), .ifc 147 (.c (.pointer (some ⟨b, 0, none⟩)))] [GL, .box b 145 [old]]
    (fun r Δ => r = .ret (.c (.bool true)) ∧ Δ = [.box b 145 [.fp cells]]) := by
  refine ⟨cl_69, fun g B us sm hr => ?_⟩
  simp only [relL, rel] at hr
  obtain ⟨u1, _, rfl, ⟨v1, rfl, be, oe, rfl, hbe, hce⟩, u2, _, rfl, ⟨v2, rfl, rfl⟩, rfl⟩ := hr
  have hg := glob_spec sm.sep (List.mem_cons_self ..)
  have hbx : getBox [GL, .box b 145 [old]] b = some (145, [old]) := by simp [getBox, GL, HP.glob]
  obtain ⟨hB, cs, h1, h2⟩ := getBox_spec sm.sep hbx
  have hl : cs.length = 1 := by simpa using relL_length h2
  obtain ⟨c, rfl⟩ : ∃ c, cs = [c] := by
    cases cs with
    | nil => simp at hl
    | cons c cs => cases cs with
      | nil => exact ⟨c, rfl⟩
      | cons _ _ => simp at hl
  have hc : g.w.cell? ⟨b, 0, none⟩ = some c := by simp [World.cell?, h1]
  have hf : g.w.frozen? ⟨b, 0, none⟩ = false := by simp [World.frozen?, h1]
  refine (as_hit ⟨be, oe, none⟩ ⟨b, 0, none⟩ c g.w hg.2 hc hf).mono ?_
  rintro e w' ⟨rfl, rfl⟩
  have hx : rel g (.fp cells) (.pointer (some ⟨be, oe, none⟩)) := by simp only [rel]; exact ⟨be, oe, rfl, hbe, hce⟩
  obtain ⟨g', k1, k2, k3⟩ := four_set sm hbx (.cells #[.pointer (some ⟨b, 0, none⟩)] 147) (.cells #[.pointer (some ⟨1, 147, none⟩), .pointer (some ⟨g.w.heap.size, 0, none⟩), .int .u64 150] 224)
    (.cells #[.pointer (some ⟨1, 147, none⟩), .pointer (some ⟨g.w.heap.size, 0, none⟩), .int .u64 150] 224) (.cells #[.pointer (some ⟨be, oe, none⟩)] 145) hx
  refine ⟨g', B, .ret (.c (.bool true)), [.box b 145 [.fp cells]], k1, k2, ?_, by simp [endRel, rel], rfl, rfl⟩
  have hs := k3.sep
  simp only [setBox, GL, HP.glob, if_true] at hs
  obtain ⟨B1, q1, q2, q3⟩ := hs
  exact ⟨k3.fzlt, k3.blt, k3.disj, sep_mono q3 (fun _ h => h.1) (fun _ h => h) (fun _ _ => rfl)⟩

/-- The code of a fault. -/
theorem of_ok {e : AV} {c : Int} (he : IsErr e c) : ACalls Tryz.prog 17 [e] [GL] (Ret (.c (.int .i64 c))) := by
  refine calls_of_J cl_17 Tryz.func17 rfl (by simp [Tryz.ntmps17]) ?_
  refine jr (own := []) (h := ?_)
  refine J_loop ?_
  refine jk [0] (h := ?_)
  induction he with
  | none =>
    refine jr (own := []) (h := ?_)
    refine jn (h := ?_)
    refine jr (own := []) (h := ?_)
    refine J_dropall ?_
    refine jret Tryz.func17 (h := ⟨rfl, rfl⟩)
  | code op at_ c hc =>
    refine jr (own := []) (h := ?_)
    refine jt (h := ?_)
    refine jr (own := [3]) (h := ?_)
    refine jnv (hh := fun b hb => ?_)
    refine jr (own := []) (h := ?_)
    refine J_calls_glob (by simp only [go_sem, ↓reduceIte, Int.reduceLT, Int.reduceLE, Int.reduceToNat, Int.reducePow, Int.reduceNeg, Nat.reduceBEq, Tryz.ntmps17] <;> with_reducible rfl) (by simp [GL]) (as_ok b _ _) (Δ1 := [_]) (Fr := [GL]) (List.Perm.refl _) ?_ (by rintro x Δ' ⟨e1, _⟩; cases e1)
    rintro x Δ' ⟨e1, rfl⟩
    cases e1
    simp only [List.cons_append, List.nil_append]
    refine jr (own := []) (h := ?_)
    refine jn (h := ?_)
    refine jr (own := []) (h := ?_)
    refine jif (h1 := fun hh => ?_) (h2 := fun hh => ?_)
    · refine jr (own := []) (h := ?_)
      refine J_dropall ?_
      refine jret Tryz.func17 (h := ⟨rfl, rfl⟩)
    · exact absurd hc hh
  | under op at_ u c hc hu ih =>
    refine jr (own := []) (h := ?_)
    refine jt (h := ?_)
    refine jr (own := [3]) (h := ?_)
    refine jnv (hh := fun b hb => ?_)
    refine jr (own := []) (h := ?_)
    refine J_calls_glob (by simp only [go_sem, ↓reduceIte, Int.reduceLT, Int.reduceLE, Int.reduceToNat, Int.reducePow, Int.reduceNeg, Nat.reduceBEq, Tryz.ntmps17] <;> with_reducible rfl) (by simp [GL]) (as_ok b _ _) (Δ1 := [_]) (Fr := [GL]) (List.Perm.refl _) ?_ (by rintro x Δ' ⟨e1, _⟩; cases e1)
    rintro x Δ' ⟨e1, rfl⟩
    cases e1
    simp only [List.cons_append, List.nil_append]
    refine jr (own := []) (h := ?_)
    refine jn (h := ?_)
    refine jr (own := []) (h := ?_)
    refine jif (h1 := fun hh => ?_) (h2 := fun hh => ?_)
    · exact absurd rfl hh
    · refine jr (own := []) (h := ?_)
      refine J_inLoop (J_drop ?_)
      refine jk [0] (h := ?_)
      exact ih
end Go.Proofs.YtlmahffjidgplaaGreatDoor
end

section
namespace Go.Proofs.YtlmahffjidgplaaGreatDoor
open Go Go.Av
set_option linter.unusedVariables false
set_option linter.unusedSimpArgs false
set_option maxRecDepth 100000
set_option maxHeartbeats 4000000
attribute [local go_sem] packed List.set_cons_zero List.set_cons_succ List.cons_append List.nil_append

/-! ### Sums -/
def colStep (n : UInt32) : UInt32 := if n &&& 1 = 1 then (n >>> 1) ^^^ 0xedb88320 else n >>> 1
def colN : Nat → UInt32 → UInt32
  | 0, n => n
  | k + 1, n => colStep (colN k n)
def column (c : UInt8) : UInt32 := colN 8 c.toUInt32
theorem col_one : (1 : Int) = ((1 : UInt32).toNat : Int) := rfl
theorem col_poly : (3988292384 : Int) = ((0xedb88320 : UInt32).toNat : Int) := rfl

theorem column_ok (c : UInt8) : ACalls Tryz.prog 245 [.c (.int .u8 c.toNat)] [] (Ret (.c (.int .u32 (column c).toNat))) := by
  refine calls_of_J cl_245 Tryz.func245 rfl (by simp [Tryz.ntmps245]) ?_
  refine jr (own := []) (h := ?_)
  refine jk [3, 6] (h := ?_)
  refine J_loopI (I := fun m e D => ∃ i : Nat, i ≤ 8 ∧ m = 8 - i ∧ D = [] ∧ e = [(3, .c (.int .u32 (colN i c.toUInt32).toNat)), (6, .c (.int .i64 i))]) ?_ ?_
  · exact ⟨_, 0, by omega, rfl, rfl, rfl⟩
  · rintro m e D ⟨i, hi, rfl, rfl, rfl⟩ ih
    refine jr (own := []) (h := ?_)
    refine jif (h1 := fun hc => ?_) (h2 := fun hc => ?_)
    · have ha := and32 (colN i c.toUInt32) 1
      have hx := xor32 (colN i c.toUInt32 >>> 1) 0xedb88320
      rw [← col_one] at ha
      rw [← col_poly] at hx
      refine jf (own := []) ha (h := ?_)
      refine jif (h1 := fun hd => ?_) (h2 := fun hd => ?_)
      · refine jf (own := []) hx (h := ?_)
        refine jk [3, 6] (h := ?_)
        refine ih _ _ _ ?_ ⟨i + 1, by omega, rfl, rfl, ?_⟩
        · omega
        · have h1 : colN i c.toUInt32 &&& 1 = 1 := by
            apply UInt32.toNat_inj.1
            exact_mod_cast hd
          simp only [colN, colStep, h1, if_true, Int.natCast_add, Int.cast_ofNat_Int]
      · refine jr (own := []) (h := ?_)
        refine jk [3, 6] (h := ?_)
        refine ih _ _ _ ?_ ⟨i + 1, by omega, rfl, rfl, ?_⟩
        · omega
        · have h1 : ¬ colN i c.toUInt32 &&& 1 = 1 := fun h => hd (by rw [h]; rfl)
          simp only [colN, colStep, h1, if_false, Int.natCast_add, Int.cast_ofNat_Int]
    · have hi' : i = 8 := by omega
      subst hi'
      refine jr (own := []) (h := ?_)
      refine jret Tryz.func245 (h := ⟨rfl, rfl⟩)
end Go.Proofs.YtlmahffjidgplaaGreatDoor
end

section
namespace Go.Proofs.YtlmahffjidgplaaGreatDoor
open Go Go.Av
set_option linter.unusedVariables false
set_option linter.unusedSimpArgs false
set_option maxRecDepth 100000
set_option maxHeartbeats 4000000
attribute [local go_sem] packed List.set_cons_zero List.set_cons_succ List.cons_append List.nil_append bytesRows_length

theorem mixed : Tryz.prog.follows .mixedOrders = true := by kernel_rfl
def crcStep (n : UInt32) (c : UInt8) : UInt32 := (n >>> 8) ^^^ column (n.toUInt8 ^^^ c)
def crc (b : List UInt8) : UInt32 := ~~~ (b.foldl crcStep (~~~ 0))

theorem more_ok (b : List UInt8) (hb : b.length < 2 ^ 40) : ACalls Tryz.prog 231 [.c (.int .u32 0), .sl 1 (bytesRows b)] [] (Ret (.c (.int .u32 (crc b).toNat))) := by
  have hn := not32' 0
  rw [show (((0 : UInt32).toNat : Nat) : Int) = 0 from rfl] at hn
  refine calls_of_J cl_231 Tryz.func231 rfl (by simp [Tryz.ntmps231]) ?_
  refine jf (own := []) hn (h := ?_)
  refine jk [5, 10, 11, 12] (h := ?_)
  refine J_loopI (I := fun m e D => ∃ i : Nat, i ≤ b.length ∧ m = b.length - i ∧ D = [] ∧ e = [(5, .c (.int .u32 ((b.take i).foldl crcStep (~~~ 0)).toNat)), (10, .sl 1 (bytesRows b)), (11, .c (.int .i64 b.length)), (12, .c (.int .i64 i))]) ?_ ?_
  · exact ⟨_, 0, Nat.zero_le _, rfl, rfl, rfl⟩
  · rintro m e D ⟨i, hi, rfl, rfl, rfl⟩ ih
    refine jr (own := []) (h := ?_)
    refine jif (h1 := fun hc => ?_) (h2 := fun hc => ?_)
    · have hlt : i < b.length := by omega
      have g0 := List.getElem?_eq_getElem hlt
      have g1 := bytes_get g0
      have h0 : (0 : Int) ≤ (i : Int) := by omega
      refine J_mrun (own := []) (m := 2000) (by simp (maxSteps := 2000000) (disch := omega) only [go_sem, ↓reduceIte, Int.reduceLT, Int.reduceLE, Int.reduceToNat, Int.reducePow, Int.reduceNeg, Nat.reduceBEq, Tryz.ntmps231, g1] <;> with_reducible rfl) ?_
      refine jc (hs := column_ok _) (hk := ?_)
      refine jr (own := []) (h := ?_)
      refine jk [5, 10, 11, 12] (h := ?_)
      refine ih _ _ _ ?_ ⟨i + 1, hlt, rfl, rfl, ?_⟩
      · omega
      · simp only [List.take_add_one, g0, Option.toList_some, List.foldl_append, List.foldl_cons, List.foldl_nil, crcStep, Int.natCast_add, Int.cast_ofNat_Int]
    · have hi' : i = b.length := by omega
      subst hi'
      rw [List.take_length]
      refine jr (own := []) (h := ?_)
      refine jret Tryz.func231 (h := ⟨rfl, rfl⟩)

theorem sum_ok (b : List UInt8) (hb : b.length < 2 ^ 40) : ACalls Tryz.prog 216 [.sl 1 (bytesRows b)] [] (Ret (.c (.int .u32 (crc b).toNat))) := by
  refine calls_of_J cl_216 Tryz.func216 rfl (by simp [Tryz.ntmps216]) ?_
  refine jr (own := []) (h := ?_)
  refine jc (hs := more_ok b hb) (hk := ?_)
  refine jr (own := []) (h := ?_)
  refine jret Tryz.func216 (h := ⟨rfl, rfl⟩)

def four (n : UInt32) : List UInt8 := [n.toUInt8, (n >>> 8).toUInt8, (n >>> 16).toUInt8, (n >>> 24).toUInt8]
theorem four_ok (n : UInt32) : ACalls Tryz.prog 215 [.c (.int .u32 n.toNat)] [] (Ret (.agg [.c (.int .u8 n.toUInt8.toNat), .c (.int .u8 (n >>> 8).toUInt8.toNat), .c (.int .u8 (n >>> 16).toUInt8.toNat), .c (.int .u8 (n >>> 24).toUInt8.toNat)])) := by
  refine calls_of_J cl_215 Tryz.func215 rfl (by simp [Tryz.ntmps215]) ?_
  refine jr (own := [2]) (h := ?_)
  refine jnv (hh := fun b hb => ?_)
  refine jr (own := []) (h := ?_)
  refine J_forget ?_
  refine jret Tryz.func215 (h := ⟨rfl, rfl⟩)

def sealB (b : List UInt8) : List UInt8 := b ++ four (crc b)
theorem seal_ok (b : List UInt8) (hb : b.length < 2 ^ 37) : ACalls Tryz.prog 212 [.sl 1 (bytesRows b)] [] (Ret (.sl 1 (bytesRows (sealB b)))) := by
  refine calls_of_J cl_212 Tryz.func212 rfl (by simp [Tryz.ntmps212]) ?_
  refine jr (own := []) (h := ?_)
  refine jc (hs := sum_ok b (by omega)) (hk := ?_)
  refine jr (own := []) (h := ?_)
  refine jc (hs := four_ok _) (hk := ?_)
  refine jr (own := [3]) (h := ?_)
  refine jnv (hh := fun b3 hb3 => ?_)
  refine jr (own := []) (h := ?_)
  refine J_freeze (s := 3) (o := 0) (by simp only [go_sem]) ?_
  refine jd [(0, .pure), (1, .pure), (3, .pure), (2, .act), (4, .act), (5, .pure)] mixed (by kernel_rfl) ?_
  refine cr (own := [9, 11]) (hk := ?_)
  refine cbi (hb := append0_bi (by simp only [go_sem, ↓reduceIte, Int.reduceLT, Int.reduceLE, Int.reduceToNat, Int.reducePow, Int.reduceNeg, Nat.reduceBEq] <;> with_reducible rfl) (by simp only [go_sem, srcOf] <;> rfl) bytes_cell (by omega)) (hk := ?_)
  rintro _ _ ⟨v, D', rfl, rfl, how⟩
  refine cr (own := [11]) (hk := ?_)
  refine Can_bi (by simp only [go_sem, ↓reduceIte, Int.reduceLT, Int.reduceLE, Int.reduceToNat, Int.reducePow, Int.reduceNeg, Nat.reduceBEq, Tryz.ntmps212] <;> with_reducible rfl) (append_bi (by simp only [go_sem, ↓reduceIte, Int.reduceLT, Int.reduceLE, Int.reduceToNat, Int.reducePow, Int.reduceNeg, Nat.reduceBEq] <;> with_reducible rfl) how (Fr := []) (by simp) (by simp only [go_sem, srcOf] <;> rfl) (by rfl) (by show b.length + 4 ≤ 2 ^ 38; omega)) ?_
  rintro _ D2 ⟨v2, _, rfl, rfl, how2⟩
  have how3 : OwnB 5 (sealB b) v2 D2 := ownB_app (b := four (crc b)) how2
  refine cr (own := []) (hk := ?_)
  refine Can_nil ?_
  refine J_freezeB (Fr := []) how3 (by unfold maxRows sealB four; simp only [List.length_append, List.length_cons, List.length_nil]; omega) ?_
  refine J_is (t := 2) (by simp only [go_sem]) (List.mem_cons_self ..) (J_drop ?_)
  refine jret Tryz.func212 (h := ⟨rfl, rfl⟩)

/-! ### Numbers as eight bytes -/
def word8 (n : Nat) : List UInt8 := [UInt8.ofNat (n / 2 ^ 56), UInt8.ofNat (n / 2 ^ 48), UInt8.ofNat (n / 2 ^ 40), UInt8.ofNat (n / 2 ^ 32), UInt8.ofNat (n / 2 ^ 24), UInt8.ofNat (n / 2 ^ 16), UInt8.ofNat (n / 2 ^ 8), UInt8.ofNat n]
theorem wrap8_nat (n : Nat) : IntKind.u8.wrap (n : Int) = ((UInt8.ofNat n).toNat : Int) := by rw [u8_wrap, UInt8.toNat_ofNat']; omega
theorem word8_take (n i : Nat) (h : i < 8) : (word8 n).take (i + 1) = (word8 n).take i ++ [UInt8.ofNat (n / 2 ^ (56 - 8 * i))] := by
  rcases (by omega : i = 0 ∨ i = 1 ∨ i = 2 ∨ i = 3 ∨ i = 4 ∨ i = 5 ∨ i = 6 ∨ i = 7) with rfl | rfl | rfl | rfl | rfl | rfl | rfl | rfl <;> simp [word8]

theorem wordO_ok (b : List UInt8) (n : Nat) (hb : b.length < 2 ^ 37) (hn : n < 2 ^ 64) : ACalls Tryz.prog 111 [.sl 1 (bytesRows b), .c (.int .u64 n)] [] (fun r D => ∃ v, r = .ret (.c v) ∧ OwnB 5 (b ++ word8 n) v D) := by
  refine calls_of_J cl_111 Tryz.func111 rfl (by simp [Tryz.ntmps111]) ?_
  refine jr (own := [9]) (h := ?_)
  refine jbi (hb := append0_bi (by simp only [go_sem, ↓reduceIte, Int.reduceLT, Int.reduceLE, Int.reduceToNat, Int.reducePow, Int.reduceNeg, Nat.reduceBEq] <;> with_reducible rfl) (by simp only [go_sem, srcOf] <;> rfl) bytes_cell (by omega)) (hk := ?_)
  rintro _ D ⟨v, _, rfl, rfl, how⟩
  refine jr (own := []) (h := ?_)
  refine jk [1, 5, 6] (h := ?_)
  refine J_loopI (I := fun m e D => ∃ (i : Nat) (v : Value), i ≤ 8 ∧ m = 8 - i ∧ OwnB 5 (b ++ (word8 n).take i) v D ∧ e = [(1, .c (.int .u64 n)), (5, .c v), (6, .c (.int .i64 (56 - 8 * i)))]) ?_ ?_
  · exact ⟨_, 0, v, by omega, rfl, by simpa using how, rfl⟩
  · rintro m e D ⟨i, v, hi, rfl, how, rfl⟩ ih
    refine jr (own := []) (h := ?_)
    refine jif (h1 := fun hc => ?_) (h2 := fun hc => ?_)
    · have h0 : (0 : Int) ≤ (n : Int) := by omega
      have hi8 : i < 8 := by omega
      have hsh : (56 - 8 * (i : Int)).toNat = 56 - 8 * i := by omega
      have hdiv : ((n : Int) / 2 ^ (56 - 8 * i)) = ((n / 2 ^ (56 - 8 * i) : Nat) : Int) := by simp
      refine J_mrun (own := [20]) (m := 2000) (by simp (maxSteps := 2000000) (disch := omega) only [go_sem, ↓reduceIte, Int.reduceLT, Int.reduceLE, Int.reduceToNat, Int.reducePow, Int.reduceNeg, Nat.reduceBEq, Tryz.ntmps111, hsh, hdiv, wrap8_nat] <;> with_reducible rfl) ?_
      refine jap (Fr := []) (how := how) (hp := (by simp)) (hsrc := (by simp only [go_sem, srcOf] <;> rfl)) (hc := (by rfl)) (hmax := (by rw [List.length_append, List.length_take]; have : (word8 n).length = 8 := rfl; omega)) (hk := ?_)
      rintro _ D2 ⟨v2, _, rfl, rfl, how2⟩
      have how3 : OwnB 5 (b ++ (word8 n).take (i + 1)) v2 D2 := by
        rw [word8_take n i hi8, ← List.append_assoc]
        exact ownB_app (b := [UInt8.ofNat (n / 2 ^ (56 - 8 * i))]) how2
      refine jr (own := []) (h := ?_)
      refine jk [1, 5, 6] (h := ?_)
      refine ih _ _ _ ?_ ⟨i + 1, v2, by omega, rfl, how3, ?_⟩
      · omega
      · have : (56 : Int) - 8 * (i : Int) - 8 = 56 - 8 * ((i + 1 : Nat) : Int) := by omega
        rw [this]
    · have hi8 : i = 8 := by omega
      subst hi8
      have how3 : OwnB 5 (b ++ word8 n) v D := how
      refine jr (own := []) (h := ?_)
      refine jret Tryz.func111 (h := ⟨v, rfl, how3⟩)
theorem word_ok (b : List UInt8) (n : Nat) (hb : b.length < 2 ^ 37) (hn : n < 2 ^ 64) : ACalls Tryz.prog 111 [.sl 1 (bytesRows b), .c (.int .u64 n)] [] (Ret (.sl 1 (bytesRows (b ++ word8 n)))) :=
  (wordO_ok b n hb hn).freezeB (by unfold maxRows word8; simp only [List.length_append, List.length_cons, List.length_nil]; omega)
end Go.Proofs.YtlmahffjidgplaaGreatDoor
end

section
namespace Go.Proofs.YtlmahffjidgplaaGreatDoor
open Go Go.Av
set_option linter.unusedVariables false
set_option linter.unusedSimpArgs false
set_option maxRecDepth 100000
set_option maxHeartbeats 4000000
attribute [local go_sem] packed List.set_cons_zero List.set_cons_succ List.cons_append List.nil_append bytesRows_length

/-! ### Numbers read from eight bytes -/
def beStep (n : UInt64) (c : UInt8) : UInt64 := n <<< 8 ||| c.toUInt64
def be8 (l : List UInt8) : UInt64 := l.foldl beStep 0
abbrev rdr (a : Nat) (l : List UInt8) (at_ code : Int) : HP := .box a 215 [.sl 1 (bytesRows l), .c (.int .i64 at_), .c (.int .i64 code)]

theorem read_ok (b : List UInt8) (hb : b.length < 2 ^ 37) : ACalls Tryz.prog 59 [.sl 1 (bytesRows b)] [] (fun r Δ => ∃ a, r = .ret (.c (.pointer (some ⟨a, 0, none⟩))) ∧ Δ = [rdr a b 0 0]) := by
  refine calls_of_J cl_59 Tryz.func59 rfl (by simp [Tryz.ntmps59]) ?_
  refine jr (own := [5, 7]) (h := ?_)
  refine jbi (hb := append0_bi (by simp only [go_sem, ↓reduceIte, Int.reduceLT, Int.reduceLE, Int.reduceToNat, Int.reducePow, Int.reduceNeg, Nat.reduceBEq] <;> with_reducible rfl) (by simp only [go_sem, srcOf] <;> rfl) bytes_cell (by omega)) (hk := ?_)
  rintro _ D ⟨v, _, rfl, rfl, how⟩
  refine J_freezeB (Fr := []) (b := b) how (by unfold maxRows; omega) ?_
  refine J_is (t := 5) (by simp only [go_sem]) (List.mem_cons_self ..) (J_drop ?_)
  refine jr (own := [7]) (h := ?_)
  refine jnb (hh := fun a ha => ?_)
  refine jr (own := []) (h := ?_)
  refine jret Tryz.func59 (h := ⟨a, rfl, rfl⟩)

theorem left_ok (a : Nat) (b : List UInt8) (at_ c : Int) (h : 0 ≤ at_ ∧ at_ ≤ b.length) (hb : b.length < 2 ^ 37) : ACalls Tryz.prog 115 [.c (.pointer (some ⟨a, 0, none⟩))] [rdr a b at_ c] (fun r Δ => r = .ret (.c (.int .i64 (b.length - at_))) ∧ Δ = [rdr a b at_ c]) := by
  refine calls_of_J cl_115 Tryz.func115 rfl (by simp [Tryz.ntmps115]) ?_
  refine jr (own := []) (h := ?_)
  refine jd [(0, .pure), (1, .pure), (2, .pure), (3, .read), (4, .pure), (5, .pure), (6, .pure), (7, .pure), (8, .read), (9, .pure), (10, .pure)] mixed (by kernel_rfl) ?_
  refine cr (own := []) (hk := ?_)
  refine Can_nil ?_
  refine jret Tryz.func115 (h := ⟨rfl, rfl⟩)

theorem be8_take (l : List UInt8) (i : Nat) (h : i < l.length) : be8 (l.take (i + 1)) = be8 (l.take i) <<< 8 ||| l[i].toUInt64 := by
  simp only [be8, List.take_add_one, List.getElem?_eq_getElem h, Option.toList_some, List.foldl_append, List.foldl_cons, List.foldl_nil, beStep]

theorem rword_ok (a : Nat) (b : List UInt8) (at_ : Nat) (h : at_ + 8 ≤ b.length) (hb : b.length < 2 ^ 37) :
    ACalls Tryz.prog 114 [.c (.pointer (some ⟨a, 0, none⟩))] [rdr a b at_ 0] (fun r Δ => r = .ret (.c (.int .u64 (be8 ((b.drop at_).take 8)).toNat)) ∧ Δ = [rdr a b (at_ + 8) 0]) := by
  refine calls_of_J cl_114 Tryz.func114 rfl (by simp [Tryz.ntmps114]) ?_
  refine jr (own := []) (h := ?_)
  refine jcr (hs := left_ok a b at_ 0 ⟨by omega, by omega⟩ hb) (hk := ?_)
  refine jr (own := []) (h := ?_)
  refine jif (h1 := fun hc => absurd hc (by first | omega | simp)) (h2 := fun _ => ?_)
  refine jr (own := []) (h := ?_)
  refine jif (h1 := fun hc => absurd hc (by first | omega | simp)) (h2 := fun _ => ?_)
  refine jr (own := []) (h := ?_)
  refine jd [(0, .pure), (1, .pure), (2, .pure), (3, .read), (4, .pure), (5, .pure), (6, .pure), (7, .read), (8, .pure), (9, .pure), (10, .pure), (11, .read), (12, .pure), (13, .pure), (14, .pure), (15, .pure)] mixed (by kernel_rfl) ?_
  refine cr (own := []) (hk := ?_)
  refine Can_nil ?_
  rw [show List.drop at_ (List.take ((at_ : Int) + 8).toNat b) = (b.drop at_).take 8 from be_slice b at_ 8 (by omega)]
  have hl : ((b.drop at_).take 8).length = 8 := by rw [List.length_take, List.length_drop]; omega
  generalize hw : (b.drop at_).take 8 = w at hl ⊢
  refine jf (own := []) hl (h := ?_)
  refine jk [0, 3, 36, 37, 38] (h := ?_)
  refine J_loopI (I := fun m e D => ∃ i : Nat, i ≤ 8 ∧ m = 8 - i ∧ D = [rdr a b at_ 0] ∧ e = [(0, .c (.pointer (some ⟨a, 0, none⟩))), (3, .c (.int .u64 (be8 (w.take i)).toNat)), (36, .sl 1 (bytesRows w)), (37, .c (.int .i64 8)), (38, .c (.int .i64 i))]) ?_ ?_
  · exact ⟨_, 0, by omega, rfl, rfl, by simp [hl, be8]⟩
  · rintro m e D ⟨i, hi, rfl, rfl, rfl⟩ ih
    refine jr (own := []) (h := ?_)
    refine jif (h1 := fun hc => ?_) (h2 := fun hc => ?_)
    · have hlt : i < w.length := by omega
      have g0 := List.getElem?_eq_getElem hlt
      have g1 := bytes_get g0
      have h0 : (0 : Int) ≤ (i : Int) := by omega
      refine J_mrun (own := []) (m := 2000) (by simp (maxSteps := 2000000) (disch := omega) only [go_sem, ↓reduceIte, Int.reduceLT, Int.reduceLE, Int.reduceToNat, Int.reducePow, Int.reduceNeg, Nat.reduceBEq, Tryz.ntmps114, g1] <;> with_reducible rfl) ?_
      refine jk [0, 3, 36, 37, 38] (h := ?_)
      refine ih _ _ _ ?_ ⟨i + 1, by omega, rfl, rfl, ?_⟩
      · omega
      · rw [be8_take w i hlt]; rfl
    · have hi' : i = 8 := by omega
      subst hi'
      rw [List.take_of_length_le (by omega)]
      refine jr (own := []) (h := ?_)
      refine jret Tryz.func114 (h := ⟨rfl, rfl⟩)
end Go.Proofs.YtlmahffjidgplaaGreatDoor
end

section
namespace Go.Proofs.YtlmahffjidgplaaGreatDoor
open Go Go.Av
set_option linter.unusedVariables false
set_option linter.unusedSimpArgs false
set_option maxRecDepth 100000
set_option maxHeartbeats 4000000
attribute [local go_sem] packed List.set_cons_zero List.set_cons_succ List.cons_append List.nil_append bytesRows_length

theorem lword_ok (b : List UInt8) (h : 8 ≤ b.length) (hb : b.length < 2 ^ 37) : ACalls Tryz.prog 140 [.sl 1 (bytesRows b)] [] (Ret (.c (.int .u64 (be8 (b.take 8)).toNat))) := by
  have hl : (b.take 8).length = 8 := by rw [List.length_take]; omega
  refine calls_of_J cl_140 Tryz.func140 rfl (by simp [Tryz.ntmps140]) ?_
  refine jr (own := []) (h := ?_)
  refine jcs (Δ1 := []) (Fr := []) (hs := (read_ok (b.take 8) (by omega))) (hp := (List.Perm.refl _)) (hk := ?_) (hpan := (by rintro x Δ' ⟨a, e, _⟩; cases e))
  rintro x Δ' ⟨a, e, rfl⟩
  cases e
  refine jr (own := []) (h := ?_)
  refine jcs (Δ1 := [_]) (Fr := []) (hs := (rword_ok a (b.take 8) 0 (by omega) (by omega))) (hp := (List.Perm.refl _)) (hk := ?_) (hpan := (by rintro x Δ' ⟨e, _⟩; cases e))
  rintro x Δ' ⟨e, rfl⟩
  cases e
  refine jr (own := []) (h := ?_)
  refine J_forget ?_
  refine jret Tryz.func140 (h := ⟨by rw [List.take_take]; rfl, rfl⟩)

def fitN (n : UInt64) : Nat := if n.toNat > 1099511627776 then 0 else n.toNat
theorem fit_ok (n : UInt64) : ACalls Tryz.prog 139 [.c (.int .u64 n.toNat)] [] (Ret (.c (.int .i64 (fitN n)))) := by
  refine calls_of_J cl_139 Tryz.func139 rfl (by simp [Tryz.ntmps139]) ?_
  refine jr (own := []) (h := ?_)
  refine jif (h1 := fun hc => ?_) (h2 := fun hc => ?_)
  · refine jr (own := []) (h := ?_)
    refine jret Tryz.func139 (h := ⟨by unfold fitN; rw [if_pos (by omega)]; rfl, rfl⟩)
  · refine jr (own := []) (h := ?_)
    refine jret Tryz.func139 (h := ⟨by unfold fitN; rw [if_neg (by omega)], rfl⟩)

def stampsB (b : List UInt8) : Nat × Nat := if b.length = 256 then (fitN (be8 (b.take 8)), fitN (be8 (b.drop 248))) else (0, 0)
theorem stamps_ok (b : List UInt8) (hb : b.length < 2 ^ 37) : ACalls Tryz.prog 86 [.sl 1 (bytesRows b)] [] (Ret (.tup [.c (.int .i64 (stampsB b).1), .c (.int .i64 (stampsB b).2)])) := by
  refine calls_of_J cl_86 Tryz.func86 rfl (by simp [Tryz.ntmps86]) ?_
  refine jr (own := []) (h := ?_)
  refine jif (h1 := fun hc => ?_) (h2 := fun hc => ?_)
  · refine jr (own := []) (h := ?_)
    refine jret Tryz.func86 (h := ⟨by unfold stampsB; rw [if_neg (by omega)]; rfl, rfl⟩)
  · have hl : b.length = 256 := by omega
    refine jr (own := []) (h := ?_)
    refine jd [(0, .pure), (1, .pure), (2, .pure), (3, .pure), (4, .pure), (5, .pure), (6, .pure), (7, .pure), (8, .pure), (9, .pure), (10, .pure)] mixed (by kernel_rfl) ?_
    refine cr (own := []) (hk := ?_)
    refine ccp (hs := lword_ok b (by omega) hb) (hk := ?_)
    refine cr (own := []) (hk := ?_)
    refine ccp (hs := fit_ok _) (hk := ?_)
    refine Can_run (own := []) (by simp (maxSteps := 2000000) (disch := omega) only [go_sem, ↓reduceIte, Int.reduceLT, Int.reduceLE, Int.reduceToNat, Int.reducePow, Int.reduceNeg, Nat.reduceBEq, Tryz.ntmps86, hl, List.take_of_length_le (Nat.le_of_eq hl)] <;> with_reducible rfl) ?_
    refine Can_callp (by simp only [go_sem, ↓reduceIte, Int.reduceLT, Int.reduceLE, Int.reduceToNat, Int.reducePow, Int.reduceNeg, Nat.reduceBEq, Tryz.ntmps86, hl, List.take_of_length_le (Nat.le_of_eq hl)] <;> with_reducible rfl) (lword_ok (b.drop 248) (by rw [List.length_drop]; omega) (by rw [List.length_drop]; omega)) ?_
    refine cr (own := []) (hk := ?_)
    refine ccp (hs := fit_ok _) (hk := ?_)
    refine cr (own := []) (hk := ?_)
    refine Can_nil ?_
    refine jret Tryz.func86 (h := ⟨by unfold stampsB; rw [if_pos hl, List.take_of_length_le (l := b.drop 248) (by rw [List.length_drop]; omega)], rfl⟩)

theorem newS_ok (s : ByteArray) (at_ c : Int) : ACalls Tryz.prog 51 [.c (.string s), .c (.int .i64 at_), .c (.int .i64 c)] [] (Ret (errNew s.data.toList at_ c)) := by
  have := new_ok s.data.toList at_ c
  have e : mkStr s.data.toList = s := by simp [mkStr]
  rwa [e] at this
theorem wrapS_ok (s : ByteArray) (at_ : Int) {e : AV} {c : Int} (he : IsErr e c) : ACalls Tryz.prog 53 [.c (.string s), .c (.int .i64 at_), e] [] (fun r Δ => (∃ e', r = .ret e' ∧ IsErr e' c) ∧ Δ = []) := by
  have := wrap_ok s.data.toList at_ he
  have e : mkStr s.data.toList = s := by simp [mkStr]
  rwa [e] at this

/-! ### A leaf -/
def checkC (st kd : Int) (n : Nat) : Int := if st < 1 ∨ st > 1099511627776 then 2 else if kd < 1 ∨ kd > 5 then 12 else if n > 233 then 3 else 0
def leafAV (st kd : Int) (x : AV) : AV := .agg [.c (.int .i64 st), .c (.int .i64 kd), x]
attribute [local go_sem] leafAV

theorem check_ok (st kd : Int) (b : List UInt8) (hb : b.length < 2 ^ 37) : ACalls Tryz.prog 182 [leafAV st kd (.sl 1 (bytesRows b))] [] (fun r Δ => (∃ e, r = .ret e ∧ IsErr e (checkC st kd b.length) ∧ (checkC st kd b.length = 0 → e = .c .nilIface)) ∧ Δ = []) := by
  unfold leafAV
  by_cases h1 : st < 1
  · have d1 := decide_eq_true h1
    refine calls_of_J cl_182 Tryz.func182 rfl (by simp [Tryz.ntmps182]) ?_
    refine J_mrun (own := []) (m := 2000) (by simp (maxSteps := 2000000) (disch := omega) only [go_sem, ↓reduceIte, Int.reduceLT, Int.reduceLE, Int.reduceToNat, Int.reducePow, Int.reduceNeg, Nat.reduceBEq, Tryz.ntmps182, d1] <;> with_reducible rfl) ?_
    refine jt (h := ?_)
    refine jr (own := []) (h := ?_)
    refine jc (hs := newS_ok _ _ _) (hk := ?_)
    refine jr (own := []) (h := ?_)
    refine jret Tryz.func182 (h := ⟨⟨_, rfl, by unfold checkC; rw [if_pos (by omega)]; exact errNew_is _ _ _, by unfold checkC; rw [if_pos (by omega)]; intro h; exact absurd h (by decide)⟩, rfl⟩)
  have d1 := decide_eq_false h1
  by_cases h2 : st > 1099511627776
  · have d2 := decide_eq_true h2
    refine calls_of_J cl_182 Tryz.func182 rfl (by simp [Tryz.ntmps182]) ?_
    refine J_mrun (own := []) (m := 2000) (by simp (maxSteps := 2000000) (disch := omega) only [go_sem, ↓reduceIte, Int.reduceLT, Int.reduceLE, Int.reduceToNat, Int.reducePow, Int.reduceNeg, Nat.reduceBEq, Tryz.ntmps182, d1, d2] <;> with_reducible rfl) ?_
    refine jt (h := ?_)
    refine jr (own := []) (h := ?_)
    refine jc (hs := newS_ok _ _ _) (hk := ?_)
    refine jr (own := []) (h := ?_)
    refine jret Tryz.func182 (h := ⟨⟨_, rfl, by unfold checkC; rw [if_pos (by omega)]; exact errNew_is _ _ _, by unfold checkC; rw [if_pos (by omega)]; intro h; exact absurd h (by decide)⟩, rfl⟩)
  have d2 := decide_eq_false h2
  by_cases h3 : kd < 1
  · have d3 := decide_eq_true h3
    refine calls_of_J cl_182 Tryz.func182 rfl (by simp [Tryz.ntmps182]) ?_
    refine J_mrun (own := []) (m := 2000) (by simp (maxSteps := 2000000) (disch := omega) only [go_sem, ↓reduceIte, Int.reduceLT, Int.reduceLE, Int.reduceToNat, Int.reducePow, Int.reduceNeg, Nat.reduceBEq, Tryz.ntmps182, d1, d2] <;> with_reducible rfl) ?_
    refine jn (h := ?_)
    refine J_mrun (own := []) (m := 2000) (by simp (maxSteps := 2000000) (disch := omega) only [go_sem, ↓reduceIte, Int.reduceLT, Int.reduceLE, Int.reduceToNat, Int.reducePow, Int.reduceNeg, Nat.reduceBEq, Tryz.ntmps182, d3] <;> with_reducible rfl) ?_
    refine jt (h := ?_)
    refine jr (own := []) (h := ?_)
    refine jc (hs := newS_ok _ _ _) (hk := ?_)
    refine jr (own := []) (h := ?_)
    refine jret Tryz.func182 (h := ⟨⟨_, rfl, by unfold checkC; rw [if_neg (by omega), if_pos (by omega)]; exact errNew_is _ _ _, by unfold checkC; rw [if_neg (by omega), if_pos (by omega)]; intro h; exact absurd h (by decide)⟩, rfl⟩)
  have d3 := decide_eq_false h3
  by_cases h4 : kd > 5
  · have d4 := decide_eq_true h4
    refine calls_of_J cl_182 Tryz.func182 rfl (by simp [Tryz.ntmps182]) ?_
    refine J_mrun (own := []) (m := 2000) (by simp (maxSteps := 2000000) (disch := omega) only [go_sem, ↓reduceIte, Int.reduceLT, Int.reduceLE, Int.reduceToNat, Int.reducePow, Int.reduceNeg, Nat.reduceBEq, Tryz.ntmps182, d1, d2] <;> with_reducible rfl) ?_
    refine jn (h := ?_)
    refine J_mrun (own := []) (m := 2000) (by simp (maxSteps := 2000000) (disch := omega) only [go_sem, ↓reduceIte, Int.reduceLT, Int.reduceLE, Int.reduceToNat, Int.reducePow, Int.reduceNeg, Nat.reduceBEq, Tryz.ntmps182, d3, d4] <;> with_reducible rfl) ?_
    refine jt (h := ?_)
    refine jr (own := []) (h := ?_)
    refine jc (hs := newS_ok _ _ _) (hk := ?_)
    refine jr (own := []) (h := ?_)
    refine jret Tryz.func182 (h := ⟨⟨_, rfl, by unfold checkC; rw [if_neg (by omega), if_pos (by omega)]; exact errNew_is _ _ _, by unfold checkC; rw [if_neg (by omega), if_pos (by omega)]; intro h; exact absurd h (by decide)⟩, rfl⟩)
  have d4 := decide_eq_false h4
  refine calls_of_J cl_182 Tryz.func182 rfl (by simp [Tryz.ntmps182]) ?_
  refine J_mrun (own := []) (m := 2000) (by simp (maxSteps := 2000000) (disch := omega) only [go_sem, ↓reduceIte, Int.reduceLT, Int.reduceLE, Int.reduceToNat, Int.reducePow, Int.reduceNeg, Nat.reduceBEq, Tryz.ntmps182, d1, d2] <;> with_reducible rfl) ?_
  refine jn (h := ?_)
  refine J_mrun (own := []) (m := 2000) (by simp (maxSteps := 2000000) (disch := omega) only [go_sem, ↓reduceIte, Int.reduceLT, Int.reduceLE, Int.reduceToNat, Int.reducePow, Int.reduceNeg, Nat.reduceBEq, Tryz.ntmps182, d3, d4] <;> with_reducible rfl) ?_
  refine jn (h := ?_)
  refine jr (own := []) (h := ?_)
  refine jif (h1 := fun h5 => ?_) (h2 := fun h5 => ?_)
  · refine jr (own := []) (h := ?_)
    refine jc (hs := newS_ok _ _ _) (hk := ?_)
    refine jr (own := []) (h := ?_)
    refine jret Tryz.func182 (h := ⟨⟨_, rfl, by unfold checkC; rw [if_neg (by omega), if_neg (by omega), if_pos (by omega)]; exact errNew_is _ _ _, by unfold checkC; rw [if_neg (by omega), if_neg (by omega), if_pos (by omega)]; intro h; exact absurd h (by decide)⟩, rfl⟩)
  · refine jr (own := []) (h := ?_)
    refine jret Tryz.func182 (h := ⟨⟨_, rfl, by unfold checkC; rw [if_neg (by omega), if_neg (by omega), if_neg (by omega)]; exact .none, fun _ => rfl⟩, rfl⟩)
end Go.Proofs.YtlmahffjidgplaaGreatDoor
end

section
namespace Go.Proofs.YtlmahffjidgplaaGreatDoor
open Go Go.Av
set_option linter.unusedVariables false
set_option linter.unusedSimpArgs false
set_option maxRecDepth 100000
set_option maxHeartbeats 4000000
attribute [local go_sem] packed List.set_cons_zero List.set_cons_succ List.cons_append List.nil_append bytesRows_length

/-! ### A copy of bytes -/
def nilS : Value := .slice none 0 0
theorem ownB_nil {e : TypeId} (a : Option Addr) : OwnB e [] (.slice a 0 0) [] := .nil a rfl rfl
theorem cloneN_ok : ACalls Tryz.prog 133 [.c (.slice none 0 0)] [] (Ret (.c (.slice none 0 0))) := by
  refine calls_of_J cl_133 Tryz.func133 rfl (by simp [Tryz.ntmps133]) ?_
  refine jr (own := []) (h := ?_)
  refine jt (h := ?_)
  refine jr (own := []) (h := ?_)
  refine jret Tryz.func133 (h := ⟨rfl, rfl⟩)
theorem clone_ok (b : List UInt8) (h0 : b ≠ []) (hb : b.length < 2 ^ 37) : ACalls Tryz.prog 133 [.sl 1 (bytesRows b)] [] (fun r Δ => ∃ v D, r = .ret (.c v) ∧ Δ = D ∧ OwnB 5 b v D) := by
  obtain ⟨x, b', rfl⟩ := List.exists_cons_of_ne_nil h0
  refine calls_of_J cl_133 Tryz.func133 rfl (by simp [Tryz.ntmps133]) ?_
  refine J_mrun (own := []) (m := 2000) (by simp (maxSteps := 2000000) (disch := omega) only [go_sem, ↓reduceIte, Int.reduceLT, Int.reduceLE, Int.reduceToNat, Int.reducePow, Int.reduceNeg, Nat.reduceBEq, Tryz.ntmps133, bytesRows] <;> with_reducible rfl) ?_
  refine jn (h := ?_)
  refine jr (own := [7]) (h := ?_)
  refine jbi (hb := append0_bi (n := (x :: b').length) (by simp only [go_sem, ↓reduceIte, Int.reduceLT, Int.reduceLE, Int.reduceToNat, Int.reducePow, Int.reduceNeg, Nat.reduceBEq] <;> with_reducible rfl) (by simp only [go_sem, srcOf] <;> rfl) (bytes_cell (b := x :: b')) (by omega)) (hk := ?_)
  rintro _ D ⟨v, _, rfl, rfl, how⟩
  refine jr (own := []) (h := ?_)
  refine jret Tryz.func133 (h := ⟨v, D, rfl, rfl, how⟩)

/-! ### Whether all is nought -/
def blankB (b : List UInt8) : Bool := b.all (· == 0)
theorem nz_ok (c : UInt8) : ACalls Tryz.prog 188 [.c (.int .u8 c.toNat)] [] (Ret (.c (.bool (decide (¬ c = 0))))) := by
  refine calls_of_J cl_188 Tryz.func188 rfl (by simp [Tryz.ntmps188]) ?_
  refine jr (own := []) (h := ?_)
  refine jret Tryz.func188 (h := ⟨by congr 3; simp [← UInt8.toNat_inj], rfl⟩)
theorem index_ok (b : List UInt8) (hb : b.length < 2 ^ 37) : ACalls Tryz.prog 218 [.sl 1 (bytesRows b), .fn (.func 188) [] []] [] (fun r Δ => (∃ n : Int, r = .ret (.c (.int .i64 n)) ∧ ((n ≥ 0) ↔ blankB b = false)) ∧ Δ = []) := by
  refine calls_of_J cl_218 Tryz.func218 rfl (by simp [Tryz.ntmps218]) ?_
  refine jr (own := []) (h := ?_)
  refine jk [0, 1, 7, 8] (h := ?_)
  refine J_loopI (I := fun m e D => ∃ i : Nat, i ≤ b.length ∧ m = b.length - i ∧ D = [] ∧ blankB (b.take i) = true ∧ e = [(0, .sl 1 (bytesRows b)), (1, .fn (.func 188) [] []), (7, .c (.int .i64 b.length)), (8, .c (.int .i64 i))]) ?_ ?_
  · exact ⟨_, 0, by omega, rfl, rfl, rfl, rfl⟩
  · rintro m e D ⟨i, hi, rfl, rfl, hz, rfl⟩ ih
    refine jr (own := []) (h := ?_)
    refine jif (h1 := fun hc => ?_) (h2 := fun hc => ?_)
    · have hlt : i < b.length := by omega
      have g0 := List.getElem?_eq_getElem hlt
      have g1 := bytes_get g0
      have h0 : (0 : Int) ≤ (i : Int) := by omega
      refine J_mrun (own := []) (m := 2000) (by simp (maxSteps := 2000000) (disch := omega) only [go_sem, ↓reduceIte, Int.reduceLT, Int.reduceLE, Int.reduceToNat, Int.reducePow, Int.reduceNeg, Nat.reduceBEq, Tryz.ntmps218, g1] <;> with_reducible rfl) ?_
      refine jc (hs := nz_ok _) (hk := ?_)
      refine jr (own := []) (h := ?_)
      refine jif (h1 := fun hd => ?_) (h2 := fun hd => ?_)
      · refine jr (own := []) (h := ?_)
        refine J_retX Tryz.func218 (by simp only [go_sem, ↓reduceIte, Int.reduceLT, Int.reduceLE, Int.reduceToNat, Int.reducePow, Int.reduceNeg, Nat.reduceBEq, Tryz.f218] <;> first | with_reducible rfl | rfl) ⟨⟨_, rfl, by
          have : blankB b = false := by
            simp only [blankB, List.all_eq_false]
            exact ⟨b[i], List.getElem_mem hlt, by simpa using hd⟩
          simp only [this, iff_true]; omega⟩, rfl⟩
      · refine jr (own := []) (h := ?_)
        refine jk [0, 1, 7, 8] (h := ?_)
        refine ih _ _ _ ?_ ⟨i + 1, by omega, rfl, rfl, ?_, rfl⟩
        · omega
        · simp only [blankB] at hz ⊢
          rw [List.take_add_one, g0, List.all_append, hz]
          simpa using hd
    · have hi' : i = b.length := by omega
      subst hi'
      rw [List.take_length] at hz
      refine jr (own := []) (h := ?_)
      refine jret Tryz.func218 (h := ⟨⟨_, rfl, by simp only [hz, reduceCtorEq, iff_false]; decide⟩, rfl⟩)
theorem contains_ok (b : List UInt8) (hb : b.length < 2 ^ 37) : ACalls Tryz.prog 187 [.sl 1 (bytesRows b), .fn (.func 188) [] []] [] (Ret (.c (.bool (!blankB b)))) := by
  refine calls_of_J cl_187 Tryz.func187 rfl (by simp [Tryz.ntmps187]) ?_
  refine jr (own := []) (h := ?_)
  refine jcs (Δ1 := []) (Fr := []) (hs := (index_ok b hb)) (hp := (List.Perm.refl _)) (hk := ?_) (hpan := (by rintro x Δ' ⟨⟨n, e, _⟩, _⟩; cases e))
  rintro x Δ' ⟨⟨n, e, hn⟩, rfl⟩
  cases e
  refine jr (own := []) (h := ?_)
  refine jret Tryz.func187 (h := ⟨by congr 3; cases hb : blankB b <;> simp_all, rfl⟩)
theorem blank_ok (b : List UInt8) (hb : b.length < 2 ^ 37) : ACalls Tryz.prog 134 [.sl 1 (bytesRows b)] [] (Ret (.c (.bool (blankB b)))) := by
  refine calls_of_J cl_134 Tryz.func134 rfl (by simp [Tryz.ntmps134]) ?_
  refine jr (own := []) (h := ?_)
  refine jc (hs := contains_ok b hb) (hk := ?_)
  refine jr (own := []) (h := ?_)
  refine jret Tryz.func134 (h := ⟨by simp, rfl⟩)

/-! ### Sums that fit -/
def fitsB (b : List UInt8) : Bool := if b.length < 4 then false else decide (four (crc (b.take (b.length - 4))) = b.drop (b.length - 4))
theorem fits_ok (b : List UInt8) (h4 : 4 ≤ b.length) (hb : b.length < 2 ^ 37) : ACalls Tryz.prog 181 [.sl 1 (bytesRows b)] [] (Ret (.c (.bool (fitsB b)))) := by
  have hk : ((b.length : Int) - 4).toNat = b.length - 4 := by omega
  have hl : (b.drop (b.length - 4)).length = 4 := by rw [List.length_drop]; omega
  have hf : fitsB b = decide (four (crc (b.take (b.length - 4))) = b.drop (b.length - 4)) := by unfold fitsB; rw [if_neg (by omega)]
  obtain ⟨b0, b1, b2, b3, hbs⟩ : ∃ b0 b1 b2 b3, b.drop (b.length - 4) = [b0, b1, b2, b3] := by
    match b.drop (b.length - 4), hl with
    | [b0, b1, b2, b3], _ => exact ⟨_, _, _, _, rfl⟩
  refine calls_of_J cl_181 Tryz.func181 rfl (by simp [Tryz.ntmps181]) ?_
  refine jr (own := []) (h := ?_)
  refine jif (h1 := fun hc => absurd hc (by first | omega | simp)) (h2 := fun _ => ?_)
  refine jr (own := []) (h := ?_)
  refine jd [(0, .pure), (1, .pure), (2, .pure), (3, .pure), (4, .pure), (5, .pure), (6, .pure), (7, .pure), (8, .act), (9, .pure), (10, .act), (11, .pure)] mixed (by kernel_rfl) ?_
  refine cf (own := []) hk (hk := ?_)
  refine ccp (hs := sum_ok (b.take (b.length - 4)) (by rw [List.length_take]; omega)) (hk := ?_)
  refine cr (own := []) (hk := ?_)
  refine ccp (hs := four_ok _) (hk := ?_)
  refine Can_run (own := []) (by simp (maxSteps := 2000000) (disch := omega) only [go_sem, ↓reduceIte, Int.reduceLT, Int.reduceLE, Int.reduceToNat, Int.reducePow, Int.reduceNeg, Nat.reduceBEq, Tryz.ntmps181, hk, List.take_of_length_le (Nat.le_refl b.length), hbs] <;> with_reducible rfl) ?_
  refine Can_op rfl (by simp only [go_sem, ↓reduceIte, Int.reduceLT, Int.reduceLE, Int.reduceToNat, Int.reducePow, Int.reduceNeg, Nat.reduceBEq, Tryz.ntmps181]) (fun e' ha => arr_op (m := 4) (e := 5) rfl (by kernel_rfl) (agree_eval rfl ha (by simp [Op.operands]) (by simp only [go_sem, ↓reduceIte, Int.reduceLT, Int.reduceLE, Int.reduceToNat, Int.reducePow, Int.reduceNeg, Nat.reduceBEq] <;> rfl)) (by simp) (by simp)) ?_
  rintro _ _ ⟨rfl, rfl⟩
  refine cr (own := []) (hk := ?_)
  refine Can_op rfl (by simp only [go_sem, ↓reduceIte, Int.reduceLT, Int.reduceLE, Int.reduceToNat, Int.reducePow, Int.reduceNeg, Nat.reduceBEq, Tryz.ntmps181]) (fun e' ha => eqArr_op (e := 5) rfl (by kernel_rfl) (by kernel_rfl) (by kernel_rfl) (by kernel_rfl) (agree_eval rfl ha (by simp [Op.operands]) (by simp only [go_sem, ↓reduceIte, Int.reduceLT, Int.reduceLE, Int.reduceToNat, Int.reducePow, Int.reduceNeg, Nat.reduceBEq] <;> rfl)) (agree_eval rfl ha (by simp [Op.operands]) (by simp only [go_sem, ↓reduceIte, Int.reduceLT, Int.reduceLE, Int.reduceToNat, Int.reducePow, Int.reduceNeg, Nat.reduceBEq] <;> rfl))) ?_
  rintro _ _ ⟨rfl, rfl⟩
  refine cr (own := []) (hk := ?_)
  refine Can_nil ?_
  refine jret Tryz.func181 (h := ⟨by rw [hf, hbs]; simp [packed, four], rfl⟩)
end Go.Proofs.YtlmahffjidgplaaGreatDoor
end

section
namespace Go.Proofs.YtlmahffjidgplaaGreatDoor
open Go Go.Av
set_option linter.unusedVariables false
set_option linter.unusedSimpArgs false
set_option maxRecDepth 100000
set_option maxHeartbeats 4000000
attribute [local go_sem] packed List.set_cons_zero List.set_cons_succ List.cons_append List.nil_append bytesRows_length leafAV

def headB (st kd : Nat) (b : List UInt8) : List UInt8 := word8 st ++ [UInt8.ofNat kd, UInt8.ofNat (b.length / 256), UInt8.ofNat b.length] ++ b
def bodyB (st kd : Nat) (b : List UInt8) : List UInt8 := headB st kd b ++ List.replicate (244 - (headB st kd b).length) 0
def putB (st kd : Nat) (b : List UInt8) : List UInt8 := sealB (bodyB st kd b) ++ word8 st
theorem headB_len (st kd : Nat) (b : List UInt8) : (headB st kd b).length = 11 + b.length := by unfold headB word8; simp only [List.length_append, List.length_cons, List.length_nil]
theorem bodyB_len (st kd : Nat) (b : List UInt8) (h : b.length ≤ 233) : (bodyB st kd b).length = 244 := by
  unfold bodyB; rw [List.length_append, List.length_replicate, headB_len]; omega
theorem sealB_len (b : List UInt8) : (sealB b).length = b.length + 4 := by unfold sealB four; simp
theorem putB_len (st kd : Nat) (b : List UInt8) (h : b.length ≤ 233) : (putB st kd b).length = 256 := by
  unfold putB word8; rw [List.length_append, sealB_len, bodyB_len _ _ _ h]; rfl

theorem iserr_ne {e : AV} {c : Int} (he : IsErr e c) (hc : c ≠ 0) : ∃ t x, e = .ifc t x := by
  cases he with
  | none => exact absurd rfl hc
  | code => exact ⟨_, _, rfl⟩
  | under => exact ⟨_, _, rfl⟩

theorem put_err (st kd : Int) (b : List UInt8) (hb : b.length < 2 ^ 37) (hc : checkC st kd b.length ≠ 0) :
    ACalls Tryz.prog 174 [leafAV st kd (.sl 1 (bytesRows b))] [] (fun r Δ => (∃ e, r = .ret (.tup [.c (.slice none 0 0), e]) ∧ IsErr e (checkC st kd b.length)) ∧ Δ = []) := by
  refine calls_of_J cl_174 Tryz.func174 rfl (by simp [Tryz.ntmps174]) ?_
  refine jr (own := []) (h := ?_)
  refine jcs (Δ1 := []) (Fr := []) (hs := (check_ok st kd b hb)) (hp := (List.Perm.refl _)) (hk := ?_) (hpan := (by rintro x Δ' ⟨⟨e, h, _⟩, _⟩; cases h))
  rintro x Δ' ⟨⟨e, h, he, _⟩, rfl⟩
  cases h
  obtain ⟨t, y, rfl⟩ := iserr_ne he hc
  refine jr (own := []) (h := ?_)
  refine jt (h := ?_)
  refine jr (own := []) (h := ?_)
  refine jret Tryz.func174 (h := ⟨⟨_, rfl, he⟩, rfl⟩)

theorem put_ok (st kd : Nat) (b : List UInt8) (h1 : 1 ≤ st) (h2 : st ≤ 1099511627776) (h3 : 1 ≤ kd) (h4 : kd ≤ 5) (h5 : b.length ≤ 233) :
    ACalls Tryz.prog 174 [leafAV st kd (.sl 1 (bytesRows b))] [] (Ret (.tup [.sl 1 (bytesRows (putB st kd b)), .c .nilIface])) := by
  have hc : checkC st kd b.length = 0 := by unfold checkC; rw [if_neg (by omega), if_neg (by omega), if_neg (by omega)]
  refine calls_of_J cl_174 Tryz.func174 rfl (by simp [Tryz.ntmps174]) ?_
  refine jr (own := []) (h := ?_)
  refine jcs (Δ1 := []) (Fr := []) (hs := (check_ok st kd b (by omega))) (hp := (List.Perm.refl _)) (hk := ?_) (hpan := (by rintro x Δ' ⟨⟨e, h, _⟩, _⟩; cases h))
  rintro x Δ' ⟨⟨e, h, he, hz⟩, rfl⟩
  cases h
  obtain rfl := hz hc
  refine jr (own := []) (h := ?_)
  refine jn (h := ?_)
  have hw : IntKind.u64.wrap (st : Int) = st := by rw [u64_wrap]; omega
  refine jf (own := []) hw (h := ?_)
  refine jcs (Δ1 := []) (Fr := []) (hs := ((wordO_ok [] st (by simp) (by omega)).nilArg (pre := []))) (hp := (List.Perm.refl _)) (hk := ?_) (hpan := (by rintro x Δ' ⟨v, h, _⟩; cases h))
  rintro x D ⟨v, h, how⟩
  cases h
  have e1 : IntKind.u8.wrap ((b.length : Int) / 256) = ((UInt8.ofNat (b.length / 256)).toNat : Int) := by rw [← wrap8_nat]; rfl
  refine J_mrun (own := [29]) (m := 2000) (by simp (maxSteps := 2000000) (disch := omega) only [go_sem, ↓reduceIte, Int.reduceLT, Int.reduceLE, Int.reduceToNat, Int.reducePow, Int.reduceNeg, Nat.reduceBEq, Tryz.ntmps174, wrap8_nat, e1] <;> with_reducible rfl) ?_
  refine jap (Fr := []) (how := how) (hp := (by simp)) (hsrc := (by simp only [go_sem, srcOf] <;> rfl)) (hc := (by rfl)) (hmax := (by simp [word8])) (hk := ?_)
  rintro _ D2 ⟨v2, _, rfl, rfl, how2⟩
  have how3 : OwnB 5 (word8 st ++ [UInt8.ofNat kd, UInt8.ofNat (b.length / 256), UInt8.ofNat b.length]) v2 D2 := ownB_app (a := word8 st) (b := [UInt8.ofNat kd, UInt8.ofNat (b.length / 256), UInt8.ofNat b.length]) how2
  refine jr (own := [33]) (h := ?_)
  refine jap (Fr := []) (how := how3) (hp := (by simp)) (hsrc := (by simp only [go_sem, srcOf] <;> rfl)) (hc := bytes_cell) (hmax := (by simp [word8]; omega)) (hk := ?_)
  rintro _ D3 ⟨v3, _, rfl, rfl, how4⟩
  have how5 : OwnB 5 (headB st kd b) v3 D3 := ownB_app (b := b) how4
  obtain ⟨a3, c3, rfl⟩ := how5.slice
  have hlen := headB_len st kd b
  have e2 : (244 : Int) - ((11 + b.length : Nat) : Int) = ((233 - b.length : Nat) : Int) := by omega
  refine J_mrun (own := [38]) (m := 2000) (by simp (maxSteps := 2000000) (disch := omega) only [go_sem, ↓reduceIte, Int.reduceLT, Int.reduceLE, Int.reduceToNat, Int.reducePow, Int.reduceNeg, Nat.reduceBEq, Tryz.ntmps174, hlen, e2] <;> with_reducible rfl) ?_
  rw [hlen] at how5
  refine jbi (hb := appendZ_bi (zs := [.int .u8 0]) (Fr := []) (by simp only [go_sem, ↓reduceIte, Int.reduceLT, Int.reduceLE, Int.reduceToNat, Int.reducePow, Int.reduceNeg, Nat.reduceBEq] <;> with_reducible rfl) (by simp only [go_sem, ↓reduceIte, Int.reduceLT, Int.reduceLE, Int.reduceToNat, Int.reducePow, Int.reduceNeg, Nat.reduceBEq] <;> with_reducible rfl) (by rfl) how5 (by simp) (by omega)) (hk := ?_)
  rintro _ D4 ⟨v4, _, rfl, rfl, how6⟩
  have how7 : OwnB 5 (bodyB st kd b) v4 D4 := by
    rw [zeros8] at how6
    have : bodyB st kd b = headB st kd b ++ List.replicate (233 - b.length) 0 := by unfold bodyB; rw [headB_len]; congr 2; omega
    rw [this]
    refine ownB_app ?_
    rw [List.length_replicate]; exact how6
  refine jr (own := []) (h := ?_)
  have hl7 := bodyB_len st kd b h5
  refine J_freezeB (Fr := []) how7 (by unfold maxRows; omega) ?_
  refine J_is (t := 5) (by simp only [go_sem]) (List.mem_cons_self ..) (J_drop ?_)
  refine jd [(0, .pure), (1, .pure), (2, .pure), (3, .read), (4, .pure), (5, .pure), (6, .pure), (7, .pure)] mixed (by kernel_rfl) ?_
  refine cf (own := []) hw (hk := ?_)
  refine ccp (hs := seal_ok (bodyB st kd b) (by omega)) (hk := ?_)
  refine cf (own := []) hw (hk := ?_)
  refine ccp (hs := word_ok (sealB (bodyB st kd b)) st (by rw [sealB_len]; omega) (by omega)) (hk := ?_)
  refine cr (own := []) (hk := ?_)
  refine Can_nil ?_
  refine jret Tryz.func174 (h := ⟨rfl, rfl⟩)
end Go.Proofs.YtlmahffjidgplaaGreatDoor
end

section
namespace Go.Proofs.YtlmahffjidgplaaGreatDoor
open Go Go.Av
set_option linter.unusedVariables false
set_option linter.unusedSimpArgs false
set_option maxRecDepth 100000
set_option maxHeartbeats 4000000
attribute [local go_sem] packed List.set_cons_zero List.set_cons_succ List.cons_append List.nil_append bytesRows_length leafAV

def nB (b : List UInt8) : Nat := (b.getD 9 0).toNat * 256 + (b.getD 10 0).toNat
def kdB (b : List UInt8) : Nat := (b.getD 8 0).toNat
def txtB (b : List UInt8) : List UInt8 := (b.drop 11).take (nB b)
def restB (b : List UInt8) : List UInt8 := (b.drop (11 + nB b)).take (233 - nB b)
def getC (b : List UInt8) : Int :=
  if b.length ≠ 256 then 6
  else if be8 (b.take 8) ≠ be8 (b.drop 248) then 8
  else if (stampsB b).1 = 0 ∨ (stampsB b).2 = 0 then 9
  else if fitsB (b.take 248) = false then 7
  else if nB b > 233 then 5
  else if checkC (stampsB b).1 (kdB b) (nB b) ≠ 0 then checkC (stampsB b).1 (kdB b) (nB b)
  else if blankB (restB b) = false then 5 else 0

theorem or_bytes (x y : UInt8) : aint .or .i64 ((x.toNat : Int) * 256) (y.toNat : Int) = some (.c (.int .i64 (((x.toNat * 256 + y.toNat : Nat)) : Int))) := by
  show some (AV.c (.int .i64 (IntKind.i64.wrap ((BitVec.ofInt IntKind.i64.bits ((x.toNat : Int) * 256) ||| BitVec.ofInt IntKind.i64.bits (y.toNat : Int)).toNat : Int)))) = _
  have hx := x.toNat_lt
  have hy := y.toNat_lt
  have e1 : BitVec.ofInt IntKind.i64.bits ((x.toNat : Int) * 256) = BitVec.ofNat 64 (x.toNat * 256) := by
    rw [show ((x.toNat : Int) * 256) = ((x.toNat * 256 : Nat) : Int) from by omega]; exact BitVec.ofInt_natCast _ _
  have e2 : BitVec.ofInt IntKind.i64.bits (y.toNat : Int) = BitVec.ofNat 64 y.toNat := BitVec.ofInt_natCast _ _
  rw [e1, e2]
  have e3 : (BitVec.ofNat 64 (x.toNat * 256) ||| BitVec.ofNat 64 y.toNat).toNat = x.toNat * 256 + y.toNat := by
    rw [BitVec.toNat_or, BitVec.toNat_ofNat, BitVec.toNat_ofNat, Nat.mod_eq_of_lt (by omega), Nat.mod_eq_of_lt (by omega)]
    have := Nat.shiftLeft_add_eq_or_of_lt (i := 8) (b := y.toNat) (by omega) x.toNat
    rw [Nat.shiftLeft_eq] at this
    exact this.symm
  have e4 := (congrArg (fun n : Nat => IntKind.i64.wrap (n : Int)) e3).trans (show _ = ((x.toNat * 256 + y.toNat : Nat) : Int) by rw [IntKind.wrap_i64]; omega)
  exact congrArg some (congrArg AV.c (congrArg (Value.int .i64) e4))

theorem getD_get {b : List UInt8} {i : Nat} (h : i < b.length) : b[i]? = some (b.getD i 0) := by
  rw [List.getD_eq_getElem?_getD, List.getElem?_eq_getElem h]; rfl

theorem get_ok (b : List UInt8) (hb : b.length < 2 ^ 37) : ACalls Tryz.prog 129 [.sl 1 (bytesRows b)] [] (fun r Δ => (getC b = 0 → r = .ret (.tup [leafAV (stampsB b).1 (kdB b) (.sl 1 (bytesRows (txtB b))), .c .nilIface])) ∧
    (getC b ≠ 0 → ∃ e, r = .ret (.tup [leafAV 0 0 (.c (.slice none 0 0)), e]) ∧ IsErr e (getC b)) ∧ Δ = []) := by
  unfold leafAV
  refine calls_of_J cl_129 Tryz.func129 rfl (by simp [Tryz.ntmps129]) ?_
  refine jr (own := [2]) (h := ?_)
  refine jnv (hh := fun b2 hb2 => ?_)
  refine jr (own := []) (h := ?_)
  refine jif (h1 := fun hc => ?_) (h2 := fun hc => ?_)
  · have hg : getC b = 6 := by unfold getC; rw [if_pos (by omega)]
    refine jr (own := []) (h := ?_)
    refine jc (hs := newS_ok _ _ _) (hk := ?_)
    refine jr (own := []) (h := ?_)
    refine J_forget ?_
    refine jret Tryz.func129 (h := ⟨fun h => absurd (hg.symm.trans h) (by decide), fun _ => ⟨_, rfl, by rw [hg]; exact errNew_is _ _ _⟩, rfl⟩)
  have hl : b.length = 256 := by omega
  have hlr : (bytesRows b).length = 256 := by rw [bytesRows_length, hl]
  have g8 := bytes_get (getD_get (b := b) (i := 8) (by omega))
  have g9 := bytes_get (getD_get (b := b) (i := 9) (by omega))
  have g10 := bytes_get (getD_get (b := b) (i := 10) (by omega))
  refine jr (own := []) (h := ?_)
  refine jc (hs := stamps_ok b hb) (hk := ?_)
  refine jr (own := []) (h := ?_)
  refine jd [(0, .pure), (1, .pure), (2, .pure), (3, .pure), (4, .pure), (5, .pure), (6, .pure), (7, .pure), (8, .pure), (9, .pure), (10, .pure)] mixed (by kernel_rfl) ?_
  refine Can_run (own := []) (by simp (maxSteps := 2000000) (disch := omega) only [go_sem, ↓reduceIte, Int.reduceLT, Int.reduceLE, Int.reduceToNat, Int.reducePow, Int.reduceNeg, Nat.reduceBEq, Tryz.ntmps129, g9, g10, hl, or_bytes] <;> with_reducible rfl) ?_
  refine Can_nil ?_
  have e0 : ((256 : Int) - 8) = 248 := by decide
  have hd : (b.drop 248).length = 8 := by rw [List.length_drop]; omega
  have hn : (b.getD 9 0).toNat * 256 + (b.getD 10 0).toNat = nB b := rfl
  rw [hn]
  refine jr (own := []) (h := ?_)
  refine jd [(0, .pure), (1, .pure), (2, .pure), (3, .pure), (4, .pure), (5, .pure), (6, .pure)] mixed (by kernel_rfl) ?_
  refine cr (own := []) (hk := ?_)
  refine ccp (hs := lword_ok b (by omega) hb) (hk := ?_)
  refine Can_run (own := []) (by simp (maxSteps := 2000000) (disch := omega) only [go_sem, ↓reduceIte, Int.reduceLT, Int.reduceLE, Int.reduceToNat, Int.reducePow, Int.reduceNeg, Nat.reduceBEq, Tryz.ntmps129, hl, List.take_of_length_le (Nat.le_of_eq hl)] <;> with_reducible rfl) ?_
  refine Can_callp (by simp only [go_sem, ↓reduceIte, Int.reduceLT, Int.reduceLE, Int.reduceToNat, Int.reducePow, Int.reduceNeg, Nat.reduceBEq, Tryz.ntmps129, hl, List.take_of_length_le (Nat.le_of_eq hl)] <;> with_reducible rfl) (lword_ok (b.drop 248) (by omega) (by omega)) ?_
  refine cr (own := []) (hk := ?_)
  refine Can_nil ?_
  rw [List.take_of_length_le (l := b.drop 248) (by omega)]
  have hu : (((be8 (b.take 8)).toNat : Int) ≠ ((be8 (b.drop 248)).toNat : Int)) ↔ be8 (b.take 8) ≠ be8 (b.drop 248) := by
    rw [ne_eq, ne_eq, ← UInt64.toNat_inj]; omega
  refine jif (h1 := fun h8 => ?_) (h2 := fun h8 => ?_)
  · have hg : getC b = 8 := by unfold getC; rw [if_neg (by omega), if_pos (hu.1 h8)]
    refine jr (own := []) (h := ?_)
    refine jc (hs := newS_ok _ _ _) (hk := ?_)
    refine jr (own := []) (h := ?_)
    refine J_forget ?_
    refine jret Tryz.func129 (h := ⟨fun h => absurd (hg.symm.trans h) (by decide), fun _ => ⟨_, rfl, by rw [hg]; exact errNew_is _ _ _⟩, rfl⟩)
  have h8' : ¬ be8 (b.take 8) ≠ be8 (b.drop 248) := fun h => h8 (hu.2 h)
  by_cases hs1 : (((stampsB b).1 : Int) = 0)
  · have d1 := decide_eq_true hs1
    have hg : getC b = 9 := by unfold getC; rw [if_neg (by omega), if_neg h8', if_pos (by omega)]
    refine J_mrun (own := []) (m := 2000) (by simp (maxSteps := 2000000) (disch := omega) only [go_sem, ↓reduceIte, Int.reduceLT, Int.reduceLE, Int.reduceToNat, Int.reducePow, Int.reduceNeg, Nat.reduceBEq, Tryz.ntmps129, d1] <;> with_reducible rfl) ?_
    refine jt (h := ?_)
    refine jr (own := []) (h := ?_)
    refine jc (hs := newS_ok _ _ _) (hk := ?_)
    refine jr (own := []) (h := ?_)
    refine J_forget ?_
    refine jret Tryz.func129 (h := ⟨fun h => absurd (hg.symm.trans h) (by decide), fun _ => ⟨_, rfl, by rw [hg]; exact errNew_is _ _ _⟩, rfl⟩)
  have d1 := decide_eq_false hs1
  by_cases hs2 : (((stampsB b).2 : Int) = 0)
  · have d2 := decide_eq_true hs2
    have hg : getC b = 9 := by unfold getC; rw [if_neg (by omega), if_neg h8', if_pos (by omega)]
    refine J_mrun (own := []) (m := 2000) (by simp (maxSteps := 2000000) (disch := omega) only [go_sem, ↓reduceIte, Int.reduceLT, Int.reduceLE, Int.reduceToNat, Int.reducePow, Int.reduceNeg, Nat.reduceBEq, Tryz.ntmps129, d1, d2] <;> with_reducible rfl) ?_
    refine jt (h := ?_)
    refine jr (own := []) (h := ?_)
    refine jc (hs := newS_ok _ _ _) (hk := ?_)
    refine jr (own := []) (h := ?_)
    refine J_forget ?_
    refine jret Tryz.func129 (h := ⟨fun h => absurd (hg.symm.trans h) (by decide), fun _ => ⟨_, rfl, by rw [hg]; exact errNew_is _ _ _⟩, rfl⟩)
  have d2 := decide_eq_false hs2
  refine J_mrun (own := []) (m := 2000) (by simp (maxSteps := 2000000) (disch := omega) only [go_sem, ↓reduceIte, Int.reduceLT, Int.reduceLE, Int.reduceToNat, Int.reducePow, Int.reduceNeg, Nat.reduceBEq, Tryz.ntmps129, d1, d2] <;> with_reducible rfl) ?_
  refine jn (h := ?_)
  refine jr (own := []) (h := ?_)
  refine jc (hs := fits_ok (b.take 248) (by rw [List.length_take]; omega) (by rw [List.length_take]; omega)) (hk := ?_)
  refine jr (own := []) (h := ?_)
  cases hf : fitsB (b.take 248) with
  | false =>
    have hg : getC b = 7 := by unfold getC; rw [if_neg (by omega), if_neg h8', if_neg (by omega), if_pos hf]
    refine jt (h := ?_)
    refine jr (own := []) (h := ?_)
    refine jc (hs := newS_ok _ _ _) (hk := ?_)
    refine jr (own := []) (h := ?_)
    refine J_forget ?_
    refine jret Tryz.func129 (h := ⟨fun h => absurd (hg.symm.trans h) (by decide), fun _ => ⟨_, rfl, by rw [hg]; exact errNew_is _ _ _⟩, rfl⟩)
  | true =>
  refine jn (h := ?_)
  refine jr (own := []) (h := ?_)
  refine jif (h1 := fun h5 => ?_) (h2 := fun h5 => ?_)
  · have hg : getC b = 5 := by unfold getC; rw [if_neg (by omega), if_neg h8', if_neg (by omega), if_neg (by simp [hf]), if_pos (by omega)]
    refine jr (own := []) (h := ?_)
    refine jc (hs := newS_ok _ _ _) (hk := ?_)
    refine jr (own := []) (h := ?_)
    refine J_forget ?_
    refine jret Tryz.func129 (h := ⟨fun h => absurd (hg.symm.trans h) (by decide), fun _ => ⟨_, rfl, by rw [hg]; exact errNew_is _ _ _⟩, rfl⟩)
  have hn5 : nB b ≤ 233 := by omega
  refine jr (own := []) (h := ?_)
  refine jd [(0, .pure), (1, .pure), (2, .pure), (3, .pure), (4, .pure), (5, .pure), (6, .pure), (7, .pure), (8, .pure), (9, .pure), (10, .pure), (11, .pure), (12, .new), (13, .act)] mixed (by kernel_rfl) ?_
  refine Can_run (own := [7]) (by simp (maxSteps := 2000000) (disch := omega) only [go_sem, ↓reduceIte, Int.reduceLT, Int.reduceLE, Int.reduceToNat, Int.reducePow, Int.reduceNeg, Nat.reduceBEq, Tryz.ntmps129, g8] <;> with_reducible rfl) ?_
  rw [show List.drop 11 (List.take ((11 : Int) + (nB b : Int)).toNat b) = txtB b from be_slice b 11 (nB b) (by omega)]
  have htl : (txtB b).length = nB b := by unfold txtB; rw [List.length_take, List.length_drop]; omega
  refine cnv (hk := fun b7 hb7 => ?_)
  simp only [fresh] at hb7
  refine cf (own := []) hb7 (hk := ?_)
  refine Can_nil ?_
  refine jf (own := []) hb7 (h := ?_)
  have hk : ((b.getD 8 0).toNat : Int) = ((kdB b : Nat) : Int) := rfl
  rw [hk]
  have hck := check_ok (stampsB b).1 (kdB b) (txtB b) (by omega)
  rw [htl] at hck
  refine jcs (Δ1 := []) (Fr := [_, _]) (hs := hck) (hp := (List.Perm.refl _)) (hk := ?_) (hpan := (by rintro x Δ' ⟨⟨e, h, _⟩, _⟩; cases h))
  rintro x Δ' ⟨⟨e, h, he, hz⟩, rfl⟩
  cases h
  by_cases hcc : checkC (stampsB b).1 (kdB b) (nB b) = 0
  rotate_left
  · have hg : getC b = checkC (stampsB b).1 (kdB b) (nB b) := by unfold getC; rw [if_neg (by omega), if_neg h8', if_neg (by omega), if_neg (by simp [hf]), if_neg (by omega), if_pos hcc]
    obtain ⟨t, y, rfl⟩ := iserr_ne he hcc
    refine jr (own := []) (h := ?_)
    refine jt (h := ?_)
    refine jr (own := []) (h := ?_)
    refine jcs (Δ1 := []) (Fr := [_, _]) (hs := (wrapS_ok _ _ he)) (hp := (List.Perm.refl _)) (hk := ?_) (hpan := (by rintro x Δ' ⟨⟨e, h, _⟩, _⟩; cases h))
    rintro x Δ' ⟨⟨e, h, he'⟩, rfl⟩
    cases h
    refine jf (own := []) hb7 (h := ?_)
    refine J_forget ?_
    refine jretf hb7 Tryz.func129 (h := ⟨fun h => absurd (hg.symm.trans h) hcc, fun _ => ⟨_, rfl, by rw [hg]; exact he'⟩, rfl⟩)
  obtain rfl := hz hcc
  refine jr (own := []) (h := ?_)
  refine jn (h := ?_)
  refine J_mrun (own := []) (m := 2000) (by simp (maxSteps := 2000000) (disch := omega) only [go_sem, ↓reduceIte, Int.reduceLT, Int.reduceLE, Int.reduceToNat, Int.reducePow, Int.reduceNeg, Nat.reduceBEq, Tryz.ntmps129, hl, List.take_of_length_le (Nat.le_of_eq hl)] <;> with_reducible rfl) ?_
  rw [show List.drop ((11 : Int) + (nB b : Int)).toNat (List.take 244 b) = restB b from by
    rw [show ((11 : Int) + (nB b : Int)).toNat = 11 + nB b from by omega]
    exact be_slice b (11 + nB b) (233 - nB b) (by omega)]
  have hrl : (restB b).length = 233 - nB b := by unfold restB; rw [List.length_take, List.length_drop]; omega
  have h70 : getC b = if blankB (restB b) = false then 5 else 0 := by
    unfold getC; rw [if_neg (by omega), if_neg h8', if_neg (by omega), if_neg (by simp [hf]), if_neg (by omega), if_neg (by omega)]
  generalize restB b = w at hrl h70 ⊢
  refine jk [2, 4, 7, 88, 89, 90] (h := ?_)
  refine J_loopI (I := fun m e D => ∃ i : Nat, i ≤ w.length ∧ m = w.length - i ∧ D = [.box b7 162 [.c (.int .i64 (stampsB b).1), .c (.int .i64 (kdB b)), .sl 1 (bytesRows (txtB b))], .box b2 162 [.c (.int .i64 0), .c (.int .i64 0), .c (.slice none 0 0)]] ∧ blankB (w.take i) = true ∧ e = [(2, .c (.pointer (some ⟨b2, 0, none⟩))), (4, .c (.int .i64 (stampsB b).1)), (7, .c (.pointer (some ⟨b7, 0, none⟩))), (88, .sl 1 (bytesRows w)), (89, .c (.int .i64 w.length)), (90, .c (.int .i64 i))]) ?_ ?_
  · exact ⟨_, 0, by omega, rfl, rfl, rfl, rfl⟩
  · rintro m e D ⟨i, hi, rfl, rfl, hz, rfl⟩ ih
    refine jr (own := []) (h := ?_)
    refine jif (h1 := fun hcl => ?_) (h2 := fun hcl => ?_)
    · have hlt : i < w.length := by omega
      have g0 := List.getElem?_eq_getElem hlt
      have g1 := bytes_get g0
      have h0 : (0 : Int) ≤ (i : Int) := by omega
      refine J_mrun (own := []) (m := 2000) (by simp (maxSteps := 2000000) (disch := omega) only [go_sem, ↓reduceIte, Int.reduceLT, Int.reduceLE, Int.reduceToNat, Int.reducePow, Int.reduceNeg, Nat.reduceBEq, Tryz.ntmps129, g1] <;> with_reducible rfl) ?_
      refine jif (h1 := fun hnz => ?_) (h2 := fun hnz => ?_)
      · have hbf : blankB w = false := by
          simp only [blankB, List.all_eq_false]
          exact ⟨w[i], List.getElem_mem hlt, by
            intro hz0
            have : w[i] = 0 := by simpa using hz0
            rw [this] at hnz; exact hnz rfl⟩
        rw [if_pos hbf] at h70
        refine jf (own := []) hb7 (h := ?_)
        refine jc (hs := newS_ok _ _ _) (hk := ?_)
        refine jf (own := []) hb7 (h := ?_)
        refine J_forget ?_
        refine jretf hb7 Tryz.func129 (h := ⟨fun h => absurd (h70.symm.trans h) (by decide), fun _ => ⟨_, rfl, by rw [h70]; exact errNew_is _ _ _⟩, rfl⟩)
      · refine jr (own := []) (h := ?_)
        refine jk [2, 4, 7, 88, 89, 90] (h := ?_)
        refine ih _ _ _ ?_ ⟨i + 1, by omega, rfl, rfl, ?_, rfl⟩
        · omega
        · simp only [blankB] at hz ⊢
          rw [List.take_add_one, g0, List.all_append, hz]
          have : w[i] = 0 := by
            apply UInt8.toNat_inj.1
            have : ¬ ((w[i].toNat : Int) ≠ 0) := hnz
            simp only [UInt8.toNat_ofNat]; omega
          simp [this]
    · have hi' : i = w.length := by omega
      subst hi'
      rw [List.take_length] at hz
      rw [if_neg (by simp [hz])] at h70
      refine jf (own := []) hb7 (h := ?_)
      refine J_forget ?_
      refine jretf hb7 Tryz.func129 (h := ⟨fun _ => rfl, fun h => absurd h70 h, rfl⟩)
end Go.Proofs.YtlmahffjidgplaaGreatDoor
end
