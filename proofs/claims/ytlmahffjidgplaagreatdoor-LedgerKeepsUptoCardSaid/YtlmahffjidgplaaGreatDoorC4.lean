/- A part of the proof: what the calls do, told by values. -/
import Derived.Test.YtlmahffjidgplaaGreatDoorC3
import Derived.Test.YtlmahffjidgplaaGreatDoorA6
section
namespace Go.Proofs.YtlmahffjidgplaaGreatDoor
open Go Go.Av
set_option linter.unusedVariables false
set_option linter.unusedSimpArgs false
set_option maxRecDepth 100000
set_option maxHeartbeats 4000000
attribute [local go_sem] packed List.set_cons_zero List.set_cons_succ List.cons_append List.nil_append bytesRows_length
attribute [-go_sem] cellsOf AV.isCell
attribute [local go_sem] cellsOf_agg cellsOf_int cellsOf_bool cellsOf_str cellsOf_map cellsOf_ptr cellsOf_nilI cellsOf_slice cellsOf_sl cellsOf_ifc cellsOf_fp cellsOf_opt optAV_cell icell_int icell_bool icell_str icell_map icell_ptr icell_nilI icell_slice icell_sl icell_ifc icell_fp

/-! ### The document's bytes -/
theorem same02_ok (a b : List UInt8) (ha : a.length < 2 ^ 62) : ACalls Tryz.prog 16 [.sl 1 (bytesRows a), .sl 1 (bytesRows b)] [] (Ret (.c (.bool (decide (a = b))))) := by
  refine calls_of_J cl_16 Tryz.func16 rfl (by simp [Tryz.ntmps16]) ?_
  refine jr (own := []) (h := ?_)
  refine jif (h1 := fun h1 => ?_) (h2 := fun h1 => ?_)
  · refine jr (own := []) (h := ?_)
    have hne : a ≠ b := fun e => h1 (by rw [e])
    refine jret Tryz.func16 (h := ⟨by simp [hne], rfl⟩)
  · have hl : a.length = b.length := by omega
    refine jr (own := []) (h := ?_)
    refine jk [0, 1, 5] (h := ?_)
    refine J_loopI (I := fun m e D => ∃ i : Nat, i ≤ a.length ∧ m = a.length - i ∧ D = [] ∧ a.take i = b.take i ∧ e = [(0, .sl 1 (bytesRows a)), (1, .sl 1 (bytesRows b)), (5, .c (.int .i64 i))]) ?_ ?_
    · exact ⟨_, 0, Nat.zero_le _, rfl, rfl, rfl, rfl⟩
    · rintro m e D ⟨i, hi, rfl, rfl, heq, rfl⟩ ih
      refine jr (own := []) (h := ?_)
      refine jif (h1 := fun hc => ?_) (h2 := fun hc => ?_)
      · have hlt : i < a.length := by omega
        have hlb : i < b.length := by omega
        have g1 := bytes_get (List.getElem?_eq_getElem hlt)
        have g2 := bytes_get (List.getElem?_eq_getElem hlb)
        have h0 : (0 : Int) ≤ (i : Int) := by omega
        have b1 := a[i].toNat_lt
        refine jr (own := []) (h := ?_)
        refine jd [(0, .pure), (1, .pure), (2, .pure), (3, .read), (4, .pure), (5, .pure), (6, .pure), (7, .read), (8, .pure)] mixed (by kernel_rfl) ?_
        refine Can_run (own := []) (by simp (maxSteps := 2000000) (disch := omega) only [go_sem, ↓reduceIte, Int.reduceLT, Int.reduceLE, Int.reduceToNat, Int.reducePow, Int.reduceNeg, Nat.reduceBEq, Tryz.ntmps16, g1, g2] <;> with_reducible rfl) ?_
        refine Can_nil ?_
        refine jif (h1 := fun hd => ?_) (h2 := fun hd => ?_)
        · refine jr (own := []) (h := ?_)
          have hne : a ≠ b := fun e => hd (by simp only [e])
          refine jret Tryz.func16 (h := ⟨by simp [hne], rfl⟩)
        · refine jr (own := []) (h := ?_)
          refine jk [0, 1, 5] (h := ?_)
          refine ih _ _ _ ?_ ⟨i + 1, hlt, rfl, rfl, ?_, ?_⟩
          · omega
          · rw [List.take_add_one, List.take_add_one, heq, List.getElem?_eq_getElem hlt, List.getElem?_eq_getElem hlb]
            have : a[i] = b[i] := by
              apply UInt8.toNat_inj.1; omega
            rw [this]
          · simp only [Int.natCast_add, Int.cast_ofNat_Int]
      · have hi' : i = a.length := by omega
        subst hi'
        refine jr (own := []) (h := ?_)
        have hab : a = b := by
          have := heq
          rwa [List.take_length, hl, List.take_length] at this
        refine jret Tryz.func16 (h := ⟨by simp [hab], rfl⟩)

/-- A power of 256 by its place. -/
def byN (i : Nat) : Nat := 72057594037927936 / 256 ^ i
theorem byN_succ (i : Nat) : byN (i + 1) = byN i / 256 := by unfold byN; rw [Nat.div_div_eq_div_mul, Nat.pow_succ]
theorem byN_pow {i : Nat} (h : i < 8) : byN i = 2 ^ (56 - 8 * i) := by
  have : ∀ i : Fin 8, byN i = 2 ^ (56 - 8 * i.val) := by decide
  exact this ⟨i, h⟩
theorem byN_le (i : Nat) : byN i ≤ 72057594037927936 := Nat.div_le_self _ _
theorem quo64 {a b : Nat} (ha : a < 2 ^ 64) (hb : 0 < b) : aint .quo .u64 (a : Int) (b : Int) = some (.c (.int .u64 ((a / b : Nat) : Int))) := by
  rw [aint_quo_u64 ⟨by omega, by omega⟩ (by omega)]; simp
theorem rem_nat (k : IntKind) {a b : Nat} (hb : 0 < b) : aint .rem k (a : Int) (b : Int) = some (.c (.int k ((a % b : Nat) : Int))) := by
  rw [aint_rem k (by omega) (by omega)]; simp
theorem wrap8_mod (n : Nat) : IntKind.u8.wrap ((n % 256 : Nat) : Int) = ((UInt8.ofNat n).toNat : Int) := by rw [u8_wrap, UInt8.toNat_ofNat']; omega

theorem nil_sl0 : (AV.c (.slice none 0 0)).le .sl0 := fun g v h => by
  simp only [rel] at h ⊢
  exact ⟨none, h⟩
theorem word02_ok (b : List UInt8) (n : Nat) (hb : b.length < 2 ^ 37) (hn : n < 2 ^ 64) : ACalls Tryz.prog 112 [.sl 1 (bytesRows b), .c (.int .u64 n)] [] (fun r D => ∃ v, r = .ret (.c v) ∧ OwnB 5 (b ++ word8 n) v D) := by
  refine calls_of_J cl_112 Tryz.func112 rfl (by simp [Tryz.ntmps112]) ?_
  refine jr (own := [10]) (h := ?_)
  refine J_wk (t := 8) (y := .sl0) (by simp only [go_sem]) nil_sl0 ?_
  refine jbi (hb := append0_bi (by simp only [go_sem, ↓reduceIte, Int.reduceLT, Int.reduceLE, Int.reduceToNat, Int.reducePow, Int.reduceNeg, Nat.reduceBEq] <;> with_reducible rfl) (by simp only [go_sem, srcOf] <;> rfl) bytes_cell (by omega)) (hk := ?_)
  rintro _ D ⟨v, _, rfl, rfl, how⟩
  refine jr (own := []) (h := ?_)
  refine jk [1, 5, 6, 7] (h := ?_)
  refine J_loopI (I := fun m e D => ∃ (i : Nat) (v : Value), i ≤ 8 ∧ m = 8 - i ∧ OwnB 5 (b ++ (word8 n).take i) v D ∧ e = [(1, .c (.int .u64 n)), (5, .c v), (6, .c (.int .u64 (byN i))), (7, .c (.int .i64 i))]) ?_ ?_
  · exact ⟨_, 0, v, by omega, rfl, by simpa using how, rfl⟩
  · rintro m e D ⟨i, v, hi, rfl, how, rfl⟩ ih
    refine jr (own := []) (h := ?_)
    refine jif (h1 := fun hc => ?_) (h2 := fun hc => ?_)
    · have hi8 : i < 8 := by omega
      have hle := byN_le i
      have hpos : 0 < byN i := by rw [byN_pow hi8]; exact Nat.pos_of_ne_zero (by simp)
      have hq := quo64 hn hpos
      have hr : aint .rem .u64 ((n / byN i : Nat) : Int) 256 = _ := rem_nat .u64 (a := n / byN i) (b := 256) (by omega)
      have hw := wrap8_mod (n / byN i)
      have hq2 : aint .quo .u64 (byN i : Int) 256 = _ := quo64 (a := byN i) (b := 256) (by omega) (by omega)
      refine jf (own := [22]) (a3 hq hr hw) (h := ?_)
      refine jap (Fr := []) (how := how) (hp := (by simp)) (hsrc := (by simp only [go_sem, srcOf] <;> rfl)) (hc := (by rfl)) (hmax := (by rw [List.length_append, List.length_take]; have : (word8 n).length = 8 := rfl; omega)) (hk := ?_)
      rintro _ D2 ⟨v2, _, rfl, rfl, how2⟩
      have how3 : OwnB 5 (b ++ (word8 n).take (i + 1)) v2 D2 := by
        rw [word8_take n i hi8, ← List.append_assoc, ← byN_pow hi8]
        exact ownB_app (b := [UInt8.ofNat (n / byN i)]) how2
      refine jf (own := []) hq2 (h := ?_)
      refine jk [1, 5, 6, 7] (h := ?_)
      refine ih _ _ _ ?_ ⟨i + 1, v2, by omega, rfl, how3, ?_⟩
      · omega
      · rw [byN_succ]; rfl
    · have hi8 : i = 8 := by omega
      subst hi8
      have how3 : OwnB 5 (b ++ word8 n) v D := how
      refine jr (own := []) (h := ?_)
      refine jret Tryz.func112 (h := ⟨v, rfl, how3⟩)
theorem word02_fz (b : List UInt8) (n : Nat) (hb : b.length < 2 ^ 37) (hn : n < 2 ^ 64) : ACalls Tryz.prog 112 [.sl 1 (bytesRows b), .c (.int .u64 n)] [] (Ret (.sl 1 (bytesRows (b ++ word8 n)))) :=
  (word02_ok b n hb hn).freezeB (by unfold maxRows word8; simp only [List.length_append, List.length_cons, List.length_nil]; omega)

/-! ### Sums, bit by bit -/
def bitStep (c : UInt8) (k : Nat) (n : UInt32) : UInt32 := if c.toNat / 2 ^ k % 2 = n.toNat % 2 then n >>> 1 else (n >>> 1) ^^^ 0xedb88320
def bitsR (c : UInt8) : Nat → UInt32 → UInt32
  | 0, n => n
  | k + 1, n => bitStep c k (bitsR c k n)
def sumR (b : List UInt8) : UInt32 := b.foldl (fun n c => bitsR c 8 n) (~~~ 0)

theorem shr8_nat (c : UInt8) {k : Nat} (hk : k < 8) : ashift .shr .u8 (c.toNat : Int) (k : Int) = some (.c (.int .u8 ((c.toNat / 2 ^ k : Nat) : Int))) := by
  unfold ashift
  rw [if_neg (by omega)]
  have hb : IntKind.u8.bits = 8 := rfl
  have h1 : min (k : Int).toNat IntKind.u8.bits = k := by rw [hb]; omega
  simp only [h1]
  rw [Int.fdiv_eq_ediv_of_nonneg _ (by exact_mod_cast Nat.zero_le _)]
  simp
theorem quo32_2 (n : UInt32) : aint .quo .u32 (n.toNat : Int) 2 = some (.c (.int .u32 ((n >>> 1).toNat : Int))) := by
  have hn := n.toNat_lt
  unfold aint; simp only []
  rw [if_neg (by omega), Int.tdiv_eq_ediv_of_nonneg (by omega), u32_wrap, UInt32.toNat_shiftRight]
  have : n.toNat >>> (UInt32.toNat 1 % 32) = n.toNat / 2 := by rw [Nat.shiftRight_eq_div_pow]; rfl
  rw [this]
  have : ((n.toNat : Int) / 2) % 4294967296 = ((n.toNat / 2 : Nat) : Int) := by omega
  rw [this]
theorem sum03_ok (b : List UInt8) (hb : b.length < 2 ^ 40) : ACalls Tryz.prog 232 [.sl 1 (bytesRows b)] [] (Ret (.c (.int .u32 (~~~ sumR b).toNat))) := by
  refine calls_of_J cl_232 Tryz.func232 rfl (by simp [Tryz.ntmps232]) ?_
  refine jr (own := []) (h := ?_)
  refine jk [0, 3, 4] (h := ?_)
  refine J_loopI (I := fun m e D => ∃ i : Nat, i ≤ b.length ∧ m = b.length - i ∧ D = [] ∧ e = [(0, .sl 1 (bytesRows b)), (3, .c (.int .u32 (sumR (b.take i)).toNat)), (4, .c (.int .i64 i))]) ?_ ?_
  · exact ⟨_, 0, Nat.zero_le _, rfl, rfl, rfl⟩
  · rintro m e D ⟨i, hi, rfl, rfl, rfl⟩ ih
    refine jr (own := []) (h := ?_)
    refine jif (h1 := fun hc => ?_) (h2 := fun hc => ?_)
    · have hlt : i < b.length := by omega
      have g0 := List.getElem?_eq_getElem hlt
      have g1 := bytes_get g0
      have h0 : (0 : Int) ≤ (i : Int) := by omega
      have hsn : sumR (b.take (i + 1)) = bitsR b[i] 8 (sumR (b.take i)) := by simp only [sumR, List.take_add_one, g0, Option.toList_some, List.foldl_append, List.foldl_cons, List.foldl_nil]
      refine jr (own := []) (h := ?_)
      refine jk [0, 3, 4, 5] (h := ?_)
      refine J_loopI (I := fun m e D => ∃ k : Nat, k ≤ 8 ∧ m = 8 - k ∧ D = [] ∧ e = [(0, .sl 1 (bytesRows b)), (3, .c (.int .u32 (bitsR b[i] k (sumR (b.take i))).toNat)), (4, .c (.int .i64 i)), (5, .c (.int .i64 k))]) ?_ ?_
      · exact ⟨_, 0, by omega, rfl, rfl, rfl⟩
      · rintro m e D ⟨k, hk, rfl, rfl, rfl⟩ ih2
        refine jr (own := []) (h := ?_)
        refine jif (h1 := fun hc2 => ?_) (h2 := fun hc2 => ?_)
        · have hk8 : k < 8 := by omega
          have hs := shr8_nat b[i] hk8
          have hbd := b[i].toNat_lt
          have hdl : b[i].toNat / 2 ^ k ≤ b[i].toNat := Nat.div_le_self _ _
          have hw : IntKind.u32.wrap ((b[i].toNat / 2 ^ k : Nat) : Int) = ((b[i].toNat / 2 ^ k : Nat) : Int) := by rw [u32_wrap]; exact Int.emod_eq_of_lt (Int.natCast_nonneg _) (by omega)
          have hr1 : aint .rem .u32 ((b[i].toNat / 2 ^ k : Nat) : Int) 2 = _ := rem_nat .u32 (a := b[i].toNat / 2 ^ k) (b := 2) (by omega)
          have hr2 : aint .rem .u32 ((bitsR b[i] k (sumR (b.take i))).toNat : Int) 2 = _ := rem_nat .u32 (a := (bitsR b[i] k (sumR (b.take i))).toNat) (b := 2) (by omega)
          have hq := quo32_2 (bitsR b[i] k (sumR (b.take i)))
          have hx := xor32 (bitsR b[i] k (sumR (b.take i)) >>> 1) 0xedb88320
          rw [← col_poly] at hx
          refine J_mrun (own := []) (m := 2000) (by simp (maxSteps := 2000000) (disch := omega) only [go_sem, ↓reduceIte, Int.reduceLT, Int.reduceLE, Int.reduceToNat, Int.reducePow, Int.reduceNeg, Nat.reduceBEq, Tryz.ntmps232, g1, hs, hw, hr1, hr2, hq] <;> with_reducible rfl) ?_
          refine jif (h1 := fun hd => ?_) (h2 := fun hd => ?_)
          · refine jf (own := []) hx (h := ?_)
            refine jk [0, 3, 4, 5] (h := ?_)
            refine ih2 _ _ _ ?_ ⟨k + 1, by omega, rfl, rfl, ?_⟩
            · omega
            · have h1 : ¬ b[i].toNat / 2 ^ k % 2 = (bitsR b[i] k (sumR (b.take i))).toNat % 2 := by omega
              simp only [bitsR, bitStep, h1, if_false, Int.natCast_add, Int.cast_ofNat_Int]
          · refine jr (own := []) (h := ?_)
            refine jk [0, 3, 4, 5] (h := ?_)
            refine ih2 _ _ _ ?_ ⟨k + 1, by omega, rfl, rfl, ?_⟩
            · omega
            · have h1 : b[i].toNat / 2 ^ k % 2 = (bitsR b[i] k (sumR (b.take i))).toNat % 2 := by omega
              simp only [bitsR, bitStep, h1, if_true, Int.natCast_add, Int.cast_ofNat_Int]
        · have hk8 : k = 8 := by omega
          subst hk8
          rw [← hsn]
          refine jr (own := []) (h := ?_)
          refine jk [0, 3, 4] (h := ?_)
          refine ih _ _ _ ?_ ⟨i + 1, hlt, rfl, rfl, rfl⟩
          omega
    · have hi' : i = b.length := by omega
      subst hi'
      rw [List.take_length]
      have hs : IntKind.u32.wrap (4294967295 - ((sumR b).toNat : Int)) = ((~~~ sumR b).toNat : Int) := by
        have := (sumR b).toNat_lt
        rw [u32_wrap, UInt32.toNat_not]
        show _ = ((4294967296 - 1 - (sumR b).toNat : Nat) : Int)
        omega
      refine jf (own := []) hs (h := ?_)
      refine jret Tryz.func232 (h := ⟨rfl, rfl⟩)
end Go.Proofs.YtlmahffjidgplaaGreatDoor
end

section
namespace Go.Proofs.YtlmahffjidgplaaGreatDoor
open Go Go.Av
set_option linter.unusedVariables false
set_option linter.unusedSimpArgs false
set_option maxRecDepth 100000
set_option maxHeartbeats 4000000

/-! ### Both sums are one -/
theorem and_one (n : UInt32) : (n &&& 1).toNat = n.toNat % 2 := by
  rw [UInt32.toNat_and]; exact Nat.and_one_is_mod _
theorem and_one_iff (n : UInt32) : n &&& 1 = 1 ↔ n.toNat % 2 = 1 := by
  rw [← and_one, ← UInt32.toNat_inj]; rfl
theorem xor_mod (a b : Nat) : (a ^^^ b) % 2 = (a % 2 + b % 2) % 2 := by
  have := Nat.xor_mod_two_pow (a := a) (b := b) (n := 1)
  simp only [Nat.pow_one] at this
  rw [this]
  rcases Nat.mod_two_eq_zero_or_one a with h1 | h1 <;> rcases Nat.mod_two_eq_zero_or_one b with h2 | h2 <;> rw [h1, h2] <;> rfl
theorem xor_low (a b : UInt32) : (a ^^^ b).toNat % 2 = (a.toNat % 2 + b.toNat % 2) % 2 := by
  rw [UInt32.toNat_xor]; exact xor_mod _ _
theorem xor_shr (a b : UInt32) (k : UInt32) : (a ^^^ b) >>> k = (a >>> k) ^^^ (b >>> k) := by
  apply UInt32.toNat_inj.1
  simp only [UInt32.toNat_shiftRight, UInt32.toNat_xor, Nat.shiftRight_xor_distrib]
theorem colStep_xor (a b : UInt32) : colStep (a ^^^ b) = colStep a ^^^ colStep b := by
  unfold colStep
  simp only [and_one_iff, xor_low, xor_shr]
  rcases Nat.mod_two_eq_zero_or_one a.toNat with h1 | h1 <;> rcases Nat.mod_two_eq_zero_or_one b.toNat with h2 | h2 <;> simp only [h1, h2] <;>
    simp only [Nat.zero_add, Nat.add_zero, Nat.reduceAdd, Nat.reduceMod, Nat.zero_ne_one, if_true, if_false, Nat.zero_mod]
  · rw [UInt32.xor_assoc]
  · rw [UInt32.xor_assoc, UInt32.xor_assoc, UInt32.xor_comm (0xedb88320)]
  · have : ∀ x y p : UInt32, x ^^^ y = x ^^^ p ^^^ (y ^^^ p) := fun x y p => by
      rw [UInt32.xor_assoc, ← UInt32.xor_assoc p y p, UInt32.xor_comm p y, UInt32.xor_assoc y p p, UInt32.xor_self, UInt32.xor_zero]
    exact this _ _ _
theorem colN_xor (k : Nat) (a b : UInt32) : colN k (a ^^^ b) = colN k a ^^^ colN k b := by
  induction k with
  | zero => rfl
  | succ k ih => simp only [colN, ih, colStep_xor]
theorem colStep_even {h : Nat} (hh : h * 2 < 2 ^ 32) : colStep (UInt32.ofNat (h * 2)) = UInt32.ofNat h := by
  unfold colStep
  have e : (UInt32.ofNat (h * 2)).toNat = h * 2 := UInt32.toNat_ofNat_of_lt' hh
  rw [if_neg (by rw [and_one_iff, e]; omega)]
  apply UInt32.toNat_inj.1
  rw [UInt32.toNat_shiftRight, e, UInt32.toNat_ofNat_of_lt' (show h < 2 ^ 32 by omega), Nat.shiftRight_eq_div_pow]
  show h * 2 / 2 ^ 1 = h
  omega
theorem colN_even {h : Nat} (hh : h < 2 ^ 24) : ∀ j, j ≤ 8 → colN j (UInt32.ofNat (h * 256)) = UInt32.ofNat (h * 2 ^ (8 - j))
  | 0, _ => rfl
  | j + 1, hj => by
    have ih := colN_even hh j (by omega)
    simp only [colN, ih]
    have e : h * 2 ^ (8 - j) = h * 2 ^ (8 - (j + 1)) * 2 := by rw [show 8 - j = 8 - (j + 1) + 1 from by omega, Nat.pow_succ, Nat.mul_assoc]
    rw [e]
    refine colStep_even ?_
    rw [← e]
    have : 2 ^ (8 - j) ≤ 256 := by
      have : ∀ j : Fin 9, 2 ^ (8 - j.val) ≤ 256 := by decide
      exact this ⟨j, by omega⟩
    have := Nat.mul_le_mul (Nat.le_of_lt_succ (by omega : h < 16777215 + 1)) this
    omega
theorem split_low (n : UInt32) : n = n.toUInt8.toUInt32 ^^^ UInt32.ofNat ((n >>> 8).toNat * 256) := by
  have hn := n.toNat_lt
  apply UInt32.toNat_inj.1
  have h1 : (n >>> 8).toNat = n.toNat / 256 := by rw [UInt32.toNat_shiftRight, Nat.shiftRight_eq_div_pow]; rfl
  have h2 : n.toUInt8.toUInt32.toNat = n.toNat % 256 := by rw [UInt8.toNat_toUInt32, UInt32.toNat_toUInt8]
  rw [UInt32.toNat_xor, h1, h2, UInt32.toNat_ofNat_of_lt' (show n.toNat / 256 * 256 < 2 ^ 32 by omega)]
  have e := Nat.shiftLeft_add_eq_or_of_lt (i := 8) (b := n.toNat % 256) (by omega) (n.toNat / 256)
  rw [Nat.shiftLeft_eq] at e
  have e2 : (n.toNat % 256) ^^^ (n.toNat / 256 * 256) = n.toNat / 256 * 256 ||| n.toNat % 256 := by
    rw [Nat.xor_comm]
    apply Nat.eq_of_testBit_eq
    intro i
    rw [Nat.testBit_xor, Nat.testBit_or]
    by_cases hi : i < 8
    · have : (n.toNat / 256 * 256).testBit i = false := by
        rw [show n.toNat / 256 * 256 = n.toNat / 256 * 2 ^ 8 from rfl, Nat.testBit_mul_two_pow]; simp; intro h; omega
      rw [this]; simp
    · have : (n.toNat % 256).testBit i = false := by
        rw [show n.toNat % 256 = n.toNat % 2 ^ 8 from rfl, Nat.testBit_mod_two_pow]; simp; intro h; omega
      rw [this]; simp
  rw [e2, ← e]
  omega
theorem toU32_xor (a b : UInt8) : (a ^^^ b).toUInt32 = a.toUInt32 ^^^ b.toUInt32 := by
  apply UInt32.toNat_inj.1
  simp only [UInt8.toNat_toUInt32, UInt32.toNat_xor, UInt8.toNat_xor]
theorem bits_col (c : UInt8) (n : UInt32) : ∀ k, k ≤ 8 → bitsR c k n = colN k (n ^^^ c.toUInt32) ^^^ UInt32.ofNat (c.toNat / 2 ^ k)
  | 0, _ => by
    have : UInt32.ofNat (c.toNat / 2 ^ 0) = c.toUInt32 := by
      apply UInt32.toNat_inj.1
      have := c.toNat_lt
      rw [UInt32.toNat_ofNat_of_lt' (by rw [Nat.pow_zero, Nat.div_one]; show c.toNat < 2 ^ 32; omega), UInt8.toNat_toUInt32, Nat.pow_zero, Nat.div_one]
    simp only [bitsR, colN, this]
    rw [UInt32.xor_assoc, UInt32.xor_self, UInt32.xor_zero]
  | k + 1, hk => by
    have ih := bits_col c n k (by omega)
    have hc := c.toNat_lt
    have hd : c.toNat / 2 ^ k ≤ c.toNat := Nat.div_le_self _ _
    have e : (UInt32.ofNat (c.toNat / 2 ^ k)).toNat = c.toNat / 2 ^ k := UInt32.toNat_ofNat_of_lt' (show _ < 2 ^ 32 by omega)
    have es : UInt32.ofNat (c.toNat / 2 ^ k) >>> 1 = UInt32.ofNat (c.toNat / 2 ^ (k + 1)) := by
      apply UInt32.toNat_inj.1
      have hd2 : c.toNat / 2 ^ (k + 1) ≤ c.toNat := Nat.div_le_self _ _
      rw [UInt32.toNat_shiftRight, e, UInt32.toNat_ofNat_of_lt' (show _ < 2 ^ 32 by omega), Nat.shiftRight_eq_div_pow, Nat.pow_succ, ← Nat.div_div_eq_div_mul]
      rfl
    simp only [bitsR, bitStep, ih, colN]
    rw [xor_low, e, xor_shr, es]
    unfold colStep
    simp only [and_one_iff]
    generalize colN k (n ^^^ c.toUInt32) = y
    rcases Nat.mod_two_eq_zero_or_one y.toNat with h1 | h1
    · rw [h1, if_pos (by omega), if_neg (by omega)]
    · rw [h1, if_neg (by omega), if_pos rfl, UInt32.xor_assoc, UInt32.xor_assoc, UInt32.xor_comm (0xedb88320)]
theorem bits_crc (c : UInt8) (n : UInt32) : bitsR c 8 n = crcStep n c := by
  have hc := c.toNat_lt
  rw [bits_col c n 8 (by omega), show c.toNat / 2 ^ 8 = 0 from Nat.div_eq_of_lt hc]
  unfold crcStep column
  conv => lhs; rw [split_low n]
  rw [UInt32.xor_assoc, UInt32.xor_comm _ c.toUInt32, ← UInt32.xor_assoc, ← toU32_xor, colN_xor]
  have h24 : (n >>> 8).toNat < 2 ^ 24 := by
    have hn := n.toNat_lt
    rw [UInt32.toNat_shiftRight, Nat.shiftRight_eq_div_pow]
    show n.toNat / 2 ^ 8 < 2 ^ 24
    omega
  rw [colN_even h24 8 (by omega)]
  have : UInt32.ofNat ((n >>> 8).toNat * 2 ^ (8 - 8)) = n >>> 8 := by
    rw [show (n >>> 8).toNat * 2 ^ (8 - 8) = (n >>> 8).toNat from by simp]; exact UInt32.ofNat_toNat
  rw [this, show UInt32.ofNat 0 = 0 from rfl, UInt32.xor_zero, UInt32.xor_comm]
theorem sumR_crc (b : List UInt8) : ~~~ sumR b = crc b := by
  unfold sumR crc
  congr 2
  funext n c
  exact bits_crc c n
end Go.Proofs.YtlmahffjidgplaaGreatDoor
end

section
namespace Go.Proofs.YtlmahffjidgplaaGreatDoor
open Go Go.Av
set_option linter.unusedVariables false
set_option linter.unusedSimpArgs false
set_option maxRecDepth 100000
set_option maxHeartbeats 4000000
attribute [local go_sem] packed List.set_cons_zero List.set_cons_succ List.cons_append List.nil_append bytesRows_length
attribute [-go_sem] cellsOf AV.isCell
attribute [local go_sem] cellsOf_agg cellsOf_int cellsOf_bool cellsOf_str cellsOf_map cellsOf_ptr cellsOf_nilI cellsOf_slice cellsOf_sl cellsOf_ifc cellsOf_fp cellsOf_opt optAV_cell icell_int icell_bool icell_str icell_map icell_ptr icell_nilI icell_slice icell_sl icell_ifc icell_fp

/-! ### The document's bytes -/

theorem fourN (n : UInt32) : four n = [UInt8.ofNat n.toNat, UInt8.ofNat (n.toNat / 256), UInt8.ofNat (n.toNat / 65536), UInt8.ofNat (n.toNat / 16777216)] := by
  unfold four
  have h : ∀ k : UInt32, (n >>> k).toUInt8 = UInt8.ofNat (n.toNat / 2 ^ (k.toNat % 32)) := fun k => by
    apply UInt8.toNat_inj.1
    rw [UInt32.toNat_toUInt8, UInt32.toNat_shiftRight, Nat.shiftRight_eq_div_pow, UInt8.toNat_ofNat']
  have h0 : n.toUInt8 = UInt8.ofNat n.toNat := by
    apply UInt8.toNat_inj.1
    rw [UInt32.toNat_toUInt8, UInt8.toNat_ofNat']
  rw [h, h, h, h0]; rfl
theorem four_take (n : UInt32) (i : Nat) (h : i < 4) : (four n).take (i + 1) = (four n).take i ++ [UInt8.ofNat (n.toNat / 256 ^ i)] := by
  rw [fourN]
  rcases (by omega : i = 0 ∨ i = 1 ∨ i = 2 ∨ i = 3) with rfl | rfl | rfl | rfl <;> simp
theorem quo32 {a b : Nat} (ha : a < 2 ^ 32) (hb : 0 < b) : aint .quo .u32 (a : Int) (b : Int) = some (.c (.int .u32 ((a / b : Nat) : Int))) := by
  unfold aint; simp only []
  have : a / b ≤ a := Nat.div_le_self _ _
  rw [if_neg (by omega), Int.tdiv_eq_ediv_of_nonneg (by omega), u32_wrap, ← Int.natCast_ediv, Int.emod_eq_of_lt (Int.natCast_nonneg _) (by omega)]

theorem seal03_ok (b : List UInt8) (hb : b.length < 2 ^ 37) : ACalls Tryz.prog 217 [.sl 1 (bytesRows b)] [] (Ret (.sl 1 (bytesRows (sealB b)))) := by
  have hs := sum03_ok b (by omega)
  rw [sumR_crc] at hs
  have hcl := (crc b).toNat_lt
  refine calls_of_J cl_217 Tryz.func217 rfl (by simp [Tryz.ntmps217]) ?_
  refine jr (own := [8]) (h := ?_)
  refine J_wk (t := 6) (y := .sl0) (by simp only [go_sem]) nil_sl0 ?_
  refine jbi (hb := append0_bi (by simp only [go_sem, ↓reduceIte, Int.reduceLT, Int.reduceLE, Int.reduceToNat, Int.reducePow, Int.reduceNeg, Nat.reduceBEq] <;> with_reducible rfl) (by simp only [go_sem, srcOf] <;> rfl) bytes_cell (by omega)) (hk := ?_)
  rintro _ D ⟨v, _, rfl, rfl, how⟩
  refine jr (own := []) (h := ?_)
  refine jcs (Δ1 := []) (Fr := D) (hs := hs) (hp := (List.Perm.refl _)) (hk := ?_) (hpan := (by rintro x Δ' ⟨e, _⟩; cases e))
  rintro x _ ⟨e, rfl⟩
  cases e
  refine jr (own := []) (h := ?_)
  refine jk [3, 4, 5] (h := ?_)
  refine J_loopI (I := fun m e D => ∃ (i : Nat) (v : Value), i ≤ 4 ∧ m = 4 - i ∧ OwnB 5 (b ++ (four (crc b)).take i) v D ∧ e = [(3, .c v), (4, .c (.int .u32 ((crc b).toNat / 256 ^ i : Nat))), (5, .c (.int .i64 i))]) ?_ ?_
  · exact ⟨_, 0, v, by omega, rfl, by simpa using how, by simp⟩
  · rintro m e D ⟨i, v, hi, rfl, how, rfl⟩ ih
    refine jr (own := []) (h := ?_)
    refine jif (h1 := fun hc => ?_) (h2 := fun hc => ?_)
    · have hi4 : i < 4 := by omega
      have hle : (crc b).toNat / 256 ^ i ≤ (crc b).toNat := Nat.div_le_self _ _
      have hr : aint .rem .u32 (((crc b).toNat / 256 ^ i : Nat) : Int) 256 = _ := rem_nat .u32 (a := (crc b).toNat / 256 ^ i) (b := 256) (by omega)
      have hw := wrap8_mod ((crc b).toNat / 256 ^ i)
      have hq2 : aint .quo .u32 (((crc b).toNat / 256 ^ i : Nat) : Int) 256 = _ := quo32 (a := (crc b).toNat / 256 ^ i) (b := 256) (by omega) (by omega)
      refine jf (own := [20]) (a2 hr hw) (h := ?_)
      refine jap (Fr := []) (how := how) (hp := (by simp)) (hsrc := (by simp only [go_sem, srcOf] <;> rfl)) (hc := (by rfl)) (hmax := (by rw [List.length_append, List.length_take]; have : (four (crc b)).length = 4 := rfl; omega)) (hk := ?_)
      rintro _ D2 ⟨v2, _, rfl, rfl, how2⟩
      have how3 : OwnB 5 (b ++ (four (crc b)).take (i + 1)) v2 D2 := by
        rw [four_take _ i hi4, ← List.append_assoc]
        exact ownB_app (b := [UInt8.ofNat ((crc b).toNat / 256 ^ i)]) how2
      refine jf (own := []) hq2 (h := ?_)
      refine jk [3, 4, 5] (h := ?_)
      refine ih _ _ _ ?_ ⟨i + 1, v2, by omega, rfl, how3, ?_⟩
      · omega
      · rw [Nat.div_div_eq_div_mul, ← Nat.pow_succ]; rfl
    · have hi4 : i = 4 := by omega
      subst hi4
      have how3 : OwnB 5 (sealB b) v D := how
      refine jr (own := []) (h := ?_)
      refine J_freezeB (Fr := []) how3 (by unfold maxRows sealB four; simp only [List.length_append, List.length_cons, List.length_nil]; omega) ?_
      refine J_is (t := 2) (by simp only [go_sem]) (List.mem_cons_self ..) (J_drop ?_)
      refine jret Tryz.func217 (h := ⟨rfl, rfl⟩)

theorem fits_iff {b : List UInt8} (h : 4 ≤ b.length) : fitsB b = decide (sealB (b.take (b.length - 4)) = b) := by
  unfold fitsB sealB
  rw [if_neg (by omega)]
  have e : b = b.take (b.length - 4) ++ b.drop (b.length - 4) := (List.take_append_drop _ _).symm
  congr 1
  apply propext
  constructor
  · intro h1; rw [h1, List.take_append_drop]
  · intro h1
    have h2 := congrArg (List.drop (b.length - 4)) h1
    rwa [List.drop_left' (by rw [List.length_take]; omega)] at h2
theorem fits03_ok (b : List UInt8) (h4 : 4 ≤ b.length) (hb : b.length < 2 ^ 37) : ACalls Tryz.prog 185 [.sl 1 (bytesRows b)] [] (Ret (.c (.bool (fitsB b)))) := by
  rw [fits_iff h4]
  have ht : (b.take (b.length - 4)).length = b.length - 4 := by rw [List.length_take]; omega
  have hsl : (sealB (b.take (b.length - 4))).length = b.length := by rw [sealB_len, ht]; omega
  have hs := seal03_ok (b.take (b.length - 4)) (by omega)
  refine calls_of_J cl_185 Tryz.func185 rfl (by simp [Tryz.ntmps185]) ?_
  refine jr (own := []) (h := ?_)
  refine jif (h1 := fun hc => absurd hc (by first | omega | simp)) (h2 := fun _ => ?_)
  have e4 : ((b.length : Int) - 4).toNat = b.length - 4 := by omega
  refine J_mrun (own := []) (m := 2000) (by simp (maxSteps := 2000000) (disch := omega) only [go_sem, ↓reduceIte, Int.reduceLT, Int.reduceLE, Int.reduceToNat, Int.reducePow, Int.reduceNeg, Nat.reduceBEq, Tryz.ntmps185, e4] <;> with_reducible rfl) ?_
  refine jc (hs := hs) (hk := ?_)
  generalize sealB (b.take (b.length - 4)) = s at hsl ⊢
  refine jr (own := []) (h := ?_)
  refine jk [0, 4, 5] (h := ?_)
  refine J_loopI (I := fun m e D => ∃ i : Nat, i ≤ b.length ∧ m = b.length - i ∧ D = [] ∧ s.take i = b.take i ∧ e = [(0, .sl 1 (bytesRows b)), (4, .sl 1 (bytesRows s)), (5, .c (.int .i64 i))]) ?_ ?_
  · exact ⟨_, 0, Nat.zero_le _, rfl, rfl, rfl, rfl⟩
  · rintro m e D ⟨i, hi, rfl, rfl, heq, rfl⟩ ih
    refine jr (own := []) (h := ?_)
    refine jif (h1 := fun hc => ?_) (h2 := fun hc => ?_)
    · have hlb : i < b.length := by omega
      have hlt : i < s.length := by omega
      have g1 := bytes_get (List.getElem?_eq_getElem hlt)
      have g2 := bytes_get (List.getElem?_eq_getElem hlb)
      have h0 : (0 : Int) ≤ (i : Int) := by omega
      have b1 := s[i].toNat_lt
      refine jr (own := []) (h := ?_)
      refine jd [(0, .pure), (1, .pure), (2, .pure), (3, .read), (4, .pure), (5, .pure), (6, .pure), (7, .read), (8, .pure)] mixed (by kernel_rfl) ?_
      refine Can_run (own := []) (by simp (maxSteps := 2000000) (disch := omega) only [go_sem, ↓reduceIte, Int.reduceLT, Int.reduceLE, Int.reduceToNat, Int.reducePow, Int.reduceNeg, Nat.reduceBEq, Tryz.ntmps185, g1, g2] <;> with_reducible rfl) ?_
      refine Can_nil ?_
      refine jif (h1 := fun hd => ?_) (h2 := fun hd => ?_)
      · refine jr (own := []) (h := ?_)
        have hne : s ≠ b := fun e => hd (by simp only [e])
        refine jret Tryz.func185 (h := ⟨by simp [hne], rfl⟩)
      · refine jr (own := []) (h := ?_)
        refine jk [0, 4, 5] (h := ?_)
        refine ih _ _ _ ?_ ⟨i + 1, hlb, rfl, rfl, ?_, ?_⟩
        · omega
        · rw [List.take_add_one, List.take_add_one, heq, List.getElem?_eq_getElem hlt, List.getElem?_eq_getElem hlb]
          have : s[i] = b[i] := by
            apply UInt8.toNat_inj.1; omega
          rw [this]
        · simp only [Int.natCast_add, Int.cast_ofNat_Int]
    · have hi' : i = b.length := by omega
      subst hi'
      refine jr (own := []) (h := ?_)
      have hab : s = b := by
        have := heq
        rwa [List.take_length, ← hsl, List.take_length] at this
      refine jret Tryz.func185 (h := ⟨by simp [hab], rfl⟩)

/-! ### Numbers of eight bytes -/
theorem eight02_ok (b : List UInt8) (at_ : Nat) (h : at_ + 8 ≤ b.length) (hb : b.length < 2 ^ 37) : ACalls Tryz.prog 117 [.agg [.sl 1 (bytesRows b), .c (.int .i64 at_), .c (.int .i64 0)]] []
    (Ret (.tup [.agg [.sl 1 (bytesRows b), .c (.int .i64 ((at_ + 8 : Nat) : Int)), .c (.int .i64 0)], .c (.int .u64 (be8 ((b.drop at_).take 8)).toNat)])) := by
  have hl : ((b.drop at_).take 8).length = 8 := by rw [List.length_take, List.length_drop]; omega
  refine calls_of_J cl_117 Tryz.func117 rfl (by simp [Tryz.ntmps117]) ?_
  refine jr (own := [2]) (h := ?_)
  refine jnv (hh := fun b2 hb2 => ?_)
  simp only [fresh] at hb2
  refine jr (own := []) (h := ?_)
  refine jif (h1 := fun hc => absurd hc (by first | omega | simp)) (h2 := fun _ => ?_)
  refine jr (own := []) (h := ?_)
  refine jif (h1 := fun hc => absurd hc (by first | omega | simp)) (h2 := fun _ => ?_)
  refine jr (own := []) (h := ?_)
  refine jk [1, 2, 4, 5] (h := ?_)
  refine J_loopI (I := fun m e D => ∃ i : Nat, i ≤ 8 ∧ m = 8 - i ∧ D = [.box b2 139 [.c (.slice none 0 0), .c (.int .i64 0), .c (.int .i64 0)]] ∧ e = [(1, .fp [.sl 1 (bytesRows b), .c (.int .i64 at_), .c (.int .i64 0)]), (2, .c (.pointer (some ⟨b2, 0, none⟩))), (4, .c (.int .u64 (be8 (((b.drop at_).take 8).take i)).toNat)), (5, .c (.int .i64 i))]) ?_ ?_
  · exact ⟨_, 0, by omega, rfl, rfl, rfl⟩
  · rintro m e D ⟨i, hi, rfl, rfl, rfl⟩ ih
    refine jr (own := []) (h := ?_)
    refine jif (h1 := fun hc => ?_) (h2 := fun hc => ?_)
    · have hi8 : i < 8 := by omega
      have hlt : i < ((b.drop at_).take 8).length := by omega
      have g0 := List.getElem?_eq_getElem hlt
      have g2 : b[at_ + i]? = some ((b.drop at_).take 8)[i] := by
        rw [List.getElem_take, List.getElem_drop]; exact List.getElem?_eq_getElem (by omega)
      have g1 := bytes_get g2
      have h0 : (0 : Int) ≤ (at_ : Int) + (i : Int) := by omega
      have e1 : ((at_ : Int) + (i : Int)).toNat = at_ + i := by omega
      have hbs : (be8 (((b.drop at_).take 8).take (i + 1))).toNat = ((be8 (((b.drop at_).take 8).take i)).toNat * 256) % 2 ^ 64 + (((b.drop at_).take 8)[i]).toNat := by
        simp only [be8, List.take_add_one (l := (b.drop at_).take 8), g0, Option.toList_some, List.foldl_append, List.foldl_cons, List.foldl_nil]
        exact beStep_nat _ _
      generalize ((b.drop at_).take 8)[i] = c at *
      have hcl := c.toNat_lt
      have hm : m64 ((be8 (((b.drop at_).take 8).take i)).toNat : Int) 256 = (((be8 (((b.drop at_).take 8).take i)).toNat * 256 % 2 ^ 64 : Nat) : Int) := by
        unfold m64; rw [u64_wrap]; omega
      have hcw : IntKind.u64.wrap (c.toNat : Int) = (c.toNat : Int) := by rw [u64_wrap]; omega
      have hw : IntKind.u64.wrap ((((be8 (((b.drop at_).take 8).take i)).toNat * 256 % 2 ^ 64 : Nat) : Int) + ((c.toUInt64.toNat : Nat) : Int)) = ((be8 (((b.drop at_).take 8).take (i + 1))).toNat : Int) := by
        rw [hbs, u64_wrap, UInt8.toNat_toUInt64]
        have := (be8 (((b.drop at_).take 8).take (i + 1))).toNat_lt
        omega
      refine J_mrun (own := []) (m := 2000) (by simp (maxSteps := 2000000) (disch := omega) only [go_sem, ↓reduceIte, Int.reduceLT, Int.reduceLE, Int.reduceToNat, Int.reducePow, Int.reduceNeg, Nat.reduceBEq, Tryz.ntmps117, g1, hm, e1, hw] <;> with_reducible rfl) ?_
      refine jk [1, 2, 4, 5] (h := ?_)
      refine ih _ _ _ ?_ ⟨i + 1, by omega, rfl, rfl, rfl⟩
      omega
    · have hi8 : i = 8 := by omega
      subst hi8
      rw [List.take_of_length_le (l := (b.drop at_).take 8) (by omega)]
      refine jr (own := [6]) (h := ?_)
      refine jnv (hh := fun b6 hb6 => ?_)
      simp only [fresh] at hb6
      refine jf (own := []) hb6 (h := ?_)
      refine J_forget ?_
      refine jretf hb6 Tryz.func117 (h := ⟨rfl, rfl⟩)
theorem stamp05_ok (b : List UInt8) (h : b.length = 8) : ACalls Tryz.prog 146 [.sl 1 (bytesRows b)] [] (Ret (.c (.int .i64 (fitN (be8 b))))) := by
  have he := eight02_ok b 0 (by omega) (by omega)
  rw [List.drop_zero, List.take_of_length_le (by omega), show ((0 : Nat) : Int) = 0 from rfl] at he
  refine calls_of_J cl_146 Tryz.func146 rfl (by simp [Tryz.ntmps146]) ?_
  refine jr (own := []) (h := ?_)
  refine jc (hs := he) (hk := ?_)
  refine jr (own := [3]) (h := ?_)
  refine jnv (hh := fun b3 hb3 => ?_)
  refine jr (own := []) (h := ?_)
  refine jif (h1 := fun hc => ?_) (h2 := fun hc => ?_)
  · refine jr (own := []) (h := ?_)
    refine J_forget ?_
    refine jret Tryz.func146 (h := ⟨by unfold fitN; rw [if_pos (by omega)]; rfl, rfl⟩)
  · have hw : IntKind.i64.wrap ((be8 b).toNat : Int) = ((be8 b).toNat : Int) := by rw [IntKind.wrap_i64]; omega
    refine jf (own := []) hw (h := ?_)
    refine J_forget ?_
    refine jret Tryz.func146 (h := ⟨by unfold fitN; rw [if_neg (by omega)], rfl⟩)
theorem stamps05_ok (b : List UInt8) (hb : b.length < 2 ^ 37) : ACalls Tryz.prog 92 [.sl 1 (bytesRows b)] [] (Ret (.tup [.c (.int .i64 (stampsB b).1), .c (.int .i64 (stampsB b).2)])) := by
  refine calls_of_J cl_92 Tryz.func92 rfl (by simp [Tryz.ntmps92]) ?_
  refine jr (own := []) (h := ?_)
  refine jif (h1 := fun hc => ?_) (h2 := fun hc => ?_)
  · refine jr (own := []) (h := ?_)
    refine jret Tryz.func92 (h := ⟨by unfold stampsB; rw [if_neg (by omega)]; rfl, rfl⟩)
  · have hl : b.length = 256 := by omega
    refine jr (own := []) (h := ?_)
    refine jd [(0, .pure), (1, .pure), (2, .pure), (3, .pure), (4, .pure), (5, .pure), (6, .pure), (7, .pure)] mixed (by kernel_rfl) ?_
    refine cf (own := []) hl (hk := ?_)
    refine ccp (hs := stamp05_ok (b.take 8) (by rw [List.length_take]; omega)) (hk := ?_)
    refine Can_run (own := []) (by simp (maxSteps := 2000000) (disch := omega) only [go_sem, ↓reduceIte, Int.reduceLT, Int.reduceLE, Int.reduceToNat, Int.reducePow, Int.reduceNeg, Nat.reduceBEq, Tryz.ntmps92, hl, List.take_of_length_le (Nat.le_of_eq hl)] <;> with_reducible rfl) ?_
    refine Can_callp (by simp only [go_sem, ↓reduceIte, Int.reduceLT, Int.reduceLE, Int.reduceToNat, Int.reducePow, Int.reduceNeg, Nat.reduceBEq, Tryz.ntmps92, hl, List.take_of_length_le (Nat.le_of_eq hl)] <;> with_reducible rfl) (stamp05_ok (b.drop 248) (by rw [List.length_drop]; omega)) ?_
    refine cr (own := []) (hk := ?_)
    refine Can_nil ?_
    refine jret Tryz.func92 (h := ⟨by unfold stampsB; rw [if_pos hl], rfl⟩)
end Go.Proofs.YtlmahffjidgplaaGreatDoor
end

section
namespace Go.Proofs.YtlmahffjidgplaaGreatDoor
open Go Go.Av
set_option linter.unusedVariables false
set_option linter.unusedSimpArgs false
set_option maxRecDepth 100000
set_option maxHeartbeats 4000000
attribute [local go_sem] packed List.set_cons_zero List.set_cons_succ List.cons_append List.nil_append bytesRows_length leafAV
attribute [-go_sem] cellsOf AV.isCell
attribute [local go_sem] cellsOf_agg cellsOf_int cellsOf_bool cellsOf_str cellsOf_map cellsOf_ptr cellsOf_nilI cellsOf_slice cellsOf_sl cellsOf_ifc cellsOf_fp cellsOf_opt optAV_cell icell_int icell_bool icell_str icell_map icell_ptr icell_nilI icell_slice icell_sl icell_ifc icell_fp

theorem check05_ok (st kd : Int) (b : List UInt8) (hb : b.length < 2 ^ 62) : ACalls Tryz.prog 186 [leafAV st kd (.sl 1 (bytesRows b))] [] (Ret (.c (.int .i64 (checkC st kd b.length)))) := by
  unfold leafAV
  by_cases h1 : st < 1
  · have d1 := decide_eq_true h1
    have hc : checkC st kd b.length = 2 := by unfold checkC; rw [if_pos (.inl h1)]
    refine calls_of_J cl_186 Tryz.func186 rfl (by simp [Tryz.ntmps186]) ?_
    refine J_mrun (own := []) (m := 2000) (by simp (maxSteps := 2000000) (disch := omega) only [go_sem, ↓reduceIte, Int.reduceLT, Int.reduceLE, Int.reduceToNat, Int.reducePow, Int.reduceNeg, Nat.reduceBEq, Tryz.ntmps186, d1] <;> with_reducible rfl) ?_
    refine jt (h := ?_)
    refine jr (own := []) (h := ?_)
    refine jret Tryz.func186 (h := ⟨by rw [hc], rfl⟩)
  have d1 := decide_eq_false h1
  by_cases h2 : st > 1099511627776
  · have d2 := decide_eq_true h2
    have hc : checkC st kd b.length = 2 := by unfold checkC; rw [if_pos (.inr h2)]
    refine calls_of_J cl_186 Tryz.func186 rfl (by simp [Tryz.ntmps186]) ?_
    refine J_mrun (own := []) (m := 2000) (by simp (maxSteps := 2000000) (disch := omega) only [go_sem, ↓reduceIte, Int.reduceLT, Int.reduceLE, Int.reduceToNat, Int.reducePow, Int.reduceNeg, Nat.reduceBEq, Tryz.ntmps186, d1, d2] <;> with_reducible rfl) ?_
    refine jt (h := ?_)
    refine jr (own := []) (h := ?_)
    refine jret Tryz.func186 (h := ⟨by rw [hc], rfl⟩)
  have d2 := decide_eq_false h2
  by_cases h3 : kd < 1
  · have d3 := decide_eq_true h3
    have hc : checkC st kd b.length = 12 := by unfold checkC; rw [if_neg (by omega), if_pos (.inl h3)]
    refine calls_of_J cl_186 Tryz.func186 rfl (by simp [Tryz.ntmps186]) ?_
    refine J_mrun (own := []) (m := 2000) (by simp (maxSteps := 2000000) (disch := omega) only [go_sem, ↓reduceIte, Int.reduceLT, Int.reduceLE, Int.reduceToNat, Int.reducePow, Int.reduceNeg, Nat.reduceBEq, Tryz.ntmps186, d1, d2] <;> with_reducible rfl) ?_
    refine jn (h := ?_)
    refine J_mrun (own := []) (m := 2000) (by simp (maxSteps := 2000000) (disch := omega) only [go_sem, ↓reduceIte, Int.reduceLT, Int.reduceLE, Int.reduceToNat, Int.reducePow, Int.reduceNeg, Nat.reduceBEq, Tryz.ntmps186, d3] <;> with_reducible rfl) ?_
    refine jt (h := ?_)
    refine jr (own := []) (h := ?_)
    refine jret Tryz.func186 (h := ⟨by rw [hc], rfl⟩)
  have d3 := decide_eq_false h3
  by_cases h4 : kd > 5
  · have d4 := decide_eq_true h4
    have hc : checkC st kd b.length = 12 := by unfold checkC; rw [if_neg (by omega), if_pos (.inr h4)]
    refine calls_of_J cl_186 Tryz.func186 rfl (by simp [Tryz.ntmps186]) ?_
    refine J_mrun (own := []) (m := 2000) (by simp (maxSteps := 2000000) (disch := omega) only [go_sem, ↓reduceIte, Int.reduceLT, Int.reduceLE, Int.reduceToNat, Int.reducePow, Int.reduceNeg, Nat.reduceBEq, Tryz.ntmps186, d1, d2] <;> with_reducible rfl) ?_
    refine jn (h := ?_)
    refine J_mrun (own := []) (m := 2000) (by simp (maxSteps := 2000000) (disch := omega) only [go_sem, ↓reduceIte, Int.reduceLT, Int.reduceLE, Int.reduceToNat, Int.reducePow, Int.reduceNeg, Nat.reduceBEq, Tryz.ntmps186, d3, d4] <;> with_reducible rfl) ?_
    refine jt (h := ?_)
    refine jr (own := []) (h := ?_)
    refine jret Tryz.func186 (h := ⟨by rw [hc], rfl⟩)
  have d4 := decide_eq_false h4
  refine calls_of_J cl_186 Tryz.func186 rfl (by simp [Tryz.ntmps186]) ?_
  refine J_mrun (own := []) (m := 2000) (by simp (maxSteps := 2000000) (disch := omega) only [go_sem, ↓reduceIte, Int.reduceLT, Int.reduceLE, Int.reduceToNat, Int.reducePow, Int.reduceNeg, Nat.reduceBEq, Tryz.ntmps186, d1, d2] <;> with_reducible rfl) ?_
  refine jn (h := ?_)
  refine J_mrun (own := []) (m := 2000) (by simp (maxSteps := 2000000) (disch := omega) only [go_sem, ↓reduceIte, Int.reduceLT, Int.reduceLE, Int.reduceToNat, Int.reducePow, Int.reduceNeg, Nat.reduceBEq, Tryz.ntmps186, d3, d4] <;> with_reducible rfl) ?_
  refine jn (h := ?_)
  refine jr (own := []) (h := ?_)
  refine jif (h1 := fun h5 => ?_) (h2 := fun h5 => ?_)
  · have hc : checkC st kd b.length = 3 := by unfold checkC; rw [if_neg (by omega), if_neg (by omega), if_pos (by omega)]
    refine jr (own := []) (h := ?_)
    refine jret Tryz.func186 (h := ⟨by rw [hc], rfl⟩)
  · have hc : checkC st kd b.length = 0 := by unfold checkC; rw [if_neg (by omega), if_neg (by omega), if_neg (by omega)]
    refine jr (own := []) (h := ?_)
    refine jret Tryz.func186 (h := ⟨by rw [hc], rfl⟩)

theorem put05_err (st kd : Int) (b : List UInt8) (hb : b.length < 2 ^ 37) (hc : checkC st kd b.length ≠ 0) :
    ACalls Tryz.prog 213 [leafAV st kd (.sl 1 (bytesRows b))] [] (Ret (.tup [.c (.slice none 0 0), .c (.int .i64 (checkC st kd b.length))])) := by
  have hk := check05_ok st kd b (by omega)
  unfold leafAV at *
  refine calls_of_J cl_213 Tryz.func213 rfl (by simp [Tryz.ntmps213]) ?_
  refine jr (own := []) (h := ?_)
  refine jc (hs := hk) (hk := ?_)
  refine jr (own := []) (h := ?_)
  refine jif (h1 := fun _ => ?_) (h2 := fun hc => absurd (by first | omega | simp) hc)
  refine jr (own := []) (h := ?_)
  refine jret Tryz.func213 (h := ⟨rfl, rfl⟩)
theorem head_zeros (st kd : Nat) (b : List UInt8) (h : b.length ≤ 233) : bodyB st kd b = headB st kd b ++ List.replicate (233 - b.length) 0 := by
  unfold bodyB; rw [headB_len]; congr 2; omega
theorem put05_ok (st kd : Nat) (b : List UInt8) (h1 : 1 ≤ st) (h2 : st ≤ 1099511627776) (h3 : 1 ≤ kd) (h4 : kd ≤ 5) (h5 : b.length ≤ 233) :
    ACalls Tryz.prog 213 [leafAV st kd (.sl 1 (bytesRows b))] [] (Ret (.tup [.sl 1 (bytesRows (putB st kd b)), .c (.int .i64 0)])) := by
  have hc : checkC st kd b.length = 0 := by unfold checkC; rw [if_neg (by omega), if_neg (by omega), if_neg (by omega)]
  have hk := check05_ok st kd b (by omega)
  rw [hc] at hk
  unfold leafAV at *
  refine calls_of_J cl_213 Tryz.func213 rfl (by simp [Tryz.ntmps213]) ?_
  refine jr (own := []) (h := ?_)
  refine jc (hs := hk) (hk := ?_)
  refine jr (own := []) (h := ?_)
  refine jif (h1 := fun hc => absurd hc (by first | omega | simp)) (h2 := fun _ => ?_)
  have hw : IntKind.u64.wrap (st : Int) = st := by rw [u64_wrap]; omega
  refine jf (own := []) hw (h := ?_)
  refine jcs (Δ1 := []) (Fr := []) (hs := ((word02_ok [] st (by simp) (by omega)).nilArg (pre := []))) (hp := (List.Perm.refl _)) (hk := ?_) (hpan := (by rintro x Δ' ⟨v, h, _⟩; cases h))
  rintro x D ⟨v, h, how⟩
  cases h
  have e1 : IntKind.u8.wrap ((b.length : Int) / 256) = ((UInt8.ofNat (b.length / 256)).toNat : Int) := by rw [← wrap8_nat]; rfl
  have e2 : IntKind.u8.wrap ((b.length : Int) % 256) = ((UInt8.ofNat b.length).toNat : Int) := by rw [← wrap8_mod]; rfl
  refine J_mrun (own := [30]) (m := 2000) (by simp (maxSteps := 2000000) (disch := omega) only [go_sem, ↓reduceIte, Int.reduceLT, Int.reduceLE, Int.reduceToNat, Int.reducePow, Int.reduceNeg, Nat.reduceBEq, Tryz.ntmps213, wrap8_nat, e1, e2] <;> with_reducible rfl) ?_
  refine jap (Fr := []) (how := how) (hp := (by simp)) (hsrc := (by simp only [go_sem, srcOf] <;> rfl)) (hc := (by rfl)) (hmax := (by simp [word8])) (hk := ?_)
  rintro _ D2 ⟨v2, _, rfl, rfl, how2⟩
  have how3 : OwnB 5 (word8 st ++ [UInt8.ofNat kd, UInt8.ofNat (b.length / 256), UInt8.ofNat b.length]) v2 D2 := ownB_app (a := word8 st) (b := [UInt8.ofNat kd, UInt8.ofNat (b.length / 256), UInt8.ofNat b.length]) how2
  refine jr (own := [34]) (h := ?_)
  refine jap (Fr := []) (how := how3) (hp := (by simp)) (hsrc := (by simp only [go_sem, srcOf] <;> rfl)) (hc := bytes_cell) (hmax := (by simp [word8]; omega)) (hk := ?_)
  rintro _ D3 ⟨v3, _, rfl, rfl, how4⟩
  have how5 : OwnB 5 (headB st kd b) v3 D3 := ownB_app (b := b) how4
  have hlen := headB_len st kd b
  refine jr (own := []) (h := ?_)
  refine jk [1, 5] (h := ?_)
  refine J_loopI (I := fun m e D => ∃ (j : Nat) (v : Value), j ≤ 233 - b.length ∧ m = 233 - b.length - j ∧ OwnB 5 (headB st kd b ++ List.replicate j 0) v D ∧ e = [(1, .fp [.c (.int .i64 st), .c (.int .i64 kd), .sl 1 (bytesRows b)]), (5, .c v)]) ?_ ?_
  · exact ⟨_, 0, v3, by omega, rfl, by simpa using how5, rfl⟩
  · rintro m e D ⟨j, v, hj, rfl, how, rfl⟩ ih
    have hl : (headB st kd b ++ List.replicate j 0).length = 11 + b.length + j := by rw [List.length_append, hlen, List.length_replicate]
    obtain ⟨a, c, rfl⟩ := how.slice
    rw [hl]
    refine jr (own := []) (h := ?_)
    refine jif (h1 := fun hcl => ?_) (h2 := fun hcl => ?_)
    · have h0 : (0 : Int) = ((0 : UInt8).toNat : Int) := rfl
      refine jr (own := [40]) (h := ?_)
      have how8 : Own 5 1 (bytesRows (headB st kd b ++ List.replicate j 0)).flatten (11 + b.length + j) (.slice a (11 + b.length + j) c) D := by rw [← hl]; exact how
      refine jap (Fr := []) (how := how8) (hp := (by simp)) (hsrc := (by simp only [go_sem, srcOf] <;> rfl)) (hc := (by rfl)) (hmax := (by omega)) (hk := ?_)
      rintro _ D4 ⟨v4, _, rfl, rfl, how6⟩
      have how7 : OwnB 5 (headB st kd b ++ List.replicate (j + 1) 0) v4 D4 := by
        rw [List.replicate_succ', ← List.append_assoc]
        refine ownB_app (b := [0]) ?_
        rw [hl]; exact how6
      refine jr (own := []) (h := ?_)
      refine jk [1, 5] (h := ?_)
      refine ih _ _ _ ?_ ⟨j + 1, v4, by omega, rfl, how7, rfl⟩
      omega
    · have hj' : j = 233 - b.length := by omega
      subst hj'
      rw [← head_zeros st kd b h5] at how hl
      have hl7 := bodyB_len st kd b h5
      rw [← hl]
      refine jr (own := []) (h := ?_)
      refine J_freezeB (Fr := []) how (by unfold maxRows; omega) ?_
      refine J_is (t := 5) (by simp only [go_sem] <;> rfl) (List.mem_cons_self ..) (J_drop ?_)
      refine jd [(0, .pure), (1, .pure), (2, .pure), (3, .pure), (4, .pure), (5, .pure), (6, .pure), (7, .pure)] mixed (by kernel_rfl) ?_
      refine cf (own := []) hw (hk := ?_)
      refine ccp (hs := seal03_ok (bodyB st kd b) (by omega)) (hk := ?_)
      refine cf (own := []) hw (hk := ?_)
      refine ccp (hs := word02_fz (sealB (bodyB st kd b)) st (by rw [sealB_len]; omega) (by omega)) (hk := ?_)
      refine cr (own := []) (hk := ?_)
      refine Can_nil ?_
      refine jret Tryz.func213 (h := ⟨rfl, rfl⟩)

end Go.Proofs.YtlmahffjidgplaaGreatDoor
end

section
namespace Go.Proofs.YtlmahffjidgplaaGreatDoor
open Go Go.Av
set_option linter.unusedVariables false
set_option linter.unusedSimpArgs false
set_option maxRecDepth 100000
set_option maxHeartbeats 4000000
attribute [local go_sem] packed List.set_cons_zero List.set_cons_succ List.cons_append List.nil_append bytesRows_length leafAV
attribute [-go_sem] cellsOf AV.isCell
attribute [local go_sem] cellsOf_agg cellsOf_int cellsOf_bool cellsOf_str cellsOf_map cellsOf_ptr cellsOf_nilI cellsOf_slice cellsOf_sl cellsOf_ifc cellsOf_fp cellsOf_opt optAV_cell icell_int icell_bool icell_str icell_map icell_ptr icell_nilI icell_slice icell_sl icell_ifc icell_fp

theorem be8_inj {a b : List UInt8} (ha : a.length = 8) (hb : b.length = 8) (h : be8 a = be8 b) : a = b := by
  have key : ∀ l : List UInt8, l.length = 8 → l = word8 (be8 l).toNat := by
    intro l hl
    match l, hl with
    | [c0, c1, c2, c3, c4, c5, c6, c7], _ =>
      have h0 := c0.toNat_lt
      have h1 := c1.toNat_lt
      have h2 := c2.toNat_lt
      have h3 := c3.toNat_lt
      have h4 := c4.toNat_lt
      have h5 := c5.toNat_lt
      have h6 := c6.toNat_lt
      have h7 := c7.toNat_lt
      unfold be8 word8
      simp only [List.foldl_cons, List.foldl_nil, beStep_nat, UInt64.toNat_zero]
      simp only [List.cons.injEq, and_true]
      refine ⟨?_, ?_, ?_, ?_, ?_, ?_, ?_, ?_⟩ <;> (apply UInt8.toNat_inj.1; rw [UInt8.toNat_ofNat']; omega)
  rw [key a ha, key b hb, h]

theorem get05_ok (b : List UInt8) (hb : b.length < 2 ^ 37) : ACalls Tryz.prog 132 [.sl 1 (bytesRows b)] [] (Ret (.tup [if getC b = 0 then leafAV (stampsB b).1 (kdB b) (.sl 1 (bytesRows (txtB b))) else leafAV 0 0 (.c (.slice none 0 0)), .c (.int .i64 (getC b))])) := by
  unfold leafAV
  refine calls_of_J cl_132 Tryz.func132 rfl (by simp [Tryz.ntmps132]) ?_
  refine jr (own := [2, 4]) (h := ?_)
  refine jnv (hh := fun b2 hb2 => ?_)
  refine jr (own := [4]) (h := ?_)
  refine jnv (hh := fun b4 hb4 => ?_)
  simp only [fresh] at hb4
  refine jf (own := []) hb4 (h := ?_)
  refine jif (h1 := fun hc => ?_) (h2 := fun hc => ?_)
  · have hg : getC b = 6 := by unfold getC; rw [if_pos (by omega)]
    refine jf (own := []) hb4 (h := ?_)
    refine J_forget ?_
    refine jretf hb4 Tryz.func132 (h := ⟨by rw [hg]; rfl, rfl⟩)
  have hl : b.length = 256 := by omega
  have g8 := bytes_get (getD_get (b := b) (i := 8) (by omega))
  have g9 := bytes_get (getD_get (b := b) (i := 9) (by omega))
  have g10 := bytes_get (getD_get (b := b) (i := 10) (by omega))
  have hd8 : (b.drop 248).length = 8 := by rw [List.length_drop]; omega
  have ht8 : (b.take 8).length = 8 := by rw [List.length_take]; omega
  refine jr (own := []) (h := ?_)
  refine jd [(0, .pure), (1, .pure), (2, .pure), (3, .pure), (4, .pure), (5, .pure)] mixed (by kernel_rfl) ?_
  refine Can_run (own := []) (by simp (maxSteps := 2000000) (disch := omega) only [go_sem, ↓reduceIte, Int.reduceLT, Int.reduceLE, Int.reduceToNat, Int.reducePow, Int.reduceNeg, Nat.reduceBEq, Tryz.ntmps132, hl, List.take_of_length_le (Nat.le_of_eq hl)] <;> with_reducible rfl) ?_
  refine Can_callp (by simp only [go_sem, ↓reduceIte, Int.reduceLT, Int.reduceLE, Int.reduceToNat, Int.reducePow, Int.reduceNeg, Nat.reduceBEq, Tryz.ntmps132, hl, List.take_of_length_le (Nat.le_of_eq hl)] <;> with_reducible rfl) (same02_ok (b.take 8) (b.drop 248) (by omega)) ?_
  refine cr (own := []) (hk := ?_)
  refine Can_nil ?_
  by_cases he : b.take 8 = b.drop 248
  rotate_left
  · have hg : getC b = 8 := by unfold getC; rw [if_neg (by omega), if_pos (fun h => he (be8_inj ht8 hd8 h))]
    have d1 := decide_eq_false he
    refine J_mrun (own := []) (m := 2000) (by simp (maxSteps := 2000000) (disch := omega) only [go_sem, ↓reduceIte, Int.reduceLT, Int.reduceLE, Int.reduceToNat, Int.reducePow, Int.reduceNeg, Nat.reduceBEq, Tryz.ntmps132, d1] <;> with_reducible rfl) ?_
    refine jt (h := ?_)
    refine jf (own := []) hb4 (h := ?_)
    refine J_forget ?_
    refine jretf hb4 Tryz.func132 (h := ⟨by rw [hg]; rfl, rfl⟩)
  have h8' : ¬ be8 (b.take 8) ≠ be8 (b.drop 248) := fun h => h (by rw [he])
  have d1 := decide_eq_true he
  have hst : stampsB b = (fitN (be8 (b.take 8)), fitN (be8 (b.take 8))) := by unfold stampsB; rw [if_pos hl, he]
  refine J_mrun (own := []) (m := 2000) (by simp (maxSteps := 2000000) (disch := omega) only [go_sem, ↓reduceIte, Int.reduceLT, Int.reduceLE, Int.reduceToNat, Int.reducePow, Int.reduceNeg, Nat.reduceBEq, Tryz.ntmps132, d1] <;> with_reducible rfl) ?_
  refine jn (h := ?_)
  refine jf (own := []) hl (h := ?_)
  refine jc (hs := stamp05_ok (b.take 8) ht8) (hk := ?_)
  refine jr (own := []) (h := ?_)
  refine jif (h1 := fun hs => ?_) (h2 := fun hs => ?_)
  · have hg : getC b = 9 := by unfold getC; rw [if_neg (by omega), if_neg h8', if_pos (by rw [hst]; omega)]
    refine jf (own := []) hb4 (h := ?_)
    refine J_forget ?_
    refine jretf hb4 Tryz.func132 (h := ⟨by rw [hg]; rfl, rfl⟩)
  have hsn : ¬ ((stampsB b).1 = 0 ∨ (stampsB b).2 = 0) := by rw [hst]; simp only; omega
  have hstn : ((stampsB b).1 : Int) = (fitN (be8 (b.take 8)) : Int) := by rw [hst]
  refine jf (own := []) hl (h := ?_)
  refine jc (hs := fits03_ok (b.take 248) (by rw [List.length_take]; omega) (by rw [List.length_take]; omega)) (hk := ?_)
  refine jr (own := []) (h := ?_)
  cases hf : fitsB (b.take 248) with
  | false =>
    have hg : getC b = 7 := by unfold getC; rw [if_neg (by omega), if_neg h8', if_neg hsn, if_pos hf]
    refine jt (h := ?_)
    refine jf (own := []) hb4 (h := ?_)
    refine J_forget ?_
    refine jretf hb4 Tryz.func132 (h := ⟨by rw [hg]; rfl, rfl⟩)
  | true =>
  refine jn (h := ?_)
  refine jr (own := []) (h := ?_)
  have c9 := (b.getD 9 0).toNat_lt
  have c10 := (b.getD 10 0).toNat_lt
  refine jd [(0, .pure), (1, .pure), (2, .read), (3, .pure), (4, .pure), (5, .pure), (6, .pure), (7, .read), (8, .pure), (9, .pure), (10, .pure)] mixed (by kernel_rfl) ?_
  refine Can_run (own := []) (by simp (maxSteps := 2000000) (disch := omega) only [go_sem, ↓reduceIte, Int.reduceLT, Int.reduceLE, Int.reduceToNat, Int.reducePow, Int.reduceNeg, Nat.reduceBEq, Tryz.ntmps132, g9, g10, hl] <;> with_reducible rfl) ?_
  refine Can_nil ?_
  have hn : ((b.getD 9 0).toNat : Int) * 256 + ((b.getD 10 0).toNat : Int) = (nB b : Int) := by unfold nB; omega
  rw [hn]
  refine jr (own := []) (h := ?_)
  refine jif (h1 := fun h5 => ?_) (h2 := fun h5 => ?_)
  · have hg : getC b = 5 := by unfold getC; rw [if_neg (by omega), if_neg h8', if_neg hsn, if_neg (by simp [hf]), if_pos (by omega)]
    refine jf (own := []) hb4 (h := ?_)
    refine J_forget ?_
    refine jretf hb4 Tryz.func132 (h := ⟨by rw [hg]; rfl, rfl⟩)
  have hn5 : nB b ≤ 233 := by omega
  have htl : (txtB b).length = nB b := by unfold txtB; rw [List.length_take, List.length_drop]; omega
  refine jr (own := []) (h := ?_)
  refine jd [(0, .pure), (1, .pure), (2, .pure), (3, .pure), (4, .pure), (5, .pure), (6, .pure), (7, .pure), (8, .new), (9, .act)] mixed (by kernel_rfl) ?_
  refine Can_run (own := [6]) (by simp (maxSteps := 2000000) (disch := omega) only [go_sem, ↓reduceIte, Int.reduceLT, Int.reduceLE, Int.reduceToNat, Int.reducePow, Int.reduceNeg, Nat.reduceBEq, Tryz.ntmps132, hl, g8] <;> with_reducible rfl) ?_
  refine Can_callp (by simp only [go_sem, ↓reduceIte, Int.reduceLT, Int.reduceLE, Int.reduceToNat, Int.reducePow, Int.reduceNeg, Nat.reduceBEq, Tryz.ntmps132, hl] <;> with_reducible rfl) (stamp05_ok (b.take 8) ht8) ?_
  refine Can_run (own := [6]) (by simp (maxSteps := 2000000) (disch := omega) only [go_sem, ↓reduceIte, Int.reduceLT, Int.reduceLE, Int.reduceToNat, Int.reducePow, Int.reduceNeg, Nat.reduceBEq, Tryz.ntmps132, hl, g8] <;> with_reducible rfl) ?_
  refine cnv (hk := fun b6 hb6 => ?_)
  simp only [fresh] at hb6
  refine cf (own := []) hb6 (hk := ?_)
  refine Can_nil ?_
  have hk : ((b.getD 8 0).toNat : Int) = ((kdB b : Nat) : Int) := rfl
  rw [hk]
  rw [← hstn]
  have hck := check05_ok (stampsB b).1 (kdB b) (txtB b) (by omega)
  rw [htl] at hck
  unfold leafAV at hck
  refine jf (own := []) hb6 (h := ?_)
  refine jd [(0, .pure), (1, .read), (2, .pure), (3, .pure), (4, .pure), (5, .pure), (6, .pure), (7, .pure), (8, .act)] mixed (by kernel_rfl) ?_
  refine cf (own := []) (a2 hl hb6) (hk := ?_)
  rw [show List.drop 11 (List.take ((11 : Int) + (nB b : Int)).toNat b) = txtB b from be_slice b 11 (nB b) (by omega)]
  refine Can_nil ?_
  refine jf (own := []) hb6 (h := ?_)
  refine jc (hs := hck) (hk := ?_)
  refine jf (own := []) hb6 (h := ?_)
  refine jif (h1 := fun hcc => ?_) (h2 := fun hcc => ?_)
  · have hg : getC b = checkC (stampsB b).1 (kdB b) (nB b) := by unfold getC; rw [if_neg (by omega), if_neg h8', if_neg hsn, if_neg (by simp [hf]), if_neg (by omega), if_pos hcc]
    refine jf (own := []) (a2 hb6 hb4) (h := ?_)
    refine J_forget ?_
    refine jretf (a2 hb6 hb4) Tryz.func132 (h := ⟨by rw [hg, if_neg hcc], rfl⟩)
  have hrl : (restB b).length = 233 - nB b := by unfold restB; rw [List.length_take, List.length_drop]; omega
  have h70 : getC b = if blankB (restB b) = false then 5 else 0 := by
    unfold getC; rw [if_neg (by omega), if_neg h8', if_neg hsn, if_neg (by simp [hf]), if_neg (by omega), if_neg hcc]
  have hrg : ∀ j, j < 233 - nB b → b[11 + nB b + j]? = (restB b)[j]? := fun j hj => by
    unfold restB; rw [List.getElem?_take_of_lt hj, List.getElem?_drop]
  generalize restB b = w at hrl h70 hrg
  refine jr (own := []) (h := ?_)
  refine jk [0, 2, 4, 6, 8] (h := ?_)
  refine J_loopI (I := fun m e D => ∃ i : Nat, i ≤ w.length ∧ m = w.length - i ∧ D = [.box b6 162 [.c (.int .i64 (stampsB b).1), .c (.int .i64 (kdB b)), .sl 1 (bytesRows (txtB b))], .box b4 162 [.c (.int .i64 0), .c (.int .i64 0), .c (.slice none 0 0)], .box b2 162 [.c (.int .i64 0), .c (.int .i64 0), .c (.slice none 0 0)]] ∧ blankB (w.take i) = true ∧ e = [(0, .sl 1 (bytesRows b)), (2, .c (.pointer (some ⟨b2, 0, none⟩))), (4, .c (.pointer (some ⟨b4, 0, none⟩))), (6, .c (.pointer (some ⟨b6, 0, none⟩))), (8, .c (.int .i64 ((11 : Int) + (nB b : Int) + (i : Int))))]) ?_ ?_
  · exact ⟨_, 0, by omega, rfl, rfl, rfl, by simp⟩
  · rintro m e D ⟨i, hi, rfl, rfl, hz, rfl⟩ ih
    refine jr (own := []) (h := ?_)
    refine jif (h1 := fun hcl => ?_) (h2 := fun hcl => ?_)
    · have hlt : i < w.length := by omega
      have g0 := List.getElem?_eq_getElem hlt
      have g1 := bytes_get ((hrg i (by omega)).trans g0)
      have h0 : (0 : Int) ≤ (i : Int) := by omega
      have e1 : ((11 : Int) + (nB b : Int) + (i : Int)).toNat = 11 + nB b + i := by omega
      refine J_mrun (own := []) (m := 2000) (by simp (maxSteps := 2000000) (disch := omega) only [go_sem, ↓reduceIte, Int.reduceLT, Int.reduceLE, Int.reduceToNat, Int.reducePow, Int.reduceNeg, Nat.reduceBEq, Tryz.ntmps132, g1, e1, hl] <;> with_reducible rfl) ?_
      refine jif (h1 := fun hnz => ?_) (h2 := fun hnz => ?_)
      · have hbf : blankB w = false := by
          simp only [blankB, List.all_eq_false]
          exact ⟨w[i], List.getElem_mem hlt, by
            intro hz0
            have : w[i] = 0 := by simpa using hz0
            rw [this] at hnz; exact hnz rfl⟩
        rw [if_pos hbf] at h70
        refine jf (own := []) (a2 hb6 hb4) (h := ?_)
        refine J_forget ?_
        refine jretf (a2 hb6 hb4) Tryz.func132 (h := ⟨by rw [h70]; rfl, rfl⟩)
      · refine jr (own := []) (h := ?_)
        refine jk [0, 2, 4, 6, 8] (h := ?_)
        refine ih _ _ _ ?_ ⟨i + 1, by omega, rfl, rfl, ?_, ?_⟩
        · omega
        · simp only [blankB] at hz ⊢
          rw [List.take_add_one, g0, List.all_append, hz]
          have : w[i] = 0 := by
            apply UInt8.toNat_inj.1
            have : ¬ ((w[i].toNat : Int) ≠ 0) := hnz
            simp only [UInt8.toNat_ofNat]; omega
          simp [this]
        · simp only [Int.natCast_add, Int.cast_ofNat_Int, Int.add_assoc]
    · have hi' : i = w.length := by omega
      subst hi'
      rw [List.take_length] at hz
      rw [if_neg (by simp [hz])] at h70
      refine jf (own := []) (a2 hb6 hb4) (h := ?_)
      refine J_forget ?_
      refine jretf (a2 hb6 hb4) Tryz.func132 (h := ⟨by rw [h70]; rfl, rfl⟩)
end Go.Proofs.YtlmahffjidgplaaGreatDoor
end

section
namespace Go.Proofs.YtlmahffjidgplaaGreatDoor
open Go Go.Av
set_option linter.unusedVariables false
set_option linter.unusedSimpArgs false
set_option maxRecDepth 100000
set_option maxHeartbeats 4000000
/-! ### The document's device -/
def chRow (p : Int × Option (List UInt8)) : List AV := [.c (.int .i64 p.1), .sl 1 (bytesRows (p.2.getD [])), .c (.bool p.2.isNone)]
def chRows (l : List (Int × Option (List UInt8))) : List (List AV) := l.map chRow
theorem chRows_len (l : List (Int × Option (List UInt8))) : (chRows l).length = l.length := by simp [chRows]
theorem chRows_row (l : List (Int × Option (List UInt8))) : ∀ r ∈ chRows l, r.length = 3 := by
  intro r hr
  obtain ⟨p, _, rfl⟩ := List.mem_map.1 hr
  rfl
theorem chRows_get {l : List (Int × Option (List UInt8))} {i : Nat} {p : Int × Option (List UInt8)} (h : l[i]? = some p) : (chRows l)[i]? = some [.c (.int .i64 p.1), .sl 1 (bytesRows (p.2.getD [])), .c (.bool p.2.isNone)] := by simp [chRows, h, chRow]
def rCells (r : Fl) : List AV := [.c (.int .i64 r.pages), .sl 2 (cellRows r.safe), .sl 3 (chRows r.loose), .c (.int .i64 r.fuse), .c (.bool r.down), .c (.int .i64 r.done)]
def rAV (r : Fl) : AV := .agg (rCells r)

attribute [local go_sem] packed List.set_cons_zero List.set_cons_succ List.cons_append List.nil_append bytesRows_length cellRows_len chRows_len rCells
attribute [-go_sem] cellsOf AV.isCell
attribute [local go_sem] cellsOf_agg cellsOf_int cellsOf_bool cellsOf_str cellsOf_map cellsOf_ptr cellsOf_nilI cellsOf_slice cellsOf_sl cellsOf_ifc cellsOf_fp cellsOf_opt optAV_cell icell_int icell_bool icell_str icell_map icell_ptr icell_nilI icell_slice icell_sl icell_ifc icell_fp

theorem check04_ok (r : Fl) (at_ : Int) : ACalls Tryz.prog 184 [rAV r, .c (.int .i64 at_)] [] (Ret (.c (.int .i64 (checkF r at_)))) := by
  unfold rAV
  cases hd : r.down with
  | true =>
    have hc : checkF r at_ = 11 := by unfold checkF; rw [if_pos hd]
    refine calls_of_J cl_184 Tryz.func184 rfl (by simp [Tryz.ntmps184]) ?_
    refine jf (own := []) hd (h := ?_)
    refine jt (h := ?_)
    refine jr (own := []) (h := ?_)
    refine jret Tryz.func184 (h := ⟨by rw [hc], rfl⟩)
  | false =>
    by_cases h1 : at_ < 0
    · have d1 := decide_eq_true h1
      have hc : checkF r at_ = 2 := by unfold checkF; rw [if_neg (by simp [hd]), if_pos (.inl h1)]
      refine calls_of_J cl_184 Tryz.func184 rfl (by simp [Tryz.ntmps184]) ?_
      refine jf (own := []) hd (h := ?_)
      refine jn (h := ?_)
      refine J_mrun (own := []) (m := 2000) (by simp (maxSteps := 2000000) (disch := omega) only [go_sem, ↓reduceIte, Int.reduceLT, Int.reduceLE, Int.reduceToNat, Int.reducePow, Int.reduceNeg, Nat.reduceBEq, Tryz.ntmps184, d1] <;> with_reducible rfl) ?_
      refine jt (h := ?_)
      refine jr (own := []) (h := ?_)
      refine jret Tryz.func184 (h := ⟨by rw [hc], rfl⟩)
    · have d1 := decide_eq_false h1
      by_cases h2 : at_ ≥ r.pages
      · have d2 := decide_eq_true h2
        have hc : checkF r at_ = 2 := by unfold checkF; rw [if_neg (by simp [hd]), if_pos (.inr h2)]
        refine calls_of_J cl_184 Tryz.func184 rfl (by simp [Tryz.ntmps184]) ?_
        refine jf (own := []) hd (h := ?_)
        refine jn (h := ?_)
        refine J_mrun (own := []) (m := 2000) (by simp (maxSteps := 2000000) (disch := omega) only [go_sem, ↓reduceIte, Int.reduceLT, Int.reduceLE, Int.reduceToNat, Int.reducePow, Int.reduceNeg, Nat.reduceBEq, Tryz.ntmps184, d1, d2] <;> with_reducible rfl) ?_
        refine jt (h := ?_)
        refine jr (own := []) (h := ?_)
        refine jret Tryz.func184 (h := ⟨by rw [hc], rfl⟩)
      · have d2 := decide_eq_false h2
        have hc : checkF r at_ = 0 := by unfold checkF; rw [if_neg (by simp [hd]), if_neg (by omega)]
        refine calls_of_J cl_184 Tryz.func184 rfl (by simp [Tryz.ntmps184]) ?_
        refine jf (own := []) hd (h := ?_)
        refine jn (h := ?_)
        refine J_mrun (own := []) (m := 2000) (by simp (maxSteps := 2000000) (disch := omega) only [go_sem, ↓reduceIte, Int.reduceLT, Int.reduceLE, Int.reduceToNat, Int.reducePow, Int.reduceNeg, Nat.reduceBEq, Tryz.ntmps184, d1, d2] <;> with_reducible rfl) ?_
        refine jn (h := ?_)
        refine jr (own := []) (h := ?_)
        refine jret Tryz.func184 (h := ⟨by rw [hc], rfl⟩)

theorem burns04_ok (r : Fl) (hd : r.down = false) (hw : r.WF') : ACalls Tryz.prog 226 [rAV r] [] (Ret (.tup [rAV (burnS r), .c (.bool (burnB r))])) := by
  have q1 := hw.f1
  have q2 := hw.f2
  have q3 := hw.d1
  have q4 := hw.d2
  unfold rAV
  refine calls_of_J cl_226 Tryz.func226 rfl (by simp [Tryz.ntmps226]) ?_
  refine jr (own := [2, 4]) (h := ?_)
  refine jnv (hh := fun b2 hb2 => ?_)
  refine jr (own := [4]) (h := ?_)
  refine jnv (hh := fun b4 hb4 => ?_)
  simp only [fresh] at hb4
  refine jf (own := []) hb4 (h := ?_)
  refine jif (h1 := fun hc => ?_) (h2 := fun hc => ?_)
  · have hS : burnS r = { r with done := r.done + 1 } := by unfold burnS; rw [if_pos hc]
    have hB : burnB r = false := by unfold burnB; simp [hc]
    refine jf (own := []) hb4 (h := ?_)
    refine J_forget ?_
    refine jretf hb4 Tryz.func226 (h := ⟨by rw [hS, hB]; rfl, rfl⟩)
  · refine jf (own := []) hb4 (h := ?_)
    refine jif (h1 := fun hf => ?_) (h2 := fun hf => ?_)
    · have hS : burnS r = { r with done := r.done + 1, fuse := r.fuse - 1, down := true } := by unfold burnS; rw [if_neg hc, show decide (r.fuse - 1 < 0) = true from decide_eq_true (by omega)]
      have hB : burnB r = true := by unfold burnB; rw [decide_eq_true hc, decide_eq_true (show r.fuse - 1 < 0 by omega)]; rfl
      refine jf (own := []) hb4 (h := ?_)
      refine J_forget ?_
      refine jretf hb4 Tryz.func226 (h := ⟨by rw [hS, hB]; rfl, rfl⟩)
    · have hS : burnS r = { r with done := r.done + 1, fuse := r.fuse - 1 } := by unfold burnS; rw [if_neg hc, show decide (r.fuse - 1 < 0) = false from decide_eq_false (by omega), ← hd]
      have hB : burnB r = false := by unfold burnB; rw [decide_eq_false (show ¬ r.fuse - 1 < 0 by omega)]; simp
      refine jf (own := []) hb4 (h := ?_)
      refine J_forget ?_
      refine jretf hb4 Tryz.func226 (h := ⟨by rw [hS, hB]; rfl, rfl⟩)

theorem blank04_ok (b : List UInt8) (hb : b.length < 2 ^ 62) : ACalls Tryz.prog 145 [.sl 1 (bytesRows b)] [] (Ret (.c (.bool (blankB b)))) := by
  refine calls_of_J cl_145 Tryz.func145 rfl (by simp [Tryz.ntmps145]) ?_
  refine jr (own := []) (h := ?_)
  refine jk [0, 3] (h := ?_)
  refine J_loopI (I := fun m e D => ∃ i : Nat, i ≤ b.length ∧ m = b.length - i ∧ D = [] ∧ blankB (b.take i) = true ∧ e = [(0, .sl 1 (bytesRows b)), (3, .c (.int .i64 i))]) ?_ ?_
  · exact ⟨_, 0, by omega, rfl, rfl, rfl, rfl⟩
  · rintro m e D ⟨i, hi, rfl, rfl, hz, rfl⟩ ih
    refine jr (own := []) (h := ?_)
    refine jif (h1 := fun hcl => ?_) (h2 := fun hcl => ?_)
    · have hlt : i < b.length := by omega
      have g0 := List.getElem?_eq_getElem hlt
      have g1 := bytes_get g0
      have h0 : (0 : Int) ≤ (i : Int) := by omega
      refine J_mrun (own := []) (m := 2000) (by simp (maxSteps := 2000000) (disch := omega) only [go_sem, ↓reduceIte, Int.reduceLT, Int.reduceLE, Int.reduceToNat, Int.reducePow, Int.reduceNeg, Nat.reduceBEq, Tryz.ntmps145, g1] <;> with_reducible rfl) ?_
      refine jif (h1 := fun hnz => ?_) (h2 := fun hnz => ?_)
      · have hbf : blankB b = false := by
          simp only [blankB, List.all_eq_false]
          exact ⟨b[i], List.getElem_mem hlt, by
            intro hz0
            have : b[i] = 0 := by simpa using hz0
            rw [this] at hnz; exact hnz rfl⟩
        refine jr (own := []) (h := ?_)
        refine jret Tryz.func145 (h := ⟨by rw [hbf], rfl⟩)
      · refine jr (own := []) (h := ?_)
        refine jk [0, 3] (h := ?_)
        refine ih _ _ _ ?_ ⟨i + 1, by omega, rfl, rfl, ?_, ?_⟩
        · omega
        · simp only [blankB] at hz ⊢
          rw [List.take_add_one, g0, List.all_append, hz]
          have : b[i] = 0 := by
            apply UInt8.toNat_inj.1
            have : ¬ ((b[i].toNat : Int) ≠ 0) := hnz
            simp only [UInt8.toNat_ofNat]; omega
          simp [this]
        · simp only [Int.natCast_add, Int.cast_ofNat_Int]
    · have hi' : i = b.length := by omega
      subst hi'
      rw [List.take_length] at hz
      refine jr (own := []) (h := ?_)
      refine jret Tryz.func145 (h := ⟨by rw [hz], rfl⟩)

theorem find_take_none {l : List (Int × List UInt8)} {k : Int} {i : Nat} (h : ∀ j, j < i → ∀ p, l[j]? = some p → p.1 ≠ k) {p : Int × List UInt8} (hp : l[i]? = some p) : findM l k = if p.1 = k then some p.2 else findM (l.drop i) k := by
  induction l generalizing i with
  | nil => simp at hp
  | cons q l ih =>
    cases i with
    | zero =>
      simp at hp; subst hp
      unfold findM
      by_cases hk : q.1 = k
      · simp [hk]
      · simp only [hk, if_false]; simp [findM, hk]
    | succ i =>
      have h0 := h 0 (by omega) q rfl
      have := ih (i := i) (fun j hj p hp => h (j + 1) (by omega) p (by simpa using hp)) (by simpa using hp)
      rw [List.drop_succ_cons, ← this]
      conv => lhs; unfold findM
      simp only [h0, if_false]
theorem find_all_none {l : List (Int × List UInt8)} {k : Int} (h : ∀ j, j < l.length → ∀ p, l[j]? = some p → p.1 ≠ k) : findM l k = none := by
  rw [findM_none]
  intro hk
  obtain ⟨p, hp, rfl⟩ := List.mem_map.1 hk
  obtain ⟨j, hj, rfl⟩ := List.getElem_of_mem hp
  exact h j hj _ (List.getElem?_eq_getElem hj) rfl
theorem mk256_op {env : Env} {Δ : List HP} {o : Oper} {x y : Operand} (hop : o.op = .makeSlice 27 x y) (hx : env.eval x = some (.c (.int .i64 256))) (hy : env.eval y = some (.c (.int .i64 256))) :
    OpOK Tryz.prog env Δ o (fun r Δ' => r = .sl 1 (bytesRows z256) ∧ Δ' = Δ) := by
  have h := mkz_op (P := Tryz.prog) (Δ := Δ) (env := env) (n := 256) (s := 1) (zs := [.int .u8 0]) hop Tryz.underlying27 tb_5 tk_5 tz_5 rfl (by decide) (by decide) (by decide) (by decide) hx hy
  have e : List.replicate 256 ([Value.int .u8 0].map AV.c) = bytesRows z256 := by rfl
  rw [e] at h
  exact h
theorem safe04_ok (l : List (Int × List UInt8)) (at_ : Int) (hl : l.length < 2 ^ 60) : ACalls Tryz.prog 179 [.sl 2 (cellRows l), .c (.int .i64 at_)] [] (Ret (.sl 1 (bytesRows (pageOr l at_)))) := by
  refine calls_of_J cl_179 Tryz.func179 rfl (by simp [Tryz.ntmps179]) ?_
  refine jr (own := []) (h := ?_)
  refine jk [0, 1, 5] (h := ?_)
  refine J_loopI (I := fun m e D => ∃ i : Nat, i ≤ l.length ∧ m = l.length - i ∧ D = [] ∧ (∀ j, j < i → ∀ p, l[j]? = some p → p.1 ≠ at_) ∧ e = [(0, .sl 2 (cellRows l)), (1, .c (.int .i64 at_)), (5, .c (.int .i64 i))]) ?_ ?_
  · exact ⟨_, 0, by omega, rfl, rfl, fun j hj => by omega, rfl⟩
  · rintro m e D ⟨i, hi, rfl, rfl, hz, rfl⟩ ih
    refine jr (own := []) (h := ?_)
    refine jif (h1 := fun hcl => ?_) (h2 := fun hcl => ?_)
    · have hlt : i < l.length := by omega
      have g0 := List.getElem?_eq_getElem hlt
      have g1 := cellRows_get g0
      have h0 : (0 : Int) ≤ (i : Int) := by omega
      refine J_mrun (own := []) (m := 2000) (by simp (maxSteps := 2000000) (disch := omega) only [go_sem, ↓reduceIte, Int.reduceLT, Int.reduceLE, Int.reduceToNat, Int.reducePow, Int.reduceNeg, Nat.reduceBEq, Tryz.ntmps179, g1] <;> with_reducible rfl) ?_
      refine jif (h1 := fun hk => ?_) (h2 := fun hk => ?_)
      · have hf : pageOr l at_ = l[i].2 := by unfold pageOr; rw [find_take_none hz g0, if_pos hk]; rfl
        refine J_mrun (own := []) (m := 2000) (by simp (maxSteps := 2000000) (disch := omega) only [go_sem, ↓reduceIte, Int.reduceLT, Int.reduceLE, Int.reduceToNat, Int.reducePow, Int.reduceNeg, Nat.reduceBEq, Tryz.ntmps179, g1] <;> with_reducible rfl) ?_
        refine jret Tryz.func179 (h := ⟨by rw [hf], rfl⟩)
      · refine jr (own := []) (h := ?_)
        refine jk [0, 1, 5] (h := ?_)
        refine ih _ _ _ ?_ ⟨i + 1, by omega, rfl, rfl, ?_, ?_⟩
        · omega
        · intro j hj p hp
          by_cases hji : j = i
          · subst hji; rw [g0] at hp; cases hp; exact hk
          · exact hz j (by omega) p hp
        · simp only [Int.natCast_add, Int.cast_ofNat_Int]
    · have hi' : i = l.length := by omega
      subst hi'
      have hf : pageOr l at_ = z256 := by unfold pageOr; rw [find_all_none hz]; rfl
      refine jr (own := []) (h := ?_)
      refine jop (ho := rfl) (hh := mk256_op rfl (by simp only [go_sem, ↓reduceIte, Int.reduceLT, Int.reduceLE, Int.reduceToNat, Int.reducePow, Int.reduceNeg, Nat.reduceBEq] <;> with_reducible rfl) (by simp only [go_sem, ↓reduceIte, Int.reduceLT, Int.reduceLE, Int.reduceToNat, Int.reducePow, Int.reduceNeg, Nat.reduceBEq] <;> with_reducible rfl)) (hk := ?_)
      rintro _ _ ⟨rfl, rfl⟩
      refine jr (own := []) (h := ?_)
      refine jret Tryz.func179 (h := ⟨by rw [hf], rfl⟩)
end Go.Proofs.YtlmahffjidgplaaGreatDoor
end
