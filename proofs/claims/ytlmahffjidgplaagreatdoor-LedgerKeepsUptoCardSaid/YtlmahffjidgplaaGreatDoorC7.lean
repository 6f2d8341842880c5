/- A part of the proof: what the calls do, told by values. -/
import Derived.Test.YtlmahffjidgplaaGreatDoorC1
import Derived.Test.YtlmahffjidgplaaGreatDoorA9
import Derived.Test.YtlmahffjidgplaaGreatDoorC4
section
namespace Go.Proofs.YtlmahffjidgplaaGreatDoor
open Go Go.Av
set_option linter.unusedVariables false
set_option linter.unusedSimpArgs false
set_option maxRecDepth 100000
set_option maxHeartbeats 4000000
attribute [local go_sem] packed

/-! ### Is a fault of a code? -/
def markAV (k : Int) : AV := .ifc 243 (.agg [.c (.int .i64 k)])
attribute [local go_sem] markAV
theorem unwrap_ok (op at_ c u : AV) : ACalls Tryz.prog 273 [.fp [op, at_, c, u]] [] (Ret u) := by
  refine calls_of_J cl_273 Tryz.func273 rfl (by simp [Tryz.ntmps273]) ?_
  refine jr (own := []) (h := ?_)
  refine jret Tryz.func273 (h := ⟨rfl, rfl⟩)

theorem is1_ok (op at_ u : AV) (c k : Int) : ACalls Tryz.prog 272 [.fp [op, at_, .c (.int .i64 c), u], markAV k] [] (Ret (.c (.bool (decide (c = k) && !decide (c = 0))))) := by
  refine calls_of_J cl_272 Tryz.func272 rfl (by simp [Tryz.ntmps272]) ?_
  refine jr (own := [5]) (h := ?_)
  refine jnv (hh := fun b hb => ?_)
  refine jr (own := []) (h := ?_)
  by_cases hck : c = k
  · refine jd [(0, .pure), (1, .pure), (2, .pure), (3, .pure), (4, .pure), (5, .read), (6, .pure), (7, .read), (8, .pure), (9, .pure), (10, .pure), (11, .pure), (12, .pure), (13, .pure), (14, .read), (15, .pure), (16, .pure), (17, .pure)] mixed (by kernel_rfl) ?_
    refine cq (own := []) hck (hk := ?_)
    refine Can_nil ?_
    refine jr (own := []) (h := ?_)
    refine J_forget ?_
    refine jret Tryz.func272 (h := ⟨by subst hck; simp, rfl⟩)
  · refine jd [(0, .pure), (1, .pure), (2, .pure), (3, .pure), (4, .pure), (5, .read), (6, .pure), (7, .read), (8, .pure), (9, .pure), (10, .pure), (11, .pure), (12, .pure), (13, .pure), (14, .read), (15, .pure), (16, .pure), (17, .pure)] mixed (by kernel_rfl) ?_
    refine cq (own := []) hck (hk := ?_)
    refine Can_nil ?_
    refine jr (own := []) (h := ?_)
    refine J_forget ?_
    refine jret Tryz.func272 (h := ⟨by simp [hck], rfl⟩)

theorem m_Is (v : Value) (w : World) : (Go.method (Tryz.prog.types.size + Made.depth) 145 v "Is").run Tryz.prog w = .ok (272, v) w := by kernel_rfl
theorem m_Unwrap (v : Value) (w : World) : (Go.method (Tryz.prog.types.size + Made.depth) 145 v "Unwrap").run Tryz.prog w = .ok (273, v) w := by kernel_rfl
theorem u_error : ∃ ms, Tryz.prog.underlying 30 = some (.interface ms) := ⟨_, Tryz.underlying30⟩

theorem isl_ok {e : AV} {c : Int} (he : IsErr e c) (hc : c ≠ 0) (k : Int) : ACalls Tryz.prog 183 [e, markAV k, .c (.bool true)] [] (Ret (.c (.bool (decide (c = k))))) := by
  refine calls_of_J cl_183 Tryz.func183 rfl (by simp [Tryz.ntmps183]) ?_
  refine jr (own := []) (h := ?_)
  refine J_loop ?_
  refine jk [0, 1, 2] (h := ?_)
  induction he with
  | none => exact absurd rfl hc
  | code op at_ c h =>
    have h1 := is1_ok op (.c (.int .i64 at_)) (.c .nilIface) c k
    rw [show (decide (c = k) && !decide (c = 0)) = decide (c = k) from by simp [h]] at h1
    refine jr (own := []) (h := ?_)
    refine jog (ho := rfl) (hh := eql_types rfl (by simp only [go_sem, ↓reduceIte, Int.reduceLT, Int.reduceLE, Int.reduceToNat, Int.reducePow, Int.reduceNeg, Nat.reduceBEq] <;> with_reducible rfl) (by simp only [go_sem, ↓reduceIte, Int.reduceLT, Int.reduceLE, Int.reduceToNat, Int.reducePow, Int.reduceNeg, Nat.reduceBEq] <;> with_reducible rfl) Tryz.underlying30 (by decide)) (hk := ?_)
    rintro _ _ ⟨rfl, rfl⟩
    refine jr (own := []) (h := ?_)
    refine jn (h := ?_)
    refine jr (own := []) (h := ?_)
    refine jog (ho := rfl) (hh := tassert_has rfl (by simp only [go_sem, ↓reduceIte, Int.reduceLT, Int.reduceLE, Int.reduceToNat, Int.reducePow, Int.reduceNeg, Nat.reduceBEq] <;> with_reducible rfl) Tryz.underlying335 (by kernel_rfl)) (hk := ?_)
    rintro _ _ ⟨rfl, rfl⟩
    refine jr (own := []) (h := ?_)
    refine jic (hm := m_Is) (hs := h1) (hk := ?_)
    refine jr (own := []) (h := ?_)
    refine jif (h1 := fun hck => ?_) (h2 := fun hck => ?_)
    · refine jr (own := []) (h := ?_)
      refine jret Tryz.func183 (h := ⟨by simp [hck], rfl⟩)
    · refine jr (own := []) (h := ?_)
      refine jog (ho := rfl) (hh := tassert_has rfl (by simp only [go_sem, ↓reduceIte, Int.reduceLT, Int.reduceLE, Int.reduceToNat, Int.reducePow, Int.reduceNeg, Nat.reduceBEq] <;> with_reducible rfl) Tryz.underlying292 (by kernel_rfl)) (hk := ?_)
      rintro _ _ ⟨rfl, rfl⟩
      refine jr (own := []) (h := ?_)
      refine jt (h := ?_)
      refine jr (own := []) (h := ?_)
      refine jic (hm := m_Unwrap) (hs := (unwrap_ok _ _ _ _)) (hk := ?_)
      refine jr (own := []) (h := ?_)
      refine jt (h := ?_)
      refine jr (own := []) (h := ?_)
      refine jret Tryz.func183 (h := ⟨by simp [hck], rfl⟩)
  | under op at_ u c h hu ih =>
    have h1 := is1_ok op (.c (.int .i64 at_)) u 0 k
    simp only [decide_true, Bool.not_true, Bool.and_false] at h1
    have hif : ∃ t x, u = .ifc t x := by
      cases hu with
      | none => exact absurd rfl h
      | code => exact ⟨_, _, rfl⟩
      | under => exact ⟨_, _, rfl⟩
    refine jr (own := []) (h := ?_)
    refine jog (ho := rfl) (hh := eql_types rfl (by simp only [go_sem, ↓reduceIte, Int.reduceLT, Int.reduceLE, Int.reduceToNat, Int.reducePow, Int.reduceNeg, Nat.reduceBEq] <;> with_reducible rfl) (by simp only [go_sem, ↓reduceIte, Int.reduceLT, Int.reduceLE, Int.reduceToNat, Int.reducePow, Int.reduceNeg, Nat.reduceBEq] <;> with_reducible rfl) Tryz.underlying30 (by decide)) (hk := ?_)
    rintro _ _ ⟨rfl, rfl⟩
    refine jr (own := []) (h := ?_)
    refine jn (h := ?_)
    refine jr (own := []) (h := ?_)
    refine jog (ho := rfl) (hh := tassert_has rfl (by simp only [go_sem, ↓reduceIte, Int.reduceLT, Int.reduceLE, Int.reduceToNat, Int.reducePow, Int.reduceNeg, Nat.reduceBEq] <;> with_reducible rfl) Tryz.underlying335 (by kernel_rfl)) (hk := ?_)
    rintro _ _ ⟨rfl, rfl⟩
    refine jr (own := []) (h := ?_)
    refine jic (hm := m_Is) (hs := h1) (hk := ?_)
    refine jr (own := []) (h := ?_)
    refine jn (h := ?_)
    refine jr (own := []) (h := ?_)
    refine jog (ho := rfl) (hh := tassert_has rfl (by simp only [go_sem, ↓reduceIte, Int.reduceLT, Int.reduceLE, Int.reduceToNat, Int.reducePow, Int.reduceNeg, Nat.reduceBEq] <;> with_reducible rfl) Tryz.underlying292 (by kernel_rfl)) (hk := ?_)
    rintro _ _ ⟨rfl, rfl⟩
    refine jr (own := []) (h := ?_)
    refine jt (h := ?_)
    refine jr (own := []) (h := ?_)
    refine jic (hm := m_Unwrap) (hs := (unwrap_ok _ _ _ _)) (hk := ?_)
    obtain ⟨t, x, rfl⟩ := hif
    refine jr (own := []) (h := ?_)
    refine jn (h := ?_)
    refine jr (own := []) (h := ?_)
    refine J_inLoop ?_
    refine jk [0, 1, 2] (h := ?_)
    exact ih h

theorem typeOf_x (k : Int) {Δ : List HP} : XOK Tryz.prog 171 [markAV k] Δ (.ifc 284 (.c (.agg #[.pointer (some ⟨1, 243, none⟩)]))) := by
  refine ⟨fun g B us sm hr => ?_⟩
  simp only [relL, rel, markAV] at hr
  obtain ⟨u1, _, rfl, ⟨v1, rfl, hv⟩, rfl⟩ := hr
  have h10 := @run_callFunc_extern Tryz.prog 171 _ Go.Extern.ReflectliteType.typeOf Tryz.func171 (by kernel_rfl) (by kernel_rfl) (by kernel_rfl) (by kernel_rfl)
  have ht : (Go.Extern.ReflectliteType.typeOf #[.iface 243 v1]).run Tryz.prog g.w = .ok (.iface 284 (.agg #[.pointer (some ⟨1, 243, none⟩)])) g.w := by kernel_rfl
  refine ⟨_, ?_, by simp only [rel]; exact ⟨_, rfl, rfl⟩⟩
  rw [h10]
  simp only [Sem.run_bind, ht, Result.andThen_ok, Sem.run_pure]
theorem m_Comparable (v : Value) (w : World) : (Go.method (Tryz.prog.types.size + Made.depth) 284 v "Comparable").run Tryz.prog w = .ok (281, v) w := by kernel_rfl
theorem comparable_x (g : G) (v : Value) (h : rel g (.c (.agg #[.pointer (some ⟨1, 243, none⟩)])) v) : ∃ u, (callFunc 281 #[v]).run Tryz.prog g.w = .ok (.value u) g.w ∧ rel g (.c (.bool true)) u := by
  simp only [rel] at h
  subst h
  have h10 := @run_callFunc_extern Tryz.prog 281 _ (Go.Extern.ReflectliteType.method fun t => do Go.Extern.Rtype.noPackHeld "Comparable" t; pure (.bool (← typeInfo t).comparable)) Tryz.func281 (by kernel_rfl) (by kernel_rfl) (by kernel_rfl) (by kernel_rfl)
  have ht : ((Go.Extern.ReflectliteType.method fun t => do Go.Extern.Rtype.noPackHeld "Comparable" t; pure (.bool (← typeInfo t).comparable)) #[.agg #[.pointer (some ⟨1, 243, none⟩)]]).run Tryz.prog g.w = .ok (.bool true) g.w := by kernel_rfl
  refine ⟨.bool true, ?_, by simp only [rel]⟩
  rw [h10, ht]
  rfl
attribute [local go_sem] AV.isCell
theorem is_ok {e : AV} {c : Int} (he : IsErr e c) (hc : c ≠ 0) (k : Int) : ACalls Tryz.prog 130 [e, markAV k] [] (Ret (.c (.bool (decide (c = k))))) := by
  have hif : ∃ t x, e = .ifc t x := by
    cases he with
    | none => exact absurd rfl hc
    | code => exact ⟨_, _, rfl⟩
    | under => exact ⟨_, _, rfl⟩
  obtain ⟨t, x, rfl⟩ := hif
  refine calls_of_J cl_130 Tryz.func130 rfl (by simp [Tryz.ntmps130]) ?_
  refine jr (own := []) (h := ?_)
  refine jn (h := ?_)
  refine jr (own := []) (h := ?_)
  refine J_x (by simp only [go_sem, ↓reduceIte, Int.reduceLT, Int.reduceLE, Int.reduceToNat, Int.reducePow, Int.reduceNeg, Nat.reduceBEq, Tryz.ntmps130] <;> with_reducible rfl) (typeOf_x k) ?_
  refine jr (own := []) (h := ?_)
  refine jog (ho := rfl) (hh := imethod_x rfl (by simp only [go_sem, ↓reduceIte, Int.reduceLT, Int.reduceLE, Int.reduceToNat, Int.reducePow, Int.reduceNeg, Nat.reduceBEq] <;> with_reducible rfl) m_Comparable comparable_x) (hk := ?_)
  rintro _ _ ⟨rfl, rfl⟩
  refine jr (own := []) (h := ?_)
  refine jc (hs := isl_ok he hc k) (hk := ?_)
  refine jr (own := []) (h := ?_)
  refine jret Tryz.func130 (h := ⟨rfl, rfl⟩)

/-- Is a fault of a code? -/
theorem has_ok {e : AV} {c : Int} (he : IsErr e c) (k : Int) : ACalls Tryz.prog 81 [e, .c (.int .i64 k)] [] (Ret (.c (.bool (decide (c ≠ 0 ∧ c = k))))) := by
  by_cases hc : c = 0
  · subst hc
    cases he with
    | none =>
      refine calls_of_J cl_81 Tryz.func81 rfl (by simp [Tryz.ntmps81]) ?_
      refine jr (own := []) (h := ?_)
      refine jret Tryz.func81 (h := ⟨by simp, rfl⟩)
    | code _ _ _ h => exact absurd rfl h
    | under _ _ _ _ h => exact absurd rfl h
  · have hif : ∃ t x, e = .ifc t x := by
      cases he with
      | none => exact absurd rfl hc
      | code => exact ⟨_, _, rfl⟩
      | under => exact ⟨_, _, rfl⟩
    obtain ⟨t, x, rfl⟩ := hif
    have h1 := is_ok he hc k
    unfold markAV at h1
    refine calls_of_J cl_81 Tryz.func81 rfl (by simp [Tryz.ntmps81]) ?_
    refine jr (own := []) (h := ?_)
    refine jc (hs := h1) (hk := ?_)
    refine jr (own := []) (h := ?_)
    refine jret Tryz.func81 (h := ⟨by simp [hc], rfl⟩)
end Go.Proofs.YtlmahffjidgplaaGreatDoor
end

section
namespace Go.Proofs.YtlmahffjidgplaaGreatDoor
open Go Go.Av
set_option linter.unusedVariables false
set_option linter.unusedSimpArgs false
set_option maxRecDepth 100000
set_option maxHeartbeats 4000000
attribute [local go_sem] packed List.set_cons_zero List.set_cons_succ List.cons_append List.nil_append bytesRows_length

/-! ### Numbers as bytes: seven bits a byte -/
def hi7 (n : Nat) : List UInt8 := if n = 0 then [] else hi7 (n / 128) ++ [UInt8.ofNat (n % 128 + 128)]
termination_by n
decreasing_by omega
def numB (n : Nat) : List UInt8 := hi7 (n / 128) ++ [UInt8.ofNat (n % 128)]
theorem hi7_zero : hi7 0 = [] := by rw [hi7]; simp
theorem hi7_pos {n : Nat} (h : n ≠ 0) : hi7 n = hi7 (n / 128) ++ [UInt8.ofNat (n % 128 + 128)] := by rw [hi7, if_neg h]
theorem hi7_len : ∀ (k n : Nat), n < 128 ^ k → (hi7 n).length ≤ k
  | 0, n, h => by have : n = 0 := by simpa using h
                  subst this; simp [hi7_zero]
  | k + 1, n, h => by
    by_cases h0 : n = 0
    · subst h0; simp [hi7_zero]
    · rw [hi7_pos h0, List.length_append]
      have := hi7_len k (n / 128) (by rw [Nat.pow_succ] at h; omega)
      simp; omega
theorem numB_len {n : Nat} (h : n ≤ 1099511627776) : (numB n).length ≤ 6 := by
  have := hi7_len 5 (n / 128) (by omega)
  unfold numB; rw [List.length_append]; simp; omega
def numsB (l : List Nat) : List UInt8 := l.flatMap numB
theorem numsB_take {l : List Nat} {i n : Nat} (h : l[i]? = some n) : numsB (l.take (i + 1)) = numsB (l.take i) ++ numB n := by
  have hl := (List.getElem?_eq_some_iff.1 h).1
  have hg := (List.getElem?_eq_some_iff.1 h).2
  rw [List.take_succ_eq_append_getElem hl, numsB, List.flatMap_append, hg]
  simp [numsB]
theorem numsB_len : ∀ {l : List Nat}, (∀ n ∈ l, n ≤ 1099511627776) → (numsB l).length ≤ 6 * l.length
  | [], _ => by simp [numsB]
  | n :: l, h => by
    have h1 := numB_len (h n (by simp))
    have h2 := numsB_len (l := l) fun m hm => h m (by simp [hm])
    simp only [numsB, List.flatMap_cons, List.length_append, List.length_cons] at h2 ⊢
    omega
def natRows (l : List Nat) : List (List AV) := l.map fun (n : Nat) => [.c (.int .i64 (n : Int))]
theorem natRows_len (l : List Nat) : (natRows l).length = l.length := by simp [natRows]
theorem natRows_get {l : List Nat} {i n : Nat} (h : l[i]? = some n) : (natRows l)[i]? = some [.c (.int .i64 (n : Int))] := by simp [natRows, h]
theorem or128 (y : UInt8) : aint .or .u8 (y.toNat : Int) 128 = some (.c (.int .u8 ((UInt8.ofNat (y.toNat % 128 + 128)).toNat : Int))) := by
  have h : ∀ y : Fin 256, aint .or .u8 (y.val : Int) 128 = some (.c (.int .u8 ((UInt8.ofNat (y.val % 128 + 128)).toNat : Int))) := by
    intro y
    refine congrArg some (congrArg AV.c (congrArg (Value.int .u8) ?_))
    revert y; decide +kernel
  exact h ⟨y.toNat, y.toNat_lt⟩
theorem and127 (y : UInt8) : aint .and .u8 (y.toNat : Int) 127 = some (.c (.int .u8 ((UInt8.ofNat (y.toNat % 128)).toNat : Int))) := by
  have h : ∀ y : Fin 256, aint .and .u8 (y.val : Int) 127 = some (.c (.int .u8 ((UInt8.ofNat (y.val % 128)).toNat : Int))) := by
    intro y
    refine congrArg some (congrArg AV.c (congrArg (Value.int .u8) ?_))
    revert y; decide +kernel
  exact h ⟨y.toNat, y.toNat_lt⟩
theorem pow128 (h : Nat) : 2 ^ (7 * h) = 128 ^ h := by rw [Nat.pow_mul]
theorem div128 (n h : Nat) : n / 128 ^ h / 128 = n / 128 ^ (h + 1) := by rw [Nat.div_div_eq_div_mul, Nat.pow_succ]
theorem high_le {n h : Nat} (hn : n ≤ 1099511627776) (h1 : 128 ≤ n / 128 ^ h) : h ≤ 4 := by
  by_cases h5 : h ≤ 4
  · exact h5
  · have h2 := (Nat.le_div_iff_mul_le (Nat.pow_pos (by decide))).1 h1
    have h3 : 128 ^ 5 ≤ 128 ^ h := Nat.pow_le_pow_right (by decide) (by omega)
    omega
theorem put02_ok (b : List UInt8) (l : List Nat) (hb : b.length < 2 ^ 36) (hl : l.length < 1000) (hn : ∀ n ∈ l, n ≤ 1099511627776) :
    ACalls Tryz.prog 55 [.sl 1 (bytesRows b), .sl 1 (natRows l)] [] (fun r D => ∃ v, r = .ret (.c v) ∧ OwnB 5 (b ++ numsB l) v D) := by
  refine calls_of_J cl_55 Tryz.func55 rfl (by simp [Tryz.ntmps55]) ?_
  refine jr (own := [11]) (h := ?_)
  refine jbi (hb := append0_bi (by simp only [go_sem, ↓reduceIte, Int.reduceLT, Int.reduceLE, Int.reduceToNat, Int.reducePow, Int.reduceNeg, Nat.reduceBEq] <;> with_reducible rfl) (by simp only [go_sem, srcOf] <;> rfl) bytes_cell (by omega)) (hk := ?_)
  rintro _ D ⟨v, _, rfl, rfl, how⟩
  refine J_mrun (own := []) (m := 2000) (by simp (maxSteps := 2000000) (disch := omega) only [go_sem, ↓reduceIte, Int.reduceLT, Int.reduceLE, Int.reduceToNat, Int.reducePow, Int.reduceNeg, Nat.reduceBEq, Tryz.ntmps55, natRows_len] <;> with_reducible rfl) ?_
  refine jk [5, 12, 13, 14] (h := ?_)
  refine J_loopI (I := fun m e D => ∃ (i : Nat) (v : Value), i ≤ l.length ∧ m = l.length - i ∧ OwnB 5 (b ++ numsB (l.take i)) v D ∧ e = [(5, .c v), (12, .sl 1 (natRows l)), (13, .c (.int .i64 l.length)), (14, .c (.int .i64 i))]) ?_ ?_
  · exact ⟨_, 0, v, by omega, rfl, by simpa [numsB] using how, rfl⟩
  · rintro m e D ⟨i, v, hi, rfl, how, rfl⟩ ih
    refine jr (own := []) (h := ?_)
    refine jif (h1 := fun hc => ?_) (h2 := fun hc => ?_)
    · have hlt : i < l.length := by omega
      have hg := natRows_get (List.getElem?_eq_getElem hlt)
      have hnl := natRows_len l
      have h0 : (0 : Int) ≤ (i : Int) := by omega
      have hmax := hn _ (List.getElem_mem hlt)
      have hbl : (numsB (l.take i)).length ≤ 6 * i := by
        have := numsB_len (l := l.take i) fun n h => hn n (List.mem_of_mem_take h)
        rw [List.length_take] at this; omega
      generalize hx : l[i] = n at *
      refine jf (own := []) (a3 hg hnl h0) (h := ?_)
      refine jk [5, 7, 8, 12, 13, 14] (h := ?_)
      refine J_loopI (I := fun m e D' => ∃ (h : Nat), h ≤ 6 ∧ (∀ j, j < h → 128 ≤ n / 128 ^ j) ∧ m = 6 - h ∧ D' = D ∧ e = [(5, .c v), (7, .c (.int .i64 n)), (8, .c (.int .i64 h)), (12, .sl 1 (natRows l)), (13, .c (.int .i64 l.length)), (14, .c (.int .i64 i))]) ?_ ?_
      · exact ⟨_, 0, by omega, by intro j h; omega, rfl, rfl, rfl⟩
      · rintro m e _ ⟨h, hh, hj, rfl, rfl, rfl⟩ ih2
        have hsh : (7 * (h : Int)).toNat = 7 * h := by omega
        have hdiv : ((n : Int) / 2 ^ (7 * h)) = ((n / 128 ^ h : Nat) : Int) := by rw [← pow128]; simp
        refine jf (own := []) (a2 hsh hdiv) (h := ?_)
        refine jif (h1 := fun hd => ?_) (h2 := fun hd => ?_)
        · have h128 : 128 ≤ n / 128 ^ h := by omega
          have h4 := high_le hmax h128
          refine jr (own := []) (h := ?_)
          refine jk [5, 7, 8, 12, 13, 14] (h := ?_)
          refine ih2 (6 - (h + 1)) _ _ (by omega) ⟨h + 1, by omega, ?_, rfl, rfl, rfl⟩
          intro j hjl
          by_cases hjh : j = h
          · subst hjh; exact h128
          · exact hj j (by omega)
        · have h128 : n / 128 ^ h < 128 := by omega
          refine jr (own := []) (h := ?_)
          refine jk [5, 7, 8, 12, 13, 14] (h := ?_)
          refine J_loopI (I := fun m e D' => ∃ (j : Nat) (v' : Value), j ≤ h ∧ j = m ∧ OwnB 5 (b ++ numsB (l.take i) ++ hi7 (n / 128 ^ (j + 1))) v' D' ∧ e = [(5, .c v'), (7, .c (.int .i64 n)), (8, .c (.int .i64 j)), (12, .sl 1 (natRows l)), (13, .c (.int .i64 l.length)), (14, .c (.int .i64 i))]) ?_ ?_
          · refine ⟨_, h, v, by omega, rfl, ?_, rfl⟩
            rw [← div128, Nat.div_eq_of_lt h128, hi7_zero, List.append_nil]
            exact how
          · rintro m e D2 ⟨j, v', hjh, rfl, how2, rfl⟩ ih3
            have hbl2 : (hi7 (n / 128 ^ (j + 1))).length ≤ 6 := hi7_len 6 _ (Nat.lt_of_le_of_lt (Nat.div_le_self _ _) (by omega))
            refine jr (own := []) (h := ?_)
            refine jif (h1 := fun hj0 => ?_) (h2 := fun hj0 => ?_)
            · have hsh2 : (7 * (j : Int)).toNat = 7 * j := by omega
              have hdiv2 : ((n : Int) / 2 ^ (7 * j)) = ((n / 128 ^ j : Nat) : Int) := by rw [← pow128]; simp
              have hw := wrap8_nat (n / 128 ^ j)
              have hor := or128 (UInt8.ofNat (n / 128 ^ j))
              refine jf (own := [37]) (a4 hsh2 hdiv2 hw hor) (h := ?_)
              refine jap (Fr := []) (how := how2) (hp := (by simp)) (hsrc := (by simp only [go_sem, srcOf] <;> rfl)) (hc := (by rfl)) (hmax := (by simp only [List.length_append]; omega)) (hk := ?_)
              rintro _ D3 ⟨v3, _, rfl, rfl, how3⟩
              refine jr (own := []) (h := ?_)
              refine jk [5, 7, 8, 12, 13, 14] (h := ?_)
              refine ih3 (j - 1) _ _ (by omega) ⟨j - 1, v3, by omega, rfl, ?_, ?_⟩
              · have hj1 : j - 1 + 1 = j := by omega
                have hnz : n / 128 ^ j ≠ 0 := by
                  have h1 := hj (j - 1) (by omega)
                  have h2 : n / 128 ^ j = n / 128 ^ (j - 1) / 128 := by rw [div128, hj1]
                  omega
                rw [hj1, hi7_pos hnz, div128, ← List.append_assoc]
                have he : UInt8.ofNat ((UInt8.ofNat (n / 128 ^ j)).toNat % 128 + 128) = UInt8.ofNat (n / 128 ^ j % 128 + 128) := by
                  rw [UInt8.toNat_ofNat']; congr 2; omega
                rw [← he]
                exact ownB_app (b := [UInt8.ofNat ((UInt8.ofNat (n / 128 ^ j)).toNat % 128 + 128)]) how3
              · have : (j : Int) - 1 = ((j - 1 : Nat) : Int) := by omega
                rw [this]
            · have hj0' : j = 0 := by omega
              subst hj0'
              have hw := wrap8_nat n
              have hand := and127 (UInt8.ofNat n)
              refine jf (own := [43]) (a2 hw hand) (h := ?_)
              refine jap (Fr := []) (how := how2) (hp := (by simp)) (hsrc := (by simp only [go_sem, srcOf] <;> rfl)) (hc := (by rfl)) (hmax := (by simp only [List.length_append]; omega)) (hk := ?_)
              rintro _ D3 ⟨v3, _, rfl, rfl, how3⟩
              refine jr (own := []) (h := ?_)
              refine jk [5, 12, 13, 14] (h := ?_)
              refine ih (l.length - (i + 1)) _ _ (by omega) ⟨i + 1, v3, by omega, rfl, ?_, rfl⟩
              rw [numsB_take (List.getElem?_eq_some_iff.2 ⟨hlt, hx⟩), ← List.append_assoc, numB, ← List.append_assoc]
              have he : UInt8.ofNat ((UInt8.ofNat n).toNat % 128) = UInt8.ofNat (n % 128) := by
                rw [UInt8.toNat_ofNat']; congr 1; omega
              rw [← he]
              exact ownB_app (b := [UInt8.ofNat ((UInt8.ofNat n).toNat % 128)]) how3
    · have hi2 : i = l.length := by omega
      subst hi2
      have how2 : OwnB 5 (b ++ numsB l) v D := by rw [List.take_length] at how; exact how
      refine jr (own := []) (h := ?_)
      refine jret Tryz.func55 (h := ⟨v, rfl, how2⟩)
theorem put02_fz (b : List UInt8) (l : List Nat) (hb : b.length < 2 ^ 36) (hl : l.length < 1000) (hn : ∀ n ∈ l, n ≤ 1099511627776) : ACalls Tryz.prog 55 [.sl 1 (bytesRows b), .sl 1 (natRows l)] [] (Ret (.sl 1 (bytesRows (b ++ numsB l)))) :=
  (put02_ok b l hb hl hn).freezeB (by have := numsB_len hn; unfold maxRows; simp only [List.length_append]; omega)
theorem nil_slz : (AV.c (.slice none 0 0)).le .sl0 := fun g v h => by
  simp only [rel] at h ⊢; exact ⟨_, h⟩
theorem rem_natN (k : IntKind) {a b : Nat} (hb : 0 < b) : aint .rem k (a : Int) (b : Int) = some (.c (.int k ((a % b : Nat) : Int))) := by
  unfold aint; simp only []; rw [if_neg (by omega), Int.tmod_eq_emod_of_nonneg (by omega)]; rfl
theorem remN {a : Nat} : aint .rem .i64 (a : Int) 128 = some (.c (.int .i64 ((a % 128 : Nat) : Int))) := rem_natN .i64 (b := 128) (by decide)
theorem quo_i64 {a b : Nat} (ha : a < 2 ^ 62) (hb : 0 < b) : aint .quo .i64 (a : Int) (b : Int) = some (.c (.int .i64 ((a / b : Nat) : Int))) := by
  unfold aint; simp only []
  have h1 : a / b ≤ a := Nat.div_le_self _ _
  rw [if_neg (by omega), Int.tdiv_eq_ediv_of_nonneg (by omega), IntKind.wrap_i64, ← Int.natCast_ediv]
  generalize a / b = q at *
  refine congrArg some (congrArg AV.c (congrArg (Value.int .i64) ?_))
  omega
theorem quoN {a : Nat} (ha : a < 2 ^ 62) : aint .quo .i64 (a : Int) 128 = some (.c (.int .i64 ((a / 128 : Nat) : Int))) := quo_i64 (b := 128) ha (by decide)
theorem num02_ok (n : Nat) (hn : n ≤ 1099511627776) : ACalls Tryz.prog 113 [.c (.int .i64 n)] [] (Ret (.sl 1 (bytesRows (numB n)))) := by
  have hr := remN (a := n)
  have hq := quoN (a := n) (by omega)
  have hw := wrap8_nat (n % 128)
  refine calls_of_J cl_113 Tryz.func113 rfl (by simp [Tryz.ntmps113]) ?_
  refine jf (own := []) (a3 hr hq hw) (h := ?_)
  refine jk [3, 4] (h := ?_)
  refine J_loopI (I := fun m e D => ∃ (k : Nat) (cur : List UInt8), k ≤ 1099511627776 ∧ k = m ∧ D = [] ∧ hi7 k ++ cur = numB n ∧ e = [(3, .sl 1 (bytesRows cur)), (4, .c (.int .i64 k))]) ?_ ?_
  · exact ⟨_, n / 128, [UInt8.ofNat (n % 128)], by omega, rfl, rfl, rfl, rfl⟩
  · rintro m e D ⟨k, cur, hk, rfl, rfl, hcur, rfl⟩ ih
    have hcl : cur.length ≤ 6 := by
      have h1 := numB_len hn
      rw [← hcur, List.length_append] at h1; omega
    refine jr (own := []) (h := ?_)
    refine jif (h1 := fun hc => ?_) (h2 := fun hc => ?_)
    · have hr2 := remN (a := k)
      have hq2 := quoN (a := k) (by omega)
      have hw2 := wrap8_nat (k % 128 + 128)
      have hca : (((k % 128 : Nat) : Int) + 128) = ((k % 128 + 128 : Nat) : Int) := by omega
      refine jf (own := [20]) (a3 hr2 hca hw2) (h := ?_)
      refine J_op1 rfl (by simp only [go_sem, ↓reduceIte, Int.reduceLT, Int.reduceLE, Int.reduceToNat, Int.reducePow, Int.reduceNeg, Nat.reduceBEq, Tryz.ntmps113]) (newslice_op rfl (by simp only [go_sem, ↓reduceIte, Int.reduceLT, Int.reduceLE, Int.reduceToNat, Int.reducePow, Int.reduceNeg, Nat.reduceBEq] <;> with_reducible rfl) (by simp only [go_sem, ↓reduceIte, Int.reduceLT, Int.reduceLE, Int.reduceToNat, Int.reducePow, Int.reduceNeg, Nat.reduceBEq] <;> with_reducible rfl) (by simp only [go_sem, ↓reduceIte, Int.reduceLT, Int.reduceLE, Int.reduceToNat, Int.reducePow, Int.reduceNeg, Nat.reduceBEq] <;> with_reducible rfl) (by rfl) (by decide) (by decide) (by decide) (by simp only [go_sem, ↓reduceIte, Int.reduceLT, Int.reduceLE, Int.reduceToNat, Int.reducePow, Int.reduceNeg, Nat.reduceBEq] <;> with_reducible rfl) (by simp only [go_sem, ↓reduceIte, Int.reduceLT, Int.reduceLE, Int.reduceToNat, Int.reducePow, Int.reduceNeg, Nat.reduceBEq] <;> with_reducible rfl) (by rfl)) ?_
      rintro _ _ ⟨v7, D7, rfl, rfl, how7⟩
      refine jr (own := [23]) (h := ?_)
      refine jap (Fr := []) (how := (show OwnB 5 [UInt8.ofNat (k % 128 + 128)] v7 D7 from how7)) (hp := (by simp)) (hsrc := (by simp only [go_sem, srcOf] <;> rfl)) (hc := bytes_cell) (hmax := (by simp; omega)) (hk := ?_)
      rintro _ D3 ⟨v3, _, rfl, rfl, how3⟩
      have how4 : OwnB 5 ([UInt8.ofNat (k % 128 + 128)] ++ cur) v3 D3 := ownB_app how3
      refine J_freezeB (Fr := []) how4 (by unfold maxRows; simp; omega) ?_
      refine J_is (t := 23) (by simp only [go_sem]) (List.mem_cons_self ..) (J_drop ?_)
      refine jf (own := []) hq2 (h := ?_)
      refine jk [3, 4] (h := ?_)
      refine ih (k / 128) _ _ (by omega) ⟨k / 128, [UInt8.ofNat (k % 128 + 128)] ++ cur, by omega, rfl, rfl, ?_, rfl⟩
      rw [← hcur, hi7_pos (by omega : k ≠ 0), List.append_assoc]
    · have hk0 : k = 0 := by omega
      subst hk0
      rw [hi7_zero, List.nil_append] at hcur
      subst hcur
      refine jr (own := []) (h := ?_)
      refine jret Tryz.func113 (h := ⟨rfl, rfl⟩)

theorem putR_ok (b : List UInt8) (l : List Nat) (hb : b.length < 2 ^ 36) (hl : l.length < 1000) (hn : ∀ n ∈ l, n ≤ 1099511627776) :
    ACalls Tryz.prog 58 [.sl 1 (bytesRows b), .sl 1 (natRows l)] [] (fun r D => ∃ v, r = .ret (.c v) ∧ OwnB 5 (b ++ numsB l) v D) := by
  refine calls_of_J cl_58 Tryz.func58 rfl (by simp [Tryz.ntmps58]) ?_
  refine jr (own := [9]) (h := ?_)
  refine J_wk (t := 7) (y := .sl0) (by simp only [go_sem]) nil_slz ?_
  refine jbi (hb := append0_bi (by simp only [go_sem, ↓reduceIte, Int.reduceLT, Int.reduceLE, Int.reduceToNat, Int.reducePow, Int.reduceNeg, Nat.reduceBEq] <;> with_reducible rfl) (by simp only [go_sem, srcOf] <;> rfl) bytes_cell (by omega)) (hk := ?_)
  rintro _ D ⟨v, _, rfl, rfl, how⟩
  refine jr (own := []) (h := ?_)
  refine jk [1, 5, 6] (h := ?_)
  refine J_loopI (I := fun m e D => ∃ (i : Nat) (v : Value), i ≤ l.length ∧ m = l.length - i ∧ OwnB 5 (b ++ numsB (l.take i)) v D ∧ e = [(1, .sl 1 (natRows l)), (5, .c v), (6, .c (.int .i64 i))]) ?_ ?_
  · exact ⟨_, 0, v, by omega, rfl, by simpa [numsB] using how, rfl⟩
  · rintro m e D ⟨i, v, hi, rfl, how, rfl⟩ ih
    have hnl := natRows_len l
    refine jf (own := []) hnl (h := ?_)
    refine jif (h1 := fun hc => ?_) (h2 := fun hc => ?_)
    · have hlt : i < l.length := by omega
      have hg := natRows_get (List.getElem?_eq_getElem hlt)
      have h0 : (0 : Int) ≤ (i : Int) := by omega
      have hmax := hn _ (List.getElem_mem hlt)
      have hbl : (numsB (l.take i)).length ≤ 6 * i := by
        have := numsB_len (l := l.take i) fun n h => hn n (List.mem_of_mem_take h)
        rw [List.length_take] at this; omega
      have hnb := numB_len hmax
      refine jf (own := [22]) (a3 hg hnl h0) (h := ?_)
      refine jc (hs := num02_ok _ hmax) (hk := ?_)
      refine jr (own := [22]) (h := ?_)
      refine jap (Fr := []) (how := how) (hp := (by simp)) (hsrc := (by simp only [go_sem, srcOf] <;> rfl)) (hc := bytes_cell) (hmax := (by simp only [List.length_append]; omega)) (hk := ?_)
      rintro _ D2 ⟨v2, _, rfl, rfl, how2⟩
      refine jr (own := []) (h := ?_)
      refine jk [1, 5, 6] (h := ?_)
      refine ih (l.length - (i + 1)) _ _ (by omega) ⟨i + 1, v2, by omega, rfl, ?_, rfl⟩
      rw [numsB_take (List.getElem?_eq_getElem hlt), ← List.append_assoc]
      exact ownB_app how2
    · have hi2 : i = l.length := by omega
      subst hi2
      have how2 : OwnB 5 (b ++ numsB l) v D := by rw [List.take_length] at how; exact how
      refine jr (own := []) (h := ?_)
      refine jret Tryz.func58 (h := ⟨v, rfl, how2⟩)
theorem putR_fz (b : List UInt8) (l : List Nat) (hb : b.length < 2 ^ 36) (hl : l.length < 1000) (hn : ∀ n ∈ l, n ≤ 1099511627776) : ACalls Tryz.prog 58 [.sl 1 (bytesRows b), .sl 1 (natRows l)] [] (Ret (.sl 1 (bytesRows (b ++ numsB l)))) :=
  (putR_ok b l hb hl hn).freezeB (by have := numsB_len hn; unfold maxRows; simp only [List.length_append]; omega)
end Go.Proofs.YtlmahffjidgplaaGreatDoor
end

section
namespace Go.Proofs.YtlmahffjidgplaaGreatDoor
open Go Go.Av
set_option linter.unusedVariables false
set_option linter.unusedSimpArgs false
set_option maxRecDepth 100000
set_option maxHeartbeats 4000000
attribute [local go_sem] packed List.set_cons_zero List.set_cons_succ List.cons_append List.nil_append bytesRows_length

/-! ### Numbers read -/
/-- What is read from p on, so far n: what is wrong (0: nothing), where the reader stands then, the number. -/
def scanN (b : List UInt8) (at_ most : Nat) : Nat → Nat → Nat → Int × Nat × Nat
  | 0, _, _ => (6, at_, 0)
  | k + 1, p, n =>
    let c := (b.getD p 0).toNat
    if c = 128 ∧ p = at_ then (5, at_, 0) else if most / 128 < n then (2, at_, 0)
    else if 128 ≤ c then scanN b at_ most k (p + 1) (n * 128 + c % 128)
    else if most < n * 128 + c then (2, at_, 0) else (0, p + 1, n * 128 + c)
def numR (b : List UInt8) (at_ : Nat) (c : Int) (most : Nat) : Int × Nat × Nat := if c ≠ 0 then (c, at_, 0) else scanN b at_ most (b.length - at_) at_ 0
theorem scanN_spec (b : List UInt8) (at_ most : Nat) : ∀ (k p n : Nat), p + k = b.length → at_ ≤ b.length → 0 ≤ (scanN b at_ most k p n).1 ∧ (scanN b at_ most k p n).2.1 ≤ b.length ∧ ((scanN b at_ most k p n).1 ≠ 0 → (scanN b at_ most k p n).2 = (at_, 0)) ∧ ((scanN b at_ most k p n).1 = 0 → (scanN b at_ most k p n).2.2 ≤ most)
  | 0, p, n, _, h => by simp [scanN, h]
  | k + 1, p, n, h1, h2 => by
    simp only [scanN]
    split
    · simp [h2]
    · split
      · simp [h2]
      · split
        · exact scanN_spec b at_ most k _ _ (by omega) h2
        · split
          · simp [h2]
          · exact ⟨by simp, by show p + 1 ≤ _; omega, fun h => absurd rfl h, fun _ => by show n * 128 + _ ≤ most; omega⟩
theorem numR_at (b : List UInt8) {at_ : Nat} (c : Int) (most : Nat) (h : at_ ≤ b.length) : (numR b at_ c most).2.1 ≤ b.length := by
  unfold numR; split
  · exact h
  · exact (scanN_spec b at_ most _ _ _ (by omega) h).2.1
theorem numR_val (b : List UInt8) {at_ : Nat} (c : Int) (most : Nat) (h : at_ ≤ b.length) : (numR b at_ c most).2.2 ≤ most := by
  unfold numR; split
  · simp
  · have h1 := scanN_spec b at_ most (b.length - at_) at_ 0 (by omega) h
    by_cases h0 : (scanN b at_ most (b.length - at_) at_ 0).1 = 0
    · exact h1.2.2.2 h0
    · rw [h1.2.2.1 h0]; exact Nat.zero_le _
theorem or7 {x y : Nat} (hx : x < 2 ^ 50) (hy : y < 128) : aint .or .i64 ((x : Int) * 128) (y : Int) = some (.c (.int .i64 ((x * 128 + y : Nat) : Int))) := by
  show some (AV.c (.int .i64 (IntKind.i64.wrap ((BitVec.ofInt IntKind.i64.bits ((x : Int) * 128) ||| BitVec.ofInt IntKind.i64.bits (y : Int)).toNat : Int)))) = _
  have e1 : BitVec.ofInt IntKind.i64.bits ((x : Int) * 128) = BitVec.ofNat 64 (x * 128) := by
    rw [show ((x : Int) * 128) = ((x * 128 : Nat) : Int) from by omega]; exact BitVec.ofInt_natCast _ _
  have e2 : BitVec.ofInt IntKind.i64.bits (y : Int) = BitVec.ofNat 64 y := BitVec.ofInt_natCast _ _
  rw [e1, e2]
  have e3 : (BitVec.ofNat 64 (x * 128) ||| BitVec.ofNat 64 y).toNat = x * 128 + y := by
    rw [BitVec.toNat_or, BitVec.toNat_ofNat, BitVec.toNat_ofNat, Nat.mod_eq_of_lt (by omega), Nat.mod_eq_of_lt (by omega)]
    have := Nat.shiftLeft_add_eq_or_of_lt (i := 7) (b := y) (by omega) x
    rw [Nat.shiftLeft_eq] at this
    exact this.symm
  have e4 := (congrArg (fun n : Nat => IntKind.i64.wrap (n : Int)) e3).trans (show _ = ((x * 128 + y : Nat) : Int) by rw [IntKind.wrap_i64]; omega)
  exact congrArg some (congrArg AV.c (congrArg (Value.int .i64) e4))

theorem rfail_ok (a : Nat) (b : List UInt8) (at_ c k : Int) : ACalls Tryz.prog 63 [.c (.pointer (some ⟨a, 0, none⟩)), .c (.int .i64 k)] [rdr a b at_ c] (fun r Δ => r = .ret (.tup []) ∧ Δ = [rdr a b at_ (if c = 0 then k else c)]) := by
  refine calls_of_J cl_63 Tryz.func63 rfl (by simp [Tryz.ntmps63]) ?_
  refine jr (own := []) (h := ?_)
  refine jif (h1 := fun hc => ?_) (h2 := fun hc => ?_)
  · refine jr (own := []) (h := ?_)
    refine J_end Tryz.func63 (xs := []) (by rfl) ⟨rfl, by rw [if_pos hc]⟩
  · refine jr (own := []) (h := ?_)
    refine J_end Tryz.func63 (xs := []) (by rfl) ⟨rfl, by rw [if_neg hc]⟩
def NumI (a : Nat) (b : List UInt8) (at_ : Nat) (c : Int) (most : Nat) (m : Nat) (e : Env) (D : List HP) : Prop :=
  ∃ n p : Nat, e = [(0, .c (.pointer (some ⟨a, 0, none⟩))), (1, .c (.int .i64 most)), (5, .c (.int .i64 n)), (6, .c (.int .i64 p))] ∧
    ((c = 0 ∧ at_ ≤ p ∧ p ≤ b.length ∧ n ≤ most + 127 ∧ (p = at_ → n = 0) ∧ m = b.length - p + 1 ∧ D = [rdr a b at_ 0] ∧ numR b at_ c most = scanN b at_ most (b.length - p) p n) ∨
     ((numR b at_ c most).1 ≠ 0 ∧ m = 0 ∧ (numR b at_ c most).2 = (at_, 0) ∧ D = [rdr a b at_ (numR b at_ c most).1]))
theorem numI_back {a : Nat} {b : List UInt8} {at_ : Nat} {c : Int} {most n p : Nat} {k : Int} (hk : k ≠ 0) (h : numR b at_ c most = (k, at_, 0)) :
    NumI a b at_ c most 0 [(0, .c (.pointer (some ⟨a, 0, none⟩))), (1, .c (.int .i64 most)), (5, .c (.int .i64 n)), (6, .c (.int .i64 ((p : Int) + 1)))] [rdr a b at_ k] :=
  ⟨n, p + 1, rfl, .inr (by rw [h]; exact ⟨hk, rfl, rfl, rfl⟩)⟩
theorem rnum_ok (a : Nat) (b : List UInt8) (at_ : Nat) (c : Int) (most : Nat) (h : at_ ≤ b.length) (hb : b.length < 2 ^ 37) (hm : most ≤ 1099511627776) :
    ACalls Tryz.prog 60 [.c (.pointer (some ⟨a, 0, none⟩)), .c (.int .i64 most)] [rdr a b at_ c]
    (fun r Δ => r = .ret (.c (.int .i64 (numR b at_ c most).2.2)) ∧ Δ = [rdr a b (numR b at_ c most).2.1 (numR b at_ c most).1]) := by
  refine calls_of_J cl_60 Tryz.func60 rfl (by simp [Tryz.ntmps60]) ?_
  refine jr (own := []) (h := ?_)
  refine jd [(0, .pure), (1, .pure), (2, .pure), (3, .read), (4, .pure), (5, .pure)] mixed (by kernel_rfl) ?_
  refine cr (own := []) (hk := ?_)
  refine Can_nil ?_
  refine jr (own := []) (h := ?_)
  refine jk [0, 1, 5, 6] (h := ?_)
  refine J_loopI (I := NumI a b at_ c most) ?_ ?_
  · refine ⟨if c = 0 then b.length - at_ + 1 else 0, 0, at_, rfl, ?_⟩
    by_cases hc : c = 0
    · subst hc
      exact .inl ⟨rfl, Nat.le_refl _, h, by omega, fun _ => rfl, rfl, rfl, by unfold numR; simp⟩
    · refine .inr ⟨by unfold numR; rw [if_pos hc]; exact hc, by rw [if_neg hc], by unfold numR; rw [if_pos hc], by unfold numR; rw [if_pos hc]⟩
  · rintro m e D ⟨n, p, rfl, hh⟩ ih
    rcases hh with ⟨rfl, hp1, hp2, hn, hz, rfl, rfl, hS⟩ | ⟨hne, rfl, hs2, rfl⟩
    · refine jr (own := []) (h := ?_)
      refine jt (h := ?_)
      refine jr (own := []) (h := ?_)
      refine jif (h1 := fun hge => ?_) (h2 := fun hge => ?_)
      · have hpe : b.length - p = 0 := by omega
        rw [hpe] at hS
        simp only [scanN] at hS
        refine jr (own := []) (h := ?_)
        refine jcs (Δ1 := [_]) (Fr := []) (hs := (rfail_ok a b at_ 0 6)) (hp := (List.Perm.refl _)) (hk := ?_) (hpan := (by rintro x Δ' ⟨e, _⟩; cases e))
        rintro x _ ⟨e, rfl⟩
        cases e
        refine jr (own := []) (h := ?_)
        refine jret Tryz.func60 (h := ⟨by rw [hS]; rfl, by rw [hS]⟩)
      · have hlt : p < b.length := by omega
        have hg := bytes_get (getD_get hlt)
        have h0 : (0 : Int) ≤ (p : Int) := by omega
        have hk : b.length - p = (b.length - (p + 1)) + 1 := by omega
        rw [hk] at hS
        simp only [scanN] at hS
        generalize hcc : b.getD p 0 = cc at *
        have hcl := cc.toNat_lt
        by_cases hA : cc.toNat = 128 ∧ p = at_
        · rw [if_pos hA] at hS
          obtain ⟨hA1, rfl⟩ := hA
          have hn0 : (n : Int) = 0 := by have := hz rfl; omega
          have hA2 : (cc.toNat : Int) = 128 := by omega
          refine jq (own := []) (a3 hg hA2 hn0) (h := ?_)
          refine jt (h := ?_)
          refine jr (own := []) (h := ?_)
          refine jcs (Δ1 := [_]) (Fr := []) (hs := (rfail_ok a b p 0 5)) (hp := (List.Perm.refl _)) (hk := ?_) (hpan := (by rintro x Δ' ⟨e, _⟩; cases e))
          rintro x _ ⟨e, rfl⟩
          cases e
          refine jr (own := []) (h := ?_)
          refine jk [0, 1, 5, 6] (h := ?_)
          exact ih 0 _ _ (by omega) (numI_back (by decide) hS)
        · rw [if_neg hA] at hS
          have hsel : (decide ((cc.toNat : Int) = 128) = true ∧ decide ((n : Int) = 0) = true ∧ decide ((p : Int) + 1 = (at_ : Int) + 1) = false) ∨ (decide ((cc.toNat : Int) = 128) = true ∧ decide ((n : Int) = 0) = false ∧ True) ∨ (decide ((cc.toNat : Int) = 128) = false ∧ True ∧ True) := by
            by_cases h1 : cc.toNat = 128
            · by_cases h2 : n = 0
              · exact .inl ⟨by simp; omega, by simp; omega, decide_eq_false fun h3 => hA ⟨h1, by omega⟩⟩
              · exact .inr (.inl ⟨by simp; omega, decide_eq_false (by omega), trivial⟩)
            · exact .inr (.inr ⟨decide_eq_false (by omega), trivial, trivial⟩)
          have hw128 : ((UInt8.ofNat (cc.toNat % 128)).toNat : Int) = ((cc.toNat % 128 : Nat) : Int) := by rw [UInt8.toNat_ofNat']; omega
          have hand := and127 cc
          have hor1 := or7 (x := n) (y := cc.toNat % 128) (by omega) (by omega)
          have hor2 : cc.toNat < 128 → _ := fun h => or7 (x := n) (y := cc.toNat) (by omega) h
          have hshl : ashift .shl .i64 (n : Int) 7 = some (.c (.int .i64 ((n : Int) * 128))) := by
            show some (AV.c (.int .i64 (IntKind.i64.wrap ((n : Int) * 2 ^ 7)))) = _
            refine congrArg some (congrArg AV.c (congrArg (Value.int .i64) ?_))
            rw [IntKind.wrap_i64]; omega
          rcases hsel with ⟨hd1, hd2, hd3⟩ | ⟨hd1, hd2, hd3⟩ | ⟨hd1, hd2, hd3⟩
          all_goals
            refine jf (own := []) (a4 hg hd1 hd2 hd3) (h := ?_)
            refine jk [0, 1, 5, 6, 7, 50] (h := ?_)
            refine jn (h := ?_)
            refine jr (own := []) (h := ?_)
            refine jif (h1 := fun h2 => ?_) (h2 := fun h2 => ?_)
            · rw [if_pos (show most / 128 < n by omega)] at hS
              refine jr (own := []) (h := ?_)
              refine jcs (Δ1 := [_]) (Fr := []) (hs := (rfail_ok a b at_ 0 2)) (hp := (List.Perm.refl _)) (hk := ?_) (hpan := (by rintro x Δ' ⟨e, _⟩; cases e))
              rintro x _ ⟨e, rfl⟩
              cases e
              refine jr (own := []) (h := ?_)
              refine jk [0, 1, 5, 6] (h := ?_)
              exact ih 0 _ _ (by omega) (numI_back (by decide) hS)
            · rw [if_neg (show ¬ most / 128 < n by omega)] at hS
              refine jr (own := []) (h := ?_)
              refine jif (h1 := fun h3 => ?_) (h2 := fun h3 => ?_)
              · rw [if_pos (show 128 ≤ cc.toNat by omega)] at hS
                refine jf (own := []) (a4 hand hw128 hshl hor1) (h := ?_)
                refine jk [0, 1, 5, 6] (h := ?_)
                exact ih (b.length - (p + 1) + 1) _ _ (by omega) ⟨n * 128 + cc.toNat % 128, p + 1, rfl, .inl ⟨rfl, by omega, by omega, by omega, fun h => by omega, rfl, rfl, hS⟩⟩
              · have hlt2 : cc.toNat < 128 := by omega
                rw [if_neg (show ¬ 128 ≤ cc.toNat by omega)] at hS
                have hor3 := hor2 hlt2
                refine jf (own := []) (a2 hshl hor3) (h := ?_)
                refine jif (h1 := fun h4 => ?_) (h2 := fun h4 => ?_)
                · rw [if_pos (show most < n * 128 + cc.toNat by omega)] at hS
                  refine jr (own := []) (h := ?_)
                  refine jcs (Δ1 := [_]) (Fr := []) (hs := (rfail_ok a b at_ 0 2)) (hp := (List.Perm.refl _)) (hk := ?_) (hpan := (by rintro x Δ' ⟨e, _⟩; cases e))
                  rintro x _ ⟨e, rfl⟩
                  cases e
                  refine jr (own := []) (h := ?_)
                  refine jk [0, 1, 5, 6] (h := ?_)
                  exact ih 0 _ _ (by omega) (numI_back (by decide) hS)
                · rw [if_neg (show ¬ most < n * 128 + cc.toNat by omega)] at hS
                  refine jr (own := []) (h := ?_)
                  refine jret Tryz.func60 (h := ⟨by rw [hS], by rw [hS]; rfl⟩)
    · refine jr (own := []) (h := ?_)
      refine jif (h1 := fun hc => ?_) (h2 := fun hc => ?_)
      · exact absurd hc hne
      · refine jr (own := []) (h := ?_)
        refine jret Tryz.func60 (h := ⟨by rw [hs2]; rfl, by rw [hs2]⟩)
/-- Eight bytes read. -/
def eightR (b : List UInt8) (at_ : Nat) (c : Int) : Int × Nat × Nat := if c ≠ 0 then (c, at_, 0) else if b.length < at_ + 8 then (6, at_, 0) else (0, at_ + 8, (be8 ((b.drop at_).take 8)).toNat)
theorem eightR_at (b : List UInt8) {at_ : Nat} (c : Int) (h : at_ ≤ b.length) : (eightR b at_ c).2.1 ≤ b.length := by
  unfold eightR; split
  · exact h
  · split
    · exact h
    · show at_ + 8 ≤ _; omega
theorem eightR_lt (b : List UInt8) (at_ : Nat) (c : Int) : (eightR b at_ c).2.2 < 2 ^ 64 := by
  unfold eightR; split
  · exact Nat.pos_of_ne_zero (by decide)
  · split
    · exact Nat.pos_of_ne_zero (by decide)
    · exact (be8 _).toNat_lt
theorem rwordE_ok (a : Nat) (b : List UInt8) (at_ : Nat) (c : Int) (h : at_ ≤ b.length) (hb : b.length < 2 ^ 37) :
    ACalls Tryz.prog 114 [.c (.pointer (some ⟨a, 0, none⟩))] [rdr a b at_ c] (fun r Δ => r = .ret (.c (.int .u64 (eightR b at_ c).2.2)) ∧ Δ = [rdr a b (eightR b at_ c).2.1 (eightR b at_ c).1]) := by
  by_cases hc : c = 0
  · subst hc
    by_cases h8 : at_ + 8 ≤ b.length
    · have e : eightR b at_ 0 = (0, at_ + 8, (be8 ((b.drop at_).take 8)).toNat) := by unfold eightR; rw [if_neg (by simp), if_neg (by omega)]
      rw [e]
      exact rword_ok a b at_ h8 hb
    · have e : eightR b at_ 0 = (6, at_, 0) := by unfold eightR; rw [if_neg (by simp), if_pos (by omega)]
      rw [e]
      refine calls_of_J cl_114 Tryz.func114 rfl (by simp [Tryz.ntmps114]) ?_
      refine jr (own := []) (h := ?_)
      refine jcr (hs := left_ok a b at_ 0 ⟨by omega, by omega⟩ hb) (hk := ?_)
      refine jr (own := []) (h := ?_)
      refine jif (h1 := fun _ => ?_) (h2 := fun hc => absurd (by first | omega | simp) hc)
      refine jr (own := []) (h := ?_)
      refine jcs (Δ1 := [_]) (Fr := []) (hs := (rfail_ok a b at_ 0 6)) (hp := (List.Perm.refl _)) (hk := ?_) (hpan := (by rintro x Δ' ⟨e, _⟩; cases e))
      rintro x _ ⟨e, rfl⟩
      cases e
      refine jr (own := []) (h := ?_)
      refine jif (h1 := fun _ => ?_) (h2 := fun hc => absurd (by first | omega | simp) hc)
      refine jr (own := []) (h := ?_)
      refine jret Tryz.func114 (h := ⟨rfl, rfl⟩)
  · have e : eightR b at_ c = (c, at_, 0) := by unfold eightR; rw [if_pos hc]
    rw [e]
    refine calls_of_J cl_114 Tryz.func114 rfl (by simp [Tryz.ntmps114]) ?_
    refine jq (own := []) hc (h := ?_)
    refine jn (h := ?_)
    refine jr (own := []) (h := ?_)
    refine jif (h1 := fun _ => ?_) (h2 := fun hc => absurd (by first | omega | simp) hc)
    refine jr (own := []) (h := ?_)
    refine jret Tryz.func114 (h := ⟨rfl, rfl⟩)
theorem rcode_ok (a : Nat) (b : List UInt8) (at_ c : Int) : ACalls Tryz.prog 62 [.c (.pointer (some ⟨a, 0, none⟩))] [rdr a b at_ c] (fun r Δ => r = .ret (.c (.int .i64 c)) ∧ Δ = [rdr a b at_ c]) := by
  refine calls_of_J cl_62 Tryz.func62 rfl (by simp [Tryz.ntmps62]) ?_
  refine jr (own := []) (h := ?_)
  refine jret Tryz.func62 (h := ⟨rfl, rfl⟩)
theorem rat_ok (a : Nat) (b : List UInt8) (at_ c : Int) : ACalls Tryz.prog 65 [.c (.pointer (some ⟨a, 0, none⟩))] [rdr a b at_ c] (fun r Δ => r = .ret (.c (.int .i64 at_)) ∧ Δ = [rdr a b at_ c]) := by
  refine calls_of_J cl_65 Tryz.func65 rfl (by simp [Tryz.ntmps65]) ?_
  refine jr (own := []) (h := ?_)
  refine jret Tryz.func65 (h := ⟨rfl, rfl⟩)
def endR (b : List UInt8) (at_ : Nat) (c : Int) : Int := if c = 0 ∧ at_ < b.length then 5 else c
theorem rend_ok (a : Nat) (b : List UInt8) (at_ : Nat) (c : Int) (h : at_ ≤ b.length) (hb : b.length < 2 ^ 37) : ACalls Tryz.prog 64 [.c (.pointer (some ⟨a, 0, none⟩))] [rdr a b at_ c] (fun r Δ => r = .ret (.c (.int .i64 (endR b at_ c))) ∧ Δ = [rdr a b at_ (endR b at_ c)]) := by
  refine calls_of_J cl_64 Tryz.func64 rfl (by simp [Tryz.ntmps64]) ?_
  refine jr (own := []) (h := ?_)
  refine jcr (hs := left_ok a b at_ c ⟨by omega, by omega⟩ hb) (hk := ?_)
  refine jr (own := []) (h := ?_)
  refine jif (h1 := fun hl => ?_) (h2 := fun hl => ?_)
  · have e : endR b at_ c = if c = 0 then 5 else c := by
      unfold endR
      by_cases hc : c = 0
      · rw [if_pos ⟨hc, by omega⟩, if_pos hc]
      · rw [if_neg (fun h => hc h.1), if_neg hc]
    rw [e]
    refine jr (own := []) (h := ?_)
    refine jcs (Δ1 := [_]) (Fr := []) (hs := (rfail_ok a b at_ c 5)) (hp := (List.Perm.refl _)) (hk := ?_) (hpan := (by rintro x Δ' ⟨e, _⟩; cases e))
    rintro x _ ⟨e, rfl⟩
    cases e
    refine jr (own := []) (h := ?_)
    refine jret Tryz.func64 (h := ⟨rfl, rfl⟩)
  · have e : endR b at_ c = c := by unfold endR; rw [if_neg (fun h => by omega)]
    rw [e]
    refine jr (own := []) (h := ?_)
    refine jret Tryz.func64 (h := ⟨rfl, rfl⟩)
end Go.Proofs.YtlmahffjidgplaaGreatDoor
end

section
namespace Go.Proofs.YtlmahffjidgplaaGreatDoor
open Go Go.Av
set_option linter.unusedVariables false
set_option linter.unusedSimpArgs false
set_option maxRecDepth 100000
set_option maxHeartbeats 4000000
attribute [local go_sem] packed List.set_cons_zero List.set_cons_succ List.cons_append List.nil_append bytesRows_length
/-- The document's reader. -/
abbrev rdV (b : List UInt8) (at_ c : Int) : AV := .agg [.sl 1 (bytesRows b), .c (.int .i64 at_), .c (.int .i64 c)]
theorem fail02_ok (b : List UInt8) (at_ c k : Int) : ACalls Tryz.prog 116 [rdV b at_ c, .c (.int .i64 k)] [] (Ret (rdV b at_ (if c = 0 then k else c))) := by
  refine calls_of_J cl_116 Tryz.func116 rfl (by simp [Tryz.ntmps116]) ?_
  refine jr (own := [4, 5]) (h := ?_)
  refine jnv (hh := fun b4 hb4 => ?_)
  refine jr (own := [5]) (h := ?_)
  refine jnv (hh := fun b5 hb5 => ?_)
  simp only [fresh] at hb4 hb5
  refine jf (own := []) hb5 (h := ?_)
  refine jif (h1 := fun hc => ?_) (h2 := fun hc => ?_)
  · refine jf (own := []) hb5 (h := ?_)
    refine J_forget ?_
    refine jretf hb5 Tryz.func116 (h := ⟨by rw [if_pos hc], rfl⟩)
  · refine jf (own := []) hb5 (h := ?_)
    refine J_forget ?_
    refine jretf hb5 Tryz.func116 (h := ⟨by rw [if_neg hc], rfl⟩)
theorem failN_ok (b : List UInt8) (at_ k : Int) : ACalls Tryz.prog 116 [rdV b at_ 0, .c (.int .i64 k)] [] (Ret (rdV b at_ k)) := by
  have h := fail02_ok b at_ 0 k
  rw [if_pos rfl] at h
  exact h
theorem num02R_ok (b : List UInt8) (at_ : Nat) (c : Int) (most : Nat) (h : at_ ≤ b.length) (hb : b.length < 2 ^ 37) (hm : most ≤ 1099511627776) :
    ACalls Tryz.prog 66 [rdV b at_ c, .c (.int .i64 most)] [] (Ret (.tup [rdV b (numR b at_ c most).2.1 (numR b at_ c most).1, .c (.int .i64 (numR b at_ c most).2.2)])) := by
  refine calls_of_J cl_66 Tryz.func66 rfl (by simp [Tryz.ntmps66]) ?_
  refine jr (own := [4]) (h := ?_)
  refine jnv (hh := fun b4 hb4 => ?_)
  simp only [fresh] at hb4
  refine jr (own := []) (h := ?_)
  refine jif (h1 := fun hc => ?_) (h2 := fun hc => ?_)
  · have e : numR b at_ c most = (c, at_, 0) := by unfold numR; rw [if_pos hc]
    rw [e]
    refine jr (own := []) (h := ?_)
    refine J_forget ?_
    refine jret Tryz.func66 (h := ⟨rfl, rfl⟩)
  · have hc0 : c = 0 := by omega
    subst hc0
    refine jr (own := []) (h := ?_)
    refine jk [1, 2, 4, 6, 7] (h := ?_)
    refine J_loopI (I := fun m e D => ∃ n p : Nat, e = [(1, .c (.int .i64 most)), (2, .fp [.sl 1 (bytesRows b), .c (.int .i64 at_), .c (.int .i64 0)]), (4, .c (.pointer (some ⟨b4, 0, none⟩))), (6, .c (.int .i64 n)), (7, .c (.int .i64 p))] ∧ at_ ≤ p ∧ p ≤ b.length ∧ n ≤ most + 127 ∧ m = b.length - p ∧ D = [.box b4 139 [.c (.slice none 0 0), .c (.int .i64 0), .c (.int .i64 0)]] ∧ numR b at_ 0 most = scanN b at_ most (b.length - p) p n) ?_ ?_
    · exact ⟨_, 0, at_, rfl, Nat.le_refl _, h, by omega, rfl, rfl, by unfold numR; simp⟩
    · rintro m e D ⟨n, p, rfl, hp1, hp2, hn, rfl, rfl, hS⟩ ih
      refine jr (own := []) (h := ?_)
      refine jif (h1 := fun hge => ?_) (h2 := fun hge => ?_)
      · have hlt : p < b.length := by omega
        have hg := bytes_get (getD_get hlt)
        have h0 : (0 : Int) ≤ (p : Int) := by omega
        have hk : b.length - p = (b.length - (p + 1)) + 1 := by omega
        rw [hk] at hS
        simp only [scanN] at hS
        generalize hcc : b.getD p 0 = cc at *
        have hcl := cc.toNat_lt
        by_cases hA : cc.toNat = 128 ∧ p = at_
        · rw [if_pos hA] at hS
          have hA2 : decide ((cc.toNat : Int) = 128) = true := decide_eq_true (by omega)
          have hA3 : decide ((p : Int) = (at_ : Int)) = true := decide_eq_true (by omega)
          rw [hS]
          refine jf (own := []) (a3 hg hA2 hA3) (h := ?_)
          refine jt (h := ?_)
          refine jr (own := []) (h := ?_)
          refine jc (hs := failN_ok b at_ 5) (hk := ?_)
          refine jr (own := []) (h := ?_)
          refine J_forget ?_
          refine jret Tryz.func66 (h := ⟨rfl, rfl⟩)
        · rw [if_neg hA] at hS
          have hsel : (decide ((cc.toNat : Int) = 128) = true ∧ decide ((p : Int) = (at_ : Int)) = false) ∨ (decide ((cc.toNat : Int) = 128) = false ∧ True) := by
            by_cases h1 : cc.toNat = 128
            · exact .inl ⟨decide_eq_true (by omega), decide_eq_false fun h3 => hA ⟨h1, by omega⟩⟩
            · exact .inr ⟨decide_eq_false (by omega), trivial⟩
          have hq := quoN (a := most) (by omega)
          have hr := remN (a := cc.toNat)
          rcases hsel with ⟨hd1, hd2⟩ | ⟨hd1, hd2⟩
          all_goals
            refine jf (own := []) (a3 hg hd1 hd2) (h := ?_)
            refine jk [1, 2, 4, 6, 7, 8, 36] (h := ?_)
            refine jn (h := ?_)
            refine jf (own := []) hq (h := ?_)
            refine jif (h1 := fun h2 => ?_) (h2 := fun h2 => ?_)
            · rw [if_pos (show most / 128 < n by omega)] at hS
              rw [hS]
              refine jr (own := []) (h := ?_)
              refine jc (hs := failN_ok b at_ 2) (hk := ?_)
              refine jr (own := []) (h := ?_)
              refine J_forget ?_
              refine jret Tryz.func66 (h := ⟨rfl, rfl⟩)
            · rw [if_neg (show ¬ most / 128 < n by omega)] at hS
              refine jf (own := []) hr (h := ?_)
              refine jif (h1 := fun h3 => ?_) (h2 := fun h3 => ?_)
              · rw [if_pos (show 128 ≤ cc.toNat by omega)] at hS
                refine jr (own := []) (h := ?_)
                refine jk [1, 2, 4, 6, 7] (h := ?_)
                exact ih (b.length - (p + 1)) _ _ (by omega) ⟨n * 128 + cc.toNat % 128, p + 1, rfl, by omega, by omega, by omega, rfl, rfl, hS⟩
              · have hlt2 : cc.toNat < 128 := by omega
                rw [if_neg (show ¬ 128 ≤ cc.toNat by omega)] at hS
                have hmod : cc.toNat % 128 = cc.toNat := Nat.mod_eq_of_lt hlt2
                refine jf (own := []) hmod (h := ?_)
                refine jif (h1 := fun h4 => ?_) (h2 := fun h4 => ?_)
                · rw [if_pos (show most < n * 128 + cc.toNat by omega)] at hS
                  rw [hS]
                  refine jr (own := []) (h := ?_)
                  refine jc (hs := failN_ok b at_ 2) (hk := ?_)
                  refine jr (own := []) (h := ?_)
                  refine J_forget ?_
                  refine jret Tryz.func66 (h := ⟨rfl, rfl⟩)
                · rw [if_neg (show ¬ most < n * 128 + cc.toNat by omega)] at hS
                  rw [hS]
                  refine jr (own := [9]) (h := ?_)
                  refine jnv (hh := fun b9 hb9 => ?_)
                  simp only [fresh] at hb9
                  refine jf (own := []) hb9 (h := ?_)
                  refine J_forget ?_
                  refine jretf hb9 Tryz.func66 (h := ⟨rfl, rfl⟩)
      · have hpe : b.length - p = 0 := by omega
        rw [hpe] at hS
        simp only [scanN] at hS
        rw [hS]
        refine jr (own := []) (h := ?_)
        refine jc (hs := failN_ok b at_ 6) (hk := ?_)
        refine jr (own := []) (h := ?_)
        refine J_forget ?_
        refine jret Tryz.func66 (h := ⟨rfl, rfl⟩)
theorem eight02E_ok (b : List UInt8) (at_ : Nat) (c : Int) (h : at_ ≤ b.length) (hb : b.length < 2 ^ 37) :
    ACalls Tryz.prog 117 [rdV b at_ c] [] (Ret (.tup [rdV b (eightR b at_ c).2.1 (eightR b at_ c).1, .c (.int .u64 (eightR b at_ c).2.2)])) := by
  by_cases hc : c = 0
  · subst hc
    by_cases h8 : at_ + 8 ≤ b.length
    · have e : eightR b at_ 0 = (0, at_ + 8, (be8 ((b.drop at_).take 8)).toNat) := by unfold eightR; rw [if_neg (by simp), if_neg (by omega)]
      rw [e]
      exact eight02_ok b at_ h8 hb
    · have e : eightR b at_ 0 = (6, at_, 0) := by unfold eightR; rw [if_neg (by simp), if_pos (by omega)]
      rw [e]
      refine calls_of_J cl_117 Tryz.func117 rfl (by simp [Tryz.ntmps117]) ?_
      refine jr (own := [2]) (h := ?_)
      refine jnv (hh := fun b2 hb2 => ?_)
      simp only [fresh] at hb2
      refine jr (own := []) (h := ?_)
      refine jif (h1 := fun hc => absurd hc (by first | omega | simp)) (h2 := fun _ => ?_)
      refine jr (own := []) (h := ?_)
      refine jif (h1 := fun _ => ?_) (h2 := fun hc => absurd (by first | omega | simp) hc)
      refine jr (own := []) (h := ?_)
      refine jc (hs := failN_ok b at_ 6) (hk := ?_)
      refine jr (own := []) (h := ?_)
      refine J_forget ?_
      refine jret Tryz.func117 (h := ⟨rfl, rfl⟩)
  · have e : eightR b at_ c = (c, at_, 0) := by unfold eightR; rw [if_pos hc]
    rw [e]
    refine calls_of_J cl_117 Tryz.func117 rfl (by simp [Tryz.ntmps117]) ?_
    refine jr (own := [2]) (h := ?_)
    refine jnv (hh := fun b2 hb2 => ?_)
    simp only [fresh] at hb2
    refine jr (own := []) (h := ?_)
    refine jif (h1 := fun _ => ?_) (h2 := fun hc => absurd (by first | omega | simp) hc)
    refine jr (own := []) (h := ?_)
    refine J_forget ?_
    refine jret Tryz.func117 (h := ⟨rfl, rfl⟩)
theorem end02_ok (b : List UInt8) (at_ : Nat) (c : Int) (h : at_ ≤ b.length) (hb : b.length < 2 ^ 37) : ACalls Tryz.prog 68 [rdV b at_ c] [] (Ret (.c (.int .i64 (endR b at_ c)))) := by
  refine calls_of_J cl_68 Tryz.func68 rfl (by simp [Tryz.ntmps68]) ?_
  by_cases hc : c = 0
  · subst hc
    refine jr (own := []) (h := ?_)
    refine jif (h1 := fun hl => ?_) (h2 := fun hl => ?_)
    · refine jr (own := []) (h := ?_)
      refine jret Tryz.func68 (h := ⟨by unfold endR; rw [if_pos ⟨rfl, by omega⟩], rfl⟩)
    · refine jr (own := []) (h := ?_)
      refine jret Tryz.func68 (h := ⟨by unfold endR; rw [if_neg (fun h => by omega)], rfl⟩)
  · refine jq (own := []) hc (h := ?_)
    refine jn (h := ?_)
    refine jr (own := []) (h := ?_)
    refine jret Tryz.func68 (h := ⟨by unfold endR; rw [if_neg (fun h => hc h.1)], rfl⟩)
end Go.Proofs.YtlmahffjidgplaaGreatDoor
end
