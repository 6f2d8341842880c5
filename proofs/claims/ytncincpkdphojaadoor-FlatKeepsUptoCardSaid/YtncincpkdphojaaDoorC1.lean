/- A part of the proof: what the calls do, told by values. -/
import Derived.Test.YtncincpkdphojaaDoorB1
import Derived.Test.YtncincpkdphojaaDoorA2
import Derived.Test.YtncincpkdphojaaDoorB2
import Derived.Test.YtncincpkdphojaaDoorA3
section
namespace Go.Proofs.YtncincpkdphojaaDoor
open Go Go.Av
set_option linter.unusedVariables false
set_option linter.unusedSimpArgs false
set_option maxRecDepth 100000

/-! ### Faults -/
def errNew (op : List UInt8) (at_ c : Int) : AV := if c = 0 then .c .nilIface else .ifc 71 (.fp [.str op, .c (.int .i64 at_), .c (.int .i64 c), .c .nilIface])

theorem new_ok (op : List UInt8) (at_ c : Int) : ACalls Tryd.prog 36 [.c (.string (mkStr op)), .c (.int .i64 at_), .c (.int .i64 c)] [] (Ret (errNew op at_ c)) := by
  refine calls_of_J cl_36 Tryd.func36 rfl (by simp [Tryd.ntmps36]) ?_
  refine J_mrun (own := []) (m := 2000) (by simp (maxSteps := 2000000) (disch := omega) only [go_sem, ↓reduceIte, Int.reduceLT, Int.reduceLE, Int.reduceToNat, Int.reducePow, Int.reduceNeg, Nat.reduceBEq, Tryd.ntmps36] <;> with_reducible rfl) ?_
  refine J_if (by simp only [go_sem, ↓reduceIte, Int.reduceLT, Int.reduceLE, Int.reduceToNat, Int.reducePow, Int.reduceNeg, Nat.reduceBEq] <;> with_reducible rfl) (fun hc => ?_) (fun hc => ?_)
  · refine J_mrun (own := []) (m := 2000) (by simp (maxSteps := 2000000) (disch := omega) only [go_sem, ↓reduceIte, Int.reduceLT, Int.reduceLE, Int.reduceToNat, Int.reducePow, Int.reduceNeg, Nat.reduceBEq, Tryd.ntmps36] <;> with_reducible rfl) ?_
    refine J_retX Tryd.func36 (by simp only [go_sem, ↓reduceIte, Int.reduceLT, Int.reduceLE, Int.reduceToNat, Int.reducePow, Int.reduceNeg, Nat.reduceBEq, Tryd.f36] <;> first | with_reducible rfl | rfl) ⟨by simp [errNew, hc], rfl⟩
  · refine J_mrun (own := []) (m := 2000) (by simp (maxSteps := 2000000) (disch := omega) only [go_sem, ↓reduceIte, Int.reduceLT, Int.reduceLE, Int.reduceToNat, Int.reducePow, Int.reduceNeg, Nat.reduceBEq, Tryd.ntmps36] <;> with_reducible rfl) ?_
    refine J_retX Tryd.func36 (by simp only [go_sem, ↓reduceIte, Int.reduceLT, Int.reduceLE, Int.reduceToNat, Int.reducePow, Int.reduceNeg, Nat.reduceBEq, Tryd.f36] <;> first | with_reducible rfl | rfl) ⟨by simp [errNew, hc, AV.str], rfl⟩

/-- An error whose code is c (0: none). -/
inductive IsErr : AV → Int → Prop
  | none : IsErr (.c .nilIface) 0
  | code (op : AV) (at_ c : Int) (u : AV) : c ≠ 0 → IsErr (.ifc 71 (.fp [op, .c (.int .i64 at_), .c (.int .i64 c), u])) c
  | under (op : AV) (at_ : Int) (u : AV) (c : Int) : c ≠ 0 → IsErr u c → IsErr (.ifc 71 (.fp [op, .c (.int .i64 at_), .c (.int .i64 0), u])) c

theorem errNew_is (op : List UInt8) (at_ c : Int) : IsErr (errNew op at_ c) c := by
  unfold errNew
  split
  · rename_i h; subst h; exact .none
  · rename_i h; exact .code _ _ _ _ h

def errWrap (op : List UInt8) (at_ : Int) (u : AV) : AV := .ifc 71 (.fp [.str op, .c (.int .i64 at_), .c (.int .i64 0), u])

theorem wrap_ok (op : List UInt8) (at_ : Int) {e : AV} {c : Int} (he : IsErr e c) : ACalls Tryd.prog 35 [.c (.string (mkStr op)), .c (.int .i64 at_), e] [] (fun r Δ => (∃ e', r = .ret e' ∧ IsErr e' c) ∧ Δ = []) := by
  cases he with
  | none =>
    refine calls_of_J cl_35 Tryd.func35 rfl (by simp [Tryd.ntmps35]) ?_
    refine J_mrun (own := []) (m := 2000) (by simp (maxSteps := 2000000) (disch := omega) only [go_sem, ↓reduceIte, Int.reduceLT, Int.reduceLE, Int.reduceToNat, Int.reducePow, Int.reduceNeg, Nat.reduceBEq, Tryd.ntmps35] <;> with_reducible rfl) ?_
    refine J_cond (t := true) (by simp only [go_sem, ↓reduceIte] <;> with_reducible rfl) ?_
    simp only [if_true]
    refine J_mrun (own := []) (m := 2000) (by simp (maxSteps := 2000000) (disch := omega) only [go_sem, ↓reduceIte, Int.reduceLT, Int.reduceLE, Int.reduceToNat, Int.reducePow, Int.reduceNeg, Nat.reduceBEq, Tryd.ntmps35] <;> with_reducible rfl) ?_
    refine J_retX Tryd.func35 (by simp only [go_sem, ↓reduceIte, Int.reduceLT, Int.reduceLE, Int.reduceToNat, Int.reducePow, Int.reduceNeg, Nat.reduceBEq, Tryd.f35] <;> first | with_reducible rfl | rfl) ⟨⟨_, rfl, .none⟩, rfl⟩
  | code o a _ u hc =>
    refine calls_of_J cl_35 Tryd.func35 rfl (by simp [Tryd.ntmps35]) ?_
    refine J_mrun (own := []) (m := 2000) (by simp (maxSteps := 2000000) (disch := omega) only [go_sem, ↓reduceIte, Int.reduceLT, Int.reduceLE, Int.reduceToNat, Int.reducePow, Int.reduceNeg, Nat.reduceBEq, Tryd.ntmps35] <;> with_reducible rfl) ?_
    refine J_cond (t := false) (by simp only [go_sem, ↓reduceIte] <;> with_reducible rfl) ?_
    simp only [Bool.false_eq_true, if_false]
    refine J_mrun (own := []) (m := 2000) (by simp (maxSteps := 2000000) (disch := omega) only [go_sem, ↓reduceIte, Int.reduceLT, Int.reduceLE, Int.reduceToNat, Int.reducePow, Int.reduceNeg, Nat.reduceBEq, Tryd.ntmps35] <;> with_reducible rfl) ?_
    refine J_retX Tryd.func35 (by simp only [go_sem, ↓reduceIte, Int.reduceLT, Int.reduceLE, Int.reduceToNat, Int.reducePow, Int.reduceNeg, Nat.reduceBEq, Tryd.f35] <;> first | with_reducible rfl | rfl) ⟨⟨_, rfl, .under _ _ _ _ hc (.code _ _ _ _ hc)⟩, rfl⟩
  | under o a u _ hc hu =>
    refine calls_of_J cl_35 Tryd.func35 rfl (by simp [Tryd.ntmps35]) ?_
    refine J_mrun (own := []) (m := 2000) (by simp (maxSteps := 2000000) (disch := omega) only [go_sem, ↓reduceIte, Int.reduceLT, Int.reduceLE, Int.reduceToNat, Int.reducePow, Int.reduceNeg, Nat.reduceBEq, Tryd.ntmps35] <;> with_reducible rfl) ?_
    refine J_cond (t := false) (by simp only [go_sem, ↓reduceIte] <;> with_reducible rfl) ?_
    simp only [Bool.false_eq_true, if_false]
    refine J_mrun (own := []) (m := 2000) (by simp (maxSteps := 2000000) (disch := omega) only [go_sem, ↓reduceIte, Int.reduceLT, Int.reduceLE, Int.reduceToNat, Int.reducePow, Int.reduceNeg, Nat.reduceBEq, Tryd.ntmps35] <;> with_reducible rfl) ?_
    refine J_retX Tryd.func35 (by simp only [go_sem, ↓reduceIte, Int.reduceLT, Int.reduceLE, Int.reduceToNat, Int.reducePow, Int.reduceNeg, Nat.reduceBEq, Tryd.f35] <;> first | with_reducible rfl | rfl) ⟨⟨_, rfl, .under _ _ _ _ hc (.under _ _ _ _ hc hu)⟩, rfl⟩

/-! ### Keys, hashes -/
structure Entry where
  key : List UInt8
  ver : Int
  asof : Int
  ends : Int
  val : List UInt8
deriving DecidableEq

def Entry.cells (x : Entry) : List AV := [.c (.string (mkStr x.key)), .c (.int .i64 x.ver), .c (.int .i64 x.asof), .c (.int .i64 x.ends), .sl 1 (bytesRows x.val)]
def Entry.av (x : Entry) : AV := .agg x.cells

theorem keyOf_ok (x : Entry) : ACalls Tryd.prog 38 [.agg [.c (.string (mkStr x.key)), .c (.int .i64 x.ver), .c (.int .i64 x.asof), .c (.int .i64 x.ends), .sl 1 (bytesRows x.val)]] [] (Ret (.c (.string (mkStr x.key)))) := by
  refine calls_of_J cl_38 Tryd.func38 rfl (by simp [Tryd.ntmps38]) ?_
  refine J_mrun (own := []) (m := 2000) (by simp (maxSteps := 2000000) (disch := omega) only [go_sem, ↓reduceIte, Int.reduceLT, Int.reduceLE, Int.reduceToNat, Int.reducePow, Int.reduceNeg, Nat.reduceBEq, Tryd.ntmps38] <;> with_reducible rfl) ?_
  refine J_retX Tryd.func38 (by simp only [go_sem, ↓reduceIte, Int.reduceLT, Int.reduceLE, Int.reduceToNat, Int.reducePow, Int.reduceNeg, Nat.reduceBEq, Tryd.f38] <;> first | with_reducible rfl | rfl) ⟨rfl, rfl⟩

theorem hashOf_ok (h a : Int) : ACalls Tryd.prog 46 [.agg [.c (.int .u64 h), .c (.int .i64 a)]] [] (Ret (.c (.int .u64 h))) := by
  refine calls_of_J cl_46 Tryd.func46 rfl (by simp [Tryd.ntmps46]) ?_
  refine J_mrun (own := []) (m := 2000) (by simp (maxSteps := 2000000) (disch := omega) only [go_sem, ↓reduceIte, Int.reduceLT, Int.reduceLE, Int.reduceToNat, Int.reducePow, Int.reduceNeg, Nat.reduceBEq, Tryd.ntmps46] <;> with_reducible rfl) ?_
  refine J_retX Tryd.func46 (by simp only [go_sem, ↓reduceIte, Int.reduceLT, Int.reduceLE, Int.reduceToNat, Int.reducePow, Int.reduceNeg, Nat.reduceBEq, Tryd.f46] <;> first | with_reducible rfl | rfl) ⟨rfl, rfl⟩

def keyCode (k : List UInt8) : Int := if k.length = 0 then 1 else if 40 < k.length then 3 else 0

theorem key_ok (k : List UInt8) : ACalls Tryd.prog 59 [.c (.string (mkStr k))] [] (Ret (.c (.int .i64 (keyCode k)))) := by
  refine calls_of_J cl_59 Tryd.func59 rfl (by simp [Tryd.ntmps59]) ?_
  refine J_mrun (own := []) (m := 2000) (by simp (maxSteps := 2000000) (disch := omega) only [go_sem, ↓reduceIte, Int.reduceLT, Int.reduceLE, Int.reduceToNat, Int.reducePow, Int.reduceNeg, Nat.reduceBEq, Tryd.ntmps59] <;> with_reducible rfl) ?_
  refine J_if (by simp only [go_sem, ↓reduceIte, Int.reduceLT, Int.reduceLE, Int.reduceToNat, Int.reducePow, Int.reduceNeg, Nat.reduceBEq] <;> with_reducible rfl) (fun h1 => ?_) (fun h1 => ?_)
  · refine J_mrun (own := []) (m := 2000) (by simp (maxSteps := 2000000) (disch := omega) only [go_sem, ↓reduceIte, Int.reduceLT, Int.reduceLE, Int.reduceToNat, Int.reducePow, Int.reduceNeg, Nat.reduceBEq, Tryd.ntmps59] <;> with_reducible rfl) ?_
    refine J_retX Tryd.func59 (by simp only [go_sem, ↓reduceIte, Int.reduceLT, Int.reduceLE, Int.reduceToNat, Int.reducePow, Int.reduceNeg, Nat.reduceBEq, Tryd.f59] <;> first | with_reducible rfl | rfl) ⟨by simp only [keyCode]; rw [if_pos (by omega)], rfl⟩
  · refine J_mrun (own := []) (m := 2000) (by simp (maxSteps := 2000000) (disch := omega) only [go_sem, ↓reduceIte, Int.reduceLT, Int.reduceLE, Int.reduceToNat, Int.reducePow, Int.reduceNeg, Nat.reduceBEq, Tryd.ntmps59] <;> with_reducible rfl) ?_
    refine J_if (by simp only [go_sem, ↓reduceIte, Int.reduceLT, Int.reduceLE, Int.reduceToNat, Int.reducePow, Int.reduceNeg, Nat.reduceBEq] <;> with_reducible rfl) (fun h2 => ?_) (fun h2 => ?_)
    · refine J_mrun (own := []) (m := 2000) (by simp (maxSteps := 2000000) (disch := omega) only [go_sem, ↓reduceIte, Int.reduceLT, Int.reduceLE, Int.reduceToNat, Int.reducePow, Int.reduceNeg, Nat.reduceBEq, Tryd.ntmps59] <;> with_reducible rfl) ?_
      refine J_retX Tryd.func59 (by simp only [go_sem, ↓reduceIte, Int.reduceLT, Int.reduceLE, Int.reduceToNat, Int.reducePow, Int.reduceNeg, Nat.reduceBEq, Tryd.f59] <;> first | with_reducible rfl | rfl) ⟨by simp only [keyCode]; rw [if_neg (by omega), if_pos (by omega)], rfl⟩
    · refine J_mrun (own := []) (m := 2000) (by simp (maxSteps := 2000000) (disch := omega) only [go_sem, ↓reduceIte, Int.reduceLT, Int.reduceLE, Int.reduceToNat, Int.reducePow, Int.reduceNeg, Nat.reduceBEq, Tryd.ntmps59] <;> with_reducible rfl) ?_
      refine J_retX Tryd.func59 (by simp only [go_sem, ↓reduceIte, Int.reduceLT, Int.reduceLE, Int.reduceToNat, Int.reducePow, Int.reduceNeg, Nat.reduceBEq, Tryd.f59] <;> first | with_reducible rfl | rfl) ⟨by simp only [keyCode]; rw [if_neg (by omega), if_neg (by omega)], rfl⟩

def fold64 (a : Int) : Int := x64 a (a / 8589934592)
def mix64 (a : Int) : Int := fold64 (m64 (fold64 (m64 (fold64 a) 18397679294719823053)) 14181476777654086739)
def step64 (h : Int) (b : UInt8) : Int := m64 (x64 h b.toNat) 1099511628211
def hash64 (k : List UInt8) : Int := mix64 (k.foldl step64 14695981039346656037)

theorem fold64_in (a : Int) : In64 (fold64 a) := x64_in _ _
theorem bmix_ok (a : Int) (h : In64 a) : ACalls Tryd.prog 66 [.c (.int .u64 a)] [] (Ret (.c (.int .u64 (mix64 a)))) := by
  have h1 := h.1
  refine calls_of_J cl_66 Tryd.func66 rfl (by simp [Tryd.ntmps66]) ?_
  refine J_mrun (own := []) (m := 2000) (by simp (maxSteps := 2000000) (disch := omega) only [go_sem, ↓reduceIte, Int.reduceLT, Int.reduceLE, Int.reduceToNat, Int.reducePow, Int.reduceNeg, Nat.reduceBEq, Tryd.ntmps66] <;> with_reducible rfl) ?_
  refine J_retX Tryd.func66 (by simp only [go_sem, ↓reduceIte, Int.reduceLT, Int.reduceLE, Int.reduceToNat, Int.reducePow, Int.reduceNeg, Nat.reduceBEq, Tryd.f66] <;> first | with_reducible rfl | rfl) ⟨rfl, rfl⟩

theorem rfold_ok (a : Int) (h : In64 a) : ACalls Tryd.prog 73 [.c (.int .u64 a)] [] (Ret (.c (.int .u64 (fold64 a)))) := by
  have e := aint_quo_u64 h (b := 8589934592) (by omega)
  refine calls_of_J cl_73 Tryd.func73 rfl (by simp [Tryd.ntmps73]) ?_
  refine J_mrun (own := []) (m := 2000) (by simp (maxSteps := 2000000) (disch := omega) only [go_sem, ↓reduceIte, Int.reduceLT, Int.reduceLE, Int.reduceToNat, Int.reducePow, Int.reduceNeg, Nat.reduceBEq, Tryd.ntmps73, e] <;> with_reducible rfl) ?_
  refine J_retX Tryd.func73 (by simp only [go_sem, ↓reduceIte, Int.reduceLT, Int.reduceLE, Int.reduceToNat, Int.reducePow, Int.reduceNeg, Nat.reduceBEq, Tryd.f73] <;> first | with_reducible rfl | rfl) ⟨rfl, rfl⟩

theorem rmix_ok (a : Int) (h : In64 a) : ACalls Tryd.prog 53 [.c (.int .u64 a)] [] (Ret (.c (.int .u64 (mix64 a)))) := by
  refine calls_of_J cl_53 Tryd.func53 rfl (by simp [Tryd.ntmps53]) ?_
  refine J_mrun (own := []) (m := 2000) (by simp (maxSteps := 2000000) (disch := omega) only [go_sem, ↓reduceIte, Int.reduceLT, Int.reduceLE, Int.reduceToNat, Int.reducePow, Int.reduceNeg, Nat.reduceBEq, Tryd.ntmps53] <;> with_reducible rfl) ?_
  refine J_callp (by simp only [go_sem, ↓reduceIte, Int.reduceLT, Int.reduceLE, Int.reduceToNat, Int.reducePow, Int.reduceNeg, Nat.reduceBEq, Tryd.ntmps53] <;> with_reducible rfl) (rfold_ok _ h) ?_
  refine J_mrun (own := []) (m := 2000) (by simp (maxSteps := 2000000) (disch := omega) only [go_sem, ↓reduceIte, Int.reduceLT, Int.reduceLE, Int.reduceToNat, Int.reducePow, Int.reduceNeg, Nat.reduceBEq, Tryd.ntmps53] <;> with_reducible rfl) ?_
  refine J_callp (by simp only [go_sem, ↓reduceIte, Int.reduceLT, Int.reduceLE, Int.reduceToNat, Int.reducePow, Int.reduceNeg, Nat.reduceBEq, Tryd.ntmps53] <;> with_reducible rfl) (rfold_ok _ (m64_in _ _)) ?_
  refine J_mrun (own := []) (m := 2000) (by simp (maxSteps := 2000000) (disch := omega) only [go_sem, ↓reduceIte, Int.reduceLT, Int.reduceLE, Int.reduceToNat, Int.reducePow, Int.reduceNeg, Nat.reduceBEq, Tryd.ntmps53] <;> with_reducible rfl) ?_
  refine J_callp (by simp only [go_sem, ↓reduceIte, Int.reduceLT, Int.reduceLE, Int.reduceToNat, Int.reducePow, Int.reduceNeg, Nat.reduceBEq, Tryd.ntmps53] <;> with_reducible rfl) (rfold_ok _ (m64_in _ _)) ?_
  refine J_mrun (own := []) (m := 2000) (by simp (maxSteps := 2000000) (disch := omega) only [go_sem, ↓reduceIte, Int.reduceLT, Int.reduceLE, Int.reduceToNat, Int.reducePow, Int.reduceNeg, Nat.reduceBEq, Tryd.ntmps53] <;> with_reducible rfl) ?_
  refine J_retX Tryd.func53 (by simp only [go_sem, ↓reduceIte, Int.reduceLT, Int.reduceLE, Int.reduceToNat, Int.reducePow, Int.reduceNeg, Nat.reduceBEq, Tryd.f53] <;> first | with_reducible rfl | rfl) ⟨rfl, rfl⟩

theorem foldl_in (l : List UInt8) : ∀ h, In64 h → In64 (l.foldl step64 h) := by
  induction l with
  | nil => exact fun h hh => hh
  | cons b l ih => exact fun h _ => ih _ (m64_in _ _)

theorem bhash_ok (k : List UInt8) (hk : k.length < 2 ^ 62) : ACalls Tryd.prog 44 [.c (.string (mkStr k))] [] (Ret (.c (.int .u64 (hash64 k)))) := by
  refine calls_of_J cl_44 Tryd.func44 rfl (by simp [Tryd.ntmps44]) ?_
  refine J_mrun (own := []) (m := 2000) (by simp (maxSteps := 2000000) (disch := omega) only [go_sem, ↓reduceIte, Int.reduceLT, Int.reduceLE, Int.reduceToNat, Int.reducePow, Int.reduceNeg, Nat.reduceBEq, Tryd.ntmps44] <;> with_reducible rfl) ?_
  refine J_keep [0, 3, 6, 7] (by simp only [go_sem, ↓reduceIte, Int.reduceLT, Int.reduceLE, Int.reduceToNat, Int.reducePow, Int.reduceNeg, Nat.reduceBEq] <;> with_reducible rfl) ?_
  refine J_loopI (I := fun m e D => ∃ i : Nat, i ≤ k.length ∧ m = k.length - i ∧ D = [] ∧ e = [(0, .c (.string (mkStr k))), (3, .c (.int .u64 ((k.take i).foldl step64 14695981039346656037))), (6, .c (.int .i64 k.length)), (7, .c (.int .i64 i))]) ?_ ?_
  · exact ⟨_, 0, Nat.zero_le _, rfl, rfl, by simp⟩
  · rintro m e D ⟨i, hi, rfl, rfl, rfl⟩ ih
    refine J_mrun (own := []) (m := 2000) (by simp (maxSteps := 2000000) (disch := omega) only [go_sem, ↓reduceIte, Int.reduceLT, Int.reduceLE, Int.reduceToNat, Int.reducePow, Int.reduceNeg, Nat.reduceBEq, Tryd.ntmps44] <;> with_reducible rfl) ?_
    refine J_if (by simp only [go_sem, ↓reduceIte, Int.reduceLT, Int.reduceLE, Int.reduceToNat, Int.reducePow, Int.reduceNeg, Nat.reduceBEq] <;> with_reducible rfl) (fun hc => ?_) (fun hc => ?_)
    · have hlt : i < k.length := by omega
      have hg : k[i]? = some k[i] := List.getElem?_eq_getElem hlt
      have hb := k[i].toNat_lt
      have h0 : (0 : Int) ≤ (i : Int) := by omega
      refine J_mrun (own := []) (m := 2000) (by simp (maxSteps := 2000000) (disch := omega) only [go_sem, ↓reduceIte, Int.reduceLT, Int.reduceLE, Int.reduceToNat, Int.reducePow, Int.reduceNeg, Nat.reduceBEq, Tryd.ntmps44, hg] <;> with_reducible rfl) ?_
      refine J_keep [0, 3, 6, 7] (by simp only [go_sem, ↓reduceIte, Int.reduceLT, Int.reduceLE, Int.reduceToNat, Int.reducePow, Int.reduceNeg, Nat.reduceBEq] <;> with_reducible rfl) ?_
      refine ih _ _ _ ?_ ⟨i + 1, hlt, rfl, rfl, ?_⟩
      · omega
      · simp only [List.take_add_one, hg, Option.toList_some, List.foldl_append, List.foldl_cons, List.foldl_nil, step64, Int.natCast_add, Int.cast_ofNat_Int]
    · have hi' : i = k.length := by omega
      subst hi'
      refine J_mrun (own := []) (m := 2000) (by simp (maxSteps := 2000000) (disch := omega) only [go_sem, ↓reduceIte, Int.reduceLT, Int.reduceLE, Int.reduceToNat, Int.reducePow, Int.reduceNeg, Nat.reduceBEq, Tryd.ntmps44] <;> with_reducible rfl) ?_
      refine J_callp (by simp only [go_sem, ↓reduceIte, Int.reduceLT, Int.reduceLE, Int.reduceToNat, Int.reducePow, Int.reduceNeg, Nat.reduceBEq, Tryd.ntmps44] <;> with_reducible rfl) (bmix_ok _ (foldl_in _ _ (by unfold In64; omega))) ?_
      refine J_mrun (own := []) (m := 2000) (by simp (maxSteps := 2000000) (disch := omega) only [go_sem, ↓reduceIte, Int.reduceLT, Int.reduceLE, Int.reduceToNat, Int.reducePow, Int.reduceNeg, Nat.reduceBEq, Tryd.ntmps44] <;> with_reducible rfl) ?_
      refine J_retX Tryd.func44 (by simp only [go_sem, ↓reduceIte, Int.reduceLT, Int.reduceLE, Int.reduceToNat, Int.reducePow, Int.reduceNeg, Nat.reduceBEq, Tryd.f44] <;> first | with_reducible rfl | rfl) ⟨by simp [hash64], rfl⟩
end Go.Proofs.YtncincpkdphojaaDoor
end

section
namespace Go.Proofs.YtncincpkdphojaaDoor
open Go Go.Av
set_option linter.unusedVariables false
set_option linter.unusedSimpArgs false
set_option maxRecDepth 100000

/-- What errors.errorType reads as. -/
def GL : HP := HP.glob 0 (.iface 121 (.agg #[.pointer (some ⟨1, 41, none⟩)]))

theorem as_ok (b : Nat) (old : AV) (cells : List AV) : ACalls Tryd.prog 33 [.ifc 71 (.fp cells), .ifc 73 (.c (.pointer (some ⟨b, 0, none⟩)))] [GL, .box b 71 [old]]
    (fun r Δ => r = .ret (.c (.bool true)) ∧ Δ = [.box b 71 [.fp cells]]) := by
  refine ⟨cl_33, fun g B us sm hr => ?_⟩
  simp only [relL, rel] at hr
  obtain ⟨u1, _, rfl, ⟨v1, rfl, be, oe, rfl, hbe, hce⟩, u2, _, rfl, ⟨v2, rfl, rfl⟩, rfl⟩ := hr
  have hg := glob_spec sm.sep (List.mem_cons_self ..)
  have hbx : getBox [GL, .box b 71 [old]] b = some (71, [old]) := by simp [getBox, GL, HP.glob]
  obtain ⟨hB, cs, h1, h2⟩ := getBox_spec sm.sep hbx
  have hl : cs.length = 1 := by simpa using relL_length h2
  obtain ⟨c, rfl⟩ : ∃ c, cs = [c] := by
    cases cs with
    | nil => simp at hl
    | cons c cs => cases cs with
      | nil => exact ⟨c, rfl⟩
      | cons _ _ => simp at hl
  have hc : g.w.cell? ⟨b, 0, none⟩ = some c := by simp [World.cell?, h1]
  have hf : g.w.frozen? ⟨b, 0, none⟩ = false := by simp [World.frozen?, h1]
  refine (as_hit ⟨be, oe, none⟩ ⟨b, 0, none⟩ c g.w hg.2 hc hf).mono ?_
  rintro e w' ⟨rfl, rfl⟩
  have hx : rel g (.fp cells) (.pointer (some ⟨be, oe, none⟩)) := by simp only [rel]; exact ⟨be, oe, rfl, hbe, hce⟩
  obtain ⟨g', k1, k2, k3⟩ := four_set sm hbx (.cells #[.pointer (some ⟨b, 0, none⟩)] 73) (.cells #[.pointer (some ⟨1, 73, none⟩), .pointer (some ⟨g.w.heap.size, 0, none⟩), .int .u64 150] 100)
    (.cells #[.pointer (some ⟨1, 73, none⟩), .pointer (some ⟨g.w.heap.size, 0, none⟩), .int .u64 150] 100) (.cells #[.pointer (some ⟨be, oe, none⟩)] 71) hx
  refine ⟨g', B, .ret (.c (.bool true)), [.box b 71 [.fp cells]], k1, k2, ?_, by simp [endRel, rel], rfl, rfl⟩
  have hs := k3.sep
  simp only [setBox, GL, HP.glob, if_true] at hs
  obtain ⟨B1, q1, q2, q3⟩ := hs
  exact ⟨k3.fzlt, k3.blt, k3.disj, sep_mono q3 (fun _ h => h.1) (fun _ h => h) (fun _ _ => rfl)⟩

/-- The code of a fault. -/
theorem of_ok {e : AV} {c : Int} (he : IsErr e c) : ACalls Tryd.prog 9 [e] [GL] (Ret (.c (.int .i64 c))) := by
  refine calls_of_J cl_9 Tryd.func9 rfl (by simp [Tryd.ntmps9]) ?_
  refine J_mrun (own := []) (m := 2000) (by simp (maxSteps := 2000000) (disch := omega) only [go_sem, ↓reduceIte, Int.reduceLT, Int.reduceLE, Int.reduceToNat, Int.reducePow, Int.reduceNeg, Nat.reduceBEq, Tryd.ntmps9] <;> with_reducible rfl) ?_
  refine J_loop ?_
  refine J_keep [0] (by simp only [go_sem, ↓reduceIte, Int.reduceLT, Int.reduceLE, Int.reduceToNat, Int.reducePow, Int.reduceNeg, Nat.reduceBEq] <;> with_reducible rfl) ?_
  induction he with
  | none =>
    refine J_mrun (own := []) (m := 2000) (by simp (maxSteps := 2000000) (disch := omega) only [go_sem, ↓reduceIte, Int.reduceLT, Int.reduceLE, Int.reduceToNat, Int.reducePow, Int.reduceNeg, Nat.reduceBEq, Tryd.ntmps9] <;> with_reducible rfl) ?_
    refine J_false (by simp only [go_sem, ↓reduceIte, Int.reduceLT, Int.reduceLE, Int.reduceToNat, Int.reducePow, Int.reduceNeg, Nat.reduceBEq] <;> with_reducible rfl) ?_
    refine J_mrun (own := []) (m := 2000) (by simp (maxSteps := 2000000) (disch := omega) only [go_sem, ↓reduceIte, Int.reduceLT, Int.reduceLE, Int.reduceToNat, Int.reducePow, Int.reduceNeg, Nat.reduceBEq, Tryd.ntmps9] <;> with_reducible rfl) ?_
    refine J_dropall ?_
    refine J_retX Tryd.func9 (by simp only [go_sem, ↓reduceIte, Int.reduceLT, Int.reduceLE, Int.reduceToNat, Int.reducePow, Int.reduceNeg, Nat.reduceBEq, Tryd.f9] <;> first | with_reducible rfl | rfl) ⟨rfl, rfl⟩
  | code op at_ c u hc =>
    refine J_mrun (own := []) (m := 2000) (by simp (maxSteps := 2000000) (disch := omega) only [go_sem, ↓reduceIte, Int.reduceLT, Int.reduceLE, Int.reduceToNat, Int.reducePow, Int.reduceNeg, Nat.reduceBEq, Tryd.ntmps9] <;> with_reducible rfl) ?_
    refine J_true (by simp only [go_sem, ↓reduceIte, Int.reduceLT, Int.reduceLE, Int.reduceToNat, Int.reducePow, Int.reduceNeg, Nat.reduceBEq] <;> with_reducible rfl) ?_
    refine J_mrun (own := [3]) (m := 2000) (by simp (maxSteps := 2000000) (disch := omega) only [go_sem, ↓reduceIte, Int.reduceLT, Int.reduceLE, Int.reduceToNat, Int.reducePow, Int.reduceNeg, Nat.reduceBEq, Tryd.ntmps9] <;> with_reducible rfl) ?_
    refine J_newvar rfl (by simp only [go_sem, ↓reduceIte, Int.reduceLT, Int.reduceLE, Int.reduceToNat, Int.reducePow, Int.reduceNeg, Nat.reduceBEq, Tryd.ntmps9]) (by simp only [go_sem, ↓reduceIte, Int.reduceLT, Int.reduceLE, Int.reduceToNat, Int.reducePow, Int.reduceNeg, Nat.reduceBEq] <;> with_reducible rfl) (fun b hb => ?_)
    refine J_mrun (own := []) (m := 2000) (by simp (maxSteps := 2000000) (disch := omega) only [go_sem, ↓reduceIte, Int.reduceLT, Int.reduceLE, Int.reduceToNat, Int.reducePow, Int.reduceNeg, Nat.reduceBEq, Tryd.ntmps9] <;> with_reducible rfl) ?_
    refine J_calls_glob (by simp only [go_sem, ↓reduceIte, Int.reduceLT, Int.reduceLE, Int.reduceToNat, Int.reducePow, Int.reduceNeg, Nat.reduceBEq, Tryd.ntmps9] <;> with_reducible rfl) (by simp [GL]) (as_ok b _ _) (Δ1 := [_]) (Fr := [GL]) (List.Perm.refl _) ?_ (by rintro x Δ' ⟨e1, _⟩; cases e1)
    rintro x Δ' ⟨e1, rfl⟩
    cases e1
    simp only [List.cons_append, List.nil_append]
    refine J_mrun (own := []) (m := 2000) (by simp (maxSteps := 2000000) (disch := omega) only [go_sem, ↓reduceIte, Int.reduceLT, Int.reduceLE, Int.reduceToNat, Int.reducePow, Int.reduceNeg, Nat.reduceBEq, Tryd.ntmps9] <;> with_reducible rfl) ?_
    refine J_false (by simp only [go_sem, ↓reduceIte, Int.reduceLT, Int.reduceLE, Int.reduceToNat, Int.reducePow, Int.reduceNeg, Nat.reduceBEq] <;> with_reducible rfl) ?_
    refine J_mrun (own := []) (m := 2000) (by simp (maxSteps := 2000000) (disch := omega) only [go_sem, ↓reduceIte, Int.reduceLT, Int.reduceLE, Int.reduceToNat, Int.reducePow, Int.reduceNeg, Nat.reduceBEq, Tryd.ntmps9] <;> with_reducible rfl) ?_
    refine J_if (by simp only [go_sem, ↓reduceIte, Int.reduceLT, Int.reduceLE, Int.reduceToNat, Int.reducePow, Int.reduceNeg, Nat.reduceBEq] <;> with_reducible rfl) (fun hh => ?_) (fun hh => ?_)
    · refine J_mrun (own := []) (m := 2000) (by simp (maxSteps := 2000000) (disch := omega) only [go_sem, ↓reduceIte, Int.reduceLT, Int.reduceLE, Int.reduceToNat, Int.reducePow, Int.reduceNeg, Nat.reduceBEq, Tryd.ntmps9] <;> with_reducible rfl) ?_
      refine J_dropall ?_
      refine J_retX Tryd.func9 (by simp only [go_sem, ↓reduceIte, Int.reduceLT, Int.reduceLE, Int.reduceToNat, Int.reducePow, Int.reduceNeg, Nat.reduceBEq, Tryd.f9] <;> first | with_reducible rfl | rfl) ⟨rfl, rfl⟩
    · exact absurd hc hh
  | under op at_ u c hc hu ih =>
    refine J_mrun (own := []) (m := 2000) (by simp (maxSteps := 2000000) (disch := omega) only [go_sem, ↓reduceIte, Int.reduceLT, Int.reduceLE, Int.reduceToNat, Int.reducePow, Int.reduceNeg, Nat.reduceBEq, Tryd.ntmps9] <;> with_reducible rfl) ?_
    refine J_true (by simp only [go_sem, ↓reduceIte, Int.reduceLT, Int.reduceLE, Int.reduceToNat, Int.reducePow, Int.reduceNeg, Nat.reduceBEq] <;> with_reducible rfl) ?_
    refine J_mrun (own := [3]) (m := 2000) (by simp (maxSteps := 2000000) (disch := omega) only [go_sem, ↓reduceIte, Int.reduceLT, Int.reduceLE, Int.reduceToNat, Int.reducePow, Int.reduceNeg, Nat.reduceBEq, Tryd.ntmps9] <;> with_reducible rfl) ?_
    refine J_newvar rfl (by simp only [go_sem, ↓reduceIte, Int.reduceLT, Int.reduceLE, Int.reduceToNat, Int.reducePow, Int.reduceNeg, Nat.reduceBEq, Tryd.ntmps9]) (by simp only [go_sem, ↓reduceIte, Int.reduceLT, Int.reduceLE, Int.reduceToNat, Int.reducePow, Int.reduceNeg, Nat.reduceBEq] <;> with_reducible rfl) (fun b hb => ?_)
    refine J_mrun (own := []) (m := 2000) (by simp (maxSteps := 2000000) (disch := omega) only [go_sem, ↓reduceIte, Int.reduceLT, Int.reduceLE, Int.reduceToNat, Int.reducePow, Int.reduceNeg, Nat.reduceBEq, Tryd.ntmps9] <;> with_reducible rfl) ?_
    refine J_calls_glob (by simp only [go_sem, ↓reduceIte, Int.reduceLT, Int.reduceLE, Int.reduceToNat, Int.reducePow, Int.reduceNeg, Nat.reduceBEq, Tryd.ntmps9] <;> with_reducible rfl) (by simp [GL]) (as_ok b _ _) (Δ1 := [_]) (Fr := [GL]) (List.Perm.refl _) ?_ (by rintro x Δ' ⟨e1, _⟩; cases e1)
    rintro x Δ' ⟨e1, rfl⟩
    cases e1
    simp only [List.cons_append, List.nil_append]
    refine J_mrun (own := []) (m := 2000) (by simp (maxSteps := 2000000) (disch := omega) only [go_sem, ↓reduceIte, Int.reduceLT, Int.reduceLE, Int.reduceToNat, Int.reducePow, Int.reduceNeg, Nat.reduceBEq, Tryd.ntmps9] <;> with_reducible rfl) ?_
    refine J_false (by simp only [go_sem, ↓reduceIte, Int.reduceLT, Int.reduceLE, Int.reduceToNat, Int.reducePow, Int.reduceNeg, Nat.reduceBEq] <;> with_reducible rfl) ?_
    refine J_mrun (own := []) (m := 2000) (by simp (maxSteps := 2000000) (disch := omega) only [go_sem, ↓reduceIte, Int.reduceLT, Int.reduceLE, Int.reduceToNat, Int.reducePow, Int.reduceNeg, Nat.reduceBEq, Tryd.ntmps9] <;> with_reducible rfl) ?_
    refine J_if (by simp only [go_sem, ↓reduceIte, Int.reduceLT, Int.reduceLE, Int.reduceToNat, Int.reducePow, Int.reduceNeg, Nat.reduceBEq] <;> with_reducible rfl) (fun hh => ?_) (fun hh => ?_)
    · exact absurd rfl hh
    · refine J_mrun (own := []) (m := 2000) (by simp (maxSteps := 2000000) (disch := omega) only [go_sem, ↓reduceIte, Int.reduceLT, Int.reduceLE, Int.reduceToNat, Int.reducePow, Int.reduceNeg, Nat.reduceBEq, Tryd.ntmps9] <;> with_reducible rfl) ?_
      refine J_inLoop (J_drop ?_)
      refine J_keep [0] (by simp only [go_sem, ↓reduceIte, Int.reduceLT, Int.reduceLE, Int.reduceToNat, Int.reducePow, Int.reduceNeg, Nat.reduceBEq] <;> with_reducible rfl) ?_
      exact ih
end Go.Proofs.YtncincpkdphojaaDoor
end

section
namespace Go.Proofs.YtncincpkdphojaaDoor
open Go Go.Av
set_option linter.unusedVariables false
set_option linter.unusedSimpArgs false
set_option maxRecDepth 100000

theorem mixed : Tryd.prog.follows .mixedOrders = true := by kernel_rfl

/-! ### The same bytes, the same entries -/
theorem bytesRows_eq (l : List UInt8) : bytesRows l = l.map fun b => [.c (.int .u8 b.toNat)] := by
  induction l with
  | nil => rfl
  | cons b l ih => simp [bytesRows, ih]
theorem bytes_len (l : List UInt8) : (bytesRows l).length = l.length := by simp [bytesRows_eq]
theorem bytes_get {l : List UInt8} {i : Nat} {x : UInt8} (h : l[i]? = some x) : (bytesRows l)[i]? = some [.c (.int .u8 x.toNat)] := by simp [bytesRows_eq, h]

theorem same02_ok (a b : List UInt8) (ha : a.length < 2 ^ 62) : ACalls Tryd.prog 52 [.sl 1 (bytesRows a), .sl 1 (bytesRows b)] [] (Ret (.c (.bool (decide (a = b))))) := by
  refine calls_of_J cl_52 Tryd.func52 rfl (by simp [Tryd.ntmps52]) ?_
  refine J_mrun (own := []) (m := 2000) (by simp (maxSteps := 2000000) (disch := omega) only [go_sem, ↓reduceIte, Int.reduceLT, Int.reduceLE, Int.reduceToNat, Int.reducePow, Int.reduceNeg, Nat.reduceBEq, Tryd.ntmps52, bytes_len] <;> with_reducible rfl) ?_
  refine J_if (by simp only [go_sem, ↓reduceIte, Int.reduceLT, Int.reduceLE, Int.reduceToNat, Int.reducePow, Int.reduceNeg, Nat.reduceBEq] <;> with_reducible rfl) (fun h1 => ?_) (fun h1 => ?_)
  · refine J_mrun (own := []) (m := 2000) (by simp (maxSteps := 2000000) (disch := omega) only [go_sem, ↓reduceIte, Int.reduceLT, Int.reduceLE, Int.reduceToNat, Int.reducePow, Int.reduceNeg, Nat.reduceBEq, Tryd.ntmps52] <;> with_reducible rfl) ?_
    have hne : a ≠ b := fun e => h1 (by rw [e])
    refine J_retX Tryd.func52 (by simp only [go_sem, ↓reduceIte, Int.reduceLT, Int.reduceLE, Int.reduceToNat, Int.reducePow, Int.reduceNeg, Nat.reduceBEq, Tryd.f52] <;> first | with_reducible rfl | rfl) ⟨by simp [hne], rfl⟩
  · have hl : a.length = b.length := by omega
    refine J_mrun (own := []) (m := 2000) (by simp (maxSteps := 2000000) (disch := omega) only [go_sem, ↓reduceIte, Int.reduceLT, Int.reduceLE, Int.reduceToNat, Int.reducePow, Int.reduceNeg, Nat.reduceBEq, Tryd.ntmps52] <;> with_reducible rfl) ?_
    refine J_keep [0, 1, 5] (by simp only [go_sem, ↓reduceIte, Int.reduceLT, Int.reduceLE, Int.reduceToNat, Int.reducePow, Int.reduceNeg, Nat.reduceBEq] <;> with_reducible rfl) ?_
    refine J_loopI (I := fun m e D => ∃ i : Nat, i ≤ a.length ∧ m = a.length - i ∧ D = [] ∧ a.take i = b.take i ∧ e = [(0, .sl 1 (bytesRows a)), (1, .sl 1 (bytesRows b)), (5, .c (.int .i64 i))]) ?_ ?_
    · exact ⟨_, 0, Nat.zero_le _, rfl, rfl, rfl, rfl⟩
    · rintro m e D ⟨i, hi, rfl, rfl, heq, rfl⟩ ih
      refine J_mrun (own := []) (m := 2000) (by simp (maxSteps := 2000000) (disch := omega) only [go_sem, ↓reduceIte, Int.reduceLT, Int.reduceLE, Int.reduceToNat, Int.reducePow, Int.reduceNeg, Nat.reduceBEq, Tryd.ntmps52, bytes_len] <;> with_reducible rfl) ?_
      refine J_if (by simp only [go_sem, ↓reduceIte, Int.reduceLT, Int.reduceLE, Int.reduceToNat, Int.reducePow, Int.reduceNeg, Nat.reduceBEq] <;> with_reducible rfl) (fun hc => ?_) (fun hc => ?_)
      · have hlt : i < a.length := by omega
        have hlb : i < b.length := by omega
        have g1 := bytes_get (List.getElem?_eq_getElem hlt)
        have g2 := bytes_get (List.getElem?_eq_getElem hlb)
        have h0 : (0 : Int) ≤ (i : Int) := by omega
        have b1 := a[i].toNat_lt
        refine J_mrun (own := []) (m := 2000) (by simp (maxSteps := 2000000) (disch := omega) only [go_sem, ↓reduceIte, Int.reduceLT, Int.reduceLE, Int.reduceToNat, Int.reducePow, Int.reduceNeg, Nat.reduceBEq, Tryd.ntmps52] <;> with_reducible rfl) ?_
        refine J_draw [[], [], [0, 1], [0, 1, 2], [], [], [4, 5], [4, 5, 6], [0, 1, 2, 3, 4, 5, 6, 7]] [(0, .pure), (1, .pure), (2, .pure), (3, .read), (4, .pure), (5, .pure), (6, .pure), (7, .read), (8, .pure)] mixed (by kernel_rfl) ?_
        refine Can_run (own := []) (by simp (maxSteps := 2000000) (disch := omega) only [go_sem, ↓reduceIte, Int.reduceLT, Int.reduceLE, Int.reduceToNat, Int.reducePow, Int.reduceNeg, Nat.reduceBEq, Tryd.ntmps52, g1, g2] <;> with_reducible rfl) ?_
        refine Can_nil ?_
        refine J_if (by simp only [go_sem, ↓reduceIte, Int.reduceLT, Int.reduceLE, Int.reduceToNat, Int.reducePow, Int.reduceNeg, Nat.reduceBEq] <;> with_reducible rfl) (fun hd => ?_) (fun hd => ?_)
        · refine J_mrun (own := []) (m := 2000) (by simp (maxSteps := 2000000) (disch := omega) only [go_sem, ↓reduceIte, Int.reduceLT, Int.reduceLE, Int.reduceToNat, Int.reducePow, Int.reduceNeg, Nat.reduceBEq, Tryd.ntmps52] <;> with_reducible rfl) ?_
          have hne : a ≠ b := fun e => hd (by simp only [e])
          refine J_retX Tryd.func52 (by simp only [go_sem, ↓reduceIte, Int.reduceLT, Int.reduceLE, Int.reduceToNat, Int.reducePow, Int.reduceNeg, Nat.reduceBEq, Tryd.f52] <;> first | with_reducible rfl | rfl) ⟨by simp [hne], rfl⟩
        · refine J_mrun (own := []) (m := 2000) (by simp (maxSteps := 2000000) (disch := omega) only [go_sem, ↓reduceIte, Int.reduceLT, Int.reduceLE, Int.reduceToNat, Int.reducePow, Int.reduceNeg, Nat.reduceBEq, Tryd.ntmps52] <;> with_reducible rfl) ?_
          refine J_keep [0, 1, 5] (by simp only [go_sem, ↓reduceIte, Int.reduceLT, Int.reduceLE, Int.reduceToNat, Int.reducePow, Int.reduceNeg, Nat.reduceBEq] <;> with_reducible rfl) ?_
          refine ih _ _ _ ?_ ⟨i + 1, hlt, rfl, rfl, ?_, ?_⟩
          · omega
          · rw [List.take_add_one, List.take_add_one, heq, List.getElem?_eq_getElem hlt, List.getElem?_eq_getElem hlb]
            have : a[i] = b[i] := by
              apply UInt8.toNat_inj.1; omega
            rw [this]
          · simp only [Int.natCast_add, Int.cast_ofNat_Int]
      · have hi' : i = a.length := by omega
        subst hi'
        refine J_mrun (own := []) (m := 2000) (by simp (maxSteps := 2000000) (disch := omega) only [go_sem, ↓reduceIte, Int.reduceLT, Int.reduceLE, Int.reduceToNat, Int.reducePow, Int.reduceNeg, Nat.reduceBEq, Tryd.ntmps52] <;> with_reducible rfl) ?_
        have hab : a = b := by
          have := heq
          rwa [List.take_length, hl, List.take_length] at this
        refine J_retX Tryd.func52 (by simp only [go_sem, ↓reduceIte, Int.reduceLT, Int.reduceLE, Int.reduceToNat, Int.reducePow, Int.reduceNeg, Nat.reduceBEq, Tryd.f52] <;> first | with_reducible rfl | rfl) ⟨by simp [hab], rfl⟩
end Go.Proofs.YtncincpkdphojaaDoor
end

section
namespace Go.Proofs.YtncincpkdphojaaDoor
open Go Go.Av
set_option linter.unusedVariables false
set_option linter.unusedSimpArgs false
set_option maxRecDepth 100000
set_option maxHeartbeats 4000000
attribute [local go_sem] Entry.av Entry.cells

theorem same06_ok (x y : Entry) (hx : x.val.length < 2 ^ 62) : ACalls Tryd.prog 23 [x.av, y.av] [] (Ret (.c (.bool (decide (x = y))))) := by
  obtain ⟨k, v, a, e, b⟩ := x
  obtain ⟨k', v', a', e', b'⟩ := y
  simp only [Entry.av, Entry.cells]
  refine calls_of_J cl_23 Tryd.func23 rfl (by simp [Tryd.ntmps23]) ?_
  by_cases h1 : k = k'
  · by_cases h2 : v = v'
    · by_cases h3 : a = a'
      · by_cases h4 : e = e'
        · refine J_mrun (own := []) (m := 2000) (by simp (maxSteps := 2000000) (disch := omega) only [go_sem, ↓reduceIte, Int.reduceLT, Int.reduceLE, Int.reduceToNat, Int.reducePow, Int.reduceNeg, Nat.reduceBEq, Tryd.ntmps23, eq_true h1, eq_true h2, eq_true h3, eq_true h4] <;> with_reducible rfl) ?_
          refine J_callp (by simp only [go_sem, ↓reduceIte, Int.reduceLT, Int.reduceLE, Int.reduceToNat, Int.reducePow, Int.reduceNeg, Nat.reduceBEq, Tryd.ntmps23] <;> with_reducible rfl) (same02_ok b b' hx) ?_
          refine J_mrun (own := []) (m := 2000) (by simp (maxSteps := 2000000) (disch := omega) only [go_sem, ↓reduceIte, Int.reduceLT, Int.reduceLE, Int.reduceToNat, Int.reducePow, Int.reduceNeg, Nat.reduceBEq, Tryd.ntmps23, eq_true h1, eq_true h2, eq_true h3, eq_true h4] <;> with_reducible rfl) ?_
          refine J_retX Tryd.func23 (by simp only [go_sem, ↓reduceIte, Int.reduceLT, Int.reduceLE, Int.reduceToNat, Int.reducePow, Int.reduceNeg, Nat.reduceBEq, Tryd.f23] <;> first | with_reducible rfl | rfl) ⟨by simp [h1, h2, h3, h4], rfl⟩
        · refine J_mrun (own := []) (m := 2000) (by simp (maxSteps := 2000000) (disch := omega) only [go_sem, ↓reduceIte, Int.reduceLT, Int.reduceLE, Int.reduceToNat, Int.reducePow, Int.reduceNeg, Nat.reduceBEq, Tryd.ntmps23, eq_true h1, eq_true h2, eq_true h3, eq_false h4] <;> with_reducible rfl) ?_
          refine J_retX Tryd.func23 (by simp only [go_sem, ↓reduceIte, Int.reduceLT, Int.reduceLE, Int.reduceToNat, Int.reducePow, Int.reduceNeg, Nat.reduceBEq, Tryd.f23] <;> first | with_reducible rfl | rfl) ⟨by simp [h4], rfl⟩
      · refine J_mrun (own := []) (m := 2000) (by simp (maxSteps := 2000000) (disch := omega) only [go_sem, ↓reduceIte, Int.reduceLT, Int.reduceLE, Int.reduceToNat, Int.reducePow, Int.reduceNeg, Nat.reduceBEq, Tryd.ntmps23, eq_true h1, eq_true h2, eq_false h3] <;> with_reducible rfl) ?_
        refine J_retX Tryd.func23 (by simp only [go_sem, ↓reduceIte, Int.reduceLT, Int.reduceLE, Int.reduceToNat, Int.reducePow, Int.reduceNeg, Nat.reduceBEq, Tryd.f23] <;> first | with_reducible rfl | rfl) ⟨by simp [h3], rfl⟩
    · refine J_mrun (own := []) (m := 2000) (by simp (maxSteps := 2000000) (disch := omega) only [go_sem, ↓reduceIte, Int.reduceLT, Int.reduceLE, Int.reduceToNat, Int.reducePow, Int.reduceNeg, Nat.reduceBEq, Tryd.ntmps23, eq_true h1, eq_false h2] <;> with_reducible rfl) ?_
      refine J_retX Tryd.func23 (by simp only [go_sem, ↓reduceIte, Int.reduceLT, Int.reduceLE, Int.reduceToNat, Int.reducePow, Int.reduceNeg, Nat.reduceBEq, Tryd.f23] <;> first | with_reducible rfl | rfl) ⟨by simp [h2], rfl⟩
  · refine J_mrun (own := []) (m := 2000) (by simp (maxSteps := 2000000) (disch := omega) only [go_sem, ↓reduceIte, Int.reduceLT, Int.reduceLE, Int.reduceToNat, Int.reducePow, Int.reduceNeg, Nat.reduceBEq, Tryd.ntmps23, eq_false h1] <;> with_reducible rfl) ?_
    refine J_retX Tryd.func23 (by simp only [go_sem, ↓reduceIte, Int.reduceLT, Int.reduceLE, Int.reduceToNat, Int.reducePow, Int.reduceNeg, Nat.reduceBEq, Tryd.f23] <;> first | with_reducible rfl | rfl) ⟨by simp [h1], rfl⟩

/-! ### Lists of entries -/
def ents (l : List Entry) : List (List AV) := l.map Entry.cells
theorem ents_len (l : List Entry) : (ents l).length = l.length := by simp [ents]
theorem ents_get {l : List Entry} {i : Nat} {x : Entry} (h : l[i]? = some x) : (ents l)[i]? = some [.c (.string (mkStr x.key)), .c (.int .i64 x.ver), .c (.int .i64 x.asof), .c (.int .i64 x.ends), .sl 1 (bytesRows x.val)] := by
  simp [ents, h, Entry.cells]
theorem ents_row (l : List Entry) : ∀ r ∈ ents l, r.length = 5 := by simp [ents, Entry.cells]

def findE (l : List Entry) (k : List UInt8) : Option Nat := l.findIdx? (fun x => decide (x.key = k))
def findI (l : List Entry) (k : List UInt8) : Int := match findE l k with | some i => i | none => -1

theorem find_ok (l : List Entry) (k : List UInt8) (hl : l.length < 2 ^ 62) : ACalls Tryd.prog 41 [.sl 5 (ents l), .c (.string (mkStr k))] [] (Ret (.c (.int .i64 (findI l k)))) := by
  refine calls_of_J cl_41 Tryd.func41 rfl (by simp [Tryd.ntmps41]) ?_
  refine J_mrun (own := []) (m := 2000) (by simp (maxSteps := 2000000) (disch := omega) only [go_sem, ↓reduceIte, Int.reduceLT, Int.reduceLE, Int.reduceToNat, Int.reducePow, Int.reduceNeg, Nat.reduceBEq, Tryd.ntmps41] <;> with_reducible rfl) ?_
  refine J_keep [0, 1, 5] (by simp only [go_sem, ↓reduceIte, Int.reduceLT, Int.reduceLE, Int.reduceToNat, Int.reducePow, Int.reduceNeg, Nat.reduceBEq] <;> with_reducible rfl) ?_
  refine J_loopI (I := fun m e D => ∃ i : Nat, i ≤ l.length ∧ m = l.length - i ∧ D = [] ∧ (∀ j (h : j < l.length), j < i → l[j].key ≠ k) ∧ e = [(0, .sl 5 (ents l)), (1, .c (.string (mkStr k))), (5, .c (.int .i64 i))]) ?_ ?_
  · exact ⟨_, 0, Nat.zero_le _, rfl, rfl, by simp, rfl⟩
  · rintro m e D ⟨i, hi, rfl, rfl, hn, rfl⟩ ih
    refine J_mrun (own := []) (m := 2000) (by simp (maxSteps := 2000000) (disch := omega) only [go_sem, ↓reduceIte, Int.reduceLT, Int.reduceLE, Int.reduceToNat, Int.reducePow, Int.reduceNeg, Nat.reduceBEq, Tryd.ntmps41, ents_len] <;> with_reducible rfl) ?_
    refine J_if (by simp only [go_sem, ↓reduceIte, Int.reduceLT, Int.reduceLE, Int.reduceToNat, Int.reducePow, Int.reduceNeg, Nat.reduceBEq] <;> with_reducible rfl) (fun hc => ?_) (fun hc => ?_)
    · have hlt : i < l.length := by omega
      have g1 := ents_get (List.getElem?_eq_getElem hlt)
      have h0 : (0 : Int) ≤ (i : Int) := by omega
      refine J_mrun (own := []) (m := 2000) (by simp (maxSteps := 2000000) (disch := omega) only [go_sem, ↓reduceIte, Int.reduceLT, Int.reduceLE, Int.reduceToNat, Int.reducePow, Int.reduceNeg, Nat.reduceBEq, Tryd.ntmps41, g1] <;> with_reducible rfl) ?_
      refine J_if (by simp only [go_sem, ↓reduceIte, Int.reduceLT, Int.reduceLE, Int.reduceToNat, Int.reducePow, Int.reduceNeg, Nat.reduceBEq] <;> with_reducible rfl) (fun hd => ?_) (fun hd => ?_)
      · refine J_mrun (own := []) (m := 2000) (by simp (maxSteps := 2000000) (disch := omega) only [go_sem, ↓reduceIte, Int.reduceLT, Int.reduceLE, Int.reduceToNat, Int.reducePow, Int.reduceNeg, Nat.reduceBEq, Tryd.ntmps41] <;> with_reducible rfl) ?_
        refine J_retX Tryd.func41 (by simp only [go_sem, ↓reduceIte, Int.reduceLT, Int.reduceLE, Int.reduceToNat, Int.reducePow, Int.reduceNeg, Nat.reduceBEq, Tryd.f41] <;> first | with_reducible rfl | rfl) ⟨by
          have : findE l k = some i := by
            unfold findE
            rw [List.findIdx?_eq_some_iff_getElem]
            exact ⟨hlt, by simpa using hd, fun j hj => by simpa using hn j (by omega) hj⟩
          simp [findI, this], rfl⟩
      · refine J_mrun (own := []) (m := 2000) (by simp (maxSteps := 2000000) (disch := omega) only [go_sem, ↓reduceIte, Int.reduceLT, Int.reduceLE, Int.reduceToNat, Int.reducePow, Int.reduceNeg, Nat.reduceBEq, Tryd.ntmps41] <;> with_reducible rfl) ?_
        refine J_keep [0, 1, 5] (by simp only [go_sem, ↓reduceIte, Int.reduceLT, Int.reduceLE, Int.reduceToNat, Int.reducePow, Int.reduceNeg, Nat.reduceBEq] <;> with_reducible rfl) ?_
        refine ih _ _ _ ?_ ⟨i + 1, hlt, rfl, rfl, ?_, by simp only [Int.natCast_add, Int.cast_ofNat_Int]⟩
        · omega
        · intro j h hj
          rcases Nat.lt_succ_iff_lt_or_eq.1 hj with h1 | rfl
          · exact hn j h h1
          · exact hd
    · have hi' : i = l.length := by omega
      subst hi'
      refine J_mrun (own := []) (m := 2000) (by simp (maxSteps := 2000000) (disch := omega) only [go_sem, ↓reduceIte, Int.reduceLT, Int.reduceLE, Int.reduceToNat, Int.reducePow, Int.reduceNeg, Nat.reduceBEq, Tryd.ntmps41] <;> with_reducible rfl) ?_
      refine J_retX Tryd.func41 (by simp only [go_sem, ↓reduceIte, Int.reduceLT, Int.reduceLE, Int.reduceToNat, Int.reducePow, Int.reduceNeg, Nat.reduceBEq, Tryd.f41] <;> first | with_reducible rfl | rfl) ⟨by
        have : findE l k = none := by
          unfold findE
          rw [List.findIdx?_eq_none_iff]
          intro x hx
          obtain ⟨j, hj, rfl⟩ := List.mem_iff_getElem.1 hx
          simpa using hn j hj hj
        simp [findI, this], rfl⟩

def but (l : List Entry) (k : List UInt8) : List Entry := l.filter fun x => decide (x.key ≠ k)

theorem but_ok (l : List Entry) (k : List UInt8) (hl : l.length < 2 ^ 30) : ACalls Tryd.prog 42 [.sl 5 (ents l), .c (.string (mkStr k))] [] (Ret (.sl 5 (ents (but l k)))) := by
  refine calls_of_J cl_42 Tryd.func42 rfl (by simp [Tryd.ntmps42]) ?_
  refine J_mrun (own := []) (m := 2000) (by simp (maxSteps := 2000000) (disch := omega) only [go_sem, ↓reduceIte, Int.reduceLT, Int.reduceLE, Int.reduceToNat, Int.reducePow, Int.reduceNeg, Nat.reduceBEq, Tryd.ntmps42] <;> with_reducible rfl) ?_
  refine J_keep [0, 1, 5, 6] (by simp only [go_sem, ↓reduceIte, Int.reduceLT, Int.reduceLE, Int.reduceToNat, Int.reducePow, Int.reduceNeg, Nat.reduceBEq] <;> with_reducible rfl) ?_
  refine J_loopI (I := fun m e D => ∃ (i : Nat) (v : Value), i ≤ l.length ∧ m = l.length - i ∧ Own 33 5 (ents (but (l.take i) k)).flatten (ents (but (l.take i) k)).length v D ∧ e = [(0, .sl 5 (ents l)), (1, .c (.string (mkStr k))), (5, .c v), (6, .c (.int .i64 i))]) ?_ ?_
  · exact ⟨_, 0, _, Nat.zero_le _, rfl, .nil (by simp [ents, but]) (by simp [ents, but]), rfl⟩
  · rintro m e D ⟨i, v, hi, rfl, how, rfl⟩ ih
    refine J_mrun (own := []) (m := 2000) (by simp (maxSteps := 2000000) (disch := omega) only [go_sem, ↓reduceIte, Int.reduceLT, Int.reduceLE, Int.reduceToNat, Int.reducePow, Int.reduceNeg, Nat.reduceBEq, Tryd.ntmps42, ents_len] <;> with_reducible rfl) ?_
    refine J_if (by simp only [go_sem, ↓reduceIte, Int.reduceLT, Int.reduceLE, Int.reduceToNat, Int.reducePow, Int.reduceNeg, Nat.reduceBEq] <;> with_reducible rfl) (fun hc => ?_) (fun hc => ?_)
    · have hlt : i < l.length := by omega
      have g0 := List.getElem?_eq_getElem hlt
      have g1 := ents_get g0
      have h0 : (0 : Int) ≤ (i : Int) := by omega
      refine J_mrun (own := []) (m := 2000) (by simp (maxSteps := 2000000) (disch := omega) only [go_sem, ↓reduceIte, Int.reduceLT, Int.reduceLE, Int.reduceToNat, Int.reducePow, Int.reduceNeg, Nat.reduceBEq, Tryd.ntmps42, g1] <;> with_reducible rfl) ?_
      refine J_if (by simp only [go_sem, ↓reduceIte, Int.reduceLT, Int.reduceLE, Int.reduceToNat, Int.reducePow, Int.reduceNeg, Nat.reduceBEq] <;> with_reducible rfl) (fun hd => ?_) (fun hd => ?_)
      · refine J_mrun (own := [26]) (m := 2000) (by simp (maxSteps := 2000000) (disch := omega) only [go_sem, ↓reduceIte, Int.reduceLT, Int.reduceLE, Int.reduceToNat, Int.reducePow, Int.reduceNeg, Nat.reduceBEq, Tryd.ntmps42, g1] <;> with_reducible rfl) ?_
        refine J_bi (by simp only [go_sem, ↓reduceIte, Int.reduceLT, Int.reduceLE, Int.reduceToNat, Int.reducePow, Int.reduceNeg, Nat.reduceBEq, Tryd.ntmps42] <;> with_reducible rfl) (append_bi (by simp only [go_sem, ↓reduceIte, Int.reduceLT, Int.reduceLE, Int.reduceToNat, Int.reducePow, Int.reduceNeg, Nat.reduceBEq] <;> with_reducible rfl) how (Fr := []) (by simp) (by simp only [go_sem] <;> rfl) (by rfl) (by simp [ents, but]; have := List.length_filter_le (fun x => decide (¬ x.key = k)) (l.take i); simp at this; omega)) ?_
        rintro _ _ ⟨v', D', rfl, rfl, how'⟩
        refine J_mrun (own := []) (m := 2000) (by simp (maxSteps := 2000000) (disch := omega) only [go_sem, ↓reduceIte, Int.reduceLT, Int.reduceLE, Int.reduceToNat, Int.reducePow, Int.reduceNeg, Nat.reduceBEq, Tryd.ntmps42] <;> with_reducible rfl) ?_
        refine J_keep [0, 1, 5, 6] (by simp only [go_sem, ↓reduceIte, Int.reduceLT, Int.reduceLE, Int.reduceToNat, Int.reducePow, Int.reduceNeg, Nat.reduceBEq] <;> with_reducible rfl) ?_
        refine ih _ _ _ ?_ ⟨i + 1, v', hlt, rfl, ?_, by simp only [Int.natCast_add, Int.cast_ofNat_Int]⟩
        · omega
        · have e1 : but (l.take (i + 1)) k = but (l.take i) k ++ [l[i]] := by
            simp only [but, List.take_add_one, g0, Option.toList_some, List.filter_append]
            simp [hd]
          rw [e1]
          simpa [ents, Entry.cells] using how'
      · refine J_mrun (own := []) (m := 2000) (by simp (maxSteps := 2000000) (disch := omega) only [go_sem, ↓reduceIte, Int.reduceLT, Int.reduceLE, Int.reduceToNat, Int.reducePow, Int.reduceNeg, Nat.reduceBEq, Tryd.ntmps42] <;> with_reducible rfl) ?_
        refine J_keep [0, 1, 5, 6] (by simp only [go_sem, ↓reduceIte, Int.reduceLT, Int.reduceLE, Int.reduceToNat, Int.reducePow, Int.reduceNeg, Nat.reduceBEq] <;> with_reducible rfl) ?_
        refine ih _ _ _ ?_ ⟨i + 1, v, hlt, rfl, ?_, by simp only [Int.natCast_add, Int.cast_ofNat_Int]⟩
        · omega
        · have e1 : but (l.take (i + 1)) k = but (l.take i) k := by
            simp only [but, List.take_add_one, g0, Option.toList_some, List.filter_append]
            simp [hd]
          rw [e1]; exact how
    · have hi' : i = l.length := by omega
      subst hi'
      rw [List.take_length] at how
      refine J_mrun (own := []) (m := 2000) (by simp (maxSteps := 2000000) (disch := omega) only [go_sem, ↓reduceIte, Int.reduceLT, Int.reduceLE, Int.reduceToNat, Int.reducePow, Int.reduceNeg, Nat.reduceBEq, Tryd.ntmps42] <;> with_reducible rfl) ?_
      refine J_freezeS (Fr := []) how (ents_row _) (by rw [ents_len]; have := List.length_filter_le (fun x => decide (x.key ≠ k)) l; unfold but maxRows; omega) ?_
      refine J_is (t := 4) (by simp only [go_sem]) (List.mem_cons_self ..) (J_drop ?_)
      refine J_retX Tryd.func42 (by simp only [go_sem, ↓reduceIte, Int.reduceLT, Int.reduceLE, Int.reduceToNat, Int.reducePow, Int.reduceNeg, Nat.reduceBEq, Tryd.f42] <;> first | with_reducible rfl | rfl) ⟨rfl, rfl⟩
end Go.Proofs.YtncincpkdphojaaDoor
end

section
namespace Go.Proofs.YtncincpkdphojaaDoor
open Go Go.Av
set_option linter.unusedVariables false
set_option linter.unusedSimpArgs false
set_option maxRecDepth 100000
set_option maxHeartbeats 4000000
attribute [local go_sem] Entry.av Entry.cells

theorem rhash_ok (k : List UInt8) (hk : k.length < 2 ^ 62) : ACalls Tryd.prog 30 [.c (.string (mkStr k))] [] (Ret (.c (.int .u64 (hash64 k)))) := by
  refine calls_of_J cl_30 Tryd.func30 rfl (by simp [Tryd.ntmps30]) ?_
  refine J_mrun (own := []) (m := 2000) (by simp (maxSteps := 2000000) (disch := omega) only [go_sem, ↓reduceIte, Int.reduceLT, Int.reduceLE, Int.reduceToNat, Int.reducePow, Int.reduceNeg, Nat.reduceBEq, Tryd.ntmps30] <;> with_reducible rfl) ?_
  refine J_keep [0, 3, 4] (by simp only [go_sem, ↓reduceIte, Int.reduceLT, Int.reduceLE, Int.reduceToNat, Int.reducePow, Int.reduceNeg, Nat.reduceBEq] <;> with_reducible rfl) ?_
  refine J_loopI (I := fun m e D => ∃ i : Nat, i ≤ k.length ∧ m = k.length - i ∧ D = [] ∧ e = [(0, .c (.string (mkStr k))), (3, .c (.int .u64 ((k.take i).foldl step64 14695981039346656037))), (4, .c (.int .i64 i))]) ?_ ?_
  · exact ⟨_, 0, Nat.zero_le _, rfl, rfl, by simp⟩
  · rintro m e D ⟨i, hi, rfl, rfl, rfl⟩ ih
    refine J_mrun (own := []) (m := 2000) (by simp (maxSteps := 2000000) (disch := omega) only [go_sem, ↓reduceIte, Int.reduceLT, Int.reduceLE, Int.reduceToNat, Int.reducePow, Int.reduceNeg, Nat.reduceBEq, Tryd.ntmps30] <;> with_reducible rfl) ?_
    refine J_if (by simp only [go_sem, ↓reduceIte, Int.reduceLT, Int.reduceLE, Int.reduceToNat, Int.reducePow, Int.reduceNeg, Nat.reduceBEq] <;> with_reducible rfl) (fun hc => ?_) (fun hc => ?_)
    · have hlt : i < k.length := by omega
      have hg : k[i]? = some k[i] := List.getElem?_eq_getElem hlt
      have hb := k[i].toNat_lt
      have h0 : (0 : Int) ≤ (i : Int) := by omega
      refine J_mrun (own := []) (m := 2000) (by simp (maxSteps := 2000000) (disch := omega) only [go_sem, ↓reduceIte, Int.reduceLT, Int.reduceLE, Int.reduceToNat, Int.reducePow, Int.reduceNeg, Nat.reduceBEq, Tryd.ntmps30, hg] <;> with_reducible rfl) ?_
      refine J_keep [0, 3, 4] (by simp only [go_sem, ↓reduceIte, Int.reduceLT, Int.reduceLE, Int.reduceToNat, Int.reducePow, Int.reduceNeg, Nat.reduceBEq] <;> with_reducible rfl) ?_
      refine ih _ _ _ ?_ ⟨i + 1, hlt, rfl, rfl, ?_⟩
      · omega
      · simp only [List.take_add_one, hg, Option.toList_some, List.foldl_append, List.foldl_cons, List.foldl_nil, step64, Int.natCast_add, Int.cast_ofNat_Int]
    · have hi' : i = k.length := by omega
      subst hi'
      refine J_mrun (own := []) (m := 2000) (by simp (maxSteps := 2000000) (disch := omega) only [go_sem, ↓reduceIte, Int.reduceLT, Int.reduceLE, Int.reduceToNat, Int.reducePow, Int.reduceNeg, Nat.reduceBEq, Tryd.ntmps30] <;> with_reducible rfl) ?_
      refine J_callp (by simp only [go_sem, ↓reduceIte, Int.reduceLT, Int.reduceLE, Int.reduceToNat, Int.reducePow, Int.reduceNeg, Nat.reduceBEq, Tryd.ntmps30] <;> with_reducible rfl) (rmix_ok _ (foldl_in _ _ (by unfold In64; omega))) ?_
      refine J_mrun (own := []) (m := 2000) (by simp (maxSteps := 2000000) (disch := omega) only [go_sem, ↓reduceIte, Int.reduceLT, Int.reduceLE, Int.reduceToNat, Int.reducePow, Int.reduceNeg, Nat.reduceBEq, Tryd.ntmps30] <;> with_reducible rfl) ?_
      refine J_retX Tryd.func30 (by simp only [go_sem, ↓reduceIte, Int.reduceLT, Int.reduceLE, Int.reduceToNat, Int.reducePow, Int.reduceNeg, Nat.reduceBEq, Tryd.f30] <;> first | with_reducible rfl | rfl) ⟨by simp [hash64], rfl⟩

theorem rkey_ok (k : List UInt8) : ACalls Tryd.prog 54 [.c (.string (mkStr k))] [] (Ret (.c (.int .i64 (keyCode k)))) := by
  refine calls_of_J cl_54 Tryd.func54 rfl (by simp [Tryd.ntmps54]) ?_
  refine J_mrun (own := []) (m := 2000) (by simp (maxSteps := 2000000) (disch := omega) only [go_sem, ↓reduceIte, Int.reduceLT, Int.reduceLE, Int.reduceToNat, Int.reducePow, Int.reduceNeg, Nat.reduceBEq, Tryd.ntmps54] <;> with_reducible rfl) ?_
  refine J_if (by simp only [go_sem, ↓reduceIte, Int.reduceLT, Int.reduceLE, Int.reduceToNat, Int.reducePow, Int.reduceNeg, Nat.reduceBEq] <;> with_reducible rfl) (fun h1 => ?_) (fun h1 => ?_)
  · refine J_mrun (own := []) (m := 2000) (by simp (maxSteps := 2000000) (disch := omega) only [go_sem, ↓reduceIte, Int.reduceLT, Int.reduceLE, Int.reduceToNat, Int.reducePow, Int.reduceNeg, Nat.reduceBEq, Tryd.ntmps54] <;> with_reducible rfl) ?_
    refine J_retX Tryd.func54 (by simp only [go_sem, ↓reduceIte, Int.reduceLT, Int.reduceLE, Int.reduceToNat, Int.reducePow, Int.reduceNeg, Nat.reduceBEq, Tryd.f54] <;> first | with_reducible rfl | rfl) ⟨by simp only [keyCode]; rw [if_pos (by rw [h1]; rfl)], rfl⟩
  · have h1' : k.length ≠ 0 := fun h => h1 (List.eq_nil_of_length_eq_zero h)
    refine J_mrun (own := []) (m := 2000) (by simp (maxSteps := 2000000) (disch := omega) only [go_sem, ↓reduceIte, Int.reduceLT, Int.reduceLE, Int.reduceToNat, Int.reducePow, Int.reduceNeg, Nat.reduceBEq, Tryd.ntmps54] <;> with_reducible rfl) ?_
    refine J_if (by simp only [go_sem, ↓reduceIte, Int.reduceLT, Int.reduceLE, Int.reduceToNat, Int.reducePow, Int.reduceNeg, Nat.reduceBEq] <;> with_reducible rfl) (fun h2 => ?_) (fun h2 => ?_)
    · refine J_mrun (own := []) (m := 2000) (by simp (maxSteps := 2000000) (disch := omega) only [go_sem, ↓reduceIte, Int.reduceLT, Int.reduceLE, Int.reduceToNat, Int.reducePow, Int.reduceNeg, Nat.reduceBEq, Tryd.ntmps54] <;> with_reducible rfl) ?_
      refine J_retX Tryd.func54 (by simp only [go_sem, ↓reduceIte, Int.reduceLT, Int.reduceLE, Int.reduceToNat, Int.reducePow, Int.reduceNeg, Nat.reduceBEq, Tryd.f54] <;> first | with_reducible rfl | rfl) ⟨by simp only [keyCode]; rw [if_neg h1', if_pos (by omega)], rfl⟩
    · refine J_mrun (own := []) (m := 2000) (by simp (maxSteps := 2000000) (disch := omega) only [go_sem, ↓reduceIte, Int.reduceLT, Int.reduceLE, Int.reduceToNat, Int.reducePow, Int.reduceNeg, Nat.reduceBEq, Tryd.ntmps54] <;> with_reducible rfl) ?_
      refine J_retX Tryd.func54 (by simp only [go_sem, ↓reduceIte, Int.reduceLT, Int.reduceLE, Int.reduceToNat, Int.reducePow, Int.reduceNeg, Nat.reduceBEq, Tryd.f54] <;> first | with_reducible rfl | rfl) ⟨by simp only [keyCode]; rw [if_neg h1', if_neg (by omega)], rfl⟩

def badNum (x : Entry) : Prop := x.ver < 1 ∨ 1099511627776 < x.ver ∨ x.asof < x.ver ∨ 1099511627776 < x.asof ∨ x.ends < 0 ∨ 1099511627776 < x.ends
instance (x : Entry) : Decidable (badNum x) := by unfold badNum; infer_instance
def checkCode (x : Entry) : Int := if keyCode x.key ≠ 0 then keyCode x.key else if badNum x then 2 else if 4096 < x.val.length then 3 else 0

theorem rcheck_ok (x : Entry) : ACalls Tryd.prog 31 [x.av] [] (Ret (.c (.int .i64 (checkCode x)))) := by
  obtain ⟨k, v, a, e, b⟩ := x
  simp only [Entry.av, Entry.cells]
  refine calls_of_J cl_31 Tryd.func31 rfl (by simp [Tryd.ntmps31]) ?_
  refine J_mrun (own := []) (m := 2000) (by simp (maxSteps := 2000000) (disch := omega) only [go_sem, ↓reduceIte, Int.reduceLT, Int.reduceLE, Int.reduceToNat, Int.reducePow, Int.reduceNeg, Nat.reduceBEq, Tryd.ntmps31] <;> with_reducible rfl) ?_
  refine J_callp (by simp only [go_sem, ↓reduceIte, Int.reduceLT, Int.reduceLE, Int.reduceToNat, Int.reducePow, Int.reduceNeg, Nat.reduceBEq, Tryd.ntmps31] <;> with_reducible rfl) (rkey_ok k) ?_
  refine J_mrun (own := []) (m := 2000) (by simp (maxSteps := 2000000) (disch := omega) only [go_sem, ↓reduceIte, Int.reduceLT, Int.reduceLE, Int.reduceToNat, Int.reducePow, Int.reduceNeg, Nat.reduceBEq, Tryd.ntmps31] <;> with_reducible rfl) ?_
  refine J_if (by simp only [go_sem, ↓reduceIte, Int.reduceLT, Int.reduceLE, Int.reduceToNat, Int.reducePow, Int.reduceNeg, Nat.reduceBEq] <;> with_reducible rfl) (fun h0 => ?_) (fun h0 => ?_)
  · refine J_mrun (own := []) (m := 2000) (by simp (maxSteps := 2000000) (disch := omega) only [go_sem, ↓reduceIte, Int.reduceLT, Int.reduceLE, Int.reduceToNat, Int.reducePow, Int.reduceNeg, Nat.reduceBEq, Tryd.ntmps31] <;> with_reducible rfl) ?_
    refine J_retX Tryd.func31 (by simp only [go_sem, ↓reduceIte, Int.reduceLT, Int.reduceLE, Int.reduceToNat, Int.reducePow, Int.reduceNeg, Nat.reduceBEq, Tryd.f31] <;> first | with_reducible rfl | rfl) ⟨by simp [checkCode, h0], rfl⟩
  · have h0' : keyCode k = 0 := by simpa using h0
    by_cases h1 : v < 1
    · refine J_mrun (own := []) (m := 2000) (by simp (maxSteps := 2000000) (disch := omega) only [go_sem, ↓reduceIte, Int.reduceLT, Int.reduceLE, Int.reduceToNat, Int.reducePow, Int.reduceNeg, Nat.reduceBEq, Tryd.ntmps31, eq_true h1] <;> with_reducible rfl) ?_
      refine J_true (by simp only [go_sem, ↓reduceIte, Int.reduceLT, Int.reduceLE, Int.reduceToNat, Int.reducePow, Int.reduceNeg, Nat.reduceBEq] <;> with_reducible rfl) ?_
      refine J_mrun (own := []) (m := 2000) (by simp (maxSteps := 2000000) (disch := omega) only [go_sem, ↓reduceIte, Int.reduceLT, Int.reduceLE, Int.reduceToNat, Int.reducePow, Int.reduceNeg, Nat.reduceBEq, Tryd.ntmps31] <;> with_reducible rfl) ?_
      refine J_retX Tryd.func31 (by simp only [go_sem, ↓reduceIte, Int.reduceLT, Int.reduceLE, Int.reduceToNat, Int.reducePow, Int.reduceNeg, Nat.reduceBEq, Tryd.f31] <;> first | with_reducible rfl | rfl) ⟨by simp [checkCode, h0', badNum, h1], rfl⟩
    by_cases h2 : 1099511627776 < v
    · refine J_mrun (own := []) (m := 2000) (by simp (maxSteps := 2000000) (disch := omega) only [go_sem, ↓reduceIte, Int.reduceLT, Int.reduceLE, Int.reduceToNat, Int.reducePow, Int.reduceNeg, Nat.reduceBEq, Tryd.ntmps31, eq_false h1, eq_true h2] <;> with_reducible rfl) ?_
      refine J_true (by simp only [go_sem, ↓reduceIte, Int.reduceLT, Int.reduceLE, Int.reduceToNat, Int.reducePow, Int.reduceNeg, Nat.reduceBEq] <;> with_reducible rfl) ?_
      refine J_mrun (own := []) (m := 2000) (by simp (maxSteps := 2000000) (disch := omega) only [go_sem, ↓reduceIte, Int.reduceLT, Int.reduceLE, Int.reduceToNat, Int.reducePow, Int.reduceNeg, Nat.reduceBEq, Tryd.ntmps31] <;> with_reducible rfl) ?_
      refine J_retX Tryd.func31 (by simp only [go_sem, ↓reduceIte, Int.reduceLT, Int.reduceLE, Int.reduceToNat, Int.reducePow, Int.reduceNeg, Nat.reduceBEq, Tryd.f31] <;> first | with_reducible rfl | rfl) ⟨by simp [checkCode, h0', badNum, h2], rfl⟩
    by_cases h3 : a < v
    · refine J_mrun (own := []) (m := 2000) (by simp (maxSteps := 2000000) (disch := omega) only [go_sem, ↓reduceIte, Int.reduceLT, Int.reduceLE, Int.reduceToNat, Int.reducePow, Int.reduceNeg, Nat.reduceBEq, Tryd.ntmps31, eq_false h1, eq_false h2, eq_true h3] <;> with_reducible rfl) ?_
      refine J_true (by simp only [go_sem, ↓reduceIte, Int.reduceLT, Int.reduceLE, Int.reduceToNat, Int.reducePow, Int.reduceNeg, Nat.reduceBEq] <;> with_reducible rfl) ?_
      refine J_mrun (own := []) (m := 2000) (by simp (maxSteps := 2000000) (disch := omega) only [go_sem, ↓reduceIte, Int.reduceLT, Int.reduceLE, Int.reduceToNat, Int.reducePow, Int.reduceNeg, Nat.reduceBEq, Tryd.ntmps31] <;> with_reducible rfl) ?_
      refine J_retX Tryd.func31 (by simp only [go_sem, ↓reduceIte, Int.reduceLT, Int.reduceLE, Int.reduceToNat, Int.reducePow, Int.reduceNeg, Nat.reduceBEq, Tryd.f31] <;> first | with_reducible rfl | rfl) ⟨by simp [checkCode, h0', badNum, h3], rfl⟩
    by_cases h4 : 1099511627776 < a
    · refine J_mrun (own := []) (m := 2000) (by simp (maxSteps := 2000000) (disch := omega) only [go_sem, ↓reduceIte, Int.reduceLT, Int.reduceLE, Int.reduceToNat, Int.reducePow, Int.reduceNeg, Nat.reduceBEq, Tryd.ntmps31, eq_false h1, eq_false h2, eq_false h3, eq_true h4] <;> with_reducible rfl) ?_
      refine J_true (by simp only [go_sem, ↓reduceIte, Int.reduceLT, Int.reduceLE, Int.reduceToNat, Int.reducePow, Int.reduceNeg, Nat.reduceBEq] <;> with_reducible rfl) ?_
      refine J_mrun (own := []) (m := 2000) (by simp (maxSteps := 2000000) (disch := omega) only [go_sem, ↓reduceIte, Int.reduceLT, Int.reduceLE, Int.reduceToNat, Int.reducePow, Int.reduceNeg, Nat.reduceBEq, Tryd.ntmps31] <;> with_reducible rfl) ?_
      refine J_retX Tryd.func31 (by simp only [go_sem, ↓reduceIte, Int.reduceLT, Int.reduceLE, Int.reduceToNat, Int.reducePow, Int.reduceNeg, Nat.reduceBEq, Tryd.f31] <;> first | with_reducible rfl | rfl) ⟨by simp [checkCode, h0', badNum, h4], rfl⟩
    by_cases h5 : e < 0
    · refine J_mrun (own := []) (m := 2000) (by simp (maxSteps := 2000000) (disch := omega) only [go_sem, ↓reduceIte, Int.reduceLT, Int.reduceLE, Int.reduceToNat, Int.reducePow, Int.reduceNeg, Nat.reduceBEq, Tryd.ntmps31, eq_false h1, eq_false h2, eq_false h3, eq_false h4, eq_true h5] <;> with_reducible rfl) ?_
      refine J_true (by simp only [go_sem, ↓reduceIte, Int.reduceLT, Int.reduceLE, Int.reduceToNat, Int.reducePow, Int.reduceNeg, Nat.reduceBEq] <;> with_reducible rfl) ?_
      refine J_mrun (own := []) (m := 2000) (by simp (maxSteps := 2000000) (disch := omega) only [go_sem, ↓reduceIte, Int.reduceLT, Int.reduceLE, Int.reduceToNat, Int.reducePow, Int.reduceNeg, Nat.reduceBEq, Tryd.ntmps31] <;> with_reducible rfl) ?_
      refine J_retX Tryd.func31 (by simp only [go_sem, ↓reduceIte, Int.reduceLT, Int.reduceLE, Int.reduceToNat, Int.reducePow, Int.reduceNeg, Nat.reduceBEq, Tryd.f31] <;> first | with_reducible rfl | rfl) ⟨by simp [checkCode, h0', badNum, h5], rfl⟩
    by_cases h6 : 1099511627776 < e
    · refine J_mrun (own := []) (m := 2000) (by simp (maxSteps := 2000000) (disch := omega) only [go_sem, ↓reduceIte, Int.reduceLT, Int.reduceLE, Int.reduceToNat, Int.reducePow, Int.reduceNeg, Nat.reduceBEq, Tryd.ntmps31, eq_false h1, eq_false h2, eq_false h3, eq_false h4, eq_false h5, eq_true h6] <;> with_reducible rfl) ?_
      refine J_true (by simp only [go_sem, ↓reduceIte, Int.reduceLT, Int.reduceLE, Int.reduceToNat, Int.reducePow, Int.reduceNeg, Nat.reduceBEq] <;> with_reducible rfl) ?_
      refine J_mrun (own := []) (m := 2000) (by simp (maxSteps := 2000000) (disch := omega) only [go_sem, ↓reduceIte, Int.reduceLT, Int.reduceLE, Int.reduceToNat, Int.reducePow, Int.reduceNeg, Nat.reduceBEq, Tryd.ntmps31] <;> with_reducible rfl) ?_
      refine J_retX Tryd.func31 (by simp only [go_sem, ↓reduceIte, Int.reduceLT, Int.reduceLE, Int.reduceToNat, Int.reducePow, Int.reduceNeg, Nat.reduceBEq, Tryd.f31] <;> first | with_reducible rfl | rfl) ⟨by simp [checkCode, h0', badNum, h6], rfl⟩
    refine J_mrun (own := []) (m := 2000) (by simp (maxSteps := 2000000) (disch := omega) only [go_sem, ↓reduceIte, Int.reduceLT, Int.reduceLE, Int.reduceToNat, Int.reducePow, Int.reduceNeg, Nat.reduceBEq, Tryd.ntmps31, eq_false h1, eq_false h2, eq_false h3, eq_false h4, eq_false h5, eq_false h6] <;> with_reducible rfl) ?_
    refine J_false (by simp only [go_sem, ↓reduceIte, Int.reduceLT, Int.reduceLE, Int.reduceToNat, Int.reducePow, Int.reduceNeg, Nat.reduceBEq] <;> with_reducible rfl) ?_
    have hbad : ¬ badNum ⟨k, v, a, e, b⟩ := by unfold badNum; simp only; omega
    refine J_mrun (own := []) (m := 2000) (by simp (maxSteps := 2000000) (disch := omega) only [go_sem, ↓reduceIte, Int.reduceLT, Int.reduceLE, Int.reduceToNat, Int.reducePow, Int.reduceNeg, Nat.reduceBEq, Tryd.ntmps31] <;> with_reducible rfl) ?_
    refine J_if (by simp only [go_sem, ↓reduceIte, Int.reduceLT, Int.reduceLE, Int.reduceToNat, Int.reducePow, Int.reduceNeg, Nat.reduceBEq] <;> with_reducible rfl) (fun h7 => ?_) (fun h7 => ?_)
    · refine J_mrun (own := []) (m := 2000) (by simp (maxSteps := 2000000) (disch := omega) only [go_sem, ↓reduceIte, Int.reduceLT, Int.reduceLE, Int.reduceToNat, Int.reducePow, Int.reduceNeg, Nat.reduceBEq, Tryd.ntmps31] <;> with_reducible rfl) ?_
      refine J_retX Tryd.func31 (by simp only [go_sem, ↓reduceIte, Int.reduceLT, Int.reduceLE, Int.reduceToNat, Int.reducePow, Int.reduceNeg, Nat.reduceBEq, Tryd.f31] <;> first | with_reducible rfl | rfl) ⟨by simp only [checkCode]; rw [if_neg (by simpa using h0'), if_neg hbad, if_pos (by show 4096 < b.length; omega)], rfl⟩
    · refine J_mrun (own := []) (m := 2000) (by simp (maxSteps := 2000000) (disch := omega) only [go_sem, ↓reduceIte, Int.reduceLT, Int.reduceLE, Int.reduceToNat, Int.reducePow, Int.reduceNeg, Nat.reduceBEq, Tryd.ntmps31] <;> with_reducible rfl) ?_
      refine J_retX Tryd.func31 (by simp only [go_sem, ↓reduceIte, Int.reduceLT, Int.reduceLE, Int.reduceToNat, Int.reducePow, Int.reduceNeg, Nat.reduceBEq, Tryd.f31] <;> first | with_reducible rfl | rfl) ⟨by simp only [checkCode]; rw [if_neg (by simpa using h0'), if_neg hbad, if_neg (by show ¬ 4096 < b.length; omega)], rfl⟩

/-! ### Floors -/
structure Flo where
  hash : Int
  at_ : Int
deriving DecidableEq
def Flo.cells (x : Flo) : List AV := [.c (.int .u64 x.hash), .c (.int .i64 x.at_)]
def flos (l : List Flo) : List (List AV) := l.map Flo.cells
theorem flos_len (l : List Flo) : (flos l).length = l.length := by simp [flos]
theorem flos_get {l : List Flo} {i : Nat} {x : Flo} (h : l[i]? = some x) : (flos l)[i]? = some [.c (.int .u64 x.hash), .c (.int .i64 x.at_)] := by simp [flos, h, Flo.cells]
theorem flos_row (l : List Flo) : ∀ r ∈ flos l, r.length = 2 := by simp [flos, Flo.cells]

structure RM where
  L : List Entry
  F : List Flo
  n : Int
def RM.av (m : RM) : AV := .agg [.sl 5 (ents m.L), .sl 2 (flos m.F), .c (.int .i64 m.n)]

def floorF (F : List Flo) (h : Int) : Int := F.foldl (fun n x => if x.hash = h then x.at_ else n) 0

theorem rfloor_ok (m : RM) (k : List UInt8) (hk : k.length < 2 ^ 62) (hF : m.F.length < 2 ^ 62) : ACalls Tryd.prog 25 [m.av, .c (.string (mkStr k))] [] (Ret (.c (.int .i64 (floorF m.F (hash64 k))))) := by
  simp only [RM.av]
  refine calls_of_J cl_25 Tryd.func25 rfl (by simp [Tryd.ntmps25]) ?_
  refine J_mrun (own := []) (m := 2000) (by simp (maxSteps := 2000000) (disch := omega) only [go_sem, ↓reduceIte, Int.reduceLT, Int.reduceLE, Int.reduceToNat, Int.reducePow, Int.reduceNeg, Nat.reduceBEq, Tryd.ntmps25] <;> with_reducible rfl) ?_
  refine J_keep [1, 2, 5, 6] (by simp only [go_sem, ↓reduceIte, Int.reduceLT, Int.reduceLE, Int.reduceToNat, Int.reducePow, Int.reduceNeg, Nat.reduceBEq] <;> with_reducible rfl) ?_
  refine J_loopI (I := fun w e D => ∃ i : Nat, i ≤ m.F.length ∧ w = m.F.length - i ∧ D = [] ∧ e = [(1, .c (.string (mkStr k))), (2, .fp [.sl 5 (ents m.L), .sl 2 (flos m.F), .c (.int .i64 m.n)]), (5, .c (.int .i64 (floorF (m.F.take i) (hash64 k)))), (6, .c (.int .i64 i))]) ?_ ?_
  · exact ⟨_, 0, Nat.zero_le _, rfl, rfl, rfl⟩
  · rintro w e D ⟨i, hi, rfl, rfl, rfl⟩ ih
    refine J_mrun (own := []) (m := 2000) (by simp (maxSteps := 2000000) (disch := omega) only [go_sem, ↓reduceIte, Int.reduceLT, Int.reduceLE, Int.reduceToNat, Int.reducePow, Int.reduceNeg, Nat.reduceBEq, Tryd.ntmps25, flos_len] <;> with_reducible rfl) ?_
    refine J_if (by simp only [go_sem, ↓reduceIte, Int.reduceLT, Int.reduceLE, Int.reduceToNat, Int.reducePow, Int.reduceNeg, Nat.reduceBEq] <;> with_reducible rfl) (fun hc => ?_) (fun hc => ?_)
    · have hlt : i < m.F.length := by omega
      have g0 := List.getElem?_eq_getElem hlt
      have g1 := flos_get g0
      have h0 : (0 : Int) ≤ (i : Int) := by omega
      refine J_mrun (own := []) (m := 2000) (by simp (maxSteps := 2000000) (disch := omega) only [go_sem, ↓reduceIte, Int.reduceLT, Int.reduceLE, Int.reduceToNat, Int.reducePow, Int.reduceNeg, Nat.reduceBEq, Tryd.ntmps25] <;> with_reducible rfl) ?_
      refine J_draw [[], [0], [], [0, 1, 2], [0, 1, 2, 3], [0, 1, 2, 3, 4], [], [6], [0, 1, 2, 3, 4, 5, 6, 7]] [(0, .pure), (1, .pure), (2, .pure), (3, .pure), (4, .pure), (5, .pure), (6, .pure), (7, .pure), (8, .pure)] mixed (by kernel_rfl) ?_
      refine Can_run (own := []) (by simp (maxSteps := 2000000) (disch := omega) only [go_sem, ↓reduceIte, Int.reduceLT, Int.reduceLE, Int.reduceToNat, Int.reducePow, Int.reduceNeg, Nat.reduceBEq, Tryd.ntmps25, g1] <;> with_reducible rfl) ?_
      refine Can_callp (by simp only [go_sem, ↓reduceIte, Int.reduceLT, Int.reduceLE, Int.reduceToNat, Int.reducePow, Int.reduceNeg, Nat.reduceBEq, Tryd.ntmps25] <;> with_reducible rfl) (rhash_ok k hk) ?_
      refine Can_run (own := []) (by simp (maxSteps := 2000000) (disch := omega) only [go_sem, ↓reduceIte, Int.reduceLT, Int.reduceLE, Int.reduceToNat, Int.reducePow, Int.reduceNeg, Nat.reduceBEq, Tryd.ntmps25, g1] <;> with_reducible rfl) ?_
      refine Can_nil ?_
      have e1 : floorF (m.F.take (i + 1)) (hash64 k) = if m.F[i].hash = hash64 k then m.F[i].at_ else floorF (m.F.take i) (hash64 k) := by
        simp only [floorF, List.take_add_one, g0, Option.toList_some, List.foldl_append, List.foldl_cons, List.foldl_nil]
      refine J_if (by simp only [go_sem, ↓reduceIte, Int.reduceLT, Int.reduceLE, Int.reduceToNat, Int.reducePow, Int.reduceNeg, Nat.reduceBEq] <;> with_reducible rfl) (fun hd => ?_) (fun hd => ?_)
      · refine J_mrun (own := []) (m := 2000) (by simp (maxSteps := 2000000) (disch := omega) only [go_sem, ↓reduceIte, Int.reduceLT, Int.reduceLE, Int.reduceToNat, Int.reducePow, Int.reduceNeg, Nat.reduceBEq, Tryd.ntmps25, g1] <;> with_reducible rfl) ?_
        refine J_keep [1, 2, 5, 6] (by simp only [go_sem, ↓reduceIte, Int.reduceLT, Int.reduceLE, Int.reduceToNat, Int.reducePow, Int.reduceNeg, Nat.reduceBEq] <;> with_reducible rfl) ?_
        refine ih _ _ _ ?_ ⟨i + 1, hlt, rfl, rfl, ?_⟩
        · omega
        · rw [e1, if_pos hd]; simp only [Int.natCast_add, Int.cast_ofNat_Int]
      · refine J_mrun (own := []) (m := 2000) (by simp (maxSteps := 2000000) (disch := omega) only [go_sem, ↓reduceIte, Int.reduceLT, Int.reduceLE, Int.reduceToNat, Int.reducePow, Int.reduceNeg, Nat.reduceBEq, Tryd.ntmps25, g1] <;> with_reducible rfl) ?_
        refine J_keep [1, 2, 5, 6] (by simp only [go_sem, ↓reduceIte, Int.reduceLT, Int.reduceLE, Int.reduceToNat, Int.reducePow, Int.reduceNeg, Nat.reduceBEq] <;> with_reducible rfl) ?_
        refine ih _ _ _ ?_ ⟨i + 1, hlt, rfl, rfl, ?_⟩
        · omega
        · rw [e1, if_neg hd]; simp only [Int.natCast_add, Int.cast_ofNat_Int]
    · have hi' : i = m.F.length := by omega
      subst hi'
      refine J_mrun (own := []) (m := 2000) (by simp (maxSteps := 2000000) (disch := omega) only [go_sem, ↓reduceIte, Int.reduceLT, Int.reduceLE, Int.reduceToNat, Int.reducePow, Int.reduceNeg, Nat.reduceBEq, Tryd.ntmps25] <;> with_reducible rfl) ?_
      refine J_retX Tryd.func25 (by simp only [go_sem, ↓reduceIte, Int.reduceLT, Int.reduceLE, Int.reduceToNat, Int.reducePow, Int.reduceNeg, Nat.reduceBEq, Tryd.f25] <;> first | with_reducible rfl | rfl) ⟨by rw [List.take_length], rfl⟩
end Go.Proofs.YtncincpkdphojaaDoor
end

section
namespace Go.Proofs.YtncincpkdphojaaDoor
open Go Go.Av
set_option linter.unusedVariables false
set_option linter.unusedSimpArgs false
set_option maxRecDepth 100000
set_option maxHeartbeats 4000000
attribute [local go_sem] Entry.av Entry.cells RM.av packed

theorem while_take {α : Type} {p : α → Bool} : ∀ {r : List α} {i : Nat}, i ≤ r.length → (∀ j (h : j < r.length), j < i → p r[j] = true) → (∀ h : i < r.length, p r[i] = false) → r.takeWhile p = r.take i ∧ r.dropWhile p = r.drop i
  | [], i, hi, _, _ => by simp
  | x :: r, 0, _, _, h => by
    have := h (by simp)
    simp only [List.getElem_cons_zero] at this
    simp [List.takeWhile_cons, List.dropWhile_cons, this]
  | x :: r, i + 1, hi, h1, h2 => by
    have hx := h1 0 (by simp) (by omega)
    simp only [List.getElem_cons_zero] at hx
    have := while_take (p := p) (r := r) (i := i) (by simpa using hi) (fun j h hj => by have := h1 (j + 1) (by simp only [List.length_cons]; omega) (by omega); rwa [List.getElem_cons_succ] at this) (fun h => by have := h2 (by simp only [List.length_cons]; omega); rwa [List.getElem_cons_succ] at this)
    simp [List.takeWhile_cons, List.dropWhile_cons, hx, this]

def putL (l : List Entry) (x : Entry) : List Entry :=
  (but l x.key).takeWhile (fun y => Op.bytesLess y.key x.key) ++ x :: (but l x.key).dropWhile (fun y => Op.bytesLess y.key x.key)

theorem ents_cell (l : List Entry) : (ents l).flatten.all AV.isCell = true := by
  induction l with
  | nil => rfl
  | cons x l ih => simp only [ents, List.map_cons, List.flatten_cons, List.all_append, Bool.and_eq_true] at ih ⊢; exact ⟨rfl, ih⟩
theorem ents_drop (l : List Entry) (i : Nat) : (ents l).drop i = ents (l.drop i) := by simp [ents]
theorem ents_append (a b : List Entry) : ents (a ++ b) = ents a ++ ents b := by simp [ents]
theorem ents_all (l : List Entry) : (ents l).take l.length = ents l := List.take_of_length_le (by rw [ents_len]; exact Nat.le_refl _)
theorem own_snoc {e : TypeId} {l : List Entry} {y : Entry} {v : Value} {D : List HP} (h : Own e 5 ((ents l).flatten ++ y.cells) ((ents l).length + 1) v D) : Own e 5 (ents (l ++ [y])).flatten (ents (l ++ [y])).length v D := by
  rw [ents_append, List.flatten_append, List.length_append]
  have e1 : (ents [y]).flatten = y.cells := by simp [ents]
  rw [e1]; exact h
theorem own_app {e : TypeId} {l k : List Entry} {v : Value} {D : List HP} (h : Own e 5 ((ents l).flatten ++ (ents k).flatten) ((ents l).length + (ents k).length) v D) : Own e 5 (ents (l ++ k)).flatten (ents (l ++ k)).length v D := by
  rw [ents_append, List.flatten_append, List.length_append]; exact h
theorem but_len (l : List Entry) (k : List UInt8) : (but l k).length ≤ l.length := List.length_filter_le _ _

theorem put_ok (l : List Entry) (x : Entry) (hl : l.length < 2 ^ 30) : ACalls Tryd.prog 32 [.sl 5 (ents l), x.av] [] (Ret (.sl 5 (ents (putL l x)))) := by
  simp only [Entry.av, Entry.cells]
  have hbl := but_len l x.key
  refine calls_of_J cl_32 Tryd.func32 rfl (by simp [Tryd.ntmps32]) ?_
  refine J_mrun (own := []) (m := 2000) (by simp (maxSteps := 2000000) (disch := omega) only [go_sem, ↓reduceIte, Int.reduceLT, Int.reduceLE, Int.reduceToNat, Int.reducePow, Int.reduceNeg, Nat.reduceBEq, Tryd.ntmps32] <;> with_reducible rfl) ?_
  refine J_callp (by simp only [go_sem, ↓reduceIte, Int.reduceLT, Int.reduceLE, Int.reduceToNat, Int.reducePow, Int.reduceNeg, Nat.reduceBEq, Tryd.ntmps32] <;> with_reducible rfl) (but_ok l x.key hl) ?_
  generalize hr : but l x.key = r at *
  refine J_mrun (own := []) (m := 2000) (by simp (maxSteps := 2000000) (disch := omega) only [go_sem, ↓reduceIte, Int.reduceLT, Int.reduceLE, Int.reduceToNat, Int.reducePow, Int.reduceNeg, Nat.reduceBEq, Tryd.ntmps32] <;> with_reducible rfl) ?_
  refine J_keep [3, 5, 6, 7] (by simp only [go_sem, ↓reduceIte, Int.reduceLT, Int.reduceLE, Int.reduceToNat, Int.reducePow, Int.reduceNeg, Nat.reduceBEq] <;> with_reducible rfl) ?_
  refine J_loopI (I := fun m e D => ∃ (i : Nat) (v : Value), i ≤ r.length ∧ m = r.length - i ∧ (∀ j (h : j < r.length), j < i → Op.bytesLess r[j].key x.key = true) ∧ Own 33 5 (ents (r.take i)).flatten (ents (r.take i)).length v D ∧ e = [(3, .fp [.c (.string (mkStr x.key)), .c (.int .i64 x.ver), .c (.int .i64 x.asof), .c (.int .i64 x.ends), .sl 1 (bytesRows x.val)]), (5, .sl 5 (ents r)), (6, .c v), (7, .c (.int .i64 i))]) ?_ ?_
  · exact ⟨_, 0, _, Nat.zero_le _, rfl, by simp, .nil (by simp [ents]) (by simp [ents]), rfl⟩
  · rintro m e D ⟨i, v, hi, rfl, hall, how, rfl⟩ ih
    have fin : (∀ h : i < r.length, Op.bytesLess r[i].key x.key = false) → r.takeWhile (fun y => Op.bytesLess y.key x.key) = r.take i ∧ r.dropWhile (fun y => Op.bytesLess y.key x.key) = r.drop i := fun h => while_take hi hall h
    have hin : (ents (r.take i)).length = i := by rw [ents_len, List.length_take]; omega
    refine J_mrun (own := []) (m := 2000) (by simp (maxSteps := 2000000) (disch := omega) only [go_sem, ↓reduceIte, Int.reduceLT, Int.reduceLE, Int.reduceToNat, Int.reducePow, Int.reduceNeg, Nat.reduceBEq, Tryd.ntmps32] <;> with_reducible rfl) ?_
    by_cases hc : (i : Int) < (r.length : Int)
    · have hlt : i < r.length := by omega
      have g0 := List.getElem?_eq_getElem hlt
      have g1 := ents_get g0
      have h0 : (0 : Int) ≤ (i : Int) := by omega
      cases hb : Op.bytesLess r[i].key x.key with
      | true =>
        refine J_draw [[], [], [1], [0, 1, 2], [0, 1, 2, 3], [0, 1, 2, 3, 4], [0, 1, 2, 3, 4], [0, 1, 2, 3, 4, 5, 6], [0, 1, 2, 3, 4, 5, 6, 7], [0, 1, 2, 3, 4, 5, 6, 7, 8], [0, 1, 2, 3, 4], [0, 1, 2, 3, 4, 10], [0, 1, 2, 3, 4, 5, 6, 7, 8, 9, 10, 11], [0, 1, 2, 3, 4, 5, 6, 7, 8, 9, 10, 11, 12]] [(0, .pure), (1, .pure), (2, .pure), (3, .pure), (4, .pure), (5, .pure), (6, .pure), (7, .pure), (8, .pure), (9, .read), (10, .pure), (11, .read), (12, .pure), (13, .pure)] mixed (by kernel_rfl) ?_
        refine Can_run (own := []) (by simp (maxSteps := 2000000) (disch := omega) only [go_sem, ↓reduceIte, Int.reduceLT, Int.reduceLE, Int.reduceToNat, Int.reducePow, Int.reduceNeg, Nat.reduceBEq, Tryd.ntmps32, ents_len, eq_true hc, g1, hb] <;> with_reducible rfl) ?_
        refine Can_nil ?_
        refine J_true (by simp only [go_sem, ↓reduceIte, Int.reduceLT, Int.reduceLE, Int.reduceToNat, Int.reducePow, Int.reduceNeg, Nat.reduceBEq] <;> with_reducible rfl) ?_
        refine J_mrun (own := [32]) (m := 2000) (by simp (maxSteps := 2000000) (disch := omega) only [go_sem, ↓reduceIte, Int.reduceLT, Int.reduceLE, Int.reduceToNat, Int.reducePow, Int.reduceNeg, Nat.reduceBEq, Tryd.ntmps32, g1] <;> with_reducible rfl) ?_
        refine J_bi (by simp only [go_sem, ↓reduceIte, Int.reduceLT, Int.reduceLE, Int.reduceToNat, Int.reducePow, Int.reduceNeg, Nat.reduceBEq, Tryd.ntmps32] <;> with_reducible rfl) (append_bi (by simp only [go_sem, ↓reduceIte, Int.reduceLT, Int.reduceLE, Int.reduceToNat, Int.reducePow, Int.reduceNeg, Nat.reduceBEq] <;> with_reducible rfl) how (Fr := []) (by simp) (by simp only [go_sem] <;> rfl) (by rfl) (by omega)) ?_
        rintro _ _ ⟨v', D', rfl, rfl, how'⟩
        refine J_mrun (own := []) (m := 2000) (by simp (maxSteps := 2000000) (disch := omega) only [go_sem, ↓reduceIte, Int.reduceLT, Int.reduceLE, Int.reduceToNat, Int.reducePow, Int.reduceNeg, Nat.reduceBEq, Tryd.ntmps32] <;> with_reducible rfl) ?_
        refine J_keep [3, 5, 6, 7] (by simp only [go_sem, ↓reduceIte, Int.reduceLT, Int.reduceLE, Int.reduceToNat, Int.reducePow, Int.reduceNeg, Nat.reduceBEq] <;> with_reducible rfl) ?_
        refine ih _ _ _ ?_ ⟨i + 1, v', hlt, rfl, ?_, ?_, by simp only [Int.natCast_add, Int.cast_ofNat_Int]⟩
        · omega
        · intro j h hj
          rcases Nat.lt_succ_iff_lt_or_eq.1 hj with h1 | rfl
          · exact hall j h h1
          · exact hb
        · have e1 : r.take (i + 1) = r.take i ++ [r[i]] := by simp only [List.take_add_one, g0, Option.toList_some]
          rw [e1]
          exact own_snoc how'
      | false =>
        refine J_draw [[], [], [1], [0, 1, 2], [0, 1, 2, 3], [0, 1, 2, 3, 4], [0, 1, 2, 3, 4], [0, 1, 2, 3, 4, 5, 6], [0, 1, 2, 3, 4, 5, 6, 7], [0, 1, 2, 3, 4, 5, 6, 7, 8], [0, 1, 2, 3, 4], [0, 1, 2, 3, 4, 10], [0, 1, 2, 3, 4, 5, 6, 7, 8, 9, 10, 11], [0, 1, 2, 3, 4, 5, 6, 7, 8, 9, 10, 11, 12]] [(0, .pure), (1, .pure), (2, .pure), (3, .pure), (4, .pure), (5, .pure), (6, .pure), (7, .pure), (8, .pure), (9, .read), (10, .pure), (11, .read), (12, .pure), (13, .pure)] mixed (by kernel_rfl) ?_
        refine Can_run (own := []) (by simp (maxSteps := 2000000) (disch := omega) only [go_sem, ↓reduceIte, Int.reduceLT, Int.reduceLE, Int.reduceToNat, Int.reducePow, Int.reduceNeg, Nat.reduceBEq, Tryd.ntmps32, ents_len, eq_true hc, g1, hb] <;> with_reducible rfl) ?_
        refine Can_nil ?_
        refine J_false (by simp only [go_sem, ↓reduceIte, Int.reduceLT, Int.reduceLE, Int.reduceToNat, Int.reducePow, Int.reduceNeg, Nat.reduceBEq] <;> with_reducible rfl) ?_
        refine J_mrun (own := [38]) (m := 2000) (by simp (maxSteps := 2000000) (disch := omega) only [go_sem, ↓reduceIte, Int.reduceLT, Int.reduceLE, Int.reduceToNat, Int.reducePow, Int.reduceNeg, Nat.reduceBEq, Tryd.ntmps32] <;> with_reducible rfl) ?_
        refine J_bi (by simp only [go_sem, ↓reduceIte, Int.reduceLT, Int.reduceLE, Int.reduceToNat, Int.reducePow, Int.reduceNeg, Nat.reduceBEq, Tryd.ntmps32] <;> with_reducible rfl) (append_bi (by simp only [go_sem, ↓reduceIte, Int.reduceLT, Int.reduceLE, Int.reduceToNat, Int.reducePow, Int.reduceNeg, Nat.reduceBEq] <;> with_reducible rfl) how (Fr := []) (by simp) (by simp only [go_sem] <;> rfl) (by rfl) (by omega)) ?_
        rintro _ _ ⟨v1, D1, rfl, rfl, how1⟩
        refine J_mrun (own := [43]) (m := 2000) (by simp (maxSteps := 2000000) (disch := omega) only [go_sem, ↓reduceIte, Int.reduceLT, Int.reduceLE, Int.reduceToNat, Int.reducePow, Int.reduceNeg, Nat.reduceBEq, Tryd.ntmps32, ents_len, ents_drop, ents_all] <;> with_reducible rfl) ?_
        refine J_bi (by simp only [go_sem, ↓reduceIte, Int.reduceLT, Int.reduceLE, Int.reduceToNat, Int.reducePow, Int.reduceNeg, Nat.reduceBEq, Tryd.ntmps32] <;> with_reducible rfl) (append_bi (by simp only [go_sem, ↓reduceIte, Int.reduceLT, Int.reduceLE, Int.reduceToNat, Int.reducePow, Int.reduceNeg, Nat.reduceBEq] <;> with_reducible rfl) how1 (Fr := []) (by simp) (by simp only [go_sem] <;> rfl) (ents_cell _) (by simp only [ents_len, List.length_drop, List.length_take]; omega)) ?_
        rintro _ D2 ⟨v2, _, rfl, rfl, how2⟩
        have how3 : Own 33 5 (ents (putL l x)).flatten (ents (putL l x)).length v2 D2 := by
          have e2 : putL l x = r.take i ++ x :: r.drop i := by unfold putL; rw [hr, (fin (fun _ => hb)).1, (fin (fun _ => hb)).2]
          rw [e2, show r.take i ++ x :: r.drop i = (r.take i ++ [x]) ++ r.drop i from by simp]
          refine own_app ?_
          rw [ents_append (r.take i), List.flatten_append, List.length_append]
          exact how2
        refine J_mrun (own := []) (m := 2000) (by simp (maxSteps := 2000000) (disch := omega) only [go_sem, ↓reduceIte, Int.reduceLT, Int.reduceLE, Int.reduceToNat, Int.reducePow, Int.reduceNeg, Nat.reduceBEq, Tryd.ntmps32] <;> with_reducible rfl) ?_
        have h9 : (putL l x).length = r.length + 1 := by unfold putL; rw [hr, (fin (fun _ => hb)).1, (fin (fun _ => hb)).2]; simp; omega
        refine J_freezeS (Fr := []) how3 (ents_row _) (by rw [ents_len, h9]; unfold maxRows; omega) ?_
        refine J_is (t := 4) (by simp only [go_sem]) (List.mem_cons_self ..) (J_drop ?_)
        refine J_retX Tryd.func32 (by simp only [go_sem, ↓reduceIte, Int.reduceLT, Int.reduceLE, Int.reduceToNat, Int.reducePow, Int.reduceNeg, Nat.reduceBEq, Tryd.f32] <;> first | with_reducible rfl | rfl) ⟨rfl, rfl⟩
    · have hi' : i = r.length := by omega
      have hno : ∀ h : i < r.length, Op.bytesLess r[i].key x.key = false := fun h => by omega
      refine J_draw [[], [], [1], [0, 1, 2], [0, 1, 2, 3], [0, 1, 2, 3, 4], [0, 1, 2, 3, 4], [0, 1, 2, 3, 4, 5, 6], [0, 1, 2, 3, 4, 5, 6, 7], [0, 1, 2, 3, 4, 5, 6, 7, 8], [0, 1, 2, 3, 4], [0, 1, 2, 3, 4, 10], [0, 1, 2, 3, 4, 5, 6, 7, 8, 9, 10, 11], [0, 1, 2, 3, 4, 5, 6, 7, 8, 9, 10, 11, 12]] [(0, .pure), (1, .pure), (2, .pure), (3, .pure), (4, .pure), (5, .pure), (6, .pure), (7, .pure), (8, .pure), (9, .read), (10, .pure), (11, .read), (12, .pure), (13, .pure)] mixed (by kernel_rfl) ?_
      refine Can_run (own := []) (by simp (maxSteps := 2000000) (disch := omega) only [go_sem, ↓reduceIte, Int.reduceLT, Int.reduceLE, Int.reduceToNat, Int.reducePow, Int.reduceNeg, Nat.reduceBEq, Tryd.ntmps32, ents_len, eq_false hc] <;> with_reducible rfl) ?_
      refine Can_nil ?_
      refine J_false (by simp only [go_sem, ↓reduceIte, Int.reduceLT, Int.reduceLE, Int.reduceToNat, Int.reducePow, Int.reduceNeg, Nat.reduceBEq] <;> with_reducible rfl) ?_
      refine J_mrun (own := [38]) (m := 2000) (by simp (maxSteps := 2000000) (disch := omega) only [go_sem, ↓reduceIte, Int.reduceLT, Int.reduceLE, Int.reduceToNat, Int.reducePow, Int.reduceNeg, Nat.reduceBEq, Tryd.ntmps32] <;> with_reducible rfl) ?_
      refine J_bi (by simp only [go_sem, ↓reduceIte, Int.reduceLT, Int.reduceLE, Int.reduceToNat, Int.reducePow, Int.reduceNeg, Nat.reduceBEq, Tryd.ntmps32] <;> with_reducible rfl) (append_bi (by simp only [go_sem, ↓reduceIte, Int.reduceLT, Int.reduceLE, Int.reduceToNat, Int.reducePow, Int.reduceNeg, Nat.reduceBEq] <;> with_reducible rfl) how (Fr := []) (by simp) (by simp only [go_sem] <;> rfl) (by rfl) (by omega)) ?_
      rintro _ _ ⟨v1, D1, rfl, rfl, how1⟩
      refine J_mrun (own := [43]) (m := 2000) (by simp (maxSteps := 2000000) (disch := omega) only [go_sem, ↓reduceIte, Int.reduceLT, Int.reduceLE, Int.reduceToNat, Int.reducePow, Int.reduceNeg, Nat.reduceBEq, Tryd.ntmps32, ents_len, ents_drop, ents_all] <;> with_reducible rfl) ?_
      refine J_bi (by simp only [go_sem, ↓reduceIte, Int.reduceLT, Int.reduceLE, Int.reduceToNat, Int.reducePow, Int.reduceNeg, Nat.reduceBEq, Tryd.ntmps32] <;> with_reducible rfl) (append_bi (by simp only [go_sem, ↓reduceIte, Int.reduceLT, Int.reduceLE, Int.reduceToNat, Int.reducePow, Int.reduceNeg, Nat.reduceBEq] <;> with_reducible rfl) how1 (Fr := []) (by simp) (by simp only [go_sem] <;> rfl) (ents_cell _) (by simp only [ents_len, List.length_drop, List.length_take]; omega)) ?_
      rintro _ D2 ⟨v2, _, rfl, rfl, how2⟩
      have how3 : Own 33 5 (ents (putL l x)).flatten (ents (putL l x)).length v2 D2 := by
        have e2 : putL l x = r.take i ++ x :: r.drop i := by unfold putL; rw [hr, (fin hno).1, (fin hno).2]
        rw [e2, show r.take i ++ x :: r.drop i = (r.take i ++ [x]) ++ r.drop i from by simp]
        refine own_app ?_
        rw [ents_append (r.take i), List.flatten_append, List.length_append]
        exact how2
      refine J_mrun (own := []) (m := 2000) (by simp (maxSteps := 2000000) (disch := omega) only [go_sem, ↓reduceIte, Int.reduceLT, Int.reduceLE, Int.reduceToNat, Int.reducePow, Int.reduceNeg, Nat.reduceBEq, Tryd.ntmps32] <;> with_reducible rfl) ?_
      have h9 : (putL l x).length = r.length + 1 := by unfold putL; rw [hr, (fin hno).1, (fin hno).2]; simp; omega
      refine J_freezeS (Fr := []) how3 (ents_row _) (by rw [ents_len, h9]; unfold maxRows; omega) ?_
      refine J_is (t := 4) (by simp only [go_sem]) (List.mem_cons_self ..) (J_drop ?_)
      refine J_retX Tryd.func32 (by simp only [go_sem, ↓reduceIte, Int.reduceLT, Int.reduceLE, Int.reduceToNat, Int.reducePow, Int.reduceNeg, Nat.reduceBEq, Tryd.f32] <;> first | with_reducible rfl | rfl) ⟨rfl, rfl⟩
end Go.Proofs.YtncincpkdphojaaDoor
end

section
namespace Go.Proofs.YtncincpkdphojaaDoor
open Go Go.Av
set_option linter.unusedVariables false
set_option linter.unusedSimpArgs false
set_option maxRecDepth 100000
set_option maxHeartbeats 4000000
attribute [local go_sem] Entry.av Entry.cells RM.av packed List.set_cons_zero List.set_cons_succ

def zeroE : Entry := ⟨[], 0, 0, 0, []⟩
def getE (l : List Entry) (k : List UInt8) : Option Entry := (findE l k).bind fun i => l[i]?

theorem getE_none {l : List Entry} {k : List UInt8} (h : findE l k = none) : getE l k = none := by simp [getE, h]
theorem getE_some {l : List Entry} {k : List UInt8} {i : Nat} (h : findE l k = some i) : ∃ x, l[i]? = some x ∧ getE l k = some x := by
  have hi : i < l.length := by
    unfold findE at h
    rw [List.findIdx?_eq_some_iff_getElem] at h
    exact h.1
  exact ⟨l[i], List.getElem?_eq_getElem hi, by simp [getE, h, List.getElem?_eq_getElem hi]⟩

theorem rget_ok (m : RM) (k : List UInt8) (hl : m.L.length < 2 ^ 62) : ACalls Tryd.prog 22 [m.av, .c (.string (mkStr k))] [] (Ret (.tup [((getE m.L k).getD zeroE).av, .c (.bool (getE m.L k).isSome)])) := by
  simp only [RM.av]
  refine calls_of_J cl_22 Tryd.func22 rfl (by simp [Tryd.ntmps22]) ?_
  refine J_mrun (own := [4]) (m := 2000) (by simp (maxSteps := 2000000) (disch := omega) only [go_sem, ↓reduceIte, Int.reduceLT, Int.reduceLE, Int.reduceToNat, Int.reducePow, Int.reduceNeg, Nat.reduceBEq, Tryd.ntmps22] <;> with_reducible rfl) ?_
  refine J_newvar rfl (by simp only [go_sem, ↓reduceIte, Int.reduceLT, Int.reduceLE, Int.reduceToNat, Int.reducePow, Int.reduceNeg, Nat.reduceBEq, Tryd.ntmps22]) (by simp only [go_sem, ↓reduceIte, Int.reduceLT, Int.reduceLE, Int.reduceToNat, Int.reducePow, Int.reduceNeg, Nat.reduceBEq] <;> with_reducible rfl) (fun b hb => ?_)
  refine J_mrun (own := []) (m := 2000) (by simp (maxSteps := 2000000) (disch := omega) only [go_sem, ↓reduceIte, Int.reduceLT, Int.reduceLE, Int.reduceToNat, Int.reducePow, Int.reduceNeg, Nat.reduceBEq, Tryd.ntmps22] <;> with_reducible rfl) ?_
  refine J_callp (by simp only [go_sem, ↓reduceIte, Int.reduceLT, Int.reduceLE, Int.reduceToNat, Int.reducePow, Int.reduceNeg, Nat.reduceBEq, Tryd.ntmps22] <;> with_reducible rfl) (find_ok m.L k hl) ?_
  refine J_mrun (own := []) (m := 2000) (by simp (maxSteps := 2000000) (disch := omega) only [go_sem, ↓reduceIte, Int.reduceLT, Int.reduceLE, Int.reduceToNat, Int.reducePow, Int.reduceNeg, Nat.reduceBEq, Tryd.ntmps22] <;> with_reducible rfl) ?_
  cases hf : findE m.L k with
  | none =>
    have e1 : findI m.L k = -1 := by simp [findI, hf]
    have e2 : getE m.L k = none := getE_none hf
    refine J_if (by simp only [go_sem, ↓reduceIte, Int.reduceLT, Int.reduceLE, Int.reduceToNat, Int.reducePow, Int.reduceNeg, Nat.reduceBEq] <;> with_reducible rfl) (fun hc => ?_) (fun hc => ?_)
    · refine J_mrun (own := []) (m := 2000) (by simp (maxSteps := 2000000) (disch := omega) only [go_sem, ↓reduceIte, Int.reduceLT, Int.reduceLE, Int.reduceToNat, Int.reducePow, Int.reduceNeg, Nat.reduceBEq, Tryd.ntmps22] <;> with_reducible rfl) ?_
      refine J_nilBox 4 1 (by simp only [go_sem]) ?_
      refine J_mrun (own := []) (m := 2000) (by simp (maxSteps := 2000000) (disch := omega) only [go_sem, ↓reduceIte, Int.reduceLT, Int.reduceLE, Int.reduceToNat, Int.reducePow, Int.reduceNeg, Nat.reduceBEq, Tryd.ntmps22] <;> with_reducible rfl) ?_
      refine J_forget ?_
      refine J_retX Tryd.func22 (by simp only [go_sem, ↓reduceIte, Int.reduceLT, Int.reduceLE, Int.reduceToNat, Int.reducePow, Int.reduceNeg, Nat.reduceBEq, Tryd.f22] <;> first | with_reducible rfl | rfl) ⟨by rw [e2]; rfl, rfl⟩
    · omega
  | some i =>
    have e1 : findI m.L k = i := by simp [findI, hf]
    obtain ⟨x, h1, h2⟩ := getE_some hf
    have g1 := ents_get h1
    have h0 : (0 : Int) ≤ (i : Int) := by omega
    refine J_if (by simp only [go_sem, ↓reduceIte, Int.reduceLT, Int.reduceLE, Int.reduceToNat, Int.reducePow, Int.reduceNeg, Nat.reduceBEq] <;> with_reducible rfl) (fun hc => ?_) (fun hc => ?_)
    · omega
    · rw [e1]
      refine J_mrun (own := []) (m := 2000) (by simp (maxSteps := 2000000) (disch := omega) only [go_sem, ↓reduceIte, Int.reduceLT, Int.reduceLE, Int.reduceToNat, Int.reducePow, Int.reduceNeg, Nat.reduceBEq, Tryd.ntmps22, g1] <;> with_reducible rfl) ?_
      refine J_forget ?_
      refine J_retX Tryd.func22 (by simp only [go_sem, ↓reduceIte, Int.reduceLT, Int.reduceLE, Int.reduceToNat, Int.reducePow, Int.reduceNeg, Nat.reduceBEq, Tryd.f22] <;> first | with_reducible rfl | rfl) ⟨by rw [h2]; rfl, rfl⟩

/-! ### What the document's map does -/
def setRM (m : RM) (x : Entry) : RM × Int :=
  if checkCode x ≠ 0 then (m, checkCode x) else if x.asof < floorF m.F (hash64 x.key) then (m, 10) else ({ m with L := putL m.L x }, 0)

theorem key_short {x : Entry} (h : checkCode x = 0) : x.key.length ≤ 40 := by
  unfold checkCode at h
  by_cases h1 : keyCode x.key ≠ 0
  · rw [if_pos h1] at h; exact absurd h h1
  · simp only [ne_eq, Decidable.not_not] at h1
    unfold keyCode at h1
    split at h1
    · omega
    · split at h1
      · omega
      · omega

theorem rset_ok (m : RM) (x : Entry) (hl : m.L.length < 2 ^ 30) (hF : m.F.length < 2 ^ 62) : ACalls Tryd.prog 8 [m.av, x.av] [] (Ret (.tup [(setRM m x).1.av, .c (.int .i64 (setRM m x).2)])) := by
  simp only [RM.av, Entry.av, Entry.cells]
  refine calls_of_J cl_8 Tryd.func8 rfl (by simp [Tryd.ntmps8]) ?_
  refine J_mrun (own := [4]) (m := 2000) (by simp (maxSteps := 2000000) (disch := omega) only [go_sem, ↓reduceIte, Int.reduceLT, Int.reduceLE, Int.reduceToNat, Int.reducePow, Int.reduceNeg, Nat.reduceBEq, Tryd.ntmps8] <;> with_reducible rfl) ?_
  refine J_newvar rfl (by simp only [go_sem, ↓reduceIte, Int.reduceLT, Int.reduceLE, Int.reduceToNat, Int.reducePow, Int.reduceNeg, Nat.reduceBEq, Tryd.ntmps8]) (by simp only [go_sem, ↓reduceIte, Int.reduceLT, Int.reduceLE, Int.reduceToNat, Int.reducePow, Int.reduceNeg, Nat.reduceBEq] <;> with_reducible rfl) (fun b hb => ?_)
  refine J_mrun (own := []) (m := 2000) (by simp (maxSteps := 2000000) (disch := omega) only [go_sem, ↓reduceIte, Int.reduceLT, Int.reduceLE, Int.reduceToNat, Int.reducePow, Int.reduceNeg, Nat.reduceBEq, Tryd.ntmps8] <;> with_reducible rfl) ?_
  refine J_callp (by simp only [go_sem, ↓reduceIte, Int.reduceLT, Int.reduceLE, Int.reduceToNat, Int.reducePow, Int.reduceNeg, Nat.reduceBEq, Tryd.ntmps8] <;> with_reducible rfl) (rcheck_ok x) ?_
  refine J_mrun (own := []) (m := 2000) (by simp (maxSteps := 2000000) (disch := omega) only [go_sem, ↓reduceIte, Int.reduceLT, Int.reduceLE, Int.reduceToNat, Int.reducePow, Int.reduceNeg, Nat.reduceBEq, Tryd.ntmps8] <;> with_reducible rfl) ?_
  refine J_if (by simp only [go_sem, ↓reduceIte, Int.reduceLT, Int.reduceLE, Int.reduceToNat, Int.reducePow, Int.reduceNeg, Nat.reduceBEq] <;> with_reducible rfl) (fun hc => ?_) (fun hc => ?_)
  · refine J_mrun (own := []) (m := 2000) (by simp (maxSteps := 2000000) (disch := omega) only [go_sem, ↓reduceIte, Int.reduceLT, Int.reduceLE, Int.reduceToNat, Int.reducePow, Int.reduceNeg, Nat.reduceBEq, Tryd.ntmps8] <;> with_reducible rfl) ?_
    refine J_forget ?_
    refine J_retX Tryd.func8 (by simp only [go_sem, ↓reduceIte, Int.reduceLT, Int.reduceLE, Int.reduceToNat, Int.reducePow, Int.reduceNeg, Nat.reduceBEq, Tryd.f8] <;> first | with_reducible rfl | rfl) ⟨by simp [setRM, hc], rfl⟩
  · have hc' : checkCode x = 0 := by simpa using hc
    have hk := key_short hc'
    refine J_mrun (own := []) (m := 2000) (by simp (maxSteps := 2000000) (disch := omega) only [go_sem, ↓reduceIte, Int.reduceLT, Int.reduceLE, Int.reduceToNat, Int.reducePow, Int.reduceNeg, Nat.reduceBEq, Tryd.ntmps8] <;> with_reducible rfl) ?_
    refine J_draw [[], [0], [], [], [3], [2, 3, 4], [0, 1, 2, 3, 4, 5]] [(0, .pure), (1, .pure), (2, .read), (3, .pure), (4, .read), (5, .pure), (6, .pure)] mixed (by kernel_rfl) ?_
    refine Can_run (own := []) (by simp (maxSteps := 2000000) (disch := omega) only [go_sem, ↓reduceIte, Int.reduceLT, Int.reduceLE, Int.reduceToNat, Int.reducePow, Int.reduceNeg, Nat.reduceBEq, Tryd.ntmps8] <;> with_reducible rfl) ?_
    refine Can_callp (by simp only [go_sem, ↓reduceIte, Int.reduceLT, Int.reduceLE, Int.reduceToNat, Int.reducePow, Int.reduceNeg, Nat.reduceBEq, Tryd.ntmps8] <;> with_reducible rfl) (rfloor_ok m x.key (by omega) hF) ?_
    refine Can_run (own := []) (by simp (maxSteps := 2000000) (disch := omega) only [go_sem, ↓reduceIte, Int.reduceLT, Int.reduceLE, Int.reduceToNat, Int.reducePow, Int.reduceNeg, Nat.reduceBEq, Tryd.ntmps8] <;> with_reducible rfl) ?_
    refine Can_nil ?_
    refine J_if (by simp only [go_sem, ↓reduceIte, Int.reduceLT, Int.reduceLE, Int.reduceToNat, Int.reducePow, Int.reduceNeg, Nat.reduceBEq] <;> with_reducible rfl) (fun hd => ?_) (fun hd => ?_)
    · refine J_mrun (own := []) (m := 2000) (by simp (maxSteps := 2000000) (disch := omega) only [go_sem, ↓reduceIte, Int.reduceLT, Int.reduceLE, Int.reduceToNat, Int.reducePow, Int.reduceNeg, Nat.reduceBEq, Tryd.ntmps8] <;> with_reducible rfl) ?_
      refine J_forget ?_
      refine J_retX Tryd.func8 (by simp only [go_sem, ↓reduceIte, Int.reduceLT, Int.reduceLE, Int.reduceToNat, Int.reducePow, Int.reduceNeg, Nat.reduceBEq, Tryd.f8] <;> first | with_reducible rfl | rfl) ⟨by simp [setRM, hc', hd], rfl⟩
    · refine J_mrun (own := [7]) (m := 2000) (by simp (maxSteps := 2000000) (disch := omega) only [go_sem, ↓reduceIte, Int.reduceLT, Int.reduceLE, Int.reduceToNat, Int.reducePow, Int.reduceNeg, Nat.reduceBEq, Tryd.ntmps8] <;> with_reducible rfl) ?_
      refine J_newvar rfl (by simp only [go_sem, ↓reduceIte, Int.reduceLT, Int.reduceLE, Int.reduceToNat, Int.reducePow, Int.reduceNeg, Nat.reduceBEq, Tryd.ntmps8]) (by simp only [go_sem, ↓reduceIte, Int.reduceLT, Int.reduceLE, Int.reduceToNat, Int.reducePow, Int.reduceNeg, Nat.reduceBEq] <;> with_reducible rfl) (fun b7 hb7 => ?_)
      simp only [fresh] at hb7
      refine J_mrun (own := []) (m := 2000) (by simp (maxSteps := 2000000) (disch := omega) only [go_sem, ↓reduceIte, Int.reduceLT, Int.reduceLE, Int.reduceToNat, Int.reducePow, Int.reduceNeg, Nat.reduceBEq, Tryd.ntmps8, hb7.1, hb7.2.1] <;> with_reducible rfl) ?_
      refine J_callp (by simp only [go_sem, ↓reduceIte, Int.reduceLT, Int.reduceLE, Int.reduceToNat, Int.reducePow, Int.reduceNeg, Nat.reduceBEq, Tryd.ntmps8] <;> with_reducible rfl) (put_ok m.L x hl) ?_
      refine J_mrun (own := []) (m := 2000) (by simp (maxSteps := 2000000) (disch := omega) only [go_sem, ↓reduceIte, Int.reduceLT, Int.reduceLE, Int.reduceToNat, Int.reducePow, Int.reduceNeg, Nat.reduceBEq, Tryd.ntmps8, hb7.1, hb7.2.1] <;> with_reducible rfl) ?_
      refine J_forget ?_
      refine J_retX Tryd.func8 (by simp only [go_sem, ↓reduceIte, Int.reduceLT, Int.reduceLE, Int.reduceToNat, Int.reducePow, Int.reduceNeg, Nat.reduceBEq, Tryd.f8, hb7.1, hb7.2.1] <;> first | with_reducible rfl | rfl) ⟨by simp [setRM, hc', hd], rfl⟩

def forgetRM (m : RM) (k : List UInt8) : RM × Bool :=
  if (findE m.L k).isSome then ({ m with L := but m.L k, n := IntKind.i64.wrap (m.n + 1) }, true) else (m, false)

theorem rforget_ok (m : RM) (k : List UInt8) (hl : m.L.length < 2 ^ 30) : ACalls Tryd.prog 11 [m.av, .c (.string (mkStr k))] [] (Ret (.tup [(forgetRM m k).1.av, .c (.bool (forgetRM m k).2)])) := by
  simp only [RM.av]
  refine calls_of_J cl_11 Tryd.func11 rfl (by simp [Tryd.ntmps11]) ?_
  refine J_mrun (own := [4]) (m := 2000) (by simp (maxSteps := 2000000) (disch := omega) only [go_sem, ↓reduceIte, Int.reduceLT, Int.reduceLE, Int.reduceToNat, Int.reducePow, Int.reduceNeg, Nat.reduceBEq, Tryd.ntmps11] <;> with_reducible rfl) ?_
  refine J_newvar rfl (by simp only [go_sem, ↓reduceIte, Int.reduceLT, Int.reduceLE, Int.reduceToNat, Int.reducePow, Int.reduceNeg, Nat.reduceBEq, Tryd.ntmps11]) (by simp only [go_sem, ↓reduceIte, Int.reduceLT, Int.reduceLE, Int.reduceToNat, Int.reducePow, Int.reduceNeg, Nat.reduceBEq] <;> with_reducible rfl) (fun b hb => ?_)
  refine J_mrun (own := []) (m := 2000) (by simp (maxSteps := 2000000) (disch := omega) only [go_sem, ↓reduceIte, Int.reduceLT, Int.reduceLE, Int.reduceToNat, Int.reducePow, Int.reduceNeg, Nat.reduceBEq, Tryd.ntmps11] <;> with_reducible rfl) ?_
  refine J_callp (by simp only [go_sem, ↓reduceIte, Int.reduceLT, Int.reduceLE, Int.reduceToNat, Int.reducePow, Int.reduceNeg, Nat.reduceBEq, Tryd.ntmps11] <;> with_reducible rfl) (find_ok m.L k (by omega)) ?_
  refine J_mrun (own := []) (m := 2000) (by simp (maxSteps := 2000000) (disch := omega) only [go_sem, ↓reduceIte, Int.reduceLT, Int.reduceLE, Int.reduceToNat, Int.reducePow, Int.reduceNeg, Nat.reduceBEq, Tryd.ntmps11] <;> with_reducible rfl) ?_
  cases hf : findE m.L k with
  | none =>
    have e1 : findI m.L k = -1 := by simp [findI, hf]
    refine J_if (by simp only [go_sem, ↓reduceIte, Int.reduceLT, Int.reduceLE, Int.reduceToNat, Int.reducePow, Int.reduceNeg, Nat.reduceBEq] <;> with_reducible rfl) (fun hc => ?_) (fun hc => ?_)
    · refine J_mrun (own := []) (m := 2000) (by simp (maxSteps := 2000000) (disch := omega) only [go_sem, ↓reduceIte, Int.reduceLT, Int.reduceLE, Int.reduceToNat, Int.reducePow, Int.reduceNeg, Nat.reduceBEq, Tryd.ntmps11] <;> with_reducible rfl) ?_
      refine J_forget ?_
      refine J_retX Tryd.func11 (by simp only [go_sem, ↓reduceIte, Int.reduceLT, Int.reduceLE, Int.reduceToNat, Int.reducePow, Int.reduceNeg, Nat.reduceBEq, Tryd.f11] <;> first | with_reducible rfl | rfl) ⟨by simp [forgetRM, hf], rfl⟩
    · omega
  | some i =>
    have e1 : findI m.L k = i := by simp [findI, hf]
    refine J_if (by simp only [go_sem, ↓reduceIte, Int.reduceLT, Int.reduceLE, Int.reduceToNat, Int.reducePow, Int.reduceNeg, Nat.reduceBEq] <;> with_reducible rfl) (fun hc => ?_) (fun hc => ?_)
    · omega
    · refine J_mrun (own := [6]) (m := 2000) (by simp (maxSteps := 2000000) (disch := omega) only [go_sem, ↓reduceIte, Int.reduceLT, Int.reduceLE, Int.reduceToNat, Int.reducePow, Int.reduceNeg, Nat.reduceBEq, Tryd.ntmps11] <;> with_reducible rfl) ?_
      refine J_newvar rfl (by simp only [go_sem, ↓reduceIte, Int.reduceLT, Int.reduceLE, Int.reduceToNat, Int.reducePow, Int.reduceNeg, Nat.reduceBEq, Tryd.ntmps11]) (by simp only [go_sem, ↓reduceIte, Int.reduceLT, Int.reduceLE, Int.reduceToNat, Int.reducePow, Int.reduceNeg, Nat.reduceBEq] <;> with_reducible rfl) (fun b7 hb7 => ?_)
      simp only [fresh] at hb7
      refine J_mrun (own := []) (m := 2000) (by simp (maxSteps := 2000000) (disch := omega) only [go_sem, ↓reduceIte, Int.reduceLT, Int.reduceLE, Int.reduceToNat, Int.reducePow, Int.reduceNeg, Nat.reduceBEq, Tryd.ntmps11, hb7.1, hb7.2.1] <;> with_reducible rfl) ?_
      refine J_callp (by simp only [go_sem, ↓reduceIte, Int.reduceLT, Int.reduceLE, Int.reduceToNat, Int.reducePow, Int.reduceNeg, Nat.reduceBEq, Tryd.ntmps11] <;> with_reducible rfl) (but_ok m.L k hl) ?_
      refine J_mrun (own := []) (m := 2000) (by simp (maxSteps := 2000000) (disch := omega) only [go_sem, ↓reduceIte, Int.reduceLT, Int.reduceLE, Int.reduceToNat, Int.reducePow, Int.reduceNeg, Nat.reduceBEq, Tryd.ntmps11, hb7.1, hb7.2.1] <;> with_reducible rfl) ?_
      refine J_forget ?_
      refine J_retX Tryd.func11 (by simp only [go_sem, ↓reduceIte, Int.reduceLT, Int.reduceLE, Int.reduceToNat, Int.reducePow, Int.reduceNeg, Nat.reduceBEq, Tryd.f11, hb7.1, hb7.2.1] <;> first | with_reducible rfl | rfl) ⟨by simp [forgetRM, hf], rfl⟩
end Go.Proofs.YtncincpkdphojaaDoor
end
