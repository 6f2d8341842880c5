/- A part of the proof: what the calls do, told by values. -/
import Derived.Test.YtlmahffjidgplaaGreatDoorC1
import Derived.Test.YtlmahffjidgplaaGreatDoorA7
import Derived.Test.YtlmahffjidgplaaGreatDoorB1
import Derived.Test.YtlmahffjidgplaaGreatDoorA8
section
namespace Go.Proofs.YtlmahffjidgplaaGreatDoor
open Go Go.Av
set_option linter.unusedVariables false
set_option linter.unusedSimpArgs false
set_option maxRecDepth 100000
set_option maxHeartbeats 4000000
attribute [local go_sem] packed List.set_cons_zero List.set_cons_succ List.cons_append List.nil_append bytesRows_length

attribute [-go_sem] cellsOf
@[local go_sem] theorem cellsOf_agg (xs : List AV) : cellsOf (.agg xs) = xs := rfl
@[local go_sem] theorem cellsOf_int (k : IntKind) (n : Int) : cellsOf (.c (.int k n)) = [.c (.int k n)] := rfl
@[local go_sem] theorem cellsOf_bool (b : Bool) : cellsOf (.c (.bool b)) = [.c (.bool b)] := rfl
@[local go_sem] theorem cellsOf_str (b : ByteArray) : cellsOf (.c (.string b)) = [.c (.string b)] := rfl
@[local go_sem] theorem cellsOf_map (b : Option Nat) : cellsOf (.c (.map b)) = [.c (.map b)] := rfl
@[local go_sem] theorem cellsOf_ptr (b : Option Addr) : cellsOf (.c (.pointer b)) = [.c (.pointer b)] := rfl
@[local go_sem] theorem cellsOf_nilI : cellsOf (.c .nilIface) = [.c .nilIface] := rfl
@[local go_sem] theorem cellsOf_slice (a : Option Addr) (l c : Nat) : cellsOf (.c (.slice a l c)) = [.c (.slice a l c)] := rfl
@[local go_sem] theorem cellsOf_sl (s : Nat) (r : List (List AV)) : cellsOf (.sl s r) = [.sl s r] := rfl
@[local go_sem] theorem cellsOf_ifc (t : TypeId) (x : AV) : cellsOf (.ifc t x) = [.ifc t x] := rfl
@[local go_sem] theorem cellsOf_fp (x : List AV) : cellsOf (.fp x) = [.fp x] := rfl

theorem icell_int (k : IntKind) (n : Int) : AV.isCell (.c (.int k n)) = true := rfl
theorem icell_bool (b : Bool) : AV.isCell (.c (.bool b)) = true := rfl
theorem icell_str (b : ByteArray) : AV.isCell (.c (.string b)) = true := rfl
theorem icell_map (b : Option Nat) : AV.isCell (.c (.map b)) = true := rfl
theorem icell_ptr (b : Option Addr) : AV.isCell (.c (.pointer b)) = true := rfl
theorem icell_nilI : AV.isCell (.c .nilIface) = true := rfl
theorem icell_slice (a : Option Addr) (l c : Nat) : AV.isCell (.c (.slice a l c)) = true := rfl
theorem icell_sl (s : Nat) (r : List (List AV)) : AV.isCell (.sl s r) = true := rfl
theorem icell_ifc (t : TypeId) (x : AV) : AV.isCell (.ifc t x) = true := rfl
theorem icell_fp (x : List AV) : AV.isCell (.fp x) = true := rfl

/-! ### A device's memory -/
structure Fl where
  pages : Int
  safe : List (Int × List UInt8)
  loose : List (Int × Option (List UInt8))
  fuse : Int
  down : Bool
  done : Int

def pageAV (b : List UInt8) : AV := .sl 1 (bytesRows b)
def optAV : Option (List UInt8) → AV
  | none => .c (.slice none 0 0)
  | some b => pageAV b
def looseRow (p : Int × Option (List UInt8)) : List AV := [.c (.int .i64 p.1), optAV p.2]
def safeAV (l : List (Int × List UInt8)) : List (Int × AV) := l.map fun p => (p.1, pageAV p.2)
def looseAV (l : List (Int × Option (List UInt8))) : List (List AV) := l.map looseRow
def flCells (s : Fl) (mb : Nat) (v : Value) : List AV := [.c (.int .i64 s.pages), .c (.map (some mb)), .c v, .c (.int .i64 s.fuse), .c (.bool s.down), .c (.int .i64 s.done)]

structure Fl.WF (s : Fl) : Prop where
  p1 : 1 ≤ s.pages
  p2 : s.pages ≤ 4096
  nodup : (s.safe.map (·.1)).Nodup
  page : ∀ p ∈ s.safe, p.2.length = 256
  lpage : ∀ p ∈ s.loose, ∀ b, p.2 = some b → b.length = 256
  f1 : -1 ≤ s.fuse
  f2 : s.fuse < 9223372036854775808
  d1 : 0 ≤ s.done
  d2 : s.done < 4611686018427387904
  len : s.loose.length < 1073741824

structure Fl.WF' (s : Fl) : Prop where
  f1 : -1 ≤ s.fuse
  f2 : s.fuse < 9223372036854775808
  d1 : 0 ≤ s.done
  d2 : s.done < 4611686018427387904
theorem Fl.WF.w {s : Fl} (h : s.WF) : s.WF' := ⟨h.f1, h.f2, h.d1, h.d2⟩

/-- The memory of a device at f that is s. -/
def OwnF (f : Nat) (s : Fl) (D : List HP) : Prop :=
  ∃ mb v L, Own 173 2 (looseAV s.loose).flatten s.loose.length v L ∧ D = .box f 171 (flCells s mb v) :: .map mb (mi kI (safeAV s.safe)) :: L
abbrev ptr (f : Nat) : AV := .c (.pointer (some ⟨f, 0, none⟩))
attribute [local go_sem] flCells

def newFl (pages : Int) : Fl := ⟨pages, [], [], -1, false, 0⟩
theorem new_err (pages : Int) (h : pages < 1 ∨ pages > 4096) : ACalls Tryz.prog 72 [.c (.int .i64 pages)] [] (fun r Δ => (∃ e, r = .ret (.tup [.c (.pointer none), e]) ∧ IsErr e 2) ∧ Δ = []) := by
  by_cases h1 : pages < 1
  · have d1 := decide_eq_true h1
    refine calls_of_J cl_72 Tryz.func72 rfl (by simp [Tryz.ntmps72]) ?_
    refine J_mrun (own := []) (m := 2000) (by simp (maxSteps := 2000000) (disch := omega) only [go_sem, ↓reduceIte, Int.reduceLT, Int.reduceLE, Int.reduceToNat, Int.reducePow, Int.reduceNeg, Nat.reduceBEq, Tryz.ntmps72, d1] <;> with_reducible rfl) ?_
    refine jt (h := ?_)
    refine jr (own := []) (h := ?_)
    refine jc (hs := newS_ok _ _ _) (hk := ?_)
    refine jr (own := []) (h := ?_)
    refine jret Tryz.func72 (h := ⟨⟨_, rfl, errNew_is _ _ _⟩, rfl⟩)
  · have d1 := decide_eq_false h1
    have h2 : pages > 4096 := h.resolve_left h1
    have d2 := decide_eq_true h2
    refine calls_of_J cl_72 Tryz.func72 rfl (by simp [Tryz.ntmps72]) ?_
    refine J_mrun (own := []) (m := 2000) (by simp (maxSteps := 2000000) (disch := omega) only [go_sem, ↓reduceIte, Int.reduceLT, Int.reduceLE, Int.reduceToNat, Int.reducePow, Int.reduceNeg, Nat.reduceBEq, Tryz.ntmps72, d1, d2] <;> with_reducible rfl) ?_
    refine jt (h := ?_)
    refine jr (own := []) (h := ?_)
    refine jc (hs := newS_ok _ _ _) (hk := ?_)
    refine jr (own := []) (h := ?_)
    refine jret Tryz.func72 (h := ⟨⟨_, rfl, errNew_is _ _ _⟩, rfl⟩)
theorem fnew_ok (pages : Int) (h1 : 1 ≤ pages) (h2 : pages ≤ 4096) : ACalls Tryz.prog 72 [.c (.int .i64 pages)] [] (fun r D => ∃ f, r = .ret (.tup [ptr f, .c .nilIface]) ∧ OwnF f (newFl pages) D) := by
  have d1 := decide_eq_false (show ¬ pages < 1 by omega)
  have d2 := decide_eq_false (show ¬ pages > 4096 by omega)
  refine calls_of_J cl_72 Tryz.func72 rfl (by simp [Tryz.ntmps72]) ?_
  refine J_mrun (own := []) (m := 2000) (by simp (maxSteps := 2000000) (disch := omega) only [go_sem, ↓reduceIte, Int.reduceLT, Int.reduceLE, Int.reduceToNat, Int.reducePow, Int.reduceNeg, Nat.reduceBEq, Tryz.ntmps72, d1, d2] <;> with_reducible rfl) ?_
  refine jn (h := ?_)
  refine jr (own := []) (h := ?_)
  refine jop (ho := rfl) (hh := makeMap_op rfl) (hk := ?_)
  rintro _ _ ⟨mb, hmb, rfl, rfl⟩
  refine jr (own := [15]) (h := ?_)
  refine jnb (hh := fun f hf => ?_)
  refine jr (own := []) (h := ?_)
  refine jret Tryz.func72 (h := ⟨f, rfl, mb, .slice none 0 0, [], .nil none rfl rfl, rfl⟩)

section
variable {f : Nat} {s : Fl} {D : List HP}
theorem down_ok (h : OwnF f s D) : ACalls Tryz.prog 84 [ptr f] D (fun r Δ => r = .ret (.c (.bool s.down)) ∧ Δ = D) := by
  obtain ⟨mb, v, L, how, rfl⟩ := h
  refine calls_of_J cl_84 Tryz.func84 rfl (by simp [Tryz.ntmps84]) ?_
  refine jr (own := []) (h := ?_)
  refine jret Tryz.func84 (h := ⟨rfl, rfl⟩)
theorem pages_ok (h : OwnF f s D) : ACalls Tryz.prog 79 [ptr f] D (fun r Δ => r = .ret (.c (.int .i64 s.pages)) ∧ Δ = D) := by
  obtain ⟨mb, v, L, how, rfl⟩ := h
  refine calls_of_J cl_79 Tryz.func79 rfl (by simp [Tryz.ntmps79]) ?_
  refine jr (own := []) (h := ?_)
  refine jret Tryz.func79 (h := ⟨rfl, rfl⟩)

def checkF (s : Fl) (at_ : Int) : Int := if s.down = true then 11 else if at_ < 0 ∨ at_ ≥ s.pages then 2 else 0
theorem fcheck_ok (h : OwnF f s D) (op : ByteArray) (at_ : Int) : ACalls Tryz.prog 180 [ptr f, .c (.string op), .c (.int .i64 at_)] D (fun r Δ => (∃ e, r = .ret e ∧ IsErr e (checkF s at_) ∧ (checkF s at_ = 0 → e = .c .nilIface)) ∧ Δ = D) := by
  obtain ⟨mb, v, L, how, rfl⟩ := h
  cases hd : s.down with
  | true =>
    have hc : checkF s at_ = 11 := by unfold checkF; rw [if_pos hd]
    refine calls_of_J cl_180 Tryz.func180 rfl (by simp [Tryz.ntmps180]) ?_
    refine jf (own := []) hd (h := ?_)
    refine jt (h := ?_)
    refine jr (own := []) (h := ?_)
    refine jc (hs := newS_ok _ _ _) (hk := ?_)
    refine jr (own := []) (h := ?_)
    refine jret Tryz.func180 (h := ⟨⟨_, rfl, by rw [hc]; exact errNew_is _ _ _, by rw [hc]; intro h; exact absurd h (by decide)⟩, by simp only [flCells, hd]⟩)
  | false =>
    by_cases h1 : at_ < 0
    · have d1 := decide_eq_true h1
      have hc : checkF s at_ = 2 := by unfold checkF; rw [if_neg (by simp [hd]), if_pos (.inl h1)]
      refine calls_of_J cl_180 Tryz.func180 rfl (by simp [Tryz.ntmps180]) ?_
      refine jf (own := []) hd (h := ?_)
      refine jn (h := ?_)
      refine J_mrun (own := []) (m := 2000) (by simp (maxSteps := 2000000) (disch := omega) only [go_sem, ↓reduceIte, Int.reduceLT, Int.reduceLE, Int.reduceToNat, Int.reducePow, Int.reduceNeg, Nat.reduceBEq, Tryz.ntmps180, d1] <;> with_reducible rfl) ?_
      refine jt (h := ?_)
      refine jr (own := []) (h := ?_)
      refine jc (hs := newS_ok _ _ _) (hk := ?_)
      refine jr (own := []) (h := ?_)
      refine jret Tryz.func180 (h := ⟨⟨_, rfl, by rw [hc]; exact errNew_is _ _ _, by rw [hc]; intro h; exact absurd h (by decide)⟩, by simp only [flCells, hd]⟩)
    · have d1 := decide_eq_false h1
      by_cases h2 : at_ ≥ s.pages
      · have d2 := decide_eq_true h2
        have hc : checkF s at_ = 2 := by unfold checkF; rw [if_neg (by simp [hd]), if_pos (.inr h2)]
        refine calls_of_J cl_180 Tryz.func180 rfl (by simp [Tryz.ntmps180]) ?_
        refine jf (own := []) hd (h := ?_)
        refine jn (h := ?_)
        refine J_mrun (own := []) (m := 2000) (by simp (maxSteps := 2000000) (disch := omega) only [go_sem, ↓reduceIte, Int.reduceLT, Int.reduceLE, Int.reduceToNat, Int.reducePow, Int.reduceNeg, Nat.reduceBEq, Tryz.ntmps180, d1, d2] <;> with_reducible rfl) ?_
        refine jt (h := ?_)
        refine jr (own := []) (h := ?_)
        refine jc (hs := newS_ok _ _ _) (hk := ?_)
        refine jr (own := []) (h := ?_)
        refine jret Tryz.func180 (h := ⟨⟨_, rfl, by rw [hc]; exact errNew_is _ _ _, by rw [hc]; intro h; exact absurd h (by decide)⟩, by simp only [flCells, hd]⟩)
      · have d2 := decide_eq_false h2
        have hc : checkF s at_ = 0 := by unfold checkF; rw [if_neg (by simp [hd]), if_neg (by omega)]
        refine calls_of_J cl_180 Tryz.func180 rfl (by simp [Tryz.ntmps180]) ?_
        refine jf (own := []) hd (h := ?_)
        refine jn (h := ?_)
        refine J_mrun (own := []) (m := 2000) (by simp (maxSteps := 2000000) (disch := omega) only [go_sem, ↓reduceIte, Int.reduceLT, Int.reduceLE, Int.reduceToNat, Int.reducePow, Int.reduceNeg, Nat.reduceBEq, Tryz.ntmps180, d1, d2] <;> with_reducible rfl) ?_
        refine jn (h := ?_)
        refine jr (own := []) (h := ?_)
        refine jret Tryz.func180 (h := ⟨⟨_, rfl, by rw [hc]; exact .none, fun _ => rfl⟩, by simp only [flCells, hd]⟩)

def burnB (s : Fl) : Bool := decide (¬ s.fuse < 0) && decide (s.fuse - 1 < 0)
def burnS (s : Fl) : Fl := if s.fuse < 0 then { s with done := s.done + 1 } else { s with done := s.done + 1, fuse := s.fuse - 1, down := decide (s.fuse - 1 < 0) }
theorem burns_ok (h : OwnF f s D) (hw : s.WF') : ACalls Tryz.prog 176 [ptr f] D (fun r D' => r = .ret (.c (.bool (burnB s))) ∧ OwnF f (burnS s) D') := by
  obtain ⟨mb, v, L, how, rfl⟩ := h
  have q1 := hw.f1
  have q2 := hw.f2
  have q3 := hw.d1
  have q4 := hw.d2
  refine calls_of_J cl_176 Tryz.func176 rfl (by simp [Tryz.ntmps176]) ?_
  refine jr (own := []) (h := ?_)
  refine jif (h1 := fun hc => ?_) (h2 := fun hc => ?_)
  · refine jr (own := []) (h := ?_)
    refine jret Tryz.func176 (h := ⟨by unfold burnB; simp [hc], mb, v, L, by unfold burnS; rw [if_pos hc]; exact how, by unfold burnS; rw [if_pos hc]; rfl⟩)
  · refine jr (own := []) (h := ?_)
    refine jret Tryz.func176 (h := ⟨by unfold burnB; simp [hc], mb, v, L, by unfold burnS; rw [if_neg hc]; exact how, by unfold burnS; rw [if_neg hc]; rfl⟩)

def changeS (s : Fl) (at_ : Int) (b : Option (List UInt8)) : Fl := burnS { s with loose := s.loose ++ [(at_, b)] }
def changeC (s : Fl) : Int := if burnB s then 11 else 0
@[local go_sem] theorem cellsOf_opt (b : Option (List UInt8)) : cellsOf (optAV b) = [optAV b] := by cases b <;> rfl
@[go_sem high] theorem optAV_cell (b : Option (List UInt8)) : (optAV b).isCell = true := by cases b <;> rfl
theorem change_ok (h : OwnF f s D) (hw : s.WF) (op : ByteArray) (at_ : Int) (b : Option (List UInt8)) : ACalls Tryz.prog 196 [ptr f, .c (.string op), .c (.int .i64 at_), optAV b] D
    (fun r D' => ∃ e, r = .ret e ∧ IsErr e (changeC s) ∧ (changeC s = 0 → e = .c .nilIface) ∧ OwnF f (changeS s at_ b) D') := by
  obtain ⟨mb, v, L, how, rfl⟩ := h
  have q1 := hw.len
  refine calls_of_J cl_196 Tryz.func196 rfl (by simp [Tryz.ntmps196]) ?_
  refine jr (own := [18]) (h := ?_)
  refine jap (Fr := [_, _]) (how := how) (hp := (List.Perm.refl _)) (hsrc := (by simp only [go_sem, srcOf] <;> rfl)) (hc := (by simp only [List.all_cons, List.all_nil, optAV_cell, Bool.and_true]; rfl)) (hmax := (by omega)) (hk := ?_)
  rintro _ _ ⟨v2, L2, rfl, rfl, how2⟩
  obtain ⟨a2, c2, rfl⟩ := how2.slice
  refine jr (own := []) (h := ?_)
  have hOwn : OwnF f { s with loose := s.loose ++ [(at_, b)] } _ := ⟨mb, .slice a2 (s.loose.length + 1) c2, L2, by
    simp only [looseAV, List.map_append, List.flatten_append, List.length_append] at how2 ⊢; exact how2, rfl⟩
  have hw2 : ({ s with loose := s.loose ++ [(at_, b)] } : Fl).WF' := ⟨hw.f1, hw.f2, hw.d1, hw.d2⟩
  refine jcs (Fr := []) (hs := (burns_ok hOwn hw2)) (hp := (by simp [flCells])) (hk := ?_) (hpan := (by rintro x Δ' ⟨e, _⟩; cases e))
  rintro x D' ⟨e, hO⟩
  cases e
  have hbb : burnB { s with loose := s.loose ++ [(at_, b)] } = burnB s := rfl
  rw [hbb, List.append_nil]
  cases hb : burnB s with
  | true =>
    have hC : changeC s = 11 := by unfold changeC; rw [hb]; rfl
    refine jr (own := []) (h := ?_)
    refine jt (h := ?_)
    refine jr (own := []) (h := ?_)
    refine jc (hs := newS_ok _ _ _) (hk := ?_)
    refine jr (own := []) (h := ?_)
    refine jret Tryz.func196 (h := ⟨_, rfl, by rw [hC]; exact errNew_is _ _ _, by rw [hC]; intro h; exact absurd h (by decide), hO⟩)
  | false =>
    have hC : changeC s = 0 := by unfold changeC; rw [hb]; rfl
    refine jr (own := []) (h := ?_)
    refine jn (h := ?_)
    refine jr (own := []) (h := ?_)
    refine jret Tryz.func196 (h := ⟨_, rfl, by rw [hC]; exact .none, fun _ => rfl, hO⟩)
end
end Go.Proofs.YtlmahffjidgplaaGreatDoor
end

section
namespace Go.Proofs.YtlmahffjidgplaaGreatDoor
open Go Go.Av
set_option linter.unusedVariables false
set_option linter.unusedSimpArgs false
set_option maxRecDepth 100000
set_option maxHeartbeats 4000000
attribute [local go_sem] packed List.set_cons_zero List.set_cons_succ List.cons_append List.nil_append bytesRows_length flCells

section
variable {f : Nat} {s : Fl} {D : List HP}

def writeC (s : Fl) (at_ : Int) (n : Nat) : Int := if checkF s at_ ≠ 0 then checkF s at_ else if n ≠ 256 then 3 else changeC s
def writeS (s : Fl) (at_ : Int) (b : List UInt8) : Fl := if checkF s at_ ≠ 0 ∨ b.length ≠ 256 then s else changeS s at_ (some b)
theorem write_ok (h : OwnF f s D) (hw : s.WF) (at_ : Int) (b : List UInt8) (hb : b.length < 2 ^ 37) : ACalls Tryz.prog 175 [ptr f, .c (.int .i64 at_), .sl 1 (bytesRows b)] D
    (fun r D' => ∃ e, r = .ret e ∧ IsErr e (writeC s at_ b.length) ∧ (writeC s at_ b.length = 0 → e = .c .nilIface) ∧ OwnF f (writeS s at_ b) D') := by
  refine calls_of_J cl_175 Tryz.func175 rfl (by simp [Tryz.ntmps175]) ?_
  refine jr (own := []) (h := ?_)
  refine jcs (Fr := []) (hs := (fcheck_ok h _ at_)) (hp := (by simp)) (hk := ?_) (hpan := (by rintro x Δ' ⟨⟨e, h, _⟩, _⟩; cases h))
  rintro x D ⟨⟨e, h1, he, hz⟩, rfl⟩
  cases h1
  rw [List.append_nil]
  by_cases hc : checkF s at_ = 0
  rotate_left
  · have hC : writeC s at_ b.length = checkF s at_ := by unfold writeC; rw [if_pos hc]
    have hS : writeS s at_ b = s := by unfold writeS; rw [if_pos (.inl hc)]
    obtain ⟨t, y, rfl⟩ := iserr_ne he hc
    refine jr (own := []) (h := ?_)
    refine jt (h := ?_)
    refine jr (own := []) (h := ?_)
    refine jret Tryz.func175 (h := ⟨_, rfl, by rw [hC]; exact he, by rw [hC]; exact fun h => absurd h hc, by rw [hS]; exact h⟩)
  obtain rfl := hz hc
  refine jr (own := []) (h := ?_)
  refine jn (h := ?_)
  refine jr (own := []) (h := ?_)
  refine jif (h1 := fun hl => ?_) (h2 := fun hl => ?_)
  · have hC : writeC s at_ b.length = 3 := by unfold writeC; rw [if_neg (by simp [hc]), if_pos (by omega)]
    have hS : writeS s at_ b = s := by unfold writeS; rw [if_pos (.inr (by omega))]
    refine jr (own := []) (h := ?_)
    refine jc (hs := newS_ok _ _ _) (hk := ?_)
    refine jr (own := []) (h := ?_)
    refine jret Tryz.func175 (h := ⟨_, rfl, by rw [hC]; exact errNew_is _ _ _, by rw [hC]; intro h; exact absurd h (by decide), by rw [hS]; exact h⟩)
  have hl' : b.length = 256 := by omega
  have hC : writeC s at_ b.length = changeC s := by unfold writeC; rw [if_neg (by simp [hc]), if_neg (by omega)]
  have hS : writeS s at_ b = changeS s at_ (some b) := by unfold writeS; rw [if_neg (by simp [hc, hl'])]
  refine jr (own := []) (h := ?_)
  refine jcs (Δ1 := []) (Fr := D) (hs := (clone_ok b (by rintro rfl; simp at hl') hb)) (hp := (List.Perm.refl _)) (hk := ?_) (hpan := (by rintro x Δ' ⟨v, D', h, _⟩; cases h))
  rintro x Δ' ⟨v, D', h1, rfl, how⟩
  cases h1
  refine J_perm (Δ' := D ++ Δ') List.perm_append_comm ?_
  refine J_freezeB how (by unfold maxRows; omega) ?_
  refine J_is (t := 22) (by simp only [go_sem]) (List.mem_cons_self ..) (J_drop ?_)
  refine jcs (Fr := []) (hs := (show ACalls _ _ [_, _, _, .sl 1 (bytesRows b)] _ _ from change_ok h hw _ at_ (some b))) (hp := (by simp)) (hk := ?_) (hpan := (by rintro x Δ' ⟨e, h, _⟩; cases h))
  rintro x D2 ⟨e, h1, he, hz, hO⟩
  cases h1
  rw [List.append_nil]
  refine jr (own := []) (h := ?_)
  refine jret Tryz.func175 (h := ⟨_, rfl, by rw [hC]; exact he, by rw [hC]; exact hz, by rw [hS]; exact hO⟩)

def trimC (s : Fl) (at_ : Int) : Int := if checkF s at_ ≠ 0 then checkF s at_ else changeC s
def trimS (s : Fl) (at_ : Int) : Fl := if checkF s at_ ≠ 0 then s else changeS s at_ none
theorem trim_ok (h : OwnF f s D) (hw : s.WF) (at_ : Int) : ACalls Tryz.prog 143 [ptr f, .c (.int .i64 at_)] D
    (fun r D' => ∃ e, r = .ret e ∧ IsErr e (trimC s at_) ∧ (trimC s at_ = 0 → e = .c .nilIface) ∧ OwnF f (trimS s at_) D') := by
  refine calls_of_J cl_143 Tryz.func143 rfl (by simp [Tryz.ntmps143]) ?_
  refine jr (own := []) (h := ?_)
  refine jcs (Fr := []) (hs := (fcheck_ok h _ at_)) (hp := (by simp)) (hk := ?_) (hpan := (by rintro x Δ' ⟨⟨e, h, _⟩, _⟩; cases h))
  rintro x D ⟨⟨e, h1, he, hz⟩, rfl⟩
  cases h1
  rw [List.append_nil]
  by_cases hc : checkF s at_ = 0
  rotate_left
  · have hC : trimC s at_ = checkF s at_ := by unfold trimC; rw [if_pos hc]
    have hS : trimS s at_ = s := by unfold trimS; rw [if_pos hc]
    obtain ⟨t, y, rfl⟩ := iserr_ne he hc
    refine jr (own := []) (h := ?_)
    refine jt (h := ?_)
    refine jr (own := []) (h := ?_)
    refine jret Tryz.func143 (h := ⟨_, rfl, by rw [hC]; exact he, by rw [hC]; exact fun h => absurd h hc, by rw [hS]; exact h⟩)
  obtain rfl := hz hc
  have hC : trimC s at_ = changeC s := by unfold trimC; rw [if_neg (by simp [hc])]
  have hS : trimS s at_ = changeS s at_ none := by unfold trimS; rw [if_neg (by simp [hc])]
  refine jr (own := []) (h := ?_)
  refine jn (h := ?_)
  refine jr (own := []) (h := ?_)
  refine jcs (Fr := []) (hs := (show ACalls _ _ [_, _, _, .c (.slice none 0 0)] _ _ from change_ok h hw _ at_ none)) (hp := (by simp)) (hk := ?_) (hpan := (by rintro x Δ' ⟨e, h, _⟩; cases h))
  rintro x D2 ⟨e, h1, he, hz, hO⟩
  cases h1
  rw [List.append_nil]
  refine jr (own := []) (h := ?_)
  refine jret Tryz.func143 (h := ⟨_, rfl, by rw [hC]; exact he, by rw [hC]; exact hz, by rw [hS]; exact hO⟩)

def fuseS (s : Fl) (n : Int) : Fl := { s with fuse := max n (-1) }
theorem fuse_ok (h : OwnF f s D) (n : Int) : ACalls Tryz.prog 28 [ptr f, .c (.int .i64 n)] D (fun r D' => r = .ret (.tup []) ∧ OwnF f (fuseS s n) D') := by
  obtain ⟨mb, v, L, how, rfl⟩ := h
  refine calls_of_J cl_28 Tryz.func28 rfl (by simp [Tryz.ntmps28]) ?_
  refine jr (own := []) (h := ?_)
  refine J_end Tryz.func28 (xs := []) (by rfl) ⟨rfl, mb, v, L, how, rfl⟩
end
end Go.Proofs.YtlmahffjidgplaaGreatDoor
end

section
namespace Go.Proofs.YtlmahffjidgplaaGreatDoor
open Go Go.Av
set_option linter.unusedVariables false
set_option linter.unusedSimpArgs false
set_option maxRecDepth 100000
set_option maxHeartbeats 4000000
attribute [local go_sem] packed List.set_cons_zero List.set_cons_succ List.cons_append List.nil_append bytesRows_length flCells
attribute [-go_sem] cellsOf AV.isCell
attribute [local go_sem] cellsOf_agg cellsOf_int cellsOf_bool cellsOf_str cellsOf_map cellsOf_ptr cellsOf_nilI cellsOf_slice cellsOf_sl cellsOf_ifc cellsOf_fp cellsOf_opt optAV_cell icell_int icell_bool icell_str icell_map icell_ptr icell_nilI icell_slice icell_sl icell_ifc icell_fp

theorem backward_ok (a : Option Addr) (l c : Nat) : ACalls Tryz.prog 193 [.c (.slice a l c)] [] (Ret (.fn (.func 222) [] [.fp [.c (.slice a l c)]])) := by
  refine calls_of_J cl_193 Tryz.func193 rfl (by simp [Tryz.ntmps193]) ?_
  refine jr (own := []) (h := ?_)
  refine jret Tryz.func193 (h := ⟨rfl, rfl⟩)

theorem getD_last {α : Type} {l : List α} {i : Nat} {x : α} (h : l[i]? = some x) : i < l.length := by
  rcases Nat.lt_or_ge i l.length with h' | h'
  · exact h'
  · simp [List.getElem?_eq_none h'] at h

/-- The last first. -/
theorem backward1_ok {l : Nat} {v : Value} {rows : List (List AV)} {Δ : List HP} (p : Nat → Bool) (S : Nat → List HP → Prop) (hrow : ∀ r ∈ rows, r.length = 2) (hlen : rows.length < 2 ^ 40)
    (hv : (rows = [] ∧ ∃ a, v = .slice a 0 0) ∨ ∃ b cap t sp, v = .slice (some ⟨b, 0, none⟩) rows.length cap ∧ getBox Δ b = some (t, rows.flatten ++ sp) ∧ rows.length ≤ cap)
    (hy : ∀ (i : Nat) r, rows[i]? = some r → AYields Tryz.prog l [.c (.int .i64 i), .agg r] Δ (fun x D => (p i = false ∧ x = .ret (.c (.bool true)) ∧ D = Δ) ∨ (p i = true ∧ x = .ret (.c (.bool false)) ∧ S i D))) :
    ACalls Tryz.prog 222 [.fn (.yield l) [] [], .fp [.c v]] Δ (fun r D => ∃ y, r = .ret y ∧ (((∀ i, i < rows.length → p i = false) ∧ D = Δ) ∨ ∃ i, i < rows.length ∧ p i = true ∧ (∀ j, i < j → j < rows.length → p j = false) ∧ S i D)) := by
  obtain ⟨a, cap, rfl⟩ : ∃ a cap, v = .slice a rows.length cap := by
    rcases hv with ⟨rfl, a, rfl⟩ | ⟨b, cap, t, sp, rfl, _⟩
    · exact ⟨a, 0, rfl⟩
    · exact ⟨_, cap, rfl⟩
  refine calls_of_J cl_222 Tryz.func222 rfl (by simp [Tryz.ntmps222]) ?_
  refine jr (own := []) (h := ?_)
  refine jk [0, 1, 3] (h := ?_)
  refine J_loopI (I := fun m e D => ∃ k : Nat, k ≤ rows.length ∧ m = k ∧ D = Δ ∧ (∀ j, k ≤ j → j < rows.length → p j = false) ∧ e = [(0, .fn (.yield l) [] []), (1, .fp [.c (.slice a rows.length cap)]), (3, .c (.int .i64 ((k : Int) - 1)))]) ?_ ?_
  · exact ⟨_, rows.length, Nat.le_refl _, rfl, rfl, fun j h1 h2 => by omega, rfl⟩
  · rintro m e D ⟨k, hk, hm, rfl, hp, rfl⟩ ih
    refine jr (own := []) (h := ?_)
    refine jif (h1 := fun hc => ?_) (h2 := fun hc => ?_)
    · obtain ⟨q, rfl⟩ : ∃ q, k = q + 1 := ⟨k - 1, by omega⟩
      have hlt : q < rows.length := by omega
      have g0 := List.getElem?_eq_getElem hlt
      have he : (((q + 1 : Nat) : Int) - 1) = (q : Int) := by omega
      have h0 : (0 : Int) ≤ (q : Int) := by omega
      rcases hv with ⟨h, _⟩ | ⟨b, cap', t, sp, hv1, hg, hcap⟩
      · rw [h] at hlt; simp at hlt
      cases hv1
      have hr2 := hrow _ (List.getElem_mem hlt)
      have hgr := get_row (s := 2) (sp := sp) hrow g0
      have hpf := hp
      obtain ⟨x0, x1, hx⟩ : ∃ x0 x1, rows[q] = [x0, x1] := by
        match h : rows[q], hr2 with
        | [x0, x1], _ => exact ⟨x0, x1, rfl⟩
      have hy' := hy q _ g0
      rw [hx] at hgr hy'
      generalize rows.flatten ++ sp = cells at hg hgr
      generalize (rows.drop (q + 1)).flatten ++ sp = rest at hgr
      have hgr' : cells.drop (q * 2) = x0 :: x1 :: rest := hgr
      have h22 : (2 ≤ rest.length + 1 + 1) = True := by simp
      refine J_mrun (own := []) (m := 2000) (by simp (maxSteps := 2000000) (disch := omega) only [go_sem, ↓reduceIte, Int.reduceLT, Int.reduceLE, Int.reduceToNat, Int.reducePow, Int.reduceNeg, Nat.reduceBEq, Tryz.ntmps222, he, hg, hgr', h22, List.length_cons, List.take_succ_cons, List.take_zero] <;> with_reducible rfl) ?_
      refine J_yield rfl (by simp only [go_sem, ↓reduceIte, Int.reduceLT, Int.reduceLE, Int.reduceToNat, Int.reducePow, Int.reduceNeg, Nat.reduceBEq, Tryz.ntmps222] <;> rfl) (by simp only [go_sem, ↓reduceIte, Int.reduceLT, Int.reduceLE, Int.reduceToNat, Int.reducePow, Int.reduceNeg, Nat.reduceBEq] <;> rfl) (by simp only [go_sem, ↓reduceIte, Int.reduceLT, Int.reduceLE, Int.reduceToNat, Int.reducePow, Int.reduceNeg, Nat.reduceBEq] <;> rfl) (hy') ?_
      rintro x D' (⟨hpq, e, rfl⟩ | ⟨hpq, e, hS⟩)
      · cases e
        refine jr (own := []) (h := ?_)
        refine jn (h := ?_)
        refine jr (own := []) (h := ?_)
        refine jk [0, 1, 3] (h := ?_)
        refine ih _ _ _ ?_ ⟨q, by omega, rfl, rfl, ?_, ?_⟩
        · omega
        · intro j h1 h2
          rcases Nat.eq_or_lt_of_le h1 with h | h
          · subst h; exact hpq
          · exact hp j h h2
        · rfl
      · cases e
        refine jr (own := []) (h := ?_)
        refine jt (h := ?_)
        refine jret Tryz.func222 (h := ⟨_, rfl, .inr ⟨q, hlt, hpq, hp, hS⟩⟩)
    · have hk0 : k = 0 := by omega
      subst hk0
      refine jr (own := []) (h := ?_)
      refine J_end Tryz.func222 (xs := []) (by rfl) ⟨_, rfl, .inl ⟨fun i h => hp i (Nat.zero_le _) h, rfl⟩⟩
end Go.Proofs.YtlmahffjidgplaaGreatDoor
end

section
namespace Go.Proofs.YtlmahffjidgplaaGreatDoor
open Go Go.Av
set_option linter.unusedVariables false
set_option linter.unusedSimpArgs false
set_option maxRecDepth 100000
set_option maxHeartbeats 4000000
attribute [local go_sem] packed List.set_cons_zero List.set_cons_succ List.cons_append List.nil_append bytesRows_length flCells
attribute [-go_sem] cellsOf AV.isCell
attribute [local go_sem] cellsOf_agg cellsOf_int cellsOf_bool cellsOf_str cellsOf_map cellsOf_ptr cellsOf_nilI cellsOf_slice cellsOf_sl cellsOf_ifc cellsOf_fp cellsOf_opt optAV_cell icell_int icell_bool icell_str icell_map icell_ptr icell_nilI icell_slice icell_sl icell_ifc icell_fp

def z256 : List UInt8 := List.replicate 256 0
def lookL (l : List (Int × Option (List UInt8))) (at_ : Int) : Option (Option (List UInt8)) := l.foldl (fun acc p => if p.1 = at_ then some p.2 else acc) none
def lookB (s : Fl) (at_ : Int) : List UInt8 := match lookL s.loose at_ with
  | some o => o.getD z256
  | none => (findM s.safe at_).getD z256

theorem foldl_none {at_ : Int} : ∀ {l : List (Int × Option (List UInt8))} {acc : Option (Option (List UInt8))}, (∀ p ∈ l, p.1 ≠ at_) → l.foldl (fun acc p => if p.1 = at_ then some p.2 else acc) acc = acc
  | [], _, _ => rfl
  | p :: l, acc, h => by
    rw [List.foldl_cons, if_neg (h p (by simp))]
    exact foldl_none fun q hq => h q (by simp [hq])
def pageAt (l : List (Int × Option (List UInt8))) (i : Nat) : List UInt8 := match l[i]? with
  | some q => q.2.getD z256
  | none => z256
def isAt (l : List (Int × Option (List UInt8))) (at_ : Int) (i : Nat) : Bool := match l[i]? with
  | some q => decide (q.1 = at_)
  | none => false
theorem lookL_none {l : List (Int × Option (List UInt8))} {at_ : Int} (h : ∀ i, i < l.length → isAt l at_ i = false) : lookL l at_ = none := by
  refine foldl_none fun p hp => ?_
  obtain ⟨i, hi, rfl⟩ := List.getElem_of_mem hp
  have := h i hi
  simpa [isAt, List.getElem?_eq_getElem hi] using this
theorem lookL_some {l : List (Int × Option (List UInt8))} {at_ : Int} {i : Nat} (hi : i < l.length) (h1 : isAt l at_ i = true) (h2 : ∀ j, i < j → j < l.length → isAt l at_ j = false) : lookL l at_ = some l[i].2 := by
  have e : l = l.take i ++ (l[i] :: l.drop (i + 1)) := by rw [List.getElem_cons_drop hi, List.take_append_drop]
  have h1' : l[i].1 = at_ := by simpa [isAt, List.getElem?_eq_getElem hi] using h1
  unfold lookL
  conv => lhs; rw [e]
  rw [List.foldl_append, List.foldl_cons, if_pos h1']
  refine foldl_none fun p hp => ?_
  obtain ⟨j, hj, rfl⟩ := List.getElem_of_mem hp
  rw [List.length_drop] at hj
  have := h2 (i + 1 + j) (by omega) (by omega)
  rw [List.getElem_drop]
  simpa [isAt, List.getElem?_eq_getElem (show i + 1 + j < l.length by omega)] using this

theorem look_len {s : Fl} (hw : s.WF) (at_ : Int) : (lookB s at_).length = 256 := by
  unfold lookB
  have hz : z256.length = 256 := by simp [z256]
  have hl : ∀ (l : List (Int × Option (List UInt8))) (acc : Option (Option (List UInt8))), (∀ p ∈ l, ∀ b, p.2 = some b → b.length = 256) → (∀ o, acc = some o → (o.getD z256).length = 256) →
      ∀ o, l.foldl (fun acc p => if p.1 = at_ then some p.2 else acc) acc = some o → (o.getD z256).length = 256 := by
    intro l
    induction l with
    | nil => intro acc _ h o e; exact h o e
    | cons p l ih =>
      intro acc h1 h2 o e
      rw [List.foldl_cons] at e
      refine ih _ (fun q hq => h1 q (by simp [hq])) ?_ o e
      intro o' e'
      split at e'
      · cases e'
        cases hp : p.2 with
        | none => simpa [hp] using hz
        | some b => simpa [hp] using h1 p (by simp) b hp
      · exact h2 o' e'
  split
  · rename_i o e
    exact hl s.loose none hw.lpage (by intro o h; cases h) o e
  · cases hf : findM s.safe at_ with
    | none => exact hz
    | some b => exact hw.page _ (mem_find hf)

theorem mt : mapTy Tryz.prog 168 = some (3, .int .i64, 27, .slice none 0 0) := by kernel_rfl
theorem kI_int (n : Int) : Value.int .i64 n = kI n := rfl
theorem row_len (l : List (Int × Option (List UInt8))) : ∀ r ∈ looseAV l, r.length = 2 := by
  intro r hr
  obtain ⟨p, _, rfl⟩ := List.mem_map.1 hr
  rfl

section
variable {f : Nat} {s : Fl} {D : List HP}
theorem own_at {e : TypeId} {rows : List (List AV)} {len : Nat} {v : Value} {L : List HP} (how : Own e 2 rows.flatten len v L) (hlen : rows.length = len) : (rows = [] ∧ L = [] ∧ ∃ a, v = .slice a 0 0) ∨ ∃ b cap sp, v = .slice (some ⟨b, 0, none⟩) rows.length cap ∧ L = [.box b e (rows.flatten ++ sp)] ∧ rows.length ≤ cap := by
  subst hlen
  cases how with
  | nil a e1 e2 => exact .inl ⟨List.eq_nil_of_length_eq_zero e2, rfl, a, rfl⟩
  | box b cap sp c1 c2 c3 => exact .inr ⟨b, cap, sp, rfl, rfl, c3⟩

theorem look_ok (h : OwnF f s D) (hw : s.WF) (at_ : Int) : ACalls Tryz.prog 138 [ptr f, .c (.int .i64 at_)] D (fun r Δ => r = .ret (pageAV (lookB s at_)) ∧ Δ = D) := by
  have hll := look_len hw at_
  obtain ⟨mb, v, L, how, rfl⟩ := h
  obtain ⟨av, cv, rfl⟩ := how.slice
  have hwl := hw.len
  have hrl : (looseAV s.loose).length = s.loose.length := by simp [looseAV]
  have hat := own_at how hrl
  refine calls_of_J cl_138 Tryz.func138 rfl (by simp [Tryz.ntmps138]) ?_
  refine jr (own := [4]) (h := ?_)
  refine jnv (hh := fun b4 hb4 => ?_)
  simp only [fresh] at hb4
  refine jf (own := []) hb4 (h := ?_)
  refine jc (hs := backward_ok _ _ _) (hk := ?_)
  refine jr (own := []) (h := ?_)
  refine jk [0, 3, 4, 11] (h := ?_)
  refine J_have ((looseAV s.loose = [] ∧ ∃ a, Value.slice av s.loose.length cv = .slice a 0 0) ∨ ∃ b cap t sp, Value.slice av s.loose.length cv = .slice (some ⟨b, 0, none⟩) (looseAV s.loose).length cap ∧
      getBox (HP.box b4 27 [AV.c (.slice none 0 0)] :: HP.box f 171 (flCells s mb (.slice av s.loose.length cv)) :: HP.map mb (mi kI (safeAV s.safe)) :: L) b = some (t, (looseAV s.loose).flatten ++ sp) ∧ (looseAV s.loose).length ≤ cap) ?_ (fun hbox => ?_)
  · intro g B sm
    rcases hat with ⟨h1, rfl, a, h2⟩ | ⟨b, cap, sp, h1, rfl, h2⟩
    · exact .inl ⟨h1, a, h2⟩
    · refine .inr ⟨b, cap, 173, sp, h1, ?_, h2⟩
      exact (grow_sep (D := [_, _, _]) (Δ := [_]) sm.sep).choose_spec.2.1 b _ _ (by simp [getBox])
  refine J_rangeFunc (ps := [12, 13]) (by simp only [go_sem] <;> rfl) cl_222 (fun l r tmps hl hr => ?_)
  refine ⟨_, backward1_ok (p := isAt s.loose at_) (S := fun i D' => ∃ r' v' L', r'.state ≠ .busy ∧ r'.pending = some .ret ∧ OwnB 5 (pageAt s.loose i) v' L' ∧ D'.Perm (HP.obj l (.loop r') :: HP.obj r (.deferred (some [])) :: .box b4 27 [.c v'] :: .box f 171 (flCells s mb (.slice av s.loose.length cv)) :: .map mb (mi kI (safeAV s.safe)) :: (L ++ L'))) (row_len _) (by omega) hbox ?_, ?_⟩
  · intro i rr hi
    obtain ⟨q, hq, rfl⟩ : ∃ q, s.loose[i]? = some q ∧ looseRow q = rr := by simpa [looseAV] using hi
    have hiA : isAt s.loose at_ i = decide (q.1 = at_) := by unfold isAt; rw [hq]
    have hpA : pageAt s.loose i = q.2.getD z256 := by unfold pageAt; rw [hq]
    have hqm := List.mem_of_getElem? hq
    refine yields_J (f := 138) (ps := [12, 13]) rfl rfl rfl rfl (by simp [Tryz.ntmps138]) rfl ⟨_, Tryz.func138⟩ ?_
    refine J_mrun (own := [6]) (m := 2000) (by simp (maxSteps := 2000000) (disch := omega) only [go_sem, ↓reduceIte, Int.reduceLT, Int.reduceLE, Int.reduceToNat, Int.reducePow, Int.reduceNeg, Nat.reduceBEq, Tryz.ntmps138, looseRow] <;> with_reducible rfl) ?_
    refine jnv (hh := fun b6 hb6 => ?_)
    simp only [fresh_obj, fresh_envp, fresh] at hb6
    refine J_mrun (own := []) (m := 2000) (by simp (maxSteps := 2000000) (disch := omega) only [go_sem, ↓reduceIte, Int.reduceLT, Int.reduceLE, Int.reduceToNat, Int.reducePow, Int.reduceNeg, Nat.reduceBEq, Tryz.ntmps138, looseRow, hb6.1, hb6.2.1, hb6.2.2.1, hb6.2.2.2.1] <;> with_reducible rfl) ?_
    refine J_perm (List.Perm.swap _ _ _) (J_beginRound rfl ?_)
    refine J_mrun (own := []) (m := 2000) (by simp (maxSteps := 2000000) (disch := omega) only [go_sem, ↓reduceIte, Int.reduceLT, Int.reduceLE, Int.reduceToNat, Int.reducePow, Int.reduceNeg, Nat.reduceBEq, Tryz.ntmps138, looseRow, hb6.1, hb6.2.1, hb6.2.2.1, hb6.2.2.2.1] <;> with_reducible rfl) ?_
    refine jif (h1 := fun hap => ?_) (h2 := fun hap => ?_)
    · obtain ⟨qa, qo⟩ := q
      cases qo with
      | none =>
        refine jr (own := []) (h := ?_)
        refine jd [(0, .pure), (1, .read), (3, .pure), (4, .read), (5, .pure), (6, .pure), (2, .new), (7, .act), (8, .act)] mixed (by kernel_rfl) ?_
        refine Can_run (own := []) (by simp (maxSteps := 2000000) (disch := omega) only [go_sem, ↓reduceIte, Int.reduceLT, Int.reduceLE, Int.reduceToNat, Int.reducePow, Int.reduceNeg, Nat.reduceBEq, Tryz.ntmps138, optAV, looseRow, hb6.1, hb6.2.1, hb6.2.2.1, hb6.2.2.2.1] <;> with_reducible rfl) ?_
        refine Can_newcall (by simp only [go_sem, ↓reduceIte, Int.reduceLT, Int.reduceLE, Int.reduceToNat, Int.reducePow, Int.reduceNeg, Nat.reduceBEq, Tryz.ntmps138] <;> with_reducible rfl) cloneN_ok ?_ (by rintro x Δ' ⟨e, _⟩; cases e)
        rintro x L' ⟨e, rfl⟩
        cases e
        have how' : OwnB 5 [] (.slice none 0 0) [] := .nil none rfl rfl
        refine Can_run (own := []) (by simp (maxSteps := 2000000) (disch := omega) only [go_sem, ↓reduceIte, Int.reduceLT, Int.reduceLE, Int.reduceToNat, Int.reducePow, Int.reduceNeg, Nat.reduceBEq, Tryz.ntmps138, optAV, looseRow, hb6.1, hb6.2.1, hb6.2.2.1, hb6.2.2.2.1] <;> with_reducible rfl) ?_
        refine cbi (hb := appendZ_bi (n := 256) (zs := [.int .u8 0]) (by simp only [go_sem, ↓reduceIte, Int.reduceLT, Int.reduceLE, Int.reduceToNat, Int.reducePow, Int.reduceNeg, Nat.reduceBEq] <;> with_reducible rfl) (by simp only [go_sem, ↓reduceIte, Int.reduceLT, Int.reduceLE, Int.reduceToNat, Int.reducePow, Int.reduceNeg, Nat.reduceBEq] <;> with_reducible rfl) (by rfl) how' (List.perm_append_comm (l₁ := [])) (by decide)) (hk := ?_)
        rintro _ _ ⟨v2, L2, rfl, rfl, how2⟩
        obtain ⟨a2, c2, rfl⟩ := how2.slice
        have how3 : OwnB 5 z256 (.slice a2 256 c2) L2 := by
          rw [zeros8] at how2
          exact how2
        refine Can_run (own := []) (by simp (maxSteps := 2000000) (disch := omega) only [go_sem, ↓reduceIte, Int.reduceLT, Int.reduceLE, Int.reduceToNat, Int.reducePow, Int.reduceNeg, Nat.reduceBEq, Tryz.ntmps138, optAV, looseRow, hb6.1, hb6.2.1, hb6.2.2.1, hb6.2.2.2.1] <;> with_reducible rfl) ?_
        refine Can_nil ?_
        refine J_perm (List.Perm.swap _ _ _) (J_drop ?_)
        refine J_perm (List.Perm.swap _ _ _) (J_drop (JR_ret ?_))
        exact ⟨_, List.Perm.refl _, .inr ⟨rfl, .inr ⟨by rw [hiA]; simpa using hap, rfl, _, _, L2, by simp, rfl, by rw [hpA]; exact how3, List.Perm.refl _⟩⟩⟩
      | some b =>
        have hb256 : b.length = 256 := hw.lpage _ hqm b rfl
        refine jr (own := []) (h := ?_)
        refine jd [(0, .pure), (1, .read), (3, .pure), (4, .read), (5, .pure), (6, .pure), (2, .new), (7, .act), (8, .act)] mixed (by kernel_rfl) ?_
        refine Can_run (own := []) (by simp (maxSteps := 2000000) (disch := omega) only [go_sem, ↓reduceIte, Int.reduceLT, Int.reduceLE, Int.reduceToNat, Int.reducePow, Int.reduceNeg, Nat.reduceBEq, Tryz.ntmps138, optAV, pageAV, hb256, looseRow, hb6.1, hb6.2.1, hb6.2.2.1, hb6.2.2.2.1] <;> with_reducible rfl) ?_
        refine Can_newcall (by simp only [go_sem, ↓reduceIte, Int.reduceLT, Int.reduceLE, Int.reduceToNat, Int.reducePow, Int.reduceNeg, Nat.reduceBEq, Tryz.ntmps138] <;> with_reducible rfl) (clone_ok b (by rintro rfl; simp at hb256) (by omega)) ?_ (by rintro x Δ' ⟨v, D', e, _⟩; cases e)
        rintro x L' ⟨v', D', e, rfl, how'⟩
        cases e
        obtain ⟨a', c', rfl⟩ := how'.slice
        change Own 5 1 (bytesRows b).flatten b.length (.slice a' b.length c') L' at how'
        rw [hb256] at how'
        rw [hb256]
        refine Can_run (own := []) (by simp (maxSteps := 2000000) (disch := omega) only [go_sem, ↓reduceIte, Int.reduceLT, Int.reduceLE, Int.reduceToNat, Int.reducePow, Int.reduceNeg, Nat.reduceBEq, Tryz.ntmps138, optAV, pageAV, hb256, looseRow, hb6.1, hb6.2.1, hb6.2.2.1, hb6.2.2.2.1] <;> with_reducible rfl) ?_
        refine cbi (hb := appendZ_bi (n := 0) (zs := [.int .u8 0]) (by simp only [go_sem, ↓reduceIte, Int.reduceLT, Int.reduceLE, Int.reduceToNat, Int.reducePow, Int.reduceNeg, Nat.reduceBEq] <;> with_reducible rfl) (by simp only [go_sem, ↓reduceIte, Int.reduceLT, Int.reduceLE, Int.reduceToNat, Int.reducePow, Int.reduceNeg, Nat.reduceBEq] <;> with_reducible rfl) (by rfl) how' (List.perm_append_comm (l₁ := L')) (by omega)) (hk := ?_)
        rintro _ _ ⟨v2, L2, rfl, rfl, how2⟩
        obtain ⟨a2, c2, rfl⟩ := how2.slice
        have how3 : OwnB 5 b (.slice a2 (256 + 0) c2) L2 := by
          rw [zeros, List.append_nil] at how2
          show Own 5 1 (bytesRows b).flatten b.length (.slice a2 (256 + 0) c2) L2
          rw [hb256]
          exact how2
        refine Can_run (own := []) (by simp (maxSteps := 2000000) (disch := omega) only [go_sem, ↓reduceIte, Int.reduceLT, Int.reduceLE, Int.reduceToNat, Int.reducePow, Int.reduceNeg, Nat.reduceBEq, Tryz.ntmps138, optAV, pageAV, hb256, looseRow, hb6.1, hb6.2.1, hb6.2.2.1, hb6.2.2.2.1] <;> with_reducible rfl) ?_
        refine Can_nil ?_
        refine J_perm (List.Perm.swap _ _ _) (J_drop ?_)
        refine J_perm (List.Perm.swap _ _ _) (J_drop (JR_ret ?_))
        exact ⟨_, List.Perm.refl _, .inr ⟨rfl, .inr ⟨by rw [hiA]; simpa using hap, rfl, _, _, L2, by simp, rfl, by rw [hpA]; exact how3, List.Perm.refl _⟩⟩⟩
    · refine jr (own := []) (h := ?_)
      refine J_perm (List.Perm.swap _ _ _) (J_drop (JR_end ?_))
      exact ⟨_, List.Perm.refl _, .inl ⟨rfl, .inl ⟨by rw [hiA]; simpa using hap, rfl, rfl⟩⟩⟩
  · rintro x Δ' ⟨y, rfl, h⟩
    rcases h with ⟨hno, rfl⟩ | ⟨i, hi, hp, hlast, r', v', L', hb', hpd, how', hperm⟩
    · refine ⟨y, _, _, rfl, by simp, List.Perm.cons _ (List.Perm.swap _ _ _), ?_⟩
      refine J_perm (List.Perm.swap _ _ _) (J_drop ?_)
      simp only [Option.map_none, Option.toList_none, List.nil_append]
      rw [hrl] at hno
      have hlk := lookL_none hno
      cases hf : findM s.safe at_ with
      | none =>
        have hfs : findM (safeAV s.safe) at_ = none := by unfold safeAV; rw [findM_map, hf]; rfl
        refine jr (own := []) (h := ?_)
        refine jd [(0, .pure), (1, .pure), (2, .pure), (3, .read), (4, .read), (5, .read), (7, .pure), (8, .pure), (9, .pure), (10, .read), (11, .read), (12, .read), (13, .pure), (14, .pure), (6, .new), (15, .act), (16, .act)] mixed (by kernel_rfl) ?_
        refine Can_run (own := []) (by simp (maxSteps := 2000000) (disch := omega) only [go_sem, ↓reduceIte, Int.reduceLT, Int.reduceLE, Int.reduceToNat, Int.reducePow, Int.reduceNeg, Nat.reduceBEq, Tryz.ntmps138, hfs, Option.getD_none, Option.getD_some, hb4.1, hb4.2.1] <;> with_reducible rfl) ?_
        refine Can_look rfl (by simp only [go_sem, ↓reduceIte, Int.reduceLT, Int.reduceLE, Int.reduceToNat, Int.reducePow, Int.reduceNeg, Nat.reduceBEq, Tryz.ntmps138]) kI_ok mt (by simp only [go_sem, ↓reduceIte, Int.reduceLT, Int.reduceLE, Int.reduceToNat, Int.reducePow, Int.reduceNeg, Nat.reduceBEq, hb4.1] <;> rfl) (by simp only [go_sem, ↓reduceIte, Int.reduceLT, Int.reduceLE, Int.reduceToNat, Int.reducePow, Int.reduceNeg, Nat.reduceBEq, hb4.1] <;> rfl) (by simp only [go_sem, ↓reduceIte, Int.reduceLT, Int.reduceLE, Int.reduceToNat, Int.reducePow, Int.reduceNeg, Nat.reduceBEq, hb4.1] <;> rfl) ?_
        refine Can_run (own := []) (by simp (maxSteps := 2000000) (disch := omega) only [go_sem, ↓reduceIte, Int.reduceLT, Int.reduceLE, Int.reduceToNat, Int.reducePow, Int.reduceNeg, Nat.reduceBEq, Tryz.ntmps138, hfs, Option.getD_none, Option.getD_some, hb4.1, hb4.2.1] <;> with_reducible rfl) ?_
        refine Can_look rfl (by simp only [go_sem, ↓reduceIte, Int.reduceLT, Int.reduceLE, Int.reduceToNat, Int.reducePow, Int.reduceNeg, Nat.reduceBEq, Tryz.ntmps138]) kI_ok mt (by simp only [go_sem, ↓reduceIte, Int.reduceLT, Int.reduceLE, Int.reduceToNat, Int.reducePow, Int.reduceNeg, Nat.reduceBEq, hb4.1] <;> rfl) (by simp only [go_sem, ↓reduceIte, Int.reduceLT, Int.reduceLE, Int.reduceToNat, Int.reducePow, Int.reduceNeg, Nat.reduceBEq, hb4.1] <;> rfl) (by simp only [go_sem, ↓reduceIte, Int.reduceLT, Int.reduceLE, Int.reduceToNat, Int.reducePow, Int.reduceNeg, Nat.reduceBEq, hb4.1] <;> rfl) ?_
        refine Can_run (own := []) (by simp (maxSteps := 2000000) (disch := omega) only [go_sem, ↓reduceIte, Int.reduceLT, Int.reduceLE, Int.reduceToNat, Int.reducePow, Int.reduceNeg, Nat.reduceBEq, Tryz.ntmps138, hfs, Option.getD_none, Option.getD_some, hb4.1, hb4.2.1] <;> with_reducible rfl) ?_
        refine Can_newcall (by simp only [go_sem, ↓reduceIte, Int.reduceLT, Int.reduceLE, Int.reduceToNat, Int.reducePow, Int.reduceNeg, Nat.reduceBEq, Tryz.ntmps138] <;> with_reducible rfl) cloneN_ok ?_ (by rintro x Δ' ⟨e, _⟩; cases e)
        rintro x L' ⟨e, rfl⟩
        cases e
        have how' : OwnB 5 [] (.slice none 0 0) [] := .nil none rfl rfl
        refine Can_run (own := []) (by simp (maxSteps := 2000000) (disch := omega) only [go_sem, ↓reduceIte, Int.reduceLT, Int.reduceLE, Int.reduceToNat, Int.reducePow, Int.reduceNeg, Nat.reduceBEq, Tryz.ntmps138, hfs, Option.getD_none, Option.getD_some, hb4.1, hb4.2.1] <;> with_reducible rfl) ?_
        refine cbi (hb := appendZ_bi (n := 256) (zs := [.int .u8 0]) (by simp only [go_sem, ↓reduceIte, Int.reduceLT, Int.reduceLE, Int.reduceToNat, Int.reducePow, Int.reduceNeg, Nat.reduceBEq] <;> with_reducible rfl) (by simp only [go_sem, ↓reduceIte, Int.reduceLT, Int.reduceLE, Int.reduceToNat, Int.reducePow, Int.reduceNeg, Nat.reduceBEq] <;> with_reducible rfl) (by rfl) how' (List.perm_append_comm (l₁ := [])) (by decide)) (hk := ?_)
        rintro _ _ ⟨v2, L2, rfl, rfl, how2⟩
        obtain ⟨a2, c2, rfl⟩ := how2.slice
        have how3 : OwnB 5 z256 (.slice a2 256 c2) L2 := by
          rw [zeros8] at how2
          exact how2
        refine Can_run (own := []) (by simp (maxSteps := 2000000) (disch := omega) only [go_sem, ↓reduceIte, Int.reduceLT, Int.reduceLE, Int.reduceToNat, Int.reducePow, Int.reduceNeg, Nat.reduceBEq, Tryz.ntmps138, hfs, Option.getD_none, Option.getD_some, hb4.1, hb4.2.1] <;> with_reducible rfl) ?_
        refine Can_nil ?_
        refine J_freezeB (Fr := HP.obj r _ :: .box b4 _ _ :: .box f _ _ :: .map mb _ :: L) how3 (by rw [show z256.length = 256 from by simp [z256]]; decide) ?_
        refine J_isBox 0 rfl (List.Perm.cons _ (List.Perm.swap _ _ _)) ?_
        refine J_perm ((List.Perm.cons _ (List.Perm.swap _ _ _)).trans (List.Perm.swap _ _ _)) ?_
        refine J_forgetP ?_
        refine JM_ret Tryz.func138 (by simp only [go_sem, ↓reduceIte, Int.reduceLT, Int.reduceLE, Int.reduceToNat, Int.reducePow, Int.reduceNeg, Nat.reduceBEq, Tryz.f138, List.set_cons_zero] <;> first | with_reducible rfl | rfl) ⟨[_, _], _, List.Perm.refl _, by rw [show lookB s at_ = z256 from by unfold lookB; rw [hlk]; simp [hf]]; rfl, rfl⟩
      | some b =>
        have hfs : findM (safeAV s.safe) at_ = some (.sl 1 (bytesRows b)) := by unfold safeAV; rw [findM_map, hf]; rfl
        have hb256 : b.length = 256 := hw.page _ (mem_find hf)
        refine jr (own := []) (h := ?_)
        refine jd [(0, .pure), (1, .pure), (2, .pure), (3, .read), (4, .read), (5, .read), (7, .pure), (8, .pure), (9, .pure), (10, .read), (11, .read), (12, .read), (13, .pure), (14, .pure), (6, .new), (15, .act), (16, .act)] mixed (by kernel_rfl) ?_
        refine Can_run (own := []) (by simp (maxSteps := 2000000) (disch := omega) only [go_sem, ↓reduceIte, Int.reduceLT, Int.reduceLE, Int.reduceToNat, Int.reducePow, Int.reduceNeg, Nat.reduceBEq, Tryz.ntmps138, hfs, Option.getD_none, Option.getD_some, hb4.1, hb4.2.1, hb256] <;> with_reducible rfl) ?_
        refine Can_look rfl (by simp only [go_sem, ↓reduceIte, Int.reduceLT, Int.reduceLE, Int.reduceToNat, Int.reducePow, Int.reduceNeg, Nat.reduceBEq, Tryz.ntmps138]) kI_ok mt (by simp only [go_sem, ↓reduceIte, Int.reduceLT, Int.reduceLE, Int.reduceToNat, Int.reducePow, Int.reduceNeg, Nat.reduceBEq, hb4.1] <;> rfl) (by simp only [go_sem, ↓reduceIte, Int.reduceLT, Int.reduceLE, Int.reduceToNat, Int.reducePow, Int.reduceNeg, Nat.reduceBEq, hb4.1] <;> rfl) (by simp only [go_sem, ↓reduceIte, Int.reduceLT, Int.reduceLE, Int.reduceToNat, Int.reducePow, Int.reduceNeg, Nat.reduceBEq, hb4.1] <;> rfl) ?_
        refine Can_run (own := []) (by simp (maxSteps := 2000000) (disch := omega) only [go_sem, ↓reduceIte, Int.reduceLT, Int.reduceLE, Int.reduceToNat, Int.reducePow, Int.reduceNeg, Nat.reduceBEq, Tryz.ntmps138, hfs, Option.getD_none, Option.getD_some, hb4.1, hb4.2.1, hb256] <;> with_reducible rfl) ?_
        refine Can_look rfl (by simp only [go_sem, ↓reduceIte, Int.reduceLT, Int.reduceLE, Int.reduceToNat, Int.reducePow, Int.reduceNeg, Nat.reduceBEq, Tryz.ntmps138]) kI_ok mt (by simp only [go_sem, ↓reduceIte, Int.reduceLT, Int.reduceLE, Int.reduceToNat, Int.reducePow, Int.reduceNeg, Nat.reduceBEq, hb4.1] <;> rfl) (by simp only [go_sem, ↓reduceIte, Int.reduceLT, Int.reduceLE, Int.reduceToNat, Int.reducePow, Int.reduceNeg, Nat.reduceBEq, hb4.1] <;> rfl) (by simp only [go_sem, ↓reduceIte, Int.reduceLT, Int.reduceLE, Int.reduceToNat, Int.reducePow, Int.reduceNeg, Nat.reduceBEq, hb4.1] <;> rfl) ?_
        refine Can_run (own := []) (by simp (maxSteps := 2000000) (disch := omega) only [go_sem, ↓reduceIte, Int.reduceLT, Int.reduceLE, Int.reduceToNat, Int.reducePow, Int.reduceNeg, Nat.reduceBEq, Tryz.ntmps138, hfs, Option.getD_none, Option.getD_some, hb4.1, hb4.2.1, hb256] <;> with_reducible rfl) ?_
        refine Can_newcall (by simp only [go_sem, ↓reduceIte, Int.reduceLT, Int.reduceLE, Int.reduceToNat, Int.reducePow, Int.reduceNeg, Nat.reduceBEq, Tryz.ntmps138] <;> with_reducible rfl) (clone_ok b (by rintro rfl; simp at hb256) (by omega)) ?_ (by rintro x Δ' ⟨v, D', e, _⟩; cases e)
        rintro x L' ⟨v', D', e, rfl, how'⟩
        cases e
        obtain ⟨a', c', rfl⟩ := how'.slice
        change Own 5 1 (bytesRows b).flatten b.length (.slice a' b.length c') L' at how'
        rw [hb256] at how'
        rw [hb256]
        refine Can_run (own := []) (by simp (maxSteps := 2000000) (disch := omega) only [go_sem, ↓reduceIte, Int.reduceLT, Int.reduceLE, Int.reduceToNat, Int.reducePow, Int.reduceNeg, Nat.reduceBEq, Tryz.ntmps138, hfs, Option.getD_none, Option.getD_some, hb4.1, hb4.2.1, hb256] <;> with_reducible rfl) ?_
        refine cbi (hb := appendZ_bi (n := 0) (zs := [.int .u8 0]) (by simp only [go_sem, ↓reduceIte, Int.reduceLT, Int.reduceLE, Int.reduceToNat, Int.reducePow, Int.reduceNeg, Nat.reduceBEq] <;> with_reducible rfl) (by simp only [go_sem, ↓reduceIte, Int.reduceLT, Int.reduceLE, Int.reduceToNat, Int.reducePow, Int.reduceNeg, Nat.reduceBEq] <;> with_reducible rfl) (by rfl) how' (List.perm_append_comm (l₁ := L')) (by omega)) (hk := ?_)
        rintro _ _ ⟨v2, L2, rfl, rfl, how2⟩
        obtain ⟨a2, c2, rfl⟩ := how2.slice
        have how3 : OwnB 5 b (.slice a2 (256 + 0) c2) L2 := by
          rw [zeros, List.append_nil] at how2
          show Own 5 1 (bytesRows b).flatten b.length (.slice a2 (256 + 0) c2) L2
          rw [hb256]
          exact how2
        refine Can_run (own := []) (by simp (maxSteps := 2000000) (disch := omega) only [go_sem, ↓reduceIte, Int.reduceLT, Int.reduceLE, Int.reduceToNat, Int.reducePow, Int.reduceNeg, Nat.reduceBEq, Tryz.ntmps138, hfs, Option.getD_none, Option.getD_some, hb4.1, hb4.2.1, hb256] <;> with_reducible rfl) ?_
        refine Can_nil ?_
        refine J_freezeB (Fr := HP.obj r _ :: .box b4 _ _ :: .box f _ _ :: .map mb _ :: L) how3 (by rw [show b.length = 256 from hb256]; decide) ?_
        refine J_isBox 0 rfl (List.Perm.cons _ (List.Perm.swap _ _ _)) ?_
        refine J_perm ((List.Perm.cons _ (List.Perm.swap _ _ _)).trans (List.Perm.swap _ _ _)) ?_
        refine J_forgetP ?_
        refine JM_ret Tryz.func138 (by simp only [go_sem, ↓reduceIte, Int.reduceLT, Int.reduceLE, Int.reduceToNat, Int.reducePow, Int.reduceNeg, Nat.reduceBEq, Tryz.f138, List.set_cons_zero] <;> first | with_reducible rfl | rfl) ⟨[_, _], _, List.Perm.refl _, by rw [show lookB s at_ = b from by unfold lookB; rw [hlk]; simp [hf]]; rfl, rfl⟩
    · refine ⟨y, r', _, rfl, hb', hperm, ?_⟩
      rw [hrl] at hi hlast
      have hlk := lookL_some hi hp hlast
      have hpg : lookB s at_ = pageAt s.loose i := by unfold lookB pageAt; rw [hlk, List.getElem?_eq_getElem hi]
      simp only [hpd, Option.map_some, Option.toList_some, List.cons_append, List.nil_append]
      refine J_freezeB (Fr := HP.obj r _ :: .box b4 _ _ :: .box f _ _ :: .map mb _ :: L) how' (by rw [show (pageAt s.loose i).length = 256 from by rw [← hpg]; exact hll]; decide) ?_
      refine J_isBox 0 rfl (List.Perm.cons _ (List.Perm.swap _ _ _)) ?_
      refine J_perm ((List.Perm.cons _ (List.Perm.swap _ _ _)).trans (List.Perm.swap _ _ _)) ?_
      refine J_forgetP ?_
      refine JM_ret Tryz.func138 (by simp only [go_sem, ↓reduceIte, Int.reduceLT, Int.reduceLE, Int.reduceToNat, Int.reducePow, Int.reduceNeg, Nat.reduceBEq, Tryz.f138, List.set_cons_zero] <;> first | with_reducible rfl | rfl) ⟨[_, _], _, List.Perm.refl _, by rw [hpg]; rfl, rfl⟩
end
end Go.Proofs.YtlmahffjidgplaaGreatDoor
end

section
namespace Go.Proofs.YtlmahffjidgplaaGreatDoor
open Go Go.Av
set_option linter.unusedVariables false
set_option linter.unusedSimpArgs false
set_option maxRecDepth 100000
set_option maxHeartbeats 4000000
attribute [local go_sem] packed List.set_cons_zero List.set_cons_succ List.cons_append List.nil_append bytesRows_length flCells
attribute [-go_sem] cellsOf AV.isCell
attribute [local go_sem] cellsOf_agg cellsOf_int cellsOf_bool cellsOf_str cellsOf_map cellsOf_ptr cellsOf_nilI cellsOf_slice cellsOf_sl cellsOf_ifc cellsOf_fp cellsOf_opt optAV_cell icell_int icell_bool icell_str icell_map icell_ptr icell_nilI icell_slice icell_sl icell_ifc icell_fp

theorem anil_bytes {e : TypeId} {b : List UInt8} (h : 0 < b.length) : anil (some (.slice e)) (.sl 1 (bytesRows b)) = some false := by
  cases b with
  | nil => simp at h
  | cons x b => rfl
attribute [-go_sem] anil
attribute [local go_sem] anil_bytes
theorem anil_nil {e : TypeId} {l c : Nat} : anil (some (.slice e)) (.c (.slice none l c)) = some true := rfl
theorem anil_some {e : TypeId} {a : Addr} {l c : Nat} : anil (some (.slice e)) (.c (.slice (some a) l c)) = some false := rfl
theorem anil_i0 {ms : List String} : True := trivial
attribute [local go_sem] anil_nil anil_some

theorem flatB_len (b : List UInt8) : (bytesRows b).flatten.length = b.length := by rw [flat_len (bytes_row b), bytesRows_length, Nat.mul_one]
theorem flatB_drop (b : List UInt8) (k : Nat) : (bytesRows b).flatten.drop k = (bytesRows (b.drop k)).flatten := by
  have := flat_drop (s := 1) (rows := bytesRows b) k (bytes_row b)
  rw [Nat.mul_one, bytesRows_drop] at this; exact this
theorem all_take {l : List AV} {n : Nat} (h : l.all AV.isCell = true) : (l.take n).all AV.isCell = true := by
  rw [List.all_eq_true] at h ⊢
  exact fun x hx => h x (List.take_subset _ _ hx)

section
variable {f : Nat} {s : Fl} {D : List HP}
theorem read_ok' (h : OwnF f s D) (hw : s.WF) (at_ : Int) : ACalls Tryz.prog 128 [ptr f, .c (.int .i64 at_)] D
    (fun r Δ => (checkF s at_ = 0 → r = .ret (.tup [pageAV (lookB s at_), .c .nilIface])) ∧ (checkF s at_ ≠ 0 → ∃ e, r = .ret (.tup [.c (.slice none 0 0), e]) ∧ IsErr e (checkF s at_)) ∧ Δ = D) := by
  refine calls_of_J cl_128 Tryz.func128 rfl (by simp [Tryz.ntmps128]) ?_
  refine jr (own := []) (h := ?_)
  refine jcs (Fr := []) (hs := (fcheck_ok h _ at_)) (hp := (by simp)) (hk := ?_) (hpan := (by rintro x Δ' ⟨⟨e, h, _⟩, _⟩; cases h))
  rintro x D ⟨⟨e, h1, he, hz⟩, rfl⟩
  cases h1
  rw [List.append_nil]
  by_cases hc : checkF s at_ = 0
  rotate_left
  · obtain ⟨t, y, rfl⟩ := iserr_ne he hc
    refine J_mrun (own := []) (m := 2000) (by simp (maxSteps := 2000000) (disch := omega) only [go_sem, ↓reduceIte, Int.reduceLT, Int.reduceLE, Int.reduceToNat, Int.reducePow, Int.reduceNeg, Nat.reduceBEq, Tryz.ntmps128, anil] <;> with_reducible rfl) ?_
    refine jt (h := ?_)
    refine jr (own := []) (h := ?_)
    refine jret Tryz.func128 (h := ⟨fun h => absurd h hc, fun _ => ⟨_, rfl, he⟩, rfl⟩)
  obtain rfl := hz hc
  refine J_mrun (own := []) (m := 2000) (by simp (maxSteps := 2000000) (disch := omega) only [go_sem, ↓reduceIte, Int.reduceLT, Int.reduceLE, Int.reduceToNat, Int.reducePow, Int.reduceNeg, Nat.reduceBEq, Tryz.ntmps128, anil] <;> with_reducible rfl) ?_
  refine jn (h := ?_)
  refine jr (own := []) (h := ?_)
  refine jcs (Fr := []) (hs := (look_ok h hw at_)) (hp := (by simp)) (hk := ?_) (hpan := (by rintro x Δ' ⟨e, _⟩; cases e))
  rintro x D ⟨e, rfl⟩
  cases e
  rw [List.append_nil]
  refine jr (own := []) (h := ?_)
  refine jret Tryz.func128 (h := ⟨fun _ => rfl, fun h => absurd hc h, rfl⟩)

def pageOr (l : List (Int × List UInt8)) (at_ : Int) : List UInt8 := (findM l at_).getD z256
def settleM (l : List (Int × List UInt8)) (at_ : Int) (o : Option (List UInt8)) (keep : Int) : List (Int × List UInt8) := match o with
  | none => if keep ≥ 256 then delM l at_ else l
  | some b => if keep ≤ 0 then l else
      let nb := b.take (min keep 256).toNat ++ (pageOr l at_).drop (min keep 256).toNat
      if blankB nb then delM l at_ else updM l at_ nb

theorem settle_at {mb : Nat} {v : Value} {L : List HP} (how : Own 173 2 (looseAV s.loose).flatten s.loose.length v L) (hw : ∀ p ∈ s.safe, p.2.length = 256) (at_ : Int) (o : Option (List UInt8)) (keep : Int) (ho : ∀ b, o = some b → b.length = 256) : ACalls Tryz.prog 83 [ptr f, .agg [.c (.int .i64 at_), optAV o], .c (.int .i64 keep)] (.box f 171 (flCells s mb v) :: .map mb (mi kI (safeAV s.safe)) :: L)
    (fun r D' => (∃ y, r = .ret y) ∧ D' = .box f 171 (flCells s mb v) :: .map mb (mi kI (safeAV (settleM s.safe at_ o keep))) :: L) := by
  obtain ⟨av, cv, rfl⟩ := how.slice
  cases o with
  | none =>
    refine calls_of_J cl_83 Tryz.func83 rfl (by simp [Tryz.ntmps83]) ?_
    refine J_mrun (own := []) (m := 2000) (by simp (maxSteps := 2000000) (disch := omega) only [go_sem, ↓reduceIte, Int.reduceLT, Int.reduceLE, Int.reduceToNat, Int.reducePow, Int.reduceNeg, Nat.reduceBEq, Tryz.ntmps83, optAV] <;> with_reducible rfl) ?_
    refine jt (h := ?_)
    refine jr (own := []) (h := ?_)
    refine jif (h1 := fun hk => ?_) (h2 := fun hk => ?_)
    · refine jr (own := []) (h := ?_)
      refine jd [(0, .pure), (1, .pure), (2, .pure), (3, .read), (4, .pure), (5, .read), (6, .act)] mixed (by kernel_rfl) ?_
      refine cr (own := []) (hk := ?_)
      refine cbi (hb := delete_bi (k := at_) (l := safeAV s.safe) kI_ok mt (by simp only [go_sem])) (hk := ?_)
      rintro _ _ ⟨rfl, rfl⟩
      refine cr (own := []) (hk := ?_)
      refine Can_nil ?_
      refine J_retX Tryz.func83 (by simp only [go_sem, ↓reduceIte, Int.reduceLT, Int.reduceLE, Int.reduceToNat, Int.reducePow, Int.reduceNeg, Nat.reduceBEq, Tryz.f83] <;> first | with_reducible rfl | rfl) ⟨⟨_, rfl⟩, by
        have e : delM (safeAV s.safe) at_ = safeAV (delM s.safe at_) := delM_map pageAV s.safe at_
        simp only [settleM, hk, if_true, e, flCells, ge_iff_le]⟩
    · refine jr (own := []) (h := ?_)
      refine jret Tryz.func83 (h := ⟨⟨_, rfl⟩, by simp only [settleM, hk, if_false, flCells, ge_iff_le]⟩)
  | some b =>
    have hb := ho b rfl
    refine calls_of_J cl_83 Tryz.func83 rfl (by simp [Tryz.ntmps83]) ?_
    refine J_mrun (own := []) (m := 2000) (by simp (maxSteps := 2000000) (disch := omega) only [go_sem, ↓reduceIte, Int.reduceLT, Int.reduceLE, Int.reduceToNat, Int.reducePow, Int.reduceNeg, Nat.reduceBEq, Tryz.ntmps83, optAV, pageAV] <;> with_reducible rfl) ?_
    refine jn (h := ?_)
    refine jr (own := []) (h := ?_)
    refine jif (h1 := fun hk => ?_) (h2 := fun hk => ?_)
    · refine jr (own := []) (h := ?_)
      refine jret Tryz.func83 (h := ⟨⟨_, rfl⟩, by simp only [settleM, hk, if_true, flCells]⟩)
    refine jr (own := []) (h := ?_)
    have hpl : (pageOr s.safe at_).length = 256 := by
      unfold pageOr
      cases hf : findM s.safe at_ with
      | none => simp [z256]
      | some w => exact hw _ (mem_find hf)
    refine J_cut (fun e D => ∃ a2 c2 L2, Own 5 1 (bytesRows (pageOr s.safe at_)).flatten 256 (.slice a2 256 c2) L2 ∧ e = [(0, ptr f), (2, .c (.int .i64 keep)), (4, .fp [.c (.int .i64 at_), .sl 1 (bytesRows b)]), (6, .c (.slice a2 256 c2))] ∧ D = .box f 171 (flCells s mb (.slice av s.loose.length cv)) :: .map mb (mi kI (safeAV s.safe)) :: (L ++ L2)) ?_ (fun hcut => ?_)
    rotate_left
    · cases hf : findM s.safe at_ with
      | none =>
        have hfs : findM (safeAV s.safe) at_ = none := by unfold safeAV; rw [findM_map, hf]; rfl
        have hpg : pageOr s.safe at_ = z256 := by unfold pageOr; rw [hf]; rfl
        refine jd [(0, .pure), (1, .pure), (2, .pure), (3, .read), (4, .pure), (5, .read), (6, .read), (8, .pure), (9, .pure), (10, .pure), (11, .read), (12, .pure), (13, .read), (14, .read), (15, .pure), (16, .pure), (7, .new), (17, .act), (18, .pure)] mixed (by kernel_rfl) ?_
        refine Can_run (own := []) (by simp (maxSteps := 2000000) (disch := omega) only [go_sem, ↓reduceIte, Int.reduceLT, Int.reduceLE, Int.reduceToNat, Int.reducePow, Int.reduceNeg, Nat.reduceBEq, Tryz.ntmps83, hfs, Option.getD_none, Option.getD_some] <;> with_reducible rfl) ?_
        refine Can_look rfl (by simp only [go_sem, ↓reduceIte, Int.reduceLT, Int.reduceLE, Int.reduceToNat, Int.reducePow, Int.reduceNeg, Nat.reduceBEq, Tryz.ntmps83]) kI_ok mt (by simp only [go_sem, ↓reduceIte, Int.reduceLT, Int.reduceLE, Int.reduceToNat, Int.reducePow, Int.reduceNeg, Nat.reduceBEq] <;> rfl) (by simp only [go_sem, ↓reduceIte, Int.reduceLT, Int.reduceLE, Int.reduceToNat, Int.reducePow, Int.reduceNeg, Nat.reduceBEq] <;> rfl) (by simp only [go_sem, ↓reduceIte, Int.reduceLT, Int.reduceLE, Int.reduceToNat, Int.reducePow, Int.reduceNeg, Nat.reduceBEq] <;> rfl) ?_
        refine Can_run (own := []) (by simp (maxSteps := 2000000) (disch := omega) only [go_sem, ↓reduceIte, Int.reduceLT, Int.reduceLE, Int.reduceToNat, Int.reducePow, Int.reduceNeg, Nat.reduceBEq, Tryz.ntmps83, hfs, Option.getD_none, Option.getD_some] <;> with_reducible rfl) ?_
        refine Can_look rfl (by simp only [go_sem, ↓reduceIte, Int.reduceLT, Int.reduceLE, Int.reduceToNat, Int.reducePow, Int.reduceNeg, Nat.reduceBEq, Tryz.ntmps83]) kI_ok mt (by simp only [go_sem, ↓reduceIte, Int.reduceLT, Int.reduceLE, Int.reduceToNat, Int.reducePow, Int.reduceNeg, Nat.reduceBEq] <;> rfl) (by simp only [go_sem, ↓reduceIte, Int.reduceLT, Int.reduceLE, Int.reduceToNat, Int.reducePow, Int.reduceNeg, Nat.reduceBEq] <;> rfl) (by simp only [go_sem, ↓reduceIte, Int.reduceLT, Int.reduceLE, Int.reduceToNat, Int.reducePow, Int.reduceNeg, Nat.reduceBEq] <;> rfl) ?_
        refine Can_run (own := []) (by simp (maxSteps := 2000000) (disch := omega) only [go_sem, ↓reduceIte, Int.reduceLT, Int.reduceLE, Int.reduceToNat, Int.reducePow, Int.reduceNeg, Nat.reduceBEq, Tryz.ntmps83, hfs, Option.getD_none, Option.getD_some] <;> with_reducible rfl) ?_
        refine Can_newcall (by simp only [go_sem, ↓reduceIte, Int.reduceLT, Int.reduceLE, Int.reduceToNat, Int.reducePow, Int.reduceNeg, Nat.reduceBEq, Tryz.ntmps83] <;> with_reducible rfl) cloneN_ok ?_ (by rintro x Δ' ⟨e, _⟩; cases e)
        rintro x L' ⟨e, rfl⟩
        cases e
        have how' : OwnB 5 [] (.slice none 0 0) [] := .nil none rfl rfl
        refine Can_run (own := []) (by simp (maxSteps := 2000000) (disch := omega) only [go_sem, ↓reduceIte, Int.reduceLT, Int.reduceLE, Int.reduceToNat, Int.reducePow, Int.reduceNeg, Nat.reduceBEq, Tryz.ntmps83, hfs, Option.getD_none, Option.getD_some] <;> with_reducible rfl) ?_
        refine cbi (hb := appendZ_bi (n := 256) (zs := [.int .u8 0]) (by simp only [go_sem, ↓reduceIte, Int.reduceLT, Int.reduceLE, Int.reduceToNat, Int.reducePow, Int.reduceNeg, Nat.reduceBEq] <;> with_reducible rfl) (by simp only [go_sem, ↓reduceIte, Int.reduceLT, Int.reduceLE, Int.reduceToNat, Int.reducePow, Int.reduceNeg, Nat.reduceBEq] <;> with_reducible rfl) (by rfl) how' (List.perm_append_comm (l₁ := [])) (by decide)) (hk := ?_)
        rintro _ _ ⟨v2, L2, rfl, rfl, how2⟩
        obtain ⟨a2, c2, rfl⟩ := how2.slice
        have how3 : Own 5 1 (bytesRows z256).flatten 256 (.slice a2 256 c2) L2 := by
          rw [zeros8] at how2
          exact how2
        refine Can_run (own := []) (by simp (maxSteps := 2000000) (disch := omega) only [go_sem, ↓reduceIte, Int.reduceLT, Int.reduceLE, Int.reduceToNat, Int.reducePow, Int.reduceNeg, Nat.reduceBEq, Tryz.ntmps83, hfs, Option.getD_none, Option.getD_some] <;> with_reducible rfl) ?_
        refine Can_nil ?_
        refine jk [0, 2, 4, 6] (h := ?_)
        exact hcut _ _ ⟨a2, c2, L2, by rw [hpg]; exact how3, rfl, rfl⟩
      | some w =>
        have hfs : findM (safeAV s.safe) at_ = some (.sl 1 (bytesRows w)) := by unfold safeAV; rw [findM_map, hf]; rfl
        have hw256 : w.length = 256 := hw _ (mem_find hf)
        have hpg : pageOr s.safe at_ = w := by unfold pageOr; rw [hf]; rfl
        refine jd [(0, .pure), (1, .pure), (2, .pure), (3, .read), (4, .pure), (5, .read), (6, .read), (8, .pure), (9, .pure), (10, .pure), (11, .read), (12, .pure), (13, .read), (14, .read), (15, .pure), (16, .pure), (7, .new), (17, .act), (18, .pure)] mixed (by kernel_rfl) ?_
        refine Can_run (own := []) (by simp (maxSteps := 2000000) (disch := omega) only [go_sem, ↓reduceIte, Int.reduceLT, Int.reduceLE, Int.reduceToNat, Int.reducePow, Int.reduceNeg, Nat.reduceBEq, Tryz.ntmps83, hfs, Option.getD_none, Option.getD_some, hw256] <;> with_reducible rfl) ?_
        refine Can_look rfl (by simp only [go_sem, ↓reduceIte, Int.reduceLT, Int.reduceLE, Int.reduceToNat, Int.reducePow, Int.reduceNeg, Nat.reduceBEq, Tryz.ntmps83]) kI_ok mt (by simp only [go_sem, ↓reduceIte, Int.reduceLT, Int.reduceLE, Int.reduceToNat, Int.reducePow, Int.reduceNeg, Nat.reduceBEq] <;> rfl) (by simp only [go_sem, ↓reduceIte, Int.reduceLT, Int.reduceLE, Int.reduceToNat, Int.reducePow, Int.reduceNeg, Nat.reduceBEq] <;> rfl) (by simp only [go_sem, ↓reduceIte, Int.reduceLT, Int.reduceLE, Int.reduceToNat, Int.reducePow, Int.reduceNeg, Nat.reduceBEq] <;> rfl) ?_
        refine Can_run (own := []) (by simp (maxSteps := 2000000) (disch := omega) only [go_sem, ↓reduceIte, Int.reduceLT, Int.reduceLE, Int.reduceToNat, Int.reducePow, Int.reduceNeg, Nat.reduceBEq, Tryz.ntmps83, hfs, Option.getD_none, Option.getD_some, hw256] <;> with_reducible rfl) ?_
        refine Can_look rfl (by simp only [go_sem, ↓reduceIte, Int.reduceLT, Int.reduceLE, Int.reduceToNat, Int.reducePow, Int.reduceNeg, Nat.reduceBEq, Tryz.ntmps83]) kI_ok mt (by simp only [go_sem, ↓reduceIte, Int.reduceLT, Int.reduceLE, Int.reduceToNat, Int.reducePow, Int.reduceNeg, Nat.reduceBEq] <;> rfl) (by simp only [go_sem, ↓reduceIte, Int.reduceLT, Int.reduceLE, Int.reduceToNat, Int.reducePow, Int.reduceNeg, Nat.reduceBEq] <;> rfl) (by simp only [go_sem, ↓reduceIte, Int.reduceLT, Int.reduceLE, Int.reduceToNat, Int.reducePow, Int.reduceNeg, Nat.reduceBEq] <;> rfl) ?_
        refine Can_run (own := []) (by simp (maxSteps := 2000000) (disch := omega) only [go_sem, ↓reduceIte, Int.reduceLT, Int.reduceLE, Int.reduceToNat, Int.reducePow, Int.reduceNeg, Nat.reduceBEq, Tryz.ntmps83, hfs, Option.getD_none, Option.getD_some, hw256] <;> with_reducible rfl) ?_
        refine Can_newcall (by simp only [go_sem, ↓reduceIte, Int.reduceLT, Int.reduceLE, Int.reduceToNat, Int.reducePow, Int.reduceNeg, Nat.reduceBEq, Tryz.ntmps83] <;> with_reducible rfl) (clone_ok w (by rintro rfl; simp at hw256) (by omega)) ?_ (by rintro x Δ' ⟨v, D', e, _⟩; cases e)
        rintro x L' ⟨v', D', e, rfl, how'⟩
        cases e
        obtain ⟨a', c', rfl⟩ := how'.slice
        change Own 5 1 (bytesRows w).flatten w.length (.slice a' w.length c') L' at how'
        rw [hw256] at how'
        rw [hw256]
        refine Can_run (own := []) (by simp (maxSteps := 2000000) (disch := omega) only [go_sem, ↓reduceIte, Int.reduceLT, Int.reduceLE, Int.reduceToNat, Int.reducePow, Int.reduceNeg, Nat.reduceBEq, Tryz.ntmps83, hfs, Option.getD_none, Option.getD_some, hw256] <;> with_reducible rfl) ?_
        refine cbi (hb := appendZ_bi (n := 0) (zs := [.int .u8 0]) (by simp only [go_sem, ↓reduceIte, Int.reduceLT, Int.reduceLE, Int.reduceToNat, Int.reducePow, Int.reduceNeg, Nat.reduceBEq] <;> with_reducible rfl) (by simp only [go_sem, ↓reduceIte, Int.reduceLT, Int.reduceLE, Int.reduceToNat, Int.reducePow, Int.reduceNeg, Nat.reduceBEq] <;> with_reducible rfl) (by rfl) how' (List.perm_append_comm (l₁ := L')) (by omega)) (hk := ?_)
        rintro _ _ ⟨v2, L2, rfl, rfl, how2⟩
        obtain ⟨a2, c2, rfl⟩ := how2.slice
        have how3 : Own 5 1 (bytesRows w).flatten 256 (.slice a2 256 c2) L2 := by
          rw [zeros, List.append_nil] at how2
          exact how2
        refine Can_run (own := []) (by simp (maxSteps := 2000000) (disch := omega) only [go_sem, ↓reduceIte, Int.reduceLT, Int.reduceLE, Int.reduceToNat, Int.reducePow, Int.reduceNeg, Nat.reduceBEq, Tryz.ntmps83, hfs, Option.getD_none, Option.getD_some, hw256] <;> with_reducible rfl) ?_
        refine Can_nil ?_
        refine jk [0, 2, 4, 6] (h := ?_)
        exact hcut _ _ ⟨a2, c2, L2, by rw [hpg]; exact how3, rfl, rfl⟩
    · rintro e D ⟨a2, c2, L2, how3, rfl, rfl⟩
      obtain ⟨b2, cap, sp, e1, rfl, hcap⟩ : ∃ b2 cap sp, Value.slice a2 256 c2 = .slice (some ⟨b2, 0, none⟩) 256 cap ∧ L2 = [.box b2 5 ((bytesRows (pageOr s.safe at_)).flatten ++ sp)] ∧ 256 ≤ cap ∧ sp.length = (cap - 256) * 1 := by
        cases how3 with
        | box b cap sp q1 q2 q3 => exact ⟨_, _, _, rfl, rfl, q3, q2⟩
      cases e1
      obtain ⟨k, hkk, hk1, hk2⟩ : ∃ k : Nat, min keep 256 = (k : Int) ∧ 1 ≤ k ∧ k ≤ 256 := ⟨(min keep 256).toNat, by omega, by omega, by omega⟩
      refine J_perm (Δ' := .box b2 5 ((bytesRows (pageOr s.safe at_)).flatten ++ sp) :: .box f 171 (flCells s mb (.slice av s.loose.length cv)) :: .map mb (mi kI (safeAV s.safe)) :: L) (List.perm_append_comm (l₁ := _ :: _ :: L) (l₂ := [_])) ?_
      generalize hw0 : pageOr s.safe at_ = w at *
      refine J_mrun (own := []) (m := 2000) (by simp (maxSteps := 2000000) (disch := omega) only [go_sem, ↓reduceIte, Int.reduceLT, Int.reduceLE, Int.reduceToNat, Int.reducePow, Int.reduceNeg, Nat.reduceBEq, Tryz.ntmps83, hkk, hb, Int.toNat_natCast] <;> with_reducible rfl) ?_
      have hbt : (b.take k).length = k := by rw [List.length_take]; omega
      refine jbi (hb := copy_bi (n := k) (by simp only [go_sem, ↓reduceIte, Int.reduceLT, Int.reduceLE, Int.reduceToNat, Int.reducePow, Int.reduceNeg, Nat.reduceBEq] <;> with_reducible rfl) (by simp only [go_sem, ↓reduceIte, Int.reduceLT, Int.reduceLE, Int.reduceToNat, Int.reducePow, Int.reduceNeg, Nat.reduceBEq] <;> with_reducible rfl) (by simp only [go_sem, srcOf, hbt] <;> rfl) (by simp only [go_sem] <;> rfl) (all_take bytes_cell) (by rw [List.length_append, flatB_len, hpl]; omega)) (hk := ?_)
      rintro _ _ ⟨rfl, rfl⟩
      have hmin : min k 256 * 1 = k := by omega
      have hnl : (b.take k ++ w.drop k).length = 256 := by rw [List.length_append, hbt, List.length_drop]; omega
      have hcells : ((bytesRows w).flatten ++ sp).take 0 ++ (bytesRows (b.take k)).flatten.take (min k 256 * 1) ++ ((bytesRows w).flatten ++ sp).drop (0 + min k 256 * 1) = (bytesRows (b.take k ++ w.drop k)).flatten ++ sp := by
        rw [hmin, List.take_zero, List.nil_append, Nat.zero_add, bytesRows_append, List.flatten_append, List.take_of_length_le (by rw [flatB_len, hbt]; omega), List.drop_append_of_le_length (by rw [flatB_len, hpl]; omega), flatB_drop, List.append_assoc]
      rw [hcells]
      simp only [setBox, if_true]
      generalize hnb : b.take k ++ w.drop k = nb at *
      have how4 : Own 5 1 (bytesRows nb).flatten (bytesRows nb).length (.slice (some ⟨b2, 0, none⟩) 256 c2) [.box b2 5 ((bytesRows nb).flatten ++ sp)] := by
        rw [bytesRows_length, hnl]
        exact .box b2 c2 sp (by rw [flatB_len, hnl]) hcap.2 hcap.1
      have hset : settleM s.safe at_ (some b) keep = if blankB nb then delM s.safe at_ else updM s.safe at_ nb := by
        simp only [settleM, hk, if_false, hw0, hkk, Int.toNat_natCast, hnb]
      refine jr (own := []) (h := ?_)
      refine jcs (Δ1 := [_]) (Fr := _ :: _ :: L) (hs := (ACalls.lendOwn (pre := []) how4 (blank_ok nb (by omega)) (by rintro r Δ' ⟨rfl, rfl⟩; exact ⟨rfl, _, rfl, .c _⟩) (bytes_row nb) (by rw [bytesRows_length, hnl]; decide))) (hp := (List.Perm.refl _)) (hk := ?_) (hpan := (by rintro x Δ' ⟨⟨e, _⟩, _⟩; cases e))
      rintro x Δ' ⟨⟨e, _⟩, rfl⟩
      cases e
      cases hbl : blankB nb with
      | true =>
        rw [hbl, if_pos rfl] at hset
        refine jr (own := []) (h := ?_)
        refine jt (h := ?_)
        refine J_drop ?_
        refine jr (own := []) (h := ?_)
        refine jd [(0, .pure), (1, .pure), (2, .pure), (3, .read), (4, .pure), (5, .read), (6, .act)] mixed (by kernel_rfl) ?_
        refine cr (own := []) (hk := ?_)
        refine cbi (hb := delete_bi (k := at_) (l := safeAV s.safe) kI_ok mt (by simp only [go_sem])) (hk := ?_)
        rintro _ _ ⟨rfl, rfl⟩
        refine cr (own := []) (hk := ?_)
        refine Can_nil ?_
        refine jr (own := []) (h := ?_)
        refine J_end Tryz.func83 (xs := []) (by rfl) ⟨⟨_, rfl⟩, by
          have e : delM (safeAV s.safe) at_ = safeAV (delM s.safe at_) := delM_map pageAV s.safe at_
          simp only [hset, e, flCells]⟩
      | false =>
        rw [hbl, if_neg (by decide)] at hset
        refine jr (own := []) (h := ?_)
        refine jn (h := ?_)
        refine J_perm (List.perm_append_comm (l₁ := [_]) (l₂ := _ :: _ :: L)) ?_
        refine J_freezeB (b := nb) (by rw [bytesRows_length] at how4; exact how4) (by rw [hnl]; decide) ?_
        refine J_is (t := 6) (by simp only [go_sem, hnl]) (List.mem_cons_self ..) (J_drop ?_)
        refine jr (own := []) (h := ?_)
        refine jd [(0, .pure), (1, .pure), (2, .pure), (3, .read), (4, .pure), (5, .read), (6, .pure), (7, .act)] mixed (by kernel_rfl) ?_
        refine cr (own := []) (hk := ?_)
        refine Can_op0 rfl (fun e' ha => update_op (k := at_) (l := safeAV s.safe) rfl kI_ok mt (agree_eval rfl ha (by simp [Op.operands]) (by simp only [go_sem, ↓reduceIte, Int.reduceLT, Int.reduceLE, Int.reduceToNat, Int.reducePow, Int.reduceNeg, Nat.reduceBEq] <;> rfl)) (agree_eval rfl ha (by simp [Op.operands]) (by simp only [go_sem, ↓reduceIte, Int.reduceLT, Int.reduceLE, Int.reduceToNat, Int.reducePow, Int.reduceNeg, Nat.reduceBEq] <;> rfl)) (agree_eval rfl ha (by simp [Op.operands]) (by simp only [go_sem, ↓reduceIte, Int.reduceLT, Int.reduceLE, Int.reduceToNat, Int.reducePow, Int.reduceNeg, Nat.reduceBEq] <;> rfl)) (by simp only [go_sem])) ?_
        rintro _ _ ⟨rfl, rfl⟩
        refine cr (own := []) (hk := ?_)
        refine Can_nil ?_
        refine jr (own := []) (h := ?_)
        refine J_end Tryz.func83 (xs := []) (by rfl) ⟨⟨_, rfl⟩, by
          have e : updM (safeAV s.safe) at_ (.sl 1 (bytesRows nb)) = safeAV (updM s.safe at_ nb) := updM_map pageAV s.safe at_ nb
          simp only [hset, e, flCells]⟩
end
end Go.Proofs.YtlmahffjidgplaaGreatDoor
end

section
namespace Go.Proofs.YtlmahffjidgplaaGreatDoor
open Go Go.Av
set_option linter.unusedVariables false
set_option linter.unusedSimpArgs false
set_option maxRecDepth 100000
set_option maxHeartbeats 4000000
attribute [local go_sem] packed List.set_cons_zero List.set_cons_succ List.cons_append List.nil_append bytesRows_length flCells
attribute [-go_sem] cellsOf AV.isCell
attribute [local go_sem] cellsOf_agg cellsOf_int cellsOf_bool cellsOf_str cellsOf_map cellsOf_ptr cellsOf_nilI cellsOf_slice cellsOf_sl cellsOf_ifc cellsOf_fp cellsOf_opt optAV_cell icell_int icell_bool icell_str icell_map icell_ptr icell_nilI icell_slice icell_sl icell_ifc icell_fp

def pagesOK (l : List (Int × List UInt8)) : Prop := (l.map (·.1)).Nodup ∧ ∀ p ∈ l, p.2.length = 256
theorem settle_pages {l : List (Int × List UInt8)} {at_ : Int} {o : Option (List UInt8)} {keep : Int} (h : pagesOK l) (ho : ∀ b, o = some b → b.length = 256) : pagesOK (settleM l at_ o keep) := by
  have hdel : pagesOK (delM l at_) := ⟨nodup_del h.1, fun p hp => h.2 p ((del_sub l at_).subset hp)⟩
  unfold settleM
  cases o with
  | none => simp only; split <;> assumption
  | some b =>
    simp only
    split
    · exact h
    · split
      · exact hdel
      · refine ⟨nodup_upd h.1, fun p hp => ?_⟩
        rcases mem_upd hp with rfl | hp
        · have hb := ho b rfl
          have hpl : (pageOr l at_).length = 256 := by
            unfold pageOr
            cases hf : findM l at_ with
            | none => simp [z256]
            | some w => exact h.2 _ (mem_find hf)
          simp only [List.length_append, List.length_take, List.length_drop, hb, hpl]
          omega
        · exact h.2 p hp
def settleAll (l : List (Int × List UInt8)) (ls : List (Int × Option (List UInt8))) : List (Int × List UInt8) := ls.foldl (fun m p => settleM m p.1 p.2 256) l
theorem settleAll_pages : ∀ {ls : List (Int × Option (List UInt8))} {l : List (Int × List UInt8)}, pagesOK l → (∀ p ∈ ls, ∀ b, p.2 = some b → b.length = 256) → pagesOK (settleAll l ls)
  | [], _, h, _ => h
  | p :: ls, l, h, hl => settleAll_pages (ls := ls) (settle_pages h (hl p (by simp))) fun q hq => hl q (by simp [hq])

section
variable {f : Nat} {s : Fl} {D : List HP}
theorem loose_box {g : G} {B : Nat → Prop} {mb : Nat} {av : Option Addr} {cv : Nat} {L : List HP} {c : List AV} {es : List (Value × AV)} (how : Own 173 2 (looseAV s.loose).flatten s.loose.length (.slice av s.loose.length cv) L)
    (sm : Sim g B (.box f 171 c :: .map mb es :: L)) : s.loose = [] ∨ ∃ b sp, av = some ⟨b, 0, none⟩ ∧ f ≠ b ∧ b ≠ f ∧ L = [.box b 173 ((looseAV s.loose).flatten ++ sp)] ∧ s.loose.length ≤ cv := by
  have hrl : (looseAV s.loose).length = s.loose.length := by simp [looseAV]
  rcases own_at how hrl with ⟨h, _, _⟩ | ⟨b, cap, sp, h, rfl, h2⟩
  · exact .inl (List.eq_nil_of_length_eq_zero (by rw [← hrl, h]; rfl))
  · obtain ⟨B1, h1, ⟨h3, _⟩, B2, h4, _, B3, h5, ⟨h6, _⟩, _⟩ := sm.sep
    have hne : f ≠ b := by rintro rfl; exact (h5 _ h6).1.2 h3
    simp only [Value.slice.injEq] at h
    exact .inr ⟨b, sp, h.1, hne, Ne.symm hne, rfl, by rw [h.2.2]; omega⟩

theorem burnS_loose (s : Fl) : (burnS s).loose = s.loose := by unfold burnS; split <;> rfl
theorem burnS_safe (s : Fl) : (burnS s).safe = s.safe := by unfold burnS; split <;> rfl
theorem burnS_pages (s : Fl) : (burnS s).pages = s.pages := by unfold burnS; split <;> rfl

def flushC (s : Fl) : Int := if s.down = true then 11 else if burnB s then 11 else 0
def flushS (s : Fl) : Fl := if s.down = true then s else if burnB s then burnS s else { burnS s with safe := settleAll s.safe s.loose, loose := [] }
theorem flush_ok (h : OwnF f s D) (hw : s.WF) : ACalls Tryz.prog 124 [ptr f] D (fun r D' => ∃ e, r = .ret e ∧ IsErr e (flushC s) ∧ (flushC s = 0 → e = .c .nilIface) ∧ OwnF f (flushS s) D') := by
  cases hd : s.down with
  | true =>
    have hC : flushC s = 11 := by unfold flushC; rw [if_pos hd]
    have hS : flushS s = s := by unfold flushS; rw [if_pos hd]
    obtain ⟨mb, v, L, how, rfl⟩ := h
    obtain ⟨av, cv, rfl⟩ := how.slice
    refine calls_of_J cl_124 Tryz.func124 rfl (by simp [Tryz.ntmps124]) ?_
    refine jf (own := []) hd (h := ?_)
    refine jt (h := ?_)
    refine jr (own := []) (h := ?_)
    refine jc (hs := newS_ok _ _ _) (hk := ?_)
    refine jr (own := []) (h := ?_)
    refine jret Tryz.func124 (h := ⟨_, rfl, by rw [hC]; exact errNew_is _ _ _, by rw [hC]; intro h; exact absurd h (by decide), by rw [hS]; exact ⟨mb, _, L, how, by simp only [flCells, hd]⟩⟩)
  | false =>
    have h' := h
    obtain ⟨mb, v, L, how, rfl⟩ := h'
    refine calls_of_J cl_124 Tryz.func124 rfl (by simp [Tryz.ntmps124]) ?_
    refine jf (own := []) hd (h := ?_)
    refine jn (h := ?_)
    refine jr (own := []) (h := ?_)
    refine jcs (Fr := []) (hs := (burns_ok h hw.w)) (hp := (by simp [flCells, hd])) (hk := ?_) (hpan := (by rintro x Δ' ⟨e, _⟩; cases e))
    rintro x D1 ⟨e, hO⟩
    cases e
    rw [List.append_nil]
    clear h how
    obtain ⟨mb, v, L, how, rfl⟩ := hO
    obtain ⟨av, cv, rfl⟩ := how.slice
    cases hb : burnB s with
    | true =>
      have hC : flushC s = 11 := by unfold flushC; rw [if_neg (by simp [hd]), hb]; rfl
      have hS : flushS s = burnS s := by unfold flushS; rw [if_neg (by simp [hd]), hb]; rfl
      refine jr (own := []) (h := ?_)
      refine jt (h := ?_)
      refine jr (own := []) (h := ?_)
      refine jc (hs := newS_ok _ _ _) (hk := ?_)
      refine jr (own := []) (h := ?_)
      refine jret Tryz.func124 (h := ⟨_, rfl, by rw [hC]; exact errNew_is _ _ _, by rw [hC]; intro h; exact absurd h (by decide), by rw [hS]; exact ⟨mb, _, L, how, rfl⟩⟩)
    | false =>
      have hC : flushC s = 0 := by unfold flushC; rw [if_neg (by simp [hd]), hb]; rfl
      have hS : flushS s = { burnS s with safe := settleAll s.safe s.loose, loose := [] } := by unfold flushS; rw [if_neg (by simp [hd]), hb]; rfl
      refine J_have _ (fun g B sm => loose_box how sm) (fun hbox => ?_)
      have q1 := burnS_loose s
      have q2 := burnS_safe s
      have hwp : pagesOK s.safe := ⟨hw.nodup, hw.page⟩
      have hwl := hw.lpage
      have hlen := hw.len
      rw [← q2] at hwp
      rw [← q1] at hwl hlen
      rw [hS, ← q1, ← q2]
      generalize burnS s = s1 at *
      refine jr (own := []) (h := ?_)
      refine jn (h := ?_)
      refine jr (own := []) (h := ?_)
      refine jk [0, 26, 27, 28] (h := ?_)
      refine J_loopI (I := fun m e D => ∃ i : Nat, i ≤ s1.loose.length ∧ m = s1.loose.length - i ∧ D = .box f 171 (flCells s1 mb (.slice av s1.loose.length cv)) :: .map mb (mi kI (safeAV (settleAll s1.safe (s1.loose.take i)))) :: L ∧ e = [(0, ptr f), (26, .c (.slice av s1.loose.length cv)), (27, .c (.int .i64 s1.loose.length)), (28, .c (.int .i64 i))]) ?_ ?_
      · exact ⟨_, 0, Nat.zero_le _, rfl, rfl, rfl⟩
      · rintro m e D ⟨i, hi, rfl, rfl, rfl⟩ ih
        refine jr (own := []) (h := ?_)
        refine jif (h1 := fun hc => ?_) (h2 := fun hc => ?_)
        · have hlt : i < s1.loose.length := by omega
          have g0 := List.getElem?_eq_getElem hlt
          have h0 : (0 : Int) ≤ (i : Int) := by omega
          rcases hbox with h | ⟨b, sp, rfl, hne, hne', rfl, hcap⟩
          · rw [h] at hlt; simp at hlt
          have gr : (looseAV s1.loose)[i]? = some (looseRow s1.loose[i]) := by unfold looseAV; rw [List.getElem?_map, g0]; rfl
          have hgr := get_row (s := 2) (sp := sp) (row_len _) gr
          generalize hcells : (looseAV s1.loose).flatten ++ sp = cells at *
          generalize ((looseAV s1.loose).drop (i + 1)).flatten ++ sp = rest at hgr
          have hgr' : cells.drop (i * 2) = .c (.int .i64 s1.loose[i].1) :: optAV s1.loose[i].2 :: rest := hgr
          have h22 : (2 ≤ rest.length + 1 + 1) = True := by simp
          refine J_mrun (own := [4]) (m := 2000) (by simp (maxSteps := 2000000) (disch := omega) only [go_sem, ↓reduceIte, Int.reduceLT, Int.reduceLE, Int.reduceToNat, Int.reducePow, Int.reduceNeg, Nat.reduceBEq, Tryz.ntmps124, hgr', h22, hne, hne', List.length_cons, List.take_succ_cons, List.take_zero] <;> with_reducible rfl) ?_
          refine jnv (hh := fun b4 hb4 => ?_)
          simp only [fresh] at hb4
          refine jf (own := []) hb4 (h := ?_)
          have hpg := settleAll_pages (ls := s1.loose.take i) hwp (fun p hp => hwl p (List.take_subset _ _ hp))
          have hst : settleM (settleAll s1.safe (s1.loose.take i)) s1.loose[i].1 s1.loose[i].2 256 = settleAll s1.safe (s1.loose.take (i + 1)) := by
            unfold settleAll; rw [List.take_add_one, g0, List.foldl_append]; rfl
          refine jcs (Δ1 := _ :: _ :: [_]) (Fr := [_]) (hs := (settle_at (s := { s1 with safe := settleAll s1.safe (s1.loose.take i) }) how hpg.2 s1.loose[i].1 s1.loose[i].2 256 (hwl _ (List.getElem_mem hlt)))) (hp := (List.perm_append_comm (l₁ := [_]))) (hk := ?_) (hpan := (by rintro x Δ' ⟨⟨y, e⟩, _⟩; cases e))
          rintro x Δ' ⟨⟨y, e⟩, rfl⟩
          cases e
          refine J_perm (List.perm_append_comm (l₂ := [_])) (J_drop ?_)
          refine jr (own := []) (h := ?_)
          refine jk [0, 26, 27, 28] (h := ?_)
          refine ih _ _ _ ?_ ⟨i + 1, by omega, rfl, ?_, rfl⟩
          · omega
          · rw [← hst]; rfl
        · have hi' : i = s1.loose.length := by omega
          subst hi'
          rw [List.take_length]
          refine jr (own := []) (h := ?_)
          refine J_forgetP ?_
          refine jret Tryz.func124 (h := ⟨L, [_, _], List.perm_append_comm (l₁ := [_, _]), _, rfl, by rw [hC]; exact .none, fun _ => rfl, mb, .slice none 0 0, [], .nil none rfl rfl, rfl⟩)

def settleKeep (l : List (Int × List UInt8)) : List (Int × Option (List UInt8)) → List Int → List (Int × List UInt8)
  | p :: ls, k :: ks => settleKeep (settleM l p.1 p.2 k) ls ks
  | _, _ => l
theorem settleKeep_pages : ∀ {ls : List (Int × Option (List UInt8))} {ks : List Int} {l : List (Int × List UInt8)}, pagesOK l → (∀ p ∈ ls, ∀ b, p.2 = some b → b.length = 256) → pagesOK (settleKeep l ls ks)
  | [], _, _, h, _ => h
  | p :: ls, [], l, h, hl => h
  | p :: ls, k :: ks, l, h, hl => settleKeep_pages (ls := ls) (settle_pages h (hl p (by simp))) fun q hq => hl q (by simp [hq])
theorem settleKeep_take : ∀ {ls : List (Int × Option (List UInt8))} {ks : List Int} {l : List (Int × List UInt8)} {i : Nat} {p : Int × Option (List UInt8)} {k : Int}, ls[i]? = some p → ks[i]? = some k →
    settleKeep l (ls.take (i + 1)) ks = settleM (settleKeep l (ls.take i) ks) p.1 p.2 k
  | [], _, _, _, _, _, h, _ => by simp at h
  | _ :: _, [], _, _, _, _, _, h => by simp at h
  | q :: ls, k' :: ks, l, 0, p, k, h1, h2 => by
    simp at h1 h2; subst h1 h2
    cases ls <;> simp [settleKeep]
  | q :: ls, k' :: ks, l, i + 1, p, k, h1, h2 => by
    simp only [List.take_succ_cons, settleKeep]
    exact settleKeep_take (by simpa using h1) (by simpa using h2)
theorem settleKeep_stop : ∀ {ls : List (Int × Option (List UInt8))} {ks : List Int} {l : List (Int × List UInt8)} {i : Nat}, ks.length ≤ i → settleKeep l (ls.take (i + 1)) ks = settleKeep l (ls.take i) ks
  | [], ks, l, i, h => by simp
  | q :: ls, [], l, i, h => by cases i <;> simp [settleKeep]
  | q :: ls, k :: ks, l, 0, h => by simp at h
  | q :: ls, k :: ks, l, i + 1, h => by
    simp only [List.take_succ_cons, settleKeep]
    exact settleKeep_stop (by simpa using h)

def intRows (l : List Int) : List (List AV) := l.map fun n => [.c (.int .i64 n)]
theorem intRows_len (l : List Int) : (intRows l).length = l.length := by simp [intRows]
theorem int_get {l : List Int} {i : Nat} {n : Int} (h : l[i]? = some n) : (intRows l)[i]? = some [.c (.int .i64 n)] := by simp [intRows, h]
attribute [local go_sem] intRows_len

def crashS (s : Fl) (keep : List Int) : Fl := { s with safe := settleKeep s.safe s.loose keep, loose := [], down := false, fuse := -1 }
theorem crash_ok (h : OwnF f s D) (hw : s.WF) (keep : List Int) (hk : keep.length < 2 ^ 37) : ACalls Tryz.prog 29 [ptr f, .sl 1 (intRows keep)] D (fun r D' => r = .ret (.tup []) ∧ OwnF f (crashS s keep) D') := by
  obtain ⟨mb, v, L, how, rfl⟩ := h
  obtain ⟨av, cv, rfl⟩ := how.slice
  have hwp : pagesOK s.safe := ⟨hw.nodup, hw.page⟩
  have hwl := hw.lpage
  have hlen := hw.len
  refine calls_of_J cl_29 Tryz.func29 rfl (by simp [Tryz.ntmps29]) ?_
  refine J_have _ (fun g B sm => loose_box how sm) (fun hbox => ?_)
  refine jr (own := []) (h := ?_)
  refine jk [0, 1, 9, 10, 11] (h := ?_)
  refine J_loopI (I := fun m e D => ∃ i : Nat, i ≤ s.loose.length ∧ m = s.loose.length - i ∧ D = .box f 171 (flCells s mb (.slice av s.loose.length cv)) :: .map mb (mi kI (safeAV (settleKeep s.safe (s.loose.take i) keep))) :: L ∧ e = [(0, ptr f), (1, .sl 1 (intRows keep)), (9, .c (.slice av s.loose.length cv)), (10, .c (.int .i64 s.loose.length)), (11, .c (.int .i64 i))]) ?_ ?_
  · exact ⟨_, 0, Nat.zero_le _, rfl, by cases keep <;> rfl, rfl⟩
  · rintro m e D ⟨i, hi, rfl, rfl, rfl⟩ ih
    refine jr (own := []) (h := ?_)
    refine jif (h1 := fun hc => ?_) (h2 := fun hc => ?_)
    · have hlt : i < s.loose.length := by omega
      have g0 := List.getElem?_eq_getElem hlt
      have h0 : (0 : Int) ≤ (i : Int) := by omega
      rcases hbox with h | ⟨b, sp, rfl, hne, hne', rfl, hcap⟩
      · rw [h] at hlt; simp at hlt
      have gr : (looseAV s.loose)[i]? = some (looseRow s.loose[i]) := by unfold looseAV; rw [List.getElem?_map, g0]; rfl
      have hgr := get_row (s := 2) (sp := sp) (row_len _) gr
      generalize hcells : (looseAV s.loose).flatten ++ sp = cells at *
      generalize ((looseAV s.loose).drop (i + 1)).flatten ++ sp = rest at hgr
      have hgr' : cells.drop (i * 2) = .c (.int .i64 s.loose[i].1) :: optAV s.loose[i].2 :: rest := hgr
      have h22 : (2 ≤ rest.length + 1 + 1) = True := by simp
      refine J_mrun (own := [5]) (m := 2000) (by simp (maxSteps := 2000000) (disch := omega) only [go_sem, ↓reduceIte, Int.reduceLT, Int.reduceLE, Int.reduceToNat, Int.reducePow, Int.reduceNeg, Nat.reduceBEq, Tryz.ntmps29, hgr', h22, hne, hne', List.length_cons, List.take_succ_cons, List.take_zero] <;> with_reducible rfl) ?_
      refine jnv (hh := fun b5 hb5 => ?_)
      simp only [fresh] at hb5
      refine jf (own := []) hb5 (h := ?_)
      refine jif (h1 := fun hki => ?_) (h2 := fun hki => ?_)
      · have hki' : i < keep.length := by omega
        have gk := List.getElem?_eq_getElem hki'
        have gk1 := int_get gk
        have hpg := settleKeep_pages (ls := s.loose.take i) (ks := keep) hwp (fun p hp => hwl p (List.take_subset _ _ hp))
        have hst := settleKeep_take (l := s.safe) g0 gk
        refine jr (own := []) (h := ?_)
        refine jd [(0, .pure), (1, .read), (2, .pure), (3, .pure), (4, .pure), (5, .pure), (6, .act)] mixed (by kernel_rfl) ?_
        refine Can_run (own := []) (by simp (maxSteps := 2000000) (disch := omega) only [go_sem, ↓reduceIte, Int.reduceLT, Int.reduceLE, Int.reduceToNat, Int.reducePow, Int.reduceNeg, Nat.reduceBEq, Tryz.ntmps29, gk1] <;> with_reducible rfl) ?_
        refine ccs (Δ1 := _ :: _ :: [_]) (Fr := [_]) (hs := (settle_at (s := { s with safe := settleKeep s.safe (s.loose.take i) keep }) how hpg.2 s.loose[i].1 s.loose[i].2 keep[i] (hwl _ (List.getElem_mem hlt)))) (hp := (List.perm_append_comm (l₁ := [_]))) (hk := ?_) (hn := (by rintro x Δ' ⟨⟨y, e⟩, _⟩; cases e))
        rintro x Δ' ⟨⟨y, e⟩, rfl⟩
        cases e
        refine cr (own := []) (hk := ?_)
        refine Can_nil ?_
        refine J_perm (List.perm_append_comm (l₁ := [_, _, _]) (l₂ := [_])) (J_drop ?_)
        refine jr (own := []) (h := ?_)
        refine jk [0, 1, 9, 10, 11] (h := ?_)
        refine ih _ _ _ ?_ ⟨i + 1, by omega, rfl, ?_, rfl⟩
        · omega
        · rw [hst]; rfl
      · have hst := settleKeep_stop (ls := s.loose) (ks := keep) (l := s.safe) (i := i) (by omega)
        refine jr (own := []) (h := ?_)
        refine J_drop ?_
        refine jk [0, 1, 9, 10, 11] (h := ?_)
        refine ih _ _ _ ?_ ⟨i + 1, by omega, rfl, ?_, rfl⟩
        · omega
        · rw [hst]; rfl
    · have hi' : i = s.loose.length := by omega
      subst hi'
      rw [List.take_length]
      refine jr (own := []) (h := ?_)
      refine J_forgetP ?_
      refine J_end Tryz.func29 (xs := []) (by rfl) ⟨L, [_, _], List.perm_append_comm (l₁ := [_, _]), rfl, mb, .slice none 0 0, [], .nil none rfl rfl, rfl⟩
end
end Go.Proofs.YtlmahffjidgplaaGreatDoor
end

section
namespace Go.Proofs.YtlmahffjidgplaaGreatDoor
open Go Go.Av
set_option linter.unusedVariables false
set_option linter.unusedSimpArgs false
set_option maxRecDepth 100000
set_option maxHeartbeats 4000000
attribute [local go_sem] packed List.set_cons_zero List.set_cons_succ List.cons_append List.nil_append bytesRows_length

/-! ### A map's keys, sorted -/
theorem mclone_ok (mb : Nat) (es : List (Value × AV)) : ACalls Tryz.prog 135 [.c (.map (some mb))] [.map mb es] (fun r Δ => ∃ b, r = .ret (.c (.map (some b))) ∧ Δ = [.map b es, .map mb es]) := by
  refine calls_of_J cl_135 Tryz.func135 rfl (by simp [Tryz.ntmps135]) ?_
  refine jr (own := []) (h := ?_)
  refine jn (h := ?_)
  refine jr (own := []) (h := ?_)
  refine J_xop (by simp only [go_sem, Tryz.ntmps135] <;> with_reducible rfl) (clone_x Tryz.func189 (by decide) (by rfl) (by rfl) (by rfl) (by simp only [go_sem] <;> rfl)) ?_
  rintro _ _ ⟨b, hb, rfl, rfl⟩
  refine jr (own := []) (h := ?_)
  refine jret Tryz.func135 (h := ⟨b, rfl, rfl⟩)

theorem keys_ok (mb : Nat) : ACalls Tryz.prog 137 [.c (.map (some mb))] [] (Ret (.fn (.func 192) [] [.fp [.c (.map (some mb))]])) := by
  refine calls_of_J cl_137 Tryz.func137 rfl (by simp [Tryz.ntmps137]) ?_
  refine jr (own := []) (h := ?_)
  refine jret Tryz.func137 (h := ⟨rfl, rfl⟩)

def keyOf (m : MapEntry) : Int := match m.key with
  | .int _ n => n
  | _ => 0

theorem keys1_ok {l mb : Nat} {L : List (Int × AV)} {D0 : List HP} (I : List Int → List HP → Prop) (h0 : I [] D0)
    (hy : ∀ pre k D, pre.length < L.length → I pre D → AYields Tryz.prog l [.c (.int .i64 k)] D (fun x D' => x = .ret (.c (.bool true)) ∧ I (pre ++ [k]) D')) :
    ACalls Tryz.prog 192 [.fn (.yield l) [] [], .fp [.c (.map (some mb))]] (.map mb (mi kI L) :: D0) (fun r D' => ∃ y pre D1, r = .ret y ∧ pre.Perm (L.map (·.1)) ∧ I pre D1 ∧ D' = .map mb (mi kI L) :: D1) := by
  refine calls_of_J cl_192 Tryz.func192 rfl (by simp [Tryz.ntmps192]) ?_
  refine J_openmap (fun ms clock hkey hb hn => ?_)
  have hlen : ms.length = L.length := by
    have := congrArg List.length hkey
    simpa [mi] using this
  have hk1 : ms.map keyOf = L.map (·.1) := by
    have := congrArg (List.map fun v : Value => match v with | .int _ n => n | _ => 0) hkey
    simp only [List.map_map, mi] at this
    exact this
  have hk2 : ∀ m ∈ ms, m.key = .int .i64 (keyOf m) := by
    intro m hm
    have : m.key ∈ (mi kI L).map (·.1) := by rw [← hkey]; exact List.mem_map.2 ⟨m, hm, rfl⟩
    simp only [mi, List.map_map, List.mem_map, Function.comp] at this
    obtain ⟨p, _, hp⟩ := this
    unfold keyOf
    rw [← hp]; rfl
  refine jr (own := []) (h := ?_)
  refine jop (ho := rfl) (hh := range_op rfl Tryz.underlying168 (by simp only [go_sem] <;> rfl)) (hk := ?_)
  rintro _ _ ⟨b, rfl, rfl⟩
  refine jr (own := []) (h := ?_)
  refine jk [0, 5] (h := ?_)
  refine J_loopI (I := fun m e D => ∃ (pre rest : List MapEntry) (D1 : List HP), (pre ++ rest).Perm ms ∧ m = rest.length ∧ I (pre.map keyOf) D1 ∧ D = HP.obj b (.mapIter (some mb) clock (pre.map (·.born)).toArray clock) :: HP.obj mb (.map ms.toArray clock) :: HP.relm (mi kI L) ms :: D1 ∧ e = [(0, .fn (.yield l) [] []), (5, ptr b)]) ?_ ?_
  · exact ⟨_, [], ms, D0, List.Perm.refl _, rfl, h0, rfl, rfl⟩
  · rintro m e D ⟨pre, rest, D1, hp, rfl, hI, rfl, rfl⟩ ih
    refine jr (own := []) (h := ?_)
    refine jop (ho := rfl) (hh := next_op rfl (by simp only [go_sem] <;> rfl) hb hn hp) (hk := ?_)
    rintro y D' (⟨hr, rfl, rfl⟩ | ⟨m, rest', hp', rfl, rfl⟩)
    · subst hr
      rw [List.append_nil] at hp
      refine jr (own := []) (h := ?_)
      refine jn (h := ?_)
      refine jr (own := []) (h := ?_)
      refine J_drop (J_shutmap hb hn ?_)
      refine J_end Tryz.func192 (xs := []) (by rfl) ⟨_, pre.map keyOf, D1, rfl, by rw [← hk1]; exact hp.map _, hI, rfl⟩
    · have hm : m ∈ ms := hp'.mem_iff.1 (by simp)
      have hl1 := hp'.length_eq
      have hl2 := hp.length_eq
      simp only [List.length_append, List.length_cons, List.length_nil] at hl1 hl2
      refine jr (own := []) (h := ?_)
      refine jt (h := ?_)
      refine jr (own := []) (h := ?_)
      refine jop (ho := rfl) (hh := entry_op rfl (by simp only [go_sem] <;> rfl) hn hp') (hk := ?_)
      rintro _ _ ⟨rfl, rfl⟩
      rw [hk2 m hm]
      refine jr (own := []) (h := ?_)
      refine J_yield rfl (by simp only [go_sem, ↓reduceIte, Int.reduceLT, Int.reduceLE, Int.reduceToNat, Int.reducePow, Int.reduceNeg, Nat.reduceBEq, Tryz.ntmps192] <;> rfl) (by simp only [go_sem, ↓reduceIte, Int.reduceLT, Int.reduceLE, Int.reduceToNat, Int.reducePow, Int.reduceNeg, Nat.reduceBEq] <;> rfl) (by simp only [go_sem, ↓reduceIte, Int.reduceLT, Int.reduceLE, Int.reduceToNat, Int.reducePow, Int.reduceNeg, Nat.reduceBEq] <;> rfl) ((hy (pre.map keyOf) (keyOf m) D1 (by rw [List.length_map]; omega) hI).under (Fr := [_, _, _]) (List.perm_append_comm (l₁ := [_, _, _]))) ?_
      rintro x D' ⟨D2, rfl, e, hI2⟩
      cases e
      refine jr (own := []) (h := ?_)
      refine jn (h := ?_)
      refine jr (own := []) (h := ?_)
      refine jk [0, 5] (h := ?_)
      refine J_perm List.perm_append_comm (ih _ _ _ ?_ ⟨pre ++ [m], rest', D2, hp', rfl, ?_, rfl, rfl⟩)
      · omega
      · rw [List.map_append]; exact hI2

theorem perm5 (a b c d m : HP) (L : List HP) : (m :: a :: b :: c :: d :: L).Perm (a :: c :: b :: d :: (L ++ [m])) :=
  (List.perm_append_comm (l₁ := [m]) (l₂ := a :: b :: c :: d :: L)).trans (show (a :: b :: c :: d :: (L ++ [m])).Perm _ from .cons _ (.swap _ _ _))

theorem appendSeq_ok (mb : Nat) (L : List (Int × AV)) (hL : L.length < 2 ^ 36) : ACalls Tryz.prog 219 [.c (.slice none 0 0), .fn (.func 192) [] [.fp [.c (.map (some mb))]]] [.map mb (mi kI L)]
    (fun r Δ => ∃ v pre D, r = .ret (.c v) ∧ pre.Perm (L.map (·.1)) ∧ Own 3 1 (intCells pre) pre.length v D ∧ Δ = .map mb (mi kI L) :: D) := by
  refine calls_of_J cl_219 Tryz.func219 rfl (by simp [Tryz.ntmps219]) ?_
  refine jr (own := [2]) (h := ?_)
  refine jnb (hh := fun b2 hb2 => ?_)
  refine jr (own := []) (h := ?_)
  refine jk [2, 6] (h := ?_)
  refine J_rangeFunc' (ps := [7]) (by simp only [go_sem] <;> rfl) cl_192 (fun l r q hl hr q1 q2 q3 q4 q5 q6 => ?_)
  refine ⟨_, (keys1_ok (D0 := [_, _, _, _]) (I := fun pre D => ∃ v L', Own 3 1 (intCells pre) pre.length v L' ∧ D = HP.obj l (.loop q) :: HP.envp Tryz.f219.ntmps [(2, ptr b2), (6, .fn (.func 192) [] [.fp [.c (.map (some mb))]])] q.tmps :: HP.obj r (.deferred (some [])) :: .box b2 66 [.c v] :: L') ⟨_, [], .nil none rfl rfl, rfl⟩ ?_).perm (List.perm_append_comm (l₁ := [_, _, _, _]) (l₂ := [_])), ?_⟩
  · rintro pre k D hpl ⟨v, L', how, rfl⟩
    refine yields_J' (f := 219) (ps := [7]) q1 q2 q4 q5 q6 rfl (by simp [Tryz.ntmps219]) q3 ⟨_, Tryz.func219⟩ ?_
    obtain ⟨a, c, rfl⟩ := how.slice
    refine jr (own := []) (h := ?_)
    refine J_beginRound q1 ?_
    refine jr (own := [11]) (h := ?_)
    refine jap (Fr := [_, _, _, _]) (how := how) (hp := (List.Perm.refl _)) (hsrc := (by simp only [go_sem, srcOf] <;> rfl)) (hc := (by rfl)) (hmax := (by omega)) (hk := ?_)
    rintro _ _ ⟨v2, L2, rfl, rfl, how2⟩
    obtain ⟨a2, c2, rfl⟩ := how2.slice
    refine jr (own := []) (h := ?_)
    refine JR_end ?_
    refine ⟨_, List.Perm.refl _, .inl ⟨rfl, rfl, _, L2, ?_, rfl⟩⟩
    simpa [intCells] using how2
  · rintro x Δ' ⟨y, pre, D1, rfl, hperm, ⟨v, L', how, rfl⟩, rfl⟩
    obtain ⟨a, c, rfl⟩ := how.slice
    refine ⟨y, q, HP.envp _ _ _ :: .box b2 66 [.c (.slice a pre.length c)] :: (L' ++ [.map mb (mi kI L)]), rfl, by rw [q1]; decide, perm5 _ _ _ _ _ _, ?_⟩
    refine J_perm (List.Perm.swap _ _ _) (J_drop ?_)
    rw [q2]
    simp only [Option.map_none, Option.toList_none, List.nil_append]
    refine jr (own := []) (h := ?_)
    refine J_forgetP ?_
    refine JM_ret Tryz.func219 (by simp only [go_sem, ↓reduceIte, Int.reduceLT, Int.reduceLE, Int.reduceToNat, Int.reducePow, Int.reduceNeg, Nat.reduceBEq, Tryz.f219] <;> first | with_reducible rfl | rfl) ⟨[_], _, List.Perm.cons _ List.perm_append_comm, _, pre, L', rfl, hperm, how, rfl⟩

theorem collect_ok (mb : Nat) (L : List (Int × AV)) (hL : L.length < 2 ^ 36) : ACalls Tryz.prog 190 [.fn (.func 192) [] [.fp [.c (.map (some mb))]]] [.map mb (mi kI L)]
    (fun r Δ => ∃ v pre D, r = .ret (.c v) ∧ pre.Perm (L.map (·.1)) ∧ Own 3 1 (intCells pre) pre.length v D ∧ Δ = .map mb (mi kI L) :: D) := by
  refine calls_of_J cl_190 Tryz.func190 rfl (by simp [Tryz.ntmps190]) ?_
  refine jr (own := []) (h := ?_)
  refine jcs (Fr := []) (hs := (appendSeq_ok mb L hL)) (hp := (by simp)) (hk := ?_) (hpan := (by rintro x Δ' ⟨v, pre, D, e, _⟩; cases e))
  rintro x Δ' ⟨v, pre, D, e, hp, how, rfl⟩
  cases e
  rw [List.append_nil]
  refine jr (own := []) (h := ?_)
  refine jret Tryz.func190 (h := ⟨v, pre, D, rfl, hp, how, rfl⟩)

theorem sort_ok {zs : List Int} {v : Value} {D : List HP} (how : Own 3 1 (intCells zs) zs.length v D) (hsz : zs.length < 4611686018427387904) :
    ACalls Tryz.prog 191 [.c v] D (fun r Δ => r = .ret (.tup []) ∧ Own 3 1 (intCells (sortInts zs)) zs.length v Δ) :=
  sort_acalls (ρ := sortA_ren) sortA (by kernel_rfl) how hsz

theorem sorted_ok (mb : Nat) (L : List (Int × AV)) (hL : L.length < 2 ^ 36) : ACalls Tryz.prog 136 [.fn (.func 192) [] [.fp [.c (.map (some mb))]]] [.map mb (mi kI L)]
    (fun r Δ => ∃ v pre D, r = .ret (.c v) ∧ pre.Perm (L.map (·.1)) ∧ Own 3 1 (intCells (sortInts pre)) pre.length v D ∧ Δ = D ++ [.map mb (mi kI L)]) := by
  refine calls_of_J cl_136 Tryz.func136 rfl (by simp [Tryz.ntmps136]) ?_
  refine jr (own := []) (h := ?_)
  refine jcs (Fr := []) (hs := (collect_ok mb L hL)) (hp := (by simp)) (hk := ?_) (hpan := (by rintro x Δ' ⟨v, pre, D, e, _⟩; cases e))
  rintro x Δ' ⟨v, pre, D, e, hp, how, rfl⟩
  cases e
  rw [List.append_nil]
  have hpl := hp.length_eq
  rw [List.length_map] at hpl
  refine jr (own := []) (h := ?_)
  refine jcs (Δ1 := D) (Fr := [_]) (hs := (sort_ok how (by omega))) (hp := (List.perm_append_comm (l₁ := [_]))) (hk := ?_) (hpan := (by rintro x Δ' ⟨e, _⟩; cases e))
  rintro x D2 ⟨e, how2⟩
  cases e
  refine jr (own := []) (h := ?_)
  refine jret Tryz.func136 (h := ⟨v, pre, D2, rfl, hp, how2, rfl⟩)
end Go.Proofs.YtlmahffjidgplaaGreatDoor
end

section
namespace Go.Proofs.YtlmahffjidgplaaGreatDoor
open Go Go.Av
set_option linter.unusedVariables false
set_option linter.unusedSimpArgs false
set_option maxRecDepth 100000
set_option maxHeartbeats 4000000
attribute [local go_sem] packed List.set_cons_zero List.set_cons_succ List.cons_append List.nil_append bytesRows_length flCells intRows_len
attribute [-go_sem] cellsOf AV.isCell
attribute [local go_sem] cellsOf_agg cellsOf_int cellsOf_bool cellsOf_str cellsOf_map cellsOf_ptr cellsOf_nilI cellsOf_slice cellsOf_sl cellsOf_ifc cellsOf_fp cellsOf_opt optAV_cell icell_int icell_bool icell_str icell_map icell_ptr icell_nilI icell_slice icell_sl icell_ifc icell_fp

/-! ### What a device holds -/
def cellRow (p : Int × List UInt8) : List AV := [.c (.int .i64 p.1), .sl 1 (bytesRows p.2)]
def cellRows (l : List (Int × List UInt8)) : List (List AV) := l.map cellRow
theorem cellRows_len (l : List (Int × List UInt8)) : (cellRows l).length = l.length := by simp [cellRows]
theorem cellRows_row (l : List (Int × List UInt8)) : ∀ r ∈ cellRows l, r.length = 2 := by
  intro r hr
  obtain ⟨p, _, rfl⟩ := List.mem_map.1 hr
  rfl
def nilAV : AV := .c (.slice none 0 0)
def addLoose (m : List (Int × AV)) (ls : List (Int × Option (List UInt8))) : List (Int × AV) := ls.foldl (fun m p => updM m p.1 nilAV) m
theorem addLoose_nodup : ∀ {ls : List (Int × Option (List UInt8))} {m : List (Int × AV)}, (m.map (·.1)).Nodup → ((addLoose m ls).map (·.1)).Nodup
  | [], _, h => h
  | p :: ls, m, h => addLoose_nodup (ls := ls) (nodup_upd h)
theorem addLoose_mem {k : Int} : ∀ {ls : List (Int × Option (List UInt8))} {m : List (Int × AV)}, k ∈ (addLoose m ls).map (·.1) ↔ k ∈ m.map (·.1) ∨ k ∈ ls.map (·.1)
  | [], m => by simp [addLoose]
  | p :: ls, m => by
    have ih := addLoose_mem (k := k) (ls := ls) (m := updM m p.1 nilAV)
    have e : addLoose m (p :: ls) = addLoose (updM m p.1 nilAV) ls := rfl
    rw [e, ih, keys_upd]
    by_cases hm : p.1 ∈ m.map (·.1)
    · rw [if_pos hm, List.map_cons, List.mem_cons]
      constructor
      · rintro (h | h)
        · exact .inl h
        · exact .inr (.inr h)
      · rintro (h | rfl | h)
        · exact .inl h
        · exact .inl hm
        · exact .inr h
    · rw [if_neg hm, List.map_cons, List.mem_cons, List.mem_append, List.mem_singleton]
      constructor
      · rintro ((h | h) | h)
        · exact .inl h
        · exact .inr (.inl h)
        · exact .inr (.inr h)
      · rintro (h | h | h)
        · exact .inl (.inl h)
        · exact .inl (.inr h)
        · exact .inr h
theorem addLoose_len : ∀ {ls : List (Int × Option (List UInt8))} {m : List (Int × AV)}, (addLoose m ls).length ≤ m.length + ls.length
  | [], m => by simp [addLoose]
  | p :: ls, m => by
    have ih := addLoose_len (ls := ls) (m := updM m p.1 nilAV)
    have e : addLoose m (p :: ls) = addLoose (updM m p.1 nilAV) ls := rfl
    have h1 : (updM m p.1 nilAV).length ≤ m.length + 1 := by
      have := congrArg List.length (keys_upd m p.1 nilAV)
      rw [List.length_map] at this
      rw [this]; split <;> simp
    rw [e, List.length_cons]; omega

theorem sortInts_lt {l : List Int} (h : l.Nodup) : (sortInts l).Pairwise (· < ·) := by
  have h1 : (sortInts l).Pairwise (fun x y => decide (x ≤ y) = true) := List.pairwise_mergeSort (fun a b c h1 h2 => by simp at *; omega) (fun a b => by simp; omega) l
  have h2 : (sortInts l).Nodup := (List.mergeSort_perm l _).nodup_iff.2 h
  have h3 := h1.and h2
  exact h3.imp (fun {a b} ⟨h, hn⟩ => by have := of_decide_eq_true h; omega)

def cellsAt (s : Fl) (ks : List Int) : List (Int × List UInt8) := (ks.map fun k => (k, lookB s k)).filter fun p => !blankB p.2
theorem cellsAt_snoc (s : Fl) (ks : List Int) (k : Int) : cellsAt s (ks ++ [k]) = cellsAt s ks ++ (if blankB (lookB s k) then [] else [(k, lookB s k)]) := by
  simp only [cellsAt, List.map_append, List.filter_append, List.map_cons, List.map_nil, List.filter_cons, List.filter_nil]
  cases blankB (lookB s k) <;> rfl
theorem intRows_flat (l : List Int) : (intRows l).flatten = intCells l := by
  induction l with
  | nil => rfl
  | cons x l ih => simp only [intRows, List.map_cons, List.flatten_cons, intCells] at *; rw [ih]; rfl
theorem intRows_row (l : List Int) : ∀ r ∈ intRows l, r.length = 1 := by
  intro r hr
  obtain ⟨p, _, rfl⟩ := List.mem_map.1 hr
  rfl

section
variable {f : Nat} {s : Fl} {D : List HP}
theorem cells_ok (h : OwnF f s D) (hw : s.WF) (hsl : s.safe.length < 1073741824) : ACalls Tryz.prog 85 [ptr f] D (fun r Δ => (∃ ks : List Int, ks.Pairwise (· < ·) ∧ (∀ k, k ∈ ks ↔ k ∈ s.safe.map (·.1) ∨ k ∈ s.loose.map (·.1)) ∧ r = .ret (.sl 2 (cellRows (cellsAt s ks)))) ∧ Δ = D) := by
  have hF := h
  obtain ⟨mb, v, L, how, rfl⟩ := h
  obtain ⟨av, cv, rfl⟩ := how.slice
  have hlen := hw.len
  have hsafe : (safeAV s.safe).map (·.1) = s.safe.map (·.1) := by simp [safeAV]
  have hsafel : (safeAV s.safe).length = s.safe.length := by simp [safeAV]
  refine calls_of_J cl_85 Tryz.func85 rfl (by simp [Tryz.ntmps85]) ?_
  refine J_have _ (fun g B sm => loose_box how sm) (fun hbox => ?_)
  refine jr (own := []) (h := ?_)
  refine jcs (Δ1 := [_]) (Fr := _ :: L) (hs := (mclone_ok mb (mi kI (safeAV s.safe)))) (hp := (List.Perm.swap _ _ _)) (hk := ?_) (hpan := (by rintro x Δ' ⟨b, e, _⟩; cases e))
  rintro x Δ' ⟨b, e, rfl⟩
  cases e
  refine J_perm (Δ' := .map b (mi kI (safeAV s.safe)) :: .box f 171 (flCells s mb (.slice av s.loose.length cv)) :: .map mb (mi kI (safeAV s.safe)) :: L) (List.Perm.cons _ (List.Perm.swap _ _ _)) ?_
  refine jr (own := []) (h := ?_)
  refine jk [0, 3, 18, 19, 20] (h := ?_)
  refine J_loopI (I := fun m e D => ∃ i : Nat, i ≤ s.loose.length ∧ m = s.loose.length - i ∧ D = .map b (mi kI (addLoose (safeAV s.safe) (s.loose.take i))) :: .box f 171 (flCells s mb (.slice av s.loose.length cv)) :: .map mb (mi kI (safeAV s.safe)) :: L ∧ e = [(0, ptr f), (3, .c (.map (some b))), (18, .c (.slice av s.loose.length cv)), (19, .c (.int .i64 s.loose.length)), (20, .c (.int .i64 i))]) ?_ ?_
  · exact ⟨_, 0, Nat.zero_le _, rfl, rfl, rfl⟩
  · rintro m e D ⟨i, hi, rfl, rfl, rfl⟩ ih
    refine jr (own := []) (h := ?_)
    refine jif (h1 := fun hc => ?_) (h2 := fun hc => ?_)
    · have hlt : i < s.loose.length := by omega
      have g0 := List.getElem?_eq_getElem hlt
      have h0 : (0 : Int) ≤ (i : Int) := by omega
      rcases hbox with h | ⟨b9, sp, rfl, hne, hne', rfl, hcap⟩
      · rw [h] at hlt; simp at hlt
      have gr : (looseAV s.loose)[i]? = some (looseRow s.loose[i]) := by unfold looseAV; rw [List.getElem?_map, g0]; rfl
      have hgr := get_row (s := 2) (sp := sp) (row_len _) gr
      generalize hcells : (looseAV s.loose).flatten ++ sp = cells at *
      generalize ((looseAV s.loose).drop (i + 1)).flatten ++ sp = rest at hgr
      have hgr' : cells.drop (i * 2) = .c (.int .i64 s.loose[i].1) :: optAV s.loose[i].2 :: rest := hgr
      have h22 : (2 ≤ rest.length + 1 + 1) = True := by simp
      refine J_mrun (own := [5]) (m := 2000) (by simp (maxSteps := 2000000) (disch := omega) only [go_sem, ↓reduceIte, Int.reduceLT, Int.reduceLE, Int.reduceToNat, Int.reducePow, Int.reduceNeg, Nat.reduceBEq, Tryz.ntmps85, hgr', h22, hne, hne', List.length_cons, List.take_succ_cons, List.take_zero] <;> with_reducible rfl) ?_
      refine jnv (hh := fun b5 hb5 => ?_)
      simp only [fresh] at hb5
      refine jr (own := []) (h := ?_)
      refine J_op0 rfl (update_op (k := s.loose[i].1) (l := addLoose (safeAV s.safe) (s.loose.take i)) (v := nilAV) rfl kI_ok mt (by simp only [go_sem] <;> rfl) (by simp only [go_sem] <;> rfl) (by simp only [go_sem] <;> rfl) (by simp only [go_sem])) ?_
      rintro _ _ ⟨rfl, rfl⟩
      simp only [setMap, if_true]
      refine J_drop ?_
      refine jr (own := []) (h := ?_)
      refine jk [0, 3, 18, 19, 20] (h := ?_)
      refine ih _ _ _ ?_ ⟨i + 1, by omega, rfl, ?_, rfl⟩
      · omega
      · unfold addLoose; rw [List.take_add_one, g0, List.foldl_append]; rfl
    · have hi' : i = s.loose.length := by omega
      subst hi'
      rw [List.take_length]
      have hml : (addLoose (safeAV s.safe) s.loose).length < 2 ^ 36 := by
        have := addLoose_len (ls := s.loose) (m := safeAV s.safe)
        omega
      have hmn : ((addLoose (safeAV s.safe) s.loose).map (·.1)).Nodup := addLoose_nodup (by rw [hsafe]; exact hw.nodup)
      have hmm : ∀ k, k ∈ (addLoose (safeAV s.safe) s.loose).map (·.1) ↔ k ∈ s.safe.map (·.1) ∨ k ∈ s.loose.map (·.1) := fun k => by rw [addLoose_mem, hsafe]
      generalize addLoose (safeAV s.safe) s.loose = M at *
      refine jr (own := []) (h := ?_)
      refine jc (hs := keys_ok b) (hk := ?_)
      refine jr (own := []) (h := ?_)
      refine jcs (Δ1 := [_]) (Fr := _ :: _ :: L) (hs := (sorted_ok b M hml)) (hp := (List.Perm.refl _)) (hk := ?_) (hpan := (by rintro x Δ' ⟨v, pre, D, e, _⟩; cases e))
      rintro x Δ' ⟨v, pre, D, e, hperm, howk, rfl⟩
      cases e
      have hkn : pre.Nodup := hperm.nodup_iff.2 hmn
      have hks := sortInts_lt hkn
      have hkl : (sortInts pre).length = pre.length := by simp [sortInts]
      have hpl := hperm.length_eq
      rw [List.length_map] at hpl
      have hkm : ∀ k, k ∈ sortInts pre ↔ k ∈ s.safe.map (·.1) ∨ k ∈ s.loose.map (·.1) := fun k => by
        rw [← hmm k, ← hperm.mem_iff]; exact (List.mergeSort_perm pre _).mem_iff
      refine J_perm (Δ' := (.map b (mi kI M) :: .box f 171 (flCells s mb (.slice av s.loose.length cv)) :: .map mb (mi kI (safeAV s.safe)) :: L) ++ D) (by rw [List.append_assoc]; exact List.perm_append_comm) ?_
      refine J_freezeS (rows := intRows (sortInts pre)) (by rw [intRows_flat, intRows_len, hkl]; exact howk) (intRows_row _) (by rw [intRows_len, hkl]; unfold maxRows; omega) ?_
      refine J_is (t := 30) (by simp only [go_sem]) (List.mem_cons_self ..) (J_drop (J_drop ?_))
      have hks2 : (sortInts pre).length < 2 ^ 36 := by rw [hkl]; omega
      generalize sortInts pre = ks at *
      refine jr (own := []) (h := ?_)
      have hcl : ∀ i, (cellsAt s (ks.take i)).length ≤ ks.length := fun i => by
        unfold cellsAt
        refine Nat.le_trans (List.length_filter_le _ _) ?_
        rw [List.length_map, List.length_take]; omega
      refine jk [0, 6, 30, 31, 32] (h := ?_)
      refine J_loopI (I := fun m e D => ∃ (i : Nat) (v6 : Value) (D6 : List HP), i ≤ ks.length ∧ m = ks.length - i ∧ Own 177 2 (cellRows (cellsAt s (ks.take i))).flatten (cellsAt s (ks.take i)).length v6 D6 ∧ D = .box f 171 (flCells s mb (.slice av s.loose.length cv)) :: .map mb (mi kI (safeAV s.safe)) :: (L ++ D6) ∧ e = [(0, ptr f), (6, .c v6), (30, .sl 1 (intRows ks)), (31, .c (.int .i64 ks.length)), (32, .c (.int .i64 i))]) ?_ ?_
      · exact ⟨_, 0, .slice none 0 0, [], Nat.zero_le _, rfl, .nil none rfl rfl, by rw [List.append_nil]; rfl, rfl⟩
      · rintro m e D ⟨i, v6, D6, hi2, rfl, how6, rfl, rfl⟩ ih2
        obtain ⟨a6, c6, rfl⟩ := how6.slice
        refine jr (own := []) (h := ?_)
        refine jif (h1 := fun hc2 => ?_) (h2 := fun hc2 => ?_)
        · have hlt : i < ks.length := by omega
          have g0 := List.getElem?_eq_getElem hlt
          have g1 := int_get g0
          have h0 : (0 : Int) ≤ (i : Int) := by omega
          have hll := look_len hw ks[i]
          have hsn : cellsAt s (ks.take (i + 1)) = cellsAt s (ks.take i) ++ (if blankB (lookB s ks[i]) then [] else [(ks[i], lookB s ks[i])]) := by
            rw [List.take_add_one, g0]; exact cellsAt_snoc s _ _
          have hci := hcl i
          refine J_mrun (own := []) (m := 2000) (by simp (maxSteps := 2000000) (disch := omega) only [go_sem, ↓reduceIte, Int.reduceLT, Int.reduceLE, Int.reduceToNat, Int.reducePow, Int.reduceNeg, Nat.reduceBEq, Tryz.ntmps85, g1] <;> with_reducible rfl) ?_
          refine jcs (Δ1 := .box f 171 (flCells s mb (.slice av s.loose.length cv)) :: .map mb (mi kI (safeAV s.safe)) :: L) (Fr := D6) (hs := (look_ok hF hw ks[i])) (hp := (List.Perm.refl _)) (hk := ?_) (hpan := (by rintro x Δ' ⟨e, _⟩; cases e))
          rintro x Δ' ⟨e, rfl⟩
          cases e
          simp only [pageAV]
          refine jr (own := []) (h := ?_)
          refine jc (hs := blank_ok (lookB s ks[i]) (by omega)) (hk := ?_)
          refine jr (own := []) (h := ?_)
          cases hbl : blankB (lookB s ks[i]) with
          | true =>
            rw [hbl, if_pos rfl, List.append_nil] at hsn
            refine jn (h := ?_)
            refine jr (own := []) (h := ?_)
            refine jk [0, 6, 30, 31, 32] (h := ?_)
            refine ih2 _ _ _ ?_ ⟨i + 1, _, D6, by omega, rfl, by rw [hsn]; exact how6, rfl, rfl⟩
            omega
          | false =>
            rw [hbl, if_neg (by decide)] at hsn
            refine jt (h := ?_)
            refine jr (own := [47]) (h := ?_)
            refine jap (Fr := .box f 171 (flCells s mb (.slice av s.loose.length cv)) :: .map mb (mi kI (safeAV s.safe)) :: L) (how := how6) (hp := (List.Perm.refl _)) (hsrc := (by simp only [go_sem, srcOf] <;> rfl)) (hc := (by rfl)) (hmax := (by omega)) (hk := ?_)
            rintro _ _ ⟨v7, D7, rfl, rfl, how7⟩
            refine jr (own := []) (h := ?_)
            refine jk [0, 6, 30, 31, 32] (h := ?_)
            refine ih2 _ _ _ ?_ ⟨i + 1, v7, D7, by omega, rfl, ?_, rfl, rfl⟩
            · omega
            · rw [hsn]
              simp only [cellRows, List.map_append, List.flatten_append, List.length_append] at how7 ⊢
              exact how7
        · have hi' : i = ks.length := by omega
          subst hi'
          rw [List.take_length] at how6 ⊢
          refine jr (own := []) (h := ?_)
          refine J_freezeS (rows := cellRows (cellsAt s ks)) (Fr := .box f 171 (flCells s mb (.slice av s.loose.length cv)) :: .map mb (mi kI (safeAV s.safe)) :: L) (by rw [cellRows_len]; exact how6) (cellRows_row _) (by rw [cellRows_len]; have := hcl ks.length; rw [List.take_length] at this; unfold maxRows; omega) ?_
          refine J_is (t := 2) (by simp only [go_sem] <;> rfl) (List.mem_cons_self ..) (J_drop ?_)
          refine jret Tryz.func85 (h := ⟨⟨ks, hks, hkm, rfl⟩, rfl⟩)
end
end Go.Proofs.YtlmahffjidgplaaGreatDoor
end
