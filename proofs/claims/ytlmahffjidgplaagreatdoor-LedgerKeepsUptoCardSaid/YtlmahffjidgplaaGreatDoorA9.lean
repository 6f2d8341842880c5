/- A part of the proof: what the calls do, told by values. -/
import Derived.Test.YtlmahffjidgplaaGreatDoorA2
import Derived.Test.YtlmahffjidgplaaGreatDoorA4
import Derived.Test.YtlmahffjidgplaaGreatDoorA6
import Derived.Stop.Asserts
section
namespace Go.Av
open Go
set_option linter.unusedVariables false
/-! ### The laws of a walk, their side goals paid by one tactic -/
theorem a2 {p q : Prop} (h1 : p) (h2 : q) : p ∧ q := ⟨h1, h2⟩
theorem a3 {p q r : Prop} (h1 : p) (h2 : q) (h3 : r) : p ∧ q ∧ r := ⟨h1, h2, h3⟩
theorem a4 {p q r s : Prop} (h1 : p) (h2 : q) (h3 : r) (h4 : s) : p ∧ q ∧ r ∧ s := ⟨h1, h2, h3, h4⟩
theorem a5 {p q r s t : Prop} (h1 : p) (h2 : q) (h3 : r) (h4 : s) (h5 : t) : p ∧ q ∧ r ∧ s ∧ t := ⟨h1, h2, h3, h4, h5⟩

section
variable {P : Program} {f : Shape} {n : Nat} {R : APost} {env : Env} {Δ : List HP} {k todo : List Item}

theorem jr {own : List Nat} {todo' : List Item} {env' : Env} {Δ' : List HP} (hr : mrun P own n 2000 todo env Δ = (todo', env', Δ') := by simp (maxSteps := 2000000) (disch := omega) only [go_sem, ↓reduceIte, Int.reduceLT, Int.reduceLE, Int.reduceToNat, Int.reducePow, Int.reduceNeg, Nat.reduceBEq] <;> with_reducible rfl) (h : J P f n R todo' env' Δ') : J P f n R todo env Δ := J_mrun hr h
theorem jf {own : List Nat} {F : Prop} {todo' : List Item} {env' : Env} {Δ' : List HP} (hf : F) (hr : F → mrun P own n 2000 todo env Δ = (todo', env', Δ') := by intro hf; simp (maxSteps := 2000000) (disch := omega) only [go_sem, ↓reduceIte, Int.reduceLT, Int.reduceLE, Int.reduceToNat, Int.reducePow, Int.reduceNeg, Nat.reduceBEq, hf] <;> with_reducible rfl) (h : J P f n R todo' env' Δ') : J P f n R todo env Δ := J_mrun (hr hf) h
theorem jq {own : List Nat} {F : Prop} {todo' : List Item} {env' : Env} {Δ' : List HP} (hf : F) (hr : F → mrun P own n 2000 todo env Δ = (todo', env', Δ') := by intro hf; simp (maxSteps := 2000000) (disch := omega) only [go_sem, ↓reduceIte, Int.reduceLT, Int.reduceLE, Int.reduceToNat, Int.reducePow, Int.reduceNeg, Nat.reduceBEq, eq_self, decide_true, ne_eq, not_true_eq_false, decide_false, beq_self_eq_true, hf] <;> with_reducible rfl) (h : J P f n R todo' env' Δ') : J P f n R todo env Δ := J_mrun (hr hf) h
theorem jif {c : Operand} {x y : Code} {p : Prop} [Decidable p] (hc : env.eval c = some (.c (.bool (decide p))) := by simp only [go_sem, ↓reduceIte, Int.reduceLT, Int.reduceLE, Int.reduceToNat, Int.reducePow, Int.reduceNeg, Nat.reduceBEq] <;> with_reducible rfl) (h1 : p → J P f n R (.code x :: k) env Δ) (h2 : ¬ p → J P f n R (.code y :: k) env Δ) : J P f n R (.code (.cond c x y) :: k) env Δ := J_if hc h1 h2
theorem jt {c : Operand} {x y : Code} (hc : env.eval c = some (.c (.bool true)) := by simp only [go_sem, ↓reduceIte, Int.reduceLT, Int.reduceLE, Int.reduceToNat, Int.reducePow, Int.reduceNeg, Nat.reduceBEq] <;> with_reducible rfl) (h : J P f n R (.code x :: k) env Δ) : J P f n R (.code (.cond c x y) :: k) env Δ := J_true hc h
theorem jn {c : Operand} {x y : Code} (hc : env.eval c = some (.c (.bool false)) := by simp only [go_sem, ↓reduceIte, Int.reduceLT, Int.reduceLE, Int.reduceToNat, Int.reducePow, Int.reduceNeg, Nat.reduceBEq] <;> with_reducible rfl) (h : J P f n R (.code y :: k) env Δ) : J P f n R (.code (.cond c x y) :: k) env Δ := J_false hc h
theorem jk {env' : Env} (js : List Nat) (he : env.keep js = some env' := by simp only [go_sem, ↓reduceIte, Int.reduceLT, Int.reduceLE, Int.reduceToNat, Int.reducePow, Int.reduceNeg, Nat.reduceBEq] <;> with_reducible rfl) (h : J P f n R todo env' Δ) : J P f n R todo env Δ := J_keep js he h
theorem jret {f : FuncId} {fn : Func} {X : AV} (hf : P.funcs[f]? = some fn) (hr : (aresultsM P env Δ fn.results.toList).map packed = some X := by simp only [go_sem, ↓reduceIte, Int.reduceLT, Int.reduceLE, Int.reduceToNat, Int.reducePow, Int.reduceNeg, Nat.reduceBEq] <;> first | with_reducible rfl | rfl) (h : R (.ret X) Δ) : J P (.plain f) n R (.code .ret :: k) env Δ := J_retX hf hr h
theorem jretf {f : FuncId} {fn : Func} {X : AV} {F : Prop} (hF : F) (hf : P.funcs[f]? = some fn) (hr : F → (aresultsM P env Δ fn.results.toList).map packed = some X := by intro hf; simp only [go_sem, ↓reduceIte, Int.reduceLT, Int.reduceLE, Int.reduceToNat, Int.reducePow, Int.reduceNeg, Nat.reduceBEq, hf] <;> first | with_reducible rfl | rfl) (h : R (.ret X) Δ) : J P (.plain f) n R (.code .ret :: k) env Δ := J_retX hf (hr hF) h

section
variable {ops : Array Oper} {i : Nat} {is : List Nat} {dst : Option Tmp} {h : FuncId} {as : List AV}
theorem jc {X : AV} (hat : callAt ops env n i = some (dst, h, as) := by simp only [go_sem, ↓reduceIte, Int.reduceLT, Int.reduceLE, Int.reduceToNat, Int.reducePow, Int.reduceNeg, Nat.reduceBEq] <;> with_reducible rfl) (hs : ACalls P h as [] (Ret X)) (hk : J P f n R (.inRegion ops is :: k) (env.put dst X) Δ) : J P f n R (.inRegion ops (i :: is) :: k) env Δ := J_callp hat hs hk
theorem jcf {X : AV} {F : Prop} (hF : F) (hat : F → callAt ops env n i = some (dst, h, as) := by intro hf; simp only [go_sem, ↓reduceIte, Int.reduceLT, Int.reduceLE, Int.reduceToNat, Int.reducePow, Int.reduceNeg, Nat.reduceBEq, hf] <;> with_reducible rfl) (hs : ACalls P h as [] (Ret X)) (hk : J P f n R (.inRegion ops is :: k) (env.put dst X) Δ) : J P f n R (.inRegion ops (i :: is) :: k) env Δ := J_callp (hat hF) hs hk
theorem jcs {Δ1 Fr : List HP} {R1 : APost} (hat : callAt ops env n i = some (dst, h, as) := by simp only [go_sem, ↓reduceIte, Int.reduceLT, Int.reduceLE, Int.reduceToNat, Int.reducePow, Int.reduceNeg, Nat.reduceBEq] <;> with_reducible rfl) (hs : ACalls P h as Δ1 R1) (hp : Δ.Perm (Δ1 ++ Fr)) (hk : ∀ x Δ', R1 (.ret x) Δ' → J P f n R (.inRegion ops is :: k) (env.put dst x) (Δ' ++ Fr)) (hpan : ∀ x Δ', R1 (.pan x) Δ' → f = .plain f.fn ∧ R (.pan x) (Δ' ++ Fr)) : J P f n R (.inRegion ops (i :: is) :: k) env Δ := J_calls hat hs hp hk hpan
theorem jcr {x : AV} (hat : callAt ops env n i = some (dst, h, as) := by simp only [go_sem, ↓reduceIte, Int.reduceLT, Int.reduceLE, Int.reduceToNat, Int.reducePow, Int.reduceNeg, Nat.reduceBEq] <;> with_reducible rfl) (hs : ACalls P h as Δ (fun r Δ' => r = .ret x ∧ Δ' = Δ)) (hk : J P f n R (.inRegion ops is :: k) (env.put dst x) Δ) : J P f n R (.inRegion ops (i :: is) :: k) env Δ := J_callr hat hs hk
theorem jcg {X : AV} {gb : Nat} {gv : Value} (hat : callAt ops env n i = some (dst, h, as) := by simp only [go_sem, ↓reduceIte, Int.reduceLT, Int.reduceLE, Int.reduceToNat, Int.reducePow, Int.reduceNeg, Nat.reduceBEq] <;> with_reducible rfl) (hin : HP.glob gb gv ∈ Δ) (hs : ACalls P h as [HP.glob gb gv] (Ret X)) (hk : J P f n R (.inRegion ops is :: k) (env.put dst X) Δ) : J P f n R (.inRegion ops (i :: is) :: k) env Δ := J_callg hat hin hs hk
theorem jnb {t : TypeId} {d : Tmp} {x : Operand} {cells : List AV} {ty : TypeId} {pos : String} {aft : Array Edge} (ho : ops[i]? = some ⟨some d, .box t x, ty, pos, aft, none⟩ := by rfl) (hd : d < n := by simp only [go_sem, ↓reduceIte, Int.reduceLT, Int.reduceLE, Int.reduceToNat, Int.reducePow, Int.reduceNeg, Nat.reduceBEq]) (hy : (env.eval x).map cellsOf = some cells := by simp only [go_sem, ↓reduceIte, Int.reduceLT, Int.reduceLE, Int.reduceToNat, Int.reducePow, Int.reduceNeg, Nat.reduceBEq] <;> with_reducible rfl) (hh : ∀ b, fresh Δ b → J P f n R (.inRegion ops is :: k) ((d, .c (.pointer (some ⟨b, 0, none⟩))) :: env) (.box b t cells :: Δ)) : J P f n R (.inRegion ops (i :: is) :: k) env Δ := J_newbox (y := .c undef) ho hd hy hh
theorem jnv {t : TypeId} {d : Tmp} {cells : List AV} {ty : TypeId} {pos : String} {aft : Array Edge} (ho : ops[i]? = some ⟨some d, .alloc t, ty, pos, aft, none⟩ := by rfl) (hd : d < n := by simp only [go_sem, ↓reduceIte, Int.reduceLT, Int.reduceLE, Int.reduceToNat, Int.reducePow, Int.reduceNeg, Nat.reduceBEq]) (hy : (tkZero P t).map (·.map AV.c) = some cells := by simp only [go_sem, ↓reduceIte, Int.reduceLT, Int.reduceLE, Int.reduceToNat, Int.reducePow, Int.reduceNeg, Nat.reduceBEq] <;> with_reducible rfl) (hh : ∀ b, fresh Δ b → J P f n R (.inRegion ops is :: k) ((d, .c (.pointer (some ⟨b, 0, none⟩))) :: env) (.box b t cells :: Δ)) : J P f n R (.inRegion ops (i :: is) :: k) env Δ := J_newvar ho hd hy hh
theorem jop {d : Tmp} {op : Op} {ty : TypeId} {pos : String} {aft : Array Edge} {K : AV → List HP → Prop} (hd : d < n := by simp only [go_sem, ↓reduceIte, Int.reduceLT, Int.reduceLE, Int.reduceToNat, Int.reducePow, Int.reduceNeg, Nat.reduceBEq]) (ho : ops[i]? = some ⟨some d, op, ty, pos, aft, none⟩) (hh : OpOK P env Δ ⟨some d, op, ty, pos, aft, none⟩ K) (hk : ∀ x Δ', K x Δ' → J P f n R (.inRegion ops is :: k) ((d, x) :: env) Δ') : J P f n R (.inRegion ops (i :: is) :: k) env Δ := J_op1 ho hd hh hk
theorem jbi {b : Builtin} {ats : List TypeId} {xs : List AV} {K : AV → List HP → Prop} (hat : biAt ops env n i = some (dst, b, ats, xs) := by simp only [go_sem, ↓reduceIte, Int.reduceLT, Int.reduceLE, Int.reduceToNat, Int.reducePow, Int.reduceNeg, Nat.reduceBEq] <;> first | with_reducible rfl | rfl) (hb : BiOK P b ats xs Δ K) (hk : ∀ x Δ', K x Δ' → J P f n R (.inRegion ops is :: k) (env.put dst x) Δ') : J P f n R (.inRegion ops (i :: is) :: k) env Δ := J_bi hat hb hk
theorem jap {sT xT e : TypeId} {ats : List TypeId} {s m len : Nat} {D Fr : List HP} {x : AV} {bu : Value} {cells cs : List AV} (hat : biAt ops env n i = some (dst, .append, sT :: xT :: ats, [.c bu, x]) := by simp only [go_sem, ↓reduceIte, Int.reduceLT, Int.reduceLE, Int.reduceToNat, Int.reducePow, Int.reduceNeg, Nat.reduceBEq] <;> with_reducible rfl) (hty : appTy P sT xT = some (e, s) := by simp only [go_sem, ↓reduceIte, Int.reduceLT, Int.reduceLE, Int.reduceToNat, Int.reducePow, Int.reduceNeg, Nat.reduceBEq] <;> with_reducible rfl) (how : Own e s cells len bu D) (hp : Δ.Perm (Fr ++ D)) (hsrc : srcOf (D ++ Fr) s x = some (m, cs)) (hc : cs.all AV.isCell = true) (hmax : len + m ≤ 2 ^ 38) (hk : ∀ x Δ', (∃ v D', x = .c v ∧ Δ' = Fr ++ D' ∧ Own e s (cells ++ cs) (len + m) v D') → J P f n R (.inRegion ops is :: k) (env.put dst x) Δ') : J P f n R (.inRegion ops (i :: is) :: k) env Δ :=
  J_bi hat (append_bi hty how hp hsrc hc hmax) hk
end

/-! Regions that draw. -/
section
variable {ops : Array Oper} {kont : Env → List HP → Prop} {c : List (Nat × Knd)} {V : Env} {i : Nat} {dst : Option Tmp} {h : FuncId} {as : List AV}
theorem cr {own : List Nat} {c' : List (Nat × Knd)} {V' : Env} {Δ' : List HP} (hr : canM P ops own n c V Δ = (c', V', Δ') := by simp (maxSteps := 2000000) (disch := omega) only [go_sem, ↓reduceIte, Int.reduceLT, Int.reduceLE, Int.reduceToNat, Int.reducePow, Int.reduceNeg, Nat.reduceBEq] <;> with_reducible rfl) (hk : Can P ops n kont c' V' Δ') : Can P ops n kont c V Δ := Can_run hr hk
theorem cf {own : List Nat} {F : Prop} {c' : List (Nat × Knd)} {V' : Env} {Δ' : List HP} (hf : F) (hr : F → canM P ops own n c V Δ = (c', V', Δ') := by intro hf; simp (maxSteps := 2000000) (disch := omega) only [go_sem, ↓reduceIte, Int.reduceLT, Int.reduceLE, Int.reduceToNat, Int.reducePow, Int.reduceNeg, Nat.reduceBEq, hf] <;> with_reducible rfl) (hk : Can P ops n kont c' V' Δ') : Can P ops n kont c V Δ := Can_run (hr hf) hk
theorem cq {own : List Nat} {F : Prop} {c' : List (Nat × Knd)} {V' : Env} {Δ' : List HP} (hf : F) (hr : F → canM P ops own n c V Δ = (c', V', Δ') := by intro hf; simp (maxSteps := 2000000) (disch := omega) only [go_sem, ↓reduceIte, Int.reduceLT, Int.reduceLE, Int.reduceToNat, Int.reducePow, Int.reduceNeg, Nat.reduceBEq, eq_self, decide_true, ne_eq, not_true_eq_false, decide_false, beq_self_eq_true, hf] <;> with_reducible rfl) (hk : Can P ops n kont c' V' Δ') : Can P ops n kont c V Δ := Can_run (hr hf) hk
theorem ccp {x : AV} (hat : callAt ops V n i = some (dst, h, as) := by simp only [go_sem, ↓reduceIte, Int.reduceLT, Int.reduceLE, Int.reduceToNat, Int.reducePow, Int.reduceNeg, Nat.reduceBEq] <;> with_reducible rfl) (hs : ACalls P h as [] (Ret x)) (hk : Can P ops n kont c (V.put dst x) Δ) : Can P ops n kont ((i, .pure) :: c) V Δ := Can_callp hat hs hk
theorem ccr {x : AV} (hat : callAt ops V n i = some (dst, h, as) := by simp only [go_sem, ↓reduceIte, Int.reduceLT, Int.reduceLE, Int.reduceToNat, Int.reducePow, Int.reduceNeg, Nat.reduceBEq] <;> with_reducible rfl) (hs : ACalls P h as Δ (fun r Δ' => r = .ret x ∧ Δ' = Δ)) (hk : Can P ops n kont c (V.put dst x) Δ) : Can P ops n kont ((i, .read) :: c) V Δ := Can_callr hat hs hk
theorem ccs {Δ1 Fr : List HP} {R1 : APost} (hat : callAt ops V n i = some (dst, h, as) := by simp only [go_sem, ↓reduceIte, Int.reduceLT, Int.reduceLE, Int.reduceToNat, Int.reducePow, Int.reduceNeg, Nat.reduceBEq] <;> with_reducible rfl) (hs : ACalls P h as Δ1 R1) (hp : Δ.Perm (Δ1 ++ Fr)) (hk : ∀ x Δ', R1 (.ret x) Δ' → Can P ops n kont c (V.put dst x) (Δ' ++ Fr)) (hn : ∀ x Δ', ¬ R1 (.pan x) Δ') :
    Can P ops n kont ((i, .act) :: c) V Δ := Can_call hat hs hp hk hn
theorem cnv {t : TypeId} {d : Tmp} {cells : List AV} {ty : TypeId} {pos : String} {aft : Array Edge} (ho : ops[i]? = some ⟨some d, .alloc t, ty, pos, aft, none⟩ := by rfl) (hd : d < n := by simp only [go_sem, ↓reduceIte, Int.reduceLT, Int.reduceLE, Int.reduceToNat, Int.reducePow, Int.reduceNeg, Nat.reduceBEq]) (hy : (tkZero P t).map (·.map AV.c) = some cells := by simp only [go_sem, ↓reduceIte, Int.reduceLT, Int.reduceLE, Int.reduceToNat, Int.reducePow, Int.reduceNeg, Nat.reduceBEq] <;> with_reducible rfl) (hk : ∀ b, fresh Δ b → Can P ops n kont c ((d, .c (.pointer (some ⟨b, 0, none⟩))) :: V) (.box b t cells :: Δ)) : Can P ops n kont ((i, .new) :: c) V Δ := Can_newvar ho hd hy hk
theorem cbi {b : Builtin} {ats : List TypeId} {xs : List AV} {K : AV → List HP → Prop} (hat : biAt ops V n i = some (dst, b, ats, xs) := by simp only [go_sem, ↓reduceIte, Int.reduceLT, Int.reduceLE, Int.reduceToNat, Int.reducePow, Int.reduceNeg, Nat.reduceBEq] <;> first | with_reducible rfl | rfl) (hb : BiOK P b ats xs Δ K) (hk : ∀ x Δ', K x Δ' → Can P ops n kont c (V.put dst x) Δ') : Can P ops n kont ((i, .act) :: c) V Δ := Can_bi hat hb hk

/-- What each operation must follow, in full. -/
def ancs (ops : Array Oper) : List (List Nat) :=
  ops.toList.foldl (fun A o => A ++ [(o.after.toList.filterMap fun e => if Region.binds .any e then some e.on else none).foldl (fun l j => (j :: A.getD j []).foldl (fun l x => if l.contains x then l else x :: l) l) []]) []
theorem jd (c : List (Nat × Knd)) {id : Nat} (hm : P.follows .mixedOrders = true) (hd : drawOK ops (ancs ops) c = true) (h : Can P ops n (fun V Δ => J P f n R k V Δ) c env Δ) : J P f n R (.code (.region id ops true) :: k) env Δ := J_draw (ancs ops) c hm hd h
end
end
end Go.Av
end

section
namespace Go.Av
open Go
set_option linter.unusedVariables false
section
variable {P : Program} {f : Shape} {n : Nat} {R : APost} {env : Env} {Δ : List HP} {k todo : List Item}
/-! ### Methods called through interfaces, assertions, and equality of interfaces -/
theorem J_icall {ops : Array Oper} {i : Nat} {is : List Nat} {o : Oper} {ro : Operand} {name : String} {args : Array Operand} {ats : Array TypeId} {h : FuncId} {t : TypeId} {y : AV} {xs : List AV} {Δ1 Fr : List HP} {R1 : APost}
    (ho : ops[i]? = some o) (hop : o.op = .call ⟨.invoke ro name, args, ats⟩) (hw : awanted ops env o = some true) (hd : o.dst.all (· < n) = true)
    (hro : env.eval ro = some (.ifc t y)) (hm : ∀ v w, (Go.method (P.types.size + Made.depth) t v name).run P w = .ok (h, v) w) (has : env.evalL args.toList = some xs) (hp : Δ.Perm (Δ1 ++ Fr)) (hspec : ACalls P h (y :: xs) Δ1 R1)
    (hk : ∀ x Δ', R1 (.ret x) Δ' → J P f n R (.inRegion ops is :: k) (env.put o.dst x) (Δ' ++ Fr)) (hpan : ∀ x Δ', R1 (.pan x) Δ' → f = .plain f.fn ∧ R (.pan x) (Δ' ++ Fr)) :
    J P f n R (.inRegion ops (i :: is) :: k) env Δ := by
  intro g B tmps sm hn he b cs' hb hkd
  have hspec' := (hspec.frame (Fr := Fr)).perm hp
  have hf := Env.eval_rel he hro
  simp only [rel] at hf
  obtain ⟨v0, hfv, hv0⟩ := hf
  have hargs := evalL_rel he has
  have hrel : relL g (y :: xs) (v0 :: args.toList.map (({ tmps := tmps, defers := [] } : Act).eval)) := by simp only [relL]; exact ⟨v0, _, rfl, hv0, hargs⟩
  obtain ⟨e, w', fr, ⟨g', B', a, Δ', rfl, hx, hs, hr, Δ2, rfl, hR⟩, hcomes, hfn, hleave⟩ := hspec'.run g B _ sm hrel (b.atR { tmps := tmps, defers := f.defers } (.inRegion ops (i :: is) :: k) :: cs')
  have hrun : (execOp (({ tmps := tmps, defers := [] } : Act).eval) o).run P g.w = .ok (.enter h (v0 :: args.toList.map (({ tmps := tmps, defers := [] } : Act).eval)).toArray) g.w := by
    have hm' := hm v0 g.w
    have e1 : ((#[({ tmps := tmps, defers := [] } : Act).eval ro] : Array Value) ++ args.map (({ tmps := tmps, defers := [] } : Act).eval))[0]? = some (.iface t v0) := by
      rw [hfv, Array.getElem?_append_left (by simp)]; rfl
    have e2 : (#[v0] : Array Value) ++ ((#[({ tmps := tmps, defers := [] } : Act).eval ro] : Array Value) ++ args.map (({ tmps := tmps, defers := [] } : Act).eval)).extract 1 ((#[({ tmps := tmps, defers := [] } : Act).eval ro] : Array Value) ++ args.map (({ tmps := tmps, defers := [] } : Act).eval)).size = (v0 :: args.toList.map (({ tmps := tmps, defers := [] } : Act).eval)).toArray := by
      apply Array.ext'
      simp [Array.toList_extract, List.extract]
      exact List.take_of_length_le (by simp)
    simp only [execOp, hop, resolve, Sem.run_bind, Sem.run_pure, Result.andThen_ok, invoke, e1, callMethod, run_program, hm', e2]
    exact run_callFunc hspec.callable
  have hg := stepGR_op (P := P) (b := b) (a := { tmps := tmps, defers := f.defers }) (k := k) (cs := cs') (w := g.w) (rest := is) ho (awanted_eq he hw)
  rw [Oper.semAt_eq _ _ _ (by intro c hc; rw [hop] at hc; exact Op.noConfusion hc)] at hg
  have henter : step P (lone (b.atR { tmps := tmps, defers := f.defers } (.inRegion ops (i :: is) :: k)) cs' g.w) =
      .next (lone (Frame.enter P h (v0 :: args.toList.map (({ tmps := tmps, defers := [] } : Act).eval)).toArray .normal) (b.atR { tmps := tmps, defers := f.defers } (.inRegion ops (i :: is) :: k) :: cs') g.w) :=
    step_lone_go (by
      have hrun' : (execOp (({ tmps := tmps, defers := f.defers } : Act).eval) o).run P g.w = .ok (.enter h (v0 :: args.toList.map (({ tmps := tmps, defers := [] } : Act).eval)).toArray) g.w := hrun
      rw [hg]; simp [stepG.apply, hrun', Frame.atR])
  cases a with
  | ret x =>
    cases e with
    | returned v =>
      simp only [endRel] at hr
      have hfin : (b.atR { tmps := tmps, defers := f.defers } (.inRegion ops (i :: is) :: k)).finish v = b.atR (({ tmps := tmps, defers := f.defers } : Act).put o.dst v) (.inRegion ops is :: k) := by rw [Frame.finish_atR, ho]; rfl
      have he' : EnvR g' (env.put o.dst x) (({ tmps := tmps, defers := [] } : Act).put o.dst v).tmps :=
        (he.mono (sm.le hx)).put (fun j hj => by rw [hj] at hd; simpa [hn] using hd) hr
      obtain ⟨e2, w2, fr2, k1, k2, k3⟩ := hk x Δ2 hR g' B' _ hs (by unfold Act.put; split <;> simp [hn]) he' b cs' hb hkd
      have hst := step_leave_returned (cs := cs') (c := b.atR { tmps := tmps, defers := f.defers } (.inRegion ops (i :: is) :: k)) hleave
      rw [hfin, put_defers] at hst
      exact ⟨e2, w2, fr2, k1.ext hx, .of_steps (.head henter (Steps.trans hcomes (.one hst))) k2, k3⟩
    | panicked ch => simp [endRel] at hr
    | outgrown => simp [endRel] at hr
  | pan x =>
    cases e with
    | returned v => simp [endRel] at hr
    | panicked ch =>
      have hst := step_leave_panicked (cs := cs') (c := b.atR { tmps := tmps, defers := f.defers } (.inRegion ops (i :: is) :: k)) hleave
      rw [Frame.raise_atR] at hst
      obtain ⟨hpl, hRp⟩ := hpan x Δ2 hR
      have hfd : f.defers = [] := by rw [hpl]; rfl
      have hfr : f.round = none := by rw [hpl]; rfl
      refine ⟨.panicked ch, g'.w, _, ⟨g', B', .pan x, Δ2 ++ Fr, rfl, hx, hs, hr, hRp⟩, Steps.head henter (Steps.trans hcomes (.one hst)), ?_⟩
      unfold Shape.ends
      rw [hfr]
      obtain ⟨fn, hf'⟩ := hkd.2.2
      exact ⟨hb, rfl, hfd, fn, by simpa [Frame.atR, hb] using hf'⟩
    | outgrown => simp [endRel] at hr



/-- An assertion that an interface has an interface's methods. -/
theorem tassert_has {o : Oper} {x : Operand} {xT I t : TypeId} {y : AV} {want : Array (String × TypeId)} (hop : o.op = .typeAssert x xT I true) (hx : env.eval x = some (.ifc t y))
    (hu : P.underlying I = some (.interface want)) (h : (P.info? t).map (fun i => (lacking want i.methods).isEmpty) = some true) :
    OpOK P env Δ o (fun r Δ' => r = .tup [.ifc t y, .c (.bool true)] ∧ Δ' = Δ) := by
  intro g B tmps sm hen
  have hv := Env.eval_rel hen hx
  simp only [rel] at hv
  obtain ⟨v, hv, hr⟩ := hv
  refine ⟨g, B, _, Δ, _, .tuple #[.iface t v, .bool true], ?_, .inl rfl, .refl .., sm, ?_, rfl, rfl⟩
  · simp only [execOp, hop, hv, Sem.run_bind, run_typeAssert_hasB hu h v xT g.w, Result.andThen_ok, Sem.run_pure]
  · simp only [rel]; exact ⟨[.iface t v, .bool true], rfl, by simp only [relL, rel]; exact ⟨_, _, rfl, ⟨v, rfl, hr⟩, _, _, rfl, rfl, rfl⟩⟩

theorem tassert_is {o : Oper} {x : Operand} {xT t : TypeId} {y : AV} (hop : o.op = .typeAssert x xT t true) (hx : env.eval x = some (.ifc t y))
    (h : ∀ (v : Value) (w : World), (Instr.typeAssert (.iface t v) xT t true).run P w = .ok (.tuple #[v, .bool true]) w) :
    OpOK P env Δ o (fun r Δ' => r = .tup [y, .c (.bool true)] ∧ Δ' = Δ) := by
  intro g B tmps sm hen
  have hv := Env.eval_rel hen hx
  simp only [rel] at hv
  obtain ⟨v, hv, hr⟩ := hv
  refine ⟨g, B, _, Δ, _, .tuple #[v, .bool true], ?_, .inl rfl, .refl .., sm, ?_, rfl, rfl⟩
  · simp only [execOp, hop, hv, Sem.run_bind, h v g.w, Result.andThen_ok, Sem.run_pure]
  · simp only [rel]; exact ⟨[v, .bool true], rfl, by simp only [relL, rel]; exact ⟨_, _, rfl, hr, _, _, rfl, rfl, rfl⟩⟩

/-- Two interfaces of other dynamic types are not equal. -/
theorem eql_types {o : Oper} {x y : Operand} {I tx ty dT : TypeId} {a b : AV} {ms : Array (String × TypeId)} (hop : o.op = .binOp .eql I x y dT) (hx : env.eval x = some (.ifc tx a)) (hy : env.eval y = some (.ifc ty b))
    (hi : P.underlying I = some (.interface ms)) (hne : tx ≠ ty) : OpOK P env Δ o (fun r Δ' => r = .c (.bool false) ∧ Δ' = Δ) := by
  intro g B tmps sm hen
  have hv := Env.eval_rel hen hx
  have hw := Env.eval_rel hen hy
  simp only [rel] at hv hw
  obtain ⟨v, hv, _⟩ := hv
  obtain ⟨u, hw, _⟩ := hw
  refine ⟨g, B, _, Δ, _, .bool false, ?_, .inl rfl, .refl .., sm, by simp only [rel], rfl, rfl⟩
  have hg : (eqGuard .eql I x y (.iface tx v) (.iface ty u)).run P g.w = .ok () g.w := by unfold eqGuard; simp
  simp only [execOp, hop, hv, hw, Sem.run_bind, hg, run_eql_iface_types tx ty v u hi hne g.w, Result.andThen_ok, Sem.run_pure]

/-- Is a slice nil? Where it is, it has no rows. -/
theorem nil_sl_op {o : Oper} {x : Operand} {T e dT : TypeId} {s : Nat} {rows : List (List AV)} (hop : o.op = .binOp .eql T x (.const (.slice none 0 0)) dT) (hu : P.underlying T = some (.slice e)) (hx : env.eval x = some (.sl s rows)) :
    OpOK P env Δ o (fun r Δ' => (∃ t, r = .c (.bool t) ∧ (t = true → rows = [])) ∧ Δ' = Δ) := by
  intro g B tmps sm hen
  have hv := Env.eval_rel hen hx
  simp only [rel] at hv
  obtain ⟨a, cap, hv, _, hr⟩ := hv
  refine ⟨g, B, _, Δ, _, .bool a.isNone, ?_, .inl rfl, .refl .., sm, rel_c, ⟨_, rfl, fun h => ?_⟩, rfl⟩
  · have hg : (eqGuard .eql T x (.const (.slice none 0 0)) (.slice a rows.length cap) (.slice none 0 0)).run P g.w = .ok () g.w := by unfold eqGuard; simp
    have hb : (binOp .eql T (.slice a rows.length cap) (.slice none 0 0)).run P g.w = .ok (.bool a.isNone) g.w := by
      simp only [binOp]
      have he : ∀ d : Nat, (Op.equalIn (d + 1) T (.slice a rows.length cap) (.slice none 0 0)).run P g.w = .ok a.isNone g.w := fun d => by cases a <;> simp [Op.equalIn, run_underlying hu]
      simp [Op.equal, Op.maxDepth, he 9999]
    have hc : ({ tmps := tmps, defers := [] } : Act).eval (.const (.slice none 0 0)) = .slice none 0 0 := rfl
    simp only [execOp, hop, hv, hc, Sem.run_bind, hg, hb, Result.andThen_ok, Sem.run_pure]
  · rcases hr with hr | ⟨b, o, rfl, _⟩
    · exact hr
    · simp at h
theorem nil_le_sl {s : Nat} : (AV.c (.slice none 0 0)).le (.sl s []) := fun g v h => by
  simp only [rel] at h ⊢
  exact ⟨none, 0, h, ⟨by simp, by simp [maxRows]⟩, .inl trivial⟩

/-- What a call to a function of the model's own leaves as it is, and answers: through an interface. -/
theorem imethod_x {o : Oper} {ro : Operand} {name : String} {ats : Array TypeId} {h : FuncId} {t : TypeId} {y X : AV} (hop : o.op = .call ⟨.invoke ro name, #[], ats⟩) (hro : env.eval ro = some (.ifc t y))
    (hm : ∀ v w, (Go.method (P.types.size + Made.depth) t v name).run P w = .ok (h, v) w)
    (hs : ∀ g v, rel g y v → ∃ u, (callFunc h #[v]).run P g.w = .ok (.value u) g.w ∧ rel g X u) : OpOK P env Δ o (fun r Δ' => r = X ∧ Δ' = Δ) := by
  intro g B tmps sm hen
  have hv := Env.eval_rel hen hro
  simp only [rel] at hv
  obtain ⟨v, hv, hr⟩ := hv
  obtain ⟨u, h1, h2⟩ := hs g v hr
  refine ⟨g, B, _, Δ, _, u, ?_, .inl rfl, .refl .., sm, h2, rfl, rfl⟩
  have hm' := hm v g.w
  have e2 : (#[v] : Array Value) ++ (#[Value.iface t v] : Array Value).extract 1 1 = #[v] := by apply Array.ext'; simp
  simp only [execOp, hop, resolve, Sem.run_bind, Sem.run_pure, Result.andThen_ok, invoke, hv, callMethod, run_program, Array.map_empty, Array.append_empty, List.getElem?_toArray, List.getElem?_cons_zero, hm', List.size_toArray, List.length_cons, List.length_nil, Nat.zero_add, e2]
  exact h1

section
variable {ops : Array Oper} {i : Nat} {is : List Nat}
theorem jog {d : Tmp} {op : Op} {ty : TypeId} {pos : String} {aft : Array Edge} {gd : Option (Nat × Bool)} {K : AV → List HP → Prop} (hd : d < n := by simp only [go_sem, ↓reduceIte, Int.reduceLT, Int.reduceLE, Int.reduceToNat, Int.reducePow, Int.reduceNeg, Nat.reduceBEq])
    (ho : ops[i]? = some ⟨some d, op, ty, pos, aft, gd⟩) (hw : awanted ops env ⟨some d, op, ty, pos, aft, gd⟩ = some true := by simp only [go_sem, ↓reduceIte, Int.reduceLT, Int.reduceLE, Int.reduceToNat, Int.reducePow, Int.reduceNeg, Nat.reduceBEq])
    (hh : OpOK P env Δ ⟨some d, op, ty, pos, aft, gd⟩ K) (hk : ∀ x Δ', K x Δ' → J P f n R (.inRegion ops is :: k) ((d, x) :: env) Δ') : J P f n R (.inRegion ops (i :: is) :: k) env Δ :=
  J_op (o := ⟨some d, op, ty, pos, aft, gd⟩) ho hw (by simpa using hd) hh hk
theorem jic {d : Tmp} {ro : Operand} {name : String} {args : Array Operand} {ats : Array TypeId} {ty : TypeId} {pos : String} {aft : Array Edge} {gd : Option (Nat × Bool)} {h : FuncId} {t : TypeId} {y : AV} {xs : List AV} {X : AV}
    (ho : ops[i]? = some ⟨some d, .call ⟨.invoke ro name, args, ats⟩, ty, pos, aft, gd⟩ := by rfl)
    (hw : awanted ops env ⟨some d, .call ⟨.invoke ro name, args, ats⟩, ty, pos, aft, gd⟩ = some true := by simp only [go_sem, ↓reduceIte, Int.reduceLT, Int.reduceLE, Int.reduceToNat, Int.reducePow, Int.reduceNeg, Nat.reduceBEq]) (hd : d < n := by simp only [go_sem, ↓reduceIte, Int.reduceLT, Int.reduceLE, Int.reduceToNat, Int.reducePow, Int.reduceNeg, Nat.reduceBEq])
    (hro : env.eval ro = some (.ifc t y) := by simp only [go_sem, ↓reduceIte, Int.reduceLT, Int.reduceLE, Int.reduceToNat, Int.reducePow, Int.reduceNeg, Nat.reduceBEq] <;> with_reducible rfl) (has : env.evalL args.toList = some xs := by simp only [go_sem, ↓reduceIte, Int.reduceLT, Int.reduceLE, Int.reduceToNat, Int.reducePow, Int.reduceNeg, Nat.reduceBEq] <;> with_reducible rfl)
    (hm : ∀ v w, (Go.method (P.types.size + Made.depth) t v name).run P w = .ok (h, v) w) (hs : ACalls P h (y :: xs) [] (Ret X))
    (hk : J P f n R (.inRegion ops is :: k) ((d, X) :: env) Δ) : J P f n R (.inRegion ops (i :: is) :: k) env Δ :=
  J_icall (o := ⟨some d, .call ⟨.invoke ro name, args, ats⟩, ty, pos, aft, gd⟩) ho rfl hw (by simpa using hd) hro hm has (Δ1 := []) (Fr := Δ) (List.Perm.refl _) hs (by rintro x Δ' ⟨e1, rfl⟩; cases e1; exact hk) (by rintro x Δ' ⟨e1, _⟩; cases e1)
end
end
end Go.Av
end

section
namespace Go.Av
open Go
set_option linter.unusedVariables false
/-! ### A region that draws, two of whose operations come in either order -/
def addE (A : List (List Nat)) (x y : Nat) : List (List Nat) := (List.range A.length).map fun i => if i = y ∨ y ∈ A.getD i [] then A.getD i [] ++ x :: A.getD x [] else A.getD i []
theorem addE_mem {A : List (List Nat)} {x y i j : Nat} (h : j ∈ (addE A x y).getD i []) : j ∈ A.getD i [] ∨ (i = y ∨ y ∈ A.getD i []) ∧ (j = x ∨ j ∈ A.getD x []) := by
  unfold addE at h
  rw [List.getD_eq_getElem?_getD, List.getElem?_map] at h
  by_cases hi : i < A.length
  · rw [List.getElem?_eq_getElem (by simpa using hi)] at h
    simp only [List.getElem_range, Option.map_some, Option.getD_some] at h
    split at h
    · rename_i hc
      rcases List.mem_append.1 h with h | h
      · exact .inl h
      · exact .inr ⟨hc, List.mem_cons.1 h⟩
    · exact .inl h
  · rw [List.getElem?_eq_none (by simpa using hi)] at h
    simp at h
theorem either {x y : Nat} (hne : x ≠ y) : ∀ l : List Nat, (∀ l1 l2, l = l1 ++ y :: l2 → x ∈ l1) ∨ (∀ l1 l2, l = l1 ++ x :: l2 → y ∈ l1)
  | [] => .inl fun l1 l2 h => by cases l1 <;> simp at h
  | a :: l => by
    by_cases ha : a = x
    · subst ha
      refine .inl fun l1 l2 h => ?_
      cases l1 with
      | nil => simp at h; exact absurd h.1 hne
      | cons b l1 => simp at h; simp [h.1]
    · by_cases hb : a = y
      · subst hb
        refine .inr fun l1 l2 h => ?_
        cases l1 with
        | nil => simp at h; exact absurd h.1 ha
        | cons b l1 => simp at h; simp [h.1]
      · rcases either hne l with h | h
        · refine .inl fun l1 l2 he => ?_
          cases l1 with
          | nil => simp at he; exact absurd he.1 hb
          | cons b l1 => simp at he; exact List.mem_cons_of_mem _ (h l1 l2 he.2)
        · refine .inr fun l1 l2 he => ?_
          cases l1 with
          | nil => simp at he; exact absurd he.1 ha
          | cons b l1 => simp at he; exact List.mem_cons_of_mem _ (h l1 l2 he.2)
theorem follows_add {ops : Array Oper} {A : List (List Nat)} {x y : Nat} : ∀ (l done : List Nat), Follows ops (fun i => A.getD i []) done l → (y ∈ done → x ∈ done) → (∀ i ∈ done, ∀ j ∈ A.getD i [], j ∈ done) → (x ∈ done ∨ ∀ l1 l2, l = l1 ++ y :: l2 → x ∈ l1) →
    Follows ops (fun i => (addE A x y).getD i []) done l
  | [], done, h, _, _, _ => h
  | a :: l, done, h, h1, h2, h3 => by
    obtain ⟨k1, k2, k3, k4⟩ := h
    have hx : a = y → x ∈ done := fun e => by
      rcases h3 with h3 | h3
      · exact h3
      · have := h3 [] l (by rw [e]; rfl); simp at this
    refine ⟨k1, k2, fun j hj => ?_, follows_add l (a :: done) k4 ?_ ?_ ?_⟩
    · rcases addE_mem hj with hj | ⟨hc, hj⟩
      · exact k3 j hj
      · have hxd : x ∈ done := by
          rcases hc with e | e
          · exact hx e
          · exact h1 (k3 _ e)
        rcases hj with rfl | hj
        · exact hxd
        · exact h2 _ hxd _ hj
    · intro hy
      rcases List.mem_cons.1 hy with e | e
      · exact List.mem_cons_of_mem _ (hx e.symm)
      · exact List.mem_cons_of_mem _ (h1 e)
    · intro i hi j hj
      rcases List.mem_cons.1 hi with rfl | hi
      · exact List.mem_cons_of_mem _ (k3 j hj)
      · exact List.mem_cons_of_mem _ (h2 i hi j hj)
    · rcases h3 with h3 | h3
      · exact .inl (List.mem_cons_of_mem _ h3)
      · by_cases hax : a = x
        · exact .inl (by simp [hax])
        · refine .inr fun l1 l2 he => ?_
          have := h3 (a :: l1) l2 (by rw [he]; rfl)
          rcases List.mem_cons.1 this with e | e
          · exact absurd e.symm hax
          · exact e
/-- As drawOK, but for the table itself. -/
def draw2OK (ops : Array Oper) (A : List (List Nat)) (c : List (Nat × Knd)) : Bool :=
  pairB ops A c && nodupB (c.map (·.1)) && (c.all fun p => decide (p.1 < ops.size)) && (List.range ops.size).all fun i => c.any fun p => p.1 == i
section
variable {P : Program} {ops : Array Oper} {n : Nat} {f : Shape} {R : APost} {k : List Item} {env : Env} {Δ : List HP} {A : List (List Nat)}
theorem follows_J2 {c : List (Nat × Knd)} (hd : draw2OK ops A c = true) {l : List Nat} (hf : Follows ops (fun i => A.getD i []) [] l) (h : Can P ops n (fun V Δ => J P f n R k V Δ) c env Δ) : J P f n R (.inRegion ops l :: k) env Δ := by
  simp only [draw2OK, Bool.and_eq_true, List.all_eq_true, decide_eq_true_eq, List.mem_range] at hd
  obtain ⟨⟨⟨h2, h3⟩, h4⟩, h5⟩ := hd
  obtain ⟨U, rest, e1, e2, e3, e4⟩ := advance c _ _ h
  refine reorder l [] env (applyU ops U env) U rest Δ hf ?_ ?_ ?_ ?_ e2 (Eqv.refl _) e4 e3
  · rw [← e1]; exact fun p hp => ⟨by simp, h4 p hp⟩
  · rw [← e1]
    intro i hi _
    obtain ⟨p, hp, he⟩ := List.any_eq_true.1 (h5 i hi)
    exact ⟨p, hp, by simpa using he⟩
  · rw [← e1]; exact nodupB_sound h3
  · rw [← e1]; exact pairB_sound h2
/-- A region that draws its order, of which two operations come in either order: run in two orders. -/
theorem jd2 (x y : Nat) (c1 c2 : List (Nat × Knd)) {id : Nat} (hm : P.follows .mixedOrders = true) (hd : (decide (x ≠ y) && ancOK ops (ancs ops) && draw2OK ops (addE (ancs ops) x y) c1 && draw2OK ops (addE (ancs ops) y x) c2) = true)
    (h1 : Can P ops n (fun V Δ => J P f n R k V Δ) c1 env Δ) (h2 : Can P ops n (fun V Δ => J P f n R k V Δ) c2 env Δ) : J P f n R (.code (.region id ops true) :: k) env Δ := by
  intro g B tmps sm hn he b cs hb hk
  simp only [Bool.and_eq_true, decide_eq_true_eq] at hd
  obtain ⟨⟨⟨hne, hA⟩, hd1⟩, hd2⟩ := hd
  have hf : Follows ops (fun i => (ancs ops).getD i []) [] (Region.schedule (P.follows .mixedOrders) ops (g.w.tape g.w.drawn (.order b.fn id))) := by
    simp only [Region.schedule, hm, Bool.true_or, if_true, Region.linearise]
    refine linearise_follows hA _ _ _ [] (by simp) ?_ ?_ (by simp) .nil
    · intro i
      simp only [List.not_mem_nil, false_iff, Array.getD_eq_getD_getElem?]
      by_cases h : i < ops.size <;> simp [h]
    · intro i o _ hl
      simp only [Array.getD_eq_getD_getElem?] at hl
      by_cases h : i < ops.size <;> simp [h] at hl
  have hJ : J P f n R (.inRegion ops (Region.schedule (P.follows .mixedOrders) ops (g.w.tape g.w.drawn (.order b.fn id))) :: k) env Δ := by
    rcases either hne (Region.schedule (P.follows .mixedOrders) ops (g.w.tape g.w.drawn (.order b.fn id))) with h | h
    · exact follows_J2 hd1 (follows_add _ _ hf (by simp) (by simp) (.inr h)) h1
    · exact follows_J2 hd2 (follows_add _ _ hf (by simp) (by simp) (.inr h)) h2
  obtain ⟨e, w', fr, h1, h2, h3⟩ := hJ g.drew B tmps (drew_sim sm) hn (he.mono (g := g) (g' := g.drew) ⟨fun _ h => h, fun _ _ => rfl⟩) b cs hb hk
  refine ⟨e, w', fr, ?_, .of_steps (.one stepR_region_draw) h2, h3⟩
  obtain ⟨g', B', a, D, q0, q1, q2⟩ := h1
  exact ⟨g', B', a, D, q0, drew_ext.trans q1, q2⟩
theorem relL_wk {g : G} {x y : AV} (hle : x.le y) : ∀ {cells : List AV} {cs : List Value} {j : Nat}, relL g cells cs → cells[j]? = some x → relL g (cells.set j y) cs
  | [], cs, j, h, hj => by simp at hj
  | a :: cells, cs, 0, h, hj => by
    simp only [List.getElem?_cons_zero, Option.some.injEq] at hj
    subst hj
    simp only [relL, List.set_cons_zero] at h ⊢
    obtain ⟨v, vs, rfl, h1, h2⟩ := h
    exact ⟨v, vs, rfl, hle g v h1, h2⟩
  | a :: cells, cs, j + 1, h, hj => by
    simp only [List.getElem?_cons_succ] at hj
    simp only [relL, List.set_cons_succ] at h ⊢
    obtain ⟨v, vs, rfl, h1, h2⟩ := h
    exact ⟨v, vs, rfl, h1, relL_wk hle h2 hj⟩
theorem agg_le {cells : List AV} {x y : AV} (j : Nat) (hj : cells[j]? = some x) (hle : x.le y) : (AV.agg cells).le (.agg (cells.set j y)) := fun g v h => by
  simp only [rel] at h ⊢
  obtain ⟨us, e, h2⟩ := h
  exact ⟨us, e, relL_wk hle h2 hj⟩
/-- A box's cell taken for more than it is. -/
theorem J_wkBox {b : Nat} {t : TypeId} {cells : List AV} {x y : AV} {todo : List Item} (j : Nat) (hj : cells[j]? = some x) (hle : x.le y) {Fr : List HP} (hp : Δ.Perm (.box b t cells :: Fr)) (h : J P f n R todo env (.box b t (cells.set j y) :: Fr)) : J P f n R todo env Δ := by
  refine J_perm hp (J_sep (Δ' := .box b t (cells.set j y) :: Fr) (fun g B sm => ?_) h)
  obtain ⟨B2, h3, ⟨h4, cs, h5, h6⟩, h7⟩ := sm.sep
  exact ⟨B2, h3, ⟨h4, cs, h5, relL_wk hle h6 hj⟩, h7⟩
end
end Go.Av
end
