/- A part of the proof: what the calls do, told by values. -/
import Derived.Test.YtdnhcpbammfmlaaGreatDoorA1
import Derived.Tactics
import Derived.IntWalk
import Derived.Laws.World
set_option linter.unusedVariables false
set_option linter.unusedSimpArgs false
namespace Go.Av
open Go
section
def Env.evalL (env : Env) : List Operand → Option (List AV)
 | [] => some []
 | x :: xs => match env.eval x, env.evalL xs with
   | some a, some as => some (a :: as)
   | _, _ => none
def Env.evalP (env : Env) : List (Nat × Operand) → Option (List (Nat × AV))
 | [] => some []
 | (i, x) :: xs => match env.eval x, env.evalP xs with
   | some a, some as => some ((i, a) :: as)
   | _, _ => none
def Env.evalO (env : Env) : Option Operand → Option (Option Int)
 | none => some none
 | some x => match env.eval x with
   | some (.c (.int _ n)) => some (some n)
   | _ => none
def intOf : AV → Option Int
 | .c (.int _ n) => some n
 | _ => none
def astep (P : Program) (env : Env) : Op → Option AV
 | .move x => env.eval x
 | .assign x => env.eval x
 | .pick c a b => match env.eval c, env.eval a, env.eval b with
   | some (.c (.bool t)), some x, some y => some (if t then x else y)
   | _, _, _ => none
 | .binOp op t x y _ => match env.eval x, env.eval y with
   | some a, some b => abin P op t x y a b
   | _, _ => none
 | .unOp op _ x => (env.eval x).bind (aunary op)
 | .convert src dst x => (env.eval x).bind fun a => match aconv P src dst a with
   | some r => some r
   | none => aconvB P src dst a
 | .makeInterface t x => (env.eval x).bind (amkIface P t)
 | .makeFunc fn first cap => match env.evalL first.toList, env.evalL cap.toList with
   | some xs, some ys => some (.fn fn xs ys)
   | _, _ => none
 | .field t x f => (env.eval x).bind (afield P t f)
 | .fieldAddr t x f => (env.eval x).bind (afieldAddr P t f)
 | .index t x i => match env.eval x, (env.eval i).bind intOf with
   | some a, some n => aindex P t a n
   | _, _ => none
 | .indexAddr t x i => match env.eval x, (env.eval i).bind intOf with
   | some a, some n => aindexAddr P t a n
   | _, _ => none
 | .slice t x lo hi mx => match env.eval x, env.evalO lo, env.evalO hi, env.evalO mx with
   | some a, some l, some h, some m => aslice P t a l h m
   | _, _, _, _ => none
 | .load t x => (env.eval x).bind (aload P t)
 | .extract x i => (env.eval x).bind fun a => aextract a i
 | .nilCheck x => (env.eval x).bind anilCheck
 | .typeAssert x _ t ok => (env.eval x).bind fun a => aassert P a t ok
 | .box _ x => (env.eval x).map abox
 | .alloc t => aalloc P t
 | .build t parts => (env.evalP parts.toList).bind (abuild P t)
 | .buildSlice t len parts => (env.evalP parts.toList).bind (abuildSlice P t len)
 | .call ⟨.builtin b, args, ats⟩ => (env.evalL args.toList).bind (acall P b ats.toList)
 | _ => none
section
variable {P : Program} {f : Shape} {n : Nat} {R : APost} {env : Env} {Δ : List HP} {k : List Item}
theorem evalL_rel {g : G} {tmps : Array Value} (he : EnvR g env tmps) : ∀ {xs : List Operand} {as : List AV}, env.evalL xs = some as → relL g as (xs.map (({ tmps := tmps, defers := [] } : Act).eval))
 | [], as, h => by simp only [Env.evalL, Option.some.injEq] at h; subst h; simp [relL]
 | x :: xs, as, h => by
   simp only [Env.evalL] at h
   split at h
   · rename_i a as' h1 h2
     simp only [Option.some.injEq] at h; subst h
     simp only [List.map_cons, relL]
     exact ⟨_, _, rfl, Env.eval_rel he h1, evalL_rel he h2⟩
   · simp at h
theorem evalP_rel {g : G} {tmps : Array Value} (he : EnvR g env tmps) : ∀ {xs : List (Nat × Operand)} {as : List (Nat × AV)}, env.evalP xs = some as →
   as.length = xs.length ∧ ∀ (j i : Nat) (x : AV), as[j]? = some (i, x) → ∃ v, (xs.map fun p => (p.1, ({ tmps := tmps, defers := [] } : Act).eval p.2))[j]? = some (i, v) ∧ rel g x v
 | [], as, h => by simp only [Env.evalP, Option.some.injEq] at h; subst h; simp
 | (i0, x) :: xs, as, h => by
   simp only [Env.evalP] at h
   split at h
   · rename_i a as' h1 h2
     simp only [Option.some.injEq] at h; subst h
     obtain ⟨k1, k2⟩ := evalP_rel he h2
     refine ⟨by simp [k1], fun j i y hj => ?_⟩
     cases j with
     | zero =>
       simp only [List.getElem?_cons_zero, Option.some.injEq, Prod.mk.injEq] at hj
       obtain ⟨rfl, rfl⟩ := hj
       exact ⟨_, by simp, Env.eval_rel he h1⟩
     | succ j => simpa using k2 j i y (by simpa using hj)
   · simp at h
theorem evalO_rel {g : G} {tmps : Array Value} (he : EnvR g env tmps) {x : Option Operand} {r : Option Int} (h : env.evalO x = some r) : intOp (x.map (({ tmps := tmps, defers := [] } : Act).eval)) r := by
 cases x with
 | none => simp only [Env.evalO, Option.some.injEq] at h; subst h; trivial
 | some x =>
   simp only [Env.evalO] at h
   split at h
   · rename_i kk m hx
     simp only [Option.some.injEq] at h; subst h
     have := Env.eval_rel he hx
     simp only [rel] at this
     simp [intOp, this]
   · simp at h
theorem intOf_rel {g : G} {tmps : Array Value} (he : EnvR g env tmps) {x : Operand} {m : Int} (h : (env.eval x).bind intOf = some m) : ∃ kk, ({ tmps := tmps, defers := [] } : Act).eval x = .int kk m := by
 cases hx : env.eval x with
 | none => simp [hx] at h
 | some a =>
   simp only [hx, Option.bind_some] at h
   unfold intOf at h
   split at h
   · simp only [Option.some.injEq] at h; subst h
     have := Env.eval_rel he hx
     simp only [rel] at this
     exact ⟨_, this⟩
   · simp at h
def StepOK (P : Program) (env : Env) (Δ : List HP) (o : Oper) (r : AV) : Prop :=
 ∀ g B tmps, Sim g B Δ → EnvR g env tmps → ∃ g' v, (execOp (({ tmps := tmps, defers := [] } : Act).eval) o).run P g.w = .ok (.value v) g'.w ∧ Ext g B g' B ∧ Sim g' B Δ ∧ rel g' r v
theorem step_val {g : G} {B : Nat → Prop} {m : Sem Value} {r : AV} (h : Bears P g B Δ m r) : ∃ g' v, ((do pure (.value (← m))) : Sem Next).run P g.w = .ok (.value v) g'.w ∧ Ext g B g' B ∧ Sim g' B Δ ∧ rel g' r v :=
 let ⟨g', v, h1, h2, h3, h4⟩ := h; ⟨g', v, by rw [Sem.run_bind, h1]; rfl, h2, h3, h4⟩
theorem astep_ok {o : Oper} {r : AV} (h : astep P env o.op = some r) : StepOK P env Δ o r := by
 intro g B tmps sm he
 obtain ⟨dst, op, ty, pos, aft, gd⟩ := o
 simp only at h
 have ev : ∀ {x : Operand} {a : AV}, env.eval x = some a → rel g a (({ tmps := tmps, defers := [] } : Act).eval x) := fun h => Env.eval_rel he h
 have quiet : ∀ {m : Sem Value} {r : AV}, (∃ v, m.run P g.w = .ok v g.w ∧ rel g r v) → ∃ g' v, ((do pure (.value (← m))) : Sem Next).run P g.w = .ok (.value v) g'.w ∧ Ext g B g' B ∧ Sim g' B Δ ∧ rel g' r v :=
   fun h => step_val (Bears.of_quiet sm h)
 have unb : ∀ {x : Operand} {F : AV → Option AV}, (env.eval x).bind F = some r → ∃ a, env.eval x = some a ∧ F a = some r := by
   intro x F h
   cases hx : env.eval x with
   | none => simp [hx] at h
   | some a => exact ⟨a, rfl, by simpa [hx] using h⟩
 cases op with
 | move x => exact ⟨g, _, rfl, .refl _ _, sm, ev h⟩
 | assign x => exact ⟨g, _, rfl, .refl _ _, sm, ev h⟩
 | pick c a b =>
   simp only [astep] at h
   split at h
   · rename_i t x y h1 h2 h3
     simp only [Option.some.injEq] at h; subst h
     have hc := ev h1
     simp only [rel] at hc
     refine ⟨g, if t then ({ tmps := tmps, defers := [] } : Act).eval a else ({ tmps := tmps, defers := [] } : Act).eval b, ?_, .refl _ _, sm, ?_⟩
     · simp only [execOp, hc, asBool, Sem.run_bind, Sem.run_pure, Result.andThen_ok]
     · cases t
       · simpa using ev h3
       · simpa using ev h2
   · simp at h
 | binOp op t x y t' =>
   simp only [astep] at h
   split at h
   · rename_i a b h1 h2
     refine quiet (abin_ok h (ev h1) (ev h2) ?_)
     intro c hc; subst hc; rfl
   · simp at h
 | unOp op t x => obtain ⟨a, h1, h2⟩ := unb h; exact quiet (aunary_ok h2 (ev h1))
 | convert src dst x =>
   obtain ⟨a, h1, h2⟩ := unb h
   split at h2
   · rename_i q hq
     simp only [Option.some.injEq] at h2; subst h2
     exact quiet (aconv_ok hq (ev h1))
   · exact step_val (aconvB_ok sm h2 (ev h1))
 | makeInterface t x => obtain ⟨a, h1, h2⟩ := unb h; exact quiet (amkIface_ok h2 (ev h1))
 | makeFunc fn first cap =>
   simp only [astep] at h
   split at h
   · rename_i xs ys h1 h2
     simp only [Option.some.injEq] at h; subst h
     refine quiet ⟨_, rfl, ?_⟩
     simp only [rel]
     exact ⟨_, _, by rw [← Array.toList_map, ← Array.toList_map, Array.toArray_toList, Array.toArray_toList], evalL_rel he h1, evalL_rel he h2⟩
   · simp at h
 | field t x f => obtain ⟨a, h1, h2⟩ := unb h; exact quiet (afield_ok h2 (ev h1))
 | fieldAddr t x f => obtain ⟨a, h1, h2⟩ := unb h; exact quiet (afieldAddr_ok h2 (ev h1))
 | index t x i =>
   simp only [astep] at h
   split at h
   · rename_i a m h1 h2
     obtain ⟨kk, hk⟩ := intOf_rel he h2
     refine quiet ?_
     rw [hk]
     exact aindex_ok h (ev h1)
   · simp at h
 | indexAddr t x i =>
   simp only [astep] at h
   split at h
   · rename_i a m h1 h2
     obtain ⟨kk, hk⟩ := intOf_rel he h2
     refine quiet ?_
     rw [hk]
     exact aindexAddr_ok h (ev h1)
   · simp at h
 | slice t x lo hi mx =>
   simp only [astep] at h
   split at h
   · rename_i a l hh m h1 h2 h3 h4
     exact quiet (aslice_ok (evalO_rel he h2) (evalO_rel he h3) (evalO_rel he h4) h (ev h1))
   · simp at h
 | load t x => obtain ⟨a, h1, h2⟩ := unb h; exact quiet (aload_ok h2 (ev h1))
 | extract x i => obtain ⟨a, h1, h2⟩ := unb h; exact quiet (aextract_ok h2 (ev h1))
 | nilCheck x =>
   obtain ⟨a, h1, h2⟩ := unb h
   have hx := ev h1
   unfold anilCheck at h2
   split at h2
   · simp only [Option.some.injEq] at h2; subst h2
     have hx0 := hx
     simp only [rel] at hx
     obtain ⟨b, o, hb, _⟩ := hx
     refine ⟨g, _, ?_, .refl _ _, sm, hx0⟩
     simp only [execOp, hb]; rfl
   · simp only [Option.some.injEq] at h2; subst h2
     have hx0 := hx
     simp only [rel] at hx
     refine ⟨g, _, ?_, .refl _ _, sm, hx0⟩
     simp only [execOp, hx]; rfl
   · simp at h2
 | typeAssert x xt t ok => obtain ⟨a, h1, h2⟩ := unb h; exact quiet (aassert_ok h2 (ev h1))
 | box t x =>
   simp only [astep] at h
   cases hx : env.eval x with
   | none => simp [hx] at h
   | some a =>
     simp only [hx, Option.map_some, Option.some.injEq] at h; subst h
     exact step_val (abox_ok sm (ev hx))
 | alloc t => exact step_val (aalloc_ok sm h)
 | build t parts =>
   simp only [astep] at h
   cases hp : env.evalP parts.toList with
   | none => simp [hp] at h
   | some ps =>
     simp only [hp, Option.bind_some] at h
     obtain ⟨k1, k2⟩ := evalP_rel he hp
     refine quiet ?_
     have e : (parts.toList.map fun p => (p.1, ({ tmps := tmps, defers := [] } : Act).eval p.2)).toArray = parts.map fun p => (p.1, ({ tmps := tmps, defers := [] } : Act).eval p.2) := by rw [← Array.toList_map, Array.toArray_toList]
     have := abuild_ok (P := P) (g := g) (ps := parts.toList.map fun p => (p.1, ({ tmps := tmps, defers := [] } : Act).eval p.2)) (by simpa using k1) k2 h
     rwa [e] at this
 | buildSlice t len parts =>
   simp only [astep] at h
   cases hp : env.evalP parts.toList with
   | none => simp [hp] at h
   | some ps =>
     simp only [hp, Option.bind_some] at h
     obtain ⟨k1, k2⟩ := evalP_rel he hp
     refine step_val ?_
     have e : (parts.toList.map fun p => (p.1, ({ tmps := tmps, defers := [] } : Act).eval p.2)).toArray = parts.map fun p => (p.1, ({ tmps := tmps, defers := [] } : Act).eval p.2) := by rw [← Array.toList_map, Array.toArray_toList]
     have := abuildSlice_ok (P := P) (g := g) sm (ps := parts.toList.map fun p => (p.1, ({ tmps := tmps, defers := [] } : Act).eval p.2)) (by simpa using k1) k2 h
     rwa [e] at this
 | call c =>
   obtain ⟨callee, args, ats⟩ := c
   cases callee with
   | builtin b =>
     simp only [astep] at h
     cases hp : env.evalL args.toList with
     | none => simp [hp] at h
     | some xs =>
       simp only [hp, Option.bind_some] at h
       obtain ⟨g', v, h1, h2, h3, h4⟩ := acall_ok (ty := ty) (cs := args.map fun | .const _ => true | _ => false) sm h (evalL_rel he hp)
       refine ⟨g', v, ?_, h2, h3, h4⟩
       simp only [execOp, resolve, Sem.run_bind, Sem.run_pure, Result.andThen_ok, invoke]
       rw [← Array.toList_map, Array.toArray_toList] at h1
       exact h1
   | _ => simp [astep] at h
 | _ => simp [astep] at h
end
end
section
section
variable {P : Program} {f : Shape} {n : Nat} {R : APost} {env : Env} {Δ : List HP} {k : List Item}
theorem J_astep {ops : Array Oper} {i : Nat} {is : List Nat} {o : Oper} {x : AV} (ho : ops[i]? = some o) (hw : awanted ops env o = some true) (hd : o.dst.all (· < n) = true) (hx : astep P env o.op = some x)
   (h : J P f n R (.inRegion ops is :: k) (env.put o.dst x) Δ) : J P f n R (.inRegion ops (i :: is) :: k) env Δ := by
 refine J_op (K := fun y Δ' => y = x ∧ Δ' = Δ) ho hw hd ?_ ?_
 · intro g B tmps sm he
   obtain ⟨g', v, h1, h2, h3, h4⟩ := astep_ok (Δ := Δ) hx g B tmps sm he
   exact ⟨g', B, x, Δ, _, v, h1, .inl rfl, h2, h3, h4, rfl, rfl⟩
 · intro y Δ' e; rw [e.1, e.2]; exact h
theorem run_callFunc {w : World} {h : FuncId} {args : Array Value} (hc : callable P h = true) : (callFunc h args).run P w = .ok (.enter h args) w := by
 unfold callable at hc
 cases hf : P.funcs[h]? with
 | none => simp [hf] at hc
 | some fn =>
   simp only [hf, Bool.and_eq_true, bne_iff_ne, ne_eq] at hc
   obtain ⟨h1, h2⟩ := hc
   unfold callFunc
   simp only [Sem.run_bind, run_program, Result.andThen_ok, hf]
   rw [if_neg (by simpa using h1)]
   cases hb : fn.body with
   | none => simp [hb] at h2
   | some c => simp [hb]
theorem J_call {ops : Array Oper} {i : Nat} {is : List Nat} {o : Oper} {fo : Operand} {args : Array Operand} {ats : Array TypeId} {h : FuncId} {fs cs xs : List AV} {Δ1 Fr : List HP} {R1 : APost}
   (ho : ops[i]? = some o) (hop : o.op = .call ⟨.value fo, args, ats⟩) (hw : awanted ops env o = some true) (hd : o.dst.all (· < n) = true)
   (hfo : env.eval fo = some (.fn (.func h) fs cs)) (has : env.evalL args.toList = some xs) (hp : Δ.Perm (Δ1 ++ Fr)) (hspec : ACalls P h (fs ++ xs ++ cs) Δ1 R1)
   (hk : ∀ x Δ', R1 (.ret x) Δ' → J P f n R (.inRegion ops is :: k) (env.put o.dst x) (Δ' ++ Fr)) (hpan : ∀ x Δ', R1 (.pan x) Δ' → f = .plain f.fn ∧ R (.pan x) (Δ' ++ Fr)) :
   J P f n R (.inRegion ops (i :: is) :: k) env Δ := by
 intro g B tmps sm hn he b cs' hb hkd
 have hspec' := (hspec.frame (Fr := Fr)).perm hp
 have hf := Env.eval_rel he hfo
 simp only [rel] at hf
 obtain ⟨us, vs, hfv, hu, hv⟩ := hf
 have hargs := evalL_rel he has
 have hrel : relL g (fs ++ xs ++ cs) (us ++ args.toList.map (({ tmps := tmps, defers := [] } : Act).eval) ++ vs) := relL_append (relL_append hu hargs) hv
 obtain ⟨e, w', fr, ⟨g', B', a, Δ', rfl, hx, hs, hr, Δ2, rfl, hR⟩, hcomes, hfn, hleave⟩ := hspec'.run g B _ sm hrel (b.atR { tmps := tmps, defers := f.defers } (.inRegion ops (i :: is) :: k) :: cs')
 have hrun : (execOp (({ tmps := tmps, defers := [] } : Act).eval) o).run P g.w = .ok (.enter h (us ++ args.toList.map (({ tmps := tmps, defers := [] } : Act).eval) ++ vs).toArray) g.w := by
   have e1 : (us ++ args.toList.map (({ tmps := tmps, defers := [] } : Act).eval) ++ vs).toArray = us.toArray ++ args.map (({ tmps := tmps, defers := [] } : Act).eval) ++ vs.toArray := by
     simp
   rw [e1]
   simp only [execOp, hop, resolve, hfv, Deferred.ofValue, Sem.run_bind, Sem.run_pure, Result.andThen_ok, invoke]
   exact run_callFunc hspec.callable
 have hg := stepGR_op (P := P) (b := b) (a := { tmps := tmps, defers := f.defers }) (k := k) (cs := cs') (w := g.w) (rest := is) ho (awanted_eq he hw)
 rw [Oper.semAt_eq _ _ _ (by intro c hc; rw [hop] at hc; exact Op.noConfusion hc)] at hg
 have henter : step P (lone (b.atR { tmps := tmps, defers := f.defers } (.inRegion ops (i :: is) :: k)) cs' g.w) =
     .next (lone (Frame.enter P h (us ++ args.toList.map (({ tmps := tmps, defers := [] } : Act).eval) ++ vs).toArray .normal) (b.atR { tmps := tmps, defers := f.defers } (.inRegion ops (i :: is) :: k) :: cs') g.w) :=
   step_lone_go (by
     have hrun' : (execOp (({ tmps := tmps, defers := f.defers } : Act).eval) o).run P g.w = .ok (.enter h (us ++ args.toList.map (({ tmps := tmps, defers := [] } : Act).eval) ++ vs).toArray) g.w := hrun
     rw [hg]; simp [stepG.apply, hrun', Frame.atR])
 cases a with
 | ret x =>
   cases e with
   | returned v =>
     simp only [endRel] at hr
     have hfin : (b.atR { tmps := tmps, defers := f.defers } (.inRegion ops (i :: is) :: k)).finish v = b.atR (({ tmps := tmps, defers := f.defers } : Act).put o.dst v) (.inRegion ops is :: k) := by rw [Frame.finish_atR, ho]; rfl
     have he' : EnvR g' (env.put o.dst x) (({ tmps := tmps, defers := [] } : Act).put o.dst v).tmps :=
       (he.mono (sm.le hx)).put (fun j hj => by rw [hj] at hd; simpa [hn] using hd) hr
     obtain ⟨e2, w2, fr2, k1, k2, k3⟩ := hk x Δ2 hR g' B' _ hs (by unfold Act.put; split <;> simp [hn]) he' b cs' hb hkd
     have hst := step_leave_returned (cs := cs') (c := b.atR { tmps := tmps, defers := f.defers } (.inRegion ops (i :: is) :: k)) hleave
     rw [hfin, put_defers] at hst
     exact ⟨e2, w2, fr2, k1.ext hx, .of_steps (.head henter (Steps.trans hcomes (.one hst))) k2, k3⟩
   | panicked ch => simp [endRel] at hr
   | outgrown => simp [endRel] at hr
 | pan x =>
   cases e with
   | returned v => simp [endRel] at hr
   | panicked ch =>
     have hst := step_leave_panicked (cs := cs') (c := b.atR { tmps := tmps, defers := f.defers } (.inRegion ops (i :: is) :: k)) hleave
     rw [Frame.raise_atR] at hst
     obtain ⟨hpl, hRp⟩ := hpan x Δ2 hR
     have hfd : f.defers = [] := by rw [hpl]; rfl
     have hfr : f.round = none := by rw [hpl]; rfl
     have hfk : f.kind = .normal := by rw [hpl]; rfl
     refine ⟨.panicked ch, g'.w, _, ⟨g', B', .pan x, Δ2 ++ Fr, rfl, hx, hs, hr, hRp⟩, Steps.head henter (Steps.trans hcomes (.one hst)), ?_⟩
     unfold Shape.ends
     simp only [hfr, hfk]
     obtain ⟨fn, hf'⟩ := hkd.2.2
     exact ⟨hb, rfl, hfd, fn, by simpa [Frame.atR, hb] using hf'⟩
   | outgrown => simp [endRel] at hr
def callAt (ops : Array Oper) (env : Env) (n i : Nat) : Option (Option Tmp × FuncId × List AV) :=
 match ops[i]? with
 | some ⟨dst, .call ⟨.value fo, args, _⟩, _, _, _, gd⟩ => match awanted ops env ⟨dst, .move (.const undef), 0, "", #[], gd⟩ with
   | some true => if dst.all (· < n) then match env.eval fo, env.evalL args.toList with
       | some (.fn (.func h) fs cs), some xs => some (dst, h, fs ++ xs ++ cs)
       | _, _ => none else none
   | _ => none
 | _ => none
theorem J_calls {ops : Array Oper} {i : Nat} {is : List Nat} {dst : Option Tmp} {h : FuncId} {as : List AV} {Δ1 Fr : List HP} {R1 : APost} (hat : callAt ops env n i = some (dst, h, as)) (hspec : ACalls P h as Δ1 R1) (hp : Δ.Perm (Δ1 ++ Fr))
   (hk : ∀ x Δ', R1 (.ret x) Δ' → J P f n R (.inRegion ops is :: k) (env.put dst x) (Δ' ++ Fr)) (hpan : ∀ x Δ', R1 (.pan x) Δ' → f = .plain f.fn ∧ R (.pan x) (Δ' ++ Fr)) :
   J P f n R (.inRegion ops (i :: is) :: k) env Δ := by
 unfold callAt at hat
 split at hat
 · rename_i dst' fo args ats ty pos aft gd ho
   split at hat
   · rename_i hw
     split at hat
     · rename_i hd
       split at hat
       · rename_i h' fs cs xs hfo has
         simp only [Option.some.injEq, Prod.mk.injEq] at hat
         obtain ⟨rfl, rfl, rfl⟩ := hat
         refine J_call ho rfl ?_ hd hfo has hp hspec hk hpan
         simpa only [awanted] using hw
       · simp at hat
     · simp at hat
   · simp at hat
 · simp at hat
theorem J_callp {ops : Array Oper} {i : Nat} {is : List Nat} {dst : Option Tmp} {h : FuncId} {as : List AV} {X : AV} (hat : callAt ops env n i = some (dst, h, as)) (hspec : ACalls P h as [] (Ret X))
   (hk : J P f n R (.inRegion ops is :: k) (env.put dst X) Δ) : J P f n R (.inRegion ops (i :: is) :: k) env Δ :=
 J_calls (Δ1 := []) (Fr := Δ) hat hspec (List.Perm.refl _) (by rintro x Δ' ⟨e1, rfl⟩; cases e1; exact hk) (by rintro x Δ' ⟨e1, _⟩; cases e1)
end
end
section
def getBox : List HP → Nat → Option (TypeId × List AV)
 | [], _ => none
 | .box b' t cs :: Δ, b => if b' = b then some (t, cs) else getBox Δ b
 | _ :: Δ, b => getBox Δ b
def setBox : List HP → Nat → List AV → List HP
 | [], _, _ => []
 | .box b' t cs :: Δ, b, cs' => if b' = b then .box b' t cs' :: Δ else .box b' t cs :: setBox Δ b cs'
 | h :: Δ, b, cs' => h :: setBox Δ b cs'
def AV.isCell : AV → Bool
 | .agg _ | .tup _ => false
 | .c (.agg _) | .c (.tuple _) => false
 | _ => true
def World.upd (w : World) (b : Nat) (t : TypeId) (cs : List Value) : World := { w with heap := w.heap.setIfInBounds b (.cells cs.toArray t (0, 0)) }
section
variable {P : Program}
theorem getBox_spec {g : G} {b : Nat} {t : TypeId} {cells : List AV} : ∀ {Δ : List HP} {B : Nat → Prop}, sep Δ g B → getBox Δ b = some (t, cells) →
   B b ∧ ∃ cs : List Value, g.w.heap[b]? = some (.cells cs.toArray t (0, 0)) ∧ relL g cells cs
 | [], B, _, h => by simp [getBox] at h
 | .box b' t' cs' :: Δ, B, ⟨B1, h1, h2, h3⟩, h => by
   simp only [getBox] at h
   split at h
   · rename_i e; subst e
     simp only [Option.some.injEq, Prod.mk.injEq] at h
     obtain ⟨rfl, rfl⟩ := h
     exact ⟨h1 _ h2.1, h2.2⟩
   · have := getBox_spec h3 h
     exact ⟨this.1.1, this.2⟩
 | .row _ _ _ _ _ :: Δ, B, ⟨B1, h1, h2, h3⟩, h => by
   have := getBox_spec h3 (by simpa only [getBox] using h); exact ⟨this.1.1, this.2⟩
 | .map _ _ :: Δ, B, ⟨B1, h1, h2, h3⟩, h => by
   have := getBox_spec h3 (by simpa only [getBox] using h); exact ⟨this.1.1, this.2⟩
 | .pred _ :: Δ, B, ⟨B1, h1, h2, h3⟩, h => by
   have := getBox_spec h3 (by simpa only [getBox] using h); exact ⟨this.1.1, this.2⟩
theorem upd_ne {w : World} {b b' : Nat} {t : TypeId} {cs : List Value} (h : b' ≠ b) : (World.upd w b t cs).heap[b']? = w.heap[b']? := by
 simp only [World.upd]; rw [Array.getElem?_setIfInBounds_ne (Ne.symm h)]
theorem upd_self {w : World} {b : Nat} {t : TypeId} {cs : List Value} (h : b < w.heap.size) : (World.upd w b t cs).heap[b]? = some (.cells cs.toArray t (0, 0)) := by
 simp [World.upd, h]
theorem setBox_sep {g : G} {b : Nat} {t : TypeId} {cells cells' : List AV} {cs' : List Value} (hb : ¬ g.fz b) (hlt : b < g.w.heap.size) (hr : relL ⟨g.fz, World.upd g.w b t cs'⟩ cells' cs') : ∀ {Δ : List HP} {B : Nat → Prop}, sep Δ g B → getBox Δ b = some (t, cells) →
   sep (setBox Δ b cells') ⟨g.fz, World.upd g.w b t cs'⟩ B := by
 have others : ∀ {Δ : List HP} {B : Nat → Prop}, sep Δ g B → (¬ B b) → sep Δ ⟨g.fz, World.upd g.w b t cs'⟩ B := by
   intro Δ B h hn
   refine sep_mono h (fun _ h => h) (fun _ h => h) (fun b' hb' => upd_ne ?_)
   rintro rfl
   exact hb'.elim hb hn
 have piece : ∀ {h : HP} {B1 : Nat → Prop}, h.toH.p g B1 → ¬ B1 b → h.toH.p ⟨g.fz, World.upd g.w b t cs'⟩ B1 := by
   intro h B1 hp hn
   refine h.toH.mono hp (fun _ h => h) (fun b' hb' => upd_ne ?_)
   rintro rfl
   exact hb'.elim hb hn
 intro Δ
 induction Δ with
 | nil => intro B _ h; simp [getBox] at h
 | cons x Δ ih =>
   intro B hs h
   obtain ⟨B1, h1, h2, h3⟩ := hs
   have recc : getBox Δ b = some (t, cells) → ∀ y, setBox (x :: Δ) b cells' = y :: setBox Δ b cells' → y = x → sep (setBox (x :: Δ) b cells') ⟨g.fz, World.upd g.w b t cs'⟩ B := by
     intro hg y e1 e2
     subst e2
     rw [e1]
     have hB := (getBox_spec h3 hg).1
     exact ⟨B1, h1, piece h2 hB.2, ih h3 hg⟩
   cases x with
   | box b' t' cs0 =>
     simp only [getBox] at h
     split at h
     · rename_i e; subst e
       simp only [Option.some.injEq, Prod.mk.injEq] at h
       obtain ⟨rfl, rfl⟩ := h
       simp only [setBox, if_true]
       refine ⟨B1, h1, ⟨h2.1, cs', upd_self hlt, hr⟩, others h3 (fun hh => hh.2 h2.1)⟩
     · rename_i e
       exact recc h _ (by simp only [setBox, if_neg e]) rfl
   | row _ _ _ _ _ => exact recc (by simpa only [getBox] using h) _ (by simp only [setBox]) rfl
   | map _ _ => exact recc (by simpa only [getBox] using h) _ (by simp only [setBox]) rfl
   | pred _ => exact recc (by simpa only [getBox] using h) _ (by simp only [setBox]) rfl
def mload (P : Program) (Δ : List HP) (t : TypeId) (x : AV) : Option AV :=
 match x with
 | .c (.pointer (some ⟨b, o, none⟩)) => match tk P t, getBox Δ b with
   | some (s, ag), some (_, cells) => ofCells ag s (cells.drop o)
   | _, _ => none
 | _ => none
def mstore (P : Program) (Δ : List HP) (t : TypeId) (x v : AV) : Option (List HP) :=
 match x with
 | .c (.pointer (some ⟨b, o, none⟩)) => match tk P t, getBox Δ b with
   | some (s, _), some (_, cells) => if (cellsOf v).length = s ∧ o + s ≤ cells.length ∧ (cellsOf v).all AV.isCell = true then some (setBox Δ b (cells.take o ++ cellsOf v ++ cells.drop (o + s))) else none
   | _, _ => none
 | _ => none
theorem block_relC {g : G} {b : Nat} {t : TypeId} {cells : List AV} {cs : List Value} (h : g.w.heap[b]? = some (.cells cs.toArray t (0, 0))) (hr : relL g cells cs) : relC g b 0 cells := cells_relC h hr
theorem mload_ok {g : G} {B : Nat → Prop} {Δ : List HP} {t : TypeId} {x r : AV} {u : Value} (sm : Sim g B Δ) (h : mload P Δ t x = some r) (hx : rel g x u) : ∃ v, (Instr.loadAt t u).run P g.w = .ok v g.w ∧ rel g r v := by
 unfold mload at h
 split at h
 · rename_i b o
   split at h
   · rename_i s ag t' cells ht hg
     simp only [rel] at hx; subst hx
     obtain ⟨hB, cs, h1, h2⟩ := getBox_spec sm.sep hg
     have hc := relC_drop (block_relC h1 h2) o
     rw [Nat.zero_add] at hc
     obtain ⟨v, k1, k2⟩ := loadVar_run (P := P) ht hc h
     exact ⟨v, by unfold Instr.loadAt; simp only [Sem.run_bind, Instr.sureAddr, Sem.run_pure, Result.andThen_ok, k1], k2⟩
   · simp at h
 · simp at h
theorem isCell_rel {g : G} {x : AV} {v : Value} (h : x.isCell = true) (hx : rel g x v) : v.oneCell' = true := by
 cases x with
 | c u => simp only [rel] at hx; subst hx; cases v <;> simp_all [AV.isCell, Value.oneCell']
 | agg _ => simp [AV.isCell] at h
 | tup _ => simp [AV.isCell] at h
 | ifc t x => simp only [rel] at hx; obtain ⟨_, rfl, _⟩ := hx; rfl
 | fn _ _ _ => simp only [rel] at hx; obtain ⟨_, _, rfl, _⟩ := hx; rfl
 | sl0 => simp only [rel] at hx; obtain ⟨_, rfl⟩ := hx; rfl
 | sl _ _ => simp only [rel] at hx; obtain ⟨_, _, rfl, _⟩ := hx; rfl
 | fp _ => simp only [rel] at hx; obtain ⟨_, _, rfl, _⟩ := hx; rfl
theorem isCell_relL {g : G} : ∀ {xs : List AV} {vs : List Value}, xs.all AV.isCell = true → relL g xs vs → ∀ v ∈ vs, v.oneCell' = true
 | [], vs, _, hr, v, hv => by simp only [relL] at hr; subst hr; simp at hv
 | x :: xs, vs, h, hr, v, hv => by
   simp only [List.all_cons, Bool.and_eq_true] at h
   simp only [relL] at hr
   obtain ⟨u, us, rfl, h1, h2⟩ := hr
   simp only [List.mem_cons] at hv
   rcases hv with rfl | hv
   · exact isCell_rel h.1 h1
   · exact isCell_relL h.2 h2 v hv
theorem setCell_upd {w : World} {b o : Nat} {t : TypeId} {cs : List Value} {v : Value} (hlt : b < w.heap.size) : (World.upd w b t cs).setCell ⟨b, o, none⟩ v = World.upd w b t (cs.set o v) := by
 unfold World.setCell World.upd
 congr 1
 apply Array.ext_getElem?
 intro i
 rw [Array.getElem?_modify, Array.getElem?_setIfInBounds, Array.getElem?_setIfInBounds]
 by_cases hi : b = i
 · subst hi
   simp [hlt]
 · simp [hi]
theorem storeCells_run {w : World} {b : Nat} {t : TypeId} (hlt : b < w.heap.size) : ∀ (vs cs : List Value) (o i : Nat), (∀ v ∈ vs, v.oneCell' = true) → o + i + vs.length ≤ cs.length →
   (storeCells ⟨b, o, none⟩ vs i).run P (World.upd w b t cs) = .ok () (World.upd w b t (cs.take (o + i) ++ vs ++ cs.drop (o + i + vs.length)))
 | [], cs, o, i, _, _ => by simp [storeCells]
 | v :: vs, cs, o, i, hv, hl => by
   simp only [List.length_cons] at hl
   have hcell : (World.upd w b t cs).cell? ⟨b, o + i, none⟩ = cs[o + i]? := by
     simp [World.cell?, upd_self hlt]
   have hlt' : o + i < cs.length := by omega
   have hfr : (World.upd w b t cs).frozen? ⟨b, o + i, none⟩ = false := by
     simp [World.frozen?, upd_self hlt]
   simp only [storeCells, Sem.run_bind, addr_add]
   rw [run_store P _ _ v _ (hv v (by simp)), hcell, List.getElem?_eq_getElem hlt']
   simp only [hfr, Bool.false_eq_true, if_false, Result.andThen_ok]
   rw [setCell_upd hlt, storeCells_run hlt vs _ o (i + 1) (fun v' h' => hv v' (by simp [h'])) (by simp; omega)]
   congr 2
   rw [List.take_set, List.drop_set]
   rw [if_pos (by omega)]
   have e1 : (cs.take (o + (i + 1))).set (o + i) v = cs.take (o + i) ++ [v] := by
     rw [show o + (i + 1) = o + i + 1 from by omega, List.take_add_one]
     rw [List.getElem?_eq_getElem hlt']
     simp only [Option.toList_some]
     rw [List.set_append_right _ _ (by simp; omega)]
     simp [List.length_take, Nat.min_eq_left (by omega : o + i ≤ cs.length)]
   rw [e1]
   simp only [List.append_assoc, List.cons_append, List.nil_append, List.length_cons]
   congr 3
   congr 1; omega
theorem upd_eq {w : World} {b : Nat} {t : TypeId} {cs : List Value} (h : w.heap[b]? = some (.cells cs.toArray t (0, 0))) : World.upd w b t cs = w := by
 unfold World.upd
 have : w.heap.setIfInBounds b (.cells cs.toArray t (0, 0)) = w.heap := by
   apply Array.ext_getElem?
   intro i
   rw [Array.getElem?_setIfInBounds]
   split
   · rename_i e; subst e
     split
     · exact h.symm
     · rename_i hlt; rw [Array.getElem?_eq_none (by omega)] at h; simp at h
   · rfl
 rw [this]
theorem mstore_ok {g : G} {B : Nat → Prop} {Δ Δ' : List HP} {t : TypeId} {x v : AV} {u uv : Value} (sm : Sim g B Δ) (h : mstore P Δ t x v = some Δ') (hx : rel g x u) (hv : rel g v uv) :
   ∃ g' : G, (Instr.storeAt t u uv).run P g.w = .ok () g'.w ∧ Ext g B g' B ∧ Sim g' B Δ' := by
 unfold mstore at h
 split at h
 · rename_i b o
   split at h
   · rename_i s ag t' cells ht hg
     split at h
     · rename_i hc
       obtain ⟨c1, c2, c3⟩ := hc
       simp only [Option.some.injEq] at h; subst h
       simp only [rel] at hx; subst hx
       obtain ⟨hB, cs, h1, h2⟩ := getBox_spec sm.sep hg
       obtain ⟨vs, hv1, hv2⟩ := cellsOf_rel hv
       have hlt := sm.blt b hB
       have hnf : ¬ g.fz b := fun hf => sm.disj b hf hB
       have hl1 := relL_length h2
       have hl2 := relL_length hv2
       let cs' := cs.take o ++ vs ++ cs.drop (o + vs.length)
       let g' : G := ⟨g.fz, World.upd g.w b t' cs'⟩
       have hle : Le g g' := ⟨fun _ h => h, fun b' hb' => upd_ne (by rintro rfl; exact hnf hb')⟩
       have hrel : relL g' (cells.take o ++ cellsOf v ++ cells.drop (o + s)) cs' := by
         refine relL_mono hle _ _ ?_
         have e0 : o + vs.length = o + s := by omega
         have := relL_append (relL_append (relL_take o h2) hv2) (relL_drop (o + s) h2)
         simp only [cs']
         rw [e0]; exact this
       refine ⟨g', ?_, ?_, ?_⟩
       · unfold Instr.storeAt storeVar
         simp only [Sem.run_bind, Instr.sureAddr, Sem.run_pure, Result.andThen_ok, run_sizeOf ht, hv1]
         rw [if_neg (by simp; omega)]
         have := storeCells_run (P := P) (t := t') hlt vs cs o 0 (isCell_relL c3 hv2) (by omega)
         rw [upd_eq h1] at this
         simpa [g', cs'] using this
       · exact ⟨rfl, rfl, rfl, by simp [g', World.upd], fun b' _ hn => upd_ne (by rintro rfl; exact hn hB), fun _ h => h, fun _ h => .inl h, fun _ h => .inl h⟩
       · exact ⟨fun b' hb' => by simpa [g', World.upd] using sm.fzlt b' hb', fun b' hb' => by simpa [g', World.upd] using sm.blt b' hb', sm.disj, setBox_sep hnf hlt hrel sm.sep hg⟩
     · simp at h
   · simp at h
 · simp at h
end
end
section
section
variable {P : Program} {f : Shape} {n : Nat} {R : APost} {env : Env} {Δ : List HP} {k : List Item}
def mstep (P : Program) (env : Env) (Δ : List HP) : Op → Option (AV × List HP)
 | .load t x => match env.eval x with
   | some a => match mload P Δ t a with
     | some r => some (r, Δ)
     | none => none
   | none => none
 | .store t x v => match env.eval x, env.eval v with
   | some a, some b => match mstore P Δ t a b with
     | some Δ' => some (.c undef, Δ')
     | none => none
   | _, _ => none
 | _ => none
theorem J_mstep {ops : Array Oper} {i : Nat} {is : List Nat} {o : Oper} {x : AV} {Δ' : List HP} (ho : ops[i]? = some o) (hw : awanted ops env o = some true) (hd : o.dst.all (· < n) = true) (hx : mstep P env Δ o.op = some (x, Δ'))
   (h : J P f n R (.inRegion ops is :: k) (env.put o.dst x) Δ') : J P f n R (.inRegion ops (i :: is) :: k) env Δ := by
 refine J_op (K := fun y Δ1 => y = x ∧ Δ1 = Δ') ho hw hd ?_ ?_
 · intro g B tmps sm he
   obtain ⟨dst, op, ty, pos, aft, gd⟩ := o
   simp only at hx
   unfold mstep at hx
   split at hx
   · rename_i t y
     split at hx
     · rename_i a ha
       split at hx
       · rename_i r hr
         simp only [Option.some.injEq, Prod.mk.injEq] at hx
         obtain ⟨rfl, rfl⟩ := hx
         obtain ⟨v, h1, h2⟩ := mload_ok (P := P) sm hr (Env.eval_rel he ha)
         exact ⟨g, B, r, Δ, .value v, v, by simp only [execOp, Sem.run_bind, h1, Result.andThen_ok, Sem.run_pure], .inl rfl, .refl _ _, sm, h2, rfl, rfl⟩
       · simp at hx
     · simp at hx
   · rename_i t y z
     split at hx
     · rename_i a b ha hb
       split at hx
       · rename_i Δ2 hr
         simp only [Option.some.injEq, Prod.mk.injEq] at hx
         obtain ⟨rfl, rfl⟩ := hx
         obtain ⟨g', h1, h2, h3⟩ := mstore_ok (P := P) sm hr (Env.eval_rel he ha) (Env.eval_rel he hb)
         exact ⟨g', B, .c undef, Δ2, .skip, undef, by simp only [execOp, Sem.run_bind, h1, Result.andThen_ok, Sem.run_pure], .inr ⟨rfl, rfl⟩, h2, h3, by simp [rel], rfl, rfl⟩
       · simp at hx
     · simp at hx
   · simp at hx
 · intro y Δ1 e; rw [e.1, e.2]; exact h
def mrun (P : Program) (own : List Nat) (n : Nat) : Nat → List Item → Env → List HP → List Item × Env × List HP
 | 0, todo, env, Δ => (todo, env, Δ)
 | m + 1, .code (.seq a b) :: k, env, Δ => mrun P own n m (.code a :: .code b :: k) env Δ
 | m + 1, .code .skip :: k, env, Δ => mrun P own n m k env Δ
 | m + 1, .code (.block id c) :: k, env, Δ => mrun P own n m (.code c :: .inBlock id :: k) env Δ
 | m + 1, .inBlock _ :: k, env, Δ => mrun P own n m k env Δ
 | m + 1, .code (.exit id) :: k, env, Δ => match exitTo id k with
   | some k' => mrun P own n m k' env Δ
   | none => (.code (.exit id) :: k, env, Δ)
 | m + 1, .code (.region id ops false) :: k, env, Δ => mrun P own n m (.inRegion ops (List.range ops.size) :: k) env Δ
 | m + 1, .inRegion ops [] :: k, env, Δ => mrun P own n m k env Δ
 | m + 1, .inRegion ops (i :: is) :: k, env, Δ =>
   match ops[i]? with
   | none => (.inRegion ops (i :: is) :: k, env, Δ)
   | some o =>
     match awanted ops env o with
     | none => (.inRegion ops (i :: is) :: k, env, Δ)
     | some false => if o.dst.all (· < n) then mrun P own n m (.inRegion ops is :: k) (env.put o.dst (.c undef)) Δ else (.inRegion ops (i :: is) :: k, env, Δ)
     | some true => if o.dst.any (own.contains ·) then (.inRegion ops (i :: is) :: k, env, Δ) else
       match astep P env o.op with
       | some x => if o.dst.all (· < n) then mrun P own n m (.inRegion ops is :: k) (env.put o.dst x) Δ else (.inRegion ops (i :: is) :: k, env, Δ)
       | none => match mstep P env Δ o.op with
         | some (x, Δ') => if o.dst.all (· < n) then mrun P own n m (.inRegion ops is :: k) (env.put o.dst x) Δ' else (.inRegion ops (i :: is) :: k, env, Δ)
         | none => (.inRegion ops (i :: is) :: k, env, Δ)
 | m + 1, todo, env, Δ => (todo, env, Δ)
theorem J_mrun {own : List Nat} : ∀ {m : Nat} {todo todo' : List Item} {env env' : Env} {Δ Δ' : List HP}, mrun P own n m todo env Δ = (todo', env', Δ') → J P f n R todo' env' Δ' → J P f n R todo env Δ := by
 intro m
 induction m with
 | zero =>
   intro todo todo' env env' Δ Δ' h hj
   have h0 : mrun P own n 0 todo env Δ = (todo, env, Δ) := by (unfold mrun; rfl)
   obtain ⟨rfl, e⟩ := Prod.mk.inj (h0.symm.trans h); obtain ⟨rfl, rfl⟩ := Prod.mk.inj e; exact hj
 | succ m ih =>
   intro todo todo' env env' Δ Δ' h hj
   have same : ∀ {t : List Item} {e : Env} {D : List HP}, (t, e, D) = (todo', env', Δ') → t = todo → e = env → D = Δ → J P f n R todo env Δ := by
     intro t e D hh e1 e2 e3
     obtain ⟨q1, q⟩ := Prod.mk.inj hh
     obtain ⟨q2, q3⟩ := Prod.mk.inj q
     rw [← e1, ← e2, ← e3, q1, q2, q3]; exact hj
   unfold mrun at h
   split at h
   · rename_i e; exact absurd e (by simp)
   · rename_i e; obtain rfl := Nat.succ.inj e; exact J_seq (ih h hj)
   · rename_i e; obtain rfl := Nat.succ.inj e; exact J_skip (ih h hj)
   · rename_i e; obtain rfl := Nat.succ.inj e; exact J_block (ih h hj)
   · rename_i e; obtain rfl := Nat.succ.inj e; exact J_inBlock (ih h hj)
   · rename_i e; obtain rfl := Nat.succ.inj e
     split at h
     · rename_i hk; exact J_exit hk (ih h hj)
     · exact same h rfl rfl rfl
   · rename_i e; obtain rfl := Nat.succ.inj e; exact J_region (ih h hj)
   · rename_i e; obtain rfl := Nat.succ.inj e; exact J_rend (ih h hj)
   · rename_i e; obtain rfl := Nat.succ.inj e
     split at h
     · exact same h rfl rfl rfl
     · rename_i o ho
       split at h
       · exact same h rfl rfl rfl
       · rename_i hw
         split at h
         · rename_i hd; exact J_skipop ho hw hd (ih h hj)
         · exact same h rfl rfl rfl
       · rename_i hw
         split at h
         · exact same h rfl rfl rfl
         · split at h
           · rename_i x hx
             split at h
             · rename_i hd; exact J_astep ho hw hd hx (ih h hj)
             · exact same h rfl rfl rfl
           · split at h
             · rename_i x D hx
               split at h
               · rename_i hd; exact J_mstep ho hw hd hx (ih h hj)
               · exact same h rfl rfl rfl
             · exact same h rfl rfl rfl
   · exact same h rfl rfl rfl
def fresh : List HP → Nat → Prop
 | [], _ => True
 | .box b' _ _ :: Δ, b => b' ≠ b ∧ b ≠ b' ∧ fresh Δ b
 | .row b' _ _ _ _ :: Δ, b => b' ≠ b ∧ b ≠ b' ∧ fresh Δ b
 | .map b' _ :: Δ, b => b' ≠ b ∧ b ≠ b' ∧ fresh Δ b
 | .pred _ :: Δ, b => fresh Δ b
theorem fresh_of {g : G} {b : Nat} : ∀ {Δ : List HP} {B : Nat → Prop}, sep Δ g B → ¬ B b → fresh Δ b
 | [], _, _, _ => trivial
 | .box b' _ _ :: Δ, B, ⟨B1, h1, h2, h3⟩, hn => ⟨fun e => hn (e ▸ h1 _ h2.1), fun e => hn (e ▸ h1 _ h2.1), fresh_of h3 (fun h => hn h.1)⟩
 | .row b' _ _ _ _ :: Δ, B, ⟨B1, h1, h2, h3⟩, hn => ⟨fun e => hn (e ▸ h1 _ h2.1), fun e => hn (e ▸ h1 _ h2.1), fresh_of h3 (fun h => hn h.1)⟩
 | .map b' _ :: Δ, B, ⟨B1, h1, h2, h3⟩, hn => ⟨fun e => hn (e ▸ h1 _ h2.1), fun e => hn (e ▸ h1 _ h2.1), fresh_of h3 (fun h => hn h.1)⟩
 | .pred x :: Δ, B, ⟨B1, h1, h2, h3⟩, hn => by have := fresh_of (Δ := Δ) h3 (fun h => hn h.1); simpa only [fresh] using this
theorem grow_sim {g : G} {B : Nat → Prop} {Δ : List HP} {x : HP} {o : Obj} (sm : Sim g B Δ) (hx : x.toH.p (g.grow o) (fun b => b = g.w.heap.size)) :
   Ext g B (g.grow o) (fun b => B b ∨ b = g.w.heap.size) ∧ Sim (g.grow o) (fun b => B b ∨ b = g.w.heap.size) (x :: Δ) := by
 have hsz : (g.grow o).w.heap.size = g.w.heap.size + 1 := by simp [G.grow, World.push]
 refine ⟨⟨rfl, rfl, rfl, by omega, fun b hb _ => push_get hb, fun _ h => h, fun _ h => .inl h, fun b hb => hb.imp id (fun h => by omega)⟩, ?_⟩
 refine ⟨fun b hb => by have := sm.fzlt b hb; omega, fun b hb => by rcases hb with h | h; (· have := sm.blt b h; omega); (· omega), fun b hb hn => ?_, ?_⟩
 · rcases hn with h | h
   · exact sm.disj b hb h
   · have := sm.fzlt b hb; omega
 · refine ⟨fun b => b = g.w.heap.size, fun b hb => .inr hb, hx, ?_⟩
   refine sep_mono sm.sep (fun b hb => ⟨.inl hb, fun e => by have := sm.blt b hb; omega⟩) (fun _ h => h) (fun b hb => push_get (hb.elim (sm.fzlt b) (sm.blt b)))
theorem J_new {ops : Array Oper} {i : Nat} {is : List Nat} {o : Oper} {t : TypeId} {cells : List AV} (ho : ops[i]? = some o) (hw : awanted ops env o = some true) (hd : o.dst.all (· < n) = true)
   (hx : (∃ x y, o.op = .box t x ∧ env.eval x = some y ∧ cellsOf y = cells) ∨ (o.op = .alloc t ∧ ∃ zs, tkZero P t = some zs ∧ zs.map .c = cells))
   (h : ∀ b, fresh Δ b → J P f n R (.inRegion ops is :: k) (env.put o.dst (.c (.pointer (some ⟨b, 0, none⟩)))) (.box b t cells :: Δ)) : J P f n R (.inRegion ops (i :: is) :: k) env Δ := by
 refine J_op (K := fun y Δ1 => ∃ b, fresh Δ b ∧ y = .c (.pointer (some ⟨b, 0, none⟩)) ∧ Δ1 = .box b t cells :: Δ) ho hw hd ?_ ?_
 · intro g B tmps sm he
   have hfr : fresh Δ g.w.heap.size := fresh_of sm.sep (fun hB => by have := sm.blt _ hB; omega)
   have fin : ∀ cs : List Value, relL g cells cs → Ext g B (g.grow (.cells cs.toArray t)) (fun b => B b ∨ b = g.w.heap.size) ∧ Sim (g.grow (.cells cs.toArray t)) (fun b => B b ∨ b = g.w.heap.size) (.box g.w.heap.size t cells :: Δ) := by
     intro cs hcs
     refine grow_sim sm ⟨rfl, cs, push_new, ?_⟩
     exact relL_mono (g := g) (g' := g.grow _) ⟨fun _ h => h, fun b hb => push_get (sm.fzlt b hb)⟩ _ _ hcs
   rcases hx with ⟨x, y, hop, hy, rfl⟩ | ⟨hop, zs, hz, rfl⟩
   · obtain ⟨cs, h1, h2⟩ := cellsOf_rel (Env.eval_rel he hy)
     obtain ⟨k1, k2⟩ := fin cs h2
     refine ⟨_, _, _, _, .value (.pointer (some ⟨g.w.heap.size, 0, none⟩)), _, ?_, .inl rfl, k1, k2, by simp only [rel], g.w.heap.size, hfr, rfl, rfl⟩
     simp only [execOp, hop, Instr.box, newVar, newRow, h1, Sem.run_bind, run_newObj, Result.andThen_ok, Sem.run_pure]
     rfl
   · obtain ⟨z, hz1, hz2⟩ := run_zero (P := P) (w := g.w) hz
     obtain ⟨k1, k2⟩ := fin zs (relL_consts zs)
     refine ⟨_, _, _, _, .value (.pointer (some ⟨g.w.heap.size, 0, none⟩)), _, ?_, .inl rfl, k1, k2, by simp only [rel], g.w.heap.size, hfr, rfl, rfl⟩
     simp only [execOp, hop, Instr.alloc, newVar, newRow, hz1, hz2, Sem.run_bind, run_newObj, Result.andThen_ok, Sem.run_pure]
     rfl
 · rintro y Δ1 ⟨b, hb, e1, e2⟩; rw [e1, e2]; exact h b hb
theorem sep_freeze {g : G} {b : Nat} {t : TypeId} {cells : List AV} {Δ : List HP} {B : Nat → Prop} (sm : Sim g B (.box b t cells :: Δ)) :
   ∃ B', Ext g B ⟨fun b' => g.fz b' ∨ b' = b, g.w⟩ B' ∧ Sim ⟨fun b' => g.fz b' ∨ b' = b, g.w⟩ B' Δ ∧ relC ⟨fun b' => g.fz b' ∨ b' = b, g.w⟩ b 0 cells := by
 obtain ⟨B1, h1, ⟨hb, cs, hc1, hc2⟩, h3⟩ := sm.sep
 have hB := h1 b hb
 refine ⟨fun b' => B b' ∧ b' ≠ b, ⟨rfl, rfl, rfl, Nat.le_refl _, fun _ _ _ => rfl, fun _ h => .inl h, fun b' hb' => hb'.elim .inl (fun e => .inr (.inl (e ▸ hB))), fun b' hb' => .inl hb'.1⟩, ?_, ?_⟩
 · refine ⟨fun b' hb' => hb'.elim (sm.fzlt b') (fun e => e ▸ sm.blt b hB), fun b' hb' => sm.blt b' hb'.1, fun b' hb' hn => hb'.elim (fun h => sm.disj b' h hn.1) (fun e => hn.2 e), ?_⟩
   exact sep_mono h3 (fun b' hb' => ⟨hb'.1, fun e => hb'.2 (e ▸ hb)⟩) (fun _ h => .inl h) (fun _ _ => rfl)
 · exact block_relC hc1 (relL_mono (g := g) (g' := ⟨fun b' => g.fz b' ∨ b' = b, g.w⟩) ⟨fun _ h => .inl h, fun _ _ => rfl⟩ _ _ hc2)
theorem J_freeze {s b o : Nat} {t : TypeId} {cells : List AV} {todo : List Item} (hs : env.get s = some (.c (.pointer (some ⟨b, o, none⟩)))) (h : J P f n R todo ((s, .fp (cells.drop o)) :: env) Δ) : J P f n R todo env (.box b t cells :: Δ) := by
 intro g B tmps sm hn he bf cs hb hk
 obtain ⟨B', h1, h2, h3⟩ := sep_freeze sm
 have hle : Le g ⟨fun b' => g.fz b' ∨ b' = b, g.w⟩ := ⟨fun _ h => .inl h, fun _ _ => rfl⟩
 obtain ⟨e, w', fr, k1, k2⟩ := h ⟨fun b' => g.fz b' ∨ b' = b, g.w⟩ B' tmps h2 hn (by
   intro j x hx
   simp only [Env.get] at hx
   by_cases hj : s = j
   · subst hj
     simp only [if_true, Option.some.injEq] at hx; subst hx
     obtain ⟨v, v1, v2⟩ := he s _ hs
     refine ⟨v, v1, ?_⟩
     simp only [rel] at v2 ⊢
     subst v2
     refine ⟨b, o, rfl, .inr rfl, ?_⟩
     have := relC_drop h3 o
     rwa [Nat.zero_add] at this
   · simp only [hj, if_false] at hx
     obtain ⟨v, v1, v2⟩ := he j x hx
     exact ⟨v, v1, rel_mono hle _ _ v2⟩) bf cs hb hk
 exact ⟨e, w', fr, k1.ext h1, k2⟩
theorem J_drop {x : HP} {todo : List Item} (h : J P f n R todo env Δ) : J P f n R todo env (x :: Δ) :=
 J_sep (fun g B sm => let ⟨_, _, _, h3⟩ := sm.sep; sep_mono h3 (fun _ h => h.1) (fun _ h => h) (fun _ _ => rfl)) h
theorem J_perm {Δ' : List HP} {todo : List Item} (hp : Δ.Perm Δ') (h : J P f n R todo env Δ') : J P f n R todo env Δ :=
 J_sep (fun g B sm => sep_perm hp sm.sep) h
def aresultsM (P : Program) (env : Env) (Δ : List HP) : List ResultVar → Option (List AV)
 | [] => some []
 | .tmp t :: rs => match env.get t, aresultsM P env Δ rs with
   | some x, some xs => some (x :: xs)
   | _, _ => none
 | .cell a t :: rs => match env.get a, aresultsM P env Δ rs with
   | some p, some xs => match aload P t p with
     | some x => some (x :: xs)
     | none => match mload P Δ t p with
       | some x => some (x :: xs)
       | none => none
   | _, _ => none
theorem loadAt_asAddr {w : World} {t : TypeId} {u v : Value} (h : (Instr.loadAt t u).run P w = .ok v w) : ((do loadVar t (← asAddr u)) : Sem Value).run P w = .ok v w := by
 unfold Instr.loadAt at h
 cases u with
 | pointer a =>
   cases a with
   | some a => simpa [Instr.sureAddr, asAddr] using h
   | none => simp [Instr.sureAddr] at h
 | _ => simp [Instr.sureAddr] at h
theorem resultsM_run {g : G} {B : Nat → Prop} {tmps : Array Value} (sm : Sim g B Δ) (he : EnvR g env tmps) : ∀ {rs : List ResultVar} {xs : List AV}, aresultsM P env Δ rs = some xs →
   ∃ us : List Value, relL g xs us ∧ (rs.mapM (m := Sem) (resF tmps)).run P g.w = .ok us g.w
 | [], xs, h => by simp only [aresultsM, Option.some.injEq] at h; subst h; exact ⟨[], by simp [relL], by simp⟩
 | .cell a t :: rs, xs, h => by
   simp only [aresultsM] at h
   split at h
   · rename_i p ys hp hy
     obtain ⟨us, h1, h2⟩ := resultsM_run sm he hy
     obtain ⟨v, hv, hr⟩ := he a p hp
     have hg : tmps.getD a undef = v := by simp only [Array.getD_eq_getD_getElem?, hv, Option.getD_some]
     have fin : ∀ x, (∃ u, (Instr.loadAt t v).run P g.w = .ok u g.w ∧ rel g x u) → ∃ us : List Value, relL g (x :: ys) us ∧ ((ResultVar.cell a t :: rs).mapM (m := Sem) (resF tmps)).run P g.w = .ok us g.w := by
       rintro x ⟨u, k1, k2⟩
       refine ⟨u :: us, by simp only [relL]; exact ⟨u, us, rfl, k2, h1⟩, ?_⟩
       have e : resF tmps (.cell a t) = (do loadVar t (← asAddr (tmps.getD a undef))) := rfl
       rw [List.mapM_cons, Sem.run_bind, e, hg, loadAt_asAddr k1, Result.andThen_ok, Sem.run_bind, h2]
       rfl
     split at h
     · rename_i x hx
       simp only [Option.some.injEq] at h; subst h
       exact fin x (aload_ok hx hr)
     · split at h
       · rename_i x hx
         simp only [Option.some.injEq] at h; subst h
         exact fin x (mload_ok sm hx hr)
       · simp at h
   · simp at h
 | .tmp t :: rs, xs, h => by
   simp only [aresultsM] at h
   split at h
   · rename_i x ys hx hy
     simp only [Option.some.injEq] at h
     subst h
     obtain ⟨us, h1, h2⟩ := resultsM_run sm he hy
     obtain ⟨v, hv, hr⟩ := he t x hx
     refine ⟨v :: us, by simp only [relL]; exact ⟨v, us, rfl, hr, h1⟩, ?_⟩
     have hg : tmps.getD t undef = v := by simp only [Array.getD_eq_getD_getElem?, hv, Option.getD_some]
     have e : resF tmps (.tmp t) = pure (tmps.getD t undef) := rfl
     rw [List.mapM_cons, Sem.run_bind, e, hg, Sem.run_pure, Result.andThen_ok, Sem.run_bind, h2]
     rfl
   · simp at h
theorem J_retm {f : FuncId} {fn : Func} {xs : List AV} (hf : P.funcs[f]? = some fn) (hr : aresultsM P env Δ fn.results.toList = some xs) (h : R (.ret (packed xs)) Δ) : J P (.plain f) n R (.code .ret :: k) env Δ := by
 intro g B tmps s hn he b cs hb hk
 obtain ⟨us, h1, h2⟩ := resultsM_run (P := P) s he hr
 obtain ⟨v, k1, k2⟩ : ∃ v, rel g (packed xs) v ∧ (results fn tmps).run P g.w = .ok v g.w := by
   rw [results_def, Array.mapM_eq_mapM_toList, Sem.run_bind, Sem.run_map, h2]
   simp only [Result.andThen_ok, Sem.run_pure]
   cases xs with
   | nil =>
     simp only [relL] at h1; subst h1
     exact ⟨.tuple #[], by simp only [packed, rel]; exact ⟨[], rfl, by simp [relL]⟩, by simp⟩
   | cons x xs =>
     have h0 := h1
     simp only [relL] at h1
     obtain ⟨u, us', rfl, hv, h1⟩ := h1
     cases xs with
     | nil =>
       simp only [relL] at h1; subst h1
       exact ⟨u, by simpa [packed] using hv, by simp⟩
     | cons y xs =>
       simp only [relL] at h1
       obtain ⟨v, vs, rfl, hv', h1⟩ := h1
       exact ⟨.tuple (u :: v :: vs).toArray, by simp only [packed, rel]; exact ⟨_, rfl, h0⟩, by simp⟩
 refine ⟨.returned v, g.w, _, ⟨g, B, .ret (packed xs), Δ, rfl, .refl _ _, s, k1, h⟩, Steps.one (stepR_ret hk.2.1), ?_⟩
 show _ = _ ∧ Frame.leaving _ _ _ _
 refine ⟨hb, rfl, rfl, hk.1, fn, ?_, k2⟩
 simpa [Frame.atR, hb, Shape.plain] using hf
theorem J_retX {f : FuncId} {fn : Func} {X : AV} (hf : P.funcs[f]? = some fn) (hr : (aresultsM P env Δ fn.results.toList).map packed = some X) (h : R (.ret X) Δ) : J P (.plain f) n R (.code .ret :: k) env Δ := by
 cases hx : aresultsM P env Δ fn.results.toList with
 | none => simp [hx] at hr
 | some xs => simp only [hx, Option.map_some, Option.some.injEq] at hr; subst hr; exact J_retm hf hx h
theorem J_dropall {todo : List Item} (h : J P f n R todo env []) : J P f n R todo env Δ := J_sep (fun _ _ _ => by simp only [sep]) h
theorem J_loopI {c : Code} (I : Nat → Env → List HP → Prop) (h0 : ∃ m, I m env Δ)
   (hr : ∀ m env Δ, I m env Δ → (∀ m' env' Δ', m' < m → I m' env' Δ' → J P f n R (.inLoop c :: k) env' Δ') → J P f n R (.code c :: .inLoop c :: k) env Δ) : J P f n R (.code (.loop c) :: k) env Δ := by
 have key : ∀ m env Δ, I m env Δ → J P f n R (.code c :: .inLoop c :: k) env Δ := by
   intro m
   induction m using Nat.strongRecOn with
   | _ m ih => exact fun env Δ hI => hr m env Δ hI fun m' env' Δ' hm hI' => J_inLoop (ih m' hm env' Δ' hI')
 obtain ⟨m, hm⟩ := h0
 exact J_loop (key m env Δ hm)
def Env.keep (env : Env) : List Nat → Option Env
 | [] => some []
 | j :: js => match env.get j, env.keep js with
   | some x, some e => some ((j, x) :: e)
   | _, _ => none
theorem Env.keep_get {env : Env} : ∀ {js : List Nat} {e : Env}, env.keep js = some e → ∀ j x, e.get j = some x → env.get j = some x
 | [], e, h, j, x, hx => by simp only [Env.keep, Option.some.injEq] at h; subst h; simp [Env.get] at hx
 | j0 :: js, e, h, j, x, hx => by
   simp only [Env.keep] at h
   split at h
   · rename_i y e' h1 h2
     simp only [Option.some.injEq] at h; subst h
     simp only [Env.get] at hx
     by_cases hj : j0 = j
     · subst hj; simp only [if_true, Option.some.injEq] at hx; subst hx; exact h1
     · simp only [hj, if_false] at hx; exact Env.keep_get h2 j x hx
   · simp at h
theorem J_keep (js : List Nat) {env' : Env} {todo : List Item} (he : env.keep js = some env') (h : J P f n R todo env' Δ) : J P f n R todo env Δ := J_env (Env.keep_get he) h
end
end
end Go.Av
section
namespace Go.Av
open Go
attribute [go_sem] mrun astep mstep awanted Env.get Env.put Env.eval Env.evalL Env.evalP Env.evalO Env.bool? avBool_some avBool_undef Env.skipped isUndef_undef argEnv abin isShift negIf anil isNil aunary afieldAddr aindexAddr aload ofCells afield aindex
 alen aslice optInt aconv aconvB amkIface aextract aassert abuild afill abox cellsOf aalloc chunk zeros abuildSlice aappend0 srcRows amax acall intOf anilCheck getBox setBox mload mstore AV.isCell
 aresults packed aresultsM Env.keep exitTo fresh callAt rowsBytes bytesRows
attribute [go_sem] Bool.not_true Bool.not_false List.contains_cons Bool.or_false Bool.false_or Bool.or_true Bool.true_or beq_self_eq_true List.range List.range.loop Array.size List.length_cons List.length_nil Nat.reduceAdd List.getElem?_toArray List.getElem?_cons_zero List.getElem?_cons_succ Option.any Option.all List.contains_nil
 Bool.false_eq_true Option.map_some Nat.reduceLT decide_true ite_true ite_false reduceIte
end Go.Av
namespace Go.Av
attribute [go_sem] List.map_cons List.map_nil List.take_succ_cons List.take_zero List.take_nil List.drop_zero List.drop_succ_cons List.drop_nil List.nil_append List.cons_append List.append_nil Option.bind_some Option.bind_none Option.map_none
 Nat.reduceMul Nat.reduceSub Nat.reduceLeDiff Nat.reduceEqDiff List.all_cons List.all_nil Bool.and_self Bool.and_true Bool.true_and and_self and_true true_and Option.some.injEq List.cons.injEq reduceCtorEq not_false_eq_true
end Go.Av
namespace Go.Av
theorem mkStr_data (l : List UInt8) (j : Nat) : (mkStr l).data[j]? = l[j]? := by simp [mkStr]
theorem mkStr_size (l : List UInt8) : (mkStr l).size = l.length := by simp [mkStr, ByteArray.size]
theorem mkStr_toList (l : List UInt8) : (mkStr l).toList = l := by rw [ByteArray.toList_eq]; simp [mkStr]
theorem mkStr_inj (a b : List UInt8) : (mkStr a = mkStr b) = (a = b) := by
 simp only [eq_iff_iff]; exact ⟨fun h => by have := congrArg ByteArray.data h; simpa [mkStr] using this, fun h => by rw [h]⟩
attribute [go_sem] mkStr_data mkStr_size mkStr_toList mkStr_inj Int.toNat_natCast
theorem wrap_i64 {n : Int} (h1 : -9223372036854775808 ≤ n) (h2 : n ≤ 9223372036854775807) : IntKind.i64.wrap n = n := IntWalk.i64_in n ⟨h1, h2⟩
theorem u64_wrap (n : Int) : IntKind.u64.wrap n = n % 18446744073709551616 := by simp [IntKind.wrap, IntKind.signed, IntKind.bits]
theorem wrap_u64 {n : Int} (h1 : 0 ≤ n) (h2 : n < 18446744073709551616) : IntKind.u64.wrap n = n := by rw [u64_wrap]; omega
theorem ashift_shr {k : IntKind} {a b : Int} (hk : k.bits = 64) (ha : 0 ≤ a) (h0 : 0 ≤ b) (h1 : b ≤ 64) : ashift .shr k a b = some (.c (.int k (a / 2 ^ b.toNat))) := by
 unfold ashift
 rw [if_neg (by omega), hk, Nat.min_eq_left (by omega), Int.fdiv_eq_ediv_of_nonneg _ (by exact_mod_cast Nat.zero_le _)]
theorem ashift_shr_u64 {a b : Int} (ha : 0 ≤ a) (h0 : 0 ≤ b) (h1 : b ≤ 64) : ashift .shr .u64 a b = some (.c (.int .u64 (a / 2 ^ b.toNat))) := ashift_shr rfl ha h0 h1
theorem ashift_shr_i64 {a b : Int} (ha : 0 ≤ a) (h0 : 0 ≤ b) (h1 : b ≤ 64) : ashift .shr .i64 a b = some (.c (.int .i64 (a / 2 ^ b.toNat))) := ashift_shr rfl ha h0 h1
attribute [go_sem] wrap_i64 wrap_u64 ashift_shr_u64 ashift_shr_i64
def x64 (a b : Int) : Int := ((BitVec.ofInt 64 a ^^^ BitVec.ofInt 64 b).toNat : Int)
def m64 (a b : Int) : Int := IntKind.u64.wrap (a * b)
def In64 (a : Int) : Prop := 0 ≤ a ∧ a < 18446744073709551616
theorem wrap_in (a : Int) : In64 (IntKind.u64.wrap a) := by unfold In64; rw [u64_wrap]; omega
theorem x64_in (a b : Int) : In64 (x64 a b) := by unfold In64 x64; omega
theorem m64_in (a b : Int) : In64 (m64 a b) := wrap_in _
@[go_sem high] theorem aint_xor_u64 (a b : Int) : aint .xor .u64 a b = some (.c (.int .u64 (x64 a b))) := by
 have h := x64_in a b
 unfold In64 at h
 show some (AV.c (Value.int .u64 (IntKind.u64.wrap (x64 a b)))) = _
 rw [wrap_u64 h.1 h.2]
@[go_sem high] theorem aint_mul_u64 (a b : Int) : aint .mul .u64 a b = some (.c (.int .u64 (m64 a b))) := rfl
section
variable (k : IntKind) (a b : Int)
@[go_sem] theorem aint_add : aint .add k a b = some (.c (.int k (k.wrap (a + b)))) := rfl
@[go_sem] theorem aint_sub : aint .sub k a b = some (.c (.int k (k.wrap (a - b)))) := rfl
@[go_sem] theorem aint_mul_i64 : aint .mul .i64 a b = some (.c (.int .i64 (IntKind.i64.wrap (a * b)))) := rfl
@[go_sem] theorem aint_eql : aint .eql k a b = some (.c (.bool (decide (a = b)))) := rfl
@[go_sem] theorem aint_neq : aint .neq k a b = some (.c (.bool (decide (a ≠ b)))) := rfl
@[go_sem] theorem aint_lss : aint .lss k a b = some (.c (.bool (decide (a < b)))) := rfl
@[go_sem] theorem aint_leq : aint .leq k a b = some (.c (.bool (decide (a ≤ b)))) := rfl
@[go_sem] theorem aint_gtr : aint .gtr k a b = some (.c (.bool (decide (b < a)))) := rfl
@[go_sem] theorem aint_geq : aint .geq k a b = some (.c (.bool (decide (b ≤ a)))) := rfl
@[go_sem] theorem aint_and : aint .and k a b = some (.c (.int k (k.wrap (BitVec.ofInt k.bits a &&& BitVec.ofInt k.bits b).toNat))) := rfl
@[go_sem] theorem aint_or : aint .or k a b = some (.c (.int k (k.wrap (BitVec.ofInt k.bits a ||| BitVec.ofInt k.bits b).toNat))) := rfl
@[go_sem] theorem aint_quo {a b : Int} (ha : 0 ≤ a) (hb : 0 < b) (h2 : a ≤ 9223372036854775807) : aint .quo .i64 a b = some (.c (.int .i64 (a / b))) := by
 have q1 := Int.ediv_nonneg ha (by omega : 0 ≤ b)
 have q2 := Int.ediv_le_self b ha
 have e : IntKind.i64.wrap (a / b) = a / b := wrap_i64 (by omega) (by omega)
 unfold aint; simp only []; rw [if_neg (by omega), Int.tdiv_eq_ediv_of_nonneg ha, e]
@[go_sem] theorem aint_rem {a b : Int} (ha : 0 ≤ a) (hb : 0 < b) : aint .rem k a b = some (.c (.int k (a % b))) := by
 unfold aint; simp only []; rw [if_neg (by omega), Int.tmod_eq_emod_of_nonneg ha]
@[go_sem] theorem aint_quo_u64 {a b : Int} (ha : In64 a) (hb : 0 < b) : aint .quo .u64 a b = some (.c (.int .u64 (a / b))) := by
 obtain ⟨h1, h2⟩ := ha
 have q1 := Int.ediv_nonneg h1 (by omega : 0 ≤ b)
 have q2 := Int.ediv_le_self b h1
 have e : IntKind.u64.wrap (a / b) = a / b := wrap_u64 (by omega) (by omega)
 unfold aint; simp only []; rw [if_neg (by omega), Int.tdiv_eq_ediv_of_nonneg h1, e]
@[go_sem] theorem ashift_shr_x (b : Int) (x y : Int) (h0 : 0 ≤ b) (h1 : b ≤ 64) : ashift .shr .u64 (x64 x y) b = some (.c (.int .u64 (x64 x y / 2 ^ b.toNat))) := ashift_shr_u64 (x64_in _ _).1 h0 h1
@[go_sem] theorem ashift_shr_m (b : Int) (x y : Int) (h0 : 0 ≤ b) (h1 : b ≤ 64) : ashift .shr .u64 (m64 x y) b = some (.c (.int .u64 (m64 x y / 2 ^ b.toNat))) := ashift_shr_u64 (m64_in _ _).1 h0 h1
end
section
variable {α : Sort _} {x y : α}
@[go_sem] theorem ite_int_le {a b : Int} (h : a ≤ b) : (if a ≤ b then x else y) = x := if_pos h
@[go_sem] theorem ite_int_bd {a b c d : Int} (h1 : a ≤ b) (h2 : c < d) : (if a ≤ b ∧ c < d then x else y) = x := if_pos ⟨h1, h2⟩
@[go_sem] theorem ite_nat_le {a b : Nat} (h : a ≤ b) : (if a ≤ b then x else y) = x := if_pos h
end
@[go_sem] theorem cut_hi {len cap : Nat} {h : Int} (h0 : 0 ≤ h) (h1 : h ≤ cap) : cutOf len cap none (some h) none = some (0, h.toNat, cap) := by
 unfold cutOf; simp only [Option.getD_none, Option.getD_some, Option.isSome_none, Option.isSome_some]; rw [if_pos ⟨by omega, by omega, by omega, by omega, by simp⟩]; rfl
@[go_sem] theorem cut_lo {len cap : Nat} {l : Int} (h0 : 0 ≤ l) (h1 : l ≤ len) (h2 : len ≤ cap) : cutOf len cap (some l) none none = some (l.toNat, len, cap) := by
 unfold cutOf; simp only [Option.getD_none, Option.getD_some, Option.isSome_none, Option.isSome_some]; rw [if_pos ⟨by omega, by omega, by omega, by omega, by simp⟩]; rfl
@[go_sem] theorem cut_no {len cap : Nat} (h2 : len ≤ cap) : cutOf len cap none none none = some (0, len, cap) := by
 unfold cutOf; simp only [Option.getD_none, Option.getD_some, Option.isSome_none, Option.isSome_some]; rw [if_pos ⟨by omega, by omega, by omega, by omega, by simp⟩]; rfl
@[go_sem] theorem cut_lohi {len cap : Nat} {l h : Int} (h0 : 0 ≤ l) (h1 : l ≤ h) (h2 : h ≤ cap) : cutOf len cap (some l) (some h) none = some (l.toNat, h.toNat, cap) := by
 unfold cutOf; simp only [Option.getD_none, Option.getD_some, Option.isSome_none, Option.isSome_some]; rw [if_pos ⟨by omega, by omega, by omega, by omega, by simp⟩]; rfl
@[go_sem] theorem cut_all {len cap : Nat} {l h m : Int} (h0 : 0 ≤ l) (h1 : l ≤ h) (h2 : h ≤ m) (h3 : m ≤ cap) : cutOf len cap (some l) (some h) (some m) = some (l.toNat, h.toNat, m.toNat) := by
 unfold cutOf; simp only [Option.getD_none, Option.getD_some, Option.isSome_none, Option.isSome_some]; rw [if_pos ⟨by omega, by omega, by omega, by omega, by simp⟩]
end Go.Av
end
namespace Go.Av
open Go
section
theorem garbage {g : G} {B : Nat → Prop} {Δ : List HP} (sm : Sim g B Δ) (o : Obj) : Ext g B ⟨g.fz, g.w.alloc o⟩ B ∧ Sim ⟨g.fz, g.w.alloc o⟩ B Δ := by
 have hsz : (g.w.alloc o).heap.size = g.w.heap.size + 1 := by show (g.w.heap.push o).size = _; simp
 have hget : ∀ b, b < g.w.heap.size → (g.w.alloc o).heap[b]? = g.w.heap[b]? := fun b hb => push_get hb
 refine ⟨⟨rfl, rfl, rfl, by show _ ≤ (g.w.alloc o).heap.size; omega, fun b hb _ => hget b hb, fun _ h => h, fun _ h => .inl h, fun _ h => .inl h⟩, ?_⟩
 refine ⟨fun b hb => ?_, fun b hb => ?_, sm.disj, sep_mono sm.sep (fun _ h => h) (fun _ h => h) (fun b hb => hget b (hb.elim (sm.fzlt b) (sm.blt b)))⟩
 · have := sm.fzlt b hb; show b < (g.w.alloc o).heap.size; omega
 · have := sm.blt b hb; show b < (g.w.alloc o).heap.size; omega
def HProp.glob (b : Nat) (v : Value) : HProp where
 p g _ := g.fz b ∧ g.w.cell? ⟨b, 0, none⟩ = some v
 mono {g g' B} h hf hw := ⟨hf b h.1, by rw [cell_same (hw b (.inl h.1))]; exact h.2⟩
def HP.glob (b : Nat) (v : Value) : HP := .pred (HProp.glob b v)
theorem glob_spec {g : G} {b : Nat} {v : Value} : ∀ {Δ : List HP} {B : Nat → Prop}, sep Δ g B → HP.glob b v ∈ Δ → g.fz b ∧ g.w.cell? ⟨b, 0, none⟩ = some v
 | [], _, _, h => by simp at h
 | x :: Δ, B, ⟨B1, h1, h2, h3⟩, h => by
   simp only [List.mem_cons] at h
   rcases h with rfl | h
   · exact h2
   · exact glob_spec h3 h
theorem J_calls_glob {P : Program} {f : Shape} {n : Nat} {R : APost} {env : Env} {Δ : List HP} {k : List Item} {ops : Array Oper} {i : Nat} {is : List Nat} {dst : Option Tmp} {h : FuncId} {as : List AV} {Δ1 Fr : List HP} {R1 : APost} {gb : Nat} {gv : Value}
   (hat : callAt ops env n i = some (dst, h, as)) (hin : HP.glob gb gv ∈ Δ) (hspec : ACalls P h as (HP.glob gb gv :: Δ1) R1) (hp : Δ.Perm (Δ1 ++ Fr))
   (hk : ∀ x Δ', R1 (.ret x) Δ' → J P f n R (.inRegion ops is :: k) (env.put dst x) (Δ' ++ Fr)) (hpan : ∀ x Δ', R1 (.pan x) Δ' → f = .plain f.fn ∧ R (.pan x) (Δ' ++ Fr)) :
   J P f n R (.inRegion ops (i :: is) :: k) env Δ := by
 refine J_sep (Δ' := HP.glob gb gv :: Δ) (fun g B sm => ?_) (J_calls hat hspec (Δ1 := HP.glob gb gv :: Δ1) (Fr := Fr) (List.Perm.cons _ hp) hk hpan)
 exact ⟨fun _ => False, fun _ h => h.elim, glob_spec sm.sep hin, sep_mono sm.sep (fun b hb => ⟨hb, id⟩) (fun _ h => h) (fun _ _ => rfl)⟩
theorem J_callg {P : Program} {f : Shape} {n : Nat} {R : APost} {env : Env} {Δ : List HP} {k : List Item} {ops : Array Oper} {i : Nat} {is : List Nat} {dst : Option Tmp} {h : FuncId} {as : List AV} {X : AV} {gb : Nat} {gv : Value}
   (hat : callAt ops env n i = some (dst, h, as)) (hin : HP.glob gb gv ∈ Δ) (hspec : ACalls P h as [HP.glob gb gv] (Ret X))
   (hk : J P f n R (.inRegion ops is :: k) (env.put dst X) Δ) : J P f n R (.inRegion ops (i :: is) :: k) env Δ :=
 J_calls_glob (Δ1 := []) (Fr := Δ) hat hin hspec (List.Perm.refl _) (by rintro x Δ' ⟨e1, rfl⟩; cases e1; exact hk) (by rintro x Δ' ⟨e1, _⟩; cases e1)
theorem four_set {g : G} {B : Nat → Prop} {Δ : List HP} {b : Nat} {t : TypeId} {old x : AV} {v : Value} (sm : Sim g B Δ) (hg : getBox Δ b = some (t, [old])) (o1 o2 o3 o4 : Obj) (hx : rel g x v) :
   ∃ g' : G, g'.w = ((((g.w.alloc o1).alloc o2).alloc o3).alloc o4).setCell ⟨b, 0, none⟩ v ∧ Ext g B g' B ∧ Sim g' B (setBox Δ b [x]) := by
 obtain ⟨e1, s1⟩ := garbage sm o1
 obtain ⟨e2, s2⟩ := garbage s1 o2
 obtain ⟨e3, s3⟩ := garbage s2 o3
 obtain ⟨e4, s4⟩ := garbage s3 o4
 have ex := ((e1.trans e2).trans e3).trans e4
 let g4 : G := ⟨g.fz, (((g.w.alloc o1).alloc o2).alloc o3).alloc o4⟩
 have hx4 : rel g4 x v := rel_mono (sm.le ex) _ _ hx
 obtain ⟨hB, cs, h1, h2⟩ := getBox_spec s4.sep hg
 have hlt := s4.blt b hB
 have hnf : ¬ g4.fz b := fun hf => s4.disj b hf hB
 have hl : cs.length = 1 := by simpa using relL_length h2
 obtain ⟨c, rfl⟩ : ∃ c, cs = [c] := by
   cases cs with
   | nil => simp at hl
   | cons c cs => cases cs with
     | nil => exact ⟨c, rfl⟩
     | cons _ _ => simp at hl
 have hupd : g4.w.setCell ⟨b, 0, none⟩ v = World.upd g4.w b t [v] := by
   have := setCell_upd (t := t) (cs := [c]) (o := 0) (v := v) hlt
   rw [upd_eq h1] at this
   simpa using this
 have hle : Le g4 ⟨g4.fz, World.upd g4.w b t [v]⟩ := ⟨fun _ h => h, fun b' hb' => upd_ne (by rintro rfl; exact hnf hb')⟩
 refine ⟨⟨g.fz, World.upd g4.w b t [v]⟩, by rw [← hupd], ex.trans ?_, ?_⟩
 · exact ⟨rfl, rfl, rfl, by simp [World.upd, g4], fun b' _ hn => upd_ne (by rintro rfl; exact hn hB), fun _ h => h, fun _ h => .inl h, fun _ h => .inl h⟩
 · refine ⟨fun b' hb' => by have := s4.fzlt b' hb'; simpa [World.upd, g4] using this, fun b' hb' => by have := s4.blt b' hb'; simpa [World.upd, g4] using this, s4.disj, ?_⟩
   exact setBox_sep hnf hlt (by simp only [relL]; exact ⟨v, [], rfl, rel_mono hle _ _ hx4, rfl⟩) s4.sep hg
theorem J_true {P : Program} {f : Shape} {n : Nat} {R : APost} {env : Env} {Δ : List HP} {k : List Item} {c : Operand} {x y : Code} (hc : env.eval c = some (.c (.bool true))) (h : J P f n R (.code x :: k) env Δ) : J P f n R (.code (.cond c x y) :: k) env Δ := J_cond hc h
theorem J_false {P : Program} {f : Shape} {n : Nat} {R : APost} {env : Env} {Δ : List HP} {k : List Item} {c : Operand} {x y : Code} (hc : env.eval c = some (.c (.bool false))) (h : J P f n R (.code y :: k) env Δ) : J P f n R (.code (.cond c x y) :: k) env Δ := J_cond hc h
theorem J_newbox {P : Program} {f : Shape} {n : Nat} {R : APost} {env : Env} {Δ : List HP} {k : List Item} {ops : Array Oper} {i : Nat} {is : List Nat} {t : TypeId} {d : Tmp} {x : Operand} {y : AV} {cells : List AV} {ty : TypeId} {pos : String} {aft : Array Edge} (ho : ops[i]? = some ⟨some d, .box t x, ty, pos, aft, none⟩)
   (hd : d < n) (hy : (env.eval x).map cellsOf = some cells) (h : ∀ b, fresh Δ b → J P f n R (.inRegion ops is :: k) ((d, .c (.pointer (some ⟨b, 0, none⟩))) :: env) (.box b t cells :: Δ)) : J P f n R (.inRegion ops (i :: is) :: k) env Δ := by
 cases hx : env.eval x with
 | none => simp [hx] at hy
 | some y => simp only [hx, Option.map_some, Option.some.injEq] at hy; exact J_new ho rfl (by simpa using hd) (.inl ⟨x, y, rfl, hx, hy⟩) h
theorem J_newvar {P : Program} {f : Shape} {n : Nat} {R : APost} {env : Env} {Δ : List HP} {k : List Item} {ops : Array Oper} {i : Nat} {is : List Nat} {t : TypeId} {d : Tmp} {cells : List AV} {ty : TypeId} {pos : String} {aft : Array Edge} (ho : ops[i]? = some ⟨some d, .alloc t, ty, pos, aft, none⟩)
   (hd : d < n) (hy : (tkZero P t).map (·.map AV.c) = some cells) (h : ∀ b, fresh Δ b → J P f n R (.inRegion ops is :: k) ((d, .c (.pointer (some ⟨b, 0, none⟩))) :: env) (.box b t cells :: Δ)) : J P f n R (.inRegion ops (i :: is) :: k) env Δ := by
 cases hx : tkZero P t with
 | none => simp [hx] at hy
 | some zs => simp only [hx, Option.map_some, Option.some.injEq] at hy; exact J_new ho rfl (by simpa using hd) (.inr ⟨rfl, zs, hx, hy⟩) h
end
end Go.Av
