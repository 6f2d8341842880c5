/- A part of the proof: what the calls do, told by values. -/
import Derived.Test.YtdnhcpbammfmlaaGreatDoorA5
import Derived.RangeFuncRecord
set_option linter.unusedVariables false
set_option linter.unusedSimpArgs false
namespace Go.Av
open Go
section
def HProp.obj (b : Nat) (o : Obj) : HProp where
 p g B := B b ∧ g.w.heap[b]? = some o
 mono {g g' B} h hf hw := ⟨h.1, by rw [hw b (.inr h.1)]; exact h.2⟩
def HP.obj (b : Nat) (o : Obj) : HP := .pred (HProp.obj b o)
def HProp.envp (n : Nat) (env : Env) (tmps : Array Value) : HProp where
 p g _ := tmps.size = n ∧ EnvR g env tmps
 mono {g g' B} h hf hw := ⟨h.1, h.2.mono ⟨hf, fun b hb => hw b (.inl hb)⟩⟩
def HP.envp (n : Nat) (env : Env) (tmps : Array Value) : HP := .pred (HProp.envp n env tmps)
theorem obj_at {g : G} {B : Nat → Prop} {Δ : List HP} {b : Nat} {o : Obj} (sm : Sim g B (HP.obj b o :: Δ)) : g.w.heap[b]? = some o := sm.sep.choose_spec.2.1.2
theorem obj_put {g : G} {B : Nat → Prop} {Δ : List HP} {b : Nat} {o : Obj} (o' : Obj) (sm : Sim g B (HP.obj b o :: Δ)) :
   Ext g B ⟨g.fz, World.putB g.w b o'⟩ B ∧ Sim ⟨g.fz, World.putB g.w b o'⟩ B (HP.obj b o' :: Δ) := by
 obtain ⟨B1, h1, ⟨hb, hh⟩, h3⟩ := sm.sep
 have hB := h1 b hb
 have hlt := sm.blt b hB
 have hnf : ¬ g.fz b := fun hf => sm.disj b hf hB
 refine ⟨⟨rfl, rfl, rfl, by simp [World.putB], fun b' _ hn => putB_ne (by rintro rfl; exact hn hB), fun _ h => h, fun _ h => .inl h, fun _ h => .inl h⟩, ?_⟩
 refine ⟨fun b' hb' => by simpa [World.putB] using sm.fzlt b' hb', fun b' hb' => by simpa [World.putB] using sm.blt b' hb', sm.disj, B1, h1, ⟨hb, putB_self hlt⟩, ?_⟩
 refine sep_mono h3 (fun _ h => h) (fun _ h => h) (fun b' hb' => putB_ne ?_)
 rintro rfl
 exact hb'.elim hnf (fun h => h.2 hb)
theorem drop_sim {g : G} {B : Nat → Prop} {x : HP} {Δ : List HP} (sm : Sim g B (x :: Δ)) : Sim g B Δ :=
 ⟨sm.fzlt, sm.blt, sm.disj, let ⟨_, _, _, h3⟩ := sm.sep; sep_mono h3 (fun _ h => h.1) (fun _ h => h) (fun _ _ => rfl)⟩
theorem perm_sim {g : G} {B : Nat → Prop} {Δ Δ' : List HP} (sm : Sim g B Δ) (hp : Δ.Perm Δ') : Sim g B Δ' := ⟨sm.fzlt, sm.blt, sm.disj, sep_perm hp sm.sep⟩
theorem envp_at {g : G} {n : Nat} {env : Env} {tmps : Array Value} : ∀ {Δ : List HP} {B : Nat → Prop}, sep Δ g B → HP.envp n env tmps ∈ Δ → tmps.size = n ∧ EnvR g env tmps
 | [], _, _, h => by simp at h
 | x :: Δ, B, ⟨B1, h1, h2, h3⟩, h => by
   simp only [List.mem_cons] at h
   rcases h with rfl | h
   · exact h2
   · exact envp_at h3 h
@[go_sem] theorem getBox_obj {b b' : Nat} {o : Obj} {Δ : List HP} : getBox (HP.obj b o :: Δ) b' = getBox Δ b' := rfl
@[go_sem] theorem getBox_envp {n b' : Nat} {e : Env} {t : Array Value} {Δ : List HP} : getBox (HP.envp n e t :: Δ) b' = getBox Δ b' := rfl
@[go_sem] theorem setBox_obj {b b' : Nat} {o : Obj} {c : List AV} {Δ : List HP} : setBox (HP.obj b o :: Δ) b' c = HP.obj b o :: setBox Δ b' c := rfl
@[go_sem] theorem setBox_envp {n b' : Nat} {e : Env} {t : Array Value} {c : List AV} {Δ : List HP} : setBox (HP.envp n e t :: Δ) b' c = HP.envp n e t :: setBox Δ b' c := rfl
@[go_sem] theorem getMap_obj {b b' : Nat} {o : Obj} {Δ : List HP} : getMap (HP.obj b o :: Δ) b' = getMap Δ b' := rfl
@[go_sem] theorem getMap_envp {n b' : Nat} {e : Env} {t : Array Value} {Δ : List HP} : getMap (HP.envp n e t :: Δ) b' = getMap Δ b' := rfl
@[go_sem] theorem fresh_obj {b b' : Nat} {o : Obj} {Δ : List HP} : fresh (HP.obj b o :: Δ) b' = fresh Δ b' := rfl
@[go_sem] theorem fresh_envp {n b' : Nat} {e : Env} {t : Array Value} {Δ : List HP} : fresh (HP.envp n e t :: Δ) b' = fresh Δ b' := rfl
theorem J_have {P : Program} {f : Shape} {n : Nat} {R : APost} {todo : List Item} {env : Env} {Δ : List HP} (φ : Prop) (h1 : ∀ g B, Sim g B Δ → φ) (h2 : φ → J P f n R todo env Δ) : J P f n R todo env Δ :=
 fun g B tmps s hn he b cs hb hk => h2 (h1 g B s) g B tmps s hn he b cs hb hk
def Shape.inRound (f : FuncId) (l : Nat) : Shape := { fn := f, round := some l, defers := [] }
def Shape.marked (f : FuncId) (r : Nat) : Shape := { fn := f, round := none, defers := [{ target := .collected r, args := #[] }] }
structure AYields (P : Program) (l : Nat) (args : List AV) (Δ : List HP) (R : APost) : Prop where
 run : ∀ g B us, Sim g B Δ → relL g args us → ∃ fn tmps assign body, (Instr.yield l us.toArray).run P g.w = .ok (.round l fn tmps assign body) g.w ∧
   ∀ (c : Frame) cs, ∃ v w', Post R g B (.returned v) w' ∧ Steps P (lone (Frame.round l fn tmps assign body .normal) (c :: cs) g.w) (lone (c.finish v) cs w')
theorem AYields.mono {P : Program} {l : Nat} {args : List AV} {Δ : List HP} {R R' : APost} (h : AYields P l args Δ R) (hr : ∀ a Δ, R a Δ → R' a Δ) : AYields P l args Δ R' :=
 ⟨fun g B us s r => let ⟨fn, t, a, b, h1, h2⟩ := h.run g B us s r; ⟨fn, t, a, b, h1, fun c cs => let ⟨v, w', p, q⟩ := h2 c cs; ⟨v, w', p.mono hr, q⟩⟩⟩
theorem AYields.under {P : Program} {l : Nat} {args : List AV} {Δ Fr Δ0 : List HP} {R : APost} (h : AYields P l args Δ R) (hp : Δ0.Perm (Δ ++ Fr)) : AYields P l args Δ0 (fun a Δ' => ∃ Δ1, Δ' = Δ1 ++ Fr ∧ R a Δ1) := by
 refine ⟨fun g B us s0 r => ?_⟩
 have s := perm_sim s0 hp
 obtain ⟨B1, h1, h2, h3⟩ := sep_append s.sep
 obtain ⟨fn, t, as, bd, q1, q2⟩ := h.run g B1 us ⟨s.fzlt, fun b hb => s.blt b (h1 b hb), fun b hb hn => s.disj b hb (h1 b hn), h2⟩ r
 refine ⟨fn, t, as, bd, q1, fun c cs => ?_⟩
 obtain ⟨v, w', ⟨g', B', a, Δ', rfl, hx, hs, hr, hR⟩, hst⟩ := q2 c cs
 refine ⟨v, _, ⟨g', fun b => B' b ∨ (B b ∧ ¬ B1 b), a, Δ' ++ Fr, rfl, ?_, ?_, hr, Δ', rfl, hR⟩, hst⟩
 · exact ⟨hx.os, hx.tape, hx.output, hx.size, fun b hb hn => hx.keep b hb (fun h => hn (h1 b h)), hx.fz, fun b hb => (hx.fzo b hb).imp id (.imp (h1 b) id),
     fun b hb => hb.elim (fun h => (hx.own b h).imp (h1 b) id) (fun h => .inl h.1)⟩
 · refine ⟨hs.fzlt, fun b hb => hb.elim (hs.blt b) (fun h => Nat.lt_of_lt_of_le (s.blt b h.1) hx.size), fun b hb hn => ?_, ?_⟩
   · rcases hn with hn | hn
     · exact hs.disj b hb hn
     · rcases hx.fzo b hb with h | h | h
       · exact s.disj b h hn.1
       · exact hn.2 h
       · have := s.blt b hn.1; omega
   · refine sep_join (B1 := B') (fun _ h => .inl h) hs.sep (sep_mono h3 (fun b hb => ⟨.inr hb, fun h => ?_⟩) hx.fz (fun b hb => ?_))
     · rcases hx.own b h with h | h
       · exact hb.2 h
       · have := s.blt b hb.1; omega
     · rcases hb with hb | hb
       · exact hx.keep b (s.fzlt b hb) (fun h => s.disj b hb (h1 b h))
       · exact hx.keep b (s.blt b hb.1) hb.2
def envPuts : Env → List Tmp → List AV → Env
 | e, p :: ps, a :: as => envPuts ((p, a) :: e) ps as
 | e, _, _ => e
theorem envPuts_rel {g : G} {n : Nat} : ∀ {ps : List Tmp} {as : List AV} {us : List Value} {env : Env} {tmps : Array Value}, tmps.size = n → EnvR g env tmps → relL g as us → (∀ p ∈ ps, p < n) → as.length = ps.length →
   ((ps.zip us).foldl (fun tmps (t, a) => tmps.setIfInBounds t a) tmps).size = n ∧ EnvR g (envPuts env ps as) ((ps.zip us).foldl (fun tmps (t, a) => tmps.setIfInBounds t a) tmps) := by
 intro ps
 induction ps with
 | nil =>
   intro as us env tmps hn he hr hp hl
   have : as = [] := List.eq_nil_of_length_eq_zero hl
   subst this
   simp only [relL] at hr; subst hr
   exact ⟨by simpa using hn, by simpa [envPuts] using he⟩
 | cons p ps ih =>
   intro as us env tmps hn he hr hp hl
   cases as with
   | nil => simp at hl
   | cons a as =>
     simp only [relL] at hr
     obtain ⟨v, vs, rfl, h1, h2⟩ := hr
     have he' : EnvR g ((p, a) :: env) (tmps.setIfInBounds p v) := by
       have := EnvR.put he (d := some p) (x := a) (v := v) (fun k hk => by cases hk; rw [hn]; exact hp p (by simp)) h1
       simpa [Env.put, Act.put] using this
     have := ih (as := as) (us := vs) (env := (p, a) :: env) (tmps := tmps.setIfInBounds p v) (by simpa using hn) he' h2 (fun q hq => hp q (by simp [hq])) (by simpa using hl)
     simpa [envPuts] using this
section
variable {P : Program} {n : Nat} {R : APost} {env : Env} {Δ : List HP} {k : List Item}
theorem JR_end {f : FuncId} {l : Nat} (h : R (.ret (.c (.bool true))) Δ) : J P (.inRound f l) n R [] env Δ := by
 intro g B tmps s hn he b cs hb hk
 refine ⟨.returned (.bool true), g.w, _, ⟨g, B, _, Δ, rfl, .refl _ _, s, (by simp [endRel, rel]), h⟩, Steps.refl _ _, ?_⟩
 show ∃ _ _, _
 exact ⟨tmps, [], rfl, .inl ⟨rfl, rfl⟩⟩
theorem JR_ret {f : FuncId} {l : Nat} (h : R (.ret (.c (.bool false))) Δ) : J P (.inRound f l) n R (.code .ret :: k) env Δ := by
 intro g B tmps s hn he b cs hb hk
 refine ⟨.returned (.bool false), g.w, _, ⟨g, B, _, Δ, rfl, .refl _ _, s, (by simp [endRel, rel]), h⟩, Steps.refl _ _, ?_⟩
 show ∃ _ _, _
 exact ⟨tmps, .code .ret :: k, rfl, .inr ⟨rfl, k, rfl⟩⟩
theorem J_beginRound {f : FuncId} {l : Nat} {r : Loop} (hst : r.state = .ready) (h : J P (.inRound f l) n R k env (HP.obj l (.loop { r with state := .busy }) :: Δ)) : J P (.inRound f l) n R (.beginRound :: k) env (HP.obj l (.loop r) :: Δ) := by
 intro g B tmps s hn he b cs hb hk
 obtain ⟨hx, hs⟩ := obj_put (.loop { r with state := .busy }) s
 obtain ⟨e, w', fr, h1, h2, h3⟩ := h _ B tmps hs hn (he.mono (s.le hx)) b cs hb hk
 exact ⟨e, w', fr, h1.ext hx, .of_steps (.one (stepR_beginRound hk.2.1 (run_beginRound (obj_at s) hst))) h2, h3⟩
theorem yields_of_J {f : FuncId} {l : Nat} {r : Loop} {ps : List Tmp} {args : List AV} {R1 : APost} (hst : r.state = .ready) (hpd : r.pending = none) (hps : r.params = ps.toArray) (hlen : args.length = ps.length) (hlt : ∀ p ∈ ps, p < n)
   (hfn : r.fn = f) (hf : ∃ fn, P.funcs[f]? = some fn) (hJ : J P (.inRound f l) n R1 [.code r.assign, .beginRound, .code r.body] (envPuts env ps args) (HP.obj l (.loop r) :: HP.envp n env r.tmps :: Δ))
   (hR : ∀ x Δ', R1 x Δ' → ∃ Δ2, Δ'.Perm (HP.obj l (.loop { r with state := .busy }) :: Δ2) ∧ ((x = .ret (.c (.bool true)) ∧ R (.ret (.c (.bool true))) (HP.obj l (.loop r) :: Δ2)) ∨
     (x = .ret (.c (.bool false)) ∧ R (.ret (.c (.bool false))) (HP.obj l (.loop { r with state := .done, pending := some .ret }) :: Δ2)))) :
   AYields P l args (HP.obj l (.loop r) :: HP.envp n env r.tmps :: Δ) R := by
 refine ⟨fun g B us sm hr => ?_⟩
 obtain ⟨hn, he⟩ := envp_at sm.sep (n := n) (env := env) (tmps := r.tmps) (by simp)
 obtain ⟨hn', he'⟩ := envPuts_rel (us := us) hn he hr hlt hlen
 have hul : us.length = ps.length := (relL_length hr).trans hlen
 refine ⟨r.fn, _, r.assign, r.body, run_yield (obj_at sm) (by simp [hps, hul]), fun c cs => ?_⟩
 rw [hps, hfn, show (ps.toArray.zip us.toArray).foldl (fun tmps (t, a) => tmps.setIfInBounds t a) r.tmps = (ps.zip us).foldl (fun tmps (t, a) => tmps.setIfInBounds t a) r.tmps from by simp]
 let b : Frame := { (default : Frame) with fn := f, kind := .normal, roundOf := some l }
 obtain ⟨e, w', fr, ⟨g', B', a, Δ', rfl, hx, hs, hend, hR1⟩, hcomes, hends⟩ := hJ g B _ sm hn' he' b (c :: cs) rfl ⟨rfl, rfl, hf⟩
 obtain ⟨tmps2, todo, rfl, hcase⟩ := hends
 obtain ⟨Δ2, hp, hor⟩ := hR a Δ' hR1
 have hs2 := perm_sim hs hp
 have hround : Frame.round l f ((ps.zip us).foldl (fun tmps (t, a) => tmps.setIfInBounds t a) r.tmps) r.assign r.body .normal = b.atR { tmps := (ps.zip us).foldl (fun tmps (t, a) => tmps.setIfInBounds t a) r.tmps, defers := [] } [.code r.assign, .beginRound, .code r.body] := by
   simp [Frame.round, Frame.atR, b]
 rw [hround]
 rcases hcase with ⟨rfl, rfl⟩ | ⟨rfl, k, rfl⟩
 · rcases hor with ⟨rfl, hRt⟩ | ⟨rfl, _⟩
   · obtain ⟨hx3, hs3⟩ := obj_put (.loop r) hs2
     have hrec : ({ ({ r with state := .busy } : Loop) with state := if (none : Option Code).isNone then .ready else .done, pending := none } : Loop) = r := by
       cases r; simp_all
     have hrun := run_endRound (P := P) none (obj_at hs2)
     rw [hrec] at hrun
     exact ⟨.bool true, _, ⟨_, B', .ret (.c (.bool true)), _, rfl, hx.trans hx3, hs3, (by simp [endRel, rel]), hRt⟩, Steps.trans hcomes (.one (stepR_round_end (b := b) rfl rfl hrun))⟩
   · simp [endRel, rel] at hend
 · rcases hor with ⟨rfl, _⟩ | ⟨rfl, hRt⟩
   · simp [endRel, rel] at hend
   · obtain ⟨hx3, hs3⟩ := obj_put (.loop { r with state := .done, pending := some .ret }) hs2
     have hrun := run_endRound (P := P) (some .ret) (obj_at hs2)
     exact ⟨.bool false, _, ⟨_, B', .ret (.c (.bool false)), _, rfl, hx.trans hx3, hs3, (by simp [endRel, rel]), hRt⟩, Steps.trans hcomes (.one (stepR_round_ret (b := b) rfl rfl hrun))⟩
theorem yields_J {f : FuncId} {l : Nat} {r : Loop} {ps : List Tmp} {args : List AV} (hst : r.state = .ready) (hpd : r.pending = none) (hps : r.params = ps.toArray) (hlen : args.length = ps.length) (hlt : ∀ p ∈ ps, p < n)
   (hfn : r.fn = f) (hf : ∃ fn, P.funcs[f]? = some fn) (hJ : J P (.inRound f l) n (fun x Δ' => ∃ Δ2, Δ'.Perm (HP.obj l (.loop { r with state := .busy }) :: Δ2) ∧ ((x = .ret (.c (.bool true)) ∧ R (.ret (.c (.bool true))) (HP.obj l (.loop r) :: Δ2)) ∨
     (x = .ret (.c (.bool false)) ∧ R (.ret (.c (.bool false))) (HP.obj l (.loop { r with state := .done, pending := some .ret }) :: Δ2)))) [.code r.assign, .beginRound, .code r.body] (envPuts env ps args) (HP.obj l (.loop r) :: HP.envp n env r.tmps :: Δ)) :
   AYields P l args (HP.obj l (.loop r) :: HP.envp n env r.tmps :: Δ) R := yields_of_J hst hpd hps hlen hlt hfn hf hJ (fun _ _ h => h)
theorem yields_J' {f : FuncId} {l : Nat} {r : Loop} {ps : List Tmp} {args : List AV} {assign body : Code} (hst : r.state = .ready) (hpd : r.pending = none) (hps : r.params = ps.toArray) (ha : r.assign = assign) (hb : r.body = body) (hlen : args.length = ps.length) (hlt : ∀ p ∈ ps, p < n)
   (hfn : r.fn = f) (hf : ∃ fn, P.funcs[f]? = some fn) (hJ : J P (.inRound f l) n (fun x Δ' => ∃ Δ2, Δ'.Perm (HP.obj l (.loop { r with state := .busy }) :: Δ2) ∧ ((x = .ret (.c (.bool true)) ∧ R (.ret (.c (.bool true))) (HP.obj l (.loop r) :: Δ2)) ∨
     (x = .ret (.c (.bool false)) ∧ R (.ret (.c (.bool false))) (HP.obj l (.loop { r with state := .done, pending := some .ret }) :: Δ2)))) [.code assign, .beginRound, .code body] (envPuts env ps args) (HP.obj l (.loop r) :: HP.envp n env r.tmps :: Δ)) :
   AYields P l args (HP.obj l (.loop r) :: HP.envp n env r.tmps :: Δ) R := by
 subst ha hb
 exact yields_of_J hst hpd hps hlen hlt hfn hf hJ (fun _ _ h => h)
theorem J_yield {f : Shape} {ops : Array Oper} {i : Nat} {is : List Nat} {dst : Option Tmp} {ty : TypeId} {pos : String} {aft : Array Edge} {fo : Operand} {args : Array Operand} {ats : Array TypeId} {l : Nat} {xs : List AV} {R1 : APost}
   (ho : ops[i]? = some ⟨dst, .call ⟨.value fo, args, ats⟩, ty, pos, aft, none⟩) (hd : dst.all (· < n) = true) (hfo : env.eval fo = some (.fn (.yield l) [] [])) (has : env.evalL args.toList = some xs) (hspec : AYields P l xs Δ R1)
   (hk : ∀ x Δ', R1 (.ret x) Δ' → J P f n R (.inRegion ops is :: k) (env.put dst x) Δ') : J P f n R (.inRegion ops (i :: is) :: k) env Δ := by
 intro g B tmps sm hn he b cs hb hkd
 have hf := Env.eval_rel he hfo
 simp only [rel, relL] at hf
 obtain ⟨us, vs, hfv, rfl, rfl⟩ := hf
 have hargs := evalL_rel he has
 obtain ⟨fn, tm, assign, body, hy, hsteps⟩ := hspec.run g B _ sm hargs
 obtain ⟨v, w', ⟨g', B', a, Δ', rfl, hx, hs, hr, hR⟩, hst⟩ := hsteps (b.atR { tmps := tmps, defers := f.defers } (.inRegion ops (i :: is) :: k)) cs
 have hrun : (execOp (({ tmps := tmps, defers := f.defers } : Act).eval) ⟨dst, .call ⟨.value fo, args, ats⟩, ty, pos, aft, none⟩).run P g.w = .ok (.round l fn tm assign body) g.w := by
   have hfv' : (({ tmps := tmps, defers := f.defers } : Act).eval fo) = .func (.yield l) #[] #[] := hfv
   have e1 : (args.toList.map (({ tmps := tmps, defers := [] } : Act).eval)).toArray = args.map (({ tmps := tmps, defers := f.defers } : Act).eval) := by
     rw [← Array.toList_map, Array.toArray_toList]; rfl
   rw [e1] at hy
   simp only [execOp, resolve, hfv', Deferred.ofValue, Sem.run_bind, Sem.run_pure, Result.andThen_ok, invoke]
   simpa using hy
 have hg := stepGR_op (P := P) (b := b) (a := { tmps := tmps, defers := f.defers }) (k := k) (cs := cs) (w := g.w) (rest := is) ho (awanted_eq (env := env) (t := true) he rfl)
 rw [Oper.semAt_eq _ _ _ (by intro c hc; exact Op.noConfusion hc)] at hg
 have henter : step P (lone (b.atR { tmps := tmps, defers := f.defers } (.inRegion ops (i :: is) :: k)) cs g.w) =
     .next (lone (Frame.round l fn tm assign body .normal) (b.atR { tmps := tmps, defers := f.defers } (.inRegion ops (i :: is) :: k) :: cs) g.w) :=
   step_lone_go (by rw [hg]; simp [stepG.apply, hrun, Frame.atR])
 cases a with
 | ret x =>
   simp only [endRel] at hr
   have hfin : (b.atR { tmps := tmps, defers := f.defers } (.inRegion ops (i :: is) :: k)).finish v = b.atR (({ tmps := tmps, defers := f.defers } : Act).put dst v) (.inRegion ops is :: k) := by rw [Frame.finish_atR, ho]; rfl
   have he' : EnvR g' (env.put dst x) (({ tmps := tmps, defers := [] } : Act).put dst v).tmps :=
     (he.mono (sm.le hx)).put (fun j hj => by rw [hj] at hd; simpa [hn] using hd) hr
   obtain ⟨e2, w2, fr2, k1, k2, k3⟩ := hk x Δ' hR g' B' _ hs (by unfold Act.put; split <;> simp [hn]) he' b cs hb hkd
   rw [hfin, put_defers] at hst
   exact ⟨e2, w2, fr2, k1.ext hx, .of_steps (.head henter hst) k2, k3⟩
 | pan x => simp [endRel] at hr
theorem J_rangeFunc {f gi : FuncId} {fo : Operand} {ps : List Tmp} {assign body : Code} {fs cs : List AV} (hfo : env.eval fo = some (.fn (.func gi) fs cs)) (hcl : callable P gi = true)
   (h : ∀ l r tmps, fresh Δ l → fresh Δ r → ∃ R1, ACalls P gi (fs ++ [.fn (.yield l) [] []] ++ cs) (HP.obj l (.loop { state := .ready, pending := none, fn := f, tmps := tmps, params := ps.toArray, assign := assign, body := body, defers := r }) :: HP.envp n env tmps :: HP.obj r (.deferred (some [])) :: Δ) R1 ∧
     ∀ x Δ', R1 x Δ' → ∃ y r' Δ2, x = .ret y ∧ r'.state ≠ .busy ∧ Δ'.Perm (HP.obj l (.loop r') :: HP.obj r (.deferred (some [])) :: Δ2) ∧ J P (.marked f r) n R ((r'.pending.map Item.code).toList ++ k) env (HP.obj r (.deferred (some [])) :: Δ2)) :
   J P (.plain f) n R (.code (.rangeFunc fo ps.toArray assign body) :: k) env Δ := by
 intro g B tmps sm hn he b cs0 hb hkd
 have hf := Env.eval_rel he hfo
 simp only [rel] at hf
 obtain ⟨us, vs, hfv, hu, hv⟩ := hf
 let rec0 : Loop := { state := .ready, pending := none, fn := f, tmps := tmps, params := ps.toArray, assign := assign, body := body, defers := g.w.heap.size }
 -- the two blocks
 obtain ⟨x1, s1⟩ := grow_sim (x := HP.obj g.w.heap.size (.deferred (some []))) (o := .deferred (some [])) sm ⟨rfl, push_new⟩
 have hsz : (g.grow (.deferred (some []))).w.heap.size = g.w.heap.size + 1 := by simp [G.grow, World.push]
 obtain ⟨x2, s2⟩ := grow_sim (x := HP.obj (g.grow (.deferred (some []))).w.heap.size (.loop rec0)) (o := .loop rec0) s1 ⟨rfl, push_new⟩
 have x12 := x1.trans x2
 rw [hsz] at s2 x12
 have hfr1 : fresh Δ g.w.heap.size := fresh_of sm.sep (fun hB => by have := sm.blt _ hB; omega)
 have hfr2 : fresh Δ (g.w.heap.size + 1) := fresh_of sm.sep (fun hB => by have := sm.blt _ hB; omega)
 obtain ⟨R1, hspec, hk⟩ := h (g.w.heap.size + 1) g.w.heap.size tmps hfr2 hfr1
 have hle := sm.le x12
 obtain ⟨B1, q1, q2, q3⟩ := s2.sep
 have s3 : Sim _ _ (HP.obj (g.w.heap.size + 1) (.loop rec0) :: HP.envp n env tmps :: HP.obj g.w.heap.size (.deferred (some [])) :: Δ) :=
   ⟨s2.fzlt, s2.blt, s2.disj, B1, q1, q2, fun _ => False, fun _ h => h.elim, ⟨hn, he.mono hle⟩, sep_mono q3 (fun b hb => ⟨hb, id⟩) (fun _ h => h) (fun _ _ => rfl)⟩
 have hrel : relL ((g.grow (.deferred (some []))).grow (.loop rec0)) (fs ++ [.fn (.yield (g.w.heap.size + 1)) [] []] ++ cs) (us ++ [.func (.yield (g.w.heap.size + 1)) #[] #[]] ++ vs) :=
   relL_append (relL_append (relL_mono hle _ _ hu) (by simp only [relL, rel]; exact ⟨_, _, rfl, ⟨[], [], rfl, rfl, rfl⟩, rfl⟩)) (relL_mono hle _ _ hv)
 have hfd : f = b.fn := hb.symm
 let c0 : Frame := b.atR { tmps := tmps, defers := [{ target := .collected g.w.heap.size, args := #[] }] } (.inRangeFunc (g.w.heap.size + 1) :: k)
 obtain ⟨e, w', fr, ⟨g', B', a, Δ', rfl, hx, hs, hr, hR⟩, hcomes, hfn, hleave⟩ := hspec.run _ _ _ s3 hrel (c0 :: cs0)
 have hent := run_enterLoop_outer (P := P) (w := g.w) b.fn tmps ps.toArray assign body
 have hround : b.roundOf = none := hkd.2.1
 have hres : (resolve (({ tmps := tmps, defers := [] } : Act).eval) (rangeCall fo (g.w.heap.size + 1)) 0).run P ((g.grow (.deferred (some []))).grow (.loop rec0)).w = .ok { target := .fn (.func gi) vs.toArray, args := us.toArray ++ #[.func (.yield (g.w.heap.size + 1)) #[] #[]] } ((g.grow (.deferred (some []))).grow (.loop rec0)).w := by
   have hc : #[Operand.const (.func (.yield (g.w.heap.size + 1)) #[] #[])].map (({ tmps := tmps, defers := [] } : Act).eval) = #[Value.func (.yield (g.w.heap.size + 1)) #[] #[]] := by simp [Act.eval]
   simp only [resolve, rangeCall, hfv, Deferred.ofValue, hc, Sem.run_bind, Sem.run_pure, Result.andThen_ok]
 have hinv : (invoke (.fn (.func gi) vs.toArray) (us.toArray ++ #[Value.func (.yield (g.w.heap.size + 1)) #[] #[]])).run P ((g.grow (.deferred (some []))).grow (.loop rec0)).w = .ok (.enter gi (us ++ [Value.func (.yield (g.w.heap.size + 1)) #[] #[]] ++ vs).toArray) ((g.grow (.deferred (some []))).grow (.loop rec0)).w := by
   have e1 : us.toArray ++ #[Value.func (.yield (g.w.heap.size + 1)) #[] #[]] ++ vs.toArray = (us ++ [Value.func (.yield (g.w.heap.size + 1)) #[] #[]] ++ vs).toArray := by simp
   simp only [invoke]
   rw [e1]; exact run_callFunc hcl
 have henter := stepR_rangeFunc (P := P) (b := b) (a := { tmps := tmps, defers := [] }) (k := k) (cs := cs0) (w := g.w) (by rw [hround]; exact hent) (by rw [← hfd]; exact hres) hinv
 obtain ⟨y, r', Δ2, rfl, hbusy, hp, hJ⟩ := hk a Δ' hR
 cases e with
 | panicked ch => simp [endRel] at hr
 | outgrown => simp [endRel] at hr
 | returned v =>
   have hback := step_leave_returned (cs := cs0) (c := c0) hleave
   rw [finish_atR_inRangeFunc] at hback
   have hs2 := perm_sim hs hp
   obtain ⟨x4, s4⟩ := obj_put (.loop { r' with state := .exhausted }) hs2
   have hend := stepR_endRangeFunc (P := P) (b := b) (a := { tmps := tmps, defers := [{ target := .collected g.w.heap.size, args := #[] }] }) (k := k) (cs := cs0) (run_endLoop (obj_at hs2) hbusy)
   have x5 := x12.trans (hx.trans x4)
   obtain ⟨e2, w2, fr2, k1, k2, k3⟩ := hJ _ _ tmps (drop_sim s4) hn (he.mono (sm.le x5)) b cs0 hb hkd
   exact ⟨e2, w2, fr2, k1.ext x5, .of_steps (.head henter (Steps.trans hcomes (.head hback (.one hend)))) k2, k3⟩
theorem J_rangeFunc' {f gi : FuncId} {fo : Operand} {ps : List Tmp} {assign body : Code} {fs cs : List AV} (hfo : env.eval fo = some (.fn (.func gi) fs cs)) (hcl : callable P gi = true)
   (h : ∀ l r (q : Loop), fresh Δ l → fresh Δ r → q.state = .ready → q.pending = none → q.fn = f → q.params = ps.toArray → q.assign = assign → q.body = body → ∃ R1, ACalls P gi (fs ++ [.fn (.yield l) [] []] ++ cs) (HP.obj l (.loop q) :: HP.envp n env q.tmps :: HP.obj r (.deferred (some [])) :: Δ) R1 ∧
     ∀ x Δ', R1 x Δ' → ∃ y r' Δ2, x = .ret y ∧ r'.state ≠ .busy ∧ Δ'.Perm (HP.obj l (.loop r') :: HP.obj r (.deferred (some [])) :: Δ2) ∧ J P (.marked f r) n R ((r'.pending.map Item.code).toList ++ k) env (HP.obj r (.deferred (some [])) :: Δ2)) :
   J P (.plain f) n R (.code (.rangeFunc fo ps.toArray assign body) :: k) env Δ :=
 J_rangeFunc hfo hcl (fun l r tmps hl hr => h l r _ hl hr rfl rfl rfl rfl rfl rfl)
theorem resultsM_eq {g : G} {B : Nat → Prop} {fn : Func} {tmps : Array Value} {xs : List AV} (s : Sim g B Δ) (he : EnvR g env tmps) (hr : aresultsM P env Δ fn.results.toList = some xs) : ∃ v, rel g (packed xs) v ∧ (results fn tmps).run P g.w = .ok v g.w := by
 obtain ⟨us, h1, h2⟩ := resultsM_run (P := P) s he hr
 rw [results_def, Array.mapM_eq_mapM_toList, Sem.run_bind, Sem.run_map, h2]
 simp only [Result.andThen_ok, Sem.run_pure]
 cases xs with
 | nil =>
   simp only [relL] at h1; subst h1
   exact ⟨.tuple #[], by simp only [packed, rel]; exact ⟨[], rfl, by simp [relL]⟩, by simp⟩
 | cons x xs =>
   have h0 := h1
   simp only [relL] at h1
   obtain ⟨u, us', rfl, hv, h1⟩ := h1
   cases xs with
   | nil =>
     simp only [relL] at h1; subst h1
     exact ⟨u, by simpa [packed] using hv, by simp⟩
   | cons y xs =>
     simp only [relL] at h1
     obtain ⟨v, vs, rfl, hv', h1⟩ := h1
     exact ⟨.tuple (u :: v :: vs).toArray, by simp only [packed, rel]; exact ⟨_, rfl, h0⟩, by simp⟩
theorem JM_ret {f : FuncId} {r : Nat} {fn : Func} {X : AV} (hf : P.funcs[f]? = some fn) (hr : (aresultsM P env Δ fn.results.toList).map packed = some X) (h : R (.ret X) Δ) : J P (.marked f r) n R (.code .ret :: k) env (HP.obj r (.deferred (some [])) :: Δ) := by
 intro g B tmps sm hn he b cs hb hk
 obtain ⟨x1, s1⟩ := obj_put (.deferred none) sm
 have s2 := drop_sim s1
 have he2 := he.mono (sm.le x1)
 -- what plain returning says, there
 cases hx : aresultsM P env Δ fn.results.toList with
 | none => simp [hx] at hr
 | some xs =>
   simp only [hx, Option.map_some, Option.some.injEq] at hr; subst hr
   obtain ⟨v, k1, k2⟩ := resultsM_eq (P := P) s2 he2 hx
   have h1 := stepR_ret (P := P) (b := b) (a := { tmps := tmps, defers := (Shape.marked f r).defers }) (k := k) (cs := cs) (w := g.w) hk.2.1
   have h2 := step_collected (P := P) (fr := { b.atR { tmps := tmps, defers := (Shape.marked f r).defers } (.code .ret :: k) with mode := .returning }) (cs := cs) (by simp) (rfl : _ = _ :: []) rfl (run_takeDeferred (obj_at sm))
   refine ⟨.returned v, _, _, ⟨_, B, .ret (packed xs), Δ, rfl, x1, s2, k1, h⟩, Steps.head h1 (.one h2), ?_⟩
   show _ = _ ∧ Frame.leaving _ _ _ _
   refine ⟨hb, rfl, rfl, hk.1, fn, ?_, k2⟩
   have hb' : b.fn = f := hb
   simpa [Frame.atR, hb'] using hf
end
attribute [go_sem] envPuts
end
end Go.Av
namespace Go.Av
open Go Go.MapKept
section
def HProp.relm (es : List (Value × AV)) (ms : List MapEntry) : HProp where
 p g _ := relM g es ms
 mono {g g' B} h hf hw := relM_mono ⟨hf, fun b hb => hw b (.inl hb)⟩ h
def HP.relm (es : List (Value × AV)) (ms : List MapEntry) : HP := .pred (HProp.relm es ms)
theorem relM_keys {g : G} : ∀ {es : List (Value × AV)} {ms : List MapEntry}, relM g es ms → ms.map (·.key) = es.map (·.1)
 | [], ms, h => by simp only [relM] at h; subst h; rfl
 | (k, x) :: es, ms, h => by
   simp only [relM] at h
   obtain ⟨m, ms', rfl, h1, h2, h3⟩ := h
   simp [h1, relM_keys h3]
section
variable {P : Program} {f : Shape} {n : Nat} {R : APost} {env : Env} {Δ : List HP} {todo : List Item}
theorem J_openmap {mb : Nat} {es : List (Value × AV)} (h : ∀ (ms : List MapEntry) (clock : Nat), ms.map (·.key) = es.map (·.1) → (∀ m ∈ ms, m.born < clock) → (ms.map (·.born)).Nodup → J P f n R todo env (HP.obj mb (.map ms.toArray clock) :: HP.relm es ms :: Δ)) :
   J P f n R todo env (.map mb es :: Δ) := by
 intro g B tmps s hn he b cs hb hk
 obtain ⟨B1, h1, ⟨h2, ms, clock, h3, h4, h5, h6⟩, h7⟩ := s.sep
 refine h ms clock (relM_keys h4) h5 h6 g B tmps ⟨s.fzlt, s.blt, s.disj, B1, h1, ⟨h2, h3⟩, fun _ => False, fun _ h => h.elim, h4, ?_⟩ hn he b cs hb hk
 exact sep_mono h7 (fun b hb => ⟨hb, id⟩) (fun _ h => h) (fun _ _ => rfl)
theorem J_shutmap {mb : Nat} {es : List (Value × AV)} {ms : List MapEntry} {clock : Nat} (h5 : ∀ m ∈ ms, m.born < clock) (h6 : (ms.map (·.born)).Nodup) (h : J P f n R todo env (.map mb es :: Δ)) : J P f n R todo env (HP.obj mb (.map ms.toArray clock) :: HP.relm es ms :: Δ) := by
 refine J_sep (fun g B s => ?_) h
 obtain ⟨B1, h1, ⟨h2, h3⟩, B2, h4, h7, h8⟩ := s.sep
 exact ⟨B1, h1, ⟨h2, ms, clock, h3, h7, h5, h6⟩, sep_mono h8 (fun b hb => hb.1) (fun _ h => h) (fun _ _ => rfl)⟩
theorem range_op {o : Oper} {t kt vt : TypeId} {x : Operand} {mb clock : Nat} {ms : List MapEntry} (hop : o.op = .range t x) (hu : P.underlying t = some (.map kt vt)) (hx : env.eval x = some (.c (.map (some mb)))) :
   OpOK P env (HP.obj mb (.map ms.toArray clock) :: Δ) o (fun r Δ' => ∃ b, r = .c (.pointer (some ⟨b, 0, none⟩)) ∧ Δ' = HP.obj b (.mapIter (some mb) clock #[] clock) :: HP.obj mb (.map ms.toArray clock) :: Δ) := by
 intro g B tmps sm he
 have h1 := Env.eval_rel he hx
 simp only [rel] at h1
 have hgs := grow_sim (x := HP.obj g.w.heap.size (.mapIter (some mb) clock #[] clock)) (o := .mapIter (some mb) clock #[] clock) sm ⟨rfl, push_new⟩
 refine ⟨_, _, _, _, .value (.pointer (some ⟨g.w.heap.size, 0, none⟩)), _, ?_, .inl rfl, hgs.1, hgs.2, rel_c, g.w.heap.size, rfl, rfl⟩
 simp only [execOp, hop, h1, Instr.range, Sem.run_bind, run_underlying hu, Result.andThen_ok, MapKept.run_getObj_map (obj_at sm), Sem.run_pure, run_newObj]
 rfl
theorem next_op {o : Oper} {x : Operand} {r mb clock : Nat} {ms pre rest : List MapEntry} (hop : o.op = .next x false) (hx : env.eval x = some (.c (.pointer (some ⟨r, 0, none⟩)))) (hb : ∀ m ∈ ms, m.born < clock) (hn : (ms.map (·.born)).Nodup) (hp : (pre ++ rest).Perm ms) :
   OpOK P env (HP.obj r (.mapIter (some mb) clock (pre.map (·.born)).toArray clock) :: HP.obj mb (.map ms.toArray clock) :: Δ) o (fun y Δ' =>
     (rest = [] ∧ y = .tup [.c (.bool false)] ∧ Δ' = HP.obj r (.mapIter (some mb) clock (pre.map (·.born)).toArray clock) :: HP.obj mb (.map ms.toArray clock) :: Δ) ∨
     ∃ m rest', ((pre ++ [m]) ++ rest').Perm ms ∧ y = .tup [.c (.bool true), .c m.key, .c m.val] ∧ Δ' = HP.obj r (.mapIter (some mb) clock ((pre ++ [m]).map (·.born)).toArray clock) :: HP.obj mb (.map ms.toArray clock) :: Δ) := by
 intro g B tmps sm he
 have h1 := Env.eval_rel he hx
 simp only [rel] at h1
 have hit := obj_at sm
 have hmap := obj_at (drop_sim sm)
 have hnd : ((pre ++ rest).map (·.born)).Nodup := (hp.map _).nodup_iff.2 hn
 rw [List.map_append] at hnd
 have hnd2 := List.nodup_append.1 hnd
 -- what is left
 let left := ms.filter fun e => !(pre.map (·.born)).toArray.contains e.born
 have hleft : ∀ m, m ∈ left ↔ m ∈ ms ∧ m.born ∉ pre.map (·.born) := by
   intro m; simp [left, List.mem_filter]
 have hrest : ∀ m, m ∈ left → ∃ r1 r2, rest = r1 ++ m :: r2 := by
   intro m hm
   obtain ⟨q1, q2⟩ := (hleft m).1 hm
   rcases List.mem_append.1 (hp.mem_iff.2 q1) with h | h
   · exact absurd (List.mem_map.2 ⟨m, h, rfl⟩) q2
   · exact List.append_of_mem h
 have hold : (ms.toArray.filter (fun e => !(pre.map (·.born)).toArray.contains e.born)).filter (fun e => decide (e.born < clock)) = left.toArray := by
   apply Array.ext'
   simp only [Array.toList_filter]
   rw [List.filter_eq_self.2]
   intro m hm
   have := (hleft m).1 hm
   simpa using hb m this.1
 have hnew : (ms.toArray.filter (fun e => !(pre.map (·.born)).toArray.contains e.born)).filter (fun e => decide (e.born ≥ clock)) = #[] := by
   apply Array.ext'
   simp only [Array.toList_filter]
   rw [List.filter_eq_nil_iff.2]
   intro m hm
   have := (hleft m).1 hm
   have := hb m this.1
   simp; omega
 have hguard : (!(pre.map (·.born)).toArray.isEmpty && !ms.toArray.isEmpty && ms.toArray.all (fun e => decide (e.born ≥ clock))) = false := by
   cases hms : ms with
   | nil => simp
   | cons m ms' =>
     have := hb m (by rw [hms]; simp)
     have hd : decide (clock ≤ m.born) = false := by simp; omega
     simp [hd]
 let cands : Array (Option MapEntry) := (if left.toArray.isEmpty then #[none] else #[]) ++ (left.toArray ++ #[]).map some
 have key : ∀ (w' : World) (c : Option MapEntry) (j : Nat), cands[j]? = some c → (choose (.mapNext cands.size)).run P g.w = .ok j w' → (execOp (({ tmps := tmps, defers := [] } : Act).eval) o).run P g.w =
     ((do match c with | some e => do (setObj r (.mapIter (some mb) clock ((pre.map (·.born)).toArray.push e.born) clock)); pure (Next.value (.tuple #[.bool true, e.key, e.val])) | none => pure (Next.value (.tuple #[.bool false]))) : Sem Next).run P w' := by
   intro w' c j hc hch
   have hgo : (getObj r).run P g.w = .ok (.mapIter (some mb) clock (pre.map (·.born)).toArray clock) g.w := by simp [getObj, Sem.run, hit]
   simp only [execOp, hop, h1, Instr.next, Sem.run_bind, hgo, Result.andThen_ok, MapKept.run_getObj_map hmap, hguard, Bool.false_eq_true, if_false]
   rw [hold, hnew]
   have hch' := hch
   have hc' := hc
   simp only [cands] at hch' hc'
   simp only [hch', Result.andThen_ok, hc']
   cases c with
   | none => simp [Sem.run_bind]
   | some e =>
     simp only [Sem.run_bind, Sem.run_pure]
     cases (setObj r (.mapIter (some mb) clock ((pre.map (·.born)).toArray.push e.born) clock)).run P w' <;> rfl
 have hch : ∃ (j : Nat) (g2 : G), j < cands.size ∧ (choose (.mapNext cands.size)).run P g.w = .ok j g2.w ∧ Ext g B g2 B ∧ Sim g2 B (HP.obj r (.mapIter (some mb) clock (pre.map (·.born)).toArray clock) :: HP.obj mb (.map ms.toArray clock) :: Δ) := by
   have hsz : 0 < cands.size := by
     cases hl : left with
     | nil => simp [cands, hl]
     | cons m l => simp [cands, hl]
   rw [run_choose]
   by_cases hfo : (Question.mapNext cands.size).forced = true
   · rw [if_pos hfo]
     exact ⟨0, g, hsz, rfl, .refl _ _, sm⟩
   · rw [if_neg hfo]
     exact ⟨_, g.drew, Nat.mod_lt _ hsz, rfl, drew_ext, drew_sim sm⟩
 obtain ⟨j, g2, hj, hrun, hx2, hs2⟩ := hch
 have hcj := Array.getElem?_eq_getElem hj
 have hk := key g2.w _ j hcj hrun
 cases hc : cands[j] with
 | none =>
   rw [hc] at hk
   have hl0 : left = [] := by
     cases hl : left with
     | nil => rfl
     | cons m l =>
       have hmem : (none : Option MapEntry) ∈ cands := by rw [← hc]; exact Array.getElem_mem hj
       simp [cands, hl] at hmem
   have hr0 : rest = [] := by
     cases hr : rest with
     | nil => rfl
     | cons m r1 =>
       have hm : m ∈ ms := hp.mem_iff.1 (by rw [hr]; simp)
       have : m ∈ left := (hleft m).2 ⟨hm, fun h => hnd2.2.2 _ h m.born (by rw [hr]; simp) rfl⟩
       rw [hl0] at this; simp at this
   refine ⟨g2, B, .tup [.c (.bool false)], _, .value (.tuple #[.bool false]), _, ?_, .inl rfl, hx2, hs2, ?_, .inl ⟨hr0, rfl, rfl⟩⟩
   · rw [hk]; rfl
   · simp only [rel]; exact ⟨[.bool false], rfl, by simp [relL, rel]⟩
 | some e =>
   rw [hc] at hk
   have hel : e ∈ left := by
     have hmem : some e ∈ cands := by rw [← hc]; exact Array.getElem_mem hj
     cases hl : left with
     | nil => simp [cands, hl] at hmem
     | cons m l => simp only [cands, hl] at hmem; simpa using hmem
   obtain ⟨r1, r2, hr⟩ := hrest e hel
   obtain ⟨hx3, hs3⟩ := obj_put (.mapIter (some mb) clock ((pre ++ [e]).map (·.born)).toArray clock) hs2
   refine ⟨_, B, .tup [.c (.bool true), .c e.key, .c e.val], _, .value (.tuple #[.bool true, e.key, e.val]), _, ?_, .inl rfl, hx2.trans hx3, hs3, ?_, .inr ⟨e, r1 ++ r2, ?_, rfl, rfl⟩⟩
   · rw [hk]
     have hset : (setObj r (.mapIter (some mb) clock ((pre.map (·.born)).toArray.push e.born) clock)).run P g2.w = .ok () (World.putB g2.w r (.mapIter (some mb) clock ((pre ++ [e]).map (·.born)).toArray clock)) := by
       have e1 : (pre.map (·.born)).toArray.push e.born = ((pre ++ [e]).map (·.born)).toArray := by simp
       rw [e1]
       simp [setObj, Sem.run, obj_at hs2, World.putB]
     simp only [Sem.run_bind, hset, Result.andThen_ok, Sem.run_pure]
   · simp only [rel]; exact ⟨[.bool true, e.key, e.val], rfl, by simp [relL, rel]⟩
   · refine List.Perm.trans ?_ hp
     rw [hr, List.append_assoc]
     refine List.Perm.append_left _ ?_
     simpa using (List.perm_middle (l₁ := r1) (a := e) (l₂ := r2)).symm
theorem uniq_map {α β : Type} {f : α → β} : ∀ {l : List α}, (l.map f).Nodup → ∀ a ∈ l, ∀ b ∈ l, f a = f b → a = b
 | [], _, a, ha, _, _, _ => by simp at ha
 | x :: l, h, a, ha, b, hb, e => by
   simp only [List.map_cons, List.nodup_cons] at h
   rcases List.mem_cons.1 ha with rfl | ha' <;> rcases List.mem_cons.1 hb with rfl | hb'
   · rfl
   · exact absurd (List.mem_map.2 ⟨b, hb', e.symm⟩) h.1
   · exact absurd (List.mem_map.2 ⟨a, ha', e⟩) h.1
   · exact uniq_map h.2 a ha' b hb' e
theorem entry_op {o : Oper} {x : Operand} {r mb clock : Nat} {ms pre rest : List MapEntry} {m : MapEntry} (hop : o.op = .entry x) (hx : env.eval x = some (.c (.pointer (some ⟨r, 0, none⟩)))) (hn : (ms.map (·.born)).Nodup) (hp : ((pre ++ [m]) ++ rest).Perm ms) :
   OpOK P env (HP.obj r (.mapIter (some mb) clock ((pre ++ [m]).map (·.born)).toArray clock) :: HP.obj mb (.map ms.toArray clock) :: Δ) o (fun y Δ' => y = .tup [.c m.key, .c m.val] ∧ Δ' = HP.obj r (.mapIter (some mb) clock ((pre ++ [m]).map (·.born)).toArray clock) :: HP.obj mb (.map ms.toArray clock) :: Δ) := by
 intro g B tmps sm he
 have h1 := Env.eval_rel he hx
 simp only [rel] at h1
 have hgo : (getObj r).run P g.w = .ok (.mapIter (some mb) clock ((pre ++ [m]).map (·.born)).toArray clock) g.w := by simp [getObj, Sem.run, obj_at sm]
 have hmap := obj_at (drop_sim sm)
 have hm : m ∈ ms := hp.mem_iff.1 (by simp)
 have hfind : ms.toArray.find? (fun e => e.born == m.born) = some m := by
   have huniq : ∀ e ∈ ms, e.born = m.born → e = m := by
     exact fun e he h => uniq_map hn e he m hm h
   rw [List.find?_toArray]
   cases hf : ms.find? (fun e => e.born == m.born) with
   | none => rw [List.find?_eq_none] at hf; exact absurd (by simp) (hf m hm)
   | some e =>
     have q1 := List.find?_some hf
     have q2 := List.mem_of_find?_eq_some hf
     rw [huniq e q2 (by simpa using q1)]
 refine ⟨g, B, _, _, .value (.tuple #[m.key, m.val]), _, ?_, .inl rfl, .refl _ _, sm, ?_, rfl, rfl⟩
 · have hback : ((pre ++ [m]).map (·.born)).toArray.back? = some m.born := by simp
   simp only [execOp, hop, h1, Instr.entry, Sem.run_bind, hgo, Result.andThen_ok, hback, MapKept.run_getObj_map hmap]
   simp only [bne_self_eq_false, Bool.false_eq_true, if_false, Sem.run_bind, Sem.run_pure, Result.andThen_ok, hfind]
 · simp only [rel]; exact ⟨[m.key, m.val], rfl, by simp [relL, rel]⟩
end
end
end Go.Av
