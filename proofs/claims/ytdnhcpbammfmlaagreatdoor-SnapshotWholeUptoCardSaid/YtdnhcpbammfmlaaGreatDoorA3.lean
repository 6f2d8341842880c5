/- A part of the proof: what the calls do, told by values. -/
import Derived.Test.YtdnhcpbammfmlaaGreatDoorA2
import Derived.Orders
import Derived.KernelRfl
set_option linter.unusedVariables false
set_option linter.unusedSimpArgs false
namespace Go.Av
open Go
section
def tmpsOf (xs : List Operand) : List Nat := xs.filterMap fun | .tmp t => some t | _ => none
def Agree (ts : List Nat) (e e' : Env) : Prop := ∀ t ∈ ts, e.get t = e'.get t
theorem mem_tmpsOf {xs : List Operand} {t : Nat} (h : Operand.tmp t ∈ xs) : t ∈ tmpsOf xs := List.mem_filterMap.2 ⟨_, h, rfl⟩
theorem eval_agree {e e' : Env} {x : Operand} {xs : List Operand} (h : Agree (tmpsOf xs) e e') (hx : x ∈ xs) : e.eval x = e'.eval x := by
 cases x with
 | tmp t => exact h t (mem_tmpsOf hx)
 | _ => rfl
theorem evalL_agree {e e' : Env} {xs : List Operand} (h : Agree (tmpsOf xs) e e') : ∀ {ys : List Operand}, (∀ y ∈ ys, y ∈ xs) → e.evalL ys = e'.evalL ys
 | [], _ => rfl
 | y :: ys, hy => by
   simp only [Env.evalL]
   rw [eval_agree h (hy y (by simp)), evalL_agree h (fun z hz => hy z (by simp [hz]))]
theorem evalP_agree {e e' : Env} {xs : List Operand} (h : Agree (tmpsOf xs) e e') : ∀ {ys : List (Nat × Operand)}, (∀ y ∈ ys, y.2 ∈ xs) → e.evalP ys = e'.evalP ys
 | [], _ => rfl
 | (i, y) :: ys, hy => by
   simp only [Env.evalP]
   rw [eval_agree h (hy (i, y) (by simp)), evalP_agree h (fun z hz => hy z (by simp [hz]))]
theorem evalO_agree {e e' : Env} {xs : List Operand} (h : Agree (tmpsOf xs) e e') {x : Option Operand} (hx : ∀ y, x = some y → y ∈ xs) : e.evalO x = e'.evalO x := by
 cases x with
 | none => rfl
 | some y => simp only [Env.evalO]; rw [eval_agree h (hx y rfl)]
theorem astep_agree {P : Program} {e e' : Env} {op : Op} (h : Agree (tmpsOf op.operands.toList) e e') : astep P e op = astep P e' op := by
 have ev : ∀ x, x ∈ op.operands.toList → e.eval x = e'.eval x := fun x hx => eval_agree h hx
 have evO : ∀ x : Option Operand, (∀ y, x = some y → y ∈ op.operands.toList) → e.evalO x = e'.evalO x := fun x hx => evalO_agree h hx
 cases op with
 | makeFunc fn first cap =>
   simp only [astep]
   rw [evalL_agree (ys := first.toList) h (fun y hy => by show y ∈ (first ++ cap).toList; rw [Array.toList_append]; exact List.mem_append_left _ hy), evalL_agree (ys := cap.toList) h (fun y hy => by show y ∈ (first ++ cap).toList; rw [Array.toList_append]; exact List.mem_append_right _ hy)]
 | build t parts => simp only [astep]; rw [evalP_agree h (fun y hy => (List.mem_map.2 ⟨y, hy, rfl⟩ : y.2 ∈ parts.toList.map (·.2)))]
 | buildSlice t len parts => simp only [astep]; rw [evalP_agree h (fun y hy => (List.mem_map.2 ⟨y, hy, rfl⟩ : y.2 ∈ parts.toList.map (·.2)))]
 | call c =>
   obtain ⟨callee, args, ats⟩ := c
   cases callee with
   | builtin b => simp only [astep]; rw [evalL_agree (ys := args.toList) h (fun y hy => by show y ∈ (#[] ++ args).toList; rw [Array.toList_append]; exact List.mem_append_right _ hy)]
   | _ => rfl
 | slice t x lo hi mx =>
   simp only [astep]
   rw [ev x (by simp [Op.operands]), evO lo (by rintro y rfl; simp [Op.operands]), evO hi (by rintro y rfl; simp [Op.operands]), evO mx (by rintro y rfl; simp [Op.operands])]
 | pick c a b => simp only [astep]; rw [ev c (by simp [Op.operands]), ev a (by simp [Op.operands]), ev b (by simp [Op.operands])]
 | binOp op t x y t' => simp only [astep]; rw [ev x (by simp [Op.operands]), ev y (by simp [Op.operands])]
 | index t x y => simp only [astep]; rw [ev x (by simp [Op.operands]), ev y (by simp [Op.operands])]
 | indexAddr t x y => simp only [astep]; rw [ev x (by simp [Op.operands]), ev y (by simp [Op.operands])]
 | move x => simp only [astep]; rw [ev x (by simp [Op.operands])]
 | assign x => simp only [astep]; rw [ev x (by simp [Op.operands])]
 | unOp o t x => simp only [astep]; rw [ev x (by simp [Op.operands])]
 | convert a b x => simp only [astep]; rw [ev x (by simp [Op.operands])]
 | makeInterface t x => simp only [astep]; rw [ev x (by simp [Op.operands])]
 | field t x f => simp only [astep]; rw [ev x (by simp [Op.operands])]
 | fieldAddr t x f => simp only [astep]; rw [ev x (by simp [Op.operands])]
 | load t x => simp only [astep]; rw [ev x (by simp [Op.operands])]
 | extract x i => simp only [astep]; rw [ev x (by simp [Op.operands])]
 | nilCheck x => simp only [astep]; rw [ev x (by simp [Op.operands])]
 | typeAssert x a b ok => simp only [astep]; rw [ev x (by simp [Op.operands])]
 | box t x => simp only [astep]; rw [ev x (by simp [Op.operands])]
 | _ => rfl
theorem mstep_agree {P : Program} {e e' : Env} {Δ : List HP} {op : Op} (h : Agree (tmpsOf op.operands.toList) e e') : mstep P e Δ op = mstep P e' Δ op := by
 have ev : ∀ x, x ∈ op.operands.toList → e.eval x = e'.eval x := fun x hx => eval_agree h hx
 cases op with
 | load t x => simp only [mstep]; rw [ev x (by simp [Op.operands])]
 | store t x y => simp only [mstep]; rw [ev x (by simp [Op.operands]), ev y (by simp [Op.operands])]
 | _ => rfl
def namesOf (ops : Array Oper) (i : Nat) : List Nat :=
 match ops[i]? with
 | some o => tmpsOf o.op.operands.toList ++ (match o.guard with | some (j, _) => ((ops[j]?).bind (·.dst)).toList | none => []) ++ o.dst.toList
 | none => []
def dstOf (ops : Array Oper) (i : Nat) : Option Tmp := (ops[i]?).bind (·.dst)
theorem awanted_agree {ops : Array Oper} {i : Nat} {o : Oper} {e e' : Env} (ho : ops[i]? = some o) (h : Agree (namesOf ops i) e e') : awanted ops e o = awanted ops e' o := by
 unfold awanted
 cases hg : o.guard with
 | none => rfl
 | some p =>
   obtain ⟨j, want⟩ := p
   simp only
   cases hd : (ops[j]?).bind (·.dst) with
   | none => rfl
   | some d =>
     have : e.get d = e'.get d := h d (by simp [namesOf, ho, hg, hd])
     simp only [Env.bool?, Env.skipped, this]
def biAt (ops : Array Oper) (env : Env) (n i : Nat) : Option (Option Tmp × Builtin × List TypeId × List AV) :=
 match ops[i]? with
 | some ⟨dst, .call ⟨.builtin b, args, ats⟩, _, _, _, gd⟩ => match awanted ops env ⟨dst, .move (.const undef), 0, "", #[], gd⟩ with
   | some true => if dst.all (· < n) then match env.evalL args.toList with
       | some xs => some (dst, b, ats.toList, xs)
       | _ => none else none
   | _ => none
 | _ => none
def BiOK (P : Program) (b : Builtin) (ats : List TypeId) (xs : List AV) (Δ : List HP) (K : AV → List HP → Prop) : Prop :=
 ∀ g B us (ats' : Array TypeId) ty cs, ats'.toList = ats → Sim g B Δ → relL g xs us → ∃ g' B' x Δ' v, (builtin b ats' ty cs us.toArray).run P g.w = .ok (.value v) g'.w ∧ Ext g B g' B' ∧ Sim g' B' Δ' ∧ rel g' x v ∧ K x Δ'
theorem BiOK.mono {P : Program} {b : Builtin} {ats : List TypeId} {xs : List AV} {Δ : List HP} {K K' : AV → List HP → Prop} (h : BiOK P b ats xs Δ K) (hk : ∀ x Δ', K x Δ' → K' x Δ') : BiOK P b ats xs Δ K' :=
 fun g B us ats' ty cs e sm hl => let ⟨g', B', x, Δ', v, h1, h2, h3, h4, h5⟩ := h g B us ats' ty cs e sm hl; ⟨g', B', x, Δ', v, h1, h2, h3, h4, hk _ _ h5⟩
theorem J_bi {P : Program} {f : Shape} {n : Nat} {R : APost} {k : List Item} {env : Env} {Δ : List HP} {ops : Array Oper} {i : Nat} {is : List Nat} {dst : Option Tmp} {b : Builtin} {ats : List TypeId} {xs : List AV} {K : AV → List HP → Prop}
   (hat : biAt ops env n i = some (dst, b, ats, xs)) (h : BiOK P b ats xs Δ K) (hk : ∀ x Δ', K x Δ' → J P f n R (.inRegion ops is :: k) (env.put dst x) Δ') : J P f n R (.inRegion ops (i :: is) :: k) env Δ := by
 unfold biAt at hat
 split at hat
 · rename_i dst' b' args ats' ty pos aft gd ho
   split at hat
   · rename_i hw
     split at hat
     · rename_i hd
       split at hat
       · rename_i xs' hxs
         simp only [Option.some.injEq, Prod.mk.injEq] at hat
         obtain ⟨rfl, rfl, rfl, rfl⟩ := hat
         refine J_op (K := K) ho (by simpa only [awanted] using hw) hd ?_ hk
         intro g B tmps sm he
         obtain ⟨g', B', x, Δ', v, h1, h2, h3, h4, h5⟩ := h g B _ ats' ty (args.map fun | .const _ => true | _ => false) rfl sm (evalL_rel he hxs)
         refine ⟨g', B', x, Δ', .value v, v, ?_, .inl rfl, h2, h3, h4, h5⟩
         simp only [execOp, resolve, Sem.run_bind, Sem.run_pure, Result.andThen_ok, invoke]
         rw [← Array.toList_map, Array.toArray_toList] at h1
         exact h1
       · simp at hat
     · simp at hat
   · simp at hat
 · simp at hat
def getMap : List HP → Nat → Option (List (Value × AV))
 | [], _ => none
 | .map b' es :: Δ, b => if b' = b then some es else getMap Δ b
 | _ :: Δ, b => getMap Δ b
def Grow (Δ Δ' : List HP) : Prop := ∃ D, Δ' = D ++ Δ ∧ (∀ b t c, getBox Δ b = some (t, c) → getBox Δ' b = some (t, c)) ∧ (∀ b es, getMap Δ b = some es → getMap Δ' b = some es)
theorem Grow.refl (Δ : List HP) : Grow Δ Δ := ⟨[], rfl, fun _ _ _ h => h, fun _ _ h => h⟩
theorem Grow.trans {Δ Δ1 Δ2 : List HP} (h : Grow Δ Δ1) (k : Grow Δ1 Δ2) : Grow Δ Δ2 := by
 obtain ⟨D, rfl, h1, h2⟩ := h
 obtain ⟨D', rfl, k1, k2⟩ := k
 exact ⟨D' ++ D, by simp, fun b t c e => k1 b t c (h1 b t c e), fun b es e => k2 b es (h2 b es e)⟩
theorem getBox_append {D Δ : List HP} {b : Nat} : getBox (D ++ Δ) b = (getBox D b).or (getBox Δ b) := by
 induction D with
 | nil => simp [getBox]
 | cons x D ih =>
   cases x with
   | box b' t c => simp only [List.cons_append, getBox]; split <;> simp [ih]
   | _ => simp only [List.cons_append, getBox, ih]
theorem getMap_append {D Δ : List HP} {b : Nat} : getMap (D ++ Δ) b = (getMap D b).or (getMap Δ b) := by
 induction D with
 | nil => simp [getMap]
 | cons x D ih =>
   cases x with
   | map b' es => simp only [List.cons_append, getMap]; split <;> simp [ih]
   | _ => simp only [List.cons_append, getMap, ih]
theorem getMap_spec {g : G} {b : Nat} {es : List (Value × AV)} : ∀ {Δ : List HP} {B : Nat → Prop}, sep Δ g B → getMap Δ b = some es →
   B b ∧ ∃ (ms : List MapEntry) (clock : Nat), g.w.heap[b]? = some (.map ms.toArray clock) ∧ relM g es ms ∧ (∀ m ∈ ms, m.born < clock) ∧ (ms.map (·.born)).Nodup
 | [], B, _, h => by simp [getMap] at h
 | .map b' es' :: Δ, B, ⟨B1, h1, h2, h3⟩, h => by
   simp only [getMap] at h
   split at h
   · rename_i e; subst e
     simp only [Option.some.injEq] at h
     subst h
     exact ⟨h1 _ h2.1, h2.2⟩
   · have := getMap_spec h3 h
     exact ⟨this.1.1, this.2⟩
 | .row _ _ _ _ _ :: Δ, B, ⟨B1, h1, h2, h3⟩, h => by
   have := getMap_spec h3 (by simpa only [getMap] using h); exact ⟨this.1.1, this.2⟩
 | .box _ _ _ :: Δ, B, ⟨B1, h1, h2, h3⟩, h => by
   have := getMap_spec h3 (by simpa only [getMap] using h); exact ⟨this.1.1, this.2⟩
 | .pred _ :: Δ, B, ⟨B1, h1, h2, h3⟩, h => by
   have := getMap_spec h3 (by simpa only [getMap] using h); exact ⟨this.1.1, this.2⟩
theorem grow_sep {g : G} {B : Nat → Prop} {D Δ : List HP} (h : sep (D ++ Δ) g B) : Grow Δ (D ++ Δ) := by
 obtain ⟨B1, h1, h2, h3⟩ := sep_append h
 refine ⟨D, rfl, fun b t c e => ?_, fun b es e => ?_⟩
 · rw [getBox_append]
   cases hD : getBox D b with
   | none => simpa using e
   | some p =>
     obtain ⟨t', c'⟩ := p
     exact absurd (getBox_spec h2 hD).1 (getBox_spec h3 e).1.2
 · rw [getMap_append]
   cases hD : getMap D b with
   | none => simpa using e
   | some p => exact absurd (getMap_spec h2 hD).1 (getMap_spec h3 e).1.2
theorem J_grow {P : Program} {f : Shape} {n : Nat} {R : APost} {todo : List Item} {env : Env} {D Δ : List HP} (h : Grow Δ (D ++ Δ) → J P f n R todo env (D ++ Δ)) : J P f n R todo env (D ++ Δ) :=
 fun g B tmps s hn he b cs hb hk => h (grow_sep s.sep) g B tmps s hn he b cs hb hk
section
variable (P : Program) (ops : Array Oper) (n : Nat)
inductive PVal (e : Env) (i : Nat) : AV → Prop
 | pure {o : Oper} {x : AV} : ops[i]? = some o → awanted ops e o = some true → o.dst.all (· < n) = true → astep P e o.op = some x → PVal e i x
 | skip {o : Oper} : ops[i]? = some o → awanted ops e o = some false → o.dst.all (· < n) = true → PVal e i (.c undef)
 | call {dst : Option Tmp} {h : FuncId} {as : List AV} {x : AV} : callAt ops e n i = some (dst, h, as) → ACalls P h as [] (Ret x) → PVal e i x
inductive LVal (e : Env) (Δ : List HP) (i : Nat) : AV → Prop
 | pv {x : AV} : PVal P ops n e i x → LVal e Δ i x
 | load {o : Oper} {x : AV} {t : TypeId} {y : Operand} : ops[i]? = some o → awanted ops e o = some true → o.dst.all (· < n) = true → o.op = .load t y → mstep P e Δ (.load t y) = some (x, Δ) → LVal e Δ i x
 | call {dst : Option Tmp} {h : FuncId} {as : List AV} {x : AV} : callAt ops e n i = some (dst, h, as) → ACalls P h as Δ (fun r Δ' => r = .ret x ∧ Δ'.Perm Δ) → LVal e Δ i x
 | look {o : Oper} {x : AV} : ops[i]? = some o → awanted ops e o = some true → o.dst.all (· < n) = true → (∀ e' Δ', Agree (namesOf ops i) e e' → Grow Δ Δ' → OpOK P e' Δ' o (fun y Δ1 => y = x ∧ Δ1 = Δ')) → LVal e Δ i x
inductive NStep (e : Env) (Δ : List HP) (i : Nat) (K : AV → List HP → Prop) : Prop
 | var {o : Oper} {t : TypeId} {zs : List Value} : ops[i]? = some o → awanted ops e o = some true → o.dst.all (· < n) = true → o.op = .alloc t → tkZero P t = some zs → (∀ b, fresh Δ b → K (.c (.pointer (some ⟨b, 0, none⟩))) (.box b t (zs.map .c) :: Δ)) → NStep e Δ i K
 | box {o : Oper} {t : TypeId} {x : Operand} {y : AV} : ops[i]? = some o → awanted ops e o = some true → o.dst.all (· < n) = true → o.op = .box t x → e.eval x = some y → (∀ b, fresh Δ b → K (.c (.pointer (some ⟨b, 0, none⟩))) (.box b t (cellsOf y) :: Δ)) → NStep e Δ i K
 | skip {o : Oper} : ops[i]? = some o → awanted ops e o = some false → o.dst.all (· < n) = true → K (.c undef) Δ → NStep e Δ i K
 | call {dst : Option Tmp} {h : FuncId} {as : List AV} {R1 : APost} : callAt ops e n i = some (dst, h, as) → ACalls P h as [] R1 → (∀ x D, R1 (.ret x) D → Grow Δ (D ++ Δ) → K x (D ++ Δ)) → (∀ x Δ', ¬ R1 (.pan x) Δ') → NStep e Δ i K
inductive EStep (e : Env) (Δ : List HP) (i : Nat) (K : AV → List HP → Prop) : Prop
 | mem {o : Oper} {x : AV} {Δ' : List HP} : ops[i]? = some o → awanted ops e o = some true → o.dst.all (· < n) = true → mstep P e Δ o.op = some (x, Δ') → K x Δ' → EStep e Δ i K
 | call {dst : Option Tmp} {h : FuncId} {as : List AV} {Δ1 Fr : List HP} {R1 : APost} : callAt ops e n i = some (dst, h, as) → ACalls P h as Δ1 R1 → Δ.Perm (Δ1 ++ Fr) → (∀ x Δ', R1 (.ret x) Δ' → K x (Δ' ++ Fr)) → (∀ x Δ', ¬ R1 (.pan x) Δ') → EStep e Δ i K
 | skip {o : Oper} : ops[i]? = some o → awanted ops e o = some false → o.dst.all (· < n) = true → K (.c undef) Δ → EStep e Δ i K
 | bi {dst : Option Tmp} {b : Builtin} {ats : List TypeId} {xs : List AV} {K1 : AV → List HP → Prop} : biAt ops e n i = some (dst, b, ats, xs) → BiOK P b ats xs Δ K1 → (∀ x Δ', K1 x Δ' → K x Δ') → EStep e Δ i K
 | op {o : Oper} {K1 : AV → List HP → Prop} : ops[i]? = some o → awanted ops e o = some true → o.dst.all (· < n) = true → (∀ e', Agree (namesOf ops i) e e' → OpOK P e' Δ o K1) → (∀ x Δ', K1 x Δ' → K x Δ') → EStep e Δ i K
end
section
variable {P : Program} {ops : Array Oper} {n : Nat} {f : Shape} {R : APost} {k : List Item} {e e' : Env} {Δ : List HP} {i : Nat} {is : List Nat} {x : AV}
theorem callAt_dst {dst : Option Tmp} {h : FuncId} {as : List AV} (hc : callAt ops e n i = some (dst, h, as)) : dstOf ops i = dst := by
 unfold callAt at hc
 split at hc
 · rename_i d fo args ats ty pos aft gd ho
   split at hc
   · split at hc
     · split at hc
       · simp only [Option.some.injEq, Prod.mk.injEq] at hc
         simp [dstOf, ho, hc.1]
       · simp at hc
     · simp at hc
   · simp at hc
 · simp at hc
theorem callAt_agree (h : Agree (namesOf ops i) e e') : callAt ops e n i = callAt ops e' n i := by
 unfold callAt
 cases ho : ops[i]? with
 | none => rfl
 | some o =>
   have hw := awanted_agree ho h
   obtain ⟨dst, op, ty, pos, aft, gd⟩ := o
   cases op with
   | call c =>
     obtain ⟨callee, args, ats⟩ := c
     cases callee with
     | value fo =>
       have h2 : Agree (tmpsOf (Op.call ⟨.value fo, args, ats⟩).operands.toList) e e' := fun t ht => h t (by simp only [namesOf, ho]; simp [ht])
       have e1 : e.eval fo = e'.eval fo := eval_agree h2 (by simp [Op.operands, Call.operands])
       have e2 : e.evalL args.toList = e'.evalL args.toList := evalL_agree h2 (fun y hy => by show y ∈ (#[fo] ++ args).toList; rw [Array.toList_append]; exact List.mem_append_right _ hy)
       have e3 : awanted ops e ⟨dst, .move (.const undef), 0, "", #[], gd⟩ = awanted ops e' ⟨dst, .move (.const undef), 0, "", #[], gd⟩ := hw
       simp only [e1, e2, e3]
     | _ => rfl
   | _ => rfl
theorem biAt_dst {dst : Option Tmp} {b : Builtin} {ats : List TypeId} {as : List AV} (hc : biAt ops e n i = some (dst, b, ats, as)) : dstOf ops i = dst := by
 unfold biAt at hc
 split at hc
 · rename_i d b args ats ty pos aft gd ho
   split at hc
   · split at hc
     · split at hc
       · simp only [Option.some.injEq, Prod.mk.injEq] at hc
         simp [dstOf, ho, hc.1]
       · simp at hc
     · simp at hc
   · simp at hc
 · simp at hc
theorem biAt_agree (h : Agree (namesOf ops i) e e') : biAt ops e n i = biAt ops e' n i := by
 unfold biAt
 cases ho : ops[i]? with
 | none => rfl
 | some o =>
   have hw := awanted_agree ho h
   obtain ⟨dst, op, ty, pos, aft, gd⟩ := o
   cases op with
   | call c =>
     obtain ⟨callee, args, ats⟩ := c
     cases callee with
     | builtin b =>
       have h2 : Agree (tmpsOf (Op.call ⟨.builtin b, args, ats⟩).operands.toList) e e' := fun t ht => h t (by simp only [namesOf, ho]; simp [ht])
       have e2 : e.evalL args.toList = e'.evalL args.toList := evalL_agree h2 (fun y hy => by show y ∈ (#[] ++ args).toList; rw [Array.toList_append]; exact List.mem_append_right _ hy)
       have e3 : awanted ops e ⟨dst, .move (.const undef), 0, "", #[], gd⟩ = awanted ops e' ⟨dst, .move (.const undef), 0, "", #[], gd⟩ := hw
       simp only [e2, e3]
     | _ => rfl
   | _ => rfl
theorem PVal.agree (hv : PVal P ops n e i x) (h : Agree (namesOf ops i) e e') : PVal P ops n e' i x := by
 cases hv with
 | pure ho hw hd hs => exact .pure ho (by rw [← awanted_agree ho h]; exact hw) hd (by rw [← astep_agree (fun t ht => h t (by simp [namesOf, ho, ht]))]; exact hs)
 | skip ho hw hd => exact .skip ho (by rw [← awanted_agree ho h]; exact hw) hd
 | call hc hs => exact .call (by rw [← callAt_agree h]; exact hc) hs
theorem LVal.agree (hv : LVal P ops n e Δ i x) (h : Agree (namesOf ops i) e e') : LVal P ops n e' Δ i x := by
 cases hv with
 | pv hp => exact .pv (hp.agree h)
 | load ho hw hd hop hs => exact .load ho (by rw [← awanted_agree ho h]; exact hw) hd hop (by rw [← mstep_agree (fun t ht => h t (by simp [namesOf, ho, hop, ht]))]; exact hs)
 | call hc hs => exact .call (by rw [← callAt_agree h]; exact hc) hs
 | look ho hw hd hs => exact .look ho (by rw [← awanted_agree ho h]; exact hw) hd (fun e'' Δ' h' hg => hs e'' Δ' (fun t ht => (h t ht).trans (h' t ht)) hg)
theorem EStep.agree {K : AV → List HP → Prop} (hv : EStep P ops n e Δ i K) (h : Agree (namesOf ops i) e e') : EStep P ops n e' Δ i K := by
 cases hv with
 | mem ho hw hd hs hk => exact .mem ho (by rw [← awanted_agree ho h]; exact hw) hd (by rw [← mstep_agree (fun t ht => h t (by simp [namesOf, ho, ht]))]; exact hs) hk
 | call hc hs hp hk hn => exact .call (by rw [← callAt_agree h]; exact hc) hs hp hk hn
 | bi hc hs hk => exact .bi (by rw [← biAt_agree h]; exact hc) hs hk
 | skip ho hw hd hk => exact .skip ho (by rw [← awanted_agree ho h]; exact hw) hd hk
 | op ho hw hd hs hk => exact .op ho (by rw [← awanted_agree ho h]; exact hw) hd (fun e'' h' => hs e'' (fun t ht => (h t ht).trans (h' t ht))) hk
theorem NStep.agree {K : AV → List HP → Prop} (hv : NStep P ops n e Δ i K) (h : Agree (namesOf ops i) e e') : NStep P ops n e' Δ i K := by
 cases hv with
 | var ho hw hd hop hz hk => exact .var ho (by rw [← awanted_agree ho h]; exact hw) hd hop hz hk
 | @box o t x y ho hw hd hop hx hk =>
   refine .box ho (by rw [← awanted_agree ho h]; exact hw) hd hop ?_ hk
   rw [← hx]
   refine (eval_agree (e := e) (e' := e') (xs := [x]) (fun t ht => h t ?_) (by simp)).symm
   simp only [tmpsOf, List.filterMap_cons, List.filterMap_nil] at ht
   simp only [namesOf, ho, hop, Op.operands]
   cases x <;> simp_all [tmpsOf]
 | skip ho hw hd hk => exact .skip ho (by rw [← awanted_agree ho h]; exact hw) hd hk
 | call hc hs hk hn => exact .call (by rw [← callAt_agree h]; exact hc) hs hk hn
theorem NStep.J {K : AV → List HP → Prop} (hv : NStep P ops n e Δ i K) (h : ∀ x Δ', K x Δ' → J P f n R (.inRegion ops is :: k) (e.put (dstOf ops i) x) Δ') : Go.Av.J P f n R (.inRegion ops (i :: is) :: k) e Δ := by
 cases hv with
 | var ho hw hd hop hz hk => exact J_new ho hw hd (.inr ⟨hop, _, hz, rfl⟩) (fun b hb => by have := h _ _ (hk b hb); simpa [dstOf, ho] using this)
 | box ho hw hd hop hx hk => exact J_new ho hw hd (.inl ⟨_, _, hop, hx, rfl⟩) (fun b hb => by have := h _ _ (hk b hb); simpa [dstOf, ho] using this)
 | skip ho hw hd hk => exact J_skipop ho hw hd (by have := h _ _ hk; simpa [dstOf, ho] using this)
 | call hc hs hk hn =>
   refine J_calls (Δ1 := []) (Fr := Δ) hc hs (List.Perm.refl _) ?_ (fun y Δ' hr => absurd hr (hn y Δ'))
   intro y D hr
   refine J_grow (fun hg => ?_)
   have := h _ _ (hk y D hr hg)
   rwa [callAt_dst hc] at this
abbrev News (Δ : List HP) (Δ' : List HP) : Prop := Grow Δ Δ'
theorem fresh_ne {b b' : Nat} {t : TypeId} {cells : List AV} : ∀ {Δ : List HP}, fresh Δ b → getBox Δ b' = some (t, cells) → b ≠ b'
 | [], _, h => by simp [getBox] at h
 | .box b1 t1 c1 :: Δ, hf, h => by
   simp only [fresh] at hf
   simp only [getBox] at h
   split at h
   · rename_i e; subst e; exact hf.2.1
   · exact fresh_ne hf.2.2 h
 | .row _ _ _ _ _ :: Δ, hf, h => by simp only [fresh] at hf; simp only [getBox] at h; exact fresh_ne hf.2.2 h
 | .map _ _ :: Δ, hf, h => by simp only [fresh] at hf; simp only [getBox] at h; exact fresh_ne hf.2.2 h
 | .pred _ :: Δ, hf, h => by simp only [fresh] at hf; simp only [getBox] at h; exact fresh_ne hf h
theorem grow_box {b : Nat} {t : TypeId} {cells : List AV} {Δ : List HP} (hf : fresh Δ b) : Grow Δ (.box b t cells :: Δ) :=
 ⟨[_], rfl, fun b' t' c' e => by simp only [getBox]; rw [if_neg (fresh_ne hf e)]; exact e, fun b' es e => by simpa only [getMap] using e⟩
theorem NStep.news {K : AV → List HP → Prop} (hv : NStep P ops n e Δ i K) : NStep P ops n e Δ i (fun x Δ' => K x Δ' ∧ News Δ Δ') := by
 cases hv with
 | var ho hw hd hop hz hk => exact .var ho hw hd hop hz (fun b hb => ⟨hk b hb, grow_box hb⟩)
 | box ho hw hd hop hx hk => exact .box ho hw hd hop hx (fun b hb => ⟨hk b hb, grow_box hb⟩)
 | skip ho hw hd hk => exact .skip ho hw hd ⟨hk, .refl _⟩
 | call hc hs hk hn => exact .call hc hs (fun x D hr hg => ⟨hk x D hr hg, hg⟩) hn
theorem LVal.grow {Δ' : List HP} (hv : LVal P ops n e Δ i x) (hn : News Δ Δ') : LVal P ops n e Δ' i x := by
 cases hv with
 | pv hp => exact .pv hp
 | look ho hw hd hs => exact .look ho hw hd (fun e'' Δ'' h' hg => hs e'' Δ'' h' (hn.trans hg))
 | @load o _ t' y ho hw hd hop hs =>
   refine .load ho hw hd hop ?_
   simp only [mstep] at hs ⊢
   cases hy : e.eval y with
   | none => simp [hy] at hs
   | some a =>
     simp only [hy] at hs ⊢
     have key : ∀ r, mload P Δ t' a = some r → mload P Δ' t' a = some r := by
       intro r hr
       unfold mload at hr ⊢
       split at hr
       · rename_i b' o'
         split at hr
         · rename_i s ag t2 c2 ht hg
           rw [ht, hn.choose_spec.2.1 b' t2 c2 hg]; exact hr
         · simp at hr
       · simp at hr
     cases hm : mload P Δ t' a with
     | none => simp [hm] at hs
     | some r => simp only [hm] at hs; simp only [Option.some.injEq, Prod.mk.injEq, and_true] at hs; rw [key r hm, hs]
 | call hc hs =>
   obtain ⟨D, rfl, _, _⟩ := hn
   refine .call hc (((hs.frame (Fr := D)).perm (List.perm_append_comm (l₁ := D))).mono ?_)
   rintro r D' ⟨Δ1, rfl, e1, hp⟩
   exact ⟨e1, (hp.append_right _).trans List.perm_append_comm⟩
theorem EStep.mono {K K' : AV → List HP → Prop} (hv : EStep P ops n e Δ i K) (h : ∀ x Δ', K x Δ' → K' x Δ') : EStep P ops n e Δ i K' := by
 cases hv with
 | mem ho hw hd hs hk => exact .mem ho hw hd hs (h _ _ hk)
 | call hc hs hp hk hn => exact .call hc hs hp (fun x Δ' hr => h _ _ (hk x Δ' hr)) hn
 | bi hc hs hk => exact .bi hc hs (fun x Δ' hr => h _ _ (hk x Δ' hr))
 | skip ho hw hd hk => exact .skip ho hw hd (h _ _ hk)
 | op ho hw hd hs hk => exact .op ho hw hd hs (fun x Δ' hr => h _ _ (hk x Δ' hr))
theorem PVal.J (hv : PVal P ops n e i x) (h : J P f n R (.inRegion ops is :: k) (e.put (dstOf ops i) x) Δ) : Go.Av.J P f n R (.inRegion ops (i :: is) :: k) e Δ := by
 cases hv with
 | pure ho hw hd hs => exact J_astep ho hw hd hs (by simpa [dstOf, ho] using h)
 | skip ho hw hd => exact J_skipop ho hw hd (by simpa [dstOf, ho] using h)
 | call hc hs => exact J_callp hc hs (by rw [callAt_dst hc] at h; exact h)
theorem LVal.J (hv : LVal P ops n e Δ i x) (h : J P f n R (.inRegion ops is :: k) (e.put (dstOf ops i) x) Δ) : Go.Av.J P f n R (.inRegion ops (i :: is) :: k) e Δ := by
 cases hv with
 | pv hp => exact hp.J h
 | load ho hw hd hop hs => exact J_mstep ho hw hd (by rw [hop]; exact hs) (by simpa [dstOf, ho] using h)
 | call hc hs =>
   refine J_calls (Δ1 := Δ) (Fr := []) hc hs (by simp) ?_ ?_
   · rintro y Δ' ⟨e1, hp⟩; cases e1; rw [callAt_dst hc] at h; refine J_perm (Δ' := Δ) (by simpa using hp) h
   · rintro y Δ' ⟨e1, _⟩; cases e1
 | look ho hw hd hs =>
   refine J_op ho hw hd (hs e Δ (fun _ _ => rfl) (.refl _)) ?_
   rintro y Δ' ⟨rfl, rfl⟩
   simpa [dstOf, ho] using h
theorem EStep.J {K : AV → List HP → Prop} (hv : EStep P ops n e Δ i K) (h : ∀ x Δ', K x Δ' → J P f n R (.inRegion ops is :: k) (e.put (dstOf ops i) x) Δ') : Go.Av.J P f n R (.inRegion ops (i :: is) :: k) e Δ := by
 cases hv with
 | mem ho hw hd hs hk => exact J_mstep ho hw hd hs (by have := h _ _ hk; simpa [dstOf, ho] using this)
 | call hc hs hp hk hn =>
   refine J_calls hc hs hp ?_ (fun y Δ' hr => absurd hr (hn y Δ'))
   intro y Δ' hr
   have := h _ _ (hk y Δ' hr)
   rwa [callAt_dst hc] at this
 | bi hc hs hk =>
   refine J_bi hc hs ?_
   intro y Δ' hr
   have := h _ _ (hk y Δ' hr)
   rwa [biAt_dst hc] at this
 | skip ho hw hd hk => exact J_skipop ho hw hd (by have := h _ _ hk; simpa [dstOf, ho] using this)
 | op ho hw hd hs hk =>
   refine J_op ho hw hd (hs e (fun _ _ => rfl)) ?_
   intro y Δ' hr
   have := h _ _ (hk y Δ' hr)
   simpa [dstOf, ho] using this
end
end
section
inductive Knd where
 | pure | read | act | new
 deriving DecidableEq
section
variable (P : Program) (ops : Array Oper) (n : Nat)
def Can (kont : Env → List HP → Prop) : List (Nat × Knd) → Env → List HP → Prop
 | [], V, Δ => kont V Δ
 | (i, .pure) :: c, V, Δ => ∃ x, PVal P ops n V i x ∧ Can kont c (V.put (dstOf ops i) x) Δ
 | (i, .read) :: c, V, Δ => ∃ x, LVal P ops n V Δ i x ∧ Can kont c (V.put (dstOf ops i) x) Δ
 | (i, .act) :: c, V, Δ => EStep P ops n V Δ i (fun x Δ' => Can kont c (V.put (dstOf ops i) x) Δ')
 | (i, .new) :: c, V, Δ => NStep P ops n V Δ i (fun x Δ' => Can kont c (V.put (dstOf ops i) x) Δ')
def Eqv (a b : Env) : Prop := ∀ t, a.get t = b.get t
def applyU : List (Nat × Knd × AV) → Env → Env
 | [], A => A
 | (i, _, x) :: U, A => applyU U (A.put (dstOf ops i) x)
def Pend (Δ : List HP) : List (Nat × Knd × AV) → Env → Prop
 | [], _ => True
 | (i, kd, x) :: U, A => (kd = .pure → PVal P ops n A i x) ∧ (kd = .read → LVal P ops n A Δ i x) ∧ (kd = .pure ∨ kd = .read) ∧ Pend Δ U (A.put (dstOf ops i) x)
def conf (a b : Nat) : Bool := match dstOf ops a with
 | some t => (namesOf ops b).contains t
 | none => false
def okPair (anc : Nat → List Nat) (a b : Nat × Knd) : Bool :=
 (anc b.1).contains a.1 || ((decide (a.2 = .pure) || decide (a.2 = .read)) && !(decide (a.2 = .read) && decide (b.2 = .act)) && !conf ops a.1 b.1 && !conf ops b.1 a.1)
def Follows (anc : Nat → List Nat) : List Nat → List Nat → Prop
 | done, [] => ∀ i, i < ops.size → i ∈ done
 | done, i :: l => i < ops.size ∧ i ∉ done ∧ (∀ j ∈ anc i, j ∈ done) ∧ Follows anc (i :: done) l
end
section
variable {P : Program} {ops : Array Oper} {n : Nat}
theorem get_put (e : Env) (d : Option Tmp) (x : AV) (t : Nat) : (e.put d x).get t = if d = some t then some x else e.get t := by
 cases d with
 | none => simp [Env.put]
 | some d =>
   simp only [Env.put, Env.get, Option.some.injEq]
theorem Eqv.refl (a : Env) : Eqv a a := fun _ => rfl
theorem Eqv.trans {a b c : Env} (h : Eqv a b) (k : Eqv b c) : Eqv a c := fun t => (h t).trans (k t)
theorem Eqv.symm {a b : Env} (h : Eqv a b) : Eqv b a := fun t => (h t).symm
theorem Eqv.put {a b : Env} (h : Eqv a b) (d : Option Tmp) (x : AV) : Eqv (a.put d x) (b.put d x) := fun t => by rw [get_put, get_put, h t]
theorem Eqv.agree {a b : Env} (h : Eqv a b) (ts : List Nat) : Agree ts a b := fun t _ => h t
theorem put_comm {e : Env} {d d' : Option Tmp} {x y : AV} (h : ∀ t, d = some t → d' ≠ some t) : Eqv ((e.put d x).put d' y) ((e.put d' y).put d x) := by
 intro t
 simp only [get_put]
 by_cases h1 : d' = some t <;> by_cases h2 : d = some t
 · exact absurd h1 (h t h2)
 · simp [h1, h2]
 · simp [h1, h2]
 · simp [h1, h2]
theorem applyU_eqv : ∀ (U : List (Nat × Knd × AV)) {a b : Env}, Eqv a b → Eqv (applyU ops U a) (applyU ops U b)
 | [], _, _, h => h
 | (i, _, x) :: U, _, _, h => applyU_eqv U (h.put _ _)
theorem Pend_eqv {Δ : List HP} : ∀ (U : List (Nat × Knd × AV)) {a b : Env}, Eqv a b → Pend P ops n Δ U a → Pend P ops n Δ U b
 | [], _, _, _, _ => trivial
 | (i, kd, x) :: U, _, _, h, ⟨h1, h2, h3, h4⟩ => ⟨fun e => (h1 e).agree (h.agree _), fun e => (h2 e).agree (h.agree _), h3, Pend_eqv U (h.put _ _) h4⟩
theorem conf_false {a b : Nat} (h : conf ops a b = false) : ∀ t, dstOf ops a = some t → t ∉ namesOf ops b := by
 intro t ht hm
 simp only [conf, ht] at h
 simp [hm] at h
theorem dst_names {i : Nat} {t : Nat} (h : dstOf ops i = some t) : t ∈ namesOf ops i := by
 unfold dstOf at h
 cases ho : ops[i]? with
 | none => simp [ho] at h
 | some o => simp only [ho, Option.bind_some] at h; simp [namesOf, ho, h]
theorem agree_put {e : Env} {a b : Nat} {x : AV} (h : conf ops a b = false) : Agree (namesOf ops b) (e.put (dstOf ops a) x) e := by
 intro t ht
 rw [get_put, if_neg]
 intro hd
 exact conf_false h t hd ht
theorem dst_ne {a b : Nat} (h : conf ops a b = false) : ∀ t, dstOf ops a = some t → dstOf ops b ≠ some t := fun t ha hb => conf_false h t ha (dst_names hb)
theorem take_out {Δ : List HP} {i : Nat} {kd : Knd} {x : AV} {U2 : List (Nat × Knd × AV)} : ∀ (U1 : List (Nat × Knd × AV)) (A : Env), (∀ p ∈ U1, conf ops p.1 i = false ∧ conf ops i p.1 = false) → Pend P ops n Δ (U1 ++ (i, kd, x) :: U2) A →
   ((kd = .pure → PVal P ops n A i x) ∧ (kd = .read → LVal P ops n A Δ i x) ∧ (kd = .pure ∨ kd = .read)) ∧ Pend P ops n Δ (U1 ++ U2) (A.put (dstOf ops i) x) ∧ Eqv (applyU ops (U1 ++ U2) (A.put (dstOf ops i) x)) (applyU ops (U1 ++ (i, kd, x) :: U2) A)
 | [], A, _, h => ⟨⟨h.1, h.2.1, h.2.2.1⟩, h.2.2.2, Eqv.refl _⟩
 | (j, kj, y) :: U1, A, hc, ⟨h1, h2, h3, h4⟩ => by
   obtain ⟨c1, c2⟩ := hc (j, kj, y) (by simp)
   obtain ⟨⟨q1, q2, q3⟩, q4, q5⟩ := take_out U1 (A.put (dstOf ops j) y) (fun p hp => hc p (by simp [hp])) h4
   have hcomm : Eqv ((A.put (dstOf ops j) y).put (dstOf ops i) x) ((A.put (dstOf ops i) x).put (dstOf ops j) y) := put_comm (dst_ne c1)
   refine ⟨⟨fun e => (q1 e).agree (agree_put c1), fun e => (q2 e).agree (agree_put c1), q3⟩, ?_, ?_⟩
   · refine ⟨fun e => (h1 e).agree (fun t ht => (agree_put c2 t ht).symm), fun e => (h2 e).agree (fun t ht => (agree_put c2 t ht).symm), h3, ?_⟩
     exact Pend_eqv _ hcomm q4
   · exact (applyU_eqv (U1 ++ U2) hcomm.symm).trans q5
theorem advance {kont : Env → List HP → Prop} : ∀ (c : List (Nat × Knd)) (V : Env) (Δ : List HP), Can P ops n kont c V Δ →
   ∃ U rest, c = U.map (fun p => (p.1, p.2.1)) ++ rest ∧ Pend P ops n Δ U V ∧ Can P ops n kont rest (applyU ops U V) Δ ∧ (rest = [] ∨ ∃ e kd r, (kd = .act ∨ kd = .new) ∧ rest = (e, kd) :: r)
 | [], V, Δ, h => ⟨[], [], rfl, trivial, h, .inl rfl⟩
 | (i, .pure) :: c, V, Δ, ⟨x, h1, h2⟩ => by
   obtain ⟨U, rest, e, p, q, r⟩ := advance c _ _ h2
   exact ⟨(i, .pure, x) :: U, rest, by simp [e], ⟨(fun _ => h1), (fun h => Knd.noConfusion h), (.inl rfl), p⟩, q, r⟩
 | (i, .read) :: c, V, Δ, ⟨x, h1, h2⟩ => by
   obtain ⟨U, rest, e, p, q, r⟩ := advance c _ _ h2
   exact ⟨(i, .read, x) :: U, rest, by simp [e], ⟨(fun h => Knd.noConfusion h), (fun _ => h1), (.inr rfl), p⟩, q, r⟩
 | (i, .act) :: c, V, Δ, h => ⟨[], (i, .act) :: c, rfl, trivial, h, .inr ⟨i, .act, c, .inl rfl, rfl⟩⟩
 | (i, .new) :: c, V, Δ, h => ⟨[], (i, .new) :: c, rfl, trivial, h, .inr ⟨i, .new, c, .inr rfl, rfl⟩⟩
theorem Pend_append {Δ : List HP} : ∀ (U U' : List (Nat × Knd × AV)) (A : Env), Pend P ops n Δ U A → Pend P ops n Δ U' (applyU ops U A) → Pend P ops n Δ (U ++ U') A
 | [], _, _, _, h => h
 | (i, kd, x) :: U, U', A, ⟨h1, h2, h3, h4⟩, h => ⟨h1, h2, h3, Pend_append U U' _ h4 h⟩
theorem applyU_append : ∀ (U U' : List (Nat × Knd × AV)) (A : Env), applyU ops (U ++ U') A = applyU ops U' (applyU ops U A)
 | [], _, _ => rfl
 | (i, kd, x) :: U, U', A => applyU_append U U' _
theorem Pend_new {Δ Δ' : List HP} (hn : News Δ Δ') {i : Nat} {x : AV} : ∀ (U : List (Nat × Knd × AV)) (A : Env), (∀ p ∈ U, conf ops p.1 i = false ∧ conf ops i p.1 = false) → Pend P ops n Δ U A →
   Pend P ops n Δ' U (A.put (dstOf ops i) x) ∧ Eqv (applyU ops U (A.put (dstOf ops i) x)) ((applyU ops U A).put (dstOf ops i) x)
 | [], A, _, _ => ⟨trivial, Eqv.refl _⟩
 | (j, kj, y) :: U, A, hc, ⟨h1, h2, h3, h4⟩ => by
   obtain ⟨c1, c2⟩ := hc (j, kj, y) (by simp)
   obtain ⟨q1, q2⟩ := Pend_new hn U (A.put (dstOf ops j) y) (fun p hp => hc p (by simp [hp])) h4
   have hcomm : Eqv ((A.put (dstOf ops j) y).put (dstOf ops i) x) ((A.put (dstOf ops i) x).put (dstOf ops j) y) := put_comm (dst_ne c1)
   refine ⟨⟨fun e => (h1 e).agree (fun t ht => (agree_put c2 t ht).symm), fun e => ((h2 e).grow hn).agree (fun t ht => (agree_put c2 t ht).symm), h3, Pend_eqv _ hcomm q1⟩, ?_⟩
   exact (applyU_eqv U hcomm.symm).trans q2
theorem Pend_act {Δ Δ' : List HP} {i : Nat} {x : AV} : ∀ (U : List (Nat × Knd × AV)) (A : Env), (∀ p ∈ U, conf ops p.1 i = false ∧ conf ops i p.1 = false ∧ p.2.1 ≠ .read) → Pend P ops n Δ U A →
   Pend P ops n Δ' U (A.put (dstOf ops i) x) ∧ Eqv (applyU ops U (A.put (dstOf ops i) x)) ((applyU ops U A).put (dstOf ops i) x)
 | [], A, _, _ => ⟨trivial, Eqv.refl _⟩
 | (j, kj, y) :: U, A, hc, ⟨h1, h2, h3, h4⟩ => by
   obtain ⟨c1, c2, c3⟩ := hc (j, kj, y) (by simp)
   obtain ⟨q1, q2⟩ := Pend_act (Δ' := Δ') U (A.put (dstOf ops j) y) (fun p hp => hc p (by simp [hp])) h4
   have hcomm : Eqv ((A.put (dstOf ops j) y).put (dstOf ops i) x) ((A.put (dstOf ops i) x).put (dstOf ops j) y) := put_comm (dst_ne c1)
   refine ⟨⟨fun e => (h1 e).agree (fun t ht => (agree_put c2 t ht).symm), fun e => absurd e c3, h3, Pend_eqv _ hcomm q1⟩, ?_⟩
   exact (applyU_eqv U hcomm.symm).trans q2
theorem applyU_agree {i : Nat} : ∀ (U : List (Nat × Knd × AV)) (A : Env), (∀ p ∈ U, conf ops p.1 i = false) → Agree (namesOf ops i) (applyU ops U A) A
 | [], A, _ => fun _ _ => rfl
 | (j, kj, y) :: U, A, hc => fun t ht => by
   have h1 := applyU_agree U (A.put (dstOf ops j) y) (fun p hp => hc p (by simp [hp])) t ht
   have h2 := agree_put (e := A) (x := y) (hc (j, kj, y) (by simp)) t ht
   exact h1.trans h2
theorem nodup_mid {a b : List (Nat × Knd)} {x : Nat × Knd} (h : ((a ++ x :: b).map (·.1)).Nodup) (p : Nat × Knd) (hp : p ∈ a ++ b) : p.1 ≠ x.1 := by
 rw [List.map_append, List.map_cons] at h
 have h2 := List.nodup_append.1 h
 rcases List.mem_append.1 hp with hp | hp
 · exact h2.2.2 p.1 (List.mem_map.2 ⟨p, hp, rfl⟩) x.1 (by simp)
 · intro e
   exact (List.nodup_cons.1 h2.2.1).1 (by rw [← e]; exact List.mem_map.2 ⟨p, hp, rfl⟩)
variable {f : Shape} {R : APost} {k : List Item}
theorem reorder {anc : Nat → List Nat} : ∀ (l done : List Nat) (A V : Env) (U : List (Nat × Knd × AV)) (rest : List (Nat × Knd)) (Δ : List HP),
   Follows ops anc done l → (∀ p ∈ U.map (fun p => (p.1, p.2.1)) ++ rest, p.1 ∉ done ∧ p.1 < ops.size) → (∀ i, i < ops.size → i ∉ done → ∃ p ∈ U.map (fun p => (p.1, p.2.1)) ++ rest, p.1 = i) →
   ((U.map (fun p => (p.1, p.2.1)) ++ rest).map (·.1)).Nodup → (U.map (fun p => (p.1, p.2.1)) ++ rest).Pairwise (fun a b => okPair ops anc a b = true) →
   Pend P ops n Δ U A → Eqv V (applyU ops U A) → (rest = [] ∨ ∃ e kd r, (kd = .act ∨ kd = .new) ∧ rest = (e, kd) :: r) → Can P ops n (fun V Δ => J P f n R k V Δ) rest V Δ → J P f n R (.inRegion ops l :: k) A Δ
 | [], done, A, V, U, rest, Δ, hf, hU, hall, hnd, hpw, hpend, hV, hrest, hcan => by
   have hU0 : U.map (fun p => (p.1, p.2.1)) ++ rest = [] := by
     cases h : U.map (fun p => (p.1, p.2.1)) ++ rest with
     | nil => rfl
     | cons p q =>
       have := hU p (by rw [h]; simp)
       exact absurd (hf p.1 this.2) this.1
   obtain ⟨e1, rfl⟩ := List.append_eq_nil_iff.1 hU0
   have e2 : U = [] := by simpa using e1
   subst e2
   exact J_rend (J_env (fun t x h => by rw [hV t] at h; exact h) hcan)
 | i :: l, done, A, V, U, rest, Δ, ⟨hi, hnd, hanc, hf⟩, hU, hall, hno, hpw, hpend, hV, hrest, hcan => by
   -- whatever stands ahead of i and conflicts with it has come up
   have ahead : ∀ p q, okPair ops anc p q = true → q.1 = i → p.1 ∉ done → conf ops p.1 i = false ∧ conf ops i p.1 = false ∧ (p.2 = .pure ∨ p.2 = .read) ∧ ¬ (p.2 = .read ∧ q.2 = .act) := by
     intro p q hpq hq hp
     have hn : (anc q.1).contains p.1 = false := by
       cases hb : (anc q.1).contains p.1 with
       | false => rfl
       | true => rw [hq] at hb; exact absurd (hanc p.1 (by simpa using hb)) hp
     unfold okPair at hpq
     rw [hn] at hpq
     simp only [Bool.false_or, Bool.and_eq_true, Bool.or_eq_true, decide_eq_true_eq, Bool.not_eq_true', Bool.and_eq_false_iff, decide_eq_false_iff_not] at hpq
     obtain ⟨⟨⟨a1, a2⟩, a3⟩, a4⟩ := hpq
     rw [hq] at a3 a4
     exact ⟨a3, a4, a1, fun ⟨b1, b2⟩ => a2.elim (fun h => h b1) (fun h => h b2)⟩
   obtain ⟨p0, hp0, hpi⟩ := hall i hi hnd
   rcases List.mem_append.1 hp0 with hin | hin
   · -- it waits
     obtain ⟨u, hu, hue⟩ := List.mem_map.1 hin
     obtain ⟨j, kd, x⟩ := u
     have hji : j = i := by rw [← hpi, ← hue]
     subst hji
     obtain ⟨U1, U2, hsplit⟩ := List.append_of_mem hu
     subst hsplit
     have hc : ∀ p ∈ U1, conf ops p.1 j = false ∧ conf ops j p.1 = false := by
       intro p hp
       rw [List.map_append, List.append_assoc, List.pairwise_append] at hpw
       have h1 := hpw.2.2 (p.1, p.2.1) (List.mem_map.2 ⟨p, hp, rfl⟩) (j, kd) (by simp)
       have h2 := hU (p.1, p.2.1) (by simp only [List.map_append, List.append_assoc]; exact List.mem_append_left _ (List.mem_map.2 ⟨p, hp, rfl⟩))
       have := ahead _ _ h1 rfl h2.1
       exact ⟨this.1, this.2.1⟩
     obtain ⟨⟨q1, q2, q3⟩, q4, q5⟩ := take_out U1 A hc hpend
     have hsub : ((U1 ++ U2).map (fun p => (p.1, p.2.1)) ++ rest).Sublist ((U1 ++ (j, kd, x) :: U2).map (fun p => (p.1, p.2.1)) ++ rest) := by
       refine List.Sublist.append (List.Sublist.map _ ?_) (List.Sublist.refl _)
       exact List.Sublist.append (List.Sublist.refl _) (List.sublist_cons_self _ _)
     have hrec := reorder l (j :: done) (A.put (dstOf ops j) x) V (U1 ++ U2) rest Δ hf
       (fun p hp => ⟨fun hm => by
           rcases List.mem_cons.1 hm with e | e
           · exact nodup_mid (a := U1.map (fun p => (p.1, p.2.1))) (b := U2.map (fun p => (p.1, p.2.1)) ++ rest) (x := (j, kd)) (by simpa only [List.map_append, List.map_cons, List.append_assoc, List.cons_append] using hno) p (by simpa only [List.map_append, List.append_assoc] using hp) e
           · exact (hU p (hsub.subset hp)).1 e, (hU p (hsub.subset hp)).2⟩)
       (fun i' hi' hn' => by
         simp only [List.mem_cons, not_or] at hn'
         obtain ⟨p, hp, hpe⟩ := hall i' hi' hn'.2
         refine ⟨p, ?_, hpe⟩
         simp only [List.map_append, List.map_cons, List.append_assoc, List.cons_append, List.mem_append, List.mem_cons] at hp ⊢
         rcases hp with hp | hp | hp | hp
         · exact .inl hp
         · exact absurd (by rw [← hpe, hp]) hn'.1
         · exact .inr (.inl hp)
         · exact .inr (.inr hp))
       ((hsub.map _).nodup hno) (hpw.sublist hsub) q4 (hV.trans q5.symm) hrest hcan
     cases kd with
     | pure => exact (q1 rfl).J hrec
     | read => exact (q2 rfl).J hrec
     | act => rcases q3 with h | h <;> exact Knd.noConfusion h
     | new => rcases q3 with h | h <;> exact Knd.noConfusion h
   · -- it is the next act
     rcases hrest with rfl | ⟨e, kd, r, hkd, rfl⟩
     · simp at hin
     · have hei : e = i := by
         rcases List.mem_cons.1 hin with h | h
         · rw [← hpi, h]
         · have hp := (List.pairwise_cons.1 (List.pairwise_append.1 hpw).2.1).1 p0 h
           have hee := hU (e, kd) (by simp)
           have := ahead _ _ hp hpi hee.1
           exfalso
           rcases hkd with rfl | rfl <;> rcases this.2.2.1 with h | h <;> exact Knd.noConfusion h
       subst hei
       have hUc : ∀ p ∈ U, conf ops p.1 e = false ∧ conf ops e p.1 = false ∧ ¬ (p.2.1 = .read ∧ kd = .act) := by
         intro p hp
         have h1 := (List.pairwise_append.1 hpw).2.2 (p.1, p.2.1) (List.mem_map.2 ⟨p, hp, rfl⟩) (e, kd) (by simp)
         have h2 := hU (p.1, p.2.1) (List.mem_append_left _ (List.mem_map.2 ⟨p, hp, rfl⟩))
         have := ahead _ _ h1 rfl h2.1
         exact ⟨this.1, this.2.1, this.2.2.2⟩
       have hag : Agree (namesOf ops e) V A := fun t ht => (hV t).trans (applyU_agree U A (fun p hp => (hUc p hp).1) t ht)
       have go : ∀ x Δ', Can P ops n (fun V Δ => J P f n R k V Δ) r (V.put (dstOf ops e) x) Δ' → (Pend P ops n Δ' U (A.put (dstOf ops e) x) ∧ Eqv (applyU ops U (A.put (dstOf ops e) x)) ((applyU ops U A).put (dstOf ops e) x)) → J P f n R (.inRegion ops l :: k) (A.put (dstOf ops e) x) Δ' := by
         intro x Δ' hcan' ⟨w1, w2⟩
         obtain ⟨U', rest', e1, e2, e3, e4⟩ := advance r _ _ hcan'
         have hVV : Eqv (V.put (dstOf ops e) x) (applyU ops U (A.put (dstOf ops e) x)) := (hV.put _ _).trans w2.symm
         have hlist : (U ++ U').map (fun p => (p.1, p.2.1)) ++ rest' = U.map (fun p => (p.1, p.2.1)) ++ r := by rw [List.map_append, List.append_assoc, ← e1]
         have hsub : (U.map (fun p => (p.1, p.2.1)) ++ r).Sublist (U.map (fun p => (p.1, p.2.1)) ++ (e, kd) :: r) := List.Sublist.append (List.Sublist.refl _) (List.sublist_cons_self _ _)
         refine reorder l (e :: done) (A.put (dstOf ops e) x) (applyU ops U' (V.put (dstOf ops e) x)) (U ++ U') rest' Δ' hf ?_ ?_ ?_ ?_ ?_ ?_ e4 e3
         · rw [hlist]
           intro p hp
           refine ⟨fun hm => ?_, (hU p (hsub.subset hp)).2⟩
           rcases List.mem_cons.1 hm with q | q
           · exact nodup_mid (a := U.map (fun p => (p.1, p.2.1))) (b := r) (x := (e, kd)) hno p hp q
           · exact (hU p (hsub.subset hp)).1 q
         · rw [hlist]
           intro i' hi' hn'
           simp only [List.mem_cons, not_or] at hn'
           obtain ⟨p, hp, hpe⟩ := hall i' hi' hn'.2
           refine ⟨p, ?_, hpe⟩
           simp only [List.mem_append, List.mem_cons] at hp ⊢
           rcases hp with hp | hp | hp
           · exact .inl hp
           · exact absurd (by rw [← hpe, hp]) hn'.1
           · exact .inr hp
         · rw [hlist]; exact (hsub.map _).nodup hno
         · rw [hlist]; exact hpw.sublist hsub
         · exact Pend_append _ _ _ w1 (Pend_eqv _ hVV e2)
         · rw [applyU_append]; exact applyU_eqv _ hVV
       rcases hkd with rfl | rfl
       · have hst : EStep P ops n A Δ e (fun x Δ' => Can P ops n (fun V Δ => J P f n R k V Δ) r (V.put (dstOf ops e) x) Δ') := EStep.agree hcan hag
         refine hst.J ?_
         intro x Δ' hcan'
         exact go x Δ' hcan' (Pend_act U A (fun p hp => ⟨(hUc p hp).1, (hUc p hp).2.1, fun h => (hUc p hp).2.2 ⟨h, rfl⟩⟩) hpend)
       · have hst : NStep P ops n A Δ e (fun x Δ' => Can P ops n (fun V Δ => J P f n R k V Δ) r (V.put (dstOf ops e) x) Δ') := NStep.agree hcan hag
         refine hst.news.J ?_
         rintro x Δ' ⟨hcan', hnw⟩
         exact go x Δ' hcan' (Pend_new hnw U A (fun p hp => ⟨(hUc p hp).1, (hUc p hp).2.1⟩) hpend)
end
end
section
def ancOK (ops : Array Oper) (A : List (List Nat)) : Bool :=
 (List.range ops.size).all fun i => match ops[i]? with
   | some o => (o.after.toList.all fun e => !Region.binds .any e || decide (e.on < i)) &&
       (A.getD i []).all fun j => o.after.toList.any fun e => Region.binds .any e && decide (e.on < i) && (j == e.on || (A.getD e.on []).contains j)
   | none => false
def pairB (ops : Array Oper) (A : List (List Nat)) : List (Nat × Knd) → Bool
 | [] => true
 | a :: c => (c.all fun b => okPair ops (fun i => A.getD i []) a b) && pairB ops A c
def nodupB : List Nat → Bool
 | [] => true
 | a :: c => !c.contains a && nodupB c
def drawOK (ops : Array Oper) (A : List (List Nat)) (c : List (Nat × Knd)) : Bool :=
 ancOK ops A && pairB ops A c && nodupB (c.map (·.1)) && (c.all fun p => decide (p.1 < ops.size)) && (List.range ops.size).all fun i => c.any fun p => p.1 == i
theorem pairB_sound {ops : Array Oper} {A : List (List Nat)} : ∀ {c : List (Nat × Knd)}, pairB ops A c = true → c.Pairwise (fun a b => okPair ops (fun i => A.getD i []) a b = true)
 | [], _ => .nil
 | a :: c, h => by
   simp only [pairB, Bool.and_eq_true, List.all_eq_true] at h
   exact .cons h.1 (pairB_sound h.2)
theorem nodupB_sound : ∀ {c : List Nat}, nodupB c = true → c.Nodup
 | [], _ => .nil
 | a :: c, h => by
   simp only [nodupB, Bool.and_eq_true, Bool.not_eq_true'] at h
   refine List.nodup_cons.2 ⟨fun hm => ?_, nodupB_sound h.2⟩
   simp [hm] at h
section
variable {ops : Array Oper} {A : List (List Nat)}
def Closed (ops : Array Oper) (listed : Array Bool) : Prop :=
 ∀ i o, ops[i]? = some o → listed.getD i false = true → ∀ e ∈ o.after.toList, Region.binds .any e = true → listed.getD e.on false = true
theorem anc_listed (hA : ancOK ops A = true) {listed : Array Bool} (hc : Closed ops listed) : ∀ (m i : Nat), i ≤ m → i < ops.size → (∀ o, ops[i]? = some o → ∀ e ∈ o.after.toList, Region.binds .any e = true → listed.getD e.on false = true) →
   ∀ j ∈ A.getD i [], listed.getD j false = true := by
 intro m
 induction m with
 | zero =>
   intro i him hi hcl j hj
   have hA2 := hA
   simp only [ancOK, List.all_eq_true, List.mem_range] at hA2
   have h := hA2 i hi
   have ho : ops[i]? = some ops[i] := Array.getElem?_eq_getElem hi
   rw [ho] at h
   simp only [Bool.and_eq_true, List.all_eq_true] at h
   have h2 := h.2 j hj
   rw [List.any_eq_true] at h2
   obtain ⟨e, he, h2⟩ := h2
   simp only [Bool.and_eq_true, decide_eq_true_eq] at h2
   omega
 | succ m ih =>
   intro i him hi hcl j hj
   have hA2 := hA
   simp only [ancOK, List.all_eq_true, List.mem_range] at hA2
   have h := hA2 i hi
   have ho : ops[i]? = some ops[i] := Array.getElem?_eq_getElem hi
   rw [ho] at h
   simp only [Bool.and_eq_true, List.all_eq_true] at h
   have h2 := h.2 j hj
   rw [List.any_eq_true] at h2
   obtain ⟨e, he, h2⟩ := h2
   simp only [Bool.and_eq_true, decide_eq_true_eq, Bool.or_eq_true, beq_iff_eq] at h2
   obtain ⟨⟨hb, hlt⟩, h3⟩ := h2
   have hl : listed.getD e.on false = true := hcl _ ho _ he hb
   rcases h3 with rfl | h3
   · exact hl
   · exact ih _ (by omega) (by omega) (fun o ho' e he hb' => hc _ _ ho' hl e he hb') j (by simpa using h3)
theorem getD_set {listed : Array Bool} {i j : Nat} (hi : i < listed.size) : (listed.setIfInBounds i true).getD j false = true ↔ j = i ∨ listed.getD j false = true := by
 simp only [Array.getD_eq_getD_getElem?, Array.getElem?_setIfInBounds]
 by_cases h : i = j
 · subst h; simp [hi]
 · simp [h, Ne.symm h]
theorem linearise_follows (hA : ancOK ops A = true) : ∀ (fuel t : Nat) (listed : Array Bool) (done : List Nat), listed.size = ops.size → (∀ i, i ∈ done ↔ listed.getD i false = true) → Closed ops listed →
   ops.size ≤ fuel + done.length → done.Nodup → Follows ops (fun i => A.getD i []) done (Region.linearise.go .any ops fuel t listed []) := by
 -- someone is ready while anyone waits
 have ready : ∀ (listed : Array Bool), listed.size = ops.size → Region.ready .any ops listed = [] → ∀ m i, i ≤ m → i < ops.size → listed.getD i false = true := by
   intro listed hs hr m
   have hA2 := hA
   simp only [ancOK, List.all_eq_true, List.mem_range] at hA2
   induction m with
   | zero =>
     intro i him hi
     cases hl : listed.getD i false with
     | true => rfl
     | false =>
       have h := hA2 i hi
       have ho : ops[i]? = some ops[i] := Array.getElem?_eq_getElem hi
       rw [ho] at h
       simp only [Bool.and_eq_true, List.all_eq_true] at h
       have : i ∈ Region.ready .any ops listed := by
         simp only [Region.ready, List.mem_filter, List.mem_range]
         refine ⟨hi, ?_⟩
         have hl2 : listed.getD i true = false := by
           simp only [Array.getD_eq_getD_getElem?] at hl ⊢
           rw [Array.getElem?_eq_getElem (by omega)] at hl ⊢
           simpa using hl
         rw [hl2, ho]
         simp only [Bool.not_false, Bool.true_and, Option.map_some, Option.getD_some]
         rw [Array.all_eq_true]
         intro n hn
         have h1 := h.1 _ (Array.getElem_mem_toList hn)
         simp only [Bool.or_eq_true, Bool.not_eq_true', decide_eq_true_eq] at h1 ⊢
         rcases h1 with h1 | h1
         · exact .inl h1
         · omega
       rw [hr] at this
       simp at this
   | succ m ih =>
     intro i him hi
     cases hl : listed.getD i false with
     | true => rfl
     | false =>
       have h := hA2 i hi
       have ho : ops[i]? = some ops[i] := Array.getElem?_eq_getElem hi
       rw [ho] at h
       simp only [Bool.and_eq_true, List.all_eq_true] at h
       have : i ∈ Region.ready .any ops listed := by
         simp only [Region.ready, List.mem_filter, List.mem_range]
         refine ⟨hi, ?_⟩
         have hl2 : listed.getD i true = false := by
           simp only [Array.getD_eq_getD_getElem?] at hl ⊢
           rw [Array.getElem?_eq_getElem (by omega)] at hl ⊢
           simpa using hl
         rw [hl2, ho]
         simp only [Bool.not_false, Bool.true_and, Option.map_some, Option.getD_some]
         rw [Array.all_eq_true]
         intro n hn
         have h1 := h.1 _ (Array.getElem_mem_toList hn)
         simp only [Bool.or_eq_true, Bool.not_eq_true', decide_eq_true_eq] at h1 ⊢
         rcases h1 with h1 | h1
         · exact .inl h1
         · exact .inr (ih _ (by omega) (by omega))
       rw [hr] at this
       simp at this
 intro fuel
 induction fuel with
 | zero =>
   intro t listed done hs hd hc hf hnd
   simp only [Region.linearise.go, List.reverse_nil, Follows]
   intro i hi
   by_cases hm : i ∈ done
   · exact hm
   · exfalso
     have hsub : ∀ j ∈ i :: done, j < ops.size := by
       intro j hj
       rcases List.mem_cons.1 hj with rfl | hj
       · exact hi
       · have := (hd j).1 hj
         simp only [Array.getD_eq_getD_getElem?] at this
         by_cases hjs : j < listed.size
         · omega
         · rw [Array.getElem?_eq_none (by omega)] at this; simp at this
     have h1 : (i :: done).Nodup := List.nodup_cons.2 ⟨hm, hnd⟩
     have h2 : (i :: done).length ≤ (List.range ops.size).length := h1.length_le_of_subset (fun j hj => List.mem_range.2 (hsub j hj))
     simp at h2
     omega
 | succ fuel ih =>
   intro t listed done hs hd hc hf hnd
   simp only [Region.linearise.go]
   change Follows ops (fun i => A.getD i []) done (match (Region.ready .any ops listed)[t % (Region.ready .any ops listed).length]? with
     | some i => Region.linearise.go .any ops fuel (t / (Region.ready .any ops listed).length) (listed.setIfInBounds i true) [i]
     | none => [].reverse)
   cases hi : (Region.ready .any ops listed)[t % (Region.ready .any ops listed).length]? with
   | none =>
     have hnil : Region.ready .any ops listed = [] := by
       cases hr : Region.ready .any ops listed with
       | nil => rfl
       | cons x xs =>
         rw [hr] at hi
         have hlt : t % (x :: xs).length < (x :: xs).length := Nat.mod_lt _ (by simp)
         simp at hi
         simp at hlt
         omega
     simp only [List.reverse_nil, Follows]
     intro i hi2
     exact (hd i).2 (ready listed hs hnil i i (Nat.le_refl _) hi2)
   | some i =>
     simp only []
     rw [linearise_go_acc, List.reverse_singleton, List.singleton_append]
     have hm := List.mem_of_getElem? hi
     simp only [Region.ready, List.mem_filter, List.mem_range, Bool.and_eq_true, Bool.not_eq_true'] at hm
     obtain ⟨hlt, hl, hr⟩ := hm
     have ho : ops[i]? = some ops[i] := Array.getElem?_eq_getElem hlt
     have hl2 : listed.getD i false = false := by
       simp only [Array.getD_eq_getD_getElem?] at hl ⊢
       rw [Array.getElem?_eq_getElem (by omega)] at hl ⊢
       simpa using hl
     have hin : i ∉ done := fun hm => by rw [(hd i).1 hm] at hl2; cases hl2
     have hcl : ∀ o, ops[i]? = some o → ∀ e ∈ o.after.toList, Region.binds .any e = true → listed.getD e.on false = true := by
       intro o ho' e he hb
       rw [ho'] at hr
       simp only [Option.map_some, Option.getD_some] at hr
       obtain ⟨n, hn, rfl⟩ := List.mem_iff_getElem.1 he
       have h1 := Array.all_eq_true.1 hr n (by simpa using hn)
       simp only [Bool.or_eq_true, Bool.not_eq_true'] at h1
       rcases h1 with h1 | h1
       · simp only [Array.getElem_toList] at hb; rw [hb] at h1; cases h1
       · simpa using h1
     refine ⟨hlt, hin, ?_, ?_⟩
     · intro j hj
       exact (hd j).2 (anc_listed hA hc i i (Nat.le_refl _) hlt hcl j hj)
     · refine ih _ _ (i :: done) (by simpa using hs) ?_ ?_ (by simp only [List.length_cons]; omega) (List.nodup_cons.2 ⟨hin, hnd⟩)
       · intro j
         rw [List.mem_cons, getD_set (by omega), hd j]
       · intro j o ho' hj e he hb
         rw [getD_set (by omega)] at hj ⊢
         rcases hj with rfl | hj
         · exact .inr (hcl o ho' e he hb)
         · exact .inr (hc j o ho' hj e he hb)
end
section
variable {P : Program} {ops : Array Oper} {n : Nat} {f : Shape} {R : APost} {k : List Item} {env : Env} {Δ : List HP} {A : List (List Nat)} {c : List (Nat × Knd)}
theorem follows_J (hd : drawOK ops A c = true) {l : List Nat} (hf : Follows ops (fun i => A.getD i []) [] l) (h : Can P ops n (fun V Δ => J P f n R k V Δ) c env Δ) : J P f n R (.inRegion ops l :: k) env Δ := by
 simp only [drawOK, Bool.and_eq_true, List.all_eq_true, decide_eq_true_eq, List.mem_range] at hd
 obtain ⟨⟨⟨⟨h1, h2⟩, h3⟩, h4⟩, h5⟩ := hd
 obtain ⟨U, rest, e1, e2, e3, e4⟩ := advance c _ _ h
 refine reorder l [] env (applyU ops U env) U rest Δ hf ?_ ?_ ?_ ?_ e2 (Eqv.refl _) e4 e3
 · rw [← e1]; exact fun p hp => ⟨by simp, h4 p hp⟩
 · rw [← e1]
   intro i hi _
   obtain ⟨p, hp, he⟩ := List.any_eq_true.1 (h5 i hi)
   exact ⟨p, hp, by simpa using he⟩
 · rw [← e1]; exact nodupB_sound h3
 · rw [← e1]; exact pairB_sound h2
theorem J_draw (A : List (List Nat)) (c : List (Nat × Knd)) {id : Nat} (hm : P.follows .mixedOrders = true) (hd : drawOK ops A c = true) (h : Can P ops n (fun V Δ => J P f n R k V Δ) c env Δ) : J P f n R (.code (.region id ops true) :: k) env Δ := by
 intro g B tmps sm hn he b cs hb hk
 have hA : ancOK ops A = true := by
   simp only [drawOK, Bool.and_eq_true] at hd
   exact hd.1.1.1.1
 have hf : Follows ops (fun i => A.getD i []) [] (Region.schedule (P.follows .mixedOrders) ops (g.w.tape g.w.drawn (.order b.fn id))) := by
   simp only [Region.schedule, hm, Bool.true_or, if_true, Region.linearise]
   refine linearise_follows hA _ _ _ [] (by simp) ?_ ?_ (by simp) .nil
   · intro i
     simp only [List.not_mem_nil, false_iff, Array.getD_eq_getD_getElem?]
     by_cases h : i < ops.size <;> simp [h]
   · intro i o _ hl
     simp only [Array.getD_eq_getD_getElem?] at hl
     by_cases h : i < ops.size <;> simp [h] at hl
 have hJ : J P f n R (.inRegion ops (Region.schedule (P.follows .mixedOrders) ops (g.w.tape g.w.drawn (.order b.fn id))) :: k) env Δ := follows_J hd hf h
 obtain ⟨e, w', fr, h1, h2, h3⟩ := hJ g.drew B tmps (drew_sim sm) hn (he.mono (g := g) (g' := g.drew) ⟨fun _ h => h, fun _ _ => rfl⟩) b cs hb hk
 refine ⟨e, w', fr, ?_, .of_steps (.one stepR_region_draw) h2, h3⟩
 obtain ⟨g', B', a, D, q0, q1, q2⟩ := h1
 exact ⟨g', B', a, D, q0, drew_ext.trans q1, q2⟩
end
section
variable {P : Program} {ops : Array Oper} {n : Nat} {kont : Env → List HP → Prop}
def canM (P : Program) (ops : Array Oper) (own : List Nat) (n : Nat) : List (Nat × Knd) → Env → List HP → List (Nat × Knd) × Env × List HP
 | [], V, Δ => ([], V, Δ)
 | (i, kd) :: c, V, Δ =>
   match ops[i]? with
   | none => ((i, kd) :: c, V, Δ)
   | some o =>
     match awanted ops V o with
     | none => ((i, kd) :: c, V, Δ)
     | some false => match kd with
       | .pure => if o.dst.all (· < n) then canM P ops own n c (V.put o.dst (.c undef)) Δ else ((i, kd) :: c, V, Δ)
       | .read => if o.dst.all (· < n) then canM P ops own n c (V.put o.dst (.c undef)) Δ else ((i, kd) :: c, V, Δ)
       | .act => if o.dst.all (· < n) then canM P ops own n c (V.put o.dst (.c undef)) Δ else ((i, kd) :: c, V, Δ)
       | .new => if o.dst.all (· < n) then canM P ops own n c (V.put o.dst (.c undef)) Δ else ((i, kd) :: c, V, Δ)
     | some true => if o.dst.any (own.contains ·) then ((i, kd) :: c, V, Δ) else
       match kd with
       | .pure => match astep P V o.op with
         | some x => if o.dst.all (· < n) then canM P ops own n c (V.put o.dst x) Δ else ((i, kd) :: c, V, Δ)
         | none => ((i, kd) :: c, V, Δ)
       | .read => match astep P V o.op with
         | some x => if o.dst.all (· < n) then canM P ops own n c (V.put o.dst x) Δ else ((i, kd) :: c, V, Δ)
         | none => match o.op with
           | .load t x => match mstep P V Δ (.load t x) with
             | some (r, _) => if o.dst.all (· < n) then canM P ops own n c (V.put o.dst r) Δ else ((i, kd) :: c, V, Δ)
             | none => ((i, kd) :: c, V, Δ)
           | _ => ((i, kd) :: c, V, Δ)
       | .new => ((i, kd) :: c, V, Δ)
       | .act => match mstep P V Δ o.op with
         | some (r, Δ') => if o.dst.all (· < n) then canM P ops own n c (V.put o.dst r) Δ' else ((i, kd) :: c, V, Δ)
         | none => ((i, kd) :: c, V, Δ)
theorem mstep_load {V : Env} {Δ Δ' : List HP} {t : TypeId} {x : Operand} {r : AV} (h : mstep P V Δ (.load t x) = some (r, Δ')) : Δ' = Δ := by
 simp only [mstep] at h
 split at h
 · split at h
   · simp only [Option.some.injEq, Prod.mk.injEq] at h; exact h.2.symm
   · simp at h
 · simp at h
theorem Can_run {own : List Nat} : ∀ {c c' : List (Nat × Knd)} {V V' : Env} {Δ Δ' : List HP}, canM P ops own n c V Δ = (c', V', Δ') → Can P ops n kont c' V' Δ' → Can P ops n kont c V Δ := by
 intro c
 induction c with
 | nil =>
   intro c' V V' Δ Δ' h hj
   simp only [canM, Prod.mk.injEq] at h
   obtain ⟨rfl, rfl, rfl⟩ := h; exact hj
 | cons p c ih =>
   obtain ⟨i, kd⟩ := p
   intro c' V V' Δ Δ' h hj
   have same : ((i, kd) :: c, V, Δ) = (c', V', Δ') → Can P ops n kont ((i, kd) :: c) V Δ := by
     intro hh
     obtain ⟨q1, q⟩ := Prod.mk.inj hh
     obtain ⟨q2, q3⟩ := Prod.mk.inj q
     rw [q1, q2, q3]; exact hj
   have dste : ∀ {o : Oper}, ops[i]? = some o → dstOf ops i = o.dst := fun ho => by simp [dstOf, ho]
   unfold canM at h
   split at h
   · exact same h
   · rename_i o ho
     split at h
     · exact same h
     · rename_i hw
       split at h
       · split at h
         · rename_i hd; exact ⟨_, .skip ho hw hd, by rw [dste ho]; exact ih h hj⟩
         · exact same h
       · split at h
         · rename_i hd; exact ⟨_, .pv (.skip ho hw hd), by rw [dste ho]; exact ih h hj⟩
         · exact same h
       · split at h
         · rename_i hd; exact .skip ho hw hd (by rw [dste ho]; exact ih h hj)
         · exact same h
       · split at h
         · rename_i hd; exact .skip ho hw hd (by rw [dste ho]; exact ih h hj)
         · exact same h
     · rename_i hw
       split at h
       · exact same h
       · split at h
         · split at h
           · rename_i x hx
             split at h
             · rename_i hd; exact ⟨_, .pure ho hw hd hx, by rw [dste ho]; exact ih h hj⟩
             · exact same h
           · exact same h
         · split at h
           · rename_i x hx
             split at h
             · rename_i hd; exact ⟨_, .pv (.pure ho hw hd hx), by rw [dste ho]; exact ih h hj⟩
             · exact same h
           · split at h
             · rename_i t x hop
               split at h
               · rename_i r D hx
                 split at h
                 · rename_i hd
                   refine ⟨r, .load ho hw hd hop ?_, by rw [dste ho]; exact ih h hj⟩
                   rw [hx, mstep_load hx]
                 · exact same h
               · exact same h
             · exact same h
         · exact same h
         · split at h
           · rename_i r D hx
             split at h
             · rename_i hd; exact .mem ho hw hd hx (by rw [dste ho]; exact ih h hj)
             · exact same h
           · exact same h
variable {V : Env} {Δ : List HP} {c : List (Nat × Knd)} {i : Nat} {dst : Option Tmp} {h : FuncId} {as : List AV}
theorem Can_nil (h : kont V Δ) : Can P ops n kont [] V Δ := h
theorem Can_callp {x : AV} (hc : callAt ops V n i = some (dst, h, as)) (hs : ACalls P h as [] (Ret x)) (hk : Can P ops n kont c (V.put dst x) Δ) : Can P ops n kont ((i, .pure) :: c) V Δ :=
 ⟨x, .call hc hs, by rw [callAt_dst hc]; exact hk⟩
theorem Can_callr {x : AV} (hc : callAt ops V n i = some (dst, h, as)) (hs : ACalls P h as Δ (fun r Δ' => r = .ret x ∧ Δ' = Δ)) (hk : Can P ops n kont c (V.put dst x) Δ) : Can P ops n kont ((i, .read) :: c) V Δ :=
 ⟨x, .call hc (hs.mono fun r D h => ⟨h.1, by rw [h.2]⟩), by rw [callAt_dst hc]; exact hk⟩
theorem Can_call {Δ1 Fr : List HP} {R1 : APost} (hc : callAt ops V n i = some (dst, h, as)) (hs : ACalls P h as Δ1 R1) (hp : Δ.Perm (Δ1 ++ Fr)) (hk : ∀ x Δ', R1 (.ret x) Δ' → Can P ops n kont c (V.put dst x) (Δ' ++ Fr)) (hn : ∀ x Δ', ¬ R1 (.pan x) Δ') :
   Can P ops n kont ((i, .act) :: c) V Δ :=
 .call hc hs hp (fun x Δ' hr => by rw [callAt_dst hc]; exact hk x Δ' hr) hn
end
end
section
section
variable {P : Program}
def srcOf (Δ : List HP) (s : Nat) (x : AV) : Option (Nat × List AV) :=
 match x with
 | .sl s' rows => if s' = s then some (rows.length, rows.flatten) else none
 | .sl0 => some (0, [])
 | .c (.slice none 0 0) => some (0, [])
 | .c (.slice (some ⟨b, o, none⟩) len _) => match getBox Δ b with
   | some (_, cells) => if o + len * s ≤ cells.length then some (len, (cells.drop o).take (len * s)) else none
   | none => none
 | _ => none
theorem srcOf_run {g : G} {B : Nat → Prop} {Δ : List HP} {s n : Nat} {x : AV} {u : Value} {cs : List AV} (sm : Sim g B Δ) (hx : rel g x u) (h : srcOf Δ s x = some (n, cs)) :
   cs.length = n * s ∧ (Builtin.lenOf u).run P g.w = .ok n g.w ∧ ∀ m, m ≤ n → ∃ us : List Value, relL g (cs.take (m * s)) us ∧ (Builtin.firstCells s m u).run P g.w = .ok us.toArray g.w := by
 have none_ : ∀ a : Option Addr, ∀ m, m ≤ 0 → ∃ us : List Value, relL g (([] : List AV).take (m * s)) us ∧ (Builtin.firstCells s m (.slice a 0 0)).run P g.w = .ok us.toArray g.w := by
   intro a m hm
   obtain rfl : m = 0 := by omega
   refine ⟨[], by simp [relL], ?_⟩
   cases a with
   | none => rfl
   | some a => simp [Builtin.firstCells, loadCells, loadCellsFrom]
 unfold srcOf at h
 split at h
 · rename_i s' rows
   split at h
   · rename_i hs; subst hs
     simp only [Option.some.injEq, Prod.mk.injEq] at h
     obtain ⟨rfl, rfl⟩ := h
     simp only [rel] at hx
     obtain ⟨a, cap, rfl, ⟨hcap, hmax⟩, hor⟩ := hx
     rcases hor with rfl | ⟨b, o, rfl, hb, hr⟩
     · refine ⟨by simp, rfl, ?_⟩
       intro m hm
       obtain rfl : m = 0 := by simpa using hm
       refine ⟨[], by simp [relL], ?_⟩
       cases a with
       | none => rfl
       | some a => simp [Builtin.firstCells, loadCells, loadCellsFrom]
     · obtain ⟨k1, k2⟩ := relR_flat hr
       refine ⟨k2, rfl, ?_⟩
       intro m hm
       obtain ⟨us, h1, h2⟩ := loadCells_run (P := P) (n := m * s') k1 (by rw [k2]; exact Nat.mul_le_mul_right _ hm)
       exact ⟨us, h1, h2⟩
   · simp at h
 · simp only [Option.some.injEq, Prod.mk.injEq] at h
   obtain ⟨rfl, rfl⟩ := h
   simp only [rel] at hx
   obtain ⟨a, rfl⟩ := hx
   exact ⟨by simp, rfl, none_ a⟩
 · simp only [Option.some.injEq, Prod.mk.injEq] at h
   obtain ⟨rfl, rfl⟩ := h
   simp only [rel] at hx; subst hx
   exact ⟨by simp, rfl, none_ none⟩
 · rename_i b o len cap
   split at h
   · rename_i t cells hg
     split at h
     · rename_i hl
       simp only [Option.some.injEq, Prod.mk.injEq] at h
       obtain ⟨rfl, rfl⟩ := h
       simp only [rel] at hx; subst hx
       obtain ⟨hB, us, h1, h2⟩ := getBox_spec sm.sep hg
       refine ⟨by simp; omega, rfl, ?_⟩
       intro m hm
       have hc := relC_drop (block_relC h1 h2) o
       rw [Nat.zero_add] at hc
       have hml : m * s ≤ len * s := Nat.mul_le_mul_right _ hm
       obtain ⟨us', k1, k2⟩ := loadCells_run (P := P) (n := m * s) hc (by simp; omega)
       refine ⟨us', ?_, k2⟩
       rw [List.take_take, Nat.min_eq_left hml]; exact k1
     · simp at h
   · simp at h
 · simp at h
theorem boxStore {g : G} {B : Nat → Prop} {Δ : List HP} {b o : Nat} {t : TypeId} {cells xs : List AV} {vs : List Value} (sm : Sim g B Δ) (hg : getBox Δ b = some (t, cells)) (hv : relL g xs vs) (hc : xs.all AV.isCell = true) (hl : o + xs.length ≤ cells.length) :
   ∃ g' : G, (storeCells ⟨b, o, none⟩ vs).run P g.w = .ok () g'.w ∧ Ext g B g' B ∧ Sim g' B (setBox Δ b (cells.take o ++ xs ++ cells.drop (o + xs.length))) := by
 obtain ⟨hB, cs, h1, h2⟩ := getBox_spec sm.sep hg
 have hlt := sm.blt b hB
 have hnf : ¬ g.fz b := fun hf => sm.disj b hf hB
 have hl1 := relL_length h2
 have hl2 := relL_length hv
 let cs' := cs.take o ++ vs ++ cs.drop (o + vs.length)
 let g' : G := ⟨g.fz, World.upd g.w b t cs'⟩
 have hle : Le g g' := ⟨fun _ h => h, fun b' hb' => upd_ne (by rintro rfl; exact hnf hb')⟩
 have hrel : relL g' (cells.take o ++ xs ++ cells.drop (o + xs.length)) cs' := by
   refine relL_mono hle _ _ ?_
   have e0 : o + vs.length = o + xs.length := by omega
   have := relL_append (relL_append (relL_take o h2) hv) (relL_drop (o + xs.length) h2)
   simp only [cs']
   rw [e0]; exact this
 refine ⟨g', ?_, ?_, ?_⟩
 · have := storeCells_run (P := P) (t := t) hlt vs cs o 0 (isCell_relL hc hv) (by omega)
   rw [upd_eq h1] at this
   simpa [g', cs'] using this
 · exact ⟨rfl, rfl, rfl, by simp [g', World.upd], fun b' _ hn => upd_ne (by rintro rfl; exact hn hB), fun _ h => h, fun _ h => .inl h, fun _ h => .inl h⟩
 · exact ⟨fun b' hb' => by simpa [g', World.upd] using sm.fzlt b' hb', fun b' hb' => by simpa [g', World.upd] using sm.blt b' hb', sm.disj, setBox_sep hnf hlt hrel sm.sep hg⟩
theorem append_in {g : G} {B : Nat → Prop} {Δ : List HP} {e : TypeId} {s b o n sLen sCap : Nat} {t : TypeId} {cells cs : List AV} {x : AV} {u : Value} (sm : Sim g B Δ) (hx : rel g x u) (hsrc : srcOf Δ s x = some (n, cs)) (hfit : sLen + n ≤ sCap)
   (hg : getBox Δ b = some (t, cells)) (hc : cs.all AV.isCell = true) (hl : o + (sLen + n) * s ≤ cells.length) :
   ∃ g', (appendCore e s (some ⟨b, o, none⟩) sLen sCap n u).run P g.w = .ok (.slice (some ⟨b, o, none⟩) (sLen + n) sCap) g'.w ∧ Ext g B g' B ∧ Sim g' B (setBox Δ b (cells.take (o + sLen * s) ++ cs ++ cells.drop (o + (sLen + n) * s))) := by
 obtain ⟨k1, k2, k3⟩ := srcOf_run (P := P) sm hx hsrc
 obtain ⟨us, q1, q2⟩ := k3 n (Nat.le_refl _)
 rw [← k1, List.take_length] at q1
 have hmul : o + (sLen + n) * s = o + sLen * s + cs.length := by rw [Nat.add_mul, k1]; omega
 obtain ⟨g', r1, r2, r3⟩ := boxStore (P := P) (o := o + sLen * s) sm hg q1 hc (by omega)
 refine ⟨g', ?_, r2, by rw [hmul]; exact r3⟩
 unfold appendCore
 rw [if_pos hfit, Sem.run_bind, q2, Result.andThen_ok]
 simp only [Sem.run_bind]
 simp only [addr_add, r1, Result.andThen_ok, Sem.run_pure]
theorem growBy_le (newLen : Nat) : ∀ (rounds c : Nat), c < newLen → Builtin.growBy newLen rounds c ≤ newLen + (newLen + 768) / 4
 | 0, c, h => by simp only [Builtin.growBy]; omega
 | rounds + 1, c, h => by
   simp only [Builtin.growBy]
   rw [if_neg (by omega)]
   by_cases h2 : c + (c + 768) / 4 < newLen
   · exact growBy_le newLen rounds _ h2
   · have : ∀ r, Builtin.growBy newLen r (c + (c + 768) / 4) = c + (c + 768) / 4 := by
       intro r
       cases r with
       | zero => rfl
       | succ r => simp only [Builtin.growBy]; rw [if_pos (by omega)]
     rw [this]; omega
theorem nextslicecap_le {n c : Nat} (h : c < n) : Builtin.nextslicecap n c ≤ 2 * n + 768 := by
 unfold Builtin.nextslicecap
 split
 · omega
 · split
   · omega
   · have := growBy_le n 4 c h; omega
theorem append_grow' {g : G} {B : Nat → Prop} {Δ : List HP} {e : TypeId} {s nb n sLen sCap : Nat} {zs : List Value} {x : AV} {a : Option Addr} {u : Value} {old cs : List AV} (sm : Sim g B Δ) (hb : tkBytes P e = some nb) (hz : tkZero P e = some zs) (hzl : zs.length = s) (h1 : nb ≤ 256) (h2 : 0 < nb)
   (hold : old.length = sLen * s ∧ ∃ uo : List Value, relL g.drew old uo ∧ (Builtin.firstCells s sLen (.slice a sLen sCap)).run P g.drew.w = .ok uo.toArray g.drew.w) (hx : rel g x u) (hsrc : srcOf Δ s x = some (n, cs)) (hgr : sCap < sLen + n) (hmax : sLen + n ≤ 2 ^ 38) :
   ∃ g' B' b' cap more, (appendCore e s a sLen sCap n u).run P g.w = .ok (.slice (some ⟨b', 0, none⟩) (sLen + n) cap) g'.w ∧ Ext g B g' B' ∧ Sim g' B' (.box b' e (old ++ cs ++ more) :: Δ) ∧ fresh Δ b' ∧ sLen + n ≤ cap ∧ more.length = (cap - (sLen + n)) * s := by
 unfold appendCore
 rw [if_neg (by omega)]
 obtain ⟨i1, hi1, hi2⟩ := run_bytes (P := P) (w := g.w) hb
 have hnc := nextslicecap_le hgr
 have hmul : Builtin.nextslicecap (sLen + n) sCap * i1.bytes ≤ 2 ^ 48 := by
   rw [hi2]
   calc Builtin.nextslicecap (sLen + n) sCap * nb ≤ (2 ^ 39 + 768) * 256 := Nat.mul_le_mul (by omega) h1
     _ ≤ 2 ^ 48 := by decide
 have hmax' : ¬ (((sLen + n : Nat) : Int) > IntKind.i64.max ∧ (false = true ∨ i1.bytes = 0)) := by
   rintro ⟨_, h | h⟩
   · exact Bool.noConfusion h
   · omega
 let q : Question := .appendCap (sLen + n) sCap e
 let newCap := q.cut (g.w.tape g.w.drawn q)
 have hcap : sLen + n ≤ newCap := by simp only [newCap, q, Question.cut]; omega
 obtain ⟨i3, hi3, hi4⟩ := run_bytes (P := P) (w := g.drew.w) hb
 obtain ⟨z, hz1, hz2⟩ := run_zero (P := P) (w := g.drew.w) hz
 have sm' := drew_sim sm
 obtain ⟨o1, uo, o4, o5⟩ := hold
 obtain ⟨k1, k2, k3⟩ := srcOf_run (P := P) sm' (drew_rel hx) hsrc
 obtain ⟨us, k4, k5⟩ := k3 n (Nat.le_refl _)
 rw [← k1, List.take_length] at k4
 let more := Builtin.zeroCells z.cells (newCap - (sLen + n))
 have hrun : ((do
     let i1 ← typeInfo e
     if ((sLen + n : Nat) : Int) > IntKind.i64.max ∧ (false = true ∨ i1.bytes = 0) then runtimePanic (.error "growslice: len out of range")
     let i2 ← typeInfo e
     if Builtin.nextslicecap (sLen + n) sCap * i2.bytes > 2 ^ 48 then (do
       if !(← Builtin.mayShare s sLen n a u) then mark .noRoom
       unsupported (.resourceLimit "append: a slice or a string whose bytes no memory bears"))
     let newCap ← choose (.appendCap (sLen + n) sCap e)
     let i3 ← typeInfo e
     askRoom (newCap * i3.bytes)
     let old ← Builtin.firstCells s sLen (.slice a sLen sCap)
     let new ← Builtin.firstCells s n u
     let z ← zeroValue e
     let a ← newRow e (old ++ new ++ Builtin.zeroCells z.cells (newCap - (sLen + n)))
     pure (.slice (some a) (sLen + n) newCap)) : Sem Value).run P g.w = .ok (.slice (some ⟨g.w.heap.size, 0, none⟩) (sLen + n) newCap) (g.drew.grow (.cells (uo ++ us ++ more.toList).toArray e)).w := by
   rw [Sem.run_bind, hi1, Result.andThen_ok]
   rw [if_neg hmax']
   rw [Sem.run_bind, hi1, Result.andThen_ok]
   rw [if_neg (by omega)]
   rw [Sem.run_bind, run_choose, if_neg (by simp [Question.forced]), Result.andThen_ok]
   rw [Sem.run_bind, show (typeInfo e).run P { g.w with drawn := g.w.drawn + 1 } = .ok i3 g.drew.w from hi3, Result.andThen_ok]
   rw [Sem.run_bind, run_askRoom, Result.andThen_ok]
   rw [Sem.run_bind, o5, Result.andThen_ok]
   rw [Sem.run_bind, k5, Result.andThen_ok]
   rw [Sem.run_bind, hz1, Result.andThen_ok]
   have hcells : (uo.toArray ++ us.toArray ++ more) = (uo ++ us ++ more.toList).toArray := by simp
   rw [← hcells]
   rfl
 have hgs := grow_sim (x := .box g.drew.w.heap.size e (old ++ cs ++ more.toList.map .c)) (o := .cells (uo ++ us ++ more.toList).toArray e) sm' ⟨rfl, uo ++ us ++ more.toList, push_new, by
   have hL : Le g.drew (g.drew.grow (.cells (uo ++ us ++ more.toList).toArray e)) := ⟨fun _ h => h, fun b hb => push_get (sm'.fzlt b hb)⟩
   exact relL_mono hL _ _ (relL_append (relL_append o4 k4) (relL_consts (g := g.drew) more.toList))⟩
 refine ⟨_, _, g.w.heap.size, newCap, more.toList.map .c, hrun, drew_ext.trans hgs.1, hgs.2, ?_, hcap, ?_⟩
 · exact fresh_of sm.sep (fun hB => by have := sm.blt _ hB; omega)
 · simp only [List.length_map, Array.length_toList, more, zeroCells_length]
   rw [show z.cells.size = s from by rw [hz2]; simpa using hzl]
theorem append_grow {g : G} {B : Nat → Prop} {Δ : List HP} {e : TypeId} {s nb n sLen sCap : Nat} {zs : List Value} {x : AV} {a : Option Addr} {u : Value} {old cs : List AV} (sm : Sim g B Δ) (hb : tkBytes P e = some nb) (hz : tkZero P e = some zs) (hzl : zs.length = s) (h1 : nb ≤ 256) (h2 : 0 < nb)
   (hbase : srcOf Δ s (.c (.slice a sLen sCap)) = some (sLen, old)) (hx : rel g x u) (hsrc : srcOf Δ s x = some (n, cs)) (hgr : sCap < sLen + n) (hmax : sLen + n ≤ 2 ^ 38) :
   ∃ g' B' b' cap more, (appendCore e s a sLen sCap n u).run P g.w = .ok (.slice (some ⟨b', 0, none⟩) (sLen + n) cap) g'.w ∧ Ext g B g' B' ∧ Sim g' B' (.box b' e (old ++ cs ++ more) :: Δ) ∧ fresh Δ b' ∧ sLen + n ≤ cap ∧ more.length = (cap - (sLen + n)) * s := by
 refine append_grow' sm hb hz hzl h1 h2 ?_ hx hsrc hgr hmax
 have hbr : rel g.drew (.c (.slice a sLen sCap)) (.slice a sLen sCap) := by simp only [rel]
 obtain ⟨o1, o2, o3⟩ := srcOf_run (P := P) (drew_sim sm) hbr hbase
 obtain ⟨uo, o4, o5⟩ := o3 sLen (Nat.le_refl _)
 rw [← o1, List.take_length] at o4
 exact ⟨o1, uo, o4, o5⟩
theorem rel_c {g : G} {v : Value} : rel g (.c v) v := by simp only [rel]
inductive Own (e : TypeId) (s : Nat) (cells : List AV) (len : Nat) : Value → List HP → Prop
 | nil (a : Option Addr) : cells = [] → len = 0 → Own e s cells len (.slice a 0 0) []
 | box (b cap : Nat) (sp : List AV) : cells.length = len * s → sp.length = (cap - len) * s → len ≤ cap → Own e s cells len (.slice (some ⟨b, 0, none⟩) len cap) [.box b e (cells ++ sp)]
theorem append_own {g : G} {B : Nat → Prop} {D Fr : List HP} {e : TypeId} {s nb n len : Nat} {zs : List Value} {x : AV} {bu u : Value} {cells cs : List AV} (sm : Sim g B (D ++ Fr)) (hb : tkBytes P e = some nb) (hz : tkZero P e = some zs) (hzl : zs.length = s) (h1 : nb ≤ 256) (h2 : 0 < nb)
   (how : Own e s cells len bu D) (hx : rel g x u) (hsrc : srcOf (D ++ Fr) s x = some (n, cs)) (hc : cs.all AV.isCell = true) (hmax : len + n ≤ 2 ^ 38) :
   ∃ a sCap g' B' D' v, bu = .slice a len sCap ∧ (appendCore e s a len sCap n u).run P g.w = .ok v g'.w ∧ Ext g B g' B' ∧ Sim g' B' (D' ++ Fr) ∧ Own e s (cells ++ cs) (len + n) v D' := by
 have hcl := (srcOf_run (P := P) sm hx hsrc).1
 cases how with
 | nil a e1 e2 =>
   subst e1 e2
   by_cases hn : n = 0
   · subst hn
     have hcs : cs = [] := List.eq_nil_of_length_eq_zero (by simpa using hcl)
     subst hcs
     obtain ⟨k1, k2, k3⟩ := srcOf_run (P := P) sm hx hsrc
     obtain ⟨us, k4, k5⟩ := k3 0 (Nat.le_refl _)
     have : us = [] := by
       have := relL_length k4
       exact List.eq_nil_of_length_eq_zero (by simpa using this)
     subst this
     refine ⟨a, 0, g, B, [], .slice a 0 0, rfl, ?_, .refl _ _, sm, .nil a rfl rfl⟩
     unfold appendCore
     rw [if_pos (by omega), Sem.run_bind, k5, Result.andThen_ok]
     cases a <;> simp [Sem.run_bind, Sem.run_pure, Result.andThen_ok, storeCells]
   · obtain ⟨g', B', b', cap, more, q1, q2, q3, q4, q5, q6⟩ := append_grow' (P := P) (a := a) (sLen := 0) (sCap := 0) (old := []) sm hb hz hzl h1 h2 ⟨by simp, [], by simp [relL], by cases a <;> simp [Builtin.firstCells, loadCells, loadCellsFrom]⟩ hx hsrc (by omega) hmax
     refine ⟨a, 0, g', B', [.box b' e (cs ++ more)], _, rfl, q1, q2, by simpa using q3, ?_⟩
     exact .box b' cap more (by simpa using hcl) q6 q5
 | box b cap sp c1 c2 c3 =>
   have hg : getBox ([HP.box b e (cells ++ sp)] ++ Fr) b = some (e, cells ++ sp) := by simp [getBox]
   by_cases hfit : len + n ≤ cap
   · have hl : 0 + (len + n) * s ≤ (cells ++ sp).length := by
       rw [List.length_append, c1, c2, Nat.zero_add, ← Nat.add_mul]
       exact Nat.mul_le_mul_right _ (by omega)
     obtain ⟨g', q1, q2, q3⟩ := append_in (P := P) (e := e) sm hx hsrc hfit hg hc hl
     refine ⟨_, _, g', B, [.box b e (cells ++ cs ++ sp.drop (n * s))], _, rfl, q1, q2, ?_, ?_⟩
     · have e1 : (cells ++ sp).take (0 + len * s) ++ cs ++ (cells ++ sp).drop (0 + (len + n) * s) = cells ++ cs ++ sp.drop (n * s) := by
         rw [Nat.zero_add, Nat.zero_add, ← c1, List.take_left, Nat.add_mul, ← c1, List.drop_append]
         simp
       rw [e1] at q3
       simpa [setBox] using q3
     · refine .box b cap _ (by rw [List.length_append, c1, hcl, Nat.add_mul]) ?_ hfit
       rw [List.length_drop, c2, ← Nat.sub_mul]
       congr 1; omega
   · have hbase : srcOf ([HP.box b e (cells ++ sp)] ++ Fr) s (.c (.slice (some ⟨b, 0, none⟩) len cap)) = some (len, cells) := by
       simp only [srcOf, hg]
       rw [if_pos (by rw [List.length_append, c1]; omega)]
       simp only [List.drop_zero]
       rw [← c1, List.take_left]
     obtain ⟨g', B', b', cap', more, q1, q2, q3, q4, q5, q6⟩ := append_grow (P := P) sm hb hz hzl h1 h2 hbase hx hsrc (by omega) hmax
     refine ⟨_, _, g', B', [.box b' e (cells ++ cs ++ more)], _, rfl, q1, q2, ?_, ?_⟩
     · refine ⟨q3.fzlt, q3.blt, q3.disj, ?_⟩
       obtain ⟨B1, w1, w2, w3⟩ := sep_swap q3.sep
       exact sep_mono w3 (fun b hb => hb.1) (fun _ h => h) (fun _ _ => rfl)
     · exact .box b' cap' more (by rw [List.length_append, c1, hcl, Nat.add_mul]) q6 q5
end
end
section
section
variable {P : Program}
def appTy (P : Program) (sT xT : TypeId) : Option (TypeId × Nat) :=
 match P.underlying sT with
 | some (.slice e) => match tk P e, tkBytes P e, tkZero P e with
   | some (s, _), some nb, some zs => if nb ≤ 256 ∧ 0 < nb ∧ notInt P xT = true ∧ zs.length = s then some (e, s) else none
   | _, _, _ => none
 | _ => none
theorem appTy_spec {sT xT e : TypeId} {s : Nat} (h : appTy P sT xT = some (e, s)) : P.underlying sT = some (.slice e) ∧ (∃ ag, tk P e = some (s, ag)) ∧ ∃ nb zs, tkBytes P e = some nb ∧ tkZero P e = some zs ∧ nb ≤ 256 ∧ 0 < nb ∧ notInt P xT = true ∧ zs.length = s := by
 unfold appTy at h
 split at h
 · rename_i e' hu
   split at h
   · rename_i s' ag nb zs h1 h2 h3
     split at h
     · rename_i hc
       simp only [Option.some.injEq, Prod.mk.injEq] at h
       obtain ⟨rfl, rfl⟩ := h
       exact ⟨hu, ⟨ag, h1⟩, nb, zs, h2, h3, hc.1, hc.2.1, hc.2.2.1, hc.2.2.2⟩
     · simp at h
   · simp at h
 · simp at h
theorem append_bi {sT xT e : TypeId} {ats : List TypeId} {s n len : Nat} {Δ D Fr : List HP} {x : AV} {bu : Value} {cells cs : List AV} (hty : appTy P sT xT = some (e, s)) (how : Own e s cells len bu D) (hp : Δ.Perm (Fr ++ D))
   (hsrc : srcOf (D ++ Fr) s x = some (n, cs)) (hc : cs.all AV.isCell = true) (hmax : len + n ≤ 2 ^ 38) :
   BiOK P .append (sT :: xT :: ats) [.c bu, x] Δ (fun r Δ' => ∃ v D', r = .c v ∧ Δ' = Fr ++ D' ∧ Own e s (cells ++ cs) (len + n) v D') := by
 intro g B us ats' ty cs' hats sm hl
 obtain ⟨hu, ⟨ag, ht⟩, nb, zs, h2, h3, h4, h5, h6, h7⟩ := appTy_spec hty
 simp only [relL] at hl
 obtain ⟨u, _, rfl, hbu, w, _, rfl, hx, rfl⟩ := hl
 simp only [rel] at hbu; subst hbu
 have sm' : Sim g B (D ++ Fr) := ⟨sm.fzlt, sm.blt, sm.disj, sep_perm (hp.trans List.perm_append_comm) sm.sep⟩
 obtain ⟨_, k3, _⟩ := srcOf_run (P := P) sm' hx hsrc
 obtain ⟨a, sCap, g', B', D', v, rfl, q1, q2, q3, q4⟩ := append_own (P := P) sm' h2 h3 h7 h4 h5 how hx hsrc hc hmax
 refine ⟨g', B', .c v, Fr ++ D', v, ?_, q2, ⟨q3.fzlt, q3.blt, q3.disj, sep_perm List.perm_append_comm q3.sep⟩, rel_c, v, D', rfl, rfl, q4⟩
 have h0 : ats'[0]? = some sT := by rw [← Array.getElem?_toList, hats]; rfl
 have h1 : ats'[1]? = some xT := by rw [← Array.getElem?_toList, hats]; rfl
 simp only [builtin, Sem.run_bind]
 rw [append_core hu ht h6 h0 h1 k3, q1]; rfl
theorem grow_bi {sT xT e : TypeId} {ats : List TypeId} {s n sLen sCap : Nat} {Δ : List HP} {a : Option Addr} {x : AV} {old cs : List AV} (hty : appTy P sT xT = some (e, s)) (hbase : srcOf Δ s (.c (.slice a sLen sCap)) = some (sLen, old))
   (hsrc : srcOf Δ s x = some (n, cs)) (hgr : sCap < sLen + n) (hmax : sLen + n ≤ 2 ^ 38) :
   BiOK P .append (sT :: xT :: ats) [.c (.slice a sLen sCap), x] Δ (fun r Δ' => ∃ v D', r = .c v ∧ Δ' = D' ++ Δ ∧ Own e s (old ++ cs) (sLen + n) v D' ∧ ∃ b, v = .slice (some ⟨b, 0, none⟩) (sLen + n) (match v with | .slice _ _ c => c | _ => 0) ∧ fresh Δ b) := by
 intro g B us ats' ty cs' hats sm hl
 obtain ⟨hu, ⟨ag, ht⟩, nb, zs, h2, h3, h4, h5, h6, h7⟩ := appTy_spec hty
 simp only [relL] at hl
 obtain ⟨u, _, rfl, hbu, w, _, rfl, hx, rfl⟩ := hl
 simp only [rel] at hbu; subst hbu
 obtain ⟨o1, k3, _⟩ := srcOf_run (P := P) sm hx hsrc
 have o2 := (srcOf_run (P := P) (u := .slice a sLen sCap) sm rel_c hbase).1
 obtain ⟨g', B', b', cap, more, q1, q2, q3, q4, q5, q6⟩ := append_grow (P := P) sm h2 h3 h7 h4 h5 hbase hx hsrc hgr hmax
 refine ⟨g', B', .c _, .box b' e (old ++ cs ++ more) :: Δ, _, ?_, q2, q3, rel_c, _, [.box b' e (old ++ cs ++ more)], rfl, rfl, .box b' cap more (by rw [List.length_append, o1, o2, Nat.add_mul]) q6 q5, b', rfl, q4⟩
 have h0 : ats'[0]? = some sT := by rw [← Array.getElem?_toList, hats]; rfl
 have h1 : ats'[1]? = some xT := by rw [← Array.getElem?_toList, hats]; rfl
 simp only [builtin, Sem.run_bind]
 rw [append_core hu ht h6 h0 h1 k3, q1]; rfl
theorem copy_bi {dT xT e : TypeId} {ats : List TypeId} {s n b o dLen dCap : Nat} {ag : Bool} {t : TypeId} {Δ : List HP} {x : AV} {cells cs : List AV} (hu : P.underlying dT = some (.slice e)) (ht : tk P e = some (s, ag)) (hsrc : srcOf Δ s x = some (n, cs))
   (hg : getBox Δ b = some (t, cells)) (hc : (cs.take (min n dLen * s)).all AV.isCell = true) (hl : o + min n dLen * s ≤ cells.length) :
   BiOK P .copy (dT :: xT :: ats) [.c (.slice (some ⟨b, o, none⟩) dLen dCap), x] Δ (fun r Δ' => r = .c (.int .i64 (min n dLen : Nat)) ∧ Δ' = setBox Δ b (cells.take o ++ cs.take (min n dLen * s) ++ cells.drop (o + min n dLen * s))) := by
 intro g B us ats' ty cs' hats sm hl'
 simp only [relL] at hl'
 obtain ⟨u, _, rfl, hbu, w, _, rfl, hx, rfl⟩ := hl'
 simp only [rel] at hbu; subst hbu
 obtain ⟨k1, k2, k3⟩ := srcOf_run (P := P) sm hx hsrc
 obtain ⟨vs, q1, q2⟩ := k3 (min n dLen) (Nat.min_le_left _ _)
 have hlen : (cs.take (min n dLen * s)).length = min n dLen * s := by
   rw [List.length_take, k1, Nat.min_eq_left (Nat.mul_le_mul_right _ (Nat.min_le_left _ _))]
 obtain ⟨g', r1, r2, r3⟩ := boxStore (P := P) (o := o) sm hg q1 hc (by omega)
 rw [hlen] at r3
 refine ⟨g', B, .c _, _, _, ?_, r2, r3, rel_c, rfl, rfl⟩
 have h0 : ats'[0]? = some dT := by rw [← Array.getElem?_toList, hats]; rfl
 simp only [builtin, Sem.run_bind]
 unfold Builtin.copy_
 simp only [h0, List.getElem?_toArray, List.getElem?_cons_zero, List.getElem?_cons_succ]
 rw [Sem.run_bind, run_underlying hu, Result.andThen_ok]
 simp only
 rw [Sem.run_bind, k2, Result.andThen_ok]
 simp only [Sem.run_bind, run_sizeOf ht, Result.andThen_ok]
 rw [show Nat.min n dLen = min n dLen from rfl, q2]
 simp only [Result.andThen_ok, Sem.run_bind, r1, Sem.run_pure]
 rfl
end
end
section
def HProp.is (u : Value) (x : AV) : HProp where
 p g _ := rel g x u
 mono h hf hw := rel_mono ⟨hf, fun b hb => hw b (.inl hb)⟩ _ _ h
def HP.is (u : Value) (x : AV) : HP := .pred (HProp.is u x)
theorem Own.slice {e : TypeId} {s : Nat} {cells : List AV} {len : Nat} {v : Value} {D : List HP} (h : Own e s cells len v D) : ∃ a cap, v = .slice a len cap := by
 cases h with
 | nil a h1 h2 => subst h2; exact ⟨_, _, rfl⟩
 | box => exact ⟨_, _, rfl⟩
section
variable {P : Program} {f : Shape} {n : Nat} {R : APost} {k todo : List Item} {env : Env} {Δ : List HP}
theorem own_freeze {e : TypeId} {s : Nat} {rows : List (List AV)} {v : Value} {D Fr : List HP} {g : G} {B : Nat → Prop} (sm : Sim g B (D ++ Fr)) (how : Own e s rows.flatten rows.length v D) (hs : ∀ r ∈ rows, r.length = s) (hmax : rows.length ≤ maxRows) :
   ∃ g' B', g'.w = g.w ∧ Ext g B g' B' ∧ Sim g' B' (HP.is v (.sl s rows) :: Fr) := by
 cases how with
 | nil a e1 e2 =>
   have hr : rows = [] := List.eq_nil_of_length_eq_zero e2
   subst hr
   refine ⟨g, B, rfl, .refl _ _, sm.fzlt, sm.blt, sm.disj, fun _ => False, fun _ h => h.elim, ?_, sep_mono sm.sep (fun b hb => ⟨hb, id⟩) (fun _ h => h) (fun _ _ => rfl)⟩
   show rel g _ _
   simp only [rel]
   exact ⟨a, 0, rfl, ⟨Nat.le_refl _, by simp [maxRows]⟩, .inl trivial⟩
 | box b cap sp c1 c2 c3 =>
   obtain ⟨B', h1, h2, h3⟩ := sep_freeze sm
   refine ⟨⟨fun b' => g.fz b' ∨ b' = b, g.w⟩, B', rfl, h1, h2.fzlt, h2.blt, h2.disj, fun _ => False, fun _ h => h.elim, ?_, sep_mono h2.sep (fun b hb => ⟨hb, id⟩) (fun _ h => h) (fun _ _ => rfl)⟩
   show rel _ _ _
   simp only [rel]
   exact ⟨_, cap, rfl, ⟨c3, hmax⟩, .inr ⟨b, 0, rfl, .inr rfl, relR_of_flat h3 hs⟩⟩
theorem J_freezeS {e : TypeId} {s : Nat} {rows : List (List AV)} {v : Value} {D Fr : List HP} (how : Own e s rows.flatten rows.length v D) (hs : ∀ r ∈ rows, r.length = s) (hmax : rows.length ≤ maxRows)
   (h : J P f n R todo env (HP.is v (.sl s rows) :: Fr)) : J P f n R todo env (Fr ++ D) := by
 refine J_perm (Δ' := D ++ Fr) List.perm_append_comm ?_
 intro g B tmps sm hn he b cs hb hk
 obtain ⟨g', B', hw, hx, hs'⟩ := own_freeze sm how hs hmax
 obtain ⟨e, w', fr, k1, k2⟩ := h g' B' tmps hs' hn (he.mono (sm.le hx)) b cs hb hk
 rw [hw] at k2
 exact ⟨e, w', fr, k1.ext hx, k2⟩
theorem is_spec {g : G} {u : Value} {x : AV} : ∀ {Δ : List HP} {B : Nat → Prop}, sep Δ g B → HP.is u x ∈ Δ → rel g x u
 | [], _, _, h => by simp at h
 | y :: Δ, B, ⟨B1, h1, h2, h3⟩, h => by
   simp only [List.mem_cons] at h
   rcases h with rfl | h
   · exact h2
   · exact is_spec h3 h
theorem J_is {t : Nat} {u : Value} {x : AV} (ht : env.get t = some (.c u)) (hin : HP.is u x ∈ Δ) (h : J P f n R todo ((t, x) :: env) Δ) : J P f n R todo env Δ := by
 intro g B tmps sm hn he b cs hb hk
 have hx := is_spec sm.sep hin
 refine h g B tmps sm hn ?_ b cs hb hk
 intro j y hy
 simp only [Env.get] at hy
 split at hy
 · rename_i e; subst e
   simp only [Option.some.injEq] at hy; subst hy
   obtain ⟨v, h1, h2⟩ := he t _ ht
   simp only [rel] at h2; subst h2
   exact ⟨_, h1, hx⟩
 · exact he j y hy
theorem relL_set {g : G} {u : Value} {x : AV} (hx : rel g x u) : ∀ {cells : List AV} {cs : List Value} {j : Nat}, relL g cells cs → cells[j]? = some (.c u) → relL g (cells.set j x) cs
 | [], cs, j, _, h => by simp at h
 | y :: cells, cs, j, hr, h => by
   simp only [relL] at hr
   obtain ⟨v, vs, rfl, h1, h2⟩ := hr
   cases j with
   | zero =>
     simp only [List.getElem?_cons_zero, Option.some.injEq] at h; subst h
     simp only [rel] at h1; subst h1
     simp only [List.set_cons_zero, relL]
     exact ⟨_, _, rfl, hx, h2⟩
   | succ j =>
     simp only [List.getElem?_cons_succ] at h
     simp only [List.set_cons_succ, relL]
     exact ⟨_, _, rfl, h1, relL_set hx h2 h⟩
theorem J_isBox {b : Nat} {t : TypeId} {cells : List AV} {u : Value} {x : AV} (j : Nat) (hj : cells[j]? = some (.c u)) {Fr : List HP} (hp : Δ.Perm (HP.is u x :: .box b t cells :: Fr)) (h : J P f n R todo env (.box b t (cells.set j x) :: HP.is u x :: Fr)) : J P f n R todo env Δ := by
 refine J_perm hp (J_sep (Δ' := HP.is u x :: .box b t (cells.set j x) :: Fr) (fun g B sm => ?_) (J_perm (List.Perm.swap _ _ _) h))
 obtain ⟨B1, h1, h2, B2, h3, ⟨h4, cs, h5, h6⟩, h7⟩ := sm.sep
 exact ⟨B1, h1, h2, B2, h3, ⟨h4, cs, h5, relL_set h2 h6 hj⟩, h7⟩
inductive Plain : AV → Prop
 | c (v : Value) : Plain (.c v)
 | tup (vs : List Value) : Plain (.tup (vs.map .c))
theorem Plain.rel {g g' : G} {x : AV} {v : Value} (h : Plain x) (hx : Go.Av.rel g x v) : Go.Av.rel g' x v := by
 cases h with
 | c v => simpa only [Go.Av.rel] using hx
 | tup vs =>
   simp only [Go.Av.rel] at hx ⊢
   obtain ⟨us, rfl, h⟩ := hx
   refine ⟨us, rfl, ?_⟩
   have : ∀ (vs us : List Value), relL g (vs.map .c) us → relL g' (vs.map .c) us := by
     intro vs
     induction vs with
     | nil => intro us h; simpa only [List.map_nil, relL] using h
     | cons v vs ih =>
       intro us h
       simp only [List.map_cons, relL] at h ⊢
       obtain ⟨u, us', rfl, h1, h2⟩ := h
       exact ⟨u, us', rfl, by simpa only [Go.Av.rel] using h1, ih _ h2⟩
   exact this _ _ h
theorem ACalls.args {f : FuncId} {as as' : List AV} {R : APost} (h : ACalls P f as Δ R) (ha : ∀ g us, relL g as' us → relL g as us) : ACalls P f as' Δ R :=
 ⟨h.callable, fun g B us sm hr => h.run g B us sm (ha g us hr)⟩
theorem ACalls.lend {f : FuncId} {pre post : List AV} {s b cap : Nat} {t : TypeId} {rows : List (List AV)} {sp : List AV} {R : APost} (h : ACalls P f (pre ++ .sl s rows :: post) [] R) (hR : ∀ r Δ, R r Δ → Δ = [] ∧ ∃ x, r = .ret x ∧ Plain x)
   (hs : ∀ r ∈ rows, r.length = s) (hcap : rows.length ≤ cap) (hmax : rows.length ≤ maxRows) :
   ACalls P f (pre ++ .c (.slice (some ⟨b, 0, none⟩) rows.length cap) :: post) [.box b t (rows.flatten ++ sp)] (fun r Δ' => R r [] ∧ Δ' = [.box b t (rows.flatten ++ sp)]) := by
 refine ⟨h.callable, fun g B us sm hr => ?_⟩
 obtain ⟨B', h1, h2, h3⟩ := sep_freeze sm
 let g1 : G := ⟨fun b' => g.fz b' ∨ b' = b, g.w⟩
 have hle : Le g g1 := ⟨fun _ h => .inl h, fun _ _ => rfl⟩
 have hx : Go.Av.rel g1 (.sl s rows) (.slice (some ⟨b, 0, none⟩) rows.length cap) := by
   simp only [Go.Av.rel]
   exact ⟨_, cap, rfl, ⟨hcap, hmax⟩, .inr ⟨b, 0, rfl, .inr rfl, relR_of_flat h3 hs⟩⟩
 have hargs : relL g1 (pre ++ .sl s rows :: post) us := by
   have : ∀ (pre : List AV) (us : List Value), relL g (pre ++ .c (.slice (some ⟨b, 0, none⟩) rows.length cap) :: post) us → relL g1 (pre ++ .sl s rows :: post) us := by
     intro pre
     induction pre with
     | nil =>
       intro us h
       simp only [List.nil_append, relL] at h ⊢
       obtain ⟨u, us', rfl, h4, h5⟩ := h
       simp only [Go.Av.rel] at h4; subst h4
       exact ⟨_, us', rfl, hx, relL_mono hle _ _ h5⟩
     | cons x pre ih =>
       intro us h
       simp only [List.cons_append, relL] at h ⊢
       obtain ⟨u, us', rfl, h4, h5⟩ := h
       exact ⟨u, us', rfl, rel_mono hle _ _ h4, ih _ h5⟩
   exact this pre us hr
 obtain ⟨hB, cs, hc1, hc2⟩ : B b ∧ ∃ cs : List Value, g.w.heap[b]? = some (.cells cs.toArray t (0, 0)) ∧ relL g (rows.flatten ++ sp) cs := getBox_spec sm.sep (by simp [getBox])
 have hlt := sm.blt b hB
 refine (h.run g1 (fun _ => False) us ⟨h2.fzlt, fun _ h => h.elim, fun _ _ h => h, trivial⟩ hargs).mono ?_
 rintro e w' ⟨g', B2, a, Δ', rfl, hx', hs', hr', hR'⟩
 obtain ⟨rfl, x, rfl, hpl⟩ := hR _ _ hR'
 have hkeep : g'.w.heap[b]? = g.w.heap[b]? := hx'.keep b hlt (fun h => h)
 refine ⟨⟨g.fz, g'.w⟩, fun b' => b' = b, .ret x, [.box b t (rows.flatten ++ sp)], rfl, ?_, ?_, ?_, hR', rfl⟩
 · refine ⟨hx'.os, hx'.tape, hx'.output, hx'.size, fun b' hb' hn => hx'.keep b' hb' (fun h => h), fun _ h => h, fun _ h => .inl h, ?_⟩
   rintro b' rfl; exact .inl hB
 · refine ⟨fun b' hb' => Nat.lt_of_lt_of_le (sm.fzlt b' hb') hx'.size, ?_, ?_, ?_⟩
   · rintro b' rfl; exact Nat.lt_of_lt_of_le hlt hx'.size
   · rintro b' hb' rfl; exact sm.disj _ hb' hB
   · refine ⟨fun b' => b' = b, fun _ h => h, ⟨rfl, cs, by rw [← hc1]; exact hkeep, ?_⟩, trivial⟩
     exact relL_mono (g := g) (g' := ⟨g.fz, g'.w⟩) ⟨fun _ h => h, fun b' hb' => hx'.keep b' (sm.fzlt b' hb') (fun h => h)⟩ _ _ hc2
 · cases e with
   | returned v => exact hpl.rel hr'
   | panicked _ => simp [endRel] at hr'
   | outgrown => simp [endRel] at hr'
theorem ACalls.lend_nil {f : FuncId} {pre post : List AV} {s : Nat} {R : APost} (a : Option Addr) (h : ACalls P f (pre ++ .sl s [] :: post) [] R) : ACalls P f (pre ++ .c (.slice a 0 0) :: post) [] R := by
 refine h.args ?_
 intro g
 have : ∀ (pre : List AV) (us : List Value), relL g (pre ++ .c (.slice a 0 0) :: post) us → relL g (pre ++ .sl s [] :: post) us := by
   intro pre
   induction pre with
   | nil =>
     intro us h
     simp only [List.nil_append, relL] at h ⊢
     obtain ⟨u, us', rfl, h4, h5⟩ := h
     simp only [Go.Av.rel] at h4; subst h4
     exact ⟨_, us', rfl, by simp only [Go.Av.rel]; exact ⟨a, 0, rfl, ⟨Nat.le_refl _, by simp [maxRows]⟩, .inl trivial⟩, h5⟩
   | cons x pre ih =>
     intro us h
     simp only [List.cons_append, relL] at h ⊢
     obtain ⟨u, us', rfl, h4, h5⟩ := h
     exact ⟨u, us', rfl, h4, ih _ h5⟩
 exact this pre
theorem ACalls.lendOwn {f : FuncId} {pre post : List AV} {e : TypeId} {s : Nat} {v : Value} {D : List HP} {rows : List (List AV)} {R : APost} (how : Own e s rows.flatten rows.length v D) (h : ACalls P f (pre ++ .sl s rows :: post) [] R) (hR : ∀ r Δ, R r Δ → Δ = [] ∧ ∃ x, r = .ret x ∧ Plain x)
   (hs : ∀ r ∈ rows, r.length = s) (hmax : rows.length ≤ maxRows) : ACalls P f (pre ++ .c v :: post) D (fun r Δ' => R r [] ∧ Δ' = D) := by
 cases how with
 | nil a e1 e2 =>
   have hr : rows = [] := List.eq_nil_of_length_eq_zero e2
   subst hr
   refine (ACalls.lend_nil a h).mono ?_
   intro r Δ hr
   obtain ⟨rfl, _⟩ := hR r Δ hr
   exact ⟨hr, rfl⟩
 | box b cap sp c1 c2 c3 => exact ACalls.lend h hR hs c3 hmax
variable {ops : Array Oper} {i : Nat} {is : List Nat} {kont : Env → List HP → Prop} {V : Env} {c : List (Nat × Knd)}
theorem Can_bi {dst : Option Tmp} {b : Builtin} {ats : List TypeId} {xs : List AV} {K : AV → List HP → Prop} (hc : biAt ops V n i = some (dst, b, ats, xs)) (hs : BiOK P b ats xs Δ K) (hk : ∀ x Δ', K x Δ' → Can P ops n kont c (V.put dst x) Δ') :
   Can P ops n kont ((i, .act) :: c) V Δ :=
 .bi hc hs (fun x Δ' hr => by rw [biAt_dst hc]; exact hk x Δ' hr)
theorem Can_newvar {t : TypeId} {d : Tmp} {cells : List AV} {ty : TypeId} {pos : String} {aft : Array Edge} (ho : ops[i]? = some ⟨some d, .alloc t, ty, pos, aft, none⟩) (hd : d < n) (hy : (tkZero P t).map (·.map AV.c) = some cells)
   (hk : ∀ b, fresh Δ b → Can P ops n kont c ((d, .c (.pointer (some ⟨b, 0, none⟩))) :: V) (.box b t cells :: Δ)) : Can P ops n kont ((i, .new) :: c) V Δ := by
 cases hx : tkZero P t with
 | none => simp [hx] at hy
 | some zs =>
   simp only [hx, Option.map_some, Option.some.injEq] at hy
   subst hy
   refine NStep.var ho rfl (by simpa using hd) rfl hx (fun b hb => ?_)
   have := hk b hb
   simpa [dstOf, ho, Env.put] using this
theorem J_forget (h : J P f n (fun a _ => R a []) todo env Δ) : J P f n R todo env Δ := by
 intro g B tmps sm hn he b cs hb hk
 obtain ⟨e, w', fr, ⟨g', B', a, Δ', h1, h2, h3, h4, h5⟩, k2⟩ := h g B tmps sm hn he b cs hb hk
 exact ⟨e, w', fr, ⟨g', B', a, [], h1, h2, ⟨h3.fzlt, h3.blt, h3.disj, trivial⟩, h4, h5⟩, k2⟩
theorem J_forgetP (h : J P f n (fun a Δ' => ∃ junk Δ1, Δ'.Perm (junk ++ Δ1) ∧ R a Δ1) todo env Δ) : J P f n R todo env Δ := by
 intro g B tmps sm hn he b cs hb hk
 obtain ⟨e, w', fr, ⟨g', B', a, Δ', h1, h2, h3, h4, junk, Δ1, h5, h6⟩, k2⟩ := h g B tmps sm hn he b cs hb hk
 have h7 := sep_perm (h5.trans List.perm_append_comm) h3.sep
 obtain ⟨B1, q1, q2, _⟩ := sep_append h7
 refine ⟨e, w', fr, ⟨g', B', a, Δ1, h1, h2, ⟨h3.fzlt, h3.blt, h3.disj, sep_mono q2 q1 (fun _ h => h) (fun _ _ => rfl)⟩, h4, h6⟩, k2⟩
end
end
section
section
variable {P : Program} {f : Shape} {n : Nat} {R : APost} {env : Env} {Δ : List HP} {k : List Item}
theorem J_cut {c : Code} (I : Env → List HP → Prop) (h2 : ∀ e D, I e D → J P f n R k e D) (h1 : (∀ e D, I e D → J P f n R k e D) → J P f n R (.code c :: k) env Δ) : J P f n R (.code c :: k) env Δ := h1 h2
def mrunS (P : Program) (own : List Nat) (n L : Nat) : Nat → List Item → Env → List HP → List Item × Env × List HP
 | 0, todo, env, Δ => (todo, env, Δ)
 | m + 1, todo, env, Δ => if todo.length ≤ L then (todo, env, Δ) else
   match mrun P own n 1 todo env Δ with
   | (t, e, d) => mrunS P own n L m t e d
end
end
section
attribute [go_sem] Option.getD_none Option.getD_some Option.isNone_none Option.isNone_some
attribute [go_sem] canM mrunS biAt srcOf appTy notInt List.flatten_cons List.flatten_nil decide_false bytesRows_length and_false false_and
@[go_sem] theorem beq_ft : (false == true) = false := rfl
@[go_sem] theorem beq_tf : (true == false) = false := rfl
@[go_sem] theorem packed_one (x : AV) : packed [x] = x := rfl
section
variable (a b : List UInt8)
@[go_sem] theorem astr_eql : astr .eql (mkStr a) (mkStr b) = some (.c (.bool (decide (a = b)))) := by
 show some (AV.c (.bool (decide (mkStr a = mkStr b)))) = _
 have h : decide (mkStr a = mkStr b) = decide (a = b) := decide_eq_decide.2 (by rw [mkStr_inj])
 rw [h]
@[go_sem] theorem astr_neq : astr .neq (mkStr a) (mkStr b) = some (.c (.bool (decide (a ≠ b)))) := by
 show some (AV.c (.bool (decide (mkStr a ≠ mkStr b)))) = _
 have h : decide (mkStr a ≠ mkStr b) = decide (a ≠ b) := decide_eq_decide.2 (not_congr (by rw [mkStr_inj]))
 rw [h]
@[go_sem] theorem astr_lss : astr .lss (mkStr a) (mkStr b) = some (.c (.bool (Op.bytesLess a b))) := by
 show some (AV.c (.bool (Op.bytesLess (mkStr a).toList (mkStr b).toList))) = _
 rw [mkStr_toList, mkStr_toList]
@[go_sem] theorem astr_add (h : a.length + b.length ≤ 2 ^ 40) : astr .add (mkStr a) (mkStr b) = some (.c (.string (mkStr (a ++ b)))) := by
 show (if (((mkStr a).size + (mkStr b).size : Nat) : Int) ≤ IntKind.i64.max then some (AV.c (.string (mkStr a ++ mkStr b))) else none) = _
 rw [mkStr_size, mkStr_size, if_pos (by have : IntKind.i64.max = 9223372036854775807 := rfl; omega)]
 have h : mkStr a ++ mkStr b = mkStr (a ++ b) := by apply ByteArray.ext; simp [mkStr, ByteArray.data_append]
 rw [h]
@[go_sem] theorem astr_eql_lit (l : Array UInt8) : astr .eql (mkStr a) ⟨l⟩ = some (.c (.bool (decide (a = l.toList)))) := astr_eql a l.toList
@[go_sem] theorem astr_neq_lit (l : Array UInt8) : astr .neq (mkStr a) ⟨l⟩ = some (.c (.bool (decide (a ≠ l.toList)))) := astr_neq a l.toList
end
end
section
theorem less_irrefl : ∀ a : List UInt8, Op.bytesLess a a = false
 | [] => rfl
 | x :: a => by simp [Op.bytesLess, less_irrefl a]
theorem less_trans : ∀ {a b c : List UInt8}, Op.bytesLess a b = true → Op.bytesLess b c = true → Op.bytesLess a c = true
 | a, b, [], _, h => by cases b <;> simp [Op.bytesLess] at h
 | a, [], _ :: _, h, _ => by cases a <;> simp [Op.bytesLess] at h
 | [], _ :: _, _ :: _, _, _ => rfl
 | x :: a, y :: b, z :: c, h1, h2 => by
   simp only [Op.bytesLess, Bool.or_eq_true, decide_eq_true_eq, Bool.and_eq_true, beq_iff_eq] at h1 h2 ⊢
   rcases h1 with h1 | ⟨rfl, h1⟩
   · rcases h2 with h2 | ⟨rfl, h2⟩
     · exact .inl (UInt8.lt_trans h1 h2)
     · exact .inl h1
   · rcases h2 with h2 | ⟨rfl, h2⟩
     · exact .inl h2
     · exact .inr ⟨rfl, less_trans h1 h2⟩
theorem less_tri : ∀ (a b : List UInt8), Op.bytesLess a b = true ∨ a = b ∨ Op.bytesLess b a = true
 | [], [] => .inr (.inl rfl)
 | [], _ :: _ => .inl rfl
 | _ :: _, [] => .inr (.inr rfl)
 | x :: a, y :: b => by
   simp only [Op.bytesLess, Bool.or_eq_true, decide_eq_true_eq, Bool.and_eq_true, beq_iff_eq, List.cons.injEq]
   rcases Nat.lt_trichotomy x.toNat y.toNat with h | h | h
   · exact .inl (.inl (UInt8.lt_iff_toNat_lt.2 h))
   · have e : x = y := UInt8.toNat_inj.1 h
     subst e
     rcases less_tri a b with h | rfl | h
     · exact .inl (.inr ⟨rfl, h⟩)
     · exact .inr (.inl ⟨rfl, rfl⟩)
     · exact .inr (.inr (.inr ⟨rfl, h⟩))
   · exact .inr (.inr (.inl (UInt8.lt_iff_toNat_lt.2 h)))
theorem less_asymm {a b : List UInt8} (h : Op.bytesLess a b = true) : Op.bytesLess b a = false := by
 cases hb : Op.bytesLess b a with
 | false => rfl
 | true => have := less_trans h hb; rw [less_irrefl] at this; cases this
theorem less_ne {a b : List UInt8} (h : Op.bytesLess a b = true) : a ≠ b := by
 rintro rfl; rw [less_irrefl] at h; cases h
@[go_sem] theorem astr_gtr (a b : List UInt8) : astr .gtr (mkStr a) (mkStr b) = some (.c (.bool (Op.bytesLess b a))) := by
 show some (AV.c (.bool (!(Op.bytesLess (mkStr a).toList (mkStr b).toList || decide (mkStr a = mkStr b))))) = _
 rw [mkStr_toList, mkStr_toList]
 have h : decide (mkStr a = mkStr b) = decide (a = b) := decide_eq_decide.2 (by rw [mkStr_inj])
 rw [h]
 congr 3
 rcases less_tri a b with h | rfl | h
 · simp [h, less_asymm h]
 · simp [less_irrefl]
 · simp [h, less_asymm h, (less_ne h).symm]
end
end Go.Av
