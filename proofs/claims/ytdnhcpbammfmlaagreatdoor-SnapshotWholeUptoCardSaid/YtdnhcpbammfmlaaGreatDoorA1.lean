/- A part of the proof: what the calls do, told by values. -/
import Derived.Calls
import Derived.Defers
import Derived.AtR
import Derived.Laws.Sem
import Derived.Laws.Strings
import Derived.Laws.BytesString
set_option linter.unusedVariables false
set_option linter.unusedSimpArgs false
namespace Go.Av
open Go
section
inductive AV where
 | c (v : Value)
 | agg (xs : List AV)
 | tup (xs : List AV)
 | ifc (t : TypeId) (x : AV)
 | fn (f : Fn) (first cap : List AV)
 | sl0
 | sl (s : Nat) (rows : List (List AV))
 | fp (cells : List AV)
 deriving Inhabited
def maxRows : Nat := 1099511627776
structure G where
 fz : Nat → Prop
 w : World
mutual
def rel (g : G) : AV → Value → Prop
 | .c v, u => u = v
 | .agg xs, u => ∃ us : List Value, u = .agg us.toArray ∧ relL g xs us
 | .tup xs, u => ∃ us : List Value, u = .tuple us.toArray ∧ relL g xs us
 | .ifc t x, u => ∃ v, u = .iface t v ∧ rel g x v
 | .fn f xs ys, u => ∃ us vs : List Value, u = .func f us.toArray vs.toArray ∧ relL g xs us ∧ relL g ys vs
 | .sl0, u => ∃ a, u = .slice a 0 0
 | .sl s rows, u => ∃ a cap, u = .slice a rows.length cap ∧ (rows.length ≤ cap ∧ rows.length ≤ maxRows) ∧ (rows = [] ∨ ∃ b o, a = some ⟨b, o, none⟩ ∧ g.fz b ∧ relR g s b o rows)
 | .fp cells, u => ∃ b o, u = .pointer (some ⟨b, o, none⟩) ∧ g.fz b ∧ relC g b o cells
def relL (g : G) : List AV → List Value → Prop
 | [], us => us = []
 | x :: xs, us => ∃ v vs, us = v :: vs ∧ rel g x v ∧ relL g xs vs
def relC (g : G) (b : Nat) : Nat → List AV → Prop
 | _, [] => True
 | o, x :: xs => (∃ v, g.w.cell? ⟨b, o, none⟩ = some v ∧ rel g x v) ∧ relC g b (o + 1) xs
def relR (g : G) (s b : Nat) : Nat → List (List AV) → Prop
 | _, [] => True
 | o, r :: rs => r.length = s ∧ relC g b o r ∧ relR g s b (o + s) rs
end
structure Le (g g' : G) : Prop where
 fz : ∀ b, g.fz b → g'.fz b
 same : ∀ b, g.fz b → g'.w.heap[b]? = g.w.heap[b]?
theorem cell_same {w w' : World} {a : Addr} (h : w'.heap[a.block]? = w.heap[a.block]?) : w'.cell? a = w.cell? a := by
 unfold World.cell?; rw [h]
mutual
theorem rel_mono {g g' : G} (H : Le g g') : ∀ (x : AV) (u : Value), rel g x u → rel g' x u
 | .c v, u, h => by simpa [rel] using h
 | .agg xs, u, h => by
   simp only [rel] at h ⊢
   obtain ⟨us, e, h⟩ := h
   exact ⟨us, e, relL_mono H xs us h⟩
 | .tup xs, u, h => by
   simp only [rel] at h ⊢
   obtain ⟨us, e, h⟩ := h
   exact ⟨us, e, relL_mono H xs us h⟩
 | .ifc t x, u, h => by
   simp only [rel] at h ⊢
   obtain ⟨v, e, h⟩ := h
   exact ⟨v, e, rel_mono H x v h⟩
 | .fn f xs ys, u, h => by
   simp only [rel] at h ⊢
   obtain ⟨us, vs, e, h1, h2⟩ := h
   exact ⟨us, vs, e, relL_mono H xs us h1, relL_mono H ys vs h2⟩
 | .sl0, u, h => by simpa [rel] using h
 | .sl s rows, u, h => by
   simp only [rel] at h ⊢
   obtain ⟨a, cap, e, hc, h⟩ := h
   refine ⟨a, cap, e, hc, ?_⟩
   rcases h with h | ⟨b, o, ha, hb, h⟩
   · exact .inl h
   · exact .inr ⟨b, o, ha, H.fz b hb, relR_mono H hb rows o h⟩
 | .fp cells, u, h => by
   simp only [rel] at h ⊢
   obtain ⟨b, o, e, hb, h⟩ := h
   exact ⟨b, o, e, H.fz b hb, relC_mono H hb cells o h⟩
theorem relL_mono {g g' : G} (H : Le g g') : ∀ (xs : List AV) (us : List Value), relL g xs us → relL g' xs us
 | [], us, h => by simpa [relL] using h
 | x :: xs, us, h => by
   simp only [relL] at h ⊢
   obtain ⟨v, vs, e, h1, h2⟩ := h
   exact ⟨v, vs, e, rel_mono H x v h1, relL_mono H xs vs h2⟩
theorem relC_mono {g g' : G} (H : Le g g') {b : Nat} (hb : g.fz b) : ∀ (xs : List AV) (o : Nat), relC g b o xs → relC g' b o xs
 | [], o, h => by simp [relC]
 | x :: xs, o, h => by
   simp only [relC] at h ⊢
   obtain ⟨⟨v, e, h1⟩, h2⟩ := h
   exact ⟨⟨v, by rw [cell_same (H.same b hb)]; exact e, rel_mono H x v h1⟩, relC_mono H hb xs (o + 1) h2⟩
theorem relR_mono {g g' : G} (H : Le g g') {b : Nat} (hb : g.fz b) {s : Nat} : ∀ (rs : List (List AV)) (o : Nat), relR g s b o rs → relR g' s b o rs
 | [], o, h => by simp [relR]
 | r :: rs, o, h => by
   simp only [relR] at h ⊢
   obtain ⟨h0, h1, h2⟩ := h
   exact ⟨h0, relC_mono H hb r o h1, relR_mono H hb rs (o + s) h2⟩
end
theorem relL_length {g : G} : ∀ {xs : List AV} {us : List Value}, relL g xs us → us.length = xs.length
 | [], us, h => by simp only [relL] at h; simp [h]
 | x :: xs, us, h => by
   simp only [relL] at h
   obtain ⟨v, vs, rfl, _, h2⟩ := h
   simp [relL_length h2]
theorem relL_get {g : G} : ∀ {xs : List AV} {us : List Value}, relL g xs us → ∀ (i : Nat) {x : AV}, xs[i]? = some x → ∃ v, us[i]? = some v ∧ rel g x v
 | [], us, h, i, x, e => by simp at e
 | y :: xs, us, h, i, x, e => by
   simp only [relL] at h
   obtain ⟨v, vs, rfl, h1, h2⟩ := h
   cases i with
   | zero => simp at e; subst e; exact ⟨v, by simp, h1⟩
   | succ i => simp at e; obtain ⟨v', e', h'⟩ := relL_get h2 i e; exact ⟨v', by simpa using e', h'⟩
theorem relC_get {g : G} {b : Nat} : ∀ {xs : List AV} {o : Nat}, relC g b o xs → ∀ (i : Nat) {x : AV}, xs[i]? = some x → ∃ v, g.w.cell? ⟨b, o + i, none⟩ = some v ∧ rel g x v
 | [], o, h, i, x, e => by simp at e
 | y :: xs, o, h, i, x, e => by
   simp only [relC] at h
   obtain ⟨h1, h2⟩ := h
   cases i with
   | zero => simp at e; subst e; simpa using h1
   | succ i => simp at e; obtain ⟨v', e', h'⟩ := relC_get h2 i e; exact ⟨v', by rw [← e']; congr 2; omega, h'⟩
theorem relC_drop {g : G} {b : Nat} : ∀ {xs : List AV} {o : Nat}, relC g b o xs → ∀ (i : Nat), relC g b (o + i) (xs.drop i)
 | [], o, h, i => by simp [relC]
 | y :: xs, o, h, i => by
   cases i with
   | zero => simpa using h
   | succ i =>
     simp only [relC] at h
     have := relC_drop h.2 i
     simp only [List.drop_succ_cons]
     rw [show o + (i + 1) = o + 1 + i from by omega]; exact this
theorem relC_take {g : G} {b : Nat} : ∀ {xs : List AV} {o : Nat}, relC g b o xs → ∀ (i : Nat), relC g b o (xs.take i)
 | [], o, h, i => by simp [relC]
 | y :: xs, o, h, i => by
   cases i with
   | zero => simp [relC]
   | succ i =>
     simp only [relC, List.take_succ_cons] at h ⊢
     exact ⟨h.1, relC_take h.2 i⟩
theorem relR_get {g : G} {s b : Nat} : ∀ {rs : List (List AV)} {o : Nat}, relR g s b o rs → ∀ (i : Nat) {r : List AV}, rs[i]? = some r → r.length = s ∧ relC g b (o + i * s) r
 | [], o, h, i, r, e => by simp at e
 | y :: rs, o, h, i, r, e => by
   simp only [relR] at h
   obtain ⟨h0, h1, h2⟩ := h
   cases i with
   | zero => simp at e; subst e; simpa using ⟨h0, h1⟩
   | succ i =>
     simp at e
     have := relR_get h2 i e
     refine ⟨this.1, ?_⟩
     rw [show o + (i + 1) * s = o + s + i * s from by rw [Nat.add_mul]; omega]; exact this.2
theorem relR_drop {g : G} {s b : Nat} : ∀ {rs : List (List AV)} {o : Nat}, relR g s b o rs → ∀ (i : Nat), relR g s b (o + i * s) (rs.drop i)
 | [], o, h, i => by simp [relR]
 | y :: rs, o, h, i => by
   cases i with
   | zero => simpa using h
   | succ i =>
     simp only [relR] at h
     have := relR_drop h.2.2 i
     simp only [List.drop_succ_cons]
     rw [show o + (i + 1) * s = o + s + i * s from by rw [Nat.add_mul]; omega]; exact this
theorem relR_take {g : G} {s b : Nat} : ∀ {rs : List (List AV)} {o : Nat}, relR g s b o rs → ∀ (i : Nat), relR g s b o (rs.take i)
 | [], o, h, i => by simp [relR]
 | y :: rs, o, h, i => by
   cases i with
   | zero => simp [relR]
   | succ i =>
     simp only [relR, List.take_succ_cons] at h ⊢
     exact ⟨h.1, h.2.1, relR_take h.2.2 i⟩
structure HProp where
 p : G → (Nat → Prop) → Prop
 mono : ∀ {g g' : G} {B : Nat → Prop}, p g B → (∀ b, g.fz b → g'.fz b) → (∀ b, g.fz b ∨ B b → g'.w.heap[b]? = g.w.heap[b]?) → p g' B
def HProp.box (b : Nat) (t : TypeId) (cells : List AV) : HProp where
 p g B := B b ∧ ∃ cs : List Value, g.w.heap[b]? = some (.cells cs.toArray t (0, 0)) ∧ relL g cells cs
 mono {g g' B} h hf hw := by
   obtain ⟨hb, cs, h1, h2⟩ := h
   exact ⟨hb, cs, by rw [hw b (.inr hb)]; exact h1, relL_mono ⟨hf, fun b hb => hw b (.inl hb)⟩ _ _ h2⟩
def HProp.row (b : Nat) (t : TypeId) (s : Nat) (rows : List (List AV)) (k : Nat) : HProp where
 p g B := B b ∧ ∃ cs more : List Value, g.w.heap[b]? = some (.cells (cs ++ more).toArray t (0, 0)) ∧ relL g rows.flatten cs ∧ (∀ r ∈ rows, r.length = s) ∧ more.length = k * s ∧ rows.length + k ≤ 2 ^ 62
 mono {g g' B} h hf hw := by
   obtain ⟨hb, cs, more, h1, h2, h3⟩ := h
   exact ⟨hb, cs, more, by rw [hw b (.inr hb)]; exact h1, relL_mono ⟨hf, fun b hb => hw b (.inl hb)⟩ _ _ h2, h3⟩
def relM (g : G) : List (Value × AV) → List MapEntry → Prop
 | [], ms => ms = []
 | (k, x) :: es, ms => ∃ m ms', ms = m :: ms' ∧ m.key = k ∧ rel g x m.val ∧ relM g es ms'
theorem relM_mono {g g' : G} (H : Le g g') : ∀ {es : List (Value × AV)} {ms : List MapEntry}, relM g es ms → relM g' es ms
 | [], ms, h => h
 | (k, x) :: es, ms, h => by
   simp only [relM] at h ⊢
   obtain ⟨m, ms', e, h1, h2, h3⟩ := h
   exact ⟨m, ms', e, h1, rel_mono H _ _ h2, relM_mono H h3⟩
def HProp.map (b : Nat) (es : List (Value × AV)) : HProp where
 p g B := B b ∧ ∃ (ms : List MapEntry) (clock : Nat), g.w.heap[b]? = some (.map ms.toArray clock) ∧ relM g es ms ∧ (∀ m ∈ ms, m.born < clock) ∧ (ms.map (·.born)).Nodup
 mono {g g' B} h hf hw := by
   obtain ⟨hb, ms, clock, h1, h2, h3⟩ := h
   exact ⟨hb, ms, clock, by rw [hw b (.inr hb)]; exact h1, relM_mono ⟨hf, fun b hb => hw b (.inl hb)⟩ h2, h3⟩
inductive HP where
 | box (b : Nat) (t : TypeId) (cells : List AV)
 | row (b : Nat) (t : TypeId) (s : Nat) (rows : List (List AV)) (k : Nat)
 | map (b : Nat) (es : List (Value × AV))
 | pred (h : HProp)
def HP.toH : HP → HProp
 | .box b t cells => .box b t cells
 | .row b t s rows k => .row b t s rows k
 | .map b es => .map b es
 | .pred h => h
def sep : List HP → G → (Nat → Prop) → Prop
 | [], _, _ => True
 | h :: Δ, g, B => ∃ B1 : Nat → Prop, (∀ b, B1 b → B b) ∧ h.toH.p g B1 ∧ sep Δ g (fun b => B b ∧ ¬ B1 b)
theorem sep_mono {g g' : G} : ∀ {Δ : List HP} {B B' : Nat → Prop}, sep Δ g B → (∀ b, B b → B' b) → (∀ b, g.fz b → g'.fz b) → (∀ b, g.fz b ∨ B b → g'.w.heap[b]? = g.w.heap[b]?) → sep Δ g' B'
 | [], _, _, _, _, _, _ => trivial
 | h :: Δ, B, B', hs, hB, hf, hw => by
   obtain ⟨B1, h1, h2, h3⟩ := hs
   refine ⟨B1, fun b hb => hB b (h1 b hb), h.toH.mono h2 hf (fun b hb => hw b (hb.imp id (h1 b))), ?_⟩
   exact sep_mono h3 (fun b hb => ⟨hB b hb.1, hb.2⟩) hf (fun b hb => hw b (hb.imp id (·.1)))
structure Sim (g : G) (B : Nat → Prop) (Δ : List HP) : Prop where
 fzlt : ∀ b, g.fz b → b < g.w.heap.size
 blt : ∀ b, B b → b < g.w.heap.size
 disj : ∀ b, g.fz b → ¬ B b
 sep : sep Δ g B
structure Ext (g : G) (B : Nat → Prop) (g' : G) (B' : Nat → Prop) : Prop where
 os : g'.w.os = g.w.os
 tape : g'.w.tape = g.w.tape
 output : g'.w.output = g.w.output
 size : g.w.heap.size ≤ g'.w.heap.size
 keep : ∀ b, b < g.w.heap.size → ¬ B b → g'.w.heap[b]? = g.w.heap[b]?
 fz : ∀ b, g.fz b → g'.fz b
 fzo : ∀ b, g'.fz b → g.fz b ∨ B b ∨ g.w.heap.size ≤ b
 own : ∀ b, B' b → B b ∨ g.w.heap.size ≤ b
theorem Ext.refl (g : G) (B : Nat → Prop) : Ext g B g B :=
 ⟨rfl, rfl, rfl, Nat.le_refl _, fun _ _ _ => rfl, fun _ h => h, fun _ h => .inl h, fun _ h => .inl h⟩
theorem Ext.trans {g g1 g2 : G} {B B1 B2 : Nat → Prop} (h : Ext g B g1 B1) (k : Ext g1 B1 g2 B2) : Ext g B g2 B2 where
 os := k.os.trans h.os
 tape := k.tape.trans h.tape
 output := k.output.trans h.output
 size := Nat.le_trans h.size k.size
 keep b hb hn := by
   rw [k.keep b (Nat.lt_of_lt_of_le hb h.size) (fun h1 => ?_), h.keep b hb hn]
   rcases h.own b h1 with h2 | h2
   · exact hn h2
   · omega
 fz b hb := k.fz b (h.fz b hb)
 fzo b hb := by
   rcases k.fzo b hb with h1 | h1 | h1
   · exact h.fzo b h1
   · exact (h.own b h1).imp (fun h => by exact .inl h) id |>.elim (fun h => .inr h) (fun h => .inr (.inr h))
   · exact .inr (.inr (Nat.le_trans h.size h1))
 own b hb := by
   rcases k.own b hb with h1 | h1
   · exact h.own b h1
   · exact .inr (Nat.le_trans h.size h1)
theorem Sim.le {g g' : G} {B B' : Nat → Prop} {Δ : List HP} (s : Sim g B Δ) (h : Ext g B g' B') : Le g g' :=
 ⟨h.fz, fun b hb => h.keep b (s.fzlt b hb) (s.disj b hb)⟩
inductive AEnd where
 | ret (x : AV)
 | pan (x : AV)
def endRel (g : G) : AEnd → Ending → Prop
 | .ret x, .returned v => rel g x v
 | .pan x, .panicked ch => ∃ v, ch = [{ v := v, recovered := false }] ∧ rel g x v
 | _, _ => False
abbrev APost := AEnd → List HP → Prop
def Post (R : APost) (g : G) (B : Nat → Prop) (e : Ending) (w' : World) : Prop :=
 ∃ g' B' a Δ', g'.w = w' ∧ Ext g B g' B' ∧ Sim g' B' Δ' ∧ endRel g' a e ∧ R a Δ'
theorem Post.mono {R R' : APost} {g : G} {B : Nat → Prop} {e : Ending} {w' : World} (h : Post R g B e w') (hr : ∀ a Δ, R a Δ → R' a Δ) : Post R' g B e w' :=
 let ⟨g', B', a, Δ', h1, h2, h3, h4, h5⟩ := h; ⟨g', B', a, Δ', h1, h2, h3, h4, hr _ _ h5⟩
theorem Post.ext {R : APost} {g g1 : G} {B B1 : Nat → Prop} {e : Ending} {w' : World} (hx : Ext g B g1 B1) (h : Post R g1 B1 e w') : Post R g B e w' :=
 let ⟨g', B', a, Δ', h1, h2, h3, h4, h5⟩ := h; ⟨g', B', a, Δ', h1, hx.trans h2, h3, h4, h5⟩
def callable (P : Program) (f : FuncId) : Bool :=
 match P.funcs[f]? with
 | some fn => fn.name != "runtime.NumGoroutine" && fn.body.isSome
 | none => false
structure ACalls (P : Program) (f : FuncId) (args : List AV) (Δ : List HP) (R : APost) : Prop where
 callable : callable P f = true
 run : ∀ g B us, Sim g B Δ → relL g args us → Calls P f us.toArray g.w (Post R g B)
theorem ACalls.mono {P : Program} {f : FuncId} {args : List AV} {Δ : List HP} {R R' : APost} (h : ACalls P f args Δ R) (hr : ∀ a Δ, R a Δ → R' a Δ) : ACalls P f args Δ R' :=
 ⟨h.callable, fun g B us s r => (h.run g B us s r).mono fun _ _ p => p.mono hr⟩
def Ret (x : AV) : APost := fun r Δ => r = .ret x ∧ Δ = []
abbrev Env := List (Nat × AV)
def Env.get : Env → Nat → Option AV
 | [], _ => none
 | (j, x) :: e, k => if j = k then some x else Env.get e k
def EnvR (g : G) (env : Env) (tmps : Array Value) : Prop := ∀ k x, env.get k = some x → ∃ v, tmps[k]? = some v ∧ rel g x v
theorem EnvR.mono {g g' : G} (H : Le g g') {env : Env} {tmps : Array Value} (h : EnvR g env tmps) : EnvR g' env tmps :=
 fun k x e => let ⟨v, h1, h2⟩ := h k x e; ⟨v, h1, rel_mono H x v h2⟩
def Env.put (env : Env) (d : Option Tmp) (x : AV) : Env :=
 match d with
 | none => env
 | some d => (d, x) :: env
theorem EnvR.put {g : G} {env : Env} {tmps : Array Value} (h : EnvR g env tmps) {d : Option Tmp} {x : AV} {v : Value} (hd : ∀ k, d = some k → k < tmps.size) (hx : rel g x v) :
   EnvR g (env.put d x) (({ tmps := tmps, defers := [] } : Act).put d v).tmps := by
 cases d with
 | none => simpa [Env.put, Act.put] using h
 | some d =>
   intro k y e
   simp only [Env.put, Env.get] at e
   simp only [Act.put]
   by_cases hk : d = k
   · subst hk
     simp at e; subst e
     exact ⟨v, by simp [hd d rfl], hx⟩
   · simp [hk] at e
     obtain ⟨u, h1, h2⟩ := h k y e
     exact ⟨u, by rw [Array.getElem?_setIfInBounds_ne hk]; exact h1, h2⟩
structure Shape where
 fn : FuncId
 round : Option Nat
 defers : List Deferred
 kind : CallKind := .normal
def Shape.plain (f : FuncId) : Shape := { fn := f, round := none, defers := [] }
def Shape.ends (f : Shape) (P : Program) (b fr : Frame) (w' : World) (e : Ending) : Prop :=
 match f.round with
 | none => match f.kind with
   | .normal => fr.fn = f.fn ∧ fr.leaving P w' e
   | _ => fr.kind = .deferred ∧ fr.going P w' e
 | some _ => ∃ (tmps : Array Value) (todo : List Item), fr = b.atR { tmps := tmps, defers := f.defers } todo ∧
     ((e = .returned (.bool true) ∧ todo = []) ∨ (e = .returned (.bool false) ∧ ∃ k, todo = .code .ret :: k))
def J (P : Program) (f : Shape) (n : Nat) (R : APost) (todo : List Item) (env : Env) (Δ : List HP) : Prop :=
 ∀ g B tmps, Sim g B Δ → tmps.size = n → EnvR g env tmps → ∀ (b : Frame) cs, b.fn = f.fn → (b.kind = f.kind ∧ b.roundOf = f.round ∧ ∃ fn, P.funcs[f.fn]? = some fn) →
   ∃ e w' fr, Post R g B e w' ∧ Comes P (lone (b.atR { tmps := tmps, defers := f.defers } todo) cs g.w) (lone fr cs w') e ∧ f.ends P b fr w' e
section
variable {P : Program} {f : Shape} {n : Nat} {R : APost} {todo todo' : List Item} {env : Env} {Δ : List HP}
theorem J.mono {R' : APost} (h : J P f n R todo env Δ) (hr : ∀ a Δ, R a Δ → R' a Δ) : J P f n R' todo env Δ :=
 fun g B tmps s hn he b cs hb hk => let ⟨e, w', fr, h1, h2⟩ := h g B tmps s hn he b cs hb hk; ⟨e, w', fr, h1.mono hr, h2⟩
theorem J_of_step (hs : ∀ (b : Frame) tmps cs w, EnvR ⟨fun _ => False, w⟩ [] tmps → step P (lone (b.atR { tmps := tmps, defers := f.defers } todo) cs w) = .next (lone (b.atR { tmps := tmps, defers := f.defers } todo') cs w))
   (h : J P f n R todo' env Δ) : J P f n R todo env Δ := by
 intro g B tmps s hn he b cs hb hk
 obtain ⟨e, w', fr, h1, h2, h3⟩ := h g B tmps s hn he b cs hb hk
 exact ⟨e, w', fr, h1, .of_steps (.one (hs b tmps cs g.w (by intro k x e; simp [Env.get] at e))) h2, h3⟩
variable {k : List Item}
theorem J_seq {x y : Code} (h : J P f n R (.code x :: .code y :: k) env Δ) : J P f n R (.code (.seq x y) :: k) env Δ :=
 J_of_step (fun _ _ _ _ _ => stepR_seq) h
theorem J_skip (h : J P f n R k env Δ) : J P f n R (.code .skip :: k) env Δ := J_of_step (fun _ _ _ _ _ => stepR_skip) h
theorem J_block {id : Nat} {c : Code} (h : J P f n R (.code c :: .inBlock id :: k) env Δ) : J P f n R (.code (.block id c) :: k) env Δ :=
 J_of_step (fun _ _ _ _ _ => stepR_block) h
theorem J_inBlock {id : Nat} (h : J P f n R k env Δ) : J P f n R (.inBlock id :: k) env Δ := J_of_step (fun _ _ _ _ _ => stepR_inBlock) h
theorem J_loop {c : Code} (h : J P f n R (.code c :: .inLoop c :: k) env Δ) : J P f n R (.code (.loop c) :: k) env Δ :=
 J_of_step (fun _ _ _ _ _ => stepR_loop) h
theorem J_inLoop {c : Code} (h : J P f n R (.code c :: .inLoop c :: k) env Δ) : J P f n R (.inLoop c :: k) env Δ :=
 J_of_step (fun _ _ _ _ _ => stepR_inLoop) h
theorem J_exit {id : Nat} (hk : exitTo id k = some todo') (h : J P f n R todo' env Δ) : J P f n R (.code (.exit id) :: k) env Δ :=
 J_of_step (fun _ _ _ _ _ => stepR_exit hk) h
theorem J_region {id : Nat} {ops : Array Oper} (h : J P f n R (.inRegion ops (List.range ops.size) :: k) env Δ) : J P f n R (.code (.region id ops false) :: k) env Δ :=
 J_of_step (fun _ _ _ _ _ => stepR_region) h
theorem J_rend {ops : Array Oper} (h : J P f n R k env Δ) : J P f n R (.inRegion ops [] :: k) env Δ :=
 J_of_step (fun _ _ _ _ _ => stepR_region_end) h
def Env.eval (env : Env) : Operand → Option AV
 | .tmp t => env.get t
 | .const v => some (.c v)
 | .global g => some (.c (.pointer (some ⟨g, 0, none⟩)))
 | .func f => some (.fn (.func f) [] [])
theorem Env.eval_rel {g : G} {tmps : Array Value} (he : EnvR g env tmps) {x : Operand} {a : AV} (h : env.eval x = some a) : rel g a (({ tmps := tmps, defers := [] } : Act).eval x) := by
 cases x with
 | tmp t =>
   simp only [Env.eval] at h
   obtain ⟨v, h1, h2⟩ := he t a h
   simp only [Act.eval, Array.getD_eq_getD_getElem?, h1, Option.getD_some]; exact h2
 | const v => simp only [Env.eval, Option.some.injEq] at h; subst h; simp [rel, Act.eval]
 | global g => simp only [Env.eval, Option.some.injEq] at h; subst h; simp [rel, Act.eval]
 | func f => simp only [Env.eval, Option.some.injEq] at h; subst h; simp [rel, Act.eval, relL]
theorem J_cond {c : Operand} {x y : Code} {t : Bool} (hc : env.eval c = some (.c (.bool t))) (h : J P f n R (.code (if t then x else y) :: k) env Δ) : J P f n R (.code (.cond c x y) :: k) env Δ := by
 intro g B tmps s hn he b cs hb hk
 obtain ⟨e, w', fr, h1, h2, h3⟩ := h g B tmps s hn he b cs hb hk
 have := Env.eval_rel he hc
 simp only [rel] at this
 exact ⟨e, w', fr, h1, .of_steps (.one (stepR_cond this)) h2, h3⟩
theorem J_if {c : Operand} {x y : Code} {p : Prop} [Decidable p] (hc : env.eval c = some (.c (.bool (decide p)))) (h1 : p → J P f n R (.code x :: k) env Δ) (h2 : ¬ p → J P f n R (.code y :: k) env Δ) : J P f n R (.code (.cond c x y) :: k) env Δ := by
 refine J_cond hc ?_
 by_cases hp : p
 · simpa [hp] using h1 hp
 · simpa [hp] using h2 hp
def aresults (env : Env) : List ResultVar → Option (List AV)
 | [] => some []
 | .tmp t :: rs => match env.get t, aresults env rs with
   | some x, some xs => some (x :: xs)
   | _, _ => none
 | .cell _ _ :: _ => none
def packed : List AV → AV
 | [x] => x
 | xs => .tup xs
theorem results_run {g : G} {tmps : Array Value} (he : EnvR g env tmps) {w : World} {F : ResultVar → Sem Value} (hF : ∀ t, F (.tmp t) = pure (tmps.getD t undef)) : ∀ {rs : List ResultVar} {xs : List AV}, aresults env rs = some xs →
   ∃ us : List Value, relL g xs us ∧ (rs.mapM (m := Sem) F).run P w = .ok us w
 | [], xs, h => by simp only [aresults, Option.some.injEq] at h; subst h; exact ⟨[], by simp [relL], by simp⟩
 | .cell _ _ :: _, _, h => by simp [aresults] at h
 | .tmp t :: rs, xs, h => by
   simp only [aresults] at h
   split at h
   · rename_i x ys hx hy
     simp only [Option.some.injEq] at h
     subst h
     obtain ⟨us, h1, h2⟩ := results_run (w := w) he hF hy
     obtain ⟨v, hv, hr⟩ := he t x hx
     refine ⟨v :: us, by simp only [relL]; exact ⟨v, us, rfl, hr, h1⟩, ?_⟩
     have hg : tmps.getD t undef = v := by simp only [Array.getD_eq_getD_getElem?, hv, Option.getD_some]
     simp only [List.mapM_cons, Sem.run_bind, Sem.run_pure, Result.andThen_ok, h2, hF, hg]
   · simp at h
def resF (tmps : Array Value) : ResultVar → Sem Value
 | .tmp t => pure (tmps.getD t undef)
 | .cell a t => do loadVar t (← asAddr (tmps.getD a undef))
theorem results_def (fn : Func) (tmps : Array Value) : results fn tmps = (fn.results.mapM (resF tmps) >>= fun vs => pure (if h : vs.size = 1 then vs[0] else .tuple vs)) := rfl
theorem results_eq {g : G} {tmps : Array Value} (he : EnvR g env tmps) {fn : Func} {xs : List AV} (h : aresults env fn.results.toList = some xs) (w : World) :
   ∃ v, rel g (packed xs) v ∧ (results fn tmps).run P w = .ok v w := by
 rw [results_def, Array.mapM_eq_mapM_toList]
 obtain ⟨us, h1, h2⟩ := results_run (P := P) (w := w) he (F := resF tmps) (fun _ => rfl) h
 have hl := relL_length h1
 rw [Sem.run_bind, Sem.run_map, h2]
 simp only [Result.andThen_ok, Sem.run_pure]
 clear h h2
 cases xs with
 | nil =>
   simp only [relL] at h1; subst h1
   exact ⟨.tuple #[], by simp only [packed, rel]; exact ⟨[], rfl, by simp [relL]⟩, by simp⟩
 | cons x xs =>
   have h0 := h1
   simp only [relL] at h1
   obtain ⟨u, us', rfl, hv, h1⟩ := h1
   cases xs with
   | nil =>
     simp only [relL] at h1; subst h1
     exact ⟨u, by simpa [packed] using hv, by simp⟩
   | cons y xs =>
     simp only [relL] at h1
     obtain ⟨v, vs, rfl, hv', h1⟩ := h1
     exact ⟨.tuple (u :: v :: vs).toArray, by simp only [packed, rel]; exact ⟨_, rfl, h0⟩, by simp⟩
theorem J_end {f : FuncId} {fn : Func} {xs : List AV} (hf : P.funcs[f]? = some fn) (hr : aresults env fn.results.toList = some xs) (h : R (.ret (packed xs)) Δ) : J P (.plain f) n R [] env Δ := by
 intro g B tmps s hn he b cs hb hk
 obtain ⟨v, h1, h2⟩ := results_eq (P := P) he hr g.w
 refine ⟨.returned v, g.w, _, ⟨g, B, .ret (packed xs), Δ, rfl, .refl _ _, s, h1, h⟩, Steps.one (stepR_end hk.2.1), ?_⟩
 show _ = _ ∧ Frame.leaving _ _ _ _
 refine ⟨hb, rfl, rfl, hk.1, fn, ?_, h2⟩
 simpa [Frame.atR, hb, Shape.plain] using hf
theorem J_env {env' : Env} (he : ∀ k x, env'.get k = some x → env.get k = some x) (h : J P f n R todo env' Δ) : J P f n R todo env Δ :=
 fun g B tmps s hn hr b cs hb hk => h g B tmps s hn (fun k x e => hr k x (he k x e)) b cs hb hk
def AV.le (x y : AV) : Prop := ∀ g v, rel g x v → rel g y v
theorem J_wk {t : Nat} {x y : AV} (ht : env.get t = some x) (hle : x.le y) (h : J P f n R todo ((t, y) :: env) Δ) : J P f n R todo env Δ := by
 refine fun g B tmps s hn hr b cs hb hk => h g B tmps s hn (fun k z e => ?_) b cs hb hk
 simp only [Env.get] at e
 by_cases hk : t = k
 · subst hk
   simp at e; subst e
   obtain ⟨v, h1, h2⟩ := hr t x ht
   exact ⟨v, h1, hle g v h2⟩
 · simp [hk] at e; exact hr k z e
theorem J_sep {Δ' : List HP} (hs : ∀ g B, Sim g B Δ → sep Δ' g B) (h : J P f n R todo env Δ') : J P f n R todo env Δ :=
 fun g B tmps s hn hr b cs hb hk => h g B tmps ⟨s.fzlt, s.blt, s.disj, hs g B s⟩ hn hr b cs hb hk
theorem sep_swap {g : G} {x y : HP} {l : List HP} {B : Nat → Prop} (h : sep (x :: y :: l) g B) : sep (y :: x :: l) g B := by
 obtain ⟨B1, h1, h2, B2, h3, h4, h5⟩ := h
 refine ⟨B2, fun b hb => (h3 b hb).1, h4, B1, fun b hb => ⟨h1 b hb, fun h => (h3 b h).2 hb⟩, h2, ?_⟩
 exact sep_mono h5 (fun b hb => ⟨⟨hb.1.1, hb.2⟩, hb.1.2⟩) (fun _ h => h) (fun _ _ => rfl)
theorem sep_perm {g : G} {l l' : List HP} (h : l.Perm l') : ∀ {B : Nat → Prop}, sep l g B → sep l' g B := by
 induction h with
 | nil => exact fun h => h
 | cons x _ ih => exact fun ⟨B1, h1, h2, h3⟩ => ⟨B1, h1, h2, ih h3⟩
 | swap x y l => exact fun h => sep_swap h
 | trans _ _ ih1 ih2 => exact fun h => ih2 (ih1 h)
theorem sep_append {g : G} : ∀ {l l' : List HP} {B : Nat → Prop}, sep (l ++ l') g B → ∃ B1 : Nat → Prop, (∀ b, B1 b → B b) ∧ sep l g B1 ∧ sep l' g (fun b => B b ∧ ¬ B1 b)
 | [], l', B, h => ⟨fun _ => False, fun _ h => h.elim, trivial, sep_mono h (fun b hb => ⟨hb, id⟩) (fun _ h => h) (fun _ _ => rfl)⟩
 | x :: l, l', B, ⟨B1, h1, h2, h3⟩ => by
   obtain ⟨B2, k1, k2, k3⟩ := sep_append h3
   refine ⟨fun b => B1 b ∨ B2 b, fun b hb => hb.elim (h1 b) (fun h => (k1 b h).1), ⟨B1, fun _ h => .inl h, h2, ?_⟩, ?_⟩
   · exact sep_mono k2 (fun b hb => ⟨.inr hb, (k1 b hb).2⟩) (fun _ h => h) (fun _ _ => rfl)
   · exact sep_mono k3 (fun b hb => ⟨hb.1.1, fun h => h.elim hb.1.2 hb.2⟩) (fun _ h => h) (fun _ _ => rfl)
theorem sep_join {g : G} : ∀ {l l' : List HP} {B B1 : Nat → Prop}, (∀ b, B1 b → B b) → sep l g B1 → sep l' g (fun b => B b ∧ ¬ B1 b) → sep (l ++ l') g B
 | [], l', B, B1, h, _, h2 => sep_mono h2 (fun _ hb => hb.1) (fun _ h => h) (fun _ _ => rfl)
 | x :: l, l', B, B1, h, ⟨B2, k1, k2, k3⟩, h2 =>
   ⟨B2, fun b hb => h b (k1 b hb), k2, sep_join (B1 := fun b => B1 b ∧ ¬ B2 b) (fun b hb => ⟨h b hb.1, hb.2⟩) k3
     (sep_mono h2 (fun b hb => ⟨⟨hb.1, fun h => hb.2 (k1 b h)⟩, fun h => hb.2 h.1⟩) (fun _ h => h) (fun _ _ => rfl))⟩
theorem ACalls.frame {f : FuncId} {args : List AV} {Fr : List HP} (h : ACalls P f args Δ R) : ACalls P f args (Δ ++ Fr) (fun a Δ' => ∃ Δ1, Δ' = Δ1 ++ Fr ∧ R a Δ1) := by
 refine ⟨h.callable, fun g B us s r => ?_⟩
 obtain ⟨B1, h1, h2, h3⟩ := sep_append s.sep
 refine (h.run g B1 us ⟨s.fzlt, fun b hb => s.blt b (h1 b hb), fun b hb hn => s.disj b hb (h1 b hn), h2⟩ r).mono ?_
 rintro e w' ⟨g', B', a, Δ', rfl, hx, hs, hr, hR⟩
 refine ⟨g', fun b => B' b ∨ (B b ∧ ¬ B1 b), a, Δ' ++ Fr, rfl, ?_, ?_, hr, Δ', rfl, hR⟩
 · exact ⟨hx.os, hx.tape, hx.output, hx.size, fun b hb hn => hx.keep b hb (fun h => hn (h1 b h)), hx.fz, fun b hb => (hx.fzo b hb).imp id (.imp (h1 b) id),
     fun b hb => hb.elim (fun h => (hx.own b h).imp (h1 b) id) (fun h => .inl h.1)⟩
 · refine ⟨hs.fzlt, fun b hb => hb.elim (hs.blt b) (fun h => Nat.lt_of_lt_of_le (s.blt b h.1) hx.size), fun b hb hn => ?_, ?_⟩
   · rcases hn with hn | hn
     · exact hs.disj b hb hn
     · rcases hx.fzo b hb with h | h | h
       · exact s.disj b h hn.1
       · exact hn.2 h
       · have := s.blt b hn.1; omega
   · refine sep_join (B1 := B') (fun _ h => .inl h) hs.sep (sep_mono h3 (fun b hb => ⟨.inr hb, fun h => ?_⟩) hx.fz (fun b hb => ?_))
     · rcases hx.own b h with h | h
       · exact hb.2 h
       · have := s.blt b hb.1; omega
     · rcases hb with hb | hb
       · exact hx.keep b (s.fzlt b hb) (fun h => s.disj b hb (h1 b h))
       · exact hx.keep b (s.blt b hb.1) hb.2
theorem ACalls.perm {f : FuncId} {args : List AV} {Δ' : List HP} (hp : Δ'.Perm Δ) (h : ACalls P f args Δ R) : ACalls P f args Δ' R :=
 ⟨h.callable, fun g B us s r => h.run g B us ⟨s.fzlt, s.blt, s.disj, sep_perm hp s.sep⟩ r⟩
def argEnv : Nat → List AV → Env
 | _, [] => []
 | i, x :: xs => (i, x) :: argEnv (i + 1) xs
theorem argEnv_rel {g : G} {us : Array Value} : ∀ {xs : List AV} {vs : List Value} {i : Nat}, relL g xs vs → (∀ j v, vs[j]? = some v → us[i + j]? = some v) → EnvR g (argEnv i xs) us
 | [], _, _, _, _ => fun k x e => by simp [argEnv, Env.get] at e
 | x :: xs, vs, i, h, hu => by
   simp only [relL] at h
   obtain ⟨v, vs', rfl, h1, h2⟩ := h
   intro k y e
   simp only [argEnv, Env.get] at e
   by_cases hk : i = k
   · subst hk
     simp at e; subst e
     exact ⟨v, by simpa using hu 0 v (by simp), h1⟩
   · simp [hk] at e
     exact argEnv_rel h2 (i := i + 1) (fun j v hj => by have := hu (j + 1) v (by simpa using hj); rwa [show i + 1 + j = i + (j + 1) from by omega]) k y e
theorem calls_of_J {f : FuncId} {fn : Func} {c : Code} {args : List AV} (hcl : callable P f = true) (hf : P.funcs[f]? = some fn) (hb : fn.body = some c) (hn : args.length ≤ fn.ntmps)
   (h : J P (.plain f) fn.ntmps R [.code c] (argEnv 0 args) Δ) : ACalls P f args Δ R := by
 refine ⟨hcl, fun g B us s hr cs => ?_⟩
 have hl := relL_length hr
 let b : Frame := { (default : Frame) with fn := f, kind := .normal }
 have henter : Frame.enter P f us.toArray .normal = b.atR { tmps := us.toArray ++ Array.replicate (fn.ntmps - us.toArray.size) undef, defers := [] } [.code c] := by
   simp [Frame.enter, Frame.atR, hf, hb, b]; rfl
 obtain ⟨e, w', fr, h1, h2, h3, h4⟩ := h g B (us.toArray ++ Array.replicate (fn.ntmps - us.toArray.size) undef) s (by simp; omega)
   (argEnv_rel hr (fun j v hj => by
     have : j < us.length := by
       rcases Nat.lt_or_ge j us.length with h | h
       · exact h
       · simp [List.getElem?_eq_none h] at hj
     rw [Nat.zero_add, Array.getElem?_append_left (by simpa using this)]
     simpa using hj)) b cs rfl ⟨rfl, rfl, fn, hf⟩
 exact ⟨e, w', fr, h1, by rw [henter]; exact h2, h3, h4⟩
theorem step_op {b : Frame} {a : Act} {cs : List Frame} {w w' : World} {ops : Array Oper} {i : Nat} {is : List Nat} {o : Oper} {nx : Next} {v : Value} (ho : ops[i]? = some o)
   (hw : Region.wanted o (yielded ops a.tmps) = true) (hr : (execOp a.eval o).run P w = .ok nx w') (hv : nx = .value v ∨ nx = .skip ∧ v = undef) :
   step P (lone (b.atR a (.inRegion ops (i :: is) :: k)) cs w) = .next (lone (b.atR (a.put o.dst v) (.inRegion ops is :: k)) cs w') := by
 have hnd : ∀ c, o.op ≠ .defer c := by
   intro c hc
   simp only [execOp, hc, Sem.run_bind] at hr
   cases hq : (resolve a.eval c o.type).run P w with
   | ok d w1 => simp only [hq, Result.andThen_ok, Sem.run_pure, Result.ok.injEq] at hr; rcases hv with h | ⟨h, _⟩ <;> rw [h] at hr <;> exact Next.noConfusion hr.1
   | halt h w1 => simp [hq, Result.andThen] at hr
 have hg := stepGR_op (P := P) (b := b) (k := k) (cs := cs) (w := w) (rest := is) ho hw
 rw [Oper.semAt_eq _ _ _ hnd] at hg
 have hfin : (b.atR a (.inRegion ops (i :: is) :: k)).finish v = b.atR (a.put o.dst v) (.inRegion ops is :: k) := by rw [Frame.finish_atR, ho]; rfl
 refine step_lone_go ?_
 rw [hg, ← hfin]
 rcases hv with rfl | ⟨rfl, rfl⟩
 · simp [stepG.apply, hr]
 · simp [stepG.apply, hr]
theorem put_defers {a : Array Value} {ds : List Deferred} {d : Option Tmp} {v : Value} : (({ tmps := a, defers := ds } : Act).put d v) = { tmps := (({ tmps := a, defers := [] } : Act).put d v).tmps, defers := ds } := by
 unfold Act.put; split <;> rfl
def avBool : Option AV → Option Bool
 | some (.c (.bool b)) => some b
 | _ => none
theorem avBool_some (b : Bool) : avBool (some (.c (.bool b))) = some b := rfl
theorem avBool_undef : avBool (some (.c undef)) = none := rfl
def Env.bool? (env : Env) (j : Nat) : Option Bool := avBool (env.get j)
def isUndef : Value → Bool
 | .tuple xs => xs.isEmpty
 | _ => false
theorem isUndef_undef : isUndef undef = true := rfl
def Env.skipped (env : Env) (j : Nat) : Option Bool :=
 match env.get j with
 | some (.c v) => if isUndef v = true then some false else none
 | _ => none
def awanted (ops : Array Oper) (env : Env) (o : Oper) : Option Bool :=
 match o.guard with
 | none => some true
 | some (j, want) => match (ops[j]?).bind (·.dst) with
   | some d => match env.bool? d with
     | some b => some (b == want)
     | none => env.skipped d
   | none => none
theorem awanted_eq {g : G} {tmps : Array Value} (he : EnvR g env tmps) {ops : Array Oper} {o : Oper} {t : Bool} (h : awanted ops env o = some t) : Region.wanted o (yielded ops tmps) = t := by
 unfold awanted at h
 unfold Region.wanted
 cases hg : o.guard with
 | none => rw [hg] at h; simpa using h
 | some p =>
   obtain ⟨j, want⟩ := p
   rw [hg] at h
   simp only at h ⊢
   unfold yielded
   cases hd : (ops[j]?).bind (·.dst) with
   | none => rw [hd] at h; simp at h
   | some d =>
     rw [hd] at h
     simp only [Option.bind_some] at h ⊢
     unfold Env.bool? avBool Env.skipped at h
     cases hx : env.get d with
     | none => rw [hx] at h; simp at h
     | some x =>
       rw [hx] at h
       obtain ⟨v, h1, h2⟩ := he d x hx
       rw [h1]
       cases x with
       | c u =>
         simp only [rel] at h2
         subst h2
         cases v with
         | bool q => simp only [Option.some.injEq] at h; subst h; cases q <;> cases want <;> rfl
         | tuple xs => 
           simp only at h
           split at h
           · simp only [Option.some.injEq] at h; subst h; rfl
           · simp at h
         | _ => simp [isUndef] at h
       | _ => simp at h
def OpOK (P : Program) (env : Env) (Δ : List HP) (o : Oper) (K : AV → List HP → Prop) : Prop :=
 ∀ g B tmps, Sim g B Δ → EnvR g env tmps → ∃ g' B' x Δ' nx v, (execOp (({ tmps := tmps, defers := [] } : Act).eval) o).run P g.w = .ok nx g'.w ∧ (nx = .value v ∨ nx = .skip ∧ v = undef) ∧
   Ext g B g' B' ∧ Sim g' B' Δ' ∧ rel g' x v ∧ K x Δ'
theorem J_op {ops : Array Oper} {i : Nat} {is : List Nat} {o : Oper} {K : AV → List HP → Prop} (ho : ops[i]? = some o) (hw : awanted ops env o = some true) (hd : o.dst.all (· < n) = true)
   (h : OpOK P env Δ o K) (hk : ∀ x Δ', K x Δ' → J P f n R (.inRegion ops is :: k) (env.put o.dst x) Δ') : J P f n R (.inRegion ops (i :: is) :: k) env Δ := by
 intro g B tmps s hn he b cs hb hkd
 obtain ⟨g', B', x, Δ', nx, v, h1, h2, h3, h4, h5, h6⟩ := h g B tmps s he
 have he' : EnvR g' (env.put o.dst x) (({ tmps := tmps, defers := [] } : Act).put o.dst v).tmps :=
   (he.mono (s.le h3)).put (fun j hj => by rw [hj] at hd; simpa [hn] using hd) h5
 obtain ⟨e, w', fr, k1, k2, k3⟩ := hk x Δ' h6 g' B' _ h4 (by unfold Act.put; split <;> simp [hn]) he' b cs hb hkd
 have hst := step_op (P := P) (b := b) (a := { tmps := tmps, defers := f.defers }) (k := k) (cs := cs) (is := is) ho (awanted_eq he hw) h1 h2
 rw [put_defers] at hst
 exact ⟨e, w', fr, k1.ext h3, .of_steps (.one hst) k2, k3⟩
theorem J_skipop {ops : Array Oper} {i : Nat} {is : List Nat} {o : Oper} (ho : ops[i]? = some o) (hw : awanted ops env o = some false) (hd : o.dst.all (· < n) = true)
   (h : J P f n R (.inRegion ops is :: k) (env.put o.dst (.c undef)) Δ) : J P f n R (.inRegion ops (i :: is) :: k) env Δ := by
 intro g B tmps s hn he b cs hb hkd
 have he' : EnvR g (env.put o.dst (.c undef)) (({ tmps := tmps, defers := [] } : Act).put o.dst undef).tmps :=
   he.put (fun j hj => by rw [hj] at hd; simpa [hn] using hd) (by simp [rel])
 obtain ⟨e, w', fr, k1, k2, k3⟩ := h g B _ s (by unfold Act.put; split <;> simp [hn]) he' b cs hb hkd
 have hst := stepR_op_skip (P := P) (b := b) (a := { tmps := tmps, defers := f.defers }) (k := k) (cs := cs) (w := g.w) (ops := ops) (i := i) (rest := is) (by simp [ho, awanted_eq he hw])
 simp only [ho, Option.bind_some] at hst
 rw [put_defers] at hst
 exact ⟨e, w', fr, k1, .of_steps (.one hst) k2, k3⟩
end
end
section
def tk (P : Program) (t : TypeId) : Option (Nat × Bool) :=
 match P.info? t, P.underlying t with
 | some i, some (.struct _) => some (i.size, true)
 | some i, some (.array _ _) => some (i.size, true)
 | some i, some _ => some (i.size, false)
 | _, _ => none
section
variable {P : Program} {w : World} {t : TypeId} {s : Nat} {ag : Bool}
theorem run_sizeOf (h : tk P t = some (s, ag)) : (sizeOf t).run P w = .ok s w := by
 unfold tk at h
 unfold sizeOf typeInfo
 cases hi : P.info? t with
 | none => simp [hi] at h
 | some i =>
   simp only [hi] at h
   simp only [Sem.run_bind, run_program, Result.andThen_ok, hi, Sem.run_pure]
   split at h <;> simp_all
theorem run_isAgg (h : tk P t = some (s, ag)) : (isAgg t).run P w = .ok ag w := by
 unfold tk at h
 unfold isAgg underlying
 cases hu : P.underlying t with
 | none => simp only [hu] at h; split at h <;> simp_all
 | some d =>
   cases hi : P.info? t with
   | none => simp [hi] at h
   | some i =>
     simp only [hu, hi] at h
     simp only [Sem.run_bind, run_program, Result.andThen_ok, hu, Sem.run_pure]
     cases d <;> simp_all
end
def cellsOf : AV → List AV
 | .agg xs => xs
 | .c (.agg cs) => cs.toList.map .c
 | x => [x]
def ofCells (ag : Bool) (s : Nat) (cells : List AV) : Option AV :=
 if ag then (if s ≤ cells.length then some (.agg (cells.take s)) else none) else cells[0]?
theorem loadCellsFrom_run {P : Program} {g : G} {b o : Nat} : ∀ (n i : Nat) {cells : List AV} (acc : Array Value), relC g b (o + i) cells → n ≤ cells.length →
   ∃ us : List Value, relL g (cells.take n) us ∧ (loadCellsFrom ⟨b, o, none⟩ i n acc).run P g.w = .ok (acc ++ us.toArray) g.w
 | 0, i, cells, acc, _, _ => ⟨[], by simp [relL], by simp [loadCellsFrom]⟩
 | n + 1, i, [], acc, _, h => by simp at h
 | n + 1, i, x :: cells, acc, hr, h => by
   simp only [relC] at hr
   obtain ⟨⟨v, hv, hx⟩, hr⟩ := hr
   obtain ⟨us, h1, h2⟩ := loadCellsFrom_run (P := P) n (i + 1) (acc.push v) (by rw [show o + (i + 1) = o + i + 1 from rfl]; exact hr) (by simpa using h)
   refine ⟨v :: us, by simp only [List.take_succ_cons, relL]; exact ⟨v, us, rfl, hx, h1⟩, ?_⟩
   have ha : (⟨b, o, none⟩ : Addr).add i = ⟨b, o + i, none⟩ := by unfold Addr.add; split <;> simp_all
   simp only [loadCellsFrom, Sem.run_bind, run_load, ha, hv, Result.andThen_ok, h2]
   simp
theorem addr_add (b o i : Nat) : (⟨b, o, none⟩ : Addr).add i = ⟨b, o + i, none⟩ := by unfold Addr.add; split <;> simp_all
theorem loadCells_run {P : Program} {g : G} {b o n : Nat} {cells : List AV} (hr : relC g b o cells) (h : n ≤ cells.length) :
   ∃ us : List Value, relL g (cells.take n) us ∧ (loadCells ⟨b, o, none⟩ n).run P g.w = .ok us.toArray g.w := by
 obtain ⟨us, h1, h2⟩ := loadCellsFrom_run (P := P) n 0 (b := b) (o := o) (cells := cells) #[] (by simpa using hr) h
 exact ⟨us, h1, by unfold loadCells; rw [h2]; simp⟩
theorem loadVar_run {P : Program} {g : G} {t : TypeId} {s : Nat} {ag : Bool} {b o : Nat} {cells : List AV} {x : AV} (ht : tk P t = some (s, ag)) (hr : relC g b o cells) (hx : ofCells ag s cells = some x) :
   ∃ v, (loadVar t ⟨b, o, none⟩).run P g.w = .ok v g.w ∧ rel g x v := by
 unfold loadVar
 simp only [Sem.run_bind, run_isAgg ht, Result.andThen_ok]
 unfold ofCells at hx
 cases ag with
 | true =>
   simp only [if_true] at hx ⊢
   split at hx
   · rename_i hs
     simp only [Option.some.injEq] at hx
     subst hx
     obtain ⟨us, h1, h2⟩ := loadCells_run (P := P) hr hs
     refine ⟨.agg us.toArray, ?_, by simp only [rel]; exact ⟨us, rfl, h1⟩⟩
     simp only [Sem.run_bind, run_sizeOf ht, Result.andThen_ok, h2, Sem.run_pure]
   · simp at hx
 | false =>
   simp only [Bool.false_eq_true, if_false] at hx ⊢
   obtain ⟨v, h1, h2⟩ := relC_get hr 0 hx
   simp only [Nat.add_zero] at h1
   exact ⟨v, by simp only [run_load, h1], h2⟩
def World.push (w : World) (o : Obj) : World := { w with heap := w.heap.push o }
theorem push_get {w : World} {o : Obj} {b : Nat} (h : b < w.heap.size) : (World.push w o).heap[b]? = w.heap[b]? := by
 simp only [World.push, Array.getElem?_push]; rw [if_neg (by omega)]
theorem push_new {w : World} {o : Obj} : (World.push w o).heap[w.heap.size]? = some o := by show (w.heap.push o)[w.heap.size]? = some o; rw [Array.getElem?_push]; simp
def G.born (g : G) (o : Obj) : G := ⟨fun b => g.fz b ∨ b = g.w.heap.size, World.push g.w o⟩
theorem born_ext {g : G} {B : Nat → Prop} (o : Obj) : Ext g B (g.born o) B where
 os := rfl
 tape := rfl
 output := rfl
 size := by simp [G.born, World.push]
 keep b hb _ := push_get hb
 fz b hb := .inl hb
 fzo b hb := hb.elim .inl (fun h => .inr (.inr (by omega)))
 own b hb := .inl hb
theorem born_sim {g : G} {B : Nat → Prop} {Δ : List HP} (o : Obj) (s : Sim g B Δ) : Sim (g.born o) B Δ where
 fzlt b hb := by
   have : (g.born o).w.heap.size = g.w.heap.size + 1 := by simp [G.born, World.push]
   rcases hb with h | h
   · have := s.fzlt b h; omega
   · omega
 blt b hb := by have := s.blt b hb; simp [G.born, World.push]; omega
 disj b hb hn := hb.elim (fun h => s.disj b h hn) (fun h => by have := s.blt b hn; omega)
 sep := sep_mono s.sep (fun _ h => h) (fun b h => .inl h) (fun b hb => push_get (hb.elim (s.fzlt b) (s.blt b)))
def G.grow (g : G) (o : Obj) : G := ⟨g.fz, World.push g.w o⟩
theorem cells_relC {g : G} {t : TypeId} {cs : List Value} {xs : List AV} {b : Nat} {fr : Nat × Nat} (h : g.w.heap[b]? = some (.cells cs.toArray t fr)) (hr : relL g xs cs) : relC g b 0 xs := by
 have key : ∀ (xs : List AV) (vs : List Value) (o : Nat), relL g xs vs → (∀ i v, vs[i]? = some v → cs[o + i]? = some v) → relC g b o xs := by
   intro xs
   induction xs with
   | nil => intro vs o _ _; simp [relC]
   | cons x xs ih =>
     intro vs o hr hi
     simp only [relL] at hr
     obtain ⟨v, vs', rfl, h1, h2⟩ := hr
     simp only [relC]
     refine ⟨⟨v, ?_, h1⟩, ih vs' (o + 1) h2 (fun i u hu => by have := hi (i + 1) u (by simpa using hu); rwa [show o + 1 + i = o + (i + 1) from by omega])⟩
     have := hi 0 v (by simp)
     simpa [World.cell?, h] using this
 exact key xs cs 0 hr (fun i v hv => by simpa using hv)
theorem relL_consts {g : G} : ∀ (us : List Value), relL g (us.map .c) us
 | [] => by simp [relL]
 | u :: us => by simp only [List.map_cons, relL, rel]; exact ⟨u, us, rfl, rfl, relL_consts us⟩
theorem cellsOf_rel {g : G} {x : AV} {v : Value} (h : rel g x v) : ∃ cs : List Value, v.cells = cs.toArray ∧ relL g (cellsOf x) cs := by
 have one : ∀ {x : AV} {v : Value}, rel g x v → relL g [x] [v] := fun h => by simp only [relL]; exact ⟨_, [], rfl, h, rfl⟩
 cases x with
 | agg xs =>
   simp only [rel] at h
   obtain ⟨us, rfl, h⟩ := h
   exact ⟨us, rfl, h⟩
 | c u =>
   simp only [rel] at h
   subst h
   cases v with
   | agg cells => exact ⟨cells.toList, by simp [Value.cells], by simp only [cellsOf]; exact relL_consts _⟩
   | _ => exact ⟨_, rfl, by simp only [cellsOf]; exact one (by simp only [rel])⟩
 | tup xs => have h0 := h; simp only [rel] at h; obtain ⟨us, rfl, h⟩ := h; exact ⟨[_], rfl, by simp only [cellsOf]; exact one h0⟩
 | ifc t x => have h0 := h; simp only [rel] at h; obtain ⟨us, rfl, h⟩ := h; exact ⟨[_], rfl, by simp only [cellsOf]; exact one h0⟩
 | fn f xs ys => have h0 := h; simp only [rel] at h; obtain ⟨us, vs, rfl, h⟩ := h; exact ⟨[_], rfl, by simp only [cellsOf]; exact one h0⟩
 | sl0 => have h0 := h; simp only [rel] at h; obtain ⟨us, rfl⟩ := h; exact ⟨[_], rfl, by simp only [cellsOf]; exact one h0⟩
 | sl s rows => have h0 := h; simp only [rel] at h; obtain ⟨a, cap, rfl, h⟩ := h; exact ⟨[_], rfl, by simp only [cellsOf]; exact one h0⟩
 | fp cells => have h0 := h; simp only [rel] at h; obtain ⟨a, cap, rfl, h⟩ := h; exact ⟨[_], rfl, by simp only [cellsOf]; exact one h0⟩
def aint (op : BinOp) (k : IntKind) (a b : Int) : Option AV :=
 match op with
 | .add => some (.c (.int k (k.wrap (a + b))))
 | .sub => some (.c (.int k (k.wrap (a - b))))
 | .mul => some (.c (.int k (k.wrap (a * b))))
 | .quo => if b = 0 then none else some (.c (.int k (k.wrap (a.tdiv b))))
 | .rem => if b = 0 then none else some (.c (.int k (a.tmod b)))
 | .and => some (.c (.int k (k.wrap (BitVec.ofInt k.bits a &&& BitVec.ofInt k.bits b).toNat)))
 | .or => some (.c (.int k (k.wrap (BitVec.ofInt k.bits a ||| BitVec.ofInt k.bits b).toNat)))
 | .xor => some (.c (.int k (k.wrap (BitVec.ofInt k.bits a ^^^ BitVec.ofInt k.bits b).toNat)))
 | .andNot => some (.c (.int k (k.wrap (BitVec.ofInt k.bits a &&& ~~~ BitVec.ofInt k.bits b).toNat)))
 | .eql => some (.c (.bool (decide (a = b))))
 | .neq => some (.c (.bool (decide (a ≠ b))))
 | .lss => some (.c (.bool (decide (a < b))))
 | .leq => some (.c (.bool (decide (a ≤ b))))
 | .gtr => some (.c (.bool (decide (b < a))))
 | .geq => some (.c (.bool (decide (b ≤ a))))
 | _ => none
def astr (op : BinOp) (x y : ByteArray) : Option AV :=
 match op with
 | .add => if ((x.size + y.size : Nat) : Int) ≤ IntKind.i64.max then some (.c (.string (x ++ y))) else none
 | .eql => some (.c (.bool (decide (x = y))))
 | .neq => some (.c (.bool (decide (x ≠ y))))
 | .lss => some (.c (.bool (Op.bytesLess x.toList y.toList)))
 | .leq => some (.c (.bool (Op.bytesLess x.toList y.toList || decide (x = y))))
 | .gtr => some (.c (.bool !(Op.bytesLess x.toList y.toList || decide (x = y))))
 | .geq => some (.c (.bool (!Op.bytesLess x.toList y.toList)))
 | _ => none
def ashift (op : BinOp) (k : IntKind) (a b : Int) : Option AV :=
 if b < 0 then none else
 match op with
 | .shl => some (.c (.int k (k.wrap (a * 2 ^ (min b.toNat k.bits)))))
 | .shr => some (.c (.int k (a.fdiv (2 ^ (min b.toNat k.bits)))))
 | _ => none
def isShift : BinOp → Bool
 | .shl | .shr => true
 | _ => false
theorem str_beq (x y : ByteArray) : (x.toList == y.toList) = decide (x = y) := by
 rw [ByteArray.toList_eq, ByteArray.toList_eq, Bool.eq_iff_iff]
 simp only [beq_iff_eq, decide_eq_true_eq]
 refine ⟨fun h => ?_, fun h => by rw [h]⟩
 cases x; cases y; simp_all
section
variable {P : Program} {w : World}
theorem aint_ok {op : BinOp} {k : IntKind} {a b : Int} {r : AV} {t : TypeId} (hs : isShift op = false) (h : aint op k a b = some r) : ∃ v, (binOp op t (.int k a) (.int k b)).run P w = .ok v w ∧ r = .c v := by
 cases op <;> simp only [aint, isShift, Option.some.injEq, reduceCtorEq] at h hs <;>
   first
   | (subst h; refine ⟨_, ?_, rfl⟩; simp [binOp, Op.intArith, Op.intBits, Op.intCmp]; done)
   | (split at h
      · simp at h
      · rename_i hb
        simp only [Option.some.injEq] at h
        subst h; refine ⟨_, ?_, rfl⟩; simp [binOp, Op.intDiv, hb]; done)
   | (subst h; refine ⟨_, ?_, rfl⟩; simp only [binOp, Op.intCmp, ne_eq, not_true_eq_false, if_false, Sem.run_pure, Result.ok.injEq, Value.bool.injEq, and_true]; first | rfl | (rw [Bool.eq_iff_iff]; simp); done)
theorem ashift_ok {op : BinOp} {k k' : IntKind} {a b : Int} {r : AV} {t : TypeId} (h : ashift op k a b = some r) : ∃ v, (binOp op t (.int k a) (.int k' b)).run P w = .ok v w ∧ r = .c v := by
 unfold ashift at h
 split at h
 · simp at h
 · rename_i hb
   cases op <;> simp only [Option.some.injEq, reduceCtorEq] at h <;> (subst h; refine ⟨_, ?_, rfl⟩; simp [binOp, Op.shift, hb])
theorem astr_ok {op : BinOp} {a b : ByteArray} {r : AV} {t : TypeId} (h : astr op a b = some r) : ∃ v, (binOp op t (.string a) (.string b)).run P w = .ok v w ∧ r = .c v := by
 cases op <;> simp only [astr, Option.some.injEq, reduceCtorEq] at h <;>
   first
   | (subst h; refine ⟨_, ?_, rfl⟩; simp [binOp, Op.stringOp, str_beq]; done)
   | (split at h
      · rename_i hb
        simp only [Option.some.injEq] at h
        subst h; refine ⟨_, ?_, rfl⟩
        simp only [binOp, Op.stringOp]
        rw [if_neg (by omega)]; rfl
      · simp at h)
end
def anil (d : Option TypeDesc) (x : AV) : Option Bool :=
 match d, x with
 | some (.pointer _), .c (.pointer none) => some true
 | some (.pointer _), .c (.pointer (some _)) => some false
 | some (.pointer _), .fp _ => some false
 | some (.interface _), .c .nilIface => some true
 | some (.interface _), .ifc _ _ => some false
 | some (.slice _), .c (.slice none _ _) => some true
 | some (.slice _), .c (.slice (some _) _ _) => some false
 | some (.slice _), .sl _ (_ :: _) => some false
 | some (.map _ _), .c (.map none) => some true
 | some (.map _ _), .c (.map (some _)) => some false
 | some (.func _ _ _), .c .nilFunc => some true
 | some (.func _ _ _), .fn _ _ _ => some false
 | _, _ => none
def isNil (d : Option TypeDesc) (v : Value) : Bool :=
 match d, v with
 | some (.pointer _), .pointer none => true
 | some (.interface _), .nilIface => true
 | some (.slice _), .slice none 0 0 => true
 | some (.map _ _), .map none => true
 | some (.func _ _ _), .nilFunc => true
 | _, _ => false
def negIf (op : BinOp) (t : Bool) : Option AV :=
 match op with
 | .eql => some (.c (.bool t))
 | .neq => some (.c (.bool !t))
 | _ => none
def abin (P : Program) (op : BinOp) (t : TypeId) (xo yo : Operand) (a b : AV) : Option AV :=
 match a, b with
 | .c (.int k x), .c (.int k' y) => if isShift op then ashift op k x y else if k = k' then aint op k x y else none
 | .c (.string x), .c (.string y) => astr op x y
 | .c (.bool x), .c (.bool y) => match P.underlying t with
   | some .bool => negIf op (decide (x = y))
   | _ => none
 | a, b => match yo with
   | .const v => if isNil (P.underlying t) v then (match anil (P.underlying t) a with | some q => negIf op q | none => none) else none
   | _ => none
section
variable {P : Program} {w : World}
theorem run_underlying {t : TypeId} {d : TypeDesc} (h : P.underlying t = some d) : (underlying t).run P w = .ok d w := by
 unfold underlying; simp [h]
theorem equal_bool {t : TypeId} {a b : Bool} (h : P.underlying t = some .bool) : (Op.equal t (.bool a) (.bool b)).run P w = .ok (a == b) w := by
 unfold Op.equal Op.maxDepth Op.equalIn
 simp [run_underlying h]
theorem eq_ptr {t e : TypeId} {a : Option Addr} (h : P.underlying t = some (.pointer e)) : (Op.equal t (.pointer a) (.pointer none)).run P w = .ok a.isNone w := by
 unfold Op.equal Op.maxDepth Op.equalIn
 cases a <;> simp [run_underlying h]
theorem eq_nil_iface {t : TypeId} {ms : Array (String × TypeId)} (h : P.underlying t = some (.interface ms)) : (Op.equal t .nilIface .nilIface).run P w = .ok true w := by
 unfold Op.equal Op.maxDepth Op.equalIn
 simp [run_underlying h]
theorem eq_iface {t d : TypeId} {u : Value} {ms : Array (String × TypeId)} (h : P.underlying t = some (.interface ms)) : (Op.equal t (.iface d u) .nilIface).run P w = .ok false w := by
 unfold Op.equal Op.maxDepth Op.equalIn
 simp [run_underlying h]
theorem eq_slice {t e : TypeId} {a : Option Addr} {n c : Nat} (h : P.underlying t = some (.slice e)) : (Op.equal t (.slice a n c) (.slice none 0 0)).run P w = .ok a.isNone w := by
 unfold Op.equal Op.maxDepth Op.equalIn
 cases a <;> simp [run_underlying h]
theorem eq_map {t k e : TypeId} {a : Option Nat} (h : P.underlying t = some (.map k e)) : (Op.equal t (.map a) (.map none)).run P w = .ok a.isNone w := by
 unfold Op.equal Op.maxDepth Op.equalIn
 cases a <;> simp [run_underlying h]
theorem eq_nil_func {t : TypeId} {ps rs : Array TypeId} {v : Bool} (h : P.underlying t = some (.func ps rs v)) : (Op.equal t .nilFunc .nilFunc).run P w = .ok true w := by
 unfold Op.equal Op.maxDepth Op.equalIn
 simp [run_underlying h]
theorem eq_func {t : TypeId} {ps rs : Array TypeId} {v : Bool} {f : Fn} {xs ys : Array Value} (h : P.underlying t = some (.func ps rs v)) : (Op.equal t (.func f xs ys) .nilFunc).run P w = .ok false w := by
 unfold Op.equal Op.maxDepth Op.equalIn
 simp [run_underlying h]
theorem isNil_eq {d : TypeDesc} {v : Value} (h : isNil (some d) v = true) :
   (∃ e, d = .pointer e ∧ v = .pointer none) ∨ (∃ ms, d = .interface ms ∧ v = .nilIface) ∨ (∃ e, d = .slice e ∧ v = .slice none 0 0) ∨ (∃ k e, d = .map k e ∧ v = .map none) ∨ (∃ a b c, d = .func a b c ∧ v = .nilFunc) := by
 unfold isNil at h
 split at h <;> simp_all
theorem anil_ok {g : G} {t : TypeId} {x : AV} {u v : Value} {q : Bool} (hx : rel g x u) (hv : isNil (P.underlying t) v = true) (h : anil (P.underlying t) x = some q) :
   (Op.equal t u v).run P w = .ok q w := by
 cases hd : P.underlying t with
 | none => simp [hd, anil] at h
 | some d =>
   rw [hd] at h hv
   rcases isNil_eq hv with ⟨e, rfl, rfl⟩ | ⟨ms, rfl, rfl⟩ | ⟨e, rfl, rfl⟩ | ⟨k, e, rfl, rfl⟩ | ⟨a, b, c, rfl, rfl⟩
   · unfold anil at h
     split at h <;> simp_all [rel]
     all_goals (try (obtain ⟨b, o, rfl, _⟩ := hx))
     all_goals (subst h; rw [eq_ptr hd]; rfl)
   · unfold anil at h
     split at h <;> simp_all [rel]
     · subst h; rw [eq_nil_iface hd]
     · obtain ⟨y, rfl, _⟩ := hx; subst h; rw [eq_iface hd]
   · unfold anil at h
     split at h <;> simp_all [rel]
     · subst h; rw [eq_slice hd]; rfl
     · subst h; rw [eq_slice hd]; rfl
     · obtain ⟨a, cap, rfl, hc, b, o, rfl, _⟩ := hx; subst h; rw [eq_slice hd]; rfl
   · unfold anil at h
     split at h <;> simp_all [rel]
     all_goals (subst h; rw [eq_map hd]; rfl)
   · unfold anil at h
     split at h <;> simp_all [rel]
     · subst h; rw [eq_nil_func hd]
     · obtain ⟨us, vs, rfl, _⟩ := hx; subst h; rw [eq_func hd]
theorem negIf_ok {op : BinOp} {t : TypeId} {u v : Value} {q : Bool} {r : AV} (h : negIf op q = some r) (he : (Op.equal t u v).run P w = .ok q w)
   (h1 : op = .eql → binOp .eql t u v = (do pure (.bool (← Op.equal t u v)))) (h2 : op = .neq → binOp .neq t u v = (do pure (.bool (!(← Op.equal t u v))))) :
   ∃ rv, (binOp op t u v).run P w = .ok rv w ∧ r = .c rv := by
 cases op <;> simp only [negIf, Option.some.injEq, reduceCtorEq] at h
 · subst h; exact ⟨_, by rw [h1 rfl]; simp [he], rfl⟩
 · subst h; exact ⟨_, by rw [h2 rfl]; simp [he], rfl⟩
theorem eqGuard_const {op : BinOp} {t : TypeId} {xo yo : Operand} {u v : Value} (hy : yo = .const v) (hv : isNil (P.underlying t) v = true) : (eqGuard op t xo yo u v).run P w = .ok () w := by
 subst hy
 cases hd : P.underlying t with
 | none => simp [hd, isNil] at hv
 | some d =>
   rw [hd] at hv
   have hc : (match Operand.const v with | Operand.const v => true | x => false) = true := rfl
   rcases isNil_eq hv with ⟨e, rfl, rfl⟩ | ⟨ms, rfl, rfl⟩ | ⟨e, rfl, rfl⟩ | ⟨k, e, rfl, rfl⟩ | ⟨a, b, c, rfl, rfl⟩ <;>
     (cases op <;> first
       | rfl
       | (cases u <;> first | rfl | (unfold eqGuard; simp)))
theorem eqGuard_plain {op : BinOp} {t : TypeId} {xo yo : Operand} {u v : Value} (hu : (∃ k n, u = .int k n) ∨ (∃ s, u = .string s) ∨ (∃ b, u = .bool b)) : (eqGuard op t xo yo u v).run P w = .ok () w := by
 rcases hu with ⟨k, n, rfl⟩ | ⟨s, rfl⟩ | ⟨b, rfl⟩ <;> (cases op <;> rfl)
theorem abin_ok {g : G} {op : BinOp} {t : TypeId} {xo yo : Operand} {a b r : AV} {u v : Value} (h : abin P op t xo yo a b = some r) (hx : rel g a u) (hy : rel g b v) (hyo : ∀ c, yo = .const c → v = c) :
   ∃ rv, ((do eqGuard op t xo yo u v; binOp op t u v) : Sem Value).run P w = .ok rv w ∧ rel g r rv := by
 have fin : (∃ rv, (binOp op t u v).run P w = .ok rv w ∧ r = .c rv) → (eqGuard op t xo yo u v).run P w = .ok () w → ∃ rv, ((do eqGuard op t xo yo u v; binOp op t u v) : Sem Value).run P w = .ok rv w ∧ rel g r rv := by
   rintro ⟨rv, h1, rfl⟩ h2
   exact ⟨rv, by simp only [Sem.run_bind, h2, Result.andThen_ok, h1], by simp only [rel]⟩
 unfold abin at h
 split at h
 · simp only [rel] at hx hy
   subst hx hy
   split at h
   · exact fin (ashift_ok h) (eqGuard_plain (.inl ⟨_, _, rfl⟩))
   · split at h
     · rename_i hk; subst hk
       exact fin (aint_ok (by simpa using ‹¬ isShift op = true›) h) (eqGuard_plain (.inl ⟨_, _, rfl⟩))
     · simp at h
 · simp only [rel] at hx hy
   subst hx hy
   exact fin (astr_ok h) (eqGuard_plain (.inr (.inl ⟨_, rfl⟩)))
 · simp only [rel] at hx hy
   subst hx hy
   split at h
   · rename_i y
     exact fin (negIf_ok h (equal_bool y) (fun _ => rfl) (fun _ => rfl)) (eqGuard_plain (.inr (.inr ⟨_, rfl⟩)))
   · simp at h
 · split at h
   · rename_i c
     have hv := hyo c rfl
     subst hv
     split at h
     · rename_i hn
       split at h
       · rename_i q hq
         have key : binOp .eql t u v = (do pure (.bool (← Op.equal t u v))) ∧ binOp .neq t u v = (do pure (.bool (!(← Op.equal t u v)))) := by
           cases hd : P.underlying t with
           | none => simp [hd, isNil] at hn
           | some d =>
             rw [hd] at hn hq
             rcases isNil_eq hn with ⟨e, rfl, rfl⟩ | ⟨ms, rfl, rfl⟩ | ⟨e, rfl, rfl⟩ | ⟨k, e, rfl, rfl⟩ | ⟨a, b, c, rfl, rfl⟩ <;> (cases u <;> exact ⟨rfl, rfl⟩)
         exact fin (negIf_ok h (anil_ok hx hn hq) (fun _ => key.1) (fun _ => key.2)) (eqGuard_const rfl hn)
       · simp at h
     · simp at h
   · simp at h
end
end
section
def tkField (P : Program) (s : TypeId) (f : Nat) : Option (Nat × Nat × Bool) :=
 match P.underlying s with
 | some (.struct fields) => match fields[f]? with
   | some fd => match tk P fd.type with
     | some (n, ag) => some (fd.offset, n, ag)
     | none => none
   | none => none
 | _ => none
def tkElem (P : Program) (t : TypeId) : Option (Nat × Bool) :=
 match P.underlying t with
 | some (.slice e) => tk P e
 | some (.array _ e) => tk P e
 | _ => none
def tkArr (P : Program) (t : TypeId) : Option Nat :=
 match P.underlying t with
 | some (.array n _) => some n
 | _ => none
def afieldAddr (P : Program) (s : TypeId) (f : Nat) (x : AV) : Option AV :=
 match tkField P s f with
 | some (off, n + 1, _) => match x with
   | .fp cells => some (.fp (cells.drop off))
   | .c (.pointer (some ⟨b, o, none⟩)) => some (.c (.pointer (some ⟨b, o + off, none⟩)))
   | _ => none
 | _ => none
section
variable {P : Program} {w : World}
theorem afieldAddr_ok {g : G} {s : TypeId} {f : Nat} {x r : AV} {u : Value} (h : afieldAddr P s f x = some r) (hx : rel g x u) : ∃ v, (Instr.fieldAt s u f).run P g.w = .ok v g.w ∧ rel g r v := by
 unfold afieldAddr at h
 split at h
 · rename_i off n ag hf
   unfold tkField at hf
   split at hf
   · rename_i fields hu
     split at hf
     · rename_i fd hfd
       split at hf
       · rename_i m ag' ht
         simp only [Option.some.injEq, Prod.mk.injEq] at hf
         obtain ⟨rfl, rfl, rfl⟩ := hf
         have hrun : ∀ a : Addr, (Instr.fieldAt s (.pointer (some a)) f).run P g.w = .ok (.pointer (some (a.add fd.offset))) g.w := by
           intro a
           unfold Instr.fieldAt
           simp only [Sem.run_bind, run_underlying hu, Result.andThen_ok, hfd, Instr.sureAddr, Sem.run_pure, fieldPlace, run_sizeOf ht]
           simp
         split at h
         · rename_i cells
           simp only [Option.some.injEq] at h
           subst h
           simp only [rel] at hx
           obtain ⟨b, o, rfl, hb, hc⟩ := hx
           exact ⟨_, hrun _, by simp only [rel, addr_add]; exact ⟨b, o + fd.offset, rfl, hb, relC_drop hc _⟩⟩
         · simp only [Option.some.injEq] at h
           subst h
           simp only [rel] at hx
           subst hx
           exact ⟨_, hrun _, by simp only [rel, addr_add]⟩
         · simp at h
       · simp at hf
     · simp at hf
   · simp at hf
 · simp at h
def aindexAddr (P : Program) (t : TypeId) (x : AV) (i : Int) : Option AV :=
 match tkElem P t with
 | some (s, _) => match tkArr P t with
   | none => match x with
     | .sl s' rows => if s' = s then (if 0 ≤ i then (rows[i.toNat]?).map .fp else none) else none
     | .c (.slice (some ⟨b, o, none⟩) len _) => if 0 ≤ i ∧ i < len then some (.c (.pointer (some ⟨b, o + i.toNat * s, none⟩))) else none
     | _ => none
   | some n => match x with
     | .fp cells => if 0 ≤ i ∧ i < n then some (.fp (cells.drop (i.toNat * s))) else none
     | .c (.pointer (some ⟨b, o, none⟩)) => if 0 ≤ i ∧ i < n then some (.c (.pointer (some ⟨b, o + i.toNat * s, none⟩))) else none
     | _ => none
 | none => none
theorem aindexAddr_ok {g : G} {t : TypeId} {x r : AV} {u : Value} {k : IntKind} {i : Int} (h : aindexAddr P t x i = some r) (hx : rel g x u) : ∃ v, (Instr.indexAt t u (.int k i)).run P g.w = .ok v g.w ∧ rel g r v := by
 unfold aindexAddr at h
 unfold tkElem tkArr at h
 cases hu : P.underlying t with
 | none => simp [hu] at h
 | some d =>
   rw [hu] at h
   cases d with
   | slice e =>
     simp only at h
     cases ht : tk P e with
     | none => simp [ht] at h
     | some q =>
       obtain ⟨s, ag⟩ := q
       simp only [ht] at h
       split at h
       · rename_i s' rows
         split at h
         · rename_i hs; subst hs
           split at h
           · rename_i hi
             cases hr : rows[i.toNat]? with
             | none => simp [hr] at h
             | some row =>
               simp only [hr, Option.map_some, Option.some.injEq] at h
               subst h
               have hlt : i.toNat < rows.length := by
                 rcases Nat.lt_or_ge i.toNat rows.length with h | h
                 · exact h
                 · simp [List.getElem?_eq_none h] at hr
               simp only [rel] at hx
               obtain ⟨a, cap, rfl, hcap, hor⟩ := hx
               rcases hor with rfl | ⟨b, o, rfl, hb, hrel⟩
               · simp at hlt
               · obtain ⟨hl, hc⟩ := relR_get hrel _ hr
                 refine ⟨.pointer (some ⟨b, o + i.toNat * s', none⟩), ?_, by simp only [rel]; exact ⟨b, _, rfl, hb, hc⟩⟩
                 unfold Instr.indexAt
                 simp only [asIntOf, Sem.run_bind, Sem.run_pure, Result.andThen_ok, run_underlying hu]
                 simp only [Sem.run_ite, Sem.run_bind, run_sizeOf ht, Result.andThen_ok, Sem.run_pure, addr_add]
                 rw [if_pos ⟨hi, by omega⟩]
           · simp at h
         · simp at h
       · rename_i b o len cap
         split at h
         · rename_i hi
           simp only [Option.some.injEq] at h
           subst h
           simp only [rel] at hx
           subst hx
           refine ⟨.pointer (some ⟨b, o + i.toNat * s, none⟩), ?_, by simp only [rel]⟩
           unfold Instr.indexAt
           simp only [asIntOf, Sem.run_bind, Sem.run_pure, Result.andThen_ok, run_underlying hu]
           simp only [Sem.run_ite, Sem.run_bind, run_sizeOf ht, Result.andThen_ok, Sem.run_pure, addr_add]
           rw [if_pos hi]
         · simp at h
       · simp at h
   | array n e =>
     simp only at h
     cases ht : tk P e with
     | none => simp [ht] at h
     | some q =>
       obtain ⟨s, ag⟩ := q
       simp only [ht] at h
       have hrun : ∀ a : Addr, 0 ≤ i ∧ i < n → (Instr.indexAt t (.pointer (some a)) (.int k i)).run P g.w = .ok (.pointer (some (a.add (i.toNat * s)))) g.w := by
         intro a hi
         unfold Instr.indexAt
         simp only [asIntOf, Sem.run_bind, Sem.run_pure, Result.andThen_ok, run_underlying hu, Instr.sureAddr]
         simp only [Sem.run_ite, Sem.run_bind, run_sizeOf ht, Result.andThen_ok, Sem.run_pure]
         rw [if_pos hi]
       split at h
       · rename_i cells
         split at h
         · rename_i hi
           simp only [Option.some.injEq] at h
           subst h
           simp only [rel] at hx
           obtain ⟨b, o, rfl, hb, hc⟩ := hx
           exact ⟨_, hrun _ hi, by simp only [rel, addr_add]; exact ⟨b, _, rfl, hb, relC_drop hc _⟩⟩
         · simp at h
       · split at h
         · rename_i hi
           simp only [Option.some.injEq] at h
           subst h
           simp only [rel] at hx
           subst hx
           exact ⟨_, hrun _ hi, by simp only [rel, addr_add]⟩
         · simp at h
       · simp at h
   | _ => simp at h
def aload (P : Program) (t : TypeId) (x : AV) : Option AV :=
 match tk P t with
 | some (s, ag) => match x with
   | .fp cells => ofCells ag s cells
   | _ => none
 | none => none
theorem aload_ok {g : G} {t : TypeId} {x r : AV} {u : Value} (h : aload P t x = some r) (hx : rel g x u) : ∃ v, (Instr.loadAt t u).run P g.w = .ok v g.w ∧ rel g r v := by
 unfold aload at h
 split at h
 · rename_i s ag ht
   split at h
   · simp only [rel] at hx
     obtain ⟨b, o, rfl, hb, hc⟩ := hx
     obtain ⟨v, h1, h2⟩ := loadVar_run (P := P) ht hc h
     exact ⟨v, by unfold Instr.loadAt; simp only [Sem.run_bind, Instr.sureAddr, Sem.run_pure, Result.andThen_ok, h1], h2⟩
   · simp at h
 · simp at h
theorem part_run {g : G} {t : TypeId} {s off : Nat} {ag : Bool} {xs : List AV} {us : List Value} {r : AV} (ht : tk P t = some (s, ag)) (hx : relL g xs us) (h : ofCells ag s (xs.drop off) = some r) :
   ∃ v, (part t us.toArray off).run P w = .ok v w ∧ rel g r v := by
 have drop : ∀ (n : Nat) (xs : List AV) (us : List Value), relL g xs us → relL g (xs.drop n) (us.drop n) := by
   intro n
   induction n with
   | zero => intro xs us h; simpa using h
   | succ n ih =>
     intro xs us h
     cases xs with
     | nil => simp only [relL] at h; subst h; simp [relL]
     | cons x xs => simp only [relL] at h; obtain ⟨v, vs, rfl, _, h⟩ := h; simpa using ih xs vs h
 have take : ∀ (n : Nat) (xs : List AV) (us : List Value), relL g xs us → relL g (xs.take n) (us.take n) := by
   intro n
   induction n with
   | zero => intro xs us h; simp [relL]
   | succ n ih =>
     intro xs us h
     cases xs with
     | nil => simp only [relL] at h; subst h; simp [relL]
     | cons x xs => simp only [relL] at h; obtain ⟨v, vs, rfl, hv, h⟩ := h; simp only [List.take_succ_cons, relL]; exact ⟨v, _, rfl, hv, ih xs vs h⟩
 unfold part
 simp only [Sem.run_bind, run_isAgg ht, Result.andThen_ok]
 unfold ofCells at h
 cases ag with
 | true =>
   simp only [if_true] at h ⊢
   split at h
   · simp only [Option.some.injEq] at h
     subst h
     refine ⟨.agg (us.toArray.extract off (off + s)), by simp only [Sem.run_bind, run_sizeOf ht, Result.andThen_ok, Sem.run_pure], ?_⟩
     simp only [rel]
     refine ⟨(us.drop off).take s, ?_, take s _ _ (drop off _ _ hx)⟩
     congr 1
     apply Array.ext'
     simp only [Array.toList_extract, List.extract_eq_take_drop]
     congr 2; omega
   · simp at h
 | false =>
   simp only [Bool.false_eq_true, if_false] at h ⊢
   simp only [List.getElem?_drop, Nat.add_zero] at h
   obtain ⟨v, h1, h2⟩ := relL_get hx _ h
   exact ⟨v, by simp only [List.getElem?_toArray, h1, Sem.run_pure], h2⟩
def afield (P : Program) (t : TypeId) (f : Nat) (x : AV) : Option AV :=
 match tkField P t f with
 | some (off, s, ag) => match x with
   | .agg xs => ofCells ag s (xs.drop off)
   | _ => none
 | none => none
theorem afield_ok {g : G} {t : TypeId} {f : Nat} {x r : AV} {u : Value} (h : afield P t f x = some r) (hx : rel g x u) : ∃ v, (Instr.field t u f).run P w = .ok v w ∧ rel g r v := by
 unfold afield at h
 split at h
 · rename_i off s ag hf
   unfold tkField at hf
   split at hf
   · rename_i fields hu
     split at hf
     · rename_i fd hfd
       split at hf
       · rename_i m ag' ht
         simp only [Option.some.injEq, Prod.mk.injEq] at hf
         obtain ⟨rfl, rfl, rfl⟩ := hf
         split at h
         · simp only [rel] at hx
           obtain ⟨us, rfl, hx⟩ := hx
           obtain ⟨v, h1, h2⟩ := part_run (w := w) ht hx h
           refine ⟨v, ?_, h2⟩
           unfold Instr.field
           simp only [Sem.run_bind, run_underlying hu, Result.andThen_ok, hfd, asAgg, Sem.run_pure, h1]
         · simp at h
       · simp at hf
     · simp at hf
   · simp at hf
 · simp at h
def aindex (P : Program) (t : TypeId) (x : AV) (i : Int) : Option AV :=
 match P.underlying t, x with
 | some (.array n e), .agg xs => match tk P e with
   | some (s, ag) => if 0 ≤ i ∧ i < n then ofCells ag s (xs.drop (i.toNat * s)) else none
   | none => none
 | some .string, .c (.string s) => if 0 ≤ i then (s.data[i.toNat]?).map (fun b => .c (.int .u8 b.toNat)) else none
 | _, _ => none
theorem aindex_ok {g : G} {t : TypeId} {x r : AV} {u : Value} {k : IntKind} {i : Int} (h : aindex P t x i = some r) (hx : rel g x u) : ∃ v, (Instr.index t u (.int k i)).run P w = .ok v w ∧ rel g r v := by
 unfold aindex at h
 split at h
 · rename_i n e xs hu
   split at h
   · rename_i s ag ht
     split at h
     · rename_i hi
       simp only [rel] at hx
       obtain ⟨us, rfl, hx⟩ := hx
       obtain ⟨v, h1, h2⟩ := part_run (w := w) ht hx h
       refine ⟨v, ?_, h2⟩
       unfold Instr.index
       simp only [asIntOf, Sem.run_bind, Sem.run_pure, Result.andThen_ok, run_underlying hu, Sem.run_ite, run_sizeOf ht, h1]
       rw [if_pos hi]
     · simp at h
   · simp at h
 · rename_i s hu
   split at h
   · rename_i hi
     simp only [rel] at hx
     subst hx
     cases hb : s.data[i.toNat]? with
     | none => simp [hb] at h
     | some b =>
       simp only [hb, Option.map_some, Option.some.injEq] at h
       subst h
       refine ⟨.int .u8 b.toNat, ?_, by simp only [rel]⟩
       have : s[i.toNat]? = some b := by
         have hlt : i.toNat < s.size := by
           rcases Nat.lt_or_ge i.toNat s.data.size with h | h
           · exact h
           · simp [Array.getElem?_eq_none h] at hb
         rw [ByteArray.getElem?_lt' s _ hlt]
         rw [Array.getElem?_eq_getElem hlt] at hb
         exact hb
       unfold Instr.index
       simp only [asIntOf, Sem.run_bind, Sem.run_pure, Result.andThen_ok, run_underlying hu, if_pos hi, this]
   · simp at h
 · simp at h
def anilCheck (x : AV) : Option AV :=
 match x with
 | .fp cells => some (.fp cells)
 | .c (.pointer (some a)) => some (.c (.pointer (some a)))
 | _ => none
def alen (P : Program) (t : TypeId) (x : AV) : Option AV :=
 match P.underlying t, x with
 | some .string, .c (.string s) => some (.c (.int .i64 s.size))
 | some (.slice _), .sl _ rows => some (.c (.int .i64 rows.length))
 | some (.slice _), .c (.slice _ n _) => some (.c (.int .i64 n))
 | some (.slice _), .sl0 => some (.c (.int .i64 0))
 | some (.array n _), _ => some (.c (.int .i64 n))
 | _, _ => none
theorem alen_ok {g : G} {ats : Array TypeId} {ty t : TypeId} {x r : AV} {u : Value} (ha : ats[0]? = some t) (h : alen P t x = some r) (hx : rel g x u) : ∃ v, (Builtin.len_ ats ty #[u]).run P w = .ok v w ∧ rel g r v := by
 unfold alen at h
 unfold Builtin.len_
 split at h <;> (try (simp only [reduceCtorEq] at h)) <;> rename_i hu <;> simp only [Option.some.injEq] at h <;> subst h
 · rename_i z; simp only [rel] at hx; subst hx
   exact ⟨.int .i64 z.size, by simp [ha, run_underlying hu, goInt], by simp [rel]⟩
 · rename_i z; simp only [rel] at hx; obtain ⟨a, cap, rfl, _⟩ := hx
   exact ⟨.int .i64 z.length, by simp [ha, run_underlying hu, goInt], by simp [rel]⟩
 · rename_i z _; simp only [rel] at hx; subst hx
   exact ⟨.int .i64 z, by simp [ha, run_underlying hu, goInt], by simp [rel]⟩
 · simp only [rel] at hx; obtain ⟨a, rfl⟩ := hx
   exact ⟨.int .i64 0, by simp [ha, run_underlying hu, goInt], by simp [rel]⟩
 · rename_i z _; exact ⟨.int .i64 z, by cases u <;> simp [ha, run_underlying hu, goInt], by simp [rel]⟩
end
end
section
section
variable {P : Program} {w : World}
def optInt : Option AV → Option (Option Int)
 | none => some none
 | some (.c (.int _ n)) => some (some n)
 | _ => none
def cutOf (len cap : Nat) (lo hi mx : Option Int) : Option (Nat × Nat × Nat) :=
 let m := mx.getD cap
 let h := hi.getD len
 let l := lo.getD 0
 if 0 ≤ l ∧ l ≤ h ∧ h ≤ m ∧ m ≤ cap ∧ (mx.isSome = true → hi.isSome = true) then some (l.toNat, h.toNat, m.toNat) else none
def aslice (P : Program) (t : TypeId) (x : AV) (lo hi mx : Option Int) : Option AV :=
 match P.underlying t, x with
 | some .string, .c (.string s) => match mx, cutOf s.size s.size lo hi none with
   | none, some (l, h, _) => some (.c (.string (s.extract l h)))
   | _, _ => none
 | some (.slice e), .sl s rows => match tk P e, cutOf rows.length rows.length lo hi mx with
   | some (s', _), some (l, h, _) => if s' = s then some (.sl s ((rows.take h).drop l)) else none
   | _, _ => none
 | some (.slice e), .c (.slice a len cap) => match tk P e, cutOf len cap lo hi mx with
   | some (s, _), some (l, h, m) => some (.c (.slice (if m = l then a else a.map (·.add (l * s))) (h - l) (m - l)))
   | _, _ => none
 | some (.slice e), .sl0 => match tk P e, cutOf 0 0 lo hi mx with
   | some (s, _), some _ => some .sl0
   | _, _ => none
 | some (.array n e), .fp cells => match tk P e, cutOf n n lo hi mx with
   | some (1, false), some (l, h, _) => if n ≤ cells.length ∧ n ≤ 1099511627776 then some (.sl 1 ((((cells.take n).map fun x => [x]).take h).drop l)) else none
   | _, _ => none
 | _, _ => none
def intOp (v : Option Value) (n : Option Int) : Prop := match v, n with
 | none, none => True
 | some (.int _ m), some n => m = n
 | _, _ => False
theorem sliceBounds_run {sl : Bool} {len cap : Nat} {lo hi mx : Option Value} {l' h' m' : Option Int} {l h m : Nat} (h1 : intOp lo l') (h2 : intOp hi h') (h3 : intOp mx m')
   (hc : cutOf len cap l' h' m' = some (l, h, m)) : (Instr.sliceBounds sl len cap lo hi mx).run P w = .ok (l, h, m) w ∧ l ≤ h ∧ h ≤ m ∧ m ≤ cap ∧ (h'.isNone = true → h = len) := by
 unfold cutOf at hc
 simp only at hc
 split at hc
 · rename_i hb
   simp only [Option.some.injEq, Prod.mk.injEq] at hc
   obtain ⟨rfl, rfl, rfl⟩ := hc
   have bound : ∀ (v : Value) (n : Int) (y : Nat) (c : BoundsCode), intOp (some v) (some n) → 0 ≤ n → n ≤ y → (Instr.sliceBound v y c).run P w = .ok n.toNat w := by
     intro v n y c hv h0 hy
     cases v <;> simp only [intOp] at hv
     subst hv
     unfold Instr.sliceBound
     simp only [asIntOf, Sem.run_bind, Sem.run_pure, Result.andThen_ok]
     rw [if_pos ⟨h0, hy⟩]; rfl
   obtain ⟨b1, b2, b3, b4, b5⟩ := hb
   refine ⟨?_, by omega, by omega, by omega, fun hn => by cases h' with | none => simp | some _ => simp at hn⟩
   · unfold Instr.sliceBounds
     cases mx with
     | some vm =>
       cases m' with
       | none => cases vm <;> simp [intOp] at h3
       | some m' =>
         cases hi with
         | none =>
           cases h' with
           | none => simp at b5
           | some h' => simp [intOp] at h2
         | some vh =>
           cases h' with
           | none => cases vh <;> simp [intOp] at h2
           | some h' =>
             simp only [Option.getD_some] at b1 b2 b3 b4
             simp only [Sem.run_bind, bound vm m' cap _ h3 (by omega) (by omega), Result.andThen_ok, bound vh h' m'.toNat _ h2 (by omega) (by omega), Option.getD_some]
             cases lo with
             | none =>
               cases l' with
               | none => simp
               | some l' => simp [intOp] at h1
             | some vl =>
               cases l' with
               | none => cases vl <;> simp [intOp] at h1
               | some l' =>
                 simp only [Option.getD_some] at b1 b2
                 simp only [Sem.run_bind, bound vl l' h'.toNat _ h1 (by omega) (by omega), Result.andThen_ok, Sem.run_pure, Option.getD_some]
     | none =>
       cases m' with
       | some m' => simp [intOp] at h3
       | none =>
         simp only [Option.getD_none] at b3 b4
         cases hi with
         | none =>
           cases h' with
           | some h' => simp [intOp] at h2
           | none =>
             simp only [Option.getD_none] at b2
             simp only [Sem.run_bind, Sem.run_pure, Result.andThen_ok, Option.getD_none]
             cases lo with
             | none =>
               cases l' with
               | none => simp
               | some l' => simp [intOp] at h1
             | some vl =>
               cases l' with
               | none => cases vl <;> simp [intOp] at h1
               | some l' =>
                 simp only [Option.getD_some] at b1 b2
                 simp [bound vl l' len _ h1 (by omega) (by omega)]
         | some vh =>
           cases h' with
           | none => cases vh <;> simp [intOp] at h2
           | some h' =>
             simp only [Option.getD_some] at b2 b3
             simp only [Sem.run_bind, Sem.run_pure, Result.andThen_ok, Option.getD_none, bound vh h' cap _ h2 (by omega) (by omega), Option.getD_some]
             cases lo with
             | none =>
               cases l' with
               | none => simp
               | some l' => simp [intOp] at h1
             | some vl =>
               cases l' with
               | none => cases vl <;> simp [intOp] at h1
               | some l' =>
                 simp only [Option.getD_some] at b1 b2
                 simp [bound vl l' h'.toNat _ h1 (by omega) (by omega)]
 · simp at hc
theorem relR_single {g : G} {b : Nat} : ∀ {xs : List AV} {o : Nat}, relC g b o xs → relR g 1 b o (xs.map fun x => [x])
 | [], o, h => by simp [relR]
 | x :: xs, o, h => by
   simp only [relC] at h
   simp only [List.map_cons, relR, relC, and_true, List.length_singleton, true_and]
   exact ⟨h.1, relR_single h.2⟩
theorem aslice_ok {g : G} {t : TypeId} {x r : AV} {u : Value} {lo hi mx : Option Value} {l' h' m' : Option Int} (h1 : intOp lo l') (h2 : intOp hi h') (h3 : intOp mx m') (h : aslice P t x l' h' m' = some r) (hx : rel g x u) :
   ∃ v, (Instr.sliceAt t u lo hi mx).run P w = .ok v w ∧ rel g r v := by
 have noarr : ∀ {d}, P.underlying t = some d → (∀ n e, d ≠ .array n e) → (Instr.sliceAt t u lo hi mx).run P w = (Instr.slice t u lo hi mx).run P w := by
   intro d hd hne
   unfold Instr.sliceAt
   simp only [Sem.run_bind, run_underlying hd, Result.andThen_ok]
   try (cases d <;> first | rfl | exact absurd rfl (hne _ _))
 unfold aslice at h
 split at h
 · rename_i s hu
   split at h
   · rename_i l hh m hm hc
     simp only [Option.some.injEq] at h
     subst h
     simp only [rel] at hx
     subst hx
     have hmx : mx = none := by cases mx with
       | none => rfl
       | some v => cases v <;> simp [intOp] at h3
     subst hmx
     obtain ⟨hr, _⟩ := sliceBounds_run (P := P) (w := w) (sl := false) h1 h2 (mx := none) (m' := none) trivial hc
     refine ⟨.string (s.extract hh m), ?_, by simp only [rel]⟩
     rw [noarr hu (by intros; simp)]
     unfold Instr.slice
     simp only [Sem.run_bind, run_underlying hu, Result.andThen_ok]
     simp [hr]
   · simp at h
 · rename_i e s rows hu
   split at h
   · rename_i s' ag l hh m ht hc
     split at h
     · rename_i hs; subst hs
       simp only [Option.some.injEq] at h
       subst h
       simp only [rel] at hx
       obtain ⟨a, cap, rfl, ⟨hcap, hmax⟩, hor⟩ := hx
       have hc' : ∃ m2, cutOf rows.length cap l' h' m' = some (l, hh, m2) ∧ (m2 = l → hh = l) := by
         unfold cutOf at hc ⊢
         simp only at hc ⊢
         split at hc
         · rename_i hb
           simp only [Option.some.injEq, Prod.mk.injEq] at hc
           obtain ⟨rfl, rfl, rfl⟩ := hc
           obtain ⟨b1, b2, b3, b4, b5⟩ := hb
           cases m' with
           | none =>
             simp only [Option.getD_none] at b3 b4 ⊢
             refine ⟨cap, ?_, fun e => by omega⟩
             rw [if_pos ⟨b1, b2, by omega, by omega, b5⟩]; simp
           | some m' =>
             simp only [Option.getD_some] at b3 b4 ⊢
             refine ⟨m'.toNat, ?_, fun e => by omega⟩
             rw [if_pos ⟨b1, b2, b3, by omega, b5⟩]
         · simp at hc
       obtain ⟨m2, hc2, hml⟩ := hc'
       obtain ⟨hr, k1, k2, k3, k4⟩ := sliceBounds_run (P := P) (w := w) (sl := true) h1 h2 h3 hc2
       have hhl : hh ≤ rows.length := by
         unfold cutOf at hc
         simp only at hc
         split at hc
         · rename_i hb; simp only [Option.some.injEq, Prod.mk.injEq] at hc; omega
         · simp at hc
       refine ⟨.slice (if m2 = l then a else a.map (·.add (l * s'))) (hh - l) (m2 - l), ?_, ?_⟩
       · rw [noarr hu (by intros; simp)]
         unfold Instr.slice
         simp only [Sem.run_bind, run_underlying hu, Result.andThen_ok, hr, run_sizeOf ht, Sem.run_pure]
       · simp only [rel]
         have hlen : ((rows.take hh).drop l).length = hh - l := by simp; omega
         refine ⟨_, _, by rw [hlen], ⟨by rw [hlen]; omega, by rw [hlen]; omega⟩, ?_⟩
         rcases hor with rfl | ⟨b, o, rfl, hb, hrel⟩
         · exact .inl (by simp)
         · by_cases hz : m2 = l
           · exact .inl (by apply List.eq_nil_of_length_eq_zero; rw [hlen]; have := hml hz; omega)
           · refine .inr ⟨b, o + l * s', by simp [hz, addr_add], hb, ?_⟩
             exact relR_drop (relR_take hrel hh) l
     · simp at h
   · simp at h
 · rename_i e a len cap hu
   split at h
   · rename_i s ag l hh m ht hc
     simp only [Option.some.injEq] at h
     subst h
     simp only [rel] at hx
     subst hx
     obtain ⟨hr, k1, k2, k3, k4⟩ := sliceBounds_run (P := P) (w := w) (sl := true) h1 h2 h3 hc
     refine ⟨.slice (if m = l then a else a.map (·.add (l * s))) (hh - l) (m - l), ?_, by simp only [rel]⟩
     rw [noarr hu (by intros; simp)]
     unfold Instr.slice
     simp only [Sem.run_bind, run_underlying hu, Result.andThen_ok, hr, run_sizeOf ht, Sem.run_pure]
   · simp at h
 · rename_i e hu
   split at h
   · rename_i s ag q ht hc
     simp only [Option.some.injEq] at h
     subst h
     simp only [rel] at hx
     obtain ⟨a, rfl⟩ := hx
     obtain ⟨l, hh, m⟩ := q
     obtain ⟨hr, k1, k2, k3, k4⟩ := sliceBounds_run (P := P) (w := w) (sl := true) h1 h2 h3 hc
     have e1 : m = 0 := by omega
     have e2 : l = 0 := by omega
     have e3 : hh = 0 := by omega
     subst e1 e2 e3
     refine ⟨.slice a 0 0, ?_, by simp only [rel]; exact ⟨a, rfl⟩⟩
     rw [noarr hu (by intros; simp)]
     unfold Instr.slice
     simp only [Sem.run_bind, run_underlying hu, Result.andThen_ok, hr, run_sizeOf ht, Sem.run_pure]
     simp
   · simp at h
 · rename_i n e cells hu
   split at h
   · rename_i l hh m ht hc
     split at h
     · rename_i hn0
       obtain ⟨hn, hmax⟩ := hn0
       simp only [Option.some.injEq] at h
       subst h
       simp only [rel] at hx
       obtain ⟨b, o, rfl, hb, hrel⟩ := hx
       obtain ⟨hr, k1, k2, k3, k4⟩ := sliceBounds_run (P := P) (w := w) (sl := false) h1 h2 h3 hc
       refine ⟨.slice (some (if m = l then ⟨b, o, none⟩ else (⟨b, o, none⟩ : Addr).add (l * 1))) (hh - l) (m - l), ?_, ?_⟩
       · unfold Instr.sliceAt
         simp only [Sem.run_bind, run_underlying hu, Result.andThen_ok, Instr.sureAddr, Sem.run_pure, hr, run_sizeOf ht]
       · simp only [rel]
         have hlen : ((((cells.take n).map fun x => [x]).take hh).drop l).length = hh - l := by simp; omega
         refine ⟨_, _, by rw [hlen], ⟨by rw [hlen]; omega, by rw [hlen]; unfold maxRows; omega⟩, ?_⟩
         by_cases hz : m = l
         · exact .inl (by apply List.eq_nil_of_length_eq_zero; rw [hlen]; omega)
         · refine .inr ⟨b, o + l, by simp [hz, addr_add], hb, ?_⟩
           have := relR_drop (relR_take (relR_single (relC_take hrel n)) hh) l
           simpa using this
     · simp at h
   · simp at h
 · simp at h
end
end
section
section
variable {P : Program} {w : World}
def bytesRows : List UInt8 → List (List AV)
 | [] => []
 | b :: bs => [.c (.int .u8 b.toNat)] :: bytesRows bs
def AV.bs (l : List UInt8) : AV := .sl 1 (bytesRows l)
def mkStr (l : List UInt8) : ByteArray := ⟨l.toArray⟩
def AV.str (l : List UInt8) : AV := .c (.string (mkStr l))
def rowsBytes : List (List AV) → Option (List UInt8)
 | [] => some []
 | [.c (.int .u8 n)] :: rows => (rowsBytes rows).map (UInt8.ofNat n.toNat :: ·)
 | _ => none
theorem rowsBytes_bytesRows : ∀ l : List UInt8, rowsBytes (bytesRows l) = some l
 | [] => rfl
 | b :: bs => by simp [bytesRows, rowsBytes, rowsBytes_bytesRows bs]
theorem bytesRows_length : ∀ l : List UInt8, (bytesRows l).length = l.length
 | [] => rfl
 | b :: bs => by simp [bytesRows, bytesRows_length bs]
def aconv (P : Program) (src dst : TypeId) (x : AV) : Option AV :=
 match P.underlying src, P.underlying dst, x with
 | some _, some (.int k), .c (.int _ n) => some (.c (.int k (k.wrap n)))
 | some _, some .string, .c (.int _ n) => some (.c (.string (Utf8.encode n)))
 | some _, some .string, .c (.string s) => some (.c (.string s))
 | some (.slice e), some .string, .sl s rows => match P.underlying e with
   | some (.int .u8) => if s = 1 then (rowsBytes rows).map (fun l => .c (.string (mkStr l))) else none
   | _ => none
 | some (.slice e), some .string, .sl0 => match P.underlying e with
   | some (.int .u8) => some (.c (.string (mkStr [])))
   | _ => none
 | some (.slice e), some .string, .c (.slice none _ _) => match P.underlying e with
   | some (.int .u8) => some (.c (.string (mkStr [])))
   | _ => none
 | _, _, _ => none
theorem relC_append {g : G} {b : Nat} : ∀ {xs ys : List AV} {o : Nat}, relC g b o xs → relC g b (o + xs.length) ys → relC g b o (xs ++ ys)
 | [], ys, o, _, h => by simpa using h
 | x :: xs, ys, o, h, h2 => by
   simp only [relC, List.cons_append] at h ⊢
   exact ⟨h.1, relC_append h.2 (by rw [List.length_cons] at h2; rwa [show o + 1 + xs.length = o + (xs.length + 1) from by omega])⟩
theorem relR_flat {g : G} {s b : Nat} : ∀ {rows : List (List AV)} {o : Nat}, relR g s b o rows → relC g b o rows.flatten ∧ rows.flatten.length = rows.length * s
 | [], o, _ => by simp [relC]
 | r :: rows, o, h => by
   simp only [relR] at h
   obtain ⟨h0, h1, h2⟩ := h
   obtain ⟨k1, k2⟩ := relR_flat h2
   simp only [List.flatten_cons]
   exact ⟨relC_append h1 (by rw [h0]; exact k1), by rw [List.length_append, h0, k2, List.length_cons, Nat.add_mul]; omega⟩
theorem rowsBytes_cells : ∀ {rows : List (List AV)} {l : List UInt8}, rowsBytes rows = some l → ∃ ns : List Int, rows.flatten = ns.map (fun n => .c (.int .u8 n)) ∧ l = ns.map (fun n => UInt8.ofNat n.toNat)
 | [], l, h => by simp only [rowsBytes, Option.some.injEq] at h; subst h; exact ⟨[], rfl, rfl⟩
 | r :: rows, l, h => by
   unfold rowsBytes at h
   split at h
   · simp_all
   · rename_i n rows' heq
     obtain ⟨rfl, e2⟩ := List.cons.inj heq
     rw [← e2] at h
     cases hr : rowsBytes rows with
     | none => simp [hr] at h
     | some l' =>
       simp only [hr, Option.map_some, Option.some.injEq] at h
       subst h
       obtain ⟨ns, h1, h2⟩ := rowsBytes_cells hr
       exact ⟨n :: ns, by simp [h1], by simp [h2]⟩
   · simp at h
theorem relL_ints {g : G} : ∀ {ns : List Int} {us : List Value}, relL g (ns.map fun n => .c (.int .u8 n)) us → us = ns.map (Value.int .u8)
 | [], us, h => by simpa [relL] using h
 | n :: ns, us, h => by
   simp only [List.map_cons, relL] at h
   obtain ⟨v, vs, rfl, h1, h2⟩ := h
   simp only [rel] at h1
   subst h1
   simp [relL_ints h2]
theorem foldl_push : ∀ (ns : List Int) (s : ByteArray), ns.foldl (fun r n => r.push (UInt8.ofNat n.toNat)) s = ⟨s.data ++ (ns.map (fun n => UInt8.ofNat n.toNat)).toArray⟩
 | [], s => by simp
 | n :: ns, s => by
   rw [List.foldl_cons, foldl_push ns]
   simp [ByteArray.push]
theorem aconv_ok {g : G} {src dst : TypeId} {x r : AV} {u : Value} (h : aconv P src dst x = some r) (hx : rel g x u) : ∃ v, (convert src dst u).run P g.w = .ok v g.w ∧ rel g r v := by
 unfold aconv at h
 split at h
 · rename_i d k k' n h1 h2
   simp only [Option.some.injEq] at h; subst h
   simp only [rel] at hx; subst hx
   refine ⟨.int k (k.wrap n), ?_, by simp only [rel]⟩
   unfold convert
   simp only [Sem.run_bind, run_underlying h1, run_underlying h2, Result.andThen_ok, Conv.intToInt, Sem.run_pure]
 · rename_i d k' n h1 h2
   simp only [Option.some.injEq] at h; subst h
   simp only [rel] at hx; subst hx
   refine ⟨.string (Utf8.encode n), ?_, by simp only [rel]⟩
   unfold convert
   simp only [Sem.run_bind, run_underlying h1, run_underlying h2, Result.andThen_ok, Conv.intToString, Sem.run_pure]
 · rename_i d s h1 h2
   simp only [Option.some.injEq] at h; subst h
   simp only [rel] at hx; subst hx
   refine ⟨.string s, ?_, by simp only [rel]⟩
   unfold convert
   simp only [Sem.run_bind, run_underlying h1, run_underlying h2, Result.andThen_ok, Sem.run_pure]
 · rename_i e s rows h1 h2
   split at h
   · rename_i he
     split at h
     · rename_i hs; subst hs
       cases hr : rowsBytes rows with
       | none => simp [hr] at h
       | some l =>
         simp only [hr, Option.map_some, Option.some.injEq] at h; subst h
         obtain ⟨ns, hn, hl⟩ := rowsBytes_cells hr
         simp only [rel] at hx
         obtain ⟨a, cap, rfl, hcap, hor⟩ := hx
         rcases hor with rfl | ⟨b, o, rfl, hb, hrel⟩
         · simp only [List.flatten_nil] at hn
           have : ns = [] := by cases ns <;> simp_all
           subst this
           simp only [List.map_nil] at hl
           subst hl
           refine ⟨.string (mkStr []), ?_, by simp only [rel]⟩
           rw [run_convert_bytes_string g.w src dst e _ _ _ h1 he h2]
           cases a with
           | none => rfl
           | some a => rw [run_bytesToString g.w a _ _ [] (by simp [loadCells, loadCellsFrom])]; rfl
         · obtain ⟨k1, k2⟩ := relR_flat hrel
           obtain ⟨us, hu1, hu2⟩ := loadCells_run (P := P) k1 (Nat.le_of_eq rfl)
           rw [List.take_length, hn] at hu1
           have hus := relL_ints hu1
           subst hus
           refine ⟨.string (mkStr l), ?_, by simp only [rel]⟩
           rw [run_convert_bytes_string g.w src dst e _ _ _ h1 he h2]
           rw [k2, Nat.mul_one] at hu2
           rw [run_bytesToString g.w _ _ _ ns hu2, foldl_push, hl]
           have : (ByteArray.empty.data : Array UInt8) = #[] := rfl
           rw [this, Array.empty_append]; rfl
     · simp at h
   · simp at h
 · rename_i e h1 h2
   split at h
   · rename_i he
     simp only [Option.some.injEq] at h; subst h
     simp only [rel] at hx
     obtain ⟨a, rfl⟩ := hx
     refine ⟨.string (mkStr []), ?_, by simp only [rel]⟩
     rw [run_convert_bytes_string g.w src dst e _ _ _ h1 he h2]
     cases a with
     | none => rfl
     | some a => rw [run_bytesToString g.w a 0 _ [] (by simp [loadCells, loadCellsFrom])]; rfl
   · simp at h
 · rename_i e n c h1 h2
   split at h
   · rename_i he
     simp only [Option.some.injEq] at h; subst h
     simp only [rel] at hx; subst hx
     refine ⟨.string (mkStr []), ?_, by simp only [rel]⟩
     rw [run_convert_bytes_string g.w src dst e _ _ _ h1 he h2]
     rfl
   · simp at h
 · simp at h
def amkIface (P : Program) (t : TypeId) (x : AV) : Option AV :=
 match P.underlying t with
 | some (.interface _) => none
 | some _ => some (.ifc t x)
 | none => none
theorem amkIface_ok {g : G} {t : TypeId} {x r : AV} {u : Value} (h : amkIface P t x = some r) (hx : rel g x u) : ∃ v, (Instr.makeInterface t u).run P w = .ok v w ∧ rel g r v := by
 unfold amkIface at h
 split at h
 · simp at h
 · rename_i d hne hu
   simp only [Option.some.injEq] at h; subst h
   refine ⟨.iface t u, ?_, by simp only [rel]; exact ⟨u, rfl, hx⟩⟩
   unfold Instr.makeInterface
   simp only [Sem.run_bind, run_underlying hu, Result.andThen_ok]
   rfl
 · simp at h
def aextract (x : AV) (i : Nat) : Option AV :=
 match x with
 | .tup xs => xs[i]?
 | _ => none
theorem aextract_ok {g : G} {x r : AV} {i : Nat} {u : Value} (h : aextract x i = some r) (hx : rel g x u) : ∃ v, (Instr.extract u i).run P w = .ok v w ∧ rel g r v := by
 unfold aextract at h
 split at h
 · simp only [rel] at hx
   obtain ⟨us, rfl, hx⟩ := hx
   obtain ⟨v, h1, h2⟩ := relL_get hx _ h
   refine ⟨v, ?_, h2⟩
   unfold Instr.extract
   simp [h1]
 · simp at h
def aunary (op : UnOp) (x : AV) : Option AV :=
 match op, x with
 | .neg, .c (.int k n) => some (.c (.int k (k.wrap (0 - n))))
 | .xor, .c (.int k n) => aint .xor k (if k.signed then -1 else k.max) n
 | .not, .c (.bool b) => some (.c (.bool !b))
 | _, _ => none
theorem aunary_ok {g : G} {op : UnOp} {x r : AV} {u : Value} (h : aunary op x = some r) (hx : rel g x u) : ∃ v, (Op.unary op u).run P w = .ok v w ∧ rel g r v := by
 unfold aunary at h
 split at h
 · simp only [Option.some.injEq] at h; subst h
   simp only [rel] at hx; subst hx
   exact ⟨_, rfl, by simp only [rel]⟩
 · simp only [aint, Option.some.injEq] at h; subst h
   simp only [rel] at hx; subst hx
   exact ⟨_, rfl, by simp only [rel]⟩
 · simp only [Option.some.injEq] at h; subst h
   simp only [rel] at hx; subst hx
   exact ⟨_, rfl, by simp only [rel]⟩
 · simp at h
def aassert (P : Program) (x : AV) (t : TypeId) (ok : Bool) : Option AV :=
 match P.underlying t with
 | some (.interface _) => none
 | some _ => match x with
   | .ifc t' y => if t' = t then some (if ok then .tup [y, .c (.bool true)] else y) else none
   | _ => none
 | none => none
theorem aassert_ok {g : G} {x r : AV} {t xt : TypeId} {ok : Bool} {u : Value} (h : aassert P x t ok = some r) (hx : rel g x u) : ∃ v, (Instr.typeAssert u xt t ok).run P w = .ok v w ∧ rel g r v := by
 unfold aassert at h
 split at h
 · simp at h
 · rename_i d hne hu
   split at h
   · rename_i t' y
     split at h
     · rename_i ht; subst ht
       simp only [Option.some.injEq] at h; subst h
       simp only [rel] at hx
       obtain ⟨v, rfl, hy⟩ := hx
       refine ⟨if ok then .tuple #[v, .bool true] else v, ?_, ?_⟩
       · unfold Instr.typeAssert
         simp only [Sem.run_bind, run_underlying hu, Result.andThen_ok]
         cases d <;> first | (exact absurd rfl (hne _)) | simp
       · cases ok
         · simpa using hy
         · simp only [if_true, rel, relL]
           exact ⟨[v, .bool true], rfl, v, [.bool true], rfl, hy, .bool true, [], rfl, rfl, rfl⟩
     · simp at h
   · simp at h
 · simp at h
end
end
section
section
variable {P : Program}
def afill (place : Nat → Option (Nat × Nat)) (cells : List AV) : List (Nat × AV) → Option (List AV)
 | [] => some cells
 | (i, x) :: rest =>
   match place i with
   | none => none
   | some (off, size) =>
     if (cellsOf x).length = size ∧ off + size ≤ cells.length then afill place (cells.take off ++ cellsOf x ++ cells.drop (off + size)) rest else none
theorem relL_append {g : G} : ∀ {xs ys : List AV} {us vs : List Value}, relL g xs us → relL g ys vs → relL g (xs ++ ys) (us ++ vs)
 | [], ys, us, vs, h, h2 => by simp only [relL] at h; subst h; simpa using h2
 | x :: xs, ys, us, vs, h, h2 => by
   simp only [relL] at h
   obtain ⟨v, us', rfl, h0, h1⟩ := h
   simp only [List.cons_append, relL]
   exact ⟨v, _, rfl, h0, relL_append h1 h2⟩
theorem relL_drop {g : G} : ∀ (n : Nat) {xs : List AV} {us : List Value}, relL g xs us → relL g (xs.drop n) (us.drop n)
 | 0, xs, us, h => by simpa using h
 | n + 1, [], us, h => by simp only [relL] at h; subst h; simp [relL]
 | n + 1, x :: xs, us, h => by simp only [relL] at h; obtain ⟨v, vs, rfl, _, h⟩ := h; simpa using relL_drop n h
theorem relL_take {g : G} : ∀ (n : Nat) {xs : List AV} {us : List Value}, relL g xs us → relL g (xs.take n) (us.take n)
 | 0, xs, us, h => by simp [relL]
 | n + 1, [], us, h => by simp only [relL] at h; subst h; simp [relL]
 | n + 1, x :: xs, us, h => by simp only [relL] at h; obtain ⟨v, vs, rfl, h0, h⟩ := h; simp only [List.take_succ_cons, relL]; exact ⟨v, _, rfl, h0, relL_take n h⟩
theorem set_cells : ∀ (vs : List Value) (us : List Value) (off k : Nat), off + k + vs.length ≤ us.length →
   (vs.zipIdx k).foldl (fun (cs : Array Value) (p : Value × Nat) => cs.setIfInBounds (off + p.2) p.1) us.toArray = (us.take (off + k) ++ vs ++ us.drop (off + k + vs.length)).toArray
 | [], us, off, k, h => by simp
 | v :: vs, us, off, k, h => by
   simp only [List.zipIdx_cons, List.foldl_cons, List.setIfInBounds_toArray]
   simp only [List.length_cons] at h
   rw [set_cells vs (us.set (off + k) v) off (k + 1) (by simp; omega)]
   congr 1
   rw [List.take_set, List.drop_set]
   simp only [List.length_cons]
   rw [if_pos (by omega)]
   have e1 : (us.take (off + (k + 1))).set (off + k) v = us.take (off + k) ++ [v] := by
     rw [show off + (k + 1) = off + k + 1 from by omega, List.take_add_one]
     rw [List.getElem?_eq_getElem (by omega)]
     simp only [Option.toList_some]
     rw [List.set_append_right _ _ (by simp; omega)]
     simp [List.length_take, Nat.min_eq_left (by omega : off + k ≤ us.length)]
   rw [e1]
   simp only [List.append_assoc, List.cons_append, List.nil_append]
   congr 3
   congr 1; omega
theorem fill_run {g : G} {place : Nat → Option (Nat × Nat)} : ∀ {parts : List (Nat × AV)} {ps : List (Nat × Value)} {cells xs : List AV} {us : List Value},
   parts.length = ps.length → (∀ (j i : Nat) (x : AV), parts[j]? = some (i, x) → ∃ v, ps[j]? = some (i, v) ∧ rel g x v) → relL g cells us → afill place cells parts = some xs →
   ∃ vs : List Value, Instr.fill place us.toArray ps = some vs.toArray ∧ relL g xs vs
 | [], ps, cells, xs, us, hl, hp, hc, h => by
   simp only [afill, Option.some.injEq] at h; subst h
   cases ps with
   | nil => exact ⟨us, rfl, hc⟩
   | cons _ _ => simp at hl
 | (i, x) :: parts, ps, cells, xs, us, hl, hp, hc, h => by
   cases ps with
   | nil => simp at hl
   | cons p ps =>
     obtain ⟨v, hv, hx⟩ := hp 0 i x (by simp)
     simp only [List.getElem?_cons_zero, Option.some.injEq] at hv
     subst hv
     simp only [afill] at h
     cases hpl : place i with
     | none => simp [hpl] at h
     | some q =>
       obtain ⟨off, size⟩ := q
       simp only [hpl] at h
       split at h
       · rename_i hb
         obtain ⟨cs, hcs, hrel⟩ := cellsOf_rel hx
         have hlen := relL_length hrel
         have hul := relL_length hc
         have hc2 : relL g (cells.take off ++ cellsOf x ++ cells.drop (off + size)) (us.take off ++ cs ++ us.drop (off + size)) :=
           relL_append (relL_append (relL_take _ hc) hrel) (relL_drop _ hc)
         obtain ⟨vs, h1, h2⟩ := fill_run (parts := parts) (ps := ps) (by simpa using hl) (fun j i x hj => by
           have := hp (j + 1) i x (by simpa using hj); simpa using this) hc2 h
         refine ⟨vs, ?_, h2⟩
         unfold Instr.fill
         simp only [hpl, hcs]
         rw [if_neg (by simp; omega)]
         have := set_cells cs us off 0 (by omega)
         simp only [Nat.add_zero] at this
         have hz : (cs.toArray.zipIdx.foldl (fun (cs : Array Value) (p : Value × Nat) => cs.setIfInBounds (off + p.2) p.1) us.toArray) = (us.take off ++ cs ++ us.drop (off + cs.length)).toArray := by
           rw [← this, ← Array.foldl_toList]
           simp
         rw [show cs.length = size from by omega] at hz
         exact (congrArg (fun z => Instr.fill place z ps) hz).trans h1
       · simp at h
def tkZero (P : Program) (t : TypeId) : Option (List Value) :=
 match P.info? t with
 | some i => match i.zero with
   | some v => some v.cells.toList
   | none => none
 | none => none
theorem run_zero {w : World} {t : TypeId} {zs : List Value} (h : tkZero P t = some zs) : ∃ v, (zeroValue t).run P w = .ok v w ∧ v.cells = zs.toArray := by
 unfold tkZero at h
 cases hi : P.info? t with
 | none => simp [hi] at h
 | some i =>
   simp only [hi] at h
   cases hz : i.zero with
   | none => simp [hz] at h
   | some v =>
     simp only [hz, Option.some.injEq] at h
     subst h
     refine ⟨v, ?_, by simp⟩
     unfold zeroValue typeInfo
     simp only [Sem.run_bind, run_program, Result.andThen_ok, hi, Sem.run_pure, hz]
def tkPlaces (P : Program) (t : TypeId) : Option (List (Nat × Nat)) :=
 match P.underlying t with
 | some (.struct fields) => fields.toList.mapM fun f => (tk P f.type).map fun q => (f.offset, q.1)
 | _ => none
theorem places_run {w : World} : ∀ {fs : List Field} {ps : List (Nat × Nat)}, fs.mapM (fun f => (tk P f.type).map fun q => (f.offset, q.1)) = some ps →
   (fs.mapM (m := Sem) fun f => do pure (f.offset, ← sizeOf f.type)).run P w = .ok ps w
 | [], ps, h => by simp at h; subst h; simp
 | f :: fs, ps, h => by
   simp only [List.mapM_cons, Option.bind_eq_bind] at h
   cases ht : tk P f.type with
   | none => simp [ht] at h
   | some q =>
     obtain ⟨s, ag⟩ := q
     simp only [ht, Option.map_some, Option.bind_some] at h
     cases hr : fs.mapM (fun f => (tk P f.type).map fun q => (f.offset, q.1)) with
     | none => simp [hr] at h
     | some qs =>
       simp only [hr, Option.bind_some, Option.pure_def, Option.some.injEq] at h
       subst h
       simp only [List.mapM_cons, Sem.run_bind, run_sizeOf ht, Result.andThen_ok, Sem.run_pure, places_run hr]
def abuild (P : Program) (t : TypeId) (parts : List (Nat × AV)) : Option AV :=
 match tkZero P t with
 | some zs => match tkPlaces P t with
   | some ps => (afill (fun i => ps[i]?) (zs.map .c) parts).map .agg
   | none => match tkArr P t, tkElem P t with
     | some _, some (s, _) => (afill (fun i => some (i * s, s)) (zs.map .c) parts).map .agg
     | _, _ => none
 | none => none
theorem abuild_ok {g : G} {t : TypeId} {parts : List (Nat × AV)} {ps : List (Nat × Value)} {r : AV} (hl : parts.length = ps.length) (hp : ∀ (j i : Nat) (x : AV), parts[j]? = some (i, x) → ∃ v, ps[j]? = some (i, v) ∧ rel g x v)
   (h : abuild P t parts = some r) : ∃ v, (Instr.build t ps.toArray).run P g.w = .ok v g.w ∧ rel g r v := by
 unfold abuild at h
 split at h
 · rename_i zs hz
   obtain ⟨z, hz1, hz2⟩ := run_zero (P := P) (w := g.w) hz
   split at h
   · rename_i qs hq
     unfold tkPlaces at hq
     split at hq
     · rename_i fields hu
       cases hf : afill (fun i => qs[i]?) (zs.map .c) parts with
       | none => simp [hf] at h
       | some xs =>
         simp only [hf, Option.map_some, Option.some.injEq] at h
         subst h
         obtain ⟨vs, h1, h2⟩ := fill_run hl hp (relL_consts (g := g) zs) hf
         refine ⟨.agg vs.toArray, ?_, by simp only [rel]; exact ⟨vs, rfl, h2⟩⟩
         unfold Instr.build
         simp only [Sem.run_bind, hz1, Result.andThen_ok, run_underlying hu, hz2]
         rw [Array.mapM_eq_mapM_toList, Sem.run_map, places_run hq]
         simp only [Result.andThen_ok]
         have e : (fun x : Nat => qs.toArray[x]?) = fun i : Nat => qs[i]? := by funext i; simp
         rw [e, h1]; rfl
     · simp at hq
   · split at h
     · rename_i n q s ag hn he
       unfold tkArr at hn
       split at hn
       · rename_i m e hu
         unfold tkElem at he
         rw [hu] at he
         simp only at he
         cases hf : afill (fun i => some (i * s, s)) (zs.map .c) parts with
         | none => simp [hf] at h
         | some xs =>
           simp only [hf, Option.map_some, Option.some.injEq] at h
           subst h
           obtain ⟨vs, h1, h2⟩ := fill_run hl hp (relL_consts (g := g) zs) hf
           refine ⟨.agg vs.toArray, ?_, by simp only [rel]; exact ⟨vs, rfl, h2⟩⟩
           unfold Instr.build
           simp only [Sem.run_bind, hz1, Result.andThen_ok, run_underlying hu, hz2, run_sizeOf he]
           rw [h1]; rfl
       · simp at hn
     · simp at h
 · simp at h
theorem relL_born {g : G} {B : Nat → Prop} {Δ : List HP} {o : Obj} (s : Sim g B Δ) {xs : List AV} {vs : List Value} (h : relL g xs vs) : relL (g.born o) xs vs :=
 relL_mono (s.le (born_ext (B := B) o)) xs vs h
def Bears (P : Program) (g : G) (B : Nat → Prop) (Δ : List HP) (m : Sem Value) (r : AV) : Prop :=
 ∃ g' v, m.run P g.w = .ok v g'.w ∧ Ext g B g' B ∧ Sim g' B Δ ∧ rel g' r v
theorem Bears.of_quiet {g : G} {B : Nat → Prop} {Δ : List HP} {m : Sem Value} {r : AV} (s : Sim g B Δ) (h : ∃ v, m.run P g.w = .ok v g.w ∧ rel g r v) : Bears P g B Δ m r :=
 let ⟨v, h1, h2⟩ := h; ⟨g, v, h1, .refl _ _, s, h2⟩
theorem born_cells {g : G} {B : Nat → Prop} {Δ : List HP} {t : TypeId} {cs : List Value} {xs : List AV} (s : Sim g B Δ) (h : relL g xs cs) : relC (g.born (.cells cs.toArray t)) g.w.heap.size 0 xs :=
 cells_relC (t := t) (fr := (0, 0)) push_new (relL_born s h)
def abox (x : AV) : AV := .fp (cellsOf x)
theorem abox_ok {g : G} {B : Nat → Prop} {Δ : List HP} {t : TypeId} {x : AV} {u : Value} (s : Sim g B Δ) (hx : rel g x u) : Bears P g B Δ (Instr.box t u) (abox x) := by
 obtain ⟨cs, h1, h2⟩ := cellsOf_rel hx
 refine ⟨g.born (.cells cs.toArray t), .pointer (some ⟨g.w.heap.size, 0, none⟩), ?_, born_ext _, born_sim _ s, ?_⟩
 · unfold Instr.box newVar newRow
   simp only [Sem.run_bind, run_newObj, Result.andThen_ok, Sem.run_pure, h1]
   rfl
 · simp only [abox, rel]
   exact ⟨_, 0, rfl, .inr rfl, born_cells s h2⟩
def aalloc (P : Program) (t : TypeId) : Option AV := (tkZero P t).map fun zs => .fp (zs.map .c)
theorem aalloc_ok {g : G} {B : Nat → Prop} {Δ : List HP} {t : TypeId} {r : AV} (s : Sim g B Δ) (h : aalloc P t = some r) : Bears P g B Δ (Instr.alloc t true (.tuple #[])) r := by
 unfold aalloc at h
 cases hz : tkZero P t with
 | none => simp [hz] at h
 | some zs =>
   simp only [hz, Option.map_some, Option.some.injEq] at h
   subst h
   obtain ⟨z, hz1, hz2⟩ := run_zero (P := P) (w := g.w) hz
   refine ⟨g.born (.cells zs.toArray t), .pointer (some ⟨g.w.heap.size, 0, none⟩), ?_, born_ext _, born_sim _ s, ?_⟩
   · unfold Instr.alloc newVar newRow
     simp only [Sem.run_bind, hz1, run_newObj, Result.andThen_ok, Sem.run_pure, hz2]
     rfl
   · simp only [rel]
     exact ⟨_, 0, rfl, .inr rfl, born_cells s (relL_consts zs)⟩
def chunk (s : Nat) : Nat → List AV → List (List AV)
 | 0, _ => []
 | n + 1, xs => xs.take s :: chunk s n (xs.drop s)
theorem chunk_length (s : Nat) : ∀ (n : Nat) (xs : List AV), (chunk s n xs).length = n
 | 0, _ => rfl
 | n + 1, xs => by simp [chunk, chunk_length s n]
theorem chunk_relR {g : G} {s b : Nat} : ∀ (n : Nat) {xs : List AV} {o : Nat}, relC g b o xs → n * s ≤ xs.length → relR g s b o (chunk s n xs)
 | 0, xs, o, _, _ => by simp [chunk, relR]
 | n + 1, xs, o, h, hl => by
   rw [Nat.add_mul] at hl
   simp only [chunk, relR]
   exact ⟨by simp; omega, relC_take h s, chunk_relR n (relC_drop h s) (by simp; omega)⟩
def zeros (zs : List Value) : Nat → List AV
 | 0 => []
 | n + 1 => zs.map .c ++ zeros zs n
def abuildSlice (P : Program) (t : TypeId) (len : Nat) (parts : List (Nat × AV)) : Option AV :=
 match P.underlying t with
 | some (.slice e) => match tk P e with
   | some (s, _) => if len = 0 then (if parts = [] then some .sl0 else none) else
     if len * s ≤ 2 ^ 24 ∧ 0 < s then match tkZero P e with
       | some zs => if zs.length = s then (match afill (fun i => some (i * s, s)) (zeros zs len) parts with
           | some xs => if xs.length = len * s then some (.sl s (chunk s len xs)) else none
           | none => none) else none
       | none => none
     else none
   | none => none
 | _ => none
theorem range_map_zeros {zs : List Value} (h : 0 < zs.length) : ∀ n : Nat, ((Array.range (n * zs.length)).map fun i => zs.toArray[i % zs.toArray.size]!).toList.map AV.c = zeros zs n := by
 intro n
 have key : ∀ n : Nat, (List.range (n * zs.length)).map (fun i => AV.c (zs.toArray[i % zs.toArray.size]!)) = zeros zs n := by
   intro n
   induction n with
   | zero => simp [zeros]
   | succ n ih =>
     rw [Nat.add_mul, Nat.one_mul, Nat.add_comm, List.range_add, List.map_append, zeros]
     congr 1
     · apply List.ext_getElem
       · simp
       · intro i h1 h2
         simp only [List.length_map, List.length_range] at h1
         simp only [List.getElem_map, List.getElem_range, List.size_toArray, Nat.mod_eq_of_lt h1]
         rw [getElem!_pos _ _ (by simpa using h1)]
         simp
     · rw [← ih, List.map_map]
       apply List.map_congr_left
       intro i _
       simp
 rw [← key n]
 simp
theorem abuildSlice_ok {g : G} {B : Nat → Prop} {Δ : List HP} {t : TypeId} {len : Nat} {parts : List (Nat × AV)} {ps : List (Nat × Value)} {r : AV} (s : Sim g B Δ) (hl : parts.length = ps.length)
   (hp : ∀ (j i : Nat) (x : AV), parts[j]? = some (i, x) → ∃ v, ps[j]? = some (i, v) ∧ rel g x v) (h : abuildSlice P t len parts = some r) : Bears P g B Δ (Instr.buildSlice t len ps.toArray) r := by
 unfold abuildSlice at h
 split at h
 · rename_i e hu
   split at h
   · rename_i sz ag ht
     split at h
     · rename_i h0; subst h0
       split at h
       · rename_i hpn; subst hpn
         simp only [Option.some.injEq] at h; subst h
         have hps : ps = [] := by cases ps <;> simp_all
         subst hps
         refine ⟨g.born (.cells #[] e), .slice (some ⟨g.w.heap.size, 0, none⟩) 0 0, ?_, born_ext _, born_sim _ s, by simp only [rel]; exact ⟨_, rfl⟩⟩
         unfold Instr.buildSlice newRow
         simp only [Sem.run_bind, run_underlying hu, Result.andThen_ok, run_sizeOf ht, Nat.zero_mul, if_true, Sem.run_pure]
         have hr0 : (Array.range 0) = #[] := rfl
         simp [Instr.fill, hr0]
         rfl
       · simp at h
     · rename_i h0
       split at h
       · rename_i hb
         split at h
         · rename_i zs hz
           split at h
           · rename_i hzl
             cases hf : afill (fun i => some (i * sz, sz)) (zeros zs len) parts with
             | none => simp [hf] at h
             | some xs =>
               simp only [hf] at h
               split at h
               · rename_i hxl
                 simp only [Option.some.injEq] at h; subst h
                 obtain ⟨z, hz1, hz2⟩ := run_zero (P := P) (w := g.w) hz
                 have hzz := range_map_zeros (zs := zs) (by omega) len
                 rw [hzl] at hzz
                 have hrel0 : relL g (zeros zs len) ((Array.range (len * sz)).map fun i => zs.toArray[i % zs.toArray.size]!).toList := by rw [← hzz]; exact relL_consts _
                 obtain ⟨vs, h1, h2⟩ := fill_run hl hp hrel0 hf
                 refine ⟨g.born (.cells vs.toArray e), .slice (some ⟨g.w.heap.size, 0, none⟩) len len, ?_, born_ext _, born_sim _ s, ?_⟩
                 · unfold Instr.buildSlice newRow
                   simp only [Sem.run_bind, run_underlying hu, Result.andThen_ok, run_sizeOf ht]
                   rw [if_neg (by omega), if_neg (by have := Nat.mul_pos (Nat.pos_of_ne_zero h0) hb.2; omega)]
                   simp only [Sem.run_pure, Result.andThen_ok, Sem.run_bind, hz1, hz2]
                   rw [Array.toArray_toList] at h1
                   rw [h1]
                   simp only [Sem.run_bind, run_newObj, Result.andThen_ok, Sem.run_pure]
                   rfl
                 · simp only [rel]
                   refine ⟨_, _, by rw [chunk_length], ⟨by rw [chunk_length]; omega, by rw [chunk_length]; unfold maxRows; have := Nat.le_mul_of_pos_right len hb.2; omega⟩, .inr ⟨g.w.heap.size, 0, rfl, .inr rfl, ?_⟩⟩
                   exact chunk_relR len (born_cells s h2) (by omega)
               · simp at h
           · simp at h
         · simp at h
       · simp at h
   · simp at h
 · simp at h
end
end
section
section
variable {P : Program}
def tkBytes (P : Program) (t : TypeId) : Option Nat := (P.info? t).map (·.bytes)
theorem run_bytes {w : World} {t : TypeId} {n : Nat} (h : tkBytes P t = some n) : ∃ i, (typeInfo t).run P w = .ok i w ∧ i.bytes = n := by
 unfold tkBytes at h
 cases hi : P.info? t with
 | none => simp [hi] at h
 | some i =>
   simp only [hi, Option.map_some, Option.some.injEq] at h
   exact ⟨i, by unfold typeInfo; simp only [Sem.run_bind, run_program, Result.andThen_ok, hi, Sem.run_pure], h⟩
def World.draws (w : World) : World := { w with drawn := w.drawn + 1 }
def G.drew (g : G) : G := ⟨g.fz, World.draws g.w⟩
theorem drew_ext {g : G} {B : Nat → Prop} : Ext g B g.drew B :=
 ⟨rfl, rfl, rfl, Nat.le_refl _, fun _ _ _ => rfl, fun _ h => h, fun _ h => .inl h, fun _ h => .inl h⟩
theorem drew_sim {g : G} {B : Nat → Prop} {Δ : List HP} (s : Sim g B Δ) : Sim g.drew B Δ :=
 ⟨s.fzlt, s.blt, s.disj, sep_mono s.sep (fun _ h => h) (fun _ h => h) (fun _ _ => rfl)⟩
theorem drew_rel {g : G} {x : AV} {v : Value} (h : rel g x v) : rel g.drew x v := rel_mono (g := g) (g' := g.drew) ⟨fun _ h => h, fun _ _ => rfl⟩ x v h
def srcRows (s : Nat) (x : AV) : Option (List (List AV)) :=
 match x with
 | .sl s' rows => if s' = s then some rows else none
 | .sl0 => some []
 | .c (.slice none 0 0) => some []
 | _ => none
theorem relR_rows {g : G} {s b : Nat} : ∀ {rows : List (List AV)} {o : Nat}, relR g s b o rows → ∀ r ∈ rows, r.length = s
 | [], o, h, r, hr => by simp at hr
 | r0 :: rows, o, h, r, hr => by
   simp only [relR] at h
   simp only [List.mem_cons] at hr
   rcases hr with rfl | hr
   · exact h.1
   · exact relR_rows h.2.2 r hr
theorem relR_of_flat {g : G} {s b : Nat} : ∀ {rows : List (List AV)} {o : Nat} {more : List AV}, relC g b o (rows.flatten ++ more) → (∀ r ∈ rows, r.length = s) → relR g s b o rows
 | [], o, more, _, _ => by simp [relR]
 | r :: rows, o, more, h, hl => by
   simp only [List.flatten_cons, List.append_assoc] at h
   have h0 := hl r (by simp)
   simp only [relR]
   refine ⟨h0, ?_, ?_⟩
   · have := relC_take h r.length
     rwa [List.take_left] at this
   · have := relC_drop h r.length
     rw [List.drop_left, h0] at this
     exact relR_of_flat this (fun r' hr' => hl r' (by simp [hr']))
theorem src_run {g : G} {s : Nat} {x : AV} {u : Value} {rows : List (List AV)} (hx : rel g x u) (h : srcRows s x = some rows) :
   ∃ us : List Value, relL g rows.flatten us ∧ (∀ r ∈ rows, r.length = s) ∧ rows.length ≤ maxRows ∧ (Builtin.lenOf u).run P g.w = .ok rows.length g.w ∧ (Builtin.firstCells s rows.length u).run P g.w = .ok us.toArray g.w ∧ us.length = rows.length * s := by
 unfold srcRows at h
 split at h
 · rename_i s' rows'
   split at h
   · rename_i hs; subst hs
     simp only [Option.some.injEq] at h; subst h
     simp only [rel] at hx
     obtain ⟨a, cap, rfl, ⟨hcap, hmax⟩, hor⟩ := hx
     rcases hor with rfl | ⟨b, o, rfl, hb, hr⟩
     · refine ⟨[], by simp [relL], by simp, by simp [maxRows], rfl, ?_, by simp⟩
       cases a with
       | none => rfl
       | some a => simp [Builtin.firstCells, loadCells, loadCellsFrom]
     · obtain ⟨k1, k2⟩ := relR_flat hr
       obtain ⟨us, h1, h2⟩ := loadCells_run (P := P) k1 (Nat.le_of_eq k2.symm)
       have h3 : relL g rows'.flatten us := by rwa [← k2, List.take_length] at h1
       exact ⟨us, h3, relR_rows hr, hmax, rfl, h2, by rw [relL_length h3, k2]⟩
   · simp at h
 · simp only [Option.some.injEq] at h; subst h
   simp only [rel] at hx
   obtain ⟨a, rfl⟩ := hx
   refine ⟨[], by simp [relL], by simp, by simp [maxRows], rfl, ?_, by simp⟩
   cases a with
   | none => rfl
   | some a => simp [Builtin.firstCells, loadCells, loadCellsFrom]
 · simp only [Option.some.injEq] at h; subst h
   simp only [rel] at hx
   subst hx
   exact ⟨[], by simp [relL], by simp, by simp [maxRows], rfl, rfl, by simp⟩
 · simp at h
def notInt (P : Program) (t : TypeId) : Bool :=
 match P.underlying t with
 | some (.int _) => false
 | some _ => true
 | none => false
theorem nextslicecap_zero (n : Nat) : Builtin.nextslicecap n 0 ≤ n := by
 unfold Builtin.nextslicecap
 split
 · omega
 · rename_i h; have : n = 0 := by omega
   subst this; simp
def aappend0 (P : Program) (sT xT : TypeId) (base x : AV) : Option AV :=
 match P.underlying sT with
 | some (.slice e) => match tk P e, tkBytes P e with
   | some (s, _), some n => match tkZero P e with
     | some zs => if n ≤ 256 ∧ 0 < n ∧ notInt P xT = true ∧ zs.length = s then
         (match base with
         | .sl0 => (srcRows s x).map (.sl s)
         | .c (.slice none 0 0) => (srcRows s x).map (.sl s)
         | _ => none) else none
     | none => none
   | _, _ => none
 | _ => none
def appendCore (e : TypeId) (s : Nat) (base : Option Addr) (sLen sCap n : Nat) (x : Value) : Sem Value :=
 if sLen + n ≤ sCap then (do
   let new ← Builtin.firstCells s n x
   if let some a := base then storeCells (a.add (sLen * s)) new.toList
   pure (.slice base (sLen + n) sCap))
 else (do
   let i1 ← typeInfo e
   if ((sLen + n : Nat) : Int) > IntKind.i64.max ∧ (false = true ∨ i1.bytes = 0) then runtimePanic (.error "growslice: len out of range")
   let i2 ← typeInfo e
   if Builtin.nextslicecap (sLen + n) sCap * i2.bytes > 2 ^ 48 then (do
     if !(← Builtin.mayShare s sLen n base x) then mark .noRoom
     unsupported (.resourceLimit "append: a slice or a string whose bytes no memory bears"))
   let newCap ← choose (.appendCap (sLen + n) sCap e)
   let i3 ← typeInfo e
   askRoom (newCap * i3.bytes)
   let old ← Builtin.firstCells s sLen (.slice base sLen sCap)
   let new ← Builtin.firstCells s n x
   let z ← zeroValue e
   let a ← newRow e (old ++ new ++ Builtin.zeroCells z.cells (newCap - (sLen + n)))
   pure (.slice (some a) (sLen + n) newCap))
theorem append_core {w : World} {sT xT ty e : TypeId} {s n : Nat} {ag : Bool} {base : Option Addr} {sLen sCap : Nat} {u : Value} {ats : Array TypeId} (hs : P.underlying sT = some (.slice e)) (ht : tk P e = some (s, ag))
   (hni : notInt P xT = true) (ha0 : ats[0]? = some sT) (ha1 : ats[1]? = some xT) (hn : (Builtin.lenOf u).run P w = .ok n w) :
   (Builtin.append_ ats ty #[.slice base sLen sCap, u]).run P w = (appendCore e s base sLen sCap n u).run P w := by
 unfold notInt at hni
 cases hd : P.underlying xT with
 | none => simp [hd] at hni
 | some d =>
   rw [hd] at hni
   unfold Builtin.append_ appendCore
   simp only [ha0, ha1, List.getElem?_toArray, List.getElem?_cons_zero, List.getElem?_cons_succ]
   rw [Sem.run_bind, run_underlying hs, Result.andThen_ok]
   simp only
   rw [Sem.run_bind, run_sizeOf ht, Result.andThen_ok]
   rw [Sem.run_bind, run_underlying hd, Result.andThen_ok]
   cases d <;> simp only [Bool.false_eq_true] at hni <;>
     (rw [Sem.run_bind, Sem.run_pure, Result.andThen_ok]
      simp only [Bool.false_eq_true, if_false]
      rw [Sem.run_bind, hn, Result.andThen_ok]
      simp only [Bool.not_false, if_true]
      rfl)
theorem zeroCells_length (zs : Array Value) (n : Nat) : (Builtin.zeroCells zs n).size = n * zs.size := by simp [Builtin.zeroCells]
theorem append0_run {g : G} {B : Nat → Prop} {Δ : List HP} {e : TypeId} {s n : Nat} {zs : List Value} {a : Option Addr} {x : AV} {u : Value} {rows : List (List AV)} (sm : Sim g B Δ)
   (hb : tkBytes P e = some n) (hz : tkZero P e = some zs) (h1 : n ≤ 256) (h2 : 0 < n) (hx : rel g x u) (hsrc : srcRows s x = some rows) :
   Bears P g B Δ (appendCore e s a 0 0 rows.length u) (.sl s rows) := by
 obtain ⟨us, k1, k2, kmax, k3, k4, k5⟩ := src_run (P := P) hx hsrc
 unfold maxRows at kmax
 unfold appendCore
 by_cases h0 : rows.length = 0
 · have hr0 : rows = [] := List.eq_nil_of_length_eq_zero h0
   subst hr0
   refine ⟨g, .slice a 0 0, ?_, .refl _ _, sm, by simp only [rel]; exact ⟨a, 0, rfl, ⟨Nat.le_refl _, by simp [maxRows]⟩, .inl trivial⟩⟩
   have e1 : us = [] := List.eq_nil_of_length_eq_zero (by simpa using k5)
   subst e1
   rw [if_pos (by simp), Sem.run_bind, k4, Result.andThen_ok]
   cases a <;> simp [storeCells]
 · rw [if_neg (by omega)]
   obtain ⟨i1, hi1, hi2⟩ := run_bytes (P := P) (w := g.w) hb
   have hnc := nextslicecap_zero rows.length
   have hmul : Builtin.nextslicecap (0 + rows.length) 0 * i1.bytes ≤ 2 ^ 48 := by
     rw [Nat.zero_add, hi2]
     calc Builtin.nextslicecap rows.length 0 * n ≤ 1099511627776 * 256 := Nat.mul_le_mul (by omega) h1
       _ ≤ 2 ^ 48 := by decide
   have hmax : ¬ (((0 + rows.length : Nat) : Int) > IntKind.i64.max ∧ (false = true ∨ i1.bytes = 0)) := by
     rintro ⟨_, h | h⟩
     · exact Bool.noConfusion h
     · omega
   let q : Question := .appendCap (0 + rows.length) 0 e
   let newCap := q.cut (g.w.tape g.w.drawn q)
   have hcap : rows.length ≤ newCap := by simp only [newCap, q, Question.cut]; omega
   obtain ⟨i3, hi3, hi4⟩ := run_bytes (P := P) (w := g.drew.w) hb
   obtain ⟨z, hz1, hz2⟩ := run_zero (P := P) (w := g.drew.w) hz
   obtain ⟨us', k1', k2', kmax', k3', k4', k5'⟩ := src_run (P := P) (drew_rel hx) hsrc
   have hold : (Builtin.firstCells s 0 (.slice a 0 0)).run P g.drew.w = .ok #[] g.drew.w := by
     cases a <;> simp [Builtin.firstCells, loadCells, loadCellsFrom]
   let more := Builtin.zeroCells z.cells (newCap - (0 + rows.length))
   have hrun : ((do
       let i1 ← typeInfo e
       if ((0 + rows.length : Nat) : Int) > IntKind.i64.max ∧ (false = true ∨ i1.bytes = 0) then runtimePanic (.error "growslice: len out of range")
       let i2 ← typeInfo e
       if Builtin.nextslicecap (0 + rows.length) 0 * i2.bytes > 2 ^ 48 then (do
         if !(← Builtin.mayShare s 0 rows.length a u) then mark .noRoom
         unsupported (.resourceLimit "append: a slice or a string whose bytes no memory bears"))
       let newCap ← choose (.appendCap (0 + rows.length) 0 e)
       let i3 ← typeInfo e
       askRoom (newCap * i3.bytes)
       let old ← Builtin.firstCells s 0 (.slice a 0 0)
       let new ← Builtin.firstCells s rows.length u
       let z ← zeroValue e
       let a ← newRow e (old ++ new ++ Builtin.zeroCells z.cells (newCap - (0 + rows.length)))
       pure (.slice (some a) (0 + rows.length) newCap)) : Sem Value).run P g.w = .ok (.slice (some ⟨g.w.heap.size, 0, none⟩) (0 + rows.length) newCap) (g.drew.born (.cells (us' ++ more.toList).toArray e)).w := by
     rw [Sem.run_bind, hi1, Result.andThen_ok]
     rw [if_neg hmax]
     rw [Sem.run_bind, hi1, Result.andThen_ok]
     rw [if_neg (by omega)]
     rw [Sem.run_bind, run_choose, if_neg (by simp [Question.forced]), Result.andThen_ok]
     rw [Sem.run_bind, show (typeInfo e).run P { g.w with drawn := g.w.drawn + 1 } = .ok i3 g.drew.w from hi3, Result.andThen_ok]
     rw [Sem.run_bind, run_askRoom, Result.andThen_ok]
     rw [Sem.run_bind, hold, Result.andThen_ok]
     rw [Sem.run_bind, k4', Result.andThen_ok]
     rw [Sem.run_bind, hz1, Result.andThen_ok]
     have hcells : (#[] ++ us'.toArray ++ more) = (us' ++ more.toList).toArray := by simp
     rw [← hcells]
     rfl
   refine ⟨g.drew.born (.cells (us' ++ more.toList).toArray e), _, hrun, drew_ext.trans (born_ext _), born_sim _ (drew_sim sm), ?_⟩
   simp only [rel]
   refine ⟨_, newCap, by rw [Nat.zero_add], ⟨hcap, by unfold maxRows; omega⟩, .inr ⟨g.w.heap.size, 0, rfl, .inr rfl, ?_⟩⟩
   have hc := born_cells (t := e) (drew_sim sm) (relL_append k1' (relL_consts (g := g.drew) more.toList))
   exact relR_of_flat hc k2
end
end
section
section
variable {P : Program}
def aconvB (P : Program) (src dst : TypeId) (x : AV) : Option AV :=
 match P.underlying src, P.underlying dst, x with
 | some _, some (.slice e), .c (.string s) => match P.underlying e with
   | some (.int .u8) => if s.size ≤ 1099511627776 then some (.sl 1 (bytesRows s.data.toList)) else none
   | _ => none
 | _, _, _ => none
theorem bytesRows_flatten : ∀ l : List UInt8, (bytesRows l).flatten = (l.map fun b => Value.int .u8 b.toNat).map .c
 | [] => rfl
 | b :: l => by simp [bytesRows, bytesRows_flatten l]
theorem bytesRows_one : ∀ l : List UInt8, ∀ r ∈ bytesRows l, r.length = 1
 | [], r, h => by simp [bytesRows] at h
 | b :: l, r, h => by
   simp only [bytesRows, List.mem_cons] at h
   rcases h with rfl | h
   · rfl
   · exact bytesRows_one l r h
theorem modify_push (h : Array Obj) (x : Obj) (f : Obj → Obj) : (h.push x).modify h.size f = h.push (f x) := by
 apply Array.ext_getElem?
 intro i
 rw [Array.getElem?_modify, Array.getElem?_push, Array.getElem?_push]
 by_cases hi : i = h.size
 · subst hi; simp
 · rw [if_neg (Ne.symm hi), if_neg hi, if_neg hi]
theorem freeze_push {w : World} {cs : Array Value} {e : TypeId} {n : Nat} : World.freeze { w with heap := w.heap.push (.cells cs e) } ⟨w.heap.size, n, none⟩ 1 = { w with heap := w.heap.push (.cells cs e (n, n + 1)) } := by
 unfold World.freeze
 rw [if_neg (by omega)]
 simp only [modify_push]
 rfl
theorem aconvB_ok {g : G} {B : Nat → Prop} {Δ : List HP} {src dst : TypeId} {x r : AV} {u : Value} (sm : Sim g B Δ) (h : aconvB P src dst x = some r) (hx : rel g x u) : Bears P g B Δ (convert src dst u) r := by
 unfold aconvB at h
 split at h
 · rename_i d e s h1 h2
   split at h
   · rename_i he
     split at h
     · rename_i hs
       simp only [Option.some.injEq] at h; subst h
       simp only [rel] at hx; subst hx
       let q : Question := .appendCap s.size 0 e
       let cap := q.cut (g.w.tape g.w.drawn q)
       have hcap : s.size ≤ cap := by simp only [cap, q, Question.cut]; omega
       let elems : Array Value := s.data.map fun b => .int .u8 b.toNat
       let cs := elems ++ Array.replicate (cap - s.size) (.int .u8 0)
       refine ⟨g.drew.born (.cells cs e (cs.size, cs.size + 1)), .slice (some ⟨g.w.heap.size, 0, none⟩) s.size cap, ?_, drew_ext.trans (born_ext _), born_sim _ (drew_sim sm), ?_⟩
       · unfold convert
         rw [Sem.run_bind, run_underlying h1, Result.andThen_ok, Sem.run_bind, run_underlying h2, Result.andThen_ok]
         have hconv : (Conv.stringToBytes e s).run P g.w = .ok (.slice (some ⟨g.w.heap.size, 0, none⟩) s.size cap) (g.drew.born (.cells cs e (cs.size, cs.size + 1))).w := by
           unfold Conv.stringToBytes
           rw [Sem.run_bind, run_choose, if_neg (by simp [Question.forced]), Result.andThen_ok]
           simp only [newRow, Sem.run_bind, run_newObj, Result.andThen_ok, Sem.run_pure, markStringish, run_shape]
           have hsh : World.shape? { g.w with drawn := g.w.drawn + 1, heap := g.w.heap.push (.cells cs e) } g.w.heap.size = some (e, cs.size) := by
             simp [World.shape?]
           rw [show World.shape? { heap := g.w.heap.push (.cells (Array.map (fun b => Value.int .u8 ↑b.toNat) s.data ++ Array.replicate ((Question.appendCap s.size 0 e).cut (g.w.tape g.w.drawn (Question.appendCap s.size 0 e)) - s.size) (Value.int .u8 0)) e), tape := g.w.tape, drawn := g.w.drawn + 1, os := g.w.os, output := g.w.output } g.w.heap.size = some (e, cs.size) from hsh]
           simp only [run_freeze, Result.andThen_ok]
           exact congrArg _ (freeze_push (w := { g.w with drawn := g.w.drawn + 1 }))
         cases d <;> simp only [Sem.run_bind, run_underlying he, Result.andThen_ok] <;> exact hconv
       · simp only [rel, bytesRows_length, Array.length_toList]
         refine ⟨_, cap, rfl, ⟨hcap, by unfold maxRows; exact hs⟩, ?_⟩
         by_cases hz : bytesRows s.data.toList = []
         · exact .inl hz
         · refine .inr ⟨g.w.heap.size, 0, rfl, .inr rfl, ?_⟩
           have hr : relL g.drew ((bytesRows s.data.toList).flatten ++ (List.replicate (cap - s.size) (Value.int .u8 0)).map .c) cs.toList := by
             rw [bytesRows_flatten, ← List.map_append]
             have := relL_consts (g := g.drew) cs.toList
             simpa [cs, elems] using this
           have hc : relC (g.drew.born (.cells cs e (cs.size, cs.size + 1))) g.drew.w.heap.size 0 ((bytesRows s.data.toList).flatten ++ (List.replicate (cap - s.size) (Value.int .u8 0)).map .c) :=
             cells_relC (cs := cs.toList) (t := e) (fr := (cs.size, cs.size + 1)) (by rw [Array.toArray_toList]; exact push_new) (relL_born (drew_sim sm) hr)
           exact relR_of_flat hc (bytesRows_one _)
     · simp at h
   · simp at h
 · simp at h
def amax (mx : Bool) : AV → List AV → Option AV
 | x, [] => some x
 | .c (.int k x), .c (.int _ y) :: rest => amax mx (.c (.int k (if mx then max x y else min x y))) rest
 | _, _ => none
theorem amax_run {w : World} : ∀ {xs : List AV} {us : List Value} {g : G} {x : AV} {u : Value} {r : AV}, amax true x xs = some r → rel g x u → relL g xs us → ∃ v, (us.foldlM (m := Sem) Builtin.max2 u).run P w = .ok v w ∧ rel g r v
 | [], us, g, x, u, r, h, hx, hl => by
   simp only [amax, Option.some.injEq] at h; subst h
   simp only [relL] at hl; subst hl
   exact ⟨u, by simp, hx⟩
 | y :: ys, us, g, x, u, r, h, hx, hl => by
   simp only [relL] at hl
   obtain ⟨v, vs, rfl, h1, h2⟩ := hl
   unfold amax at h
   split at h
   · simp_all
   · rename_i k a k' b rest heq
     obtain ⟨rfl, rfl⟩ := List.cons.inj heq
     simp only [rel] at hx h1
     subst hx h1
     obtain ⟨v, k1, k2⟩ := amax_run (u := .int k (max a b)) (w := w) h (by simp [rel]) h2
     refine ⟨v, ?_, k2⟩
     rw [List.foldlM_cons]
     have e : Builtin.max2 (.int k a) (.int k' b) = pure (.int k (max a b)) := by
       simp only [Builtin.max2, Int.max_def]
       congr 2; split <;> split <;> omega
     rw [e]; exact k1
   · simp at h
theorem amin_run {w : World} : ∀ {xs : List AV} {us : List Value} {g : G} {x : AV} {u : Value} {r : AV}, amax false x xs = some r → rel g x u → relL g xs us → ∃ v, (us.foldlM (m := Sem) Builtin.min2 u).run P w = .ok v w ∧ rel g r v
 | [], us, g, x, u, r, h, hx, hl => by
   simp only [amax, Option.some.injEq] at h; subst h
   simp only [relL] at hl; subst hl
   exact ⟨u, by simp, hx⟩
 | y :: ys, us, g, x, u, r, h, hx, hl => by
   simp only [relL] at hl
   obtain ⟨v, vs, rfl, h1, h2⟩ := hl
   unfold amax at h
   split at h
   · simp_all
   · rename_i k a k' b rest heq
     obtain ⟨rfl, rfl⟩ := List.cons.inj heq
     simp only [rel] at hx h1
     subst hx h1
     obtain ⟨v, k1, k2⟩ := amin_run (u := .int k (min a b)) (w := w) h (by simp [rel]) h2
     refine ⟨v, ?_, k2⟩
     rw [List.foldlM_cons]
     have e : Builtin.min2 (.int k a) (.int k' b) = pure (.int k (min a b)) := by
       simp only [Builtin.min2, Int.min_def]
       congr 2; split <;> split <;> omega
     rw [e]; exact k1
   · simp at h
def acall (P : Program) (b : Builtin) (ats : List TypeId) (args : List AV) : Option AV :=
 match b, ats, args with
 | .len, t :: _, [x] => alen P t x
 | .append, sT :: xT :: _, [s, x] => aappend0 P sT xT s x
 | .max, _, x :: xs => amax true x xs
 | .min, _, x :: xs => amax false x xs
 | _, _, _ => none
theorem acall_ok {g : G} {B : Nat → Prop} {Δ : List HP} {b : Builtin} {ats : Array TypeId} {ty : TypeId} {cs : Array Bool} {args : List AV} {us : List Value} {r : AV} (sm : Sim g B Δ) (h : acall P b ats.toList args = some r) (hl : relL g args us) :
   ∃ g' v, (builtin b ats ty cs us.toArray).run P g.w = .ok (.value v) g'.w ∧ Ext g B g' B ∧ Sim g' B Δ ∧ rel g' r v := by
 unfold acall at h
 split at h
 · rename_i t ts x hts
   simp only [relL] at hl
   obtain ⟨u, _, rfl, hx, rfl⟩ := hl
   have h0 : ats[0]? = some t := by rw [← Array.getElem?_toList, hts]; rfl
   obtain ⟨v, h1, h2⟩ := alen_ok (P := P) (w := g.w) (ty := ty) h0 h hx
   exact ⟨g, v, by simp only [builtin, Sem.run_bind]; rw [h1]; rfl, .refl _ _, sm, h2⟩
 · rename_i sT xT ts s x hts
   simp only [relL] at hl
   obtain ⟨u, _, rfl, hs, v, _, rfl, hx, rfl⟩ := hl
   have h0 : ats[0]? = some sT := by rw [← Array.getElem?_toList, hts]; rfl
   have h1 : ats[1]? = some xT := by rw [← Array.getElem?_toList, hts]; rfl
   unfold aappend0 at h
   split at h
   · rename_i e hu
     split at h
     · rename_i sz ag n ht hb
       split at h
       · rename_i zs hz
         split at h
         · rename_i hc
           obtain ⟨c1, c2, c3, c4⟩ := hc
           have key : ∀ a rows, u = .slice a 0 0 → srcRows sz x = some rows → r = .sl sz rows → ∃ g' v', (builtin .append ats ty cs #[u, v]).run P g.w = .ok (.value v') g'.w ∧ Ext g B g' B ∧ Sim g' B Δ ∧ rel g' r v' := by
             rintro a rows rfl hsrc rfl
             obtain ⟨us, _, _, _, k3, _, _⟩ := src_run (P := P) hx hsrc
             obtain ⟨g', v', q1, q2, q3, q4⟩ := append0_run (P := P) (a := a) sm hb hz c1 c2 hx hsrc
             refine ⟨g', v', ?_, q2, q3, q4⟩
             simp only [builtin, Sem.run_bind]
             rw [append_core hu ht c3 h0 h1 k3, q1]; rfl
           split at h
           · simp only [rel] at hs
             obtain ⟨a, rfl⟩ := hs
             cases hsrc : srcRows sz x with
             | none => simp [hsrc] at h
             | some rows => simp only [hsrc, Option.map_some, Option.some.injEq] at h; exact key a rows rfl hsrc h.symm
           · simp only [rel] at hs
             cases hsrc : srcRows sz x with
             | none => simp [hsrc] at h
             | some rows => simp only [hsrc, Option.map_some, Option.some.injEq] at h; exact key none rows hs hsrc h.symm
           · simp at h
         · simp at h
       · simp at h
     · simp at h
   · simp at h
 · rename_i x xs
   simp only [relL] at hl
   obtain ⟨u, us, rfl, hx, hl⟩ := hl
   obtain ⟨v, h1, h2⟩ := amax_run (P := P) (w := g.w) h hx hl
   exact ⟨g, v, by simp only [builtin, Sem.run_bind, Builtin.max_]; rw [h1]; rfl, .refl _ _, sm, h2⟩
 · rename_i x xs
   simp only [relL] at hl
   obtain ⟨u, us, rfl, hx, hl⟩ := hl
   obtain ⟨v, h1, h2⟩ := amin_run (P := P) (w := g.w) h hx hl
   exact ⟨g, v, by simp only [builtin, Sem.run_bind, Builtin.min_]; rw [h1]; rfl, .refl _ _, sm, h2⟩
 · simp at h
end
end
end Go.Av
