/- A part of the proof: what the calls do, told by values. -/
import Derived.Test.YtdnhcpbammfmlaaGreatDoorA2
import Derived.Test.YtdnhcpbammfmlaaGreatDoorA4
import Derived.Test.YtdnhcpbammfmlaaGreatDoorA5
import Derived.Stop.Asserts
import Derived.Test.YtdnhcpbammfmlaaGreatDoorA6
import Derived.Test.YtdnhcpbammfmlaaGreatDoorA3
import Derived.Recover
set_option linter.unusedVariables false
set_option linter.unusedSimpArgs false
namespace Go.Av
open Go
section
theorem cA {p q : Prop} (h1 : p) (h2 : q) : p ∧ q := ⟨h1, h2⟩
theorem cB {p q r : Prop} (h1 : p) (h2 : q) (h3 : r) : p ∧ q ∧ r := ⟨h1, h2, h3⟩
theorem cC {p q r s : Prop} (h1 : p) (h2 : q) (h3 : r) (h4 : s) : p ∧ q ∧ r ∧ s := ⟨h1, h2, h3, h4⟩
theorem cD {p q r s t : Prop} (h1 : p) (h2 : q) (h3 : r) (h4 : s) (h5 : t) : p ∧ q ∧ r ∧ s ∧ t := ⟨h1, h2, h3, h4, h5⟩
section
variable {P : Program} {f : Shape} {n : Nat} {R : APost} {env : Env} {Δ : List HP} {k todo : List Item}
theorem gS {a : Prop} (h : a := by simp only [go_sem, ↓reduceIte, Int.reduceLT, Int.reduceLE, Int.reduceToNat, Int.reducePow, Int.reduceNeg, Nat.reduceBEq] <;> with_reducible rfl) : a := h
theorem gR {a : Prop} (h : a := by simp only [go_sem, ↓reduceIte, Int.reduceLT, Int.reduceLE, Int.reduceToNat, Int.reducePow, Int.reduceNeg, Nat.reduceBEq] <;> rfl) : a := h
theorem gN {a : Prop} (h : a := by simp only [go_sem, ↓reduceIte, Int.reduceLT, Int.reduceLE, Int.reduceToNat, Int.reducePow, Int.reduceNeg, Nat.reduceBEq]) : a := h
theorem jen {f' : FuncId} {fn : Func} {c : Code} {args : List AV} (hcl : callable P f' = true) (hf : P.funcs[f']? = some fn) (hb : fn.body = some c := by rfl) (hn : args.length ≤ fn.ntmps := by simp only [go_sem]) (h : J P (.plain f') fn.ntmps R [.code c] (argEnv 0 args) Δ) : ACalls P f' args Δ R := calls_of_J hcl hf hb hn h
theorem jr {todo' : List Item} {env' : Env} {Δ' : List HP} (own : List Nat := []) (hr : mrun P own n 2000 todo env Δ = (todo', env', Δ') := by simp (maxSteps := 2000000) (disch := omega) only [go_sem, ↓reduceIte, Int.reduceLT, Int.reduceLE, Int.reduceToNat, Int.reducePow, Int.reduceNeg, Nat.reduceBEq] <;> with_reducible rfl) (h : J P f n R todo' env' Δ') : J P f n R todo env Δ := J_mrun hr h
theorem jf {F : Prop} {todo' : List Item} {env' : Env} {Δ' : List HP} (hf : F) (own : List Nat := []) (hr : F → mrun P own n 2000 todo env Δ = (todo', env', Δ') := by intro hf; simp (maxSteps := 2000000) (disch := omega) only [go_sem, ↓reduceIte, Int.reduceLT, Int.reduceLE, Int.reduceToNat, Int.reducePow, Int.reduceNeg, Nat.reduceBEq, hf] <;> with_reducible rfl) (h : J P f n R todo' env' Δ') : J P f n R todo env Δ := J_mrun (hr hf) h
theorem jq {F : Prop} {todo' : List Item} {env' : Env} {Δ' : List HP} (hf : F) (own : List Nat := []) (hr : F → mrun P own n 2000 todo env Δ = (todo', env', Δ') := by intro hf; simp (maxSteps := 2000000) (disch := omega) only [go_sem, ↓reduceIte, Int.reduceLT, Int.reduceLE, Int.reduceToNat, Int.reducePow, Int.reduceNeg, Nat.reduceBEq, eq_self, decide_true, ne_eq, not_true_eq_false, decide_false, beq_self_eq_true, hf] <;> with_reducible rfl) (h : J P f n R todo' env' Δ') : J P f n R todo env Δ := J_mrun (hr hf) h
theorem jif {c : Operand} {x y : Code} {p : Prop} [Decidable p] (hc : env.eval c = some (.c (.bool (decide p))) := by simp only [go_sem, ↓reduceIte, Int.reduceLT, Int.reduceLE, Int.reduceToNat, Int.reducePow, Int.reduceNeg, Nat.reduceBEq] <;> with_reducible rfl) (h1 : p → J P f n R (.code x :: k) env Δ) (h2 : ¬ p → J P f n R (.code y :: k) env Δ) : J P f n R (.code (.cond c x y) :: k) env Δ := J_if hc h1 h2
theorem jt {c : Operand} {x y : Code} (hc : env.eval c = some (.c (.bool true)) := by simp only [go_sem, ↓reduceIte, Int.reduceLT, Int.reduceLE, Int.reduceToNat, Int.reducePow, Int.reduceNeg, Nat.reduceBEq] <;> with_reducible rfl) (h : J P f n R (.code x :: k) env Δ) : J P f n R (.code (.cond c x y) :: k) env Δ := J_true hc h
theorem jn {c : Operand} {x y : Code} (hc : env.eval c = some (.c (.bool false)) := by simp only [go_sem, ↓reduceIte, Int.reduceLT, Int.reduceLE, Int.reduceToNat, Int.reducePow, Int.reduceNeg, Nat.reduceBEq] <;> with_reducible rfl) (h : J P f n R (.code y :: k) env Δ) : J P f n R (.code (.cond c x y) :: k) env Δ := J_false hc h
theorem jk {env' : Env} (js : List Nat) (he : env.keep js = some env' := by simp only [go_sem, ↓reduceIte, Int.reduceLT, Int.reduceLE, Int.reduceToNat, Int.reducePow, Int.reduceNeg, Nat.reduceBEq] <;> with_reducible rfl) (h : J P f n R todo env' Δ) : J P f n R todo env Δ := J_keep js he h
theorem jret {f : FuncId} {fn : Func} {X : AV} (hf : P.funcs[f]? = some fn) (hr : (aresultsM P env Δ fn.results.toList).map packed = some X := by simp only [go_sem, ↓reduceIte, Int.reduceLT, Int.reduceLE, Int.reduceToNat, Int.reducePow, Int.reduceNeg, Nat.reduceBEq] <;> first | with_reducible rfl | rfl) (h : R (.ret X) Δ) : J P (.plain f) n R (.code .ret :: k) env Δ := J_retX hf hr h
theorem jretf {f : FuncId} {fn : Func} {X : AV} {F : Prop} (hF : F) (hf : P.funcs[f]? = some fn) (hr : F → (aresultsM P env Δ fn.results.toList).map packed = some X := by intro hf; simp only [go_sem, ↓reduceIte, Int.reduceLT, Int.reduceLE, Int.reduceToNat, Int.reducePow, Int.reduceNeg, Nat.reduceBEq, hf] <;> first | with_reducible rfl | rfl) (h : R (.ret X) Δ) : J P (.plain f) n R (.code .ret :: k) env Δ := J_retX hf (hr hF) h
section
variable {ops : Array Oper} {i : Nat} {is : List Nat} {dst : Option Tmp} {h : FuncId} {as : List AV}
theorem jc {X : AV} (hat : callAt ops env n i = some (dst, h, as) := by simp only [go_sem, ↓reduceIte, Int.reduceLT, Int.reduceLE, Int.reduceToNat, Int.reducePow, Int.reduceNeg, Nat.reduceBEq] <;> with_reducible rfl) (hs : ACalls P h as [] (Ret X)) (hk : J P f n R (.inRegion ops is :: k) (env.put dst X) Δ) : J P f n R (.inRegion ops (i :: is) :: k) env Δ := J_callp hat hs hk
theorem jcs {Δ1 Fr : List HP} {R1 : APost} (hat : callAt ops env n i = some (dst, h, as) := by simp only [go_sem, ↓reduceIte, Int.reduceLT, Int.reduceLE, Int.reduceToNat, Int.reducePow, Int.reduceNeg, Nat.reduceBEq] <;> with_reducible rfl) (hs : ACalls P h as Δ1 R1) (hp : Δ.Perm (Δ1 ++ Fr)) (hk : ∀ x Δ', R1 (.ret x) Δ' → J P f n R (.inRegion ops is :: k) (env.put dst x) (Δ' ++ Fr)) (hpan : ∀ x Δ', R1 (.pan x) Δ' → f = .plain f.fn ∧ R (.pan x) (Δ' ++ Fr)) : J P f n R (.inRegion ops (i :: is) :: k) env Δ := J_calls hat hs hp hk hpan
theorem jcr {x : AV} (hat : callAt ops env n i = some (dst, h, as) := by simp only [go_sem, ↓reduceIte, Int.reduceLT, Int.reduceLE, Int.reduceToNat, Int.reducePow, Int.reduceNeg, Nat.reduceBEq] <;> with_reducible rfl) (hs : ACalls P h as Δ (fun r Δ' => r = .ret x ∧ Δ' = Δ)) (hk : J P f n R (.inRegion ops is :: k) (env.put dst x) Δ) : J P f n R (.inRegion ops (i :: is) :: k) env Δ := J_callr hat hs hk
theorem jcg {X : AV} {gb : Nat} {gv : Value} (hat : callAt ops env n i = some (dst, h, as) := by simp only [go_sem, ↓reduceIte, Int.reduceLT, Int.reduceLE, Int.reduceToNat, Int.reducePow, Int.reduceNeg, Nat.reduceBEq] <;> with_reducible rfl) (hin : HP.glob gb gv ∈ Δ) (hs : ACalls P h as [HP.glob gb gv] (Ret X)) (hk : J P f n R (.inRegion ops is :: k) (env.put dst X) Δ) : J P f n R (.inRegion ops (i :: is) :: k) env Δ := J_callg hat hin hs hk
theorem jnb {t : TypeId} {d : Tmp} {x : Operand} {cells : List AV} {ty : TypeId} {pos : String} {aft : Array Edge} (ho : ops[i]? = some ⟨some d, .box t x, ty, pos, aft, none⟩ := by rfl) (hd : d < n := by simp only [go_sem, ↓reduceIte, Int.reduceLT, Int.reduceLE, Int.reduceToNat, Int.reducePow, Int.reduceNeg, Nat.reduceBEq]) (hy : (env.eval x).map cellsOf = some cells := by simp only [go_sem, ↓reduceIte, Int.reduceLT, Int.reduceLE, Int.reduceToNat, Int.reducePow, Int.reduceNeg, Nat.reduceBEq] <;> with_reducible rfl) (hh : ∀ b, fresh Δ b → J P f n R (.inRegion ops is :: k) ((d, .c (.pointer (some ⟨b, 0, none⟩))) :: env) (.box b t cells :: Δ)) : J P f n R (.inRegion ops (i :: is) :: k) env Δ := J_newbox (y := .c undef) ho hd hy hh
theorem jnv {t : TypeId} {d : Tmp} {cells : List AV} {ty : TypeId} {pos : String} {aft : Array Edge} (ho : ops[i]? = some ⟨some d, .alloc t, ty, pos, aft, none⟩ := by rfl) (hd : d < n := by simp only [go_sem, ↓reduceIte, Int.reduceLT, Int.reduceLE, Int.reduceToNat, Int.reducePow, Int.reduceNeg, Nat.reduceBEq]) (hy : (tkZero P t).map (·.map AV.c) = some cells := by simp only [go_sem, ↓reduceIte, Int.reduceLT, Int.reduceLE, Int.reduceToNat, Int.reducePow, Int.reduceNeg, Nat.reduceBEq] <;> with_reducible rfl) (hh : ∀ b, fresh Δ b → J P f n R (.inRegion ops is :: k) ((d, .c (.pointer (some ⟨b, 0, none⟩))) :: env) (.box b t cells :: Δ)) : J P f n R (.inRegion ops (i :: is) :: k) env Δ := J_newvar ho hd hy hh
theorem jop {d : Tmp} {op : Op} {ty : TypeId} {pos : String} {aft : Array Edge} {K : AV → List HP → Prop} (hd : d < n := by simp only [go_sem, ↓reduceIte, Int.reduceLT, Int.reduceLE, Int.reduceToNat, Int.reducePow, Int.reduceNeg, Nat.reduceBEq]) (ho : ops[i]? = some ⟨some d, op, ty, pos, aft, none⟩) (hh : OpOK P env Δ ⟨some d, op, ty, pos, aft, none⟩ K) (hk : ∀ x Δ', K x Δ' → J P f n R (.inRegion ops is :: k) ((d, x) :: env) Δ') : J P f n R (.inRegion ops (i :: is) :: k) env Δ := J_op1 ho hd hh hk
theorem jbi {b : Builtin} {ats : List TypeId} {xs : List AV} {K : AV → List HP → Prop} (hat : biAt ops env n i = some (dst, b, ats, xs) := by simp only [go_sem, ↓reduceIte, Int.reduceLT, Int.reduceLE, Int.reduceToNat, Int.reducePow, Int.reduceNeg, Nat.reduceBEq] <;> first | with_reducible rfl | rfl) (hb : BiOK P b ats xs Δ K) (hk : ∀ x Δ', K x Δ' → J P f n R (.inRegion ops is :: k) (env.put dst x) Δ') : J P f n R (.inRegion ops (i :: is) :: k) env Δ := J_bi hat hb hk
theorem jap {sT xT e : TypeId} {ats : List TypeId} {s m len : Nat} {D Fr : List HP} {x : AV} {bu : Value} {cells cs : List AV} (hat : biAt ops env n i = some (dst, .append, sT :: xT :: ats, [.c bu, x]) := by simp only [go_sem, ↓reduceIte, Int.reduceLT, Int.reduceLE, Int.reduceToNat, Int.reducePow, Int.reduceNeg, Nat.reduceBEq] <;> with_reducible rfl) (hty : appTy P sT xT = some (e, s) := by simp only [go_sem, ↓reduceIte, Int.reduceLT, Int.reduceLE, Int.reduceToNat, Int.reducePow, Int.reduceNeg, Nat.reduceBEq] <;> with_reducible rfl) (how : Own e s cells len bu D) (hp : Δ.Perm (Fr ++ D)) (hsrc : srcOf (D ++ Fr) s x = some (m, cs)) (hc : cs.all AV.isCell = true) (hmax : len + m ≤ 2 ^ 38) (hk : ∀ x Δ', (∃ v D', x = .c v ∧ Δ' = Fr ++ D' ∧ Own e s (cells ++ cs) (len + m) v D') → J P f n R (.inRegion ops is :: k) (env.put dst x) Δ') : J P f n R (.inRegion ops (i :: is) :: k) env Δ :=
 J_bi hat (append_bi hty how hp hsrc hc hmax) hk
end
section
variable {ops : Array Oper} {kont : Env → List HP → Prop} {c : List (Nat × Knd)} {V : Env} {i : Nat} {dst : Option Tmp} {h : FuncId} {as : List AV}
theorem cr {c' : List (Nat × Knd)} {V' : Env} {Δ' : List HP} (own : List Nat := []) (hr : canM P ops own n c V Δ = (c', V', Δ') := by simp (maxSteps := 2000000) (disch := omega) only [go_sem, ↓reduceIte, Int.reduceLT, Int.reduceLE, Int.reduceToNat, Int.reducePow, Int.reduceNeg, Nat.reduceBEq] <;> with_reducible rfl) (hk : Can P ops n kont c' V' Δ') : Can P ops n kont c V Δ := Can_run hr hk
theorem cf {F : Prop} {c' : List (Nat × Knd)} {V' : Env} {Δ' : List HP} (hf : F) (own : List Nat := []) (hr : F → canM P ops own n c V Δ = (c', V', Δ') := by intro hf; simp (maxSteps := 2000000) (disch := omega) only [go_sem, ↓reduceIte, Int.reduceLT, Int.reduceLE, Int.reduceToNat, Int.reducePow, Int.reduceNeg, Nat.reduceBEq, hf] <;> with_reducible rfl) (hk : Can P ops n kont c' V' Δ') : Can P ops n kont c V Δ := Can_run (hr hf) hk
theorem ccp {x : AV} (hat : callAt ops V n i = some (dst, h, as) := by simp only [go_sem, ↓reduceIte, Int.reduceLT, Int.reduceLE, Int.reduceToNat, Int.reducePow, Int.reduceNeg, Nat.reduceBEq] <;> with_reducible rfl) (hs : ACalls P h as [] (Ret x)) (hk : Can P ops n kont c (V.put dst x) Δ) : Can P ops n kont ((i, .pure) :: c) V Δ := Can_callp hat hs hk
theorem ccr {x : AV} (hat : callAt ops V n i = some (dst, h, as) := by simp only [go_sem, ↓reduceIte, Int.reduceLT, Int.reduceLE, Int.reduceToNat, Int.reducePow, Int.reduceNeg, Nat.reduceBEq] <;> with_reducible rfl) (hs : ACalls P h as Δ (fun r Δ' => r = .ret x ∧ Δ' = Δ)) (hk : Can P ops n kont c (V.put dst x) Δ) : Can P ops n kont ((i, .read) :: c) V Δ := Can_callr hat hs hk
theorem ccs {Δ1 Fr : List HP} {R1 : APost} (hat : callAt ops V n i = some (dst, h, as) := by simp only [go_sem, ↓reduceIte, Int.reduceLT, Int.reduceLE, Int.reduceToNat, Int.reducePow, Int.reduceNeg, Nat.reduceBEq] <;> with_reducible rfl) (hs : ACalls P h as Δ1 R1) (hp : Δ.Perm (Δ1 ++ Fr)) (hk : ∀ x Δ', R1 (.ret x) Δ' → Can P ops n kont c (V.put dst x) (Δ' ++ Fr)) (hn : ∀ x Δ', ¬ R1 (.pan x) Δ') :
   Can P ops n kont ((i, .act) :: c) V Δ := Can_call hat hs hp hk hn
theorem cnv {t : TypeId} {d : Tmp} {cells : List AV} {ty : TypeId} {pos : String} {aft : Array Edge} (ho : ops[i]? = some ⟨some d, .alloc t, ty, pos, aft, none⟩ := by rfl) (hd : d < n := by simp only [go_sem, ↓reduceIte, Int.reduceLT, Int.reduceLE, Int.reduceToNat, Int.reducePow, Int.reduceNeg, Nat.reduceBEq]) (hy : (tkZero P t).map (·.map AV.c) = some cells := by simp only [go_sem, ↓reduceIte, Int.reduceLT, Int.reduceLE, Int.reduceToNat, Int.reducePow, Int.reduceNeg, Nat.reduceBEq] <;> with_reducible rfl) (hk : ∀ b, fresh Δ b → Can P ops n kont c ((d, .c (.pointer (some ⟨b, 0, none⟩))) :: V) (.box b t cells :: Δ)) : Can P ops n kont ((i, .new) :: c) V Δ := Can_newvar ho hd hy hk
theorem cbi {b : Builtin} {ats : List TypeId} {xs : List AV} {K : AV → List HP → Prop} (hat : biAt ops V n i = some (dst, b, ats, xs) := by simp only [go_sem, ↓reduceIte, Int.reduceLT, Int.reduceLE, Int.reduceToNat, Int.reducePow, Int.reduceNeg, Nat.reduceBEq] <;> first | with_reducible rfl | rfl) (hb : BiOK P b ats xs Δ K) (hk : ∀ x Δ', K x Δ' → Can P ops n kont c (V.put dst x) Δ') : Can P ops n kont ((i, .act) :: c) V Δ := Can_bi hat hb hk
def ancs (ops : Array Oper) : List (List Nat) :=
 ops.toList.foldl (fun A o => A ++ [(o.after.toList.filterMap fun e => if Region.binds .any e then some e.on else none).foldl (fun l j => (j :: A.getD j []).foldl (fun l x => if l.contains x then l else x :: l) l) []]) []
theorem jd (c : List (Nat × Knd)) {id : Nat} (hm : P.follows .mixedOrders = true) (hd : drawOK ops (ancs ops) c = true) (h : Can P ops n (fun V Δ => J P f n R k V Δ) c env Δ) : J P f n R (.code (.region id ops true) :: k) env Δ := J_draw (ancs ops) c hm hd h
end
end
end
section
section
variable {P : Program} {f : Shape} {n : Nat} {R : APost} {env : Env} {Δ : List HP} {k todo : List Item}
theorem nil_le_sl {s : Nat} : (AV.c (.slice none 0 0)).le (.sl s []) := fun g v h => by
 simp only [rel] at h ⊢
 exact ⟨none, 0, h, ⟨by simp, by simp [maxRows]⟩, .inl trivial⟩
section
variable {ops : Array Oper} {i : Nat} {is : List Nat}
end
end
end
section
def addE (A : List (List Nat)) (x y : Nat) : List (List Nat) := (List.range A.length).map fun i => if i = y ∨ y ∈ A.getD i [] then A.getD i [] ++ x :: A.getD x [] else A.getD i []
theorem addE_mem {A : List (List Nat)} {x y i j : Nat} (h : j ∈ (addE A x y).getD i []) : j ∈ A.getD i [] ∨ (i = y ∨ y ∈ A.getD i []) ∧ (j = x ∨ j ∈ A.getD x []) := by
 unfold addE at h
 rw [List.getD_eq_getElem?_getD, List.getElem?_map] at h
 by_cases hi : i < A.length
 · rw [List.getElem?_eq_getElem (by simpa using hi)] at h
   simp only [List.getElem_range, Option.map_some, Option.getD_some] at h
   split at h
   · rename_i hc
     rcases List.mem_append.1 h with h | h
     · exact .inl h
     · exact .inr ⟨hc, List.mem_cons.1 h⟩
   · exact .inl h
 · rw [List.getElem?_eq_none (by simpa using hi)] at h
   simp at h
theorem either {x y : Nat} (hne : x ≠ y) : ∀ l : List Nat, (∀ l1 l2, l = l1 ++ y :: l2 → x ∈ l1) ∨ (∀ l1 l2, l = l1 ++ x :: l2 → y ∈ l1)
 | [] => .inl fun l1 l2 h => by cases l1 <;> simp at h
 | a :: l => by
   by_cases ha : a = x
   · subst ha
     refine .inl fun l1 l2 h => ?_
     cases l1 with
     | nil => simp at h; exact absurd h.1 hne
     | cons b l1 => simp at h; simp [h.1]
   · by_cases hb : a = y
     · subst hb
       refine .inr fun l1 l2 h => ?_
       cases l1 with
       | nil => simp at h; exact absurd h.1 ha
       | cons b l1 => simp at h; simp [h.1]
     · rcases either hne l with h | h
       · refine .inl fun l1 l2 he => ?_
         cases l1 with
         | nil => simp at he; exact absurd he.1 hb
         | cons b l1 => simp at he; exact List.mem_cons_of_mem _ (h l1 l2 he.2)
       · refine .inr fun l1 l2 he => ?_
         cases l1 with
         | nil => simp at he; exact absurd he.1 ha
         | cons b l1 => simp at he; exact List.mem_cons_of_mem _ (h l1 l2 he.2)
theorem follows_add {ops : Array Oper} {A : List (List Nat)} {x y : Nat} : ∀ (l done : List Nat), Follows ops (fun i => A.getD i []) done l → (y ∈ done → x ∈ done) → (∀ i ∈ done, ∀ j ∈ A.getD i [], j ∈ done) → (x ∈ done ∨ ∀ l1 l2, l = l1 ++ y :: l2 → x ∈ l1) →
   Follows ops (fun i => (addE A x y).getD i []) done l
 | [], done, h, _, _, _ => h
 | a :: l, done, h, h1, h2, h3 => by
   obtain ⟨k1, k2, k3, k4⟩ := h
   have hx : a = y → x ∈ done := fun e => by
     rcases h3 with h3 | h3
     · exact h3
     · have := h3 [] l (by rw [e]; rfl); simp at this
   refine ⟨k1, k2, fun j hj => ?_, follows_add l (a :: done) k4 ?_ ?_ ?_⟩
   · rcases addE_mem hj with hj | ⟨hc, hj⟩
     · exact k3 j hj
     · have hxd : x ∈ done := by
         rcases hc with e | e
         · exact hx e
         · exact h1 (k3 _ e)
       rcases hj with rfl | hj
       · exact hxd
       · exact h2 _ hxd _ hj
   · intro hy
     rcases List.mem_cons.1 hy with e | e
     · exact List.mem_cons_of_mem _ (hx e.symm)
     · exact List.mem_cons_of_mem _ (h1 e)
   · intro i hi j hj
     rcases List.mem_cons.1 hi with rfl | hi
     · exact List.mem_cons_of_mem _ (k3 j hj)
     · exact List.mem_cons_of_mem _ (h2 i hi j hj)
   · rcases h3 with h3 | h3
     · exact .inl (List.mem_cons_of_mem _ h3)
     · by_cases hax : a = x
       · exact .inl (by simp [hax])
       · refine .inr fun l1 l2 he => ?_
         have := h3 (a :: l1) l2 (by rw [he]; rfl)
         rcases List.mem_cons.1 this with e | e
         · exact absurd e.symm hax
         · exact e
def draw2OK (ops : Array Oper) (A : List (List Nat)) (c : List (Nat × Knd)) : Bool :=
 pairB ops A c && nodupB (c.map (·.1)) && (c.all fun p => decide (p.1 < ops.size)) && (List.range ops.size).all fun i => c.any fun p => p.1 == i
section
variable {P : Program} {ops : Array Oper} {n : Nat} {f : Shape} {R : APost} {k : List Item} {env : Env} {Δ : List HP} {A : List (List Nat)}
theorem follows_J2 {c : List (Nat × Knd)} (hd : draw2OK ops A c = true) {l : List Nat} (hf : Follows ops (fun i => A.getD i []) [] l) (h : Can P ops n (fun V Δ => J P f n R k V Δ) c env Δ) : J P f n R (.inRegion ops l :: k) env Δ := by
 simp only [draw2OK, Bool.and_eq_true, List.all_eq_true, decide_eq_true_eq, List.mem_range] at hd
 obtain ⟨⟨⟨h2, h3⟩, h4⟩, h5⟩ := hd
 obtain ⟨U, rest, e1, e2, e3, e4⟩ := advance c _ _ h
 refine reorder l [] env (applyU ops U env) U rest Δ hf ?_ ?_ ?_ ?_ e2 (Eqv.refl _) e4 e3
 · rw [← e1]; exact fun p hp => ⟨by simp, h4 p hp⟩
 · rw [← e1]
   intro i hi _
   obtain ⟨p, hp, he⟩ := List.any_eq_true.1 (h5 i hi)
   exact ⟨p, hp, by simpa using he⟩
 · rw [← e1]; exact nodupB_sound h3
 · rw [← e1]; exact pairB_sound h2
theorem jd2 (x y : Nat) (c1 c2 : List (Nat × Knd)) {id : Nat} (hm : P.follows .mixedOrders = true) (hd : (decide (x ≠ y) && ancOK ops (ancs ops) && draw2OK ops (addE (ancs ops) x y) c1 && draw2OK ops (addE (ancs ops) y x) c2) = true)
   (h1 : Can P ops n (fun V Δ => J P f n R k V Δ) c1 env Δ) (h2 : Can P ops n (fun V Δ => J P f n R k V Δ) c2 env Δ) : J P f n R (.code (.region id ops true) :: k) env Δ := by
 intro g B tmps sm hn he b cs hb hk
 simp only [Bool.and_eq_true, decide_eq_true_eq] at hd
 obtain ⟨⟨⟨hne, hA⟩, hd1⟩, hd2⟩ := hd
 have hf : Follows ops (fun i => (ancs ops).getD i []) [] (Region.schedule (P.follows .mixedOrders) ops (g.w.tape g.w.drawn (.order b.fn id))) := by
   simp only [Region.schedule, hm, Bool.true_or, if_true, Region.linearise]
   refine linearise_follows hA _ _ _ [] (by simp) ?_ ?_ (by simp) .nil
   · intro i
     simp only [List.not_mem_nil, false_iff, Array.getD_eq_getD_getElem?]
     by_cases h : i < ops.size <;> simp [h]
   · intro i o _ hl
     simp only [Array.getD_eq_getD_getElem?] at hl
     by_cases h : i < ops.size <;> simp [h] at hl
 have hJ : J P f n R (.inRegion ops (Region.schedule (P.follows .mixedOrders) ops (g.w.tape g.w.drawn (.order b.fn id))) :: k) env Δ := by
   rcases either hne (Region.schedule (P.follows .mixedOrders) ops (g.w.tape g.w.drawn (.order b.fn id))) with h | h
   · exact follows_J2 hd1 (follows_add _ _ hf (by simp) (by simp) (.inr h)) h1
   · exact follows_J2 hd2 (follows_add _ _ hf (by simp) (by simp) (.inr h)) h2
 obtain ⟨e, w', fr, h1, h2, h3⟩ := hJ g.drew B tmps (drew_sim sm) hn (he.mono (g := g) (g' := g.drew) ⟨fun _ h => h, fun _ _ => rfl⟩) b cs hb hk
 refine ⟨e, w', fr, ?_, .of_steps (.one stepR_region_draw) h2, h3⟩
 obtain ⟨g', B', a, D, q0, q1, q2⟩ := h1
 exact ⟨g', B', a, D, q0, drew_ext.trans q1, q2⟩
theorem relL_wk {g : G} {x y : AV} (hle : x.le y) : ∀ {cells : List AV} {cs : List Value} {j : Nat}, relL g cells cs → cells[j]? = some x → relL g (cells.set j y) cs
 | [], cs, j, h, hj => by simp at hj
 | a :: cells, cs, 0, h, hj => by
   simp only [List.getElem?_cons_zero, Option.some.injEq] at hj
   subst hj
   simp only [relL, List.set_cons_zero] at h ⊢
   obtain ⟨v, vs, rfl, h1, h2⟩ := h
   exact ⟨v, vs, rfl, hle g v h1, h2⟩
 | a :: cells, cs, j + 1, h, hj => by
   simp only [List.getElem?_cons_succ] at hj
   simp only [relL, List.set_cons_succ] at h ⊢
   obtain ⟨v, vs, rfl, h1, h2⟩ := h
   exact ⟨v, vs, rfl, h1, relL_wk hle h2 hj⟩
theorem J_wkBox {b : Nat} {t : TypeId} {cells : List AV} {x y : AV} {todo : List Item} (j : Nat) (hj : cells[j]? = some x) (hle : x.le y) {Fr : List HP} (hp : Δ.Perm (.box b t cells :: Fr)) (h : J P f n R todo env (.box b t (cells.set j y) :: Fr)) : J P f n R todo env Δ := by
 refine J_perm hp (J_sep (Δ' := .box b t (cells.set j y) :: Fr) (fun g B sm => ?_) h)
 obtain ⟨B2, h3, ⟨h4, cs, h5, h6⟩, h7⟩ := sm.sep
 exact ⟨B2, h3, ⟨h4, cs, h5, relL_wk hle h6 hj⟩, h7⟩
end
end
end Go.Av
namespace Go.Av
section

end
section
def Shape.late (f : FuncId) : Shape := { fn := f, round := none, defers := [], kind := .deferred }
def Shape.owing (f : FuncId) (d : Deferred) : Shape := { fn := f, round := none, defers := [d] }
structure ADefers (P : Program) (f : FuncId) (args : List AV) (Δ : List HP) (R : APost) : Prop where
 callable : callable P f = true
 run : ∀ g B us, Sim g B Δ → relL g args us → ∀ u, CallsD P f us.toArray u g.w (fun e u' w' => u' = u ∧ Post R g B e w')
section
variable {P : Program} {n : Nat} {R : APost} {env : Env} {Δ : List HP} {k : List Item}
theorem JL_end {f : FuncId} {fn : Func} {X : AV} (hf : P.funcs[f]? = some fn) (hr : (aresultsM P env Δ fn.results.toList).map packed = some X) (h : R (.ret X) Δ) : J P (.late f) n R [] env Δ := by
 intro g B tmps sm hn he b cs hb hk
 cases hx : aresultsM P env Δ fn.results.toList with
 | none => simp [hx] at hr
 | some xs =>
   simp only [hx, Option.map_some, Option.some.injEq] at hr; subst hr
   obtain ⟨v, k1, k2⟩ := resultsM_eq (P := P) sm he hx
   refine ⟨.returned v, _, _, ⟨g, B, .ret (packed xs), Δ, rfl, .refl _ _, sm, k1, h⟩, Steps.one (stepR_end hk.2.1), ?_⟩
   show _ = _ ∧ Frame.going _ _ _ _
   have hb' : b.fn = f := hb
   exact ⟨hk.1, rfl, rfl, fn, by simpa [Frame.atR, hb'] using hf, k2⟩
theorem ADefers.under {f : FuncId} {args : List AV} {Fr Δ0 : List HP} (h : ADefers P f args Δ R) (hp : Δ0.Perm (Δ ++ Fr)) : ADefers P f args Δ0 (fun a Δ' => ∃ Δ1, Δ' = Δ1 ++ Fr ∧ R a Δ1) := by
 refine ⟨h.callable, fun g B us s0 r u => ?_⟩
 have s := perm_sim s0 hp
 obtain ⟨B1, h1, h2, h3⟩ := sep_append s.sep
 intro c cs hm
 obtain ⟨e, u', w', fr, ⟨hu, g', B', a, Δ', rfl, hx, hs, hr, hR⟩, hst⟩ := h.run g B1 us ⟨s.fzlt, fun b hb => s.blt b (h1 b hb), fun b hb hn => s.disj b hb (h1 b hn), h2⟩ r u c cs hm
 refine ⟨e, u', _, fr, ⟨hu, g', fun b => B' b ∨ (B b ∧ ¬ B1 b), a, Δ' ++ Fr, rfl, ?_, ?_, hr, Δ', rfl, hR⟩, hst⟩
 · exact ⟨hx.os, hx.tape, hx.output, hx.size, fun b hb hn => hx.keep b hb (fun h => hn (h1 b h)), hx.fz, fun b hb => (hx.fzo b hb).imp id (.imp (h1 b) id),
     fun b hb => hb.elim (fun h => (hx.own b h).imp (h1 b) id) (fun h => .inl h.1)⟩
 · refine ⟨hs.fzlt, fun b hb => hb.elim (hs.blt b) (fun h => Nat.lt_of_lt_of_le (s.blt b h.1) hx.size), fun b hb hn => ?_, ?_⟩
   · rcases hn with hn | hn
     · exact hs.disj b hb hn
     · rcases hx.fzo b hb with h | h | h
       · exact s.disj b h hn.1
       · exact hn.2 h
       · have := s.blt b hn.1; omega
   · refine sep_join (B1 := B') (fun _ h => .inl h) hs.sep (sep_mono h3 (fun b hb => ⟨.inr hb, fun h => ?_⟩) hx.fz (fun b hb => ?_))
     · rcases hx.own b h with h | h
       · exact hb.2 h
       · have := s.blt b hb.1; omega
     · rcases hb with hb | hb
       · exact hx.keep b (s.fzlt b hb) (fun h => s.disj b hb (h1 b h))
       · exact hx.keep b (s.blt b hb.1) hb.2
def isAll : List Value → List AV → List HP
 | v :: vs, x :: xs => HP.is v x :: isAll vs xs
 | _, _ => []
theorem isAll_sim {g : G} {B : Nat → Prop} : ∀ {xs : List AV} {vs : List Value}, Sim g B Δ → relL g xs vs → Sim g B (isAll vs xs ++ Δ)
 | [], vs, s, h => by
   simp only [relL] at h; subst h
   exact s
 | x :: xs, vs, s, h => by
   simp only [relL] at h
   obtain ⟨v, vs', rfl, h1, h2⟩ := h
   have ih := isAll_sim (xs := xs) s h2
   exact ⟨ih.fzlt, ih.blt, ih.disj, fun _ => False, fun _ h => h.elim, h1, sep_mono ih.sep (fun b hb => ⟨hb, id⟩) (fun _ h => h) (fun _ _ => rfl)⟩
theorem isAll_rel {g : G} {B : Nat → Prop} : ∀ {xs : List AV} {vs : List Value} {Δ : List HP}, xs.length = vs.length → Sim g B (isAll vs xs ++ Δ) → relL g xs vs
 | [], [], _, _, s => by simp only [relL]
 | [], _ :: _, _, h, _ => by simp at h
 | _ :: _, [], _, h, _ => by simp at h
 | x :: xs, v :: vs, Δ, hl, s => by
   have h1 := is_spec s.sep (u := v) (x := x) (by simp [isAll])
   have ih := isAll_rel (xs := xs) (vs := vs) (Δ := Δ) (by simpa using hl) (drop_sim s)
   simp only [relL]
   exact ⟨v, vs, rfl, h1, ih⟩
theorem isAll_drop {g : G} {B : Nat → Prop} : ∀ {vs : List Value} {xs : List AV} {Δ : List HP}, Sim g B (isAll vs xs ++ Δ) → Sim g B Δ
 | [], _, _, s => by simpa [isAll] using s
 | _ :: _, [], _, s => by simpa [isAll] using s
 | v :: vs, x :: xs, Δ, s => isAll_drop (vs := vs) (xs := xs) (drop_sim s)
theorem J_defer {f : FuncId} {ops : Array Oper} {i : Nat} {is : List Nat} {o : Oper} {fo : Operand} {ats : Array TypeId} {h : FuncId} {xs : List AV}
   (ho : ops[i]? = some o) (hop : o.op = .defer ⟨.value fo, #[], ats⟩) (hw : awanted ops env o = some true) (hd : o.dst = none) (hfo : env.eval fo = some (.fn (.func h) [] xs))
   (hk : ∀ vs : List Value, vs.length = xs.length → J P (.owing f { target := .fn (.func h) vs.toArray, args := #[] }) n R (.inRegion ops is :: k) env (isAll vs xs ++ Δ)) :
   J P (.plain f) n R (.inRegion ops (i :: is) :: k) env Δ := by
 intro g B tmps sm hn he b cs hb hkd
 have hf := Env.eval_rel he hfo
 simp only [rel] at hf
 obtain ⟨us, vs, hfv, hu, hv⟩ := hf
 simp only [relL] at hu
 subst hu
 obtain ⟨e, w', fr, k1, k2, k3⟩ := hk vs (relL_length hv) g B tmps (isAll_sim sm hv) hn he b cs hb hkd
 have hro : b.roundOf = none := hkd.2.1
 have hg := stepGR_op (P := P) (b := b) (a := { tmps := tmps, defers := [] }) (k := k) (cs := cs) (w := g.w) (rest := is) ho (awanted_eq he hw)
 have hrun : (execOp (({ tmps := tmps, defers := [] } : Act).eval) o).run P g.w = .ok (.defer { target := .fn (.func h) vs.toArray, args := #[] }) g.w := by
   simp only [execOp, hop, resolve, hfv, Deferred.ofValue, Sem.run_bind, Sem.run_pure, Result.andThen_ok]
   simp
 have hst : step P (lone (b.atR { tmps := tmps, defers := [] } (.inRegion ops (i :: is) :: k)) cs g.w) = .next (lone (b.atR { tmps := tmps, defers := [{ target := .fn (.func h) vs.toArray, args := #[] }] } (.inRegion ops is :: k)) cs g.w) := by
   refine step_lone_go ?_
   rw [hg, hro, Oper.semAt_none]
   simp [stepG.apply, hrun, Frame.finish, Frame.atR, ho, hd]
 exact ⟨e, w', fr, k1, .of_steps (.one hst) k2, k3⟩
end
@[go_sem] theorem getBox_is (v : Value) (x : AV) (Δ : List HP) (b : Nat) : getBox (HP.is v x :: Δ) b = getBox Δ b := rfl
@[go_sem] theorem setBox_is (v : Value) (x : AV) (Δ : List HP) (b : Nat) (c : List AV) : setBox (HP.is v x :: Δ) b c = HP.is v x :: setBox Δ b c := rfl
@[go_sem] theorem fresh_is (v : Value) (x : AV) (Δ : List HP) (b : Nat) : fresh (HP.is v x :: Δ) b = fresh Δ b := rfl
end
section
section
variable {P : Program}
end
end
section
section
variable {P : Program} {n : Nat} {R : APost} {env : Env} {Δ : List HP} {k : List Item}
theorem J_panic {f : FuncId} {ops : Array Oper} {i : Nat} {is : List Nat} {o : Oper} {x : Operand} {t : TypeId} {y : AV} (ho : ops[i]? = some o) (hop : o.op = .panic x) (hw : awanted ops env o = some true) (hx : env.eval x = some (.ifc t y)) (h : R (.pan (.ifc t y)) Δ) :
   J P (.plain f) n R (.inRegion ops (i :: is) :: k) env Δ := by
 intro g B tmps sm hn he b cs hb hkd
 have hv := Env.eval_rel he hx
 have hv0 := hv
 simp only [rel] at hv
 obtain ⟨u, hu, -⟩ := hv
 have hrun : (execOp (({ tmps := tmps, defers := [] } : Act).eval) o).run P g.w = .halt (.panic (({ tmps := tmps, defers := [] } : Act).eval x)) g.w := by
   simp only [execOp, hop, hu]
   rfl
 have hg := stepGR_op (P := P) (b := b) (a := { tmps := tmps, defers := [] }) (k := k) (cs := cs) (w := g.w) (rest := is) ho (awanted_eq he hw)
 rw [Oper.semAt_eq _ _ _ (by intro c hc; rw [hop] at hc; exact Op.noConfusion hc)] at hg
 have hst : step P (lone (b.atR { tmps := tmps, defers := [] } (.inRegion ops (i :: is) :: k)) cs g.w) = .next (lone ((b.atR { tmps := tmps, defers := [] } (.inRegion ops (i :: is) :: k)).raise [{ v := ({ tmps := tmps, defers := [] } : Act).eval x, recovered := false }]) cs g.w) := by
   refine step_lone_go ?_
   rw [hg]
   simp [stepG.apply, hrun, Frame.atR]
 rw [Frame.raise_atR] at hst
 obtain ⟨fn, hf'⟩ := hkd.2.2
 refine ⟨.panicked _, g.w, _, ⟨g, B, .pan _, Δ, rfl, .refl _ _, sm, ⟨_, rfl, hv0⟩, h⟩, Steps.one hst, ?_⟩
 show _ = _ ∧ Frame.leaving _ _ _ _
 exact ⟨hb, rfl, rfl, fn, by simpa [Frame.atR, hb] using hf'⟩
structure ADefersAt (P : Program) (f : FuncId) (args : List AV) (Δ : List HP) (u u' : G → FrameMode → Prop) (R : APost) : Prop where
 callable : callable P f = true
 run : ∀ g B us, Sim g B Δ → relL g args us → ∀ m, u g m → CallsD P f us.toArray m g.w (fun e m' w' => u' g m' ∧ Post R g B e w')
def retM : G → FrameMode → Prop := fun _ m => m = .returning
def panM (x : AV) : G → FrameMode → Prop := fun g m => ∃ v, m = .panicking [{ v := v, recovered := false }] ∧ rel g x v
def recM : G → FrameMode → Prop := fun _ m => ∃ v, m = .panicking [{ v := v, recovered := true }]
def JD (P : Program) (f : FuncId) (u u' : G → FrameMode → Prop) (n : Nat) (R : APost) (todo : List Item) (env : Env) (Δ : List HP) : Prop :=
 ∀ g B tmps, Sim g B Δ → tmps.size = n → EnvR g env tmps → ∀ (b c : Frame) cs, b.fn = f → (b.kind = .deferred ∧ b.roundOf = none ∧ ∃ fn, P.funcs[f]? = some fn) → u g c.mode →
   ∃ e m' w' fr, u' g m' ∧ Post R g B e w' ∧ Comes P (lone (b.atR { tmps := tmps, defers := [] } todo) (c :: cs) g.w) (lone fr ({ c with mode := m' } :: cs) w') e ∧ fr.kind = .deferred ∧ fr.going P w' e
theorem JD_seq {f : FuncId} {u u' : G → FrameMode → Prop} {x y : Code} (h : JD P f u u' n R (.code x :: .code y :: k) env Δ) : JD P f u u' n R (.code (.seq x y) :: k) env Δ := by
 intro g B tmps sm hn he b c cs hb hk hu
 obtain ⟨e, m', w', fr, h1, h2, h3, h4⟩ := h g B tmps sm hn he b c cs hb hk hu
 exact ⟨e, m', w', fr, h1, h2, .of_steps (.one stepR_seq) h3, h4⟩
theorem JD_region {f : FuncId} {u u' : G → FrameMode → Prop} {id : Nat} {ops : Array Oper} (h : JD P f u u' n R (.inRegion ops (List.range ops.size) :: k) env Δ) : JD P f u u' n R (.code (.region id ops false) :: k) env Δ := by
 intro g B tmps sm hn he b c cs hb hk hu
 obtain ⟨e, m', w', fr, h1, h2, h3, h4⟩ := h g B tmps sm hn he b c cs hb hk hu
 exact ⟨e, m', w', fr, h1, h2, .of_steps (.one stepR_region) h3, h4⟩
theorem defersAt_of_JD {f : FuncId} {fn : Func} {c : Code} {u u' : G → FrameMode → Prop} {args : List AV} (hcl : callable P f = true) (hf : P.funcs[f]? = some fn) (hb : fn.body = some c) (hn : args.length ≤ fn.ntmps)
   (h : JD P f u u' fn.ntmps R [.code c] (argEnv 0 args) Δ) : ADefersAt P f args Δ u u' R := by
 refine ⟨hcl, fun g B us s hr m hu c' cs hm => ?_⟩
 have hl := relL_length hr
 let b : Frame := { (default : Frame) with fn := f, kind := .deferred }
 have henter : Frame.enter P f us.toArray .deferred = b.atR { tmps := us.toArray ++ Array.replicate (fn.ntmps - us.toArray.size) undef, defers := [] } [.code c] := by
   simp [Frame.enter, Frame.atR, hf, hb, b]; rfl
 obtain ⟨e, m', w', fr, h0, h1, h2, h3, h4⟩ := h g B (us.toArray ++ Array.replicate (fn.ntmps - us.toArray.size) undef) s (by simp; omega)
   (argEnv_rel hr (fun j v hj => by
     have : j < us.length := by
       rcases Nat.lt_or_ge j us.length with h | h
       · exact h
       · simp [List.getElem?_eq_none h] at hj
     rw [Nat.zero_add, Array.getElem?_append_left (by simpa using this)]
     simpa using hj)) b c' cs rfl ⟨rfl, rfl, fn, hf⟩ (hm ▸ hu)
 exact ⟨e, m', w', fr, ⟨h0, h1⟩, by rw [henter]; exact h2, h3, h4⟩
theorem JD_calm {f : FuncId} {ops : Array Oper} {i : Nat} {is : List Nat} {o : Oper} {as : Array Operand} {ats : Array TypeId} (ho : ops[i]? = some o) (hop : o.op = .call ⟨.builtin .recover, as, ats⟩) (hw : awanted ops env o = some true) (hd : o.dst.all (· < n) = true)
   (h : J P (.late f) n R (.inRegion ops is :: k) (env.put o.dst (.c .nilIface)) Δ) : JD P f retM retM n R (.inRegion ops (i :: is) :: k) env Δ := by
 intro g B tmps sm hn he b c cs hb hk hu
 have hg := stepGR_op (P := P) (b := b) (a := { tmps := tmps, defers := [] }) (k := k) (cs := c :: cs) (w := g.w) (rest := is) ho (awanted_eq he hw)
 rw [Oper.semAt_eq _ _ _ (by intro c hc; rw [hop] at hc; exact Op.noConfusion hc)] at hg
 have hrun : (execOp (({ tmps := tmps, defers := [] } : Act).eval) o).run P g.w = .ok .recover g.w := by
   simp only [execOp, hop, resolve, Sem.run_bind, Sem.run_pure, Result.andThen_ok]
   rfl
 have hfin : (b.atR { tmps := tmps, defers := [] } (.inRegion ops (i :: is) :: k)).finish .nilIface = b.atR (({ tmps := tmps, defers := [] } : Act).put o.dst .nilIface) (.inRegion ops is :: k) := by rw [Frame.finish_atR, ho]; rfl
 have hkd : (b.atR { tmps := tmps, defers := [] } (.inRegion ops (i :: is) :: k)).kind = .deferred := hk.1
 have htr := tryRecover_deferred hkd (c :: cs)
 have hrd : recoverD (c :: cs) = none := by simp only [recoverD]; rw [show c.mode = .returning from hu]
 rw [hrd] at htr
 have hst : step P (lone (b.atR { tmps := tmps, defers := [] } (.inRegion ops (i :: is) :: k)) (c :: cs) g.w) = .next (lone (b.atR (({ tmps := tmps, defers := [] } : Act).put o.dst .nilIface) (.inRegion ops is :: k)) (c :: cs) g.w) := by
   refine step_lone_go ?_
   rw [hg, ← hfin]
   have hro : b.roundOf = none := hk.2.1
   simp only [Frame.atR, hro] at htr ⊢
   simp [stepG.apply, hrun, htr]
 have he' : EnvR g (env.put o.dst (.c .nilIface)) (({ tmps := tmps, defers := [] } : Act).put o.dst .nilIface).tmps := he.put (fun j hj => by rw [hj] at hd; simpa [hn] using hd) rel_c
 obtain ⟨e2, w2, fr2, k1, k2, k3⟩ := h g B _ sm (by unfold Act.put; split <;> simp [hn]) he' b (c :: cs) hb hk
 rw [put_defers] at hst
 exact ⟨e2, c.mode, w2, fr2, hu, k1, .of_steps (.one hst) k2, k3⟩
theorem JD_take {f : FuncId} {ops : Array Oper} {i : Nat} {is : List Nat} {o : Oper} {as : Array Operand} {ats : Array TypeId} {x : AV} (ho : ops[i]? = some o) (hop : o.op = .call ⟨.builtin .recover, as, ats⟩) (hw : awanted ops env o = some true) (hd : o.dst.all (· < n) = true)
   (h : J P (.late f) n R (.inRegion ops is :: k) (env.put o.dst x) Δ) : JD P f (panM x) recM n R (.inRegion ops (i :: is) :: k) env Δ := by
 intro g B tmps sm hn he b c cs hb hk hu
 obtain ⟨v, hm, hv⟩ := hu
 have hg := stepGR_op (P := P) (b := b) (a := { tmps := tmps, defers := [] }) (k := k) (cs := c :: cs) (w := g.w) (rest := is) ho (awanted_eq he hw)
 rw [Oper.semAt_eq _ _ _ (by intro c hc; rw [hop] at hc; exact Op.noConfusion hc)] at hg
 have hrun : (execOp (({ tmps := tmps, defers := [] } : Act).eval) o).run P g.w = .ok .recover g.w := by
   simp only [execOp, hop, resolve, Sem.run_bind, Sem.run_pure, Result.andThen_ok]
   rfl
 have hfin : (b.atR { tmps := tmps, defers := [] } (.inRegion ops (i :: is) :: k)).finish v = b.atR (({ tmps := tmps, defers := [] } : Act).put o.dst v) (.inRegion ops is :: k) := by rw [Frame.finish_atR, ho]; rfl
 have hkd : (b.atR { tmps := tmps, defers := [] } (.inRegion ops (i :: is) :: k)).kind = .deferred := hk.1
 have htr := tryRecover_deferred hkd (c :: cs)
 have hrd : recoverD (c :: cs) = some (v, { c with mode := .panicking [{ v := v, recovered := true }] } :: cs) := by simp only [recoverD]; rw [hm]
 rw [hrd] at htr
 have hst : step P (lone (b.atR { tmps := tmps, defers := [] } (.inRegion ops (i :: is) :: k)) (c :: cs) g.w) = .next (lone (b.atR (({ tmps := tmps, defers := [] } : Act).put o.dst v) (.inRegion ops is :: k)) ({ c with mode := .panicking [{ v := v, recovered := true }] } :: cs) g.w) := by
   refine step_lone_go ?_
   rw [hg, ← hfin]
   have hro : b.roundOf = none := hk.2.1
   simp only [Frame.atR, hro] at htr ⊢
   simp [stepG.apply, hrun, htr]
 have he' : EnvR g (env.put o.dst x) (({ tmps := tmps, defers := [] } : Act).put o.dst v).tmps := he.put (fun j hj => by rw [hj] at hd; simpa [hn] using hd) hv
 obtain ⟨e2, w2, fr2, k1, k2, k3⟩ := h g B _ sm (by unfold Act.put; split <;> simp [hn]) he' b ({ c with mode := .panicking [{ v := v, recovered := true }] } :: cs) hb hk
 rw [put_defers] at hst
 exact ⟨e2, _, w2, fr2, ⟨v, rfl⟩, k1, .of_steps (.one hst) k2, k3⟩
theorem ADefersAt.under {f : FuncId} {args : List AV} {u u' : G → FrameMode → Prop} {Fr Δ0 : List HP} (h : ADefersAt P f args Δ u u' R) (hp : Δ0.Perm (Δ ++ Fr)) : ADefersAt P f args Δ0 u u' (fun a Δ' => ∃ Δ1, Δ' = Δ1 ++ Fr ∧ R a Δ1) := by
 refine ⟨h.callable, fun g B us s0 r m hu => ?_⟩
 have s := perm_sim s0 hp
 obtain ⟨B1, h1, h2, h3⟩ := sep_append s.sep
 intro c cs hm
 obtain ⟨e, m', w', fr, ⟨hu', g', B', a, Δ', rfl, hx, hs, hr, hR⟩, hst⟩ := h.run g B1 us ⟨s.fzlt, fun b hb => s.blt b (h1 b hb), fun b hb hn => s.disj b hb (h1 b hn), h2⟩ r m hu c cs hm
 refine ⟨e, m', _, fr, ⟨hu', g', fun b => B' b ∨ (B b ∧ ¬ B1 b), a, Δ' ++ Fr, rfl, ?_, ?_, hr, Δ', rfl, hR⟩, hst⟩
 · exact ⟨hx.os, hx.tape, hx.output, hx.size, fun b hb hn => hx.keep b hb (fun h => hn (h1 b h)), hx.fz, fun b hb => (hx.fzo b hb).imp id (.imp (h1 b) id),
     fun b hb => hb.elim (fun h => (hx.own b h).imp (h1 b) id) (fun h => .inl h.1)⟩
 · refine ⟨hs.fzlt, fun b hb => hb.elim (hs.blt b) (fun h => Nat.lt_of_lt_of_le (s.blt b h.1) hx.size), fun b hb hn => ?_, ?_⟩
   · rcases hn with hn | hn
     · exact hs.disj b hb hn
     · rcases hx.fzo b hb with h | h | h
       · exact s.disj b h hn.1
       · exact hn.2 h
       · have := s.blt b hn.1; omega
   · refine sep_join (B1 := B') (fun _ h => .inl h) hs.sep (sep_mono h3 (fun b hb => ⟨.inr hb, fun h => ?_⟩) hx.fz (fun b hb => ?_))
     · rcases hx.own b h with h | h
       · exact hb.2 h
       · have := s.blt b hb.1; omega
     · rcases hb with hb | hb
       · exact hx.keep b (s.fzlt b hb) (fun h => s.disj b hb (h1 b h))
       · exact hx.keep b (s.blt b hb.1) hb.2
theorem JO_retC {f h : FuncId} {fn : Func} {vs : List Value} {xs : List AV} {Δ1 Fr : List HP} {R1 : APost} (hf : P.funcs[f]? = some fn) (hlen : xs.length = vs.length) (hspec : ADefersAt P h xs Δ1 retM retM R1) (hp : Δ.Perm (Δ1 ++ Fr))
   (hpan : ∀ x Δ', R1 (.pan x) Δ' → False) (hR : ∀ y Δ', R1 (.ret y) Δ' → ∃ X, (aresultsM P env (Δ' ++ Fr) fn.results.toList).map packed = some X ∧ R (.ret X) (Δ' ++ Fr)) :
   J P (.owing f { target := .fn (.func h) vs.toArray, args := #[] }) n R (.code .ret :: k) env (isAll vs xs ++ Δ) := by
 intro g B tmps sm hn he b cs hb hk
 have hrel := isAll_rel hlen sm
 have sm2 : Sim g B Δ := isAll_drop sm
 have h1 := stepR_ret (P := P) (b := b) (a := { tmps := tmps, defers := [{ target := .fn (.func h) vs.toArray, args := #[] }] }) (k := k) (cs := cs) (w := g.w) hk.2.1
 have hinv : (invoke (.fn (.func h) vs.toArray) #[]).run P g.w = .ok (.enter h vs.toArray) g.w := by
   have := run_callFunc (P := P) (h := h) (w := g.w) (args := vs.toArray) hspec.callable
   simpa [invoke] using this
 let fr0 : Frame := { b.atR { tmps := tmps, defers := [{ target := .fn (.func h) vs.toArray, args := #[] }] } (.code .ret :: k) with mode := .returning }
 have h2 := step_defer (P := P) (fr := fr0) (cs := cs) (w := g.w) (d := { target := .fn (.func h) vs.toArray, args := #[] }) (ds := []) (by simp [fr0]) rfl rfl hinv
 obtain ⟨e, u', w', frX, ⟨hu', g', B', a, Δ', rfl, hx, hs, hr, Δ2, rfl, hR1⟩, hsteps, hkX, hgo⟩ := (hspec.under hp).run g B vs sm2 hrel .returning rfl { fr0 with defers := [] } cs rfl
 have hu2 : u' = .returning := hu'
 subst hu2
 cases a with
 | pan x => exact (hpan x Δ2 hR1).elim
 | ret y =>
   cases e with
   | returned v =>
     obtain ⟨X, hres, hX⟩ := hR y Δ2 hR1
     cases hxs : aresultsM P env (Δ2 ++ Fr) fn.results.toList with
     | none => simp [hxs] at hres
     | some ys =>
       simp only [hxs, Option.map_some, Option.some.injEq] at hres; subst hres
       obtain ⟨v2, k1, k2⟩ := resultsM_eq (P := P) hs (he.mono (sm2.le hx)) hxs
       have h3 := step_going_returned (c := { ({ fr0 with defers := [] } : Frame) with mode := .returning }) (cs := cs) hkX hgo
       refine ⟨.returned v2, g'.w, _, ⟨g', B', .ret (packed ys), Δ2 ++ Fr, rfl, hx, hs, k1, hX⟩, Steps.head h1 (Steps.head h2 (Steps.trans hsteps (.one h3))), ?_⟩
       show _ = _ ∧ Frame.leaving _ _ _ _
       have hb' : b.fn = f := hb
       refine ⟨hb, rfl, rfl, hk.1, fn, ?_, k2⟩
       simpa [fr0, Frame.atR, hb'] using hf
   | panicked ch => simp [endRel] at hr
   | outgrown => simp [endRel] at hr
theorem JO_call {f hd : FuncId} {fn : Func} {vs : List Value} {xs0 : List AV} {ops : Array Oper} {i : Nat} {is : List Nat} {o : Oper} {fo : Operand} {args : Array Operand} {ats : Array TypeId} {h : FuncId} {fs cs xs : List AV} {Δ1 Fr : List HP} {R1 : APost}
   (ho : ops[i]? = some o) (hop : o.op = .call ⟨.value fo, args, ats⟩) (hw : awanted ops env o = some true) (hdst : o.dst.all (· < n) = true)
   (hfo : env.eval fo = some (.fn (.func h) fs cs)) (has : env.evalL args.toList = some xs) (hp : Δ.Perm (Δ1 ++ Fr)) (hspec : ACalls P h (fs ++ xs ++ cs) Δ1 R1) (hlen : xs0.length = vs.length) (hf : P.funcs[f]? = some fn)
   (hk : ∀ x Δ', R1 (.ret x) Δ' → J P (.owing f { target := .fn (.func hd) vs.toArray, args := #[] }) n R (.inRegion ops is :: k) (env.put o.dst x) (isAll vs xs0 ++ (Δ' ++ Fr)))
   (hpan : ∀ y Δ', R1 (.pan y) Δ' → ∃ Δ2 Fr2 R2, ADefersAt P hd xs0 Δ2 (panM y) recM R2 ∧ (Δ' ++ Fr).Perm (Δ2 ++ Fr2) ∧ (∀ z D, R2 (.pan z) D → False) ∧ ∀ z D, R2 (.ret z) D → ∃ X, (aresultsM P env (D ++ Fr2) fn.results.toList).map packed = some X ∧ R (.ret X) (D ++ Fr2)) :
   J P (.owing f { target := .fn (.func hd) vs.toArray, args := #[] }) n R (.inRegion ops (i :: is) :: k) env (isAll vs xs0 ++ Δ) := by
 refine J_perm (Δ' := isAll vs xs0 ++ Δ) (List.Perm.refl _) ?_
 intro g B tmps sm hn he b cs' hb hkd
 have hperm : (isAll vs xs0 ++ Δ).Perm (Δ1 ++ (isAll vs xs0 ++ Fr)) := ((hp.append_left (isAll vs xs0)).trans (by
   rw [← List.append_assoc, ← List.append_assoc]
   exact List.perm_append_comm.append_right _))
 have hspec' := (hspec.frame (Fr := isAll vs xs0 ++ Fr)).perm hperm
 have hfe := Env.eval_rel he hfo
 simp only [rel] at hfe
 obtain ⟨us, vs', hfv, hu, hv⟩ := hfe
 have hargs := evalL_rel he has
 have hrel : relL g (fs ++ xs ++ cs) (us ++ args.toList.map (({ tmps := tmps, defers := [] } : Act).eval) ++ vs') := relL_append (relL_append hu hargs) hv
 let ds : List Deferred := [{ target := .fn (.func hd) vs.toArray, args := #[] }]
 obtain ⟨e, w', fr, ⟨g', B', a, Δ', rfl, hx, hs, hr, Δ2, rfl, hR⟩, hcomes, hfn, hleave⟩ := hspec'.run g B _ sm hrel (b.atR { tmps := tmps, defers := ds } (.inRegion ops (i :: is) :: k) :: cs')
 have hrun : (execOp (({ tmps := tmps, defers := [] } : Act).eval) o).run P g.w = .ok (.enter h (us ++ args.toList.map (({ tmps := tmps, defers := [] } : Act).eval) ++ vs').toArray) g.w := by
   have e1 : (us ++ args.toList.map (({ tmps := tmps, defers := [] } : Act).eval) ++ vs').toArray = us.toArray ++ args.map (({ tmps := tmps, defers := [] } : Act).eval) ++ vs'.toArray := by
     simp
   rw [e1]
   simp only [execOp, hop, resolve, hfv, Deferred.ofValue, Sem.run_bind, Sem.run_pure, Result.andThen_ok, invoke]
   exact run_callFunc hspec.callable
 have hg := stepGR_op (P := P) (b := b) (a := { tmps := tmps, defers := ds }) (k := k) (cs := cs') (w := g.w) (rest := is) ho (awanted_eq he hw)
 rw [Oper.semAt_eq _ _ _ (by intro c hc; rw [hop] at hc; exact Op.noConfusion hc)] at hg
 have henter : step P (lone (b.atR { tmps := tmps, defers := ds } (.inRegion ops (i :: is) :: k)) cs' g.w) =
     .next (lone (Frame.enter P h (us ++ args.toList.map (({ tmps := tmps, defers := [] } : Act).eval) ++ vs').toArray .normal) (b.atR { tmps := tmps, defers := ds } (.inRegion ops (i :: is) :: k) :: cs') g.w) :=
   step_lone_go (by
     have hrun' : (execOp (({ tmps := tmps, defers := ds } : Act).eval) o).run P g.w = .ok (.enter h (us ++ args.toList.map (({ tmps := tmps, defers := [] } : Act).eval) ++ vs').toArray) g.w := hrun
     rw [hg]; simp [stepG.apply, hrun', Frame.atR])
 cases a with
 | ret x =>
   cases e with
   | returned v =>
     simp only [endRel] at hr
     have hfin : (b.atR { tmps := tmps, defers := ds } (.inRegion ops (i :: is) :: k)).finish v = b.atR (({ tmps := tmps, defers := ds } : Act).put o.dst v) (.inRegion ops is :: k) := by rw [Frame.finish_atR, ho]; rfl
     have he' : EnvR g' (env.put o.dst x) (({ tmps := tmps, defers := [] } : Act).put o.dst v).tmps :=
       (he.mono (sm.le hx)).put (fun j hj => by rw [hj] at hdst; simpa [hn] using hdst) hr
     have hs2 : Sim g' B' (isAll vs xs0 ++ (Δ2 ++ Fr)) := perm_sim hs (by
       rw [← List.append_assoc, ← List.append_assoc]
       exact (List.perm_append_comm).append_right _)
     obtain ⟨e2, w2, fr2, k1, k2, k3⟩ := hk x Δ2 hR g' B' _ hs2 (by unfold Act.put; split <;> simp [hn]) he' b cs' hb hkd
     have hst := step_leave_returned (cs := cs') (c := b.atR { tmps := tmps, defers := ds } (.inRegion ops (i :: is) :: k)) hleave
     rw [hfin, put_defers] at hst
     exact ⟨e2, w2, fr2, k1.ext hx, .of_steps (.head henter (Steps.trans hcomes (.one hst))) k2, k3⟩
   | panicked ch => simp [endRel] at hr
   | outgrown => simp [endRel] at hr
 | pan x =>
   cases e with
   | returned v => simp [endRel] at hr
   | panicked ch =>
     simp only [endRel] at hr
     obtain ⟨pv, rfl, hpv⟩ := hr
     have hst := step_leave_panicked (cs := cs') (c := b.atR { tmps := tmps, defers := ds } (.inRegion ops (i :: is) :: k)) hleave
     rw [Frame.raise_atR] at hst
     obtain ⟨Δd, Fr2, R2, hdef, hpd, hnp, hfinal⟩ := hpan x Δ2 hR
     have hs2 : Sim g' B' (isAll vs xs0 ++ (Δ2 ++ Fr)) := perm_sim hs (by
       rw [← List.append_assoc, ← List.append_assoc]
       exact (List.perm_append_comm).append_right _)
     have hrel2 := isAll_rel hlen hs2
     have sm3 : Sim g' B' (Δ2 ++ Fr) := isAll_drop hs2
     have hinv : (invoke (.fn (.func hd) vs.toArray) #[]).run P g'.w = .ok (.enter hd vs.toArray) g'.w := by
       have := run_callFunc (P := P) (h := hd) (w := g'.w) (args := vs.toArray) hdef.callable
       simpa [invoke] using this
     let fr0 : Frame := { b.atR { tmps := tmps, defers := ds } (.inRegion ops (i :: is) :: k) with mode := .panicking [{ v := pv, recovered := false }] }
     have h2 := step_defer (P := P) (fr := fr0) (cs := cs') (w := g'.w) (d := { target := .fn (.func hd) vs.toArray, args := #[] }) (ds := []) (by simp [fr0]) rfl rfl hinv
     obtain ⟨e, u', w', frX, ⟨hu', g2, B2, a, Δ', rfl, hx2, hs4, hr4, Δ4, rfl, hR1⟩, hsteps, hkX, hgo⟩ := (hdef.under hpd).run g' B' vs sm3 hrel2 _ ⟨pv, rfl, hpv⟩ { fr0 with defers := [] } cs' rfl
     obtain ⟨pv2, rfl⟩ := hu'
     cases a with
     | pan z => exact (hnp z Δ4 hR1).elim
     | ret y =>
       cases e with
       | returned v =>
         obtain ⟨X, hres, hX⟩ := hfinal y Δ4 hR1
         cases hxs : aresultsM P env (Δ4 ++ Fr2) fn.results.toList with
         | none => simp [hxs] at hres
         | some ys =>
           simp only [hxs, Option.map_some, Option.some.injEq] at hres; subst hres
           obtain ⟨v2, k1, k2⟩ := resultsM_eq (P := P) hs4 ((he.mono (sm.le hx)).mono (sm3.le hx2)) hxs
           have h3 := step_going_returned (c := { ({ fr0 with defers := [] } : Frame) with mode := .panicking [{ v := pv2, recovered := true }] }) (cs := cs') hkX hgo
           refine ⟨.returned v2, g2.w, _, ⟨g2, B2, .ret (packed ys), Δ4 ++ Fr2, rfl, hx.trans hx2, hs4, k1, hX⟩, Steps.head henter (Steps.trans hcomes (Steps.head hst (Steps.head h2 (Steps.trans hsteps (.one h3))))), ?_⟩
           show _ = _ ∧ Frame.leaving _ _ _ _
           have hb' : b.fn = f := hb
           refine ⟨hb, rfl, rfl, hkd.1, fn, ?_, k2⟩
           simpa [fr0, Frame.atR, hb'] using hf
       | panicked ch => simp [endRel] at hr4
       | outgrown => simp [endRel] at hr4
   | outgrown => simp [endRel] at hr
theorem JO_calls {f hd : FuncId} {fn : Func} {vs : List Value} {xs0 : List AV} {ops : Array Oper} {i : Nat} {is : List Nat} {dst : Option Tmp} {h : FuncId} {as : List AV} {Δ1 Fr : List HP} {R1 : APost} (hat : callAt ops env n i = some (dst, h, as)) (hspec : ACalls P h as Δ1 R1) (hp : Δ.Perm (Δ1 ++ Fr)) (hlen : xs0.length = vs.length) (hf : P.funcs[f]? = some fn)
   (hk : ∀ x Δ', R1 (.ret x) Δ' → J P (.owing f { target := .fn (.func hd) vs.toArray, args := #[] }) n R (.inRegion ops is :: k) (env.put dst x) (isAll vs xs0 ++ (Δ' ++ Fr)))
   (hpan : ∀ y Δ', R1 (.pan y) Δ' → ∃ Δ2 Fr2 R2, ADefersAt P hd xs0 Δ2 (panM y) recM R2 ∧ (Δ' ++ Fr).Perm (Δ2 ++ Fr2) ∧ (∀ z D, R2 (.pan z) D → False) ∧ ∀ z D, R2 (.ret z) D → ∃ X, (aresultsM P env (D ++ Fr2) fn.results.toList).map packed = some X ∧ R (.ret X) (D ++ Fr2)) :
   J P (.owing f { target := .fn (.func hd) vs.toArray, args := #[] }) n R (.inRegion ops (i :: is) :: k) env (isAll vs xs0 ++ Δ) := by
 unfold callAt at hat
 split at hat
 · rename_i dst' fo args ats ty pos aft gd ho
   split at hat
   · rename_i hw
     split at hat
     · rename_i hd
       split at hat
       · rename_i h' fs cs xs hfo has
         simp only [Option.some.injEq, Prod.mk.injEq] at hat
         obtain ⟨rfl, rfl, rfl⟩ := hat
         refine JO_call ho rfl ?_ hd hfo has hp hspec hlen hf hk hpan
         simpa only [awanted] using hw
       · simp at hat
     · simp at hat
   · simp at hat
 · simp at hat
end
end
section
open Go
section
variable {P : Program} {ops : Array Oper} {n : Nat} {f : Shape} {R : APost} {k : List Item} {env : Env} {Δ : List HP}
end
end
section
open Go
def OwnO (e : TypeId) (a : List UInt8) (v : Value) (D : List HP) : Prop :=
 ∃ b o cap cells, v = .slice (some ⟨b, o, none⟩) a.length cap ∧ D = [.box b e cells] ∧ (cells.drop o).take a.length = (bytesRows a).flatten ∧ a.length ≤ cap ∧ o + cap ≤ cells.length
theorem flatB_len (a : List UInt8) : (bytesRows a).flatten.length = a.length := by simp [bytesRows_flatten]
theorem own_toO {e : TypeId} {a : List UInt8} {v : Value} {D : List HP} (h : OwnB e a v D) (ha : a ≠ []) : OwnO e a v D := by
 cases h with
 | nil p e1 e2 => exact absurd (List.eq_nil_of_length_eq_zero e2) ha
 | box b cap sp c1 c2 c3 =>
   refine ⟨b, 0, cap, _, rfl, rfl, ?_, c3, ?_⟩
   · rw [List.drop_zero, ← flatB_len a, List.take_left]
   · rw [List.length_append, c1, c2]; omega
theorem ownO_drop {e : TypeId} {a : List UInt8} {b o cap : Nat} {cells : List AV} (k : Nat) (hk : k ≤ a.length) (h1 : (cells.drop o).take a.length = (bytesRows a).flatten) (h2 : a.length ≤ cap) (h3 : o + cap ≤ cells.length) :
   OwnO e (a.drop k) (.slice (some ⟨b, o + k, none⟩) (a.drop k).length (cap - k)) [.box b e cells] := by
 refine ⟨b, o + k, cap - k, cells, rfl, rfl, ?_, by rw [List.length_drop]; omega, by omega⟩
 have e1 : (bytesRows (a.drop k)).flatten = (bytesRows a).flatten.drop k := by
   simp only [bytesRows_flatten, List.map_drop]
 rw [e1, ← h1, List.length_drop, List.drop_take, List.drop_drop]
theorem own_freezeO {e : TypeId} {a : List UInt8} {v : Value} {D Fr : List HP} {g : G} {B : Nat → Prop} (sm : Sim g B (D ++ Fr)) (how : OwnO e a v D) (hmax : a.length ≤ maxRows) :
   ∃ g' B', g'.w = g.w ∧ Ext g B g' B' ∧ Sim g' B' (HP.is v (.sl 1 (bytesRows a)) :: Fr) := by
 obtain ⟨b, o, cap, cells, rfl, rfl, k1, k2, k3⟩ := how
 obtain ⟨B', h1, h2, h3⟩ := sep_freeze sm
 refine ⟨⟨fun b' => g.fz b' ∨ b' = b, g.w⟩, B', rfl, h1, h2.fzlt, h2.blt, h2.disj, fun _ => False, fun _ h => h.elim, ?_, sep_mono h2.sep (fun b hb => ⟨hb, id⟩) (fun _ h => h) (fun _ _ => rfl)⟩
 show rel _ _ _
 simp only [rel]
 have hd := relC_drop h3 o
 rw [Nat.zero_add, ← List.take_append_drop a.length (cells.drop o), k1] at hd
 exact ⟨_, cap, by rw [bytesRows_length], ⟨by rw [bytesRows_length]; exact k2, by rw [bytesRows_length]; exact hmax⟩, .inr ⟨b, o, rfl, .inr rfl, relR_of_flat hd (bytes_row a)⟩⟩
theorem J_freezeO {P : Program} {f : Shape} {n : Nat} {R : APost} {todo : List Item} {env : Env} {e : TypeId} {a : List UInt8} {v : Value} {D Fr : List HP} (how : OwnO e a v D) (hmax : a.length ≤ maxRows)
   (h : J P f n R todo env (HP.is v (.sl 1 (bytesRows a)) :: Fr)) : J P f n R todo env (Fr ++ D) := by
 refine J_perm (Δ' := D ++ Fr) List.perm_append_comm ?_
 intro g B tmps sm hn he b cs hb hk
 obtain ⟨g', B', hw, hx, hs'⟩ := own_freezeO sm how hmax
 obtain ⟨e, w', fr, k1, k2⟩ := h g' B' tmps hs' hn (he.mono (sm.le hx)) b cs hb hk
 rw [hw] at k2
 exact ⟨e, w', fr, k1.ext hx, k2⟩
theorem appendO_bi {P : Program} {sT xT e : TypeId} {ats : List TypeId} {Δ D Fr : List HP} {a b1 : List UInt8} {bu : Value} (hty : appTy P sT xT = some (e, 1)) (how : OwnO e a bu D) (hp : Δ.Perm (Fr ++ D)) (hmax : a.length + b1.length ≤ 2 ^ 38) :
   BiOK P .append (sT :: xT :: ats) [.c bu, .sl 1 (bytesRows b1)] Δ (fun r Δ' => ∃ v D', r = .c v ∧ Δ' = Fr ++ D' ∧ OwnO e (a ++ b1) v D') := by
 intro g B us ats' ty cs hats sm hl
 obtain ⟨b, o, cap, cells, rfl, rfl, k1, k2, k3⟩ := how
 have sm' : Sim g B ([.box b e cells] ++ Fr) := ⟨sm.fzlt, sm.blt, sm.disj, sep_perm (hp.trans List.perm_append_comm) sm.sep⟩
 have hg : getBox ([HP.box b e cells] ++ Fr) b = some (e, cells) := by simp [getBox]
 have hsrc : srcOf ([HP.box b e cells] ++ Fr) 1 (.sl 1 (bytesRows b1)) = some (b1.length, (bytesRows b1).flatten) := by simp [srcOf, bytesRows_length]
 have hfl : (bytesRows (a ++ b1)).flatten = (bytesRows a).flatten ++ (bytesRows b1).flatten := by rw [bytesRows_append, List.flatten_append]
 by_cases hfit : a.length + b1.length ≤ cap
 · obtain ⟨g', B', x, Δ', v, q1, q2, q3, q4, rfl, rfl⟩ := appendIn_bi (P := P) (ats := ats) hty hsrc hfit hg bytes_cell (by omega) g B us ats' ty cs hats sm' hl
   have hset : setBox ([HP.box b e cells] ++ Fr) b (cells.take (o + a.length * 1) ++ (bytesRows b1).flatten ++ cells.drop (o + (a.length + b1.length) * 1)) = .box b e (cells.take (o + a.length * 1) ++ (bytesRows b1).flatten ++ cells.drop (o + (a.length + b1.length) * 1)) :: Fr := by simp [setBox]
   rw [hset] at q3
   refine ⟨g', B', _, Fr ++ [.box b e (cells.take (o + a.length * 1) ++ (bytesRows b1).flatten ++ cells.drop (o + (a.length + b1.length) * 1))], v, q1, q2, ⟨q3.fzlt, q3.blt, q3.disj, sep_perm (List.perm_append_singleton _ _).symm q3.sep⟩, q4, _, _, rfl, rfl, b, o, cap, _, by rw [List.length_append], rfl, ?_, by rw [List.length_append]; exact hfit, ?_⟩
   · rw [Nat.mul_one, Nat.mul_one, hfl, List.append_assoc, List.drop_append_of_le_length (by rw [List.length_take]; omega), List.drop_take, Nat.add_sub_cancel_left, k1, ← List.append_assoc, ← flatB_len (a ++ b1), hfl, List.take_left]
   · simp only [List.length_append, List.length_take, List.length_drop, flatB_len]; omega
 · have hbase : srcOf ([HP.box b e cells] ++ Fr) 1 (.c (.slice (some ⟨b, o, none⟩) a.length cap)) = some (a.length, (bytesRows a).flatten) := by
     simp only [srcOf, hg]
     rw [if_pos (by omega), Nat.mul_one, k1]
   obtain ⟨g', B', x, Δ', v, q1, q2, q3, q4, v', D', rfl, rfl, how2, -⟩ := grow_bi (P := P) (ats := ats) hty hbase hsrc (by omega) hmax g B us ats' ty cs hats sm' hl
   have hO : OwnB e (a ++ b1) v' D' := ownB_app how2
   refine ⟨g', B', _, Fr ++ D', v, q1, q2, ⟨q3.fzlt, q3.blt, q3.disj, ?_⟩, q4, _, _, rfl, rfl, own_toO hO ?_⟩
   · have h3 := sep_perm (l' := HP.box b e cells :: (Fr ++ D')) (by simpa using (List.perm_append_comm (l₁ := D') (l₂ := HP.box b e cells :: Fr))) q3.sep
     obtain ⟨_, _, _, h4⟩ := h3
     exact sep_mono h4 (fun _ h => h.1) (fun _ h => h) (fun _ _ => rfl)
   · intro h
     have := congrArg List.length h
     rw [List.length_append, List.length_nil] at this
     omega
end
end Go.Av
