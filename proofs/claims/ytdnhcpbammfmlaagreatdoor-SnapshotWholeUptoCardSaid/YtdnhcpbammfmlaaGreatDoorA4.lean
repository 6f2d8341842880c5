/- A part of the proof: what the calls do, told by values. -/
import Derived.Test.YtdnhcpbammfmlaaGreatDoorA3
import Derived.Lib.Overlaps
set_option linter.unusedVariables false
set_option linter.unusedSimpArgs false
namespace Go.Av
open Go
section
section
variable {P : Program}
theorem appendIn_bi {sT xT e : TypeId} {ats : List TypeId} {s b o n sLen sCap : Nat} {t : TypeId} {Δ : List HP} {x : AV} {cells cs : List AV} (hty : appTy P sT xT = some (e, s))
   (hsrc : srcOf Δ s x = some (n, cs)) (hfit : sLen + n ≤ sCap) (hg : getBox Δ b = some (t, cells)) (hc : cs.all AV.isCell = true) (hl : o + (sLen + n) * s ≤ cells.length) :
   BiOK P .append (sT :: xT :: ats) [.c (.slice (some ⟨b, o, none⟩) sLen sCap), x] Δ (fun r Δ' => r = .c (.slice (some ⟨b, o, none⟩) (sLen + n) sCap) ∧ Δ' = setBox Δ b (cells.take (o + sLen * s) ++ cs ++ cells.drop (o + (sLen + n) * s))) := by
 intro g B us ats' ty cs' hats sm hl'
 obtain ⟨hu, ⟨ag, ht⟩, nb, zs, h2, h3, h4, h5, h6, h7⟩ := appTy_spec hty
 simp only [relL] at hl'
 obtain ⟨u, _, rfl, hbu, w, _, rfl, hx, rfl⟩ := hl'
 simp only [rel] at hbu; subst hbu
 obtain ⟨o1, k3, _⟩ := srcOf_run (P := P) sm hx hsrc
 obtain ⟨g', q1, q2, q3⟩ := append_in (P := P) (e := e) sm hx hsrc hfit hg hc hl
 refine ⟨g', B, .c _, _, _, ?_, q2, q3, rel_c, rfl, rfl⟩
 have h0 : ats'[0]? = some sT := by rw [← Array.getElem?_toList, hats]; rfl
 have h1 : ats'[1]? = some xT := by rw [← Array.getElem?_toList, hats]; rfl
 simp only [builtin, Sem.run_bind]
 rw [append_core hu ht h6 h0 h1 k3, q1]; rfl
theorem append0_bi {sT xT e : TypeId} {ats : List TypeId} {s n : Nat} {Δ : List HP} {x : AV} {cs : List AV} (hty : appTy P sT xT = some (e, s)) (hsrc : srcOf Δ s x = some (n, cs)) (hc : cs.all AV.isCell = true) (hmax : n ≤ 2 ^ 38) :
   BiOK P .append (sT :: xT :: ats) [.sl0, x] Δ (fun r Δ' => ∃ v D', r = .c v ∧ Δ' = Δ ++ D' ∧ Own e s cs n v D') := by
 intro g B us ats' ty cs' hats sm hl
 simp only [relL] at hl
 obtain ⟨u, _, rfl, hbu, w, _, rfl, hx, rfl⟩ := hl
 have hbu' := hbu
 simp only [rel] at hbu
 obtain ⟨a, rfl⟩ := hbu
 obtain ⟨g', B', y, Δ', v, h1, h2, h3, h4, v', D', rfl, rfl, h5⟩ := append_bi (Fr := Δ) (D := []) (ats := ats) (x := x) hty (Own.nil a rfl rfl) (by simp) (by simpa using hsrc) hc (by omega) g B [.slice a 0 0, w] ats' ty cs' hats sm (by simp only [relL]; exact ⟨_, _, rfl, rel_c, _, _, rfl, hx, rfl⟩)
 exact ⟨g', B', _, _, v, h1, h2, h3, h4, v', D', rfl, rfl, by simpa using h5⟩
def appTyZ (P : Program) (sT xT : TypeId) : Option (TypeId × Nat) :=
 match P.underlying sT, P.underlying xT with
 | some (.slice e), some (.int _) => match tk P e, tkBytes P e, tkZero P e with
   | some (s, _), some nb, some zs => if nb ≤ 256 ∧ 0 < nb ∧ 0 < s ∧ zs.length = s then some (e, s) else none
   | _, _, _ => none
 | _, _ => none
theorem appTyZ_spec {sT xT e : TypeId} {s : Nat} (h : appTyZ P sT xT = some (e, s)) : P.underlying sT = some (.slice e) ∧ (∃ k, P.underlying xT = some (.int k)) ∧ (∃ ag, tk P e = some (s, ag)) ∧ ∃ nb zs, tkBytes P e = some nb ∧ tkZero P e = some zs ∧ nb ≤ 256 ∧ 0 < nb ∧ 0 < s ∧ zs.length = s := by
 unfold appTyZ at h
 split at h
 · rename_i e' k hu hx
   split at h
   · rename_i s' ag nb zs h1 h2 h3
     split at h
     · rename_i hc
       simp only [Option.some.injEq, Prod.mk.injEq] at h
       obtain ⟨rfl, rfl⟩ := h
       exact ⟨hu, ⟨k, hx⟩, ⟨ag, h1⟩, nb, zs, h2, h3, hc.1, hc.2.1, hc.2.2.1, hc.2.2.2⟩
     · simp at h
   · simp at h
 · simp at h
structure XOK (P : Program) (h : FuncId) (as : List AV) (Δ : List HP) (x : AV) : Prop where
 run : ∀ g B us, Sim g B Δ → relL g as us → ∃ v, (callFunc h us.toArray).run P g.w = .ok (.value v) g.w ∧ rel g x v
end
end
section
attribute [go_sem] appTyZ ite_self Nat.sub_zero Nat.zero_add
theorem flat_len {α : Type} {s : Nat} : ∀ {rows : List (List α)}, (∀ r ∈ rows, r.length = s) → rows.flatten.length = rows.length * s
 | [], _ => by simp
 | r :: rows, h => by
   have h1 := h r (List.mem_cons_self ..)
   have h2 := flat_len (rows := rows) (fun r hr => h r (List.mem_cons_of_mem _ hr))
   simp only [List.flatten_cons, List.length_append, List.length_cons, h1, h2, Nat.add_mul]; omega
theorem flat_drop {α : Type} {s : Nat} : ∀ {rows : List (List α)} (i : Nat), (∀ r ∈ rows, r.length = s) → rows.flatten.drop (i * s) = (rows.drop i).flatten
 | [], i, _ => by simp
 | r :: rows, 0, _ => by simp
 | r :: rows, i + 1, h => by
   have h1 := h r (List.mem_cons_self ..)
   have h2 := flat_drop (rows := rows) i (fun r hr => h r (List.mem_cons_of_mem _ hr))
   simp only [List.flatten_cons, List.drop_succ_cons, List.drop_append, h1, ← h2]
   rw [List.drop_of_length_le (by rw [h1, Nat.add_mul]; omega), show (i + 1) * s - s = i * s by rw [Nat.add_mul]; omega, List.nil_append]
theorem ACalls.around {P : Program} {f : FuncId} {args : List AV} {D Δ Fr : List HP} {x : AV} (h : ACalls P f args D (fun r Δ' => r = .ret x ∧ Δ' = D)) (hp : Δ.Perm (D ++ Fr)) : ACalls P f args Δ (fun r Δ' => r = .ret x ∧ Δ' = Δ) := by
 have h2 := (h.frame (Fr := Fr)).perm hp
 refine ⟨h.callable, fun g B us s r => (h2.run g B us s r).mono ?_⟩
 rintro e w' ⟨g', B', a, Δ', h1, h3, h4, h5, Δ1, rfl, rfl, rfl⟩
 exact ⟨g', B', _, Δ, h1, h3, ⟨h4.fzlt, h4.blt, h4.disj, sep_perm hp.symm h4.sep⟩, h5, rfl, rfl⟩
theorem J_callr {P : Program} {f : Shape} {n : Nat} {R : APost} {k : List Item} {env : Env} {Δ : List HP} {ops : Array Oper} {i : Nat} {is : List Nat} {dst : Option Tmp} {h : FuncId} {as : List AV} {x : AV} (hat : callAt ops env n i = some (dst, h, as)) (hs : ACalls P h as Δ (fun r Δ' => r = .ret x ∧ Δ' = Δ))
   (hk : J P f n R (.inRegion ops is :: k) (env.put dst x) Δ) : J P f n R (.inRegion ops (i :: is) :: k) env Δ :=
 J_calls (Δ1 := Δ) (Fr := []) hat hs (by simp) (by rintro y Δ' ⟨e1, rfl⟩; cases e1; simpa using hk) (by rintro y Δ' ⟨e1, _⟩; cases e1)
theorem get_row {α : Type} {s : Nat} {rows : List (List α)} {sp x : List α} {i : Nat} (hs : ∀ r ∈ rows, r.length = s) (hi : rows[i]? = some x) :
   (rows.flatten ++ sp).drop (i * s) = x ++ ((rows.drop (i + 1)).flatten ++ sp) := by
 obtain ⟨h1, h2⟩ := List.getElem?_eq_some_iff.1 hi
 have hl := flat_len hs
 have m2 : i * s ≤ rows.length * s := Nat.mul_le_mul_right _ (by omega)
 rw [List.drop_append_of_le_length (by omega), flat_drop i hs, List.drop_eq_getElem_cons h1, h2]
 simp
end
section
theorem ACalls.reorder {P : Program} {f : FuncId} {args : List AV} {D Δ Fr : List HP} {R : APost} (h : ACalls P f args D R) (hp : Δ.Perm (D ++ Fr)) (X : List HP → List HP) (hX : ∀ D', (D' ++ Fr).Perm (X D')) :
   ACalls P f args Δ (fun r Δ' => ∃ D', R r D' ∧ Δ' = X D') := by
 have h2 := (h.frame (Fr := Fr)).perm hp
 refine ⟨h.callable, fun g B us s r => (h2.run g B us s r).mono ?_⟩
 rintro e w' ⟨g', B', a, Δ', h1, h3, h4, h5, Δ1, rfl, h6⟩
 exact ⟨g', B', a, X Δ1, h1, h3, ⟨h4.fzlt, h4.blt, h4.disj, sep_perm (hX Δ1) h4.sep⟩, h5, Δ1, h6, rfl⟩
theorem ACalls.nilArg {P : Program} {f : FuncId} {pre post : List AV} {s : Nat} {Δ : List HP} {R : APost} (h : ACalls P f (pre ++ .sl s [] :: post) Δ R) : ACalls P f (pre ++ .c (.slice none 0 0) :: post) Δ R := by
 refine h.args ?_
 intro g
 have : ∀ (pre : List AV) (us : List Value), relL g (pre ++ .c (.slice none 0 0) :: post) us → relL g (pre ++ .sl s [] :: post) us := by
   intro pre
   induction pre with
   | nil =>
     intro us h
     simp only [List.nil_append, relL] at h ⊢
     obtain ⟨v, vs, rfl, h1, h2⟩ := h
     simp only [rel] at h1
     subst h1
     exact ⟨_, vs, rfl, by simp only [rel]; exact ⟨none, 0, rfl, by simp [maxRows], .inl trivial⟩, h2⟩
   | cons x pre ih =>
     intro us h
     simp only [List.cons_append, relL] at h ⊢
     obtain ⟨v, vs, rfl, h1, h2⟩ := h
     exact ⟨v, vs, rfl, h1, ih vs h2⟩
 exact this pre
end
end Go.Av
