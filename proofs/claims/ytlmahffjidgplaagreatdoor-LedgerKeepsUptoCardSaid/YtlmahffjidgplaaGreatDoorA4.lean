/- A part of the proof: what the calls do, told by values. -/
import Derived.Test.YtlmahffjidgplaaGreatDoorA3
import Derived.Lib.Overlaps
section
namespace Go.Av
open Go
set_option linter.unusedVariables false
set_option linter.unusedSimpArgs false
section
variable {P : Program}

/-- Appended within the room that there is: the same box. -/
theorem appendIn_bi {sT xT e : TypeId} {ats : List TypeId} {s b o n sLen sCap : Nat} {t : TypeId} {Δ : List HP} {x : AV} {cells cs : List AV} (hty : appTy P sT xT = some (e, s))
    (hsrc : srcOf Δ s x = some (n, cs)) (hfit : sLen + n ≤ sCap) (hg : getBox Δ b = some (t, cells)) (hc : cs.all AV.isCell = true) (hl : o + (sLen + n) * s ≤ cells.length) :
    BiOK P .append (sT :: xT :: ats) [.c (.slice (some ⟨b, o, none⟩) sLen sCap), x] Δ (fun r Δ' => r = .c (.slice (some ⟨b, o, none⟩) (sLen + n) sCap) ∧ Δ' = setBox Δ b (cells.take (o + sLen * s) ++ cs ++ cells.drop (o + (sLen + n) * s))) := by
  intro g B us ats' ty cs' hats sm hl'
  obtain ⟨hu, ⟨ag, ht⟩, nb, zs, h2, h3, h4, h5, h6, h7⟩ := appTy_spec hty
  simp only [relL] at hl'
  obtain ⟨u, _, rfl, hbu, w, _, rfl, hx, rfl⟩ := hl'
  simp only [rel] at hbu; subst hbu
  obtain ⟨o1, k3, _⟩ := srcOf_run (P := P) sm hx hsrc
  obtain ⟨g', q1, q2, q3⟩ := append_in (P := P) (e := e) sm hx hsrc hfit hg hc hl
  refine ⟨g', B, .c _, _, _, ?_, q2, q3, rel_c, rfl, rfl⟩
  have h0 : ats'[0]? = some sT := by rw [← Array.getElem?_toList, hats]; rfl
  have h1 : ats'[1]? = some xT := by rw [← Array.getElem?_toList, hats]; rfl
  simp only [builtin, Sem.run_bind]
  rw [append_core hu ht h6 h0 h1 k3, q1]; rfl

/-- Put behind nothing: the call's own. -/
theorem append0_bi {sT xT e : TypeId} {ats : List TypeId} {s n : Nat} {Δ : List HP} {x : AV} {cs : List AV} (hty : appTy P sT xT = some (e, s)) (hsrc : srcOf Δ s x = some (n, cs)) (hc : cs.all AV.isCell = true) (hmax : n ≤ 2 ^ 38) :
    BiOK P .append (sT :: xT :: ats) [.sl0, x] Δ (fun r Δ' => ∃ v D', r = .c v ∧ Δ' = Δ ++ D' ∧ Own e s cs n v D') := by
  intro g B us ats' ty cs' hats sm hl
  simp only [relL] at hl
  obtain ⟨u, _, rfl, hbu, w, _, rfl, hx, rfl⟩ := hl
  have hbu' := hbu
  simp only [rel] at hbu
  obtain ⟨a, rfl⟩ := hbu
  obtain ⟨g', B', y, Δ', v, h1, h2, h3, h4, v', D', rfl, rfl, h5⟩ := append_bi (Fr := Δ) (D := []) (ats := ats) (x := x) hty (Own.nil a rfl rfl) (by simp) (by simpa using hsrc) hc (by omega) g B [.slice a 0 0, w] ats' ty cs' hats sm (by simp only [relL]; exact ⟨_, _, rfl, rel_c, _, _, rfl, hx, rfl⟩)
  exact ⟨g', B', _, _, v, h1, h2, h3, h4, v', D', rfl, rfl, by simpa using h5⟩

/-- What is put behind what: n zeros. -/
def appTyZ (P : Program) (sT xT : TypeId) : Option (TypeId × Nat) :=
  match P.underlying sT, P.underlying xT with
  | some (.slice e), some (.int _) => match tk P e, tkBytes P e, tkZero P e with
    | some (s, _), some nb, some zs => if nb ≤ 256 ∧ 0 < nb ∧ 0 < s ∧ zs.length = s then some (e, s) else none
    | _, _, _ => none
  | _, _ => none

theorem appTyZ_spec {sT xT e : TypeId} {s : Nat} (h : appTyZ P sT xT = some (e, s)) : P.underlying sT = some (.slice e) ∧ (∃ k, P.underlying xT = some (.int k)) ∧ (∃ ag, tk P e = some (s, ag)) ∧ ∃ nb zs, tkBytes P e = some nb ∧ tkZero P e = some zs ∧ nb ≤ 256 ∧ 0 < nb ∧ 0 < s ∧ zs.length = s := by
  unfold appTyZ at h
  split at h
  · rename_i e' k hu hx
    split at h
    · rename_i s' ag nb zs h1 h2 h3
      split at h
      · rename_i hc
        simp only [Option.some.injEq, Prod.mk.injEq] at h
        obtain ⟨rfl, rfl⟩ := h
        exact ⟨hu, ⟨k, hx⟩, ⟨ag, h1⟩, nb, zs, h2, h3, hc.1, hc.2.1, hc.2.2.1, hc.2.2.2⟩
      · simp at h
    · simp at h
  · simp at h

/-- n zeros put behind, beyond the room that there is: a new box; the old one stays as it was. -/
theorem growZ_bi {sT xT e : TypeId} {ats : List TypeId} {s n sLen sCap : Nat} {k : IntKind} {Δ : List HP} {a : Option Addr} {old : List AV} (hty : appTyZ P sT xT = some (e, s)) (hbase : srcOf Δ s (.c (.slice a sLen sCap)) = some (sLen, old))
    (hn : 0 < n) (hgr : sCap < sLen + n) (hmax : sLen + n ≤ 2 ^ 38) :
    BiOK P .append (sT :: xT :: ats) [.c (.slice a sLen sCap), .c (.int k n)] Δ (fun r Δ' => ∃ b cap more, r = .c (.slice (some ⟨b, 0, none⟩) (sLen + n) cap) ∧ Δ' = .box b e (old ++ more) :: Δ ∧ fresh Δ b ∧ more.length = (cap - sLen) * s ∧ sLen + n ≤ cap) := by
  intro g B us ats' ty cs' hats sm hl
  obtain ⟨hu, ⟨kx, hux⟩, ⟨ag, ht⟩, nb, zs, h2, h3, h4, h5, hs0, h7⟩ := appTyZ_spec hty
  simp only [relL] at hl
  obtain ⟨u, _, rfl, hbu, w, _, rfl, hw, rfl⟩ := hl
  simp only [rel] at hbu hw; subst hbu; subst hw
  obtain ⟨i1, hi1, hi2⟩ := run_bytes (P := P) (w := g.w) h2
  have hnc := nextslicecap_le hgr
  have hmul : Builtin.nextslicecap (sLen + n) sCap * i1.bytes ≤ 2 ^ 48 := by
    rw [hi2]
    calc Builtin.nextslicecap (sLen + n) sCap * nb ≤ (2 ^ 39 + 768) * 256 := Nat.mul_le_mul (by omega) h4
      _ ≤ 2 ^ 48 := by decide
  have hmax' : ¬ (((sLen + n : Nat) : Int) > IntKind.i64.max ∧ (True ∨ i1.bytes = 0)) := by
    rintro ⟨h, _⟩
    have : IntKind.i64.max = 9223372036854775807 := by rfl
    omega
  let q : Question := .appendCap (sLen + n) sCap e
  let newCap := q.cut (g.w.tape g.w.drawn q)
  have hcap : sLen + n ≤ newCap := by simp only [newCap, q, Question.cut]; omega
  obtain ⟨i3, hi3, hi4⟩ := run_bytes (P := P) (w := g.drew.w) h2
  obtain ⟨z, hz1, hz2⟩ := run_zero (P := P) (w := g.drew.w) h3
  have sm' := drew_sim sm
  have hbr : rel g.drew (.c (.slice a sLen sCap)) (.slice a sLen sCap) := by simp only [rel]
  obtain ⟨o1, o2, o3⟩ := srcOf_run (P := P) sm' hbr hbase
  obtain ⟨uo, o4, o5⟩ := o3 sLen (Nat.le_refl _)
  rw [← o1, List.take_length] at o4
  let more := Builtin.zeroCells z.cells n ++ Builtin.zeroCells z.cells (newCap - (sLen + n))
  have hwrap : IntKind.i64.wrap (n : Int) = n := by rw [IntKind.wrap_i64]; omega
  have hnb : ¬ ((n : Int) * (i1.bytes : Nat) > 2 ^ 48) := by
    rw [hi2]
    have : n * nb ≤ 2 ^ 38 * 256 := Nat.mul_le_mul (by omega) h4
    have h' : ((n * nb : Nat) : Int) ≤ ((2 ^ 38 * 256 : Nat) : Int) := Int.ofNat_le.2 this
    rw [Int.natCast_mul] at h'
    have : ((2 ^ 38 * 256 : Nat) : Int) = 70368744177664 := by decide
    omega
  have hns : ¬ (n * s = 0) := Nat.mul_ne_zero (by omega) (by omega)
  have hgs := grow_sim (x := .box g.drew.w.heap.size e (old ++ more.toList.map .c)) (o := .cells (uo ++ more.toList).toArray e) sm' ⟨rfl, uo ++ more.toList, push_new, by
    have hL : Le g.drew (g.drew.grow (.cells (uo ++ more.toList).toArray e)) := ⟨fun _ h => h, fun b hb => push_get (sm'.fzlt b hb)⟩
    exact relL_mono hL _ _ (relL_append o4 (relL_consts (g := g.drew) more.toList))⟩
  refine ⟨_, _, _, _, .slice (some ⟨g.w.heap.size, 0, none⟩) (sLen + n) newCap, ?_, drew_ext.trans hgs.1, hgs.2, rel_c, g.w.heap.size, newCap, more.toList.map .c, rfl, rfl, ?_, ?_, hcap⟩
  · have h0 : ats'[0]? = some sT := by rw [← Array.getElem?_toList, hats]; rfl
    have h1 : ats'[1]? = some xT := by rw [← Array.getElem?_toList, hats]; rfl
    simp only [builtin, Sem.run_bind]
    unfold Builtin.append_
    simp only [h0, h1, List.getElem?_toArray, List.getElem?_cons_zero, List.getElem?_cons_succ]
    rw [Sem.run_bind, run_underlying hu, Result.andThen_ok]
    simp only
    rw [Sem.run_bind, run_sizeOf ht, Result.andThen_ok]
    rw [Sem.run_bind, run_underlying hux, Result.andThen_ok]
    simp only
    rw [Sem.run_bind, Sem.run_pure, Result.andThen_ok]
    simp only [if_true, Bool.not_true, Bool.false_eq_true, if_false, asInt, asIntOf]
    simp only [Sem.run_bind, Sem.run_pure, Result.andThen_ok, hwrap]
    rw [if_neg (by omega)]
    simp only [Sem.run_bind, hi1, Result.andThen_ok]
    rw [if_neg hnb]
    simp only [Sem.run_bind, Sem.run_pure, Result.andThen_ok, Int.toNat_natCast]
    rw [if_neg (by omega)]
    simp only [Sem.run_bind, hi1, Result.andThen_ok]
    rw [if_neg hmax']
    simp only [Sem.run_bind, hi1, Result.andThen_ok]
    rw [if_neg (by omega)]
    simp only [Sem.run_bind]
    rw [run_choose, if_neg (by simp [Question.forced]), Result.andThen_ok]
    rw [show (typeInfo e).run P { g.w with drawn := g.w.drawn + 1 } = .ok i3 g.drew.w from hi3, Result.andThen_ok]
    rw [run_askRoom, Result.andThen_ok]
    rw [o5, Result.andThen_ok]
    rw [if_neg hns]
    simp only [Sem.run_bind, hz1, Result.andThen_ok, Sem.run_pure]
    have hcells : (uo.toArray ++ Builtin.zeroCells z.cells n ++ Builtin.zeroCells z.cells (newCap - (sLen + n))) = (uo ++ more.toList).toArray := by simp [more]
    rw [← hcells]
    rfl
  · exact fresh_of sm.sep (fun hB => by have := sm.blt _ hB; omega)
  · simp only [List.length_map, more, Array.toList_append, List.length_append, Array.length_toList, zeroCells_length]
    rw [show z.cells.size = s from by rw [hz2]; simpa using h7, ← Nat.add_mul]
    congr 1; omega

/-! ### Functions without a text of their own -/
structure XOK (P : Program) (h : FuncId) (as : List AV) (Δ : List HP) (x : AV) : Prop where
  run : ∀ g B us, Sim g B Δ → relL g as us → ∃ v, (callFunc h us.toArray).run P g.w = .ok (.value v) g.w ∧ rel g x v

theorem J_x {f : Shape} {n : Nat} {R : APost} {k : List Item} {env : Env} {Δ : List HP} {ops : Array Oper} {i : Nat} {is : List Nat} {dst : Option Tmp} {h : FuncId} {as : List AV} {x : AV}
    (hat : callAt ops env n i = some (dst, h, as)) (hs : XOK P h as Δ x) (hk : J P f n R (.inRegion ops is :: k) (env.put dst x) Δ) : J P f n R (.inRegion ops (i :: is) :: k) env Δ := by
  unfold callAt at hat
  split at hat
  · rename_i dst' fo args ats ty pos aft gd ho
    split at hat
    · rename_i hw
      split at hat
      · rename_i hd
        split at hat
        · rename_i h' fs cs xs hfo has
          simp only [Option.some.injEq, Prod.mk.injEq] at hat
          obtain ⟨rfl, rfl, rfl⟩ := hat
          refine J_op (K := fun y Δ' => y = x ∧ Δ' = Δ) ho (by simpa only [awanted] using hw) hd ?_ (by rintro y Δ' ⟨rfl, rfl⟩; exact hk)
          intro g B tmps sm he
          have hf := Env.eval_rel he hfo
          simp only [rel] at hf
          obtain ⟨us, vs, hfv, hu, hv⟩ := hf
          have hargs := evalL_rel he has
          have hrel : relL g (fs ++ xs ++ cs) (us ++ args.toList.map (({ tmps := tmps, defers := [] } : Act).eval) ++ vs) := relL_append (relL_append hu hargs) hv
          obtain ⟨v, h1, h2⟩ := hs.run g B _ sm hrel
          refine ⟨g, B, x, Δ, .value v, v, ?_, .inl rfl, .refl _ _, sm, h2, rfl, rfl⟩
          have e1 : (us ++ args.toList.map (({ tmps := tmps, defers := [] } : Act).eval) ++ vs).toArray = us.toArray ++ args.map (({ tmps := tmps, defers := [] } : Act).eval) ++ vs.toArray := by simp
          rw [e1] at h1
          simp only [execOp, resolve, hfv, Deferred.ofValue, Sem.run_bind, Sem.run_pure, Result.andThen_ok, invoke]
          exact h1
        · simp at hat
      · simp at hat
    · simp at hat
  · simp at hat

/-- Two slices in two boxes do not overlap. -/
theorem overlaps_x {h : FuncId} {fn : Func} {sT rT e : TypeId} {s b1 o1 b2 o2 l1 c1 l2 c2 : Nat} {ag : Bool} {t1 t2 : TypeId} {cs1 cs2 : List AV} {Δ : List HP} (hf : P.funcs[h]? = some fn) (hname : (fn.name == "runtime.NumGoroutine") = false)
    (hb : fn.body.isNone = true) (hn : Extern.findNext fn = none) (he : Extern.find fn = some (Extern.SlicesOverlaps.overlaps #[sT, sT] #[rT])) (hu : P.underlying sT = some (.slice e)) (ht : tk P e = some (s, ag))
    (h1 : getBox Δ b1 = some (t1, cs1)) (h2 : getBox Δ b2 = some (t2, cs2)) (hne : b1 ≠ b2) (hc : 0 < cs2.length) :
    XOK P h [.c (.slice (some ⟨b1, o1, none⟩) l1 c1), .c (.slice (some ⟨b2, o2, none⟩) l2 c2)] Δ (.c (.bool false)) := by
  refine ⟨fun g B us sm hl => ?_⟩
  simp only [relL] at hl
  obtain ⟨u, _, rfl, hu1, w, _, rfl, hu2, rfl⟩ := hl
  simp only [rel] at hu1 hu2; subst hu1; subst hu2
  obtain ⟨hB1, v1, k1, k2⟩ := getBox_spec sm.sep h1
  obtain ⟨hB2, v2, k3, k4⟩ := getBox_spec sm.sep h2
  have hl2 := relL_length k4
  refine ⟨.bool false, ?_, rel_c⟩
  rw [run_callFunc_extern hf hname hb hn he]
  have hsa : g.w.shape? b1 = some (t1, v1.length) := by simp [World.shape?, k1]
  have hsb : g.w.shape? b2 = some (t2, v2.length) := by simp [World.shape?, k3]
  have hfa : g.w.frozen? ⟨b1, o1, none⟩ = false := by simp [World.frozen?, k1]
  have hfe : g.w.frozen? ⟨b1, v1.length, none⟩ = false := by simp [World.frozen?, k1]
  have hnb : (b1 != b2) = true := by simpa using hne
  have hnb' : (b1 == b2) = false := by simpa using hne
  have hsz : (sizeOf e).run P g.w = .ok s g.w := run_sizeOf ht
  rw [Lib.run_overlaps_apart g.w sT rT e hu s (fun w => run_sizeOf ht) ⟨b1, o1, none⟩ ⟨b2, o2, none⟩ l1 c1 l2 c2 hne t1 t2 v1.length v2.length hsa hsb (by omega) hfa hfe]; rfl

/-- A slice that nobody writes any more and one of the call's own do not overlap. -/
theorem overlapsF_x {h : FuncId} {fn : Func} {sT rT e : TypeId} {s b2 o2 l2 c2 : Nat} {ag : Bool} {t2 : TypeId} {cs2 : List AV} {row : List AV} {rows : List (List AV)} {Δ : List HP} (hf : P.funcs[h]? = some fn) (hname : (fn.name == "runtime.NumGoroutine") = false)
    (hb : fn.body.isNone = true) (hn : Extern.findNext fn = none) (he : Extern.find fn = some (Extern.SlicesOverlaps.overlaps #[sT, sT] #[rT])) (hu : P.underlying sT = some (.slice e)) (ht : tk P e = some (s, ag)) (hs0 : 0 < s)
    (h2 : getBox Δ b2 = some (t2, cs2)) (hc : 0 < cs2.length) :
    XOK P h [.sl s (row :: rows), .c (.slice (some ⟨b2, o2, none⟩) l2 c2)] Δ (.c (.bool false)) := by
  refine ⟨fun g B us sm hl => ?_⟩
  simp only [relL] at hl
  obtain ⟨u, _, rfl, hu1, w, _, rfl, hu2, rfl⟩ := hl
  simp only [rel] at hu1 hu2; subst hu2
  obtain ⟨a, cap, rfl, hcap, hrow⟩ := hu1
  rcases hrow with hrow | ⟨b1, o1, rfl, hfz, hrel⟩
  · cases hrow
  simp only [relR] at hrel
  obtain ⟨hr1, hr2, -⟩ := hrel
  obtain ⟨y, hy⟩ : ∃ y, row[0]? = some y := ⟨_, List.getElem?_eq_getElem (by omega)⟩
  obtain ⟨cv, hcv, -⟩ := relC_get hr2 0 hy
  obtain ⟨hB2, v2, k3, k4⟩ := getBox_spec sm.sep h2
  have hl2 := relL_length k4
  have hne : b1 ≠ b2 := by rintro rfl; exact sm.disj _ hfz hB2
  have hsb : g.w.shape? b2 = some (t2, v2.length) := by simp [World.shape?, k3]
  have hfb : g.w.frozen? ⟨b2, o2, none⟩ = false := by simp [World.frozen?, k3]
  have hfe : g.w.frozen? ⟨b2, v2.length, none⟩ = false := by simp [World.frozen?, k3]
  obtain ⟨tA, kA, hsa⟩ : ∃ tA kA, g.w.shape? b1 = some (tA, kA + 1) := by
    unfold World.cell? at hcv
    unfold World.shape?
    cases hh : g.w.heap[b1]? with
    | none => simp [hh] at hcv
    | some o => cases o with
      | cells c el r =>
        have h3 : 0 < c.size := by
          cases hz : c.size with
          | zero =>
            have : c = #[] := Array.eq_empty_of_size_eq_zero hz
            subst this
            simp [hh] at hcv
          | succ n => omega
        exact ⟨el, c.size - 1, by simp only; congr 2; omega⟩
      | _ => simp [hh] at hcv
  refine ⟨.bool false, ?_, rel_c⟩
  rw [run_callFunc_extern hf hname hb hn he]
  have hnb : (b1 != b2) = true := by simpa using hne
  have hnb' : (b1 == b2) = false := by simpa using hne
  have hsz : (sizeOf e).run P g.w = .ok s g.w := run_sizeOf ht
  have hmain : (Extern.SlicesOverlaps.overlaps #[sT, sT] #[rT] #[.slice (some ⟨b1, o1, none⟩) (row :: rows).length cap, .slice (some ⟨b2, o2, none⟩) l2 c2]).run P g.w = .ok (.bool false) g.w := by
    change Sem.run P (α := Value) (do
      let some t := (#[sT, sT] : Array TypeId)[0]? | stuck "slices.overlaps: no parameter types"
      let .slice elem ← underlying t | stuck "slices.overlaps: slice type expected"
      let size ← sizeOf elem
      match (some ⟨b1, o1, none⟩ : Option Addr), (some ⟨b2, o2, none⟩ : Option Addr) with
      | some a, some b =>
        if (row :: rows).length = 0 ∨ l2 = 0 ∨ size = 0 then pure (Value.bool false)
        else if a.block != b.block && (← frozen a) && (← frozen b) then unsupported .addressObserved
        else do
          if a.block != b.block then do
            noView a; noView b
            if ← mayBeOne a b then return Value.bool ((← choose (.extern "sameAddr.stringBytes" 2)) == 1)
          pure (Value.bool (a.block == b.block && a.off < b.off + l2 * size && b.off < a.off + (row :: rows).length * size))
      | _, _ => pure (Value.bool false)) g.w = _
    by_cases h0 : (row :: rows).length = 0 ∨ l2 = 0 ∨ s = 0
    · simp only [List.getElem?_toArray, List.getElem?_cons_zero]
      rw [Sem.run_bind, run_underlying hu, Result.andThen_ok]
      simp only
      rw [Sem.run_bind, hsz, Result.andThen_ok]
      rw [if_pos h0, Sem.run_pure]
    · obtain ⟨kB, hkB⟩ : ∃ kB, v2.length = kB + 1 := ⟨v2.length - 1, by omega⟩
      rw [hkB] at hsb hfe
      simp only [List.getElem?_toArray, List.getElem?_cons_zero]
      rw [Sem.run_bind, run_underlying hu, Result.andThen_ok]
      simp only
      rw [Sem.run_bind, hsz, Result.andThen_ok]
      rw [if_neg h0]
      cases hfa : g.w.frozen? ⟨b1, o1, none⟩ <;> cases hfk : g.w.frozen? ⟨b1, kA + 1, none⟩ <;>
        simp [hnb, hnb', frozen, noView, viewAt, mayBeOne, stringish, shape, Sem.run, hsa, hsb, hfa, hfb, hfe, hfk]
  rw [hmain]; rfl
end
end Go.Av
end

section
namespace Go.Av
open Go
attribute [go_sem] appTyZ ite_self Nat.sub_zero Nat.zero_add
theorem getBox_head {b : Nat} {t : TypeId} {cells : List AV} {Δ : List HP} : getBox (.box b t cells :: Δ) b = some (t, cells) := by simp [getBox]
/-! ### Rows, laid one behind the other -/
theorem flat_len {α : Type} {s : Nat} : ∀ {rows : List (List α)}, (∀ r ∈ rows, r.length = s) → rows.flatten.length = rows.length * s
  | [], _ => by simp
  | r :: rows, h => by
    have h1 := h r (List.mem_cons_self ..)
    have h2 := flat_len (rows := rows) (fun r hr => h r (List.mem_cons_of_mem _ hr))
    simp only [List.flatten_cons, List.length_append, List.length_cons, h1, h2, Nat.add_mul]; omega
theorem flat_take {α : Type} {s : Nat} : ∀ {rows : List (List α)} (i : Nat), (∀ r ∈ rows, r.length = s) → rows.flatten.take (i * s) = (rows.take i).flatten
  | [], i, _ => by simp
  | r :: rows, 0, _ => by simp
  | r :: rows, i + 1, h => by
    have h1 := h r (List.mem_cons_self ..)
    have h2 := flat_take (rows := rows) i (fun r hr => h r (List.mem_cons_of_mem _ hr))
    simp only [List.flatten_cons, List.take_succ_cons, List.take_append, h1, ← h2]
    rw [List.take_of_length_le (by rw [h1, Nat.add_mul]; omega), show (i + 1) * s - s = i * s by rw [Nat.add_mul]; omega]
theorem flat_drop {α : Type} {s : Nat} : ∀ {rows : List (List α)} (i : Nat), (∀ r ∈ rows, r.length = s) → rows.flatten.drop (i * s) = (rows.drop i).flatten
  | [], i, _ => by simp
  | r :: rows, 0, _ => by simp
  | r :: rows, i + 1, h => by
    have h1 := h r (List.mem_cons_self ..)
    have h2 := flat_drop (rows := rows) i (fun r hr => h r (List.mem_cons_of_mem _ hr))
    simp only [List.flatten_cons, List.drop_succ_cons, List.drop_append, h1, ← h2]
    rw [List.drop_of_length_le (by rw [h1, Nat.add_mul]; omega), show (i + 1) * s - s = i * s by rw [Nat.add_mul]; omega, List.nil_append]

/-- One taken out, in place. -/
theorem del_cells {α : Type} {s : Nat} {rows : List (List α)} {sp : List α} {i : Nat} (hs : ∀ r ∈ rows, r.length = s) (hi : i < rows.length) :
    ∃ sp1, sp1.length = s + sp.length ∧ ((rows.flatten ++ sp).take (i * s) ++ ((rows.flatten ++ sp).drop ((i + 1) * s)).take ((rows.length - (i + 1)) * s) ++ (rows.flatten ++ sp).drop ((i + (rows.length - (i + 1))) * s)) = (rows.eraseIdx i).flatten ++ sp1 := by
  have hl := flat_len hs
  have m1 : i * s ≤ rows.length * s := Nat.mul_le_mul_right _ (by omega)
  have m2 : (i + 1) * s ≤ rows.length * s := Nat.mul_le_mul_right _ (by omega)
  have m3 : (i + 1) * s + (rows.length - (i + 1)) * s = rows.length * s := by rw [← Nat.add_mul]; congr 1; omega
  have m4 : (i + (rows.length - (i + 1))) * s + s = rows.length * s := by rw [← Nat.succ_mul]; congr 1; omega
  refine ⟨(rows.flatten ++ sp).drop ((i + (rows.length - (i + 1))) * s), ?_, ?_⟩
  · rw [List.length_drop, List.length_append, hl]; omega
  · congr 1
    rw [List.eraseIdx_eq_take_drop_succ, List.flatten_append, ← flat_take i hs, ← flat_drop (i + 1) hs, List.take_append_of_le_length (by omega), List.drop_append_of_le_length (by omega)]
    congr 1
    rw [List.take_append_of_le_length (by rw [List.length_drop, hl]; omega)]
    rw [List.take_of_length_le (by rw [List.length_drop, hl]; omega)]

/-- Then wiped behind. -/
theorem wipe_cells {α : Type} {c1 sp1 z : List α} {m s : Nat} (hz : z.length = s) (h1 : c1.length = m) (hsp : s ≤ sp1.length) :
    ∃ sp2, sp2.length = sp1.length ∧ ((c1 ++ sp1).take m ++ z ++ (c1 ++ sp1).drop (m + s)) = c1 ++ sp2 := by
  subst h1
  refine ⟨z ++ sp1.drop s, ?_, ?_⟩
  · rw [List.length_append, List.length_drop]; omega
  · rw [List.take_left, List.drop_append, List.append_assoc]; simp
/-- One put in: a new row, cut at i, then zeros; x laid at i, the rest behind. -/
theorem ins_grow {α : Type} {T more x R : List α} {a c r : Nat} (h1 : T.length = a) (h2 : (T ++ x).length = c) (h3 : R.length = r) (hm : x.length + r ≤ more.length) :
    ∃ rest, rest.length = more.length - x.length - r ∧ (((T ++ more).take a ++ x ++ (T ++ more).drop (a + x.length)).take c ++ R ++ ((T ++ more).take a ++ x ++ (T ++ more).drop (a + x.length)).drop (c + r)) = T ++ x ++ R ++ rest := by
  subst h1; subst h2; subst h3
  refine ⟨(more.drop x.length).drop R.length, by rw [List.length_drop, List.length_drop], ?_⟩
  rw [List.take_left, List.drop_append, List.drop_append, List.drop_of_length_le (by omega), List.nil_append, show T.length + x.length - T.length = x.length by omega]
  rw [List.take_left, List.drop_of_length_le (l := T ++ x) (by simp only [List.length_append]; omega), List.nil_append]
  simp

/-- One put in, in place. -/
theorem ins_in {α : Type} {C x R : List α} {a s c r : Nat} (hx : x.length = s) (hc : c = a + s) (hr : R.length = r) (hl : c + r ≤ C.length) :
    ((C.take c ++ R ++ C.drop (c + r)).take a ++ x ++ (C.take c ++ R ++ C.drop (c + r)).drop (a + s)) = C.take a ++ x ++ R ++ C.drop (c + r) := by
  subst hx; subst hc; subst hr
  have e1 : C.take (a + x.length) = C.take a ++ (C.drop a).take x.length := by rw [List.take_add]
  have l1 : (C.take a).length = a := by rw [List.length_take]; omega
  have l2 : ((C.drop a).take x.length).length = x.length := by rw [List.length_take, List.length_drop]; omega
  have e2 : (C.take (a + x.length) ++ R ++ C.drop (a + x.length + R.length)).take a = C.take a := by
    rw [List.append_assoc, e1, List.append_assoc, List.take_append_of_le_length (by omega), List.take_of_length_le (by omega)]
  have e3 : (C.take (a + x.length) ++ R ++ C.drop (a + x.length + R.length)).drop (a + x.length) = R ++ C.drop (a + x.length + R.length) := by
    rw [List.append_assoc, List.drop_append, List.drop_of_length_le (by rw [List.length_take]; omega), show a + x.length - (C.take (a + x.length)).length = 0 by rw [List.length_take]; omega]
    rfl
  rw [e2, e3]; simp

/-- Two boxes are two. -/
theorem J_ne2 {P : Program} {f : Shape} {n : Nat} {R : APost} {todo : List Item} {env : Env} {b1 b2 : Nat} {t1 t2 : TypeId} {c1 c2 : List AV} {Δ : List HP} (h : b1 ≠ b2 → b2 ≠ b1 → J P f n R todo env (.box b1 t1 c1 :: .box b2 t2 c2 :: Δ)) :
    J P f n R todo env (.box b1 t1 c1 :: .box b2 t2 c2 :: Δ) := by
  intro g B tmps sm
  obtain ⟨B1, h1, h2, B2, h3, h4, h5⟩ := sm.sep
  have hne : b1 ≠ b2 := by
    rintro rfl
    exact (h3 _ h4.1).2 h2.1
  exact h hne hne.symm g B tmps sm

/-- How much room there is. -/
theorem cap_bi {P : Program} {sT e : TypeId} {ats : List TypeId} {Δ : List HP} {a : Option Addr} {l c : Nat} (hu : P.underlying sT = some (.slice e)) : BiOK P .cap (sT :: ats) [.c (.slice a l c)] Δ (fun r Δ' => r = .c (.int .i64 c) ∧ Δ' = Δ) := by
  intro g B us ats' ty cs' hats sm hl
  simp only [relL] at hl
  obtain ⟨u, _, rfl, hbu, rfl⟩ := hl
  simp only [rel] at hbu; subst hbu
  have h0 : ats'[0]? = some sT := by rw [← Array.getElem?_toList, hats]; rfl
  refine ⟨g, B, .c (.int .i64 c), Δ, _, ?_, .refl _ _, sm, rel_c, rfl, rfl⟩
  simp only [builtin, Sem.run_bind]
  unfold Builtin.cap_
  simp only [h0, List.getElem?_toArray, List.getElem?_cons_zero]
  rw [Sem.run_bind, run_underlying hu, Result.andThen_ok]
  rfl

/-- A call that leaves what is owned as it was, with more beside it. -/
theorem ACalls.around {P : Program} {f : FuncId} {args : List AV} {D Δ Fr : List HP} {x : AV} (h : ACalls P f args D (fun r Δ' => r = .ret x ∧ Δ' = D)) (hp : Δ.Perm (D ++ Fr)) : ACalls P f args Δ (fun r Δ' => r = .ret x ∧ Δ' = Δ) := by
  have h2 := (h.frame (Fr := Fr)).perm hp
  refine ⟨h.callable, fun g B us s r => (h2.run g B us s r).mono ?_⟩
  rintro e w' ⟨g', B', a, Δ', h1, h3, h4, h5, Δ1, rfl, rfl, rfl⟩
  exact ⟨g', B', _, Δ, h1, h3, ⟨h4.fzlt, h4.blt, h4.disj, sep_perm hp.symm h4.sep⟩, h5, rfl, rfl⟩

theorem J_callr {P : Program} {f : Shape} {n : Nat} {R : APost} {k : List Item} {env : Env} {Δ : List HP} {ops : Array Oper} {i : Nat} {is : List Nat} {dst : Option Tmp} {h : FuncId} {as : List AV} {x : AV} (hat : callAt ops env n i = some (dst, h, as)) (hs : ACalls P h as Δ (fun r Δ' => r = .ret x ∧ Δ' = Δ))
    (hk : J P f n R (.inRegion ops is :: k) (env.put dst x) Δ) : J P f n R (.inRegion ops (i :: is) :: k) env Δ :=
  J_calls (Δ1 := Δ) (Fr := []) hat hs (by simp) (by rintro y Δ' ⟨e1, rfl⟩; cases e1; simpa using hk) (by rintro y Δ' ⟨e1, _⟩; cases e1)

/-- One row written. -/
theorem set_row {α : Type} {s : Nat} {rows : List (List α)} {sp x : List α} {i : Nat} (hs : ∀ r ∈ rows, r.length = s) (hi : i < rows.length) (hx : x.length = s) :
    ((rows.flatten ++ sp).take (i * s) ++ x ++ (rows.flatten ++ sp).drop (i * s + s)) = (rows.set i x).flatten ++ sp := by
  have hl := flat_len hs
  have m2 : i * s + s ≤ rows.length * s := by rw [← Nat.succ_mul]; exact Nat.mul_le_mul_right _ hi
  rw [List.take_append_of_le_length (by omega), List.drop_append_of_le_length (by omega), flat_take i hs, show i * s + s = (i + 1) * s by rw [Nat.add_mul]; omega, flat_drop (i + 1) hs]
  rw [List.set_eq_take_append_cons_drop, if_pos hi]
  simp

/-- One row read. -/
theorem get_row {α : Type} {s : Nat} {rows : List (List α)} {sp x : List α} {i : Nat} (hs : ∀ r ∈ rows, r.length = s) (hi : rows[i]? = some x) :
    (rows.flatten ++ sp).drop (i * s) = x ++ ((rows.drop (i + 1)).flatten ++ sp) := by
  obtain ⟨h1, h2⟩ := List.getElem?_eq_some_iff.1 hi
  have hl := flat_len hs
  have m2 : i * s ≤ rows.length * s := Nat.mul_le_mul_right _ (by omega)
  rw [List.drop_append_of_le_length (by omega), flat_drop i hs, List.drop_eq_getElem_cons h1, h2]
  simp
end Go.Av
end

section
namespace Go.Av
open Go
set_option linter.unusedVariables false
/-- A call with more beside what it takes; afterwards in an order of one's own. -/
theorem ACalls.reorder {P : Program} {f : FuncId} {args : List AV} {D Δ Fr : List HP} {R : APost} (h : ACalls P f args D R) (hp : Δ.Perm (D ++ Fr)) (X : List HP → List HP) (hX : ∀ D', (D' ++ Fr).Perm (X D')) :
    ACalls P f args Δ (fun r Δ' => ∃ D', R r D' ∧ Δ' = X D') := by
  have h2 := (h.frame (Fr := Fr)).perm hp
  refine ⟨h.callable, fun g B us s r => (h2.run g B us s r).mono ?_⟩
  rintro e w' ⟨g', B', a, Δ', h1, h3, h4, h5, Δ1, rfl, h6⟩
  exact ⟨g', B', a, X Δ1, h1, h3, ⟨h4.fzlt, h4.blt, h4.disj, sep_perm (hX Δ1) h4.sep⟩, h5, Δ1, h6, rfl⟩

/-- A nil slice handed over as one without rows. -/
theorem ACalls.nilArg {P : Program} {f : FuncId} {pre post : List AV} {s : Nat} {Δ : List HP} {R : APost} (h : ACalls P f (pre ++ .sl s [] :: post) Δ R) : ACalls P f (pre ++ .c (.slice none 0 0) :: post) Δ R := by
  refine h.args ?_
  intro g
  have : ∀ (pre : List AV) (us : List Value), relL g (pre ++ .c (.slice none 0 0) :: post) us → relL g (pre ++ .sl s [] :: post) us := by
    intro pre
    induction pre with
    | nil =>
      intro us h
      simp only [List.nil_append, relL] at h ⊢
      obtain ⟨v, vs, rfl, h1, h2⟩ := h
      simp only [rel] at h1
      subst h1
      exact ⟨_, vs, rfl, by simp only [rel]; exact ⟨none, 0, rfl, by simp [maxRows], .inl trivial⟩, h2⟩
    | cons x pre ih =>
      intro us h
      simp only [List.cons_append, relL] at h ⊢
      obtain ⟨v, vs, rfl, h1, h2⟩ := h
      exact ⟨v, vs, rfl, h1, ih vs h2⟩
  exact this pre

/-- A slice literal of the call's own, in a region that draws. -/
theorem Can_newslice {P : Program} {n : Nat} {ops : Array Oper} {i : Nat} {kont : Env → List HP → Prop} {V : Env} {c : List (Nat × Knd)} {Δ : List HP} {d : Tmp} {t e : TypeId} {len s : Nat} {ag : Bool} {zs : List Value} {parts : Array (Nat × Operand)} {ps : List (Nat × AV)} {xs : List AV} {ty : TypeId} {pos : String} {aft : Array Edge} {gd : Option (Nat × Bool)}
    (ho : ops[i]? = some ⟨some d, .buildSlice t len parts, ty, pos, aft, gd⟩) (hw : awanted ops V ⟨some d, .buildSlice t len parts, ty, pos, aft, gd⟩ = some true) (hd : d < n) (hu : P.underlying t = some (.slice e)) (ht : tk P e = some (s, ag)) (hz : tkZero P e = some zs) (hzl : zs.length = s)
    (h0 : 0 < len) (hs : 0 < s) (hb : len * s ≤ 2 ^ 24) (hp : V.evalP parts.toList = some ps) (hf : afill (fun i => some (i * s, s)) (zeros zs len) ps = some xs) (hxl : xs.length = len * s)
    (hk : ∀ v D, Own e s xs len v D → Can P ops n kont c ((d, .c v) :: V) (D ++ Δ)) : Can P ops n kont ((i, .act) :: c) V Δ := by
  refine EStep.op (K1 := fun r Δ' => ∃ v D, r = .c v ∧ Δ' = D ++ Δ ∧ Own e s xs len v D) ho hw (by simpa using hd) (fun e' hag => ?_) ?_
  · refine newslice_op rfl hu ht hz hzl h0 hs hb ?_ hf hxl
    rw [← hp]
    refine (evalP_agree (e := V) (e' := e') (xs := parts.toList.map (·.2)) (fun t ht => hag t ?_) (fun y hy => List.mem_map.2 ⟨y, hy, rfl⟩)).symm
    simp only [namesOf, ho, List.mem_append]
    refine .inl (.inl ?_)
    simpa [Op.operands] using ht
  · rintro x Δ' ⟨v, D, rfl, rfl, how⟩
    have := hk v D how
    simpa [dstOf, ho, Env.put] using this
end Go.Av
end
