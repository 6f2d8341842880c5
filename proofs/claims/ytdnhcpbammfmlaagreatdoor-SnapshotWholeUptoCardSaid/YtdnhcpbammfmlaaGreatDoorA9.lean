/- A part of the proof: what the calls do, told by values. -/
import Derived.Test.YtdnhcpbammfmlaaGreatDoorA4
import Derived.Carry
import Derived.OpenShut
import Derived.Deep.DeepHandedRow
import Derived.Below
set_option linter.unusedVariables false
set_option linter.unusedSimpArgs false
namespace Go.Av
open Go Go.RowKit
section
mutual
def bulk {H : Type} : DataW H → Nat
 | .lit (.string bytes) => bytes.length + 1
 | .lit _ => 1
 | .nil => 1
 | .ptr d => bulk d + 1
 | .slice elems spare => bulkAll elems + bulkAll spare + 1
 | .agg parts => bulkAll parts + 1
 | .iface _ d => bulk d + 1
 | .map entries => bulkEntries entries + 1
 | .held _ => 1
def bulkAll {H : Type} : List (DataW H) → Nat
 | [] => 0
 | d :: r => bulk d + bulkAll r
def bulkEntries {H : Type} : List (Lit × DataW H) → Nat
 | [] => 0
 | x :: r => bulkEntry x + bulkEntries r
def bulkEntry {H : Type} : Lit × DataW H → Nat
 | (.string bytes, d) => bytes.length + bulk d + 1
 | (_, d) => bulk d + 1
end
theorem bulk_pos {H : Type} (d : DataW H) : 1 ≤ bulk d := by
 cases d with
 | lit l => cases l <;> simp [bulk]
 | _ => simp [bulk]
theorem bulkAll_len {H : Type} : ∀ l : List (DataW H), l.length ≤ bulkAll l
 | [] => by simp [bulkAll]
 | d :: r => by have := bulk_pos d; have := bulkAll_len r; simp only [List.length_cons, bulkAll]; omega
theorem bulkAll_mem {H : Type} {d : DataW H} : ∀ {l : List (DataW H)}, d ∈ l → bulk d ≤ bulkAll l
 | [], h => by simp at h
 | e :: r, h => by
   simp only [bulkAll]
   rcases List.mem_cons.1 h with rfl | h
   · omega
   · have := bulkAll_mem h; omega
theorem mapM_some {α β : Type} {f : α → Option β} : ∀ {l : List α} {r : List β}, l.mapM f = some r → r.length = l.length ∧ ∀ (i : Nat) (x : α), l[i]? = some x → ∃ y : β, r[i]? = some y ∧ f x = some y
 | [], r, h => by
   simp only [List.mapM_nil, pure, Option.some.injEq] at h
   subst h; simp
 | a :: l, r, h => by
   rw [List.mapM_cons] at h
   cases hf : f a with
   | none => simp [hf] at h
   | some y =>
     cases hm : l.mapM f with
     | none => simp [hf, hm] at h
     | some ys =>
       simp only [hf, hm, Option.bind_eq_bind, Option.bind_some, pure, Option.some.injEq] at h
       subst h
       obtain ⟨h1, h2⟩ := mapM_some hm
       refine ⟨by simp [h1], fun i x hx => ?_⟩
       cases i with
       | zero => simp at hx; subst hx; exact ⟨y, rfl, hf⟩
       | succ i => simpa using h2 i x (by simpa using hx)
theorem exists_list {α : Type} {Q : Nat → α → Prop} : ∀ n : Nat, (∀ i, i < n → ∃ x, Q i x) → ∃ l : List α, l.length = n ∧ ∀ (i : Nat) (x : α), l[i]? = some x → Q i x
 | 0, _ => ⟨[], rfl, by simp⟩
 | n + 1, h => by
   obtain ⟨l, h1, h2⟩ := exists_list n fun i hi => h i (by omega)
   obtain ⟨x, hx⟩ := h n (by omega)
   refine ⟨l ++ [x], by simp [h1], fun i y hy => ?_⟩
   by_cases hi : i < l.length
   · rw [List.getElem?_append_left hi] at hy; exact h2 i y hy
   · rw [List.getElem?_append_right (by omega)] at hy
     have : i - l.length = 0 := by
       have := (List.getElem?_eq_some_iff.1 hy).1
       simp at this; omega
     rw [this] at hy
     simp at hy; subst hy
     have : i = n := by omega
     subst this; exact hx
theorem cells_get {w : World} {a : Addr} {n : Nat} {cs : List Value} (h : w.cells? 0 a n = some cs) : cs.length = n ∧ ∀ (j : Nat) (v : Value), cs[j]? = some v → w.cell? (a.add j) = some v := by
 unfold World.cells? at h
 rw [if_pos (Nat.zero_le _)] at h
 obtain ⟨h1, h2⟩ := mapM_some h
 rw [List.length_range] at h1
 refine ⟨h1, fun j v hv => ?_⟩
 have hj : j < n := by have := (List.getElem?_eq_some_iff.1 hv).1; omega
 obtain ⟨y, h3, h4⟩ := h2 j j (by simp [hj])
 rw [hv] at h3; cases h3
 exact h4
theorem relC_of {g : G} {b : Nat} : ∀ {xs : List AV} {us : List Value} {o : Nat}, relL g xs us → (∀ (j : Nat) (v : Value), us[j]? = some v → g.w.cell? ⟨b, o + j, none⟩ = some v) → relC g b o xs
 | [], _, _, _, _ => by simp [relC]
 | x :: xs, us, o, h, hc => by
   simp only [relL] at h
   obtain ⟨v, vs, rfl, h1, h2⟩ := h
   simp only [relC]
   exact ⟨⟨v, by simpa using hc 0 v rfl, h1⟩, relC_of h2 fun j u hu => by have := hc (j + 1) u (by simpa using hu); rw [show o + 1 + j = o + (j + 1) by omega]; exact this⟩
theorem relR_of {g : G} {s b : Nat} : ∀ {rs : List (List AV)} {o : Nat}, (∀ (i : Nat) (r : List AV), rs[i]? = some r → r.length = s ∧ relC g b (o + i * s) r) → relR g s b o rs
 | [], _, _ => by simp [relR]
 | r :: rs, o, h => by
   simp only [relR]
   obtain ⟨h1, h2⟩ := h 0 r rfl
   refine ⟨h1, by simpa using h2, relR_of fun i r' hr => ?_⟩
   obtain ⟨h3, h4⟩ := h (i + 1) r' (by simpa using hr)
   exact ⟨h3, by rw [show o + s + i * s = o + (i + 1) * s by rw [Nat.add_mul]; omega]; exact h4⟩
def contig (P : Program) : Nat → List Field → Option Nat
 | o, [] => some o
 | o, f :: fs => if f.offset = o then contig P (o + P.cellsOf f.type) fs else none
def plainT (P : Program) : Nat → TypeId → Bool
 | 0, _ => false
 | k + 1, t => match P.underlying t with
   | some .bool => true
   | some (.int _) => true
   | some .string => true
   | some (.slice e) => plainT P k e && decide (0 < P.cellsOf e)
   | some (.struct fs) => fs.toList.all (fun f => plainT P k f.type) && decide (contig P 0 fs.toList = some (P.cellsOf t))
   | _ => false
def FieldsAre (S : TypeId → List AV → Prop) : List Field → List AV → Prop
 | [], xs => xs = []
 | f :: fs, xs => ∃ p q, xs = p ++ q ∧ S f.type p ∧ FieldsAre S fs q
def Shp (P : Program) (M : Nat) : Nat → TypeId → List AV → Prop
 | 0, _, _ => False
 | k + 1, t, xs => match P.underlying t with
   | some .bool => ∃ b, xs = [.c (.bool b)]
   | some (.int kd) => ∃ n, xs = [.c (.int kd n)] ∧ (Lit.int kd n).wf = true
   | some .string => ∃ s : List UInt8, xs = [.c (.string (mkStr s))] ∧ s.length ≤ M
   | some (.slice e) => ∃ rows, xs = [.sl (P.cellsOf e) rows] ∧ rows.length ≤ M ∧ ∀ r ∈ rows, Shp P M k e r
   | some (.struct fs) => FieldsAre (Shp P M k) fs.toList xs
   | _ => False
theorem contig_le {P : Program} : ∀ {fs : List Field} {o e : Nat}, contig P o fs = some e → o ≤ e
 | [], o, e, h => by simp only [contig, Option.some.injEq] at h; omega
 | f :: fs, o, e, h => by
   simp only [contig] at h
   split at h
   · have := contig_le h; omega
   · cases h
theorem fields_rel {H : Type} {enc : TypeId × Value → H} {P : Program} {W : World} {sp : Nat → Bool} {held : Bool} {fuel k M : Nat} {cs : List Value}
   (ih : ∀ (t : TypeId) (cs : List Value) (d : DataW H) (ps : List MemPlace), plainT P k t = true → DataW.trod enc P W 0 sp held fuel t cs = some (d, ps) → bulk d ≤ M → ∃ xs, relL ⟨fun b => b < W.heap.size, W⟩ xs cs ∧ Shp P M k t xs) :
   ∀ (fs : List Field) (o e : Nat) (ys : List (DataW H × List MemPlace)), fs.all (fun f => plainT P k f.type) = true → contig P o fs = some e → e = cs.length → ys.length = fs.length →
     (∀ (i : Nat) (f : Field), fs[i]? = some f → DataW.trod enc P W 0 sp held fuel f.type ((cs.drop f.offset).take (P.cellsOf f.type)) = ys[i]?) → bulkAll (ys.map (·.1)) ≤ M →
     ∃ xs, relL ⟨fun b => b < W.heap.size, W⟩ xs (cs.drop o) ∧ FieldsAre (Shp P M k) fs xs
 | [], o, e, ys, _, hc, he, _, _, _ => by
   simp only [contig, Option.some.injEq] at hc
   subst hc; subst he
   exact ⟨[], by rw [List.drop_length]; simp [relL], rfl⟩
 | f :: fs, o, e, [], _, _, _, hl, _, _ => by simp at hl
 | f :: fs, o, e, y :: zs, hp, hc, he, hl, hm, hb => by
   simp only [contig] at hc
   split at hc
   · rename_i hfo
     have hf := hm 0 f rfl
     simp only [List.getElem?_cons_zero] at hf
     simp only [List.all_cons, Bool.and_eq_true] at hp
     simp only [List.map_cons, bulkAll] at hb
     have hle := contig_le hc
     obtain ⟨x1, h1, h2⟩ := ih f.type _ y.1 y.2 hp.1 hf (by omega)
     obtain ⟨x2, h3, h4⟩ := fields_rel ih fs (o + P.cellsOf f.type) e zs hp.2 hc he (by simpa using hl) (fun i f' hf' => by simpa using hm (i + 1) f' (by simpa using hf')) (by omega)
     refine ⟨x1 ++ x2, ?_, x1, x2, rfl, h2, h4⟩
     have h5 := relL_append h1 h3
     rw [hfo] at h5
     rwa [← List.drop_drop, List.take_append_drop] at h5
   · cases hc
theorem shp_of_trod {H : Type} {enc : TypeId × Value → H} {P : Program} {W : World} {sp : Nat → Bool} {held : Bool} {M : Nat} (hM : M ≤ maxRows) :
   ∀ (k fuel : Nat) (t : TypeId) (cs : List Value) (d : DataW H) (ps : List MemPlace), plainT P k t = true → DataW.trod enc P W 0 sp held fuel t cs = some (d, ps) → bulk d ≤ M →
     ∃ xs, relL ⟨fun b => b < W.heap.size, W⟩ xs cs ∧ Shp P M k t xs
 | 0, _, _, _, _, _, hp, _, _ => by simp [plainT] at hp
 | k + 1, fuel, t, cs, d, ps, hp, h, hb => by
   unfold plainT at hp
   unfold Shp
   cases hu : P.underlying t with
   | none => simp [hu] at hp
   | some td =>
     rw [hu] at hp
     cases td with
     | bool =>
       obtain ⟨b, rfl, hx⟩ := DataW.trod_bool hu h
       exact ⟨[.c (.bool b)], by simp [relL, rel], b, rfl⟩
     | int kd =>
       obtain ⟨n, rfl, hx, hw⟩ := DataW.trod_int hu h
       exact ⟨[.c (.int kd n)], by simp [relL, rel], n, rfl, hw⟩
     | string =>
       obtain ⟨s, rfl, hx, hw⟩ := DataW.trod_string hu h
       simp only [Prod.mk.injEq] at hx
       obtain ⟨rfl, rfl⟩ := hx
       simp only [bulk] at hb
       exact ⟨[.c (.string s)], by simp [relL, rel], s.data.toList, rfl, by omega⟩
     | struct fs =>
       obtain ⟨ys, n, rfl, hx, hl, hly, hm⟩ := DataW.trod_struct hu h
       simp only [Prod.mk.injEq] at hx
       obtain ⟨rfl, rfl⟩ := hx
       simp only [bulk] at hb
       simp only [Bool.and_eq_true, decide_eq_true_eq] at hp
       obtain ⟨xs, h1, h2⟩ := fields_rel (k := k) (M := M) (fuel := n) (cs := cs) (fun t cs d ps hp h hb => shp_of_trod hM k n t cs d ps hp h hb) fs.toList 0 (P.cellsOf t) ys hp.1 hp.2 hl.symm (by simpa using hly) (fun i f hf => hm i f (by simpa using hf)) (by omega)
       exact ⟨xs, by simpa using h1, h2⟩
     | slice e =>
       simp only [Bool.and_eq_true, decide_eq_true_eq] at hp
       rcases DataW.trod_slice hu h with ⟨rfl, hx⟩ | ⟨a, len, cap, elems, rest, n, rfl, rfl, hx, -, hlc, -, hle, hel, -, -⟩
       · exact ⟨[.sl (P.cellsOf e) []], by simp only [relL]; exact ⟨_, [], rfl, by simp only [rel]; exact ⟨none, 0, rfl, by simp [maxRows], .inl trivial⟩, rfl⟩, [], rfl, by simp, by simp⟩
       · simp only [Prod.mk.injEq] at hx
         obtain ⟨rfl, rfl⟩ := hx
         simp only [bulk] at hb
         have hblen := bulkAll_len (elems.map (·.1))
         rw [List.length_map, hle] at hblen
         have hrow : ∀ i, i < len → ∃ r : List AV, (∃ cs, W.cells? 0 (a.add (i * P.cellsOf e)) (P.cellsOf e) = some cs ∧ relL ⟨fun b => b < W.heap.size, W⟩ r cs) ∧ Shp P M k e r := by
           intro i hi
           have h1 := hel i hi
           have h2 : elems[i]? = some elems[i] := List.getElem?_eq_getElem (by omega)
           rw [h2] at h1
           cases hcs : W.cells? 0 (a.add (i * P.cellsOf e)) (P.cellsOf e) with
           | none => simp [hcs] at h1
           | some cs =>
             simp only [hcs, Option.bind_some] at h1
             have hbm : bulk elems[i].1 ≤ M := by
               have := bulkAll_mem (d := elems[i].1) (l := elems.map (·.1)) (List.mem_map.2 ⟨elems[i], List.getElem_mem _, rfl⟩)
               omega
             obtain ⟨r, h3, h4⟩ := shp_of_trod hM k n e cs elems[i].1 elems[i].2 hp.1 h1 hbm
             exact ⟨r, ⟨cs, rfl, h3⟩, h4⟩
         obtain ⟨rows, hr1, hr2⟩ := exists_list len hrow
         refine ⟨[.sl (P.cellsOf e) rows], ?_, rows, rfl, by omega, fun r hr => ?_⟩
         · simp only [relL]
           refine ⟨_, [], rfl, ?_, rfl⟩
           simp only [rel]
           refine ⟨some a, cap, by rw [hr1], ⟨by omega, by omega⟩, ?_⟩
           by_cases h0 : rows = []
           · exact .inl h0
           · right
             have hlen0 : 0 < rows.length := List.length_pos_iff.2 h0
             obtain ⟨⟨cs, hcs, hrl⟩, -⟩ := hr2 0 rows[0] (List.getElem?_eq_getElem hlen0)
             obtain ⟨hc1, hc2⟩ := cells_get hcs
             have hc3 := hc2 0 cs[0] (List.getElem?_eq_getElem (by omega))
             obtain ⟨ab, ao, asp⟩ := a
             have hspot : asp = none := by
               simp only [Nat.zero_mul, Addr.add, if_true] at hc3
               unfold World.cell? at hc3
               cases asp with
               | none => rfl
               | some s =>
                 simp only [Option.isSome_some, if_true] at hc3
                 split at hc3 <;> cases hc3
             subst hspot
             have hadd : ∀ i, (⟨ab, ao, none⟩ : Addr).add i = ⟨ab, ao + i, none⟩ := fun i => by
               unfold Addr.add; split
               · rename_i h; subst h; rfl
               · rfl
             refine ⟨ab, ao, rfl, ?_, relR_of fun i r hr => ?_⟩
             · rw [Nat.zero_mul, hadd, Nat.add_zero, hadd] at hc3
               unfold World.cell? at hc3
               cases hh : W.heap[ab]? with
               | none => simp only [hh] at hc3; cases hc3
               | some o => exact (Array.getElem?_eq_some_iff.1 hh).1
             · obtain ⟨⟨cs, hcs, hrl⟩, -⟩ := hr2 i r hr
               obtain ⟨hc1, hc2⟩ := cells_get hcs
               refine ⟨by rw [← relL_length hrl, hc1], relC_of hrl fun j v hv => ?_⟩
               have := hc2 j v hv
               rw [hadd, Addr.add] at this
               split at this
               · rename_i hj; subst hj; simpa using this
               · exact this
         · obtain ⟨i, hi, rfl⟩ := List.mem_iff_getElem.1 hr
           exact (hr2 i _ (List.getElem?_eq_getElem hi)).2
     | _ => simp at hp
theorem calls_of_acalls {P : Program} {f : FuncId} {args : List AV} {v : Value} {gb : Nat} {gv : Value} (h : ACalls P f args [HP.glob gb gv] (Ret (.c v))) {W : World} {us : Array Value} (hg : W.cell? ⟨gb, 0, none⟩ = some gv)
   (hr : relL ⟨fun b => b < W.heap.size, W⟩ args us.toList) : Calls P f us W fun e W' => e = .returned v ∧ Below W.heap.size W W' := by
 have hlt : gb < W.heap.size := by
   unfold World.cell? at hg
   cases hh : W.heap[gb]? with
   | none => simp only [hh] at hg; cases hg
   | some o => exact (Array.getElem?_eq_some_iff.1 hh).1
 have hs : Sim ⟨fun b => b < W.heap.size, W⟩ (fun _ => False) [HP.glob gb gv] :=
   ⟨fun b hb => hb, fun b hb => hb.elim, fun b _ hb => hb, ⟨fun _ => False, fun _ h => h, ⟨hlt, hg⟩, trivial⟩⟩
 have := h.run _ _ us.toList hs hr
 rw [Array.toArray_toList] at this
 refine this.mono ?_
 rintro e w' ⟨g', B', a, Δ', rfl, hx, hs', he, rfl, rfl⟩
 cases e with
 | returned u =>
   simp only [endRel, rel] at he
   subst he
   exact ⟨rfl, hx.os, hx.tape, hx.output, hx.size, fun b hb => hx.keep b hb id⟩
 | _ => simp [endRel] at he
end
end Go.Av
namespace Go.Av
open Go Go.RowKit Go.ChangeShapes Go.WideShapes
section
def ArgShp (P : Program) (M k : Nat) (t : TypeId) (x : AV) : Prop :=
 match P.underlying t with
 | some (.struct _) => ∃ xs, x = .agg xs ∧ Shp P M k t xs
 | _ => Shp P M k t [x]
theorem arg_rel {H : Type} {enc : TypeId × Value → H} {P : Program} {W : World} {sp : Nat → Bool} {held : Bool} {M k : Nat} (hM : M ≤ maxRows) {r : Reach} {b0 : Nat} {t : TypeId} {v : Value} {d : DataW H} {ps : List MemPlace}
   (hp : plainT P k t = true) (hval : Value.okWide P W r b0 t v) (h : DataW.Trod enc P W 0 sp held t v d ps) (hb : bulk d ≤ M) : ∃ x, rel ⟨fun b => b < W.heap.size, W⟩ x v ∧ ArgShp P M k t x := by
 obtain ⟨fuel, hf⟩ := h
 obtain ⟨xs, h1, h2⟩ := shp_of_trod hM k fuel t _ d ps hp hf hb
 unfold ArgShp
 cases k with
 | zero => simp [plainT] at hp
 | succ k =>
 unfold plainT at hp
 cases hu : P.underlying t with
 | none => simp [hu] at hp
 | some td =>
   rw [hu] at hp
   cases td with
   | struct fs =>
     simp only [Value.okWide, hu] at hval
     obtain ⟨cs, rfl, -, -⟩ := hval
     exact ⟨.agg xs, by simp only [rel]; exact ⟨cs.toList, by simp, h1⟩, xs, rfl, h2⟩
   | bool =>
     obtain ⟨b, rfl⟩ := (by simp only [Value.okWide, hu, Cell.okWide] at hval; cases v <;> simp_all [Cell.ok] : ∃ b, v = .bool b)
     simp only [Value.cells] at h1
     obtain ⟨x, rfl⟩ : ∃ x, xs = [x] := List.length_eq_one_iff.1 (by have := relL_length h1; simpa using this.symm)
     simp only [relL] at h1
     obtain ⟨u, us, e, h3, -⟩ := h1
     simp only [List.cons.injEq] at e
     obtain ⟨rfl, -⟩ := e
     exact ⟨x, h3, h2⟩
   | int kd =>
     obtain ⟨n, rfl⟩ := okWide_int hu hval
     simp only [Value.cells] at h1
     obtain ⟨x, rfl⟩ : ∃ x, xs = [x] := List.length_eq_one_iff.1 (by have := relL_length h1; simpa using this.symm)
     simp only [relL] at h1
     obtain ⟨u, us, e, h3, -⟩ := h1
     simp only [List.cons.injEq] at e
     obtain ⟨rfl, -⟩ := e
     exact ⟨x, h3, h2⟩
   | string =>
     obtain ⟨n, rfl⟩ := okWide_string hu hval
     simp only [Value.cells] at h1
     obtain ⟨x, rfl⟩ : ∃ x, xs = [x] := List.length_eq_one_iff.1 (by have := relL_length h1; simpa using this.symm)
     simp only [relL] at h1
     obtain ⟨u, us, e, h3, -⟩ := h1
     simp only [List.cons.injEq] at e
     obtain ⟨rfl, -⟩ := e
     exact ⟨x, h3, h2⟩
   | slice e =>
     obtain ⟨a, len, cap, rfl⟩ := okWide_slice hu hval
     simp only [Value.cells] at h1
     obtain ⟨x, rfl⟩ : ∃ x, xs = [x] := List.length_eq_one_iff.1 (by have := relL_length h1; simpa using this.symm)
     simp only [relL] at h1
     obtain ⟨u, us, e, h3, -⟩ := h1
     simp only [List.cons.injEq] at e
     obtain ⟨rfl, -⟩ := e
     exact ⟨x, h3, h2⟩
   | _ => simp at hp
def ArgsShp (P : Program) (M k : Nat) : List TypeId → List AV → Prop
 | [], xs => xs = []
 | t :: ts, xs => ∃ y ys, xs = y :: ys ∧ ArgShp P M k t y ∧ ArgsShp P M k ts ys
theorem args_rel {H : Type} {enc : TypeId × Value → H} {P : Program} {W : World} {sp : Nat → Bool} {held : Bool} {M k : Nat} (hM : M ≤ maxRows) {r : Reach} {b0 : Nat} :
   ∀ {ts : List TypeId} {vs : List Value} {ds : List (DataW H)} {ps : List MemPlace}, (∀ t ∈ ts, plainT P k t = true) → (∀ (j : Nat) (t : TypeId) (v : Value), ts[j]? = some t → vs[j]? = some v → Value.okWide P W r b0 t v) →
     DataW.TrodAll enc P W 0 sp held ts vs ds ps → bulkAll ds ≤ M → ∃ xs, relL ⟨fun b => b < W.heap.size, W⟩ xs vs ∧ ArgsShp P M k ts xs
 | [], vs, ds, ps, _, _, h, _ => by
   obtain ⟨rfl, -, -⟩ := trodAll_nil h
   exact ⟨[], by simp [relL], rfl⟩
 | t :: ts, vs, ds, ps, hp, hv, h, hb => by
   obtain ⟨v, vs', d, ds', p, q, rfl, rfl, rfl, h0, h1⟩ := trodAll_cons h
   simp only [bulkAll] at hb
   obtain ⟨x, h2, h3⟩ := arg_rel hM (hp t (List.mem_cons_self ..)) (hv 0 t v rfl rfl) h0 (by omega)
   obtain ⟨xs, h4, h5⟩ := args_rel hM (ts := ts) (fun t ht => hp t (List.mem_cons_of_mem _ ht)) (fun j t v ht hv' => hv (j + 1) t v (by simpa using ht) (by simpa using hv')) h1 (by omega)
   exact ⟨x :: xs, by simp only [relL]; exact ⟨v, vs', rfl, h2, h4⟩, x, xs, rfl, h3, h5⟩
theorem args_stay {H : Type} {enc : TypeId × Value → H} {P : Program} {W W' : World} (hl : laidOutB P = true) (hB : Below W.heap.size W W') :
   ∀ {ts : List TypeId} {vs : List Value} {ds : List (DataW H)} {ps : List MemPlace}, (∀ t ∈ ts, P.readableRec t = true ∧ t < P.types.size) →
     DataW.TrodAll enc P W 0 (fun _ => true) true ts vs ds ps → (∀ x ∈ ps, x.block < W.heap.size) → DataW.TrodAll enc P W' 0 (fun b => decide (b < W.heap.size)) true ts vs ds ps
 | [], vs, ds, ps, _, h, _ => by
   obtain ⟨rfl, rfl, rfl⟩ := trodAll_nil h
   exact trodAll_mk0
 | t :: ts, vs, ds, ps, ht, h, hlt => by
   obtain ⟨v, vs', d, ds', p, q, rfl, rfl, rfl, h0, h1⟩ := trodAll_cons h
   have hr := ht t (List.mem_cons_self ..)
   exact ⟨p, q, Below.trod hl hr.1 hr.2 h0 hB (fun x hx => hlt x (List.mem_append_left _ hx)), args_stay hl hB (fun t h => ht t (List.mem_cons_of_mem _ h)) h1 (fun x hx => hlt x (List.mem_append_right _ hx)), rfl⟩
theorem law_post {H : Type} {enc : TypeId × Value → H} {P : Program} {W W' : World} {f : Func} {s : ChangeSpec} {apart fresh handsOn : Bool} {args : Array Value} {ds gs : List (DataW H)} {before : List MemPlace} {tb : TypeId}
   (hW : DataW.Whole enc P f.params.toList s.vars apart W args.toList ds gs before) (hB : Below W.heap.size W W') (hl : laidOutB P = true) (hread : ∀ t ∈ f.params.toList, P.readableRec t = true ∧ t < P.types.size)
   (hres : f.resultTypes = #[tb]) (htb : P.underlying tb = some .bool) (hvars : s.vars = []) (hfn : s.fn H (ds ++ gs) = { results := [.lit (.bool true)], args := ds }) :
   s.post enc P f apart fresh handsOn false W args (.bool true) W' := by
 have hW' := hW
 obtain ⟨p, q, hA, hV, rfl, hfz, hnd⟩ := hW
 rw [hvars] at hV
 obtain ⟨rfl, rfl⟩ := trodVars_none hV
 refine ⟨ds, [], p ++ [], [], p, [], hW', ?_, ?_, ?_, hB.frame _, fun h => by cases h⟩
 · rw [hfn, hres]
   exact trodAll_mk1 (shut_bool htb true)
 · rw [hfn]
   exact args_stay hl hB hread hA (fun x hx => by simpa using hW'.lt x (by simpa using hx))
 · rw [hfn, hvars]
   rfl
end
end Go.Av
