/- A part of the proof: what the calls do, told by values. -/
import Derived.Test.YtdnhcpbammfmlaaGreatDoorA6
import Derived.Shelf.SortM.SortNone
import Derived.Sort.EveryDepth
set_option linter.unusedVariables false
set_option linter.unusedSimpArgs false
namespace Go.Av
open Go
section
def intCells (zs : List Int) : List AV := zs.map fun n => .c (.int .i64 n)
def sortInts (zs : List Int) : List Int := zs.mergeSort fun x y => decide (x ≤ y)
theorem relL_i64 {g : G} : ∀ {zs : List Int} {us : List Value}, relL g (intCells zs) us → us = zs.map (Value.int .i64)
 | [], us, h => by simpa [intCells, relL] using h
 | z :: zs, us, h => by
   simp only [intCells, List.map_cons, relL, rel] at h
   obtain ⟨v, vs, rfl, rfl, h⟩ := h
   rw [relL_i64 (zs := zs) h]; rfl
theorem relL_i64' {g : G} : ∀ (zs : List Int), relL g (intCells zs) (zs.map (Value.int .i64))
 | [] => by simp [intCells, relL]
 | z :: zs => by
   simp only [intCells, List.map_cons, relL, rel]
   exact ⟨_, _, rfl, rfl, relL_i64' zs⟩
theorem put_list {enc : Int → Value} {d : List Int} {c : List Value} (h : d.length ≤ c.length) : (Go.Sort.putCells enc 0 d.toArray c.toArray).toList = d.map enc ++ c.drop d.length := by
 apply List.ext_getElem?
 intro k
 simp only [Go.Sort.putCells, Array.toList_mapIdx, List.getElem?_mapIdx, List.getElem?_append, List.length_map, List.getElem?_drop, List.getElem?_map, List.size_toArray, Nat.zero_le, true_and, Nat.zero_add, Nat.sub_zero]
 by_cases hk : k < d.length
 · have hk2 : k < c.length := by omega
   simp [hk, hk2]
 · simp only [hk, if_false]
   rw [show d.length + (k - d.length) = k from by omega]
   cases c[k]? <;> rfl
theorem sort_acalls {P : Program} {ρ : Go.Shelf.Ren} (Ly : Go.Proofs.SlLaysM.n5 P ρ) (hcl : callable P (ρ.f 5) = true) {e : TypeId} {zs : List Int} {v : Value} {D : List HP} (how : Own e 1 (intCells zs) zs.length v D) (hsz : zs.length < 4611686018427387904) :
   ACalls P (ρ.f 5) [.c v] D (fun r Δ => r = .ret (.tup []) ∧ Own e 1 (intCells (sortInts zs)) zs.length v Δ) := by
 refine ⟨hcl, fun g B us sm hr => ?_⟩
 simp only [relL, rel] at hr
 obtain ⟨u, _, rfl, rfl, rfl⟩ := hr
 cases how with
 | nil a e1 e2 =>
   have hz : zs = [] := List.eq_nil_of_length_eq_zero e2
   subst hz
   refine (Go.Proofs.AnyM.slices_Sort_int_none Ly a 0 g.w).mono ?_
   rintro en w' ⟨rfl, rfl⟩
   exact ⟨g, B, .ret (.tup []), [], rfl, .refl _ _, sm, by simp [endRel, rel, relL], rfl, .nil a (by simp [sortInts, intCells]) rfl⟩
 | box b cap sp c1 c2 c3 =>
   obtain ⟨B1, q1, ⟨q2, cs, q3, q4⟩, q5⟩ := sm.sep
   have hB := q1 b q2
   have hlt := sm.blt b hB
   have hl := relL_length q4
   have hsplit : cs = zs.map (Value.int .i64) ++ cs.drop zs.length ∧ relL g sp (cs.drop zs.length) := by
     have h1 := relL_take zs.length q4
     have h2 := relL_drop zs.length q4
     have e0 : (intCells zs).length = zs.length := by simp [intCells]
     rw [← e0, List.take_left, e0] at h1
     rw [← e0, List.drop_left, e0] at h2
     refine ⟨?_, h2⟩
     have := relL_i64 h1
     rw [← this, List.take_append_drop]
   obtain ⟨hcs, hsp⟩ := hsplit
   have hholds : Go.Sort.Holds (Value.int .i64) g.w b 0 zs.toArray := by
     intro j hj
     have hj' : j < zs.length := by simpa using hj
     refine ⟨?_, by simp [World.frozen?, q3]⟩
     simp only [World.cell?, q3, Nat.zero_add, List.getElem?_toArray]
     rw [hcs, List.getElem?_append_left (by simpa using hj'), List.getElem?_map, List.getElem?_eq_getElem hj']
     simp [hj']
   refine (calls_of_every_depth fun D => Go.Proofs.AnySM.slices_Sort_int_in Ly D b 0 cap zs g.w hholds hlt hsz).mono ?_
   rintro en w' ⟨rfl, n, os, rfl⟩
   let w1 := Go.Sort.putRow (Value.int .i64) (Go.Sort.ahead g.w n) b 0 (sortInts zs).toArray
   have hslen : (sortInts zs).length = zs.length := by simp [sortInts]
   have hw1 : w1.heap[b]? = some (.cells ((sortInts zs).map (Value.int .i64) ++ cs.drop zs.length).toArray e (0, 0)) := by
     have hq : (Go.Sort.ahead g.w n).heap[b]? = some (.cells cs.toArray e (0, 0)) := q3
     have hput := put_list (enc := Value.int .i64) (d := sortInts zs) (c := cs) (by rw [hslen]; simp [intCells] at hl; omega)
     rw [hslen] at hput
     simp only [w1, Go.Sort.putRow, Go.Sort.mapBlock, Array.getElem?_modify, hq, if_true, Option.map_some, Go.Sort.onCells]
     rw [← hput, Array.toArray_toList]
   have hw1o : ∀ b', b' ≠ b → w1.heap[b']? = g.w.heap[b']? := by
     intro b' hne
     simp only [w1, Go.Sort.putRow, Go.Sort.mapBlock, Array.getElem?_modify]
     rw [if_neg (Ne.symm hne)]; rfl
   have hw1s : w1.heap.size = g.w.heap.size := by simp [w1, Go.Sort.putRow, Go.Sort.mapBlock, Go.Sort.ahead]
   have hgr : ∀ b', b' < g.w.heap.size → (Go.Sort.grow w1 os).heap[b']? = w1.heap[b']? := by
     intro b' h'
     simp only [Go.Sort.grow]
     rw [Array.getElem?_append_left (by rw [hw1s]; exact h')]
   have hgs : g.w.heap.size ≤ (Go.Sort.grow w1 os).heap.size := by simp [Go.Sort.grow, hw1s]
   have hnf : ¬ g.fz b := fun hf => sm.disj b hf hB
   have hle : Le g ⟨g.fz, Go.Sort.grow w1 os⟩ := ⟨fun _ h => h, fun b' hb' => by
     rw [hgr b' (sm.fzlt b' hb'), hw1o b' (by rintro rfl; exact hnf hb')]⟩
   refine ⟨⟨g.fz, Go.Sort.grow w1 os⟩, B, .ret (.tup []), [.box b e (intCells (sortInts zs) ++ sp)], rfl, ?_, ?_, by simp [endRel, rel, relL], rfl, ?_⟩
   · exact ⟨rfl, rfl, rfl, hgs, fun b' h' hn => by rw [hgr b' h', hw1o b' (by rintro rfl; exact hn hB)], fun _ h => h, fun _ h => .inl h, fun _ h => .inl h⟩
   · refine ⟨fun b' hb' => Nat.lt_of_lt_of_le (sm.fzlt b' hb') hgs, fun b' hb' => Nat.lt_of_lt_of_le (sm.blt b' hb') hgs, sm.disj, B1, q1, ⟨q2, (sortInts zs).map (Value.int .i64) ++ cs.drop zs.length, ?_, ?_⟩, trivial⟩
     · show (Go.Sort.grow w1 os).heap[b]? = _
       rw [hgr b hlt]; exact hw1
     · exact relL_append (relL_i64' _) (relL_mono hle _ _ hsp)
   · exact .box b cap sp (by rw [← c1]; simp [intCells, hslen]) c2 c3
end
end Go.Av
