/- A part of the proof: what the calls do, told by values. -/
import Derived.Test.YtjppajaoekbkpaaGreatDoorB5
import Derived.Test.YtjppajaoekbkpaaGreatDoorB3
import Derived.Test.YtjppajaoekbkpaaGreatDoorA8
import Derived.Test.YtjppajaoekbkpaaGreatDoorA3
set_option linter.unusedVariables false
set_option linter.unusedSimpArgs false
set_option maxRecDepth 100000
set_option maxHeartbeats 4000000
namespace Go.Proofs.YtjppajaoekbkpaaGreatDoor
open Go Go.Av
section
abbrev SortC (l : List (Int × List UInt8)) : Prop := (l.map (·.1)).Pairwise (· < ·)
theorem findM_app {k : Int} : ∀ (A B : List (Int × List UInt8)), findM (A ++ B) k = (findM A k).or (findM B k)
 | [], B => rfl
 | p :: A, B => by
   show findM (p :: (A ++ B)) k = (findM (p :: A) k).or _
   have e1 : ∀ l : List (Int × List UInt8), findM (p :: l) k = if p.1 = k then some p.2 else findM l k := fun l => by conv => lhs; unfold findM
   rw [e1, e1]
   by_cases h : p.1 = k
   · rw [if_pos h, if_pos h]; rfl
   · rw [if_neg h, if_neg h]; exact findM_app A B
theorem find_none_of {l : List (Int × List UInt8)} {k : Int} (h : ∀ p ∈ l, p.1 ≠ k) : findM l k = none := findM_none.2 fun hk => by
 obtain ⟨p, hp, rfl⟩ := List.mem_map.1 hk
 exact h p hp rfl
theorem tw_lt {at_ : Int} : ∀ {l : List (Int × List UInt8)} {p : Int × List UInt8}, p ∈ l.takeWhile (fun p => decide (p.1 < at_)) → p.1 < at_
 | [], p, h => by cases h
 | q :: l, p, h => by
   rw [List.takeWhile_cons] at h
   split at h
   · rename_i hq
     rcases List.mem_cons.1 h with rfl | h
     · simpa using hq
     · exact tw_lt h
   · cases h
theorem split_at {l : List (Int × List UInt8)} (hs : SortC l) (at_ : Int) : ∃ A C, (∀ p ∈ A, p.1 < at_) ∧ (∀ p ∈ C, at_ < p.1) ∧ SortC A ∧ SortC C ∧ (l = A ++ C ∨ ∃ x, l = A ++ (at_, x) :: C) ∧ ∀ b, putC l at_ b = A ++ (if blankB b then [] else [(at_, b)]) ++ C := by
 have hA : ∀ p ∈ l.take (lowC l at_), p.1 < at_ := by
   intro p hp
   have e : l.take (lowC l at_) = l.takeWhile fun p => decide (p.1 < at_) := by
     unfold lowC
     exact (List.prefix_iff_eq_take.1 (List.takeWhile_prefix _)).symm
   rw [e] at hp
   exact tw_lt hp
 have hsplit := List.take_append_drop (lowC l at_) l
 have hs1 : SortC (l.take (lowC l at_)) := by unfold SortC; rw [List.map_take]; exact hs.take
 have hs2 : SortC (l.drop (lowC l at_)) := by unfold SortC; rw [List.map_drop]; exact hs.drop
 have hhd : ∀ p, l[lowC l at_]? = some p → ¬ p.1 < at_ := by
   intro p hp hlt
   have e : l.drop (lowC l at_) = l.dropWhile fun p => decide (p.1 < at_) := by
     unfold lowC
     have h1 := List.takeWhile_append_dropWhile (p := fun p : Int × List UInt8 => decide (p.1 < at_)) (l := l)
     have h2 := congrArg (List.drop (l.takeWhile fun p => decide (p.1 < at_)).length) h1
     rw [List.drop_left] at h2
     exact h2.symm
   have h3 : (l.dropWhile fun p => decide (p.1 < at_)).head? = some p := by rw [← e, List.head?_drop, hp]
   have := List.head?_dropWhile_not (fun p : Int × List UInt8 => decide (p.1 < at_)) l
   rw [h3] at this
   simp [hlt] at this
 cases hr : l.drop (lowC l at_) with
 | nil =>
   have hn : l[lowC l at_]? = none := by rw [← List.head?_drop, hr]; rfl
   refine ⟨l.take (lowC l at_), [], hA, by simp, hs1, by simp [SortC], .inl (by rw [List.append_nil]; rw [hr, List.append_nil] at hsplit; exact hsplit.symm), fun b => ?_⟩
   unfold putC hitC
   rw [hn]
   simp only [Bool.false_eq_true, if_false, Nat.add_zero, hr]
 | cons p C =>
   have hp : l[lowC l at_]? = some p := by rw [← List.head?_drop, hr]; rfl
   have hge := hhd p hp
   rw [hr] at hs2
   obtain ⟨hpC, hsC⟩ := List.pairwise_cons.1 (show ((p :: C).map (·.1)).Pairwise (· < ·) from hs2)
   have hC : ∀ q ∈ C, p.1 < q.1 := fun q hq => hpC q.1 (List.mem_map.2 ⟨q, hq, rfl⟩)
   have hdC : l.drop (lowC l at_ + 1) = C := by rw [← List.drop_drop, hr]; rfl
   by_cases hk : p.1 = at_
   · refine ⟨l.take (lowC l at_), C, hA, fun q hq => by have := hC q hq; omega, hs1, hsC, .inr ⟨p.2, ?_⟩, fun b => ?_⟩
     · rw [hr] at hsplit; rw [show (at_, p.2) = p from by rw [← hk]]; exact hsplit.symm
     · unfold putC hitC
       rw [hp]
       simp only [hk, decide_true, if_true, hdC]
   · refine ⟨l.take (lowC l at_), p :: C, hA, fun q hq => ?_, hs1, hs2, .inl (by rw [hr] at hsplit; exact hsplit.symm), fun b => ?_⟩
     · rcases List.mem_cons.1 hq with rfl | hq
       · omega
       · have := hC q hq; omega
     · unfold putC hitC
       rw [hp]
       simp only [hk, decide_false, Bool.false_eq_true, if_false, Nat.add_zero, hr]
theorem putC_find {l : List (Int × List UInt8)} (hs : SortC l) (at_ : Int) (b : List UInt8) (k : Int) : findM (putC l at_ b) k = if k = at_ then (if blankB b then none else some b) else findM l k := by
 obtain ⟨A, C, hA, hC, -, -, hl, hp⟩ := split_at hs at_
 rw [hp b, findM_app, findM_app]
 by_cases hk : k = at_
 · subst hk
   rw [if_pos rfl, find_none_of (fun p hp => by have := hA p hp; omega), find_none_of (l := C) (fun p hp => by have := hC p hp; omega)]
   cases blankB b <;> simp [findM]
 · rw [if_neg hk]
   have hm : findM (if blankB b then [] else [(at_, b)]) k = none := by
     refine find_none_of fun p hp => ?_
     split at hp
     · cases hp
     · rw [List.mem_singleton.1 hp]; exact fun h => hk h.symm
   rw [hm]
   rcases hl with rfl | ⟨x, rfl⟩
   · rw [findM_app]; simp
   · rw [findM_app]
     have : findM ((at_, x) :: C) k = findM C k := by
       conv => lhs; unfold findM
       rw [if_neg (fun h => hk h.symm)]
     rw [this]; simp
theorem putC_sorted {l : List (Int × List UInt8)} (hs : SortC l) (at_ : Int) (b : List UInt8) : SortC (putC l at_ b) := by
 obtain ⟨A, C, hA, hC, h1, h2, -, hp⟩ := split_at hs at_
 rw [hp b]
 unfold SortC at *
 rw [List.map_append, List.map_append, List.append_assoc]
 refine List.pairwise_append.2 ⟨h1, List.pairwise_append.2 ⟨?_, h2, ?_⟩, ?_⟩
 · split <;> simp
 · intro x hx y hy
   split at hx
   · cases hx
   · have e1 : x = at_ := by simpa using hx
     obtain ⟨q, hq, rfl⟩ := List.mem_map.1 hy
     rw [e1]; exact hC q hq
 · intro x hx y hy
   obtain ⟨p, hp, rfl⟩ := List.mem_map.1 hx
   have hpa := hA p hp
   rcases List.mem_append.1 hy with hy | hy
   · split at hy
     · cases hy
     · have e1 : y = at_ := by simpa using hy
       rw [e1]; exact hpa
   · obtain ⟨q, hq, rfl⟩ := List.mem_map.1 hy
     have := hC q hq
     omega
theorem sort_nodup {l : List (Int × List UInt8)} (hs : SortC l) : (l.map (·.1)).Nodup := hs.imp fun h e => by rw [e] at h; exact absurd h (Int.lt_irrefl _)
theorem putC_safe {pages : Int} {l : List (Int × List UInt8)} (hs : SortC l) (h : SafeOK pages l) {at_ : Int} {b : List UInt8} (hb : b.length = 256) (ha : 0 ≤ at_ ∧ at_ < pages) : SafeOK pages (putC l at_ b) := by
 refine ⟨sort_nodup (putC_sorted hs _ _), putC_page h.page hb, fun p hp => ?_, fun p hp => ?_⟩ <;> unfold putC at hp
 · rcases List.mem_append.1 hp with hp | hp
   · rcases List.mem_append.1 hp with hp | hp
     · exact h.nb p (List.take_subset _ _ hp)
     · split at hp
       · cases hp
       · rename_i hbl; rw [List.mem_singleton.1 hp]; simpa using hbl
   · exact h.nb p (List.drop_subset _ _ hp)
 · rcases List.mem_append.1 hp with hp | hp
   · rcases List.mem_append.1 hp with hp | hp
     · exact h.rng p (List.take_subset _ _ hp)
     · split at hp
       · cases hp
       · rw [List.mem_singleton.1 hp]; exact ha
   · exact h.rng p (List.drop_subset _ _ hp)
structure Pgs (pages : Int) (c m : List (Int × List UInt8)) : Prop where
 sort : SortC c
 cs : SafeOK pages c
 ms : SafeOK pages m
 find : ∀ k, findM c k = findM m k
theorem Pgs.pageOr {pages : Int} {c m : List (Int × List UInt8)} (h : Pgs pages c m) (k : Int) : pageOr c k = pageOr m k := by unfold Proofs.YtjppajaoekbkpaaGreatDoor.pageOr; rw [h.find]
theorem blank_z : blankB z256 = true := blank_zeros 256
theorem Pgs.settle {pages : Int} {c m : List (Int × List UInt8)} (h : Pgs pages c m) {at_ : Int} {o : Option (List UInt8)} {keep : Int} (ho : ∀ b, o = some b → b.length = 256) (ha : 0 ≤ at_ ∧ at_ < pages) :
   Pgs pages (settleC c at_ o keep) (settleM m at_ o keep) := by
 have hm := (settle_safe (keep := keep) h.ms ho ha).1
 cases o with
 | none =>
   unfold settleC settleM at *
   simp only at *
   by_cases hk : keep < 256
   · rw [if_pos hk, if_neg (by omega)]; exact h
   · rw [if_neg hk, if_pos (by omega)]
     rw [if_pos (by omega)] at hm
     refine ⟨putC_sorted h.sort _ _, putC_safe h.sort h.cs (by simp [z256]) ha, hm, fun k => ?_⟩
     rw [putC_find h.sort, findM_del h.ms.nodup, blank_z, h.find]
     by_cases hka : k = at_
     · rw [if_pos hka, if_pos rfl, if_pos hka.symm]
     · rw [if_neg hka, if_neg (fun e => hka e.symm)]
 | some b =>
   have hb := ho b rfl
   have hS : settleC c at_ (some b) keep = putC c at_ (b.take (keepN keep) ++ (Proofs.YtjppajaoekbkpaaGreatDoor.pageOr c at_).drop (keepN keep)) := rfl
   rw [hS, h.pageOr]
   have hpl : (Proofs.YtjppajaoekbkpaaGreatDoor.pageOr m at_).length = 256 := pageOr_len h.ms.page at_
   have hkl : keepN keep ≤ 256 := by unfold keepN; omega
   have hnl : (b.take (keepN keep) ++ (Proofs.YtjppajaoekbkpaaGreatDoor.pageOr m at_).drop (keepN keep)).length = 256 := by rw [List.length_append, List.length_take, List.length_drop]; omega
   refine ⟨putC_sorted h.sort _ _, putC_safe h.sort h.cs hnl ha, hm, fun k => ?_⟩
   rw [putC_find h.sort]
   unfold settleM
   simp only
   by_cases hk : keep ≤ 0
   · rw [if_pos hk, show keepN keep = 0 from by unfold keepN; omega, List.take_zero, List.nil_append, List.drop_zero, h.find]
     by_cases hka : k = at_
     · subst hka
       rw [if_pos rfl]
       unfold Proofs.YtjppajaoekbkpaaGreatDoor.pageOr
       cases hf : findM m k with
       | none => simp [blank_z]
       | some w =>
         have := h.ms.nb _ (mem_find hf)
         simp only [Option.getD_some]
         rw [if_neg (by simpa using this)]
     · rw [if_neg hka]
   · rw [if_neg hk]
     have e1 : (min keep 256).toNat = keepN keep := rfl
     rw [e1]
     by_cases hbl : blankB (b.take (keepN keep) ++ (Proofs.YtjppajaoekbkpaaGreatDoor.pageOr m at_).drop (keepN keep)) = true
     · rw [if_pos hbl, if_pos hbl, findM_del h.ms.nodup, h.find]
       by_cases hka : k = at_
       · rw [if_pos hka, if_pos hka.symm]
       · rw [if_neg hka, if_neg (fun e => hka e.symm)]
     · rw [if_neg hbl, if_neg hbl, findM_upd, h.find]
       by_cases hka : k = at_
       · rw [if_pos hka, if_pos hka.symm]
       · rw [if_neg hka, if_neg (fun e => hka e.symm)]
theorem Pgs.all {pages : Int} : ∀ {ls : List (Int × Option (List UInt8))} {c m : List (Int × List UInt8)}, Pgs pages c m → (∀ p ∈ ls, ∀ b, p.2 = some b → b.length = 256) → (∀ p ∈ ls, 0 ≤ p.1 ∧ p.1 < pages) → Pgs pages (settleAllC c ls) (settleAll m ls)
 | [], _, _, h, _, _ => h
 | p :: ls, c, m, h, h1, h2 => Pgs.all (ls := ls) (h.settle (keep := 256) (h1 p (by simp)) (h2 p (by simp))) (fun q hq => h1 q (by simp [hq])) (fun q hq => h2 q (by simp [hq]))
theorem Pgs.keep {pages : Int} : ∀ {ls : List (Int × Option (List UInt8))} {ks : List Int} {c m : List (Int × List UInt8)}, Pgs pages c m → (∀ p ∈ ls, ∀ b, p.2 = some b → b.length = 256) → (∀ p ∈ ls, 0 ≤ p.1 ∧ p.1 < pages) → Pgs pages (settleKeepC c ls ks) (settleKeep m ls ks)
 | [], _, _, _, h, _, _ => h
 | _ :: _, [], _, _, h, _, _ => h
 | p :: ls, k :: ks, c, m, h, h1, h2 => Pgs.keep (ls := ls) (ks := ks) (h.settle (keep := k) (h1 p (by simp)) (h2 p (by simp))) (fun q hq => h1 q (by simp [hq])) (fun q hq => h2 q (by simp [hq]))
abbrev wc (s : Fl) (c : List (Int × List UInt8)) : Fl := { s with safe := c }
theorem burnS_wc (s : Fl) (c : List (Int × List UInt8)) : burnS (wc s c) = wc (burnS s) c := by unfold burnS; split <;> rfl
theorem changeS_wc (s : Fl) (c : List (Int × List UInt8)) (at_ : Int) (o : Option (List UInt8)) : changeS (wc s c) at_ o = wc (changeS s at_ o) c := burnS_wc { s with loose := s.loose ++ [(at_, o)] } c
theorem writeS_wc (s : Fl) (c : List (Int × List UInt8)) (at_ : Int) (b : List UInt8) : writeS (wc s c) at_ b = wc (writeS s at_ b) c := by
 unfold writeS
 have : checkF (wc s c) at_ = checkF s at_ := rfl
 rw [this]
 split
 · rfl
 · exact changeS_wc s c at_ _
theorem trimS_wc (s : Fl) (c : List (Int × List UInt8)) (at_ : Int) : trimS (wc s c) at_ = wc (trimS s at_) c := by
 unfold trimS
 have : checkF (wc s c) at_ = checkF s at_ := rfl
 rw [this]
 split
 · rfl
 · exact changeS_wc s c at_ _
theorem tputS_wc (s : Fl) (c : List (Int × List UInt8)) (n at_ kd : Int) (b : List UInt8) : tputS (wc s c) n at_ kd b = wc (tputS s n at_ kd b) c := by
 unfold tputS; split
 · rfl
 · exact writeS_wc s c at_ _
theorem changeS_safe (s : Fl) (at_ : Int) (o : Option (List UInt8)) : (changeS s at_ o).safe = s.safe := burnS_safe _
theorem writeS_safe (s : Fl) (at_ : Int) (b : List UInt8) : (writeS s at_ b).safe = s.safe := by unfold writeS; split; (· rfl); (· exact changeS_safe _ _ _)
theorem trimS_safe (s : Fl) (at_ : Int) : (trimS s at_).safe = s.safe := by unfold trimS; split; (· rfl); (· exact changeS_safe _ _ _)
theorem changeS_pages (s : Fl) (at_ : Int) (o : Option (List UInt8)) : (changeS s at_ o).pages = s.pages := burnS_pages _
theorem writeS_pages (s : Fl) (at_ : Int) (b : List UInt8) : (writeS s at_ b).pages = s.pages := by unfold writeS; split; (· rfl); (· exact changeS_pages _ _ _)
theorem trimS_pages (s : Fl) (at_ : Int) : (trimS s at_).pages = s.pages := by unfold trimS; split; (· rfl); (· exact changeS_pages _ _ _)
def flushCC (s : Fl) (c : List (Int × List UInt8)) : List (Int × List UInt8) := if s.down = true then c else if burnB s then c else settleAllC c s.loose
theorem flush_wc (s : Fl) (c : List (Int × List UInt8)) : flush04S (wc s c) = wc (flushS s) (flushCC s c) := by
 unfold flush04S flushS flushCC
 have h1 : burnB (wc s c) = burnB s := rfl
 rw [h1, burnS_wc]
 by_cases hd : s.down = true
 · rw [if_pos hd, if_pos hd, if_pos hd]
 · rw [if_neg hd, if_neg hd, if_neg hd]
   split <;> rfl
structure Rel (s : Fl) (c : List (Int × List UInt8)) (n : Nat) : Prop where
 b : s.B n
 pg : Pgs s.pages c s.safe
 len : c.length + s.loose.length ≤ n
theorem Rel.rb {s : Fl} {c : List (Int × List UInt8)} {n : Nat} (h : Rel s c n) : (wc s c).B n := { h.b with safe := h.pg.cs, len := h.len }
theorem Rel.mono {s : Fl} {c : List (Int × List UInt8)} {n m : Nat} (h : Rel s c n) (hm : n ≤ m) : Rel s c m := ⟨h.b.mono hm, h.pg, Nat.le_trans h.len hm⟩
theorem B_R {s : Fl} {n : Nat} (h : s.B n) (hn : n < 2 ^ 29) : s.R := ⟨h.safe.page, h.lpage, by have := h.len; omega, (h.wf (by omega)).w⟩
theorem rel_new {p : Int} (h1 : 1 ≤ p) (h2 : p ≤ 4096) : Rel (newFl p) [] 0 := ⟨newFl_B h1 h2, ⟨List.Pairwise.nil, (newFl_B h1 h2).safe, (newFl_B h1 h2).safe, fun _ => rfl⟩, by simp [newFl]⟩
theorem Rel.write {s : Fl} {c : List (Int × List UInt8)} {n : Nat} (h : Rel s c n) (at_ : Int) (b : List UInt8) : Rel (writeS s at_ b) c (n + 1) :=
 ⟨writeS_B h.b at_ b, by rw [writeS_pages, writeS_safe]; exact h.pg, by have := (writeS_B h.rb at_ b).len; rw [writeS_wc] at this; exact this⟩
theorem Rel.trim {s : Fl} {c : List (Int × List UInt8)} {n : Nat} (h : Rel s c n) (at_ : Int) : Rel (trimS s at_) c (n + 1) :=
 ⟨trimS_B h.b at_, by rw [trimS_pages, trimS_safe]; exact h.pg, by have := (trimS_B h.rb at_).len; rw [trimS_wc] at this; exact this⟩
theorem Rel.put {s : Fl} {c : List (Int × List UInt8)} {m : Nat} (h : Rel s c m) (n at_ kd : Int) (b : List UInt8) : Rel (tputS s n at_ kd b) c (m + 1) := by
 unfold tputS; split
 · exact h.mono (Nat.le_succ _)
 · exact h.write _ _
theorem Rel.fuse {s : Fl} {c : List (Int × List UInt8)} {n : Nat} (h : Rel s c n) {k : Int} (hk : k < 9223372036854775808) : Rel (fuseS s k) c n := ⟨fuseS_B h.b hk, h.pg, h.len⟩
theorem Rel.crash {s : Fl} {c : List (Int × List UInt8)} {n : Nat} (h : Rel s c n) (keep : List Int) : Rel (crashS s keep) (settleKeepC c s.loose keep) n :=
 ⟨crashS_B h.b keep, h.pg.keep h.b.lpage h.b.lrng, by have := (settleKeepC_ok (ls := s.loose) (ks := keep) h.pg.cs.page h.b.lpage).2; have := h.len; show _ + 0 ≤ n; omega⟩
theorem Rel.flush {s : Fl} {c : List (Int × List UInt8)} {n : Nat} (h : Rel s c n) : Rel (flushS s) (flushCC s c) (n + 1) := by
 have hb := flushS_B h.b
 have hl := (settleAllC_ok (ls := s.loose) h.pg.cs.page h.b.lpage).2
 have h3 := h.len
 have e := burnS_pages s
 have e2 := burnS_safe s
 have e3 := burnS_loose s
 unfold flushS flushCC at *
 by_cases hd : s.down = true
 · rw [if_pos hd] at hb ⊢; rw [if_pos hd]; exact ⟨hb, h.pg, by omega⟩
 · rw [if_neg hd] at hb ⊢; rw [if_neg hd]
   by_cases hbb : burnB s = true
   · rw [if_pos hbb] at hb ⊢; rw [if_pos hbb]; exact ⟨hb, by rw [e, e2]; exact h.pg, by rw [e3]; omega⟩
   · rw [if_neg hbb] at hb ⊢; rw [if_neg hbb]; exact ⟨hb, by show Pgs (burnS s).pages _ _; rw [e]; exact h.pg.all h.b.lpage h.b.lrng, by show _ + 0 ≤ _; omega⟩
theorem Rel.look {s : Fl} {c : List (Int × List UInt8)} {n : Nat} (h : Rel s c n) (k : Int) : lookB (wc s c) k = lookB s k := by
 unfold lookB
 cases lookL s.loose k with
 | some o => rfl
 | none => exact congrArg (Option.getD · z256) (h.pg.find k)
theorem cellsAt_ext {s : Fl} {k1 k2 : List Int} (h1 : k1.Pairwise (· < ·)) (h2 : k2.Pairwise (· < ·)) (h : ∀ k, blankB (lookB s k) = false → (k ∈ k1 ↔ k ∈ k2)) : cellsAt s k1 = cellsAt s k2 := by
 unfold cellsAt
 rw [List.filter_map, List.filter_map]
 congr 1
 refine sorted_ext (h1.filter _) (h2.filter _) fun k => ?_
 rw [List.mem_filter, List.mem_filter]
 simp only [Function.comp_apply, Bool.not_eq_true']
 constructor
 · rintro ⟨h3, h4⟩; exact ⟨(h k h4).1 h3, h4⟩
 · rintro ⟨h3, h4⟩; exact ⟨(h k h4).2 h3, h4⟩
theorem upto_lt (n : Nat) : (upto n).Pairwise (· < ·) := by
 unfold upto
 rw [List.pairwise_map]
 exact List.pairwise_lt_range.imp fun h => by omega
theorem upto_mem {n : Nat} {k : Int} : k ∈ upto n ↔ 0 ≤ k ∧ k < n := by
 unfold upto
 rw [List.mem_map]
 constructor
 · rintro ⟨i, hi, rfl⟩; have := List.mem_range.1 hi; omega
 · rintro ⟨h1, h2⟩; exact ⟨k.toNat, List.mem_range.2 (by omega), by omega⟩
theorem lookL_mem {l : List (Int × Option (List UInt8))} {k : Int} (h : k ∉ l.map (·.1)) : lookL l k = none := foldl_none fun p hp e => h (List.mem_map.2 ⟨p, hp, e⟩)
theorem cells_all {s : Fl} {n : Nat} (h : s.B n) : cellsAt s (upto s.pages.toNat) = cellsF s := by
 refine cellsAt_ext (upto_lt _) (keysF_lt s) fun k hk => ?_
 have hp := h.p1
 have hmem : k ∈ s.safe.map (·.1) ∨ k ∈ s.loose.map (·.1) := by
   by_cases h1 : k ∈ s.loose.map (·.1)
   · exact .inr h1
   · by_cases h2 : k ∈ s.safe.map (·.1)
     · exact .inl h2
     · exfalso
       have : lookB s k = z256 := by unfold lookB; rw [lookL_mem h1, findM_none.2 h2]; rfl
       rw [this, blank_z] at hk; cases hk
 rw [upto_mem, keysF_mem]
 refine ⟨fun _ => hmem, fun _ => ?_⟩
 rcases hmem with hm | hm
 · obtain ⟨p, hp2, rfl⟩ := List.mem_map.1 hm
   have := h.safe.rng p hp2; omega
 · obtain ⟨p, hp2, rfl⟩ := List.mem_map.1 hm
   have := h.lrng p hp2; omega
theorem Rel.cells {s : Fl} {c : List (Int × List UInt8)} {n : Nat} (h : Rel s c n) : cellsAt (wc s c) (upto (wc s c).pages.toNat) = cellsF s := by
 rw [← cells_all h.b]
 unfold cellsAt
 have : (fun k => (k, lookB (wc s c) k)) = fun k => (k, lookB s k) := by funext k; rw [h.look]
 rw [this]
end
section
attribute [local go_sem] packed List.set_cons_zero List.set_cons_succ List.cons_append List.nil_append bytesRows_length cellRows_len chRows_len rCells intRows_len
attribute [-go_sem] cellsOf AV.isCell
attribute [local go_sem] cellsOf_agg cellsOf_int cellsOf_bool cellsOf_str cellsOf_map cellsOf_ptr cellsOf_nilI cellsOf_slice cellsOf_sl cellsOf_ifc cellsOf_fp cellsOf_opt optAV_cell icell_int icell_bool icell_str icell_map icell_ptr icell_nilI icell_slice icell_sl icell_ifc icell_fp
theorem getBox_GL (Δ : List HP) (b : Nat) : getBox (GL :: Δ) b = getBox Δ b := rfl
theorem setBox_GL (Δ : List HP) (b : Nat) (c : List AV) : setBox (GL :: Δ) b c = GL :: setBox Δ b c := rfl
theorem fresh_GL (Δ : List HP) (b : Nat) : fresh (GL :: Δ) b = fresh Δ b := rfl
theorem tputN_bd {s : Fl} {n at_ kd : Int} {b : List UInt8} (h : 1 ≤ n ∧ n ≤ 1099511627777) : 1 ≤ tputN s n at_ kd b ∧ tputN s n at_ kd b ≤ 1099511627777 := by
 unfold tputN
 split
 · rename_i hz
   have : checkC n kd b.length = 0 := by
     unfold tputC at hz
     false_or_by_contra
     rename_i hn
     rw [if_pos hn] at hz
     exact hn hz
   have := (checkC_zero this).1
   omega
 · exact h
def firmCC (s : Fl) (c : List (Int × List UInt8)) (n at_ kd : Int) (b : List UInt8) : List (Int × List UInt8) := if tputC s n at_ kd b ≠ 0 then c else flushCC (tputS s n at_ kd b) c
theorem firm_wc (s : Fl) (c : List (Int × List UInt8)) (n at_ kd : Int) (b : List UInt8) : tfirm04S (wc s c) n at_ kd b = wc (tfirmS s n at_ kd b) (firmCC s c n at_ kd b) := by
 unfold tfirm04S tfirmS firmCC
 have : tputC (wc s c) n at_ kd b = tputC s n at_ kd b := rfl
 rw [this, tputS_wc, flush_wc]
 split <;> rfl
theorem Rel.firm {s : Fl} {c : List (Int × List UInt8)} {m : Nat} (h : Rel s c m) (n at_ kd : Int) (b : List UInt8) : Rel (tfirmS s n at_ kd b) (firmCC s c n at_ kd b) (m + 2) := by
 unfold tfirmS firmCC
 by_cases hc : tputC s n at_ kd b ≠ 0
 · rw [if_pos hc, if_pos hc]; exact (h.put n at_ kd b).mono (by omega)
 · rw [if_neg hc, if_neg hc]; exact (h.put n at_ kd b).flush
theorem _root_.Go.Av.ACalls.underL {f : FuncId} {args : List AV} {D : List HP} {R : APost} (L : List HP) (h : ACalls Tryz.prog f args D R) : ACalls Tryz.prog f args (L ++ D) (fun r Δ' => ∃ D', R r D' ∧ Δ' = L ++ D') :=
 h.reorder (Fr := L) List.perm_append_comm (fun D' => L ++ D') (fun D' => List.perm_append_comm)
theorem _root_.Go.Av.ACalls.under1 {f : FuncId} {args : List AV} {D : List HP} {R : APost} (x : HP) (h : ACalls Tryz.prog f args D R) : ACalls Tryz.prog f args (x :: D) (fun r Δ' => ∃ D', R r D' ∧ Δ' = x :: D') := h.underL [x]
theorem _root_.Go.Av.ACalls.under5 {f : FuncId} {args : List AV} {D : List HP} {R : APost} (a b c d e : HP) (h : ACalls Tryz.prog f args D R) : ACalls Tryz.prog f args (a :: b :: c :: d :: e :: D) (fun r Δ' => ∃ D', R r D' ∧ Δ' = a :: b :: c :: d :: e :: D') := h.underL [a, b, c, d, e]
theorem checkC_ne11 (st kd : Int) (n : Nat) : checkC st kd n ≠ 11 := by
 unfold checkC; split
 · decide
 · split
   · decide
   · split <;> decide
theorem getC_ne11 (b : List UInt8) : getC b ≠ 11 := by
 have := checkC_ne11 (stampsB b).1 (kdB b) (nB b)
 unfold getC
 repeat' split
 all_goals first | decide | assumption
theorem tgetC_up {s : Fl} (h : s.down = false) (at_ kd : Int) : tgetC s at_ kd ≠ 11 := by
 unfold tgetC
 have h1 : checkF s at_ ≠ 11 := by unfold checkF; rw [h]; simp only [Bool.false_eq_true, if_false]; split <;> decide
 have := getC_ne11 (lookB s at_)
 repeat' split
 all_goals first | decide | assumption
theorem tgetC_down {s : Fl} (h : s.down = true) (at_ kd : Int) : tgetC s at_ kd = 11 := by
 unfold tgetC checkF; rw [h]; rfl
theorem _root_.Go.Av.ACalls.keepAll {f : FuncId} {args : List AV} {Δ1 Δ Fr : List HP} {Q : AEnd → Prop} (h : ACalls Tryz.prog f args Δ1 (fun r D' => Q r ∧ D' = Δ1)) (hp : Δ.Perm (Δ1 ++ Fr)) : ACalls Tryz.prog f args Δ (fun r D' => Q r ∧ D' = Δ) := by
 have h2 := (h.frame (Fr := Fr)).perm hp
 refine ⟨h.callable, fun g B us s r => (h2.run g B us s r).mono ?_⟩
 rintro e w' ⟨g', B', a, Δ', h1, h3, h4, h5, D1, rfl, h6, rfl⟩
 exact ⟨g', B', a, Δ, h1, h3, ⟨h4.fzlt, h4.blt, h4.disj, sep_perm hp.symm h4.sep⟩, h5, h6, rfl⟩
end
section
attribute [local go_sem] packed
def markAV (k : Int) : AV := .ifc 303 (.agg [.c (.int .i64 k)])
attribute [local go_sem] markAV
theorem unwrap_ok (op at_ c u : AV) : ACalls Tryz.prog 263 [.fp [op, at_, c, u]] [] (Ret u) := by
 refine calls_of_J cl_263 Tryz.func263 rfl (by simp [Tryz.ntmps263]) ?_
 refine jr (h := ?_)
 refine jret Tryz.func263 (h := ⟨rfl, rfl⟩)
theorem is1_ok (op at_ u : AV) (c k : Int) : ACalls Tryz.prog 262 [.fp [op, at_, .c (.int .i64 c), u], markAV k] [] (Ret (.c (.bool (decide (c = k) && !decide (c = 0))))) := by
 refine calls_of_J cl_262 Tryz.func262 rfl (by simp [Tryz.ntmps262]) ?_
 refine jr (own := [5]) (h := ?_)
 refine jnv (hh := fun b hb => ?_)
 refine jr (h := ?_)
 by_cases hck : c = k
 · refine jd [(0, .pure), (1, .pure), (2, .pure), (3, .pure), (4, .pure), (5, .read), (6, .pure), (7, .read), (8, .pure), (9, .pure), (10, .pure), (11, .pure), (12, .pure), (13, .pure), (14, .read), (15, .pure), (16, .pure), (17, .pure)] mixed (by kernel_rfl) ?_
   refine cq hck (hk := ?_)
   refine Can_nil ?_
   refine jr (h := ?_)
   refine J_forget ?_
   refine jret Tryz.func262 (h := ⟨by subst hck; simp, rfl⟩)
 · refine jd [(0, .pure), (1, .pure), (2, .pure), (3, .pure), (4, .pure), (5, .read), (6, .pure), (7, .read), (8, .pure), (9, .pure), (10, .pure), (11, .pure), (12, .pure), (13, .pure), (14, .read), (15, .pure), (16, .pure), (17, .pure)] mixed (by kernel_rfl) ?_
   refine cq hck (hk := ?_)
   refine Can_nil ?_
   refine jr (h := ?_)
   refine J_forget ?_
   refine jret Tryz.func262 (h := ⟨by simp [hck], rfl⟩)
theorem m_Is (v : Value) (w : World) : (Go.method (Tryz.prog.types.size + Made.depth) 123 v "Is").run Tryz.prog w = .ok (262, v) w := by kernel_rfl
theorem m_Unwrap (v : Value) (w : World) : (Go.method (Tryz.prog.types.size + Made.depth) 123 v "Unwrap").run Tryz.prog w = .ok (263, v) w := by kernel_rfl
theorem isl_ok {e : AV} {c : Int} (he : IsErr e c) (hc : c ≠ 0) (k : Int) : ACalls Tryz.prog 216 [e, markAV k, .c (.bool true)] [] (Ret (.c (.bool (decide (c = k))))) := by
 refine calls_of_J cl_216 Tryz.func216 rfl (by simp [Tryz.ntmps216]) ?_
 refine jr (h := ?_)
 refine J_loop ?_
 refine jk [0, 1, 2] (h := ?_)
 induction he with
 | none => exact absurd rfl hc
 | code op at_ c h =>
   have h1 := is1_ok op (.c (.int .i64 at_)) (.c .nilIface) c k
   rw [show (decide (c = k) && !decide (c = 0)) = decide (c = k) from by simp [h]] at h1
   refine jr (h := ?_)
   refine jog (ho := rfl) (hh := eql_types rfl (by simp only [go_sem, ↓reduceIte, Int.reduceLT, Int.reduceLE, Int.reduceToNat, Int.reducePow, Int.reduceNeg, Nat.reduceBEq] <;> with_reducible rfl) (by simp only [go_sem, ↓reduceIte, Int.reduceLT, Int.reduceLE, Int.reduceToNat, Int.reducePow, Int.reduceNeg, Nat.reduceBEq] <;> with_reducible rfl) Tryz.underlying27 (by decide)) (hk := ?_)
   rintro _ _ ⟨rfl, rfl⟩
   refine jr (h := ?_)
   refine jn (h := ?_)
   refine jr (h := ?_)
   refine jog (ho := rfl) (hh := tassert_has rfl (by simp only [go_sem, ↓reduceIte, Int.reduceLT, Int.reduceLE, Int.reduceToNat, Int.reducePow, Int.reduceNeg, Nat.reduceBEq] <;> with_reducible rfl) Tryz.underlying339 (by kernel_rfl)) (hk := ?_)
   rintro _ _ ⟨rfl, rfl⟩
   refine jr (h := ?_)
   refine jic (hm := m_Is) (hs := h1) (hk := ?_)
   refine jr (h := ?_)
   refine jif (h1 := fun hck => ?_) (h2 := fun hck => ?_)
   · refine jr (h := ?_)
     refine jret Tryz.func216 (h := ⟨by simp [hck], rfl⟩)
   · refine jr (h := ?_)
     refine jog (ho := rfl) (hh := tassert_has rfl (by simp only [go_sem, ↓reduceIte, Int.reduceLT, Int.reduceLE, Int.reduceToNat, Int.reducePow, Int.reduceNeg, Nat.reduceBEq] <;> with_reducible rfl) Tryz.underlying270 (by kernel_rfl)) (hk := ?_)
     rintro _ _ ⟨rfl, rfl⟩
     refine jr (h := ?_)
     refine jt (h := ?_)
     refine jr (h := ?_)
     refine jic (hm := m_Unwrap) (hs := (unwrap_ok _ _ _ _)) (hk := ?_)
     refine jr (h := ?_)
     refine jt (h := ?_)
     refine jr (h := ?_)
     refine jret Tryz.func216 (h := ⟨by simp [hck], rfl⟩)
 | under op at_ u c h hu ih =>
   have h1 := is1_ok op (.c (.int .i64 at_)) u 0 k
   simp only [decide_true, Bool.not_true, Bool.and_false] at h1
   have hif : ∃ t x, u = .ifc t x := by
     cases hu with
     | none => exact absurd rfl h
     | code => exact ⟨_, _, rfl⟩
     | under => exact ⟨_, _, rfl⟩
   refine jr (h := ?_)
   refine jog (ho := rfl) (hh := eql_types rfl (by simp only [go_sem, ↓reduceIte, Int.reduceLT, Int.reduceLE, Int.reduceToNat, Int.reducePow, Int.reduceNeg, Nat.reduceBEq] <;> with_reducible rfl) (by simp only [go_sem, ↓reduceIte, Int.reduceLT, Int.reduceLE, Int.reduceToNat, Int.reducePow, Int.reduceNeg, Nat.reduceBEq] <;> with_reducible rfl) Tryz.underlying27 (by decide)) (hk := ?_)
   rintro _ _ ⟨rfl, rfl⟩
   refine jr (h := ?_)
   refine jn (h := ?_)
   refine jr (h := ?_)
   refine jog (ho := rfl) (hh := tassert_has rfl (by simp only [go_sem, ↓reduceIte, Int.reduceLT, Int.reduceLE, Int.reduceToNat, Int.reducePow, Int.reduceNeg, Nat.reduceBEq] <;> with_reducible rfl) Tryz.underlying339 (by kernel_rfl)) (hk := ?_)
   rintro _ _ ⟨rfl, rfl⟩
   refine jr (h := ?_)
   refine jic (hm := m_Is) (hs := h1) (hk := ?_)
   refine jr (h := ?_)
   refine jn (h := ?_)
   refine jr (h := ?_)
   refine jog (ho := rfl) (hh := tassert_has rfl (by simp only [go_sem, ↓reduceIte, Int.reduceLT, Int.reduceLE, Int.reduceToNat, Int.reducePow, Int.reduceNeg, Nat.reduceBEq] <;> with_reducible rfl) Tryz.underlying270 (by kernel_rfl)) (hk := ?_)
   rintro _ _ ⟨rfl, rfl⟩
   refine jr (h := ?_)
   refine jt (h := ?_)
   refine jr (h := ?_)
   refine jic (hm := m_Unwrap) (hs := (unwrap_ok _ _ _ _)) (hk := ?_)
   obtain ⟨t, x, rfl⟩ := hif
   refine jr (h := ?_)
   refine jn (h := ?_)
   refine jr (h := ?_)
   refine J_inLoop ?_
   refine jk [0, 1, 2] (h := ?_)
   exact ih h
theorem typeOf_x (k : Int) {Δ : List HP} : XOK Tryz.prog 162 [markAV k] Δ (.ifc 262 (.c (.agg #[.pointer (some ⟨1, 303, none⟩)]))) := by
 refine ⟨fun g B us sm hr => ?_⟩
 simp only [relL, rel, markAV] at hr
 obtain ⟨u1, _, rfl, ⟨v1, rfl, hv⟩, rfl⟩ := hr
 have h10 := @run_callFunc_extern Tryz.prog 162 _ Go.Extern.ReflectliteType.typeOf Tryz.func162 (by kernel_rfl) (by kernel_rfl) (by kernel_rfl) (by kernel_rfl)
 have ht : (Go.Extern.ReflectliteType.typeOf #[.iface 303 v1]).run Tryz.prog g.w = .ok (.iface 262 (.agg #[.pointer (some ⟨1, 303, none⟩)])) g.w := by kernel_rfl
 refine ⟨_, ?_, by simp only [rel]; exact ⟨_, rfl, rfl⟩⟩
 rw [h10]
 simp only [Sem.run_bind, ht, Result.andThen_ok, Sem.run_pure]
theorem m_Comparable (v : Value) (w : World) : (Go.method (Tryz.prog.types.size + Made.depth) 262 v "Comparable").run Tryz.prog w = .ok (270, v) w := by kernel_rfl
theorem comparable_x (g : G) (v : Value) (h : rel g (.c (.agg #[.pointer (some ⟨1, 303, none⟩)])) v) : ∃ u, (callFunc 270 #[v]).run Tryz.prog g.w = .ok (.value u) g.w ∧ rel g (.c (.bool true)) u := by
 simp only [rel] at h
 subst h
 have h10 := @run_callFunc_extern Tryz.prog 270 _ (Go.Extern.ReflectliteType.method fun t => do Go.Extern.Rtype.noPackHeld "Comparable" t; pure (.bool (← typeInfo t).comparable)) Tryz.func270 (by kernel_rfl) (by kernel_rfl) (by kernel_rfl) (by kernel_rfl)
 have ht : ((Go.Extern.ReflectliteType.method fun t => do Go.Extern.Rtype.noPackHeld "Comparable" t; pure (.bool (← typeInfo t).comparable)) #[.agg #[.pointer (some ⟨1, 303, none⟩)]]).run Tryz.prog g.w = .ok (.bool true) g.w := by kernel_rfl
 refine ⟨.bool true, ?_, by simp only [rel]⟩
 rw [h10, ht]
 rfl
attribute [local go_sem] AV.isCell
theorem is_ok {e : AV} {c : Int} (he : IsErr e c) (hc : c ≠ 0) (k : Int) : ACalls Tryz.prog 191 [e, markAV k] [] (Ret (.c (.bool (decide (c = k))))) := by
 have hif : ∃ t x, e = .ifc t x := by
   cases he with
   | none => exact absurd rfl hc
   | code => exact ⟨_, _, rfl⟩
   | under => exact ⟨_, _, rfl⟩
 obtain ⟨t, x, rfl⟩ := hif
 refine calls_of_J cl_191 Tryz.func191 rfl (by simp [Tryz.ntmps191]) ?_
 refine jr (h := ?_)
 refine jn (h := ?_)
 refine jr (h := ?_)
 refine J_x (by simp only [go_sem, ↓reduceIte, Int.reduceLT, Int.reduceLE, Int.reduceToNat, Int.reducePow, Int.reduceNeg, Nat.reduceBEq, Tryz.ntmps191] <;> with_reducible rfl) (typeOf_x k) ?_
 refine jr (h := ?_)
 refine jog (ho := rfl) (hh := imethod_x rfl (by simp only [go_sem, ↓reduceIte, Int.reduceLT, Int.reduceLE, Int.reduceToNat, Int.reducePow, Int.reduceNeg, Nat.reduceBEq] <;> with_reducible rfl) m_Comparable comparable_x) (hk := ?_)
 rintro _ _ ⟨rfl, rfl⟩
 refine jr (h := ?_)
 refine jc (hs := isl_ok he hc k) (hk := ?_)
 refine jr (h := ?_)
 refine jret Tryz.func191 (h := ⟨rfl, rfl⟩)
theorem has_ok {e : AV} {c : Int} (he : IsErr e c) (k : Int) : ACalls Tryz.prog 147 [e, .c (.int .i64 k)] [] (Ret (.c (.bool (decide (c ≠ 0 ∧ c = k))))) := by
 by_cases hc : c = 0
 · subst hc
   cases he with
   | none =>
     refine calls_of_J cl_147 Tryz.func147 rfl (by simp [Tryz.ntmps147]) ?_
     refine jr (h := ?_)
     refine jret Tryz.func147 (h := ⟨by simp, rfl⟩)
   | code _ _ _ h => exact absurd rfl h
   | under _ _ _ _ h => exact absurd rfl h
 · have hif : ∃ t x, e = .ifc t x := by
     cases he with
     | none => exact absurd rfl hc
     | code => exact ⟨_, _, rfl⟩
     | under => exact ⟨_, _, rfl⟩
   obtain ⟨t, x, rfl⟩ := hif
   have h1 := is_ok he hc k
   unfold markAV at h1
   refine calls_of_J cl_147 Tryz.func147 rfl (by simp [Tryz.ntmps147]) ?_
   refine jr (h := ?_)
   refine jc (hs := h1) (hk := ?_)
   refine jr (h := ?_)
   refine jret Tryz.func147 (h := ⟨by simp [hc], rfl⟩)
end
section
attribute [local go_sem] packed List.set_cons_zero List.set_cons_succ List.cons_append List.nil_append bytesRows_length
def hi7 (n : Nat) : List UInt8 := if n = 0 then [] else hi7 (n / 128) ++ [UInt8.ofNat (n % 128 + 128)]
termination_by n
decreasing_by omega
def numB (n : Nat) : List UInt8 := hi7 (n / 128) ++ [UInt8.ofNat (n % 128)]
theorem hi7_zero : hi7 0 = [] := by rw [hi7]; simp
theorem hi7_pos {n : Nat} (h : n ≠ 0) : hi7 n = hi7 (n / 128) ++ [UInt8.ofNat (n % 128 + 128)] := by rw [hi7, if_neg h]
theorem hi7_len : ∀ (k n : Nat), n < 128 ^ k → (hi7 n).length ≤ k
 | 0, n, h => by have : n = 0 := by simpa using h
                 subst this; simp [hi7_zero]
 | k + 1, n, h => by
   by_cases h0 : n = 0
   · subst h0; simp [hi7_zero]
   · rw [hi7_pos h0, List.length_append]
     have := hi7_len k (n / 128) (by rw [Nat.pow_succ] at h; omega)
     simp; omega
theorem numB_len {n : Nat} (h : n ≤ 1099511627776) : (numB n).length ≤ 6 := by
 have := hi7_len 5 (n / 128) (by omega)
 unfold numB; rw [List.length_append]; simp; omega
def numsB (l : List Nat) : List UInt8 := l.flatMap numB
theorem numsB_take {l : List Nat} {i n : Nat} (h : l[i]? = some n) : numsB (l.take (i + 1)) = numsB (l.take i) ++ numB n := by
 have hl := (List.getElem?_eq_some_iff.1 h).1
 have hg := (List.getElem?_eq_some_iff.1 h).2
 rw [List.take_succ_eq_append_getElem hl, numsB, List.flatMap_append, hg]
 simp [numsB]
theorem numsB_len : ∀ {l : List Nat}, (∀ n ∈ l, n ≤ 1099511627776) → (numsB l).length ≤ 6 * l.length
 | [], _ => by simp [numsB]
 | n :: l, h => by
   have h1 := numB_len (h n (by simp))
   have h2 := numsB_len (l := l) fun m hm => h m (by simp [hm])
   simp only [numsB, List.flatMap_cons, List.length_append, List.length_cons] at h2 ⊢
   omega
def natRows (l : List Nat) : List (List AV) := l.map fun (n : Nat) => [.c (.int .i64 (n : Int))]
theorem natRows_len (l : List Nat) : (natRows l).length = l.length := by simp [natRows]
theorem natRows_get {l : List Nat} {i n : Nat} (h : l[i]? = some n) : (natRows l)[i]? = some [.c (.int .i64 (n : Int))] := by simp [natRows, h]
theorem or128 (y : UInt8) : aint .or .u8 (y.toNat : Int) 128 = some (.c (.int .u8 ((UInt8.ofNat (y.toNat % 128 + 128)).toNat : Int))) := by
 have h : ∀ y : Fin 256, aint .or .u8 (y.val : Int) 128 = some (.c (.int .u8 ((UInt8.ofNat (y.val % 128 + 128)).toNat : Int))) := by
   intro y
   refine congrArg some (congrArg AV.c (congrArg (Value.int .u8) ?_))
   revert y; decide +kernel
 exact h ⟨y.toNat, y.toNat_lt⟩
theorem and127 (y : UInt8) : aint .and .u8 (y.toNat : Int) 127 = some (.c (.int .u8 ((UInt8.ofNat (y.toNat % 128)).toNat : Int))) := by
 have h : ∀ y : Fin 256, aint .and .u8 (y.val : Int) 127 = some (.c (.int .u8 ((UInt8.ofNat (y.val % 128)).toNat : Int))) := by
   intro y
   refine congrArg some (congrArg AV.c (congrArg (Value.int .u8) ?_))
   revert y; decide +kernel
 exact h ⟨y.toNat, y.toNat_lt⟩
theorem pow128 (h : Nat) : 2 ^ (7 * h) = 128 ^ h := by rw [Nat.pow_mul]
theorem div128 (n h : Nat) : n / 128 ^ h / 128 = n / 128 ^ (h + 1) := by rw [Nat.div_div_eq_div_mul, Nat.pow_succ]
theorem high_le {n h : Nat} (hn : n ≤ 1099511627776) (h1 : 128 ≤ n / 128 ^ h) : h ≤ 4 := by
 by_cases h5 : h ≤ 4
 · exact h5
 · have h2 := (Nat.le_div_iff_mul_le (Nat.pow_pos (by decide))).1 h1
   have h3 : 128 ^ 5 ≤ 128 ^ h := Nat.pow_le_pow_right (by decide) (by omega)
   omega
theorem put02_ok (b : List UInt8) (l : List Nat) (hb : b.length < 2 ^ 36) (hl : l.length < 1000) (hn : ∀ n ∈ l, n ≤ 1099511627776) :
   ACalls Tryz.prog 61 [.sl 1 (bytesRows b), .sl 1 (natRows l)] [] (fun r D => ∃ v, r = .ret (.c v) ∧ OwnB 5 (b ++ numsB l) v D) := by
 refine calls_of_J cl_61 Tryz.func61 rfl (by simp [Tryz.ntmps61]) ?_
 refine jr (own := [11]) (h := ?_)
 refine jbi (hb := append0_bi (by simp only [go_sem, ↓reduceIte, Int.reduceLT, Int.reduceLE, Int.reduceToNat, Int.reducePow, Int.reduceNeg, Nat.reduceBEq] <;> with_reducible rfl) (by simp only [go_sem, srcOf] <;> rfl) bytes_cell (by omega)) (hk := ?_)
 rintro _ D ⟨v, _, rfl, rfl, how⟩
 refine J_mrun (own := []) (m := 2000) (by simp (maxSteps := 2000000) (disch := omega) only [go_sem, ↓reduceIte, Int.reduceLT, Int.reduceLE, Int.reduceToNat, Int.reducePow, Int.reduceNeg, Nat.reduceBEq, Tryz.ntmps61, natRows_len] <;> with_reducible rfl) ?_
 refine jk [5, 12, 13, 14] (h := ?_)
 refine J_loopI (I := fun m e D => ∃ (i : Nat) (v : Value), i ≤ l.length ∧ m = l.length - i ∧ OwnB 5 (b ++ numsB (l.take i)) v D ∧ e = [(5, .c v), (12, .sl 1 (natRows l)), (13, .c (.int .i64 l.length)), (14, .c (.int .i64 i))]) ?_ ?_
 · exact ⟨_, 0, v, by omega, rfl, by simpa [numsB] using how, rfl⟩
 · rintro m e D ⟨i, v, hi, rfl, how, rfl⟩ ih
   refine jr (h := ?_)
   refine jif (h1 := fun hc => ?_) (h2 := fun hc => ?_)
   · have hlt : i < l.length := by omega
     have hg := natRows_get (List.getElem?_eq_getElem hlt)
     have hnl := natRows_len l
     have h0 : (0 : Int) ≤ (i : Int) := by omega
     have hmax := hn _ (List.getElem_mem hlt)
     have hbl : (numsB (l.take i)).length ≤ 6 * i := by
       have := numsB_len (l := l.take i) fun n h => hn n (List.mem_of_mem_take h)
       rw [List.length_take] at this; omega
     generalize hx : l[i] = n at *
     refine jf (a3 hg hnl h0) (h := ?_)
     refine jk [5, 7, 8, 12, 13, 14] (h := ?_)
     refine J_loopI (I := fun m e D' => ∃ (h : Nat), h ≤ 6 ∧ (∀ j, j < h → 128 ≤ n / 128 ^ j) ∧ m = 6 - h ∧ D' = D ∧ e = [(5, .c v), (7, .c (.int .i64 n)), (8, .c (.int .i64 h)), (12, .sl 1 (natRows l)), (13, .c (.int .i64 l.length)), (14, .c (.int .i64 i))]) ?_ ?_
     · exact ⟨_, 0, by omega, by intro j h; omega, rfl, rfl, rfl⟩
     · rintro m e _ ⟨h, hh, hj, rfl, rfl, rfl⟩ ih2
       have hsh : (7 * (h : Int)).toNat = 7 * h := by omega
       have hdiv : ((n : Int) / 2 ^ (7 * h)) = ((n / 128 ^ h : Nat) : Int) := by rw [← pow128]; simp
       refine jf (a2 hsh hdiv) (h := ?_)
       refine jif (h1 := fun hd => ?_) (h2 := fun hd => ?_)
       · have h128 : 128 ≤ n / 128 ^ h := by omega
         have h4 := high_le hmax h128
         refine jr (h := ?_)
         refine jk [5, 7, 8, 12, 13, 14] (h := ?_)
         refine ih2 (6 - (h + 1)) _ _ (by omega) ⟨h + 1, by omega, ?_, rfl, rfl, rfl⟩
         intro j hjl
         by_cases hjh : j = h
         · subst hjh; exact h128
         · exact hj j (by omega)
       · have h128 : n / 128 ^ h < 128 := by omega
         refine jr (h := ?_)
         refine jk [5, 7, 8, 12, 13, 14] (h := ?_)
         refine J_loopI (I := fun m e D' => ∃ (j : Nat) (v' : Value), j ≤ h ∧ j = m ∧ OwnB 5 (b ++ numsB (l.take i) ++ hi7 (n / 128 ^ (j + 1))) v' D' ∧ e = [(5, .c v'), (7, .c (.int .i64 n)), (8, .c (.int .i64 j)), (12, .sl 1 (natRows l)), (13, .c (.int .i64 l.length)), (14, .c (.int .i64 i))]) ?_ ?_
         · refine ⟨_, h, v, by omega, rfl, ?_, rfl⟩
           rw [← div128, Nat.div_eq_of_lt h128, hi7_zero, List.append_nil]
           exact how
         · rintro m e D2 ⟨j, v', hjh, rfl, how2, rfl⟩ ih3
           have hbl2 : (hi7 (n / 128 ^ (j + 1))).length ≤ 6 := hi7_len 6 _ (Nat.lt_of_le_of_lt (Nat.div_le_self _ _) (by omega))
           refine jr (h := ?_)
           refine jif (h1 := fun hj0 => ?_) (h2 := fun hj0 => ?_)
           · have hsh2 : (7 * (j : Int)).toNat = 7 * j := by omega
             have hdiv2 : ((n : Int) / 2 ^ (7 * j)) = ((n / 128 ^ j : Nat) : Int) := by rw [← pow128]; simp
             have hw := wrap8_nat (n / 128 ^ j)
             have hor := or128 (UInt8.ofNat (n / 128 ^ j))
             refine jf (own := [37]) (a4 hsh2 hdiv2 hw hor) (h := ?_)
             refine jap (Fr := []) (how := how2) (hp := (by simp)) (hsrc := (by simp only [go_sem, srcOf] <;> rfl)) (hc := (by rfl)) (hmax := (by simp only [List.length_append]; omega)) (hk := ?_)
             rintro _ D3 ⟨v3, _, rfl, rfl, how3⟩
             refine jr (h := ?_)
             refine jk [5, 7, 8, 12, 13, 14] (h := ?_)
             refine ih3 (j - 1) _ _ (by omega) ⟨j - 1, v3, by omega, rfl, ?_, ?_⟩
             · have hj1 : j - 1 + 1 = j := by omega
               have hnz : n / 128 ^ j ≠ 0 := by
                 have h1 := hj (j - 1) (by omega)
                 have h2 : n / 128 ^ j = n / 128 ^ (j - 1) / 128 := by rw [div128, hj1]
                 omega
               rw [hj1, hi7_pos hnz, div128, ← List.append_assoc]
               have he : UInt8.ofNat ((UInt8.ofNat (n / 128 ^ j)).toNat % 128 + 128) = UInt8.ofNat (n / 128 ^ j % 128 + 128) := by
                 rw [UInt8.toNat_ofNat']; congr 2; omega
               rw [← he]
               exact ownB_app (b := [UInt8.ofNat ((UInt8.ofNat (n / 128 ^ j)).toNat % 128 + 128)]) how3
             · have : (j : Int) - 1 = ((j - 1 : Nat) : Int) := by omega
               rw [this]
           · have hj0' : j = 0 := by omega
             subst hj0'
             have hw := wrap8_nat n
             have hand := and127 (UInt8.ofNat n)
             refine jf (own := [43]) (a2 hw hand) (h := ?_)
             refine jap (Fr := []) (how := how2) (hp := (by simp)) (hsrc := (by simp only [go_sem, srcOf] <;> rfl)) (hc := (by rfl)) (hmax := (by simp only [List.length_append]; omega)) (hk := ?_)
             rintro _ D3 ⟨v3, _, rfl, rfl, how3⟩
             refine jr (h := ?_)
             refine jk [5, 12, 13, 14] (h := ?_)
             refine ih (l.length - (i + 1)) _ _ (by omega) ⟨i + 1, v3, by omega, rfl, ?_, rfl⟩
             rw [numsB_take (List.getElem?_eq_some_iff.2 ⟨hlt, hx⟩), ← List.append_assoc, numB, ← List.append_assoc]
             have he : UInt8.ofNat ((UInt8.ofNat n).toNat % 128) = UInt8.ofNat (n % 128) := by
               rw [UInt8.toNat_ofNat']; congr 1; omega
             rw [← he]
             exact ownB_app (b := [UInt8.ofNat ((UInt8.ofNat n).toNat % 128)]) how3
   · have hi2 : i = l.length := by omega
     subst hi2
     have how2 : OwnB 5 (b ++ numsB l) v D := by rw [List.take_length] at how; exact how
     refine jr (h := ?_)
     refine jret Tryz.func61 (h := ⟨v, rfl, how2⟩)
theorem put02_fz (b : List UInt8) (l : List Nat) (hb : b.length < 2 ^ 36) (hl : l.length < 1000) (hn : ∀ n ∈ l, n ≤ 1099511627776) : ACalls Tryz.prog 61 [.sl 1 (bytesRows b), .sl 1 (natRows l)] [] (Ret (.sl 1 (bytesRows (b ++ numsB l)))) :=
 (put02_ok b l hb hl hn).freezeB (by have := numsB_len hn; unfold maxRows; simp only [List.length_append]; omega)
theorem nil_slz : (AV.c (.slice none 0 0)).le .sl0 := fun g v h => by
 simp only [rel] at h ⊢; exact ⟨_, h⟩
theorem rem_natN (k : IntKind) {a b : Nat} (hb : 0 < b) : aint .rem k (a : Int) (b : Int) = some (.c (.int k ((a % b : Nat) : Int))) := by
 unfold aint; simp only []; rw [if_neg (by omega), Int.tmod_eq_emod_of_nonneg (by omega)]; rfl
theorem remN {a : Nat} : aint .rem .i64 (a : Int) 128 = some (.c (.int .i64 ((a % 128 : Nat) : Int))) := rem_natN .i64 (b := 128) (by decide)
theorem quo_i64 {a b : Nat} (ha : a < 2 ^ 62) (hb : 0 < b) : aint .quo .i64 (a : Int) (b : Int) = some (.c (.int .i64 ((a / b : Nat) : Int))) := by
 unfold aint; simp only []
 have h1 : a / b ≤ a := Nat.div_le_self _ _
 rw [if_neg (by omega), Int.tdiv_eq_ediv_of_nonneg (by omega), IntKind.wrap_i64, ← Int.natCast_ediv]
 generalize a / b = q at *
 refine congrArg some (congrArg AV.c (congrArg (Value.int .i64) ?_))
 omega
theorem quoN {a : Nat} (ha : a < 2 ^ 62) : aint .quo .i64 (a : Int) 128 = some (.c (.int .i64 ((a / 128 : Nat) : Int))) := quo_i64 (b := 128) ha (by decide)
theorem num02_ok (n : Nat) (hn : n ≤ 1099511627776) : ACalls Tryz.prog 112 [.c (.int .i64 n)] [] (Ret (.sl 1 (bytesRows (numB n)))) := by
 have hr := remN (a := n)
 have hq := quoN (a := n) (by omega)
 have hw := wrap8_nat (n % 128)
 refine calls_of_J cl_112 Tryz.func112 rfl (by simp [Tryz.ntmps112]) ?_
 refine jf (a3 hr hq hw) (h := ?_)
 refine jk [3, 4] (h := ?_)
 refine J_loopI (I := fun m e D => ∃ (k : Nat) (cur : List UInt8), k ≤ 1099511627776 ∧ k = m ∧ D = [] ∧ hi7 k ++ cur = numB n ∧ e = [(3, .sl 1 (bytesRows cur)), (4, .c (.int .i64 k))]) ?_ ?_
 · exact ⟨_, n / 128, [UInt8.ofNat (n % 128)], by omega, rfl, rfl, rfl, rfl⟩
 · rintro m e D ⟨k, cur, hk, rfl, rfl, hcur, rfl⟩ ih
   have hcl : cur.length ≤ 6 := by
     have h1 := numB_len hn
     rw [← hcur, List.length_append] at h1; omega
   refine jr (h := ?_)
   refine jif (h1 := fun hc => ?_) (h2 := fun hc => ?_)
   · have hr2 := remN (a := k)
     have hq2 := quoN (a := k) (by omega)
     have hw2 := wrap8_nat (k % 128 + 128)
     have hca : (((k % 128 : Nat) : Int) + 128) = ((k % 128 + 128 : Nat) : Int) := by omega
     refine jf (own := [20]) (a3 hr2 hca hw2) (h := ?_)
     refine J_op1 rfl (by simp only [go_sem, ↓reduceIte, Int.reduceLT, Int.reduceLE, Int.reduceToNat, Int.reducePow, Int.reduceNeg, Nat.reduceBEq, Tryz.ntmps112]) (newslice_op rfl (by simp only [go_sem, ↓reduceIte, Int.reduceLT, Int.reduceLE, Int.reduceToNat, Int.reducePow, Int.reduceNeg, Nat.reduceBEq] <;> with_reducible rfl) (by simp only [go_sem, ↓reduceIte, Int.reduceLT, Int.reduceLE, Int.reduceToNat, Int.reducePow, Int.reduceNeg, Nat.reduceBEq] <;> with_reducible rfl) (by simp only [go_sem, ↓reduceIte, Int.reduceLT, Int.reduceLE, Int.reduceToNat, Int.reducePow, Int.reduceNeg, Nat.reduceBEq] <;> with_reducible rfl) (by rfl) (by decide) (by decide) (by decide) (by simp only [go_sem, ↓reduceIte, Int.reduceLT, Int.reduceLE, Int.reduceToNat, Int.reducePow, Int.reduceNeg, Nat.reduceBEq] <;> with_reducible rfl) (by simp only [go_sem, ↓reduceIte, Int.reduceLT, Int.reduceLE, Int.reduceToNat, Int.reducePow, Int.reduceNeg, Nat.reduceBEq] <;> with_reducible rfl) (by rfl)) ?_
     rintro _ _ ⟨v7, D7, rfl, rfl, how7⟩
     refine jr (own := [23]) (h := ?_)
     refine jap (Fr := []) (how := (show OwnB 5 [UInt8.ofNat (k % 128 + 128)] v7 D7 from how7)) (hp := (by simp)) (hsrc := (by simp only [go_sem, srcOf] <;> rfl)) (hc := bytes_cell) (hmax := (by simp; omega)) (hk := ?_)
     rintro _ D3 ⟨v3, _, rfl, rfl, how3⟩
     have how4 : OwnB 5 ([UInt8.ofNat (k % 128 + 128)] ++ cur) v3 D3 := ownB_app how3
     refine J_freezeB (Fr := []) how4 (by unfold maxRows; simp; omega) ?_
     refine J_is (t := 23) (by simp only [go_sem]) (List.mem_cons_self ..) (J_drop ?_)
     refine jf hq2 (h := ?_)
     refine jk [3, 4] (h := ?_)
     refine ih (k / 128) _ _ (by omega) ⟨k / 128, [UInt8.ofNat (k % 128 + 128)] ++ cur, by omega, rfl, rfl, ?_, rfl⟩
     rw [← hcur, hi7_pos (by omega : k ≠ 0), List.append_assoc]
   · have hk0 : k = 0 := by omega
     subst hk0
     rw [hi7_zero, List.nil_append] at hcur
     subst hcur
     refine jr (h := ?_)
     refine jret Tryz.func112 (h := ⟨rfl, rfl⟩)
theorem putR_ok (b : List UInt8) (l : List Nat) (hb : b.length < 2 ^ 36) (hl : l.length < 1000) (hn : ∀ n ∈ l, n ≤ 1099511627776) :
   ACalls Tryz.prog 63 [.sl 1 (bytesRows b), .sl 1 (natRows l)] [] (fun r D => ∃ v, r = .ret (.c v) ∧ OwnB 5 (b ++ numsB l) v D) := by
 refine calls_of_J cl_63 Tryz.func63 rfl (by simp [Tryz.ntmps63]) ?_
 refine jr (own := [9]) (h := ?_)
 refine J_wk (t := 7) (y := .sl0) (by simp only [go_sem]) nil_slz ?_
 refine jbi (hb := append0_bi (by simp only [go_sem, ↓reduceIte, Int.reduceLT, Int.reduceLE, Int.reduceToNat, Int.reducePow, Int.reduceNeg, Nat.reduceBEq] <;> with_reducible rfl) (by simp only [go_sem, srcOf] <;> rfl) bytes_cell (by omega)) (hk := ?_)
 rintro _ D ⟨v, _, rfl, rfl, how⟩
 refine jr (h := ?_)
 refine jk [1, 5, 6] (h := ?_)
 refine J_loopI (I := fun m e D => ∃ (i : Nat) (v : Value), i ≤ l.length ∧ m = l.length - i ∧ OwnB 5 (b ++ numsB (l.take i)) v D ∧ e = [(1, .sl 1 (natRows l)), (5, .c v), (6, .c (.int .i64 i))]) ?_ ?_
 · exact ⟨_, 0, v, by omega, rfl, by simpa [numsB] using how, rfl⟩
 · rintro m e D ⟨i, v, hi, rfl, how, rfl⟩ ih
   have hnl := natRows_len l
   refine jf hnl (h := ?_)
   refine jif (h1 := fun hc => ?_) (h2 := fun hc => ?_)
   · have hlt : i < l.length := by omega
     have hg := natRows_get (List.getElem?_eq_getElem hlt)
     have h0 : (0 : Int) ≤ (i : Int) := by omega
     have hmax := hn _ (List.getElem_mem hlt)
     have hbl : (numsB (l.take i)).length ≤ 6 * i := by
       have := numsB_len (l := l.take i) fun n h => hn n (List.mem_of_mem_take h)
       rw [List.length_take] at this; omega
     have hnb := numB_len hmax
     refine jf (own := [22]) (a3 hg hnl h0) (h := ?_)
     refine jc (hs := num02_ok _ hmax) (hk := ?_)
     refine jr (own := [22]) (h := ?_)
     refine jap (Fr := []) (how := how) (hp := (by simp)) (hsrc := (by simp only [go_sem, srcOf] <;> rfl)) (hc := bytes_cell) (hmax := (by simp only [List.length_append]; omega)) (hk := ?_)
     rintro _ D2 ⟨v2, _, rfl, rfl, how2⟩
     refine jr (h := ?_)
     refine jk [1, 5, 6] (h := ?_)
     refine ih (l.length - (i + 1)) _ _ (by omega) ⟨i + 1, v2, by omega, rfl, ?_, rfl⟩
     rw [numsB_take (List.getElem?_eq_getElem hlt), ← List.append_assoc]
     exact ownB_app how2
   · have hi2 : i = l.length := by omega
     subst hi2
     have how2 : OwnB 5 (b ++ numsB l) v D := by rw [List.take_length] at how; exact how
     refine jr (h := ?_)
     refine jret Tryz.func63 (h := ⟨v, rfl, how2⟩)
theorem putR_fz (b : List UInt8) (l : List Nat) (hb : b.length < 2 ^ 36) (hl : l.length < 1000) (hn : ∀ n ∈ l, n ≤ 1099511627776) : ACalls Tryz.prog 63 [.sl 1 (bytesRows b), .sl 1 (natRows l)] [] (Ret (.sl 1 (bytesRows (b ++ numsB l)))) :=
 (putR_ok b l hb hl hn).freezeB (by have := numsB_len hn; unfold maxRows; simp only [List.length_append]; omega)
end
section
attribute [local go_sem] packed List.set_cons_zero List.set_cons_succ List.cons_append List.nil_append bytesRows_length
def scanN (b : List UInt8) (at_ most : Nat) : Nat → Nat → Nat → Int × Nat × Nat
 | 0, _, _ => (6, at_, 0)
 | k + 1, p, n =>
   let c := (b.getD p 0).toNat
   if c = 128 ∧ p = at_ then (5, at_, 0) else if most / 128 < n then (2, at_, 0)
   else if 128 ≤ c then scanN b at_ most k (p + 1) (n * 128 + c % 128)
   else if most < n * 128 + c then (2, at_, 0) else (0, p + 1, n * 128 + c)
def numR (b : List UInt8) (at_ : Nat) (c : Int) (most : Nat) : Int × Nat × Nat := if c ≠ 0 then (c, at_, 0) else scanN b at_ most (b.length - at_) at_ 0
theorem scanN_spec (b : List UInt8) (at_ most : Nat) : ∀ (k p n : Nat), p + k = b.length → at_ ≤ b.length → 0 ≤ (scanN b at_ most k p n).1 ∧ (scanN b at_ most k p n).2.1 ≤ b.length ∧ ((scanN b at_ most k p n).1 ≠ 0 → (scanN b at_ most k p n).2 = (at_, 0)) ∧ ((scanN b at_ most k p n).1 = 0 → (scanN b at_ most k p n).2.2 ≤ most)
 | 0, p, n, _, h => by simp [scanN, h]
 | k + 1, p, n, h1, h2 => by
   simp only [scanN]
   split
   · simp [h2]
   · split
     · simp [h2]
     · split
       · exact scanN_spec b at_ most k _ _ (by omega) h2
       · split
         · simp [h2]
         · exact ⟨by simp, by show p + 1 ≤ _; omega, fun h => absurd rfl h, fun _ => by show n * 128 + _ ≤ most; omega⟩
theorem numR_at (b : List UInt8) {at_ : Nat} (c : Int) (most : Nat) (h : at_ ≤ b.length) : (numR b at_ c most).2.1 ≤ b.length := by
 unfold numR; split
 · exact h
 · exact (scanN_spec b at_ most _ _ _ (by omega) h).2.1
theorem numR_val (b : List UInt8) {at_ : Nat} (c : Int) (most : Nat) (h : at_ ≤ b.length) : (numR b at_ c most).2.2 ≤ most := by
 unfold numR; split
 · simp
 · have h1 := scanN_spec b at_ most (b.length - at_) at_ 0 (by omega) h
   by_cases h0 : (scanN b at_ most (b.length - at_) at_ 0).1 = 0
   · exact h1.2.2.2 h0
   · rw [h1.2.2.1 h0]; exact Nat.zero_le _
theorem or7 {x y : Nat} (hx : x < 2 ^ 50) (hy : y < 128) : aint .or .i64 ((x : Int) * 128) (y : Int) = some (.c (.int .i64 ((x * 128 + y : Nat) : Int))) := by
 show some (AV.c (.int .i64 (IntKind.i64.wrap ((BitVec.ofInt IntKind.i64.bits ((x : Int) * 128) ||| BitVec.ofInt IntKind.i64.bits (y : Int)).toNat : Int)))) = _
 have e1 : BitVec.ofInt IntKind.i64.bits ((x : Int) * 128) = BitVec.ofNat 64 (x * 128) := by
   rw [show ((x : Int) * 128) = ((x * 128 : Nat) : Int) from by omega]; exact BitVec.ofInt_natCast _ _
 have e2 : BitVec.ofInt IntKind.i64.bits (y : Int) = BitVec.ofNat 64 y := BitVec.ofInt_natCast _ _
 rw [e1, e2]
 have e3 : (BitVec.ofNat 64 (x * 128) ||| BitVec.ofNat 64 y).toNat = x * 128 + y := by
   rw [BitVec.toNat_or, BitVec.toNat_ofNat, BitVec.toNat_ofNat, Nat.mod_eq_of_lt (by omega), Nat.mod_eq_of_lt (by omega)]
   have := Nat.shiftLeft_add_eq_or_of_lt (i := 7) (b := y) (by omega) x
   rw [Nat.shiftLeft_eq] at this
   exact this.symm
 have e4 := (congrArg (fun n : Nat => IntKind.i64.wrap (n : Int)) e3).trans (show _ = ((x * 128 + y : Nat) : Int) by rw [IntKind.wrap_i64]; omega)
 exact congrArg some (congrArg AV.c (congrArg (Value.int .i64) e4))
theorem rfail_ok (a : Nat) (b : List UInt8) (at_ c k : Int) : ACalls Tryz.prog 105 [.c (.pointer (some ⟨a, 0, none⟩)), .c (.int .i64 k)] [rdr a b at_ c] (fun r Δ => r = .ret (.tup []) ∧ Δ = [rdr a b at_ (if c = 0 then k else c)]) := by
 refine calls_of_J cl_105 Tryz.func105 rfl (by simp [Tryz.ntmps105]) ?_
 refine jr (h := ?_)
 refine jif (h1 := fun hc => ?_) (h2 := fun hc => ?_)
 · refine jr (h := ?_)
   refine J_end Tryz.func105 (xs := []) (by rfl) ⟨rfl, by rw [if_pos hc]⟩
 · refine jr (h := ?_)
   refine J_end Tryz.func105 (xs := []) (by rfl) ⟨rfl, by rw [if_neg hc]⟩
def NumI (a : Nat) (b : List UInt8) (at_ : Nat) (c : Int) (most : Nat) (m : Nat) (e : Env) (D : List HP) : Prop :=
 ∃ n p : Nat, e = [(0, .c (.pointer (some ⟨a, 0, none⟩))), (1, .c (.int .i64 most)), (5, .c (.int .i64 n)), (6, .c (.int .i64 p))] ∧
   ((c = 0 ∧ at_ ≤ p ∧ p ≤ b.length ∧ n ≤ most + 127 ∧ (p = at_ → n = 0) ∧ m = b.length - p + 1 ∧ D = [rdr a b at_ 0] ∧ numR b at_ c most = scanN b at_ most (b.length - p) p n) ∨
    ((numR b at_ c most).1 ≠ 0 ∧ m = 0 ∧ (numR b at_ c most).2 = (at_, 0) ∧ D = [rdr a b at_ (numR b at_ c most).1]))
theorem numI_back {a : Nat} {b : List UInt8} {at_ : Nat} {c : Int} {most n p : Nat} {k : Int} (hk : k ≠ 0) (h : numR b at_ c most = (k, at_, 0)) :
   NumI a b at_ c most 0 [(0, .c (.pointer (some ⟨a, 0, none⟩))), (1, .c (.int .i64 most)), (5, .c (.int .i64 n)), (6, .c (.int .i64 ((p : Int) + 1)))] [rdr a b at_ k] :=
 ⟨n, p + 1, rfl, .inr (by rw [h]; exact ⟨hk, rfl, rfl, rfl⟩)⟩
theorem rnum_ok (a : Nat) (b : List UInt8) (at_ : Nat) (c : Int) (most : Nat) (h : at_ ≤ b.length) (hb : b.length < 2 ^ 37) (hm : most ≤ 1099511627776) :
   ACalls Tryz.prog 51 [.c (.pointer (some ⟨a, 0, none⟩)), .c (.int .i64 most)] [rdr a b at_ c]
   (fun r Δ => r = .ret (.c (.int .i64 (numR b at_ c most).2.2)) ∧ Δ = [rdr a b (numR b at_ c most).2.1 (numR b at_ c most).1]) := by
 refine calls_of_J cl_51 Tryz.func51 rfl (by simp [Tryz.ntmps51]) ?_
 refine jr (h := ?_)
 refine jd [(0, .pure), (1, .pure), (2, .pure), (3, .read), (4, .pure), (5, .pure)] mixed (by kernel_rfl) ?_
 refine cr (hk := ?_)
 refine Can_nil ?_
 refine jr (h := ?_)
 refine jk [0, 1, 5, 6] (h := ?_)
 refine J_loopI (I := NumI a b at_ c most) ?_ ?_
 · refine ⟨if c = 0 then b.length - at_ + 1 else 0, 0, at_, rfl, ?_⟩
   by_cases hc : c = 0
   · subst hc
     exact .inl ⟨rfl, Nat.le_refl _, h, by omega, fun _ => rfl, rfl, rfl, by unfold numR; simp⟩
   · refine .inr ⟨by unfold numR; rw [if_pos hc]; exact hc, by rw [if_neg hc], by unfold numR; rw [if_pos hc], by unfold numR; rw [if_pos hc]⟩
 · rintro m e D ⟨n, p, rfl, hh⟩ ih
   rcases hh with ⟨rfl, hp1, hp2, hn, hz, rfl, rfl, hS⟩ | ⟨hne, rfl, hs2, rfl⟩
   · refine jr (h := ?_)
     refine jt (h := ?_)
     refine jr (h := ?_)
     refine jif (h1 := fun hge => ?_) (h2 := fun hge => ?_)
     · have hpe : b.length - p = 0 := by omega
       rw [hpe] at hS
       simp only [scanN] at hS
       refine jr (h := ?_)
       refine jcs (Δ1 := [_]) (Fr := []) (hs := (rfail_ok a b at_ 0 6)) (hp := (List.Perm.refl _)) (hk := ?_) (hpan := (by rintro x Δ' ⟨e, _⟩; cases e))
       rintro x _ ⟨e, rfl⟩
       cases e
       refine jr (h := ?_)
       refine jret Tryz.func51 (h := ⟨by rw [hS]; rfl, by rw [hS]⟩)
     · have hlt : p < b.length := by omega
       have hg := bytes_get (getD_get hlt)
       have h0 : (0 : Int) ≤ (p : Int) := by omega
       have hk : b.length - p = (b.length - (p + 1)) + 1 := by omega
       rw [hk] at hS
       simp only [scanN] at hS
       generalize hcc : b.getD p 0 = cc at *
       have hcl := cc.toNat_lt
       by_cases hA : cc.toNat = 128 ∧ p = at_
       · rw [if_pos hA] at hS
         obtain ⟨hA1, rfl⟩ := hA
         have hn0 : (n : Int) = 0 := by have := hz rfl; omega
         have hA2 : (cc.toNat : Int) = 128 := by omega
         refine jq (a3 hg hA2 hn0) (h := ?_)
         refine jt (h := ?_)
         refine jr (h := ?_)
         refine jcs (Δ1 := [_]) (Fr := []) (hs := (rfail_ok a b p 0 5)) (hp := (List.Perm.refl _)) (hk := ?_) (hpan := (by rintro x Δ' ⟨e, _⟩; cases e))
         rintro x _ ⟨e, rfl⟩
         cases e
         refine jr (h := ?_)
         refine jk [0, 1, 5, 6] (h := ?_)
         exact ih 0 _ _ (by omega) (numI_back (by decide) hS)
       · rw [if_neg hA] at hS
         have hsel : (decide ((cc.toNat : Int) = 128) = true ∧ decide ((n : Int) = 0) = true ∧ decide ((p : Int) + 1 = (at_ : Int) + 1) = false) ∨ (decide ((cc.toNat : Int) = 128) = true ∧ decide ((n : Int) = 0) = false ∧ True) ∨ (decide ((cc.toNat : Int) = 128) = false ∧ True ∧ True) := by
           by_cases h1 : cc.toNat = 128
           · by_cases h2 : n = 0
             · exact .inl ⟨by simp; omega, by simp; omega, decide_eq_false fun h3 => hA ⟨h1, by omega⟩⟩
             · exact .inr (.inl ⟨by simp; omega, decide_eq_false (by omega), trivial⟩)
           · exact .inr (.inr ⟨decide_eq_false (by omega), trivial, trivial⟩)
         have hw128 : ((UInt8.ofNat (cc.toNat % 128)).toNat : Int) = ((cc.toNat % 128 : Nat) : Int) := by rw [UInt8.toNat_ofNat']; omega
         have hand := and127 cc
         have hor1 := or7 (x := n) (y := cc.toNat % 128) (by omega) (by omega)
         have hor2 : cc.toNat < 128 → _ := fun h => or7 (x := n) (y := cc.toNat) (by omega) h
         have hshl : ashift .shl .i64 (n : Int) 7 = some (.c (.int .i64 ((n : Int) * 128))) := by
           show some (AV.c (.int .i64 (IntKind.i64.wrap ((n : Int) * 2 ^ 7)))) = _
           refine congrArg some (congrArg AV.c (congrArg (Value.int .i64) ?_))
           rw [IntKind.wrap_i64]; omega
         rcases hsel with ⟨hd1, hd2, hd3⟩ | ⟨hd1, hd2, hd3⟩ | ⟨hd1, hd2, hd3⟩
         all_goals
           refine jf (a4 hg hd1 hd2 hd3) (h := ?_)
           refine jk [0, 1, 5, 6, 7, 50] (h := ?_)
           refine jn (h := ?_)
           refine jr (h := ?_)
           refine jif (h1 := fun h2 => ?_) (h2 := fun h2 => ?_)
           · rw [if_pos (show most / 128 < n by omega)] at hS
             refine jr (h := ?_)
             refine jcs (Δ1 := [_]) (Fr := []) (hs := (rfail_ok a b at_ 0 2)) (hp := (List.Perm.refl _)) (hk := ?_) (hpan := (by rintro x Δ' ⟨e, _⟩; cases e))
             rintro x _ ⟨e, rfl⟩
             cases e
             refine jr (h := ?_)
             refine jk [0, 1, 5, 6] (h := ?_)
             exact ih 0 _ _ (by omega) (numI_back (by decide) hS)
           · rw [if_neg (show ¬ most / 128 < n by omega)] at hS
             refine jr (h := ?_)
             refine jif (h1 := fun h3 => ?_) (h2 := fun h3 => ?_)
             · rw [if_pos (show 128 ≤ cc.toNat by omega)] at hS
               refine jf (a4 hand hw128 hshl hor1) (h := ?_)
               refine jk [0, 1, 5, 6] (h := ?_)
               exact ih (b.length - (p + 1) + 1) _ _ (by omega) ⟨n * 128 + cc.toNat % 128, p + 1, rfl, .inl ⟨rfl, by omega, by omega, by omega, fun h => by omega, rfl, rfl, hS⟩⟩
             · have hlt2 : cc.toNat < 128 := by omega
               rw [if_neg (show ¬ 128 ≤ cc.toNat by omega)] at hS
               have hor3 := hor2 hlt2
               refine jf (a2 hshl hor3) (h := ?_)
               refine jif (h1 := fun h4 => ?_) (h2 := fun h4 => ?_)
               · rw [if_pos (show most < n * 128 + cc.toNat by omega)] at hS
                 refine jr (h := ?_)
                 refine jcs (Δ1 := [_]) (Fr := []) (hs := (rfail_ok a b at_ 0 2)) (hp := (List.Perm.refl _)) (hk := ?_) (hpan := (by rintro x Δ' ⟨e, _⟩; cases e))
                 rintro x _ ⟨e, rfl⟩
                 cases e
                 refine jr (h := ?_)
                 refine jk [0, 1, 5, 6] (h := ?_)
                 exact ih 0 _ _ (by omega) (numI_back (by decide) hS)
               · rw [if_neg (show ¬ most < n * 128 + cc.toNat by omega)] at hS
                 refine jr (h := ?_)
                 refine jret Tryz.func51 (h := ⟨by rw [hS], by rw [hS]; rfl⟩)
   · refine jr (h := ?_)
     refine jif (h1 := fun hc => ?_) (h2 := fun hc => ?_)
     · exact absurd hc hne
     · refine jr (h := ?_)
       refine jret Tryz.func51 (h := ⟨by rw [hs2]; rfl, by rw [hs2]⟩)
theorem rcode_ok (a : Nat) (b : List UInt8) (at_ c : Int) : ACalls Tryz.prog 52 [.c (.pointer (some ⟨a, 0, none⟩))] [rdr a b at_ c] (fun r Δ => r = .ret (.c (.int .i64 c)) ∧ Δ = [rdr a b at_ c]) := by
 refine calls_of_J cl_52 Tryz.func52 rfl (by simp [Tryz.ntmps52]) ?_
 refine jr (h := ?_)
 refine jret Tryz.func52 (h := ⟨rfl, rfl⟩)
theorem rat_ok (a : Nat) (b : List UInt8) (at_ c : Int) : ACalls Tryz.prog 56 [.c (.pointer (some ⟨a, 0, none⟩))] [rdr a b at_ c] (fun r Δ => r = .ret (.c (.int .i64 at_)) ∧ Δ = [rdr a b at_ c]) := by
 refine calls_of_J cl_56 Tryz.func56 rfl (by simp [Tryz.ntmps56]) ?_
 refine jr (h := ?_)
 refine jret Tryz.func56 (h := ⟨rfl, rfl⟩)
end
section
attribute [local go_sem] packed List.set_cons_zero List.set_cons_succ List.cons_append List.nil_append bytesRows_length
abbrev rdV (b : List UInt8) (at_ c : Int) : AV := .agg [.sl 1 (bytesRows b), .c (.int .i64 at_), .c (.int .i64 c)]
theorem fail02_ok (b : List UInt8) (at_ c k : Int) : ACalls Tryz.prog 107 [rdV b at_ c, .c (.int .i64 k)] [] (Ret (rdV b at_ (if c = 0 then k else c))) := by
 refine calls_of_J cl_107 Tryz.func107 rfl (by simp [Tryz.ntmps107]) ?_
 refine jr (own := [4, 5]) (h := ?_)
 refine jnv (hh := fun b4 hb4 => ?_)
 refine jr (own := [5]) (h := ?_)
 refine jnv (hh := fun b5 hb5 => ?_)
 simp only [fresh] at hb4 hb5
 refine jf hb5 (h := ?_)
 refine jif (h1 := fun hc => ?_) (h2 := fun hc => ?_)
 · refine jf hb5 (h := ?_)
   refine J_forget ?_
   refine jretf hb5 Tryz.func107 (h := ⟨by rw [if_pos hc], rfl⟩)
 · refine jf hb5 (h := ?_)
   refine J_forget ?_
   refine jretf hb5 Tryz.func107 (h := ⟨by rw [if_neg hc], rfl⟩)
theorem failN_ok (b : List UInt8) (at_ k : Int) : ACalls Tryz.prog 107 [rdV b at_ 0, .c (.int .i64 k)] [] (Ret (rdV b at_ k)) := by
 have h := fail02_ok b at_ 0 k
 rw [if_pos rfl] at h
 exact h
theorem num02R_ok (b : List UInt8) (at_ : Nat) (c : Int) (most : Nat) (h : at_ ≤ b.length) (hb : b.length < 2 ^ 37) (hm : most ≤ 1099511627776) :
   ACalls Tryz.prog 57 [rdV b at_ c, .c (.int .i64 most)] [] (Ret (.tup [rdV b (numR b at_ c most).2.1 (numR b at_ c most).1, .c (.int .i64 (numR b at_ c most).2.2)])) := by
 refine calls_of_J cl_57 Tryz.func57 rfl (by simp [Tryz.ntmps57]) ?_
 refine jr (own := [4]) (h := ?_)
 refine jnv (hh := fun b4 hb4 => ?_)
 simp only [fresh] at hb4
 refine jr (h := ?_)
 refine jif (h1 := fun hc => ?_) (h2 := fun hc => ?_)
 · have e : numR b at_ c most = (c, at_, 0) := by unfold numR; rw [if_pos hc]
   rw [e]
   refine jr (h := ?_)
   refine J_forget ?_
   refine jret Tryz.func57 (h := ⟨rfl, rfl⟩)
 · have hc0 : c = 0 := by omega
   subst hc0
   refine jr (h := ?_)
   refine jk [1, 2, 4, 6, 7] (h := ?_)
   refine J_loopI (I := fun m e D => ∃ n p : Nat, e = [(1, .c (.int .i64 most)), (2, .fp [.sl 1 (bytesRows b), .c (.int .i64 at_), .c (.int .i64 0)]), (4, .c (.pointer (some ⟨b4, 0, none⟩))), (6, .c (.int .i64 n)), (7, .c (.int .i64 p))] ∧ at_ ≤ p ∧ p ≤ b.length ∧ n ≤ most + 127 ∧ m = b.length - p ∧ D = [.box b4 117 [.c (.slice none 0 0), .c (.int .i64 0), .c (.int .i64 0)]] ∧ numR b at_ 0 most = scanN b at_ most (b.length - p) p n) ?_ ?_
   · exact ⟨_, 0, at_, rfl, Nat.le_refl _, h, by omega, rfl, rfl, by unfold numR; simp⟩
   · rintro m e D ⟨n, p, rfl, hp1, hp2, hn, rfl, rfl, hS⟩ ih
     refine jr (h := ?_)
     refine jif (h1 := fun hge => ?_) (h2 := fun hge => ?_)
     · have hlt : p < b.length := by omega
       have hg := bytes_get (getD_get hlt)
       have h0 : (0 : Int) ≤ (p : Int) := by omega
       have hk : b.length - p = (b.length - (p + 1)) + 1 := by omega
       rw [hk] at hS
       simp only [scanN] at hS
       generalize hcc : b.getD p 0 = cc at *
       have hcl := cc.toNat_lt
       by_cases hA : cc.toNat = 128 ∧ p = at_
       · rw [if_pos hA] at hS
         have hA2 : decide ((cc.toNat : Int) = 128) = true := decide_eq_true (by omega)
         have hA3 : decide ((p : Int) = (at_ : Int)) = true := decide_eq_true (by omega)
         rw [hS]
         refine jf (a3 hg hA2 hA3) (h := ?_)
         refine jt (h := ?_)
         refine jr (h := ?_)
         refine jc (hs := failN_ok b at_ 5) (hk := ?_)
         refine jr (h := ?_)
         refine J_forget ?_
         refine jret Tryz.func57 (h := ⟨rfl, rfl⟩)
       · rw [if_neg hA] at hS
         have hsel : (decide ((cc.toNat : Int) = 128) = true ∧ decide ((p : Int) = (at_ : Int)) = false) ∨ (decide ((cc.toNat : Int) = 128) = false ∧ True) := by
           by_cases h1 : cc.toNat = 128
           · exact .inl ⟨decide_eq_true (by omega), decide_eq_false fun h3 => hA ⟨h1, by omega⟩⟩
           · exact .inr ⟨decide_eq_false (by omega), trivial⟩
         have hq := quoN (a := most) (by omega)
         have hr := remN (a := cc.toNat)
         rcases hsel with ⟨hd1, hd2⟩ | ⟨hd1, hd2⟩
         all_goals
           refine jf (a3 hg hd1 hd2) (h := ?_)
           refine jk [1, 2, 4, 6, 7, 8, 36] (h := ?_)
           refine jn (h := ?_)
           refine jf hq (h := ?_)
           refine jif (h1 := fun h2 => ?_) (h2 := fun h2 => ?_)
           · rw [if_pos (show most / 128 < n by omega)] at hS
             rw [hS]
             refine jr (h := ?_)
             refine jc (hs := failN_ok b at_ 2) (hk := ?_)
             refine jr (h := ?_)
             refine J_forget ?_
             refine jret Tryz.func57 (h := ⟨rfl, rfl⟩)
           · rw [if_neg (show ¬ most / 128 < n by omega)] at hS
             refine jf hr (h := ?_)
             refine jif (h1 := fun h3 => ?_) (h2 := fun h3 => ?_)
             · rw [if_pos (show 128 ≤ cc.toNat by omega)] at hS
               refine jr (h := ?_)
               refine jk [1, 2, 4, 6, 7] (h := ?_)
               exact ih (b.length - (p + 1)) _ _ (by omega) ⟨n * 128 + cc.toNat % 128, p + 1, rfl, by omega, by omega, by omega, rfl, rfl, hS⟩
             · have hlt2 : cc.toNat < 128 := by omega
               rw [if_neg (show ¬ 128 ≤ cc.toNat by omega)] at hS
               have hmod : cc.toNat % 128 = cc.toNat := Nat.mod_eq_of_lt hlt2
               refine jf hmod (h := ?_)
               refine jif (h1 := fun h4 => ?_) (h2 := fun h4 => ?_)
               · rw [if_pos (show most < n * 128 + cc.toNat by omega)] at hS
                 rw [hS]
                 refine jr (h := ?_)
                 refine jc (hs := failN_ok b at_ 2) (hk := ?_)
                 refine jr (h := ?_)
                 refine J_forget ?_
                 refine jret Tryz.func57 (h := ⟨rfl, rfl⟩)
               · rw [if_neg (show ¬ most < n * 128 + cc.toNat by omega)] at hS
                 rw [hS]
                 refine jr (own := [9]) (h := ?_)
                 refine jnv (hh := fun b9 hb9 => ?_)
                 simp only [fresh] at hb9
                 refine jf hb9 (h := ?_)
                 refine J_forget ?_
                 refine jretf hb9 Tryz.func57 (h := ⟨rfl, rfl⟩)
     · have hpe : b.length - p = 0 := by omega
       rw [hpe] at hS
       simp only [scanN] at hS
       rw [hS]
       refine jr (h := ?_)
       refine jc (hs := failN_ok b at_ 6) (hk := ?_)
       refine jr (h := ?_)
       refine J_forget ?_
       refine jret Tryz.func57 (h := ⟨rfl, rfl⟩)
end
section
structure Entry where
 key : List UInt8
 ver : Int
 asof : Int
 ends : Int
 val : List UInt8
deriving DecidableEq
def Entry.cells (x : Entry) : List AV := [.c (.string (mkStr x.key)), .c (.int .i64 x.ver), .c (.int .i64 x.asof), .c (.int .i64 x.ends), .sl 1 (bytesRows x.val)]
def Entry.av (x : Entry) : AV := .agg x.cells
attribute [local go_sem] Entry.av Entry.cells packed List.set_cons_zero List.set_cons_succ
def keyCode (k : List UInt8) : Int := if k.length = 0 then 1 else if 40 < k.length then 3 else 0
theorem key_ok (k : List UInt8) : ACalls Tryz.prog 194 [.c (.string (mkStr k))] [] (Ret (.c (.int .i64 (keyCode k)))) := by
 refine calls_of_J cl_194 Tryz.func194 rfl (by simp [Tryz.ntmps194]) ?_
 refine jr (h := ?_)
 refine jif (h1 := fun h1 => ?_) (h2 := fun h1 => ?_)
 · refine jr (h := ?_)
   refine jret Tryz.func194 (h := ⟨by simp only [keyCode]; rw [if_pos (by omega)], rfl⟩)
 · refine jr (h := ?_)
   refine jif (h1 := fun h2 => ?_) (h2 := fun h2 => ?_)
   · refine jr (h := ?_)
     refine jret Tryz.func194 (h := ⟨by simp only [keyCode]; rw [if_neg (by omega), if_pos (by omega)], rfl⟩)
   · refine jr (h := ?_)
     refine jret Tryz.func194 (h := ⟨by simp only [keyCode]; rw [if_neg (by omega), if_neg (by omega)], rfl⟩)
def fold64 (a : Int) : Int := x64 a (a / 8589934592)
def mix64 (a : Int) : Int := fold64 (m64 (fold64 (m64 (fold64 a) 18397679294719823053)) 14181476777654086739)
def step64 (h : Int) (b : UInt8) : Int := m64 (x64 h b.toNat) 1099511628211
def hash64 (k : List UInt8) : Int := mix64 (k.foldl step64 14695981039346656037)
theorem fold64_in (a : Int) : In64 (fold64 a) := x64_in _ _
theorem bmix_ok (a : Int) (h : In64 a) : ACalls Tryz.prog 142 [.c (.int .u64 a)] [] (Ret (.c (.int .u64 (mix64 a)))) := by
 have h1 := h.1
 refine calls_of_J cl_142 Tryz.func142 rfl (by simp [Tryz.ntmps142]) ?_
 refine jr (h := ?_)
 refine jret Tryz.func142 (h := ⟨rfl, rfl⟩)
theorem rfold_ok (a : Int) (h : In64 a) : ACalls Tryz.prog 198 [.c (.int .u64 a)] [] (Ret (.c (.int .u64 (fold64 a)))) := by
 have e := aint_quo_u64 h (b := 8589934592) (by omega)
 refine calls_of_J cl_198 Tryz.func198 rfl (by simp [Tryz.ntmps198]) ?_
 refine J_mrun (own := []) (m := 2000) (by simp (maxSteps := 2000000) (disch := omega) only [go_sem, ↓reduceIte, Int.reduceLT, Int.reduceLE, Int.reduceToNat, Int.reducePow, Int.reduceNeg, Nat.reduceBEq, Tryz.ntmps198, e] <;> with_reducible rfl) ?_
 refine jret Tryz.func198 (h := ⟨rfl, rfl⟩)
theorem rmix_ok (a : Int) (h : In64 a) : ACalls Tryz.prog 158 [.c (.int .u64 a)] [] (Ret (.c (.int .u64 (mix64 a)))) := by
 refine calls_of_J cl_158 Tryz.func158 rfl (by simp [Tryz.ntmps158]) ?_
 refine jr (h := ?_)
 refine jc (hs := rfold_ok _ h) (hk := ?_)
 refine jr (h := ?_)
 refine jc (hs := rfold_ok _ (m64_in _ _)) (hk := ?_)
 refine jr (h := ?_)
 refine jc (hs := rfold_ok _ (m64_in _ _)) (hk := ?_)
 refine jr (h := ?_)
 refine jret Tryz.func158 (h := ⟨rfl, rfl⟩)
theorem foldl_in (l : List UInt8) : ∀ h, In64 h → In64 (l.foldl step64 h) := by
 induction l with
 | nil => exact fun h hh => hh
 | cons b l ih => exact fun h _ => ih _ (m64_in _ _)
theorem bhash_ok (k : List UInt8) (hk : k.length < 2 ^ 62) : ACalls Tryz.prog 92 [.c (.string (mkStr k))] [] (Ret (.c (.int .u64 (hash64 k)))) := by
 refine calls_of_J cl_92 Tryz.func92 rfl (by simp [Tryz.ntmps92]) ?_
 refine jr (h := ?_)
 refine jk [0, 3, 6, 7] (h := ?_)
 refine J_loopI (I := fun m e D => ∃ i : Nat, i ≤ k.length ∧ m = k.length - i ∧ D = [] ∧ e = [(0, .c (.string (mkStr k))), (3, .c (.int .u64 ((k.take i).foldl step64 14695981039346656037))), (6, .c (.int .i64 k.length)), (7, .c (.int .i64 i))]) ?_ ?_
 · exact ⟨_, 0, Nat.zero_le _, rfl, rfl, by simp⟩
 · rintro m e D ⟨i, hi, rfl, rfl, rfl⟩ ih
   refine jr (h := ?_)
   refine jif (h1 := fun hc => ?_) (h2 := fun hc => ?_)
   · have hlt : i < k.length := by omega
     have hg : k[i]? = some k[i] := List.getElem?_eq_getElem hlt
     have hb := k[i].toNat_lt
     have h0 : (0 : Int) ≤ (i : Int) := by omega
     refine jf hg (h := ?_)
     refine jk [0, 3, 6, 7] (h := ?_)
     refine ih _ _ _ ?_ ⟨i + 1, hlt, rfl, rfl, ?_⟩
     · omega
     · simp only [List.take_add_one, hg, Option.toList_some, List.foldl_append, List.foldl_cons, List.foldl_nil, step64, UInt8.toNat_toUInt64, Int.natCast_add, Int.cast_ofNat_Int]
   · have hi' : i = k.length := by omega
     subst hi'
     refine jr (h := ?_)
     refine jc (hs := bmix_ok _ (foldl_in _ _ (by unfold In64; omega))) (hk := ?_)
     refine jr (h := ?_)
     refine jret Tryz.func92 (h := ⟨by simp [hash64], rfl⟩)
theorem same06_ok (x y : Entry) (hx : x.val.length < 2 ^ 62) : ACalls Tryz.prog 44 [x.av, y.av] [] (Ret (.c (.bool (decide (x = y))))) := by
 obtain ⟨k, v, a, e, b⟩ := x
 obtain ⟨k', v', a', e', b'⟩ := y
 simp only [Entry.av, Entry.cells]
 refine calls_of_J cl_44 Tryz.func44 rfl (by simp [Tryz.ntmps44]) ?_
 by_cases h1 : k = k'
 · by_cases h2 : v = v'
   · by_cases h3 : a = a'
     · by_cases h4 : e = e'
       · refine J_mrun (own := []) (m := 2000) (by simp (maxSteps := 2000000) (disch := omega) only [go_sem, ↓reduceIte, Int.reduceLT, Int.reduceLE, Int.reduceToNat, Int.reducePow, Int.reduceNeg, Nat.reduceBEq, Tryz.ntmps44, eq_true h1, eq_true h2, eq_true h3, eq_true h4] <;> with_reducible rfl) ?_
         refine jc (hs := same02_ok b b' hx) (hk := ?_)
         refine J_mrun (own := []) (m := 2000) (by simp (maxSteps := 2000000) (disch := omega) only [go_sem, ↓reduceIte, Int.reduceLT, Int.reduceLE, Int.reduceToNat, Int.reducePow, Int.reduceNeg, Nat.reduceBEq, Tryz.ntmps44, eq_true h1, eq_true h2, eq_true h3, eq_true h4] <;> with_reducible rfl) ?_
         refine jret Tryz.func44 (h := ⟨by simp [h1, h2, h3, h4], rfl⟩)
       · refine J_mrun (own := []) (m := 2000) (by simp (maxSteps := 2000000) (disch := omega) only [go_sem, ↓reduceIte, Int.reduceLT, Int.reduceLE, Int.reduceToNat, Int.reducePow, Int.reduceNeg, Nat.reduceBEq, Tryz.ntmps44, eq_true h1, eq_true h2, eq_true h3, eq_false h4] <;> with_reducible rfl) ?_
         refine jret Tryz.func44 (h := ⟨by simp [h4], rfl⟩)
     · refine J_mrun (own := []) (m := 2000) (by simp (maxSteps := 2000000) (disch := omega) only [go_sem, ↓reduceIte, Int.reduceLT, Int.reduceLE, Int.reduceToNat, Int.reducePow, Int.reduceNeg, Nat.reduceBEq, Tryz.ntmps44, eq_true h1, eq_true h2, eq_false h3] <;> with_reducible rfl) ?_
       refine jret Tryz.func44 (h := ⟨by simp [h3], rfl⟩)
   · refine J_mrun (own := []) (m := 2000) (by simp (maxSteps := 2000000) (disch := omega) only [go_sem, ↓reduceIte, Int.reduceLT, Int.reduceLE, Int.reduceToNat, Int.reducePow, Int.reduceNeg, Nat.reduceBEq, Tryz.ntmps44, eq_true h1, eq_false h2] <;> with_reducible rfl) ?_
     refine jret Tryz.func44 (h := ⟨by simp [h2], rfl⟩)
 · refine J_mrun (own := []) (m := 2000) (by simp (maxSteps := 2000000) (disch := omega) only [go_sem, ↓reduceIte, Int.reduceLT, Int.reduceLE, Int.reduceToNat, Int.reducePow, Int.reduceNeg, Nat.reduceBEq, Tryz.ntmps44, eq_false h1] <;> with_reducible rfl) ?_
   refine jret Tryz.func44 (h := ⟨by simp [h1], rfl⟩)
def ents (l : List Entry) : List (List AV) := l.map Entry.cells
theorem ents_len (l : List Entry) : (ents l).length = l.length := by simp [ents]
theorem ents_get {l : List Entry} {i : Nat} {x : Entry} (h : l[i]? = some x) : (ents l)[i]? = some [.c (.string (mkStr x.key)), .c (.int .i64 x.ver), .c (.int .i64 x.asof), .c (.int .i64 x.ends), .sl 1 (bytesRows x.val)] := by
 simp [ents, h, Entry.cells]
theorem ents_row (l : List Entry) : ∀ r ∈ ents l, r.length = 5 := by simp [ents, Entry.cells]
def findE (l : List Entry) (k : List UInt8) : Option Nat := l.findIdx? (fun x => decide (x.key = k))
def findI (l : List Entry) (k : List UInt8) : Int := match findE l k with | some i => i | none => -1
theorem find_ok (l : List Entry) (k : List UInt8) (hl : l.length < 2 ^ 62) : ACalls Tryz.prog 45 [.sl 5 (ents l), .c (.string (mkStr k))] [] (Ret (.c (.int .i64 (findI l k)))) := by
 refine calls_of_J cl_45 Tryz.func45 rfl (by simp [Tryz.ntmps45]) ?_
 refine jr (h := ?_)
 refine jk [0, 1, 5] (h := ?_)
 refine J_loopI (I := fun m e D => ∃ i : Nat, i ≤ l.length ∧ m = l.length - i ∧ D = [] ∧ (∀ j (h : j < l.length), j < i → l[j].key ≠ k) ∧ e = [(0, .sl 5 (ents l)), (1, .c (.string (mkStr k))), (5, .c (.int .i64 i))]) ?_ ?_
 · exact ⟨_, 0, Nat.zero_le _, rfl, rfl, by simp, rfl⟩
 · rintro m e D ⟨i, hi, rfl, rfl, hn, rfl⟩ ih
   refine jf ents_len (h := ?_)
   refine jif (h1 := fun hc => ?_) (h2 := fun hc => ?_)
   · have hlt : i < l.length := by omega
     have g1 := ents_get (List.getElem?_eq_getElem hlt)
     have h0 : (0 : Int) ≤ (i : Int) := by omega
     refine jf g1 (h := ?_)
     refine jif (h1 := fun hd => ?_) (h2 := fun hd => ?_)
     · refine jr (h := ?_)
       refine J_retX Tryz.func45 (by simp only [go_sem, ↓reduceIte, Int.reduceLT, Int.reduceLE, Int.reduceToNat, Int.reducePow, Int.reduceNeg, Nat.reduceBEq, Tryz.f45] <;> first | with_reducible rfl | rfl) ⟨by
         have : findE l k = some i := by
           unfold findE
           rw [List.findIdx?_eq_some_iff_getElem]
           exact ⟨hlt, by simpa using hd, fun j hj => by simpa using hn j (by omega) hj⟩
         simp [findI, this], rfl⟩
     · refine jr (h := ?_)
       refine jk [0, 1, 5] (h := ?_)
       refine ih _ _ _ ?_ ⟨i + 1, hlt, rfl, rfl, ?_, by simp only [Int.natCast_add, Int.cast_ofNat_Int]⟩
       · omega
       · intro j h hj
         rcases Nat.lt_succ_iff_lt_or_eq.1 hj with h1 | rfl
         · exact hn j h h1
         · exact hd
   · have hi' : i = l.length := by omega
     subst hi'
     refine jr (h := ?_)
     refine J_retX Tryz.func45 (by simp only [go_sem, ↓reduceIte, Int.reduceLT, Int.reduceLE, Int.reduceToNat, Int.reducePow, Int.reduceNeg, Nat.reduceBEq, Tryz.f45] <;> first | with_reducible rfl | rfl) ⟨by
       have : findE l k = none := by
         unfold findE
         rw [List.findIdx?_eq_none_iff]
         intro x hx
         obtain ⟨j, hj, rfl⟩ := List.mem_iff_getElem.1 hx
         simpa using hn j hj hj
       simp [findI, this], rfl⟩
def but (l : List Entry) (k : List UInt8) : List Entry := l.filter fun x => decide (x.key ≠ k)
theorem but_own (l : List Entry) (k : List UInt8) (hl : l.length < 2 ^ 30) : ACalls Tryz.prog 141 [.sl 5 (ents l), .c (.string (mkStr k))] [] (fun r D => ∃ v, r = .ret (.c v) ∧ Own 78 5 (ents (but l k)).flatten (ents (but l k)).length v D) := by
 refine calls_of_J cl_141 Tryz.func141 rfl (by simp [Tryz.ntmps141]) ?_
 refine jr (h := ?_)
 refine jk [0, 1, 5, 6] (h := ?_)
 refine J_loopI (I := fun m e D => ∃ (i : Nat) (v : Value), i ≤ l.length ∧ m = l.length - i ∧ Own 78 5 (ents (but (l.take i) k)).flatten (ents (but (l.take i) k)).length v D ∧ e = [(0, .sl 5 (ents l)), (1, .c (.string (mkStr k))), (5, .c v), (6, .c (.int .i64 i))]) ?_ ?_
 · exact ⟨_, 0, _, Nat.zero_le _, rfl, .nil none (by simp [ents, but]) (by simp [ents, but]), rfl⟩
 · rintro m e D ⟨i, v, hi, rfl, how, rfl⟩ ih
   refine jf ents_len (h := ?_)
   refine jif (h1 := fun hc => ?_) (h2 := fun hc => ?_)
   · have hlt : i < l.length := by omega
     have g0 := List.getElem?_eq_getElem hlt
     have g1 := ents_get g0
     have h0 : (0 : Int) ≤ (i : Int) := by omega
     refine jf g1 (h := ?_)
     refine jif (h1 := fun hd => ?_) (h2 := fun hd => ?_)
     · refine jf (own := [26]) g1 (h := ?_)
       refine jap (Fr := []) (how := how) (hp := (by simp)) (hsrc := (by simp only [go_sem] <;> rfl)) (hc := (by rfl)) (hmax := (by simp [ents, but]; have := List.length_filter_le (fun x => decide (¬ x.key = k)) (l.take i); simp at this; omega)) (hk := ?_)
       rintro _ _ ⟨v', D', rfl, rfl, how'⟩
       refine jr (h := ?_)
       refine jk [0, 1, 5, 6] (h := ?_)
       refine ih _ _ _ ?_ ⟨i + 1, v', hlt, rfl, ?_, by simp only [Int.natCast_add, Int.cast_ofNat_Int]⟩
       · omega
       · have e1 : but (l.take (i + 1)) k = but (l.take i) k ++ [l[i]] := by
           simp only [but, List.take_add_one, g0, Option.toList_some, List.filter_append]
           simp [hd]
         rw [e1]
         simpa [ents, Entry.cells] using how'
     · refine jr (h := ?_)
       refine jk [0, 1, 5, 6] (h := ?_)
       refine ih _ _ _ ?_ ⟨i + 1, v, hlt, rfl, ?_, by simp only [Int.natCast_add, Int.cast_ofNat_Int]⟩
       · omega
       · have e1 : but (l.take (i + 1)) k = but (l.take i) k := by
           simp only [but, List.take_add_one, g0, Option.toList_some, List.filter_append]
           simp [hd]
         rw [e1]; exact how
   · have hi' : i = l.length := by omega
     subst hi'
     rw [List.take_length] at how
     refine jr (h := ?_)
     refine jret Tryz.func141 (h := ⟨v, rfl, how⟩)
theorem but_ok (l : List Entry) (k : List UInt8) (hl : l.length < 2 ^ 30) : ACalls Tryz.prog 141 [.sl 5 (ents l), .c (.string (mkStr k))] [] (Ret (.sl 5 (ents (but l k)))) :=
 (but_own l k hl).freezeR (ents_row _) (by rw [ents_len]; have := List.length_filter_le (fun x => decide (x.key ≠ k)) l; unfold but maxRows; omega)
theorem rhash_ok (k : List UInt8) (hk : k.length < 2 ^ 62) : ACalls Tryz.prog 102 [.c (.string (mkStr k))] [] (Ret (.c (.int .u64 (hash64 k)))) := by
 refine calls_of_J cl_102 Tryz.func102 rfl (by simp [Tryz.ntmps102]) ?_
 refine jr (h := ?_)
 refine jk [0, 3, 4] (h := ?_)
 refine J_loopI (I := fun m e D => ∃ i : Nat, i ≤ k.length ∧ m = k.length - i ∧ D = [] ∧ e = [(0, .c (.string (mkStr k))), (3, .c (.int .u64 ((k.take i).foldl step64 14695981039346656037))), (4, .c (.int .i64 i))]) ?_ ?_
 · exact ⟨_, 0, Nat.zero_le _, rfl, rfl, by simp⟩
 · rintro m e D ⟨i, hi, rfl, rfl, rfl⟩ ih
   refine jr (h := ?_)
   refine jif (h1 := fun hc => ?_) (h2 := fun hc => ?_)
   · have hlt : i < k.length := by omega
     have hg : k[i]? = some k[i] := List.getElem?_eq_getElem hlt
     have hb := k[i].toNat_lt
     have h0 : (0 : Int) ≤ (i : Int) := by omega
     refine jf hg (h := ?_)
     refine jk [0, 3, 4] (h := ?_)
     refine ih _ _ _ ?_ ⟨i + 1, hlt, rfl, rfl, ?_⟩
     · omega
     · simp only [List.take_add_one, hg, Option.toList_some, List.foldl_append, List.foldl_cons, List.foldl_nil, step64, UInt8.toNat_toUInt64, Int.natCast_add, Int.cast_ofNat_Int]
   · have hi' : i = k.length := by omega
     subst hi'
     refine jr (h := ?_)
     refine jc (hs := rmix_ok _ (foldl_in _ _ (by unfold In64; omega))) (hk := ?_)
     refine jr (h := ?_)
     refine jret Tryz.func102 (h := ⟨by simp [hash64], rfl⟩)
theorem rkey_ok (k : List UInt8) : ACalls Tryz.prog 214 [.c (.string (mkStr k))] [] (Ret (.c (.int .i64 (keyCode k)))) := by
 refine calls_of_J cl_214 Tryz.func214 rfl (by simp [Tryz.ntmps214]) ?_
 refine jr (h := ?_)
 refine jif (h1 := fun h1 => ?_) (h2 := fun h1 => ?_)
 · refine jr (h := ?_)
   refine jret Tryz.func214 (h := ⟨by simp only [keyCode]; rw [if_pos (by rw [h1]; rfl)], rfl⟩)
 · have h1' : k.length ≠ 0 := fun h => h1 (List.eq_nil_of_length_eq_zero h)
   refine jr (h := ?_)
   refine jif (h1 := fun h2 => ?_) (h2 := fun h2 => ?_)
   · refine jr (h := ?_)
     refine jret Tryz.func214 (h := ⟨by simp only [keyCode]; rw [if_neg h1', if_pos (by omega)], rfl⟩)
   · refine jr (h := ?_)
     refine jret Tryz.func214 (h := ⟨by simp only [keyCode]; rw [if_neg h1', if_neg (by omega)], rfl⟩)
def badNum (x : Entry) : Prop := x.ver < 1 ∨ 1099511627776 < x.ver ∨ x.asof < x.ver ∨ 1099511627776 < x.asof ∨ x.ends < 0 ∨ 1099511627776 < x.ends
instance (x : Entry) : Decidable (badNum x) := by unfold badNum; infer_instance
def checkCode (x : Entry) : Int := if keyCode x.key ≠ 0 then keyCode x.key else if badNum x then 2 else if 4096 < x.val.length then 3 else 0
theorem rcheck_ok (x : Entry) : ACalls Tryz.prog 185 [x.av] [] (Ret (.c (.int .i64 (checkCode x)))) := by
 obtain ⟨k, v, a, e, b⟩ := x
 simp only [Entry.av, Entry.cells]
 refine calls_of_J cl_185 Tryz.func185 rfl (by simp [Tryz.ntmps185]) ?_
 refine jr (h := ?_)
 refine jc (hs := rkey_ok k) (hk := ?_)
 refine jr (h := ?_)
 refine jif (h1 := fun h0 => ?_) (h2 := fun h0 => ?_)
 · refine jr (h := ?_)
   refine jret Tryz.func185 (h := ⟨by simp [checkCode, h0], rfl⟩)
 · have h0' : keyCode k = 0 := by simpa using h0
   by_cases h1 : v < 1
   · refine J_mrun (own := []) (m := 2000) (by simp (maxSteps := 2000000) (disch := omega) only [go_sem, ↓reduceIte, Int.reduceLT, Int.reduceLE, Int.reduceToNat, Int.reducePow, Int.reduceNeg, Nat.reduceBEq, Tryz.ntmps185, eq_true h1] <;> with_reducible rfl) ?_
     refine jt (h := ?_)
     refine jr (h := ?_)
     refine jret Tryz.func185 (h := ⟨by simp [checkCode, h0', badNum, h1], rfl⟩)
   by_cases h2 : 1099511627776 < v
   · refine J_mrun (own := []) (m := 2000) (by simp (maxSteps := 2000000) (disch := omega) only [go_sem, ↓reduceIte, Int.reduceLT, Int.reduceLE, Int.reduceToNat, Int.reducePow, Int.reduceNeg, Nat.reduceBEq, Tryz.ntmps185, eq_false h1, eq_true h2] <;> with_reducible rfl) ?_
     refine jt (h := ?_)
     refine jr (h := ?_)
     refine jret Tryz.func185 (h := ⟨by simp [checkCode, h0', badNum, h2], rfl⟩)
   by_cases h3 : a < v
   · refine J_mrun (own := []) (m := 2000) (by simp (maxSteps := 2000000) (disch := omega) only [go_sem, ↓reduceIte, Int.reduceLT, Int.reduceLE, Int.reduceToNat, Int.reducePow, Int.reduceNeg, Nat.reduceBEq, Tryz.ntmps185, eq_false h1, eq_false h2, eq_true h3] <;> with_reducible rfl) ?_
     refine jt (h := ?_)
     refine jr (h := ?_)
     refine jret Tryz.func185 (h := ⟨by simp [checkCode, h0', badNum, h3], rfl⟩)
   by_cases h4 : 1099511627776 < a
   · refine J_mrun (own := []) (m := 2000) (by simp (maxSteps := 2000000) (disch := omega) only [go_sem, ↓reduceIte, Int.reduceLT, Int.reduceLE, Int.reduceToNat, Int.reducePow, Int.reduceNeg, Nat.reduceBEq, Tryz.ntmps185, eq_false h1, eq_false h2, eq_false h3, eq_true h4] <;> with_reducible rfl) ?_
     refine jt (h := ?_)
     refine jr (h := ?_)
     refine jret Tryz.func185 (h := ⟨by simp [checkCode, h0', badNum, h4], rfl⟩)
   by_cases h5 : e < 0
   · refine J_mrun (own := []) (m := 2000) (by simp (maxSteps := 2000000) (disch := omega) only [go_sem, ↓reduceIte, Int.reduceLT, Int.reduceLE, Int.reduceToNat, Int.reducePow, Int.reduceNeg, Nat.reduceBEq, Tryz.ntmps185, eq_false h1, eq_false h2, eq_false h3, eq_false h4, eq_true h5] <;> with_reducible rfl) ?_
     refine jt (h := ?_)
     refine jr (h := ?_)
     refine jret Tryz.func185 (h := ⟨by simp [checkCode, h0', badNum, h5], rfl⟩)
   by_cases h6 : 1099511627776 < e
   · refine J_mrun (own := []) (m := 2000) (by simp (maxSteps := 2000000) (disch := omega) only [go_sem, ↓reduceIte, Int.reduceLT, Int.reduceLE, Int.reduceToNat, Int.reducePow, Int.reduceNeg, Nat.reduceBEq, Tryz.ntmps185, eq_false h1, eq_false h2, eq_false h3, eq_false h4, eq_false h5, eq_true h6] <;> with_reducible rfl) ?_
     refine jt (h := ?_)
     refine jr (h := ?_)
     refine jret Tryz.func185 (h := ⟨by simp [checkCode, h0', badNum, h6], rfl⟩)
   refine J_mrun (own := []) (m := 2000) (by simp (maxSteps := 2000000) (disch := omega) only [go_sem, ↓reduceIte, Int.reduceLT, Int.reduceLE, Int.reduceToNat, Int.reducePow, Int.reduceNeg, Nat.reduceBEq, Tryz.ntmps185, eq_false h1, eq_false h2, eq_false h3, eq_false h4, eq_false h5, eq_false h6] <;> with_reducible rfl) ?_
   refine jn (h := ?_)
   have hbad : ¬ badNum ⟨k, v, a, e, b⟩ := by unfold badNum; simp only; omega
   refine jr (h := ?_)
   refine jif (h1 := fun h7 => ?_) (h2 := fun h7 => ?_)
   · refine jr (h := ?_)
     refine jret Tryz.func185 (h := ⟨by simp only [checkCode]; rw [if_neg (by simpa using h0'), if_neg hbad, if_pos (by show 4096 < b.length; omega)], rfl⟩)
   · refine jr (h := ?_)
     refine jret Tryz.func185 (h := ⟨by simp only [checkCode]; rw [if_neg (by simpa using h0'), if_neg hbad, if_neg (by show ¬ 4096 < b.length; omega)], rfl⟩)
theorem ents_cell (l : List Entry) : (ents l).flatten.all AV.isCell = true := by
 induction l with
 | nil => rfl
 | cons x l ih => simp only [ents, List.map_cons, List.flatten_cons, List.all_append, Bool.and_eq_true] at ih ⊢; exact ⟨rfl, ih⟩
theorem ents_drop (l : List Entry) (i : Nat) : (ents l).drop i = ents (l.drop i) := by simp [ents]
theorem ents_append (a b : List Entry) : ents (a ++ b) = ents a ++ ents b := by simp [ents]
theorem ents_all (l : List Entry) : (ents l).take l.length = ents l := List.take_of_length_le (by rw [ents_len]; exact Nat.le_refl _)
theorem own_snoc {e : TypeId} {l : List Entry} {y : Entry} {v : Value} {D : List HP} (h : Own e 5 ((ents l).flatten ++ y.cells) ((ents l).length + 1) v D) : Own e 5 (ents (l ++ [y])).flatten (ents (l ++ [y])).length v D := by
 rw [ents_append, List.flatten_append, List.length_append]
 have e1 : (ents [y]).flatten = y.cells := by simp [ents]
 rw [e1]; exact h
theorem own_appE {e : TypeId} {l k : List Entry} {v : Value} {D : List HP} (h : Own e 5 ((ents l).flatten ++ (ents k).flatten) ((ents l).length + (ents k).length) v D) : Own e 5 (ents (l ++ k)).flatten (ents (l ++ k)).length v D := by
 rw [ents_append, List.flatten_append, List.length_append]; exact h
theorem sameAll_ok (a b : List Entry) (ha : a.length < 2 ^ 62) (hv : ∀ x ∈ a, x.val.length < 2 ^ 62) : ACalls Tryz.prog 38 [.sl 5 (ents a), .sl 5 (ents b)] [] (Ret (.c (.bool (decide (a = b))))) := by
 refine calls_of_J cl_38 Tryz.func38 rfl (by simp [Tryz.ntmps38]) ?_
 refine jf ents_len (h := ?_)
 refine jif (h1 := fun h1 => ?_) (h2 := fun h1 => ?_)
 · refine jr (h := ?_)
   have hne : a ≠ b := fun e => h1 (by rw [e])
   refine jret Tryz.func38 (h := ⟨by simp [hne], rfl⟩)
 · have hl : a.length = b.length := by omega
   refine jr (h := ?_)
   refine jk [0, 1, 5] (h := ?_)
   refine J_loopI (I := fun m e D => ∃ i : Nat, i ≤ a.length ∧ m = a.length - i ∧ D = [] ∧ a.take i = b.take i ∧ e = [(0, .sl 5 (ents a)), (1, .sl 5 (ents b)), (5, .c (.int .i64 i))]) ?_ ?_
   · exact ⟨_, 0, Nat.zero_le _, rfl, rfl, rfl, rfl⟩
   · rintro m e D ⟨i, hi, rfl, rfl, heq, rfl⟩ ih
     refine jf ents_len (h := ?_)
     refine jif (h1 := fun hc => ?_) (h2 := fun hc => ?_)
     · have hlt : i < a.length := by omega
       have hlb : i < b.length := by omega
       have g1 := ents_get (List.getElem?_eq_getElem hlt)
       have g2 := ents_get (List.getElem?_eq_getElem hlb)
       have h0 : (0 : Int) ≤ (i : Int) := by omega
       have hs := same06_ok a[i] b[i] (hv _ (List.getElem_mem _))
       simp only [Entry.av, Entry.cells] at hs
       refine jr (h := ?_)
       refine jd [(0, .pure), (1, .pure), (2, .pure), (3, .read), (4, .pure), (5, .pure), (6, .pure), (7, .read), (8, .pure), (9, .pure)] mixed (by kernel_rfl) ?_
       refine cf (a2 g1 g2) (hk := ?_)
       refine ccp (hs := hs) (hk := ?_)
       refine cr (hk := ?_)
       refine Can_nil ?_
       by_cases h2 : a[i] = b[i]
       · simp only [h2, decide_true, Bool.not_true]
         refine jn (h := ?_)
         refine jr (h := ?_)
         refine jk [0, 1, 5] (h := ?_)
         refine ih _ _ _ ?_ ⟨i + 1, hlt, rfl, rfl, ?_, by simp only [Int.natCast_add, Int.cast_ofNat_Int]⟩
         · omega
         · rw [List.take_add_one, List.take_add_one, heq, List.getElem?_eq_getElem hlt, List.getElem?_eq_getElem hlb, h2]
       · simp only [h2, decide_false, Bool.not_false]
         refine jt (h := ?_)
         refine jr (h := ?_)
         have hne : a ≠ b := fun e => h2 (by simp only [e])
         refine jret Tryz.func38 (h := ⟨by simp [hne], rfl⟩)
     · have hi' : i = a.length := by omega
       subst hi'
       refine jr (h := ?_)
       have hab : a = b := by
         have := heq
         rwa [List.take_length, hl, List.take_length] at this
       refine jret Tryz.func38 (h := ⟨by simp [hab], rfl⟩)
theorem icopy_ok (x : Entry) : ACalls Tryz.prog 152 [x.av] [] (Ret x.av) := by
 simp only [Entry.av, Entry.cells]
 refine calls_of_J cl_152 Tryz.func152 rfl (by simp [Tryz.ntmps152]) ?_
 refine jr (own := [1]) (h := ?_)
 refine jnb (hh := fun b1 hb1 => ?_)
 refine jr (own := [2]) (h := ?_)
 refine jnv (hh := fun b2 hb2 => ?_)
 simp only [fresh] at hb2
 refine jf hb2 (h := ?_)
 refine J_forget ?_
 refine jretf hb2 Tryz.func152 (h := ⟨rfl, rfl⟩)
end
section
attribute [local go_sem] packed List.set_cons_zero List.set_cons_succ List.cons_append List.nil_append bytesRows_length cellRows_len chRows_len rCells intRows_len
attribute [-go_sem] cellsOf AV.isCell
attribute [local go_sem] cellsOf_agg cellsOf_int cellsOf_bool cellsOf_str cellsOf_map cellsOf_ptr cellsOf_nilI cellsOf_slice cellsOf_sl cellsOf_ifc cellsOf_fp cellsOf_opt optAV_cell icell_int icell_bool icell_str icell_map icell_ptr icell_nilI icell_slice icell_sl icell_ifc icell_fp
attribute [local go_sem] Entry.av Entry.cells
@[go_sem] theorem mkStr_dtl (l : List UInt8) : (mkStr l).data.toList = l := by simp [mkStr]
def entB (x : Entry) : List UInt8 := numB x.key.length ++ x.key ++ numsB [x.ver.toNat, x.asof.toNat, x.ends.toNat] ++ (numB x.val.length ++ x.val)
def allB (l : List Entry) : List UInt8 := l.flatMap entB
structure EntW (x : Entry) : Prop where
 k1 : 1 ≤ x.key.length
 k2 : x.key.length ≤ 40
 v1 : 1 ≤ x.ver
 a1 : x.ver ≤ x.asof
 a2' : x.asof ≤ 1099511627776
 e1 : 0 ≤ x.ends
 e2 : x.ends ≤ 1099511627776
 b : x.val.length ≤ 4096
theorem entW_iff (x : Entry) : checkCode x = 0 ↔ EntW x := by
 unfold checkCode keyCode
 by_cases h1 : x.key.length = 0
 · rw [if_pos h1]; simp only [ne_eq, Int.one_ne_zero, not_false_eq_true, if_true, if_pos h1]; exact ⟨fun h => absurd h (by decide), fun h => absurd h.k1 (by omega)⟩
 · rw [if_neg h1]
   by_cases h2 : 40 < x.key.length
   · rw [if_pos h2]; simp; intro h; have := h.k2; omega
   · rw [if_neg h2]
     simp only [ne_eq, not_true_eq_false, if_false]
     by_cases h3 : badNum x
     · rw [if_pos h3]; simp; intro h; unfold badNum at h3; have := h.v1; have := h.a1; have := h.a2'; have := h.e1; have := h.e2; omega
     · rw [if_neg h3]
       unfold badNum at h3
       by_cases h4 : 4096 < x.val.length
       · rw [if_pos h4]; simp; intro h; have := h.b; omega
       · rw [if_neg h4]; simp; exact ⟨by omega, by omega, by omega, by omega, by omega, by omega, by omega, by omega⟩
theorem allB_take {l : List Entry} {i : Nat} {x : Entry} (h : l[i]? = some x) : allB (l.take (i + 1)) = allB (l.take i) ++ entB x := by
 rw [List.take_add_one, h]; simp [allB]
theorem numB_one {n : Nat} (h : n < 128) : (numB n).length = 1 := by
 unfold numB; rw [show n / 128 = 0 from by omega, hi7_zero]; rfl
theorem numB_more {n : Nat} (h : 128 ≤ n) : (numB n).length = (numB (n / 128)).length + 1 := by
 unfold numB; rw [hi7_pos (show n / 128 ≠ 0 from by omega)]; simp
theorem entB_len {x : Entry} (h : EntW x) : (entB x).length ≤ 5000 := by
 have h1 := numB_len (n := x.key.length) (by have := h.k2; omega)
 have h2 := numB_len (n := x.val.length) (by have := h.b; omega)
 have h3 := numsB_len (l := [x.ver.toNat, x.asof.toNat, x.ends.toNat]) (by
   intro n hn
   simp only [List.mem_cons, List.not_mem_nil, or_false] at hn
   have := h.a1; have := h.a2'; have := h.e2
   rcases hn with rfl | rfl | rfl <;> omega)
 have := h.k2
 have := h.b
 unfold entB
 simp only [List.length_append, List.length_cons, List.length_nil] at *
 omega
theorem lenS_ok (n : Nat) (hn : n < 34359738368) : ACalls Tryz.prog 218 [.c (.int .i64 (n : Int))] [] (Ret (.c (.int .i64 (numB n).length))) := by
 refine calls_of_J cl_218 Tryz.func218 rfl (by simp [Tryz.ntmps218]) ?_
 refine jr (h := ?_)
 refine jif (h1 := fun hc => absurd hc (by first | omega | simp)) (h2 := fun _ => ?_)
 refine jr (h := ?_)
 refine jif (h1 := fun h1 => ?_) (h2 := fun h1 => ?_)
 · refine jr (h := ?_)
   refine jret Tryz.func218 (h := ⟨by rw [numB_more (by omega), numB_more (by omega), numB_more (by omega), numB_more (by omega), numB_one (by omega)]; rfl, rfl⟩)
 · refine jr (h := ?_)
   refine jif (h1 := fun h2 => ?_) (h2 := fun h2 => ?_)
   · refine jr (h := ?_)
     refine jret Tryz.func218 (h := ⟨by rw [numB_more (by omega), numB_more (by omega), numB_more (by omega), numB_one (by omega)]; rfl, rfl⟩)
   · refine jr (h := ?_)
     refine jif (h1 := fun h3 => ?_) (h2 := fun h3 => ?_)
     · refine jr (h := ?_)
       refine jret Tryz.func218 (h := ⟨by rw [numB_more (by omega), numB_more (by omega), numB_one (by omega)]; rfl, rfl⟩)
     · refine jr (h := ?_)
       refine jif (h1 := fun h4 => ?_) (h2 := fun h4 => ?_)
       · refine jr (h := ?_)
         refine jret Tryz.func218 (h := ⟨by rw [numB_more (by omega), numB_one (by omega)]; rfl, rfl⟩)
       · refine jr (h := ?_)
         refine jret Tryz.func218 (h := ⟨by rw [numB_one (by omega)]; rfl, rfl⟩)
theorem len_ok (n : Nat) (hn : n ≤ 1099511627776) : ACalls Tryz.prog 218 [.c (.int .i64 (n : Int))] [] (Ret (.c (.int .i64 (numB n).length))) := by
 by_cases h : n < 34359738368
 · exact lenS_ok n h
 · have hs := lenS_ok (n / 34359738368) (by omega)
   have e : ((n / 34359738368 : Nat) : Int) = (n : Int) / 34359738368 := by omega
   have hnb := numB_len (n := n / 34359738368) (by omega)
   rw [e] at hs
   have hl : (numB n).length = (numB (n / 34359738368)).length + 5 := by
     rw [numB_more (by omega), numB_more (by omega), numB_more (by omega), numB_more (by omega), numB_more (by omega)]
     rw [show n / 128 / 128 / 128 / 128 / 128 = n / 34359738368 from by omega]
   refine calls_of_J cl_218 Tryz.func218 rfl (by simp [Tryz.ntmps218]) ?_
   refine jr (h := ?_)
   refine jif (h1 := fun _ => ?_) (h2 := fun hc => absurd (by first | omega | simp) hc)
   refine jr (h := ?_)
   refine jc (hs := hs) (hk := ?_)
   refine jr (h := ?_)
   have e2 : ((numB n).length : Int) = 5 + ((numB (n / 34359738368)).length : Int) := by rw [hl]; omega
   refine jret Tryz.func218 (h := ⟨by rw [e2], rfl⟩)
theorem bytesO_own (b t : List UInt8) (hb : b.length < 2 ^ 36) (ht : t.length < 2 ^ 36) : ACalls Tryz.prog 219 [.sl 1 (bytesRows b), .sl 1 (bytesRows t)] [] (fun r D => ∃ v, r = .ret (.c v) ∧ OwnB 5 (b ++ numB t.length ++ t) v D) := by
 have hp := put02_ok b [t.length] hb (by simp) (by intro n hn; rw [List.mem_singleton.1 hn]; omega)
 rw [show natRows [t.length] = [[.c (.int .i64 (t.length : Int))]] from rfl, show numsB [t.length] = numB t.length from by simp [numsB]] at hp
 have hn := numB_len (n := t.length) (by omega)
 refine calls_of_J cl_219 Tryz.func219 rfl (by simp [Tryz.ntmps219]) ?_
 refine jr (h := ?_)
 refine jcs (Δ1 := []) (Fr := []) (hs := hp) (hp := (List.Perm.refl _)) (hk := ?_) (hpan := (by rintro x Δ' ⟨v, h, _⟩; cases h))
 rintro x D ⟨v, h, how⟩
 cases h
 rw [List.append_nil]
 refine jr (own := [11]) (h := ?_)
 refine jap (Fr := []) (how := how) (hp := (by simp)) (hsrc := (by simp only [go_sem, srcOf] <;> rfl)) (hc := bytes_cell) (hmax := (by simp only [List.length_append]; omega)) (hk := ?_)
 rintro _ D2 ⟨v2, _, rfl, rfl, how2⟩
 refine jr (h := ?_)
 refine jret Tryz.func219 (h := ⟨v2, rfl, ownB_app how2⟩)
theorem bytesO_ok (b t : List UInt8) (hb : b.length < 2 ^ 36) (ht : t.length < 2 ^ 36) : ACalls Tryz.prog 219 [.sl 1 (bytesRows b), .sl 1 (bytesRows t)] [] (Ret (.sl 1 (bytesRows (b ++ numB t.length ++ t)))) :=
 (bytesO_own b t hb ht).freezeB (by have hn := numB_len (n := t.length) (by omega); unfold maxRows; simp only [List.length_append]; omega)
theorem bytes02_own (b t : List UInt8) (hb : b.length < 2 ^ 36) (ht : t.length < 2 ^ 36) : ACalls Tryz.prog 215 [.sl 1 (bytesRows b), .sl 1 (bytesRows t)] [] (fun r D => ∃ v, r = .ret (.c v) ∧ OwnB 5 (b ++ numB t.length ++ t) v D) := by
 have hp := putR_ok b [t.length] hb (by simp) (by intro n hn; rw [List.mem_singleton.1 hn]; omega)
 rw [show natRows [t.length] = [[.c (.int .i64 (t.length : Int))]] from rfl, show numsB [t.length] = numB t.length from by simp [numsB]] at hp
 have hn := numB_len (n := t.length) (by omega)
 refine calls_of_J cl_215 Tryz.func215 rfl (by simp [Tryz.ntmps215]) ?_
 refine jr (h := ?_)
 refine jcs (Δ1 := []) (Fr := []) (hs := hp) (hp := (List.Perm.refl _)) (hk := ?_) (hpan := (by rintro x Δ' ⟨v, h, _⟩; cases h))
 rintro x D ⟨v, h, how⟩
 cases h
 rw [List.append_nil]
 refine jr (own := [11]) (h := ?_)
 refine jap (Fr := []) (how := how) (hp := (by simp)) (hsrc := (by simp only [go_sem, srcOf] <;> rfl)) (hc := bytes_cell) (hmax := (by simp only [List.length_append]; omega)) (hk := ?_)
 rintro _ D2 ⟨v2, _, rfl, rfl, how2⟩
 refine jr (h := ?_)
 refine jret Tryz.func215 (h := ⟨v2, rfl, ownB_app how2⟩)
theorem bytes02_ok (b t : List UInt8) (hb : b.length < 2 ^ 36) (ht : t.length < 2 ^ 36) : ACalls Tryz.prog 215 [.sl 1 (bytesRows b), .sl 1 (bytesRows t)] [] (Ret (.sl 1 (bytesRows (b ++ numB t.length ++ t)))) :=
 (bytes02_own b t hb ht).freezeB (by have hn := numB_len (n := t.length) (by omega); unfold maxRows; simp only [List.length_append]; omega)
theorem nums3 {x : Entry} (h : EntW x) : (∀ n ∈ [x.ver.toNat, x.asof.toNat, x.ends.toNat], n ≤ 1099511627776) ∧ natRows [x.ver.toNat, x.asof.toNat, x.ends.toNat] = [[.c (.int .i64 x.ver)], [.c (.int .i64 x.asof)], [.c (.int .i64 x.ends)]] := by
 have := h.v1; have := h.a1; have := h.a2'; have := h.e1; have := h.e2
 refine ⟨fun n hn => ?_, ?_⟩
 · simp only [List.mem_cons, List.not_mem_nil, or_false] at hn
   rcases hn with rfl | rfl | rfl <;> omega
 · simp only [natRows, List.map_cons, List.map_nil]
   rw [Int.toNat_of_nonneg (by omega), Int.toNat_of_nonneg (by omega), Int.toNat_of_nonneg (by omega)]
theorem isize_ok (x : Entry) (h : EntW x) : ACalls Tryz.prog 196 [x.av] [] (Ret (.c (.int .i64 (entB x).length))) := by
 have h1 := len_ok x.key.length (by have := h.k2; omega)
 have h2 := len_ok x.val.length (by have := h.b; omega)
 have q1 := h.v1; have q2 := h.a1; have q3 := h.a2'; have q4 := h.e1; have q5 := h.e2
 have h3 := len_ok x.ver.toNat (by omega)
 have h4 := len_ok x.asof.toNat (by omega)
 have h5 := len_ok x.ends.toNat (by omega)
 rw [Int.toNat_of_nonneg (by omega)] at h3 h4 h5
 have hl : ((entB x).length : Int) = (numB x.key.length).length + x.key.length + (numB x.val.length).length + x.val.length + (numB x.ver.toNat).length + (numB x.asof.toNat).length + (numB x.ends.toNat).length := by
   unfold entB numsB
   simp only [List.flatMap_cons, List.flatMap_nil, List.length_append, List.length_nil]
   omega
 have w1 := numB_len (n := x.key.length) (by have := h.k2; omega)
 have w2 := numB_len (n := x.val.length) (by have := h.b; omega)
 have w3 := numB_len (n := x.ver.toNat) (by omega)
 have w4 := numB_len (n := x.asof.toNat) (by omega)
 have w5 := numB_len (n := x.ends.toNat) (by omega)
 have w6 := h.k2
 have w7 := h.b
 obtain ⟨k, v, a, e, b⟩ := x
 simp only [Entry.av, Entry.cells] at *
 rw [hl]
 refine calls_of_J cl_196 Tryz.func196 rfl (by simp [Tryz.ntmps196]) ?_
 refine jr (h := ?_)
 refine jd [(0, .pure), (1, .pure), (2, .pure), (3, .pure), (4, .pure), (5, .pure), (6, .pure), (7, .pure), (8, .pure), (9, .pure), (10, .pure), (11, .pure), (12, .pure), (13, .pure), (14, .pure), (15, .pure), (16, .pure), (17, .pure)] mixed (by kernel_rfl) ?_
 refine cr (hk := ?_)
 refine ccp (hs := h1) (hk := ?_)
 refine cr (hk := ?_)
 refine ccp (hs := h2) (hk := ?_)
 refine cr (hk := ?_)
 refine Can_nil ?_
 refine jr (h := ?_)
 refine jd [(0, .pure), (1, .pure), (2, .pure), (3, .pure), (4, .pure), (5, .pure), (6, .pure), (7, .pure), (8, .pure), (9, .pure), (10, .pure), (11, .pure), (12, .pure), (13, .pure)] mixed (by kernel_rfl) ?_
 refine cr (hk := ?_)
 refine ccp (hs := h3) (hk := ?_)
 refine cr (hk := ?_)
 refine ccp (hs := h4) (hk := ?_)
 refine cr (hk := ?_)
 refine ccp (hs := h5) (hk := ?_)
 refine cr (hk := ?_)
 refine Can_nil ?_
 refine jr (h := ?_)
 refine jret Tryz.func196 (h := ⟨rfl, rfl⟩)
theorem iput_ok (b : List UInt8) (x : Entry) (h : EntW x) (hb : b.length < 2 ^ 35) : ACalls Tryz.prog 197 [.sl 1 (bytesRows b), x.av] [] (Ret (.sl 1 (bytesRows (b ++ entB x)))) := by
 obtain ⟨hn, hr⟩ := nums3 h
 have hk := h.k2
 have hv := h.b
 have e1 := numB_len (n := x.key.length) (by omega)
 have e3 := numsB_len hn
 have h1 := bytesO_ok b x.key (by omega) (by omega)
 have h2 := put02_fz (b ++ numB x.key.length ++ x.key) [x.ver.toNat, x.asof.toNat, x.ends.toNat] (by simp only [List.length_append]; omega) (by simp) hn
 have h3 := bytesO_ok (b ++ numB x.key.length ++ x.key ++ numsB [x.ver.toNat, x.asof.toNat, x.ends.toNat]) x.val (by simp only [List.length_append, List.length_cons, List.length_nil] at *; omega) (by omega)
 rw [hr] at h2
 have he : b ++ numB x.key.length ++ x.key ++ numsB [x.ver.toNat, x.asof.toNat, x.ends.toNat] ++ numB x.val.length ++ x.val = b ++ entB x := by unfold entB; simp only [List.append_assoc]
 rw [he] at h3
 generalize numsB [x.ver.toNat, x.asof.toNat, x.ends.toNat] = nn at *
 generalize entB x = eb at *
 obtain ⟨k, v, a, e, w⟩ := x
 simp only [Entry.av, Entry.cells] at *
 refine calls_of_J cl_197 Tryz.func197 rfl (by simp [Tryz.ntmps197]) ?_
 refine jr (h := ?_)
 refine jc (hs := h1) (hk := ?_)
 refine jr (h := ?_)
 refine jd [(0, .pure), (1, .pure), (2, .pure), (3, .pure), (4, .pure), (5, .pure), (6, .pure), (7, .pure), (8, .pure), (9, .pure), (10, .pure), (11, .pure), (12, .pure)] mixed (by kernel_rfl) ?_
 refine cr (hk := ?_)
 refine ccp (hs := h2) (hk := ?_)
 refine cr (hk := ?_)
 refine ccp (hs := h3) (hk := ?_)
 refine cr (hk := ?_)
 refine Can_nil ?_
 refine jret Tryz.func197 (h := ⟨rfl, rfl⟩)
theorem rput_ok (b : List UInt8) (x : Entry) (h : EntW x) (hb : b.length < 2 ^ 35) : ACalls Tryz.prog 187 [.sl 1 (bytesRows b), x.av] [] (Ret (.sl 1 (bytesRows (b ++ entB x)))) := by
 obtain ⟨hn, hr⟩ := nums3 h
 have hk := h.k2
 have hv := h.b
 have e1 := numB_len (n := x.key.length) (by omega)
 have e3 := numsB_len hn
 have h1 := bytes02_ok b x.key (by omega) (by omega)
 have h2 := putR_fz (b ++ numB x.key.length ++ x.key) [x.ver.toNat, x.asof.toNat, x.ends.toNat] (by simp only [List.length_append]; omega) (by simp) hn
 have h3 := bytes02_ok (b ++ numB x.key.length ++ x.key ++ numsB [x.ver.toNat, x.asof.toNat, x.ends.toNat]) x.val (by simp only [List.length_append, List.length_cons, List.length_nil] at *; omega) (by omega)
 rw [hr] at h2
 have he : b ++ numB x.key.length ++ x.key ++ numsB [x.ver.toNat, x.asof.toNat, x.ends.toNat] ++ numB x.val.length ++ x.val = b ++ entB x := by unfold entB; simp only [List.append_assoc]
 rw [he] at h3
 generalize numsB [x.ver.toNat, x.asof.toNat, x.ends.toNat] = nn at *
 generalize entB x = eb at *
 obtain ⟨k, v, a, e, w⟩ := x
 simp only [Entry.av, Entry.cells] at *
 refine calls_of_J cl_187 Tryz.func187 rfl (by simp [Tryz.ntmps187]) ?_
 refine jr (h := ?_)
 refine jc (hs := h1) (hk := ?_)
 refine jr (h := ?_)
 refine jc (hs := h2) (hk := ?_)
 refine jr (h := ?_)
 refine jc (hs := h3) (hk := ?_)
 refine jr (h := ?_)
 refine jret Tryz.func187 (h := ⟨rfl, rfl⟩)
theorem nil_bytes : (AV.c (.slice none 0 0)).le (.sl 1 (bytesRows [])) := fun g v h => by
 simp only [rel] at h ⊢
 exact ⟨none, 0, by rw [h]; rfl, by decide, .inl rfl⟩
theorem allB_len : ∀ {l : List Entry}, (∀ x ∈ l, EntW x) → (allB l).length ≤ 5000 * l.length
 | [], _ => Nat.zero_le _
 | x :: l, h => by
   have h1 := entB_len (h x (by simp))
   have h2 := allB_len (l := l) (fun y hy => h y (by simp [hy]))
   unfold allB at *
   simp only [List.flatMap_cons, List.length_append, List.length_cons]
   omega
theorem rsize_ok (x : Entry) (h : EntW x) : ACalls Tryz.prog 186 [x.av] [] (Ret (.c (.int .i64 (entB x).length))) := by
 have hp := rput_ok [] x h (by simp)
 rw [List.nil_append] at hp
 have hl := entB_len h
 generalize entB x = eb at *
 obtain ⟨k, v, a, e, w⟩ := x
 simp only [Entry.av, Entry.cells] at *
 refine calls_of_J cl_186 Tryz.func186 rfl (by simp [Tryz.ntmps186]) ?_
 refine jr (h := ?_)
 have hp2 := hp.nilArg (pre := []) (post := [_])
 refine jc (hs := hp2) (hk := ?_)
 refine jr (h := ?_)
 refine jret Tryz.func186 (h := ⟨rfl, rfl⟩)
theorem iall_ok (l : List Entry) (h : ∀ x ∈ l, EntW x) (hl : l.length < 2 ^ 20) : ACalls Tryz.prog 155 [.sl 5 (ents l)] [] (Ret (.sl 1 (bytesRows (allB l)))) := by
 refine calls_of_J cl_155 Tryz.func155 rfl (by simp [Tryz.ntmps155]) ?_
 refine jr (h := ?_)
 refine J_wk (t := 3) (by simp only [go_sem]) nil_bytes ?_
 refine jr (h := ?_)
 refine jk [3, 6, 7, 8] (h := ?_)
 refine J_loopI (I := fun m e D => ∃ i : Nat, i ≤ l.length ∧ m = l.length - i ∧ D = [] ∧ e = [(3, .sl 1 (bytesRows (allB (l.take i)))), (6, .sl 5 (ents l)), (7, .c (.int .i64 l.length)), (8, .c (.int .i64 i))]) ?_ ?_
 · exact ⟨_, 0, Nat.zero_le _, rfl, rfl, by simp [ents_len, allB] <;> rfl⟩
 · rintro m e D ⟨i, hi, rfl, rfl, rfl⟩ ih
   refine jr (h := ?_)
   refine jif (h1 := fun hc => ?_) (h2 := fun hc => ?_)
   · have hlt : i < l.length := by omega
     have g1 := ents_get (List.getElem?_eq_getElem hlt)
     have h0 : (0 : Int) ≤ (i : Int) := by omega
     have hb := allB_len (l := l.take i) fun x hx => h x (List.mem_of_mem_take hx)
     rw [List.length_take] at hb
     have hp := iput_ok (allB (l.take i)) l[i] (h _ (List.getElem_mem hlt)) (by omega)
     rw [← allB_take (List.getElem?_eq_getElem hlt)] at hp
     simp only [Entry.av, Entry.cells] at hp
     refine jf (own := [5]) (a2 g1 ents_len) (h := ?_)
     refine jnv (hh := fun b5 hb5 => ?_)
     refine jr (h := ?_)
     refine jc (hs := hp) (hk := ?_)
     refine jr (h := ?_)
     refine J_drop ?_
     refine jk [3, 6, 7, 8] (h := ?_)
     refine ih _ _ _ ?_ ⟨i + 1, by omega, rfl, rfl, rfl⟩
     omega
   · have hi' : i = l.length := by omega
     subst hi'
     rw [List.take_length]
     refine jr (h := ?_)
     refine jret Tryz.func155 (h := ⟨rfl, rfl⟩)
theorem rall_ok (l : List Entry) (h : ∀ x ∈ l, EntW x) (hl : l.length < 2 ^ 20) : ACalls Tryz.prog 136 [.sl 5 (ents l)] [] (Ret (.sl 1 (bytesRows (allB l)))) := by
 refine calls_of_J cl_136 Tryz.func136 rfl (by simp [Tryz.ntmps136]) ?_
 refine jr (h := ?_)
 refine J_wk (t := 3) (by simp only [go_sem]) nil_bytes ?_
 refine jr (h := ?_)
 refine jk [0, 3, 4] (h := ?_)
 refine J_loopI (I := fun m e D => ∃ i : Nat, i ≤ l.length ∧ m = l.length - i ∧ D = [] ∧ e = [(0, .sl 5 (ents l)), (3, .sl 1 (bytesRows (allB (l.take i)))), (4, .c (.int .i64 i))]) ?_ ?_
 · exact ⟨_, 0, Nat.zero_le _, rfl, rfl, by simp [allB] <;> rfl⟩
 · rintro m e D ⟨i, hi, rfl, rfl, rfl⟩ ih
   refine jf ents_len (h := ?_)
   refine jif (h1 := fun hc => ?_) (h2 := fun hc => ?_)
   · have hlt : i < l.length := by omega
     have g1 := ents_get (List.getElem?_eq_getElem hlt)
     have h0 : (0 : Int) ≤ (i : Int) := by omega
     have hb := allB_len (l := l.take i) fun x hx => h x (List.mem_of_mem_take hx)
     rw [List.length_take] at hb
     have hp := rput_ok (allB (l.take i)) l[i] (h _ (List.getElem_mem hlt)) (by omega)
     rw [← allB_take (List.getElem?_eq_getElem hlt)] at hp
     simp only [Entry.av, Entry.cells] at hp
     refine jf (a2 g1 ents_len) (h := ?_)
     refine jc (hs := hp) (hk := ?_)
     refine jr (h := ?_)
     refine jk [0, 3, 4] (h := ?_)
     refine ih _ _ _ ?_ ⟨i + 1, by omega, rfl, rfl, rfl⟩
     omega
   · have hi' : i = l.length := by omega
     subst hi'
     rw [List.take_length]
     refine jr (h := ?_)
     refine jret Tryz.func136 (h := ⟨rfl, rfl⟩)
theorem bsize_ok (l : List Entry) (h : ∀ x ∈ l, EntW x) (hl : l.length < 2 ^ 20) : ACalls Tryz.prog 151 [.sl 5 (ents l)] [] (Ret (.c (.int .i64 (allB l).length))) := by
 refine calls_of_J cl_151 Tryz.func151 rfl (by simp [Tryz.ntmps151]) ?_
 refine jr (h := ?_)
 refine jk [3, 6, 7, 8] (h := ?_)
 refine J_loopI (I := fun m e D => ∃ i : Nat, i ≤ l.length ∧ m = l.length - i ∧ D = [] ∧ e = [(3, .c (.int .i64 (allB (l.take i)).length)), (6, .sl 5 (ents l)), (7, .c (.int .i64 l.length)), (8, .c (.int .i64 i))]) ?_ ?_
 · exact ⟨_, 0, Nat.zero_le _, rfl, rfl, by simp [ents_len, allB] <;> rfl⟩
 · rintro m e D ⟨i, hi, rfl, rfl, rfl⟩ ih
   refine jr (h := ?_)
   refine jif (h1 := fun hc => ?_) (h2 := fun hc => ?_)
   · have hlt : i < l.length := by omega
     have g1 := ents_get (List.getElem?_eq_getElem hlt)
     have h0 : (0 : Int) ≤ (i : Int) := by omega
     have hb := allB_len (l := l.take i) fun x hx => h x (List.mem_of_mem_take hx)
     rw [List.length_take] at hb
     have hp := isize_ok l[i] (h _ (List.getElem_mem hlt))
     have he := entB_len (h _ (List.getElem_mem hlt))
     have ht : ((allB (l.take (i + 1))).length : Int) = (allB (l.take i)).length + (entB l[i]).length := by
       rw [allB_take (List.getElem?_eq_getElem hlt), List.length_append]; omega
     simp only [Entry.av, Entry.cells] at hp
     refine jf (own := [5]) (a2 g1 ents_len) (h := ?_)
     refine jnv (hh := fun b5 hb5 => ?_)
     refine jr (h := ?_)
     refine jc (hs := hp) (hk := ?_)
     refine jr (h := ?_)
     refine J_drop ?_
     refine jk [3, 6, 7, 8] (h := ?_)
     refine ih _ _ _ ?_ ⟨i + 1, by omega, rfl, rfl, by rw [ht]; rfl⟩
     omega
   · have hi' : i = l.length := by omega
     subst hi'
     rw [List.take_length]
     refine jr (h := ?_)
     refine jret Tryz.func151 (h := ⟨rfl, rfl⟩)
end
end Go.Proofs.YtjppajaoekbkpaaGreatDoor
