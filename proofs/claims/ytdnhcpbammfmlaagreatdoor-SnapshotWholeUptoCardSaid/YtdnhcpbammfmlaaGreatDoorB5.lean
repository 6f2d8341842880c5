/- A part of the proof: what the calls do, told by values. -/
import Derived.Test.YtdnhcpbammfmlaaGreatDoorB4
import Derived.Test.YtdnhcpbammfmlaaGreatDoorA3
import Derived.Test.YtdnhcpbammfmlaaGreatDoorA8
import Derived.Test.YtdnhcpbammfmlaaGreatDoorB3
set_option linter.unusedVariables false
set_option linter.unusedSimpArgs false
set_option maxRecDepth 100000
set_option maxHeartbeats 4000000
namespace Go.Proofs.YtdnhcpbammfmlaaGreatDoor
open Go Go.Av
section
abbrev SortC (l : List (Int × List UInt8)) : Prop := (l.map (·.1)).Pairwise (· < ·)
theorem findM_app {k : Int} : ∀ (A B : List (Int × List UInt8)), findM (A ++ B) k = (findM A k).or (findM B k)
 | [], B => rfl
 | p :: A, B => by
   show findM (p :: (A ++ B)) k = (findM (p :: A) k).or _
   have e1 : ∀ l : List (Int × List UInt8), findM (p :: l) k = if p.1 = k then some p.2 else findM l k := fun l => by conv => lhs; unfold findM
   rw [e1, e1]
   by_cases h : p.1 = k
   · rw [if_pos h, if_pos h]; rfl
   · rw [if_neg h, if_neg h]; exact findM_app A B
theorem find_none_of {l : List (Int × List UInt8)} {k : Int} (h : ∀ p ∈ l, p.1 ≠ k) : findM l k = none := findM_none.2 fun hk => by
 obtain ⟨p, hp, rfl⟩ := List.mem_map.1 hk
 exact h p hp rfl
theorem tw_lt {at_ : Int} : ∀ {l : List (Int × List UInt8)} {p : Int × List UInt8}, p ∈ l.takeWhile (fun p => decide (p.1 < at_)) → p.1 < at_
 | [], p, h => by cases h
 | q :: l, p, h => by
   rw [List.takeWhile_cons] at h
   split at h
   · rename_i hq
     rcases List.mem_cons.1 h with rfl | h
     · simpa using hq
     · exact tw_lt h
   · cases h
theorem split_at {l : List (Int × List UInt8)} (hs : SortC l) (at_ : Int) : ∃ A C, (∀ p ∈ A, p.1 < at_) ∧ (∀ p ∈ C, at_ < p.1) ∧ SortC A ∧ SortC C ∧ (l = A ++ C ∨ ∃ x, l = A ++ (at_, x) :: C) ∧ ∀ b, putC l at_ b = A ++ (if blankB b then [] else [(at_, b)]) ++ C := by
 have hA : ∀ p ∈ l.take (lowC l at_), p.1 < at_ := by
   intro p hp
   have e : l.take (lowC l at_) = l.takeWhile fun p => decide (p.1 < at_) := by
     unfold lowC
     exact (List.prefix_iff_eq_take.1 (List.takeWhile_prefix _)).symm
   rw [e] at hp
   exact tw_lt hp
 have hsplit := List.take_append_drop (lowC l at_) l
 have hs1 : SortC (l.take (lowC l at_)) := by unfold SortC; rw [List.map_take]; exact hs.take
 have hs2 : SortC (l.drop (lowC l at_)) := by unfold SortC; rw [List.map_drop]; exact hs.drop
 have hhd : ∀ p, l[lowC l at_]? = some p → ¬ p.1 < at_ := by
   intro p hp hlt
   have e : l.drop (lowC l at_) = l.dropWhile fun p => decide (p.1 < at_) := by
     unfold lowC
     have h1 := List.takeWhile_append_dropWhile (p := fun p : Int × List UInt8 => decide (p.1 < at_)) (l := l)
     have h2 := congrArg (List.drop (l.takeWhile fun p => decide (p.1 < at_)).length) h1
     rw [List.drop_left] at h2
     exact h2.symm
   have h3 : (l.dropWhile fun p => decide (p.1 < at_)).head? = some p := by rw [← e, List.head?_drop, hp]
   have := List.head?_dropWhile_not (fun p : Int × List UInt8 => decide (p.1 < at_)) l
   rw [h3] at this
   simp [hlt] at this
 cases hr : l.drop (lowC l at_) with
 | nil =>
   have hn : l[lowC l at_]? = none := by rw [← List.head?_drop, hr]; rfl
   refine ⟨l.take (lowC l at_), [], hA, by simp, hs1, by simp [SortC], .inl (by rw [List.append_nil]; rw [hr, List.append_nil] at hsplit; exact hsplit.symm), fun b => ?_⟩
   unfold putC hitC
   rw [hn]
   simp only [Bool.false_eq_true, if_false, Nat.add_zero, hr]
 | cons p C =>
   have hp : l[lowC l at_]? = some p := by rw [← List.head?_drop, hr]; rfl
   have hge := hhd p hp
   rw [hr] at hs2
   obtain ⟨hpC, hsC⟩ := List.pairwise_cons.1 (show ((p :: C).map (·.1)).Pairwise (· < ·) from hs2)
   have hC : ∀ q ∈ C, p.1 < q.1 := fun q hq => hpC q.1 (List.mem_map.2 ⟨q, hq, rfl⟩)
   have hdC : l.drop (lowC l at_ + 1) = C := by rw [← List.drop_drop, hr]; rfl
   by_cases hk : p.1 = at_
   · refine ⟨l.take (lowC l at_), C, hA, fun q hq => by have := hC q hq; omega, hs1, hsC, .inr ⟨p.2, ?_⟩, fun b => ?_⟩
     · rw [hr] at hsplit; rw [show (at_, p.2) = p from by rw [← hk]]; exact hsplit.symm
     · unfold putC hitC
       rw [hp]
       simp only [hk, decide_true, if_true, hdC]
   · refine ⟨l.take (lowC l at_), p :: C, hA, fun q hq => ?_, hs1, hs2, .inl (by rw [hr] at hsplit; exact hsplit.symm), fun b => ?_⟩
     · rcases List.mem_cons.1 hq with rfl | hq
       · omega
       · have := hC q hq; omega
     · unfold putC hitC
       rw [hp]
       simp only [hk, decide_false, Bool.false_eq_true, if_false, Nat.add_zero, hr]
theorem putC_find {l : List (Int × List UInt8)} (hs : SortC l) (at_ : Int) (b : List UInt8) (k : Int) : findM (putC l at_ b) k = if k = at_ then (if blankB b then none else some b) else findM l k := by
 obtain ⟨A, C, hA, hC, -, -, hl, hp⟩ := split_at hs at_
 rw [hp b, findM_app, findM_app]
 by_cases hk : k = at_
 · subst hk
   rw [if_pos rfl, find_none_of (fun p hp => by have := hA p hp; omega), find_none_of (l := C) (fun p hp => by have := hC p hp; omega)]
   cases blankB b <;> simp [findM]
 · rw [if_neg hk]
   have hm : findM (if blankB b then [] else [(at_, b)]) k = none := by
     refine find_none_of fun p hp => ?_
     split at hp
     · cases hp
     · rw [List.mem_singleton.1 hp]; exact fun h => hk h.symm
   rw [hm]
   rcases hl with rfl | ⟨x, rfl⟩
   · rw [findM_app]; simp
   · rw [findM_app]
     have : findM ((at_, x) :: C) k = findM C k := by
       conv => lhs; unfold findM
       rw [if_neg (fun h => hk h.symm)]
     rw [this]; simp
theorem putC_sorted {l : List (Int × List UInt8)} (hs : SortC l) (at_ : Int) (b : List UInt8) : SortC (putC l at_ b) := by
 obtain ⟨A, C, hA, hC, h1, h2, -, hp⟩ := split_at hs at_
 rw [hp b]
 unfold SortC at *
 rw [List.map_append, List.map_append, List.append_assoc]
 refine List.pairwise_append.2 ⟨h1, List.pairwise_append.2 ⟨?_, h2, ?_⟩, ?_⟩
 · split <;> simp
 · intro x hx y hy
   split at hx
   · cases hx
   · have e1 : x = at_ := by simpa using hx
     obtain ⟨q, hq, rfl⟩ := List.mem_map.1 hy
     rw [e1]; exact hC q hq
 · intro x hx y hy
   obtain ⟨p, hp, rfl⟩ := List.mem_map.1 hx
   have hpa := hA p hp
   rcases List.mem_append.1 hy with hy | hy
   · split at hy
     · cases hy
     · have e1 : y = at_ := by simpa using hy
       rw [e1]; exact hpa
   · obtain ⟨q, hq, rfl⟩ := List.mem_map.1 hy
     have := hC q hq
     omega
theorem sort_nodup {l : List (Int × List UInt8)} (hs : SortC l) : (l.map (·.1)).Nodup := hs.imp fun h e => by rw [e] at h; exact absurd h (Int.lt_irrefl _)
theorem putC_safe {pages : Int} {l : List (Int × List UInt8)} (hs : SortC l) (h : SafeOK pages l) {at_ : Int} {b : List UInt8} (hb : b.length = 256) (ha : 0 ≤ at_ ∧ at_ < pages) : SafeOK pages (putC l at_ b) := by
 refine ⟨sort_nodup (putC_sorted hs _ _), putC_page h.page hb, fun p hp => ?_, fun p hp => ?_⟩ <;> unfold putC at hp
 · rcases List.mem_append.1 hp with hp | hp
   · rcases List.mem_append.1 hp with hp | hp
     · exact h.nb p (List.take_subset _ _ hp)
     · split at hp
       · cases hp
       · rename_i hbl; rw [List.mem_singleton.1 hp]; simpa using hbl
   · exact h.nb p (List.drop_subset _ _ hp)
 · rcases List.mem_append.1 hp with hp | hp
   · rcases List.mem_append.1 hp with hp | hp
     · exact h.rng p (List.take_subset _ _ hp)
     · split at hp
       · cases hp
       · rw [List.mem_singleton.1 hp]; exact ha
   · exact h.rng p (List.drop_subset _ _ hp)
structure Pgs (pages : Int) (c m : List (Int × List UInt8)) : Prop where
 sort : SortC c
 cs : SafeOK pages c
 ms : SafeOK pages m
 find : ∀ k, findM c k = findM m k
theorem Pgs.pageOr {pages : Int} {c m : List (Int × List UInt8)} (h : Pgs pages c m) (k : Int) : pageOr c k = pageOr m k := by unfold Proofs.YtdnhcpbammfmlaaGreatDoor.pageOr; rw [h.find]
theorem blank_z : blankB z256 = true := blank_zeros 256
theorem Pgs.settle {pages : Int} {c m : List (Int × List UInt8)} (h : Pgs pages c m) {at_ : Int} {o : Option (List UInt8)} {keep : Int} (ho : ∀ b, o = some b → b.length = 256) (ha : 0 ≤ at_ ∧ at_ < pages) :
   Pgs pages (settleC c at_ o keep) (settleM m at_ o keep) := by
 have hm := (settle_safe (keep := keep) h.ms ho ha).1
 cases o with
 | none =>
   unfold settleC settleM at *
   simp only at *
   by_cases hk : keep < 256
   · rw [if_pos hk, if_neg (by omega)]; exact h
   · rw [if_neg hk, if_pos (by omega)]
     rw [if_pos (by omega)] at hm
     refine ⟨putC_sorted h.sort _ _, putC_safe h.sort h.cs (by simp [z256]) ha, hm, fun k => ?_⟩
     rw [putC_find h.sort, findM_del h.ms.nodup, blank_z, h.find]
     by_cases hka : k = at_
     · rw [if_pos hka, if_pos rfl, if_pos hka.symm]
     · rw [if_neg hka, if_neg (fun e => hka e.symm)]
 | some b =>
   have hb := ho b rfl
   have hS : settleC c at_ (some b) keep = putC c at_ (b.take (keepN keep) ++ (Proofs.YtdnhcpbammfmlaaGreatDoor.pageOr c at_).drop (keepN keep)) := rfl
   rw [hS, h.pageOr]
   have hpl : (Proofs.YtdnhcpbammfmlaaGreatDoor.pageOr m at_).length = 256 := pageOr_len h.ms.page at_
   have hkl : keepN keep ≤ 256 := by unfold keepN; omega
   have hnl : (b.take (keepN keep) ++ (Proofs.YtdnhcpbammfmlaaGreatDoor.pageOr m at_).drop (keepN keep)).length = 256 := by rw [List.length_append, List.length_take, List.length_drop]; omega
   refine ⟨putC_sorted h.sort _ _, putC_safe h.sort h.cs hnl ha, hm, fun k => ?_⟩
   rw [putC_find h.sort]
   unfold settleM
   simp only
   by_cases hk : keep ≤ 0
   · rw [if_pos hk, show keepN keep = 0 from by unfold keepN; omega, List.take_zero, List.nil_append, List.drop_zero, h.find]
     by_cases hka : k = at_
     · subst hka
       rw [if_pos rfl]
       unfold Proofs.YtdnhcpbammfmlaaGreatDoor.pageOr
       cases hf : findM m k with
       | none => simp [blank_z]
       | some w =>
         have := h.ms.nb _ (mem_find hf)
         simp only [Option.getD_some]
         rw [if_neg (by simpa using this)]
     · rw [if_neg hka]
   · rw [if_neg hk]
     have e1 : (min keep 256).toNat = keepN keep := rfl
     rw [e1]
     by_cases hbl : blankB (b.take (keepN keep) ++ (Proofs.YtdnhcpbammfmlaaGreatDoor.pageOr m at_).drop (keepN keep)) = true
     · rw [if_pos hbl, if_pos hbl, findM_del h.ms.nodup, h.find]
       by_cases hka : k = at_
       · rw [if_pos hka, if_pos hka.symm]
       · rw [if_neg hka, if_neg (fun e => hka e.symm)]
     · rw [if_neg hbl, if_neg hbl, findM_upd, h.find]
       by_cases hka : k = at_
       · rw [if_pos hka, if_pos hka.symm]
       · rw [if_neg hka, if_neg (fun e => hka e.symm)]
theorem Pgs.all {pages : Int} : ∀ {ls : List (Int × Option (List UInt8))} {c m : List (Int × List UInt8)}, Pgs pages c m → (∀ p ∈ ls, ∀ b, p.2 = some b → b.length = 256) → (∀ p ∈ ls, 0 ≤ p.1 ∧ p.1 < pages) → Pgs pages (settleAllC c ls) (settleAll m ls)
 | [], _, _, h, _, _ => h
 | p :: ls, c, m, h, h1, h2 => Pgs.all (ls := ls) (h.settle (keep := 256) (h1 p (by simp)) (h2 p (by simp))) (fun q hq => h1 q (by simp [hq])) (fun q hq => h2 q (by simp [hq]))
theorem Pgs.keep {pages : Int} : ∀ {ls : List (Int × Option (List UInt8))} {ks : List Int} {c m : List (Int × List UInt8)}, Pgs pages c m → (∀ p ∈ ls, ∀ b, p.2 = some b → b.length = 256) → (∀ p ∈ ls, 0 ≤ p.1 ∧ p.1 < pages) → Pgs pages (settleKeepC c ls ks) (settleKeep m ls ks)
 | [], _, _, _, h, _, _ => h
 | _ :: _, [], _, _, h, _, _ => h
 | p :: ls, k :: ks, c, m, h, h1, h2 => Pgs.keep (ls := ls) (ks := ks) (h.settle (keep := k) (h1 p (by simp)) (h2 p (by simp))) (fun q hq => h1 q (by simp [hq])) (fun q hq => h2 q (by simp [hq]))
abbrev wc (s : Fl) (c : List (Int × List UInt8)) : Fl := { s with safe := c }
theorem burnS_wc (s : Fl) (c : List (Int × List UInt8)) : burnS (wc s c) = wc (burnS s) c := by unfold burnS; split <;> rfl
theorem changeS_wc (s : Fl) (c : List (Int × List UInt8)) (at_ : Int) (o : Option (List UInt8)) : changeS (wc s c) at_ o = wc (changeS s at_ o) c := burnS_wc { s with loose := s.loose ++ [(at_, o)] } c
theorem writeS_wc (s : Fl) (c : List (Int × List UInt8)) (at_ : Int) (b : List UInt8) : writeS (wc s c) at_ b = wc (writeS s at_ b) c := by
 unfold writeS
 have : checkF (wc s c) at_ = checkF s at_ := rfl
 rw [this]
 split
 · rfl
 · exact changeS_wc s c at_ _
theorem trimS_wc (s : Fl) (c : List (Int × List UInt8)) (at_ : Int) : trimS (wc s c) at_ = wc (trimS s at_) c := by
 unfold trimS
 have : checkF (wc s c) at_ = checkF s at_ := rfl
 rw [this]
 split
 · rfl
 · exact changeS_wc s c at_ _
theorem changeS_safe (s : Fl) (at_ : Int) (o : Option (List UInt8)) : (changeS s at_ o).safe = s.safe := burnS_safe _
theorem writeS_safe (s : Fl) (at_ : Int) (b : List UInt8) : (writeS s at_ b).safe = s.safe := by unfold writeS; split; (· rfl); (· exact changeS_safe _ _ _)
theorem trimS_safe (s : Fl) (at_ : Int) : (trimS s at_).safe = s.safe := by unfold trimS; split; (· rfl); (· exact changeS_safe _ _ _)
theorem changeS_pages (s : Fl) (at_ : Int) (o : Option (List UInt8)) : (changeS s at_ o).pages = s.pages := burnS_pages _
theorem writeS_pages (s : Fl) (at_ : Int) (b : List UInt8) : (writeS s at_ b).pages = s.pages := by unfold writeS; split; (· rfl); (· exact changeS_pages _ _ _)
theorem trimS_pages (s : Fl) (at_ : Int) : (trimS s at_).pages = s.pages := by unfold trimS; split; (· rfl); (· exact changeS_pages _ _ _)
def flushCC (s : Fl) (c : List (Int × List UInt8)) : List (Int × List UInt8) := if s.down = true then c else if burnB s then c else settleAllC c s.loose
structure Rel (s : Fl) (c : List (Int × List UInt8)) (n : Nat) : Prop where
 b : s.B n
 pg : Pgs s.pages c s.safe
 len : c.length + s.loose.length ≤ n
theorem Rel.rb {s : Fl} {c : List (Int × List UInt8)} {n : Nat} (h : Rel s c n) : (wc s c).B n := { h.b with safe := h.pg.cs, len := h.len }
theorem Rel.mono {s : Fl} {c : List (Int × List UInt8)} {n m : Nat} (h : Rel s c n) (hm : n ≤ m) : Rel s c m := ⟨h.b.mono hm, h.pg, Nat.le_trans h.len hm⟩
theorem rel_new {p : Int} (h1 : 1 ≤ p) (h2 : p ≤ 4096) : Rel (newFl p) [] 0 := ⟨newFl_B h1 h2, ⟨List.Pairwise.nil, (newFl_B h1 h2).safe, (newFl_B h1 h2).safe, fun _ => rfl⟩, by simp [newFl]⟩
theorem Rel.write {s : Fl} {c : List (Int × List UInt8)} {n : Nat} (h : Rel s c n) (at_ : Int) (b : List UInt8) : Rel (writeS s at_ b) c (n + 1) :=
 ⟨writeS_B h.b at_ b, by rw [writeS_pages, writeS_safe]; exact h.pg, by have := (writeS_B h.rb at_ b).len; rw [writeS_wc] at this; exact this⟩
theorem Rel.trim {s : Fl} {c : List (Int × List UInt8)} {n : Nat} (h : Rel s c n) (at_ : Int) : Rel (trimS s at_) c (n + 1) :=
 ⟨trimS_B h.b at_, by rw [trimS_pages, trimS_safe]; exact h.pg, by have := (trimS_B h.rb at_).len; rw [trimS_wc] at this; exact this⟩
theorem Rel.put {s : Fl} {c : List (Int × List UInt8)} {m : Nat} (h : Rel s c m) (n at_ kd : Int) (b : List UInt8) : Rel (tputS s n at_ kd b) c (m + 1) := by
 unfold tputS; split
 · exact h.mono (Nat.le_succ _)
 · exact h.write _ _
theorem Rel.fuse {s : Fl} {c : List (Int × List UInt8)} {n : Nat} (h : Rel s c n) {k : Int} (hk : k < 9223372036854775808) : Rel (fuseS s k) c n := ⟨fuseS_B h.b hk, h.pg, h.len⟩
theorem Rel.crash {s : Fl} {c : List (Int × List UInt8)} {n : Nat} (h : Rel s c n) (keep : List Int) : Rel (crashS s keep) (settleKeepC c s.loose keep) n :=
 ⟨crashS_B h.b keep, h.pg.keep h.b.lpage h.b.lrng, by have := (settleKeepC_ok (ls := s.loose) (ks := keep) h.pg.cs.page h.b.lpage).2; have := h.len; show _ + 0 ≤ n; omega⟩
theorem Rel.flush {s : Fl} {c : List (Int × List UInt8)} {n : Nat} (h : Rel s c n) : Rel (flushS s) (flushCC s c) (n + 1) := by
 have hb := flushS_B h.b
 have hl := (settleAllC_ok (ls := s.loose) h.pg.cs.page h.b.lpage).2
 have h3 := h.len
 have e := burnS_pages s
 have e2 := burnS_safe s
 have e3 := burnS_loose s
 unfold flushS flushCC at *
 by_cases hd : s.down = true
 · rw [if_pos hd] at hb ⊢; rw [if_pos hd]; exact ⟨hb, h.pg, by omega⟩
 · rw [if_neg hd] at hb ⊢; rw [if_neg hd]
   by_cases hbb : burnB s = true
   · rw [if_pos hbb] at hb ⊢; rw [if_pos hbb]; exact ⟨hb, by rw [e, e2]; exact h.pg, by rw [e3]; omega⟩
   · rw [if_neg hbb] at hb ⊢; rw [if_neg hbb]; exact ⟨hb, by show Pgs (burnS s).pages _ _; rw [e]; exact h.pg.all h.b.lpage h.b.lrng, by show _ + 0 ≤ _; omega⟩
theorem Rel.look {s : Fl} {c : List (Int × List UInt8)} {n : Nat} (h : Rel s c n) (k : Int) : lookB (wc s c) k = lookB s k := by
 unfold lookB
 cases lookL s.loose k with
 | some o => rfl
 | none => exact congrArg (Option.getD · z256) (h.pg.find k)
theorem cellsAt_ext {s : Fl} {k1 k2 : List Int} (h1 : k1.Pairwise (· < ·)) (h2 : k2.Pairwise (· < ·)) (h : ∀ k, blankB (lookB s k) = false → (k ∈ k1 ↔ k ∈ k2)) : cellsAt s k1 = cellsAt s k2 := by
 unfold cellsAt
 rw [List.filter_map, List.filter_map]
 congr 1
 refine sorted_ext (h1.filter _) (h2.filter _) fun k => ?_
 rw [List.mem_filter, List.mem_filter]
 simp only [Function.comp_apply, Bool.not_eq_true']
 constructor
 · rintro ⟨h3, h4⟩; exact ⟨(h k h4).1 h3, h4⟩
 · rintro ⟨h3, h4⟩; exact ⟨(h k h4).2 h3, h4⟩
theorem upto_lt (n : Nat) : (upto n).Pairwise (· < ·) := by
 unfold upto
 rw [List.pairwise_map]
 exact List.pairwise_lt_range.imp fun h => by omega
theorem upto_mem {n : Nat} {k : Int} : k ∈ upto n ↔ 0 ≤ k ∧ k < n := by
 unfold upto
 rw [List.mem_map]
 constructor
 · rintro ⟨i, hi, rfl⟩; have := List.mem_range.1 hi; omega
 · rintro ⟨h1, h2⟩; exact ⟨k.toNat, List.mem_range.2 (by omega), by omega⟩
theorem lookL_mem {l : List (Int × Option (List UInt8))} {k : Int} (h : k ∉ l.map (·.1)) : lookL l k = none := foldl_none fun p hp e => h (List.mem_map.2 ⟨p, hp, e⟩)
theorem cells_all {s : Fl} {n : Nat} (h : s.B n) : cellsAt s (upto s.pages.toNat) = cellsF s := by
 refine cellsAt_ext (upto_lt _) (keysF_lt s) fun k hk => ?_
 have hp := h.p1
 have hmem : k ∈ s.safe.map (·.1) ∨ k ∈ s.loose.map (·.1) := by
   by_cases h1 : k ∈ s.loose.map (·.1)
   · exact .inr h1
   · by_cases h2 : k ∈ s.safe.map (·.1)
     · exact .inl h2
     · exfalso
       have : lookB s k = z256 := by unfold lookB; rw [lookL_mem h1, findM_none.2 h2]; rfl
       rw [this, blank_z] at hk; cases hk
 rw [upto_mem, keysF_mem]
 refine ⟨fun _ => hmem, fun _ => ?_⟩
 rcases hmem with hm | hm
 · obtain ⟨p, hp2, rfl⟩ := List.mem_map.1 hm
   have := h.safe.rng p hp2; omega
 · obtain ⟨p, hp2, rfl⟩ := List.mem_map.1 hm
   have := h.lrng p hp2; omega
theorem Rel.cells {s : Fl} {c : List (Int × List UInt8)} {n : Nat} (h : Rel s c n) : cellsAt (wc s c) (upto (wc s c).pages.toNat) = cellsF s := by
 rw [← cells_all h.b]
 unfold cellsAt
 have : (fun k => (k, lookB (wc s c) k)) = fun k => (k, lookB s k) := by funext k; rw [h.look]
 rw [this]
end
section
attribute [local go_sem] packed List.set_cons_zero List.set_cons_succ List.cons_append List.nil_append bytesRows_length cellRows_len chRows_len rCells intRows_len
attribute [-go_sem] cellsOf AV.isCell
attribute [local go_sem] cellsOf_agg cellsOf_int cellsOf_bool cellsOf_str cellsOf_map cellsOf_ptr cellsOf_nilI cellsOf_slice cellsOf_sl cellsOf_ifc cellsOf_fp cellsOf_opt optAV_cell icell_int icell_bool icell_str icell_map icell_ptr icell_nilI icell_slice icell_sl icell_ifc icell_fp
theorem getBox_GL (Δ : List HP) (b : Nat) : getBox (GL :: Δ) b = getBox Δ b := rfl
theorem setBox_GL (Δ : List HP) (b : Nat) (c : List AV) : setBox (GL :: Δ) b c = GL :: setBox Δ b c := rfl
theorem fresh_GL (Δ : List HP) (b : Nat) : fresh (GL :: Δ) b = fresh Δ b := rfl
theorem tputN_bd {s : Fl} {n at_ kd : Int} {b : List UInt8} (h : 1 ≤ n ∧ n ≤ 1099511627777) : 1 ≤ tputN s n at_ kd b ∧ tputN s n at_ kd b ≤ 1099511627777 := by
 unfold tputN
 split
 · rename_i hz
   have : checkC n kd b.length = 0 := by
     unfold tputC at hz
     false_or_by_contra
     rename_i hn
     rw [if_pos hn] at hz
     exact hn hz
   have := (checkC_zero this).1
   omega
 · exact h
def firmCC (s : Fl) (c : List (Int × List UInt8)) (n at_ kd : Int) (b : List UInt8) : List (Int × List UInt8) := if tputC s n at_ kd b ≠ 0 then c else flushCC (tputS s n at_ kd b) c
theorem Rel.firm {s : Fl} {c : List (Int × List UInt8)} {m : Nat} (h : Rel s c m) (n at_ kd : Int) (b : List UInt8) : Rel (tfirmS s n at_ kd b) (firmCC s c n at_ kd b) (m + 2) := by
 unfold tfirmS firmCC
 by_cases hc : tputC s n at_ kd b ≠ 0
 · rw [if_pos hc, if_pos hc]; exact (h.put n at_ kd b).mono (by omega)
 · rw [if_neg hc, if_neg hc]; exact (h.put n at_ kd b).flush
end
section
structure Entry where
 key : List UInt8
 ver : Int
 asof : Int
 ends : Int
 val : List UInt8
deriving DecidableEq
def Entry.cells (x : Entry) : List AV := [.c (.string (mkStr x.key)), .c (.int .i64 x.ver), .c (.int .i64 x.asof), .c (.int .i64 x.ends), .sl 1 (bytesRows x.val)]
def Entry.av (x : Entry) : AV := .agg x.cells
attribute [local go_sem] Entry.av Entry.cells packed List.set_cons_zero List.set_cons_succ
def keyCode (k : List UInt8) : Int := if k.length = 0 then 1 else if 40 < k.length then 3 else 0
def fold64 (a : Int) : Int := x64 a (a / 8589934592)
def mix64 (a : Int) : Int := fold64 (m64 (fold64 (m64 (fold64 a) 18397679294719823053)) 14181476777654086739)
def step64 (h : Int) (b : UInt8) : Int := m64 (x64 h b.toNat) 1099511628211
def hash64 (k : List UInt8) : Int := mix64 (k.foldl step64 14695981039346656037)
def findE (l : List Entry) (k : List UInt8) : Option Nat := l.findIdx? (fun x => decide (x.key = k))
def findI (l : List Entry) (k : List UInt8) : Int := match findE l k with | some i => i | none => -1
def but (l : List Entry) (k : List UInt8) : List Entry := l.filter fun x => decide (x.key ≠ k)
def badNum (x : Entry) : Prop := x.ver < 1 ∨ 1099511627776 < x.ver ∨ x.asof < x.ver ∨ 1099511627776 < x.asof ∨ x.ends < 0 ∨ 1099511627776 < x.ends
instance (x : Entry) : Decidable (badNum x) := by unfold badNum; infer_instance
def checkCode (x : Entry) : Int := if keyCode x.key ≠ 0 then keyCode x.key else if badNum x then 2 else if 4096 < x.val.length then 3 else 0
end
section
attribute [local go_sem] packed List.set_cons_zero List.set_cons_succ List.cons_append List.nil_append bytesRows_length cellRows_len chRows_len rCells intRows_len
attribute [-go_sem] cellsOf AV.isCell
attribute [local go_sem] cellsOf_agg cellsOf_int cellsOf_bool cellsOf_str cellsOf_map cellsOf_ptr cellsOf_nilI cellsOf_slice cellsOf_sl cellsOf_ifc cellsOf_fp cellsOf_opt optAV_cell icell_int icell_bool icell_str icell_map icell_ptr icell_nilI icell_slice icell_sl icell_ifc icell_fp
attribute [local go_sem] Entry.av Entry.cells
@[go_sem] theorem mkStr_dtl (l : List UInt8) : (mkStr l).data.toList = l := by simp [mkStr]
def entB (x : Entry) : List UInt8 := numB x.key.length ++ x.key ++ numsB [x.ver.toNat, x.asof.toNat, x.ends.toNat] ++ (numB x.val.length ++ x.val)
def allB (l : List Entry) : List UInt8 := l.flatMap entB
structure EntW (x : Entry) : Prop where
 k1 : 1 ≤ x.key.length
 k2 : x.key.length ≤ 40
 v1 : 1 ≤ x.ver
 a1 : x.ver ≤ x.asof
 a2' : x.asof ≤ 1099511627776
 e1 : 0 ≤ x.ends
 e2 : x.ends ≤ 1099511627776
 b : x.val.length ≤ 4096
theorem entW_iff (x : Entry) : checkCode x = 0 ↔ EntW x := by
 unfold checkCode keyCode
 by_cases h1 : x.key.length = 0
 · rw [if_pos h1]; simp only [ne_eq, Int.one_ne_zero, not_false_eq_true, if_true, if_pos h1]; exact ⟨fun h => absurd h (by decide), fun h => absurd h.k1 (by omega)⟩
 · rw [if_neg h1]
   by_cases h2 : 40 < x.key.length
   · rw [if_pos h2]; simp; intro h; have := h.k2; omega
   · rw [if_neg h2]
     simp only [ne_eq, not_true_eq_false, if_false]
     by_cases h3 : badNum x
     · rw [if_pos h3]; simp; intro h; unfold badNum at h3; have := h.v1; have := h.a1; have := h.a2'; have := h.e1; have := h.e2; omega
     · rw [if_neg h3]
       unfold badNum at h3
       by_cases h4 : 4096 < x.val.length
       · rw [if_pos h4]; simp; intro h; have := h.b; omega
       · rw [if_neg h4]; simp; exact ⟨by omega, by omega, by omega, by omega, by omega, by omega, by omega, by omega⟩
end
section
attribute [local go_sem] packed List.set_cons_zero List.set_cons_succ List.cons_append List.nil_append bytesRows_length cellRows_len chRows_len rCells intRows_len
attribute [-go_sem] cellsOf AV.isCell
attribute [local go_sem] cellsOf_agg cellsOf_int cellsOf_bool cellsOf_str cellsOf_map cellsOf_ptr cellsOf_nilI cellsOf_slice cellsOf_sl cellsOf_ifc cellsOf_fp cellsOf_opt optAV_cell icell_int icell_bool icell_str icell_map icell_ptr icell_nilI icell_slice icell_sl icell_ifc icell_fp
attribute [local go_sem] Entry.av Entry.cells
@[go_sem] theorem cellsOf_errNew (s : List UInt8) (a c : Int) : cellsOf (errNew s a c) = [errNew s a c] := by unfold errNew; split <;> rfl
@[go_sem] theorem icell_errNew (s : List UInt8) (a c : Int) : (errNew s a c).isCell = true := by unfold errNew; split <;> rfl
def txtR (b : List UInt8) (at_ : Nat) (c : Int) (most : Nat) : Int × Nat × List UInt8 :=
 if (numR b at_ c most).1 ≠ 0 then ((numR b at_ c most).1, at_, [])
 else if b.length < (numR b at_ c most).2.1 + (numR b at_ c most).2.2 then (6, at_, [])
 else (0, (numR b at_ c most).2.1 + (numR b at_ c most).2.2, (b.drop (numR b at_ c most).2.1).take (numR b at_ c most).2.2)
theorem txtR_at (b : List UInt8) {at_ : Nat} (c : Int) (most : Nat) (h : at_ ≤ b.length) : (txtR b at_ c most).2.1 ≤ b.length := by
 unfold txtR
 split
 · exact h
 · split
   · exact h
   · simp only; omega
end
section
attribute [local go_sem] packed List.set_cons_zero List.set_cons_succ List.cons_append List.nil_append bytesRows_length cellRows_len chRows_len rCells intRows_len
attribute [-go_sem] cellsOf AV.isCell
attribute [local go_sem] cellsOf_agg cellsOf_int cellsOf_bool cellsOf_str cellsOf_map cellsOf_ptr cellsOf_nilI cellsOf_slice cellsOf_sl cellsOf_ifc cellsOf_fp cellsOf_opt optAV_cell icell_int icell_bool icell_str icell_map icell_ptr icell_nilI icell_slice icell_sl icell_ifc icell_fp
theorem scanN_ge (b : List UInt8) (at_ most : Nat) : ∀ (k p n : Nat), at_ ≤ p → at_ ≤ (scanN b at_ most k p n).2.1
 | 0, _, _, _ => Nat.le_refl _
 | k + 1, p, n, h => by
   simp only [scanN]
   split
   · exact Nat.le_refl _
   · split
     · exact Nat.le_refl _
     · split
       · exact scanN_ge b at_ most k _ _ (by omega)
       · split
         · exact Nat.le_refl _
         · show at_ ≤ p + 1; omega
theorem numR_ge (b : List UInt8) (at_ : Nat) (c : Int) (most : Nat) : at_ ≤ (numR b at_ c most).2.1 := by
 unfold numR; split
 · exact Nat.le_refl _
 · exact scanN_ge b at_ most _ _ _ (Nat.le_refl _)
theorem numR_zero {b : List UInt8} {at_ : Nat} {c : Int} {most : Nat} (h : (numR b at_ c most).1 = 0) : c = 0 := by
 by_cases hc : c = 0
 · exact hc
 · unfold numR at h; rw [if_pos hc] at h; exact h
theorem eightR_zero {b : List UInt8} {at_ : Nat} {c : Int} (h : (eightR b at_ c).1 = 0) : c = 0 ∧ (eightR b at_ c).2.1 = at_ + 8 := by
 unfold eightR at h ⊢
 by_cases hc : c = 0
 · rw [if_neg (by simp [hc])] at h ⊢
   by_cases h8 : b.length < at_ + 8
   · rw [if_pos h8] at h; simp at h
   · rw [if_neg h8]; exact ⟨hc, rfl⟩
 · rw [if_pos hc] at h; exact absurd h hc
theorem n40_ok (a : Nat) (b : List UInt8) (at_ : Nat) (c : Int) (h : at_ ≤ b.length) (hb : b.length < 2 ^ 37) :
   ACalls Tryz.prog 28 [.c (.pointer (some ⟨a, 0, none⟩)), .c (.int .i64 1099511627776)] [rdr a b at_ c]
   (fun r Δ => r = .ret (.c (.int .i64 (numR b at_ c 1099511627776).2.2)) ∧ Δ = [rdr a b (numR b at_ c 1099511627776).2.1 (numR b at_ c 1099511627776).1]) := rnum_ok a b at_ c 1099511627776 h hb (by omega)
def snL (b : List UInt8) : Nat → Nat → Int → SN × Nat × Int
 | 0, a, c => ([], a, c)
 | k + 1, a, c => if c ≠ 0 then ([], a, c) else
   let w := eightR b a c
   let v := numR b w.2.1 w.1 1099511627776
   let t := numR b v.2.1 v.1 1099511627776
   ((w.2.2, (v.2.2 : Int), (t.2.2 : Int)) :: (snL b k t.2.1 t.1).1, (snL b k t.2.1 t.1).2)
def snN (b : List UInt8) : Int × Nat × Nat := numR b 0 0 1099511627776
def snA (b : List UInt8) : SN × Nat × Int := snL b (snN b).2.2 (snN b).2.1 (snN b).1
def snC (b : List UInt8) : Int := endR b (snA b).2.1 (snA b).2.2
def snV (b : List UInt8) : SN := if snC b ≠ 0 then [] else (snA b).1
theorem snL_stop (b : List UInt8) (k a : Nat) {c : Int} (h : c ≠ 0) : snL b k a c = ([], a, c) := by
 cases k with
 | zero => rfl
 | succ k => simp only [snL]; rw [if_pos h]
theorem snRows_row (l : SN) : ∀ r ∈ snRows l, r.length = 3 := by
 intro r hr; simp only [snRows, List.mem_map] at hr; obtain ⟨q, _, rfl⟩ := hr; rfl
theorem sseen_ok (b : List UInt8) (hb : b.length < 2 ^ 36) :
   ACalls Tryz.prog 7 [.sl 1 (bytesRows b)] [] (fun r Δ => (∃ e, r = .ret (.tup [.sl 3 (snRows (snV b)), e]) ∧ IsErr e (snC b)) ∧ Δ = []) := by
 have hn1 : ∀ a, ACalls _ _ _ [rdr a b 0 0] (fun r Δ => r = .ret (.c (.int .i64 (snN b).2.2)) ∧ Δ = [rdr a b (snN b).2.1 (snN b).1]) := fun a => n40_ok a b 0 0 (Nat.zero_le _) (by omega)
 have hp2 : (snN b).2.1 ≤ b.length := numR_at b 0 _ (Nat.zero_le _)
 have hv2 : (snN b).2.2 ≤ 1099511627776 := numR_val b 0 _ (Nat.zero_le _)
 have hA : snA b = snL b (snN b).2.2 (snN b).2.1 (snN b).1 := rfl
 have hC : snC b = endR b (snA b).2.1 (snA b).2.2 := rfl
 have hV : snV b = if snC b ≠ 0 then [] else (snA b).1 := rfl
 generalize snN b = N at *
 obtain ⟨c2, p2, n⟩ := N
 simp only at hn1 hA hp2 hv2
 refine jen cl_7 Tryz.func7 (h := ?_)
 refine jr (h := ?_)
 refine jcs (Δ1 := []) (Fr := []) (hs := (read_ok b (by omega))) (hp := (List.Perm.refl _)) (hk := ?_) (hpan := (by rintro x Δ' ⟨a, e, _⟩; cases e))
 rintro x _ ⟨a, e, rfl⟩
 cases e
 simp only [List.cons_append, List.nil_append, List.append_nil]
 refine jr (h := ?_)
 refine jcs (Δ1 := [_]) (Fr := []) (hs := (hn1 a)) (hp := (List.Perm.refl _)) (hk := ?_) (hpan := (by rintro x Δ' ⟨e, _⟩; cases e))
 rintro x _ ⟨e, rfl⟩
 cases e
 simp only [List.append_nil]
 refine jr (h := ?_)
 refine jk [4, 5, 6, 7] (h := ?_)
 refine J_loopI (I := fun m e D' => ∃ (i a' : Nat) (c' : Int) (acc : SN) (v : Value) (L : List HP), i ≤ n ∧ m = n - i ∧ acc.length = i ∧ a' ≤ b.length ∧ i ≤ b.length + 1 ∧ (c' = 0 → i ≤ a') ∧ acc ++ (snL b (n - i) a' c').1 = (snL b n p2 c2).1 ∧ (snL b (n - i) a' c').2 = (snL b n p2 c2).2 ∧ Own 70 3 (snRows acc).flatten acc.length v L ∧ D' = rdr a b a' c' :: L ∧ e = [(4, .c (.pointer (some ⟨a, 0, none⟩))), (5, .c (.int .i64 n)), (6, .c v), (7, .c (.int .i64 i))]) ?_ ?_
 · exact ⟨_, 0, p2, c2, [], .slice none 0 0, [], by omega, rfl, rfl, hp2, by omega, fun _ => by omega, rfl, rfl, .nil none rfl rfl, rfl, rfl⟩
 · rintro m e D ⟨i, a', c', acc, v, L, hi, rfl, hal, ha', hib, hz', ht1, ht2, how, rfl, rfl⟩ ih
   by_cases hg : i < n ∧ c' = 0
   · obtain ⟨hlt, rfl⟩ := hg
     have hk : n - i = (n - (i + 1)) + 1 := by omega
     rw [hk] at ht1 ht2
     simp only [snL] at ht1 ht2
     rw [if_neg (by simp)] at ht1 ht2
     have hw := rwordE_ok a b a' 0 ha' (by omega)
     have hea := eightR_at b 0 ha'
     have hez := @eightR_zero b a' 0
     generalize eightR b a' 0 = E at *
     have hm := n40_ok a b E.2.1 E.1 hea (by omega)
     have hma := numR_at b E.1 1099511627776 hea
     have hmz := @numR_zero b E.2.1 E.1 1099511627776
     have hmg := numR_ge b E.2.1 E.1 1099511627776
     generalize numR b E.2.1 E.1 1099511627776 = M at *
     have hq := n40_ok a b M.2.1 M.1 hma (by omega)
     have hqa := numR_at b M.1 1099511627776 hma
     have hqz := @numR_zero b M.2.1 M.1 1099511627776
     have hqg := numR_ge b M.2.1 M.1 1099511627776
     generalize numR b M.2.1 M.1 1099511627776 = Q at *
     have hd : decide ((i : Int) < (n : Int)) = true := decide_eq_true (by omega)
     refine jf hd (h := ?_)
     refine jcs (Δ1 := [_]) (Fr := L) (hs := (rcode_ok a b a' 0)) (hp := (List.Perm.refl _)) (hk := ?_) (hpan := (by rintro x Δ' ⟨e, _⟩; cases e))
     rintro x _ ⟨e, rfl⟩
     cases e
     simp only [List.cons_append, List.nil_append]
     refine jr (h := ?_)
     refine jt (h := ?_)
     refine jr (h := ?_)
     refine jcs (Δ1 := [_]) (Fr := L) (hs := hw) (hp := (List.Perm.refl _)) (hk := ?_) (hpan := (by rintro x Δ' ⟨e, _⟩; cases e))
     rintro x _ ⟨e, rfl⟩
     cases e
     simp only [List.cons_append, List.nil_append]
     refine jr (own := [8]) (h := ?_)
     refine jnv (hh := fun b8 hb8 => ?_)
     simp only [fresh] at hb8
     refine jf hb8 (h := ?_)
     refine jcs (Δ1 := [_]) (Fr := _ :: L) (hs := hm) (hp := (List.Perm.swap _ _ _)) (hk := ?_) (hpan := (by rintro x Δ' ⟨e, _⟩; cases e))
     rintro x _ ⟨e, rfl⟩
     cases e
     simp only [List.cons_append, List.nil_append]
     refine jf hb8 (h := ?_)
     refine jcs (Δ1 := [_]) (Fr := _ :: L) (hs := hq) (hp := (List.Perm.refl _)) (hk := ?_) (hpan := (by rintro x Δ' ⟨e, _⟩; cases e))
     rintro x _ ⟨e, rfl⟩
     cases e
     simp only [List.cons_append, List.nil_append]
     refine jf (own := [36]) hb8 (h := ?_)
     refine jap (Fr := [_, _]) (how := how) (hp := (List.Perm.refl _)) (hsrc := (by simp only [go_sem, srcOf] <;> rfl)) (hc := (by rfl)) (hmax := (by omega)) (hk := ?_)
     rintro _ _ ⟨v2, L2, rfl, rfl, how2⟩
     simp only [List.cons_append, List.nil_append]
     obtain ⟨av2, cv2, rfl⟩ := how2.slice
     refine jf hb8 (h := ?_)
     refine J_perm (List.Perm.swap _ _ _) (J_drop ?_)
     refine jk [4, 5, 6, 7] (h := ?_)
     refine ih (n - (i + 1)) _ _ (by omega) ⟨i + 1, Q.2.1, Q.1, acc ++ [(E.2.2, (M.2.2 : Int), (Q.2.2 : Int))], _, L2, by omega, rfl, by simp [hal], hqa, by omega, ?_, ?_, ht2, ?_, rfl, rfl⟩
     · intro h0
       have h1 := hqz h0
       have h2 := hmz h1
       have h3 := hez h2
       omega
     · rw [← ht1]; simp
     · rw [snRows_app, List.flatten_append, List.length_append]; exact how2
   · have hE : snL b (n - i) a' c' = ([], a', c') := by
       by_cases hlt : i < n
       · exact snL_stop b _ _ (fun h => hg ⟨hlt, h⟩)
       · rw [show n - i = 0 from by omega]; rfl
     rw [hE] at ht1 ht2
     simp only [List.append_nil] at ht1 ht2
     have hA1 : (snA b).1 = acc := by rw [hA, ← ht1]
     have hA2 : (snA b).2 = (a', c') := by rw [hA, ← ht2]
     rw [hA2] at hC
     rw [hA1] at hV
     simp only at hC
     have hend := rend_ok a b a' c' ha' (by omega)
     rw [← hC] at hend
     refine J_freezeS (Fr := [_]) (show Own 70 3 (snRows acc).flatten (snRows acc).length v L by rw [snRows_len]; exact how) (snRows_row acc) (by rw [snRows_len]; unfold maxRows; omega) ?_
     refine J_is (t := 6) (by simp only [go_sem]) (List.mem_cons_self ..) (J_drop ?_)
     by_cases hlt : i < n
     rotate_left
     have hd : decide ((i : Int) < (n : Int)) = false := decide_eq_false (by omega)
     refine jf hd (h := ?_)
     refine jk [4, 6, 21] (h := ?_)
     rotate_left
     have hd : decide ((i : Int) < (n : Int)) = true := decide_eq_true (by omega)
     have hd2 : decide (c' = 0) = false := decide_eq_false fun h => hg ⟨hlt, h⟩
     refine jf hd (h := ?_)
     refine jcr (hs := rcode_ok a b a' c') (hk := ?_)
     refine jf hd2 (h := ?_)
     refine jk [4, 6, 21] (h := ?_)
     all_goals
       refine jn (h := ?_)
       refine jr (h := ?_)
       refine jcs (Δ1 := [_]) (Fr := []) (hs := hend) (hp := (List.Perm.refl _)) (hk := ?_) (hpan := (by rintro x Δ' ⟨e, _⟩; cases e))
       rintro x _ ⟨e, rfl⟩
       cases e
       simp only [List.append_nil]
       refine jr (h := ?_)
       refine jif (h1 := fun hz => ?_) (h2 := fun hz => ?_)
       · rw [if_pos hz] at hV
         rw [hV]
         refine jr (h := ?_)
         refine jcr (hs := rat_ok a b a' (snC b)) (hk := ?_)
         refine jr (h := ?_)
         refine jc (hs := newS_ok _ _ _) (hk := ?_)
         refine jr (h := ?_)
         refine J_wk (t := 2) (y := .sl 3 (snRows [])) (by simp only [go_sem]) nil_le_sl ?_
         refine J_forget ?_
         refine jret Tryz.func7 (h := ⟨⟨_, rfl, errNew_is _ _ _⟩, rfl⟩)
       · rw [if_neg hz] at hV
         rw [hV]
         have h0 : snC b = 0 := by omega
         refine jr (h := ?_)
         refine J_forget ?_
         refine jret Tryz.func7 (h := ⟨⟨_, rfl, h0 ▸ IsErr.none⟩, rfl⟩)
end
section
attribute [local go_sem] packed List.set_cons_zero List.set_cons_succ List.cons_append List.nil_append bytesRows_length cellRows_len chRows_len rCells intRows_len
attribute [-go_sem] cellsOf AV.isCell
attribute [local go_sem] cellsOf_agg cellsOf_int cellsOf_bool cellsOf_str cellsOf_map cellsOf_ptr cellsOf_nilI cellsOf_slice cellsOf_sl cellsOf_ifc cellsOf_fp cellsOf_opt optAV_cell icell_int icell_bool icell_str icell_map icell_ptr icell_nilI icell_slice icell_sl icell_ifc icell_fp

end
section
attribute [local go_sem] packed List.set_cons_zero List.set_cons_succ List.cons_append List.nil_append bytesRows_length cellRows_len chRows_len rCells intRows_len
attribute [-go_sem] cellsOf AV.isCell
attribute [local go_sem] cellsOf_agg cellsOf_int cellsOf_bool cellsOf_str cellsOf_map cellsOf_ptr cellsOf_nilI cellsOf_slice cellsOf_sl cellsOf_ifc cellsOf_fp cellsOf_opt optAV_cell icell_int icell_bool icell_str icell_map icell_ptr icell_nilI icell_slice icell_sl icell_ifc icell_fp
theorem sn_fields : (Tryz.prog.fieldsOf 70).toList.map (fun f => (f.name, f.type, f.offset)) = [("Hash", 68, 0), ("Version", 3, 1), ("AsOf", 3, 2)] := by kernel_rfl
theorem sn_part0 (u v x : Value) (w : World) : (part 68 #[u, v, x] 0).run Tryz.prog w = .ok u w := by kernel_rfl
theorem sn_part1 (u v x : Value) (w : World) : (part 3 #[u, v, x] 1).run Tryz.prog w = .ok v w := by kernel_rfl
theorem sn_part2 (u v x : Value) (w : World) : (part 3 #[u, v, x] 2).run Tryz.prog w = .ok x w := by kernel_rfl
theorem sn_eq0 (d : Nat) (a b : Int) (w : World) : (Op.equalIn (d + 1) 68 (.int .u64 a) (.int .u64 b)).run Tryz.prog w = .ok (decide (a = b)) w := by simp [Op.equalIn, run_underlying Tryz.underlying68]; rfl
theorem sn_eq1 (d : Nat) (a b : Int) (w : World) : (Op.equalIn (d + 1) 3 (.int .i64 a) (.int .i64 b)).run Tryz.prog w = .ok (decide (a = b)) w := by simp [Op.equalIn, run_underlying Tryz.underlying3]; rfl
theorem sn_equal (a b c d u v : Int) (w : World) : (Op.equalIn 10000 70 (.agg #[.int .u64 a, .int .i64 c, .int .i64 u]) (.agg #[.int .u64 b, .int .i64 d, .int .i64 v])).run Tryz.prog w = .ok (decide (a = b ∧ c = d ∧ u = v)) w := by
 rw [run_equalIn_agg w 9999 70 _ _ Tryz.underlying70 Tryz.stoodInHeld70]
 have hf := sn_fields
 generalize (Tryz.prog.fieldsOf 70).toList = fs at hf
 rcases fs with _ | ⟨f1, _ | ⟨f2, _ | ⟨f3, _ | ⟨f4, r⟩⟩⟩⟩
 · simp at hf
 · simp at hf
 · simp at hf
 · simp only [List.map_cons, List.map_nil, List.cons.injEq, Prod.mk.injEq, and_true] at hf
   obtain ⟨⟨n1, t1, o1⟩, ⟨n2, t2, o2⟩, n3, t3, o3⟩ := hf
   by_cases h1 : a = b <;> by_cases h2 : c = d <;> by_cases h3 : u = v <;> simp [Op.eqFields, n1, t1, o1, n2, t2, o2, n3, t3, o3, h1, h2, h3, sn_part0, sn_part1, sn_part2, sn_eq0, sn_eq1, Result.andThen_ok, Sem.run_bind]
 · simp at hf
theorem neq_seen {o : Oper} {x y : Operand} {dT : TypeId} {a b c d u v : Int} {env : Env} {Δ : List HP} (hop : o.op = .binOp .neq 70 x y dT) (hx : env.eval x = some (.agg [.c (.int .u64 a), .c (.int .i64 c), .c (.int .i64 u)])) (hy : env.eval y = some (.agg [.c (.int .u64 b), .c (.int .i64 d), .c (.int .i64 v)])) :
   OpOK Tryz.prog env Δ o (fun r Δ' => r = .c (.bool (decide (¬ (a = b ∧ c = d ∧ u = v)))) ∧ Δ' = Δ) := by
 intro g B tmps sm hee
 have h1 := Env.eval_rel hee hx
 have h2 := Env.eval_rel hee hy
 simp only [rel, relL] at h1 h2
 obtain ⟨us, e1, _, _, rfl, rfl, _, _, rfl, rfl, _, _, rfl, rfl, rfl⟩ := h1
 obtain ⟨vs, e2, _, _, rfl, rfl, _, _, rfl, rfl, _, _, rfl, rfl, rfl⟩ := h2
 refine ⟨g, B, _, Δ, .value (.bool (decide (¬ (a = b ∧ c = d ∧ u = v)))), _, ?_, .inl rfl, .refl _ _, sm, rel_c, rfl, rfl⟩
 simp only [execOp, hop, e1, e2, Sem.run_bind, run_eqGuard_agg _ _ _ _ _ _ _ Tryz.eqGuardType70, Result.andThen_ok, run_neq_struct, sn_equal, Sem.run_pure]
 simp
theorem sn_eq_at {l m : SN} (hl : l.length = m.length) (h : ∀ i, i < l.length → l.getD i (0, 0, 0) = m.getD i (0, 0, 0)) : l = m := by
 apply List.ext_getElem hl
 intro i h1 h2
 have := h i h1
 rwa [List.getD_eq_getElem?_getD, List.getD_eq_getElem?_getD, List.getElem?_eq_getElem h1, List.getElem?_eq_getElem h2] at this
theorem same20_ok (a b : SN) (ha : a.length < 2 ^ 62) : ACalls Tryz.prog 9 [.sl 3 (snRows a), .sl 3 (snRows b)] [] (Ret (.c (.bool (decide (a = b))))) := by
 have hfa := snRows_len a
 have hfb := snRows_len b
 refine jen cl_9 Tryz.func9 (h := ?_)
 refine jf (cA hfa hfb) (h := ?_)
 refine jif (h1 := fun h2 => ?_) (h2 := fun h2 => ?_)
 · refine jr (h := ?_)
   refine jret Tryz.func9 (h := ⟨by rw [decide_eq_false (fun h => h2 (by rw [h]))], rfl⟩)
 · have hl : a.length = b.length := by omega
   refine jr (h := ?_)
   refine jk [0, 1, 5] (h := ?_)
   refine J_loopI (I := fun m e D => ∃ i : Nat, i ≤ a.length ∧ m = a.length - i ∧ D = [] ∧ (∀ j, j < i → a.getD j (0, 0, 0) = b.getD j (0, 0, 0)) ∧ e = [(0, .sl 3 (snRows a)), (1, .sl 3 (snRows b)), (5, .c (.int .i64 i))]) ?_ ?_
   · exact ⟨_, 0, by omega, rfl, rfl, fun j h => by omega, rfl⟩
   · rintro m e D ⟨i, hi, rfl, rfl, hj, rfl⟩ ih
     refine jf hfa (h := ?_)
     refine jif (h1 := fun hc => ?_) (h2 := fun hc => ?_)
     · have hlt : i < a.length := by omega
       have hga := snRows_get hlt
       have hgb := snRows_get (l := b) (i := i) (by omega)
       have h0 : (0 : Int) ≤ (i : Int) := by omega
       refine jr (h := ?_)
       refine jd [(0, .pure), (1, .pure), (2, .pure), (3, .read), (4, .pure), (5, .pure), (6, .pure), (7, .read), (8, .act)] mixed (by kernel_rfl) ?_
       refine cf (cC hga hgb hfa hfb) (hk := ?_)
       refine Can_op rfl gN (fun e' ha => neq_seen rfl (agree_eval rfl ha (by simp [Op.operands]) gR) (agree_eval rfl ha (by simp [Op.operands]) gR)) ?_
       rintro _ _ ⟨rfl, rfl⟩
       refine cr (hk := ?_)
       refine Can_nil ?_
       refine jif (h1 := fun h3 => ?_) (h2 := fun h3 => ?_)
       · refine jr (h := ?_)
         refine jret Tryz.func9 (h := ⟨by rw [decide_eq_false (fun h => h3 ⟨by rw [h], by rw [h], by rw [h]⟩)], rfl⟩)
       · have he : a.getD i (0, 0, 0) = b.getD i (0, 0, 0) := by
           have h4 := Classical.not_not.1 h3
           exact Prod.ext (by omega) (Prod.ext h4.2.1 h4.2.2)
         refine jr (h := ?_)
         refine jk [0, 1, 5] (h := ?_)
         refine ih (a.length - (i + 1)) _ _ (by omega) ⟨i + 1, by omega, rfl, rfl, ?_, rfl⟩
         intro j hjl
         by_cases hji : j = i
         · subst hji; exact he
         · exact hj j (by omega)
     · refine jr (h := ?_)
       refine jret Tryz.func9 (h := ⟨by rw [decide_eq_true (sn_eq_at hl fun j h => hj j (by omega))], rfl⟩)
def rightP (l : SN) : Prop := (∀ p ∈ l, (0 ≤ p.2.1 ∧ p.2.1 ≤ 1099511627776) ∧ 0 ≤ p.2.2 ∧ p.2.2 ≤ 1099511627776) ∧ l.length ≤ 80
instance (l : SN) : Decidable (rightP l) := inferInstanceAs (Decidable (_ ∧ _))
theorem right_ok (l : SN) (hl : l.length < 2 ^ 62) : ACalls Tryz.prog 13 [.sl 3 (snRows l)] [] (Ret (.c (.bool (decide (rightP l))))) := by
 have hfl := snRows_len l
 refine jen cl_13 Tryz.func13 (h := ?_)
 refine jr (h := ?_)
 refine jk [0, 3] (h := ?_)
 refine J_loopI (I := fun m e D => ∃ i : Nat, i ≤ l.length ∧ m = l.length - i ∧ D = [] ∧ (∀ p ∈ l.take i, (0 ≤ p.2.1 ∧ p.2.1 ≤ 1099511627776) ∧ 0 ≤ p.2.2 ∧ p.2.2 ≤ 1099511627776) ∧ e = [(0, .sl 3 (snRows l)), (3, .c (.int .i64 i))]) ?_ ?_
 · exact ⟨_, 0, by omega, rfl, rfl, by simp, rfl⟩
 · rintro m e D ⟨i, hi, rfl, rfl, hj, rfl⟩ ih
   refine jf hfl (h := ?_)
   refine jif (h1 := fun hc => ?_) (h2 := fun hc => ?_)
   · have hlt : i < l.length := by omega
     have hg := snRows_get hlt
     have h0 : (0 : Int) ≤ (i : Int) := by omega
     have hm : l.getD i (0, 0, 0) ∈ l := by rw [List.getD_eq_getElem?_getD, List.getElem?_eq_getElem hlt]; exact List.getElem_mem hlt
     have htk : l.take (i + 1) = l.take i ++ [l.getD i (0, 0, 0)] := by rw [List.take_succ_eq_append_getElem hlt, List.getD_eq_getElem?_getD, List.getElem?_eq_getElem hlt]; rfl
     generalize l.getD i (0, 0, 0) = q at *
     by_cases hr : (0 ≤ q.2.1 ∧ q.2.1 ≤ 1099511627776) ∧ 0 ≤ q.2.2 ∧ q.2.2 ≤ 1099511627776
     · have hd1 : decide (q.2.1 < 0) = false := decide_eq_false (by omega)
       have hd2 : decide (1099511627776 < q.2.1) = false := decide_eq_false (by omega)
       have hd3 : decide (q.2.2 < 0) = false := decide_eq_false (by omega)
       have hd4 : decide (1099511627776 < q.2.2) = false := decide_eq_false (by omega)
       refine jf (cD hg hfl hd1 hd2 (cA hd3 hd4)) (h := ?_)
       refine jn (h := ?_)
       refine jr (h := ?_)
       refine jk [0, 3] (h := ?_)
       refine ih (l.length - (i + 1)) _ _ (by omega) ⟨i + 1, by omega, rfl, rfl, ?_, rfl⟩
       intro p hp
       rw [htk, List.mem_append, List.mem_singleton] at hp
       rcases hp with hp | rfl
       · exact hj p hp
       · exact hr
     · have hbad : decide (rightP l) = false := decide_eq_false fun h => hr (h.1 _ hm)
       rw [hbad]
       have hsel : (decide (q.2.1 < 0) = true ∧ True ∧ True ∧ True) ∨ (decide (q.2.1 < 0) = false ∧ decide (1099511627776 < q.2.1) = true ∧ True ∧ True) ∨ (decide (q.2.1 < 0) = false ∧ decide (1099511627776 < q.2.1) = false ∧ decide (q.2.2 < 0) = true ∧ True) ∨
           (decide (q.2.1 < 0) = false ∧ decide (1099511627776 < q.2.1) = false ∧ decide (q.2.2 < 0) = false ∧ decide (1099511627776 < q.2.2) = true) := by
         simp only [decide_eq_true_eq, decide_eq_false_iff_not, and_true]; omega
       rcases hsel with ⟨hd1, hd2, hd3, hd4⟩ | ⟨hd1, hd2, hd3, hd4⟩ | ⟨hd1, hd2, hd3, hd4⟩ | ⟨hd1, hd2, hd3, hd4⟩
       all_goals
         refine jf (cD hg hfl hd1 hd2 (cA hd3 hd4)) (h := ?_)
         refine jt (h := ?_)
         refine jr (h := ?_)
         refine jret Tryz.func13 (h := ⟨rfl, rfl⟩)
   · have hi2 : i = l.length := by omega
     subst hi2
     rw [List.take_length] at hj
     refine jf hfl (h := ?_)
     refine J_retX Tryz.func13 (by simp only [go_sem, ↓reduceIte, Int.reduceLT, Int.reduceLE, Int.reduceToNat, Int.reducePow, Int.reduceNeg, Nat.reduceBEq, Tryz.f13] <;> first | with_reducible rfl | rfl) ⟨by
       refine congrArg AEnd.ret (congrArg AV.c (congrArg Value.bool (decide_eq_decide.2 ?_)))
       constructor
       · intro h; exact ⟨hj, by omega⟩
       · intro h; have := h.2; omega, rfl⟩
end
section
attribute [local go_sem] packed List.set_cons_zero List.set_cons_succ List.cons_append List.nil_append bytesRows_length cellRows_len chRows_len rCells intRows_len
attribute [-go_sem] cellsOf AV.isCell
attribute [local go_sem] cellsOf_agg cellsOf_int cellsOf_bool cellsOf_str cellsOf_map cellsOf_ptr cellsOf_nilI cellsOf_slice cellsOf_sl cellsOf_ifc cellsOf_fp cellsOf_opt optAV_cell icell_int icell_bool icell_str icell_map icell_ptr icell_nilI icell_slice icell_sl icell_ifc icell_fp
attribute [local go_sem] Entry.av Entry.cells rowsBytes_bytesRows Option.map_some
def fK (b : List UInt8) (at_ : Nat) (c : Int) : Int × Nat × List UInt8 := txtR b at_ c 40
def fV (b : List UInt8) (at_ : Nat) (c : Int) : Int × Nat × Nat := numR b (fK b at_ c).2.1 (fK b at_ c).1 1099511627776
def fA (b : List UInt8) (at_ : Nat) (c : Int) : Int × Nat × Nat := numR b (fV b at_ c).2.1 (fV b at_ c).1 1099511627776
def fE (b : List UInt8) (at_ : Nat) (c : Int) : Int × Nat × Nat := numR b (fA b at_ c).2.1 (fA b at_ c).1 1099511627776
def fW (b : List UInt8) (at_ : Nat) (c : Int) : Int × Nat × List UInt8 := txtR b (fE b at_ c).2.1 (fE b at_ c).1 4096
def fX (b : List UInt8) (at_ : Nat) (c : Int) : Entry := ⟨(fK b at_ c).2.2, (fV b at_ c).2.2, (fA b at_ c).2.2, (fE b at_ c).2.2, (fW b at_ c).2.2⟩
def fC (b : List UInt8) (at_ : Nat) (c : Int) : Int := if (fW b at_ c).1 = 0 then checkCode (fX b at_ c) else (fW b at_ c).1
theorem fK_at {b : List UInt8} {at_ : Nat} (c : Int) (h : at_ ≤ b.length) : (fK b at_ c).2.1 ≤ b.length := txtR_at b c 40 h
theorem fV_at {b : List UInt8} {at_ : Nat} (c : Int) (h : at_ ≤ b.length) : (fV b at_ c).2.1 ≤ b.length := numR_at b _ _ (fK_at c h)
theorem fA_at {b : List UInt8} {at_ : Nat} (c : Int) (h : at_ ≤ b.length) : (fA b at_ c).2.1 ≤ b.length := numR_at b _ _ (fV_at c h)
theorem fE_at {b : List UInt8} {at_ : Nat} (c : Int) (h : at_ ≤ b.length) : (fE b at_ c).2.1 ≤ b.length := numR_at b _ _ (fA_at c h)
theorem fW_at {b : List UInt8} {at_ : Nat} (c : Int) (h : at_ ≤ b.length) : (fW b at_ c).2.1 ≤ b.length := txtR_at b _ _ (fE_at c h)
end
section
theorem getD_at {pre r : List UInt8} {x : UInt8} {p : Nat} (hp : pre.length = p) : (pre ++ x :: r).getD p 0 = x := by
 subst hp; rw [List.getD_eq_getElem?_getD, List.getElem?_append_right (Nat.le_refl _)]; simp
theorem scan_hi (most at_ : Nat) (pre : List UInt8) (hpre : pre.length = at_) : ∀ (q : Nat), q ≤ most / 128 → ∀ (rest b : List UInt8), b = pre ++ (hi7 q ++ rest) →
   scanN b at_ most (b.length - at_) at_ 0 = scanN b at_ most (b.length - (at_ + (hi7 q).length)) (at_ + (hi7 q).length) q := by
 intro q
 induction q using Nat.strongRecOn with
 | ind q ih =>
   intro hq rest b hb
   by_cases h0 : q = 0
   · subst h0; simp [hi7_zero]
   · have hsn := hi7_pos h0
     have hb' : b = pre ++ (hi7 (q / 128) ++ (UInt8.ofNat (q % 128 + 128) :: rest)) := by rw [hb, hsn]; simp
     rw [ih (q / 128) (by omega) (by omega) _ b hb']
     have hlen : (hi7 q).length = (hi7 (q / 128)).length + 1 := by rw [hsn]; simp
     have hbl : b.length = at_ + (hi7 (q / 128)).length + 1 + rest.length := by rw [hb', ← hpre]; simp; omega
     have hk : b.length - (at_ + (hi7 (q / 128)).length) = (b.length - (at_ + (hi7 q).length)) + 1 := by omega
     rw [hk]
     have hg : b.getD (at_ + (hi7 (q / 128)).length) 0 = UInt8.ofNat (q % 128 + 128) := by
       rw [hb', ← List.append_assoc]; exact getD_at (by rw [List.length_append, hpre])
     have hd : (UInt8.ofNat (q % 128 + 128)).toNat = q % 128 + 128 := by rw [UInt8.toNat_ofNat']; omega
     have hz : q / 128 = 0 → (hi7 (q / 128)).length = 0 := fun h => by rw [h, hi7_zero]; rfl
     have hz2 : q / 128 ≠ 0 → 0 < (hi7 (q / 128)).length := fun h => by rw [hi7_pos h]; simp
     simp only [scanN, hg, hd]
     rw [if_neg (fun h => by
       by_cases hq1 : q / 128 = 0
       · omega
       · have := hz2 hq1; omega), if_neg (by omega), if_pos (by omega)]
     rw [hlen]
     have e1 : q / 128 * 128 + (q % 128 + 128) % 128 = q := by omega
     rw [e1]; rfl
theorem numR_num {most at_ n : Nat} {pre rest b : List UInt8} (hpre : pre.length = at_) (hn : n ≤ most) (hb : b = pre ++ (numB n ++ rest)) : numR b at_ 0 most = (0, at_ + (numB n).length, n) := by
 unfold numR
 rw [if_neg (by simp)]
 have hb' : b = pre ++ (hi7 (n / 128) ++ (UInt8.ofNat (n % 128) :: rest)) := by rw [hb, numB]; simp
 rw [scan_hi most at_ pre hpre (n / 128) (by omega) _ b hb']
 have hbl : b.length = at_ + (hi7 (n / 128)).length + 1 + rest.length := by rw [hb', ← hpre]; simp; omega
 have hk : b.length - (at_ + (hi7 (n / 128)).length) = rest.length + 1 := by omega
 have hg : b.getD (at_ + (hi7 (n / 128)).length) 0 = UInt8.ofNat (n % 128) := by
   rw [hb', ← List.append_assoc]; exact getD_at (by rw [List.length_append, hpre])
 have hd : (UInt8.ofNat (n % 128)).toNat = n % 128 := by rw [UInt8.toNat_ofNat']; omega
 rw [hk]
 simp only [scanN, hg, hd]
 rw [if_neg (by omega), if_neg (by omega), if_neg (by omega), if_neg (by omega)]
 have e1 : n / 128 * 128 + n % 128 = n := by omega
 have e2 : (numB n).length = (hi7 (n / 128)).length + 1 := by unfold numB; simp
 rw [e1, e2]; rfl
theorem eightR_word {at_ h : Nat} {pre rest b : List UInt8} (hpre : pre.length = at_) (hh : h < 2 ^ 64) (hb : b = pre ++ (word8 h ++ rest)) : eightR b at_ 0 = (0, at_ + 8, h) := by
 have hw : (word8 h).length = 8 := rfl
 have hl : at_ + 8 ≤ b.length := by rw [hb, ← hpre]; simp only [List.length_append, hw]; omega
 unfold eightR
 rw [if_neg (by simp), if_neg (by omega)]
 have : (b.drop at_).take 8 = word8 h := by
   rw [hb, ← hpre, List.drop_left, ← hw, List.take_left]
 rw [this, be8_word h hh]
end
section
attribute [local go_sem] packed List.set_cons_zero List.set_cons_succ List.cons_append List.nil_append bytesRows_length cellRows_len chRows_len rCells intRows_len
attribute [-go_sem] cellsOf AV.isCell
attribute [local go_sem] cellsOf_agg cellsOf_int cellsOf_bool cellsOf_str cellsOf_map cellsOf_ptr cellsOf_nilI cellsOf_slice cellsOf_sl cellsOf_ifc cellsOf_fp cellsOf_opt optAV_cell icell_int icell_bool icell_str icell_map icell_ptr icell_nilI icell_slice icell_sl icell_ifc icell_fp
attribute [local go_sem] Entry.av Entry.cells rowsBytes_bytesRows Option.map_some
theorem scanN_adv (b : List UInt8) (at_ most : Nat) : ∀ (k p n : Nat), (scanN b at_ most k p n).1 = 0 → p < (scanN b at_ most k p n).2.1
 | 0, p, n, h => by simp [scanN] at h
 | k + 1, p, n, h => by
   simp only [scanN] at h ⊢
   split
   · rename_i h1; rw [if_pos h1] at h; simp at h
   · rename_i h1; rw [if_neg h1] at h
     split
     · rename_i h2; rw [if_pos h2] at h; simp at h
     · rename_i h2; rw [if_neg h2] at h
       split
       · rename_i h3; rw [if_pos h3] at h
         have := scanN_adv b at_ most k _ _ h
         omega
       · rename_i h3; rw [if_neg h3] at h
         split
         · rename_i h4; rw [if_pos h4] at h; simp at h
         · simp
theorem numR_ok0 {b : List UInt8} {at_ : Nat} {c : Int} {most : Nat} (h : (numR b at_ c most).1 = 0) : c = 0 ∧ at_ < (numR b at_ c most).2.1 := by
 unfold numR at h ⊢
 by_cases hc : c ≠ 0
 · rw [if_pos hc] at h; exact absurd h hc
 · rw [if_neg hc] at h ⊢
   exact ⟨Classical.not_not.1 hc, scanN_adv _ _ _ _ _ _ h⟩
theorem txtR_ok0 {b : List UInt8} {at_ : Nat} {c : Int} {most : Nat} (h : (txtR b at_ c most).1 = 0) : c = 0 ∧ at_ < (txtR b at_ c most).2.1 := by
 unfold txtR at h ⊢
 by_cases h1 : (numR b at_ c most).1 ≠ 0
 · rw [if_pos h1] at h; exact absurd h h1
 · rw [if_neg h1] at h ⊢
   obtain ⟨k1, k2⟩ := numR_ok0 (Classical.not_not.1 h1)
   split
   · rename_i h2; rw [if_pos h2] at h; simp at h
   · exact ⟨k1, by simp only; omega⟩
theorem fC_zero {b : List UInt8} {at_ : Nat} {c : Int} (hc : fC b at_ c = 0) : at_ < (fW b at_ c).2.1 ∧ EntW (fX b at_ c) ∧ c = 0 := by
 unfold fC at hc
 by_cases hw : (fW b at_ c).1 = 0
 · rw [if_pos hw] at hc
   obtain ⟨e1, p1⟩ := txtR_ok0 (show (txtR b (fE b at_ c).2.1 (fE b at_ c).1 4096).1 = 0 from hw)
   obtain ⟨e2, p2⟩ := numR_ok0 (show (numR b (fA b at_ c).2.1 (fA b at_ c).1 1099511627776).1 = 0 from e1)
   obtain ⟨e3, p3⟩ := numR_ok0 (show (numR b (fV b at_ c).2.1 (fV b at_ c).1 1099511627776).1 = 0 from e2)
   obtain ⟨e4, p4⟩ := numR_ok0 (show (numR b (fK b at_ c).2.1 (fK b at_ c).1 1099511627776).1 = 0 from e3)
   obtain ⟨e5, p5⟩ := txtR_ok0 (show (txtR b at_ c 40).1 = 0 from e4)
   refine ⟨?_, (entW_iff _).1 hc, e5⟩
   have q1 : (fE b at_ c).2.1 < (fW b at_ c).2.1 := p1
   have q2 : (fA b at_ c).2.1 < (fE b at_ c).2.1 := p2
   have q3 : (fV b at_ c).2.1 < (fA b at_ c).2.1 := p3
   have q4 : (fK b at_ c).2.1 < (fV b at_ c).2.1 := p4
   have q5 : at_ < (fK b at_ c).2.1 := p5
   omega
 · rw [if_neg hw] at hc; exact absurd hc hw
theorem txt_back {most at_ : Nat} {t pre rest b : List UInt8} (hpre : pre.length = at_) (ht : t.length ≤ most) (hb : b = pre ++ (numB t.length ++ (t ++ rest))) : txtR b at_ 0 most = (0, at_ + (numB t.length).length + t.length, t) := by
 have hn := numR_num (most := most) hpre ht hb
 unfold txtR
 rw [hn]
 simp only [ne_eq, not_true_eq_false, if_false]
 have hl : b.length = at_ + ((numB t.length).length + (t.length + rest.length)) := by rw [hb, ← hpre]; simp only [List.length_append]
 rw [if_neg (by omega)]
 have hd : b.drop (at_ + (numB t.length).length) = t ++ rest := by
   rw [hb, ← List.append_assoc, List.drop_left' (by rw [List.length_append, hpre])]
 rw [hd, List.take_left' rfl]
theorem from_back {x : Entry} {at_ : Nat} {pre rest b : List UInt8} (h : EntW x) (hpre : pre.length = at_) (hb : b = pre ++ (entB x ++ rest)) :
   fC b at_ 0 = 0 ∧ (fW b at_ 0).2.1 = at_ + (entB x).length ∧ fX b at_ 0 = x := by
 have q1 := h.v1; have q2 := h.a1; have q3 := h.a2'; have q4 := h.e1; have q5 := h.e2
 have hk : fK b at_ 0 = (0, at_ + (numB x.key.length).length + x.key.length, x.key) := by
   refine txt_back (rest := numsB [x.ver.toNat, x.asof.toNat, x.ends.toNat] ++ (numB x.val.length ++ x.val) ++ rest) hpre h.k2 ?_
   rw [hb]; unfold entB; simp only [List.append_assoc]
 have hv : fV b at_ 0 = (0, at_ + (numB x.key.length).length + x.key.length + (numB x.ver.toNat).length, x.ver.toNat) := by
   unfold fV; rw [hk]
   refine numR_num (pre := pre ++ numB x.key.length ++ x.key) (rest := numB x.asof.toNat ++ (numB x.ends.toNat ++ ((numB x.val.length ++ x.val) ++ rest))) (by simp only [List.length_append, hpre]) (by omega) ?_
   rw [hb]; unfold entB numsB; simp only [List.append_assoc, List.flatMap_cons, List.flatMap_nil, List.nil_append]
 have ha : fA b at_ 0 = (0, at_ + (numB x.key.length).length + x.key.length + (numB x.ver.toNat).length + (numB x.asof.toNat).length, x.asof.toNat) := by
   unfold fA; rw [hv]
   refine numR_num (pre := pre ++ numB x.key.length ++ x.key ++ numB x.ver.toNat) (rest := numB x.ends.toNat ++ ((numB x.val.length ++ x.val) ++ rest)) (by simp only [List.length_append, hpre]) (by omega) ?_
   rw [hb]; unfold entB numsB; simp only [List.append_assoc, List.flatMap_cons, List.flatMap_nil, List.nil_append]
 have he : fE b at_ 0 = (0, at_ + (numB x.key.length).length + x.key.length + (numB x.ver.toNat).length + (numB x.asof.toNat).length + (numB x.ends.toNat).length, x.ends.toNat) := by
   unfold fE; rw [ha]
   refine numR_num (pre := pre ++ numB x.key.length ++ x.key ++ numB x.ver.toNat ++ numB x.asof.toNat) (rest := (numB x.val.length ++ x.val) ++ rest) (by simp only [List.length_append, hpre]) (by omega) ?_
   rw [hb]; unfold entB numsB; simp only [List.append_assoc, List.flatMap_cons, List.flatMap_nil, List.nil_append]
 have hw : fW b at_ 0 = (0, at_ + (numB x.key.length).length + x.key.length + (numB x.ver.toNat).length + (numB x.asof.toNat).length + (numB x.ends.toNat).length + (numB x.val.length).length + x.val.length, x.val) := by
   unfold fW; rw [he]
   refine txt_back (pre := pre ++ numB x.key.length ++ x.key ++ numB x.ver.toNat ++ numB x.asof.toNat ++ numB x.ends.toNat) (rest := rest) (by simp only [List.length_append, hpre]) h.b ?_
   rw [hb]; unfold entB numsB; simp only [List.append_assoc, List.flatMap_cons, List.flatMap_nil, List.nil_append]
 have hx : fX b at_ 0 = x := by
   unfold fX; rw [hk, hv, ha, he, hw]
   simp only [Int.toNat_of_nonneg (show 0 ≤ x.ver by omega), Int.toNat_of_nonneg (show 0 ≤ x.asof by omega), Int.toNat_of_nonneg (show 0 ≤ x.ends by omega)]
 refine ⟨by unfold fC; rw [hw, hx, if_pos rfl]; exact (entW_iff x).2 h, ?_, hx⟩
 rw [hw]
 unfold entB numsB
 simp only [List.length_append, List.flatMap_cons, List.flatMap_nil, List.length_nil]
 omega
def readA (b : List UInt8) : Nat → Nat → List Entry → Int × List Entry
 | 0, _, acc => (0, acc)
 | k + 1, at_, acc => if b.length ≤ at_ then (0, acc) else if fC b at_ 0 ≠ 0 then (fC b at_ 0, []) else readA b k (fW b at_ 0).2.1 (acc ++ [fX b at_ 0])
def readE (b : List UInt8) : Int × List Entry := readA b (b.length + 1) 0 []
theorem readA_spec (b : List UInt8) : ∀ (k at_ : Nat) (acc : List Entry), (∀ x ∈ acc, EntW x) → acc.length ≤ at_ → at_ ≤ b.length → (∀ x ∈ (readA b k at_ acc).2, EntW x) ∧ (readA b k at_ acc).2.length ≤ b.length
 | 0, at_, acc, h, h1, h2 => ⟨h, by show acc.length ≤ _; omega⟩
 | k + 1, at_, acc, h, h1, h2 => by
   unfold readA
   by_cases h3 : b.length ≤ at_
   · rw [if_pos h3]; exact ⟨h, by show acc.length ≤ _; omega⟩
   · rw [if_neg h3]
     by_cases h4 : fC b at_ 0 ≠ 0
     · rw [if_pos h4]; exact ⟨by simp, Nat.zero_le _⟩
     · rw [if_neg h4]
       obtain ⟨k1, k2, -⟩ := fC_zero (Classical.not_not.1 h4)
       refine readA_spec b k _ _ (fun x hx => ?_) (by rw [List.length_append, List.length_singleton]; omega) (fW_at 0 (by omega))
       rcases List.mem_append.1 hx with hx | hx
       · exact h x hx
       · rw [List.mem_singleton.1 hx]; exact k2
theorem readE_w (b : List UInt8) : (∀ x ∈ (readE b).2, EntW x) ∧ (readE b).2.length ≤ b.length := readA_spec b _ _ _ (by simp) (Nat.le_refl _) (Nat.zero_le _)
theorem readA_back : ∀ (l : List Entry) (b pre : List UInt8) (k at_ : Nat) (acc : List Entry), (∀ x ∈ l, EntW x) → pre.length = at_ → b = pre ++ allB l → l.length < k → readA b k at_ acc = (0, acc ++ l)
 | [], b, pre, k + 1, at_, acc, _, hp, hb, _ => by
   unfold readA
   rw [if_pos (by rw [hb, ← hp]; simp [allB])]; simp
 | x :: l, b, pre, k + 1, at_, acc, h, hp, hb, hk => by
   have hb2 : b = pre ++ (entB x ++ allB l) := by rw [hb]; simp [allB]
   obtain ⟨e1, e2, e3⟩ := from_back (h x (by simp)) hp hb2
   have hpos : 0 < (entB x).length := by
     have := (h x (by simp)).k1
     unfold entB; simp only [List.length_append]; omega
   unfold readA
   rw [if_neg (by rw [hb2, ← hp]; simp only [List.length_append]; omega), e1, if_neg (by simp), e2, e3]
   have := readA_back l b (pre ++ entB x) k (at_ + (entB x).length) (acc ++ [x]) (fun y hy => h y (by simp [hy])) (by rw [List.length_append, hp]) (by rw [hb2, List.append_assoc]) (by simp at hk; omega)
   rw [this]; simp
theorem readE_back {l : List Entry} (h : ∀ x ∈ l, EntW x) : readE (allB l) = (0, l) := by
 unfold readE
 have hl : l.length ≤ (allB l).length := by
   clear h
   induction l with
   | nil => exact Nat.zero_le _
   | cons x l ih =>
     have e : allB (x :: l) = entB x ++ allB l := by simp [allB]
     have hpos : 1 ≤ (entB x).length := by
       unfold entB numB; simp only [List.length_append, List.length_singleton]; omega
     rw [e, List.length_append, List.length_cons]; omega
 have := readA_back l (allB l) [] ((allB l).length + 1) 0 [] h rfl rfl (by omega)
 rw [this, List.nil_append]
end
section
attribute [local go_sem] packed List.set_cons_zero List.set_cons_succ List.cons_append List.nil_append bytesRows_length cellRows_len chRows_len rCells intRows_len
attribute [-go_sem] cellsOf AV.isCell
attribute [local go_sem] cellsOf_agg cellsOf_int cellsOf_bool cellsOf_str cellsOf_map cellsOf_ptr cellsOf_nilI cellsOf_slice cellsOf_sl cellsOf_ifc cellsOf_fp cellsOf_opt optAV_cell icell_int icell_bool icell_str icell_map icell_ptr icell_nilI icell_slice icell_sl icell_ifc icell_fp
attribute [local go_sem] Entry.av Entry.cells rowsBytes_bytesRows Option.map_some
def uniqE (l : List Entry) : Bool := decide (l.map (·.key)).Nodup
def bktR (b : List UInt8) : Int × List Entry := if (readE b).1 ≠ 0 then ((readE b).1, []) else if uniqE (readE b).2 then (0, (readE b).2) else (13, [])
end
section
attribute [local go_sem] packed List.set_cons_zero List.set_cons_succ List.cons_append List.nil_append bytesRows_length cellRows_len chRows_len rCells intRows_len
attribute [-go_sem] cellsOf AV.isCell
attribute [local go_sem] cellsOf_agg cellsOf_int cellsOf_bool cellsOf_str cellsOf_map cellsOf_ptr cellsOf_nilI cellsOf_slice cellsOf_sl cellsOf_ifc cellsOf_fp cellsOf_opt optAV_cell icell_int icell_bool icell_str icell_map icell_ptr icell_nilI icell_slice icell_sl icell_ifc icell_fp
attribute [local go_sem] Entry.av Entry.cells rowsBytes_bytesRows Option.map_some
def rmE (l : List Entry) (k : List UInt8) : List Entry := match findE l k with | some i => l.eraseIdx i | none => l
theorem rmE_len (l : List Entry) (k : List UInt8) : (rmE l k).length ≤ l.length := by
 unfold rmE
 split
 · exact List.length_eraseIdx_le _ _
 · exact Nat.le_refl _
theorem rmE_mem {l : List Entry} {k : List UInt8} {x : Entry} (h : x ∈ rmE l k) : x ∈ l := by
 unfold rmE at h
 split at h
 · exact List.mem_of_mem_eraseIdx h
 · exact h
end
section
attribute [local go_sem] packed List.set_cons_zero List.set_cons_succ List.cons_append List.nil_append bytesRows_length cellRows_len chRows_len rCells intRows_len
attribute [-go_sem] cellsOf AV.isCell
attribute [local go_sem] cellsOf_agg cellsOf_int cellsOf_bool cellsOf_str cellsOf_map cellsOf_ptr cellsOf_nilI cellsOf_slice cellsOf_sl cellsOf_ifc cellsOf_fp cellsOf_opt optAV_cell icell_int icell_bool icell_str icell_map icell_ptr icell_nilI icell_slice icell_sl icell_ifc icell_fp
attribute [local go_sem] Entry.av Entry.cells rowsBytes_bytesRows Option.map_some
def insK : List Entry → Nat
 | [] => 0
 | x :: l => if 233 < (allB (x :: l)).length then insK l + 1 else 0
def insE (l : List Entry) (x : Entry) : Int × List Entry × List Entry :=
 if checkCode x ≠ 0 then (checkCode x, [], []) else if 233 < (entB x).length then (3, [], [])
 else (0, (rmE l x.key ++ [x]).drop (insK (rmE l x.key ++ [x])), (rmE l x.key ++ [x]).take (insK (rmE l x.key ++ [x])))
theorem rm_but : ∀ {l : List Entry} (k : List UInt8), uniqE l = true → rmE l k = but l k
 | [], k, _ => rfl
 | x :: l, k, hu => by
   have hu2 : uniqE l = true := by
     unfold uniqE at *
     rw [decide_eq_true_eq] at *
     rw [List.map_cons, List.nodup_cons] at hu
     exact hu.2
   have ih := rm_but k hu2
   by_cases hk : x.key = k
   · have e1 : findE (x :: l) k = some 0 := by
       unfold findE; rw [List.findIdx?_cons]; simp [hk]
     have e2 : but l k = l := by
       unfold but
       rw [List.filter_eq_self]
       intro y hy
       unfold uniqE at hu
       rw [decide_eq_true_eq, List.map_cons, List.nodup_cons] at hu
       simp only [decide_eq_true_eq]
       rintro rfl
       exact hu.1 (List.mem_map.2 ⟨y, hy, hk.symm⟩)
     unfold rmE
     rw [e1]
     show l = but (x :: l) k
     unfold but at *
     rw [List.filter_cons_of_neg (by simp [hk])]
     exact e2.symm
   · have e1 : findE (x :: l) k = (findE l k).map (· + 1) := by
       unfold findE; rw [List.findIdx?_cons]; simp [hk]
     have e2 : but (x :: l) k = x :: but l k := by
       unfold but; rw [List.filter_cons_of_pos (by simp [hk])]
     rw [e2, ← ih]
     unfold rmE
     rw [e1]
     cases findE l k with
     | none => rfl
     | some i => rfl
end
section
attribute [local go_sem] packed List.set_cons_zero List.set_cons_succ List.cons_append List.nil_append bytesRows_length cellRows_len chRows_len rCells intRows_len
attribute [-go_sem] cellsOf AV.isCell
attribute [local go_sem] cellsOf_agg cellsOf_int cellsOf_bool cellsOf_str cellsOf_map cellsOf_ptr cellsOf_nilI cellsOf_slice cellsOf_sl cellsOf_ifc cellsOf_fp cellsOf_opt optAV_cell icell_int icell_bool icell_str icell_map icell_ptr icell_nilI icell_slice icell_sl icell_ifc icell_fp
attribute [local go_sem] Entry.av Entry.cells rowsBytes_bytesRows Option.map_some Int.cast_ofNat_Int
def plN (h : Int) : List Nat := [(h % 128).toNat, (h / 2097152 % 128).toNat, (h / 4398046511104 % 128).toNat]
abbrev BF := Nat × Nat
def setP (f : BF) (p : Nat) : BF := if p < 64 then (f.1 ||| 2 ^ (p % 64), f.2) else (f.1, f.2 ||| 2 ^ (p % 64))
def hasP (f : BF) (p : Nat) : Bool := if p < 64 then f.1.testBit (p % 64) else f.2.testBit (p % 64)
def BFok (f : BF) : Prop := f.1 < 2 ^ 64 ∧ f.2 < 2 ^ 64
theorem setP_ok {f : BF} (h : BFok f) (p : Nat) : BFok (setP f p) := by
 have hp : 2 ^ (p % 64) < 2 ^ 64 := Nat.pow_lt_pow_right (by omega) (Nat.mod_lt _ (by decide))
 unfold setP
 split
 · exact ⟨Nat.or_lt_two_pow h.1 hp, h.2⟩
 · exact ⟨h.1, Nat.or_lt_two_pow h.2 hp⟩
def addF (f : BF) (h : Int) : BF := (plN h).foldl setP f
def mayF (f : BF) (h : Int) : Bool := (plN h).all (hasP f)
theorem addF_ok {f : BF} (hf : BFok f) (h : Int) : BFok (addF f h) := setP_ok (setP_ok (setP_ok hf _) _) _
def ofF (ks : List (List UInt8)) : BF := ks.foldl (fun f k => addF f (hash64 k)) (0, 0)
end
section
attribute [local go_sem] packed List.set_cons_zero List.set_cons_succ List.cons_append List.nil_append bytesRows_length cellRows_len chRows_len rCells intRows_len
attribute [-go_sem] cellsOf AV.isCell
attribute [local go_sem] cellsOf_agg cellsOf_int cellsOf_bool cellsOf_str cellsOf_map cellsOf_ptr cellsOf_nilI cellsOf_slice cellsOf_sl cellsOf_ifc cellsOf_fp cellsOf_opt optAV_cell icell_int icell_bool icell_str icell_map icell_ptr icell_nilI icell_slice icell_sl icell_ifc icell_fp
attribute [local go_sem] Entry.av Entry.cells rowsBytes_bytesRows Option.map_some Int.cast_ofNat_Int
theorem ofF_ok (ks : List (List UInt8)) : BFok (ofF ks) := by
 have : ∀ (l : List (List UInt8)) (f : BF), BFok f → BFok (l.foldl (fun f k => addF f (hash64 k)) f) := fun l => by
   induction l with
   | nil => exact fun f h => h
   | cons k l ih => exact fun f h => ih _ (addF_ok h _)
 exact this ks (0, 0) ⟨by decide, by decide⟩
def keysE (l : List Entry) : List (List UInt8) := l.map (·.key)
end
section
attribute [local go_sem] packed List.set_cons_zero List.set_cons_succ List.cons_append List.nil_append bytesRows_length cellRows_len chRows_len rCells intRows_len
attribute [-go_sem] cellsOf AV.isCell
attribute [local go_sem] cellsOf_agg cellsOf_int cellsOf_bool cellsOf_str cellsOf_map cellsOf_ptr cellsOf_nilI cellsOf_slice cellsOf_sl cellsOf_ifc cellsOf_fp cellsOf_opt optAV_cell icell_int icell_bool icell_str icell_map icell_ptr icell_nilI icell_slice icell_sl icell_ifc icell_fp
attribute [local go_sem] Entry.av Entry.cells rowsBytes_bytesRows Option.map_some Int.cast_ofNat_Int

end
section
attribute [local go_sem] packed List.set_cons_zero List.set_cons_succ List.cons_append List.nil_append bytesRows_length cellRows_len chRows_len rCells intRows_len
attribute [-go_sem] cellsOf AV.isCell
attribute [local go_sem] cellsOf_agg cellsOf_int cellsOf_bool cellsOf_str cellsOf_map cellsOf_ptr cellsOf_nilI cellsOf_slice cellsOf_sl cellsOf_ifc cellsOf_fp cellsOf_opt optAV_cell icell_int icell_bool icell_str icell_map icell_ptr icell_nilI icell_slice icell_sl icell_ifc icell_fp
attribute [local go_sem] Entry.av Entry.cells rowsBytes_bytesRows Option.map_some Int.cast_ofNat_Int getBox_GL setBox_GL fresh_GL
def pgE (s : Fl) (at_ : Int) : List Entry := if tgetC s at_ 1 ≠ 0 then [] else (bktR (txtB (lookB s at_))).2
end
section
attribute [local go_sem] packed List.set_cons_zero List.set_cons_succ List.cons_append List.nil_append bytesRows_length cellRows_len chRows_len rCells intRows_len
attribute [-go_sem] cellsOf AV.isCell
attribute [local go_sem] cellsOf_agg cellsOf_int cellsOf_bool cellsOf_str cellsOf_map cellsOf_ptr cellsOf_nilI cellsOf_slice cellsOf_sl cellsOf_ifc cellsOf_fp cellsOf_opt optAV_cell icell_int icell_bool icell_str icell_map icell_ptr icell_nilI icell_slice icell_sl icell_ifc icell_fp
attribute [local go_sem] Entry.av Entry.cells rowsBytes_bytesRows Option.map_some Int.cast_ofNat_Int getBox_GL setBox_GL fresh_GL

end
section
attribute [local go_sem] packed List.set_cons_zero List.set_cons_succ List.cons_append List.nil_append bytesRows_length cellRows_len chRows_len rCells intRows_len
attribute [-go_sem] cellsOf AV.isCell
attribute [local go_sem] cellsOf_agg cellsOf_int cellsOf_bool cellsOf_str cellsOf_map cellsOf_ptr cellsOf_nilI cellsOf_slice cellsOf_sl cellsOf_ifc cellsOf_fp cellsOf_opt optAV_cell icell_int icell_bool icell_str icell_map icell_ptr icell_nilI icell_slice icell_sl icell_ifc icell_fp
attribute [local go_sem] Entry.av Entry.cells rowsBytes_bytesRows Option.map_some Int.cast_ofNat_Int getBox_GL setBox_GL fresh_GL
def slotE (h : Int) (n : Nat) : Nat := h.toNat % n
theorem slotE_lt {h : Int} {n : Nat} (hn : 0 < n) : slotE h n < n := Nat.mod_lt _ hn
end
section
attribute [local go_sem] packed List.set_cons_zero List.set_cons_succ List.cons_append List.nil_append bytesRows_length cellRows_len chRows_len rCells intRows_len
attribute [-go_sem] cellsOf AV.isCell
attribute [local go_sem] cellsOf_agg cellsOf_int cellsOf_bool cellsOf_str cellsOf_map cellsOf_ptr cellsOf_nilI cellsOf_slice cellsOf_sl cellsOf_ifc cellsOf_fp cellsOf_opt optAV_cell icell_int icell_bool icell_str icell_map icell_ptr icell_nilI icell_slice icell_sl icell_ifc icell_fp
attribute [local go_sem] Entry.av Entry.cells rowsBytes_bytesRows Option.map_some Int.cast_ofNat_Int getBox_GL setBox_GL fresh_GL
theorem txt_le {s : Fl} (hw : s.WF) (at_ : Int) : (txtB (lookB s at_)).length ≤ 256 := by
 have := look_len hw at_
 unfold txtB; rw [List.length_take, List.length_drop]; omega
theorem bktR_w (b : List UInt8) : (∀ x ∈ (bktR b).2, EntW x) ∧ (bktR b).2.length ≤ b.length ∧ uniqE (bktR b).2 = true := by
 have h := readE_w b
 unfold bktR
 split
 · exact ⟨by simp, by simp, rfl⟩
 · split
   · rename_i hu; exact ⟨h.1, h.2, hu⟩
   · exact ⟨by simp, by simp, rfl⟩
theorem pgE_w {s : Fl} (hw : s.WF) (at_ : Int) : (∀ x ∈ pgE s at_, EntW x) ∧ (pgE s at_).length ≤ 256 ∧ uniqE (pgE s at_) = true := by
 unfold pgE
 split
 · exact ⟨by simp, by simp, rfl⟩
 · have h := bktR_w (txtB (lookB s at_)); have := txt_le hw at_
   exact ⟨h.1, by omega, h.2.2⟩
def wrS (s : Fl) (n : Int) (base : Int) (i : Nat) (l : List Entry) (fs : List BF) : Int × Fl × Int × List BF :=
 (tfirmC s n (base + i) 1 (allB l), tfirmS s n (base + i) 1 (allB l), tputN s n (base + i) 1 (allB l), if tfirmC s n (base + i) 1 (allB l) = 0 then fs.set i (ofF (keysE l)) else fs)
def rmS (s : Fl) (n : Int) (base : Int) (i : Nat) (k : List UInt8) (fs : List BF) : Bool × Int × Fl × Int × List BF :=
 if s.down = true then (false, 11, s, n, fs) else if findI (pgE s (base + i)) k < 0 then (false, 0, s, n, fs)
 else (decide ((wrS s n base i (rmE (pgE s (base + i)) k) fs).1 = 0), wrS s n base i (rmE (pgE s (base + i)) k) fs)
end
section
attribute [local go_sem] packed List.set_cons_zero List.set_cons_succ List.cons_append List.nil_append bytesRows_length cellRows_len chRows_len rCells intRows_len
attribute [-go_sem] cellsOf AV.isCell
attribute [local go_sem] cellsOf_agg cellsOf_int cellsOf_bool cellsOf_str cellsOf_map cellsOf_ptr cellsOf_nilI cellsOf_slice cellsOf_sl cellsOf_ifc cellsOf_fp cellsOf_opt optAV_cell icell_int icell_bool icell_str icell_map icell_ptr icell_nilI icell_slice icell_sl icell_ifc icell_fp
attribute [local go_sem] Entry.av Entry.cells rowsBytes_bytesRows Option.map_some Int.cast_ofNat_Int getBox_GL setBox_GL fresh_GL
def setS (s : Fl) (n : Int) (base : Int) (i : Nat) (x : Entry) (fs : List BF) : List Entry × Int × Fl × Int × List BF :=
 if s.down = true then ([], 11, s, n, fs) else if (insE (pgE s (base + i)) x).1 ≠ 0 then ([], (insE (pgE s (base + i)) x).1, s, n, fs)
 else (if (wrS s n base i (insE (pgE s (base + i)) x).2.1 fs).1 = 0 then (insE (pgE s (base + i)) x).2.2 else [], wrS s n base i (insE (pgE s (base + i)) x).2.1 fs)
theorem insE_w {l : List Entry} {x : Entry} (hw : ∀ y ∈ l, EntW y) : (∀ y ∈ (insE l x).2.1, EntW y) ∧ (insE l x).2.1.length ≤ l.length + 1 := by
 unfold insE
 split
 · simp
 · rename_i hc
   have hx : EntW x := (entW_iff x).1 (by false_or_by_contra; rename_i h; exact hc h)
   split
   · simp
   · have := rmE_len l x.key
     refine ⟨fun y hy => ?_, ?_⟩
     · have hm := List.mem_of_mem_drop hy
       rcases List.mem_append.1 hm with h | h
       · exact hw y (rmE_mem h)
       · rw [List.mem_singleton.1 h]; exact hx
     · simp only [List.length_drop, List.length_append, List.length_cons, List.length_nil]; omega
end
section
attribute [local go_sem] packed List.set_cons_zero List.set_cons_succ List.cons_append List.nil_append bytesRows_length cellRows_len chRows_len rCells intRows_len
attribute [-go_sem] cellsOf AV.isCell
attribute [local go_sem] cellsOf_agg cellsOf_int cellsOf_bool cellsOf_str cellsOf_map cellsOf_ptr cellsOf_nilI cellsOf_slice cellsOf_sl cellsOf_ifc cellsOf_fp cellsOf_opt optAV_cell icell_int icell_bool icell_str icell_map icell_ptr icell_nilI icell_slice icell_sl icell_ifc icell_fp
attribute [local go_sem] Entry.av Entry.cells rowsBytes_bytesRows Option.map_some Int.cast_ofNat_Int getBox_GL setBox_GL fresh_GL
def lkE (l : List Entry) (k : List UInt8) : Option Entry := l.find? fun x => decide (x.key = k)
end
section
attribute [local go_sem] packed List.set_cons_zero List.set_cons_succ List.cons_append List.nil_append bytesRows_length cellRows_len chRows_len rCells intRows_len
attribute [-go_sem] cellsOf AV.isCell
attribute [local go_sem] cellsOf_agg cellsOf_int cellsOf_bool cellsOf_str cellsOf_map cellsOf_ptr cellsOf_nilI cellsOf_slice cellsOf_sl cellsOf_ifc cellsOf_fp cellsOf_opt optAV_cell icell_int icell_bool icell_str icell_map icell_ptr icell_nilI icell_slice icell_sl icell_ifc icell_fp
def pgL (b : List UInt8) : List Entry := if getC b = 0 ∧ kdB b = 1 then (bktR (txtB b)).2 else []
theorem pgE_look {s : Fl} (hd : s.down = false) {at_ : Int} (hr : 0 ≤ at_ ∧ at_ < s.pages) : pgE s at_ = pgL (lookB s at_) := by
 have hc : checkF s at_ = 0 := by unfold checkF; rw [hd, if_neg (by simp), if_neg (by omega)]
 have hT : tgetC s at_ 1 = if getC (lookB s at_) ≠ 0 then getC (lookB s at_) else if (kdB (lookB s at_) : Int) ≠ 1 then 12 else 0 := by
   unfold tgetC; rw [hc]; exact if_neg (by simp)
 unfold pgE pgL
 by_cases h1 : getC (lookB s at_) = 0
 · rw [if_neg (by simp [h1])] at hT
   by_cases h2 : kdB (lookB s at_) = 1
   · have h3 : ¬ ((kdB (lookB s at_) : Int) ≠ 1) := by omega
     rw [if_neg h3] at hT
     rw [if_neg (by rw [hT]; simp), if_pos ⟨h1, h2⟩]
   · have h3 : (kdB (lookB s at_) : Int) ≠ 1 := by omega
     rw [if_pos h3] at hT
     rw [if_pos (by rw [hT]; decide), if_neg (fun h => h2 h.2)]
 · rw [if_pos h1] at hT
   rw [if_pos (by rw [hT]; exact h1), if_neg (fun h => h1 h.1)]
structure BkOK (l : List Entry) : Prop where
 w : ∀ y ∈ l, EntW y
 u : uniqE l = true
 r : (allB l).length ≤ 233
theorem pgL_put {n : Nat} {l : List Entry} (h1 : 1 ≤ n ∧ n ≤ 1099511627776) (h : BkOK l) : pgL (putB n 1 (allB l)) = l := by
 unfold pgL
 rw [put_getC _ _ _ h1.1 h1.2 (by decide) (by decide) h.r, put_kd _ _ _ (by decide), put_txt _ _ _ h.r, if_pos ⟨rfl, rfl⟩]
 unfold bktR
 rw [readE_back h.w]
 simp [h.u]
theorem getC_z : getC z256 = 9 := by decide +kernel
theorem pgL_z : pgL z256 = [] := by
 unfold pgL; rw [if_neg (fun h => by rw [getC_z] at h; exact absurd h.1 (by decide))]
theorem BkOK.nil : BkOK [] := ⟨by simp, by decide, by simp [allB]⟩
theorem allB_sub {l m : List Entry} (h : l.Sublist m) : (allB l).length ≤ (allB m).length := by
 unfold allB
 induction h with
 | slnil => simp
 | cons a h ih => simp only [List.flatMap_cons, List.length_append]; omega
 | cons_cons a h ih => simp only [List.flatMap_cons, List.length_append]; omega
theorem BkOK.sub {l m : List Entry} (h : l.Sublist m) (hm : BkOK m) : BkOK l :=
 ⟨fun y hy => hm.w y (h.subset hy), by
   have := hm.u
   unfold uniqE at this ⊢
   rw [decide_eq_true_eq] at this ⊢
   exact List.Sublist.nodup (h.map _) this, Nat.le_trans (allB_sub h) hm.r⟩
theorem rmE_sub (l : List Entry) (k : List UInt8) : (rmE l k).Sublist l := by
 unfold rmE
 split
 · exact List.eraseIdx_sublist _ _
 · exact List.Sublist.refl _
theorem insK_room : ∀ l : List Entry, (allB (l.drop (insK l))).length ≤ 233
 | [] => by simp [insK, allB]
 | x :: l => by
   unfold insK
   split
   · rw [List.drop_succ_cons]; exact insK_room l
   · rename_i h; rw [List.drop_zero]; omega
theorem insK_last {l : List Entry} {x : Entry} (hx : ¬ 233 < (entB x).length) : insK (l ++ [x]) ≤ l.length := by
 induction l with
 | nil => simp only [List.nil_append, insK]; rw [if_neg (by simpa [allB] using hx)]; exact Nat.le_refl _
 | cons y l ih =>
   rw [List.cons_append]
   unfold insK
   split
   · simp only [List.length_cons]; omega
   · exact Nat.zero_le _
theorem rmE_key {l : List Entry} (hu : uniqE l = true) {k : List UInt8} {y : Entry} : y ∈ rmE l k ↔ y ∈ l ∧ y.key ≠ k := by
 rw [rm_but k hu]
 unfold but
 rw [List.mem_filter, decide_eq_true_eq]
structure InsOK (l : List Entry) (x : Entry) : Prop where
 ok : BkOK (insE l x).2.1
 mem : ∃ m, (insE l x).2.1 = m ++ [x]
 sub : ∀ y ∈ (insE l x).2.1, y = x ∨ (y ∈ l ∧ y.key ≠ x.key)
 gone : ∀ y ∈ (insE l x).2.2, y ∈ l ∧ y.key ≠ x.key
 all : ∀ y ∈ l, y.key ≠ x.key → (y ∈ (insE l x).2.1 ∨ y ∈ (insE l x).2.2)
 not : ∀ y ∈ (insE l x).2.1, ∀ z ∈ (insE l x).2.2, y.key ≠ z.key
theorem insE_zero {l : List Entry} {x : Entry} (h : (insE l x).1 = 0) : checkCode x = 0 ∧ ¬ 233 < (entB x).length ∧ insE l x = (0, (rmE l x.key ++ [x]).drop (insK (rmE l x.key ++ [x])), (rmE l x.key ++ [x]).take (insK (rmE l x.key ++ [x]))) := by
 unfold insE at h ⊢
 by_cases h1 : checkCode x ≠ 0
 · rw [if_pos h1] at h; exact absurd h h1
 · rw [if_neg h1] at h ⊢
   by_cases h2 : 233 < (entB x).length
   · rw [if_pos h2] at h; exact absurd h (by decide)
   · rw [if_neg h2] at h ⊢
     exact ⟨Classical.not_not.1 h1, h2, rfl⟩
theorem insE_ok {l : List Entry} {x : Entry} (hl : BkOK l) (h : (insE l x).1 = 0) : InsOK l x := by
 obtain ⟨h1, h2, h3⟩ := insE_zero h
 have hx : EntW x := (entW_iff x).1 h1
 have hk := insK_last (l := rmE l x.key) h2
 have hnd : ((rmE l x.key ++ [x]).map (·.key)).Nodup := by
   rw [List.map_append, List.map_cons, List.map_nil, List.nodup_append]
   refine ⟨?_, by simp, fun a ha b hb e => ?_⟩
   · have := (BkOK.sub (rmE_sub l x.key) hl).u
     unfold uniqE at this
     exact of_decide_eq_true this
   · rw [List.mem_singleton] at hb
     obtain ⟨y, hy, rfl⟩ := List.mem_map.1 ha
     exact ((rmE_key hl.u).1 hy).2 (e.trans hb)
 have hroom := insK_room (rmE l x.key ++ [x])
 have hm : ∀ y, y ∈ rmE l x.key ++ [x] ↔ (y ∈ l ∧ y.key ≠ x.key) ∨ y = x := fun y => by
   rw [List.mem_append, List.mem_singleton, rmE_key hl.u]
 generalize hK : insK (rmE l x.key ++ [x]) = K at *
 have hd : (rmE l x.key ++ [x]).drop K = (rmE l x.key).drop K ++ [x] := by rw [List.drop_append_of_le_length hk]
 have ht : (rmE l x.key ++ [x]).take K = (rmE l x.key).take K := by rw [List.take_append_of_le_length hk]
 have htd := List.take_append_drop K (rmE l x.key ++ [x])
 have e1 : (insE l x).2.1 = (rmE l x.key ++ [x]).drop K := by rw [h3]
 have e2 : (insE l x).2.2 = (rmE l x.key ++ [x]).take K := by rw [h3]
 clear h3
 constructor
 · rw [e1]
   refine ⟨fun y hy => ?_, ?_, hroom⟩
   · rcases (hm y).1 (List.mem_of_mem_drop hy) with h | rfl
     · exact hl.w y h.1
     · exact hx
   · unfold uniqE
     rw [decide_eq_true_eq, List.map_drop]
     exact List.Sublist.nodup (List.drop_sublist _ _) hnd
 · rw [e1]; exact ⟨_, hd⟩
 · intro y hy
   rw [e1] at hy
   rcases (hm y).1 (List.mem_of_mem_drop hy) with h | rfl
   · exact .inr h
   · exact .inl rfl
 · intro y hy
   rw [e2, ht] at hy
   exact (rmE_key hl.u).1 (List.mem_of_mem_take hy)
 · intro y hy hyk
   rw [e1, e2]
   have : y ∈ rmE l x.key ++ [x] := (hm y).2 (.inl ⟨hy, hyk⟩)
   rw [← htd] at this
   rcases List.mem_append.1 this with h | h
   · exact .inr h
   · exact .inl h
 · intro y hy z hz e
   rw [e1] at hy
   rw [e2] at hz
   rw [← htd, List.map_append, List.nodup_append] at hnd
   exact hnd.2.2 z.key (List.mem_map.2 ⟨z, hz, rfl⟩) y.key (List.mem_map.2 ⟨y, hy, rfl⟩) e.symm
theorem settle_one {sf : List (Int × List UInt8)} (hp : ∀ p ∈ sf, p.2.length = 256) (at_ : Int) {b : List UInt8} (hb : b.length = 256) (hn : blankB b = false) : settleM sf at_ (some b) 256 = updM sf at_ b := by
 have e1 : (min 256 256 : Int).toNat = 256 := rfl
 unfold settleM
 simp only
 rw [if_neg (by omega), e1, List.take_of_length_le (by omega), List.drop_eq_nil_of_le (by
   have : (pageOr sf at_).length = 256 := pageOr_len hp at_
   omega), List.append_nil, hn]
 rfl
theorem firm_any {s : Fl} {n at_ : Int} {kd : Nat} {a : List UInt8} (hpg : ∀ p ∈ s.safe, p.2.length = 256) (hd : s.down = false) (hl : s.loose = []) (hkd : 1 ≤ kd ∧ kd ≤ 5) :
   (tfirmC s n at_ kd a = 0 ∧ (1 ≤ n ∧ n ≤ 1099511627776) ∧ a.length ≤ 233 ∧ tputN s n at_ kd a = n + 1 ∧ ∃ fu dc, (fu < 0 ↔ s.fuse < 0) ∧ (s.fuse < 0 → fu = s.fuse) ∧ tfirmS s n at_ kd a = { s with safe := updM s.safe at_ (putB n.toNat kd a), fuse := fu, done := dc }) ∨
   (tfirmC s n at_ kd a ≠ 0 ∧ tfirmS s n at_ kd a = s ∧ tputN s n at_ kd a = n ∧ ¬ ((1 ≤ n ∧ n ≤ 1099511627776) ∧ a.length ≤ 233 ∧ 0 ≤ at_ ∧ at_ < s.pages)) ∨
   (tfirmC s n at_ kd a = 11 ∧ (tfirmS s n at_ kd a).down = true ∧ 0 ≤ s.fuse) := by
 obtain ⟨pg, sf, lo, fu, dn, dc⟩ := s
 simp only at hpg hd hl
 subst hd hl
 by_cases hck : checkC n kd a.length = 0
 rotate_left
 · right; left
   have hC : tputC ⟨pg, sf, [], fu, false, dc⟩ n at_ kd a = checkC n kd a.length := by unfold tputC; rw [if_pos hck]
   have hN : tputN ⟨pg, sf, [], fu, false, dc⟩ n at_ kd a = n := by unfold tputN; rw [if_neg (by rw [hC]; exact hck)]
   refine ⟨by unfold tfirmC; rw [if_pos (by rw [hC]; exact hck), hC]; exact hck, ?_, hN, fun h => hck ?_⟩
   · unfold tfirmS; rw [if_pos (by rw [hC]; exact hck)]
     unfold tputS; rw [if_pos hck]
   · unfold checkC; rw [if_neg (by omega), if_neg (by omega), if_neg (by omega)]
 obtain ⟨hn, -, hal⟩ := checkC_zero hck
 have hlen := putB_len n.toNat kd a hal
 by_cases hc : checkF ⟨pg, sf, [], fu, false, dc⟩ at_ = 0
 rotate_left
 · right; left
   have hC : tputC ⟨pg, sf, [], fu, false, dc⟩ n at_ kd a = checkF ⟨pg, sf, [], fu, false, dc⟩ at_ := by unfold tputC writeC; rw [if_neg (by simp [hck]), if_pos hc]
   have hN : tputN ⟨pg, sf, [], fu, false, dc⟩ n at_ kd a = n := by unfold tputN; rw [if_neg (by rw [hC]; exact hc)]
   refine ⟨by unfold tfirmC; rw [if_pos (by rw [hC]; exact hc), hC]; exact hc, ?_, hN, fun h => hc ?_⟩
   · unfold tfirmS; rw [if_pos (by rw [hC]; exact hc)]
     unfold tputS writeS; rw [if_neg (by simp [hck]), if_pos (.inl hc)]
   · unfold checkF; rw [if_neg (by simp), if_neg (by simp only at h ⊢; omega)]
 have hC : tputC ⟨pg, sf, [], fu, false, dc⟩ n at_ kd a = changeC ⟨pg, sf, [], fu, false, dc⟩ := by
   unfold tputC writeC; rw [hck, hc]; rfl
 have hS : tputS ⟨pg, sf, [], fu, false, dc⟩ n at_ kd a = burnS ⟨pg, sf, [(at_, some (putB n.toNat kd a))], fu, false, dc⟩ := by
   unfold tputS writeS; rw [if_neg (by rw [hck]; simp), if_neg (by rw [hc]; simp [hlen])]
   rfl
 have hset := settle_one hpg at_ hlen (put_blank n.toNat kd a (by omega) (by omega))
 by_cases hneg : fu < 0
 · have hbu : ∀ lo dc, burnB ⟨pg, sf, lo, fu, false, dc⟩ = false := fun lo dc => by unfold burnB; simp [hneg]
   have hbs : ∀ lo dc, burnS ⟨pg, sf, lo, fu, false, dc⟩ = ⟨pg, sf, lo, fu, false, dc + 1⟩ := fun lo dc => by unfold burnS; rw [if_pos hneg]
   left
   have hC0 : tputC ⟨pg, sf, [], fu, false, dc⟩ n at_ kd a = 0 := by rw [hC]; unfold changeC; rw [hbu]; rfl
   rw [hbs] at hS
   have hfl : flushC ⟨pg, sf, [(at_, some (putB n.toNat kd a))], fu, false, dc + 1⟩ = 0 := by
     unfold flushC; rw [if_neg (by simp), hbu]; rfl
   refine ⟨by unfold tfirmC; rw [if_neg (by simp [hC0]), hS, hfl], hn, hal, by unfold tputN; rw [if_pos hC0], fu, dc + 1 + 1, Iff.rfl, fun _ => rfl, ?_⟩
   unfold tfirmS
   rw [if_neg (by simp [hC0]), hS]
   unfold flushS settleAll
   rw [if_neg (by simp), hbu, if_neg (by simp), hbs]
   simp only [List.foldl_cons, List.foldl_nil]
   rw [hset]
 · by_cases h0 : fu - 1 < 0
   · right; right
     have hbu : ∀ lo dc, burnB ⟨pg, sf, lo, fu, false, dc⟩ = true := fun lo dc => by unfold burnB; simp only; rw [decide_eq_true hneg, decide_eq_true h0]; rfl
     have hC1 : tputC ⟨pg, sf, [], fu, false, dc⟩ n at_ kd a = 11 := by rw [hC]; unfold changeC; rw [hbu]; rfl
     refine ⟨by unfold tfirmC; rw [if_pos (by rw [hC1]; decide), hC1], ?_, by simp only; omega⟩
     unfold tfirmS; rw [if_pos (by rw [hC1]; decide), hS]
     unfold burnS; rw [if_neg hneg]; exact decide_eq_true h0
   · have hbu : ∀ lo dc, burnB ⟨pg, sf, lo, fu, false, dc⟩ = false := fun lo dc => by unfold burnB; simp only; rw [decide_eq_false h0]; simp
     have hC0 : tputC ⟨pg, sf, [], fu, false, dc⟩ n at_ kd a = 0 := by rw [hC]; unfold changeC; rw [hbu]; rfl
     have hbs : ∀ lo dc, burnS ⟨pg, sf, lo, fu, false, dc⟩ = ⟨pg, sf, lo, fu - 1, false, dc + 1⟩ := fun lo dc => by
       unfold burnS; rw [if_neg hneg]; simp only; rw [decide_eq_false h0]
     rw [hbs] at hS
     by_cases h1 : fu - 1 - 1 < 0
     · right; right
       have hbu2 : ∀ lo dc, burnB ⟨pg, sf, lo, fu - 1, false, dc⟩ = true := fun lo dc => by unfold burnB; simp only; rw [decide_eq_true h0, decide_eq_true h1]; rfl
       have hfl : flushC ⟨pg, sf, [(at_, some (putB n.toNat kd a))], fu - 1, false, dc + 1⟩ = 11 := by
         unfold flushC; rw [if_neg (by simp), hbu2]; rfl
       refine ⟨by unfold tfirmC; rw [if_neg (by simp [hC0]), hS, hfl], ?_, by simp only; omega⟩
       unfold tfirmS; rw [if_neg (by simp [hC0]), hS]
       unfold flushS; rw [if_neg (by simp), hbu2, if_pos rfl]
       unfold burnS; rw [if_neg h0]; exact decide_eq_true h1
     · left
       have hbu2 : ∀ lo dc, burnB ⟨pg, sf, lo, fu - 1, false, dc⟩ = false := fun lo dc => by unfold burnB; simp only; rw [decide_eq_false h1]; simp
       have hbs2 : ∀ lo dc, burnS ⟨pg, sf, lo, fu - 1, false, dc⟩ = ⟨pg, sf, lo, fu - 1 - 1, false, dc + 1⟩ := fun lo dc => by
         unfold burnS; rw [if_neg h0]; simp only; rw [decide_eq_false h1]
       have hfl : flushC ⟨pg, sf, [(at_, some (putB n.toNat kd a))], fu - 1, false, dc + 1⟩ = 0 := by
         unfold flushC; rw [if_neg (by simp), hbu2]; rfl
       refine ⟨by unfold tfirmC; rw [if_neg (by simp [hC0]), hS, hfl], hn, hal, by unfold tputN; rw [if_pos hC0], fu - 1 - 1, dc + 1 + 1, by simp only; omega, fun h => absurd h hneg, ?_⟩
       unfold tfirmS
       rw [if_neg (by simp [hC0]), hS]
       unfold flushS settleAll
       rw [if_neg (by simp), hbu2, if_neg (by simp), hbs2]
       simp only [List.foldl_cons, List.foldl_nil]
       rw [hset]
theorem look_free {s : Fl} (h : s.loose = []) (j : Int) : lookB s j = pageOr s.safe j := by
 unfold lookB; rw [h]; rfl
theorem upd_pg (sf : List (Int × List UInt8)) (at_ j : Int) (b : List UInt8) : pageOr (updM sf at_ b) j = if j = at_ then b else pageOr sf j := by
 unfold pageOr
 rw [findM_upd]
 by_cases hj : j = at_
 · rw [if_pos hj.symm, if_pos hj]; rfl
 · rw [if_neg (fun h => hj h.symm), if_neg hj]
end
section
attribute [local go_sem] packed List.set_cons_zero List.set_cons_succ List.cons_append List.nil_append bytesRows_length cellRows_len chRows_len rCells intRows_len
attribute [-go_sem] cellsOf AV.isCell
attribute [local go_sem] cellsOf_agg cellsOf_int cellsOf_bool cellsOf_str cellsOf_map cellsOf_ptr cellsOf_nilI cellsOf_slice cellsOf_sl cellsOf_ifc cellsOf_fp cellsOf_opt optAV_cell icell_int icell_bool icell_str icell_map icell_ptr icell_nilI icell_slice icell_sl icell_ifc icell_fp
theorem page_del {sf : List (Int × List UInt8)} (hnd : (sf.map (·.1)).Nodup) (at_ j : Int) : pageOr (delM sf at_) j = if j = at_ then z256 else pageOr sf j := by
 unfold pageOr
 rw [findM_del hnd]
 by_cases hj : j = at_
 · rw [if_pos hj.symm, if_pos hj]; rfl
 · rw [if_neg (fun h => hj h.symm), if_neg hj]
def purE (l : List Entry) (h a : Int) : List Entry := l.filter fun x => !(decide (hash64 x.key = h) && decide (x.asof < a))
def purS (s : Fl) (n : Int) (base : Int) (i : Nat) (h a : Int) (fs : List BF) : Int × Int × Fl × Int × List BF :=
 if s.down = true then (0, 11, s, n, fs) else if (purE (pgE s (base + i)) h a).length = (pgE s (base + i)).length then (0, 0, s, n, fs)
 else (if (wrS s n base i (purE (pgE s (base + i)) h a) fs).1 = 0 then ((pgE s (base + i)).length : Int) - (purE (pgE s (base + i)) h a).length else 0, wrS s n base i (purE (pgE s (base + i)) h a) fs)
def trimN (s : Fl) (base : Int) : Nat → Int × Fl
 | 0 => (0, s)
 | k + 1 => if (trimN s base k).1 ≠ 0 then trimN s base k else (trimC (trimN s base k).2 (base + k), trimS (trimN s base k).2 (base + k))
def clearS (s : Fl) (base : Int) (N : Nat) (fs : List BF) : Int × Fl × List BF :=
 if (trimN s base N).1 ≠ 0 then ((trimN s base N).1, (trimN s base N).2, fs)
 else (flushC (trimN s base N).2, flushS (trimN s base N).2, if flushC (trimN s base N).2 = 0 then List.replicate N (0, 0) else fs)
theorem purE_sub (l : List Entry) (h a : Int) : (purE l h a).Sublist l := List.filter_sublist
theorem wr_any {s : Fl} {n : Int} {i : Nat} {l : List Entry} (fs : List BF) (hpg : ∀ p ∈ s.safe, p.2.length = 256) (hd : s.down = false) (hl : s.loose = []) (hp : s.pages = 9) (hi : i < 4) (hw : ∀ y ∈ l, EntW y) (hu : uniqE l = true) :
   ((wrS s n 2 i l fs).1 = 0 ∧ BkOK l ∧ (1 ≤ n ∧ n ≤ 1099511627776) ∧ (wrS s n 2 i l fs).2.2.1 = n + 1 ∧ (wrS s n 2 i l fs).2.2.2 = fs.set i (ofF (keysE l)) ∧ (wrS s n 2 i l fs).2.1.down = false ∧ (wrS s n 2 i l fs).2.1.loose = [] ∧ (wrS s n 2 i l fs).2.1.pages = 9 ∧ (s.fuse < 0 → (wrS s n 2 i l fs).2.1.fuse = s.fuse) ∧
     (∀ j, lookB (wrS s n 2 i l fs).2.1 j = if j = 2 + (i : Int) then putB n.toNat 1 (allB l) else lookB s j) ∧ (∀ j : Nat, j < 4 → pgE (wrS s n 2 i l fs).2.1 (2 + (j : Int)) = if j = i then l else pgE s (2 + (j : Int)))) ∨
   ((wrS s n 2 i l fs).1 ≠ 0 ∧ (wrS s n 2 i l fs).2.1 = s ∧ (wrS s n 2 i l fs).2.2.1 = n ∧ (wrS s n 2 i l fs).2.2.2 = fs ∧ ¬ ((1 ≤ n ∧ n ≤ 1099511627776) ∧ (allB l).length ≤ 233)) ∨
   ((wrS s n 2 i l fs).1 = 11 ∧ (wrS s n 2 i l fs).2.1.down = true ∧ (wrS s n 2 i l fs).2.2.2 = fs ∧ 0 ≤ s.fuse ∧ (wrS s n 2 i l fs).2.1.pages = 9) := by
 unfold wrS
 simp only
 rcases firm_any (n := n) (at_ := 2 + (i : Int)) (kd := 1) (a := allB l) hpg hd hl (by decide) with ⟨h1, h2, h3, h4, fu, dc, h5, h5', h6⟩ | ⟨h1, h2, h3, h4⟩ | ⟨h1, h2, h3⟩
 · left
   replace h1 : tfirmC s n (2 + (i : Int)) 1 (allB l) = 0 := h1
   replace h4 : tputN s n (2 + (i : Int)) 1 (allB l) = n + 1 := h4
   replace h6 : tfirmS s n (2 + (i : Int)) 1 (allB l) = { s with safe := updM s.safe (2 + (i : Int)) (putB n.toNat 1 (allB l)), fuse := fu, done := dc } := h6
   have hb : BkOK l := ⟨hw, hu, h3⟩
   have hlk : ∀ j, lookB { s with safe := updM s.safe (2 + (i : Int)) (putB n.toNat 1 (allB l)), fuse := fu, done := dc } j = if j = 2 + (i : Int) then putB n.toNat 1 (allB l) else lookB s j := fun j => by
     rw [look_free (s := s) hl, look_free (s := { s with safe := updM s.safe (2 + (i : Int)) (putB n.toNat 1 (allB l)), fuse := fu, done := dc }) hl]
     exact upd_pg _ _ _ _
   rw [h1, h4, h6, if_pos rfl]
   refine ⟨rfl, hb, h2, rfl, rfl, hd, hl, hp, h5', hlk, fun j hj => ?_⟩
   rw [pgE_look (s := { s with safe := updM s.safe (2 + (i : Int)) (putB n.toNat 1 (allB l)), fuse := fu, done := dc }) hd (by show 0 ≤ 2 + (j : Int) ∧ 2 + (j : Int) < s.pages; omega), hlk, pgE_look hd (by omega)]
   by_cases hji : j = i
   · subst hji
     rw [if_pos rfl, if_pos rfl, pgL_put (by omega) hb]
   · rw [if_neg (by omega), if_neg hji]
 · right; left
   replace h1 : tfirmC s n (2 + (i : Int)) 1 (allB l) ≠ 0 := h1
   replace h2 : tfirmS s n (2 + (i : Int)) 1 (allB l) = s := h2
   replace h3 : tputN s n (2 + (i : Int)) 1 (allB l) = n := h3
   rw [h2, h3, if_neg h1]
   exact ⟨h1, rfl, rfl, rfl, fun h => h4 ⟨h.1, h.2, by omega, by omega⟩⟩
 · right; right
   replace h1 : tfirmC s n (2 + (i : Int)) 1 (allB l) = 11 := h1
   refine ⟨h1, h2, by rw [h1]; rfl, h3, (?_ : (tfirmS s n (2 + (i : Int)) 1 (allB l)).pages = 9)⟩
   have e1 : ∀ (s : Fl) (n at_ kd : Int) (b : List UInt8), (tputS s n at_ kd b).pages = s.pages := fun s n at_ kd b => by
     unfold tputS; split; (· rfl); (· exact writeS_pages _ _ _)
   have e2 : ∀ s : Fl, (flushS s).pages = s.pages := fun s => by
     unfold flushS
     split
     · rfl
     · split
       · exact burnS_pages s
       · exact burnS_pages s
   unfold tfirmS
   split
   · rw [e1]; exact hp
   · rw [e2, e1]; exact hp
structure SI (s : Fl) (fs : List BF) : Prop where
 p : s.pages = 9
 l4 : fs.length = 4
 ok : ∀ f ∈ fs, BFok f
 lo : s.down = false → s.loose = []
 fl : s.down = false → ∀ i : Nat, i < 4 → fs[i]? = some (ofF (keysE (pgE s (2 + (i : Int)))))
theorem SI.wr {s : Fl} {fs : List BF} (h : SI s fs) (hpg : ∀ p ∈ s.safe, p.2.length = 256) (hd : s.down = false) (n : Int) {i : Nat} (hi : i < 4) {l : List Entry} (hw : ∀ y ∈ l, EntW y) (hu : uniqE l = true) : SI (wrS s n 2 i l fs).2.1 (wrS s n 2 i l fs).2.2.2 := by
 rcases wr_any (n := n) fs hpg hd (h.lo hd) h.p hi hw hu with ⟨h1, h2, h3, h4, h5, h6, h7, h8, h9, ha, hb⟩ | ⟨h1, h2, h3, h4, h5⟩ | ⟨h1, h2, h3, h4, h5⟩
 · rw [h5]
   refine ⟨h8, by rw [List.length_set]; exact h.l4, fun f hf => ?_, fun _ => h7, fun _ j hj => ?_⟩
   · rcases List.mem_or_eq_of_mem_set hf with hf | rfl
     · exact h.ok f hf
     · exact ofF_ok _
   · rw [hb j hj, List.getElem?_set]
     by_cases hji : i = j
     · subst hji; rw [if_pos rfl, if_pos rfl, if_pos (by rw [h.l4]; exact hj)]
     · rw [if_neg hji, if_neg (fun e => hji e.symm)]; exact h.fl hd j hj
 · rw [h2, h4]; exact h
 · rw [h3]
   exact ⟨h5, h.l4, h.ok, fun e => (Bool.eq_false_iff.1 e h2).elim, fun e => (Bool.eq_false_iff.1 e h2).elim⟩
theorem insE_u {l : List Entry} {x : Entry} (hu : uniqE l = true) : uniqE (insE l x).2.1 = true := by
 by_cases h : (insE l x).1 = 0
 · obtain ⟨h1, h2, h3⟩ := insE_zero h
   rw [h3]
   unfold uniqE at hu ⊢
   rw [decide_eq_true_eq] at hu ⊢
   rw [List.map_drop]
   refine List.Sublist.nodup (List.drop_sublist _ _) ?_
   rw [List.map_append, List.map_cons, List.map_nil, List.nodup_append]
   refine ⟨List.Sublist.nodup ((rmE_sub l x.key).map _) hu, by simp, fun a ha b hb e => ?_⟩
   rw [List.mem_singleton] at hb
   obtain ⟨y, hy, rfl⟩ := List.mem_map.1 ha
   exact ((rmE_key (by unfold uniqE; exact decide_eq_true hu)).1 hy).2 (e.trans hb)
 · have : (insE l x).2.1 = [] := by
     unfold insE at h ⊢
     split
     · rfl
     · split
       · rfl
       · rename_i h1 h2; rw [if_neg h1, if_neg h2] at h; exact absurd rfl h
   rw [this]; decide
theorem uniq_sub {l m : List Entry} (h : l.Sublist m) (hm : uniqE m = true) : uniqE l = true := by
 unfold uniqE at hm ⊢
 rw [decide_eq_true_eq] at hm ⊢
 exact List.Sublist.nodup (h.map _) hm
theorem SI.set {s : Fl} {fs : List BF} (h : SI s fs) (hw : s.WF) (n : Int) {i : Nat} (hi : i < 4) (x : Entry) : SI (setS s n 2 i x fs).2.2.1 (setS s n 2 i x fs).2.2.2.2 := by
 have hpw := pgE_w hw (2 + (i : Int))
 unfold setS
 by_cases hd : s.down = true
 · rw [if_pos hd]; exact h
 · rw [if_neg hd]
   split
   · exact h
   · exact h.wr hw.page (by simpa using hd) n hi (insE_w hpw.1).1 (insE_u hpw.2.2)
theorem SI.rm {s : Fl} {fs : List BF} (h : SI s fs) (hw : s.WF) (n : Int) {i : Nat} (hi : i < 4) (k : List UInt8) : SI (rmS s n 2 i k fs).2.2.1 (rmS s n 2 i k fs).2.2.2.2 := by
 have hpw := pgE_w hw (2 + (i : Int))
 unfold rmS
 by_cases hd : s.down = true
 · rw [if_pos hd]; exact h
 · rw [if_neg hd]
   split
   · exact h
   · exact h.wr hw.page (by simpa using hd) n hi (fun y hy => hpw.1 y (rmE_mem hy)) (uniq_sub (rmE_sub _ _) hpw.2.2)
theorem SI.pur {s : Fl} {fs : List BF} (h : SI s fs) (hw : s.WF) (n : Int) {i : Nat} (hi : i < 4) (hh a : Int) : SI (purS s n 2 i hh a fs).2.2.1 (purS s n 2 i hh a fs).2.2.2.2 := by
 have hpw := pgE_w hw (2 + (i : Int))
 unfold purS
 by_cases hd : s.down = true
 · rw [if_pos hd]; exact h
 · rw [if_neg hd]
   split
   · exact h
   · exact h.wr hw.page (by simpa using hd) n hi (fun y hy => hpw.1 y ((purE_sub _ _ _).subset hy)) (uniq_sub (purE_sub _ _ _) hpw.2.2)
theorem SI.fuse {s : Fl} {fs : List BF} (h : SI s fs) (k : Int) : SI (fuseS s k) fs := ⟨h.p, h.l4, h.ok, h.lo, h.fl⟩
theorem trimN_any {s : Fl} (hd : s.down = false) (hl : s.loose = []) (hp : s.pages = 9) : ∀ k, k ≤ 4 →
   ((trimN s 2 k).1 = 0 ∧ (trimN s 2 k).2.down = false ∧ (trimN s 2 k).2.safe = s.safe ∧ (trimN s 2 k).2.pages = 9 ∧ (s.fuse < 0 → (trimN s 2 k).2.fuse = s.fuse) ∧ (trimN s 2 k).2.loose = (List.range k).map fun i : Nat => (2 + (i : Int), none)) ∨
   ((trimN s 2 k).1 = 11 ∧ (trimN s 2 k).2.down = true ∧ 0 ≤ s.fuse ∧ (trimN s 2 k).2.pages = 9)
 | 0, _ => .inl ⟨rfl, hd, rfl, hp, fun _ => rfl, hl⟩
 | k + 1, hk => by
   have ih := trimN_any hd hl hp k (by omega)
   unfold trimN
   rcases ih with ⟨h1, h2, h3, h4, h5, h6⟩ | ⟨h1, h2, h3, h4⟩
   · rw [if_neg (by simp [h1])]
     generalize (trimN s 2 k).2 = u at *
     have hc : checkF u (2 + (k : Int)) = 0 := by unfold checkF; rw [h2, if_neg (by simp), if_neg (by omega)]
     have hC : trimC u (2 + (k : Int)) = changeC u := by unfold trimC; rw [if_neg (by simp [hc])]
     have hS : trimS u (2 + (k : Int)) = changeS u (2 + (k : Int)) none := by unfold trimS; rw [if_neg (by simp [hc])]
     simp only [hC, hS]
     have hr : (List.range (k + 1)).map (fun i : Nat => (2 + (i : Int), (none : Option (List UInt8)))) = u.loose ++ [(2 + (k : Int), none)] := by
       rw [List.range_succ, List.map_append, h6]; rfl
     rw [hr]
     obtain ⟨pg, sf, lo, fu, dn, dc⟩ := u
     simp only at h2 h3 h4 h5
     subst h2
     unfold changeC changeS burnB burnS
     simp only
     by_cases hneg : fu < 0
     · left
       rw [if_pos hneg, decide_eq_false (by omega : ¬ ¬ fu < 0)]
       exact ⟨rfl, rfl, h3, h4, h5, rfl⟩
     · rw [if_neg hneg, decide_eq_true hneg, Bool.true_and]
       by_cases h0 : fu - 1 < 0
       · right
         rw [decide_eq_true h0]
         exact ⟨rfl, rfl, by false_or_by_contra; rename_i hq; have := h5 (by omega); omega, h4⟩
       · left
         rw [decide_eq_false h0]
         exact ⟨rfl, rfl, h3, h4, fun hq => by have := h5 hq; omega, rfl⟩
   · right
     rw [if_pos (by rw [h1]; decide)]
     exact ⟨h1, h2, h3, h4⟩
theorem del_all : ∀ (k : Nat) {sf : List (Int × List UInt8)}, pagesOK sf → (pagesOK (settleAll sf ((List.range k).map fun i : Nat => (2 + (i : Int), none)))) ∧ ∀ j, pageOr (settleAll sf ((List.range k).map fun i : Nat => (2 + (i : Int), none))) j = if 2 ≤ j ∧ j < 2 + (k : Int) then z256 else pageOr sf j
 | 0, sf, h => ⟨h, fun j => by rw [if_neg (by omega)]; rfl⟩
 | k + 1, sf, h => by
   obtain ⟨h1, h2⟩ := del_all k h
   have e : settleAll sf ((List.range (k + 1)).map fun i : Nat => (2 + (i : Int), none)) = delM (settleAll sf ((List.range k).map fun i : Nat => (2 + (i : Int), none))) (2 + (k : Int)) := by
     unfold settleAll
     rw [List.range_succ, List.map_append, List.foldl_append]
     rfl
   rw [e]
   refine ⟨settle_pages (o := none) (keep := 256) h1 (by simp), fun j => ?_⟩
   rw [page_del h1.1, h2]
   by_cases hj : j = 2 + (k : Int)
   · rw [if_pos hj, if_pos (by omega)]
   · rw [if_neg hj]
     by_cases hj2 : 2 ≤ j ∧ j < 2 + (k : Int)
     · rw [if_pos hj2, if_pos (by omega)]
     · rw [if_neg hj2, if_neg (by omega)]
theorem clear_any {s : Fl} (fs : List BF) (hpg : pagesOK s.safe) (hd : s.down = false) (hl : s.loose = []) (hp : s.pages = 9) :
   ((clearS s 2 4 fs).1 = 0 ∧ (clearS s 2 4 fs).2.2 = List.replicate 4 (0, 0) ∧ (clearS s 2 4 fs).2.1.down = false ∧ (clearS s 2 4 fs).2.1.loose = [] ∧ (clearS s 2 4 fs).2.1.pages = 9 ∧ (s.fuse < 0 → (clearS s 2 4 fs).2.1.fuse = s.fuse) ∧ (∀ j, lookB (clearS s 2 4 fs).2.1 j = if 2 ≤ j ∧ j < 6 then z256 else lookB s j)) ∨
   ((clearS s 2 4 fs).1 = 11 ∧ (clearS s 2 4 fs).2.2 = fs ∧ (clearS s 2 4 fs).2.1.down = true ∧ 0 ≤ s.fuse ∧ (clearS s 2 4 fs).2.1.pages = 9) := by
 unfold clearS
 rcases trimN_any hd hl hp 4 (by decide) with ⟨h1, h2, h3, h4, h5, h6⟩ | ⟨h1, h2, h3, h4⟩
 · rw [if_neg (by simp [h1])]
   have hdel := (del_all 4 hpg).2
   rw [← h3, ← h6] at hdel
   have hls := look_free hl
   rw [← h3] at hls
   clear h1 h6
   generalize (trimN s 2 4).2 = u at *
   obtain ⟨pg, sf, lo, fu, dn, dc⟩ := u
   simp only at h2 h3 h4 h5 hdel hls ⊢
   subst h2
   unfold flushC flushS burnB burnS
   simp only [Bool.false_eq_true, if_false]
   by_cases hneg : fu < 0
   · left
     rw [if_pos hneg, decide_eq_false (by omega : ¬ ¬ fu < 0)]
     refine ⟨rfl, rfl, rfl, rfl, h4, h5, fun j => ?_⟩
     rw [look_free rfl, hls]
     exact hdel j
   · rw [if_neg hneg, decide_eq_true hneg, Bool.true_and]
     by_cases h0 : fu - 1 < 0
     · right
       rw [decide_eq_true h0]
       exact ⟨rfl, rfl, rfl, by false_or_by_contra; rename_i hq; have := h5 (by omega); omega, h4⟩
     · left
       rw [decide_eq_false h0]
       refine ⟨rfl, rfl, rfl, rfl, h4, fun hq => by have := h5 hq; omega, fun j => ?_⟩
       rw [look_free rfl, hls]
       exact hdel j
 · right
   rw [if_pos (by rw [h1]; decide)]
   exact ⟨h1, rfl, h2, h3, h4⟩
theorem trimN_down {s : Fl} (hd : s.down = true) (base : Int) : ∀ k, 0 < k → trimN s base k = (11, s)
 | 0, h => absurd h (by decide)
 | 1, _ => by
   unfold trimN trimN trimC trimS checkF
   simp [hd]
 | k + 2, _ => by
   have ih := trimN_down hd base (k + 1) (by omega)
   unfold trimN
   rw [ih, if_pos (by simp)]
theorem clear_down {s : Fl} (fs : List BF) (hd : s.down = true) : clearS s 2 4 fs = (11, s, fs) := by
 unfold clearS
 rw [trimN_down hd 2 4 (by decide), if_pos (by simp)]
theorem SI.clear {s : Fl} {fs : List BF} (h : SI s fs) (hw : s.WF) : SI (clearS s 2 4 fs).2.1 (clearS s 2 4 fs).2.2 := by
 by_cases hd : s.down = true
 · rw [clear_down fs hd]; exact h
 · have hd : s.down = false := by simpa using hd
   rcases clear_any fs ⟨hw.nodup, hw.page⟩ hd (h.lo hd) h.p with ⟨h1, h2, h3, h4, h5, h6, h7⟩ | ⟨h1, h2, h3, h4, h5⟩
   · rw [h2]
     refine ⟨h5, rfl, fun f hf => ?_, fun _ => h4, fun _ i hi => ?_⟩
     · rw [List.eq_of_mem_replicate hf]; exact ⟨by decide, by decide⟩
     · rw [pgE_look h3 (by omega), h7, if_pos (by omega), pgL_z, List.getElem?_replicate, if_pos hi]
       rfl
   · rw [h2]
     exact ⟨h5, h.l4, h.ok, fun e => (Bool.eq_false_iff.1 e h3).elim, fun e => (Bool.eq_false_iff.1 e h3).elim⟩
def openFs (s : Fl) (base : Int) (N : Nat) : List BF := (List.range N).map fun i : Nat => ofF (keysE (pgE s (base + (i : Int))))
theorem SI.open {s : Fl} (hp : s.pages = 9) (hl : s.loose = []) : SI s (openFs s 2 4) := by
 refine ⟨hp, by simp [openFs], fun f hf => ?_, fun _ => hl, fun _ i hi => ?_⟩
 · obtain ⟨i, -, rfl⟩ := List.mem_map.1 hf; exact ofF_ok _
 · unfold openFs
   rw [List.getElem?_map, List.getElem?_range hi]
   rfl
end
section
attribute [local go_sem] packed List.set_cons_zero List.set_cons_succ List.cons_append List.nil_append bytesRows_length cellRows_len chRows_len rCells intRows_len
attribute [-go_sem] cellsOf AV.isCell
attribute [local go_sem] cellsOf_agg cellsOf_int cellsOf_bool cellsOf_str cellsOf_map cellsOf_ptr cellsOf_nilI cellsOf_slice cellsOf_sl cellsOf_ifc cellsOf_fp cellsOf_opt optAV_cell icell_int icell_bool icell_str icell_map icell_ptr icell_nilI icell_slice icell_sl icell_ifc icell_fp
abbrev BP := Option (Nat × List Entry)
def bpg : BP → List UInt8
 | none => z256
 | some (k, l) => putB k 1 (allB l)
def bl : BP → List Entry
 | none => []
 | some (_, l) => l
structure KS (s : Fl) (n : Int) (P : Nat → BP) (i : Nat) : Prop where
 p : s.pages = 9
 lo : s.loose = []
 f : s.fuse < 0
 d : s.down = false
 lk : ∀ j : Nat, j < 4 → lookB s (2 + (j : Int)) = bpg (P j)
 ok : ∀ j : Nat, j < 4 → ∀ k l, P j = some (k, l) → (1 ≤ k ∧ (k : Int) < n) ∧ BkOK l ∧ ∀ y ∈ l, slotE (hash64 y.key) 4 = j
 n1 : 1 ≤ n
 n2 : n ≤ i + 1
theorem KS.mono {s : Fl} {n : Int} {P : Nat → BP} {i k : Nat} (h : KS s n P i) (hk : i ≤ k) : KS s n P k := { h with n2 := by have := h.n2; omega }
theorem KS.bk {s : Fl} {n : Int} {P : Nat → BP} {i : Nat} (h : KS s n P i) {j : Nat} (hj : j < 4) : BkOK (bl (P j)) ∧ ∀ y ∈ bl (P j), slotE (hash64 y.key) 4 = j := by
 cases hP : P j with
 | none => exact ⟨BkOK.nil, by simp [bl]⟩
 | some q => obtain ⟨k, l⟩ := q; exact (h.ok j hj k l hP).2
theorem KS.pgl {s : Fl} {n : Int} {P : Nat → BP} {i : Nat} (h : KS s n P i) (hi : i ≤ 200) {j : Nat} (hj : j < 4) : pgL (bpg (P j)) = bl (P j) := by
 cases hP : P j with
 | none => exact pgL_z
 | some q =>
   obtain ⟨k, l⟩ := q
   obtain ⟨⟨h1, h2⟩, h3, h4⟩ := h.ok j hj k l hP
   have := h.n2
   exact pgL_put ⟨h1, by omega⟩ h3
theorem KS.pg {s : Fl} {n : Int} {P : Nat → BP} {i : Nat} (h : KS s n P i) (hi : i ≤ 200) {j : Nat} (hj : j < 4) : pgE s (2 + (j : Int)) = bl (P j) := by
 have := h.p
 rw [pgE_look h.d (by omega), h.lk j hj, h.pgl hi hj]
theorem KS.bkp {s : Fl} {n : Int} {P : Nat → BP} {i : Nat} (h : KS s n P i) (hi : i ≤ 200) {j : Nat} (hj : j < 4) : BkOK (pgE s (2 + (j : Int))) ∧ ∀ y ∈ pgE s (2 + (j : Int)), slotE (hash64 y.key) 4 = j := by
 rw [h.pg hi hj]; exact h.bk hj
theorem KS.new : KS (newFl 9) 1 (fun _ => none) 0 :=
 ⟨rfl, rfl, by decide, rfl, (fun j hj => rfl), (fun j hj k l h => by cases h), by decide, by decide⟩
theorem KS.wr {s : Fl} {n : Int} {P : Nat → BP} {i : Nat} (h : KS s n P i) (hi : i ≤ 200) (fs : List BF) (hpg : ∀ p ∈ s.safe, p.2.length = 256) {j : Nat} (hj : j < 4) {l : List Entry} (hl : BkOK l) (hs : ∀ y ∈ l, slotE (hash64 y.key) 4 = j) :
   (wrS s n 2 j l fs).1 = 0 ∧ KS (wrS s n 2 j l fs).2.1 (wrS s n 2 j l fs).2.2.1 (fun q => if q = j then some (n.toNat, l) else P q) (i + 1) := by
 have hn1 := h.n1
 have hn2 := h.n2
 have hf := h.f
 rcases wr_any (n := n) fs hpg h.d h.lo h.p hj hl.w hl.u with ⟨h1, h2, h3, h4, h5, h6, h7, h8, h9, ha, hb⟩ | ⟨h1, h2, h3, h4, h5⟩ | ⟨h1, h2, h3, h4, h5⟩
 · refine ⟨h1, h8, h7, by rw [h9 hf]; exact hf, h6, fun q hq => ?_, fun q hq k l' hP => ?_, by omega, by omega⟩
   · rw [ha]
     by_cases hqj : q = j
     · subst hqj; rw [if_pos rfl, if_pos rfl]; rfl
     · rw [if_neg (by omega), if_neg hqj]; exact h.lk q hq
   · by_cases hqj : q = j
     · subst hqj
       rw [if_pos rfl] at hP
       cases hP
       exact ⟨⟨by omega, by omega⟩, hl, hs⟩
     · rw [if_neg hqj] at hP
       obtain ⟨⟨g1, g2⟩, g3⟩ := h.ok q hq k l' hP
       exact ⟨⟨g1, by omega⟩, g3⟩
 · exact absurd ⟨⟨hn1, by omega⟩, hl.r⟩ h5
 · omega
def KE (s : Fl) (n : Int) (i : Nat) : Prop := ∃ P, KS s n P i
theorem KE.set {s : Fl} {n : Int} {i : Nat} (h : KE s n i) (hi : i ≤ 200) (fs : List BF) (hpg : ∀ p ∈ s.safe, p.2.length = 256) (x : Entry) : KE (setS s n 2 (slotE (hash64 x.key) 4) x fs).2.2.1 (setS s n 2 (slotE (hash64 x.key) 4) x fs).2.2.2.1 (i + 1) := by
 obtain ⟨P, h⟩ := h
 have hj : slotE (hash64 x.key) 4 < 4 := slotE_lt (by decide)
 obtain ⟨hb, hs⟩ := h.bkp hi hj
 unfold setS
 rw [if_neg (by rw [h.d]; decide)]
 split
 · exact ⟨P, h.mono (Nat.le_succ i)⟩
 · rename_i hc
   have hin := insE_ok hb (Classical.not_not.1 hc)
   exact ⟨_, (h.wr hi fs hpg hj hin.ok (fun y hy => by
     rcases hin.sub y hy with rfl | ⟨h1, h2⟩
     · rfl
     · exact hs y h1)).2⟩
theorem KE.rm {s : Fl} {n : Int} {i : Nat} (h : KE s n i) (hi : i ≤ 200) (fs : List BF) (hpg : ∀ p ∈ s.safe, p.2.length = 256) {j : Nat} (hj : j < 4) (k : List UInt8) : KE (rmS s n 2 j k fs).2.2.1 (rmS s n 2 j k fs).2.2.2.1 (i + 1) := by
 obtain ⟨P, h⟩ := h
 obtain ⟨hb, hs⟩ := h.bkp hi hj
 unfold rmS
 rw [if_neg (by rw [h.d]; decide)]
 split
 · exact ⟨P, h.mono (Nat.le_succ i)⟩
 · exact ⟨_, (h.wr hi fs hpg hj (hb.sub (rmE_sub _ _)) (fun y hy => hs y (rmE_mem hy))).2⟩
theorem KE.pur {s : Fl} {n : Int} {i : Nat} (h : KE s n i) (hi : i ≤ 200) (fs : List BF) (hpg : ∀ p ∈ s.safe, p.2.length = 256) {j : Nat} (hj : j < 4) (hh a : Int) : KE (purS s n 2 j hh a fs).2.2.1 (purS s n 2 j hh a fs).2.2.2.1 (i + 1) := by
 obtain ⟨P, h⟩ := h
 obtain ⟨hb, hs⟩ := h.bkp hi hj
 unfold purS
 rw [if_neg (by rw [h.d]; decide)]
 split
 · exact ⟨P, h.mono (Nat.le_succ i)⟩
 · exact ⟨_, (h.wr hi fs hpg hj (hb.sub (purE_sub _ _ _)) (fun y hy => hs y ((purE_sub _ _ _).subset hy))).2⟩
theorem KE.clear {s : Fl} {n : Int} {i : Nat} (h : KE s n i) (fs : List BF) (hpg : pagesOK s.safe) : KE (clearS s 2 4 fs).2.1 n (i + 1) := by
 obtain ⟨P, h⟩ := h
 have hf := h.f
 rcases clear_any fs hpg h.d h.lo h.p with ⟨h1, h2, h3, h4, h5, h6, h7⟩ | ⟨h1, h2, h3, h4, h5⟩
 · refine ⟨fun _ => none, h5, h4, by rw [h6 hf]; exact hf, h3, fun j hj => ?_, (fun j hj k l hP => by cases hP), h.n1, by have := h.n2; omega⟩
   rw [h7, if_pos (by omega)]; rfl
 · omega
structure Torn (s s3 : Fl) (j : Nat) (nx : List Entry) : Prop where
 p : s3.pages = 9
 same : ∀ q : Nat, q < 4 → pgE s3 (2 + (q : Int)) = pgE s (2 + (q : Int)) ∨ (q = j ∧ (pgE s3 (2 + (q : Int)) = [] ∨ pgE s3 (2 + (q : Int)) = nx))
end
section
attribute [local go_sem] packed List.set_cons_zero List.set_cons_succ List.cons_append List.nil_append bytesRows_length cellRows_len chRows_len rCells intRows_len
attribute [-go_sem] cellsOf AV.isCell
attribute [local go_sem] cellsOf_agg cellsOf_int cellsOf_bool cellsOf_str cellsOf_map cellsOf_ptr cellsOf_nilI cellsOf_slice cellsOf_sl cellsOf_ifc cellsOf_fp cellsOf_opt optAV_cell icell_int icell_bool icell_str icell_map icell_ptr icell_nilI icell_slice icell_sl icell_ifc icell_fp
def sAV (r : Fl) (n base : Int) (N : Nat) : AV := .agg (rCells r ++ [.c (.int .i64 n), .c (.int .i64 base), .c (.int .i64 (N : Int))])
attribute [local go_sem] sAV tAV
end
end Go.Proofs.YtdnhcpbammfmlaaGreatDoor
