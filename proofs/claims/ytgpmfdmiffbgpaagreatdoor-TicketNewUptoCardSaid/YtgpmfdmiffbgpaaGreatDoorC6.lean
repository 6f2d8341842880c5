/- A part of the proof: what the calls do, told by values. -/
import Derived.Test.YtgpmfdmiffbgpaaGreatDoorC5
import Derived.Test.YtgpmfdmiffbgpaaGreatDoorC3
section
namespace Go.Proofs.YtgpmfdmiffbgpaaGreatDoor
open Go Go.Av
set_option linter.unusedVariables false
set_option linter.unusedSimpArgs false
set_option maxRecDepth 100000

/-! ### The document's device beside the program's -/
abbrev SortC (l : List (Int × List UInt8)) : Prop := (l.map (·.1)).Pairwise (· < ·)
theorem findM_app {k : Int} : ∀ (A B : List (Int × List UInt8)), findM (A ++ B) k = (findM A k).or (findM B k)
  | [], B => rfl
  | p :: A, B => by
    show findM (p :: (A ++ B)) k = (findM (p :: A) k).or _
    have e1 : ∀ l : List (Int × List UInt8), findM (p :: l) k = if p.1 = k then some p.2 else findM l k := fun l => by conv => lhs; unfold findM
    rw [e1, e1]
    by_cases h : p.1 = k
    · rw [if_pos h, if_pos h]; rfl
    · rw [if_neg h, if_neg h]; exact findM_app A B
theorem find_none_of {l : List (Int × List UInt8)} {k : Int} (h : ∀ p ∈ l, p.1 ≠ k) : findM l k = none := findM_none.2 fun hk => by
  obtain ⟨p, hp, rfl⟩ := List.mem_map.1 hk
  exact h p hp rfl
theorem tw_lt {at_ : Int} : ∀ {l : List (Int × List UInt8)} {p : Int × List UInt8}, p ∈ l.takeWhile (fun p => decide (p.1 < at_)) → p.1 < at_
  | [], p, h => by cases h
  | q :: l, p, h => by
    rw [List.takeWhile_cons] at h
    split at h
    · rename_i hq
      rcases List.mem_cons.1 h with rfl | h
      · simpa using hq
      · exact tw_lt h
    · cases h
/-- Pages parted at a place. -/
theorem split_at {l : List (Int × List UInt8)} (hs : SortC l) (at_ : Int) : ∃ A C, (∀ p ∈ A, p.1 < at_) ∧ (∀ p ∈ C, at_ < p.1) ∧ SortC A ∧ SortC C ∧ (l = A ++ C ∨ ∃ x, l = A ++ (at_, x) :: C) ∧ ∀ b, putC l at_ b = A ++ (if blankB b then [] else [(at_, b)]) ++ C := by
  have hA : ∀ p ∈ l.take (lowC l at_), p.1 < at_ := by
    intro p hp
    have e : l.take (lowC l at_) = l.takeWhile fun p => decide (p.1 < at_) := by
      unfold lowC
      exact (List.prefix_iff_eq_take.1 (List.takeWhile_prefix _)).symm
    rw [e] at hp
    exact tw_lt hp
  have hsplit := List.take_append_drop (lowC l at_) l
  have hs1 : SortC (l.take (lowC l at_)) := by unfold SortC; rw [List.map_take]; exact hs.take
  have hs2 : SortC (l.drop (lowC l at_)) := by unfold SortC; rw [List.map_drop]; exact hs.drop
  have hhd : ∀ p, l[lowC l at_]? = some p → ¬ p.1 < at_ := by
    intro p hp hlt
    have e : l.drop (lowC l at_) = l.dropWhile fun p => decide (p.1 < at_) := by
      unfold lowC
      have h1 := List.takeWhile_append_dropWhile (p := fun p : Int × List UInt8 => decide (p.1 < at_)) (l := l)
      have h2 := congrArg (List.drop (l.takeWhile fun p => decide (p.1 < at_)).length) h1
      rw [List.drop_left] at h2
      exact h2.symm
    have h3 : (l.dropWhile fun p => decide (p.1 < at_)).head? = some p := by rw [← e, List.head?_drop, hp]
    have := List.head?_dropWhile_not (fun p : Int × List UInt8 => decide (p.1 < at_)) l
    rw [h3] at this
    simp [hlt] at this
  cases hr : l.drop (lowC l at_) with
  | nil =>
    have hn : l[lowC l at_]? = none := by rw [← List.head?_drop, hr]; rfl
    refine ⟨l.take (lowC l at_), [], hA, by simp, hs1, by simp [SortC], .inl (by rw [List.append_nil]; rw [hr, List.append_nil] at hsplit; exact hsplit.symm), fun b => ?_⟩
    unfold putC hitC
    rw [hn]
    simp only [Bool.false_eq_true, if_false, Nat.add_zero, hr]
  | cons p C =>
    have hp : l[lowC l at_]? = some p := by rw [← List.head?_drop, hr]; rfl
    have hge := hhd p hp
    rw [hr] at hs2
    obtain ⟨hpC, hsC⟩ := List.pairwise_cons.1 (show ((p :: C).map (·.1)).Pairwise (· < ·) from hs2)
    have hC : ∀ q ∈ C, p.1 < q.1 := fun q hq => hpC q.1 (List.mem_map.2 ⟨q, hq, rfl⟩)
    have hdC : l.drop (lowC l at_ + 1) = C := by rw [← List.drop_drop, hr]; rfl
    by_cases hk : p.1 = at_
    · refine ⟨l.take (lowC l at_), C, hA, fun q hq => by have := hC q hq; omega, hs1, hsC, .inr ⟨p.2, ?_⟩, fun b => ?_⟩
      · rw [hr] at hsplit; rw [show (at_, p.2) = p from by rw [← hk]]; exact hsplit.symm
      · unfold putC hitC
        rw [hp]
        simp only [hk, decide_true, if_true, hdC]
    · refine ⟨l.take (lowC l at_), p :: C, hA, fun q hq => ?_, hs1, hs2, .inl (by rw [hr] at hsplit; exact hsplit.symm), fun b => ?_⟩
      · rcases List.mem_cons.1 hq with rfl | hq
        · omega
        · have := hC q hq; omega
      · unfold putC hitC
        rw [hp]
        simp only [hk, decide_false, Bool.false_eq_true, if_false, Nat.add_zero, hr]
theorem putC_find {l : List (Int × List UInt8)} (hs : SortC l) (at_ : Int) (b : List UInt8) (k : Int) : findM (putC l at_ b) k = if k = at_ then (if blankB b then none else some b) else findM l k := by
  obtain ⟨A, C, hA, hC, -, -, hl, hp⟩ := split_at hs at_
  rw [hp b, findM_app, findM_app]
  by_cases hk : k = at_
  · subst hk
    rw [if_pos rfl, find_none_of (fun p hp => by have := hA p hp; omega), find_none_of (l := C) (fun p hp => by have := hC p hp; omega)]
    cases blankB b <;> simp [findM]
  · rw [if_neg hk]
    have hm : findM (if blankB b then [] else [(at_, b)]) k = none := by
      refine find_none_of fun p hp => ?_
      split at hp
      · cases hp
      · rw [List.mem_singleton.1 hp]; exact fun h => hk h.symm
    rw [hm]
    rcases hl with rfl | ⟨x, rfl⟩
    · rw [findM_app]; simp
    · rw [findM_app]
      have : findM ((at_, x) :: C) k = findM C k := by
        conv => lhs; unfold findM
        rw [if_neg (fun h => hk h.symm)]
      rw [this]; simp
theorem putC_sorted {l : List (Int × List UInt8)} (hs : SortC l) (at_ : Int) (b : List UInt8) : SortC (putC l at_ b) := by
  obtain ⟨A, C, hA, hC, h1, h2, -, hp⟩ := split_at hs at_
  rw [hp b]
  unfold SortC at *
  rw [List.map_append, List.map_append, List.append_assoc]
  refine List.pairwise_append.2 ⟨h1, List.pairwise_append.2 ⟨?_, h2, ?_⟩, ?_⟩
  · split <;> simp
  · intro x hx y hy
    split at hx
    · cases hx
    · have e1 : x = at_ := by simpa using hx
      obtain ⟨q, hq, rfl⟩ := List.mem_map.1 hy
      rw [e1]; exact hC q hq
  · intro x hx y hy
    obtain ⟨p, hp, rfl⟩ := List.mem_map.1 hx
    have hpa := hA p hp
    rcases List.mem_append.1 hy with hy | hy
    · split at hy
      · cases hy
      · have e1 : y = at_ := by simpa using hy
        rw [e1]; exact hpa
    · obtain ⟨q, hq, rfl⟩ := List.mem_map.1 hy
      have := hC q hq
      omega
theorem sort_nodup {l : List (Int × List UInt8)} (hs : SortC l) : (l.map (·.1)).Nodup := hs.imp fun h e => by rw [e] at h; exact absurd h (Int.lt_irrefl _)
theorem putC_safe {pages : Int} {l : List (Int × List UInt8)} (hs : SortC l) (h : SafeOK pages l) {at_ : Int} {b : List UInt8} (hb : b.length = 256) (ha : 0 ≤ at_ ∧ at_ < pages) : SafeOK pages (putC l at_ b) := by
  refine ⟨sort_nodup (putC_sorted hs _ _), putC_page h.page hb, fun p hp => ?_, fun p hp => ?_⟩ <;> unfold putC at hp
  · rcases List.mem_append.1 hp with hp | hp
    · rcases List.mem_append.1 hp with hp | hp
      · exact h.nb p (List.take_subset _ _ hp)
      · split at hp
        · cases hp
        · rename_i hbl; rw [List.mem_singleton.1 hp]; simpa using hbl
    · exact h.nb p (List.drop_subset _ _ hp)
  · rcases List.mem_append.1 hp with hp | hp
    · rcases List.mem_append.1 hp with hp | hp
      · exact h.rng p (List.take_subset _ _ hp)
      · split at hp
        · cases hp
        · rw [List.mem_singleton.1 hp]; exact ha
    · exact h.rng p (List.drop_subset _ _ hp)

/-- The same pages, in order. -/
structure Pgs (pages : Int) (c m : List (Int × List UInt8)) : Prop where
  sort : SortC c
  cs : SafeOK pages c
  ms : SafeOK pages m
  find : ∀ k, findM c k = findM m k
theorem Pgs.pageOr {pages : Int} {c m : List (Int × List UInt8)} (h : Pgs pages c m) (k : Int) : pageOr c k = pageOr m k := by unfold Proofs.YtgpmfdmiffbgpaaGreatDoor.pageOr; rw [h.find]
theorem blank_z : blankB z256 = true := blank_zeros 256
theorem Pgs.settle {pages : Int} {c m : List (Int × List UInt8)} (h : Pgs pages c m) {at_ : Int} {o : Option (List UInt8)} {keep : Int} (ho : ∀ b, o = some b → b.length = 256) (ha : 0 ≤ at_ ∧ at_ < pages) :
    Pgs pages (settleC c at_ o keep) (settleM m at_ o keep) := by
  have hm := (settle_safe (keep := keep) h.ms ho ha).1
  cases o with
  | none =>
    unfold settleC settleM at *
    simp only at *
    by_cases hk : keep < 256
    · rw [if_pos hk, if_neg (by omega)]; exact h
    · rw [if_neg hk, if_pos (by omega)]
      rw [if_pos (by omega)] at hm
      refine ⟨putC_sorted h.sort _ _, putC_safe h.sort h.cs (by simp [z256]) ha, hm, fun k => ?_⟩
      rw [putC_find h.sort, findM_del h.ms.nodup, blank_z, h.find]
      by_cases hka : k = at_
      · rw [if_pos hka, if_pos rfl, if_pos hka.symm]
      · rw [if_neg hka, if_neg (fun e => hka e.symm)]
  | some b =>
    have hb := ho b rfl
    have hS : settleC c at_ (some b) keep = putC c at_ (b.take (keepN keep) ++ (Proofs.YtgpmfdmiffbgpaaGreatDoor.pageOr c at_).drop (keepN keep)) := rfl
    rw [hS, h.pageOr]
    have hpl : (Proofs.YtgpmfdmiffbgpaaGreatDoor.pageOr m at_).length = 256 := pageOr_len h.ms.page at_
    have hkl : keepN keep ≤ 256 := by unfold keepN; omega
    have hnl : (b.take (keepN keep) ++ (Proofs.YtgpmfdmiffbgpaaGreatDoor.pageOr m at_).drop (keepN keep)).length = 256 := by rw [List.length_append, List.length_take, List.length_drop]; omega
    refine ⟨putC_sorted h.sort _ _, putC_safe h.sort h.cs hnl ha, hm, fun k => ?_⟩
    rw [putC_find h.sort]
    unfold settleM
    simp only
    by_cases hk : keep ≤ 0
    · rw [if_pos hk, show keepN keep = 0 from by unfold keepN; omega, List.take_zero, List.nil_append, List.drop_zero, h.find]
      by_cases hka : k = at_
      · subst hka
        rw [if_pos rfl]
        unfold Proofs.YtgpmfdmiffbgpaaGreatDoor.pageOr
        cases hf : findM m k with
        | none => simp [blank_z]
        | some w =>
          have := h.ms.nb _ (mem_find hf)
          simp only [Option.getD_some]
          rw [if_neg (by simpa using this)]
      · rw [if_neg hka]
    · rw [if_neg hk]
      have e1 : (min keep 256).toNat = keepN keep := rfl
      rw [e1]
      by_cases hbl : blankB (b.take (keepN keep) ++ (Proofs.YtgpmfdmiffbgpaaGreatDoor.pageOr m at_).drop (keepN keep)) = true
      · rw [if_pos hbl, if_pos hbl, findM_del h.ms.nodup, h.find]
        by_cases hka : k = at_
        · rw [if_pos hka, if_pos hka.symm]
        · rw [if_neg hka, if_neg (fun e => hka e.symm)]
      · rw [if_neg hbl, if_neg hbl, findM_upd, h.find]
        by_cases hka : k = at_
        · rw [if_pos hka, if_pos hka.symm]
        · rw [if_neg hka, if_neg (fun e => hka e.symm)]
theorem Pgs.all {pages : Int} : ∀ {ls : List (Int × Option (List UInt8))} {c m : List (Int × List UInt8)}, Pgs pages c m → (∀ p ∈ ls, ∀ b, p.2 = some b → b.length = 256) → (∀ p ∈ ls, 0 ≤ p.1 ∧ p.1 < pages) → Pgs pages (settleAllC c ls) (settleAll m ls)
  | [], _, _, h, _, _ => h
  | p :: ls, c, m, h, h1, h2 => Pgs.all (ls := ls) (h.settle (keep := 256) (h1 p (by simp)) (h2 p (by simp))) (fun q hq => h1 q (by simp [hq])) (fun q hq => h2 q (by simp [hq]))
theorem Pgs.keep {pages : Int} : ∀ {ls : List (Int × Option (List UInt8))} {ks : List Int} {c m : List (Int × List UInt8)}, Pgs pages c m → (∀ p ∈ ls, ∀ b, p.2 = some b → b.length = 256) → (∀ p ∈ ls, 0 ≤ p.1 ∧ p.1 < pages) → Pgs pages (settleKeepC c ls ks) (settleKeep m ls ks)
  | [], _, _, _, h, _, _ => h
  | _ :: _, [], _, _, h, _, _ => h
  | p :: ls, k :: ks, c, m, h, h1, h2 => Pgs.keep (ls := ls) (ks := ks) (h.settle (keep := k) (h1 p (by simp)) (h2 p (by simp))) (fun q hq => h1 q (by simp [hq])) (fun q hq => h2 q (by simp [hq]))

abbrev wc (s : Fl) (c : List (Int × List UInt8)) : Fl := { s with safe := c }
theorem burnS_wc (s : Fl) (c : List (Int × List UInt8)) : burnS (wc s c) = wc (burnS s) c := by unfold burnS; split <;> rfl
theorem changeS_wc (s : Fl) (c : List (Int × List UInt8)) (at_ : Int) (o : Option (List UInt8)) : changeS (wc s c) at_ o = wc (changeS s at_ o) c := burnS_wc { s with loose := s.loose ++ [(at_, o)] } c
theorem writeS_wc (s : Fl) (c : List (Int × List UInt8)) (at_ : Int) (b : List UInt8) : writeS (wc s c) at_ b = wc (writeS s at_ b) c := by
  unfold writeS
  have : checkF (wc s c) at_ = checkF s at_ := rfl
  rw [this]
  split
  · rfl
  · exact changeS_wc s c at_ _
theorem trimS_wc (s : Fl) (c : List (Int × List UInt8)) (at_ : Int) : trimS (wc s c) at_ = wc (trimS s at_) c := by
  unfold trimS
  have : checkF (wc s c) at_ = checkF s at_ := rfl
  rw [this]
  split
  · rfl
  · exact changeS_wc s c at_ _
theorem tputS_wc (s : Fl) (c : List (Int × List UInt8)) (n at_ kd : Int) (b : List UInt8) : tputS (wc s c) n at_ kd b = wc (tputS s n at_ kd b) c := by
  unfold tputS; split
  · rfl
  · exact writeS_wc s c at_ _
theorem changeS_safe (s : Fl) (at_ : Int) (o : Option (List UInt8)) : (changeS s at_ o).safe = s.safe := burnS_safe _
theorem writeS_safe (s : Fl) (at_ : Int) (b : List UInt8) : (writeS s at_ b).safe = s.safe := by unfold writeS; split; (· rfl); (· exact changeS_safe _ _ _)
theorem trimS_safe (s : Fl) (at_ : Int) : (trimS s at_).safe = s.safe := by unfold trimS; split; (· rfl); (· exact changeS_safe _ _ _)
theorem changeS_pages (s : Fl) (at_ : Int) (o : Option (List UInt8)) : (changeS s at_ o).pages = s.pages := burnS_pages _
theorem writeS_pages (s : Fl) (at_ : Int) (b : List UInt8) : (writeS s at_ b).pages = s.pages := by unfold writeS; split; (· rfl); (· exact changeS_pages _ _ _)
theorem trimS_pages (s : Fl) (at_ : Int) : (trimS s at_).pages = s.pages := by unfold trimS; split; (· rfl); (· exact changeS_pages _ _ _)
def flushCC (s : Fl) (c : List (Int × List UInt8)) : List (Int × List UInt8) := if s.down = true then c else if burnB s then c else settleAllC c s.loose
theorem flush_wc (s : Fl) (c : List (Int × List UInt8)) : flush04S (wc s c) = wc (flushS s) (flushCC s c) := by
  unfold flush04S flushS flushCC
  have h1 : burnB (wc s c) = burnB s := rfl
  rw [h1, burnS_wc]
  by_cases hd : s.down = true
  · rw [if_pos hd, if_pos hd, if_pos hd]
  · rw [if_neg hd, if_neg hd, if_neg hd]
    split <;> rfl

/-- A device of the program and the document's pages for it. -/
structure Rel (s : Fl) (c : List (Int × List UInt8)) (n : Nat) : Prop where
  b : s.B n
  pg : Pgs s.pages c s.safe
  len : c.length + s.loose.length ≤ n
theorem Rel.rb {s : Fl} {c : List (Int × List UInt8)} {n : Nat} (h : Rel s c n) : (wc s c).B n := { h.b with safe := h.pg.cs, len := h.len }
theorem Rel.mono {s : Fl} {c : List (Int × List UInt8)} {n m : Nat} (h : Rel s c n) (hm : n ≤ m) : Rel s c m := ⟨h.b.mono hm, h.pg, Nat.le_trans h.len hm⟩
theorem B_R {s : Fl} {n : Nat} (h : s.B n) (hn : n < 2 ^ 29) : s.R := ⟨h.safe.page, h.lpage, by have := h.len; omega, (h.wf (by omega)).w⟩
theorem rel_new {p : Int} (h1 : 1 ≤ p) (h2 : p ≤ 4096) : Rel (newFl p) [] 0 := ⟨newFl_B h1 h2, ⟨List.Pairwise.nil, (newFl_B h1 h2).safe, (newFl_B h1 h2).safe, fun _ => rfl⟩, by simp [newFl]⟩
theorem Rel.write {s : Fl} {c : List (Int × List UInt8)} {n : Nat} (h : Rel s c n) (at_ : Int) (b : List UInt8) : Rel (writeS s at_ b) c (n + 1) :=
  ⟨writeS_B h.b at_ b, by rw [writeS_pages, writeS_safe]; exact h.pg, by have := (writeS_B h.rb at_ b).len; rw [writeS_wc] at this; exact this⟩
theorem Rel.trim {s : Fl} {c : List (Int × List UInt8)} {n : Nat} (h : Rel s c n) (at_ : Int) : Rel (trimS s at_) c (n + 1) :=
  ⟨trimS_B h.b at_, by rw [trimS_pages, trimS_safe]; exact h.pg, by have := (trimS_B h.rb at_).len; rw [trimS_wc] at this; exact this⟩
theorem Rel.put {s : Fl} {c : List (Int × List UInt8)} {m : Nat} (h : Rel s c m) (n at_ kd : Int) (b : List UInt8) : Rel (tputS s n at_ kd b) c (m + 1) := by
  unfold tputS; split
  · exact h.mono (Nat.le_succ _)
  · exact h.write _ _
theorem Rel.fuse {s : Fl} {c : List (Int × List UInt8)} {n : Nat} (h : Rel s c n) {k : Int} (hk : k < 9223372036854775808) : Rel (fuseS s k) c n := ⟨fuseS_B h.b hk, h.pg, h.len⟩
theorem Rel.crash {s : Fl} {c : List (Int × List UInt8)} {n : Nat} (h : Rel s c n) (keep : List Int) : Rel (crashS s keep) (settleKeepC c s.loose keep) n :=
  ⟨crashS_B h.b keep, h.pg.keep h.b.lpage h.b.lrng, by have := (settleKeepC_ok (ls := s.loose) (ks := keep) h.pg.cs.page h.b.lpage).2; have := h.len; show _ + 0 ≤ n; omega⟩
theorem Rel.flush {s : Fl} {c : List (Int × List UInt8)} {n : Nat} (h : Rel s c n) : Rel (flushS s) (flushCC s c) (n + 1) := by
  have hb := flushS_B h.b
  have hl := (settleAllC_ok (ls := s.loose) h.pg.cs.page h.b.lpage).2
  have h3 := h.len
  have e := burnS_pages s
  have e2 := burnS_safe s
  have e3 := burnS_loose s
  unfold flushS flushCC at *
  by_cases hd : s.down = true
  · rw [if_pos hd] at hb ⊢; rw [if_pos hd]; exact ⟨hb, h.pg, by omega⟩
  · rw [if_neg hd] at hb ⊢; rw [if_neg hd]
    by_cases hbb : burnB s = true
    · rw [if_pos hbb] at hb ⊢; rw [if_pos hbb]; exact ⟨hb, by rw [e, e2]; exact h.pg, by rw [e3]; omega⟩
    · rw [if_neg hbb] at hb ⊢; rw [if_neg hbb]; exact ⟨hb, by show Pgs (burnS s).pages _ _; rw [e]; exact h.pg.all h.b.lpage h.b.lrng, by show _ + 0 ≤ _; omega⟩
theorem Rel.look {s : Fl} {c : List (Int × List UInt8)} {n : Nat} (h : Rel s c n) (k : Int) : lookB (wc s c) k = lookB s k := by
  unfold lookB
  cases lookL s.loose k with
  | some o => rfl
  | none => exact congrArg (Option.getD · z256) (h.pg.find k)

theorem cellsAt_ext {s : Fl} {k1 k2 : List Int} (h1 : k1.Pairwise (· < ·)) (h2 : k2.Pairwise (· < ·)) (h : ∀ k, blankB (lookB s k) = false → (k ∈ k1 ↔ k ∈ k2)) : cellsAt s k1 = cellsAt s k2 := by
  unfold cellsAt
  rw [List.filter_map, List.filter_map]
  congr 1
  refine sorted_ext (h1.filter _) (h2.filter _) fun k => ?_
  rw [List.mem_filter, List.mem_filter]
  simp only [Function.comp_apply, Bool.not_eq_true']
  constructor
  · rintro ⟨h3, h4⟩; exact ⟨(h k h4).1 h3, h4⟩
  · rintro ⟨h3, h4⟩; exact ⟨(h k h4).2 h3, h4⟩
theorem upto_lt (n : Nat) : (upto n).Pairwise (· < ·) := by
  unfold upto
  rw [List.pairwise_map]
  exact List.pairwise_lt_range.imp fun h => by omega
theorem upto_mem {n : Nat} {k : Int} : k ∈ upto n ↔ 0 ≤ k ∧ k < n := by
  unfold upto
  rw [List.mem_map]
  constructor
  · rintro ⟨i, hi, rfl⟩; have := List.mem_range.1 hi; omega
  · rintro ⟨h1, h2⟩; exact ⟨k.toNat, List.mem_range.2 (by omega), by omega⟩
theorem lookL_mem {l : List (Int × Option (List UInt8))} {k : Int} (h : k ∉ l.map (·.1)) : lookL l k = none := foldl_none fun p hp e => h (List.mem_map.2 ⟨p, hp, e⟩)
theorem cells_all {s : Fl} {n : Nat} (h : s.B n) : cellsAt s (upto s.pages.toNat) = cellsF s := by
  refine cellsAt_ext (upto_lt _) (keysF_lt s) fun k hk => ?_
  have hp := h.p1
  have hmem : k ∈ s.safe.map (·.1) ∨ k ∈ s.loose.map (·.1) := by
    by_cases h1 : k ∈ s.loose.map (·.1)
    · exact .inr h1
    · by_cases h2 : k ∈ s.safe.map (·.1)
      · exact .inl h2
      · exfalso
        have : lookB s k = z256 := by unfold lookB; rw [lookL_mem h1, findM_none.2 h2]; rfl
        rw [this, blank_z] at hk; cases hk
  rw [upto_mem, keysF_mem]
  refine ⟨fun _ => hmem, fun _ => ?_⟩
  rcases hmem with hm | hm
  · obtain ⟨p, hp2, rfl⟩ := List.mem_map.1 hm
    have := h.safe.rng p hp2; omega
  · obtain ⟨p, hp2, rfl⟩ := List.mem_map.1 hm
    have := h.lrng p hp2; omega
theorem Rel.cells {s : Fl} {c : List (Int × List UInt8)} {n : Nat} (h : Rel s c n) : cellsAt (wc s c) (upto (wc s c).pages.toNat) = cellsF s := by
  rw [← cells_all h.b]
  unfold cellsAt
  have : (fun k => (k, lookB (wc s c) k)) = fun k => (k, lookB s k) := by funext k; rw [h.look]
  rw [this]
end Go.Proofs.YtgpmfdmiffbgpaaGreatDoor
end

section
namespace Go.Proofs.YtgpmfdmiffbgpaaGreatDoor
open Go Go.Av
set_option linter.unusedVariables false
set_option linter.unusedSimpArgs false
set_option maxRecDepth 100000
set_option maxHeartbeats 4000000
attribute [local go_sem] packed List.set_cons_zero List.set_cons_succ List.cons_append List.nil_append bytesRows_length cellRows_len chRows_len rCells intRows_len
attribute [-go_sem] cellsOf AV.isCell
attribute [local go_sem] cellsOf_agg cellsOf_int cellsOf_bool cellsOf_str cellsOf_map cellsOf_ptr cellsOf_nilI cellsOf_slice cellsOf_sl cellsOf_ifc cellsOf_fp cellsOf_opt optAV_cell icell_int icell_bool icell_str icell_map icell_ptr icell_nilI icell_slice icell_sl icell_ifc icell_fp

/-! ### TicketDoes -/
theorem getBox_GL (Δ : List HP) (b : Nat) : getBox (GL :: Δ) b = getBox Δ b := rfl
theorem setBox_GL (Δ : List HP) (b : Nat) (c : List AV) : setBox (GL :: Δ) b c = GL :: setBox Δ b c := rfl
theorem fresh_GL (Δ : List HP) (b : Nat) : fresh (GL :: Δ) b = fresh Δ b := rfl
attribute [local go_sem] getBox_GL setBox_GL fresh_GL
structure OpT where
  kind : Int
  at_ : Int
  page : Int
  b : List UInt8
  keep : List Int
def OpT.cells (o : OpT) : List AV := [.c (.int .i64 o.kind), .c (.int .i64 o.at_), .c (.int .i64 o.page), .sl 1 (bytesRows o.b), .sl 1 (intRows o.keep)]
def opsT (l : List OpT) : List (List AV) := l.map OpT.cells
theorem opsT_len (l : List OpT) : (opsT l).length = l.length := by simp [opsT]
theorem opsT_get {l : List OpT} {i : Nat} {o : OpT} (h : l[i]? = some o) : (opsT l)[i]? = some [.c (.int .i64 o.kind), .c (.int .i64 o.at_), .c (.int .i64 o.page), .sl 1 (bytesRows o.b), .sl 1 (intRows o.keep)] := by simp [opsT, h, OpT.cells]
def lightOpT (o : OpT) : Bool := decide (o.b.length ≤ 300 ∧ o.keep.length ≤ 60)
def lightT (l : List OpT) : Bool := decide (l.length ≤ 40) && l.all lightOpT
theorem light10_ok (l : List OpT) (hl : l.length < 2 ^ 40) (hll : ∀ o ∈ l, o.b.length < 2 ^ 37 ∧ o.keep.length < 2 ^ 37) : ACalls Tryz.prog 14 [.sl 5 (opsT l)] [] (Ret (.c (.bool (lightT l)))) := by
  refine calls_of_J cl_14 Tryz.func14 rfl (by simp [Tryz.ntmps14]) ?_
  refine J_mrun (own := []) (m := 2000) (by simp (maxSteps := 2000000) (disch := omega) only [go_sem, ↓reduceIte, Int.reduceLT, Int.reduceLE, Int.reduceToNat, Int.reducePow, Int.reduceNeg, Nat.reduceBEq, Tryz.ntmps14, opsT_len] <;> with_reducible rfl) ?_
  refine J_if (by simp only [go_sem, ↓reduceIte, Int.reduceLT, Int.reduceLE, Int.reduceToNat, Int.reducePow, Int.reduceNeg, Nat.reduceBEq] <;> with_reducible rfl) (fun hc => ?_) (fun hc => ?_)
  · refine J_mrun (own := []) (m := 2000) (by simp (maxSteps := 2000000) (disch := omega) only [go_sem, ↓reduceIte, Int.reduceLT, Int.reduceLE, Int.reduceToNat, Int.reducePow, Int.reduceNeg, Nat.reduceBEq, Tryz.ntmps14] <;> with_reducible rfl) ?_
    refine J_retX Tryz.func14 (by simp only [go_sem, ↓reduceIte, Int.reduceLT, Int.reduceLE, Int.reduceToNat, Int.reducePow, Int.reduceNeg, Nat.reduceBEq, Tryz.f14] <;> first | with_reducible rfl | rfl) ⟨by simp [lightT, show ¬ l.length ≤ 40 by omega], rfl⟩
  · refine J_mrun (own := []) (m := 2000) (by simp (maxSteps := 2000000) (disch := omega) only [go_sem, ↓reduceIte, Int.reduceLT, Int.reduceLE, Int.reduceToNat, Int.reducePow, Int.reduceNeg, Nat.reduceBEq, Tryz.ntmps14] <;> with_reducible rfl) ?_
    refine J_keep [0, 3] (by simp only [go_sem, ↓reduceIte, Int.reduceLT, Int.reduceLE, Int.reduceToNat, Int.reducePow, Int.reduceNeg, Nat.reduceBEq] <;> with_reducible rfl) ?_
    refine J_loopI (I := fun m e D => ∃ i : Nat, i ≤ l.length ∧ m = l.length - i ∧ D = [] ∧ (∀ j (h : j < l.length), j < i → lightOpT l[j] = true) ∧ e = [(0, .sl 5 (opsT l)), (3, .c (.int .i64 i))]) ?_ ?_
    · exact ⟨_, 0, by omega, rfl, rfl, fun j h hj => by omega, rfl⟩
    · rintro m e D ⟨i, hi, rfl, rfl, hz, rfl⟩ ih
      refine J_mrun (own := []) (m := 2000) (by simp (maxSteps := 2000000) (disch := omega) only [go_sem, ↓reduceIte, Int.reduceLT, Int.reduceLE, Int.reduceToNat, Int.reducePow, Int.reduceNeg, Nat.reduceBEq, Tryz.ntmps14, opsT_len] <;> with_reducible rfl) ?_
      refine J_if (by simp only [go_sem, ↓reduceIte, Int.reduceLT, Int.reduceLE, Int.reduceToNat, Int.reducePow, Int.reduceNeg, Nat.reduceBEq] <;> with_reducible rfl) (fun hcl => ?_) (fun hcl => ?_)
      · have hlt : i < l.length := by omega
        have g1 := opsT_get (List.getElem?_eq_getElem hlt)
        have h0 : (0 : Int) ≤ (i : Int) := by omega
        have hno : lightOpT l[i] = false → lightT l = false := fun h => by
          unfold lightT
          rw [List.all_eq_false.2 ⟨l[i], List.getElem_mem _, by simp [h]⟩, Bool.and_false]
        have hb := hll _ (List.getElem_mem hlt)
        have hdef : lightOpT l[i] = decide (l[i].b.length ≤ 300 ∧ l[i].keep.length ≤ 60) := rfl
        by_cases h1 : l[i].b.length > 300
        · have d1 := decide_eq_true (show (l[i].b.length : Int) > 300 by omega)
          refine J_mrun (own := []) (m := 2000) (by simp (maxSteps := 2000000) (disch := omega) only [go_sem, ↓reduceIte, Int.reduceLT, Int.reduceLE, Int.reduceToNat, Int.reducePow, Int.reduceNeg, Nat.reduceBEq, Tryz.ntmps14, g1, opsT_len, d1] <;> with_reducible rfl) ?_
          refine J_true (by simp only [go_sem, ↓reduceIte, Int.reduceLT, Int.reduceLE, Int.reduceToNat, Int.reducePow, Int.reduceNeg, Nat.reduceBEq] <;> with_reducible rfl) ?_
          refine J_mrun (own := []) (m := 2000) (by simp (maxSteps := 2000000) (disch := omega) only [go_sem, ↓reduceIte, Int.reduceLT, Int.reduceLE, Int.reduceToNat, Int.reducePow, Int.reduceNeg, Nat.reduceBEq, Tryz.ntmps14] <;> with_reducible rfl) ?_
          refine J_retX Tryz.func14 (by simp only [go_sem, ↓reduceIte, Int.reduceLT, Int.reduceLE, Int.reduceToNat, Int.reducePow, Int.reduceNeg, Nat.reduceBEq, Tryz.f14] <;> first | with_reducible rfl | rfl) ⟨by rw [hno (by rw [hdef]; exact decide_eq_false (by omega))], rfl⟩
        · have d1 := decide_eq_false (show ¬ (l[i].b.length : Int) > 300 by omega)
          by_cases h2 : l[i].keep.length > 60
          · have d2 := decide_eq_true (show (l[i].keep.length : Int) > 60 by omega)
            refine J_mrun (own := []) (m := 2000) (by simp (maxSteps := 2000000) (disch := omega) only [go_sem, ↓reduceIte, Int.reduceLT, Int.reduceLE, Int.reduceToNat, Int.reducePow, Int.reduceNeg, Nat.reduceBEq, Tryz.ntmps14, g1, opsT_len, d1, d2] <;> with_reducible rfl) ?_
            refine J_true (by simp only [go_sem, ↓reduceIte, Int.reduceLT, Int.reduceLE, Int.reduceToNat, Int.reducePow, Int.reduceNeg, Nat.reduceBEq] <;> with_reducible rfl) ?_
            refine J_mrun (own := []) (m := 2000) (by simp (maxSteps := 2000000) (disch := omega) only [go_sem, ↓reduceIte, Int.reduceLT, Int.reduceLE, Int.reduceToNat, Int.reducePow, Int.reduceNeg, Nat.reduceBEq, Tryz.ntmps14] <;> with_reducible rfl) ?_
            refine J_retX Tryz.func14 (by simp only [go_sem, ↓reduceIte, Int.reduceLT, Int.reduceLE, Int.reduceToNat, Int.reducePow, Int.reduceNeg, Nat.reduceBEq, Tryz.f14] <;> first | with_reducible rfl | rfl) ⟨by rw [hno (by rw [hdef]; exact decide_eq_false (by omega))], rfl⟩
          · have d2 := decide_eq_false (show ¬ (l[i].keep.length : Int) > 60 by omega)
            refine J_mrun (own := []) (m := 2000) (by simp (maxSteps := 2000000) (disch := omega) only [go_sem, ↓reduceIte, Int.reduceLT, Int.reduceLE, Int.reduceToNat, Int.reducePow, Int.reduceNeg, Nat.reduceBEq, Tryz.ntmps14, g1, opsT_len, d1, d2] <;> with_reducible rfl) ?_
            refine J_false (by simp only [go_sem, ↓reduceIte, Int.reduceLT, Int.reduceLE, Int.reduceToNat, Int.reducePow, Int.reduceNeg, Nat.reduceBEq] <;> with_reducible rfl) ?_
            refine J_mrun (own := []) (m := 2000) (by simp (maxSteps := 2000000) (disch := omega) only [go_sem, ↓reduceIte, Int.reduceLT, Int.reduceLE, Int.reduceToNat, Int.reducePow, Int.reduceNeg, Nat.reduceBEq, Tryz.ntmps14] <;> with_reducible rfl) ?_
            refine J_keep [0, 3] (by simp only [go_sem, ↓reduceIte, Int.reduceLT, Int.reduceLE, Int.reduceToNat, Int.reducePow, Int.reduceNeg, Nat.reduceBEq] <;> with_reducible rfl) ?_
            refine ih _ _ _ ?_ ⟨i + 1, by omega, rfl, rfl, ?_, rfl⟩
            · omega
            · intro j h hj
              by_cases hji : j = i
              · subst hji; rw [hdef]; exact decide_eq_true ⟨by omega, by omega⟩
              · exact hz j h (by omega)
      · have hi' : i = l.length := by omega
        subst hi'
        refine J_mrun (own := []) (m := 2000) (by simp (maxSteps := 2000000) (disch := omega) only [go_sem, ↓reduceIte, Int.reduceLT, Int.reduceLE, Int.reduceToNat, Int.reducePow, Int.reduceNeg, Nat.reduceBEq, Tryz.ntmps14] <;> with_reducible rfl) ?_
        have : lightT l = true := by
          unfold lightT
          rw [decide_eq_true (show l.length ≤ 40 by omega), Bool.true_and, List.all_eq_true]
          intro o ho
          obtain ⟨j, hj, rfl⟩ := List.getElem_of_mem ho
          exact hz j hj hj
        refine J_retX Tryz.func14 (by simp only [go_sem, ↓reduceIte, Int.reduceLT, Int.reduceLE, Int.reduceToNat, Int.reducePow, Int.reduceNeg, Nat.reduceBEq, Tryz.f14] <;> first | with_reducible rfl | rfl) ⟨by rw [this], rfl⟩

theorem lightT_len {l : List OpT} (h : lightT l = true) : l.length ≤ 40 := by
  unfold lightT at h
  simp only [Bool.and_eq_true, decide_eq_true_eq] at h
  exact h.1
theorem lightT_ok {l : List OpT} (h : lightT l = true) : ∀ o ∈ l, o.b.length ≤ 300 ∧ o.keep.length ≤ 60 := by
  unfold lightT at h
  simp only [Bool.and_eq_true, List.all_eq_true] at h
  intro o ho
  have := h.2 o ho
  unfold lightOpT at this
  exact of_decide_eq_true this
theorem tputN_bd {s : Fl} {n at_ kd : Int} {b : List UInt8} (h : 1 ≤ n ∧ n ≤ 1099511627777) : 1 ≤ tputN s n at_ kd b ∧ tputN s n at_ kd b ≤ 1099511627777 := by
  unfold tputN
  split
  · rename_i hz
    have : checkC n kd b.length = 0 := by
      unfold tputC at hz
      false_or_by_contra
      rename_i hn
      rw [if_pos hn] at hz
      exact hn hz
    have := (checkC_zero this).1
    omega
  · exact h

def firmCC (s : Fl) (c : List (Int × List UInt8)) (n at_ kd : Int) (b : List UInt8) : List (Int × List UInt8) := if tputC s n at_ kd b ≠ 0 then c else flushCC (tputS s n at_ kd b) c
theorem firm_wc (s : Fl) (c : List (Int × List UInt8)) (n at_ kd : Int) (b : List UInt8) : tfirm04S (wc s c) n at_ kd b = wc (tfirmS s n at_ kd b) (firmCC s c n at_ kd b) := by
  unfold tfirm04S tfirmS firmCC
  have : tputC (wc s c) n at_ kd b = tputC s n at_ kd b := rfl
  rw [this, tputS_wc, flush_wc]
  split <;> rfl
theorem Rel.firm {s : Fl} {c : List (Int × List UInt8)} {m : Nat} (h : Rel s c m) (n at_ kd : Int) (b : List UInt8) : Rel (tfirmS s n at_ kd b) (firmCC s c n at_ kd b) (m + 2) := by
  unfold tfirmS firmCC
  by_cases hc : tputC s n at_ kd b ≠ 0
  · rw [if_pos hc, if_pos hc]; exact (h.put n at_ kd b).mono (by omega)
  · rw [if_neg hc, if_neg hc]; exact (h.put n at_ kd b).flush

theorem ticketDoes_ok (l : List OpT) (hl : l.length < 2 ^ 40) (hll : ∀ o ∈ l, (o.b.length < 2 ^ 37 ∧ o.keep.length < 2 ^ 37) ∧ o.at_ < 9223372036854775808) : ACalls Tryz.prog 4 [.sl 5 (opsT l)] [GL] (Ret (.c (.bool true))) := by
  refine calls_of_J cl_4 Tryz.func4 rfl (by simp [Tryz.ntmps4]) ?_
  refine J_mrun (own := []) (m := 2000) (by simp (maxSteps := 2000000) (disch := omega) only [go_sem, ↓reduceIte, Int.reduceLT, Int.reduceLE, Int.reduceToNat, Int.reducePow, Int.reduceNeg, Nat.reduceBEq, Tryz.ntmps4] <;> with_reducible rfl) ?_
  refine J_callp (by simp only [go_sem, ↓reduceIte, Int.reduceLT, Int.reduceLE, Int.reduceToNat, Int.reducePow, Int.reduceNeg, Nat.reduceBEq, Tryz.ntmps4] <;> with_reducible rfl) (light10_ok l hl (fun o ho => (hll o ho).1)) ?_
  refine J_mrun (own := []) (m := 2000) (by simp (maxSteps := 2000000) (disch := omega) only [go_sem, ↓reduceIte, Int.reduceLT, Int.reduceLE, Int.reduceToNat, Int.reducePow, Int.reduceNeg, Nat.reduceBEq, Tryz.ntmps4] <;> with_reducible rfl) ?_
  cases hlt : lightT l with
  | false =>
    simp only [Bool.not_false]
    refine J_true (by simp only [go_sem, ↓reduceIte, Int.reduceLT, Int.reduceLE, Int.reduceToNat, Int.reducePow, Int.reduceNeg, Nat.reduceBEq] <;> with_reducible rfl) ?_
    refine J_mrun (own := []) (m := 2000) (by simp (maxSteps := 2000000) (disch := omega) only [go_sem, ↓reduceIte, Int.reduceLT, Int.reduceLE, Int.reduceToNat, Int.reducePow, Int.reduceNeg, Nat.reduceBEq, Tryz.ntmps4] <;> with_reducible rfl) ?_
    refine J_callg (by simp only [go_sem, ↓reduceIte, Int.reduceLT, Int.reduceLE, Int.reduceToNat, Int.reducePow, Int.reduceNeg, Nat.reduceBEq, Tryz.ntmps4] <;> with_reducible rfl) (by simp [GL]) (works_ok) ?_
    refine J_mrun (own := []) (m := 2000) (by simp (maxSteps := 2000000) (disch := omega) only [go_sem, ↓reduceIte, Int.reduceLT, Int.reduceLE, Int.reduceToNat, Int.reducePow, Int.reduceNeg, Nat.reduceBEq, Tryz.ntmps4] <;> with_reducible rfl) ?_
    refine J_forget ?_
    refine J_retX Tryz.func4 (by simp only [go_sem, ↓reduceIte, Int.reduceLT, Int.reduceLE, Int.reduceToNat, Int.reducePow, Int.reduceNeg, Nat.reduceBEq, Tryz.f4] <;> first | with_reducible rfl | rfl) ⟨rfl, rfl⟩
  | true =>
    have hlen := lightT_len hlt
    have hok := lightT_ok hlt
    have hR0 := rel_new (p := 7) (by decide) (by decide)
    simp only [Bool.not_true]
    refine J_false (by simp only [go_sem, ↓reduceIte, Int.reduceLT, Int.reduceLE, Int.reduceToNat, Int.reducePow, Int.reduceNeg, Nat.reduceBEq] <;> with_reducible rfl) ?_
    refine J_mrun (own := []) (m := 2000) (by simp (maxSteps := 2000000) (disch := omega) only [go_sem, ↓reduceIte, Int.reduceLT, Int.reduceLE, Int.reduceToNat, Int.reducePow, Int.reduceNeg, Nat.reduceBEq, Tryz.ntmps4] <;> with_reducible rfl) ?_
    refine J_calls (by simp only [go_sem, ↓reduceIte, Int.reduceLT, Int.reduceLE, Int.reduceToNat, Int.reducePow, Int.reduceNeg, Nat.reduceBEq, Tryz.ntmps4] <;> with_reducible rfl) (fnew_ok 7 (by decide) (by decide)) (Δ1 := []) (Fr := [GL]) (by simp) ?_ (by rintro x Δ' ⟨f, e, _⟩; cases e)
    rintro x D ⟨f, e, hO⟩
    cases e
    refine J_perm List.perm_append_comm ?_
    refine J_mrun (own := []) (m := 2000) (by simp (maxSteps := 2000000) (disch := omega) only [go_sem, ↓reduceIte, Int.reduceLT, Int.reduceLE, Int.reduceToNat, Int.reducePow, Int.reduceNeg, Nat.reduceBEq, Tryz.ntmps4] <;> with_reducible rfl) ?_
    refine J_false (by simp only [go_sem, ↓reduceIte, Int.reduceLT, Int.reduceLE, Int.reduceToNat, Int.reducePow, Int.reduceNeg, Nat.reduceBEq] <;> with_reducible rfl) ?_
    refine J_mrun (own := []) (m := 2000) (by simp (maxSteps := 2000000) (disch := omega) only [go_sem, ↓reduceIte, Int.reduceLT, Int.reduceLE, Int.reduceToNat, Int.reducePow, Int.reduceNeg, Nat.reduceBEq, Tryz.ntmps4] <;> with_reducible rfl) ?_
    have ho := topen_ok hO (hR0.b.wf (by decide)) (hR0.b.small (by decide)) rfl (by rw [cellsF_new]; decide)
    refine J_calls (by simp only [go_sem, ↓reduceIte, Int.reduceLT, Int.reduceLE, Int.reduceToNat, Int.reducePow, Int.reduceNeg, Nat.reduceBEq, Tryz.ntmps4] <;> with_reducible rfl) ho (Δ1 := D) (Fr := [GL]) (List.perm_append_comm (l₁ := [_])) ?_ (by rintro x Δ' ⟨f, e, _⟩; cases e)
    rintro x _ ⟨t, e, rfl⟩
    cases e
    refine J_perm List.perm_append_comm ?_
    have hr0 := open10_ok (wc (newFl 7) []) rfl (by decide) (B_R hR0.rb (by decide))
    rw [hR0.cells] at hr0
    have hn0 := nextF_bd (newFl 7)
    have hnx : (cellsF (newFl 7)).foldl stepN 1 = nextF (newFl 7) := rfl
    rw [hnx] at hr0
    generalize nextF (newFl 7) = n0 at *
    unfold rAV tAV at hr0
    have hnil : (AV.agg [.c (.int .i64 7), .c (.slice none 0 0), .c (.slice none 0 0), .c (.int .i64 (-1)), .c (.bool false), .c (.int .i64 0)]).le (.agg (rCells (wc (newFl 7) []))) := fun g v h => by
      simp only [rel, relL, rCells] at h ⊢
      obtain ⟨us, rfl, v1, vs1, rfl, h1, v2, vs2, rfl, h2, v3, vs3, rfl, h3, v4, vs4, rfl, h4, v5, vs5, rfl, h5, v6, vs6, rfl, h6, rfl⟩ := h
      exact ⟨_, rfl, v1, _, rfl, h1, v2, _, rfl, ⟨none, 0, by rw [h2]; rfl, by decide, .inl rfl⟩, v3, _, rfl, ⟨none, 0, by rw [h3]; rfl, by decide, .inl rfl⟩, v4, _, rfl, h4, v5, _, rfl, h5, v6, _, rfl, h6, rfl⟩
    refine J_mrun (own := []) (m := 2000) (by simp (maxSteps := 2000000) (disch := omega) only [go_sem, ↓reduceIte, Int.reduceLT, Int.reduceLE, Int.reduceToNat, Int.reducePow, Int.reduceNeg, Nat.reduceBEq, Tryz.ntmps4] <;> with_reducible rfl) ?_
    refine J_wk (t := 38) (by simp only [go_sem]) hnil ?_
    refine J_callp (by simp only [go_sem, ↓reduceIte, Int.reduceLT, Int.reduceLE, Int.reduceToNat, Int.reducePow, Int.reduceNeg, Nat.reduceBEq, Tryz.ntmps4] <;> with_reducible rfl) (hr0) ?_
    refine J_mrun (own := [6]) (m := 2000) (by simp (maxSteps := 2000000) (disch := omega) only [go_sem, ↓reduceIte, Int.reduceLT, Int.reduceLE, Int.reduceToNat, Int.reducePow, Int.reduceNeg, Nat.reduceBEq, Tryz.ntmps4] <;> with_reducible rfl) ?_
    refine J_newvar rfl (by simp only [go_sem, ↓reduceIte, Int.reduceLT, Int.reduceLE, Int.reduceToNat, Int.reducePow, Int.reduceNeg, Nat.reduceBEq, Tryz.ntmps4]) (by simp only [go_sem, ↓reduceIte, Int.reduceLT, Int.reduceLE, Int.reduceToNat, Int.reducePow, Int.reduceNeg, Nat.reduceBEq] <;> with_reducible rfl) (fun b6 hb6 => ?_)
    refine J_mrun (own := []) (m := 2000) (by simp (maxSteps := 2000000) (disch := omega) only [go_sem, ↓reduceIte, Int.reduceLT, Int.reduceLE, Int.reduceToNat, Int.reducePow, Int.reduceNeg, Nat.reduceBEq, Tryz.ntmps4] <;> with_reducible rfl) ?_
    refine J_false (by simp only [go_sem, ↓reduceIte, Int.reduceLT, Int.reduceLE, Int.reduceToNat, Int.reducePow, Int.reduceNeg, Nat.reduceBEq] <;> with_reducible rfl) ?_
    refine J_mrun (own := []) (m := 2000) (by simp (maxSteps := 2000000) (disch := omega) only [go_sem, ↓reduceIte, Int.reduceLT, Int.reduceLE, Int.reduceToNat, Int.reducePow, Int.reduceNeg, Nat.reduceBEq, Tryz.ntmps4] <;> with_reducible rfl) ?_
    refine J_keep [0, 3, 5, 6, 8] (by simp only [go_sem, ↓reduceIte, Int.reduceLT, Int.reduceLE, Int.reduceToNat, Int.reducePow, Int.reduceNeg, Nat.reduceBEq] <;> with_reducible rfl) ?_
    refine J_loopI (I := fun w e D => ∃ (i : Nat) (s : Fl) (c : List (Int × List UInt8)) (n : Int) (t : Nat) (D1 : List HP), i ≤ l.length ∧ w = l.length - i ∧ Rel s c (3 * i) ∧ (1 ≤ n ∧ n ≤ 1099511627777) ∧ OwnF f s D1 ∧ D = .box b6 49 (rCells (wc s c) ++ [.c (.int .i64 n)]) :: GL :: tbox t f n :: D1 ∧ e = [(0, .sl 5 (opsT l)), (3, ptr f), (5, ptr t), (6, .c (.pointer (some ⟨b6, 0, none⟩))), (8, .c (.int .i64 i))]) ?_ ?_
    · exact ⟨_, 0, newFl 7, [], n0, t, D, Nat.zero_le _, rfl, hR0, hn0, hO, rfl, rfl⟩
    · rintro w e D ⟨i, s, c, n, t, D1, hi, rfl, hrel, hn, hO, rfl, rfl⟩ ih
      refine J_mrun (own := []) (m := 2000) (by simp (maxSteps := 2000000) (disch := omega) only [go_sem, ↓reduceIte, Int.reduceLT, Int.reduceLE, Int.reduceToNat, Int.reducePow, Int.reduceNeg, Nat.reduceBEq, Tryz.ntmps4, opsT_len] <;> with_reducible rfl) ?_
      refine J_if (by simp only [go_sem, ↓reduceIte, Int.reduceLT, Int.reduceLE, Int.reduceToNat, Int.reducePow, Int.reduceNeg, Nat.reduceBEq] <;> with_reducible rfl) (fun hc => ?_) (fun hc => ?_)
      · have hlt : i < l.length := by omega
        have g1 := opsT_get (List.getElem?_eq_getElem hlt)
        have h0 : (0 : Int) ≤ (i : Int) := by omega
        obtain ⟨hob, hok2⟩ := hok l[i] (List.getElem_mem _)
        have hoa := (hll l[i] (List.getElem_mem _)).2
        generalize l[i] = o at *
        have hwf := hrel.b.wf (by omega)
        refine J_mrun (own := [9]) (m := 2000) (by simp (maxSteps := 2000000) (disch := omega) only [go_sem, ↓reduceIte, Int.reduceLT, Int.reduceLE, Int.reduceToNat, Int.reducePow, Int.reduceNeg, Nat.reduceBEq, Tryz.ntmps4, g1] <;> with_reducible rfl) ?_
        refine J_newvar rfl (by simp only [go_sem, ↓reduceIte, Int.reduceLT, Int.reduceLE, Int.reduceToNat, Int.reducePow, Int.reduceNeg, Nat.reduceBEq, Tryz.ntmps4]) (by simp only [go_sem, ↓reduceIte, Int.reduceLT, Int.reduceLE, Int.reduceToNat, Int.reducePow, Int.reduceNeg, Nat.reduceBEq] <;> with_reducible rfl) (fun b9 hb9 => ?_)
        refine J_mrun (own := []) (m := 1) (by simp (maxSteps := 2000000) (disch := omega) only [go_sem, ↓reduceIte, Int.reduceLT, Int.reduceLE, Int.reduceToNat, Int.reducePow, Int.reduceNeg, Nat.reduceBEq, Tryz.ntmps4] <;> with_reducible rfl) ?_
        refine J_freeze (s := 9) (o := 0) (by simp only [go_sem]) ?_
        refine J_mrun (own := []) (m := 2000) (by simp (maxSteps := 2000000) (disch := omega) only [go_sem, ↓reduceIte, Int.reduceLT, Int.reduceLE, Int.reduceToNat, Int.reducePow, Int.reduceNeg, Nat.reduceBEq, Tryz.ntmps4] <;> with_reducible rfl) ?_
        refine J_cut (fun e D => ∃ s' c' n' t' D', Rel s' c' (3 * (i + 1)) ∧ (1 ≤ n' ∧ n' ≤ (1099511627777 : Int)) ∧ OwnF f s' D' ∧ D = .box b6 49 (rCells (wc s' c') ++ [.c (.int .i64 n')]) :: GL :: tbox t' f n' :: D' ∧ e.keep [0, 3, 5, 6, 8, 11] = some [(0, .sl 5 (opsT l)), (3, ptr f), (5, ptr t'), (6, .c (.pointer (some ⟨b6, 0, none⟩))), (8, .c (.int .i64 i)), (11, .c (.bool true))]) ?_ ?_
        · rintro e D ⟨s', c', n', t', D', hrel', hn', hO', rfl, hkeep⟩
          refine J_keep [0, 3, 5, 6, 8, 11] hkeep ?_
          have hwf' := hrel'.b.wf (by omega)
          have hce := (cellsF_ok hO' hwf' (hrel'.b.small (by omega))).around (Δ := .box b6 49 (rCells (wc s' c') ++ [.c (.int .i64 n')]) :: GL :: tbox t' f n' :: D') (Fr := [_, GL, _]) (List.perm_append_comm (l₁ := [_, GL, _]))
          have hnx := (tnext_ok (t := t') (f := f) (n := n')).around (Δ := .box b6 49 (rCells (wc s' c') ++ [.c (.int .i64 n')]) :: GL :: tbox t' f n' :: D') (Fr := [_, GL] ++ D') (List.perm_middle (l₁ := [_, GL]))
          have hall := all04_ok (wc s' c') (by have := hrel'.b.p1; have := hrel'.b.p2; show 0 ≤ s'.pages ∧ s'.pages ≤ 4096; omega) (lookB_len hrel'.rb.safe.page hrel'.rb.lpage) (by have := hrel'.rb.len; omega) (by have := hrel'.rb.len; omega)
          rw [hrel'.cells] at hall
          have hsm := same04_ok (cellsF s') (cellsF s') (by have := cellsF_len hrel'.b; omega)
          rw [decide_eq_true rfl] at hsm
          have hcl := cellsF_len hrel'.b
          unfold rAV at hall
          generalize cellsF s' = cs at *
          generalize hw9 : wc s' c' = r at *
          refine J_apart (b1 := b6) (b2 := t') (List.Perm.cons _ (List.Perm.swap _ _ _)) (fun ne1 ne2 => ?_)
          refine J_mrun (own := []) (m := 2000) (by simp (maxSteps := 2000000) (disch := omega) only [go_sem, ↓reduceIte, Int.reduceLT, Int.reduceLE, Int.reduceToNat, Int.reducePow, Int.reduceNeg, Nat.reduceBEq, Tryz.ntmps4] <;> with_reducible rfl) ?_
          refine J_draw [[], [0], [0, 1], [0, 1, 2], [0, 1, 2, 3], [0, 1, 2], [0, 1, 2, 5], [0, 1, 2, 3, 4, 5, 6], [0, 1, 2, 3, 4, 5, 6, 7], [0, 1, 2, 3, 4, 5, 6, 7, 8], [0, 1, 2, 3, 4, 5, 6, 7, 8, 9], [0, 1, 2, 3, 4, 5, 6, 7, 8, 9, 10], [0, 1, 2, 3, 4, 5, 6, 7, 8, 9, 10, 11], [0, 1, 2, 3, 4, 5, 6, 7, 8, 9, 10, 11, 12], [0, 1, 2, 3, 4, 5, 6, 7, 8, 9, 10, 11, 12, 13], [0, 1, 2, 3, 4, 5, 6, 7, 8, 9], [0, 1, 2, 3, 4, 5, 6, 7, 8, 9, 15], [0, 1, 2, 3, 4, 5, 6, 7, 8, 9, 10, 11, 12, 13, 14, 15, 16], [0, 1, 2, 3, 4, 5, 6, 7, 8, 9, 10, 11, 12, 13, 14, 15, 16, 17], [0, 1, 2, 3, 4, 5, 6, 7, 8, 9, 10, 11, 12, 13, 14, 15, 16, 17, 18], [0, 1, 2, 3, 4, 5, 6, 7, 8, 9, 10, 11, 12, 13, 14, 15, 16, 17, 18, 19]] [(0, .pure), (1, .pure), (2, .pure), (3, .pure), (4, .read), (5, .pure), (6, .read), (7, .pure), (8, .pure), (9, .pure), (10, .pure), (11, .pure), (12, .pure), (13, .read), (14, .read), (15, .pure), (16, .read), (17, .pure), (18, .pure), (19, .pure), (20, .pure)] mixed (by kernel_rfl) ?_
          refine Can_run (own := []) (by simp (maxSteps := 2000000) (disch := omega) only [go_sem, ↓reduceIte, Int.reduceLT, Int.reduceLE, Int.reduceToNat, Int.reducePow, Int.reduceNeg, Nat.reduceBEq, Tryz.ntmps4] <;> with_reducible rfl) ?_
          refine Can_callr (by simp only [go_sem, ↓reduceIte, Int.reduceLT, Int.reduceLE, Int.reduceToNat, Int.reducePow, Int.reduceNeg, Nat.reduceBEq, Tryz.ntmps4] <;> with_reducible rfl) (hnx) ?_
          refine Can_run (own := []) (by simp (maxSteps := 2000000) (disch := omega) only [go_sem, ↓reduceIte, Int.reduceLT, Int.reduceLE, Int.reduceToNat, Int.reducePow, Int.reduceNeg, Nat.reduceBEq, Tryz.ntmps4, ne_eq, eq_self, not_true_eq_false, decide_false, ne1, ne2] <;> with_reducible rfl) ?_
          refine Can_callr (by simp only [go_sem, ↓reduceIte, Int.reduceLT, Int.reduceLE, Int.reduceToNat, Int.reducePow, Int.reduceNeg, Nat.reduceBEq, Tryz.ntmps4] <;> with_reducible rfl) (hce) ?_
          refine Can_run (own := []) (by simp (maxSteps := 2000000) (disch := omega) only [go_sem, ↓reduceIte, Int.reduceLT, Int.reduceLE, Int.reduceToNat, Int.reducePow, Int.reduceNeg, Nat.reduceBEq, Tryz.ntmps4] <;> with_reducible rfl) ?_
          refine Can_callp (by simp only [go_sem, ↓reduceIte, Int.reduceLT, Int.reduceLE, Int.reduceToNat, Int.reducePow, Int.reduceNeg, Nat.reduceBEq, Tryz.ntmps4] <;> with_reducible rfl) (hall) ?_
          refine Can_run (own := []) (by simp (maxSteps := 2000000) (disch := omega) only [go_sem, ↓reduceIte, Int.reduceLT, Int.reduceLE, Int.reduceToNat, Int.reducePow, Int.reduceNeg, Nat.reduceBEq, Tryz.ntmps4] <;> with_reducible rfl) ?_
          refine Can_callp (by simp only [go_sem, ↓reduceIte, Int.reduceLT, Int.reduceLE, Int.reduceToNat, Int.reducePow, Int.reduceNeg, Nat.reduceBEq, Tryz.ntmps4] <;> with_reducible rfl) (hsm) ?_
          refine Can_run (own := []) (by simp (maxSteps := 2000000) (disch := omega) only [go_sem, ↓reduceIte, Int.reduceLT, Int.reduceLE, Int.reduceToNat, Int.reducePow, Int.reduceNeg, Nat.reduceBEq, Tryz.ntmps4] <;> with_reducible rfl) ?_
          refine Can_nil ?_
          refine J_false (by simp only [go_sem, ↓reduceIte, Int.reduceLT, Int.reduceLE, Int.reduceToNat, Int.reducePow, Int.reduceNeg, Nat.reduceBEq] <;> with_reducible rfl) ?_
          refine J_mrun (own := []) (m := 2000) (by simp (maxSteps := 2000000) (disch := omega) only [go_sem, ↓reduceIte, Int.reduceLT, Int.reduceLE, Int.reduceToNat, Int.reducePow, Int.reduceNeg, Nat.reduceBEq, Tryz.ntmps4] <;> with_reducible rfl) ?_
          refine J_keep [0, 3, 5, 6, 8] (by simp only [go_sem, ↓reduceIte, Int.reduceLT, Int.reduceLE, Int.reduceToNat, Int.reducePow, Int.reduceNeg, Nat.reduceBEq] <;> with_reducible rfl) ?_
          refine ih _ _ _ ?_ ⟨i + 1, s', c', n', t', D', by omega, rfl, hrel', hn', hO', by rw [hw9]; rfl, rfl⟩
          omega
        · intro hcut
          refine J_apart (b1 := b6) (b2 := t) (List.Perm.cons _ (List.Perm.swap _ _ _)) (fun ne1 ne2 => ?_)
          have hlo := hrel.len
          have hR := B_R hrel.rb (by omega)
          have hw' := hR.w
          refine J_if (by simp only [go_sem, ↓reduceIte, Int.reduceLT, Int.reduceLE, Int.reduceToNat, Int.reducePow, Int.reduceNeg, Nat.reduceBEq] <;> with_reducible rfl) (fun hk0 => ?_) (fun hk0 => ?_)
          · have hp := put10_ok (wc s c) n (by omega) hw' (show s.loose.length < 2 ^ 29 by omega) o.at_ o.page o.b (by omega)
            rw [tputS_wc] at hp
            have hq := tput_ok (t := t) (n := n) hO hwf (by omega) o.at_ o.page o.b (by omega)
            have hN : tputN (wc s c) n o.at_ o.page o.b = tputN s n o.at_ o.page o.b := rfl
            have hC : tputC (wc s c) n o.at_ o.page o.b = tputC s n o.at_ o.page o.b := rfl
            rw [hN, hC] at hp
            have hr2 := hrel.put n o.at_ o.page o.b
            have hn2 := tputN_bd (s := s) (at_ := o.at_) (kd := o.page) (b := o.b) hn
            unfold tAV at hp
            generalize tputS s n o.at_ o.page o.b = s2 at *
            generalize tputN s n o.at_ o.page o.b = n2 at *
            generalize tputC s n o.at_ o.page o.b = cc at *
            refine J_mrun (own := []) (m := 2000) (by simp (maxSteps := 2000000) (disch := omega) only [go_sem, ↓reduceIte, Int.reduceLT, Int.reduceLE, Int.reduceToNat, Int.reducePow, Int.reduceNeg, Nat.reduceBEq, Tryz.ntmps4] <;> with_reducible rfl) ?_
            refine J_callp (by simp only [go_sem, ↓reduceIte, Int.reduceLT, Int.reduceLE, Int.reduceToNat, Int.reducePow, Int.reduceNeg, Nat.reduceBEq, Tryz.ntmps4] <;> with_reducible rfl) (hp) ?_
            refine J_mrun (own := []) (m := 2000) (by simp (maxSteps := 2000000) (disch := omega) only [go_sem, ↓reduceIte, Int.reduceLT, Int.reduceLE, Int.reduceToNat, Int.reducePow, Int.reduceNeg, Nat.reduceBEq, Tryz.ntmps4, ne1, ne2] <;> with_reducible rfl) ?_
            refine J_calls (by simp only [go_sem, ↓reduceIte, Int.reduceLT, Int.reduceLE, Int.reduceToNat, Int.reducePow, Int.reduceNeg, Nat.reduceBEq, Tryz.ntmps4] <;> with_reducible rfl) hq (Δ1 := tbox t f n :: D1) (Fr := [_, GL]) (List.perm_append_comm (l₁ := [_, GL])) ?_ (by rintro x Δ' ⟨e, _, h, _⟩; cases h)
            rintro x _ ⟨e, D2, h, he, -, hO2, rfl⟩
            cases h
            refine J_perm List.perm_append_comm ?_
            refine J_mrun (own := []) (m := 2000) (by simp (maxSteps := 2000000) (disch := omega) only [go_sem, ↓reduceIte, Int.reduceLT, Int.reduceLE, Int.reduceToNat, Int.reducePow, Int.reduceNeg, Nat.reduceBEq, Tryz.ntmps4] <;> with_reducible rfl) ?_
            refine J_callg (by simp only [go_sem, ↓reduceIte, Int.reduceLT, Int.reduceLE, Int.reduceToNat, Int.reducePow, Int.reduceNeg, Nat.reduceBEq, Tryz.ntmps4] <;> with_reducible rfl) (by simp [GL]) (of_ok he) ?_
            refine J_mrunK hcut (own := []) (m := 300) (by simp (maxSteps := 2000000) (disch := omega) only [go_sem, ↓reduceIte, Int.reduceLT, Int.reduceLE, Int.reduceToNat, Int.reducePow, Int.reduceNeg, Nat.reduceBEq, Tryz.ntmps4, eq_self, decide_true] <;> with_reducible rfl) ?_
            exact ⟨s2, c, n2, t, D2, hr2.mono (by omega), hn2, hO2, rfl, by simp only [go_sem, eq_self, decide_true] <;> rfl⟩
          · refine J_mrun (own := []) (m := 2000) (by simp (maxSteps := 2000000) (disch := omega) only [go_sem, ↓reduceIte, Int.reduceLT, Int.reduceLE, Int.reduceToNat, Int.reducePow, Int.reduceNeg, Nat.reduceBEq, Tryz.ntmps4] <;> with_reducible rfl) ?_
            refine J_if (by simp only [go_sem, ↓reduceIte, Int.reduceLT, Int.reduceLE, Int.reduceToNat, Int.reducePow, Int.reduceNeg, Nat.reduceBEq] <;> with_reducible rfl) (fun hk1 => ?_) (fun hk1 => ?_)
            · have hr1 := hrel.put n o.at_ o.page o.b
              have hp := firm10_ok (wc s c) n (by omega) hw' (show s.loose.length < 2 ^ 29 by omega) o.at_ o.page o.b (by omega) (by rw [tputS_wc]; exact B_R hr1.rb (by omega))
              rw [firm_wc] at hp
              have hq := tfirm_ok (t := t) (n := n) o.at_ o.page o.b hO hwf (hr1.b.wf (by omega)) (by omega) (by omega)
              have hN : tputN (wc s c) n o.at_ o.page o.b = tputN s n o.at_ o.page o.b := rfl
              have hC : tfirmC (wc s c) n o.at_ o.page o.b = tfirmC s n o.at_ o.page o.b := by
                unfold tfirmC; rw [tputS_wc]; rfl
              rw [hN, hC] at hp
              have hr2 := hrel.firm n o.at_ o.page o.b
              have hn2 := tputN_bd (s := s) (at_ := o.at_) (kd := o.page) (b := o.b) hn
              unfold tAV at hp
              clear hN hC hr1
              generalize tfirmS s n o.at_ o.page o.b = s2 at *
              generalize firmCC s c n o.at_ o.page o.b = c2 at *
              generalize tputN s n o.at_ o.page o.b = n2 at *
              generalize tfirmC s n o.at_ o.page o.b = cc at *
              refine J_mrun (own := []) (m := 2000) (by simp (maxSteps := 2000000) (disch := omega) only [go_sem, ↓reduceIte, Int.reduceLT, Int.reduceLE, Int.reduceToNat, Int.reducePow, Int.reduceNeg, Nat.reduceBEq, Tryz.ntmps4] <;> with_reducible rfl) ?_
              refine J_callp (by simp only [go_sem, ↓reduceIte, Int.reduceLT, Int.reduceLE, Int.reduceToNat, Int.reducePow, Int.reduceNeg, Nat.reduceBEq, Tryz.ntmps4] <;> with_reducible rfl) (hp) ?_
              refine J_mrun (own := []) (m := 2000) (by simp (maxSteps := 2000000) (disch := omega) only [go_sem, ↓reduceIte, Int.reduceLT, Int.reduceLE, Int.reduceToNat, Int.reducePow, Int.reduceNeg, Nat.reduceBEq, Tryz.ntmps4, ne1, ne2] <;> with_reducible rfl) ?_
              refine J_calls (by simp only [go_sem, ↓reduceIte, Int.reduceLT, Int.reduceLE, Int.reduceToNat, Int.reducePow, Int.reduceNeg, Nat.reduceBEq, Tryz.ntmps4] <;> with_reducible rfl) hq (Δ1 := tbox t f n :: D1) (Fr := [_, GL]) (List.perm_append_comm (l₁ := [_, GL])) ?_ (by rintro x Δ' ⟨e, _, h, _⟩; cases h)
              rintro x _ ⟨e, D2, h, he, -, hO2, rfl⟩
              cases h
              refine J_perm List.perm_append_comm ?_
              refine J_mrun (own := []) (m := 2000) (by simp (maxSteps := 2000000) (disch := omega) only [go_sem, ↓reduceIte, Int.reduceLT, Int.reduceLE, Int.reduceToNat, Int.reducePow, Int.reduceNeg, Nat.reduceBEq, Tryz.ntmps4] <;> with_reducible rfl) ?_
              refine J_callg (by simp only [go_sem, ↓reduceIte, Int.reduceLT, Int.reduceLE, Int.reduceToNat, Int.reducePow, Int.reduceNeg, Nat.reduceBEq, Tryz.ntmps4] <;> with_reducible rfl) (by simp [GL]) (of_ok he) ?_
              refine J_mrunK hcut (own := []) (m := 300) (by simp (maxSteps := 2000000) (disch := omega) only [go_sem, ↓reduceIte, Int.reduceLT, Int.reduceLE, Int.reduceToNat, Int.reducePow, Int.reduceNeg, Nat.reduceBEq, Tryz.ntmps4, eq_self, decide_true] <;> with_reducible rfl) ?_
              exact ⟨s2, c2, n2, t, D2, hr2.mono (by omega), hn2, hO2, rfl, by simp only [go_sem, eq_self, decide_true] <;> rfl⟩
            · refine J_mrun (own := []) (m := 2000) (by simp (maxSteps := 2000000) (disch := omega) only [go_sem, ↓reduceIte, Int.reduceLT, Int.reduceLE, Int.reduceToNat, Int.reducePow, Int.reduceNeg, Nat.reduceBEq, Tryz.ntmps4] <;> with_reducible rfl) ?_
              refine J_if (by simp only [go_sem, ↓reduceIte, Int.reduceLT, Int.reduceLE, Int.reduceToNat, Int.reducePow, Int.reduceNeg, Nat.reduceBEq] <;> with_reducible rfl) (fun hk2 => ?_) (fun hk2 => ?_)
              · have hp := get10_ok (wc s c) n o.at_ o.page hrel.rb.safe.page hrel.rb.lpage (by have := hrel.rb.len; omega) (show s.loose.length < 2 ^ 60 by omega)
                have hl2 : lookB (wc s c) o.at_ = lookB s o.at_ := hrel.look o.at_
                have hC : tgetC (wc s c) o.at_ o.page = tgetC s o.at_ o.page := by unfold tgetC; rw [hl2]; rfl
                rw [hC, hl2] at hp
                have hq := tget_ok (t := t) (n := n) hO hwf o.at_ o.page
                have htx : (txtB (lookB s o.at_)).length ≤ 256 := by
                  have := look_len hwf o.at_
                  unfold txtB; rw [List.length_take, List.length_drop]; omega
                unfold tAV leafAV at hp
                unfold leafAV at hq
                clear hC hl2
                generalize tgetC s o.at_ o.page = cc at *
                generalize lookB s o.at_ = pg at *
                refine J_mrun (own := []) (m := 2000) (by simp (maxSteps := 2000000) (disch := omega) only [go_sem, ↓reduceIte, Int.reduceLT, Int.reduceLE, Int.reduceToNat, Int.reducePow, Int.reduceNeg, Nat.reduceBEq, Tryz.ntmps4] <;> with_reducible rfl) ?_
                refine J_callp (by simp only [go_sem, ↓reduceIte, Int.reduceLT, Int.reduceLE, Int.reduceToNat, Int.reducePow, Int.reduceNeg, Nat.reduceBEq, Tryz.ntmps4] <;> with_reducible rfl) (hp) ?_
                by_cases hcc : cc = 0
                · subst hcc
                  rw [if_pos rfl]
                  have hsm := same05_ok (stampsB pg).1 (kdB pg) (stampsB pg).1 (kdB pg) (txtB pg) (txtB pg) (by omega)
                  rw [decide_eq_true ⟨rfl, rfl, rfl⟩] at hsm
                  unfold leafAV at hsm
                  refine J_mrun (own := [12]) (m := 2000) (by simp (maxSteps := 2000000) (disch := omega) only [go_sem, ↓reduceIte, Int.reduceLT, Int.reduceLE, Int.reduceToNat, Int.reducePow, Int.reduceNeg, Nat.reduceBEq, Tryz.ntmps4] <;> with_reducible rfl) ?_
                  refine J_newvar rfl (by simp only [go_sem, ↓reduceIte, Int.reduceLT, Int.reduceLE, Int.reduceToNat, Int.reducePow, Int.reduceNeg, Nat.reduceBEq, Tryz.ntmps4]) (by simp only [go_sem, ↓reduceIte, Int.reduceLT, Int.reduceLE, Int.reduceToNat, Int.reducePow, Int.reduceNeg, Nat.reduceBEq] <;> with_reducible rfl) (fun b12 hb12 => ?_)
                  simp only [fresh, fresh_GL] at hb12
                  refine J_mrun (own := []) (m := 2000) (by simp (maxSteps := 2000000) (disch := omega) only [go_sem, ↓reduceIte, Int.reduceLT, Int.reduceLE, Int.reduceToNat, Int.reducePow, Int.reduceNeg, Nat.reduceBEq, Tryz.ntmps4, hb12.1, hb12.2.1, ne1, ne2] <;> with_reducible rfl) ?_
                  refine J_calls (by simp only [go_sem, ↓reduceIte, Int.reduceLT, Int.reduceLE, Int.reduceToNat, Int.reducePow, Int.reduceNeg, Nat.reduceBEq, Tryz.ntmps4] <;> with_reducible rfl) hq (Δ1 := tbox t f n :: D1) (Fr := [_, _, GL]) (List.perm_append_comm (l₁ := [_, _, GL])) ?_ (by rintro x Δ' ⟨h1, h2, _⟩; by_cases hc : (0 : Int) = 0; (· cases h1 hc); (· obtain ⟨e, h3, _⟩ := h2 hc; cases h3))
                  rintro x _ ⟨h1, -, rfl⟩
                  cases h1 rfl
                  refine J_perm List.perm_append_comm ?_
                  refine J_mrun (own := [14]) (m := 2000) (by simp (maxSteps := 2000000) (disch := omega) only [go_sem, ↓reduceIte, Int.reduceLT, Int.reduceLE, Int.reduceToNat, Int.reducePow, Int.reduceNeg, Nat.reduceBEq, Tryz.ntmps4, hb12.1, hb12.2.1] <;> with_reducible rfl) ?_
                  refine J_newvar rfl (by simp only [go_sem, ↓reduceIte, Int.reduceLT, Int.reduceLE, Int.reduceToNat, Int.reducePow, Int.reduceNeg, Nat.reduceBEq, Tryz.ntmps4]) (by simp only [go_sem, ↓reduceIte, Int.reduceLT, Int.reduceLE, Int.reduceToNat, Int.reducePow, Int.reduceNeg, Nat.reduceBEq] <;> with_reducible rfl) (fun b14 hb14 => ?_)
                  simp only [List.cons_append, List.nil_append, fresh, fresh_GL] at hb14
                  refine J_mrun (own := []) (m := 2000) (by simp (maxSteps := 2000000) (disch := omega) only [go_sem, ↓reduceIte, Int.reduceLT, Int.reduceLE, Int.reduceToNat, Int.reducePow, Int.reduceNeg, Nat.reduceBEq, Tryz.ntmps4, hb12.1, hb12.2.1, hb14.1, hb14.2.1, hb14.2.2.1, hb14.2.2.2.1] <;> with_reducible rfl) ?_
                  refine J_callp (by simp only [go_sem, ↓reduceIte, Int.reduceLT, Int.reduceLE, Int.reduceToNat, Int.reducePow, Int.reduceNeg, Nat.reduceBEq, Tryz.ntmps4] <;> with_reducible rfl) (hsm) ?_
                  refine J_mrun (own := []) (m := 2000) (by simp (maxSteps := 2000000) (disch := omega) only [go_sem, ↓reduceIte, Int.reduceLT, Int.reduceLE, Int.reduceToNat, Int.reducePow, Int.reduceNeg, Nat.reduceBEq, Tryz.ntmps4] <;> with_reducible rfl) ?_
                  refine J_callg (by simp only [go_sem, ↓reduceIte, Int.reduceLT, Int.reduceLE, Int.reduceToNat, Int.reducePow, Int.reduceNeg, Nat.reduceBEq, Tryz.ntmps4] <;> with_reducible rfl) (by simp [GL]) (of_ok .none) ?_
                  refine J_drop (J_drop ?_)
                  refine J_mrunK hcut (own := []) (m := 300) (by simp (maxSteps := 2000000) (disch := omega) only [go_sem, ↓reduceIte, Int.reduceLT, Int.reduceLE, Int.reduceToNat, Int.reducePow, Int.reduceNeg, Nat.reduceBEq, Tryz.ntmps4, eq_self, decide_true] <;> with_reducible rfl) ?_
                  exact ⟨s, c, n, t, D1, hrel.mono (by omega), hn, hO, rfl, by simp only [go_sem, eq_self, decide_true] <;> rfl⟩
                · rw [if_neg hcc]
                  have hsm := same05_ok 0 0 0 0 [] [] (by simp)
                  rw [decide_eq_true ⟨rfl, rfl, rfl⟩] at hsm
                  unfold leafAV at hsm
                  simp only [bytesRows] at hsm
                  refine J_mrun (own := [12]) (m := 2000) (by simp (maxSteps := 2000000) (disch := omega) only [go_sem, ↓reduceIte, Int.reduceLT, Int.reduceLE, Int.reduceToNat, Int.reducePow, Int.reduceNeg, Nat.reduceBEq, Tryz.ntmps4] <;> with_reducible rfl) ?_
                  refine J_newvar rfl (by simp only [go_sem, ↓reduceIte, Int.reduceLT, Int.reduceLE, Int.reduceToNat, Int.reducePow, Int.reduceNeg, Nat.reduceBEq, Tryz.ntmps4]) (by simp only [go_sem, ↓reduceIte, Int.reduceLT, Int.reduceLE, Int.reduceToNat, Int.reducePow, Int.reduceNeg, Nat.reduceBEq] <;> with_reducible rfl) (fun b12 hb12 => ?_)
                  simp only [fresh, fresh_GL] at hb12
                  refine J_mrun (own := []) (m := 1) (by simp (maxSteps := 2000000) (disch := omega) only [go_sem, ↓reduceIte, Int.reduceLT, Int.reduceLE, Int.reduceToNat, Int.reducePow, Int.reduceNeg, Nat.reduceBEq, Tryz.ntmps4] <;> with_reducible rfl) ?_
                  refine J_nilBox 2 1 (by simp only [go_sem]) ?_
                  simp only [go_sem]
                  refine J_mrun (own := []) (m := 2000) (by simp (maxSteps := 2000000) (disch := omega) only [go_sem, ↓reduceIte, Int.reduceLT, Int.reduceLE, Int.reduceToNat, Int.reducePow, Int.reduceNeg, Nat.reduceBEq, Tryz.ntmps4, hb12.1, hb12.2.1, ne1, ne2] <;> with_reducible rfl) ?_
                  refine J_calls (by simp only [go_sem, ↓reduceIte, Int.reduceLT, Int.reduceLE, Int.reduceToNat, Int.reducePow, Int.reduceNeg, Nat.reduceBEq, Tryz.ntmps4] <;> with_reducible rfl) hq (Δ1 := tbox t f n :: D1) (Fr := [_, _, GL]) (List.perm_append_comm (l₁ := [_, _, GL])) ?_ (by rintro x Δ' ⟨h1, h2, _⟩; obtain ⟨e, h3, _⟩ := h2 hcc; cases h3)
                  rintro x _ ⟨-, h2, rfl⟩
                  obtain ⟨e, h3, he⟩ := h2 hcc
                  cases h3
                  refine J_perm List.perm_append_comm ?_
                  refine J_mrun (own := [14]) (m := 2000) (by simp (maxSteps := 2000000) (disch := omega) only [go_sem, ↓reduceIte, Int.reduceLT, Int.reduceLE, Int.reduceToNat, Int.reducePow, Int.reduceNeg, Nat.reduceBEq, Tryz.ntmps4, hb12.1, hb12.2.1] <;> with_reducible rfl) ?_
                  refine J_newvar rfl (by simp only [go_sem, ↓reduceIte, Int.reduceLT, Int.reduceLE, Int.reduceToNat, Int.reducePow, Int.reduceNeg, Nat.reduceBEq, Tryz.ntmps4]) (by simp only [go_sem, ↓reduceIte, Int.reduceLT, Int.reduceLE, Int.reduceToNat, Int.reducePow, Int.reduceNeg, Nat.reduceBEq] <;> with_reducible rfl) (fun b14 hb14 => ?_)
                  simp only [List.cons_append, List.nil_append, fresh, fresh_GL] at hb14
                  refine J_mrun (own := []) (m := 1) (by simp (maxSteps := 2000000) (disch := omega) only [go_sem, ↓reduceIte, Int.reduceLT, Int.reduceLE, Int.reduceToNat, Int.reducePow, Int.reduceNeg, Nat.reduceBEq, Tryz.ntmps4] <;> with_reducible rfl) ?_
                  refine J_nilBox 2 1 (by simp only [go_sem]) ?_
                  simp only [go_sem]
                  refine J_mrun (own := []) (m := 2000) (by simp (maxSteps := 2000000) (disch := omega) only [go_sem, ↓reduceIte, Int.reduceLT, Int.reduceLE, Int.reduceToNat, Int.reducePow, Int.reduceNeg, Nat.reduceBEq, Tryz.ntmps4, hb12.1, hb12.2.1, hb14.1, hb14.2.1, hb14.2.2.1, hb14.2.2.2.1] <;> with_reducible rfl) ?_
                  refine J_callp (by simp only [go_sem, ↓reduceIte, Int.reduceLT, Int.reduceLE, Int.reduceToNat, Int.reducePow, Int.reduceNeg, Nat.reduceBEq, Tryz.ntmps4] <;> with_reducible rfl) (hsm) ?_
                  refine J_mrun (own := []) (m := 2000) (by simp (maxSteps := 2000000) (disch := omega) only [go_sem, ↓reduceIte, Int.reduceLT, Int.reduceLE, Int.reduceToNat, Int.reducePow, Int.reduceNeg, Nat.reduceBEq, Tryz.ntmps4] <;> with_reducible rfl) ?_
                  refine J_callg (by simp only [go_sem, ↓reduceIte, Int.reduceLT, Int.reduceLE, Int.reduceToNat, Int.reducePow, Int.reduceNeg, Nat.reduceBEq, Tryz.ntmps4] <;> with_reducible rfl) (by simp [GL]) (of_ok he) ?_
                  refine J_drop (J_drop ?_)
                  refine J_mrunK hcut (own := []) (m := 300) (by simp (maxSteps := 2000000) (disch := omega) only [go_sem, ↓reduceIte, Int.reduceLT, Int.reduceLE, Int.reduceToNat, Int.reducePow, Int.reduceNeg, Nat.reduceBEq, Tryz.ntmps4, eq_self, decide_true] <;> with_reducible rfl) ?_
                  exact ⟨s, c, n, t, D1, hrel.mono (by omega), hn, hO, rfl, by simp only [go_sem, eq_self, decide_true] <;> rfl⟩
              · refine J_mrun (own := []) (m := 2000) (by simp (maxSteps := 2000000) (disch := omega) only [go_sem, ↓reduceIte, Int.reduceLT, Int.reduceLE, Int.reduceToNat, Int.reducePow, Int.reduceNeg, Nat.reduceBEq, Tryz.ntmps4] <;> with_reducible rfl) ?_
                refine J_if (by simp only [go_sem, ↓reduceIte, Int.reduceLT, Int.reduceLE, Int.reduceToNat, Int.reducePow, Int.reduceNeg, Nat.reduceBEq] <;> with_reducible rfl) (fun hk3 => ?_) (fun hk3 => ?_)
                · have hp := flush10_ok (wc s c) n hR
                  rw [flush_wc] at hp
                  have hq := flush_ok hO hwf
                  have hC : flushC (wc s c) = flushC s := rfl
                  rw [hC] at hp
                  have hr2 := hrel.flush
                  unfold tAV at hp
                  clear hC
                  generalize flushS s = s2 at *
                  generalize flushCC s c = c2 at *
                  generalize flushC s = cc at *
                  refine J_mrun (own := []) (m := 2000) (by simp (maxSteps := 2000000) (disch := omega) only [go_sem, ↓reduceIte, Int.reduceLT, Int.reduceLE, Int.reduceToNat, Int.reducePow, Int.reduceNeg, Nat.reduceBEq, Tryz.ntmps4] <;> with_reducible rfl) ?_
                  refine J_callp (by simp only [go_sem, ↓reduceIte, Int.reduceLT, Int.reduceLE, Int.reduceToNat, Int.reducePow, Int.reduceNeg, Nat.reduceBEq, Tryz.ntmps4] <;> with_reducible rfl) (hp) ?_
                  refine J_mrun (own := []) (m := 2000) (by simp (maxSteps := 2000000) (disch := omega) only [go_sem, ↓reduceIte, Int.reduceLT, Int.reduceLE, Int.reduceToNat, Int.reducePow, Int.reduceNeg, Nat.reduceBEq, Tryz.ntmps4, ne1, ne2] <;> with_reducible rfl) ?_
                  refine J_calls (by simp only [go_sem, ↓reduceIte, Int.reduceLT, Int.reduceLE, Int.reduceToNat, Int.reducePow, Int.reduceNeg, Nat.reduceBEq, Tryz.ntmps4] <;> with_reducible rfl) hq (Δ1 := D1) (Fr := [_, GL, _]) (List.perm_append_comm (l₁ := [_, GL, _])) ?_ (by rintro x Δ' ⟨e, h, _⟩; cases h)
                  rintro x D2 ⟨e, h, he, -, hO2⟩
                  cases h
                  refine J_perm List.perm_append_comm ?_
                  refine J_mrun (own := []) (m := 2000) (by simp (maxSteps := 2000000) (disch := omega) only [go_sem, ↓reduceIte, Int.reduceLT, Int.reduceLE, Int.reduceToNat, Int.reducePow, Int.reduceNeg, Nat.reduceBEq, Tryz.ntmps4] <;> with_reducible rfl) ?_
                  refine J_callg (by simp only [go_sem, ↓reduceIte, Int.reduceLT, Int.reduceLE, Int.reduceToNat, Int.reducePow, Int.reduceNeg, Nat.reduceBEq, Tryz.ntmps4] <;> with_reducible rfl) (by simp [GL]) (of_ok he) ?_
                  refine J_mrunK hcut (own := []) (m := 300) (by simp (maxSteps := 2000000) (disch := omega) only [go_sem, ↓reduceIte, Int.reduceLT, Int.reduceLE, Int.reduceToNat, Int.reducePow, Int.reduceNeg, Nat.reduceBEq, Tryz.ntmps4, eq_self, decide_true] <;> with_reducible rfl) ?_
                  exact ⟨s2, c2, n, t, D2, hr2.mono (by omega), hn, hO2, rfl, by simp only [go_sem, eq_self, decide_true] <;> rfl⟩
                · refine J_mrun (own := []) (m := 2000) (by simp (maxSteps := 2000000) (disch := omega) only [go_sem, ↓reduceIte, Int.reduceLT, Int.reduceLE, Int.reduceToNat, Int.reducePow, Int.reduceNeg, Nat.reduceBEq, Tryz.ntmps4] <;> with_reducible rfl) ?_
                  refine J_if (by simp only [go_sem, ↓reduceIte, Int.reduceLT, Int.reduceLE, Int.reduceToNat, Int.reducePow, Int.reduceNeg, Nat.reduceBEq] <;> with_reducible rfl) (fun hk4 => ?_) (fun hk4 => ?_)
                  · have hp1 := crash04_ok (wc s c) hR o.keep (by omega)
                    rw [show crash04S (wc s c) o.keep = wc (crashS s o.keep) (settleKeepC c s.loose o.keep) from rfl] at hp1
                    have hr2 := hrel.crash o.keep
                    have hp2 := open10_ok (wc (crashS s o.keep) (settleKeepC c s.loose o.keep)) rfl (by have := hr2.b.p1; have := hr2.b.p2; show 0 ≤ (crashS s o.keep).pages ∧ (crashS s o.keep).pages ≤ 4096; omega) (B_R hr2.rb (by omega))
                    rw [hr2.cells, show (cellsF (crashS s o.keep)).foldl stepN 1 = nextF (crashS s o.keep) from rfl] at hp2
                    have hq1 := crash_ok hO hwf o.keep (by omega)
                    have hn2 := nextF_bd (crashS s o.keep)
                    have hdn : (crashS s o.keep).down = false := rfl
                    have hcl := cellsF_len hr2.b
                    unfold rAV tAV at hp2
                    unfold rAV at hp1
                    generalize crashS s o.keep = s2 at *
                    generalize settleKeepC c s.loose o.keep = c2 at *
                    refine J_mrun (own := []) (m := 2000) (by simp (maxSteps := 2000000) (disch := omega) only [go_sem, ↓reduceIte, Int.reduceLT, Int.reduceLE, Int.reduceToNat, Int.reducePow, Int.reduceNeg, Nat.reduceBEq, Tryz.ntmps4] <;> with_reducible rfl) ?_
                    refine J_calls (by simp only [go_sem, ↓reduceIte, Int.reduceLT, Int.reduceLE, Int.reduceToNat, Int.reducePow, Int.reduceNeg, Nat.reduceBEq, Tryz.ntmps4] <;> with_reducible rfl) hq1 (Δ1 := D1) (Fr := [_, GL, _]) (List.perm_append_comm (l₁ := [_, GL, _])) ?_ (by rintro x Δ' ⟨h, _⟩; cases h)
                    rintro x D2 ⟨h, hO2⟩
                    cases h
                    refine J_perm List.perm_append_comm ?_
                    refine J_mrun (own := []) (m := 2000) (by simp (maxSteps := 2000000) (disch := omega) only [go_sem, ↓reduceIte, Int.reduceLT, Int.reduceLE, Int.reduceToNat, Int.reducePow, Int.reduceNeg, Nat.reduceBEq, Tryz.ntmps4] <;> with_reducible rfl) ?_
                    refine J_callp (by simp only [go_sem, ↓reduceIte, Int.reduceLT, Int.reduceLE, Int.reduceToNat, Int.reducePow, Int.reduceNeg, Nat.reduceBEq, Tryz.ntmps4] <;> with_reducible rfl) (hp1) ?_
                    refine J_mrun (own := []) (m := 2000) (by simp (maxSteps := 2000000) (disch := omega) only [go_sem, ↓reduceIte, Int.reduceLT, Int.reduceLE, Int.reduceToNat, Int.reducePow, Int.reduceNeg, Nat.reduceBEq, Tryz.ntmps4] <;> with_reducible rfl) ?_
                    refine J_callp (by simp only [go_sem, ↓reduceIte, Int.reduceLT, Int.reduceLE, Int.reduceToNat, Int.reducePow, Int.reduceNeg, Nat.reduceBEq, Tryz.ntmps4] <;> with_reducible rfl) (hp2) ?_
                    refine J_mrun (own := []) (m := 2000) (by simp (maxSteps := 2000000) (disch := omega) only [go_sem, ↓reduceIte, Int.reduceLT, Int.reduceLE, Int.reduceToNat, Int.reducePow, Int.reduceNeg, Nat.reduceBEq, Tryz.ntmps4] <;> with_reducible rfl) ?_
                    refine J_calls (by simp only [go_sem, ↓reduceIte, Int.reduceLT, Int.reduceLE, Int.reduceToNat, Int.reducePow, Int.reduceNeg, Nat.reduceBEq, Tryz.ntmps4] <;> with_reducible rfl) (topen_ok hO2 (hr2.b.wf (by omega)) (hr2.b.small (by omega)) hdn (by omega)) (Δ1 := D2) (Fr := [_, GL, _]) (List.perm_append_comm (l₁ := [_, GL, _])) ?_ (by rintro x Δ' ⟨u, h, _⟩; cases h)
                    rintro x _ ⟨u, h, rfl⟩
                    cases h
                    refine J_perm List.perm_append_comm ?_
                    refine J_perm (List.perm_middle (l₁ := [_, GL])) (J_drop ?_)
                    refine J_mrun (own := []) (m := 2000) (by simp (maxSteps := 2000000) (disch := omega) only [go_sem, ↓reduceIte, Int.reduceLT, Int.reduceLE, Int.reduceToNat, Int.reducePow, Int.reduceNeg, Nat.reduceBEq, Tryz.ntmps4] <;> with_reducible rfl) ?_
                    refine J_callg (by simp only [go_sem, ↓reduceIte, Int.reduceLT, Int.reduceLE, Int.reduceToNat, Int.reducePow, Int.reduceNeg, Nat.reduceBEq, Tryz.ntmps4] <;> with_reducible rfl) (by simp [GL]) (of_ok .none) ?_
                    refine J_mrun (own := []) (m := 2000) (by simp (maxSteps := 2000000) (disch := omega) only [go_sem, ↓reduceIte, Int.reduceLT, Int.reduceLE, Int.reduceToNat, Int.reducePow, Int.reduceNeg, Nat.reduceBEq, Tryz.ntmps4, ne_eq, eq_self, not_true_eq_false, decide_false] <;> with_reducible rfl) ?_
                    refine J_false (by simp only [go_sem, ↓reduceIte, Int.reduceLT, Int.reduceLE, Int.reduceToNat, Int.reducePow, Int.reduceNeg, Nat.reduceBEq] <;> with_reducible rfl) ?_
                    refine J_mrunK hcut (own := []) (m := 300) (by simp (maxSteps := 2000000) (disch := omega) only [go_sem, ↓reduceIte, Int.reduceLT, Int.reduceLE, Int.reduceToNat, Int.reducePow, Int.reduceNeg, Nat.reduceBEq, Tryz.ntmps4] <;> with_reducible rfl) ?_
                    exact ⟨s2, c2, nextF s2, u, D2, hr2.mono (by omega), hn2, hO2, rfl, by simp only [go_sem, eq_self, decide_true] <;> rfl⟩
                  · refine J_mrun (own := []) (m := 2000) (by simp (maxSteps := 2000000) (disch := omega) only [go_sem, ↓reduceIte, Int.reduceLT, Int.reduceLE, Int.reduceToNat, Int.reducePow, Int.reduceNeg, Nat.reduceBEq, Tryz.ntmps4] <;> with_reducible rfl) ?_
                    refine J_if (by simp only [go_sem, ↓reduceIte, Int.reduceLT, Int.reduceLE, Int.reduceToNat, Int.reducePow, Int.reduceNeg, Nat.reduceBEq] <;> with_reducible rfl) (fun hk5 => ?_) (fun hk5 => ?_)
                    · have hp := fuse04_ok (wc s c) o.at_
                      rw [show fuseS (wc s c) o.at_ = wc (fuseS s o.at_) c from rfl] at hp
                      have hq := fuse_ok hO o.at_
                      have hr2 := hrel.fuse hoa
                      unfold rAV at hp
                      generalize fuseS s o.at_ = s2 at *
                      refine J_mrun (own := []) (m := 2000) (by simp (maxSteps := 2000000) (disch := omega) only [go_sem, ↓reduceIte, Int.reduceLT, Int.reduceLE, Int.reduceToNat, Int.reducePow, Int.reduceNeg, Nat.reduceBEq, Tryz.ntmps4] <;> with_reducible rfl) ?_
                      refine J_draw [[], [0], [0, 1], [0, 1, 2], [], [4], [0, 1, 2, 3, 4, 5]] [(0, .pure), (1, .pure), (2, .pure), (3, .read), (4, .pure), (5, .read), (6, .act)] mixed (by kernel_rfl) ?_
                      refine Can_run (own := []) (by simp (maxSteps := 2000000) (disch := omega) only [go_sem, ↓reduceIte, Int.reduceLT, Int.reduceLE, Int.reduceToNat, Int.reducePow, Int.reduceNeg, Nat.reduceBEq, Tryz.ntmps4, ne1, ne2] <;> with_reducible rfl) ?_
                      refine Can_call (by simp only [go_sem, ↓reduceIte, Int.reduceLT, Int.reduceLE, Int.reduceToNat, Int.reducePow, Int.reduceNeg, Nat.reduceBEq, Tryz.ntmps4] <;> with_reducible rfl) hq (Δ1 := D1) (Fr := [_, GL, _]) (List.perm_append_comm (l₁ := [_, GL, _])) ?_ (by rintro x Δ' ⟨h, _⟩; cases h)
                      rintro x D2 ⟨h, hO2⟩
                      cases h
                      refine Can_nil ?_
                      refine J_perm List.perm_append_comm ?_
                      refine J_mrun (own := []) (m := 2000) (by simp (maxSteps := 2000000) (disch := omega) only [go_sem, ↓reduceIte, Int.reduceLT, Int.reduceLE, Int.reduceToNat, Int.reducePow, Int.reduceNeg, Nat.reduceBEq, Tryz.ntmps4] <;> with_reducible rfl) ?_
                      refine J_callp (by simp only [go_sem, ↓reduceIte, Int.reduceLT, Int.reduceLE, Int.reduceToNat, Int.reducePow, Int.reduceNeg, Nat.reduceBEq, Tryz.ntmps4] <;> with_reducible rfl) (hp) ?_
                      refine J_mrunK hcut (own := []) (m := 300) (by simp (maxSteps := 2000000) (disch := omega) only [go_sem, ↓reduceIte, Int.reduceLT, Int.reduceLE, Int.reduceToNat, Int.reducePow, Int.reduceNeg, Nat.reduceBEq, Tryz.ntmps4] <;> with_reducible rfl) ?_
                      exact ⟨s2, c, n, t, D2, hr2.mono (by omega), hn, hO2, rfl, by simp only [go_sem, eq_self, decide_true] <;> rfl⟩
                    · have hp := trim10_ok (wc s c) n hw' (show s.loose.length < 2 ^ 29 by omega) o.at_
                      rw [trimS_wc] at hp
                      have hq := trim_ok hO hwf o.at_
                      have hC : trimC (wc s c) o.at_ = trimC s o.at_ := rfl
                      rw [hC] at hp
                      have hr2 := hrel.trim o.at_
                      unfold tAV at hp
                      clear hC
                      generalize trimS s o.at_ = s2 at *
                      generalize trimC s o.at_ = cc at *
                      refine J_mrun (own := []) (m := 2000) (by simp (maxSteps := 2000000) (disch := omega) only [go_sem, ↓reduceIte, Int.reduceLT, Int.reduceLE, Int.reduceToNat, Int.reducePow, Int.reduceNeg, Nat.reduceBEq, Tryz.ntmps4] <;> with_reducible rfl) ?_
                      refine J_callp (by simp only [go_sem, ↓reduceIte, Int.reduceLT, Int.reduceLE, Int.reduceToNat, Int.reducePow, Int.reduceNeg, Nat.reduceBEq, Tryz.ntmps4] <;> with_reducible rfl) (hp) ?_
                      refine J_mrun (own := []) (m := 2000) (by simp (maxSteps := 2000000) (disch := omega) only [go_sem, ↓reduceIte, Int.reduceLT, Int.reduceLE, Int.reduceToNat, Int.reducePow, Int.reduceNeg, Nat.reduceBEq, Tryz.ntmps4] <;> with_reducible rfl) ?_
                      refine J_draw [[], [0], [0, 1], [0, 1, 2], [], [4], [0, 1, 2, 3, 4, 5], [0, 1, 2, 3, 4, 5, 6], [], [0, 1, 2, 3, 4, 5, 6, 7, 8], [0, 1, 2, 3, 4, 5, 6, 7, 8, 9]] [(0, .pure), (1, .pure), (2, .pure), (3, .read), (4, .pure), (5, .read), (8, .pure), (6, .act), (7, .read), (9, .pure), (10, .pure)] mixed (by kernel_rfl) ?_
                      refine Can_run (own := []) (by simp (maxSteps := 2000000) (disch := omega) only [go_sem, ↓reduceIte, Int.reduceLT, Int.reduceLE, Int.reduceToNat, Int.reducePow, Int.reduceNeg, Nat.reduceBEq, Tryz.ntmps4, ne1, ne2] <;> with_reducible rfl) ?_
                      refine Can_call (by simp only [go_sem, ↓reduceIte, Int.reduceLT, Int.reduceLE, Int.reduceToNat, Int.reducePow, Int.reduceNeg, Nat.reduceBEq, Tryz.ntmps4] <;> with_reducible rfl) hq (Δ1 := D1) (Fr := [_, GL, _]) (List.perm_append_comm (l₁ := [_, GL, _])) ?_ (by rintro x Δ' ⟨e, h, _⟩; cases h)
                      rintro x D2 ⟨e, h, he, -, hO2⟩
                      cases h
                      refine Can_run (own := []) (by simp (maxSteps := 2000000) (disch := omega) only [go_sem, ↓reduceIte, Int.reduceLT, Int.reduceLE, Int.reduceToNat, Int.reducePow, Int.reduceNeg, Nat.reduceBEq, Tryz.ntmps4] <;> with_reducible rfl) ?_
                      refine Can_callr (by simp only [go_sem, ↓reduceIte, Int.reduceLT, Int.reduceLE, Int.reduceToNat, Int.reducePow, Int.reduceNeg, Nat.reduceBEq, Tryz.ntmps4] <;> with_reducible rfl) (((of_ok he).globKeep (by simp [GL]))) ?_
                      refine Can_run (own := []) (by simp (maxSteps := 2000000) (disch := omega) only [go_sem, ↓reduceIte, Int.reduceLT, Int.reduceLE, Int.reduceToNat, Int.reducePow, Int.reduceNeg, Nat.reduceBEq, Tryz.ntmps4, eq_self, decide_true] <;> with_reducible rfl) ?_
                      refine Can_nil ?_
                      refine J_perm List.perm_append_comm ?_
                      refine J_mrunK hcut (own := []) (m := 300) (by simp (maxSteps := 2000000) (disch := omega) only [go_sem, ↓reduceIte, Int.reduceLT, Int.reduceLE, Int.reduceToNat, Int.reducePow, Int.reduceNeg, Nat.reduceBEq, Tryz.ntmps4] <;> with_reducible rfl) ?_
                      exact ⟨s2, c, n, t, D2, hr2.mono (by omega), hn, hO2, rfl, by simp only [go_sem, eq_self, decide_true] <;> rfl⟩
      · have hi' : i = l.length := by omega
        subst hi'
        refine J_mrun (own := []) (m := 2000) (by simp (maxSteps := 2000000) (disch := omega) only [go_sem, ↓reduceIte, Int.reduceLT, Int.reduceLE, Int.reduceToNat, Int.reducePow, Int.reduceNeg, Nat.reduceBEq, Tryz.ntmps4] <;> with_reducible rfl) ?_
        refine J_callg (by simp only [go_sem, ↓reduceIte, Int.reduceLT, Int.reduceLE, Int.reduceToNat, Int.reducePow, Int.reduceNeg, Nat.reduceBEq, Tryz.ntmps4] <;> with_reducible rfl) (by simp [GL]) (works_ok) ?_
        refine J_mrun (own := []) (m := 2000) (by simp (maxSteps := 2000000) (disch := omega) only [go_sem, ↓reduceIte, Int.reduceLT, Int.reduceLE, Int.reduceToNat, Int.reducePow, Int.reduceNeg, Nat.reduceBEq, Tryz.ntmps4] <;> with_reducible rfl) ?_
        refine J_forget ?_
        refine J_retX Tryz.func4 (by simp only [go_sem, ↓reduceIte, Int.reduceLT, Int.reduceLE, Int.reduceToNat, Int.reducePow, Int.reduceNeg, Nat.reduceBEq, Tryz.f4] <;> first | with_reducible rfl | rfl) ⟨rfl, rfl⟩
end Go.Proofs.YtgpmfdmiffbgpaaGreatDoor
end
