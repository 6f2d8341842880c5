/- A part of the proof: what the calls do, told by values. -/
import Derived.Test.YtlmahffjidgplaaGreatDoorC5
section
namespace Go.Proofs.YtlmahffjidgplaaGreatDoor
open Go Go.Av
set_option linter.unusedVariables false
set_option linter.unusedSimpArgs false
set_option maxRecDepth 100000

/-! ### The document's device beside the program's -/
abbrev SortC (l : List (Int × List UInt8)) : Prop := (l.map (·.1)).Pairwise (· < ·)
theorem findM_app {k : Int} : ∀ (A B : List (Int × List UInt8)), findM (A ++ B) k = (findM A k).or (findM B k)
  | [], B => rfl
  | p :: A, B => by
    show findM (p :: (A ++ B)) k = (findM (p :: A) k).or _
    have e1 : ∀ l : List (Int × List UInt8), findM (p :: l) k = if p.1 = k then some p.2 else findM l k := fun l => by conv => lhs; unfold findM
    rw [e1, e1]
    by_cases h : p.1 = k
    · rw [if_pos h, if_pos h]; rfl
    · rw [if_neg h, if_neg h]; exact findM_app A B
theorem find_none_of {l : List (Int × List UInt8)} {k : Int} (h : ∀ p ∈ l, p.1 ≠ k) : findM l k = none := findM_none.2 fun hk => by
  obtain ⟨p, hp, rfl⟩ := List.mem_map.1 hk
  exact h p hp rfl
theorem tw_lt {at_ : Int} : ∀ {l : List (Int × List UInt8)} {p : Int × List UInt8}, p ∈ l.takeWhile (fun p => decide (p.1 < at_)) → p.1 < at_
  | [], p, h => by cases h
  | q :: l, p, h => by
    rw [List.takeWhile_cons] at h
    split at h
    · rename_i hq
      rcases List.mem_cons.1 h with rfl | h
      · simpa using hq
      · exact tw_lt h
    · cases h
/-- Pages parted at a place. -/
theorem split_at {l : List (Int × List UInt8)} (hs : SortC l) (at_ : Int) : ∃ A C, (∀ p ∈ A, p.1 < at_) ∧ (∀ p ∈ C, at_ < p.1) ∧ SortC A ∧ SortC C ∧ (l = A ++ C ∨ ∃ x, l = A ++ (at_, x) :: C) ∧ ∀ b, putC l at_ b = A ++ (if blankB b then [] else [(at_, b)]) ++ C := by
  have hA : ∀ p ∈ l.take (lowC l at_), p.1 < at_ := by
    intro p hp
    have e : l.take (lowC l at_) = l.takeWhile fun p => decide (p.1 < at_) := by
      unfold lowC
      exact (List.prefix_iff_eq_take.1 (List.takeWhile_prefix _)).symm
    rw [e] at hp
    exact tw_lt hp
  have hsplit := List.take_append_drop (lowC l at_) l
  have hs1 : SortC (l.take (lowC l at_)) := by unfold SortC; rw [List.map_take]; exact hs.take
  have hs2 : SortC (l.drop (lowC l at_)) := by unfold SortC; rw [List.map_drop]; exact hs.drop
  have hhd : ∀ p, l[lowC l at_]? = some p → ¬ p.1 < at_ := by
    intro p hp hlt
    have e : l.drop (lowC l at_) = l.dropWhile fun p => decide (p.1 < at_) := by
      unfold lowC
      have h1 := List.takeWhile_append_dropWhile (p := fun p : Int × List UInt8 => decide (p.1 < at_)) (l := l)
      have h2 := congrArg (List.drop (l.takeWhile fun p => decide (p.1 < at_)).length) h1
      rw [List.drop_left] at h2
      exact h2.symm
    have h3 : (l.dropWhile fun p => decide (p.1 < at_)).head? = some p := by rw [← e, List.head?_drop, hp]
    have := List.head?_dropWhile_not (fun p : Int × List UInt8 => decide (p.1 < at_)) l
    rw [h3] at this
    simp [hlt] at this
  cases hr : l.drop (lowC l at_) with
  | nil =>
    have hn : l[lowC l at_]? = none := by rw [← List.head?_drop, hr]; rfl
    refine ⟨l.take (lowC l at_), [], hA, by simp, hs1, by simp [SortC], .inl (by rw [List.append_nil]; rw [hr, List.append_nil] at hsplit; exact hsplit.symm), fun b => ?_⟩
    unfold putC hitC
    rw [hn]
    simp only [Bool.false_eq_true, if_false, Nat.add_zero, hr]
  | cons p C =>
    have hp : l[lowC l at_]? = some p := by rw [← List.head?_drop, hr]; rfl
    have hge := hhd p hp
    rw [hr] at hs2
    obtain ⟨hpC, hsC⟩ := List.pairwise_cons.1 (show ((p :: C).map (·.1)).Pairwise (· < ·) from hs2)
    have hC : ∀ q ∈ C, p.1 < q.1 := fun q hq => hpC q.1 (List.mem_map.2 ⟨q, hq, rfl⟩)
    have hdC : l.drop (lowC l at_ + 1) = C := by rw [← List.drop_drop, hr]; rfl
    by_cases hk : p.1 = at_
    · refine ⟨l.take (lowC l at_), C, hA, fun q hq => by have := hC q hq; omega, hs1, hsC, .inr ⟨p.2, ?_⟩, fun b => ?_⟩
      · rw [hr] at hsplit; rw [show (at_, p.2) = p from by rw [← hk]]; exact hsplit.symm
      · unfold putC hitC
        rw [hp]
        simp only [hk, decide_true, if_true, hdC]
    · refine ⟨l.take (lowC l at_), p :: C, hA, fun q hq => ?_, hs1, hs2, .inl (by rw [hr] at hsplit; exact hsplit.symm), fun b => ?_⟩
      · rcases List.mem_cons.1 hq with rfl | hq
        · omega
        · have := hC q hq; omega
      · unfold putC hitC
        rw [hp]
        simp only [hk, decide_false, Bool.false_eq_true, if_false, Nat.add_zero, hr]
theorem putC_find {l : List (Int × List UInt8)} (hs : SortC l) (at_ : Int) (b : List UInt8) (k : Int) : findM (putC l at_ b) k = if k = at_ then (if blankB b then none else some b) else findM l k := by
  obtain ⟨A, C, hA, hC, -, -, hl, hp⟩ := split_at hs at_
  rw [hp b, findM_app, findM_app]
  by_cases hk : k = at_
  · subst hk
    rw [if_pos rfl, find_none_of (fun p hp => by have := hA p hp; omega), find_none_of (l := C) (fun p hp => by have := hC p hp; omega)]
    cases blankB b <;> simp [findM]
  · rw [if_neg hk]
    have hm : findM (if blankB b then [] else [(at_, b)]) k = none := by
      refine find_none_of fun p hp => ?_
      split at hp
      · cases hp
      · rw [List.mem_singleton.1 hp]; exact fun h => hk h.symm
    rw [hm]
    rcases hl with rfl | ⟨x, rfl⟩
    · rw [findM_app]; simp
    · rw [findM_app]
      have : findM ((at_, x) :: C) k = findM C k := by
        conv => lhs; unfold findM
        rw [if_neg (fun h => hk h.symm)]
      rw [this]; simp
theorem putC_sorted {l : List (Int × List UInt8)} (hs : SortC l) (at_ : Int) (b : List UInt8) : SortC (putC l at_ b) := by
  obtain ⟨A, C, hA, hC, h1, h2, -, hp⟩ := split_at hs at_
  rw [hp b]
  unfold SortC at *
  rw [List.map_append, List.map_append, List.append_assoc]
  refine List.pairwise_append.2 ⟨h1, List.pairwise_append.2 ⟨?_, h2, ?_⟩, ?_⟩
  · split <;> simp
  · intro x hx y hy
    split at hx
    · cases hx
    · have e1 : x = at_ := by simpa using hx
      obtain ⟨q, hq, rfl⟩ := List.mem_map.1 hy
      rw [e1]; exact hC q hq
  · intro x hx y hy
    obtain ⟨p, hp, rfl⟩ := List.mem_map.1 hx
    have hpa := hA p hp
    rcases List.mem_append.1 hy with hy | hy
    · split at hy
      · cases hy
      · have e1 : y = at_ := by simpa using hy
        rw [e1]; exact hpa
    · obtain ⟨q, hq, rfl⟩ := List.mem_map.1 hy
      have := hC q hq
      omega
theorem sort_nodup {l : List (Int × List UInt8)} (hs : SortC l) : (l.map (·.1)).Nodup := hs.imp fun h e => by rw [e] at h; exact absurd h (Int.lt_irrefl _)
theorem putC_safe {pages : Int} {l : List (Int × List UInt8)} (hs : SortC l) (h : SafeOK pages l) {at_ : Int} {b : List UInt8} (hb : b.length = 256) (ha : 0 ≤ at_ ∧ at_ < pages) : SafeOK pages (putC l at_ b) := by
  refine ⟨sort_nodup (putC_sorted hs _ _), putC_page h.page hb, fun p hp => ?_, fun p hp => ?_⟩ <;> unfold putC at hp
  · rcases List.mem_append.1 hp with hp | hp
    · rcases List.mem_append.1 hp with hp | hp
      · exact h.nb p (List.take_subset _ _ hp)
      · split at hp
        · cases hp
        · rename_i hbl; rw [List.mem_singleton.1 hp]; simpa using hbl
    · exact h.nb p (List.drop_subset _ _ hp)
  · rcases List.mem_append.1 hp with hp | hp
    · rcases List.mem_append.1 hp with hp | hp
      · exact h.rng p (List.take_subset _ _ hp)
      · split at hp
        · cases hp
        · rw [List.mem_singleton.1 hp]; exact ha
    · exact h.rng p (List.drop_subset _ _ hp)

/-- The same pages, in order. -/
structure Pgs (pages : Int) (c m : List (Int × List UInt8)) : Prop where
  sort : SortC c
  cs : SafeOK pages c
  ms : SafeOK pages m
  find : ∀ k, findM c k = findM m k
theorem Pgs.pageOr {pages : Int} {c m : List (Int × List UInt8)} (h : Pgs pages c m) (k : Int) : pageOr c k = pageOr m k := by unfold Proofs.YtlmahffjidgplaaGreatDoor.pageOr; rw [h.find]
theorem blank_z : blankB z256 = true := blank_zeros 256
theorem Pgs.settle {pages : Int} {c m : List (Int × List UInt8)} (h : Pgs pages c m) {at_ : Int} {o : Option (List UInt8)} {keep : Int} (ho : ∀ b, o = some b → b.length = 256) (ha : 0 ≤ at_ ∧ at_ < pages) :
    Pgs pages (settleC c at_ o keep) (settleM m at_ o keep) := by
  have hm := (settle_safe (keep := keep) h.ms ho ha).1
  cases o with
  | none =>
    unfold settleC settleM at *
    simp only at *
    by_cases hk : keep < 256
    · rw [if_pos hk, if_neg (by omega)]; exact h
    · rw [if_neg hk, if_pos (by omega)]
      rw [if_pos (by omega)] at hm
      refine ⟨putC_sorted h.sort _ _, putC_safe h.sort h.cs (by simp [z256]) ha, hm, fun k => ?_⟩
      rw [putC_find h.sort, findM_del h.ms.nodup, blank_z, h.find]
      by_cases hka : k = at_
      · rw [if_pos hka, if_pos rfl, if_pos hka.symm]
      · rw [if_neg hka, if_neg (fun e => hka e.symm)]
  | some b =>
    have hb := ho b rfl
    have hS : settleC c at_ (some b) keep = putC c at_ (b.take (keepN keep) ++ (Proofs.YtlmahffjidgplaaGreatDoor.pageOr c at_).drop (keepN keep)) := rfl
    rw [hS, h.pageOr]
    have hpl : (Proofs.YtlmahffjidgplaaGreatDoor.pageOr m at_).length = 256 := pageOr_len h.ms.page at_
    have hkl : keepN keep ≤ 256 := by unfold keepN; omega
    have hnl : (b.take (keepN keep) ++ (Proofs.YtlmahffjidgplaaGreatDoor.pageOr m at_).drop (keepN keep)).length = 256 := by rw [List.length_append, List.length_take, List.length_drop]; omega
    refine ⟨putC_sorted h.sort _ _, putC_safe h.sort h.cs hnl ha, hm, fun k => ?_⟩
    rw [putC_find h.sort]
    unfold settleM
    simp only
    by_cases hk : keep ≤ 0
    · rw [if_pos hk, show keepN keep = 0 from by unfold keepN; omega, List.take_zero, List.nil_append, List.drop_zero, h.find]
      by_cases hka : k = at_
      · subst hka
        rw [if_pos rfl]
        unfold Proofs.YtlmahffjidgplaaGreatDoor.pageOr
        cases hf : findM m k with
        | none => simp [blank_z]
        | some w =>
          have := h.ms.nb _ (mem_find hf)
          simp only [Option.getD_some]
          rw [if_neg (by simpa using this)]
      · rw [if_neg hka]
    · rw [if_neg hk]
      have e1 : (min keep 256).toNat = keepN keep := rfl
      rw [e1]
      by_cases hbl : blankB (b.take (keepN keep) ++ (Proofs.YtlmahffjidgplaaGreatDoor.pageOr m at_).drop (keepN keep)) = true
      · rw [if_pos hbl, if_pos hbl, findM_del h.ms.nodup, h.find]
        by_cases hka : k = at_
        · rw [if_pos hka, if_pos hka.symm]
        · rw [if_neg hka, if_neg (fun e => hka e.symm)]
      · rw [if_neg hbl, if_neg hbl, findM_upd, h.find]
        by_cases hka : k = at_
        · rw [if_pos hka, if_pos hka.symm]
        · rw [if_neg hka, if_neg (fun e => hka e.symm)]
theorem Pgs.all {pages : Int} : ∀ {ls : List (Int × Option (List UInt8))} {c m : List (Int × List UInt8)}, Pgs pages c m → (∀ p ∈ ls, ∀ b, p.2 = some b → b.length = 256) → (∀ p ∈ ls, 0 ≤ p.1 ∧ p.1 < pages) → Pgs pages (settleAllC c ls) (settleAll m ls)
  | [], _, _, h, _, _ => h
  | p :: ls, c, m, h, h1, h2 => Pgs.all (ls := ls) (h.settle (keep := 256) (h1 p (by simp)) (h2 p (by simp))) (fun q hq => h1 q (by simp [hq])) (fun q hq => h2 q (by simp [hq]))
theorem Pgs.keep {pages : Int} : ∀ {ls : List (Int × Option (List UInt8))} {ks : List Int} {c m : List (Int × List UInt8)}, Pgs pages c m → (∀ p ∈ ls, ∀ b, p.2 = some b → b.length = 256) → (∀ p ∈ ls, 0 ≤ p.1 ∧ p.1 < pages) → Pgs pages (settleKeepC c ls ks) (settleKeep m ls ks)
  | [], _, _, _, h, _, _ => h
  | _ :: _, [], _, _, h, _, _ => h
  | p :: ls, k :: ks, c, m, h, h1, h2 => Pgs.keep (ls := ls) (ks := ks) (h.settle (keep := k) (h1 p (by simp)) (h2 p (by simp))) (fun q hq => h1 q (by simp [hq])) (fun q hq => h2 q (by simp [hq]))

abbrev wc (s : Fl) (c : List (Int × List UInt8)) : Fl := { s with safe := c }
theorem burnS_wc (s : Fl) (c : List (Int × List UInt8)) : burnS (wc s c) = wc (burnS s) c := by unfold burnS; split <;> rfl
theorem changeS_wc (s : Fl) (c : List (Int × List UInt8)) (at_ : Int) (o : Option (List UInt8)) : changeS (wc s c) at_ o = wc (changeS s at_ o) c := burnS_wc { s with loose := s.loose ++ [(at_, o)] } c
theorem writeS_wc (s : Fl) (c : List (Int × List UInt8)) (at_ : Int) (b : List UInt8) : writeS (wc s c) at_ b = wc (writeS s at_ b) c := by
  unfold writeS
  have : checkF (wc s c) at_ = checkF s at_ := rfl
  rw [this]
  split
  · rfl
  · exact changeS_wc s c at_ _
theorem trimS_wc (s : Fl) (c : List (Int × List UInt8)) (at_ : Int) : trimS (wc s c) at_ = wc (trimS s at_) c := by
  unfold trimS
  have : checkF (wc s c) at_ = checkF s at_ := rfl
  rw [this]
  split
  · rfl
  · exact changeS_wc s c at_ _
theorem tputS_wc (s : Fl) (c : List (Int × List UInt8)) (n at_ kd : Int) (b : List UInt8) : tputS (wc s c) n at_ kd b = wc (tputS s n at_ kd b) c := by
  unfold tputS; split
  · rfl
  · exact writeS_wc s c at_ _
theorem changeS_safe (s : Fl) (at_ : Int) (o : Option (List UInt8)) : (changeS s at_ o).safe = s.safe := burnS_safe _
theorem writeS_safe (s : Fl) (at_ : Int) (b : List UInt8) : (writeS s at_ b).safe = s.safe := by unfold writeS; split; (· rfl); (· exact changeS_safe _ _ _)
theorem trimS_safe (s : Fl) (at_ : Int) : (trimS s at_).safe = s.safe := by unfold trimS; split; (· rfl); (· exact changeS_safe _ _ _)
theorem changeS_pages (s : Fl) (at_ : Int) (o : Option (List UInt8)) : (changeS s at_ o).pages = s.pages := burnS_pages _
theorem writeS_pages (s : Fl) (at_ : Int) (b : List UInt8) : (writeS s at_ b).pages = s.pages := by unfold writeS; split; (· rfl); (· exact changeS_pages _ _ _)
theorem trimS_pages (s : Fl) (at_ : Int) : (trimS s at_).pages = s.pages := by unfold trimS; split; (· rfl); (· exact changeS_pages _ _ _)
def flushCC (s : Fl) (c : List (Int × List UInt8)) : List (Int × List UInt8) := if s.down = true then c else if burnB s then c else settleAllC c s.loose
theorem flush_wc (s : Fl) (c : List (Int × List UInt8)) : flush04S (wc s c) = wc (flushS s) (flushCC s c) := by
  unfold flush04S flushS flushCC
  have h1 : burnB (wc s c) = burnB s := rfl
  rw [h1, burnS_wc]
  by_cases hd : s.down = true
  · rw [if_pos hd, if_pos hd, if_pos hd]
  · rw [if_neg hd, if_neg hd, if_neg hd]
    split <;> rfl

/-- A device of the program and the document's pages for it. -/
structure Rel (s : Fl) (c : List (Int × List UInt8)) (n : Nat) : Prop where
  b : s.B n
  pg : Pgs s.pages c s.safe
  len : c.length + s.loose.length ≤ n
theorem Rel.rb {s : Fl} {c : List (Int × List UInt8)} {n : Nat} (h : Rel s c n) : (wc s c).B n := { h.b with safe := h.pg.cs, len := h.len }
theorem Rel.mono {s : Fl} {c : List (Int × List UInt8)} {n m : Nat} (h : Rel s c n) (hm : n ≤ m) : Rel s c m := ⟨h.b.mono hm, h.pg, Nat.le_trans h.len hm⟩
theorem B_R {s : Fl} {n : Nat} (h : s.B n) (hn : n < 2 ^ 29) : s.R := ⟨h.safe.page, h.lpage, by have := h.len; omega, (h.wf (by omega)).w⟩
theorem rel_new {p : Int} (h1 : 1 ≤ p) (h2 : p ≤ 4096) : Rel (newFl p) [] 0 := ⟨newFl_B h1 h2, ⟨List.Pairwise.nil, (newFl_B h1 h2).safe, (newFl_B h1 h2).safe, fun _ => rfl⟩, by simp [newFl]⟩
theorem Rel.write {s : Fl} {c : List (Int × List UInt8)} {n : Nat} (h : Rel s c n) (at_ : Int) (b : List UInt8) : Rel (writeS s at_ b) c (n + 1) :=
  ⟨writeS_B h.b at_ b, by rw [writeS_pages, writeS_safe]; exact h.pg, by have := (writeS_B h.rb at_ b).len; rw [writeS_wc] at this; exact this⟩
theorem Rel.trim {s : Fl} {c : List (Int × List UInt8)} {n : Nat} (h : Rel s c n) (at_ : Int) : Rel (trimS s at_) c (n + 1) :=
  ⟨trimS_B h.b at_, by rw [trimS_pages, trimS_safe]; exact h.pg, by have := (trimS_B h.rb at_).len; rw [trimS_wc] at this; exact this⟩
theorem Rel.put {s : Fl} {c : List (Int × List UInt8)} {m : Nat} (h : Rel s c m) (n at_ kd : Int) (b : List UInt8) : Rel (tputS s n at_ kd b) c (m + 1) := by
  unfold tputS; split
  · exact h.mono (Nat.le_succ _)
  · exact h.write _ _
theorem Rel.fuse {s : Fl} {c : List (Int × List UInt8)} {n : Nat} (h : Rel s c n) {k : Int} (hk : k < 9223372036854775808) : Rel (fuseS s k) c n := ⟨fuseS_B h.b hk, h.pg, h.len⟩
theorem Rel.crash {s : Fl} {c : List (Int × List UInt8)} {n : Nat} (h : Rel s c n) (keep : List Int) : Rel (crashS s keep) (settleKeepC c s.loose keep) n :=
  ⟨crashS_B h.b keep, h.pg.keep h.b.lpage h.b.lrng, by have := (settleKeepC_ok (ls := s.loose) (ks := keep) h.pg.cs.page h.b.lpage).2; have := h.len; show _ + 0 ≤ n; omega⟩
theorem Rel.flush {s : Fl} {c : List (Int × List UInt8)} {n : Nat} (h : Rel s c n) : Rel (flushS s) (flushCC s c) (n + 1) := by
  have hb := flushS_B h.b
  have hl := (settleAllC_ok (ls := s.loose) h.pg.cs.page h.b.lpage).2
  have h3 := h.len
  have e := burnS_pages s
  have e2 := burnS_safe s
  have e3 := burnS_loose s
  unfold flushS flushCC at *
  by_cases hd : s.down = true
  · rw [if_pos hd] at hb ⊢; rw [if_pos hd]; exact ⟨hb, h.pg, by omega⟩
  · rw [if_neg hd] at hb ⊢; rw [if_neg hd]
    by_cases hbb : burnB s = true
    · rw [if_pos hbb] at hb ⊢; rw [if_pos hbb]; exact ⟨hb, by rw [e, e2]; exact h.pg, by rw [e3]; omega⟩
    · rw [if_neg hbb] at hb ⊢; rw [if_neg hbb]; exact ⟨hb, by show Pgs (burnS s).pages _ _; rw [e]; exact h.pg.all h.b.lpage h.b.lrng, by show _ + 0 ≤ _; omega⟩
theorem Rel.look {s : Fl} {c : List (Int × List UInt8)} {n : Nat} (h : Rel s c n) (k : Int) : lookB (wc s c) k = lookB s k := by
  unfold lookB
  cases lookL s.loose k with
  | some o => rfl
  | none => exact congrArg (Option.getD · z256) (h.pg.find k)

theorem cellsAt_ext {s : Fl} {k1 k2 : List Int} (h1 : k1.Pairwise (· < ·)) (h2 : k2.Pairwise (· < ·)) (h : ∀ k, blankB (lookB s k) = false → (k ∈ k1 ↔ k ∈ k2)) : cellsAt s k1 = cellsAt s k2 := by
  unfold cellsAt
  rw [List.filter_map, List.filter_map]
  congr 1
  refine sorted_ext (h1.filter _) (h2.filter _) fun k => ?_
  rw [List.mem_filter, List.mem_filter]
  simp only [Function.comp_apply, Bool.not_eq_true']
  constructor
  · rintro ⟨h3, h4⟩; exact ⟨(h k h4).1 h3, h4⟩
  · rintro ⟨h3, h4⟩; exact ⟨(h k h4).2 h3, h4⟩
theorem upto_lt (n : Nat) : (upto n).Pairwise (· < ·) := by
  unfold upto
  rw [List.pairwise_map]
  exact List.pairwise_lt_range.imp fun h => by omega
theorem upto_mem {n : Nat} {k : Int} : k ∈ upto n ↔ 0 ≤ k ∧ k < n := by
  unfold upto
  rw [List.mem_map]
  constructor
  · rintro ⟨i, hi, rfl⟩; have := List.mem_range.1 hi; omega
  · rintro ⟨h1, h2⟩; exact ⟨k.toNat, List.mem_range.2 (by omega), by omega⟩
theorem lookL_mem {l : List (Int × Option (List UInt8))} {k : Int} (h : k ∉ l.map (·.1)) : lookL l k = none := foldl_none fun p hp e => h (List.mem_map.2 ⟨p, hp, e⟩)
theorem cells_all {s : Fl} {n : Nat} (h : s.B n) : cellsAt s (upto s.pages.toNat) = cellsF s := by
  refine cellsAt_ext (upto_lt _) (keysF_lt s) fun k hk => ?_
  have hp := h.p1
  have hmem : k ∈ s.safe.map (·.1) ∨ k ∈ s.loose.map (·.1) := by
    by_cases h1 : k ∈ s.loose.map (·.1)
    · exact .inr h1
    · by_cases h2 : k ∈ s.safe.map (·.1)
      · exact .inl h2
      · exfalso
        have : lookB s k = z256 := by unfold lookB; rw [lookL_mem h1, findM_none.2 h2]; rfl
        rw [this, blank_z] at hk; cases hk
  rw [upto_mem, keysF_mem]
  refine ⟨fun _ => hmem, fun _ => ?_⟩
  rcases hmem with hm | hm
  · obtain ⟨p, hp2, rfl⟩ := List.mem_map.1 hm
    have := h.safe.rng p hp2; omega
  · obtain ⟨p, hp2, rfl⟩ := List.mem_map.1 hm
    have := h.lrng p hp2; omega
theorem Rel.cells {s : Fl} {c : List (Int × List UInt8)} {n : Nat} (h : Rel s c n) : cellsAt (wc s c) (upto (wc s c).pages.toNat) = cellsF s := by
  rw [← cells_all h.b]
  unfold cellsAt
  have : (fun k => (k, lookB (wc s c) k)) = fun k => (k, lookB s k) := by funext k; rw [h.look]
  rw [this]
end Go.Proofs.YtlmahffjidgplaaGreatDoor
end

section
namespace Go.Proofs.YtlmahffjidgplaaGreatDoor
open Go Go.Av
set_option linter.unusedVariables false
set_option linter.unusedSimpArgs false
set_option maxRecDepth 100000
set_option maxHeartbeats 4000000
attribute [local go_sem] packed List.set_cons_zero List.set_cons_succ List.cons_append List.nil_append bytesRows_length cellRows_len chRows_len rCells intRows_len
attribute [-go_sem] cellsOf AV.isCell
attribute [local go_sem] cellsOf_agg cellsOf_int cellsOf_bool cellsOf_str cellsOf_map cellsOf_ptr cellsOf_nilI cellsOf_slice cellsOf_sl cellsOf_ifc cellsOf_fp cellsOf_opt optAV_cell icell_int icell_bool icell_str icell_map icell_ptr icell_nilI icell_slice icell_sl icell_ifc icell_fp

/-! ### TicketDoes -/
theorem getBox_GL (Δ : List HP) (b : Nat) : getBox (GL :: Δ) b = getBox Δ b := rfl
theorem setBox_GL (Δ : List HP) (b : Nat) (c : List AV) : setBox (GL :: Δ) b c = GL :: setBox Δ b c := rfl
theorem fresh_GL (Δ : List HP) (b : Nat) : fresh (GL :: Δ) b = fresh Δ b := rfl
theorem tputN_bd {s : Fl} {n at_ kd : Int} {b : List UInt8} (h : 1 ≤ n ∧ n ≤ 1099511627777) : 1 ≤ tputN s n at_ kd b ∧ tputN s n at_ kd b ≤ 1099511627777 := by
  unfold tputN
  split
  · rename_i hz
    have : checkC n kd b.length = 0 := by
      unfold tputC at hz
      false_or_by_contra
      rename_i hn
      rw [if_pos hn] at hz
      exact hn hz
    have := (checkC_zero this).1
    omega
  · exact h

def firmCC (s : Fl) (c : List (Int × List UInt8)) (n at_ kd : Int) (b : List UInt8) : List (Int × List UInt8) := if tputC s n at_ kd b ≠ 0 then c else flushCC (tputS s n at_ kd b) c
theorem firm_wc (s : Fl) (c : List (Int × List UInt8)) (n at_ kd : Int) (b : List UInt8) : tfirm04S (wc s c) n at_ kd b = wc (tfirmS s n at_ kd b) (firmCC s c n at_ kd b) := by
  unfold tfirm04S tfirmS firmCC
  have : tputC (wc s c) n at_ kd b = tputC s n at_ kd b := rfl
  rw [this, tputS_wc, flush_wc]
  split <;> rfl
theorem Rel.firm {s : Fl} {c : List (Int × List UInt8)} {m : Nat} (h : Rel s c m) (n at_ kd : Int) (b : List UInt8) : Rel (tfirmS s n at_ kd b) (firmCC s c n at_ kd b) (m + 2) := by
  unfold tfirmS firmCC
  by_cases hc : tputC s n at_ kd b ≠ 0
  · rw [if_pos hc, if_pos hc]; exact (h.put n at_ kd b).mono (by omega)
  · rw [if_neg hc, if_neg hc]; exact (h.put n at_ kd b).flush

theorem _root_.Go.Av.ACalls.underL {f : FuncId} {args : List AV} {D : List HP} {R : APost} (L : List HP) (h : ACalls Tryz.prog f args D R) : ACalls Tryz.prog f args (L ++ D) (fun r Δ' => ∃ D', R r D' ∧ Δ' = L ++ D') :=
  h.reorder (Fr := L) List.perm_append_comm (fun D' => L ++ D') (fun D' => List.perm_append_comm)
theorem _root_.Go.Av.ACalls.under1 {f : FuncId} {args : List AV} {D : List HP} {R : APost} (x : HP) (h : ACalls Tryz.prog f args D R) : ACalls Tryz.prog f args (x :: D) (fun r Δ' => ∃ D', R r D' ∧ Δ' = x :: D') := h.underL [x]
theorem _root_.Go.Av.ACalls.under2 {f : FuncId} {args : List AV} {D : List HP} {R : APost} (x y : HP) (h : ACalls Tryz.prog f args D R) : ACalls Tryz.prog f args (x :: y :: D) (fun r Δ' => ∃ D', R r D' ∧ Δ' = x :: y :: D') := h.underL [x, y]
theorem _root_.Go.Av.ACalls.under5 {f : FuncId} {args : List AV} {D : List HP} {R : APost} (a b c d e : HP) (h : ACalls Tryz.prog f args D R) : ACalls Tryz.prog f args (a :: b :: c :: d :: e :: D) (fun r Δ' => ∃ D', R r D' ∧ Δ' = a :: b :: c :: d :: e :: D') := h.underL [a, b, c, d, e]
theorem _root_.Go.Av.ACalls.swapGL {f : FuncId} {args : List AV} {D : List HP} {R : APost} (a b c d e : HP) (h : ACalls Tryz.prog f args (c :: D) R) : ACalls Tryz.prog f args (a :: b :: c :: d :: e :: D) (fun r Δ' => ∃ D', R r D' ∧ Δ' = a :: b :: d :: e :: D') :=
  h.reorder (Fr := [a, b, d, e]) ((List.perm_middle (l₁ := [a, b]) (l₂ := d :: e :: D)).trans (.cons _ (List.perm_append_comm (l₁ := [a, b, d, e])))) (fun D' => a :: b :: d :: e :: D') (fun D' => List.perm_append_comm (l₂ := [a, b, d, e]))
end Go.Proofs.YtlmahffjidgplaaGreatDoor
end
