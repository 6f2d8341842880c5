/- A part of the proof: what the calls do, told by values. -/
import Derived.Test.YtlmahffjidgplaaGreatDoorC2
section
namespace Go.Proofs.YtlmahffjidgplaaGreatDoor
open Go Go.Av
set_option linter.unusedVariables false
set_option linter.unusedSimpArgs false
set_option maxRecDepth 100000
set_option maxHeartbeats 4000000

/-! ### Devices that stay in their bounds -/
structure SafeOK (pages : Int) (l : List (Int × List UInt8)) : Prop where
  nodup : (l.map (·.1)).Nodup
  page : ∀ p ∈ l, p.2.length = 256
  nb : ∀ p ∈ l, blankB p.2 = false
  rng : ∀ p ∈ l, 0 ≤ p.1 ∧ p.1 < pages
theorem SafeOK.pages {pages : Int} {l : List (Int × List UInt8)} (h : SafeOK pages l) : pagesOK l := ⟨h.nodup, h.page⟩
theorem updM_len {V : Type} (l : List (Int × V)) (k : Int) (v : V) : (updM l k v).length ≤ l.length + 1 := by
  have := congrArg List.length (keys_upd l k v)
  rw [List.length_map] at this
  rw [this]; split <;> simp
theorem settle_safe {pages : Int} {l : List (Int × List UInt8)} {at_ : Int} {o : Option (List UInt8)} {keep : Int} (h : SafeOK pages l) (ho : ∀ b, o = some b → b.length = 256) (ha : 0 ≤ at_ ∧ at_ < pages) :
    SafeOK pages (settleM l at_ o keep) ∧ (settleM l at_ o keep).length ≤ l.length + 1 := by
  have hp := settle_pages (keep := keep) (at_ := at_) h.pages ho
  have hdel : (∀ p ∈ delM l at_, blankB p.2 = false) ∧ (∀ p ∈ delM l at_, 0 ≤ p.1 ∧ p.1 < pages) ∧ (delM l at_).length ≤ l.length + 1 :=
    ⟨fun p hp => h.nb p ((del_sub l at_).subset hp), fun p hp => h.rng p ((del_sub l at_).subset hp), Nat.le_succ_of_le (del_sub l at_).length_le⟩
  suffices hs : (∀ p ∈ settleM l at_ o keep, blankB p.2 = false) ∧ (∀ p ∈ settleM l at_ o keep, 0 ≤ p.1 ∧ p.1 < pages) ∧ (settleM l at_ o keep).length ≤ l.length + 1 from
    ⟨⟨hp.1, hp.2, hs.1, hs.2.1⟩, hs.2.2⟩
  unfold settleM
  cases o with
  | none =>
    simp only; split
    · exact hdel
    · exact ⟨h.nb, h.rng, Nat.le_succ _⟩
  | some b =>
    simp only
    split
    · exact ⟨h.nb, h.rng, Nat.le_succ _⟩
    · split
      · exact hdel
      · rename_i hb
        refine ⟨fun p hp => ?_, fun p hp => ?_, updM_len _ _ _⟩
        · rcases mem_upd hp with rfl | hp
          · simpa using hb
          · exact h.nb p hp
        · rcases mem_upd hp with rfl | hp
          · exact ha
          · exact h.rng p hp
theorem settleAll_safe {pages : Int} : ∀ {ls : List (Int × Option (List UInt8))} {l : List (Int × List UInt8)}, SafeOK pages l → (∀ p ∈ ls, ∀ b, p.2 = some b → b.length = 256) → (∀ p ∈ ls, 0 ≤ p.1 ∧ p.1 < pages) →
    SafeOK pages (settleAll l ls) ∧ (settleAll l ls).length ≤ l.length + ls.length
  | [], l, h, _, _ => ⟨h, Nat.le_refl _⟩
  | p :: ls, l, h, h1, h2 => by
    have hs := settle_safe (keep := 256) h (h1 p (by simp)) (h2 p (by simp))
    have := settleAll_safe (ls := ls) hs.1 (fun q hq => h1 q (by simp [hq])) (fun q hq => h2 q (by simp [hq]))
    exact ⟨this.1, by have h3 := this.2; have h4 := hs.2; simp only [List.length_cons]; unfold settleAll at h3 ⊢; simp only [List.foldl_cons]; omega⟩
theorem settleKeep_safe {pages : Int} : ∀ {ls : List (Int × Option (List UInt8))} {ks : List Int} {l : List (Int × List UInt8)}, SafeOK pages l → (∀ p ∈ ls, ∀ b, p.2 = some b → b.length = 256) → (∀ p ∈ ls, 0 ≤ p.1 ∧ p.1 < pages) →
    SafeOK pages (settleKeep l ls ks) ∧ (settleKeep l ls ks).length ≤ l.length + ls.length
  | [], ks, l, h, _, _ => ⟨h, Nat.le_refl _⟩
  | p :: ls, [], l, h, _, _ => ⟨h, Nat.le_add_right _ _⟩
  | p :: ls, k :: ks, l, h, h1, h2 => by
    have hs := settle_safe (keep := k) h (h1 p (by simp)) (h2 p (by simp))
    have := settleKeep_safe (ls := ls) (ks := ks) hs.1 (fun q hq => h1 q (by simp [hq])) (fun q hq => h2 q (by simp [hq]))
    exact ⟨this.1, by have h3 := this.2; have h4 := hs.2; simp only [List.length_cons, settleKeep]; omega⟩

structure Fl.B (s : Fl) (n : Nat) : Prop where
  p1 : 1 ≤ s.pages
  p2 : s.pages ≤ 4096
  safe : SafeOK s.pages s.safe
  lpage : ∀ p ∈ s.loose, ∀ b, p.2 = some b → b.length = 256
  lrng : ∀ p ∈ s.loose, 0 ≤ p.1 ∧ p.1 < s.pages
  f1 : -1 ≤ s.fuse
  f2 : s.fuse < 9223372036854775808
  d1 : 0 ≤ s.done
  d2 : s.done ≤ n
  len : s.safe.length + s.loose.length ≤ n
theorem Fl.B.wf {s : Fl} {n : Nat} (h : s.B n) (hn : n < 1073741824) : s.WF :=
  ⟨h.p1, h.p2, h.safe.nodup, h.safe.page, h.lpage, h.f1, h.f2, h.d1, by have := h.d2; omega, by have := h.len; omega⟩
theorem Fl.B.small {s : Fl} {n : Nat} (h : s.B n) (hn : n < 1073741824) : s.safe.length < 1073741824 := by have := h.len; omega
theorem Fl.B.mono {s : Fl} {n m : Nat} (h : s.B n) (hm : n ≤ m) : s.B m :=
  { h with d2 := by have := h.d2; omega, len := Nat.le_trans h.len hm }
theorem newFl_B {p : Int} (h1 : 1 ≤ p) (h2 : p ≤ 4096) : (newFl p).B 0 :=
  ⟨h1, h2, ⟨by simp [newFl], by simp [newFl], by simp [newFl], by simp [newFl]⟩, by simp [newFl], by simp [newFl], by simp [newFl], by simp [newFl], by simp [newFl], by simp [newFl], by simp [newFl]⟩
theorem burnS_B {s : Fl} {n : Nat} (h : s.B n) : (burnS s).B (n + 1) := by
  have q1 := h.f1
  have q2 := h.f2
  have q3 := h.d1
  have q4 := h.d2
  unfold burnS
  split
  · exact { h with d1 := by show 0 ≤ s.done + 1; omega, d2 := by show s.done + 1 ≤ _; omega, len := Nat.le_succ_of_le h.len }
  · exact { h with f1 := by show -1 ≤ s.fuse - 1; omega, f2 := by show s.fuse - 1 < _; omega, d1 := by show 0 ≤ s.done + 1; omega, d2 := by show s.done + 1 ≤ _; omega, len := Nat.le_succ_of_le h.len }
theorem checkF_rng {s : Fl} {at_ : Int} (h : checkF s at_ = 0) : s.down = false ∧ 0 ≤ at_ ∧ at_ < s.pages := by
  unfold checkF at h
  split at h
  · cases h
  · split at h
    · cases h
    · rename_i h1 h2
      exact ⟨by simpa using h1, by omega, by omega⟩
theorem changeS_B {s : Fl} {n : Nat} (h : s.B n) {at_ : Int} {o : Option (List UInt8)} (hc : checkF s at_ = 0) (ho : ∀ b, o = some b → b.length = 256) : (changeS s at_ o).B (n + 1) := by
  obtain ⟨-, ha⟩ := checkF_rng hc
  unfold changeS
  have q1 := h.f1
  have q2 := h.f2
  have q3 := h.d1
  have q4 := h.d2
  have h2 : ∀ p ∈ s.loose ++ [(at_, o)], ∀ b, p.2 = some b → b.length = 256 := fun p hp => by
    rcases List.mem_append.1 hp with hp | hp
    · exact h.lpage p hp
    · rw [List.mem_singleton.1 hp]; exact ho
  have h3 : ∀ p ∈ s.loose ++ [(at_, o)], 0 ≤ p.1 ∧ p.1 < s.pages := fun p hp => by
    rcases List.mem_append.1 hp with hp | hp
    · exact h.lrng p hp
    · rw [List.mem_singleton.1 hp]; exact ha
  have h4 : s.safe.length + (s.loose ++ [(at_, o)]).length ≤ n + 1 := by have := h.len; simp only [List.length_append, List.length_cons, List.length_nil]; omega
  unfold burnS
  split
  · exact { h with lpage := h2, lrng := h3, d1 := by show 0 ≤ s.done + 1; omega, d2 := by show s.done + 1 ≤ _; omega, len := h4 }
  · exact { h with lpage := h2, lrng := h3, f1 := by show -1 ≤ s.fuse - 1; simp only [Int.not_lt] at *; omega, f2 := by show s.fuse - 1 < _; omega, d1 := by show 0 ≤ s.done + 1; omega, d2 := by show s.done + 1 ≤ _; omega, len := h4 }
theorem writeS_B {s : Fl} {n : Nat} (h : s.B n) (at_ : Int) (b : List UInt8) : (writeS s at_ b).B (n + 1) := by
  unfold writeS
  split
  · exact h.mono (Nat.le_succ _)
  · rename_i hc
    refine changeS_B h (by false_or_by_contra; rename_i h1; exact hc (.inl h1)) (fun b' hb => ?_)
    cases hb
    false_or_by_contra; rename_i h1; exact hc (.inr h1)
theorem trimS_B {s : Fl} {n : Nat} (h : s.B n) (at_ : Int) : (trimS s at_).B (n + 1) := by
  unfold trimS
  split
  · exact h.mono (Nat.le_succ _)
  · rename_i hc
    exact changeS_B h (by false_or_by_contra; rename_i h1; exact hc h1) (fun b' hb => by cases hb)
theorem flushS_B {s : Fl} {n : Nat} (h : s.B n) : (flushS s).B (n + 1) := by
  unfold flushS
  split
  · exact h.mono (Nat.le_succ _)
  · split
    · exact burnS_B h
    · have hb := burnS_B h
      have hs := settleAll_safe (ls := s.loose) h.safe h.lpage h.lrng
      have e := burnS_pages s
      have := h.len
      exact { hb with safe := by show SafeOK (burnS s).pages _; rw [e]; exact hs.1, lpage := (fun p hp => by cases hp), lrng := (fun p hp => by cases hp), len := by have := hs.2; show (settleAll s.safe s.loose).length + 0 ≤ _; omega }
theorem crashS_B {s : Fl} {n : Nat} (h : s.B n) (keep : List Int) : (crashS s keep).B n := by
  have hs := settleKeep_safe (ls := s.loose) (ks := keep) h.safe h.lpage h.lrng
  have := h.len
  exact { h with safe := hs.1, lpage := (fun p hp => by cases hp), lrng := (fun p hp => by cases hp), f1 := by show (-1 : Int) ≤ -1; omega, f2 := by show (-1 : Int) < _; omega, len := by have := hs.2; show (settleKeep s.safe s.loose keep).length + 0 ≤ _; omega }
theorem fuseS_B {s : Fl} {n : Nat} (h : s.B n) {k : Int} (hk : k < 9223372036854775808) : (fuseS s k).B n :=
  { h with f1 := by show -1 ≤ max k (-1); omega, f2 := by show max k (-1) < _; omega }

/-! ### Which pages a device has -/
theorem sorted_ext : ∀ {l m : List Int}, l.Pairwise (· < ·) → m.Pairwise (· < ·) → (∀ k, k ∈ l ↔ k ∈ m) → l = m
  | [], [], _, _, _ => rfl
  | [], b :: m, _, _, h => by have := (h b).2 (by simp); cases this
  | a :: l, [], _, _, h => by have := (h a).1 (by simp); cases this
  | a :: l, b :: m, hl, hm, h => by
    obtain ⟨h1, h2⟩ := List.pairwise_cons.1 hl
    obtain ⟨h3, h4⟩ := List.pairwise_cons.1 hm
    have hab : a = b := by
      have e1 := (h a).1 (by simp)
      have e2 := (h b).2 (by simp)
      rcases List.mem_cons.1 e1 with e | e1
      · exact e
      rcases List.mem_cons.1 e2 with e | e2
      · exact e.symm
      have := h3 a e1
      have := h1 b e2
      omega
    subst hab
    congr 1
    refine sorted_ext h2 h4 fun k => ⟨fun hk => ?_, fun hk => ?_⟩
    · rcases List.mem_cons.1 ((h k).1 (by simp [hk])) with e | e
      · have := h1 k hk; omega
      · exact e
    · rcases List.mem_cons.1 ((h k).2 (by simp [hk])) with e | e
      · have := h3 k hk; omega
      · exact e
def dedup : List Int → List Int
  | [] => []
  | x :: l => if x ∈ dedup l then dedup l else x :: dedup l
theorem dedup_mem {k : Int} : ∀ {l : List Int}, k ∈ dedup l ↔ k ∈ l
  | [] => Iff.rfl
  | x :: l => by
    unfold dedup
    split
    · rename_i h; rw [dedup_mem, List.mem_cons]
      exact ⟨.inr, fun h' => h'.elim (fun e => by rw [e]; exact dedup_mem.1 h) id⟩
    · rw [List.mem_cons, List.mem_cons, dedup_mem]
theorem dedup_nodup : ∀ {l : List Int}, (dedup l).Nodup
  | [] => List.Pairwise.nil
  | x :: l => by
    unfold dedup
    split
    · exact dedup_nodup
    · rename_i h; exact List.nodup_cons.2 ⟨h, dedup_nodup⟩
def keysF (s : Fl) : List Int := sortInts (dedup (s.safe.map (·.1) ++ s.loose.map (·.1)))
theorem keysF_lt (s : Fl) : (keysF s).Pairwise (· < ·) := sortInts_lt dedup_nodup
theorem keysF_mem (s : Fl) (k : Int) : k ∈ keysF s ↔ k ∈ s.safe.map (·.1) ∨ k ∈ s.loose.map (·.1) := by
  unfold keysF sortInts
  rw [(List.mergeSort_perm _ _).mem_iff, dedup_mem, List.mem_append]
def cellsF (s : Fl) : List (Int × List UInt8) := cellsAt s (keysF s)
theorem keysF_len {s : Fl} {n : Nat} (h : s.B n) : (keysF s).length ≤ n := by
  have h1 : ∀ l : List Int, (dedup l).length ≤ l.length := fun l => by
    induction l with
    | nil => exact Nat.le_refl _
    | cons x l ih => unfold dedup; split <;> simp only [List.length_cons] <;> omega
  have h2 := h1 (s.safe.map (·.1) ++ s.loose.map (·.1))
  have h3 := h.len
  have h4 : (keysF s).length = (dedup (s.safe.map (·.1) ++ s.loose.map (·.1))).length := (List.mergeSort_perm _ _).length_eq
  rw [h4]
  simp only [List.length_append, List.length_map] at h2
  omega
theorem cellsF_len {s : Fl} {n : Nat} (h : s.B n) : (cellsF s).length ≤ n := by
  unfold cellsF cellsAt
  refine Nat.le_trans (List.length_filter_le _ _) ?_
  rw [List.length_map]; exact keysF_len h
theorem cellsF_page {s : Fl} (hw : s.WF) : ∀ p ∈ cellsF s, p.2.length = 256 := by
  intro p hp
  obtain ⟨k, -, rfl⟩ := List.mem_map.1 (List.mem_filter.1 hp).1
  exact look_len hw k
theorem cellsF_ok {f : Nat} {s : Fl} {D : List HP} (h : OwnF f s D) (hw : s.WF) (hsl : s.safe.length < 1073741824) : ACalls Tryz.prog 85 [ptr f] D (fun r Δ => r = .ret (.sl 2 (cellRows (cellsF s))) ∧ Δ = D) :=
  (cells_ok h hw hsl).mono fun a Δ ⟨⟨ks, h1, h2, h3⟩, h4⟩ => by
    rw [sorted_ext h1 (keysF_lt s) (fun k => (h2 k).trans (keysF_mem s k).symm)] at h3
    exact ⟨h3, h4⟩
end Go.Proofs.YtlmahffjidgplaaGreatDoor
end

section
namespace Go.Proofs.YtlmahffjidgplaaGreatDoor
open Go Go.Av
set_option linter.unusedVariables false
set_option linter.unusedSimpArgs false
set_option maxRecDepth 100000
set_option maxHeartbeats 4000000
attribute [local go_sem] packed List.set_cons_zero List.set_cons_succ List.cons_append List.nil_append bytesRows_length cellRows_len
attribute [-go_sem] cellsOf AV.isCell
attribute [local go_sem] cellsOf_agg cellsOf_int cellsOf_bool cellsOf_str cellsOf_map cellsOf_ptr cellsOf_nilI cellsOf_slice cellsOf_sl cellsOf_ifc cellsOf_fp cellsOf_opt optAV_cell icell_int icell_bool icell_str icell_map icell_ptr icell_nilI icell_slice icell_sl icell_ifc icell_fp

/-! ### Tickets -/
abbrev tbox (t f : Nat) (next : Int) : HP := .box t 77 [ptr f, .c (.int .i64 next)]
def stepN (n : Int) (c : Int × List UInt8) : Int := max (max n ((stampsB c.2).1 + 1)) ((stampsB c.2).2 + 1)
def nextF (s : Fl) : Int := (cellsF s).foldl stepN 1
theorem fitN_le (n : UInt64) : fitN n ≤ 1099511627776 := by unfold fitN; split <;> omega
theorem stampsB_le (b : List UInt8) : (stampsB b).1 ≤ 1099511627776 ∧ (stampsB b).2 ≤ 1099511627776 := by
  unfold stampsB; split
  · exact ⟨fitN_le _, fitN_le _⟩
  · exact ⟨by simp, by simp⟩
theorem stepN_bd {n : Int} (c : Int × List UInt8) (h : 1 ≤ n ∧ n ≤ 1099511627777) : 1 ≤ stepN n c ∧ stepN n c ≤ 1099511627777 := by
  have := stampsB_le c.2
  unfold stepN; omega
theorem foldN_bd : ∀ (l : List (Int × List UInt8)) {n : Int}, 1 ≤ n ∧ n ≤ 1099511627777 → 1 ≤ l.foldl stepN n ∧ l.foldl stepN n ≤ 1099511627777
  | [], _, h => h
  | c :: l, _, h => foldN_bd l (stepN_bd c h)
theorem nextF_bd (s : Fl) : 1 ≤ nextF s ∧ nextF s ≤ 1099511627777 := foldN_bd _ (by decide)
theorem cellRows_get {l : List (Int × List UInt8)} {i : Nat} {p : Int × List UInt8} (h : l[i]? = some p) : (cellRows l)[i]? = some [.c (.int .i64 p.1), .sl 1 (bytesRows p.2)] := by simp [cellRows, h, cellRow]

theorem topen_nil : ACalls Tryz.prog 30 [.c (.pointer none)] [] (fun r Δ => (∃ e, r = .ret (.tup [.c (.pointer none), e]) ∧ IsErr e 1) ∧ Δ = []) := by
  refine calls_of_J cl_30 Tryz.func30 rfl (by simp [Tryz.ntmps30]) ?_
  refine jr (own := []) (h := ?_)
  refine jt (h := ?_)
  refine jr (own := []) (h := ?_)
  refine jc (hs := newS_ok _ _ _) (hk := ?_)
  refine jr (own := []) (h := ?_)
  refine jret Tryz.func30 (h := ⟨⟨_, rfl, errNew_is _ _ _⟩, rfl⟩)

section
variable {f : Nat} {s : Fl} {D : List HP}
theorem topen_down (h : OwnF f s D) (hd : s.down = true) : ACalls Tryz.prog 30 [ptr f] D (fun r D' => (∃ e, r = .ret (.tup [.c (.pointer none), e]) ∧ IsErr e 11) ∧ D' = D) := by
  refine calls_of_J cl_30 Tryz.func30 rfl (by simp [Tryz.ntmps30]) ?_
  refine jr (own := []) (h := ?_)
  refine jn (h := ?_)
  refine jr (own := []) (h := ?_)
  refine jcs (Fr := []) (hs := (down_ok h)) (hp := (by simp)) (hk := ?_) (hpan := (by rintro x Δ' ⟨e, _⟩; cases e))
  rintro x D ⟨e, rfl⟩
  cases e
  rw [List.append_nil]
  refine jf (own := []) hd (h := ?_)
  refine jt (h := ?_)
  refine jr (own := []) (h := ?_)
  refine jcs (Fr := []) (hs := (pages_ok h)) (hp := (by simp)) (hk := ?_) (hpan := (by rintro x Δ' ⟨e, _⟩; cases e))
  rintro x D ⟨e, rfl⟩
  cases e
  rw [List.append_nil]
  refine jr (own := []) (h := ?_)
  refine jc (hs := newS_ok _ _ _) (hk := ?_)
  refine jr (own := []) (h := ?_)
  refine jret Tryz.func30 (h := ⟨⟨_, rfl, errNew_is _ _ _⟩, rfl⟩)

theorem topen_ok (h : OwnF f s D) (hw : s.WF) (hsl : s.safe.length < 1073741824) (hd : s.down = false) (hcl : (cellsF s).length < 1073741824) : ACalls Tryz.prog 30 [ptr f] D (fun r D' => ∃ t, r = .ret (.tup [ptr t, .c .nilIface]) ∧ D' = tbox t f (nextF s) :: D) := by
  refine calls_of_J cl_30 Tryz.func30 rfl (by simp [Tryz.ntmps30]) ?_
  refine jr (own := []) (h := ?_)
  refine jn (h := ?_)
  refine jr (own := []) (h := ?_)
  refine jcs (Fr := []) (hs := (down_ok h)) (hp := (by simp)) (hk := ?_) (hpan := (by rintro x Δ' ⟨e, _⟩; cases e))
  rintro x D ⟨e, rfl⟩
  cases e
  rw [List.append_nil]
  refine jf (own := []) hd (h := ?_)
  refine jn (h := ?_)
  refine jr (own := [19]) (h := ?_)
  refine jnb (hh := fun t ht => ?_)
  refine jr (own := []) (h := ?_)
  refine jcs (Δ1 := D) (Fr := [_]) (hs := (cellsF_ok h hw hsl)) (hp := (List.perm_append_comm (l₁ := [_]))) (hk := ?_) (hpan := (by rintro x Δ' ⟨e, _⟩; cases e))
  rintro x D ⟨e, rfl⟩
  cases e
  refine J_perm List.perm_append_comm ?_
  have hpg := cellsF_page hw
  have hnx : nextF s = (cellsF s).foldl stepN 1 := rfl
  rw [hnx]
  generalize cellsF s = cs at *
  refine jr (own := []) (h := ?_)
  refine jk [4, 21, 22, 23] (h := ?_)
  refine J_loopI (I := fun m e D' => ∃ i : Nat, i ≤ cs.length ∧ m = cs.length - i ∧ D' = tbox t f ((cs.take i).foldl stepN 1) :: D ∧ e = [(4, ptr t), (21, .sl 2 (cellRows cs)), (22, .c (.int .i64 cs.length)), (23, .c (.int .i64 i))]) ?_ ?_
  · exact ⟨_, 0, Nat.zero_le _, rfl, rfl, rfl⟩
  · rintro m e D' ⟨i, hi, rfl, rfl, rfl⟩ ih
    refine jr (own := []) (h := ?_)
    refine jif (h1 := fun hc => ?_) (h2 := fun hc => ?_)
    · have hlt : i < cs.length := by omega
      have g0 := List.getElem?_eq_getElem hlt
      have g1 := cellRows_get g0
      have h0 : (0 : Int) ≤ (i : Int) := by omega
      have hb := hpg _ (List.getElem_mem hlt)
      have hst := stampsB_le cs[i].2
      have hbd := foldN_bd (cs.take i) (n := 1) (by decide)
      refine J_mrun (own := [6]) (m := 2000) (by simp (maxSteps := 2000000) (disch := omega) only [go_sem, ↓reduceIte, Int.reduceLT, Int.reduceLE, Int.reduceToNat, Int.reducePow, Int.reduceNeg, Nat.reduceBEq, Tryz.ntmps30, g1] <;> with_reducible rfl) ?_
      refine jnv (hh := fun b6 hb6 => ?_)
      simp only [fresh] at hb6
      refine jf (own := []) hb6 (h := ?_)
      refine jc (hs := stamps_ok cs[i].2 (by omega)) (hk := ?_)
      refine jf (own := []) hb6 (h := ?_)
      refine J_drop ?_
      refine jk [4, 21, 22, 23] (h := ?_)
      refine ih _ _ _ ?_ ⟨i + 1, by omega, rfl, ?_, rfl⟩
      · omega
      · rw [List.take_add_one, g0, List.foldl_append]; rfl
    · have hi' : i = cs.length := by omega
      subst hi'
      rw [List.take_length]
      refine jr (own := []) (h := ?_)
      refine jret Tryz.func30 (h := ⟨t, rfl, rfl⟩)

variable {t : Nat} {n : Int}
def tputC (s : Fl) (n at_ kd : Int) (b : List UInt8) : Int := if checkC n kd b.length ≠ 0 then checkC n kd b.length else writeC s at_ 256
def tputS (s : Fl) (n at_ kd : Int) (b : List UInt8) : Fl := if checkC n kd b.length ≠ 0 then s else writeS s at_ (putB n.toNat kd.toNat b)
def tputN (s : Fl) (n at_ kd : Int) (b : List UInt8) : Int := if tputC s n at_ kd b = 0 then n + 1 else n
theorem checkC_zero {st kd : Int} {n : Nat} (h : checkC st kd n = 0) : (1 ≤ st ∧ st ≤ 1099511627776) ∧ (1 ≤ kd ∧ kd ≤ 5) ∧ n ≤ 233 := by
  unfold checkC at h
  split at h
  · cases h
  · split at h
    · cases h
    · split at h
      · cases h
      · omega
theorem tput_ok (h : OwnF f s D) (hw : s.WF) (hn : n < 4611686018427387904) (at_ kd : Int) (b : List UInt8) (hb : b.length < 2 ^ 37) : ACalls Tryz.prog 123 [ptr t, .c (.int .i64 at_), .c (.int .i64 kd), .sl 1 (bytesRows b)] (tbox t f n :: D)
    (fun r D' => ∃ e D1, r = .ret e ∧ IsErr e (tputC s n at_ kd b) ∧ (tputC s n at_ kd b = 0 → e = .c .nilIface) ∧ OwnF f (tputS s n at_ kd b) D1 ∧ D' = tbox t f (tputN s n at_ kd b) :: D1) := by
  by_cases hc : checkC n kd b.length = 0
  rotate_left
  · have hC : tputC s n at_ kd b = checkC n kd b.length := by unfold tputC; rw [if_pos hc]
    have hS : tputS s n at_ kd b = s := by unfold tputS; rw [if_pos hc]
    have hN : tputN s n at_ kd b = n := by unfold tputN; rw [hC, if_neg hc]
    rw [hC, hS, hN]
    have hpe := put_err n kd b hb hc
    unfold leafAV at hpe
    refine calls_of_J cl_123 Tryz.func123 rfl (by simp [Tryz.ntmps123]) ?_
    refine jr (own := []) (h := ?_)
    refine jcs (Δ1 := []) (Fr := _ :: D) (hs := hpe) (hp := (List.Perm.refl _)) (hk := ?_) (hpan := (by rintro x Δ' ⟨⟨e, h, _⟩, _⟩; cases h))
    rintro x Δ' ⟨⟨e, h1, he⟩, rfl⟩
    cases h1
    obtain ⟨y, z, rfl⟩ := iserr_ne he hc
    refine J_mrun (own := []) (m := 2000) (by simp (maxSteps := 2000000) (disch := omega) only [go_sem, ↓reduceIte, Int.reduceLT, Int.reduceLE, Int.reduceToNat, Int.reducePow, Int.reduceNeg, Nat.reduceBEq, Tryz.ntmps123, anil] <;> with_reducible rfl) ?_
    refine jt (h := ?_)
    refine jr (own := []) (h := ?_)
    refine jcs (Δ1 := []) (Fr := _ :: D) (hs := (wrapS_ok _ _ he)) (hp := (List.Perm.refl _)) (hk := ?_) (hpan := (by rintro x Δ' ⟨⟨e, h, _⟩, _⟩; cases h))
    rintro x Δ' ⟨⟨e, h2, he'⟩, rfl⟩
    cases h2
    refine jr (own := []) (h := ?_)
    refine jret Tryz.func123 (h := ⟨_, D, rfl, he', fun h => absurd h hc, h, rfl⟩)
  · obtain ⟨⟨h1, h2⟩, ⟨h3, h4⟩, h5⟩ := checkC_zero hc
    have hC : tputC s n at_ kd b = writeC s at_ 256 := by unfold tputC; rw [if_neg (by simp [hc])]
    have hS : tputS s n at_ kd b = writeS s at_ (putB n.toNat kd.toNat b) := by unfold tputS; rw [if_neg (by simp [hc])]
    have hN : tputN s n at_ kd b = if writeC s at_ 256 = 0 then n + 1 else n := by unfold tputN; rw [hC]
    rw [hC, hS, hN]
    have hpl := putB_len n.toNat kd.toNat b h5
    have hp := put_ok n.toNat kd.toNat b (by omega) (by omega) (by omega) (by omega) h5
    rw [show ((n.toNat : Nat) : Int) = n from by omega, show ((kd.toNat : Nat) : Int) = kd from by omega] at hp
    unfold leafAV at hp
    have hwr := write_ok h hw at_ (putB n.toNat kd.toNat b) (by omega)
    rw [hpl] at hwr
    refine calls_of_J cl_123 Tryz.func123 rfl (by simp [Tryz.ntmps123]) ?_
    refine jr (own := []) (h := ?_)
    refine jc (hs := hp) (hk := ?_)
    refine J_mrun (own := []) (m := 2000) (by simp (maxSteps := 2000000) (disch := omega) only [go_sem, ↓reduceIte, Int.reduceLT, Int.reduceLE, Int.reduceToNat, Int.reducePow, Int.reduceNeg, Nat.reduceBEq, Tryz.ntmps123, anil] <;> with_reducible rfl) ?_
    refine jn (h := ?_)
    refine jr (own := []) (h := ?_)
    refine jcs (Δ1 := D) (Fr := [_]) (hs := hwr) (hp := (List.perm_append_comm (l₁ := [_]))) (hk := ?_) (hpan := (by rintro x Δ' ⟨e, h, _⟩; cases h))
    rintro x D2 ⟨e, h6, he, hz, hO⟩
    cases h6
    refine J_perm List.perm_append_comm ?_
    by_cases hw0 : writeC s at_ 256 = 0
    · obtain rfl := hz hw0
      rw [if_pos hw0]
      refine jr (own := []) (h := ?_)
      refine jn (h := ?_)
      refine jr (own := []) (h := ?_)
      refine jret Tryz.func123 (h := ⟨_, D2, rfl, he, fun _ => rfl, hO, rfl⟩)
    · rw [if_neg hw0]
      obtain ⟨y, z, rfl⟩ := iserr_ne he hw0
      refine jr (own := []) (h := ?_)
      refine jt (h := ?_)
      refine jr (own := []) (h := ?_)
      refine jcs (Δ1 := []) (Fr := _ :: D2) (hs := (wrapS_ok _ _ he)) (hp := (List.Perm.refl _)) (hk := ?_) (hpan := (by rintro x Δ' ⟨⟨e, h, _⟩, _⟩; cases h))
      rintro x Δ' ⟨⟨e, h2, he'⟩, rfl⟩
      cases h2
      refine jr (own := []) (h := ?_)
      refine jret Tryz.func123 (h := ⟨_, D2, rfl, he', fun h => absurd h hw0, hO, rfl⟩)

def tfirmC (s : Fl) (n at_ kd : Int) (b : List UInt8) : Int := if tputC s n at_ kd b ≠ 0 then tputC s n at_ kd b else flushC (tputS s n at_ kd b)
def tfirmS (s : Fl) (n at_ kd : Int) (b : List UInt8) : Fl := if tputC s n at_ kd b ≠ 0 then tputS s n at_ kd b else flushS (tputS s n at_ kd b)
theorem iserr_zero {e : AV} (h : IsErr e 0) : e = .c .nilIface := by
  cases h with
  | none => rfl
  | code _ _ _ h => exact absurd rfl h
  | under _ _ _ _ h => exact absurd rfl h
theorem tfirm_ok (at_ kd : Int) (b : List UInt8) (h : OwnF f s D) (hw : s.WF) (hw2 : (tputS s n at_ kd b).WF) (hn : n < 4611686018427387904) (hb : b.length < 2 ^ 37) : ACalls Tryz.prog 74 [ptr t, .c (.int .i64 at_), .c (.int .i64 kd), .sl 1 (bytesRows b)] (tbox t f n :: D)
    (fun r D' => ∃ e D1, r = .ret e ∧ IsErr e (tfirmC s n at_ kd b) ∧ (tfirmC s n at_ kd b = 0 → e = .c .nilIface) ∧ OwnF f (tfirmS s n at_ kd b) D1 ∧ D' = tbox t f (tputN s n at_ kd b) :: D1) := by
  refine calls_of_J cl_74 Tryz.func74 rfl (by simp [Tryz.ntmps74]) ?_
  refine jr (own := []) (h := ?_)
  refine jcs (Fr := []) (hs := (tput_ok (t := t) h hw hn at_ kd b hb)) (hp := (by simp)) (hk := ?_) (hpan := (by rintro x Δ' ⟨e, D1, h, _⟩; cases h))
  rintro x D2 ⟨e, D1, h1, he, hz, hO, rfl⟩
  cases h1
  rw [List.append_nil]
  by_cases hc : tputC s n at_ kd b = 0
  rotate_left
  · have hC : tfirmC s n at_ kd b = tputC s n at_ kd b := by unfold tfirmC; rw [if_pos hc]
    have hS : tfirmS s n at_ kd b = tputS s n at_ kd b := by unfold tfirmS; rw [if_pos hc]
    rw [hC, hS]
    obtain ⟨y, z, rfl⟩ := iserr_ne he hc
    refine jr (own := []) (h := ?_)
    refine jt (h := ?_)
    refine jr (own := []) (h := ?_)
    refine jret Tryz.func74 (h := ⟨_, D1, rfl, he, fun h => absurd h hc, hO, rfl⟩)
  have hC : tfirmC s n at_ kd b = flushC (tputS s n at_ kd b) := by unfold tfirmC; rw [if_neg (by simp [hc])]
  have hS : tfirmS s n at_ kd b = flushS (tputS s n at_ kd b) := by unfold tfirmS; rw [if_neg (by simp [hc])]
  rw [hC, hS]
  obtain rfl := hz hc
  refine jr (own := []) (h := ?_)
  refine jn (h := ?_)
  refine jr (own := []) (h := ?_)
  refine jcs (Δ1 := D1) (Fr := [_]) (hs := (flush_ok hO hw2)) (hp := (List.perm_append_comm (l₁ := [_]))) (hk := ?_) (hpan := (by rintro x Δ' ⟨e, h, _⟩; cases h))
  rintro x D2 ⟨e, h6, he, hz, hO⟩
  cases h6
  refine J_perm List.perm_append_comm ?_
  refine jr (own := []) (h := ?_)
  refine jcs (Δ1 := []) (Fr := _ :: D2) (hs := (wrapS_ok _ _ he)) (hp := (List.Perm.refl _)) (hk := ?_) (hpan := (by rintro x Δ' ⟨⟨e, h, _⟩, _⟩; cases h))
  rintro x Δ' ⟨⟨e, h2, he'⟩, rfl⟩
  cases h2
  refine jr (own := []) (h := ?_)
  refine jret Tryz.func74 (h := ⟨_, D2, rfl, he', fun h => iserr_zero (h ▸ he'), hO, rfl⟩)

def tgetC (s : Fl) (at_ kd : Int) : Int := if checkF s at_ ≠ 0 then checkF s at_ else if getC (lookB s at_) ≠ 0 then getC (lookB s at_) else if (kdB (lookB s at_) : Int) ≠ kd then 12 else 0
theorem tget_ok (h : OwnF f s D) (hw : s.WF) (at_ kd : Int) : ACalls Tryz.prog 80 [ptr t, .c (.int .i64 at_), .c (.int .i64 kd)] (tbox t f n :: D)
    (fun r D' => (tgetC s at_ kd = 0 → r = .ret (.tup [leafAV (stampsB (lookB s at_)).1 (kdB (lookB s at_)) (.sl 1 (bytesRows (txtB (lookB s at_)))), .c .nilIface])) ∧
      (tgetC s at_ kd ≠ 0 → ∃ e, r = .ret (.tup [leafAV 0 0 (.c (.slice none 0 0)), e]) ∧ IsErr e (tgetC s at_ kd)) ∧ D' = tbox t f n :: D) := by
  unfold leafAV
  have hll := look_len hw at_
  refine calls_of_J cl_80 Tryz.func80 rfl (by simp [Tryz.ntmps80]) ?_
  refine jr (own := [6]) (h := ?_)
  refine jnv (hh := fun b6 hb6 => ?_)
  simp only [fresh] at hb6
  refine jf (own := []) hb6 (h := ?_)
  refine jcs (Δ1 := D) (Fr := [_, _]) (hs := (read_ok' h hw at_)) (hp := (List.perm_append_comm (l₁ := [_, _]))) (hk := ?_) (hpan := (by rintro x Δ' ⟨h1, h2, _⟩; by_cases hc : checkF s at_ = 0; (· cases h1 hc); (· obtain ⟨e, h3, _⟩ := h2 hc; cases h3)))
  rintro x D ⟨h1, h2, rfl⟩
  refine J_perm List.perm_append_comm ?_
  by_cases hc : checkF s at_ = 0
  rotate_left
  · have hC : tgetC s at_ kd = checkF s at_ := by unfold tgetC; rw [if_pos hc]
    obtain ⟨e, h3, he⟩ := h2 hc
    cases h3
    obtain ⟨y, z, rfl⟩ := iserr_ne he hc
    refine J_mrun (own := []) (m := 2000) (by simp (maxSteps := 2000000) (disch := omega) only [go_sem, ↓reduceIte, Int.reduceLT, Int.reduceLE, Int.reduceToNat, Int.reducePow, Int.reduceNeg, Nat.reduceBEq, Tryz.ntmps80, anil, hb6.1, hb6.2.1] <;> with_reducible rfl) ?_
    refine jt (h := ?_)
    refine jf (own := []) hb6 (h := ?_)
    refine jcs (Δ1 := []) (Fr := _ :: _ :: D) (hs := (wrapS_ok _ _ he)) (hp := (List.Perm.refl _)) (hk := ?_) (hpan := (by rintro x Δ' ⟨⟨e, h, _⟩, _⟩; cases h))
    rintro x Δ' ⟨⟨e, h2, he'⟩, rfl⟩
    cases h2
    refine jf (own := []) hb6 (h := ?_)
    rw [hC]
    refine J_forgetP ?_
    refine jretf hb6 Tryz.func80 (h := ⟨[_], _, List.Perm.refl _, fun h => absurd h hc, fun _ => ⟨_, rfl, he'⟩, rfl⟩)
  cases h1 hc
  have hg := get_ok (lookB s at_) (by omega)
  unfold leafAV at hg
  simp only [pageAV]
  refine jf (own := []) hb6 (h := ?_)
  refine jn (h := ?_)
  refine jf (own := [10]) hb6 (h := ?_)
  refine jcs (Δ1 := []) (Fr := _ :: _ :: D) (hs := hg) (hp := (List.Perm.refl _)) (hk := ?_) (hpan := (by rintro x Δ' ⟨h1, h2, _⟩; by_cases hc : getC (lookB s at_) = 0; (· cases h1 hc); (· obtain ⟨e, h3, _⟩ := h2 hc; cases h3)))
  rintro x Δ' ⟨h3, h4, rfl⟩
  by_cases hgc : getC (lookB s at_) = 0
  rotate_left
  · have hC : tgetC s at_ kd = getC (lookB s at_) := by unfold tgetC; rw [if_neg (by simp [hc]), if_pos hgc]
    obtain ⟨e, h5, he⟩ := h4 hgc
    cases h5
    obtain ⟨y, z, rfl⟩ := iserr_ne he hgc
    refine jf (own := [10]) hb6 (h := ?_)
    refine jnv (hh := fun b10 hb10 => ?_)
    simp only [fresh] at hb10
    refine jf (own := []) (a2 hb6 hb10) (h := ?_)
    refine jt (h := ?_)
    refine jf (own := []) (a2 hb6 hb10) (h := ?_)
    refine jcs (Δ1 := []) (Fr := _ :: _ :: _ :: D) (hs := (wrapS_ok _ _ he)) (hp := (List.Perm.refl _)) (hk := ?_) (hpan := (by rintro x Δ' ⟨⟨e, h, _⟩, _⟩; cases h))
    rintro x Δ' ⟨⟨e, h2, he'⟩, rfl⟩
    cases h2
    refine jf (own := []) (a2 hb6 hb10) (h := ?_)
    rw [hC]
    refine J_forgetP ?_
    refine jretf (a2 hb6 hb10) Tryz.func80 (h := ⟨[_, _], _, List.Perm.refl _, fun h => absurd h hgc, fun _ => ⟨_, rfl, he'⟩, rfl⟩)
  cases h3 hgc
  refine jf (own := [10]) hb6 (h := ?_)
  refine jnv (hh := fun b10 hb10 => ?_)
  simp only [fresh] at hb10
  refine jf (own := []) (a2 hb6 hb10) (h := ?_)
  refine jn (h := ?_)
  refine jf (own := []) (a2 hb6 hb10) (h := ?_)
  refine jif (h1 := fun hk => ?_) (h2 := fun hk => ?_)
  · have hC : tgetC s at_ kd = 12 := by unfold tgetC; rw [if_neg (by simp [hc]), if_neg (by simp [hgc]), if_pos hk]
    refine jf (own := []) (a2 hb6 hb10) (h := ?_)
    refine jc (hs := newS_ok _ _ _) (hk := ?_)
    refine jf (own := []) (a2 hb6 hb10) (h := ?_)
    rw [hC]
    refine J_forgetP ?_
    refine jretf (a2 hb6 hb10) Tryz.func80 (h := ⟨[_, _], _, List.Perm.refl _, fun h => absurd h (by decide), fun _ => ⟨_, rfl, errNew_is _ _ _⟩, rfl⟩)
  · have hC : tgetC s at_ kd = 0 := by unfold tgetC; rw [if_neg (by simp [hc]), if_neg (by simp [hgc]), if_neg hk]
    refine jf (own := []) (a2 hb6 hb10) (h := ?_)
    refine J_forgetP ?_
    refine jretf (a2 hb6 hb10) Tryz.func80 (h := ⟨[_, _], _, List.Perm.refl _, fun _ => rfl, fun h => absurd hC h, rfl⟩)
end
end Go.Proofs.YtlmahffjidgplaaGreatDoor
end

section
namespace Go.Proofs.YtlmahffjidgplaaGreatDoor
open Go Go.Av
set_option linter.unusedVariables false
set_option linter.unusedSimpArgs false
set_option maxRecDepth 100000
set_option maxHeartbeats 4000000

/-! ### A leaf is read as it was put -/
theorem beStep_nat (n : UInt64) (c : UInt8) : (beStep n c).toNat = (n.toNat * 256) % 2 ^ 64 + c.toNat := by
  unfold beStep
  have hc := c.toNat_lt
  rw [UInt64.toNat_or, UInt64.toNat_shiftLeft, UInt8.toNat_toUInt64]
  have e1 : n.toNat <<< (UInt64.toNat 8 % 64) % 2 ^ 64 = ((n.toNat % 2 ^ 56) * 256) := by
    rw [Nat.shiftLeft_eq]
    show n.toNat * 256 % 2 ^ 64 = _
    omega
  have e2 : n.toNat * 256 % 2 ^ 64 = ((n.toNat % 2 ^ 56) * 256) := by omega
  rw [e1, e2]
  have := Nat.shiftLeft_add_eq_or_of_lt (i := 8) (b := c.toNat) (by omega) (n.toNat % 2 ^ 56)
  rw [Nat.shiftLeft_eq] at this
  exact this.symm
theorem be8_word (n : Nat) (hn : n < 2 ^ 64) : (be8 (word8 n)).toNat = n := by
  unfold be8 word8
  simp only [List.foldl_cons, List.foldl_nil, beStep_nat, UInt8.toNat_ofNat']
  simp only [UInt64.toNat_zero]
  omega
theorem fit_word (n : Nat) (hn : n ≤ 1099511627776) : fitN (be8 (word8 n)) = n := by
  unfold fitN; rw [be8_word n (by omega), if_neg (by omega)]
theorem word8_len (n : Nat) : (word8 n).length = 8 := rfl
theorem put_take8 (st kd : Nat) (b : List UInt8) : (putB st kd b).take 8 = word8 st := by
  unfold putB sealB bodyB headB; simp only [List.append_assoc]; rw [List.take_left' (word8_len st)]
theorem put_take248 (st kd : Nat) (b : List UInt8) (h : b.length ≤ 233) : (putB st kd b).take 248 = sealB (bodyB st kd b) := by
  unfold putB; rw [List.take_left' (by rw [sealB_len, bodyB_len _ _ _ h])]
theorem put_drop248 (st kd : Nat) (b : List UInt8) (h : b.length ≤ 233) : (putB st kd b).drop 248 = word8 st := by
  unfold putB; rw [List.drop_left' (by rw [sealB_len, bodyB_len _ _ _ h])]
theorem put_fits (st kd : Nat) (b : List UInt8) (h : b.length ≤ 233) : fitsB ((putB st kd b).take 248) = true := by
  have hl := bodyB_len st kd b h
  rw [put_take248 _ _ _ h]
  unfold fitsB
  rw [if_neg (by rw [sealB_len]; omega), sealB_len, hl]
  unfold sealB
  rw [List.take_left' (by omega), List.drop_left' (by omega)]
  simp
theorem put_split (st kd : Nat) (b : List UInt8) : ∃ r, putB st kd b = word8 st ++ ([UInt8.ofNat kd, UInt8.ofNat (b.length / 256), UInt8.ofNat b.length] ++ (b ++ (List.replicate (233 - b.length) 0 ++ r))) := by
  refine ⟨four (crc (bodyB st kd b)) ++ word8 st, ?_⟩
  unfold putB sealB
  conv => lhs; arg 1; arg 1; unfold bodyB
  rw [headB_len, show 244 - (11 + b.length) = 233 - b.length from by omega]
  unfold headB
  simp only [List.append_assoc]
theorem put_n (st kd : Nat) (b : List UInt8) (h : b.length ≤ 233) : nB (putB st kd b) = b.length := by
  obtain ⟨r, e⟩ := put_split st kd b
  rw [e]
  unfold nB word8
  simp only [List.cons_append, List.nil_append, List.getD_cons_succ, List.getD_cons_zero, UInt8.toNat_ofNat']
  omega
theorem put_kd (st kd : Nat) (b : List UInt8) (h : kd ≤ 5) : kdB (putB st kd b) = kd := by
  obtain ⟨r, e⟩ := put_split st kd b
  rw [e]
  unfold kdB word8
  simp only [List.cons_append, List.nil_append, List.getD_cons_succ, List.getD_cons_zero, UInt8.toNat_ofNat']
  omega
theorem put_drop11 (st kd : Nat) (b : List UInt8) : ∃ r, (putB st kd b).drop 11 = b ++ (List.replicate (233 - b.length) 0 ++ r) := by
  obtain ⟨r, e⟩ := put_split st kd b
  exact ⟨r, by rw [e]; rfl⟩
theorem put_txt (st kd : Nat) (b : List UInt8) (h : b.length ≤ 233) : txtB (putB st kd b) = b := by
  obtain ⟨r, e⟩ := put_drop11 st kd b
  unfold txtB
  rw [put_n _ _ _ h, e, List.take_left]
theorem blank_zeros (n : Nat) : blankB (List.replicate n 0) = true := by
  unfold blankB; rw [List.all_eq_true]; intro x hx; rw [List.eq_of_mem_replicate hx]; rfl
theorem put_rest (st kd : Nat) (b : List UInt8) (h : b.length ≤ 233) : blankB (restB (putB st kd b)) = true := by
  obtain ⟨r, e⟩ := put_drop11 st kd b
  unfold restB
  rw [put_n _ _ _ h, ← List.drop_drop, e, List.drop_left, List.take_left' (by simp)]
  exact blank_zeros _
theorem put_stamps (st kd : Nat) (b : List UInt8) (hs : st ≤ 1099511627776) (h : b.length ≤ 233) : stampsB (putB st kd b) = (st, st) := by
  unfold stampsB
  rw [if_pos (putB_len _ _ _ h), put_take8, put_drop248 _ _ _ h, fit_word _ hs]
theorem put_getC (st kd : Nat) (b : List UInt8) (h1 : 1 ≤ st) (hs : st ≤ 1099511627776) (h2 : 1 ≤ kd) (hk : kd ≤ 5) (h : b.length ≤ 233) : getC (putB st kd b) = 0 := by
  unfold getC
  rw [put_stamps _ _ _ hs h, put_n _ _ _ h, put_kd _ _ _ hk, put_take8, put_drop248 _ _ _ h, put_fits _ _ _ h, put_rest _ _ _ h, putB_len _ _ _ h]
  rw [if_neg (by simp), if_neg (by simp), if_neg (by simp only; omega), if_neg (by simp), if_neg (by omega), if_neg (by unfold checkC; rw [if_neg (by simp only; omega), if_neg (by omega), if_neg (by omega)]; simp), if_neg (by simp)]
theorem blank_of_word {l : List UInt8} {n : Nat} (h : l.take 8 = word8 n) (h1 : 1 ≤ n) (h2 : n < 2 ^ 64) : blankB l = false := by
  cases hb : blankB l with
  | false => rfl
  | true =>
    unfold blankB at hb
    rw [List.all_eq_true] at hb
    have hz : be8 (l.take 8) = 0 := by
      have : l.take 8 = List.replicate (l.take 8).length 0 := List.eq_replicate_of_mem fun x hx => by simpa using hb x (List.take_subset _ _ hx)
      rw [h] at this ⊢
      rw [this]; rfl
    rw [h] at hz
    have := be8_word n h2
    rw [hz] at this
    simp at this
    omega
theorem put_blank (st kd : Nat) (b : List UInt8) (h1 : 1 ≤ st) (h2 : st < 2 ^ 64) : blankB (putB st kd b) = false := blank_of_word (put_take8 _ _ _) h1 h2

/-! ### A page torn between two leaves -/
def tornB (a b : List UInt8) (k : Nat) : List UInt8 := (putB 2 1 b).take k ++ (putB 1 1 a).drop k
theorem torn_low {a b : List UInt8} {k : Nat} (h : k ≤ 7) : tornB a b k = putB 1 1 a := by
  unfold tornB
  have e : (putB 2 1 b).take k = (putB 1 1 a).take k := by
    have e1 : (putB 2 1 b).take k = ((putB 2 1 b).take 8).take k := by rw [List.take_take, Nat.min_eq_left (by omega)]
    have e2 : (putB 1 1 a).take k = ((putB 1 1 a).take 8).take k := by rw [List.take_take, Nat.min_eq_left (by omega)]
    rw [e1, e2, put_take8, put_take8]
    have : ∀ k : Fin 8, (word8 2).take k = (word8 1).take k := by decide
    exact this ⟨k, by omega⟩
  rw [e, List.take_append_drop]
theorem torn_len {a b : List UInt8} (ha : a.length ≤ 233) (hb : b.length ≤ 233) {k : Nat} (hk : k ≤ 256) : (tornB a b k).length = 256 := by
  unfold tornB; rw [List.length_append, List.length_take, List.length_drop, putB_len _ _ _ ha, putB_len _ _ _ hb]; omega
theorem torn_take {a b : List UInt8} (hb : b.length ≤ 233) {k : Nat} (h : 8 ≤ k) : (tornB a b k).take 8 = word8 2 := by
  unfold tornB
  rw [List.take_append_of_le_length (by rw [List.length_take, putB_len _ _ _ hb]; omega), List.take_take, Nat.min_eq_left h, put_take8]
theorem torn_drop {a b : List UInt8} (ha : a.length ≤ 233) (hb : b.length ≤ 233) {k : Nat} (hk : k ≤ 255) : (tornB a b k).drop 248 = word8 1 := by
  unfold tornB
  rw [List.drop_append, List.length_take, putB_len _ _ _ hb, Nat.min_eq_left (by omega), List.drop_take, put_drop248 _ _ _ hb, List.drop_drop]
  have e : (putB 1 1 a).drop (k + (248 - k)) = (word8 1).drop (k - 248) := by
    rw [← put_drop248 1 1 a ha, List.drop_drop]; congr 1; omega
  rw [e]
  have : ∀ j : Fin 8, (word8 2).take j ++ (word8 1).drop j = word8 1 := by decide
  exact this ⟨k - 248, by omega⟩
theorem torn_getC {a b : List UInt8} (ha : a.length ≤ 233) (hb : b.length ≤ 233) {k : Nat} (h8 : 8 ≤ k) (hk : k ≤ 255) : getC (tornB a b k) = 8 := by
  unfold getC
  rw [torn_len ha hb (by omega), torn_take hb h8, torn_drop ha hb hk, if_neg (by simp), if_pos ?_]
  intro h
  have h1 := be8_word 1 (by omega)
  have h2 := be8_word 2 (by omega)
  rw [← h, h2] at h1
  omega
theorem torn_high {a b : List UInt8} (ha : a.length ≤ 233) (hb : b.length ≤ 233) : tornB a b 256 = putB 2 1 b := by
  unfold tornB
  rw [List.take_of_length_le (by rw [putB_len _ _ _ hb]; omega), List.drop_eq_nil_of_le (by rw [putB_len _ _ _ ha]; omega), List.append_nil]

/-! ### What ticket's calls leave -/
theorem tputS_B {s : Fl} {m : Nat} (h : s.B m) (n at_ kd : Int) (b : List UInt8) : (tputS s n at_ kd b).B (m + 1) := by
  unfold tputS; split
  · exact h.mono (Nat.le_succ _)
  · exact writeS_B h _ _
theorem tfirmS_B {s : Fl} {m : Nat} (h : s.B m) (n at_ kd : Int) (b : List UInt8) : (tfirmS s n at_ kd b).B (m + 2) := by
  unfold tfirmS; split
  · exact (tputS_B h _ _ _ _).mono (Nat.le_succ _)
  · exact flushS_B (tputS_B h _ _ _ _)
theorem nextF_new (p : Int) : nextF (newFl p) = 1 := by unfold nextF cellsF keysF; simp [newFl, dedup, sortInts, cellsAt]
theorem cellsF_new (p : Int) : cellsF (newFl p) = [] := by unfold cellsF keysF; simp [newFl, dedup, sortInts, cellsAt]
/-- A put, flushed, to a blank device. -/
theorem firm_new {p at_ : Int} {kd : Nat} {a : List UInt8} (h1 : 1 ≤ p) (h2 : 0 ≤ at_ ∧ at_ < p) (hk : 1 ≤ kd ∧ kd ≤ 5) (ha : a.length ≤ 233) :
    tfirmC (newFl p) 1 at_ kd a = 0 ∧ tputN (newFl p) 1 at_ kd a = 2 ∧ tfirmS (newFl p) 1 at_ kd a = ⟨p, [(at_, putB 1 kd a)], [], -1, false, 2⟩ := by
  have hc : checkF (newFl p) at_ = 0 := by
    unfold checkF newFl; rw [if_neg (by simp), if_neg (by simp only; omega)]
  have hck : checkC 1 kd a.length = 0 := by unfold checkC; rw [if_neg (by omega), if_neg (by omega), if_neg (by omega)]
  have hC : tputC (newFl p) 1 at_ kd a = 0 := by
    unfold tputC writeC changeC; rw [hck, hc]; rfl
  have hl := putB_len 1 kd a ha
  have hS : tputS (newFl p) 1 at_ kd a = ⟨p, [], [(at_, some (putB 1 kd a))], -1, false, 1⟩ := by
    unfold tputS writeS; rw [if_neg (by rw [hck]; simp), if_neg (by rw [hc]; simp [hl])]; rfl
  have hf : tfirmC (newFl p) 1 at_ kd a = 0 := by
    unfold tfirmC; rw [if_neg (by simp [hC]), hS]; rfl
  refine ⟨hf, by unfold tputN; rw [if_pos hC]; rfl, ?_⟩
  unfold tfirmS
  rw [if_neg (by simp [hC]), hS]
  have hset : settleM [] at_ (some (putB 1 kd a)) 256 = [(at_, putB 1 kd a)] := by
    unfold settleM
    simp only
    rw [if_neg (by omega)]
    have e1 : (min 256 256 : Int).toNat = 256 := rfl
    rw [e1, List.take_of_length_le (by omega), List.drop_eq_nil_of_le (by simp [pageOr, findM, z256]), List.append_nil, put_blank _ _ _ (by omega) (by omega)]
    rfl
  unfold flushS settleAll
  simp only [List.foldl_cons, List.foldl_nil, hset]
  rfl
end Go.Proofs.YtlmahffjidgplaaGreatDoor
end
