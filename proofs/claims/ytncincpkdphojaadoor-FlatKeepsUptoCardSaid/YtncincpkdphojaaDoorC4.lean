/- A part of the proof: what the calls do, told by values. -/
import Derived.Test.YtncincpkdphojaaDoorC3
import Derived.Test.YtncincpkdphojaaDoorA4
section
namespace Go.Proofs.YtncincpkdphojaaDoor
open Go Go.Av
set_option linter.unusedVariables false
set_option linter.unusedSimpArgs false

/-! ### Sorted lists, seen from one key -/
def StrictC {α : Type} (c : α → Int) (l : List α) : Prop := l.Pairwise (fun a b => c b ≤ 0 → c a < 0)

theorem StrictC.mono {α : Type} {c : α → Int} {l : List α} (h : StrictC c l) : Mono c l := by
  intro i j hi hj hij hn
  rcases Nat.lt_or_eq_of_le hij with h1 | h1
  · exact (List.pairwise_iff_getElem.1 h) i j hi hj h1 (by omega)
  · subst h1; exact hn

theorem low_split {α : Type} (c : α → Int) (l : List α) : l = l.takeWhile (fun x => decide (c x < 0)) ++ l.dropWhile (fun x => decide (c x < 0)) := by rw [List.takeWhile_append_dropWhile]

theorem low_get {α : Type} (c : α → Int) (l : List α) : l[low c l]? = (l.dropWhile (fun x => decide (c x < 0))).head? := by
  conv => lhs; rw [low_split c l]
  unfold low
  rw [List.getElem?_append_right (by rw [← low_split]; exact Nat.le_refl _)]
  rw [← low_split, Nat.sub_self, List.head?_eq_getElem?]

theorem drop_head {α : Type} {c : α → Int} : ∀ {l : List α} {y : α} {B : List α}, l.dropWhile (fun x => decide (c x < 0)) = y :: B → ¬ c y < 0
  | [], _, _, h => by simp at h
  | x :: l, y, B, h => by
    rw [List.dropWhile_cons] at h
    split at h
    · exact drop_head h
    · rename_i hx
      cases h
      simpa using hx

theorem split_has {α : Type} {c : α → Int} {l : List α} (hs : StrictC c l) (h : has c l = true) : ∃ A y B, l = A ++ y :: B ∧ low c l = A.length ∧ c y = 0 ∧ (∀ a ∈ A, c a < 0) ∧ (∀ b ∈ B, 0 < c b) := by
  unfold has at h
  rw [low_get] at h
  cases hd : l.dropWhile (fun x => decide (c x < 0)) with
  | nil => rw [hd] at h; simp at h
  | cons y B =>
    rw [hd] at h
    have hy : c y = 0 := by simpa using h
    have hl : l = l.takeWhile (fun x => decide (c x < 0)) ++ y :: B := by rw [← hd]; exact low_split c l
    refine ⟨_, y, B, hl, rfl, hy, fun a ha => by simpa using List.all_eq_true.1 (List.all_takeWhile) a ha, fun b hb => ?_⟩
    unfold StrictC at hs
    rw [hl, List.pairwise_append, List.pairwise_cons] at hs
    have := hs.2.1.1 b hb
    omega

theorem split_not {α : Type} {c : α → Int} {l : List α} (hs : StrictC c l) (h : has c l = false) : ∃ A B, l = A ++ B ∧ low c l = A.length ∧ (∀ a ∈ A, c a < 0) ∧ (∀ b ∈ B, 0 < c b) := by
  unfold has at h
  rw [low_get] at h
  refine ⟨_, _, low_split c l, rfl, fun a ha => by simpa using List.all_eq_true.1 (List.all_takeWhile) a ha, ?_⟩
  cases hd : l.dropWhile (fun x => decide (c x < 0)) with
  | nil => simp
  | cons y B =>
    rw [hd] at h
    have hy : c y ≠ 0 := by simpa using h
    have hy' := drop_head hd
    intro b hb
    rcases List.mem_cons.1 hb with rfl | hb
    · omega
    · have hl : l = l.takeWhile (fun x => decide (c x < 0)) ++ y :: B := by rw [← hd]; exact low_split c l
      unfold StrictC at hs
      rw [hl, List.pairwise_append, List.pairwise_cons] at hs
      have := hs.2.1.1 b hb
      omega

/-! ### Entries by rising keys -/
def SortedE (l : List Entry) : Prop := l.Pairwise (fun a b => Op.bytesLess a.key b.key = true)
def keyC (k : List UInt8) (x : Entry) : Int := cmpB x.key k

theorem cmpB_pos {a b : List UInt8} : 0 < cmpB a b ↔ Op.bytesLess b a = true := by
  unfold cmpB
  rcases less_tri a b with h | rfl | h
  · simp [h, less_asymm h]
  · simp [less_irrefl]
  · simp [h, less_asymm h]
theorem cmpB_le {a b : List UInt8} (h : cmpB a b ≤ 0) : a = b ∨ Op.bytesLess a b = true := by
  by_cases h0 : cmpB a b = 0
  · exact .inl (cmpB_zero.1 h0)
  · exact .inr (cmpB_neg.1 (by omega))

theorem SortedE.strict {l : List Entry} (h : SortedE l) (k : List UInt8) : StrictC (keyC k) l := by
  refine List.Pairwise.imp ?_ h
  intro a b hab hb
  refine cmpB_neg.2 ?_
  rcases cmpB_le hb with h1 | h1
  · rw [← h1]; exact hab
  · exact less_trans hab h1

theorem lt_ne {x : Entry} {k : List UInt8} (h : keyC k x < 0) : x.key ≠ k := less_ne (cmpB_neg.1 h)
theorem gt_ne {x : Entry} {k : List UInt8} (h : 0 < keyC k x) : x.key ≠ k := (less_ne (cmpB_pos.1 h)).symm

theorem find_split {A B : List Entry} {y : Entry} {k : List UInt8} (hA : ∀ a ∈ A, keyC k a < 0) (hy : keyC k y = 0) : findE (A ++ y :: B) k = some A.length := by
  unfold findE
  rw [List.findIdx?_append]
  have : A.findIdx? (fun x => decide (x.key = k)) = none := by
    rw [List.findIdx?_eq_none_iff]
    intro x hx; simpa using lt_ne (hA x hx)
  rw [this, List.findIdx?_cons]
  simp [cmpB_zero.1 hy]
theorem find_no {A B : List Entry} {k : List UInt8} (hA : ∀ a ∈ A, keyC k a < 0) (hB : ∀ b ∈ B, 0 < keyC k b) : findE (A ++ B) k = none := by
  unfold findE
  rw [List.findIdx?_eq_none_iff]
  intro x hx
  rcases List.mem_append.1 hx with h | h
  · simpa using lt_ne (hA x h)
  · simpa using gt_ne (hB x h)
theorem but_split {A B : List Entry} {y : Entry} {k : List UInt8} (hA : ∀ a ∈ A, keyC k a < 0) (hy : keyC k y = 0) (hB : ∀ b ∈ B, 0 < keyC k b) : but (A ++ y :: B) k = A ++ B := by
  unfold but
  have h1 : A.filter (fun x => decide (x.key ≠ k)) = A := List.filter_eq_self.2 fun a ha => by simpa using lt_ne (hA a ha)
  have h2 : B.filter (fun x => decide (x.key ≠ k)) = B := List.filter_eq_self.2 fun a ha => by simpa using gt_ne (hB a ha)
  rw [List.filter_append, List.filter_cons, if_neg (by simp [cmpB_zero.1 hy]), h1, h2]
theorem but_no {A B : List Entry} {k : List UInt8} (hA : ∀ a ∈ A, keyC k a < 0) (hB : ∀ b ∈ B, 0 < keyC k b) : but (A ++ B) k = A ++ B := by
  unfold but
  refine List.filter_eq_self.2 fun x hx => ?_
  rcases List.mem_append.1 hx with h | h
  · simpa using lt_ne (hA x h)
  · simpa using gt_ne (hB x h)
theorem put_split {A B : List Entry} {l : List Entry} {x : Entry} (hl : but l x.key = A ++ B) (hA : ∀ a ∈ A, keyC x.key a < 0) (hB : ∀ b ∈ B, 0 < keyC x.key b) : putL l x = A ++ x :: B := by
  unfold putL
  rw [hl]
  have e := while_take (p := fun y : Entry => Op.bytesLess y.key x.key) (r := A ++ B) (i := A.length) (by simp)
    (fun j hj hjA => by rw [List.getElem_append_left hjA]; exact cmpB_neg.1 (hA _ (List.getElem_mem _)))
    (fun hj => by
      rw [List.getElem_append_right (Nat.le_refl _)]
      exact less_asymm (cmpB_pos.1 (hB _ (List.getElem_mem _))))
  rw [e.1, e.2, List.take_left, List.drop_left]

theorem sorted_mid {A B : List Entry} {x : Entry} (hA : ∀ a ∈ A, keyC x.key a < 0) (hB : ∀ b ∈ B, 0 < keyC x.key b) (h : SortedE (A ++ B)) : SortedE (A ++ x :: B) := by
  unfold SortedE at h ⊢
  rw [List.pairwise_append] at h ⊢
  refine ⟨h.1, List.pairwise_cons.2 ⟨fun b hb => cmpB_pos.1 (hB b hb), h.2.1⟩, ?_⟩
  intro a ha b hb
  rcases List.mem_cons.1 hb with rfl | hb
  · exact cmpB_neg.1 (hA a ha)
  · exact h.2.2 a ha b hb
theorem but_sorted {l : List Entry} (h : SortedE l) (k : List UInt8) : SortedE (but l k) := List.Pairwise.sublist List.filter_sublist h
theorem put_sorted {l : List Entry} (h : SortedE l) (x : Entry) : SortedE (putL l x) := by
  cases hh : has (keyC x.key) l with
  | true =>
    obtain ⟨A, y, B, rfl, -, hy, hA, hB⟩ := split_has (h.strict x.key) hh
    rw [put_split (but_split hA hy hB) hA hB]
    refine sorted_mid hA hB ?_
    rw [← but_split hA hy hB]; exact but_sorted h _
  | false =>
    obtain ⟨A, B, rfl, -, hA, hB⟩ := split_not (h.strict x.key) hh
    rw [put_split (but_no hA hB) hA hB]
    exact sorted_mid hA hB h

/-! What the map does to its entries is what the chapter says. -/
theorem find_low {l : List Entry} (h : SortedE l) (k : List UInt8) : findE l k = if has (keyC k) l = true then some (low (keyC k) l) else none := by
  cases hh : has (keyC k) l with
  | true =>
    obtain ⟨A, y, B, e, h1, hy, hA, hB⟩ := split_has (h.strict k) hh
    rw [h1, e, find_split hA hy]; rfl
  | false =>
    obtain ⟨A, B, e, h1, hA, hB⟩ := split_not (h.strict k) hh
    rw [e, find_no hA hB]; rfl
theorem erase_low {l : List Entry} (h : SortedE l) {k : List UInt8} (hh : has (keyC k) l = true) : l.eraseIdx (low (keyC k) l) = but l k := by
  obtain ⟨A, y, B, e, h1, hy, hA, hB⟩ := split_has (h.strict k) hh
  rw [h1, e, but_split hA hy hB, List.eraseIdx_append_of_length_le (Nat.le_refl _), Nat.sub_self]
  rfl
theorem set_low {l : List Entry} (h : SortedE l) {x : Entry} (hh : has (keyC x.key) l = true) : l.set (low (keyC x.key) l) x = putL l x := by
  obtain ⟨A, y, B, e, h1, hy, hA, hB⟩ := split_has (h.strict x.key) hh
  rw [h1, e, put_split (but_split hA hy hB) hA hB, List.set_append_right _ _ (Nat.le_refl _), Nat.sub_self]
  rfl
theorem ins_low {l : List Entry} (h : SortedE l) {x : Entry} (hh : has (keyC x.key) l = false) : l.take (low (keyC x.key) l) ++ x :: l.drop (low (keyC x.key) l) = putL l x := by
  obtain ⟨A, B, e, h1, hA, hB⟩ := split_not (h.strict x.key) hh
  rw [h1, e, put_split (but_no hA hB) hA hB, List.take_left, List.drop_left]
theorem has_lt {α : Type} {c : α → Int} {l : List α} (h : has c l = true) : low c l < l.length := by
  unfold has at h
  cases hg : l[low c l]? with
  | none => rw [hg] at h; simp at h
  | some x => exact (List.getElem?_eq_some_iff.1 hg).1
end Go.Proofs.YtncincpkdphojaaDoor
end

section
namespace Go.Proofs.YtncincpkdphojaaDoor
open Go Go.Av
set_option linter.unusedVariables false
set_option linter.unusedSimpArgs false
set_option maxRecDepth 100000
set_option maxHeartbeats 4000000
attribute [local go_sem] packed List.set_cons_zero List.set_cons_succ

/-! ### Floors by rising hashes -/
def SortedF (l : List Flo) : Prop := l.Pairwise (fun a b => a.hash < b.hash)
def hashC (h : Int) (x : Flo) : Int := cmpI x.hash h
theorem cmpI_pos {a b : Int} : 0 < cmpI a b ↔ b < a := by
  unfold cmpI; split
  · simp; omega
  · split <;> simp_all
theorem SortedF.strict {l : List Flo} (h : SortedF l) (k : Int) : StrictC (hashC k) l := by
  refine List.Pairwise.imp ?_ h
  intro a b hab hb
  refine cmpI_neg.2 ?_
  have : ¬ (0 < cmpI b.hash k) := by have : cmpI b.hash k ≤ 0 := hb; omega
  rw [cmpI_pos] at this; omega

theorem floor_app (A B : List Flo) (h n : Int) : (A ++ B).foldl (fun n (x : Flo) => if x.hash = h then x.at_ else n) n = B.foldl (fun n (x : Flo) => if x.hash = h then x.at_ else n) (A.foldl (fun n (x : Flo) => if x.hash = h then x.at_ else n) n) := by
  rw [List.foldl_append]
theorem floor_none {h : Int} : ∀ {A : List Flo} (n : Int), (∀ a ∈ A, a.hash ≠ h) → A.foldl (fun n (x : Flo) => if x.hash = h then x.at_ else n) n = n
  | [], n, _ => rfl
  | a :: A, n, hA => by
    rw [List.foldl_cons, if_neg (hA a (List.mem_cons_self ..))]
    exact floor_none n fun b hb => hA b (List.mem_cons_of_mem _ hb)
theorem ltF {x : Flo} {h : Int} (hx : hashC h x < 0) : x.hash ≠ h := by have := cmpI_neg.1 hx; omega
theorem gtF {x : Flo} {h : Int} (hx : 0 < hashC h x) : x.hash ≠ h := by have := cmpI_pos.1 hx; omega

/-- The floor that there is, or none. -/
def floorP (F : List Flo) (h : Int) : Int := if has (hashC h) F = true then (F[low (hashC h) F]?.map (·.at_)).getD 0 else 0
theorem floorP_eq {F : List Flo} (hs : SortedF F) (h : Int) : floorP F h = floorF F h := by
  unfold floorP floorF
  cases hh : has (hashC h) F with
  | true =>
    obtain ⟨A, y, B, e, h1, hy, hA, hB⟩ := split_has (hs.strict h) hh
    rw [if_pos rfl, h1, e, floor_app, floor_none _ fun a ha => ltF (hA a ha), List.foldl_cons, if_pos (cmpI_zero.1 hy), floor_none _ fun b hb => gtF (hB b hb)]
    simp
  | false =>
    obtain ⟨A, B, e, h1, hA, hB⟩ := split_not (hs.strict h) hh
    rw [if_neg (by simp), e, floor_app, floor_none _ fun a ha => ltF (hA a ha), floor_none _ fun b hb => gtF (hB b hb)]

theorem floorF_rel (F : List Flo) (h h' : Int) : floorF (relF F h) h' = if h' = h then 0 else floorF F h' := by
  unfold floorF relF
  have : ∀ (F : List Flo) (n : Int), (F.filter fun x => decide (x.hash ≠ h)).foldl (fun n (x : Flo) => if x.hash = h' then x.at_ else n) n = if h' = h then n else F.foldl (fun n (x : Flo) => if x.hash = h' then x.at_ else n) n := by
    intro F
    induction F with
    | nil => intro n; simp
    | cons x F ih =>
      intro n
      rw [List.filter_cons]
      by_cases hx : x.hash = h
      · rw [if_neg (by simp [hx]), ih, List.foldl_cons]
        by_cases hh : h' = h
        · simp [hh]
        · rw [if_neg hh, if_neg hh, if_neg (by omega)]
      · rw [if_pos (by simp [hx]), List.foldl_cons, List.foldl_cons, ih]
        by_cases hh : h' = h
        · rw [if_pos hh, if_pos hh, if_neg (by omega)]
        · rw [if_neg hh, if_neg hh]
  exact this F 0
theorem floorF_raise (F : List Flo) (h a h' : Int) : floorF (raiseF F h a) h' = if h' = h then (if floorF F h < a then a else floorF F h) else floorF F h' := by
  unfold raiseF
  by_cases hlt : floorF F h < a
  · rw [if_pos hlt]
    have e : floorF (relF F h ++ [⟨h, a⟩]) h' = if h = h' then a else floorF (relF F h) h' := by
      unfold floorF; rw [floor_app]; rfl
    rw [e, floorF_rel]
    by_cases hh : h' = h
    · subst hh; simp [hlt]
    · rw [if_neg (fun h1 => hh h1.symm), if_neg hh, if_neg hh]
  · rw [if_neg hlt]
    by_cases hh : h' = h
    · subst hh; rw [if_pos rfl, if_neg hlt]
    · rw [if_neg hh]

theorem erase_lowF {F : List Flo} (hs : SortedF F) (h : Int) : (if has (hashC h) F = true then F.eraseIdx (low (hashC h) F) else F) = relF F h := by
  unfold relF
  cases hh : has (hashC h) F with
  | true =>
    obtain ⟨A, y, B, e, h1, hy, hA, hB⟩ := split_has (hs.strict h) hh
    rw [if_pos rfl, h1, e, List.eraseIdx_append_of_length_le (Nat.le_refl _), Nat.sub_self, List.filter_append, List.filter_cons, if_neg (by simpa using cmpI_zero.1 hy)]
    rw [List.filter_eq_self.2 fun a ha => by simpa using ltF (hA a ha), List.filter_eq_self.2 fun b hb => by simpa using gtF (hB b hb)]
    rfl
  | false =>
    obtain ⟨A, B, e, h1, hA, hB⟩ := split_not (hs.strict h) hh
    rw [if_neg (by simp), e, List.filter_append, List.filter_eq_self.2 fun a ha => by simpa using ltF (hA a ha), List.filter_eq_self.2 fun b hb => by simpa using gtF (hB b hb)]
theorem rel_sorted {F : List Flo} (hs : SortedF F) (h : Int) : SortedF (relF F h) := List.Pairwise.sublist List.filter_sublist hs

/-- A floor raised where it stands, or put in. -/
def raiseP (F : List Flo) (h a : Int) : List Flo :=
  if has (hashC h) F = true then (if floorP F h < a then F.set (low (hashC h) F) ⟨h, a⟩ else F) else F.take (low (hashC h) F) ++ ⟨h, max a 0⟩ :: F.drop (low (hashC h) F)
theorem raiseP_sorted {F : List Flo} (hs : SortedF F) (h a : Int) : SortedF (raiseP F h a) := by
  unfold raiseP
  cases hh : has (hashC h) F with
  | true =>
    rw [if_pos rfl]
    split
    · obtain ⟨A, y, B, e, h1, hy, hA, hB⟩ := split_has (hs.strict h) hh
      rw [h1, e, List.set_append_right _ _ (Nat.le_refl _), Nat.sub_self]
      unfold SortedF at hs ⊢
      rw [e, List.pairwise_append, List.pairwise_cons] at hs
      show List.Pairwise _ (A ++ (⟨h, a⟩ : Flo) :: B)
      have hy' := cmpI_zero.1 hy
      rw [List.pairwise_append, List.pairwise_cons]
      refine ⟨hs.1, ⟨fun b hb => by have := hs.2.1.1 b hb; simpa [← hy'] using this, hs.2.1.2⟩, fun x hx b hb => ?_⟩
      rcases List.mem_cons.1 hb with rfl | hb
      · have := hs.2.2 x hx y (List.mem_cons_self ..); simpa [← hy'] using this
      · exact hs.2.2 x hx b (List.mem_cons_of_mem _ hb)
    · exact hs
  | false =>
    rw [if_neg (by simp)]
    obtain ⟨A, B, e, h1, hA, hB⟩ := split_not (hs.strict h) hh
    rw [h1, e, List.take_left, List.drop_left]
    unfold SortedF at hs ⊢
    rw [e, List.pairwise_append] at hs
    rw [List.pairwise_append, List.pairwise_cons]
    refine ⟨hs.1, ⟨fun b hb => cmpI_pos.1 (hB b hb), hs.2.1⟩, fun x hx b hb => ?_⟩
    rcases List.mem_cons.1 hb with rfl | hb
    · exact cmpI_neg.1 (hA x hx)
    · exact hs.2.2 x hx b hb
theorem floorF_raiseP {F : List Flo} (hs : SortedF F) (h a h' : Int) : floorF (raiseP F h a) h' = if h' = h then (if floorF F h < a then a else floorF F h) else floorF F h' := by
  unfold raiseP
  rw [floorP_eq hs]
  cases hh : has (hashC h) F with
  | true =>
    rw [if_pos rfl]
    obtain ⟨A, y, B, e, h1, hy, hA, hB⟩ := split_has (hs.strict h) hh
    by_cases hlt : floorF F h < a
    · rw [if_pos hlt, if_pos hlt, h1]
      have hy' := cmpI_zero.1 hy
      rw [e, List.set_append_right _ _ (Nat.le_refl _), Nat.sub_self]
      show floorF (A ++ (⟨h, a⟩ : Flo) :: B) h' = _
      unfold floorF
      rw [floor_app, floor_app, List.foldl_cons, List.foldl_cons]
      by_cases h2 : h' = h
      · subst h2
        rw [if_pos rfl, if_pos rfl, floor_none _ fun b hb => gtF (hB b hb)]
      · rw [if_neg h2, if_neg (fun h3 => h2 h3.symm), if_neg (by rw [hy']; exact fun h3 => h2 h3.symm)]
    · rw [if_neg hlt, if_neg hlt]
      by_cases h2 : h' = h
      · rw [if_pos h2, h2]
      · rw [if_neg h2]
  | false =>
    rw [if_neg (by simp)]
    obtain ⟨A, B, e, h1, hA, hB⟩ := split_not (hs.strict h) hh
    have h0 : floorF F h = 0 := by
      unfold floorF
      rw [e, floor_app, floor_none _ fun a ha => ltF (hA a ha), floor_none _ fun b hb => gtF (hB b hb)]
    rw [h0, h1]
    conv => lhs; rw [e, List.take_left, List.drop_left]
    unfold floorF
    rw [e, floor_app, floor_app, List.foldl_cons]
    by_cases h2 : h' = h
    · subst h2
      rw [if_pos rfl, if_pos rfl, floor_none _ fun b hb => gtF (hB b hb)]
      show max a 0 = _
      split <;> omega
    · rw [if_neg h2, if_neg (fun h3 => h2 h3.symm)]
theorem raiseP_len (F : List Flo) (h a : Int) : (raiseP F h a).length ≤ F.length + 1 := by
  unfold raiseP
  split
  · split <;> simp
  · simp only [List.length_append, List.length_cons, List.length_take, List.length_drop]; omega

/-! ### A map in memory -/
inductive OwnM (b : Nat) (m : RM) : List HP → Prop
  | mk {vl vf : Value} {Dl Df : List HP} : Own 33 5 (ents m.L).flatten (ents m.L).length vl Dl → Own 87 2 (flos m.F).flatten (flos m.F).length vf Df → OwnM b m (.box b 69 [.c vl, .c vf, .c (.int .i64 m.n)] :: (Dl ++ Df))

/-- What is kept of a map. -/
structure GoodM (m : RM) (N : Nat) : Prop where
  sl : SortedE m.L
  sf : SortedF m.F
  ll : m.L.length ≤ N
  lf : m.F.length ≤ N

theorem searchL {L : List Entry} {vl : Value} {Dl Δ Fr : List HP} (how : Own 33 5 (ents L).flatten (ents L).length vl Dl) (k : List UInt8) (hs : SortedE L) (hl : L.length < 2 ^ 30) (hp : Δ.Perm (Dl ++ Fr)) :
    ACalls Tryd.prog 37 [.c vl, .c (.string (mkStr k)), .fn (.func 38) [] []] Δ (fun r Δ' => r = .ret (.tup [.c (.int .i64 (low (keyC k) L)), .c (.bool (has (keyC k) L))]) ∧ Δ' = Δ) := by
  have h1 := searchE_ok L k (by omega) (hs.strict k).mono
  have h2 := ACalls.lendOwn (pre := []) how h1 (by rintro r Δ' ⟨rfl, rfl⟩; exact ⟨rfl, _, rfl, .tup [.int .i64 (low (keyC k) L), .bool (has (keyC k) L)]⟩) (ents_row L) (by rw [ents_len]; unfold maxRows; omega)
  exact ACalls.around (h2.mono (by rintro r D ⟨⟨h3, _⟩, h4⟩; exact ⟨h3, h4⟩)) hp

theorem searchFl {F : List Flo} {vf : Value} {Df Δ Fr : List HP} (how : Own 87 2 (flos F).flatten (flos F).length vf Df) (h : Int) (hs : SortedF F) (hl : F.length < 2 ^ 30) (hp : Δ.Perm (Df ++ Fr)) :
    ACalls Tryd.prog 45 [.c vf, .c (.int .u64 h), .fn (.func 46) [] []] Δ (fun r Δ' => r = .ret (.tup [.c (.int .i64 (low (hashC h) F)), .c (.bool (has (hashC h) F))]) ∧ Δ' = Δ) := by
  have h1 := searchF_ok F h (by omega) (hs.strict h).mono
  have h2 := ACalls.lendOwn (pre := []) how h1 (by rintro r Δ' ⟨rfl, rfl⟩; exact ⟨rfl, _, rfl, .tup [.int .i64 (low (hashC h) F), .bool (has (hashC h) F)]⟩) (flos_row F) (by rw [flos_len]; unfold maxRows; omega)
  exact ACalls.around (h2.mono (by rintro r D ⟨⟨h3, _⟩, h4⟩; exact ⟨h3, h4⟩)) hp
end Go.Proofs.YtncincpkdphojaaDoor
end

section
namespace Go.Proofs.YtncincpkdphojaaDoor
open Go Go.Av
set_option linter.unusedVariables false
set_option linter.unusedSimpArgs false
set_option maxRecDepth 100000
set_option maxHeartbeats 4000000
attribute [local go_sem] Entry.av Entry.cells packed List.set_cons_zero List.set_cons_succ List.cons_append List.nil_append

def mptr (b : Nat) : AV := .c (.pointer (some ⟨b, 0, none⟩))
theorem getE_low {l : List Entry} (h : SortedE l) (k : List UInt8) : getE l k = if has (keyC k) l = true then l[low (keyC k) l]? else none := by
  unfold getE; rw [find_low h]; split <;> simp

theorem mforgot_ok {b : Nat} {m : RM} {Δ : List HP} (hm : OwnM b m Δ) : ACalls Tryd.prog 26 [.c (.pointer (some ⟨b, 0, none⟩))] Δ (fun r Δ' => r = .ret (.c (.int .i64 m.n)) ∧ Δ' = Δ) := by
  cases hm with
  | @mk vl vf Dl Df howl howf =>
  refine calls_of_J cl_26 Tryd.func26 rfl (by simp [Tryd.ntmps26]) ?_
  refine J_mrun (own := []) (m := 2000) (by simp (maxSteps := 2000000) (disch := omega) only [go_sem, ↓reduceIte, Int.reduceLT, Int.reduceLE, Int.reduceToNat, Int.reducePow, Int.reduceNeg, Nat.reduceBEq, Tryd.ntmps26] <;> with_reducible rfl) ?_
  refine J_retX Tryd.func26 (by simp only [go_sem, ↓reduceIte, Int.reduceLT, Int.reduceLE, Int.reduceToNat, Int.reducePow, Int.reduceNeg, Nat.reduceBEq, Tryd.f26] <;> first | with_reducible rfl | rfl) ⟨rfl, rfl⟩

theorem mfloor_ok {b : Nat} {m : RM} {Δ : List HP} (hm : OwnM b m Δ) (k : List UInt8) (hk : k.length < 2 ^ 62) (hs : SortedF m.F) (hl : m.F.length < 2 ^ 30) : ACalls Tryd.prog 24 [.c (.pointer (some ⟨b, 0, none⟩)), .c (.string (mkStr k))] Δ (fun r Δ' => r = .ret (.c (.int .i64 (floorF m.F (hash64 k)))) ∧ Δ' = Δ) := by
  cases hm with
  | @mk vl vf Dl Df howl howf =>
  rw [← floorP_eq hs]
  have hsf := fun hh => searchFl howf hh hs hl (Δ := .box b 69 [.c vl, .c vf, .c (.int .i64 m.n)] :: (Dl ++ Df)) (Fr := .box b 69 [.c vl, .c vf, .c (.int .i64 m.n)] :: Dl) (List.perm_append_comm (l₁ := _ :: Dl) (l₂ := Df))
  refine calls_of_J cl_24 Tryd.func24 rfl (by simp [Tryd.ntmps24]) ?_
  refine J_mrun (own := []) (m := 2000) (by simp (maxSteps := 2000000) (disch := omega) only [go_sem, ↓reduceIte, Int.reduceLT, Int.reduceLE, Int.reduceToNat, Int.reducePow, Int.reduceNeg, Nat.reduceBEq, Tryd.ntmps24] <;> with_reducible rfl) ?_
  refine J_draw [[], [0], [0, 1], [0, 1, 2], [], [4], [0, 1, 2, 3, 4, 5], [0, 1, 2, 3, 4, 5, 6], [0, 1, 2, 3, 4, 5, 6, 7], [0, 1, 2, 3, 4, 5, 6, 7], [0, 1, 2, 3, 4, 5, 6, 7, 8], [0, 1, 2, 3, 4, 5, 6, 7, 8, 9, 10]] [(0, .pure), (1, .pure), (2, .pure), (3, .read), (4, .pure), (5, .pure), (6, .read), (7, .pure), (8, .pure), (9, .pure), (10, .pure), (11, .pure)] mixed (by kernel_rfl) ?_
  refine Can_run (own := []) (by simp (maxSteps := 2000000) (disch := omega) only [go_sem, ↓reduceIte, Int.reduceLT, Int.reduceLE, Int.reduceToNat, Int.reducePow, Int.reduceNeg, Nat.reduceBEq, Tryd.ntmps24] <;> with_reducible rfl) ?_
  refine Can_callp (by simp only [go_sem, ↓reduceIte, Int.reduceLT, Int.reduceLE, Int.reduceToNat, Int.reducePow, Int.reduceNeg, Nat.reduceBEq, Tryd.ntmps24] <;> with_reducible rfl) (bhash_ok k hk) ?_
  refine Can_run (own := []) (by simp (maxSteps := 2000000) (disch := omega) only [go_sem, ↓reduceIte, Int.reduceLT, Int.reduceLE, Int.reduceToNat, Int.reducePow, Int.reduceNeg, Nat.reduceBEq, Tryd.ntmps24] <;> with_reducible rfl) ?_
  refine Can_callr (by simp only [go_sem, ↓reduceIte, Int.reduceLT, Int.reduceLE, Int.reduceToNat, Int.reducePow, Int.reduceNeg, Nat.reduceBEq, Tryd.ntmps24] <;> with_reducible rfl) (hsf (hash64 k)) ?_
  refine Can_run (own := []) (by simp (maxSteps := 2000000) (disch := omega) only [go_sem, ↓reduceIte, Int.reduceLT, Int.reduceLE, Int.reduceToNat, Int.reducePow, Int.reduceNeg, Nat.reduceBEq, Tryd.ntmps24] <;> with_reducible rfl) ?_
  refine Can_nil ?_
  refine J_mrun (own := []) (m := 2000) (by simp (maxSteps := 2000000) (disch := omega) only [go_sem, ↓reduceIte, Int.reduceLT, Int.reduceLE, Int.reduceToNat, Int.reducePow, Int.reduceNeg, Nat.reduceBEq, Tryd.ntmps24] <;> with_reducible rfl) ?_
  cases hh : has (hashC (hash64 k)) m.F with
  | false =>
    simp only [Bool.not_false]
    refine J_true (by simp only [go_sem, ↓reduceIte, Int.reduceLT, Int.reduceLE, Int.reduceToNat, Int.reducePow, Int.reduceNeg, Nat.reduceBEq] <;> with_reducible rfl) ?_
    refine J_mrun (own := []) (m := 2000) (by simp (maxSteps := 2000000) (disch := omega) only [go_sem, ↓reduceIte, Int.reduceLT, Int.reduceLE, Int.reduceToNat, Int.reducePow, Int.reduceNeg, Nat.reduceBEq, Tryd.ntmps24] <;> with_reducible rfl) ?_
    refine J_retX Tryd.func24 (by simp only [go_sem, ↓reduceIte, Int.reduceLT, Int.reduceLE, Int.reduceToNat, Int.reducePow, Int.reduceNeg, Nat.reduceBEq, Tryd.f24] <;> first | with_reducible rfl | rfl) ⟨by simp [floorP, hh], rfl⟩
  | true =>
    have hlt := has_lt hh
    have g0 := List.getElem?_eq_getElem hlt
    cases howf with
    | nil _ h => rw [flos_len] at h; omega
    | box bf capf spf q1 q2 q3 =>
    refine J_perm (Δ' := .box b 69 [.c vl, .c (.slice (some ⟨bf, 0, none⟩) (flos m.F).length capf), .c (.int .i64 m.n)] :: .box bf 87 ((flos m.F).flatten ++ spf) :: Dl) (List.Perm.cons _ List.perm_append_comm) ?_
    refine J_ne2 fun n1 n2 => ?_
    have hd := get_row (sp := spf) (flos_row m.F) (flos_get g0)
    simp only [Bool.not_true]
    refine J_false (by simp only [go_sem, ↓reduceIte, Int.reduceLT, Int.reduceLE, Int.reduceToNat, Int.reducePow, Int.reduceNeg, Nat.reduceBEq] <;> with_reducible rfl) ?_
    have hd1 : (((flos m.F).flatten ++ spf).drop (low (hashC (hash64 k)) m.F * 2 + 1))[0]? = some (.c (.int .i64 (m.F[low (hashC (hash64 k)) m.F].at_))) := by rw [← List.drop_drop, hd]; rfl
    refine J_mrun (own := []) (m := 2000) (by simp (maxSteps := 2000000) (disch := omega) only [go_sem, ↓reduceIte, Int.reduceLT, Int.reduceLE, Int.reduceToNat, Int.reducePow, Int.reduceNeg, Nat.reduceBEq, Tryd.ntmps24, n1, n2, flos_len, hd1] <;> with_reducible rfl) ?_
    refine J_perm (Δ' := .box b 69 [.c vl, .c (.slice (some ⟨bf, 0, none⟩) m.F.length capf), .c (.int .i64 m.n)] :: (Dl ++ [.box bf 87 ((flos m.F).flatten ++ spf)])) (List.Perm.cons _ (List.perm_append_comm (l₁ := [_]))) ?_
    refine J_retX Tryd.func24 (by simp only [go_sem, ↓reduceIte, Int.reduceLT, Int.reduceLE, Int.reduceToNat, Int.reducePow, Int.reduceNeg, Nat.reduceBEq, Tryd.f24] <;> first | with_reducible rfl | rfl) ⟨by simp [floorP, hh, g0], by rw [flos_len]⟩

theorem mget_ok {b : Nat} {m : RM} {Δ : List HP} (hm : OwnM b m Δ) (k : List UInt8) (hs : SortedE m.L) (hl : m.L.length < 2 ^ 30) : ACalls Tryd.prog 21 [.c (.pointer (some ⟨b, 0, none⟩)), .c (.string (mkStr k))] Δ (fun r Δ' => r = .ret (.tup [((getE m.L k).getD zeroE).av, .c (.bool (getE m.L k).isSome)]) ∧ Δ' = Δ) := by
  cases hm with
  | @mk vl vf Dl Df howl howf =>
  rw [getE_low hs]
  have hsl := fun Δ Fr hp => searchL (Δ := Δ) (Fr := Fr) howl k hs hl hp
  cases hh : has (keyC k) m.L with
  | false =>
    rw [hh] at hsl
    refine calls_of_J cl_21 Tryd.func21 rfl (by simp [Tryd.ntmps21]) ?_
    refine J_mrun (own := [4]) (m := 2000) (by simp (maxSteps := 2000000) (disch := omega) only [go_sem, ↓reduceIte, Int.reduceLT, Int.reduceLE, Int.reduceToNat, Int.reducePow, Int.reduceNeg, Nat.reduceBEq, Tryd.ntmps21] <;> with_reducible rfl) ?_
    refine J_newvar rfl (by simp only [go_sem, ↓reduceIte, Int.reduceLT, Int.reduceLE, Int.reduceToNat, Int.reducePow, Int.reduceNeg, Nat.reduceBEq, Tryd.ntmps21]) (by simp only [go_sem, ↓reduceIte, Int.reduceLT, Int.reduceLE, Int.reduceToNat, Int.reducePow, Int.reduceNeg, Nat.reduceBEq] <;> with_reducible rfl) (fun b4 hb4 => ?_)
    simp only [fresh] at hb4
    refine J_mrun (own := []) (m := 2000) (by simp (maxSteps := 2000000) (disch := omega) only [go_sem, ↓reduceIte, Int.reduceLT, Int.reduceLE, Int.reduceToNat, Int.reducePow, Int.reduceNeg, Nat.reduceBEq, Tryd.ntmps21, hb4.1, hb4.2.1] <;> with_reducible rfl) ?_
    refine J_callr (by simp only [go_sem, ↓reduceIte, Int.reduceLT, Int.reduceLE, Int.reduceToNat, Int.reducePow, Int.reduceNeg, Nat.reduceBEq, Tryd.ntmps21] <;> with_reducible rfl) (hsl _ _ (List.perm_append_comm_assoc [_, _] Dl Df)) ?_
    refine J_mrun (own := []) (m := 2000) (by simp (maxSteps := 2000000) (disch := omega) only [go_sem, ↓reduceIte, Int.reduceLT, Int.reduceLE, Int.reduceToNat, Int.reducePow, Int.reduceNeg, Nat.reduceBEq, Tryd.ntmps21] <;> with_reducible rfl) ?_
    refine J_true (by simp only [go_sem, ↓reduceIte, Int.reduceLT, Int.reduceLE, Int.reduceToNat, Int.reducePow, Int.reduceNeg, Nat.reduceBEq] <;> with_reducible rfl) ?_
    refine J_mrun (own := []) (m := 2000) (by simp (maxSteps := 2000000) (disch := omega) only [go_sem, ↓reduceIte, Int.reduceLT, Int.reduceLE, Int.reduceToNat, Int.reducePow, Int.reduceNeg, Nat.reduceBEq, Tryd.ntmps21] <;> with_reducible rfl) ?_
    refine J_nilBox 4 1 (by simp only [go_sem]) ?_
    refine J_mrun (own := []) (m := 2000) (by simp (maxSteps := 2000000) (disch := omega) only [go_sem, ↓reduceIte, Int.reduceLT, Int.reduceLE, Int.reduceToNat, Int.reducePow, Int.reduceNeg, Nat.reduceBEq, Tryd.ntmps21] <;> with_reducible rfl) ?_
    refine J_forgetP ?_
    refine J_retX Tryd.func21 (by simp only [go_sem, ↓reduceIte, Int.reduceLT, Int.reduceLE, Int.reduceToNat, Int.reducePow, Int.reduceNeg, Nat.reduceBEq, Tryd.f21] <;> first | with_reducible rfl | rfl) ⟨[_], _, List.Perm.refl _, by rw [if_neg (by simp)]; rfl, rfl⟩
  | true =>
    have hlt := has_lt hh
    have g0 := List.getElem?_eq_getElem hlt
    rw [hh] at hsl
    cases howl with
    | nil _ h => rw [ents_len] at h; omega
    | box bl capl spl q1 q2 q3 =>
    have hd := get_row (sp := spl) (ents_row m.L) (ents_get g0)
    have hcp := icopy_ok (m.L[low (keyC k) m.L])
    simp only [Entry.av, Entry.cells] at hcp
    refine calls_of_J cl_21 Tryd.func21 rfl (by simp [Tryd.ntmps21]) ?_
    refine J_ne2 fun n1 n2 => ?_
    refine J_mrun (own := [4]) (m := 2000) (by simp (maxSteps := 2000000) (disch := omega) only [go_sem, ↓reduceIte, Int.reduceLT, Int.reduceLE, Int.reduceToNat, Int.reducePow, Int.reduceNeg, Nat.reduceBEq, Tryd.ntmps21] <;> with_reducible rfl) ?_
    refine J_newvar rfl (by simp only [go_sem, ↓reduceIte, Int.reduceLT, Int.reduceLE, Int.reduceToNat, Int.reducePow, Int.reduceNeg, Nat.reduceBEq, Tryd.ntmps21]) (by simp only [go_sem, ↓reduceIte, Int.reduceLT, Int.reduceLE, Int.reduceToNat, Int.reducePow, Int.reduceNeg, Nat.reduceBEq] <;> with_reducible rfl) (fun b4 hb4 => ?_)
    simp only [fresh, List.cons_append, List.nil_append] at hb4
    refine J_mrun (own := []) (m := 2000) (by simp (maxSteps := 2000000) (disch := omega) only [go_sem, ↓reduceIte, Int.reduceLT, Int.reduceLE, Int.reduceToNat, Int.reducePow, Int.reduceNeg, Nat.reduceBEq, Tryd.ntmps21, hb4.1, hb4.2.1, hb4.2.2.1, hb4.2.2.2.1, n1, n2] <;> with_reducible rfl) ?_
    refine J_callr (by simp only [go_sem, ↓reduceIte, Int.reduceLT, Int.reduceLE, Int.reduceToNat, Int.reducePow, Int.reduceNeg, Nat.reduceBEq, Tryd.ntmps21] <;> with_reducible rfl) (hsl _ _ (List.perm_append_comm_assoc [_, _] [_] Df)) ?_
    refine J_mrun (own := []) (m := 2000) (by simp (maxSteps := 2000000) (disch := omega) only [go_sem, ↓reduceIte, Int.reduceLT, Int.reduceLE, Int.reduceToNat, Int.reducePow, Int.reduceNeg, Nat.reduceBEq, Tryd.ntmps21] <;> with_reducible rfl) ?_
    refine J_false (by simp only [go_sem, ↓reduceIte, Int.reduceLT, Int.reduceLE, Int.reduceToNat, Int.reducePow, Int.reduceNeg, Nat.reduceBEq] <;> with_reducible rfl) ?_
    refine J_mrun (own := []) (m := 2000) (by simp (maxSteps := 2000000) (disch := omega) only [go_sem, ↓reduceIte, Int.reduceLT, Int.reduceLE, Int.reduceToNat, Int.reducePow, Int.reduceNeg, Nat.reduceBEq, Tryd.ntmps21, hb4.1, hb4.2.1, hb4.2.2.1, hb4.2.2.2.1, n1, n2, hd, ents_len] <;> with_reducible rfl) ?_
    refine J_callp (by simp only [go_sem, ↓reduceIte, Int.reduceLT, Int.reduceLE, Int.reduceToNat, Int.reducePow, Int.reduceNeg, Nat.reduceBEq, Tryd.ntmps21] <;> with_reducible rfl) (hcp) ?_
    refine J_mrun (own := []) (m := 2000) (by simp (maxSteps := 2000000) (disch := omega) only [go_sem, ↓reduceIte, Int.reduceLT, Int.reduceLE, Int.reduceToNat, Int.reducePow, Int.reduceNeg, Nat.reduceBEq, Tryd.ntmps21] <;> with_reducible rfl) ?_
    refine J_forgetP ?_
    refine J_retX Tryd.func21 (by simp only [go_sem, ↓reduceIte, Int.reduceLT, Int.reduceLE, Int.reduceToNat, Int.reducePow, Int.reduceNeg, Nat.reduceBEq, Tryd.f21] <;> first | with_reducible rfl | rfl) ⟨[_], _, List.Perm.refl _, by rw [if_pos rfl, g0]; rfl, by rw [ents_len]; rfl⟩
end Go.Proofs.YtncincpkdphojaaDoor
end

section
namespace Go.Proofs.YtncincpkdphojaaDoor
open Go Go.Av
set_option linter.unusedVariables false
set_option linter.unusedSimpArgs false
set_option maxRecDepth 100000
set_option maxHeartbeats 4000000
attribute [local go_sem] Entry.av Entry.cells packed List.set_cons_zero List.set_cons_succ List.cons_append List.nil_append

theorem mall_ok {b : Nat} {m : RM} {Δ : List HP} (hm : OwnM b m Δ) (hl : m.L.length < 2 ^ 30) : ACalls Tryd.prog 28 [.c (.pointer (some ⟨b, 0, none⟩))] Δ (fun r Δ' => r = .ret (.sl 5 (ents m.L)) ∧ Δ' = Δ) := by
  cases hm with
  | @mk vl vf Dl Df howl howf =>
  cases howl with
  | nil _ h =>
    have hr : m.L = [] := by rw [ents_len] at h; exact List.eq_nil_of_length_eq_zero h
    rw [hr]
    refine calls_of_J cl_28 Tryd.func28 rfl (by simp [Tryd.ntmps28]) ?_
    refine J_mrun (own := []) (m := 2000) (by simp (maxSteps := 2000000) (disch := omega) only [go_sem, ↓reduceIte, Int.reduceLT, Int.reduceLE, Int.reduceToNat, Int.reducePow, Int.reduceNeg, Nat.reduceBEq, Tryd.ntmps28] <;> with_reducible rfl) ?_
    refine J_keep [3, 10, 11] (by simp only [go_sem, ↓reduceIte, Int.reduceLT, Int.reduceLE, Int.reduceToNat, Int.reducePow, Int.reduceNeg, Nat.reduceBEq] <;> with_reducible rfl) ?_
    refine J_loopI (I := fun w e D => w = 0 ∧ D = .box b 69 [.c (.slice none 0 0), .c vf, .c (.int .i64 m.n)] :: Df ∧ e = [(3, .c (.slice none 0 0)), (10, .c (.int .i64 0)), (11, .c (.int .i64 0))]) ?_ ?_
    · exact ⟨_, rfl, rfl, rfl⟩
    · rintro w e D ⟨rfl, rfl, rfl⟩ ih
      refine J_mrun (own := []) (m := 2000) (by simp (maxSteps := 2000000) (disch := omega) only [go_sem, ↓reduceIte, Int.reduceLT, Int.reduceLE, Int.reduceToNat, Int.reducePow, Int.reduceNeg, Nat.reduceBEq, Tryd.ntmps28] <;> with_reducible rfl) ?_
      refine J_false (by simp only [go_sem, ↓reduceIte, Int.reduceLT, Int.reduceLE, Int.reduceToNat, Int.reducePow, Int.reduceNeg, Nat.reduceBEq] <;> with_reducible rfl) ?_
      refine J_mrun (own := []) (m := 2000) (by simp (maxSteps := 2000000) (disch := omega) only [go_sem, ↓reduceIte, Int.reduceLT, Int.reduceLE, Int.reduceToNat, Int.reducePow, Int.reduceNeg, Nat.reduceBEq, Tryd.ntmps28] <;> with_reducible rfl) ?_
      refine J_nil 2 5 (by simp only [go_sem]) ?_
      refine J_retX Tryd.func28 (by simp only [go_sem, ↓reduceIte, Int.reduceLT, Int.reduceLE, Int.reduceToNat, Int.reducePow, Int.reduceNeg, Nat.reduceBEq, Tryd.f28] <;> first | with_reducible rfl | rfl) ⟨rfl, rfl⟩
  | box bl capl spl q1 q2 q3 =>
    refine calls_of_J cl_28 Tryd.func28 rfl (by simp [Tryd.ntmps28]) ?_
    refine J_ne2 fun n1 n2 => ?_
    refine J_mrun (own := []) (m := 2000) (by simp (maxSteps := 2000000) (disch := omega) only [go_sem, ↓reduceIte, Int.reduceLT, Int.reduceLE, Int.reduceToNat, Int.reducePow, Int.reduceNeg, Nat.reduceBEq, Tryd.ntmps28, n1, n2, ents_len] <;> with_reducible rfl) ?_
    refine J_keep [3, 9, 10, 11] (by simp only [go_sem, ↓reduceIte, Int.reduceLT, Int.reduceLE, Int.reduceToNat, Int.reducePow, Int.reduceNeg, Nat.reduceBEq] <;> with_reducible rfl) ?_
    refine J_loopI (I := fun w e D => ∃ (i : Nat) (v : Value) (D1 : List HP), i ≤ m.L.length ∧ w = m.L.length - i ∧ Own 33 5 (ents (m.L.take i)).flatten (ents (m.L.take i)).length v D1 ∧ D = (.box b 69 [.c (.slice (some ⟨bl, 0, none⟩) m.L.length capl), .c vf, .c (.int .i64 m.n)] :: .box bl 33 ((ents m.L).flatten ++ spl) :: Df) ++ D1 ∧ e = [(3, .c v), (9, .c (.slice (some ⟨bl, 0, none⟩) m.L.length capl)), (10, .c (.int .i64 m.L.length)), (11, .c (.int .i64 i))]) ?_ ?_
    · exact ⟨_, 0, _, [], Nat.zero_le _, rfl, .nil rfl rfl, by simp, rfl⟩
    · rintro w e D ⟨i, v, D1, hi, rfl, how, rfl, rfl⟩ ih
      refine J_mrun (own := []) (m := 2000) (by simp (maxSteps := 2000000) (disch := omega) only [go_sem, ↓reduceIte, Int.reduceLT, Int.reduceLE, Int.reduceToNat, Int.reducePow, Int.reduceNeg, Nat.reduceBEq, Tryd.ntmps28] <;> with_reducible rfl) ?_
      refine J_if (by simp only [go_sem, ↓reduceIte, Int.reduceLT, Int.reduceLE, Int.reduceToNat, Int.reducePow, Int.reduceNeg, Nat.reduceBEq] <;> with_reducible rfl) (fun hc => ?_) (fun hc => ?_)
      · have hlt : i < m.L.length := by omega
        have g0 := List.getElem?_eq_getElem hlt
        have h0 : (0 : Int) ≤ (i : Int) := by omega
        have hd := get_row (sp := spl) (ents_row m.L) (ents_get g0)
        have hcp := icopy_ok (m.L[i])
        simp only [Entry.av, Entry.cells] at hcp
        refine J_mrun (own := [5]) (m := 2000) (by simp (maxSteps := 2000000) (disch := omega) only [go_sem, ↓reduceIte, Int.reduceLT, Int.reduceLE, Int.reduceToNat, Int.reducePow, Int.reduceNeg, Nat.reduceBEq, Tryd.ntmps28, n1, n2, hd] <;> with_reducible rfl) ?_
        refine J_newvar rfl (by simp only [go_sem, ↓reduceIte, Int.reduceLT, Int.reduceLE, Int.reduceToNat, Int.reducePow, Int.reduceNeg, Nat.reduceBEq, Tryd.ntmps28]) (by simp only [go_sem, ↓reduceIte, Int.reduceLT, Int.reduceLE, Int.reduceToNat, Int.reducePow, Int.reduceNeg, Nat.reduceBEq] <;> with_reducible rfl) (fun b5 hb5 => ?_)
        simp only [fresh, List.cons_append] at hb5
        refine J_mrun (own := []) (m := 2000) (by simp (maxSteps := 2000000) (disch := omega) only [go_sem, ↓reduceIte, Int.reduceLT, Int.reduceLE, Int.reduceToNat, Int.reducePow, Int.reduceNeg, Nat.reduceBEq, Tryd.ntmps28, hb5.1, hb5.2.1, hb5.2.2.1, hb5.2.2.2.1, n1, n2] <;> with_reducible rfl) ?_
        refine J_callp (by simp only [go_sem, ↓reduceIte, Int.reduceLT, Int.reduceLE, Int.reduceToNat, Int.reducePow, Int.reduceNeg, Nat.reduceBEq, Tryd.ntmps28] <;> with_reducible rfl) (hcp) ?_
        refine J_mrun (own := [19]) (m := 2000) (by simp (maxSteps := 2000000) (disch := omega) only [go_sem, ↓reduceIte, Int.reduceLT, Int.reduceLE, Int.reduceToNat, Int.reducePow, Int.reduceNeg, Nat.reduceBEq, Tryd.ntmps28] <;> with_reducible rfl) ?_
        refine J_bi (by simp only [go_sem, ↓reduceIte, Int.reduceLT, Int.reduceLE, Int.reduceToNat, Int.reducePow, Int.reduceNeg, Nat.reduceBEq, Tryd.ntmps28] <;> with_reducible rfl) (append_bi (by simp only [go_sem, ↓reduceIte, Int.reduceLT, Int.reduceLE, Int.reduceToNat, Int.reducePow, Int.reduceNeg, Nat.reduceBEq] <;> with_reducible rfl) how (Fr := .box b5 33 m.L[i].cells :: .box b 69 [.c (.slice (some ⟨bl, 0, none⟩) m.L.length capl), .c vf, .c (.int .i64 m.n)] :: .box bl 33 ((ents m.L).flatten ++ spl) :: Df) (by simp [Entry.cells]) (by simp only [go_sem] <;> rfl) (by rfl) (by rw [ents_len, List.length_take]; omega)) ?_
        rintro _ _ ⟨v', D', rfl, rfl, how'⟩
        refine J_mrun (own := []) (m := 2000) (by simp (maxSteps := 2000000) (disch := omega) only [go_sem, ↓reduceIte, Int.reduceLT, Int.reduceLE, Int.reduceToNat, Int.reducePow, Int.reduceNeg, Nat.reduceBEq, Tryd.ntmps28] <;> with_reducible rfl) ?_
        refine J_drop ?_
        refine J_keep [3, 9, 10, 11] (by simp only [go_sem, ↓reduceIte, Int.reduceLT, Int.reduceLE, Int.reduceToNat, Int.reducePow, Int.reduceNeg, Nat.reduceBEq] <;> with_reducible rfl) ?_
        refine ih _ _ _ ?_ ⟨i + 1, v', D', hlt, rfl, ?_, rfl, by simp only [Int.natCast_add, Int.cast_ofNat_Int]⟩
        · omega
        · rw [List.take_add_one, g0, Option.toList_some]
          exact own_snoc (by simpa [Entry.cells] using how')
      · have hi' : i = m.L.length := by omega
        subst hi'
        rw [List.take_length] at how
        refine J_mrun (own := []) (m := 2000) (by simp (maxSteps := 2000000) (disch := omega) only [go_sem, ↓reduceIte, Int.reduceLT, Int.reduceLE, Int.reduceToNat, Int.reducePow, Int.reduceNeg, Nat.reduceBEq, Tryd.ntmps28] <;> with_reducible rfl) ?_
        refine J_freezeS (Fr := .box b 69 [.c (.slice (some ⟨bl, 0, none⟩) m.L.length capl), .c vf, .c (.int .i64 m.n)] :: .box bl 33 ((ents m.L).flatten ++ spl) :: Df) how (ents_row _) (by rw [ents_len]; unfold maxRows; omega) ?_
        refine J_is (t := 2) (by simp only [go_sem]) (List.mem_cons_self ..) (J_drop ?_)
        refine J_retX Tryd.func28 (by simp only [go_sem, ↓reduceIte, Int.reduceLT, Int.reduceLE, Int.reduceToNat, Int.reducePow, Int.reduceNeg, Nat.reduceBEq, Tryd.f28] <;> first | with_reducible rfl | rfl) ⟨rfl, by rw [ents_len]; rfl⟩
end Go.Proofs.YtncincpkdphojaaDoor
end

section
namespace Go.Proofs.YtncincpkdphojaaDoor
open Go Go.Av
set_option linter.unusedVariables false
set_option linter.unusedSimpArgs false
set_option maxRecDepth 100000
set_option maxHeartbeats 4000000
attribute [local go_sem] Entry.av Entry.cells packed List.set_cons_zero List.set_cons_succ List.cons_append List.nil_append

theorem ents_erase (l : List Entry) (i : Nat) : (ents l).eraseIdx i = ents (l.eraseIdx i) := by
  simp [ents, List.eraseIdx_eq_take_drop_succ, List.map_take, List.map_drop]
theorem flos_erase (l : List Flo) (i : Nat) : (flos l).eraseIdx i = flos (l.eraseIdx i) := by
  simp [flos, List.eraseIdx_eq_take_drop_succ, List.map_take, List.map_drop]
theorem flos_cell (l : List Flo) : (flos l).flatten.all AV.isCell = true := by
  induction l with
  | nil => rfl
  | cons x l ih => simp only [flos, List.map_cons, List.flatten_cons, List.all_append, Bool.and_eq_true] at ih ⊢; exact ⟨rfl, ih⟩

theorem mforget_ok {b : Nat} {m : RM} {Δ : List HP} (hm : OwnM b m Δ) (k : List UInt8) (hs : SortedE m.L) (hl : m.L.length < 2 ^ 30) : ACalls Tryd.prog 12 [.c (.pointer (some ⟨b, 0, none⟩)), .c (.string (mkStr k))] Δ (fun r Δ' => r = .ret (.c (.bool (forgetRM m k).2)) ∧ OwnM b (forgetRM m k).1 Δ') := by
  cases hm with
  | @mk vl vf Dl Df howl howf =>
  have hsl := fun Δ Fr hp => searchL (Δ := Δ) (Fr := Fr) howl k hs hl hp
  have hf := find_low hs k
  cases hh : has (keyC k) m.L with
  | false =>
    rw [hh] at hsl hf
    have e1 : forgetRM m k = (m, false) := by unfold forgetRM; rw [hf]; rfl
    rw [e1]
    refine calls_of_J cl_12 Tryd.func12 rfl (by simp [Tryd.ntmps12]) ?_
    refine J_mrun (own := []) (m := 2000) (by simp (maxSteps := 2000000) (disch := omega) only [go_sem, ↓reduceIte, Int.reduceLT, Int.reduceLE, Int.reduceToNat, Int.reducePow, Int.reduceNeg, Nat.reduceBEq, Tryd.ntmps12] <;> with_reducible rfl) ?_
    refine J_callr (by simp only [go_sem, ↓reduceIte, Int.reduceLT, Int.reduceLE, Int.reduceToNat, Int.reducePow, Int.reduceNeg, Nat.reduceBEq, Tryd.ntmps12] <;> with_reducible rfl) (hsl _ _ (List.perm_append_comm_assoc [_] Dl Df)) ?_
    refine J_mrun (own := []) (m := 2000) (by simp (maxSteps := 2000000) (disch := omega) only [go_sem, ↓reduceIte, Int.reduceLT, Int.reduceLE, Int.reduceToNat, Int.reducePow, Int.reduceNeg, Nat.reduceBEq, Tryd.ntmps12] <;> with_reducible rfl) ?_
    refine J_false (by simp only [go_sem, ↓reduceIte, Int.reduceLT, Int.reduceLE, Int.reduceToNat, Int.reducePow, Int.reduceNeg, Nat.reduceBEq] <;> with_reducible rfl) ?_
    refine J_mrun (own := []) (m := 2000) (by simp (maxSteps := 2000000) (disch := omega) only [go_sem, ↓reduceIte, Int.reduceLT, Int.reduceLE, Int.reduceToNat, Int.reducePow, Int.reduceNeg, Nat.reduceBEq, Tryd.ntmps12] <;> with_reducible rfl) ?_
    refine J_retX Tryd.func12 (by simp only [go_sem, ↓reduceIte, Int.reduceLT, Int.reduceLE, Int.reduceToNat, Int.reducePow, Int.reduceNeg, Nat.reduceBEq, Tryd.f12] <;> first | with_reducible rfl | rfl) ⟨rfl, .mk howl howf⟩
  | true =>
    rw [hh] at hsl hf
    have e1 : forgetRM m k = ({ m with L := but m.L k, n := IntKind.i64.wrap (m.n + 1) }, true) := by unfold forgetRM; rw [hf]; rfl
    rw [e1]
    have hlt := has_lt hh
    have e2 := erase_low hs hh
    refine calls_of_J cl_12 Tryd.func12 rfl (by simp [Tryd.ntmps12]) ?_
    refine J_mrun (own := []) (m := 2000) (by simp (maxSteps := 2000000) (disch := omega) only [go_sem, ↓reduceIte, Int.reduceLT, Int.reduceLE, Int.reduceToNat, Int.reducePow, Int.reduceNeg, Nat.reduceBEq, Tryd.ntmps12] <;> with_reducible rfl) ?_
    refine J_callr (by simp only [go_sem, ↓reduceIte, Int.reduceLT, Int.reduceLE, Int.reduceToNat, Int.reducePow, Int.reduceNeg, Nat.reduceBEq, Tryd.ntmps12] <;> with_reducible rfl) (hsl _ _ (List.perm_append_comm_assoc [_] Dl Df)) ?_
    refine J_mrun (own := []) (m := 2000) (by simp (maxSteps := 2000000) (disch := omega) only [go_sem, ↓reduceIte, Int.reduceLT, Int.reduceLE, Int.reduceToNat, Int.reducePow, Int.reduceNeg, Nat.reduceBEq, Tryd.ntmps12] <;> with_reducible rfl) ?_
    refine J_true (by simp only [go_sem, ↓reduceIte, Int.reduceLT, Int.reduceLE, Int.reduceToNat, Int.reducePow, Int.reduceNeg, Nat.reduceBEq] <;> with_reducible rfl) ?_
    refine J_mrun (own := []) (m := 2000) (by simp (maxSteps := 2000000) (disch := omega) only [go_sem, ↓reduceIte, Int.reduceLT, Int.reduceLE, Int.reduceToNat, Int.reducePow, Int.reduceNeg, Nat.reduceBEq, Tryd.ntmps12] <;> with_reducible rfl) ?_
    refine J_calls (by simp only [go_sem, ↓reduceIte, Int.reduceLT, Int.reduceLE, Int.reduceToNat, Int.reducePow, Int.reduceNeg, Nat.reduceBEq, Tryd.ntmps12] <;> with_reducible rfl) (delE_ok (ents m.L) (ents_row _) (ents_cell _) (low (keyC k) m.L) (by rw [ents_len]; exact hlt) (by rw [ents_len]; exact hl) howl) (Δ1 := Dl) (Fr := .box b 69 [.c vl, .c vf, .c (.int .i64 m.n)] :: Df) (List.perm_append_comm_assoc [_] Dl Df) ?_ (by rintro x Δ' ⟨v, e1, _⟩; cases e1)
    rintro x D' ⟨v', h1, how'⟩
    cases h1
    have how2 : Own 33 5 (ents (but m.L k)).flatten (ents (but m.L k)).length v' D' := by
      rw [ents_erase, e2] at how'
      have e3 : (ents m.L).length - 1 = (ents (but m.L k)).length := by rw [← e2, ents_len, ents_len, List.length_eraseIdx_of_lt hlt]
      rw [e3] at how'
      exact how'
    obtain ⟨va, vc, rfl⟩ := how2.slice
    refine J_perm List.perm_middle ?_
    refine J_mrun (own := []) (m := 2000) (by simp (maxSteps := 2000000) (disch := omega) only [go_sem, ↓reduceIte, Int.reduceLT, Int.reduceLE, Int.reduceToNat, Int.reducePow, Int.reduceNeg, Nat.reduceBEq, Tryd.ntmps12] <;> with_reducible rfl) ?_
    refine J_retX Tryd.func12 (by simp only [go_sem, ↓reduceIte, Int.reduceLT, Int.reduceLE, Int.reduceToNat, Int.reducePow, Int.reduceNeg, Nat.reduceBEq, Tryd.f12] <;> first | with_reducible rfl | rfl) ⟨rfl, .mk (m := { m with L := but m.L k, n := IntKind.i64.wrap (m.n + 1) }) how2 howf⟩

theorem mrelease_ok {b : Nat} {m : RM} {Δ : List HP} (hm : OwnM b m Δ) (k : List UInt8) (hk : k.length < 2 ^ 62) (hs : SortedF m.F) (hl : m.F.length < 2 ^ 30) : ACalls Tryd.prog 16 [.c (.pointer (some ⟨b, 0, none⟩)), .c (.string (mkStr k))] Δ (fun r Δ' => r = .ret (.tup []) ∧ OwnM b { m with F := relF m.F (hash64 k) } Δ') := by
  cases hm with
  | @mk vl vf Dl Df howl howf =>
  have hsl := fun Δ Fr hp => searchFl (Δ := Δ) (Fr := Fr) howf (hash64 k) hs hl hp
  have he := erase_lowF hs (hash64 k)
  cases hh : has (hashC (hash64 k)) m.F with
  | false =>
    rw [hh] at hsl
    rw [hh, if_neg (by simp)] at he
    rw [← he]
    refine calls_of_J cl_16 Tryd.func16 rfl (by simp [Tryd.ntmps16]) ?_
    refine J_mrun (own := []) (m := 2000) (by simp (maxSteps := 2000000) (disch := omega) only [go_sem, ↓reduceIte, Int.reduceLT, Int.reduceLE, Int.reduceToNat, Int.reducePow, Int.reduceNeg, Nat.reduceBEq, Tryd.ntmps16] <;> with_reducible rfl) ?_
    refine J_draw [[], [0], [0, 1], [0, 1, 2], [], [4], [0, 1, 2, 3, 4, 5], [0, 1, 2, 3, 4, 5, 6], [0, 1, 2, 3, 4, 5, 6, 7], [0, 1, 2, 3, 4, 5, 6, 7], [0, 1, 2, 3, 4, 5, 6, 7, 8], [0, 1, 2, 3, 4, 5, 6, 7, 8, 9, 10]] [(0, .pure), (1, .pure), (2, .pure), (3, .read), (4, .pure), (5, .pure), (6, .read), (7, .pure), (8, .pure), (9, .pure), (10, .pure), (11, .pure)] mixed (by kernel_rfl) ?_
    refine Can_run (own := []) (by simp (maxSteps := 2000000) (disch := omega) only [go_sem, ↓reduceIte, Int.reduceLT, Int.reduceLE, Int.reduceToNat, Int.reducePow, Int.reduceNeg, Nat.reduceBEq, Tryd.ntmps16] <;> with_reducible rfl) ?_
    refine Can_callp (by simp only [go_sem, ↓reduceIte, Int.reduceLT, Int.reduceLE, Int.reduceToNat, Int.reducePow, Int.reduceNeg, Nat.reduceBEq, Tryd.ntmps16] <;> with_reducible rfl) (bhash_ok k hk) ?_
    refine Can_run (own := []) (by simp (maxSteps := 2000000) (disch := omega) only [go_sem, ↓reduceIte, Int.reduceLT, Int.reduceLE, Int.reduceToNat, Int.reducePow, Int.reduceNeg, Nat.reduceBEq, Tryd.ntmps16] <;> with_reducible rfl) ?_
    refine Can_callr (by simp only [go_sem, ↓reduceIte, Int.reduceLT, Int.reduceLE, Int.reduceToNat, Int.reducePow, Int.reduceNeg, Nat.reduceBEq, Tryd.ntmps16] <;> with_reducible rfl) (hsl _ _ (List.perm_append_comm (l₁ := _ :: Dl) (l₂ := Df))) ?_
    refine Can_run (own := []) (by simp (maxSteps := 2000000) (disch := omega) only [go_sem, ↓reduceIte, Int.reduceLT, Int.reduceLE, Int.reduceToNat, Int.reducePow, Int.reduceNeg, Nat.reduceBEq, Tryd.ntmps16] <;> with_reducible rfl) ?_
    refine Can_nil ?_
    refine J_mrun (own := []) (m := 2000) (by simp (maxSteps := 2000000) (disch := omega) only [go_sem, ↓reduceIte, Int.reduceLT, Int.reduceLE, Int.reduceToNat, Int.reducePow, Int.reduceNeg, Nat.reduceBEq, Tryd.ntmps16] <;> with_reducible rfl) ?_
    refine J_false (by simp only [go_sem, ↓reduceIte, Int.reduceLT, Int.reduceLE, Int.reduceToNat, Int.reducePow, Int.reduceNeg, Nat.reduceBEq] <;> with_reducible rfl) ?_
    refine J_mrun (own := []) (m := 2000) (by simp (maxSteps := 2000000) (disch := omega) only [go_sem, ↓reduceIte, Int.reduceLT, Int.reduceLE, Int.reduceToNat, Int.reducePow, Int.reduceNeg, Nat.reduceBEq, Tryd.ntmps16] <;> with_reducible rfl) ?_
    refine J_end Tryd.func16 (xs := []) (by rfl) ⟨rfl, .mk howl howf⟩
  | true =>
    rw [hh] at hsl
    have hlt := has_lt hh
    rw [hh, if_pos rfl] at he
    refine calls_of_J cl_16 Tryd.func16 rfl (by simp [Tryd.ntmps16]) ?_
    refine J_mrun (own := []) (m := 2000) (by simp (maxSteps := 2000000) (disch := omega) only [go_sem, ↓reduceIte, Int.reduceLT, Int.reduceLE, Int.reduceToNat, Int.reducePow, Int.reduceNeg, Nat.reduceBEq, Tryd.ntmps16] <;> with_reducible rfl) ?_
    refine J_draw [[], [0], [0, 1], [0, 1, 2], [], [4], [0, 1, 2, 3, 4, 5], [0, 1, 2, 3, 4, 5, 6], [0, 1, 2, 3, 4, 5, 6, 7], [0, 1, 2, 3, 4, 5, 6, 7], [0, 1, 2, 3, 4, 5, 6, 7, 8], [0, 1, 2, 3, 4, 5, 6, 7, 8, 9, 10]] [(0, .pure), (1, .pure), (2, .pure), (3, .read), (4, .pure), (5, .pure), (6, .read), (7, .pure), (8, .pure), (9, .pure), (10, .pure), (11, .pure)] mixed (by kernel_rfl) ?_
    refine Can_run (own := []) (by simp (maxSteps := 2000000) (disch := omega) only [go_sem, ↓reduceIte, Int.reduceLT, Int.reduceLE, Int.reduceToNat, Int.reducePow, Int.reduceNeg, Nat.reduceBEq, Tryd.ntmps16] <;> with_reducible rfl) ?_
    refine Can_callp (by simp only [go_sem, ↓reduceIte, Int.reduceLT, Int.reduceLE, Int.reduceToNat, Int.reducePow, Int.reduceNeg, Nat.reduceBEq, Tryd.ntmps16] <;> with_reducible rfl) (bhash_ok k hk) ?_
    refine Can_run (own := []) (by simp (maxSteps := 2000000) (disch := omega) only [go_sem, ↓reduceIte, Int.reduceLT, Int.reduceLE, Int.reduceToNat, Int.reducePow, Int.reduceNeg, Nat.reduceBEq, Tryd.ntmps16] <;> with_reducible rfl) ?_
    refine Can_callr (by simp only [go_sem, ↓reduceIte, Int.reduceLT, Int.reduceLE, Int.reduceToNat, Int.reducePow, Int.reduceNeg, Nat.reduceBEq, Tryd.ntmps16] <;> with_reducible rfl) (hsl _ _ (List.perm_append_comm (l₁ := _ :: Dl) (l₂ := Df))) ?_
    refine Can_run (own := []) (by simp (maxSteps := 2000000) (disch := omega) only [go_sem, ↓reduceIte, Int.reduceLT, Int.reduceLE, Int.reduceToNat, Int.reducePow, Int.reduceNeg, Nat.reduceBEq, Tryd.ntmps16] <;> with_reducible rfl) ?_
    refine Can_nil ?_
    refine J_mrun (own := []) (m := 2000) (by simp (maxSteps := 2000000) (disch := omega) only [go_sem, ↓reduceIte, Int.reduceLT, Int.reduceLE, Int.reduceToNat, Int.reducePow, Int.reduceNeg, Nat.reduceBEq, Tryd.ntmps16] <;> with_reducible rfl) ?_
    refine J_true (by simp only [go_sem, ↓reduceIte, Int.reduceLT, Int.reduceLE, Int.reduceToNat, Int.reducePow, Int.reduceNeg, Nat.reduceBEq] <;> with_reducible rfl) ?_
    refine J_mrun (own := []) (m := 2000) (by simp (maxSteps := 2000000) (disch := omega) only [go_sem, ↓reduceIte, Int.reduceLT, Int.reduceLE, Int.reduceToNat, Int.reducePow, Int.reduceNeg, Nat.reduceBEq, Tryd.ntmps16] <;> with_reducible rfl) ?_
    refine J_calls (by simp only [go_sem, ↓reduceIte, Int.reduceLT, Int.reduceLE, Int.reduceToNat, Int.reducePow, Int.reduceNeg, Nat.reduceBEq, Tryd.ntmps16] <;> with_reducible rfl) (delF_ok (flos m.F) (flos_row _) (flos_cell _) (low (hashC (hash64 k)) m.F) (by rw [flos_len]; exact hlt) (by rw [flos_len]; exact hl) howf) (Δ1 := Df) (Fr := .box b 69 [.c vl, .c vf, .c (.int .i64 m.n)] :: Dl) (List.perm_append_comm (l₁ := _ :: Dl) (l₂ := Df)) ?_ (by rintro x Δ' ⟨v, e1, _⟩; cases e1)
    rintro x D' ⟨v', h1, how'⟩
    cases h1
    have how2 : Own 87 2 (flos (relF m.F (hash64 k))).flatten (flos (relF m.F (hash64 k))).length v' D' := by
      rw [flos_erase, he] at how'
      have e3 : (flos m.F).length - 1 = (flos (relF m.F (hash64 k))).length := by rw [← he, flos_len, flos_len, List.length_eraseIdx_of_lt hlt]
      rw [e3] at how'
      exact how'
    obtain ⟨va, vc, rfl⟩ := how2.slice
    refine J_perm List.perm_append_comm ?_
    refine J_mrun (own := []) (m := 2000) (by simp (maxSteps := 2000000) (disch := omega) only [go_sem, ↓reduceIte, Int.reduceLT, Int.reduceLE, Int.reduceToNat, Int.reducePow, Int.reduceNeg, Nat.reduceBEq, Tryd.ntmps16] <;> with_reducible rfl) ?_
    refine J_end Tryd.func16 (xs := []) (by rfl) ⟨rfl, .mk (m := { m with F := relF m.F (hash64 k) }) howl how2⟩
end Go.Proofs.YtncincpkdphojaaDoor
end

section
namespace Go.Proofs.YtncincpkdphojaaDoor
open Go Go.Av
set_option linter.unusedVariables false
set_option linter.unusedSimpArgs false
set_option maxRecDepth 100000
set_option maxHeartbeats 4000000
attribute [local go_sem] Entry.av Entry.cells packed List.set_cons_zero List.set_cons_succ List.cons_append List.nil_append

theorem ents_ins (l : List Entry) (x : Entry) (i : Nat) : ((ents l).take i).flatten ++ x.cells ++ ((ents l).drop i).flatten = (ents (l.take i ++ x :: l.drop i)).flatten := by
  simp [ents, List.map_take, List.map_drop]
theorem flos_ins (l : List Flo) (x : Flo) (i : Nat) : ((flos l).take i).flatten ++ x.cells ++ ((flos l).drop i).flatten = (flos (l.take i ++ x :: l.drop i)).flatten := by
  simp [flos, List.map_take, List.map_drop]
theorem ents_set (l : List Entry) (x : Entry) (i : Nat) : (ents l).set i x.cells = ents (l.set i x) := by simp [ents, List.map_set]
theorem flos_set (l : List Flo) (x : Flo) (i : Nat) : (flos l).set i x.cells = flos (l.set i x) := by simp [flos, List.map_set]
theorem cell_of_err {e : AV} {c : Int} (h : IsErr e c) : e.isCell = true := by cases h <;> rfl

theorem str_set : (ByteArray.mk #[115, 101, 116]) = mkStr [115, 101, 116] := rfl
attribute [local go_sem] str_set

theorem mset_ok {b : Nat} {m : RM} {Δ : List HP} (hm : OwnM b m Δ) (x : Entry) (hs : SortedE m.L) (hf : SortedF m.F) (hl : m.L.length < 2 ^ 29) (hlf : m.F.length < 2 ^ 30) : ACalls Tryd.prog 10 [.c (.pointer (some ⟨b, 0, none⟩)), x.av] Δ (fun r Δ' => (∃ e, r = .ret e ∧ IsErr e (setRM m x).2) ∧ OwnM b (setRM m x).1 Δ') := by
  have hck := check_ok x
  have hcp := icopy_ok x
  cases hm with
  | @mk vl vf Dl Df howl howf =>
  have hfl := mfloor_ok (OwnM.mk (b := b) howl howf) x.key (hs := hf) (hl := hlf)
  have hsl := fun Δ Fr hp => searchL (Δ := Δ) (Fr := Fr) howl x.key hs (by omega) hp
  simp only [Entry.av, Entry.cells] at hck hcp ⊢
  by_cases hc0 : checkCode x ≠ 0
  · have e1 : setRM m x = (m, checkCode x) := by unfold setRM; rw [if_pos hc0]
    rw [e1]
    refine calls_of_J cl_10 Tryd.func10 rfl (by simp [Tryd.ntmps10]) ?_
    refine J_mrun (own := []) (m := 2000) (by simp (maxSteps := 2000000) (disch := omega) only [go_sem, ↓reduceIte, Int.reduceLT, Int.reduceLE, Int.reduceToNat, Int.reducePow, Int.reduceNeg, Nat.reduceBEq, Tryd.ntmps10] <;> with_reducible rfl) ?_
    refine J_calls (by simp only [go_sem, ↓reduceIte, Int.reduceLT, Int.reduceLE, Int.reduceToNat, Int.reducePow, Int.reduceNeg, Nat.reduceBEq, Tryd.ntmps10] <;> with_reducible rfl) hck (Δ1 := []) (Fr := .box b 69 [.c vl, .c vf, .c (.int .i64 m.n)] :: (Dl ++ Df)) (List.Perm.refl _) ?_ (by rintro x Δ' ⟨⟨e, e1, _⟩, _⟩; cases e1)
    rintro y D' ⟨⟨e, h1, he⟩, rfl⟩
    cases h1
    obtain ⟨va, vc, rfl⟩ := howl.slice
    have hw := wrap_ok [115, 101, 116] (ents m.L).length he
    generalize hcc : checkCode x = cc at *
    cases he with
    | none => exact absurd rfl hc0
    | code o a c u hc =>
      refine J_mrun (own := []) (m := 2000) (by simp (maxSteps := 2000000) (disch := omega) only [go_sem, ↓reduceIte, Int.reduceLT, Int.reduceLE, Int.reduceToNat, Int.reducePow, Int.reduceNeg, Nat.reduceBEq, Tryd.ntmps10] <;> with_reducible rfl) ?_
      refine J_true (by simp only [go_sem, ↓reduceIte, Int.reduceLT, Int.reduceLE, Int.reduceToNat, Int.reducePow, Int.reduceNeg, Nat.reduceBEq] <;> with_reducible rfl) ?_
      refine J_mrun (own := []) (m := 2000) (by simp (maxSteps := 2000000) (disch := omega) only [go_sem, ↓reduceIte, Int.reduceLT, Int.reduceLE, Int.reduceToNat, Int.reducePow, Int.reduceNeg, Nat.reduceBEq, Tryd.ntmps10] <;> with_reducible rfl) ?_
      refine J_calls (by simp only [go_sem, ↓reduceIte, Int.reduceLT, Int.reduceLE, Int.reduceToNat, Int.reducePow, Int.reduceNeg, Nat.reduceBEq, Tryd.ntmps10] <;> with_reducible rfl) hw (Δ1 := []) (Fr := .box b 69 [.c (.slice va (ents m.L).length vc), .c vf, .c (.int .i64 m.n)] :: (Dl ++ Df)) (List.Perm.refl _) ?_ (by rintro x Δ' ⟨⟨e, e1, _⟩, _⟩; cases e1)
      rintro y D' ⟨⟨e, h1, he⟩, rfl⟩
      cases h1
      refine J_mrun (own := []) (m := 2000) (by simp (maxSteps := 2000000) (disch := omega) only [go_sem, ↓reduceIte, Int.reduceLT, Int.reduceLE, Int.reduceToNat, Int.reducePow, Int.reduceNeg, Nat.reduceBEq, Tryd.ntmps10] <;> with_reducible rfl) ?_
      refine J_retX Tryd.func10 (by simp only [go_sem, ↓reduceIte, Int.reduceLT, Int.reduceLE, Int.reduceToNat, Int.reducePow, Int.reduceNeg, Nat.reduceBEq, Tryd.f10] <;> first | with_reducible rfl | rfl) ⟨⟨_, rfl, he⟩, .mk howl howf⟩
    | under o a u c hc hu =>
      refine J_mrun (own := []) (m := 2000) (by simp (maxSteps := 2000000) (disch := omega) only [go_sem, ↓reduceIte, Int.reduceLT, Int.reduceLE, Int.reduceToNat, Int.reducePow, Int.reduceNeg, Nat.reduceBEq, Tryd.ntmps10] <;> with_reducible rfl) ?_
      refine J_true (by simp only [go_sem, ↓reduceIte, Int.reduceLT, Int.reduceLE, Int.reduceToNat, Int.reducePow, Int.reduceNeg, Nat.reduceBEq] <;> with_reducible rfl) ?_
      refine J_mrun (own := []) (m := 2000) (by simp (maxSteps := 2000000) (disch := omega) only [go_sem, ↓reduceIte, Int.reduceLT, Int.reduceLE, Int.reduceToNat, Int.reducePow, Int.reduceNeg, Nat.reduceBEq, Tryd.ntmps10] <;> with_reducible rfl) ?_
      refine J_calls (by simp only [go_sem, ↓reduceIte, Int.reduceLT, Int.reduceLE, Int.reduceToNat, Int.reducePow, Int.reduceNeg, Nat.reduceBEq, Tryd.ntmps10] <;> with_reducible rfl) hw (Δ1 := []) (Fr := .box b 69 [.c (.slice va (ents m.L).length vc), .c vf, .c (.int .i64 m.n)] :: (Dl ++ Df)) (List.Perm.refl _) ?_ (by rintro x Δ' ⟨⟨e, e1, _⟩, _⟩; cases e1)
      rintro y D' ⟨⟨e, h1, he⟩, rfl⟩
      cases h1
      refine J_mrun (own := []) (m := 2000) (by simp (maxSteps := 2000000) (disch := omega) only [go_sem, ↓reduceIte, Int.reduceLT, Int.reduceLE, Int.reduceToNat, Int.reducePow, Int.reduceNeg, Nat.reduceBEq, Tryd.ntmps10] <;> with_reducible rfl) ?_
      refine J_retX Tryd.func10 (by simp only [go_sem, ↓reduceIte, Int.reduceLT, Int.reduceLE, Int.reduceToNat, Int.reducePow, Int.reduceNeg, Nat.reduceBEq, Tryd.f10] <;> first | with_reducible rfl | rfl) ⟨⟨_, rfl, he⟩, .mk howl howf⟩
  · have hc0' : checkCode x = 0 := by omega
    have hkey := key_short hc0'
    have hfl' := hfl (by omega)
    by_cases hst : x.asof < floorF m.F (hash64 x.key)
    · have e1 : setRM m x = (m, 10) := by unfold setRM; rw [if_neg hc0, if_pos hst]
      rw [e1]
      refine calls_of_J cl_10 Tryd.func10 rfl (by simp [Tryd.ntmps10]) ?_
      refine J_mrun (own := []) (m := 2000) (by simp (maxSteps := 2000000) (disch := omega) only [go_sem, ↓reduceIte, Int.reduceLT, Int.reduceLE, Int.reduceToNat, Int.reducePow, Int.reduceNeg, Nat.reduceBEq, Tryd.ntmps10] <;> with_reducible rfl) ?_
      refine J_calls (by simp only [go_sem, ↓reduceIte, Int.reduceLT, Int.reduceLE, Int.reduceToNat, Int.reducePow, Int.reduceNeg, Nat.reduceBEq, Tryd.ntmps10] <;> with_reducible rfl) hck (Δ1 := []) (Fr := .box b 69 [.c vl, .c vf, .c (.int .i64 m.n)] :: (Dl ++ Df)) (List.Perm.refl _) ?_ (by rintro x Δ' ⟨⟨e, e1, _⟩, _⟩; cases e1)
      rintro y D' ⟨⟨e, h1, he⟩, rfl⟩
      cases h1
      rw [hc0'] at he
      cases he with
      | code o a c u hc => exact absurd rfl hc
      | under o a u c hc hu => exact absurd rfl hc
      | none =>
      refine J_mrun (own := []) (m := 2000) (by simp (maxSteps := 2000000) (disch := omega) only [go_sem, ↓reduceIte, Int.reduceLT, Int.reduceLE, Int.reduceToNat, Int.reducePow, Int.reduceNeg, Nat.reduceBEq, Tryd.ntmps10] <;> with_reducible rfl) ?_
      refine J_false (by simp only [go_sem, ↓reduceIte, Int.reduceLT, Int.reduceLE, Int.reduceToNat, Int.reducePow, Int.reduceNeg, Nat.reduceBEq] <;> with_reducible rfl) ?_
      refine J_mrun (own := []) (m := 2000) (by simp (maxSteps := 2000000) (disch := omega) only [go_sem, ↓reduceIte, Int.reduceLT, Int.reduceLE, Int.reduceToNat, Int.reducePow, Int.reduceNeg, Nat.reduceBEq, Tryd.ntmps10] <;> with_reducible rfl) ?_
      refine J_draw [[], [0], [], [], [3], [2, 3, 4], [0, 1, 2, 3, 4, 5]] [(0, .pure), (1, .pure), (2, .pure), (3, .pure), (4, .pure), (5, .read), (6, .pure)] mixed (by kernel_rfl) ?_
      refine Can_run (own := []) (by simp (maxSteps := 2000000) (disch := omega) only [go_sem, ↓reduceIte, Int.reduceLT, Int.reduceLE, Int.reduceToNat, Int.reducePow, Int.reduceNeg, Nat.reduceBEq, Tryd.ntmps10] <;> with_reducible rfl) ?_
      refine Can_callr (by simp only [go_sem, ↓reduceIte, Int.reduceLT, Int.reduceLE, Int.reduceToNat, Int.reducePow, Int.reduceNeg, Nat.reduceBEq, Tryd.ntmps10] <;> with_reducible rfl) (hfl') ?_
      refine Can_run (own := []) (by simp (maxSteps := 2000000) (disch := omega) only [go_sem, ↓reduceIte, Int.reduceLT, Int.reduceLE, Int.reduceToNat, Int.reducePow, Int.reduceNeg, Nat.reduceBEq, Tryd.ntmps10] <;> with_reducible rfl) ?_
      refine Can_nil ?_
      refine J_if (by simp only [go_sem, ↓reduceIte, Int.reduceLT, Int.reduceLE, Int.reduceToNat, Int.reducePow, Int.reduceNeg, Nat.reduceBEq] <;> with_reducible rfl) (fun hd => ?_) (fun hd => ?_)
      · refine J_mrun (own := []) (m := 2000) (by simp (maxSteps := 2000000) (disch := omega) only [go_sem, ↓reduceIte, Int.reduceLT, Int.reduceLE, Int.reduceToNat, Int.reducePow, Int.reduceNeg, Nat.reduceBEq, Tryd.ntmps10] <;> with_reducible rfl) ?_
        refine J_callp (by simp only [go_sem, ↓reduceIte, Int.reduceLT, Int.reduceLE, Int.reduceToNat, Int.reducePow, Int.reduceNeg, Nat.reduceBEq, Tryd.ntmps10] <;> with_reducible rfl) (new_ok [115, 101, 116] x.asof 10) ?_
        refine J_mrun (own := []) (m := 2000) (by simp (maxSteps := 2000000) (disch := omega) only [go_sem, ↓reduceIte, Int.reduceLT, Int.reduceLE, Int.reduceToNat, Int.reducePow, Int.reduceNeg, Nat.reduceBEq, Tryd.ntmps10] <;> with_reducible rfl) ?_
        refine J_retX Tryd.func10 (by simp only [go_sem, ↓reduceIte, Int.reduceLT, Int.reduceLE, Int.reduceToNat, Int.reducePow, Int.reduceNeg, Nat.reduceBEq, Tryd.f10] <;> first | with_reducible rfl | rfl) ⟨⟨_, rfl, errNew_is _ _ _⟩, .mk howl howf⟩
      · exact absurd hst hd
    · have e1 : setRM m x = ({ m with L := putL m.L x }, 0) := by unfold setRM; rw [if_neg hc0, if_neg hst]
      rw [e1]
      cases hh : has (keyC x.key) m.L with
      | true =>
        have hlt := has_lt hh
        rw [hh] at hsl
        have hput := set_low hs hh
        cases howl with
        | nil _ h => rw [ents_len] at h; omega
        | box bl capl spl q1 q2 q3 =>
        have hrow := set_row (sp := spl) (x := x.cells) (ents_row m.L) (i := low (keyC x.key) m.L) (by rw [ents_len]; exact hlt) rfl
        rw [ents_set, hput] at hrow
        have hin : (low (keyC x.key) m.L * 5 + 5 ≤ ((ents m.L).flatten ++ spl).length) = True := eq_true (by rw [List.length_append, q1, ents_len]; omega)
        refine calls_of_J cl_10 Tryd.func10 rfl (by simp [Tryd.ntmps10]) ?_
        refine J_ne2 fun n1 n2 => ?_
        refine J_mrun (own := []) (m := 2000) (by simp (maxSteps := 2000000) (disch := omega) only [go_sem, ↓reduceIte, Int.reduceLT, Int.reduceLE, Int.reduceToNat, Int.reducePow, Int.reduceNeg, Nat.reduceBEq, Tryd.ntmps10] <;> with_reducible rfl) ?_
        refine J_calls (by simp only [go_sem, ↓reduceIte, Int.reduceLT, Int.reduceLE, Int.reduceToNat, Int.reducePow, Int.reduceNeg, Nat.reduceBEq, Tryd.ntmps10] <;> with_reducible rfl) hck (Δ1 := []) (Fr := .box b 69 [.c (.slice (some ⟨bl, 0, none⟩) (ents m.L).length capl), .c vf, .c (.int .i64 m.n)] :: ([.box bl 33 ((ents m.L).flatten ++ spl)] ++ Df)) (List.Perm.refl _) ?_ (by rintro x Δ' ⟨⟨e, e1, _⟩, _⟩; cases e1)
        rintro y D' ⟨⟨e, h1, he⟩, rfl⟩
        cases h1
        rw [hc0'] at he
        cases he with
        | code o a c u hc => exact absurd rfl hc
        | under o a u c hc hu => exact absurd rfl hc
        | none =>
        refine J_mrun (own := []) (m := 2000) (by simp (maxSteps := 2000000) (disch := omega) only [go_sem, ↓reduceIte, Int.reduceLT, Int.reduceLE, Int.reduceToNat, Int.reducePow, Int.reduceNeg, Nat.reduceBEq, Tryd.ntmps10] <;> with_reducible rfl) ?_
        refine J_false (by simp only [go_sem, ↓reduceIte, Int.reduceLT, Int.reduceLE, Int.reduceToNat, Int.reducePow, Int.reduceNeg, Nat.reduceBEq] <;> with_reducible rfl) ?_
        refine J_mrun (own := []) (m := 2000) (by simp (maxSteps := 2000000) (disch := omega) only [go_sem, ↓reduceIte, Int.reduceLT, Int.reduceLE, Int.reduceToNat, Int.reducePow, Int.reduceNeg, Nat.reduceBEq, Tryd.ntmps10] <;> with_reducible rfl) ?_
        refine J_draw [[], [0], [], [], [3], [2, 3, 4], [0, 1, 2, 3, 4, 5]] [(0, .pure), (1, .pure), (2, .pure), (3, .pure), (4, .pure), (5, .read), (6, .pure)] mixed (by kernel_rfl) ?_
        refine Can_run (own := []) (by simp (maxSteps := 2000000) (disch := omega) only [go_sem, ↓reduceIte, Int.reduceLT, Int.reduceLE, Int.reduceToNat, Int.reducePow, Int.reduceNeg, Nat.reduceBEq, Tryd.ntmps10] <;> with_reducible rfl) ?_
        refine Can_callr (by simp only [go_sem, ↓reduceIte, Int.reduceLT, Int.reduceLE, Int.reduceToNat, Int.reducePow, Int.reduceNeg, Nat.reduceBEq, Tryd.ntmps10] <;> with_reducible rfl) (hfl') ?_
        refine Can_run (own := []) (by simp (maxSteps := 2000000) (disch := omega) only [go_sem, ↓reduceIte, Int.reduceLT, Int.reduceLE, Int.reduceToNat, Int.reducePow, Int.reduceNeg, Nat.reduceBEq, Tryd.ntmps10] <;> with_reducible rfl) ?_
        refine Can_nil ?_
        refine J_if (by simp only [go_sem, ↓reduceIte, Int.reduceLT, Int.reduceLE, Int.reduceToNat, Int.reducePow, Int.reduceNeg, Nat.reduceBEq] <;> with_reducible rfl) (fun hd => ?_) (fun hd => ?_)
        · exact absurd hd hst
        · refine J_mrun (own := []) (m := 2000) (by simp (maxSteps := 2000000) (disch := omega) only [go_sem, ↓reduceIte, Int.reduceLT, Int.reduceLE, Int.reduceToNat, Int.reducePow, Int.reduceNeg, Nat.reduceBEq, Tryd.ntmps10] <;> with_reducible rfl) ?_
          refine J_draw [[], [0], [0, 1], [0, 1, 2], [], [4], [0, 1, 2, 3, 4, 5], [0, 1, 2, 3, 4, 5, 6], [0, 1, 2, 3, 4, 5, 6, 7], [0, 1, 2, 3, 4, 5, 6, 7], [0, 1, 2, 3, 4, 5, 6, 7, 8], [0, 1, 2, 3, 4, 5, 6, 7, 8, 9, 10]] [(0, .pure), (1, .pure), (2, .pure), (3, .read), (4, .pure), (5, .pure), (6, .read), (7, .pure), (8, .pure), (9, .pure), (10, .pure), (11, .pure)] mixed (by kernel_rfl) ?_
          refine Can_run (own := []) (by simp (maxSteps := 2000000) (disch := omega) only [go_sem, ↓reduceIte, Int.reduceLT, Int.reduceLE, Int.reduceToNat, Int.reducePow, Int.reduceNeg, Nat.reduceBEq, Tryd.ntmps10] <;> with_reducible rfl) ?_
          refine Can_callr (by simp only [go_sem, ↓reduceIte, Int.reduceLT, Int.reduceLE, Int.reduceToNat, Int.reducePow, Int.reduceNeg, Nat.reduceBEq, Tryd.ntmps10] <;> with_reducible rfl) (hsl _ _ (List.perm_append_comm_assoc [_] [_] Df)) ?_
          refine Can_run (own := []) (by simp (maxSteps := 2000000) (disch := omega) only [go_sem, ↓reduceIte, Int.reduceLT, Int.reduceLE, Int.reduceToNat, Int.reducePow, Int.reduceNeg, Nat.reduceBEq, Tryd.ntmps10] <;> with_reducible rfl) ?_
          refine Can_nil ?_
          refine J_mrun (own := []) (m := 2000) (by simp (maxSteps := 2000000) (disch := omega) only [go_sem, ↓reduceIte, Int.reduceLT, Int.reduceLE, Int.reduceToNat, Int.reducePow, Int.reduceNeg, Nat.reduceBEq, Tryd.ntmps10] <;> with_reducible rfl) ?_
          refine J_true (by simp only [go_sem, ↓reduceIte, Int.reduceLT, Int.reduceLE, Int.reduceToNat, Int.reducePow, Int.reduceNeg, Nat.reduceBEq] <;> with_reducible rfl) ?_
          refine J_mrun (own := []) (m := 2000) (by simp (maxSteps := 2000000) (disch := omega) only [go_sem, ↓reduceIte, Int.reduceLT, Int.reduceLE, Int.reduceToNat, Int.reducePow, Int.reduceNeg, Nat.reduceBEq, Tryd.ntmps10] <;> with_reducible rfl) ?_
          refine J_draw [[], [0], [0, 1], [0, 1, 2], [], [], [5], [0, 1, 2, 3, 4, 5, 6], [0, 1, 2, 3, 4, 5, 6, 7]] [(0, .pure), (1, .pure), (2, .pure), (3, .read), (4, .pure), (5, .pure), (6, .pure), (7, .pure), (8, .act)] mixed (by kernel_rfl) ?_
          refine Can_run (own := []) (by simp (maxSteps := 2000000) (disch := omega) only [go_sem, ↓reduceIte, Int.reduceLT, Int.reduceLE, Int.reduceToNat, Int.reducePow, Int.reduceNeg, Nat.reduceBEq, Tryd.ntmps10] <;> with_reducible rfl) ?_
          refine Can_callp (by simp only [go_sem, ↓reduceIte, Int.reduceLT, Int.reduceLE, Int.reduceToNat, Int.reducePow, Int.reduceNeg, Nat.reduceBEq, Tryd.ntmps10] <;> with_reducible rfl) (hcp) ?_
          refine Can_run (own := []) (by simp (maxSteps := 2000000) (disch := omega) only [go_sem, ↓reduceIte, Int.reduceLT, Int.reduceLE, Int.reduceToNat, Int.reducePow, Int.reduceNeg, Nat.reduceBEq, Tryd.ntmps10, n1, n2, ents_len, hin] <;> with_reducible rfl) ?_
          refine Can_nil ?_
          refine J_mrun (own := []) (m := 2000) (by simp (maxSteps := 2000000) (disch := omega) only [go_sem, ↓reduceIte, Int.reduceLT, Int.reduceLE, Int.reduceToNat, Int.reducePow, Int.reduceNeg, Nat.reduceBEq, Tryd.ntmps10] <;> with_reducible rfl) ?_
          refine J_retX Tryd.func10 (by simp only [go_sem, ↓reduceIte, Int.reduceLT, Int.reduceLE, Int.reduceToNat, Int.reducePow, Int.reduceNeg, Nat.reduceBEq, Tryd.f10] <;> first | with_reducible rfl | rfl) ⟨⟨_, rfl, .none⟩, by
            have hlen : (ents (putL m.L x)).length = m.L.length := by rw [← hput, ents_len, List.length_set]
            have h3 : Own 33 5 (ents (putL m.L x)).flatten (ents (putL m.L x)).length (.slice (some ⟨bl, 0, none⟩) m.L.length capl) [.box bl 33 ((ents (putL m.L x)).flatten ++ spl)] := by
              rw [hlen]
              exact .box bl capl spl (by rw [flat_len (ents_row _), hlen]) (by rw [q2, ents_len]) (by rw [ents_len] at q3; exact q3)
            rw [← hrow] at h3
            exact .mk (m := { m with L := putL m.L x }) h3 howf⟩
      | false =>
        rw [hh] at hsl
        have hput := ins_low hs hh
        have hle := low_le (keyC x.key) m.L
        refine calls_of_J cl_10 Tryd.func10 rfl (by simp [Tryd.ntmps10]) ?_
        refine J_mrun (own := []) (m := 2000) (by simp (maxSteps := 2000000) (disch := omega) only [go_sem, ↓reduceIte, Int.reduceLT, Int.reduceLE, Int.reduceToNat, Int.reducePow, Int.reduceNeg, Nat.reduceBEq, Tryd.ntmps10] <;> with_reducible rfl) ?_
        refine J_calls (by simp only [go_sem, ↓reduceIte, Int.reduceLT, Int.reduceLE, Int.reduceToNat, Int.reducePow, Int.reduceNeg, Nat.reduceBEq, Tryd.ntmps10] <;> with_reducible rfl) hck (Δ1 := []) (Fr := .box b 69 [.c vl, .c vf, .c (.int .i64 m.n)] :: (Dl ++ Df)) (List.Perm.refl _) ?_ (by rintro x Δ' ⟨⟨e, e1, _⟩, _⟩; cases e1)
        rintro y D' ⟨⟨e, h1, he⟩, rfl⟩
        cases h1
        rw [hc0'] at he
        cases he with
        | code o a c u hc => exact absurd rfl hc
        | under o a u c hc hu => exact absurd rfl hc
        | none =>
        refine J_mrun (own := []) (m := 2000) (by simp (maxSteps := 2000000) (disch := omega) only [go_sem, ↓reduceIte, Int.reduceLT, Int.reduceLE, Int.reduceToNat, Int.reducePow, Int.reduceNeg, Nat.reduceBEq, Tryd.ntmps10] <;> with_reducible rfl) ?_
        refine J_false (by simp only [go_sem, ↓reduceIte, Int.reduceLT, Int.reduceLE, Int.reduceToNat, Int.reducePow, Int.reduceNeg, Nat.reduceBEq] <;> with_reducible rfl) ?_
        refine J_mrun (own := []) (m := 2000) (by simp (maxSteps := 2000000) (disch := omega) only [go_sem, ↓reduceIte, Int.reduceLT, Int.reduceLE, Int.reduceToNat, Int.reducePow, Int.reduceNeg, Nat.reduceBEq, Tryd.ntmps10] <;> with_reducible rfl) ?_
        refine J_draw [[], [0], [], [], [3], [2, 3, 4], [0, 1, 2, 3, 4, 5]] [(0, .pure), (1, .pure), (2, .pure), (3, .pure), (4, .pure), (5, .read), (6, .pure)] mixed (by kernel_rfl) ?_
        refine Can_run (own := []) (by simp (maxSteps := 2000000) (disch := omega) only [go_sem, ↓reduceIte, Int.reduceLT, Int.reduceLE, Int.reduceToNat, Int.reducePow, Int.reduceNeg, Nat.reduceBEq, Tryd.ntmps10] <;> with_reducible rfl) ?_
        refine Can_callr (by simp only [go_sem, ↓reduceIte, Int.reduceLT, Int.reduceLE, Int.reduceToNat, Int.reducePow, Int.reduceNeg, Nat.reduceBEq, Tryd.ntmps10] <;> with_reducible rfl) (hfl') ?_
        refine Can_run (own := []) (by simp (maxSteps := 2000000) (disch := omega) only [go_sem, ↓reduceIte, Int.reduceLT, Int.reduceLE, Int.reduceToNat, Int.reducePow, Int.reduceNeg, Nat.reduceBEq, Tryd.ntmps10] <;> with_reducible rfl) ?_
        refine Can_nil ?_
        refine J_if (by simp only [go_sem, ↓reduceIte, Int.reduceLT, Int.reduceLE, Int.reduceToNat, Int.reducePow, Int.reduceNeg, Nat.reduceBEq] <;> with_reducible rfl) (fun hd => ?_) (fun hd => ?_)
        · exact absurd hd hst
        · refine J_mrun (own := []) (m := 2000) (by simp (maxSteps := 2000000) (disch := omega) only [go_sem, ↓reduceIte, Int.reduceLT, Int.reduceLE, Int.reduceToNat, Int.reducePow, Int.reduceNeg, Nat.reduceBEq, Tryd.ntmps10] <;> with_reducible rfl) ?_
          refine J_draw [[], [0], [0, 1], [0, 1, 2], [], [4], [0, 1, 2, 3, 4, 5], [0, 1, 2, 3, 4, 5, 6], [0, 1, 2, 3, 4, 5, 6, 7], [0, 1, 2, 3, 4, 5, 6, 7], [0, 1, 2, 3, 4, 5, 6, 7, 8], [0, 1, 2, 3, 4, 5, 6, 7, 8, 9, 10]] [(0, .pure), (1, .pure), (2, .pure), (3, .read), (4, .pure), (5, .pure), (6, .read), (7, .pure), (8, .pure), (9, .pure), (10, .pure), (11, .pure)] mixed (by kernel_rfl) ?_
          refine Can_run (own := []) (by simp (maxSteps := 2000000) (disch := omega) only [go_sem, ↓reduceIte, Int.reduceLT, Int.reduceLE, Int.reduceToNat, Int.reducePow, Int.reduceNeg, Nat.reduceBEq, Tryd.ntmps10] <;> with_reducible rfl) ?_
          refine Can_callr (by simp only [go_sem, ↓reduceIte, Int.reduceLT, Int.reduceLE, Int.reduceToNat, Int.reducePow, Int.reduceNeg, Nat.reduceBEq, Tryd.ntmps10] <;> with_reducible rfl) (hsl _ _ (List.perm_append_comm_assoc [_] Dl Df)) ?_
          refine Can_run (own := []) (by simp (maxSteps := 2000000) (disch := omega) only [go_sem, ↓reduceIte, Int.reduceLT, Int.reduceLE, Int.reduceToNat, Int.reducePow, Int.reduceNeg, Nat.reduceBEq, Tryd.ntmps10] <;> with_reducible rfl) ?_
          refine Can_nil ?_
          refine J_mrun (own := []) (m := 2000) (by simp (maxSteps := 2000000) (disch := omega) only [go_sem, ↓reduceIte, Int.reduceLT, Int.reduceLE, Int.reduceToNat, Int.reducePow, Int.reduceNeg, Nat.reduceBEq, Tryd.ntmps10] <;> with_reducible rfl) ?_
          refine J_false (by simp only [go_sem, ↓reduceIte, Int.reduceLT, Int.reduceLE, Int.reduceToNat, Int.reducePow, Int.reduceNeg, Nat.reduceBEq] <;> with_reducible rfl) ?_
          refine J_mrun (own := []) (m := 2000) (by simp (maxSteps := 2000000) (disch := omega) only [go_sem, ↓reduceIte, Int.reduceLT, Int.reduceLE, Int.reduceToNat, Int.reducePow, Int.reduceNeg, Nat.reduceBEq, Tryd.ntmps10] <;> with_reducible rfl) ?_
          refine J_draw [[], [], [1], [1, 2], [1, 2, 3], [], [], [6], [6, 7], [1, 2, 3, 4, 5, 6, 7, 8], [0, 1, 2, 3, 4, 5, 6, 7, 8, 9], [0, 1, 2, 3, 4, 5, 6, 7, 8, 9, 10], [0, 1, 2, 3, 4, 5, 6, 7, 8, 9, 10, 11]] [(0, .pure), (1, .pure), (2, .pure), (3, .pure), (4, .read), (5, .pure), (6, .pure), (7, .pure), (8, .pure), (9, .act), (10, .pure), (11, .pure), (12, .act)] mixed (by kernel_rfl) ?_
          refine Can_run (own := []) (by simp (maxSteps := 2000000) (disch := omega) only [go_sem, ↓reduceIte, Int.reduceLT, Int.reduceLE, Int.reduceToNat, Int.reducePow, Int.reduceNeg, Nat.reduceBEq, Tryd.ntmps10] <;> with_reducible rfl) ?_
          refine Can_callp (by simp only [go_sem, ↓reduceIte, Int.reduceLT, Int.reduceLE, Int.reduceToNat, Int.reducePow, Int.reduceNeg, Nat.reduceBEq, Tryd.ntmps10] <;> with_reducible rfl) (hcp) ?_
          refine Can_run (own := []) (by simp (maxSteps := 2000000) (disch := omega) only [go_sem, ↓reduceIte, Int.reduceLT, Int.reduceLE, Int.reduceToNat, Int.reducePow, Int.reduceNeg, Nat.reduceBEq, Tryd.ntmps10] <;> with_reducible rfl) ?_
          refine Can_call (by simp only [go_sem, ↓reduceIte, Int.reduceLT, Int.reduceLE, Int.reduceToNat, Int.reducePow, Int.reduceNeg, Nat.reduceBEq, Tryd.ntmps10] <;> with_reducible rfl) ((insE_ok (ents m.L) (ents_row _) (ents_cell _) x.cells rfl rfl (low (keyC x.key) m.L) (by rw [ents_len]; exact hle) (by rw [ents_len]; omega) howl).reorder (List.perm_append_comm_assoc [_] Dl Df) (fun D' => .box b 69 [.c vl, .c vf, .c (.int .i64 m.n)] :: (D' ++ Df)) (fun _ => List.perm_middle)) (Δ1 := .box b 69 [.c vl, .c vf, .c (.int .i64 m.n)] :: (Dl ++ Df)) (Fr := []) (by simp) ?_ (by rintro x Δ' ⟨D, ⟨v, e1, _⟩, _⟩; cases e1)
          rintro y _ ⟨D', ⟨v', h1, how'⟩, rfl⟩
          cases h1
          have hlen : (ents m.L).length + 1 = (ents (putL m.L x)).length := by rw [← hput]; simp only [ents_len, List.length_append, List.length_cons, List.length_take, List.length_drop]; omega
          rw [ents_ins, hput, hlen] at how'
          obtain ⟨va, vc, rfl⟩ := how'.slice
          rw [List.append_nil]
          refine Can_run (own := []) (by simp (maxSteps := 2000000) (disch := omega) only [go_sem, ↓reduceIte, Int.reduceLT, Int.reduceLE, Int.reduceToNat, Int.reducePow, Int.reduceNeg, Nat.reduceBEq, Tryd.ntmps10] <;> with_reducible rfl) ?_
          refine Can_nil ?_
          refine J_mrun (own := []) (m := 2000) (by simp (maxSteps := 2000000) (disch := omega) only [go_sem, ↓reduceIte, Int.reduceLT, Int.reduceLE, Int.reduceToNat, Int.reducePow, Int.reduceNeg, Nat.reduceBEq, Tryd.ntmps10] <;> with_reducible rfl) ?_
          refine J_retX Tryd.func10 (by simp only [go_sem, ↓reduceIte, Int.reduceLT, Int.reduceLE, Int.reduceToNat, Int.reducePow, Int.reduceNeg, Nat.reduceBEq, Tryd.f10] <;> first | with_reducible rfl | rfl) ⟨⟨_, rfl, .none⟩, .mk (m := { m with L := putL m.L x }) how' howf⟩
end Go.Proofs.YtncincpkdphojaaDoor
end
