/- A part of the proof: what the calls do, told by values. -/
import Derived.Test.YtlmahffjidgplaaGreatDoorD1
import Derived.Test.YtlmahffjidgplaaGreatDoorC6
section
namespace Go.Proofs.YtlmahffjidgplaaGreatDoor
open Go Go.Av
set_option linter.unusedVariables false
set_option linter.unusedSimpArgs false
set_option maxRecDepth 100000
set_option maxHeartbeats 4000000

/-! ### Two pages by turns: the plain law -/
theorem flC_len {low : Int} {l : FL} (h : flC low l = 0) : l.length ≤ 12 := (flC_zero h).2.1
theorem settle_full {sf : List (Int × List UInt8)} (hp : ∀ p ∈ sf, p.2.length = 256) (at_ : Int) {b : List UInt8} (hb : b.length = 256) (hn : blankB b = false) : settleM sf at_ (some b) 256 = updM sf at_ b := by
  have e1 : (min 256 256 : Int).toNat = 256 := rfl
  unfold settleM
  simp only
  rw [if_neg (by omega), e1, List.take_of_length_le (by omega), List.drop_eq_nil_of_le (by rw [pageOr_len hp]; omega), List.append_nil, hn]
  rfl
theorem firm_free {s : Fl} {n at_ : Int} {kd : Nat} {a : List UInt8} (hpg : ∀ p ∈ s.safe, p.2.length = 256) (hd : s.down = false) (hf : s.fuse < 0) (hl : s.loose = []) (hat : 0 ≤ at_ ∧ at_ < s.pages) (hn : 1 ≤ n ∧ n ≤ 1099511627776) (hk : 1 ≤ kd ∧ kd ≤ 5) (ha : a.length ≤ 233) :
    tfirmC s n at_ kd a = 0 ∧ tputN s n at_ kd a = n + 1 ∧ tfirmS s n at_ kd a = { s with safe := updM s.safe at_ (putB n.toNat kd a), done := s.done + 1 + 1 } := by
  obtain ⟨pg, sf, lo, fu, dn, dc⟩ := s
  simp only at hpg hd hf hl hat
  subst hd hl
  have hc : checkF ⟨pg, sf, [], fu, false, dc⟩ at_ = 0 := by unfold checkF; rw [if_neg (by simp), if_neg (by simp only; omega)]
  have hck : checkC n kd a.length = 0 := by unfold checkC; rw [if_neg (by omega), if_neg (by omega), if_neg (by omega)]
  have hbu : ∀ lo dc, burnB ⟨pg, sf, lo, fu, false, dc⟩ = false := fun lo dc => by unfold burnB; simp [hf]
  have hbs : ∀ lo dc, burnS ⟨pg, sf, lo, fu, false, dc⟩ = ⟨pg, sf, lo, fu, false, dc + 1⟩ := fun lo dc => by unfold burnS; rw [if_pos hf]
  have hC : tputC ⟨pg, sf, [], fu, false, dc⟩ n at_ kd a = 0 := by
    unfold tputC writeC changeC; rw [hck, hc, hbu]; rfl
  have hlen := putB_len n.toNat kd a ha
  have hS : tputS ⟨pg, sf, [], fu, false, dc⟩ n at_ kd a = ⟨pg, sf, [(at_, some (putB n.toNat kd a))], fu, false, dc + 1⟩ := by
    unfold tputS writeS; rw [if_neg (by rw [hck]; simp), if_neg (by rw [hc]; simp [hlen])]
    unfold changeS
    exact hbs _ _
  have hfl : flushC ⟨pg, sf, [(at_, some (putB n.toNat kd a))], fu, false, dc + 1⟩ = 0 := by
    unfold flushC; rw [if_neg (by simp), hbu]; rfl
  refine ⟨by unfold tfirmC; rw [if_neg (by simp [hC]), hS, hfl], by unfold tputN; rw [if_pos hC], ?_⟩
  unfold tfirmS
  rw [if_neg (by simp [hC]), hS]
  unfold flushS settleAll
  rw [if_neg (by simp), hbu, if_neg (by simp), hbs]
  simp only [List.foldl_cons, List.foldl_nil]
  rw [settle_full hpg at_ hlen (put_blank _ _ _ (by omega) (by omega))]

/-- What a page tells: a stamp and a record, or nothing. -/
abbrev PV := Option (Nat × Rec)
def pv (b : List UInt8) : PV := if getC b = 0 ∧ kdB b = 4 ∧ getX17 (txtB b) = 0 then some ((stampsB b).1, getRec (txtB b)) else none
def lgP (p : PV) (i : Int) (st : Int × Rec × Nat) : Int × Rec × Nat := match p with
  | none => st
  | some (k, r) => if k < st.2.2 then st else (i, r, k)
def lg2 (p q : PV) : Int × Rec × Nat := lgP q 1 (lgP p 0 (-1, zRec, 0))
theorem lgStep_pv {s : Fl} (hd : s.down = false) {base : Int} {i : Nat} (hr : 0 ≤ base + i ∧ base + i < s.pages) (st : Int × Rec × Nat) : lgStep s base st i = lgP (pv (lookB s (base + i))) i st := by
  have hc : checkF s (base + i) = 0 := by unfold checkF; rw [hd, if_neg (by simp), if_neg (by omega)]
  have hg : tgetC s (base + i) 4 = 0 ↔ getC (lookB s (base + i)) = 0 ∧ kdB (lookB s (base + i)) = 4 := by
    unfold tgetC
    rw [hc, if_neg (by simp)]
    by_cases h1 : getC (lookB s (base + i)) = 0
    · rw [if_neg (by simp [h1])]
      by_cases h2 : kdB (lookB s (base + i)) = 4
      · simp [h1, h2]
      · rw [if_pos (by omega)]; simp [h2]
    · rw [if_pos h1]; simp [h1]
  unfold lgStep
  by_cases h1 : tgetC s (base + i) 4 = 0
  · obtain ⟨h2, h3⟩ := hg.1 h1
    by_cases h4 : getX17 (txtB (lookB s (base + i))) = 0
    · have e : pv (lookB s (base + i)) = some ((stampsB (lookB s (base + i))).1, getRec (txtB (lookB s (base + i)))) := by unfold pv; rw [if_pos ⟨h2, h3, h4⟩]
      rw [e]
      unfold lgP
      simp only
      by_cases h5 : (stampsB (lookB s (base + i))).1 < st.2.2
      · rw [if_pos (.inr h5), if_pos h5]
      · rw [if_neg (by rintro (h | h); (· exact h h1); (· exact h5 h)), if_neg (by simp [h4]), if_neg h5]
    · have e : pv (lookB s (base + i)) = none := by unfold pv; rw [if_neg (fun h => h4 h.2.2)]
      rw [e]
      unfold lgP
      simp only
      split
      · rfl
      · first | rfl | rw [if_pos h4]
  · have e : pv (lookB s (base + i)) = none := by unfold pv; rw [if_neg (fun h => h1 (hg.2 ⟨h.1, h.2.1⟩))]
    rw [e, if_pos (.inl h1)]
    rfl
theorem lgN_two {s : Fl} (hd : s.down = false) (hp : s.pages = 3) : lgN s 1 2 = lg2 (pv (lookB s 1)) (pv (lookB s 2)) := by
  simp only [lgN]
  rw [lgStep_pv hd (i := 0) (by omega), lgStep_pv hd (i := 1) (by omega)]
  rfl
def pgB : PV → List UInt8
  | none => z256
  | some (k, r) => putB k 4 (recB r)
structure PgOK (p : PV) (n : Int) : Prop where
  ok : ∀ k r, p = some (k, r) → (1 ≤ k ∧ (k : Int) < n) ∧ recC r = 0 ∧ ∀ o ∈ r.l, o.1 < 2 ^ 64
theorem pv_z : pv z256 = none := by
  have h2 : getC z256 = 9 := by decide +kernel
  unfold pv; rw [if_neg (fun h => by rw [h2] at h; exact absurd h.1 (by decide))]
theorem pv_put {k : Nat} {r : Rec} (h1 : 1 ≤ k ∧ k ≤ 1099511627776) (hr : recC r = 0) (h64 : ∀ o ∈ r.l, o.1 < 2 ^ 64) : pv (putB k 4 (recB r)) = some (k, r) := by
  have hl := rec_len r h64 hr
  obtain ⟨k1, k2⟩ := rec_back r h64 hr
  unfold pv
  rw [put_getC _ _ _ h1.1 h1.2 (by decide) (by decide) hl, put_kd _ _ _ (by decide), put_txt _ _ _ hl, k1, k2, put_stamps _ _ _ h1.2 hl, if_pos ⟨rfl, rfl, rfl⟩]
theorem pv_pg {p : PV} {n : Int} (h : PgOK p n) (hn : n ≤ 1099511627776) : pv (pgB p) = p := by
  rcases p with _ | ⟨k, r⟩
  · exact pv_z
  · obtain ⟨⟨h1, h2⟩, h3, h4⟩ := h.ok k r rfl
    exact pv_put ⟨h1, by omega⟩ h3 h4
theorem pg_len {p : PV} {n : Int} (h : PgOK p n) : (pgB p).length = 256 := by
  rcases p with _ | ⟨k, r⟩
  · simp [pgB, z256]
  · obtain ⟨⟨h1, h2⟩, h3, h4⟩ := h.ok k r rfl
    exact putB_len _ _ _ (rec_len r h4 h3)
/-- The newest of two pages. -/
theorem lg2_stamp {p : PV} {n : Int} (h : PgOK p n) (hn : 1 ≤ n) (i : Int) : ((lgP p i (-1, zRec, 0)).2.2 : Int) < n := by
  rcases p with _ | ⟨k, r⟩
  · show ((0 : Nat) : Int) < n; omega
  · have := (h.ok k r rfl).1
    unfold lgP; simp only; rw [if_neg (by omega)]; simp only; omega
theorem lg2_newL {q : PV} {n : Nat} {y : Rec} (hq : PgOK q n) : lg2 (some (n, y)) q = (0, y, n) := by
  unfold lg2
  have e : lgP (some (n, y)) 0 (-1, zRec, 0) = (0, y, n) := by unfold lgP; simp
  rw [e]
  rcases q with _ | ⟨k, r⟩
  · rfl
  · have := (hq.ok k r rfl).1
    unfold lgP; simp only; rw [if_pos (by omega)]
theorem lg2_newR {p : PV} {n : Nat} {y : Rec} (hn : 1 ≤ n) (hp : PgOK p n) : lg2 p (some (n, y)) = (1, y, n) := by
  unfold lg2
  have := lg2_stamp hp (by omega) 0
  generalize lgP p 0 (-1, zRec, 0) = st at *
  unfold lgP; simp only; rw [if_neg (by omega)]
theorem lg2_one {p q : PV} : (lg2 p q).1 = -1 ∨ (lg2 p q).1 = 0 ∨ (lg2 p q).1 = 1 := by
  unfold lg2
  rcases p with _ | ⟨k, r⟩ <;> rcases q with _ | ⟨k2, r2⟩ <;> unfold lgP <;> simp only
  all_goals repeat' split
  all_goals simp
theorem lg2_dropL {p q : PV} (h : (lg2 p q).1 ≠ 0) : lg2 none q = lg2 p q := by
  unfold lg2 at *
  rcases p with _ | ⟨k, r⟩
  · rfl
  · rcases q with _ | ⟨k2, r2⟩
    · exfalso; apply h; unfold lgP; simp
    · by_cases hk : k2 < k
      · exfalso; apply h; unfold lgP; simp [hk]
      · unfold lgP; simp [hk]
theorem lg2_dropR {p q : PV} (h : (lg2 p q).1 = 0) : lg2 p none = lg2 p q := by
  unfold lg2 at *
  generalize lgP p 0 (-1, zRec, 0) = st at *
  rcases q with _ | ⟨k2, r2⟩
  · rfl
  · unfold lgP at h ⊢
    simp only at h ⊢
    by_cases hk : k2 < st.2.2
    · rw [if_pos hk]
    · rw [if_neg hk] at h; simp at h
end Go.Proofs.YtlmahffjidgplaaGreatDoor
end

section
namespace Go.Proofs.YtlmahffjidgplaaGreatDoor
open Go Go.Av
set_option linter.unusedVariables false
set_option linter.unusedSimpArgs false
set_option maxRecDepth 100000
set_option maxHeartbeats 4000000

/-! ### A page of a ledger torn anywhere -/
theorem w8take : ∀ (n : Fin 256) (k : Fin 8), (word8 n.val).take k.val = List.replicate k.val 0 := by decide +kernel
theorem w8mix : ∀ (n : Fin 256) (k : Fin 8), (List.replicate k.val 0 ++ (word8 n.val).drop k.val) = word8 n.val := by decide +kernel
theorem tornG_low {old a : List UInt8} {n j k : Nat} (hn : n < 256) (hj : j < 256) (h8 : old.take 8 = word8 j) (hk : k ≤ 7) : (putB n 4 a).take k ++ old.drop k = old := by
  have e : (putB n 4 a).take k = old.take k := by
    have e1 : (putB n 4 a).take k = ((putB n 4 a).take 8).take k := by rw [List.take_take, Nat.min_eq_left (by omega)]
    have e2 : old.take k = (old.take 8).take k := by rw [List.take_take, Nat.min_eq_left (by omega)]
    rw [e1, e2, put_take8, h8, w8take ⟨n, hn⟩ ⟨k, by omega⟩, w8take ⟨j, hj⟩ ⟨k, by omega⟩]
  rw [e, List.take_append_drop]
theorem tornG_mid {old a : List UInt8} {n j k : Nat} (hn : n < 256) (hj : j < n) (ha : a.length ≤ 233) (hl : old.length = 256) (h8 : old.drop 248 = word8 j) (h1 : 8 ≤ k) (hk : k ≤ 255) : getC ((putB n 4 a).take k ++ old.drop k) = 8 := by
  have hpl := putB_len n 4 a ha
  have e1 : ((putB n 4 a).take k ++ old.drop k).take 8 = word8 n := by
    rw [List.take_append_of_le_length (by rw [List.length_take]; omega), List.take_take, Nat.min_eq_left h1, put_take8]
  have e2 : ((putB n 4 a).take k ++ old.drop k).drop 248 = word8 j := by
    rw [List.drop_append, List.length_take, hpl, Nat.min_eq_left (by omega), List.drop_take, put_drop248 _ _ _ ha, List.drop_drop]
    have e : old.drop (k + (248 - k)) = (word8 j).drop (k - 248) := by rw [← h8, List.drop_drop]; congr 1; omega
    rw [e, w8take ⟨n, hn⟩ ⟨k - 248, by omega⟩, w8mix ⟨j, by omega⟩ ⟨k - 248, by omega⟩]
  have hlen : ((putB n 4 a).take k ++ old.drop k).length = 256 := by rw [List.length_append, List.length_take, List.length_drop]; omega
  unfold getC
  rw [if_neg (by simp [hlen]), e1, e2, if_pos]
  intro h
  have h2 := be8_word n (by omega)
  have h3 := be8_word j (by omega)
  rw [h, h3] at h2
  omega
theorem pg_ends {p : PV} {n : Int} (h : PgOK p n) (hn : 1 ≤ n) : ∃ j : Nat, (j : Int) < n ∧ (pgB p).take 8 = word8 j ∧ (pgB p).drop 248 = word8 j := by
  rcases p with _ | ⟨k, r⟩
  · exact ⟨0, by omega, by decide +kernel, by decide +kernel⟩
  · obtain ⟨⟨h1, h2⟩, h3, h4⟩ := h.ok k r rfl
    exact ⟨k, h2, put_take8 _ _ _, put_drop248 _ _ _ (rec_len r h4 h3)⟩
theorem pv_torn {p : PV} {n : Nat} {y : Rec} {k : Nat} (h : PgOK p n) (hn : 1 ≤ n ∧ n < 256) (hy : recC y = 0) (h64 : ∀ o ∈ y.l, o.1 < 2 ^ 64) (hk : k ≤ 256) :
    (pv ((putB n 4 (recB y)).take k ++ (pgB p).drop k) = p ∧ k ≠ 256) ∨ (pv ((putB n 4 (recB y)).take k ++ (pgB p).drop k) = none ∧ k ≠ 256) ∨ pv ((putB n 4 (recB y)).take k ++ (pgB p).drop k) = some (n, y) := by
  obtain ⟨j, hj, e1, e2⟩ := pg_ends h (by omega)
  have hl := rec_len y h64 hy
  have hpl := pg_len h
  by_cases h7 : k ≤ 7
  · left
    rw [tornG_low hn.2 (by omega) e1 h7]
    exact ⟨pv_pg h (by omega), by omega⟩
  · by_cases h255 : k ≤ 255
    · right; left
      have := tornG_mid hn.2 (by omega) hl hpl e2 (by omega) h255
      exact ⟨by unfold pv; rw [if_neg (fun h => by rw [this] at h; exact absurd h.1 (by decide))], by omega⟩
    · right; right
      have hk2 : k = 256 := by omega
      have hb := putB_len n 4 (recB y) hl
      rw [hk2, List.take_of_length_le (by omega), List.drop_eq_nil_of_le (by omega), List.append_nil]
      exact pv_put ⟨hn.1, by omega⟩ hy h64

/-! ### What a crash leaves of one page -/
theorem blank_eq {b : List UInt8} (hl : b.length = 256) (h : blankB b = true) : b = z256 := by
  unfold z256
  rw [← hl]
  refine List.eq_replicate_of_mem fun x hx => ?_
  unfold blankB at h
  rw [List.all_eq_true] at h
  simpa using h x hx
theorem settle_page {sf : List (Int × List UInt8)} (hnd : (sf.map (·.1)).Nodup) (hp : ∀ p ∈ sf, p.2.length = 256) (at_ : Int) {b : List UInt8} (hb : b.length = 256) (keep : Int) (j : Int) :
    pageOr (settleM sf at_ (some b) keep) j = if j = at_ then b.take (min keep 256).toNat ++ (pageOr sf at_).drop (min keep 256).toNat else pageOr sf j := by
  have hpo := pageOr_len hp at_
  unfold settleM
  simp only
  by_cases hk : keep ≤ 0
  · rw [if_pos hk]
    have e : (min keep 256).toNat = 0 := by omega
    rw [e, List.take_zero, List.drop_zero, List.nil_append]
    split
    · rename_i h; rw [h]
    · rfl
  · rw [if_neg hk]
    generalize hkk : (min keep 256).toNat = k
    have hlen : (b.take k ++ (pageOr sf at_).drop k).length = 256 := by rw [List.length_append, List.length_take, List.length_drop]; omega
    by_cases hbl : blankB (b.take k ++ (pageOr sf at_).drop k) = true
    · rw [if_pos hbl]
      have hz := blank_eq hlen hbl
      show (findM (delM sf at_) j).getD z256 = _
      rw [findM_del hnd]
      by_cases hj : j = at_
      · rw [if_pos hj.symm, if_pos hj, hz]; rfl
      · rw [if_neg (fun h => hj h.symm), if_neg hj]; rfl
    · rw [if_neg hbl]
      show (findM (updM sf at_ _) j).getD z256 = _
      rw [findM_upd]
      by_cases hj : j = at_
      · rw [if_pos hj.symm, if_pos hj]; rfl
      · rw [if_neg (fun h => hj h.symm), if_neg hj]; rfl
theorem look_safe {s : Fl} (h : s.loose = []) (j : Int) : lookB s j = pageOr s.safe j := by
  unfold lookB; rw [h]; rfl
theorem upd_page (sf : List (Int × List UInt8)) (at_ j : Int) (b : List UInt8) : pageOr (updM sf at_ b) j = if j = at_ then b else pageOr sf j := by
  unfold pageOr
  rw [findM_upd]
  by_cases hj : j = at_
  · rw [if_pos hj.symm, if_pos hj]; rfl
  · rw [if_neg (fun h => hj h.symm), if_neg hj]
/-- A firm put with a fuse of 0, 1 or 2, and a crash behind it. -/
theorem firm_crash {s : Fl} {m : Nat} (hB : s.B m) {n at_ : Int} {kd : Nat} {a : List UInt8} (hd : s.down = false) (hl : s.loose = []) (hat : 0 ≤ at_ ∧ at_ < s.pages) (hn : 1 ≤ n ∧ n ≤ 1099511627776) (hk : 1 ≤ kd ∧ kd ≤ 5) (ha : a.length ≤ 233) (fu : Int) (hfu : fu = 0 ∨ fu = 1 ∨ fu = 2) (keep : List Int) :
    ∃ k : Nat, k ≤ 256 ∧ (tfirmC (fuseS s fu) n at_ kd a = 0 ∧ k = 256 ∨ tfirmC (fuseS s fu) n at_ kd a = 11) ∧
      (∀ j, lookB (crashS (tfirmS (fuseS s fu) n at_ kd a) keep) j = if j = at_ then (putB n.toNat kd a).take k ++ (lookB s at_).drop k else lookB s j) := by
  have hls := look_safe hl
  have hpg := hB.safe.page
  have hnd := hB.safe.nodup
  obtain ⟨pg, sf, lo, fu0, dn, dc⟩ := s
  simp only at hpg hnd hd hl hat
  subst hd hl
  have hpl := putB_len n.toNat kd a ha
  have hpb := put_blank n.toNat kd a (by omega) (by omega)
  have hc : ∀ fu, checkF ⟨pg, sf, [], fu, false, dc⟩ at_ = 0 := fun fu => by unfold checkF; rw [if_neg (by simp), if_neg (by simp only; omega)]
  have hck : checkC n kd a.length = 0 := by unfold checkC; rw [if_neg (by omega), if_neg (by omega), if_neg (by omega)]
  have hfs : fuseS ⟨pg, sf, [], fu0, false, dc⟩ fu = ⟨pg, sf, [], fu, false, dc⟩ := by unfold fuseS; rcases hfu with rfl | rfl | rfl <;> rfl
  have hS : ∀ fu, tputS ⟨pg, sf, [], fu, false, dc⟩ n at_ kd a = burnS ⟨pg, sf, [(at_, some (putB n.toNat kd a))], fu, false, dc⟩ := fun fu => by
    unfold tputS writeS; rw [if_neg (by rw [hck]; simp), if_neg (by rw [hc]; simp [hpl])]
    rfl
  rw [hfs]
  simp only [hls]
  have htorn : ∀ dc, ∃ k : Nat, k ≤ 256 ∧ ∀ j, lookB (crashS ⟨pg, sf, [(at_, some (putB n.toNat kd a))], -1, true, dc⟩ keep) j = if j = at_ then (putB n.toNat kd a).take k ++ (pageOr sf at_).drop k else pageOr sf j := fun dc => by
    cases keep with
    | nil => exact ⟨0, by omega, fun j => by
        rw [look_safe rfl]
        show pageOr sf j = _
        rw [List.take_zero, List.drop_zero, List.nil_append]
        split
        · rename_i h; rw [h]
        · rfl⟩
    | cons k0 ks => exact ⟨(min k0 256).toNat, by omega, fun j => by
        rw [look_safe rfl]
        exact settle_page hnd hpg at_ hpl k0 j⟩
  rcases hfu with rfl | rfl | rfl
  · have hC : tputC ⟨pg, sf, [], 0, false, dc⟩ n at_ kd a = 11 := by
      unfold tputC writeC changeC; rw [hck, hc]; simp [putB_len n.toNat kd a ha]; rfl
    have hF : tfirmC ⟨pg, sf, [], 0, false, dc⟩ n at_ kd a = 11 := by unfold tfirmC; rw [hC]; rfl
    have hT : tfirmS ⟨pg, sf, [], 0, false, dc⟩ n at_ kd a = ⟨pg, sf, [(at_, some (putB n.toNat kd a))], -1, true, dc + 1⟩ := by
      unfold tfirmS; rw [hC, hS]; rfl
    obtain ⟨k, hk, h⟩ := htorn (dc + 1)
    exact ⟨k, hk, .inr hF, by rw [hT]; exact h⟩
  · have hC : tputC ⟨pg, sf, [], 1, false, dc⟩ n at_ kd a = 0 := by
      unfold tputC writeC changeC; rw [hck, hc]; simp [putB_len n.toNat kd a ha]; rfl
    have hF : tfirmC ⟨pg, sf, [], 1, false, dc⟩ n at_ kd a = 11 := by unfold tfirmC; rw [hC, hS]; rfl
    have hT : tfirmS ⟨pg, sf, [], 1, false, dc⟩ n at_ kd a = ⟨pg, sf, [(at_, some (putB n.toNat kd a))], -1, true, dc + 1 + 1⟩ := by
      unfold tfirmS; rw [hC, hS]; rfl
    obtain ⟨k, hk, h⟩ := htorn (dc + 1 + 1)
    exact ⟨k, hk, .inr hF, by rw [hT]; exact h⟩
  · have hC : tputC ⟨pg, sf, [], 2, false, dc⟩ n at_ kd a = 0 := by
      unfold tputC writeC changeC; rw [hck, hc]; simp [putB_len n.toNat kd a ha]; rfl
    have hF : tfirmC ⟨pg, sf, [], 2, false, dc⟩ n at_ kd a = 0 := by unfold tfirmC; rw [hC, hS]; rfl
    have hT : tfirmS ⟨pg, sf, [], 2, false, dc⟩ n at_ kd a = ⟨pg, settleM sf at_ (some (putB n.toNat kd a)) 256, [], 0, false, dc + 1 + 1⟩ := by
      unfold tfirmS; rw [hC, hS]; rfl
    refine ⟨256, by omega, .inl ⟨hF, rfl⟩, fun j => ?_⟩
    rw [hT, look_safe rfl]
    show pageOr (settleM sf at_ (some (putB n.toNat kd a)) 256) j = _
    exact settle_page hnd hpg at_ hpl 256 j

/-! ### What holds between the acts -/
theorem foldN_up : ∀ (l : List (Int × List UInt8)) (n : Int), n ≤ l.foldl stepN n ∧ ∀ c ∈ l, ((stampsB c.2).1 : Int) < l.foldl stepN n ∧ ((stampsB c.2).2 : Int) < l.foldl stepN n
  | [], n => ⟨Int.le_refl _, by simp⟩
  | c :: l, n => by
    have ih := foldN_up l (stepN n c)
    rw [List.foldl_cons]
    have hs : n ≤ stepN n c ∧ ((stampsB c.2).1 : Int) < stepN n c ∧ ((stampsB c.2).2 : Int) < stepN n c := by unfold stepN; omega
    refine ⟨by have := ih.1; omega, fun d hd => ?_⟩
    rcases List.mem_cons.1 hd with rfl | hd
    · have := ih.1; omega
    · exact ih.2 d hd
theorem foldN_le : ∀ (l : List (Int × List UInt8)) (n N : Int), n ≤ N → (∀ c ∈ l, ((stampsB c.2).1 : Int) < N ∧ ((stampsB c.2).2 : Int) < N) → l.foldl stepN n ≤ N
  | [], n, N, h, _ => h
  | c :: l, n, N, h, hc => by
    rw [List.foldl_cons]
    have h1 := hc c (by simp)
    exact foldN_le l _ N (by unfold stepN; omega) (fun d hd => hc d (by simp [hd]))
theorem pg_stamps {p : PV} {n : Int} (h : PgOK p n) (hn : 1 ≤ n ∧ n ≤ 1099511627776) : ((stampsB (pgB p)).1 : Int) < n ∧ ((stampsB (pgB p)).2 : Int) < n ∧ ∀ k r, p = some (k, r) → (stampsB (pgB p)).1 = k ∧ blankB (pgB p) = false := by
  rcases p with _ | ⟨k, r⟩
  · have e : stampsB z256 = (0, 0) := by decide +kernel
    unfold pgB; rw [e]
    exact ⟨by simp only; omega, by simp only; omega, fun k r h => by cases h⟩
  · obtain ⟨⟨h1, h2⟩, h3, h4⟩ := h.ok k r rfl
    unfold pgB
    rw [put_stamps _ _ _ (by omega) (rec_len r h4 h3)]
    exact ⟨h2, h2, fun k' r' h => by cases h; exact ⟨rfl, put_blank _ _ _ h1 (by omega)⟩⟩
structure KI (s : Fl) (n : Int) (p q : PV) (i : Nat) : Prop where
  hp : s.pages = 3
  hl : s.loose = []
  hf : s.fuse = -1
  hd : s.down = false
  l0 : lookB s 0 = z256
  l1 : lookB s 1 = pgB p
  l2 : lookB s 2 = pgB q
  o1 : PgOK p n
  o2 : PgOK q n
  n1 : 1 ≤ n
  n2 : n ≤ i + 1
theorem KI.lg {s : Fl} {n : Int} {p q : PV} {i : Nat} (h : KI s n p q i) (hi : i ≤ 200) : lgN s 1 2 = lg2 p q := by
  have := h.n2
  rw [lgN_two h.hd h.hp, h.l1, h.l2, pv_pg h.o1 (by omega), pv_pg h.o2 (by omega)]
theorem KI.next {s : Fl} {n : Int} {p q : PV} {i m : Nat} (h : KI s n p q i) (hi : i ≤ 200) (hB : s.B m) : KI s (nextF s) p q i := by
  have hn1 := h.n1
  have hn2 := h.n2
  have hu : upto s.pages.toNat = [0, 1, 2] := by rw [h.hp]; rfl
  have hc : cellsF s = cellsAt s [0, 1, 2] := by rw [← cells_all hB, hu]
  obtain ⟨a1, b1, c1⟩ := pg_stamps h.o1 ⟨hn1, by omega⟩
  obtain ⟨a2', b2, c2⟩ := pg_stamps h.o2 ⟨hn1, by omega⟩
  have hbz : blankB z256 = true := blank_zeros 256
  have hle : nextF s ≤ n := by
    unfold nextF
    refine foldN_le _ 1 n hn1 fun c hcm => ?_
    rw [hc] at hcm
    unfold cellsAt at hcm
    obtain ⟨hm, hnb⟩ := List.mem_filter.1 hcm
    simp only [List.map_cons, List.map_nil, List.mem_cons, List.not_mem_nil, or_false, h.l0, h.l1, h.l2] at hm
    rcases hm with rfl | rfl | rfl
    · rw [hbz] at hnb; cases hnb
    · exact ⟨a1, b1⟩
    · exact ⟨a2', b2⟩
  have hge := foldN_up (cellsF s) 1
  have hmem : ∀ (j : Int) (P : PV), (j = 1 ∧ P = p) ∨ (j = 2 ∧ P = q) → lookB s j = pgB P → blankB (pgB P) = false → (j, pgB P) ∈ cellsF s := fun j P hj hlk hb => by
    rw [hc]
    unfold cellsAt
    refine List.mem_filter.2 ⟨List.mem_map.2 ⟨j, ?_, by rw [hlk]⟩, by simp [hb]⟩
    rcases hj with ⟨rfl, -⟩ | ⟨rfl, -⟩ <;> simp
  refine { h with o1 := ⟨fun k r hk => ?_⟩, o2 := ⟨fun k r hk => ?_⟩, n1 := ?_, n2 := ?_ }
  · obtain ⟨⟨h1, h2⟩, h3⟩ := h.o1.ok k r hk
    obtain ⟨e1, e2⟩ := c1 k r hk
    have := (hge.2 _ (hmem 1 p (.inl ⟨rfl, rfl⟩) h.l1 e2)).1
    simp only [e1] at this
    exact ⟨⟨h1, this⟩, h3⟩
  · obtain ⟨⟨h1, h2⟩, h3⟩ := h.o2.ok k r hk
    obtain ⟨e1, e2⟩ := c2 k r hk
    have := (hge.2 _ (hmem 2 q (.inr ⟨rfl, rfl⟩) h.l2 e2)).1
    simp only [e1] at this
    exact ⟨⟨h1, this⟩, h3⟩
  · exact hge.1
  · omega
theorem KI.crash {s : Fl} {n : Int} {p q : PV} {i m : Nat} (h : KI s n p q i) (hi : i ≤ 200) (hB : s.B m) (keep : List Int) : KI (crashS s keep) (nextF (crashS s keep)) p q i := by
  have e : crashS s keep = s := by
    have h1 := h.hl; have h2 := h.hd; have h3 := h.hf
    obtain ⟨pg, sf, lo, fu, dn, dc⟩ := s
    simp only at h1 h2 h3
    subst h1 h2 h3
    rfl
  rw [e]
  exact h.next hi hB
theorem KI.mono {s : Fl} {n : Int} {p q : PV} {i j : Nat} (h : KI s n p q i) (hij : i ≤ j) : KI s n p q j := { h with n2 := by have := h.n2; omega }
theorem KI.new : KI (newFl 3) 1 none none 0 := ⟨rfl, rfl, rfl, rfl, rfl, rfl, rfl, ⟨fun k r h => by cases h⟩, ⟨fun k r h => by cases h⟩, by omega, by omega⟩
theorem lgTo_lt (x : Int) : 0 ≤ lgTo x ∧ lgTo x ≤ 1 := by unfold lgTo; split <;> omega
theorem PgOK.up {p : PV} {n : Int} (h : PgOK p n) : PgOK p (n + 1) := ⟨fun k r hk => by obtain ⟨⟨h1, h2⟩, h3⟩ := h.ok k r hk; exact ⟨⟨h1, by omega⟩, h3⟩⟩
theorem KI.save {s : Fl} {n : Int} {p q : PV} {i m : Nat} (h : KI s n p q i) (hi : i ≤ 200) (hB : s.B m) {y : Rec} (hy : recC y = 0) (h64 : ∀ o ∈ y.l, o.1 < 2 ^ 64) :
    tfirmC s n (1 + lgTo (lg2 p q).1) 4 (recB y) = 0 ∧ tputN s n (1 + lgTo (lg2 p q).1) 4 (recB y) = n + 1 ∧ ∃ p' q', KI (tfirmS s n (1 + lgTo (lg2 p q).1) 4 (recB y)) (n + 1) p' q' (i + 1) ∧ (lg2 p' q').1 = lgTo (lg2 p q).1 ∧ (lg2 p' q').2.1 = y := by
  have hn1 := h.n1
  have hn2 := h.n2
  have hto := lgTo_lt (lg2 p q).1
  have hlen := rec_len y h64 hy
  obtain ⟨q1, q2, q3⟩ : tfirmC s n (1 + lgTo (lg2 p q).1) 4 (recB y) = 0 ∧ tputN s n (1 + lgTo (lg2 p q).1) 4 (recB y) = n + 1 ∧ tfirmS s n (1 + lgTo (lg2 p q).1) 4 (recB y) = { s with safe := updM s.safe (1 + lgTo (lg2 p q).1) (putB n.toNat 4 (recB y)), done := s.done + 1 + 1 } :=
    firm_free (kd := 4) hB.safe.page h.hd (by have := h.hf; omega) h.hl (by have := h.hp; omega) (by omega) (by decide) hlen
  refine ⟨q1, q2, ?_⟩
  rw [q3]
  have hlk : ∀ j, lookB { s with safe := updM s.safe (1 + lgTo (lg2 p q).1) (putB n.toNat 4 (recB y)), done := s.done + 1 + 1 } j = if j = 1 + lgTo (lg2 p q).1 then putB n.toNat 4 (recB y) else lookB s j := fun j => by
    rw [look_safe (s := s) h.hl]
    exact (look_safe (s := { s with safe := updM s.safe (1 + lgTo (lg2 p q).1) (putB n.toNat 4 (recB y)), done := s.done + 1 + 1 }) h.hl j).trans (upd_page _ _ _ _)
  have hnew : PgOK (some (n.toNat, y)) (n + 1) := ⟨fun k r hk => by cases hk; exact ⟨⟨by omega, by omega⟩, hy, h64⟩⟩
  by_cases h0 : (lg2 p q).1 = 0
  · have e : lgTo (lg2 p q).1 = 1 := by unfold lgTo; rw [if_pos h0]
    rw [e] at hlk ⊢
    have hp : PgOK p n.toNat := by rw [show ((n.toNat : Nat) : Int) = n from by omega]; exact h.o1
    refine ⟨p, some (n.toNat, y), ⟨h.hp, h.hl, h.hf, h.hd, ?_, ?_, ?_, h.o1.up, hnew, by omega, by omega⟩, by rw [lg2_newR (by omega) hp], by rw [lg2_newR (by omega) hp]⟩
    · rw [hlk, if_neg (by omega)]; exact h.l0
    · rw [hlk, if_neg (by omega)]; exact h.l1
    · rw [hlk, if_pos (by omega)]; rfl
  · have e : lgTo (lg2 p q).1 = 0 := by unfold lgTo; rw [if_neg h0]
    rw [e] at hlk ⊢
    have hq : PgOK q n.toNat := by rw [show ((n.toNat : Nat) : Int) = n from by omega]; exact h.o2
    refine ⟨some (n.toNat, y), q, ⟨h.hp, h.hl, h.hf, h.hd, ?_, ?_, ?_, hnew, h.o2.up, by omega, by omega⟩, by rw [lg2_newL hq], by rw [lg2_newL hq]⟩
    · rw [hlk, if_neg (by omega)]; exact h.l0
    · rw [hlk, if_pos (by omega)]; rfl
    · rw [hlk, if_neg (by omega)]; exact h.l2
/-- THE OLD OR THE NEW. -/
theorem KI.torn {s : Fl} {n : Int} {p q : PV} {i m : Nat} (h : KI s n p q i) (hi : i ≤ 200) (hB : s.B m) {y : Rec} (hy : recC y = 0) (h64 : ∀ o ∈ y.l, o.1 < 2 ^ 64) (fu : Int) (hfu : fu = 0 ∨ fu = 1 ∨ fu = 2) (keep : List Int) (s2 : Fl) (hs2 : crashS (tfirmS (fuseS s fu) n (1 + lgTo (lg2 p q).1) 4 (recB y)) keep = s2) (hp2 : s2.pages = 3) :
    (tfirmC (fuseS s fu) n (1 + lgTo (lg2 p q).1) 4 (recB y) = 0 ∧ 0 ≤ (lgN s2 1 2).1 ∧ (lgN s2 1 2).2.1 = y) ∨
    (tfirmC (fuseS s fu) n (1 + lgTo (lg2 p q).1) 4 (recB y) = 11 ∧ ((lgN s2 1 2).1 = (lg2 p q).1 ∧ (lgN s2 1 2).2.1 = (lg2 p q).2.1 ∨ 0 ≤ (lgN s2 1 2).1 ∧ (lgN s2 1 2).2.1 = y)) := by
  have hn1 := h.n1
  have hn2 := h.n2
  have hto := lgTo_lt (lg2 p q).1
  have hlen := rec_len y h64 hy
  obtain ⟨k, hk, hC, hlk⟩ := firm_crash hB (n := n) (at_ := 1 + lgTo (lg2 p q).1) (kd := 4) (a := recB y) h.hd h.hl (by have := h.hp; omega) (by omega) (by decide) hlen fu hfu keep
  replace hC : tfirmC (fuseS s fu) n (1 + lgTo (lg2 p q).1) 4 (recB y) = 0 ∧ k = 256 ∨ tfirmC (fuseS s fu) n (1 + lgTo (lg2 p q).1) 4 (recB y) = 11 := hC
  replace hlk : ∀ j, lookB (crashS (tfirmS (fuseS s fu) n (1 + lgTo (lg2 p q).1) 4 (recB y)) keep) j = if j = 1 + lgTo (lg2 p q).1 then (putB n.toNat 4 (recB y)).take k ++ (lookB s (1 + lgTo (lg2 p q).1)).drop k else lookB s j := hlk
  have hdn : s2.down = false := by rw [← hs2]; rfl
  rw [hs2] at hlk
  have hlg := lgN_two hdn hp2
  generalize tfirmC (fuseS s fu) n (1 + lgTo (lg2 p q).1) 4 (recB y) = C at *
  have hnn : ((n.toNat : Nat) : Int) = n := by omega
  suffices hh : (lgN s2 1 2 = lg2 p q ∧ k ≠ 256) ∨ ∃ j, 0 ≤ j ∧ lgN s2 1 2 = (j, y, n.toNat) by
    rcases hC with ⟨hC, hk2⟩ | hC
    · left
      rcases hh with ⟨_, h⟩ | ⟨j, hj, h⟩
      · exact absurd hk2 h
      · rw [h]; exact ⟨hC, hj, rfl⟩
    · right
      rcases hh with ⟨h, _⟩ | ⟨j, hj, h⟩
      · rw [h]; exact ⟨hC, .inl ⟨rfl, rfl⟩⟩
      · rw [h]; exact ⟨hC, .inr ⟨hj, rfl⟩⟩
  by_cases h0 : (lg2 p q).1 = 0
  · have e : lgTo (lg2 p q).1 = 1 := by unfold lgTo; rw [if_pos h0]
    rw [e] at hlk
    have hp : PgOK p n.toNat := by rw [hnn]; exact h.o1
    have hq : PgOK q n.toNat := by rw [hnn]; exact h.o2
    have e1 : lookB s2 1 = pgB p := by rw [hlk, if_neg (by omega)]; exact h.l1
    have e2 : lookB s2 2 = (putB n.toNat 4 (recB y)).take k ++ (pgB q).drop k := by rw [hlk, if_pos (by omega), show (1 : Int) + 1 = 2 from rfl, h.l2]
    rw [hlg, e1, e2, pv_pg h.o1 (by omega)]
    rcases pv_torn hq (by omega) hy h64 hk with ⟨h, h'⟩ | ⟨h, h'⟩ | h
    · rw [h]; exact .inl ⟨rfl, h'⟩
    · rw [h]; exact .inl ⟨lg2_dropR h0, h'⟩
    · rw [h]; exact .inr ⟨1, by omega, lg2_newR (by omega) hp⟩
  · have e : lgTo (lg2 p q).1 = 0 := by unfold lgTo; rw [if_neg h0]
    rw [e] at hlk
    have hp : PgOK p n.toNat := by rw [hnn]; exact h.o1
    have hq : PgOK q n.toNat := by rw [hnn]; exact h.o2
    have e1 : lookB s2 1 = (putB n.toNat 4 (recB y)).take k ++ (pgB p).drop k := by rw [hlk, if_pos (by omega), show (1 : Int) + 0 = 1 from rfl, h.l1]
    have e2 : lookB s2 2 = pgB q := by rw [hlk, if_neg (by omega)]; exact h.l2
    rw [hlg, e1, e2, pv_pg h.o2 (by omega)]
    rcases pv_torn hp (by omega) hy h64 hk with ⟨h, h'⟩ | ⟨h, h'⟩ | h
    · rw [h]; exact .inl ⟨rfl, h'⟩
    · rw [h]; exact .inl ⟨lg2_dropL h0, h'⟩
    · rw [h]; exact .inr ⟨0, by omega, lg2_newL hq⟩
end Go.Proofs.YtlmahffjidgplaaGreatDoor
end

section
namespace Go.Proofs.YtlmahffjidgplaaGreatDoor
open Go Go.Av
set_option linter.unusedVariables false
set_option linter.unusedSimpArgs false
set_option maxRecDepth 100000
set_option maxHeartbeats 4000000
attribute [local go_sem] packed List.set_cons_zero List.set_cons_succ List.cons_append List.nil_append bytesRows_length cellRows_len chRows_len rCells intRows_len
attribute [-go_sem] cellsOf AV.isCell
attribute [local go_sem] cellsOf_agg cellsOf_int cellsOf_bool cellsOf_str cellsOf_map cellsOf_ptr cellsOf_nilI cellsOf_slice cellsOf_sl cellsOf_ifc cellsOf_fp cellsOf_opt optAV_cell icell_int icell_bool icell_str icell_map icell_ptr icell_nilI icell_slice icell_sl icell_ifc icell_fp

/-! ### The acts of a ledger -/
attribute [local go_sem] getBox_GL setBox_GL fresh_GL
structure Op17 where
  kind : Int
  x : Rec
  n : Int
  keep : List Int
def Op17.cells (o : Op17) : List AV := [.c (.int .i64 o.kind), .c (.int .i64 o.x.e), .c (.bool o.x.cl), .c (.int .i64 o.x.low), .sl 2 (flRows o.x.l), .c (.int .i64 o.n), .sl 1 (intRows o.keep)]
def ops17 (l : List Op17) : List (List AV) := l.map Op17.cells
theorem ops17_len (l : List Op17) : (ops17 l).length = l.length := by simp [ops17]
theorem ops17_get {l : List Op17} {i : Nat} {o : Op17} (h : l[i]? = some o) : (ops17 l)[i]? = some [.c (.int .i64 o.kind), .c (.int .i64 o.x.e), .c (.bool o.x.cl), .c (.int .i64 o.x.low), .sl 2 (flRows o.x.l), .c (.int .i64 o.n), .sl 1 (intRows o.keep)] := by simp [ops17, h, Op17.cells]
def lightOp17 (o : Op17) : Bool := decide (o.keep.length ≤ 60 ∧ o.x.l.length ≤ 100)
def light17 (l : List Op17) : Bool := decide (l.length ≤ 40) && l.all lightOp17
theorem light17_ok (l : List Op17) (hl : l.length < 2 ^ 40) (hll : ∀ o ∈ l, o.keep.length < 2 ^ 37 ∧ o.x.l.length < 2 ^ 37) : ACalls Tryz.prog 24 [.sl 7 (ops17 l)] [] (Ret (.c (.bool (light17 l)))) := by
  refine calls_of_J cl_24 Tryz.func24 rfl (by simp [Tryz.ntmps24]) ?_
  refine J_mrun (own := []) (m := 2000) (by simp (maxSteps := 2000000) (disch := omega) only [go_sem, ↓reduceIte, Int.reduceLT, Int.reduceLE, Int.reduceToNat, Int.reducePow, Int.reduceNeg, Nat.reduceBEq, Tryz.ntmps24, ops17_len] <;> with_reducible rfl) ?_
  refine jif (h1 := fun hc => ?_) (h2 := fun hc => ?_)
  · refine jr (own := []) (h := ?_)
    refine jret Tryz.func24 (h := ⟨by simp [light17, show ¬ l.length ≤ 40 by omega], rfl⟩)
  · refine jr (own := []) (h := ?_)
    refine jk [0, 3] (h := ?_)
    refine J_loopI (I := fun m e D => ∃ i : Nat, i ≤ l.length ∧ m = l.length - i ∧ D = [] ∧ (∀ j (h : j < l.length), j < i → lightOp17 l[j] = true) ∧ e = [(0, .sl 7 (ops17 l)), (3, .c (.int .i64 i))]) ?_ ?_
    · exact ⟨_, 0, by omega, rfl, rfl, fun j h hj => by omega, rfl⟩
    · rintro m e D ⟨i, hi, rfl, rfl, hz, rfl⟩ ih
      refine J_mrun (own := []) (m := 2000) (by simp (maxSteps := 2000000) (disch := omega) only [go_sem, ↓reduceIte, Int.reduceLT, Int.reduceLE, Int.reduceToNat, Int.reducePow, Int.reduceNeg, Nat.reduceBEq, Tryz.ntmps24, ops17_len] <;> with_reducible rfl) ?_
      refine jif (h1 := fun hcl => ?_) (h2 := fun hcl => ?_)
      · have hlt : i < l.length := by omega
        have g1 := ops17_get (List.getElem?_eq_getElem hlt)
        have h0 : (0 : Int) ≤ (i : Int) := by omega
        have hno : lightOp17 l[i] = false → light17 l = false := fun h => by
          unfold light17
          rw [List.all_eq_false.2 ⟨l[i], List.getElem_mem _, by simp [h]⟩, Bool.and_false]
        have hb := hll _ (List.getElem_mem hlt)
        have hdef : lightOp17 l[i] = decide (l[i].keep.length ≤ 60 ∧ l[i].x.l.length ≤ 100) := rfl
        have hfl := flRows_len l[i].x.l
        by_cases h1 : l[i].keep.length > 60
        · have d1 := decide_eq_true (show (l[i].keep.length : Int) > 60 by omega)
          refine J_mrun (own := []) (m := 2000) (by simp (maxSteps := 2000000) (disch := omega) only [go_sem, ↓reduceIte, Int.reduceLT, Int.reduceLE, Int.reduceToNat, Int.reducePow, Int.reduceNeg, Nat.reduceBEq, Tryz.ntmps24, g1, ops17_len, d1] <;> with_reducible rfl) ?_
          refine jt (h := ?_)
          refine jr (own := []) (h := ?_)
          refine jret Tryz.func24 (h := ⟨by rw [hno (by rw [hdef]; exact decide_eq_false (by omega))], rfl⟩)
        · have d1 := decide_eq_false (show ¬ (l[i].keep.length : Int) > 60 by omega)
          by_cases h2 : l[i].x.l.length > 100
          · have d2 := decide_eq_true (show (l[i].x.l.length : Int) > 100 by omega)
            refine J_mrun (own := []) (m := 2000) (by simp (maxSteps := 2000000) (disch := omega) only [go_sem, ↓reduceIte, Int.reduceLT, Int.reduceLE, Int.reduceToNat, Int.reducePow, Int.reduceNeg, Nat.reduceBEq, Tryz.ntmps24, g1, ops17_len, d1, d2, hfl] <;> with_reducible rfl) ?_
            refine jt (h := ?_)
            refine jr (own := []) (h := ?_)
            refine jret Tryz.func24 (h := ⟨by rw [hno (by rw [hdef]; exact decide_eq_false (by omega))], rfl⟩)
          · have d2 := decide_eq_false (show ¬ (l[i].x.l.length : Int) > 100 by omega)
            refine J_mrun (own := []) (m := 2000) (by simp (maxSteps := 2000000) (disch := omega) only [go_sem, ↓reduceIte, Int.reduceLT, Int.reduceLE, Int.reduceToNat, Int.reducePow, Int.reduceNeg, Nat.reduceBEq, Tryz.ntmps24, g1, ops17_len, d1, d2, hfl] <;> with_reducible rfl) ?_
            refine jn (h := ?_)
            refine jr (own := []) (h := ?_)
            refine jk [0, 3] (h := ?_)
            refine ih _ _ _ ?_ ⟨i + 1, by omega, rfl, rfl, ?_, rfl⟩
            · omega
            · intro j h hj
              by_cases hji : j = i
              · subst hji; rw [hdef]; exact decide_eq_true ⟨by omega, by omega⟩
              · exact hz j h (by omega)
      · have hi' : i = l.length := by omega
        subst hi'
        refine jr (own := []) (h := ?_)
        have : light17 l = true := by
          unfold light17
          rw [decide_eq_true (show l.length ≤ 40 by omega), Bool.true_and, List.all_eq_true]
          intro o ho
          obtain ⟨j, hj, rfl⟩ := List.getElem_of_mem ho
          exact hz j hj hj
        refine jret Tryz.func24 (h := ⟨by rw [this], rfl⟩)
theorem light17_len {l : List Op17} (h : light17 l = true) : l.length ≤ 40 := by
  unfold light17 at h
  simp only [Bool.and_eq_true, decide_eq_true_eq] at h
  exact h.1
theorem light17_each {l : List Op17} (h : light17 l = true) : ∀ o ∈ l, o.keep.length ≤ 60 ∧ o.x.l.length ≤ 100 := by
  unfold light17 at h
  simp only [Bool.and_eq_true, List.all_eq_true] at h
  intro o ho
  have := h.2 o ho
  unfold lightOp17 at this
  exact of_decide_eq_true this
/-- A ledger's world: a device, the stamp to come, which page is the newest one, and its record. -/
structure LS where
  s : Fl
  n : Int
  nw : Int
  x : Rec
def LS.put (a : LS) (y : Rec) : LS := if recC y ≠ 0 then a else
  ⟨tfirmS a.s a.n (1 + lgTo a.nw) 4 (recB y), tputN a.s a.n (1 + lgTo a.nw) 4 (recB y), if tfirmC a.s a.n (1 + lgTo a.nw) 4 (recB y) = 0 then lgTo a.nw else a.nw, if tfirmC a.s a.n (1 + lgTo a.nw) 4 (recB y) = 0 then y else a.x⟩
def LS.open (s : Fl) : LS := ⟨s, nextF s, (lgN s 1 2).1, (lgN s 1 2).2.1⟩
def LS.step (a : LS) (o : Op17) : LS := if o.kind = 0 then a.put o.x else if o.kind = 1 then { a with s := fuseS a.s o.n } else LS.open (crashS a.s o.keep)
attribute [local go_sem] lgAV tAV wAV lgCells
theorem do17_ok {t l f : Nat} {a : LS} {c : List (Int × List UInt8)} {m : Nat} {D : List HP} (hO : OwnF f a.s D) (hrel : Rel a.s c m) (hm : m < 536870000) (hn : 1 ≤ a.n ∧ a.n ≤ 1099511627777) (hp : a.s.pages = 3) (hlt : l ≠ t) (o : Op17) (hk : o.keep.length < 2 ^ 37) (h64 : ∀ p ∈ o.x.l, p.1 < 2 ^ 64) (hon : o.n < 9223372036854775808) :
    ACalls Tryz.prog 25 [wAV t l (wc a.s c) a.n 1 a.nw a.x, .agg o.cells] (GL :: ldg l t 1 a.nw a.x :: tbox t f a.n :: D)
    (fun r D' => ∃ t' l' c' D1, r = .ret (.tup [wAV t' l' (wc (a.step o).s c') (a.step o).n 1 (a.step o).nw (a.step o).x, .c (.bool true)]) ∧ Rel (a.step o).s c' (m + 2) ∧ OwnF f (a.step o).s D1 ∧ D' = GL :: ldg l' t' 1 (a.step o).nw (a.step o).x :: tbox t' f (a.step o).n :: D1) := by
  have hwf := hrel.b.wf (by omega)
  have hlo := hrel.len
  have hR := B_R hrel.rb (by omega)
  have hw' := hR.w
  have hl29 : (wc a.s c).loose.length < 2 ^ 29 := by show a.s.loose.length < 2 ^ 29; omega
  obtain ⟨s, n, nw, x⟩ := a
  obtain ⟨kd, ⟨e, cl, low, fl⟩, fn, keep⟩ := o
  simp only at *
  unfold Op17.cells
  refine calls_of_J cl_25 Tryz.func25 rfl (by simp [Tryz.ntmps25]) ?_
  refine jr (own := [4]) (h := ?_)
  refine jnv (hh := fun b4 hb4 => ?_)
  simp only [fresh, fresh_GL] at hb4
  refine jf (own := [6]) hb4 (h := ?_)
  refine jnv (hh := fun b6 hb6 => ?_)
  simp only [fresh, fresh_GL] at hb6
  refine jf (own := []) (a2 hb6 hb4) (h := ?_)
  refine jif (h1 := fun hk0 => ?_) (h2 := fun hk0 => ?_)
  · have hst : LS.step ⟨s, n, nw, x⟩ ⟨kd, ⟨e, cl, low, fl⟩, fn, keep⟩ = LS.put ⟨s, n, nw, x⟩ ⟨e, cl, low, fl⟩ := by unfold LS.step; rw [if_pos hk0]
    rw [hst]
    by_cases hx : recC ⟨e, cl, low, fl⟩ = 0
    rotate_left
    · have hst2 : LS.put ⟨s, n, nw, x⟩ ⟨e, cl, low, fl⟩ = ⟨s, n, nw, x⟩ := by unfold LS.put; rw [if_pos hx]
      rw [hst2]
      have hp := lsave17_err (wc s c) n 1 nw x ⟨e, cl, low, fl⟩ h64 hx
      have hq := lsave_err l t f n 1 nw x ⟨e, cl, low, fl⟩ D h64 hx
      generalize recC ⟨e, cl, low, fl⟩ = cc at *
      refine jr (own := []) (h := ?_)
      refine jc (hs := hp) (hk := ?_)
      refine jf (own := [7]) (a2 hb6 hb4) (h := ?_)
      refine jnv (hh := fun b7 hb7 => ?_)
      simp only [fresh, fresh_GL] at hb7
      refine jf (own := []) (a3 hb7 hb6 hb4) (h := ?_)
      refine J_freeze (s := 7) (o := 0) (by simp only [go_sem]) ?_
      refine J_freeze (s := 6) (o := 0) (by simp only [go_sem]) ?_
      simp only [List.drop_zero]
      refine jd [(0, .pure), (1, .pure), (2, .pure), (3, .pure), (4, .pure), (7, .pure), (5, .act), (6, .read), (8, .pure), (9, .act), (10, .pure)] mixed (by kernel_rfl) ?_
      refine cr (own := []) (hk := ?_)
      refine ccs (Fr := []) (hs := (hq.under2 _ GL)) (hp := (by rw [List.append_nil])) (hk := ?_) (hn := (by rintro x Δ' ⟨_, ⟨⟨e, h, _⟩, _⟩, _⟩; cases h))
      rintro z _ ⟨_, ⟨⟨er, h, he⟩, rfl⟩, rfl⟩
      cases h
      rw [List.append_nil]
      refine cr (own := []) (hk := ?_)
      refine ccr (hs := ((of_ok he).globKeep (by simp [GL]))) (hk := ?_)
      refine cq (own := []) True.intro (hk := ?_)
      refine Can_nil ?_
      refine J_forgetP ?_
      refine jret Tryz.func25 (h := ⟨[_], _, List.Perm.refl _, t, l, c, D, rfl, hrel.mono (by omega), hO, rfl⟩)
    · have hr1 := hrel.put n (1 + lgTo nw) 4 (recB ⟨e, cl, low, fl⟩)
      have hbl := rec_len ⟨e, cl, low, fl⟩ h64 hx
      have hfl : fl.length ≤ 12 := flC_len (rec_range hx).2
      have hp2 := lsave17_ok (wc s c) n 1 nw x ⟨e, cl, low, fl⟩ h64 hx (by omega) hw' hl29 (by omega) (by omega) (by rw [tputS_wc]; exact B_R hr1.rb (by omega))
      rw [firm_wc] at hp2
      have hN : tputN (wc s c) n (1 + lgTo nw) 4 (recB ⟨e, cl, low, fl⟩) = tputN s n (1 + lgTo nw) 4 (recB ⟨e, cl, low, fl⟩) := rfl
      have hC : tfirmC (wc s c) n (1 + lgTo nw) 4 (recB ⟨e, cl, low, fl⟩) = tfirmC s n (1 + lgTo nw) 4 (recB ⟨e, cl, low, fl⟩) := by
        unfold tfirmC; rw [tputS_wc]; rfl
      rw [hN, hC] at hp2
      have hq := lsave_ok l t f n 1 nw x ⟨e, cl, low, fl⟩ s D hO hwf (hr1.b.wf (by omega)) (by omega) (by omega) (by omega) h64 hx (by show fl.length < _; omega) hlt
      have hr2 := hrel.firm n (1 + lgTo nw) 4 (recB ⟨e, cl, low, fl⟩)
      have hst2 : LS.put ⟨s, n, nw, x⟩ ⟨e, cl, low, fl⟩ = ⟨tfirmS s n (1 + lgTo nw) 4 (recB ⟨e, cl, low, fl⟩), tputN s n (1 + lgTo nw) 4 (recB ⟨e, cl, low, fl⟩), if tfirmC s n (1 + lgTo nw) 4 (recB ⟨e, cl, low, fl⟩) = 0 then lgTo nw else nw, if tfirmC s n (1 + lgTo nw) 4 (recB ⟨e, cl, low, fl⟩) = 0 then ⟨e, cl, low, fl⟩ else x⟩ := by
        unfold LS.put; rw [if_neg (by simp [hx])]
      rw [hst2]
      simp only
      clear hN hC hr1 hst hst2 hbl
      generalize tfirmS s n (1 + lgTo nw) 4 (recB ⟨e, cl, low, fl⟩) = s2 at *
      generalize firmCC s c n (1 + lgTo nw) 4 (recB ⟨e, cl, low, fl⟩) = c2 at *
      generalize tputN s n (1 + lgTo nw) 4 (recB ⟨e, cl, low, fl⟩) = n2 at *
      generalize tfirmC s n (1 + lgTo nw) 4 (recB ⟨e, cl, low, fl⟩) = cc at *
      obtain ⟨nw2, hnw2⟩ : ∃ z, z = if cc = 0 then lgTo nw else nw := ⟨_, rfl⟩
      obtain ⟨x2, hx2⟩ : ∃ z, z = if cc = 0 then (⟨e, cl, low, fl⟩ : Rec) else x := ⟨_, rfl⟩
      have hL : (if cc = 0 then ldg l t 1 (lgTo nw) ⟨e, cl, low, fl⟩ else ldg l t 1 nw x) = ldg l t 1 nw2 x2 := by
        rw [hnw2, hx2]; split <;> rfl
      rw [hL] at hq
      rw [← hnw2, ← hx2] at hp2 ⊢
      refine jr (own := []) (h := ?_)
      refine jc (hs := hp2) (hk := ?_)
      refine jf (own := [7]) (a2 hb6 hb4) (h := ?_)
      refine jnv (hh := fun b7 hb7 => ?_)
      simp only [fresh, fresh_GL] at hb7
      refine jf (own := []) (a3 hb7 hb6 hb4) (h := ?_)
      refine J_freeze (s := 7) (o := 0) (by simp only [go_sem]) ?_
      refine J_freeze (s := 6) (o := 0) (by simp only [go_sem]) ?_
      simp only [List.drop_zero]
      refine jd [(0, .pure), (1, .pure), (2, .pure), (3, .pure), (4, .pure), (7, .pure), (5, .act), (6, .read), (8, .pure), (9, .act), (10, .pure)] mixed (by kernel_rfl) ?_
      refine cr (own := []) (hk := ?_)
      refine ccs (Fr := []) (hs := (hq.under2 _ GL)) (hp := (by rw [List.append_nil])) (hk := ?_) (hn := (by rintro x Δ' ⟨_, ⟨e, D1, h, _⟩, _⟩; cases h))
      rintro z _ ⟨_, ⟨er, D1, h, he, hO1, rfl⟩, rfl⟩
      cases h
      rw [List.append_nil]
      refine cr (own := []) (hk := ?_)
      refine ccr (hs := ((of_ok he).globKeep (by simp [GL]))) (hk := ?_)
      refine cq (own := []) True.intro (hk := ?_)
      refine Can_nil ?_
      refine J_forgetP ?_
      refine jret Tryz.func25 (h := ⟨[_], _, List.Perm.refl _, t, l, c2, D1, rfl, hr2, hO1, rfl⟩)
  · refine jr (own := []) (h := ?_)
    refine jif (h1 := fun hk1 => ?_) (h2 := fun hk1 => ?_)
    · have hst : LS.step ⟨s, n, nw, x⟩ ⟨kd, ⟨e, cl, low, fl⟩, fn, keep⟩ = ⟨fuseS s fn, n, nw, x⟩ := by unfold LS.step; rw [if_neg hk0, if_pos hk1]
      have hp2 := fuse04_ok (wc s c) fn
      rw [show fuseS (wc s c) fn = wc (fuseS s fn) c from rfl] at hp2
      have hq := fuse_ok hO fn
      have hr2 := (hrel.fuse hon).mono (Nat.le_add_right m 2)
      unfold rAV at hp2
      rw [hst]
      simp only
      generalize fuseS s fn = s2 at *
      refine jr (own := []) (h := ?_)
      refine jd [(0, .pure), (1, .pure), (2, .pure), (3, .pure), (4, .read), (5, .pure), (6, .pure), (7, .act)] mixed (by kernel_rfl) ?_
      refine cf (own := []) (a3 hb6 hb4 hlt) (hk := ?_)
      refine ccs (Fr := []) (hs := (hq.under5 _ _ GL _ _)) (hp := (by rw [List.append_nil])) (hk := ?_) (hn := (by rintro x Δ' ⟨_, ⟨h, _⟩, _⟩; cases h))
      rintro z _ ⟨D2, ⟨h, hO2⟩, rfl⟩
      cases h
      rw [List.append_nil]
      refine cr (own := []) (hk := ?_)
      refine Can_nil ?_
      refine jf (own := []) (a2 hb6 hb4) (h := ?_)
      refine jc (hs := hp2) (hk := ?_)
      refine jf (own := []) (a2 hb6 hb4) (h := ?_)
      refine J_forgetP ?_
      refine jretf (a2 hb6 hb4) Tryz.func25 (h := ⟨[_, _], _, List.Perm.refl _, t, l, c, D2, rfl, hr2, hO2, rfl⟩)
    · have hst : LS.step ⟨s, n, nw, x⟩ ⟨kd, ⟨e, cl, low, fl⟩, fn, keep⟩ = LS.open (crashS s keep) := by unfold LS.step; rw [if_neg hk0, if_neg hk1]
      have hp2 := crash04_ok (wc s c) hR keep hk
      rw [show crash04S (wc s c) keep = wc (crashS s keep) (settleKeepC c s.loose keep) from rfl] at hp2
      have hq := crash_ok hO hwf keep hk
      have hr2 := (hrel.crash keep).mono (Nat.le_add_right m 2)
      have hp3 : (crashS s keep).pages = 3 := hp
      have hd2 : (crashS s keep).down = false := rfl
      rw [hst]
      unfold LS.open
      simp only
      generalize crashS s keep = s2 at *
      generalize settleKeepC c s.loose keep = c2 at *
      have ho10 := open10_ok (wc s2 c2) hd2 (by show 0 ≤ s2.pages ∧ s2.pages ≤ 4096; omega) (B_R hr2.rb (by omega))
      rw [hr2.cells] at ho10
      have hnx : (cellsF s2).foldl stepN 1 = nextF s2 := rfl
      rw [hnx] at ho10
      unfold rAV at hp2 ho10
      refine jr (own := []) (h := ?_)
      refine jd [(0, .pure), (1, .pure), (2, .pure), (3, .pure), (4, .read), (5, .pure), (6, .pure), (7, .act)] mixed (by kernel_rfl) ?_
      refine cf (own := []) (a3 hb6 hb4 hlt) (hk := ?_)
      refine ccs (Fr := []) (hs := (hq.under5 _ _ GL _ _)) (hp := (by rw [List.append_nil])) (hk := ?_) (hn := (by rintro x Δ' ⟨_, ⟨h, _⟩, _⟩; cases h))
      rintro z _ ⟨D2, ⟨h, hO2⟩, rfl⟩
      cases h
      rw [List.append_nil]
      refine cr (own := []) (hk := ?_)
      refine Can_nil ?_
      refine jf (own := []) (a2 hb6 hb4) (h := ?_)
      refine jc (hs := hp2) (hk := ?_)
      refine jf (own := []) (a2 hb6 hb4) (h := ?_)
      refine jc (hs := ho10) (hk := ?_)
      refine jf (own := [9]) (a2 hb6 hb4) (h := ?_)
      refine jnv (hh := fun b9 hb9 => ?_)
      refine jr (own := []) (h := ?_)
      refine J_freeze (s := 9) (o := 0) (by simp only [go_sem]) ?_
      simp only [List.drop_zero]
      have hw := wopen_ok f (nextF s2) s2 c2 (m + 2) D2 hO2 hr2 (by omega) hd2 hp3
      generalize (lgN s2 1 2).1 = nw2 at *
      generalize (lgN s2 1 2).2.1 = x2 at *
      generalize nextF s2 = n2 at *
      refine jd [(0, .pure), (1, .pure), (2, .pure), (3, .pure), (4, .read), (5, .pure), (6, .act), (7, .pure), (8, .pure), (9, .act), (10, .pure)] mixed (by kernel_rfl) ?_
      refine cf (own := []) (a3 hb6 hb4 hlt) (hk := ?_)
      refine ccs (Fr := []) (hs := (hw.swapGL _ _ GL _ _)) (hp := (by rw [List.append_nil])) (hk := ?_) (hn := (by rintro x Δ' ⟨_, ⟨t, l, h, _⟩, _⟩; cases h))
      rintro z _ ⟨_, ⟨t2, l2, h, rfl⟩, rfl⟩
      cases h
      rw [List.append_nil]
      refine cf (own := []) (a2 hb6 hb4) (hk := ?_)
      refine Can_nil ?_
      refine J_forgetP ?_
      refine jretf (a2 hb6 hb4) Tryz.func25 (h := ⟨[_, _, _, _], _, (List.perm_middle (l₁ := [_, _])).append_left [_, _, _, _], t2, l2, c2, D2, rfl, hr2, hO2, rfl⟩)
end Go.Proofs.YtlmahffjidgplaaGreatDoor
end

section
namespace Go.Proofs.YtlmahffjidgplaaGreatDoor
open Go Go.Av
set_option linter.unusedVariables false
set_option linter.unusedSimpArgs false
set_option maxRecDepth 100000
set_option maxHeartbeats 4000000
attribute [local go_sem] packed List.set_cons_zero List.set_cons_succ List.cons_append List.nil_append bytesRows_length cellRows_len chRows_len rCells intRows_len
attribute [-go_sem] cellsOf AV.isCell
attribute [local go_sem] cellsOf_agg cellsOf_int cellsOf_bool cellsOf_str cellsOf_map cellsOf_ptr cellsOf_nilI cellsOf_slice cellsOf_sl cellsOf_ifc cellsOf_fp cellsOf_opt optAV_cell icell_int icell_bool icell_str icell_map icell_ptr icell_nilI icell_slice icell_sl icell_ifc icell_fp

/-! ### Acts without a fuse; LedgerFloors -/
attribute [local go_sem] getBox_GL setBox_GL fresh_GL
def KL (a : LS) (i : Nat) : Prop := ∃ p q, KI a.s a.n p q i ∧ a.nw = (lg2 p q).1 ∧ a.x = (lg2 p q).2.1
theorem KL.n {a : LS} {i : Nat} (h : KL a i) : 1 ≤ a.n ∧ a.n ≤ i + 1 := by
  obtain ⟨p, q, h, -, -⟩ := h
  exact ⟨h.n1, h.n2⟩
theorem KL.save {a : LS} {i m : Nat} (h : KL a i) (hi : i ≤ 200) (hB : a.s.B m) {y : Rec} (hy : recC y = 0) (h64 : ∀ o ∈ y.l, o.1 < 2 ^ 64) :
    tfirmC a.s a.n (1 + lgTo a.nw) 4 (recB y) = 0 ∧ tputN a.s a.n (1 + lgTo a.nw) 4 (recB y) = a.n + 1 ∧ a.put y = ⟨tfirmS a.s a.n (1 + lgTo a.nw) 4 (recB y), a.n + 1, lgTo a.nw, y⟩ ∧ KL (a.put y) (i + 1) := by
  obtain ⟨p, q, h, h1, h2⟩ := h
  obtain ⟨q1, q2, p', q', hk, e1, e2⟩ := h.save hi hB hy h64
  rw [← h1] at q1 q2 hk e1
  have e : a.put y = ⟨tfirmS a.s a.n (1 + lgTo a.nw) 4 (recB y), a.n + 1, lgTo a.nw, y⟩ := by
    unfold LS.put; rw [if_neg (by simp [hy]), if_pos q1, if_pos q1, q2]
  exact ⟨q1, q2, e, by rw [e]; exact ⟨p', q', hk, e1.symm, e2.symm⟩⟩
theorem KL.mono {a : LS} {i j : Nat} (h : KL a i) (hij : i ≤ j) : KL a j := by
  obtain ⟨p, q, h, h1, h2⟩ := h
  exact ⟨p, q, h.mono hij, h1, h2⟩
theorem KL.crash {a : LS} {i m : Nat} (h : KL a i) (hi : i ≤ 200) (hB : a.s.B m) (keep : List Int) : KL (LS.open (crashS a.s keep)) i := by
  obtain ⟨p, q, h, h1, h2⟩ := h
  have hk := h.crash hi hB keep
  refine ⟨p, q, hk, ?_, ?_⟩
  · show (lgN _ 1 2).1 = _; rw [hk.lg hi]
  · show (lgN _ 1 2).2.1 = _; rw [hk.lg hi]
theorem KL.step {a : LS} {i m : Nat} (h : KL a i) (hi : i ≤ 200) (hB : a.s.B m) (o : Op17) (ho : o.kind ≠ 1) (h64 : ∀ p ∈ o.x.l, p.1 < 2 ^ 64) : KL (a.step o) (i + 1) := by
  unfold LS.step
  by_cases h0 : o.kind = 0
  · rw [if_pos h0]
    by_cases hx : recC o.x = 0
    · exact (h.save hi hB hx h64).2.2.2
    · unfold LS.put; rw [if_pos hx]; exact h.mono (Nat.le_succ i)
  · rw [if_neg h0, if_neg ho]
    exact (h.crash hi hB o.keep).mono (Nat.le_succ i)
theorem KL.new : KL ⟨newFl 3, 1, -1, zRec⟩ 0 := ⟨none, none, KI.new, rfl, rfl⟩
theorem lsaveK {a : LS} {i m : Nat} (hK : KL a i) (hi : i ≤ 200) (hB : a.s.B m) (hm : m < 536870000) {l t f : Nat} {D : List HP} (hO : OwnF f a.s D) (hlt : l ≠ t) {y : Rec} (hy : recC y = 0) (h64 : ∀ o ∈ y.l, o.1 < 2 ^ 64) :
    ACalls Tryz.prog 22 [ptr l, recAV y] (ldg l t 1 a.nw a.x :: tbox t f a.n :: D)
      (fun r D' => ∃ D1, r = .ret (.c .nilIface) ∧ OwnF f (a.put y).s D1 ∧ D' = ldg l t 1 (a.put y).nw (a.put y).x :: tbox t f (a.put y).n :: D1) := by
  obtain ⟨q1, q2, e, -⟩ := hK.save hi hB hy h64
  have hn := hK.n
  have hbl := rec_len y h64 hy
  have hfl : y.l.length ≤ 12 := flC_len (rec_range hy).2
  have h := lsave_ok l t f a.n 1 a.nw a.x y a.s D hO (hB.wf (by omega)) ((tputS_B hB _ _ _ _).wf (by omega)) (by omega) (by omega) (by omega) h64 hy (by omega) hlt
  rw [q1, q2, if_pos rfl] at h
  rw [e]
  refine h.mono fun r D' h => ?_
  obtain ⟨er, D1, hr, he, hO1, hD⟩ := h
  obtain rfl := iserr_zero he
  exact ⟨D1, hr, hO1, hD⟩
theorem lgTo_pos (x : Int) : decide (0 ≤ lgTo x) = true := decide_eq_true (lgTo_lt x).1
attribute [local go_sem] lgAV tAV wAV lgCells
theorem floors17_ok (low : Int) (l : FL) (ep : Int) (cl : Bool) (hl : l.length < 2 ^ 40) (h64 : ∀ p ∈ l, p.1 < 2 ^ 64) : ACalls Tryz.prog 4 [flAV low l, .c (.int .i64 ep), .c (.bool cl)] [GL] (Ret (.c (.bool true))) := by
  have hck := check16_ok low l
  refine calls_of_J cl_4 Tryz.func4 rfl (by simp [Tryz.ntmps4]) ?_
  by_cases hC : flC low l = 0
  rotate_left
  · have hd1 := decide_eq_true (show flC low l ≠ 0 from hC)
    refine jr (own := []) (h := ?_)
    refine jc (hs := hck) (hk := ?_)
    refine jf (own := []) hd1 (h := ?_)
    refine jt (h := ?_)
    refine jr (own := []) (h := ?_)
    refine jcg (hin := by simp [GL]) (hs := works17_ok) (hk := ?_)
    refine jr (own := []) (h := ?_)
    refine J_forget ?_
    refine jret Tryz.func4 (h := ⟨rfl, rfl⟩)
  have hd1 := decide_eq_false (show ¬ flC low l ≠ 0 from fun h => h hC)
  by_cases h1 : ep < 1
  · have hd2 := decide_eq_true h1
    refine jr (own := []) (h := ?_)
    refine jc (hs := hck) (hk := ?_)
    refine jf (own := []) (a2 hd1 hd2) (h := ?_)
    refine jt (h := ?_)
    refine jr (own := []) (h := ?_)
    refine jcg (hin := by simp [GL]) (hs := works17_ok) (hk := ?_)
    refine jr (own := []) (h := ?_)
    refine J_forget ?_
    refine jret Tryz.func4 (h := ⟨rfl, rfl⟩)
  have hd2 := decide_eq_false h1
  by_cases h2 : ep > 1099511627776
  · have hd3 : decide ((1099511627776 : Int) < ep) = true := decide_eq_true h2
    refine jr (own := []) (h := ?_)
    refine jc (hs := hck) (hk := ?_)
    refine jf (own := []) (a3 hd1 hd2 hd3) (h := ?_)
    refine jt (h := ?_)
    refine jr (own := []) (h := ?_)
    refine jcg (hin := by simp [GL]) (hs := works17_ok) (hk := ?_)
    refine jr (own := []) (h := ?_)
    refine J_forget ?_
    refine jret Tryz.func4 (h := ⟨rfl, rfl⟩)
  have hd3 : decide ((1099511627776 : Int) < ep) = false := decide_eq_false h2
  have hy : recC ⟨ep, cl, low, l⟩ = 0 := by unfold recC; rw [if_neg (by simp only; omega)]; exact hC
  have hfl : l.length ≤ 12 := flC_len hC
  have hB0 := newFl_B (p := 3) (by decide) (by decide)
  have hsm := recsame17_ok ⟨ep, cl, low, l⟩ ⟨ep, cl, low, l⟩ (by show l.length < _; omega)
  rw [decide_eq_true rfl] at hsm
  have hq1 := fun (lg t f : Nat) (D : List HP) (hO : OwnF f (newFl 3) D) (hlt : lg ≠ t) => lsaveK KL.new (by decide) hB0 (by decide) hO hlt hy h64
  obtain ⟨-, -, e1, hK1⟩ := KL.new.save (by decide) hB0 hy h64
  have hB1 : (LS.put ⟨newFl 3, 1, -1, zRec⟩ ⟨ep, cl, low, l⟩).s.B 2 := by rw [e1]; exact tfirmS_B hB0 _ _ _ _
  generalize LS.put ⟨newFl 3, 1, -1, zRec⟩ ⟨ep, cl, low, l⟩ = a1 at *
  clear e1
  have hq2 := fun (lg t f : Nat) (D : List HP) (hO : OwnF f a1.s D) (hlt : lg ≠ t) => lsaveK hK1 (by decide) hB1 (by decide) hO hlt hy h64
  obtain ⟨-, -, e2, hK2⟩ := hK1.save (by decide) hB1 hy h64
  have hpo : decide (0 ≤ (a1.put ⟨ep, cl, low, l⟩).nw) = true := by rw [e2]; exact lgTo_pos _
  have hxx : (a1.put ⟨ep, cl, low, l⟩).x = ⟨ep, cl, low, l⟩ := by rw [e2]
  generalize a1.put ⟨ep, cl, low, l⟩ = a2 at *
  clear e2
  obtain ⟨s1, n1, w1, x1⟩ := a1
  obtain ⟨s2, n2, w2, x2⟩ := a2
  simp only at *
  subst hxx
  refine jr (own := []) (h := ?_)
  refine jc (hs := hck) (hk := ?_)
  refine jf (own := []) (a3 hd1 hd2 hd3) (h := ?_)
  refine jn (h := ?_)
  refine jr (own := []) (h := ?_)
  refine jcs (Δ1 := [GL]) (Fr := []) (hs := begin_ok) (hp := (List.Perm.refl _)) (hk := ?_) (hpan := (by rintro x Δ' ⟨f, t, l, D, e, _⟩; cases e))
  rintro x _ ⟨f, t, lg, D, e, hOw, rfl⟩
  cases e
  simp only [List.cons_append, List.append_nil]
  refine J_ne2 (fun hlt htl => ?_)
  refine jr (own := [7]) (h := ?_)
  refine jnv (hh := fun b7 hb7 => ?_)
  refine jr (own := []) (h := ?_)
  refine J_freeze (s := 7) (o := 0) (by simp only [go_sem]) ?_
  simp only [List.drop_zero]
  refine jn (h := ?_)
  refine jr (own := [9]) (h := ?_)
  refine jnv (hh := fun b9 hb9 => ?_)
  refine jr (own := []) (h := ?_)
  refine J_freeze (s := 9) (o := 0) (by simp only [go_sem]) ?_
  simp only [List.drop_zero]
  refine jcs (Δ1 := ldg lg t 1 (-1) zRec :: tbox t f 1 :: D) (Fr := [GL]) (hs := (hq1 lg t f D hOw hlt)) (hp := (.cons _ (.cons _ (List.perm_append_comm (l₁ := [_]))))) (hk := ?_) (hpan := (by rintro x Δ' ⟨D1, h, _⟩; cases h))
  rintro x _ ⟨D1, h, hO1, rfl⟩
  cases h
  refine J_perm (Δ' := ldg lg t 1 w1 x1 :: tbox t f n1 :: GL :: D1) (.cons _ (.cons _ (List.perm_append_comm (l₂ := [_])))) ?_
  refine jr (own := []) (h := ?_)
  refine jcs (Δ1 := ldg lg t 1 w1 x1 :: tbox t f n1 :: D1) (Fr := [GL]) (hs := (hq2 lg t f D1 hO1 hlt)) (hp := (.cons _ (.cons _ (List.perm_append_comm (l₁ := [_]))))) (hk := ?_) (hpan := (by rintro x Δ' ⟨D1, h, _⟩; cases h))
  rintro x _ ⟨D2, h, hO2, rfl⟩
  cases h
  refine J_perm (Δ' := ldg lg t 1 w2 ⟨ep, cl, low, l⟩ :: tbox t f n2 :: GL :: D2) (.cons _ (.cons _ (List.perm_append_comm (l₂ := [_])))) ?_
  refine jr (own := []) (h := ?_)
  refine jn (h := ?_)
  refine jr (own := []) (h := ?_)
  refine jcs (Δ1 := [_]) (Fr := _ :: GL :: D2) (hs := (last_ok lg t 1 w2 ⟨ep, cl, low, l⟩ (by show l.length < _; omega))) (hp := (List.Perm.refl _)) (hk := ?_) (hpan := (by rintro x Δ' ⟨e, _⟩; cases e))
  rintro x _ ⟨e, rfl⟩
  cases e
  rw [hpo]
  simp only [List.cons_append, List.nil_append]
  refine jr (own := [10]) (h := ?_)
  refine jnv (hh := fun b10 hb10 => ?_)
  refine jr (own := []) (h := ?_)
  refine J_freeze (s := 10) (o := 0) (by simp only [go_sem]) ?_
  simp only [List.drop_zero]
  refine jr (own := []) (h := ?_)
  refine jc (hs := hsm) (hk := ?_)
  refine jr (own := []) (h := ?_)
  refine jcg (hin := by simp [GL]) (hs := works17_ok) (hk := ?_)
  refine jr (own := []) (h := ?_)
  refine J_forget ?_
  refine jret Tryz.func4 (h := ⟨rfl, rfl⟩)
end Go.Proofs.YtlmahffjidgplaaGreatDoor
end
