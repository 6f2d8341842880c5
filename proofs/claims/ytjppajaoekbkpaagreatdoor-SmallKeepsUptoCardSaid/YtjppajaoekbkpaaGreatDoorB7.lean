/- A part of the proof: what the calls do, told by values. -/
import Derived.Test.YtjppajaoekbkpaaGreatDoorB6
import Derived.Test.YtjppajaoekbkpaaGreatDoorA8
set_option linter.unusedVariables false
set_option linter.unusedSimpArgs false
set_option maxRecDepth 100000
set_option maxHeartbeats 4000000
namespace Go.Proofs.YtjppajaoekbkpaaGreatDoor
open Go Go.Av
attribute [local go_sem] packed List.set_cons_zero List.set_cons_succ List.cons_append List.nil_append bytesRows_length cellRows_len chRows_len rCells intRows_len
attribute [-go_sem] cellsOf AV.isCell
attribute [local go_sem] cellsOf_agg cellsOf_int cellsOf_bool cellsOf_str cellsOf_map cellsOf_ptr cellsOf_nilI cellsOf_slice cellsOf_sl cellsOf_ifc cellsOf_fp cellsOf_opt optAV_cell icell_int icell_bool icell_str icell_map icell_ptr icell_nilI icell_slice icell_sl icell_ifc icell_fp
attribute [local go_sem] Entry.av Entry.cells rowsBytes_bytesRows Option.map_some
section
theorem scanN_adv (b : List UInt8) (at_ most : Nat) : ∀ (k p n : Nat), (scanN b at_ most k p n).1 = 0 → p < (scanN b at_ most k p n).2.1
 | 0, p, n, h => by simp [scanN] at h
 | k + 1, p, n, h => by
   simp only [scanN] at h ⊢
   split
   · rename_i h1; rw [if_pos h1] at h; simp at h
   · rename_i h1; rw [if_neg h1] at h
     split
     · rename_i h2; rw [if_pos h2] at h; simp at h
     · rename_i h2; rw [if_neg h2] at h
       split
       · rename_i h3; rw [if_pos h3] at h
         have := scanN_adv b at_ most k _ _ h
         omega
       · rename_i h3; rw [if_neg h3] at h
         split
         · rename_i h4; rw [if_pos h4] at h; simp at h
         · simp
theorem numR_ok0 {b : List UInt8} {at_ : Nat} {c : Int} {most : Nat} (h : (numR b at_ c most).1 = 0) : c = 0 ∧ at_ < (numR b at_ c most).2.1 := by
 unfold numR at h ⊢
 by_cases hc : c ≠ 0
 · rw [if_pos hc] at h; exact absurd h hc
 · rw [if_neg hc] at h ⊢
   exact ⟨Classical.not_not.1 hc, scanN_adv _ _ _ _ _ _ h⟩
theorem txtR_ok0 {b : List UInt8} {at_ : Nat} {c : Int} {most : Nat} (h : (txtR b at_ c most).1 = 0) : c = 0 ∧ at_ < (txtR b at_ c most).2.1 := by
 unfold txtR at h ⊢
 by_cases h1 : (numR b at_ c most).1 ≠ 0
 · rw [if_pos h1] at h; exact absurd h h1
 · rw [if_neg h1] at h ⊢
   obtain ⟨k1, k2⟩ := numR_ok0 (Classical.not_not.1 h1)
   split
   · rename_i h2; rw [if_pos h2] at h; simp at h
   · exact ⟨k1, by simp only; omega⟩
theorem fC_zero {b : List UInt8} {at_ : Nat} {c : Int} (hc : fC b at_ c = 0) : at_ < (fW b at_ c).2.1 ∧ EntW (fX b at_ c) ∧ c = 0 := by
 unfold fC at hc
 by_cases hw : (fW b at_ c).1 = 0
 · rw [if_pos hw] at hc
   obtain ⟨e1, p1⟩ := txtR_ok0 (show (txtR b (fE b at_ c).2.1 (fE b at_ c).1 4096).1 = 0 from hw)
   obtain ⟨e2, p2⟩ := numR_ok0 (show (numR b (fA b at_ c).2.1 (fA b at_ c).1 1099511627776).1 = 0 from e1)
   obtain ⟨e3, p3⟩ := numR_ok0 (show (numR b (fV b at_ c).2.1 (fV b at_ c).1 1099511627776).1 = 0 from e2)
   obtain ⟨e4, p4⟩ := numR_ok0 (show (numR b (fK b at_ c).2.1 (fK b at_ c).1 1099511627776).1 = 0 from e3)
   obtain ⟨e5, p5⟩ := txtR_ok0 (show (txtR b at_ c 40).1 = 0 from e4)
   refine ⟨?_, (entW_iff _).1 hc, e5⟩
   have q1 : (fE b at_ c).2.1 < (fW b at_ c).2.1 := p1
   have q2 : (fA b at_ c).2.1 < (fE b at_ c).2.1 := p2
   have q3 : (fV b at_ c).2.1 < (fA b at_ c).2.1 := p3
   have q4 : (fK b at_ c).2.1 < (fV b at_ c).2.1 := p4
   have q5 : at_ < (fK b at_ c).2.1 := p5
   omega
 · rw [if_neg hw] at hc; exact absurd hc hw
theorem txt_back {most at_ : Nat} {t pre rest b : List UInt8} (hpre : pre.length = at_) (ht : t.length ≤ most) (hb : b = pre ++ (numB t.length ++ (t ++ rest))) : txtR b at_ 0 most = (0, at_ + (numB t.length).length + t.length, t) := by
 have hn := numR_num (most := most) hpre ht hb
 unfold txtR
 rw [hn]
 simp only [ne_eq, not_true_eq_false, if_false]
 have hl : b.length = at_ + ((numB t.length).length + (t.length + rest.length)) := by rw [hb, ← hpre]; simp only [List.length_append]
 rw [if_neg (by omega)]
 have hd : b.drop (at_ + (numB t.length).length) = t ++ rest := by
   rw [hb, ← List.append_assoc, List.drop_left' (by rw [List.length_append, hpre])]
 rw [hd, List.take_left' rfl]
theorem from_back {x : Entry} {at_ : Nat} {pre rest b : List UInt8} (h : EntW x) (hpre : pre.length = at_) (hb : b = pre ++ (entB x ++ rest)) :
   fC b at_ 0 = 0 ∧ (fW b at_ 0).2.1 = at_ + (entB x).length ∧ fX b at_ 0 = x := by
 have q1 := h.v1; have q2 := h.a1; have q3 := h.a2'; have q4 := h.e1; have q5 := h.e2
 have hk : fK b at_ 0 = (0, at_ + (numB x.key.length).length + x.key.length, x.key) := by
   refine txt_back (rest := numsB [x.ver.toNat, x.asof.toNat, x.ends.toNat] ++ (numB x.val.length ++ x.val) ++ rest) hpre h.k2 ?_
   rw [hb]; unfold entB; simp only [List.append_assoc]
 have hv : fV b at_ 0 = (0, at_ + (numB x.key.length).length + x.key.length + (numB x.ver.toNat).length, x.ver.toNat) := by
   unfold fV; rw [hk]
   refine numR_num (pre := pre ++ numB x.key.length ++ x.key) (rest := numB x.asof.toNat ++ (numB x.ends.toNat ++ ((numB x.val.length ++ x.val) ++ rest))) (by simp only [List.length_append, hpre]) (by omega) ?_
   rw [hb]; unfold entB numsB; simp only [List.append_assoc, List.flatMap_cons, List.flatMap_nil, List.nil_append]
 have ha : fA b at_ 0 = (0, at_ + (numB x.key.length).length + x.key.length + (numB x.ver.toNat).length + (numB x.asof.toNat).length, x.asof.toNat) := by
   unfold fA; rw [hv]
   refine numR_num (pre := pre ++ numB x.key.length ++ x.key ++ numB x.ver.toNat) (rest := numB x.ends.toNat ++ ((numB x.val.length ++ x.val) ++ rest)) (by simp only [List.length_append, hpre]) (by omega) ?_
   rw [hb]; unfold entB numsB; simp only [List.append_assoc, List.flatMap_cons, List.flatMap_nil, List.nil_append]
 have he : fE b at_ 0 = (0, at_ + (numB x.key.length).length + x.key.length + (numB x.ver.toNat).length + (numB x.asof.toNat).length + (numB x.ends.toNat).length, x.ends.toNat) := by
   unfold fE; rw [ha]
   refine numR_num (pre := pre ++ numB x.key.length ++ x.key ++ numB x.ver.toNat ++ numB x.asof.toNat) (rest := (numB x.val.length ++ x.val) ++ rest) (by simp only [List.length_append, hpre]) (by omega) ?_
   rw [hb]; unfold entB numsB; simp only [List.append_assoc, List.flatMap_cons, List.flatMap_nil, List.nil_append]
 have hw : fW b at_ 0 = (0, at_ + (numB x.key.length).length + x.key.length + (numB x.ver.toNat).length + (numB x.asof.toNat).length + (numB x.ends.toNat).length + (numB x.val.length).length + x.val.length, x.val) := by
   unfold fW; rw [he]
   refine txt_back (pre := pre ++ numB x.key.length ++ x.key ++ numB x.ver.toNat ++ numB x.asof.toNat ++ numB x.ends.toNat) (rest := rest) (by simp only [List.length_append, hpre]) h.b ?_
   rw [hb]; unfold entB numsB; simp only [List.append_assoc, List.flatMap_cons, List.flatMap_nil, List.nil_append]
 have hx : fX b at_ 0 = x := by
   unfold fX; rw [hk, hv, ha, he, hw]
   simp only [Int.toNat_of_nonneg (show 0 ≤ x.ver by omega), Int.toNat_of_nonneg (show 0 ≤ x.asof by omega), Int.toNat_of_nonneg (show 0 ≤ x.ends by omega)]
 refine ⟨by unfold fC; rw [hw, hx, if_pos rfl]; exact (entW_iff x).2 h, ?_, hx⟩
 rw [hw]
 unfold entB numsB
 simp only [List.length_append, List.flatMap_cons, List.flatMap_nil, List.length_nil]
 omega
def readA (b : List UInt8) : Nat → Nat → List Entry → Int × List Entry
 | 0, _, acc => (0, acc)
 | k + 1, at_, acc => if b.length ≤ at_ then (0, acc) else if fC b at_ 0 ≠ 0 then (fC b at_ 0, []) else readA b k (fW b at_ 0).2.1 (acc ++ [fX b at_ 0])
def readE (b : List UInt8) : Int × List Entry := readA b (b.length + 1) 0 []
theorem readA_spec (b : List UInt8) : ∀ (k at_ : Nat) (acc : List Entry), (∀ x ∈ acc, EntW x) → acc.length ≤ at_ → at_ ≤ b.length → (∀ x ∈ (readA b k at_ acc).2, EntW x) ∧ (readA b k at_ acc).2.length ≤ b.length
 | 0, at_, acc, h, h1, h2 => ⟨h, by show acc.length ≤ _; omega⟩
 | k + 1, at_, acc, h, h1, h2 => by
   unfold readA
   by_cases h3 : b.length ≤ at_
   · rw [if_pos h3]; exact ⟨h, by show acc.length ≤ _; omega⟩
   · rw [if_neg h3]
     by_cases h4 : fC b at_ 0 ≠ 0
     · rw [if_pos h4]; exact ⟨by simp, Nat.zero_le _⟩
     · rw [if_neg h4]
       obtain ⟨k1, k2, -⟩ := fC_zero (Classical.not_not.1 h4)
       refine readA_spec b k _ _ (fun x hx => ?_) (by rw [List.length_append, List.length_singleton]; omega) (fW_at 0 (by omega))
       rcases List.mem_append.1 hx with hx | hx
       · exact h x hx
       · rw [List.mem_singleton.1 hx]; exact k2
theorem readE_w (b : List UInt8) : (∀ x ∈ (readE b).2, EntW x) ∧ (readE b).2.length ≤ b.length := readA_spec b _ _ _ (by simp) (Nat.le_refl _) (Nat.zero_le _)
theorem readA_back : ∀ (l : List Entry) (b pre : List UInt8) (k at_ : Nat) (acc : List Entry), (∀ x ∈ l, EntW x) → pre.length = at_ → b = pre ++ allB l → l.length < k → readA b k at_ acc = (0, acc ++ l)
 | [], b, pre, k + 1, at_, acc, _, hp, hb, _ => by
   unfold readA
   rw [if_pos (by rw [hb, ← hp]; simp [allB])]; simp
 | x :: l, b, pre, k + 1, at_, acc, h, hp, hb, hk => by
   have hb2 : b = pre ++ (entB x ++ allB l) := by rw [hb]; simp [allB]
   obtain ⟨e1, e2, e3⟩ := from_back (h x (by simp)) hp hb2
   have hpos : 0 < (entB x).length := by
     have := (h x (by simp)).k1
     unfold entB; simp only [List.length_append]; omega
   unfold readA
   rw [if_neg (by rw [hb2, ← hp]; simp only [List.length_append]; omega), e1, if_neg (by simp), e2, e3]
   have := readA_back l b (pre ++ entB x) k (at_ + (entB x).length) (acc ++ [x]) (fun y hy => h y (by simp [hy])) (by rw [List.length_append, hp]) (by rw [hb2, List.append_assoc]) (by simp at hk; omega)
   rw [this]; simp
theorem readE_back {l : List Entry} (h : ∀ x ∈ l, EntW x) : readE (allB l) = (0, l) := by
 unfold readE
 have hl : l.length ≤ (allB l).length := by
   clear h
   induction l with
   | nil => exact Nat.zero_le _
   | cons x l ih =>
     have e : allB (x :: l) = entB x ++ allB l := by simp [allB]
     have hpos : 1 ≤ (entB x).length := by
       unfold entB numB; simp only [List.length_append, List.length_singleton]; omega
     rw [e, List.length_append, List.length_cons]; omega
 have := readA_back l (allB l) [] ((allB l).length + 1) 0 [] h rfl rfl (by omega)
 rw [this, List.nil_append]
theorem iread_ok (b : List UInt8) (hb : b.length < 2 ^ 30) : ACalls Tryz.prog 192 [.sl 1 (bytesRows b)] [GL] (fun r Δ => (∃ e, r = .ret (.tup [.sl 5 (ents (readE b).2), e]) ∧ IsErr e (readE b).1) ∧ Δ = [GL]) := by
 have hlast := (readE_w b).2
 refine jen cl_192 Tryz.func192 (h := ?_)
 refine jr (h := ?_)
 refine jcs (Δ1 := []) (Fr := [GL]) (hs := (read_ok b (by omega))) (hp := (List.Perm.refl _)) (hk := ?_) (hpan := (by rintro x Δ' ⟨a, h, _⟩; cases h))
 rintro x _ ⟨a, h, rfl⟩
 cases h
 simp only [List.cons_append, List.nil_append]
 refine jr (h := ?_)
 refine jk [4, 5] (h := ?_)
 refine J_loopI (I := fun m e D => ∃ (k at_ : Nat) (acc : List Entry) (v : Value) (Dv : List HP), at_ ≤ b.length ∧ readE b = readA b k at_ acc ∧ b.length < k + at_ ∧ m = k ∧ acc.length ≤ at_ ∧ Own 78 5 (ents acc).flatten (ents acc).length v Dv ∧ D = rdr a b (at_ : Int) 0 :: GL :: Dv ∧ e = [(4, .c (.pointer (some ⟨a, 0, none⟩))), (5, .c v)]) ?_ ?_
 · exact ⟨_, b.length + 1, 0, [], _, [], Nat.zero_le _, rfl, by omega, rfl, Nat.zero_le _, .nil none (by simp [ents]) (by simp [ents]), rfl, rfl⟩
 · rintro m e D ⟨k, at_, acc, v, Dv, hat, hre, hk, rfl, hacc, how, rfl, rfl⟩ ih
   refine jr (h := ?_)
   refine jcs (Δ1 := [_]) (Fr := GL :: Dv) (hs := (rcode_ok a b at_ 0)) (hp := (List.Perm.refl _)) (hk := ?_) (hpan := (by rintro x Δ' ⟨e, _⟩; cases e))
   rintro x _ ⟨e, rfl⟩
   cases e
   simp only [List.cons_append, List.nil_append]
   refine jq True.intro (h := ?_)
   refine jcs (Δ1 := [_]) (Fr := GL :: Dv) (hs := (left_ok a b at_ 0 ⟨by omega, by omega⟩ (by omega))) (hp := (List.Perm.refl _)) (hk := ?_) (hpan := (by rintro x Δ' ⟨e, _⟩; cases e))
   rintro x _ ⟨e, rfl⟩
   cases e
   simp only [List.cons_append, List.nil_append]
   refine jr (h := ?_)
   refine jif (h1 := fun hc => ?_) (h2 := fun hc => ?_)
   · obtain ⟨k, rfl⟩ : ∃ k', m = k' + 1 := ⟨m - 1, by omega⟩
     have hre2 := hre
     unfold readA at hre2
     rw [if_neg (by omega)] at hre2
     refine jr (h := ?_)
     refine jcs (Δ1 := [_]) (Fr := GL :: Dv) (hs := (rat_ok a b at_ 0)) (hp := (List.Perm.refl _)) (hk := ?_) (hpan := (by rintro x Δ' ⟨e, _⟩; cases e))
     rintro x _ ⟨e, rfl⟩
     cases e
     simp only [List.cons_append, List.nil_append]
     have hfr := from06i_ok a b at_ 0 hat (by omega)
     unfold fAV at hfr
     have hfz := @fC_zero b at_ 0
     have hfw := fW_at (b := b) (at_ := at_) 0 hat
     generalize hCC : fC b at_ 0 = C at *
     generalize (fW b at_ 0).2.1 = p2 at *
     generalize fX b at_ 0 = x at *
     refine jr (h := ?_)
     refine jcs (Δ1 := [_, GL]) (Fr := Dv) (hs := hfr) (hp := (List.Perm.refl _)) (hk := ?_) (hpan := (by rintro x Δ' ⟨e, _⟩; cases e))
     rintro z _ ⟨e, rfl⟩
     cases e
     simp only [List.cons_append, List.nil_append]
     by_cases hz : C = 0
     · subst hz
       rw [if_neg (by simp)] at hre2
       rw [if_neg (by simp)]
       obtain ⟨k1, k2, -⟩ := hfz rfl
       obtain ⟨xk, xv, xa, xe, xb⟩ := x
       refine jr (own := [7]) (h := ?_)
       refine jnv (hh := fun b7 hb7 => ?_)
       refine jm 1 (h := ?_)
       refine J_freeze (s := 7) (o := 0) (by simp only [go_sem]) ?_
       simp only [List.drop_zero]
       refine jr (h := ?_)
       refine jcs (Δ1 := [_]) (Fr := GL :: Dv) (hs := (rcode_ok a b p2 0)) (hp := (List.Perm.refl _)) (hk := ?_) (hpan := (by rintro x Δ' ⟨e, _⟩; cases e))
       rintro z _ ⟨e, rfl⟩
       cases e
       simp only [List.cons_append, List.nil_append]
       refine jq True.intro (h := ?_)
       refine jn (h := ?_)
       refine jr (own := [35]) (h := ?_)
       refine jap (Fr := [_, GL]) (how := how) (hp := (List.Perm.refl _)) (hsrc := (by simp only [go_sem] <;> rfl)) (hc := (by rfl)) (hmax := (by rw [ents_len]; omega)) (hk := ?_)
       rintro _ _ ⟨v', D', rfl, rfl, how'⟩
       refine jr (h := ?_)
       refine jk [4, 5] (h := ?_)
       refine ih k _ _ (by omega) ⟨k, p2, acc ++ [⟨xk, xv, xa, xe, xb⟩], v', D', hfw, hre2, by omega, rfl, by rw [List.length_append, List.length_singleton]; omega, own_snoc (by simpa [Entry.cells] using how'), rfl, rfl⟩
     · rw [if_pos hz] at hre2
       rw [if_pos hz]
       rw [hre2]
       refine jr (own := [7]) (h := ?_)
       refine jnv (hh := fun b7 hb7 => ?_)
       refine jm 1 (h := ?_)
       refine J_freeze (s := 7) (o := 0) (by simp only [go_sem]) ?_
       simp only [List.drop_zero]
       refine jr (h := ?_)
       refine jcs (Δ1 := [_]) (Fr := GL :: Dv) (hs := (rcode_ok a b p2 C)) (hp := (List.Perm.refl _)) (hk := ?_) (hpan := (by rintro x Δ' ⟨e, _⟩; cases e))
       rintro z _ ⟨e, rfl⟩
       cases e
       simp only [List.cons_append, List.nil_append]
       have hd : decide (C ≠ 0) = true := decide_eq_true hz
       refine jf hd (h := ?_)
       refine jt (h := ?_)
       obtain ⟨a7, c7, rfl⟩ := how.slice
       refine jr (h := ?_)
       refine jcs (Δ1 := [_]) (Fr := GL :: Dv) (hs := (rcode_ok a b p2 C)) (hp := (List.Perm.refl _)) (hk := ?_) (hpan := (by rintro x Δ' ⟨e, _⟩; cases e))
       rintro z _ ⟨e, rfl⟩
       cases e
       simp only [List.cons_append, List.nil_append]
       refine jr (h := ?_)
       refine jc (hs := newS_ok _ _ _) (hk := ?_)
       refine jr (h := ?_)
       refine jcs (Δ1 := []) (Fr := _ :: GL :: Dv) (hs := (wrapS_ok _ _ (errNew_is _ _ C))) (hp := (List.Perm.refl _)) (hk := ?_) (hpan := (by rintro x Δ' ⟨⟨e, h, _⟩, _⟩; cases h))
       rintro z _ ⟨⟨er, h, he⟩, rfl⟩
       cases h
       simp only [List.nil_append]
       refine jr (h := ?_)
       refine J_wk (t := 2) (by simp only [go_sem]) (nil_le_sl (s := 5)) ?_
       refine J_forgetP ?_
       refine jret Tryz.func192 (h := ⟨_ :: Dv, [GL], .cons _ (List.perm_append_comm (l₁ := [GL])), ⟨_, rfl, he⟩, rfl⟩)
   · have hre2 : readE b = (0, acc) := by
       rw [hre]
       cases m with
       | zero => rfl
       | succ k => unfold readA; rw [if_pos (by omega)]
     rw [hre2]
     refine jr (h := ?_)
     refine J_freezeS (Fr := [_, GL]) how (ents_row _) (by rw [ents_len]; unfold maxRows; omega) ?_
     refine J_is (t := 2) (by simp only [go_sem]) (List.mem_cons_self ..) (J_drop ?_)
     refine J_forgetP ?_
     refine jret Tryz.func192 (h := ⟨[_], [GL], List.Perm.refl _, ⟨_, rfl, .none⟩, rfl⟩)
end
section
theorem rread_ok (b : List UInt8) (hb : b.length < 2 ^ 30) : ACalls Tryz.prog 161 [.sl 1 (bytesRows b)] [] (Ret (.tup [.sl 5 (ents (readE b).2), .c (.int .i64 (readE b).1)])) := by
 have hlast := (readE_w b).2
 have hbr := bytesRows_length b
 refine jen cl_161 Tryz.func161 (h := ?_)
 refine jr (own := [4]) (h := ?_)
 refine jnv (hh := fun b4 hb4 => ?_)
 refine jm 1 (h := ?_)
 refine J_wkBox (b := b4) (t := 117) (cells := [.sl 1 (bytesRows b), .c (.int .i64 0), .c (.int .i64 0)]) (y := .sl 1 (bytesRows b)) 0 rfl (fun g v h => h) (List.Perm.refl _) ?_
 refine jr (h := ?_)
 refine jk [0, 4, 5] (h := ?_)
 refine J_loopI (I := fun m e D => ∃ (at_ : Nat) (acc : List Entry) (v : Value) (Dv : List HP), at_ ≤ b.length ∧ readE b = readA b m at_ acc ∧ b.length < m + at_ ∧ acc.length ≤ at_ ∧ Own 78 5 (ents acc).flatten (ents acc).length v Dv ∧ D = .box b4 117 [.sl 1 (bytesRows b), .c (.int .i64 (at_ : Int)), .c (.int .i64 0)] :: Dv ∧ e = [(0, .sl 1 (bytesRows b)), (4, .c (.pointer (some ⟨b4, 0, none⟩))), (5, .c v)]) ?_ ?_
 · exact ⟨b.length + 1, 0, [], _, [], Nat.zero_le _, rfl, by omega, Nat.zero_le _, .nil none (by simp [ents]) (by simp [ents]), rfl, rfl⟩
 · rintro m e D ⟨at_, acc, v, Dv, hat, hre, hk, hacc, how, rfl, rfl⟩ ih
   refine jf hbr (h := ?_)
   refine jif (h1 := fun hc => ?_) (h2 := fun hc => ?_)
   · obtain ⟨k, rfl⟩ : ∃ k', m = k' + 1 := ⟨m - 1, by omega⟩
     have hre2 := hre
     unfold readA at hre2
     rw [if_neg (by omega)] at hre2
     have hfr := from06r_ok b at_ 0 hat (by omega)
     unfold fAV at hfr
     have hfz := @fC_zero b at_ 0
     have hfw := fW_at (b := b) (at_ := at_) 0 hat
     generalize hCC : fC b at_ 0 = C at *
     generalize (fW b at_ 0).2.1 = p2 at *
     generalize fX b at_ 0 = x at *
     refine jr (h := ?_)
     refine jc (hs := hfr) (hk := ?_)
     by_cases hz : C = 0
     · subst hz
       rw [if_neg (by simp)] at hre2
       rw [if_neg (by simp)]
       obtain ⟨k1, k2, -⟩ := hfz rfl
       obtain ⟨xk, xv, xa, xe, xb⟩ := x
       refine jr (own := [6]) (h := ?_)
       refine jnv (hh := fun b6 hb6 => ?_)
       simp only [fresh] at hb6
       refine jr (own := [7]) (h := ?_)
       refine jnv (hh := fun b7 hb7 => ?_)
       simp only [fresh] at hb7
       refine jmf 2 (cA hb7 hb6) (h := ?_)
       refine J_freeze (s := 7) (o := 0) (by simp only [go_sem]) ?_
       refine J_freeze (s := 6) (o := 0) (by simp only [go_sem]) ?_
       simp only [List.drop_zero]
       refine jq True.intro (h := ?_)
       refine jn (h := ?_)
       refine jr (own := [29]) (h := ?_)
       refine jap (Fr := [_]) (how := how) (hp := (List.Perm.refl _)) (hsrc := (by simp only [go_sem] <;> rfl)) (hc := (by rfl)) (hmax := (by rw [ents_len]; omega)) (hk := ?_)
       rintro _ _ ⟨v', D', rfl, rfl, how'⟩
       refine jr (h := ?_)
       refine jk [0, 4, 5] (h := ?_)
       refine ih k _ _ (by omega) ⟨p2, acc ++ [⟨xk, xv, xa, xe, xb⟩], v', D', hfw, hre2, by omega, by rw [List.length_append, List.length_singleton]; omega, own_snoc (by simpa [Entry.cells] using how'), rfl, rfl⟩
     · rw [if_pos hz] at hre2
       rw [if_pos hz]
       rw [hre2]
       refine jr (own := [6]) (h := ?_)
       refine jnv (hh := fun b6 hb6 => ?_)
       simp only [fresh] at hb6
       refine jr (own := [7]) (h := ?_)
       refine jnv (hh := fun b7 hb7 => ?_)
       simp only [fresh] at hb7
       refine jmf 2 (cA hb7 hb6) (h := ?_)
       refine J_freeze (s := 7) (o := 0) (by simp only [go_sem]) ?_
       refine J_freeze (s := 6) (o := 0) (by simp only [go_sem]) ?_
       simp only [List.drop_zero]
       have hd : decide (C ≠ 0) = true := decide_eq_true hz
       refine jf hd (h := ?_)
       refine jt (h := ?_)
       refine jr (h := ?_)
       refine jd [(0, .pure), (1, .pure), (2, .pure), (3, .pure)] mixed (by kernel_rfl) ?_
       refine cr (hk := ?_)
       refine Can_nil ?_
       refine J_wk (t := 2) (by simp only [go_sem]) (nil_le_sl (s := 5)) ?_
       refine J_forgetP ?_
       refine jret Tryz.func161 (h := ⟨_ :: Dv, [], by rw [List.append_nil], rfl, rfl⟩)
   · have hre2 : readE b = (0, acc) := by
       rw [hre]
       cases m with
       | zero => rfl
       | succ k => unfold readA; rw [if_pos (by omega)]
     rw [hre2]
     refine jr (h := ?_)
     refine J_freezeS (Fr := [_]) how (ents_row _) (by rw [ents_len]; unfold maxRows; omega) ?_
     refine J_is (t := 2) (by simp only [go_sem]) (List.mem_cons_self ..) (J_drop ?_)
     refine J_forget ?_
     refine jret Tryz.func161 (h := ⟨rfl, rfl⟩)
theorem bfind1_ok (x : Entry) (k : List UInt8) : ACalls Tryz.prog 157 [x.av, .fp [.c (.string (mkStr k))]] [] (Ret (.c (.bool (decide (x.key = k))))) := by
 refine jen cl_157 Tryz.func157 (h := ?_)
 refine jr (h := ?_)
 refine jret Tryz.func157 (h := ⟨rfl, rfl⟩)
theorem indexE_ok (l : List Entry) (k : List UInt8) (hl : l.length < 2 ^ 62) : ACalls Tryz.prog 156 [.sl 5 (ents l), .fn (.func 157) [] [.fp [.c (.string (mkStr k))]]] [] (Ret (.c (.int .i64 (findI l k)))) := by
 refine jen cl_156 Tryz.func156 (h := ?_)
 refine jr (h := ?_)
 refine jk [0, 1, 7, 8] (h := ?_)
 refine J_loopI (I := fun m e D => ∃ i : Nat, i ≤ l.length ∧ m = l.length - i ∧ D = [] ∧ (∀ j (h : j < l.length), j < i → l[j].key ≠ k) ∧ e = [(0, .sl 5 (ents l)), (1, .fn (.func 157) [] [.fp [.c (.string (mkStr k))]]), (7, .c (.int .i64 l.length)), (8, .c (.int .i64 i))]) ?_ ?_
 · exact ⟨_, 0, Nat.zero_le _, rfl, rfl, by simp, by rw [ents_len]; rfl⟩
 · rintro m e D ⟨i, hi, rfl, rfl, hn, rfl⟩ ih
   refine jr (h := ?_)
   refine jif (h1 := fun hc => ?_) (h2 := fun hc => ?_)
   · have hlt : i < l.length := by omega
     have g1 := ents_get (List.getElem?_eq_getElem hlt)
     have h0 : (0 : Int) ≤ (i : Int) := by omega
     have hf := bfind1_ok l[i] k
     simp only [Entry.av, Entry.cells] at hf
     refine jf (cA g1 ents_len) (h := ?_)
     refine jc (hs := hf) (hk := ?_)
     refine jr (h := ?_)
     refine jif (h1 := fun hd => ?_) (h2 := fun hd => ?_)
     · refine jr (h := ?_)
       refine J_retX Tryz.func156 (by simp only [go_sem, ↓reduceIte, Int.reduceLT, Int.reduceLE, Int.reduceToNat, Int.reducePow, Int.reduceNeg, Nat.reduceBEq, Tryz.f156] <;> first | with_reducible rfl | rfl) ⟨by
         have : findE l k = some i := by
           unfold findE
           rw [List.findIdx?_eq_some_iff_getElem]
           exact ⟨hlt, by simpa using hd, fun j hj => by simpa using hn j (by omega) hj⟩
         simp [findI, this], rfl⟩
     · refine jr (h := ?_)
       refine jk [0, 1, 7, 8] (h := ?_)
       refine ih _ _ _ ?_ ⟨i + 1, hlt, rfl, rfl, ?_, by simp only [Int.natCast_add, Int.cast_ofNat_Int]⟩
       · omega
       · intro j h hj
         rcases Nat.lt_succ_iff_lt_or_eq.1 hj with h1 | rfl
         · exact hn j h h1
         · exact hd
   · have hi' : i = l.length := by omega
     subst hi'
     refine jr (h := ?_)
     refine J_retX Tryz.func156 (by simp only [go_sem, ↓reduceIte, Int.reduceLT, Int.reduceLE, Int.reduceToNat, Int.reducePow, Int.reduceNeg, Nat.reduceBEq, Tryz.f156] <;> first | with_reducible rfl | rfl) ⟨by
       have : findE l k = none := by
         unfold findE
         rw [List.findIdx?_eq_none_iff]
         intro x hx
         obtain ⟨j, hj, rfl⟩ := List.mem_iff_getElem.1 hx
         simpa using hn j hj hj
       simp [findI, this], rfl⟩
theorem bfind_ok (l : List Entry) (k : List UInt8) (hl : l.length < 2 ^ 62) : ACalls Tryz.prog 99 [.sl 5 (ents l), .c (.string (mkStr k))] [] (Ret (.c (.int .i64 (findI l k)))) := by
 refine jen cl_99 Tryz.func99 (h := ?_)
 refine jr (h := ?_)
 refine jc (hs := indexE_ok l k hl) (hk := ?_)
 refine jr (h := ?_)
 refine jret Tryz.func99 (h := ⟨rfl, rfl⟩)
def uniqE (l : List Entry) : Bool := decide (l.map (·.key)).Nodup
def bktR (b : List UInt8) : Int × List Entry := if (readE b).1 ≠ 0 then ((readE b).1, []) else if uniqE (readE b).2 then (0, (readE b).2) else (13, [])
theorem findE_some {l : List Entry} {k : List UInt8} {i : Nat} (h : findE l k = some i) : ∃ h : i < l.length, l[i].key = k ∧ ∀ j (hj : j < i), l[j].key ≠ k := by
 unfold findE at h
 rw [List.findIdx?_eq_some_iff_getElem] at h
 obtain ⟨h1, h2, h3⟩ := h
 exact ⟨h1, by simpa using h2, fun j hj => by simpa using h3 j hj⟩
theorem findE_none {l : List Entry} {k : List UInt8} : findE l k = none ↔ ∀ x ∈ l, x.key ≠ k := by
 unfold findE
 rw [List.findIdx?_eq_none_iff]
 exact ⟨fun h x hx => by simpa using h x hx, fun h x hx => by simpa using h x hx⟩
theorem findI_neg {l : List Entry} {k : List UInt8} : findI l k < 0 ↔ ∀ x ∈ l, x.key ≠ k := by
 rw [← findE_none]
 unfold findI
 cases findE l k with
 | none => simp
 | some i => simp
theorem uniqE_iff (l : List Entry) : uniqE l = true ↔ ∀ i j (hi : i < l.length) (hj : j < l.length), i < j → l[i].key ≠ l[j].key := by
 unfold uniqE
 rw [decide_eq_true_eq, List.nodup_iff_pairwise_ne, List.pairwise_iff_getElem]
 simp only [List.length_map, List.getElem_map]
theorem find_take {l : List Entry} {i : Nat} (hi : i < l.length) : (0 ≤ findI (l.take i) l[i].key) ↔ ∃ j, ∃ h : j < i, l[j].key = l[i].key := by
 have h1 : (¬ findI (l.take i) l[i].key < 0) ↔ ∃ j, ∃ h : j < i, l[j].key = l[i].key := by
   rw [findI_neg]
   constructor
   · intro h
     obtain ⟨x, hx⟩ := Classical.not_forall.1 h
     obtain ⟨hx1, hx2⟩ := Classical.not_imp.1 hx
     obtain ⟨j, hj, rfl⟩ := List.mem_iff_getElem.1 hx1
     rw [List.length_take] at hj
     exact ⟨j, by omega, by rw [List.getElem_take] at hx2; exact Classical.not_not.1 hx2⟩
   · rintro ⟨j, hj, e⟩ h
     exact h l[j] (List.mem_iff_getElem.2 ⟨j, by rw [List.length_take]; omega, by rw [List.getElem_take]⟩) e
 rw [← h1]; omega
theorem find_self {l : List Entry} {i : Nat} (hi : i < l.length) : findI l l[i].key = i ↔ ∀ j, (hj : j < i) → l[j].key ≠ l[i].key := by
 unfold findI
 cases hf : findE l l[i].key with
 | none => exact absurd rfl (findE_none.1 hf l[i] (List.getElem_mem _))
 | some k =>
   obtain ⟨h1, h2, h3⟩ := findE_some hf
   constructor
   · intro e j hj
     have : ((k : Nat) : Int) = i := by simpa using e
     have : k = i := by omega
     subst this
     exact h3 j hj
   · intro h
     rcases Nat.lt_trichotomy k i with hlt | he | hgt
     · exact absurd h2 (h k hlt)
     · simp [he]
     · exact absurd rfl (h3 i hgt)
theorem bread_ok (b : List UInt8) (hb : b.length < 2 ^ 30) : ACalls Tryz.prog 148 [.sl 1 (bytesRows b)] [GL] (fun r Δ => (∃ e, r = .ret (.tup [.sl 5 (ents (bktR b).2), e]) ∧ IsErr e (bktR b).1) ∧ Δ = [GL]) := by
 have hr := iread_ok b hb
 have hl := (readE_w b).2
 have hX : bktR b = if (readE b).1 ≠ 0 then ((readE b).1, []) else if uniqE (readE b).2 then (0, (readE b).2) else (13, []) := rfl
 rw [hX]
 clear hX
 generalize readE b = R at *
 obtain ⟨c, l⟩ := R
 simp only at *
 have hbr := bytesRows_length b
 refine jen cl_148 Tryz.func148 (h := ?_)
 refine jr (h := ?_)
 refine jcs (Δ1 := [_]) (Fr := []) (hs := hr) (hp := (List.Perm.refl _)) (hk := ?_) (hpan := (by rintro x Δ' ⟨⟨e, h, _⟩, _⟩; cases h))
 rintro x _ ⟨⟨er, h, he⟩, rfl⟩
 cases h
 simp only [List.append_nil]
 by_cases hc : c = 0
 · subst hc
   obtain rfl := iserr_zero he
   rw [if_neg (by simp)]
   refine jr (h := ?_)
   refine jn (h := ?_)
   refine jr (h := ?_)
   refine jk [4, 19, 20, 21] (h := ?_)
   refine J_loopI (I := fun m e D => ∃ i : Nat, i ≤ l.length ∧ m = l.length - i ∧ D = [GL] ∧ (∀ k j (hk : k < i) (hkl : k < l.length) (hj : j < k), l[j].key ≠ l[k].key) ∧ e = [(4, .sl 5 (ents l)), (19, .sl 5 (ents l)), (20, .c (.int .i64 l.length)), (21, .c (.int .i64 i))]) ?_ ?_
   · exact ⟨_, 0, Nat.zero_le _, rfl, rfl, fun k j hk => absurd hk (Nat.not_lt_zero _), by rw [ents_len]; rfl⟩
   · rintro m e D ⟨i, hi, rfl, rfl, hn, rfl⟩ ih
     refine jr (h := ?_)
     refine jif (h1 := fun hc => ?_) (h2 := fun hc => ?_)
     · have hlt : i < l.length := by omega
       have g1 := ents_get (List.getElem?_eq_getElem hlt)
       have h0 : (0 : Int) ≤ (i : Int) := by omega
       have hf := bfind_ok (l.take i) l[i].key (by rw [List.length_take]; omega)
       have ht : (ents l).take i = ents (l.take i) := by simp [ents]
       have hft := find_take hlt
       refine jf (own := [7]) (cA g1 ents_len) (h := ?_)
       refine jnv (hh := fun b7 hb7 => ?_)
       refine jm 2 (h := ?_)
       refine J_freeze (s := 7) (o := 0) (by simp only [go_sem]) ?_
       simp only [List.drop_zero]
       refine jr (h := ?_)
       refine jd [(0, .pure), (1, .pure), (2, .pure), (3, .pure), (4, .pure), (5, .pure), (6, .pure)] mixed (by kernel_rfl) ?_
       refine cf (cA ents_len ht) (hk := ?_)
       refine ccp (hs := hf) (hk := ?_)
       refine cr (hk := ?_)
       refine Can_nil ?_
       refine jif (h1 := fun hd => ?_) (h2 := fun hd => ?_)
       · have hu : uniqE l = false := by
           cases hu : uniqE l with
           | false => rfl
           | true =>
             obtain ⟨j, hj, e⟩ := hft.1 hd
             exact absurd e ((uniqE_iff l).1 hu j i (by omega) hlt hj)
         rw [hu]
         simp only [Bool.false_eq_true, if_false]
         refine jr (h := ?_)
         refine jc (hs := newS_ok _ _ _) (hk := ?_)
         refine jr (h := ?_)
         refine J_wk (t := 2) (by simp only [go_sem]) (nil_le_sl (s := 5)) ?_
         refine jret Tryz.func148 (h := ⟨⟨_, rfl, errNew_is _ _ 13⟩, rfl⟩)
       · refine jr (h := ?_)
         refine jk [4, 19, 20, 21] (h := ?_)
         refine ih _ _ _ ?_ ⟨i + 1, hlt, rfl, rfl, ?_, by simp only [Int.natCast_add, Int.cast_ofNat_Int]⟩
         · omega
         · intro k j hk hkl hj e
           by_cases hki : k = i
           · subst hki; exact hd (hft.2 ⟨j, hj, e⟩)
           · exact hn k j (by omega) hkl hj e
     · have hi' : i = l.length := by omega
       subst hi'
       have hu : uniqE l = true := (uniqE_iff l).2 fun i j hi hj hij => hn j i hj hj hij
       rw [hu]
       simp only [if_true]
       refine jr (h := ?_)
       refine jret Tryz.func148 (h := ⟨⟨_, rfl, .none⟩, rfl⟩)
 · obtain ⟨te, ve, rfl⟩ := iserr_ne he hc
   rw [if_pos hc]
   refine jf hbr (h := ?_)
   refine jt (h := ?_)
   refine jf hbr (h := ?_)
   refine jcs (Δ1 := []) (Fr := [GL]) (hs := (wrapS_ok _ _ he)) (hp := (List.Perm.refl _)) (hk := ?_) (hpan := (by rintro x Δ' ⟨⟨e, h, _⟩, _⟩; cases h))
   rintro z _ ⟨⟨er2, h, he2⟩, rfl⟩
   cases h
   simp only [List.nil_append]
   refine jr (h := ?_)
   refine J_wk (t := 2) (by simp only [go_sem]) (nil_le_sl (s := 5)) ?_
   refine jret Tryz.func148 (h := ⟨⟨_, rfl, he2⟩, rfl⟩)
theorem bread12_ok (b : List UInt8) (hb : b.length < 2 ^ 30) : ACalls Tryz.prog 104 [.sl 1 (bytesRows b)] [] (Ret (.tup [.sl 5 (ents (bktR b).2), .c (.int .i64 (bktR b).1)])) := by
 have hr := rread_ok b hb
 have hl := (readE_w b).2
 have hX : bktR b = if (readE b).1 ≠ 0 then ((readE b).1, []) else if uniqE (readE b).2 then (0, (readE b).2) else (13, []) := rfl
 rw [hX]
 clear hX
 generalize readE b = R at *
 obtain ⟨c, l⟩ := R
 simp only at *
 refine jen cl_104 Tryz.func104 (h := ?_)
 refine jr (h := ?_)
 refine jc (hs := hr) (hk := ?_)
 refine jr (h := ?_)
 refine jif (h1 := fun hc => ?_) (h2 := fun hc => ?_)
 · rw [if_pos hc]
   refine jr (h := ?_)
   refine J_wk (t := 2) (by simp only [go_sem]) (nil_le_sl (s := 5)) ?_
   refine jret Tryz.func104 (h := ⟨rfl, rfl⟩)
 · rw [if_neg hc]
   have hc0 : c = 0 := Classical.not_not.1 hc
   refine jr (h := ?_)
   refine jk [4, 6] (h := ?_)
   refine J_loopI (I := fun m e D => ∃ i : Nat, i ≤ l.length ∧ m = l.length - i ∧ D = [] ∧ (∀ k j (hk : k < i) (hkl : k < l.length) (hj : j < k), l[j].key ≠ l[k].key) ∧ e = [(4, .sl 5 (ents l)), (6, .c (.int .i64 i))]) ?_ ?_
   · exact ⟨_, 0, Nat.zero_le _, rfl, rfl, fun k j hk => absurd hk (Nat.not_lt_zero _), rfl⟩
   · rintro m e D ⟨i, hi, rfl, rfl, hn, rfl⟩ ih
     refine jf ents_len (h := ?_)
     refine jif (h1 := fun hcl => ?_) (h2 := fun hcl => ?_)
     · have hlt : i < l.length := by omega
       have g1 := ents_get (List.getElem?_eq_getElem hlt)
       have h0 : (0 : Int) ≤ (i : Int) := by omega
       have hf := find_ok l l[i].key (by omega)
       have hft := find_self hlt
       refine jf (cA g1 ents_len) (h := ?_)
       refine jc (hs := hf) (hk := ?_)
       refine jr (h := ?_)
       refine jif (h1 := fun hd => ?_) (h2 := fun hd => ?_)
       · have hu : uniqE l = false := by
           cases hu : uniqE l with
           | false => rfl
           | true => exact absurd (hft.2 fun j hj => (uniqE_iff l).1 hu j i (by omega) hlt hj) hd
         rw [hu]
         simp only [Bool.false_eq_true, if_false]
         refine jr (h := ?_)
         refine J_wk (t := 2) (by simp only [go_sem]) (nil_le_sl (s := 5)) ?_
         refine jret Tryz.func104 (h := ⟨rfl, rfl⟩)
       · have hd' := hft.1 (Classical.not_not.1 hd)
         refine jr (h := ?_)
         refine jk [4, 6] (h := ?_)
         refine ih _ _ _ ?_ ⟨i + 1, hlt, rfl, rfl, ?_, by simp only [Int.natCast_add, Int.cast_ofNat_Int]⟩
         · omega
         · intro k j hk hkl hj
           by_cases hki : k = i
           · subst hki; exact hd' j hj
           · exact hn k j (by omega) hkl hj
     · have hi' : i = l.length := by omega
       subst hi'
       have hu : uniqE l = true := (uniqE_iff l).2 fun i j hi hj hij => hn j i hj hj hij
       rw [hu]
       simp only [if_true]
       refine jr (h := ?_)
       refine jret Tryz.func104 (h := ⟨rfl, rfl⟩)
end
section
theorem delE_ok (rows : List (List AV)) (hs : ∀ r ∈ rows, r.length = 5) (hc : rows.flatten.all AV.isCell = true) (i : Nat) (hi : i < rows.length) (hl : rows.length < 2 ^ 30) {v : Value} {D : List HP} (how : Own 78 5 rows.flatten rows.length v D) :
   ACalls Tryz.prog 183 [.c v, .c (.int .i64 i), .c (.int .i64 (i + 1))] D (fun r Δ' => ∃ v', r = .ret (.c v') ∧ Own 78 5 (rows.eraseIdx i).flatten (rows.length - 1) v' Δ') := by
 cases how with
 | nil _ _ h => omega
 | box b cap sp hcl hsp hcap =>
 have h0 : (0 : Int) ≤ (i : Int) := by omega
 have hne : ((i : Int) = (i : Int) + 1) = False := eq_false (by omega)
 have h3 : ((i : Int) + 1).toNat = i + 1 := by omega
 have h4 : (rows.length = i) = False := eq_false (by omega)
 have h5 : (cap = i) = False := eq_false (by omega)
 obtain ⟨sp1, q1, q2⟩ := del_cells (sp := sp) hs hi
 have hlen := flat_len hs
 have hcall : ((rows.flatten ++ sp).drop ((i + 1) * 5)).take ((rows.length - (i + 1)) * 5) = (rows.drop (i + 1)).flatten := by
   rw [List.drop_append_of_le_length (by rw [hlen]; exact Nat.mul_le_mul_right _ (by omega)), flat_drop _ hs, List.take_append_of_le_length, List.take_of_length_le]
   · rw [flat_len (s := 5) (fun r hr => hs r (List.mem_of_mem_drop hr)), List.length_drop]; omega
   · rw [flat_len (s := 5) (fun r hr => hs r (List.mem_of_mem_drop hr)), List.length_drop]; omega
 have hcd : (rows.drop (i + 1)).flatten.all AV.isCell = true := by
   rw [List.all_eq_true] at hc ⊢
   intro x hx
   rw [List.mem_flatten] at hx
   obtain ⟨r, hr, hx⟩ := hx
   exact hc x (List.mem_flatten.2 ⟨r, List.mem_of_mem_drop hr, hx⟩)
 have hsrc : ∀ c, srcOf [HP.box b 78 (rows.flatten ++ sp)] 5 (.c (.slice (if cap = i + 1 then some ⟨b, 0, none⟩ else some ⟨b, (i + 1) * 5, none⟩) (rows.length - (i + 1)) c)) = some (rows.length - (i + 1), (rows.drop (i + 1)).flatten) := by
   intro c
   by_cases hcp : cap = i + 1
   · have e1 : rows.length - (i + 1) = 0 := by omega
     have e2 : rows.drop (i + 1) = [] := List.drop_of_length_le (by omega)
     simp [srcOf, getBox, hcp, e1, e2]
   · rw [if_neg hcp]
     simp only [srcOf, getBox, if_true]
     rw [if_pos (by rw [List.length_append, hlen, ← Nat.add_mul]; exact Nat.le_trans (Nat.mul_le_mul_right _ (by omega)) (Nat.le_add_right _ _)), hcall]
 have hbox : getBox [HP.box b 78 (rows.flatten ++ sp)] b = some (78, rows.flatten ++ sp) := by simp only [getBox, if_true]
 refine jen cl_183 Tryz.func183 (h := ?_)
 refine jf (cA hne h3) (h := ?_)
 refine jn (h := ?_)
 refine jr (h := ?_)
 refine jd [(0, .pure), (1, .pure), (2, .pure), (3, .pure), (4, .pure), (5, .pure), (6, .act), (7, .pure)] mixed (by kernel_rfl) ?_
 refine cf (cA h3 h5) (hk := ?_)
 refine cbi (hb := appendIn_bi gS (hsrc _) (by omega) hbox hcd (by rw [List.length_append, hlen, Nat.zero_add]; exact Nat.le_trans (Nat.mul_le_mul_right _ (by omega)) (Nat.le_add_right _ _))) (hk := ?_)
 rintro x D' ⟨rfl, rfl⟩
 refine cr (hk := ?_)
 refine Can_nil ?_
 rw [hcall] at q2
 rw [q2]
 have hm : i + (rows.length - (i + 1)) = rows.length - 1 := by omega
 have hm1 : (cap = rows.length - 1) = False := eq_false (by omega)
 have hm2 : rows.length - (rows.length - 1) = 1 := by omega
 have hel : (rows.eraseIdx i).flatten.length = (rows.length - 1) * 5 := by
   rw [flat_len (s := 5) (fun r hr => hs r (List.mem_of_mem_eraseIdx hr)), List.length_eraseIdx_of_lt hi]
 refine jf (cB hm hm1 hm2) (h := ?_)
 refine jbi (hb := clear_bi gS gS gS (by rfl) (by rfl) getBox_head (by rw [List.length_append, hel, q1]; omega)) (hk := ?_)
 rintro x D' ⟨z, hz, rfl⟩
 simp only [setBox, if_true]
 obtain ⟨sp2, r1, r2⟩ := wipe_cells (z := z) (m := (rows.length - 1) * 5) (s := 5) (by rw [hz]) hel (by rw [q1]; omega)
 rw [r2]
 refine jr (h := ?_)
 refine jret Tryz.func183 (h := ⟨_, rfl, .box b cap sp2 hel (by rw [r1, q1, hsp]; omega) (by omega)⟩)
theorem ents_erase : ∀ (l : List Entry) (i : Nat), (ents l).eraseIdx i = ents (l.eraseIdx i)
 | [], _ => rfl
 | x :: l, 0 => rfl
 | x :: l, i + 1 => by
   have := ents_erase l i
   unfold ents at *
   simp only [List.map_cons, List.eraseIdx_cons_succ, this]
theorem cloneE_own (l : List Entry) (hl : l.length < 2 ^ 30) : ACalls Tryz.prog 144 [.sl 5 (ents l)] [] (fun r D => ∃ v, r = .ret (.c v) ∧ Own 78 5 (ents l).flatten (ents l).length v D) := by
 have hfl := ents_len l
 refine jen cl_144 Tryz.func144 (h := ?_)
 refine jr (own := [4]) (h := ?_)
 refine jog (ho := rfl) (hh := nil_sl_op rfl Tryz.underlying85 gS) (hk := ?_)
 rintro _ _ ⟨⟨t, rfl, ht⟩, rfl⟩
 cases t with
 | true =>
   obtain rfl : l = [] := by have := ht rfl; cases l; (· rfl); (· simp [ents] at this)
   refine jr (h := ?_)
   refine jt (h := ?_)
   refine jr (h := ?_)
   refine jret Tryz.func144 (h := ⟨_, rfl, .nil none (by simp [ents]) (by simp [ents])⟩)
 | false =>
   refine jr (h := ?_)
   refine jn (h := ?_)
   refine jr (own := [7]) (h := ?_)
   refine jbi (hb := append0_bi gS (by simp only [go_sem, srcOf] <;> rfl) (ents_cell l) (by rw [hfl]; omega)) (hk := ?_)
   rintro _ D ⟨v, _, rfl, rfl, how⟩
   refine jr (h := ?_)
   refine jret Tryz.func144 (h := ⟨v, rfl, how⟩)
theorem cloneE_ok (l : List Entry) (hl : l.length < 2 ^ 30) : ACalls Tryz.prog 144 [.sl 5 (ents l)] [] (Ret (.sl 5 (ents l))) :=
 (cloneE_own l hl).freezeR (ents_row l) (by rw [ents_len]; unfold maxRows; omega)
def rmE (l : List Entry) (k : List UInt8) : List Entry := match findE l k with | some i => l.eraseIdx i | none => l
theorem bremove_own (l : List Entry) (k : List UInt8) (hl : l.length < 2 ^ 30) : ACalls Tryz.prog 131 [.sl 5 (ents l), .c (.string (mkStr k))] [] (fun r D => ∃ v, r = .ret (.tup [.c v, .c (.bool (decide (0 ≤ findI l k)))]) ∧ Own 78 5 (ents (rmE l k)).flatten (ents (rmE l k)).length v D) := by
 have hfl := ents_len l
 have hfi := bfind_ok l k (by omega)
 refine jen cl_131 Tryz.func131 (h := ?_)
 refine jr (h := ?_)
 refine jcs (Δ1 := []) (Fr := []) (hs := (cloneE_own l hl)) (hp := (List.Perm.refl _)) (hk := ?_) (hpan := (by rintro x Δ' ⟨v, h, _⟩; cases h))
 rintro x D ⟨v, h, how⟩
 cases h
 rw [List.append_nil]
 refine jr (h := ?_)
 refine jcs (Δ1 := D) (Fr := []) (hs := (ACalls.lendOwn (pre := []) how hfi (by rintro r Δ' ⟨rfl, rfl⟩; exact ⟨rfl, _, rfl, .c _⟩) (ents_row _) (by rw [ents_len]; unfold maxRows; omega))) (hp := (by simp)) (hk := ?_) (hpan := (by rintro x Δ' ⟨⟨e1, _⟩, _⟩; cases e1))
 rintro x D ⟨⟨e1, -⟩, rfl⟩
 cases e1
 rw [List.append_nil]
 cases hf : findE l k with
 | none =>
   have e1 : findI l k = -1 := by unfold findI; rw [hf]
   have e2 : rmE l k = l := by unfold rmE; rw [hf]
   rw [e1, e2]
   refine jr (h := ?_)
   refine jt (h := ?_)
   refine jr (h := ?_)
   refine jret Tryz.func131 (h := ⟨v, rfl, how⟩)
 | some i =>
   have e1 : findI l k = i := by unfold findI; rw [hf]
   have e2 : rmE l k = l.eraseIdx i := by unfold rmE; rw [hf]
   have hi := (findE_some hf).1
   have hd : decide (0 ≤ (i : Int)) = true := decide_eq_true (by omega)
   have he := ents_erase l i
   have hdel := delE_ok (ents l) (ents_row l) (ents_cell l) i (by rw [hfl]; exact hi) (by rw [hfl]; exact hl) how
   rw [he] at hdel
   rw [e1, e2, hd]
   refine jr (h := ?_)
   refine jif (h1 := fun hc => absurd hc (by first | omega | simp)) (h2 := fun _ => ?_)
   refine jr (h := ?_)
   refine jcs (Δ1 := D) (Fr := []) (hs := hdel) (hp := (by simp)) (hk := ?_) (hpan := (by rintro x Δ' ⟨v, h, _⟩; cases h))
   rintro x D2 ⟨v2, h, how2⟩
   cases h
   rw [List.append_nil]
   refine jr (h := ?_)
   refine jret Tryz.func131 (h := ⟨v2, rfl, by rw [show (ents (l.eraseIdx i)).length = (ents l).length - 1 from by rw [ents_len, ents_len, List.length_eraseIdx_of_lt hi]]; exact how2⟩)
theorem rmE_len (l : List Entry) (k : List UInt8) : (rmE l k).length ≤ l.length := by
 unfold rmE
 split
 · exact List.length_eraseIdx_le _ _
 · exact Nat.le_refl _
theorem rmE_mem {l : List Entry} {k : List UInt8} {x : Entry} (h : x ∈ rmE l k) : x ∈ l := by
 unfold rmE at h
 split at h
 · exact List.mem_of_mem_eraseIdx h
 · exact h
theorem bremove_ok (l : List Entry) (k : List UInt8) (hl : l.length < 2 ^ 30) : ACalls Tryz.prog 131 [.sl 5 (ents l), .c (.string (mkStr k))] [] (Ret (.tup [.sl 5 (ents (rmE l k)), .c (.bool (decide (0 ≤ findI l k)))])) :=
 (bremove_own l k hl).freezeT (ents_row _) (by rw [ents_len]; have := rmE_len l k; unfold maxRows; omega)
end
section
def insK : List Entry → Nat
 | [] => 0
 | x :: l => if 233 < (allB (x :: l)).length then insK l + 1 else 0
def insE (l : List Entry) (x : Entry) : Int × List Entry × List Entry :=
 if checkCode x ≠ 0 then (checkCode x, [], []) else if 233 < (entB x).length then (3, [], [])
 else (0, (rmE l x.key ++ [x]).drop (insK (rmE l x.key ++ [x])), (rmE l x.key ++ [x]).take (insK (rmE l x.key ++ [x])))
theorem insK_step {o : List Entry} {k : Nat} (h : insK o = k + insK (o.drop k)) (hb : 233 < (allB (o.drop k)).length) : k < o.length ∧ insK o = k + 1 + insK (o.drop (k + 1)) := by
 have hk : k < o.length := by
   false_or_by_contra
   rename_i hn
   rw [List.drop_eq_nil_of_le (by omega)] at hb
   simp [allB] at hb
 refine ⟨hk, ?_⟩
 have e : o.drop k = o[k] :: o.drop (k + 1) := List.drop_eq_getElem_cons hk
 have e2 : insK (o[k] :: o.drop (k + 1)) = if 233 < (allB (o[k] :: o.drop (k + 1))).length then insK (o.drop (k + 1)) + 1 else 0 := rfl
 rw [← e, if_pos hb] at e2
 omega
theorem insK_stop {o : List Entry} {k : Nat} (h : insK o = k + insK (o.drop k)) (hb : ¬ 233 < (allB (o.drop k)).length) : insK o = k := by
 rw [h]
 cases hd : o.drop k with
 | nil => simp [insK]
 | cons x l =>
   unfold insK
   rw [if_neg (by rw [← hd]; exact hb)]
   rfl
theorem insert_ok (l : List Entry) (x : Entry) (hw : ∀ y ∈ l, EntW y) (hl : l.length < 2 ^ 18) : ACalls Tryz.prog 97 [.sl 5 (ents l), x.av] [] (fun r Δ => (∃ e, r = .ret (.tup [.sl 5 (ents (insE l x).2.1), .sl 5 (ents (insE l x).2.2), e]) ∧ IsErr e (insE l x).1) ∧ Δ = []) := by
 have hck := icheck_ok x
 have hcp := icopy_ok x
 have hE : insE l x = if checkCode x ≠ 0 then (checkCode x, [], []) else if 233 < (entB x).length then (3, [], []) else (0, (rmE l x.key ++ [x]).drop (insK (rmE l x.key ++ [x])), (rmE l x.key ++ [x]).take (insK (rmE l x.key ++ [x]))) := rfl
 rw [hE]
 clear hE
 have hw1 := entW_iff x
 have hrl := rmE_len l x.key
 have hrm : ∀ y ∈ rmE l x.key, EntW y := fun y hy => hw y (rmE_mem hy)
 have hbr := bremove_own l x.key (by omega)
 have hbs : EntW x → ACalls Tryz.prog 151 [.sl 5 (ents [x])] [] (Ret (.c (.int .i64 (allB [x]).length))) := fun h => bsize_ok [x] (by simpa using h) (by simp)
 have hbo : EntW x → ∀ k, ACalls Tryz.prog 151 [.sl 5 (ents ((rmE l x.key ++ [x]).drop k))] [] (Ret (.c (.int .i64 (allB ((rmE l x.key ++ [x]).drop k)).length))) := fun h k => bsize_ok _ (fun y hy => by
   have := List.mem_of_mem_drop hy
   rcases List.mem_append.1 this with h1 | h1
   · exact hrm y h1
   · rw [List.mem_singleton.1 h1]; exact h) (by rw [List.length_drop, List.length_append, List.length_singleton]; omega)
 have hsn : ents (rmE l x.key ++ [x]) = ents (rmE l x.key) ++ [x.cells] := by simp [ents]
 have hll : (rmE l x.key ++ [x]).length = (rmE l x.key).length + 1 := by simp
 have he1 : allB [x] = entB x := by simp [allB]
 rw [he1] at hbs
 generalize checkCode x = C at *
 generalize hO : rmE l x.key ++ [x] = o at *
 generalize entB x = eb at *
 have hfl := ents_len l
 have hdr : ∀ k, ((ents o).take o.length).drop k = ents (o.drop k) := fun k => by rw [ents_all, ents_drop]
 have htk : ∀ k, (ents o).take k = ents (o.take k) := fun k => by simp [ents]
 have hol := ents_len o
 obtain ⟨k, v, a, e, w⟩ := x
 simp only [Entry.av, Entry.cells] at *
 have hent1 : ents [⟨k, v, a, e, w⟩] = [[.c (.string (mkStr k)), .c (.int .i64 v), .c (.int .i64 a), .c (.int .i64 e), .sl 1 (bytesRows w)]] := rfl
 rw [hent1] at hbs
 refine jen cl_97 Tryz.func97 (h := ?_)
 refine jr (h := ?_)
 refine jcs (Δ1 := []) (Fr := []) (hs := hck) (hp := (List.Perm.refl _)) (hk := ?_) (hpan := (by rintro x Δ' ⟨⟨e, h, _⟩, _⟩; cases h))
 rintro z _ ⟨⟨er, h, he⟩, rfl⟩
 cases h
 simp only [List.append_nil]
 by_cases hC : C = 0
 rotate_left
 · rw [if_pos hC]
   obtain ⟨te, ve, rfl⟩ := iserr_ne he hC
   refine jr (h := ?_)
   refine jt (h := ?_)
   refine jf hfl (h := ?_)
   refine jcs (Δ1 := []) (Fr := []) (hs := (wrapS_ok _ _ he)) (hp := (List.Perm.refl _)) (hk := ?_) (hpan := (by rintro x Δ' ⟨⟨e, h, _⟩, _⟩; cases h))
   rintro z _ ⟨⟨er2, h, he2⟩, rfl⟩
   cases h
   refine jr (h := ?_)
   refine J_wk (t := 4) (by simp only [go_sem]) (nil_le_sl (s := 5)) ?_
   refine J_wk (t := 5) (by simp only [go_sem]) (nil_le_sl (s := 5)) ?_
   refine jret Tryz.func97 (h := ⟨⟨_, rfl, he2⟩, rfl⟩)
 rw [if_neg (fun h => h hC)]
 have hx := hw1.1 hC
 subst hC
 obtain rfl := iserr_zero he
 refine jr (h := ?_)
 refine jn (h := ?_)
 refine jr (h := ?_)
 refine jc (hs := (hbs hx)) (hk := ?_)
 refine jr (h := ?_)
 refine jif (h1 := fun hsz => ?_) (h2 := fun hsz => ?_)
 · rw [if_pos (by omega)]
   refine jr (h := ?_)
   refine jc (hs := newS_ok _ _ _) (hk := ?_)
   refine jr (h := ?_)
   refine J_wk (t := 4) (by simp only [go_sem]) (nil_le_sl (s := 5)) ?_
   refine J_wk (t := 5) (by simp only [go_sem]) (nil_le_sl (s := 5)) ?_
   refine jret Tryz.func97 (h := ⟨⟨_, rfl, errNew_is _ _ 3⟩, rfl⟩)
 rw [if_neg (by omega)]
 refine jr (h := ?_)
 refine jcs (Δ1 := []) (Fr := []) (hs := hbr) (hp := (List.Perm.refl _)) (hk := ?_) (hpan := (by rintro x Δ' ⟨v, h, _⟩; cases h))
 rintro z D ⟨vv, h, how⟩
 cases h
 rw [List.append_nil]
 refine jr (h := ?_)
 refine jc (hs := hcp) (hk := ?_)
 refine jr (own := [38]) (h := ?_)
 refine jap (Fr := []) (how := how) (hp := (by simp)) (hsrc := (by simp only [go_sem] <;> rfl)) (hc := (by rfl)) (hmax := (by rw [ents_len]; omega)) (hk := ?_)
 rintro _ D' ⟨v', _, rfl, rfl, how'⟩
 have how2 : Own 78 5 (ents o).flatten (ents o).length v' D' := by
   rw [hsn, List.flatten_append, List.length_append]
   simpa using how'
 refine J_freezeS (Fr := []) how2 (ents_row _) (by rw [ents_len]; unfold maxRows; omega) ?_
 refine J_is (t := 38) (by simp only [go_sem]) (List.mem_cons_self ..) (J_drop ?_)
 refine jr (h := ?_)
 refine jk [9, 11] (h := ?_)
 refine J_loopI (I := fun m e D => ∃ i : Nat, i ≤ o.length ∧ m = o.length - i ∧ D = [] ∧ insK o = i + insK (o.drop i) ∧ e = [(9, .sl 5 (ents o)), (11, .c (.int .i64 i))]) ?_ ?_
 · exact ⟨_, 0, Nat.zero_le _, rfl, rfl, by simp, rfl⟩
 · rintro m e D ⟨i, hi, rfl, rfl, hk, rfl⟩ ih
   refine jf (cA hol hdr) (h := ?_)
   refine jc (hs := (hbo hx i)) (hk := ?_)
   refine jr (h := ?_)
   refine jif (h1 := fun hc => ?_) (h2 := fun hc => ?_)
   · obtain ⟨q1, q2⟩ := insK_step hk (by omega)
     refine jr (h := ?_)
     refine jk [9, 11] (h := ?_)
     refine ih _ _ _ ?_ ⟨i + 1, q1, rfl, rfl, q2, by simp only [Int.natCast_add, Int.cast_ofNat_Int]⟩
     omega
   · have hK := insK_stop hk (by omega)
     rw [hK]
     have htki := htk i
     refine jr (h := ?_)
     refine jd [(0, .pure), (1, .pure), (2, .pure), (3, .pure), (4, .pure), (5, .pure), (6, .pure), (7, .pure), (8, .pure), (9, .pure), (10, .pure)] mixed (by kernel_rfl) ?_
     refine cf (cB hol hdr htki) (hk := ?_)
     refine ccp (hs := cloneE_ok (o.drop i) (by rw [List.length_drop]; omega)) (hk := ?_)
     refine cf (cB hol hdr htki) (hk := ?_)
     refine ccp (hs := cloneE_ok (o.take i) (by rw [List.length_take]; omega)) (hk := ?_)
     refine cr (hk := ?_)
     refine Can_nil ?_
     refine jret Tryz.func97 (h := ⟨⟨_, rfl, .none⟩, rfl⟩)
theorem rm_but : ∀ {l : List Entry} (k : List UInt8), uniqE l = true → rmE l k = but l k
 | [], k, _ => rfl
 | x :: l, k, hu => by
   have hu2 : uniqE l = true := by
     unfold uniqE at *
     rw [decide_eq_true_eq] at *
     rw [List.map_cons, List.nodup_cons] at hu
     exact hu.2
   have ih := rm_but k hu2
   by_cases hk : x.key = k
   · have e1 : findE (x :: l) k = some 0 := by
       unfold findE; rw [List.findIdx?_cons]; simp [hk]
     have e2 : but l k = l := by
       unfold but
       rw [List.filter_eq_self]
       intro y hy
       unfold uniqE at hu
       rw [decide_eq_true_eq, List.map_cons, List.nodup_cons] at hu
       simp only [decide_eq_true_eq]
       rintro rfl
       exact hu.1 (List.mem_map.2 ⟨y, hy, hk.symm⟩)
     unfold rmE
     rw [e1]
     show l = but (x :: l) k
     unfold but at *
     rw [List.filter_cons_of_neg (by simp [hk])]
     exact e2.symm
   · have e1 : findE (x :: l) k = (findE l k).map (· + 1) := by
       unfold findE; rw [List.findIdx?_cons]; simp [hk]
     have e2 : but (x :: l) k = x :: but l k := by
       unfold but; rw [List.filter_cons_of_pos (by simp [hk])]
     rw [e2, ← ih]
     unfold rmE
     rw [e1]
     cases findE l k with
     | none => rfl
     | some i => rfl
theorem insert12_ok (l : List Entry) (x : Entry) (hw : ∀ y ∈ l, EntW y) (hu : uniqE l = true) (hl : l.length < 2 ^ 18) : ACalls Tryz.prog 134 [.sl 5 (ents l), x.av] [] (Ret (.tup [.sl 5 (ents (insE l x).2.1), .sl 5 (ents (insE l x).2.2), .c (.int .i64 (insE l x).1)])) := by
 have hck := rcheck_ok x
 have hE : insE l x = if checkCode x ≠ 0 then (checkCode x, [], []) else if 233 < (entB x).length then (3, [], []) else (0, (rmE l x.key ++ [x]).drop (insK (rmE l x.key ++ [x])), (rmE l x.key ++ [x]).take (insK (rmE l x.key ++ [x]))) := rfl
 rw [hE]
 clear hE
 have hw1 := entW_iff x
 have hrl := rmE_len l x.key
 have hrm : ∀ y ∈ rmE l x.key, EntW y := fun y hy => hw y (rmE_mem hy)
 have hbr := but_own l x.key (by omega)
 rw [← rm_but x.key hu] at hbr
 have hbs : EntW x → _ := fun h => rsize_ok x h
 have hbo : EntW x → ∀ k, ACalls Tryz.prog 136 [.sl 5 (ents ((rmE l x.key ++ [x]).drop k))] [] (Ret (.sl 1 (bytesRows (allB ((rmE l x.key ++ [x]).drop k))))) := fun h k => rall_ok _ (fun y hy => by
   have := List.mem_of_mem_drop hy
   rcases List.mem_append.1 this with h1 | h1
   · exact hrm y h1
   · rw [List.mem_singleton.1 h1]; exact h) (by rw [List.length_drop, List.length_append, List.length_singleton]; omega)
 have hsn : ents (rmE l x.key ++ [x]) = ents (rmE l x.key) ++ [x.cells] := by simp [ents]
 have hll : (rmE l x.key ++ [x]).length = (rmE l x.key).length + 1 := by simp
 generalize checkCode x = C at *
 generalize hO : rmE l x.key ++ [x] = o at *
 generalize entB x = eb at *
 have hdr : ∀ k, ((ents o).take o.length).drop k = ents (o.drop k) := fun k => by rw [ents_all, ents_drop]
 have htk : ∀ k, (ents o).take k = ents (o.take k) := fun k => by simp [ents]
 have hol := ents_len o
 obtain ⟨k, v, a, e, w⟩ := x
 simp only [Entry.av, Entry.cells] at *
 refine jen cl_134 Tryz.func134 (h := ?_)
 refine jr (h := ?_)
 refine jc (hs := hck) (hk := ?_)
 refine jr (h := ?_)
 refine jif (h1 := fun hC => ?_) (h2 := fun hC => ?_)
 · rw [if_pos hC]
   refine jr (h := ?_)
   refine J_wk (t := 4) (by simp only [go_sem]) (nil_le_sl (s := 5)) ?_
   refine J_wk (t := 5) (by simp only [go_sem]) (nil_le_sl (s := 5)) ?_
   refine jret Tryz.func134 (h := ⟨rfl, rfl⟩)
 rw [if_neg hC]
 have hx := hw1.1 (Classical.not_not.1 hC)
 refine jr (h := ?_)
 refine jc (hs := (hbs hx)) (hk := ?_)
 refine jr (h := ?_)
 refine jif (h1 := fun hsz => ?_) (h2 := fun hsz => ?_)
 · rw [if_pos (by omega)]
   refine jr (h := ?_)
   refine J_wk (t := 4) (by simp only [go_sem]) (nil_le_sl (s := 5)) ?_
   refine J_wk (t := 5) (by simp only [go_sem]) (nil_le_sl (s := 5)) ?_
   refine jret Tryz.func134 (h := ⟨rfl, rfl⟩)
 rw [if_neg (by omega)]
 refine jr (h := ?_)
 refine jd [(0, .pure), (1, .pure), (2, .pure), (4, .pure), (5, .pure), (3, .act), (6, .act), (7, .pure)] mixed (by kernel_rfl) ?_
 refine cr (hk := ?_)
 refine ccs (Δ1 := []) (Fr := []) (hs := hbr) (hp := (List.Perm.refl _)) (hk := ?_) (hn := (by rintro x Δ' ⟨v, h, _⟩; cases h))
 rintro z D ⟨vv, h, how⟩
 cases h
 rw [List.append_nil]
 refine cr (hk := ?_)
 refine Can_bi gS (append_bi gS how (Fr := []) (by simp) (by simp only [go_sem] <;> rfl) (by rfl) (by rw [ents_len]; omega)) ?_
 rintro _ D' ⟨v', _, rfl, rfl, how'⟩
 refine cr (hk := ?_)
 refine Can_nil ?_
 have how2 : Own 78 5 (ents o).flatten (ents o).length v' D' := by
   rw [hsn, List.flatten_append, List.length_append]
   simpa using how'
 refine J_freezeS (Fr := []) how2 (ents_row _) (by rw [ents_len]; unfold maxRows; omega) ?_
 refine J_is (t := 8) (by simp only [go_sem]) (List.mem_cons_self ..) (J_drop ?_)
 refine jr (h := ?_)
 refine jk [8, 9] (h := ?_)
 refine J_loopI (I := fun m e D => ∃ i : Nat, i ≤ o.length ∧ m = o.length - i ∧ D = [] ∧ insK o = i + insK (o.drop i) ∧ e = [(8, .sl 5 (ents o)), (9, .c (.int .i64 i))]) ?_ ?_
 · exact ⟨_, 0, Nat.zero_le _, rfl, rfl, by simp, rfl⟩
 · rintro m e D ⟨i, hi, rfl, rfl, hk, rfl⟩ ih
   refine jf (cA hol hdr) (h := ?_)
   refine jc (hs := (hbo hx i)) (hk := ?_)
   refine jr (h := ?_)
   refine jif (h1 := fun hc => ?_) (h2 := fun hc => ?_)
   · obtain ⟨q1, q2⟩ := insK_step hk (by omega)
     refine jr (h := ?_)
     refine jk [8, 9] (h := ?_)
     refine ih _ _ _ ?_ ⟨i + 1, q1, rfl, rfl, q2, by simp only [Int.natCast_add, Int.cast_ofNat_Int]⟩
     omega
   · have hK := insK_stop hk (by omega)
     rw [hK]
     have htki := htk i
     refine jr (h := ?_)
     refine jd [(0, .pure), (1, .pure), (2, .pure), (3, .pure), (4, .pure), (5, .pure), (6, .pure), (7, .pure), (8, .pure)] mixed (by kernel_rfl) ?_
     refine cf (cB hol hdr htki) (hk := ?_)
     refine Can_nil ?_
     refine jret Tryz.func134 (h := ⟨rfl, rfl⟩)
end
end Go.Proofs.YtjppajaoekbkpaaGreatDoor
namespace Go.Proofs.YtjppajaoekbkpaaGreatDoor
open Go Go.Av
attribute [local go_sem] packed List.set_cons_zero List.set_cons_succ List.cons_append List.nil_append bytesRows_length cellRows_len chRows_len rCells intRows_len
attribute [-go_sem] cellsOf AV.isCell
attribute [local go_sem] cellsOf_agg cellsOf_int cellsOf_bool cellsOf_str cellsOf_map cellsOf_ptr cellsOf_nilI cellsOf_slice cellsOf_sl cellsOf_ifc cellsOf_fp cellsOf_opt optAV_cell icell_int icell_bool icell_str icell_map icell_ptr icell_nilI icell_slice icell_sl icell_ifc icell_fp
attribute [local go_sem] Entry.av Entry.cells rowsBytes_bytesRows Option.map_some Int.cast_ofNat_Int
section
def plN (h : Int) : List Nat := [(h % 128).toNat, (h / 2097152 % 128).toNat, (h / 4398046511104 % 128).toNat]
theorem plN_lt {h : Int} : ∀ p ∈ plN h, p < 128 := by
 intro p hp
 simp only [plN, List.mem_cons, List.not_mem_nil, or_false] at hp
 rcases hp with rfl | rfl | rfl <;> omega
theorem and_low (n : Nat) (k m : Nat) (hm : m = 2 ^ k - 1) (hn : n < 2 ^ 64) (hk : k ≤ 32) : (BitVec.ofInt 64 (n : Int) &&& BitVec.ofInt 64 (m : Int)).toNat = n % 2 ^ k := by
 have hk2 : 2 ^ k ≤ 2 ^ 32 := Nat.pow_le_pow_right (by omega) hk
 have e1 : (BitVec.ofInt 64 (n : Int)).toNat = n := by rw [BitVec.toNat_ofInt]; omega
 have e2 : (BitVec.ofInt 64 (m : Int)).toNat = m := by rw [BitVec.toNat_ofInt]; omega
 rw [BitVec.toNat_and, e1, e2, hm, Nat.and_two_pow_sub_one_eq_mod]
theorem and127u (n : Nat) (hn : n < 2 ^ 64) : aint .and .u64 (n : Int) 127 = some (.c (.int .u64 ((n % 128 : Nat) : Int))) := by
 have h := and_low n 7 127 rfl hn (by decide)
 show some (AV.c (Value.int .u64 (IntKind.u64.wrap ((BitVec.ofInt 64 (n : Int) &&& BitVec.ofInt 64 ((127 : Nat) : Int)).toNat : Int)))) = _
 rw [h, wrap_u64 (by omega) (by omega)]
theorem and63i (n : Nat) (hn : n < 128) : aint .and .i64 (n : Int) 63 = some (.c (.int .i64 ((n % 64 : Nat) : Int))) := by
 have h := and_low n 6 63 rfl (by omega) (by decide)
 show some (AV.c (Value.int .i64 (IntKind.i64.wrap ((BitVec.ofInt 64 (n : Int) &&& BitVec.ofInt 64 ((63 : Nat) : Int)).toNat : Int)))) = _
 rw [h, wrap_i64 (by omega) (by omega)]
theorem and1u (n : Nat) (hn : n < 2 ^ 64) : aint .and .u64 (n : Int) 1 = some (.c (.int .u64 ((n % 2 : Nat) : Int))) := by
 have h := and_low n 1 1 rfl hn (by decide)
 show some (AV.c (Value.int .u64 (IntKind.u64.wrap ((BitVec.ofInt 64 (n : Int) &&& BitVec.ofInt 64 ((1 : Nat) : Int)).toNat : Int)))) = _
 rw [h, wrap_u64 (by omega) (by omega)]
theorem shl1u (j : Nat) (hj : j < 64) : ashift .shl .u64 1 (j : Int) = some (.c (.int .u64 ((2 ^ j : Nat) : Int))) := by
 have hp : 2 ^ j < 2 ^ 64 := Nat.pow_lt_pow_right (by omega) hj
 unfold ashift
 rw [if_neg (by omega)]
 have e : min (j : Int).toNat IntKind.u64.bits = j := by rw [bits_u64]; omega
 simp only [e]
 have e2 : (1 : Int) * 2 ^ j = ((2 ^ j : Nat) : Int) := by rw [Int.one_mul]; norm_cast
 rw [e2, wrap_u64 (Int.natCast_nonneg _) (Int.lt_of_lt_of_le (Int.ofNat_lt.2 hp) (by decide))]
theorem or_u (a b : Nat) (ha : a < 2 ^ 64) (hb : b < 2 ^ 64) : aint .or .u64 (a : Int) (b : Int) = some (.c (.int .u64 ((a ||| b : Nat) : Int))) := by
 have e1 : (BitVec.ofInt 64 (a : Int)).toNat = a := by rw [BitVec.toNat_ofInt]; omega
 have e2 : (BitVec.ofInt 64 (b : Int)).toNat = b := by rw [BitVec.toNat_ofInt]; omega
 have hl : a ||| b < 2 ^ 64 := Nat.or_lt_two_pow ha hb
 show some (AV.c (Value.int .u64 (IntKind.u64.wrap ((BitVec.ofInt 64 (a : Int) ||| BitVec.ofInt 64 (b : Int)).toNat : Int)))) = _
 rw [BitVec.toNat_or, e1, e2, wrap_u64 (by omega) (by omega)]
theorem shr_u (w j : Nat) (hj : j < 64) : ashift .shr .u64 (w : Int) (j : Int) = some (.c (.int .u64 ((w / 2 ^ j : Nat) : Int))) := by
 rw [ashift_shr_u64 (by omega) (by omega) (by omega)]
 have : (j : Int).toNat = j := by omega
 rw [this]; norm_cast
abbrev BF := Nat × Nat
abbrev bfAV (f : BF) : AV := .agg [.c (.int .u64 (f.1 : Int)), .c (.int .u64 (f.2 : Int))]
def setP (f : BF) (p : Nat) : BF := if p < 64 then (f.1 ||| 2 ^ (p % 64), f.2) else (f.1, f.2 ||| 2 ^ (p % 64))
def hasP (f : BF) (p : Nat) : Bool := if p < 64 then f.1.testBit (p % 64) else f.2.testBit (p % 64)
def BFok (f : BF) : Prop := f.1 < 2 ^ 64 ∧ f.2 < 2 ^ 64
theorem setP_ok {f : BF} (h : BFok f) (p : Nat) : BFok (setP f p) := by
 have hp : 2 ^ (p % 64) < 2 ^ 64 := Nat.pow_lt_pow_right (by omega) (Nat.mod_lt _ (by decide))
 unfold setP
 split
 · exact ⟨Nat.or_lt_two_pow h.1 hp, h.2⟩
 · exact ⟨h.1, Nat.or_lt_two_pow h.2 hp⟩
def addF (f : BF) (h : Int) : BF := (plN h).foldl setP f
def mayF (f : BF) (h : Int) : Bool := (plN h).all (hasP f)
theorem addF_ok {f : BF} (hf : BFok f) (h : Int) : BFok (addF f h) := setP_ok (setP_ok (setP_ok hf _) _) _
def ofF (ks : List (List UInt8)) : BF := ks.foldl (fun f k => addF f (hash64 k)) (0, 0)
theorem bits_ok (h : Int) (hh : In64 h) : ACalls Tryz.prog 184 [.c (.int .u64 h)] [] (Ret (.agg [.c (.int .i64 ((h % 128).toNat : Int)), .c (.int .i64 ((h / 2097152 % 128).toNat : Int)), .c (.int .i64 ((h / 4398046511104 % 128).toNat : Int))])) := by
 obtain ⟨h1, h2⟩ := hh
 obtain ⟨n, rfl⟩ : ∃ n : Nat, h = n := ⟨h.toNat, by omega⟩
 have a1' := and127u n (by omega)
 have a2' := and127u (n / 2097152) (by omega)
 have a3' := and127u (n / 4398046511104) (by omega)
 have e1 : (((n : Int) % 128).toNat : Int) = ((n % 128 : Nat) : Int) := by omega
 have e2 : (((n : Int) / 2097152 % 128).toNat : Int) = ((n / 2097152 % 128 : Nat) : Int) := by omega
 have e3 : (((n : Int) / 4398046511104 % 128).toNat : Int) = ((n / 4398046511104 % 128 : Nat) : Int) := by omega
 have hd1 : (n : Int) / 2097152 = ((n / 2097152 : Nat) : Int) := by omega
 have hd2 : (n : Int) / 4398046511104 = ((n / 4398046511104 : Nat) : Int) := by omega
 rw [e1, e2, e3]
 refine jen cl_184 Tryz.func184 (h := ?_)
 refine jr (own := [2]) (h := ?_)
 refine jnv (hh := fun b2 hb2 => ?_)
 refine J_mrun (own := []) (m := 2000) (by simp (maxSteps := 2000000) (disch := omega) only [go_sem, ↓reduceIte, Int.reduceLT, Int.reduceLE, Int.reduceToNat, Int.reducePow, Int.reduceNeg, Nat.reduceBEq, Tryz.ntmps184, a1', a2', a3', hd1, hd2] <;> with_reducible rfl) ?_
 refine J_forget ?_
 refine jret Tryz.func184 (h := ⟨rfl, rfl⟩)
theorem bfidx {p : Nat} (hp : p < 128) : (p < 64 ∧ (p : Int) / 64 = 0) ∨ (¬ p < 64 ∧ (p : Int) / 64 = 1) := by omega
theorem badd_ok (f : BF) (hf : BFok f) (h : Int) (hh : In64 h) : ACalls Tryz.prog 193 [bfAV f, .c (.int .u64 h)] [] (Ret (bfAV (addF f h))) := by
 have hb := bits_ok h hh
 have hpl := plN_lt (h := h)
 have hA : addF f h = setP (setP (setP f (h % 128).toNat) (h / 2097152 % 128).toNat) (h / 4398046511104 % 128).toNat := rfl
 rw [hA]
 have q1 := hpl _ (by simp [plN] : (h % 128).toNat ∈ plN h)
 have q2 := hpl _ (by simp [plN] : (h / 2097152 % 128).toNat ∈ plN h)
 have q3 := hpl _ (by simp [plN] : (h / 4398046511104 % 128).toNat ∈ plN h)
 generalize (h % 128).toNat = p1 at *
 generalize (h / 2097152 % 128).toNat = p2 at *
 generalize (h / 4398046511104 % 128).toNat = p3 at *
 refine jen cl_193 Tryz.func193 (h := ?_)
 refine jr (own := [2]) (h := ?_)
 refine jnb (hh := fun b2 hb2 => ?_)
 simp only [fresh] at hb2
 refine jf (own := [4]) hb2 (h := ?_)
 refine jnv (hh := fun b4 hb4 => ?_)
 simp only [fresh] at hb4
 refine jf (cA hb4 hb2) (h := ?_)
 refine jc (hs := hb) (hk := ?_)
 refine jr (h := ?_)
 refine jk [2, 4, 8, 9] (h := ?_)
 refine J_loopI (I := fun m e D => ∃ (i : Nat) (g : BF) (z : Int), i ≤ 3 ∧ z = i ∧ m = 3 - i ∧ BFok g ∧ (i = 0 → g = f) ∧ (i = 1 → g = setP f p1) ∧ (i = 2 → g = setP (setP f p1) p2) ∧ (i = 3 → g = setP (setP (setP f p1) p2) p3) ∧ D = [.box b4 181 [.c (.int .u64 0), .c (.int .u64 0)], .box b2 181 [.c (.int .u64 (g.1 : Int)), .c (.int .u64 (g.2 : Int))]] ∧ e = [(2, .c (.pointer (some ⟨b2, 0, none⟩))), (4, .c (.pointer (some ⟨b4, 0, none⟩))), (8, .agg [.c (.int .i64 (p1 : Int)), .c (.int .i64 (p2 : Int)), .c (.int .i64 (p3 : Int))]), (9, .c (.int .i64 z))]) ?_ ?_
 · exact ⟨_, 0, f, 0, Nat.zero_le _, rfl, rfl, hf, fun _ => rfl, fun h => by omega, fun h => by omega, fun h => by omega, rfl, rfl⟩
 · rintro m e D ⟨i, g, z, hi, hz, hm, hg, g0, g1, g2, g3, rfl, rfl⟩ ih
   refine jr (h := ?_)
   by_cases hc : i < 3
   · have hw1 := hg.1
     have hw2 := hg.2
     have hstep : ∀ p : Nat, p < 128 → (p % 64 < 64 ∧ 2 ^ (p % 64) < 2 ^ 64) := fun p hp => ⟨Nat.mod_lt _ (by decide), Nat.pow_lt_pow_right (by omega) (Nat.mod_lt _ (by decide))⟩
     refine jif (h1 := fun _ => ?_) (h2 := fun hc => absurd (by first | omega | simp) hc)
     rcases (by omega : i = 0 ∨ i = 1 ∨ i = 2) with hi0 | hi0 | hi0
     · obtain rfl : z = 0 := by omega
       have hst := hstep p1 (by omega)
       have hand := and63i p1 (by omega)
       have hshl := shl1u (p1 % 64) hst.1
       rcases bfidx (p := p1) (by omega) with ⟨hlt, hix⟩ | ⟨hlt, hix⟩
       · have hor := or_u g.1 (2 ^ (p1 % 64)) hw1 hst.2
         have hgo : setP g p1 = (g.1 ||| 2 ^ (p1 % 64), g.2) := by unfold setP; rw [if_pos hlt]
         refine jf (cA hb4 hb2) (h := ?_)
         refine jd [(0, .pure), (1, .pure), (2, .pure), (3, .read), (4, .pure), (5, .pure), (6, .pure), (7, .pure), (8, .pure), (9, .act)] mixed (by kernel_rfl) ?_
         refine cf (cD hb4 hb2 hand hshl (cA hor hix)) (hk := ?_)
         refine Can_nil ?_
         refine jr (h := ?_)
         refine jk [2, 4, 8, 9] (h := ?_)
         refine ih 2 _ _ (by omega) ⟨1, setP g p1, 1, by omega, by omega, by omega, setP_ok hg p1, fun h => by omega, fun _ => by rw [g0 hi0], fun h => by omega, fun h => by omega, by rw [hgo], rfl⟩
       · have hor := or_u g.2 (2 ^ (p1 % 64)) hw2 hst.2
         have hgo : setP g p1 = (g.1, g.2 ||| 2 ^ (p1 % 64)) := by unfold setP; rw [if_neg hlt]
         refine jf (cA hb4 hb2) (h := ?_)
         refine jd [(0, .pure), (1, .pure), (2, .pure), (3, .read), (4, .pure), (5, .pure), (6, .pure), (7, .pure), (8, .pure), (9, .act)] mixed (by kernel_rfl) ?_
         refine cf (cD hb4 hb2 hand hshl (cA hor hix)) (hk := ?_)
         refine Can_nil ?_
         refine jr (h := ?_)
         refine jk [2, 4, 8, 9] (h := ?_)
         refine ih 2 _ _ (by omega) ⟨1, setP g p1, 1, by omega, by omega, by omega, setP_ok hg p1, fun h => by omega, fun _ => by rw [g0 hi0], fun h => by omega, fun h => by omega, by rw [hgo], rfl⟩
     · obtain rfl : z = 1 := by omega
       have hst := hstep p2 (by omega)
       have hand := and63i p2 (by omega)
       have hshl := shl1u (p2 % 64) hst.1
       rcases bfidx (p := p2) (by omega) with ⟨hlt, hix⟩ | ⟨hlt, hix⟩
       · have hor := or_u g.1 (2 ^ (p2 % 64)) hw1 hst.2
         have hgo : setP g p2 = (g.1 ||| 2 ^ (p2 % 64), g.2) := by unfold setP; rw [if_pos hlt]
         refine jf (cA hb4 hb2) (h := ?_)
         refine jd [(0, .pure), (1, .pure), (2, .pure), (3, .read), (4, .pure), (5, .pure), (6, .pure), (7, .pure), (8, .pure), (9, .act)] mixed (by kernel_rfl) ?_
         refine cf (cD hb4 hb2 hand hshl (cA hor hix)) (hk := ?_)
         refine Can_nil ?_
         refine jr (h := ?_)
         refine jk [2, 4, 8, 9] (h := ?_)
         refine ih 1 _ _ (by omega) ⟨2, setP g p2, 2, by omega, by omega, by omega, setP_ok hg p2, fun h => by omega, fun h => by omega, fun _ => by rw [g1 hi0], fun h => by omega, by rw [hgo], rfl⟩
       · have hor := or_u g.2 (2 ^ (p2 % 64)) hw2 hst.2
         have hgo : setP g p2 = (g.1, g.2 ||| 2 ^ (p2 % 64)) := by unfold setP; rw [if_neg hlt]
         refine jf (cA hb4 hb2) (h := ?_)
         refine jd [(0, .pure), (1, .pure), (2, .pure), (3, .read), (4, .pure), (5, .pure), (6, .pure), (7, .pure), (8, .pure), (9, .act)] mixed (by kernel_rfl) ?_
         refine cf (cD hb4 hb2 hand hshl (cA hor hix)) (hk := ?_)
         refine Can_nil ?_
         refine jr (h := ?_)
         refine jk [2, 4, 8, 9] (h := ?_)
         refine ih 1 _ _ (by omega) ⟨2, setP g p2, 2, by omega, by omega, by omega, setP_ok hg p2, fun h => by omega, fun h => by omega, fun _ => by rw [g1 hi0], fun h => by omega, by rw [hgo], rfl⟩
     · obtain rfl : z = 2 := by omega
       have hst := hstep p3 (by omega)
       have hand := and63i p3 (by omega)
       have hshl := shl1u (p3 % 64) hst.1
       rcases bfidx (p := p3) (by omega) with ⟨hlt, hix⟩ | ⟨hlt, hix⟩
       · have hor := or_u g.1 (2 ^ (p3 % 64)) hw1 hst.2
         have hgo : setP g p3 = (g.1 ||| 2 ^ (p3 % 64), g.2) := by unfold setP; rw [if_pos hlt]
         refine jf (cA hb4 hb2) (h := ?_)
         refine jd [(0, .pure), (1, .pure), (2, .pure), (3, .read), (4, .pure), (5, .pure), (6, .pure), (7, .pure), (8, .pure), (9, .act)] mixed (by kernel_rfl) ?_
         refine cf (cD hb4 hb2 hand hshl (cA hor hix)) (hk := ?_)
         refine Can_nil ?_
         refine jr (h := ?_)
         refine jk [2, 4, 8, 9] (h := ?_)
         refine ih 0 _ _ (by omega) ⟨3, setP g p3, 3, by omega, by omega, by omega, setP_ok hg p3, fun h => by omega, fun h => by omega, fun h => by omega, fun _ => by rw [g2 hi0], by rw [hgo], rfl⟩
       · have hor := or_u g.2 (2 ^ (p3 % 64)) hw2 hst.2
         have hgo : setP g p3 = (g.1, g.2 ||| 2 ^ (p3 % 64)) := by unfold setP; rw [if_neg hlt]
         refine jf (cA hb4 hb2) (h := ?_)
         refine jd [(0, .pure), (1, .pure), (2, .pure), (3, .read), (4, .pure), (5, .pure), (6, .pure), (7, .pure), (8, .pure), (9, .act)] mixed (by kernel_rfl) ?_
         refine cf (cD hb4 hb2 hand hshl (cA hor hix)) (hk := ?_)
         refine Can_nil ?_
         refine jr (h := ?_)
         refine jk [2, 4, 8, 9] (h := ?_)
         refine ih 0 _ _ (by omega) ⟨3, setP g p3, 3, by omega, by omega, by omega, setP_ok hg p3, fun h => by omega, fun h => by omega, fun h => by omega, fun _ => by rw [g2 hi0], by rw [hgo], rfl⟩
   · refine jif (h1 := fun hc => absurd hc (by first | omega | simp)) (h2 := fun _ => ?_)
     have hg3 := g3 (by omega)
     subst hg3
     refine jf (cA hb4 hb2) (h := ?_)
     refine J_forget ?_
     refine jretf (cA hb4 hb2) Tryz.func193 (h := ⟨rfl, rfl⟩)
end
section
theorem hasP_bit (f : BF) (p : Nat) : hasP f p = if p < 64 then decide (f.1 / 2 ^ (p % 64) % 2 = 1) else decide (f.2 / 2 ^ (p % 64) % 2 = 1) := by
 unfold hasP
 split <;> exact Nat.testBit_eq_decide_div_mod_eq
theorem bmay_ok (f : BF) (hf : BFok f) (h : Int) (hh : In64 h) : ACalls Tryz.prog 132 [bfAV f, .c (.int .u64 h)] [] (Ret (.c (.bool (mayF f h)))) := by
 have hb := bits_ok h hh
 have hpl := plN_lt (h := h)
 have hM : mayF f h = (hasP f (h % 128).toNat && hasP f (h / 2097152 % 128).toNat && hasP f (h / 4398046511104 % 128).toNat) := by
   simp [mayF, plN, Bool.and_assoc]
 rw [hM]
 have q1 := hpl _ (by simp [plN] : (h % 128).toNat ∈ plN h)
 have q2 := hpl _ (by simp [plN] : (h / 2097152 % 128).toNat ∈ plN h)
 have q3 := hpl _ (by simp [plN] : (h / 4398046511104 % 128).toNat ∈ plN h)
 clear hM
 generalize (h % 128).toNat = p1 at *
 generalize (h / 2097152 % 128).toNat = p2 at *
 generalize (h / 4398046511104 % 128).toNat = p3 at *
 refine jen cl_132 Tryz.func132 (h := ?_)
 refine jr (h := ?_)
 refine jc (hs := hb) (hk := ?_)
 refine jr (h := ?_)
 refine jk [2, 8, 9] (h := ?_)
 refine J_loopI (I := fun m e D => ∃ (i : Nat) (z : Int), i ≤ 3 ∧ z = i ∧ m = 3 - i ∧ (0 < i → hasP f p1 = true) ∧ (1 < i → hasP f p2 = true) ∧ (2 < i → hasP f p3 = true) ∧ D = [] ∧ e = [(2, .fp [.c (.int .u64 (f.1 : Int)), .c (.int .u64 (f.2 : Int))]), (8, .agg [.c (.int .i64 (p1 : Int)), .c (.int .i64 (p2 : Int)), .c (.int .i64 (p3 : Int))]), (9, .c (.int .i64 z))]) ?_ ?_
 · exact ⟨_, 0, 0, Nat.zero_le _, rfl, rfl, fun h => absurd h (by omega), fun h => absurd h (by omega), fun h => absurd h (by omega), rfl, rfl⟩
 · rintro m e D ⟨i, z, hi, hz, hm, g0, g1, g2, rfl, rfl⟩ ih
   refine jr (h := ?_)
   by_cases hc : i < 3
   · refine jif (h1 := fun _ => ?_) (h2 := fun hc => absurd (by first | omega | simp) hc)
     rcases (by omega : i = 0 ∨ i = 1 ∨ i = 2) with hi0 | hi0 | hi0
     · obtain rfl : z = 0 := by omega
       have hst : p1 % 64 < 64 := Nat.mod_lt _ (by decide)
       have h63 := and63i p1 (by omega)
       rcases bfidx (p := p1) (by omega) with ⟨hlt, hix⟩ | ⟨hlt, hix⟩
       · have hand := and1u (f.1 / 2 ^ (p1 % 64)) (Nat.lt_of_le_of_lt (Nat.div_le_self _ _) hf.1)
         have hshr := shr_u f.1 (p1 % 64) hst
         have hH := hasP_bit f p1
         rw [if_pos hlt] at hH
         refine jf (cC h63 hix hshr hand) (h := ?_)
         refine jif (h1 := fun hd => ?_) (h2 := fun hd => ?_)
         · have : hasP f p1 = false := by rw [hH]; exact decide_eq_false (by omega)
           refine jr (h := ?_)
           refine jret Tryz.func132 (h := ⟨by simp [this], rfl⟩)
         · have : hasP f p1 = true := by rw [hH]; exact decide_eq_true (by omega)
           refine jr (h := ?_)
           refine jk [2, 8, 9] (h := ?_)
           refine ih 2 _ _ (by omega) ⟨1, 1, by omega, by omega, by omega, fun _ => this, fun h => absurd h (by omega), fun h => absurd h (by omega), rfl, rfl⟩
       · have hand := and1u (f.2 / 2 ^ (p1 % 64)) (Nat.lt_of_le_of_lt (Nat.div_le_self _ _) hf.2)
         have hshr := shr_u f.2 (p1 % 64) hst
         have hH := hasP_bit f p1
         rw [if_neg hlt] at hH
         refine jf (cC h63 hix hshr hand) (h := ?_)
         refine jif (h1 := fun hd => ?_) (h2 := fun hd => ?_)
         · have : hasP f p1 = false := by rw [hH]; exact decide_eq_false (by omega)
           refine jr (h := ?_)
           refine jret Tryz.func132 (h := ⟨by simp [this], rfl⟩)
         · have : hasP f p1 = true := by rw [hH]; exact decide_eq_true (by omega)
           refine jr (h := ?_)
           refine jk [2, 8, 9] (h := ?_)
           refine ih 2 _ _ (by omega) ⟨1, 1, by omega, by omega, by omega, fun _ => this, fun h => absurd h (by omega), fun h => absurd h (by omega), rfl, rfl⟩
     · obtain rfl : z = 1 := by omega
       have hst : p2 % 64 < 64 := Nat.mod_lt _ (by decide)
       have h63 := and63i p2 (by omega)
       rcases bfidx (p := p2) (by omega) with ⟨hlt, hix⟩ | ⟨hlt, hix⟩
       · have hand := and1u (f.1 / 2 ^ (p2 % 64)) (Nat.lt_of_le_of_lt (Nat.div_le_self _ _) hf.1)
         have hshr := shr_u f.1 (p2 % 64) hst
         have hH := hasP_bit f p2
         rw [if_pos hlt] at hH
         refine jf (cC h63 hix hshr hand) (h := ?_)
         refine jif (h1 := fun hd => ?_) (h2 := fun hd => ?_)
         · have : hasP f p2 = false := by rw [hH]; exact decide_eq_false (by omega)
           refine jr (h := ?_)
           refine jret Tryz.func132 (h := ⟨by simp [this], rfl⟩)
         · have : hasP f p2 = true := by rw [hH]; exact decide_eq_true (by omega)
           refine jr (h := ?_)
           refine jk [2, 8, 9] (h := ?_)
           refine ih 1 _ _ (by omega) ⟨2, 2, by omega, by omega, by omega, fun h => g0 (by omega), fun _ => this, fun h => absurd h (by omega), rfl, rfl⟩
       · have hand := and1u (f.2 / 2 ^ (p2 % 64)) (Nat.lt_of_le_of_lt (Nat.div_le_self _ _) hf.2)
         have hshr := shr_u f.2 (p2 % 64) hst
         have hH := hasP_bit f p2
         rw [if_neg hlt] at hH
         refine jf (cC h63 hix hshr hand) (h := ?_)
         refine jif (h1 := fun hd => ?_) (h2 := fun hd => ?_)
         · have : hasP f p2 = false := by rw [hH]; exact decide_eq_false (by omega)
           refine jr (h := ?_)
           refine jret Tryz.func132 (h := ⟨by simp [this], rfl⟩)
         · have : hasP f p2 = true := by rw [hH]; exact decide_eq_true (by omega)
           refine jr (h := ?_)
           refine jk [2, 8, 9] (h := ?_)
           refine ih 1 _ _ (by omega) ⟨2, 2, by omega, by omega, by omega, fun h => g0 (by omega), fun _ => this, fun h => absurd h (by omega), rfl, rfl⟩
     · obtain rfl : z = 2 := by omega
       have hst : p3 % 64 < 64 := Nat.mod_lt _ (by decide)
       have h63 := and63i p3 (by omega)
       rcases bfidx (p := p3) (by omega) with ⟨hlt, hix⟩ | ⟨hlt, hix⟩
       · have hand := and1u (f.1 / 2 ^ (p3 % 64)) (Nat.lt_of_le_of_lt (Nat.div_le_self _ _) hf.1)
         have hshr := shr_u f.1 (p3 % 64) hst
         have hH := hasP_bit f p3
         rw [if_pos hlt] at hH
         refine jf (cC h63 hix hshr hand) (h := ?_)
         refine jif (h1 := fun hd => ?_) (h2 := fun hd => ?_)
         · have : hasP f p3 = false := by rw [hH]; exact decide_eq_false (by omega)
           refine jr (h := ?_)
           refine jret Tryz.func132 (h := ⟨by simp [this], rfl⟩)
         · have : hasP f p3 = true := by rw [hH]; exact decide_eq_true (by omega)
           refine jr (h := ?_)
           refine jk [2, 8, 9] (h := ?_)
           refine ih 0 _ _ (by omega) ⟨3, 3, by omega, by omega, by omega, fun h => g0 (by omega), fun h => g1 (by omega), fun _ => this, rfl, rfl⟩
       · have hand := and1u (f.2 / 2 ^ (p3 % 64)) (Nat.lt_of_le_of_lt (Nat.div_le_self _ _) hf.2)
         have hshr := shr_u f.2 (p3 % 64) hst
         have hH := hasP_bit f p3
         rw [if_neg hlt] at hH
         refine jf (cC h63 hix hshr hand) (h := ?_)
         refine jif (h1 := fun hd => ?_) (h2 := fun hd => ?_)
         · have : hasP f p3 = false := by rw [hH]; exact decide_eq_false (by omega)
           refine jr (h := ?_)
           refine jret Tryz.func132 (h := ⟨by simp [this], rfl⟩)
         · have : hasP f p3 = true := by rw [hH]; exact decide_eq_true (by omega)
           refine jr (h := ?_)
           refine jk [2, 8, 9] (h := ?_)
           refine ih 0 _ _ (by omega) ⟨3, 3, by omega, by omega, by omega, fun h => g0 (by omega), fun h => g1 (by omega), fun _ => this, rfl, rfl⟩
   · refine jif (h1 := fun hc => absurd hc (by first | omega | simp)) (h2 := fun _ => ?_)
     refine jr (h := ?_)
     refine jret Tryz.func132 (h := ⟨by rw [g0 (by omega), g1 (by omega), g2 (by omega)]; rfl, rfl⟩)
def strRows (ks : List (List UInt8)) : List (List AV) := ks.map fun k => [.c (.string (mkStr k))]
theorem strRows_len (ks : List (List UInt8)) : (strRows ks).length = ks.length := by simp [strRows]
theorem strRows_row (ks : List (List UInt8)) : ∀ r ∈ strRows ks, r.length = 1 := by
 intro r hr; obtain ⟨k, -, rfl⟩ := List.mem_map.1 hr; rfl
theorem strRows_get {ks : List (List UInt8)} {i : Nat} {k : List UInt8} (h : ks[i]? = some k) : (strRows ks)[i]? = some [.c (.string (mkStr k))] := by simp [strRows, h]
theorem strRows_snoc {e : TypeId} {ks : List (List UInt8)} {k : List UInt8} {v : Value} {D : List HP} (h : Own e 1 ((strRows ks).flatten ++ [.c (.string (mkStr k))]) ((strRows ks).length + 1) v D) : Own e 1 (strRows (ks ++ [k])).flatten (strRows (ks ++ [k])).length v D := by
 have e1 : strRows (ks ++ [k]) = strRows ks ++ [[.c (.string (mkStr k))]] := by simp [strRows]
 rw [e1, List.flatten_append, List.length_append]
 simpa using h
theorem ofF_snoc (ks : List (List UInt8)) (k : List UInt8) : ofF (ks ++ [k]) = addF (ofF ks) (hash64 k) := by unfold ofF; rw [List.foldl_append, List.foldl_cons, List.foldl_nil]
theorem ofF_ok (ks : List (List UInt8)) : BFok (ofF ks) := by
 have : ∀ (l : List (List UInt8)) (f : BF), BFok f → BFok (l.foldl (fun f k => addF f (hash64 k)) f) := fun l => by
   induction l with
   | nil => exact fun f h => h
   | cons k l ih => exact fun f h => ih _ (addF_ok h _)
 exact this ks (0, 0) ⟨by decide, by decide⟩
theorem hash64_in (k : List UInt8) : In64 (hash64 k) := fold64_in _
theorem bof_ok (ks : List (List UInt8)) (hkl : ks.length < 2 ^ 30) (hk : ∀ k ∈ ks, k.length < 2 ^ 62) : ACalls Tryz.prog 149 [.sl 1 (strRows ks)] [] (Ret (bfAV (ofF ks))) := by
 have hsl := strRows_len ks
 refine jen cl_149 Tryz.func149 (h := ?_)
 refine jr (own := [2]) (h := ?_)
 refine jnv (hh := fun b2 hb2 => ?_)
 simp only [fresh] at hb2
 refine jf (own := [3]) hb2 (h := ?_)
 refine jnv (hh := fun b3 hb3 => ?_)
 simp only [fresh] at hb3
 refine jf (cB hb3 hb2 hsl) (h := ?_)
 refine jk [2, 3, 6, 7, 8] (h := ?_)
 refine J_loopI (I := fun m e D => ∃ i : Nat, i ≤ ks.length ∧ m = ks.length - i ∧ D = [.box b3 181 [.c (.int .u64 ((ofF (ks.take i)).1 : Int)), .c (.int .u64 ((ofF (ks.take i)).2 : Int))], .box b2 181 [.c (.int .u64 0), .c (.int .u64 0)]] ∧ e = [(2, .c (.pointer (some ⟨b2, 0, none⟩))), (3, .c (.pointer (some ⟨b3, 0, none⟩))), (6, .sl 1 (strRows ks)), (7, .c (.int .i64 ks.length)), (8, .c (.int .i64 i))]) ?_ ?_
 · exact ⟨_, 0, Nat.zero_le _, rfl, rfl, rfl⟩
 · rintro m e D ⟨i, hi, rfl, rfl, rfl⟩ ih
   refine jr (h := ?_)
   refine jif (h1 := fun hc => ?_) (h2 := fun hc => ?_)
   · have hlt : i < ks.length := by omega
     have g1 := strRows_get (List.getElem?_eq_getElem hlt)
     have h0 : (0 : Int) ≤ (i : Int) := by omega
     have hh := bhash_ok ks[i] (hk _ (List.getElem_mem hlt))
     have hadd := badd_ok (ofF (ks.take i)) (ofF_ok _) (hash64 ks[i]) (hash64_in _)
     have htk : ks.take (i + 1) = ks.take i ++ [ks[i]] := by rw [List.take_add_one, List.getElem?_eq_getElem hlt]; rfl
     rw [← ofF_snoc, ← htk] at hadd
     refine jf (cC hb3 hb2 g1 hsl) (h := ?_)
     refine jd [(0, .read), (1, .pure), (2, .pure), (3, .pure), (4, .act)] mixed (by kernel_rfl) ?_
     refine cf (cA hb3 hb2) (hk := ?_)
     refine ccp (hs := hh) (hk := ?_)
     refine cr (hk := ?_)
     refine ccp (hs := hadd) (hk := ?_)
     refine cf (cA hb3 hb2) (hk := ?_)
     refine Can_nil ?_
     refine jr (h := ?_)
     refine jk [2, 3, 6, 7, 8] (h := ?_)
     refine ih _ _ _ ?_ ⟨i + 1, hlt, rfl, rfl, by simp only [Int.natCast_add, Int.cast_ofNat_Int]⟩
     omega
   · have hi' : i = ks.length := by omega
     subst hi'
     rw [List.take_length]
     refine jf (cA hb3 hb2) (h := ?_)
     refine J_forget ?_
     refine jretf (cA hb3 hb2) Tryz.func149 (h := ⟨rfl, rfl⟩)
def keysE (l : List Entry) : List (List UInt8) := l.map (·.key)
theorem bfilter_ok (l : List Entry) (hw : ∀ y ∈ l, y.key.length < 2 ^ 62) (hl : l.length < 2 ^ 30) : ACalls Tryz.prog 96 [.sl 5 (ents l)] [] (Ret (bfAV (ofF (keysE l)))) := by
 have hof := bof_ok (keysE l) (by unfold keysE; rw [List.length_map]; exact hl) (by intro k hk; obtain ⟨y, hy, rfl⟩ := List.mem_map.1 hk; exact hw y hy)
 have hel := ents_len l
 refine jen cl_96 Tryz.func96 (h := ?_)
 refine jr (own := [2]) (h := ?_)
 refine jnv (hh := fun b2 hb2 => ?_)
 simp only [fresh] at hb2
 refine jf (cA hb2 hel) (h := ?_)
 refine jk [2, 3, 6, 7, 8] (h := ?_)
 refine J_loopI (I := fun m e D => ∃ (i : Nat) (v : Value) (Dv : List HP), i ≤ l.length ∧ m = l.length - i ∧ Own 9 1 (strRows (keysE (l.take i))).flatten (strRows (keysE (l.take i))).length v Dv ∧ D = .box b2 181 [.c (.int .u64 0), .c (.int .u64 0)] :: Dv ∧ e = [(2, .c (.pointer (some ⟨b2, 0, none⟩))), (3, .c v), (6, .sl 5 (ents l)), (7, .c (.int .i64 l.length)), (8, .c (.int .i64 i))]) ?_ ?_
 · exact ⟨_, 0, _, [], Nat.zero_le _, rfl, .nil none (by simp [strRows, keysE]) (by simp [strRows, keysE]), rfl, rfl⟩
 · rintro m e D ⟨i, v, Dv, hi, rfl, how, rfl, rfl⟩ ih
   refine jr (h := ?_)
   refine jif (h1 := fun hc => ?_) (h2 := fun hc => ?_)
   · have hlt : i < l.length := by omega
     have g1 := ents_get (List.getElem?_eq_getElem hlt)
     have h0 : (0 : Int) ≤ (i : Int) := by omega
     have htk : keysE (l.take (i + 1)) = keysE (l.take i) ++ [l[i].key] := by unfold keysE; rw [List.take_add_one, List.getElem?_eq_getElem hlt, List.map_append]; rfl
     refine jf (own := [5]) (cA g1 hel) (h := ?_)
     refine jnv (hh := fun b5 hb5 => ?_)
     refine jm 1 (h := ?_)
     refine J_freeze (s := 5) (o := 0) (by simp only [go_sem]) ?_
     simp only [List.drop_zero]
     refine jr (own := [16]) (h := ?_)
     refine jap (Fr := [_]) (how := how) (hp := (List.Perm.refl _)) (hsrc := (by simp only [go_sem] <;> rfl)) (hc := (by rfl)) (hmax := (by rw [strRows_len]; unfold keysE; rw [List.length_map, List.length_take]; omega)) (hk := ?_)
     rintro _ _ ⟨v', D', rfl, rfl, how'⟩
     refine jr (h := ?_)
     refine jk [2, 3, 6, 7, 8] (h := ?_)
     refine ih _ _ _ ?_ ⟨i + 1, v', D', hlt, rfl, by rw [htk]; exact strRows_snoc how', rfl, by simp only [Int.natCast_add, Int.cast_ofNat_Int]⟩
     omega
   · have hi' : i = l.length := by omega
     subst hi'
     rw [List.take_length] at how
     refine jr (h := ?_)
     refine J_freezeS (Fr := [_]) how (strRows_row _) (by rw [strRows_len]; unfold keysE maxRows; rw [List.length_map]; omega) ?_
     refine J_is (t := 18) (by simp only [go_sem]) (List.mem_cons_self ..) (J_drop ?_)
     refine jc (hs := hof) (hk := ?_)
     refine jr (h := ?_)
     refine J_forget ?_
     refine jret Tryz.func96 (h := ⟨rfl, rfl⟩)
end
section
def addU (out : List Nat) (p : Nat) : List Nat := if p ∈ out then out else out ++ [p]
def setR (hs : List Int) : List Nat := hs.foldl (fun o h => (plN h).foldl addU o) []
def mayR (hs : List Int) (h : Int) : Bool := (plN h).all fun p => decide (p ∈ setR hs)
theorem addU_mem (out : List Nat) (p q : Nat) : q ∈ addU out p ↔ q ∈ out ∨ q = p := by
 unfold addU
 split
 · rename_i h
   exact ⟨.inl, fun h2 => h2.elim id (fun e => e ▸ h)⟩
 · simp
theorem addUs_mem (q : Nat) : ∀ (ps out : List Nat), q ∈ ps.foldl addU out ↔ q ∈ out ∨ q ∈ ps
 | [], out => by simp
 | p :: ps, out => by rw [List.foldl_cons, addUs_mem q ps, addU_mem, List.mem_cons, or_assoc]
theorem setR_mem (q : Nat) : ∀ (hs : List Int) (out : List Nat), q ∈ hs.foldl (fun o h => (plN h).foldl addU o) out ↔ q ∈ out ∨ ∃ h ∈ hs, q ∈ plN h
 | [], out => by simp
 | h :: hs, out => by rw [List.foldl_cons, setR_mem q hs, addUs_mem]; simp [or_assoc]
theorem addU_len (out : List Nat) (p : Nat) : (addU out p).length ≤ out.length + 1 := by unfold addU; split <;> simp
theorem addUs_len : ∀ (ps out : List Nat), (ps.foldl addU out).length ≤ out.length + ps.length
 | [], out => by simp
 | p :: ps, out => by
   have h1 := addUs_len ps (addU out p)
   have h2 := addU_len out p
   rw [List.foldl_cons, List.length_cons]; omega
theorem setR_len : ∀ (hs : List Int) (out : List Nat), (hs.foldl (fun o h => (plN h).foldl addU o) out).length ≤ out.length + 3 * hs.length
 | [], out => by simp
 | h :: hs, out => by
   have h1 := setR_len hs ((plN h).foldl addU out)
   have h2 := addUs_len (plN h) out
   have h3 : (plN h).length = 3 := rfl
   rw [List.foldl_cons, List.length_cons]; omega
theorem places_ok (h : Int) (hh : In64 h) : ACalls Tryz.prog 189 [.c (.int .u64 h)] [] (Ret (.sl 1 (natRows (plN h)))) := by
 have e1 := aint_quo_u64 hh (b := 2097152) (by omega)
 have e2 := aint_quo_u64 hh (b := 4398046511104) (by omega)
 have w1 : ((h % 128).toNat : Int) = h % 128 := Int.toNat_of_nonneg (by omega)
 have w2 : ((h / 2097152 % 128).toNat : Int) = h / 2097152 % 128 := Int.toNat_of_nonneg (by omega)
 have w3 : ((h / 4398046511104 % 128).toNat : Int) = h / 4398046511104 % 128 := Int.toNat_of_nonneg (by omega)
 obtain ⟨h1, h2⟩ := hh
 have hn : natRows (plN h) = [[.c (.int .i64 (h % 128))], [.c (.int .i64 (h / 2097152 % 128))], [.c (.int .i64 (h / 4398046511104 % 128))]] := by
   unfold natRows plN; simp only [List.map_cons, List.map_nil, w1, w2, w3]
 rw [hn]
 refine jen cl_189 Tryz.func189 (h := ?_)
 refine jf (cA e1 e2) (h := ?_)
 refine jret Tryz.func189 (h := ⟨rfl, rfl⟩)
theorem natRows_row (l : List Nat) : ∀ r ∈ natRows l, r.length = 1 := by
 intro r hr; obtain ⟨k, -, rfl⟩ := List.mem_map.1 hr; rfl
theorem natRows_snoc {e : TypeId} {l : List Nat} {k : Nat} {v : Value} {D : List HP} (h : Own e 1 ((natRows l).flatten ++ [.c (.int .i64 (k : Int))]) ((natRows l).length + 1) v D) : Own e 1 (natRows (l ++ [k])).flatten (natRows (l ++ [k])).length v D := by
 have e1 : natRows (l ++ [k]) = natRows l ++ [[.c (.int .i64 (k : Int))]] := by simp [natRows]
 rw [e1, List.flatten_append, List.length_append]
 simpa using h
theorem natRows_flat (l : List Nat) : (natRows l).flatten = l.map fun (n : Nat) => .c (.int .i64 (n : Int)) := by
 induction l with
 | nil => rfl
 | cons x l ih =>
   have e : natRows (x :: l) = [.c (.int .i64 (x : Int))] :: natRows l := rfl
   rw [e, List.flatten_cons, ih]; rfl
def u64Rows (hs : List Int) : List (List AV) := hs.map fun h => [.c (.int .u64 h)]
theorem u64Rows_len (hs : List Int) : (u64Rows hs).length = hs.length := by simp [u64Rows]
theorem u64Rows_row (hs : List Int) : ∀ r ∈ u64Rows hs, r.length = 1 := by
 intro r hr; obtain ⟨k, -, rfl⟩ := List.mem_map.1 hr; rfl
theorem u64Rows_get {hs : List Int} {i : Nat} {h : Int} (e : hs[i]? = some h) : (u64Rows hs)[i]? = some [.c (.int .u64 h)] := by simp [u64Rows, e]
theorem u64Rows_snoc {e : TypeId} {l : List Int} {k : Int} {v : Value} {D : List HP} (h : Own e 1 ((u64Rows l).flatten ++ [.c (.int .u64 k)]) ((u64Rows l).length + 1) v D) : Own e 1 (u64Rows (l ++ [k])).flatten (u64Rows (l ++ [k])).length v D := by
 have e1 : u64Rows (l ++ [k]) = u64Rows l ++ [[.c (.int .u64 k)]] := by simp [u64Rows]
 rw [e1, List.flatten_append, List.length_append]
 simpa using h
theorem keys07_ok (ks : List (List UInt8)) (hkl : ks.length < 2 ^ 30) (hk : ∀ k ∈ ks, k.length < 2 ^ 62) : ACalls Tryz.prog 139 [.sl 1 (strRows ks)] [] (Ret (.sl 1 (u64Rows (ks.map hash64)))) := by
 have hsl := strRows_len ks
 refine jen cl_139 Tryz.func139 (h := ?_)
 refine jr (h := ?_)
 refine jk [0, 3, 4] (h := ?_)
 refine J_loopI (I := fun m e D => ∃ (i : Nat) (v : Value), i ≤ ks.length ∧ m = ks.length - i ∧ Own 108 1 (u64Rows ((ks.take i).map hash64)).flatten (u64Rows ((ks.take i).map hash64)).length v D ∧ e = [(0, .sl 1 (strRows ks)), (3, .c v), (4, .c (.int .i64 i))]) ?_ ?_
 · exact ⟨_, 0, _, Nat.zero_le _, rfl, .nil none (by simp [u64Rows]) (by simp [u64Rows]), rfl⟩
 · rintro m e D ⟨i, v, hi, rfl, how, rfl⟩ ih
   refine jf hsl (h := ?_)
   refine jif (h1 := fun hc => ?_) (h2 := fun hc => ?_)
   · have hlt : i < ks.length := by omega
     have g1 := strRows_get (List.getElem?_eq_getElem hlt)
     have h0 : (0 : Int) ≤ (i : Int) := by omega
     have hh := rhash_ok ks[i] (hk _ (List.getElem_mem hlt))
     have htk : (ks.take (i + 1)).map hash64 = (ks.take i).map hash64 ++ [hash64 ks[i]] := by rw [List.take_add_one, List.getElem?_eq_getElem hlt, List.map_append]; rfl
     refine jf (cA g1 hsl) (h := ?_)
     refine jc (hs := hh) (hk := ?_)
     refine jr (own := [18]) (h := ?_)
     refine jap (Fr := []) (how := how) (hp := (by simp)) (hsrc := (by simp only [go_sem] <;> rfl)) (hc := (by rfl)) (hmax := (by rw [u64Rows_len, List.length_map, List.length_take]; omega)) (hk := ?_)
     rintro _ D' ⟨v', _, rfl, rfl, how'⟩
     refine jr (h := ?_)
     refine jk [0, 3, 4] (h := ?_)
     refine ih _ _ _ ?_ ⟨i + 1, v', hlt, rfl, by rw [htk]; exact u64Rows_snoc how', by simp only [Int.natCast_add, Int.cast_ofNat_Int]⟩
     omega
   · have hi' : i = ks.length := by omega
     subst hi'
     rw [List.take_length] at how
     refine jr (h := ?_)
     refine J_freezeS (Fr := []) how (u64Rows_row _) (by rw [u64Rows_len, List.length_map]; unfold maxRows; omega) ?_
     refine J_is (t := 2) (by simp only [go_sem]) (List.mem_cons_self ..) (J_drop ?_)
     refine jret Tryz.func139 (h := ⟨rfl, rfl⟩)
theorem keys12_ok (l : List Entry) (hl : l.length < 2 ^ 30) : ACalls Tryz.prog 140 [.sl 5 (ents l)] [] (Ret (.sl 1 (strRows (keysE l)))) := by
 have hel := ents_len l
 refine jen cl_140 Tryz.func140 (h := ?_)
 refine jr (h := ?_)
 refine jk [0, 3, 4] (h := ?_)
 refine J_loopI (I := fun m e D => ∃ (i : Nat) (v : Value), i ≤ l.length ∧ m = l.length - i ∧ Own 9 1 (strRows (keysE (l.take i))).flatten (strRows (keysE (l.take i))).length v D ∧ e = [(0, .sl 5 (ents l)), (3, .c v), (4, .c (.int .i64 i))]) ?_ ?_
 · exact ⟨_, 0, _, Nat.zero_le _, rfl, .nil none (by simp [strRows, keysE]) (by simp [strRows, keysE]), rfl⟩
 · rintro m e D ⟨i, v, hi, rfl, how, rfl⟩ ih
   refine jf hel (h := ?_)
   refine jif (h1 := fun hc => ?_) (h2 := fun hc => ?_)
   · have hlt : i < l.length := by omega
     have g1 := ents_get (List.getElem?_eq_getElem hlt)
     have h0 : (0 : Int) ≤ (i : Int) := by omega
     have htk : keysE (l.take (i + 1)) = keysE (l.take i) ++ [l[i].key] := by unfold keysE; rw [List.take_add_one, List.getElem?_eq_getElem hlt, List.map_append]; rfl
     refine jf (own := [18]) (cA g1 hel) (h := ?_)
     refine jap (Fr := []) (how := how) (hp := (by simp)) (hsrc := (by simp only [go_sem] <;> rfl)) (hc := (by rfl)) (hmax := (by rw [strRows_len]; unfold keysE; rw [List.length_map, List.length_take]; omega)) (hk := ?_)
     rintro _ D' ⟨v', _, rfl, rfl, how'⟩
     refine jr (h := ?_)
     refine jk [0, 3, 4] (h := ?_)
     refine ih _ _ _ ?_ ⟨i + 1, v', hlt, rfl, by rw [htk]; exact strRows_snoc how', by simp only [Int.natCast_add, Int.cast_ofNat_Int]⟩
     omega
   · have hi' : i = l.length := by omega
     subst hi'
     rw [List.take_length] at how
     refine jr (h := ?_)
     refine J_freezeS (Fr := []) how (strRows_row _) (by rw [strRows_len]; unfold keysE maxRows; rw [List.length_map]; omega) ?_
     refine J_is (t := 2) (by simp only [go_sem]) (List.mem_cons_self ..) (J_drop ?_)
     refine jret Tryz.func140 (h := ⟨rfl, rfl⟩)
theorem own_nats {o2 : List Nat} {v : Value} {D : List HP} (how : Own 3 1 (natRows o2).flatten (natRows o2).length v D) (hne : 0 < o2.length) : ∃ b cap sp, v = .slice (some ⟨b, 0, none⟩) o2.length cap ∧ D = [.box b 3 ((o2.map fun (n : Nat) => .c (.int .i64 (n : Int))) ++ sp)] ∧ o2.length ≤ cap := by
 have hl := natRows_len o2
 have hf := natRows_flat o2
 generalize (natRows o2).flatten = cells at *
 generalize (natRows o2).length = len at *
 subst hl hf
 cases how with
 | nil a e1 e2 => omega
 | box b cap sp c1 c2 c3 => exact ⟨b, cap, sp, rfl, rfl, c3⟩
theorem set07_ok (hs : List Int) (hh : ∀ h ∈ hs, In64 h) (hl : hs.length < 2 ^ 20) : ACalls Tryz.prog 188 [.sl 1 (u64Rows hs)] [] (Ret (.sl 1 (natRows (setR hs)))) := by
 have hul := u64Rows_len hs
 refine jen cl_188 Tryz.func188 (h := ?_)
 refine jr (h := ?_)
 refine jk [0, 3, 4] (h := ?_)
 refine J_loopI (I := fun m e D => ∃ (i : Nat) (v : Value) (out : List Nat), i ≤ hs.length ∧ m = hs.length - i ∧ out = setR (hs.take i) ∧ out.length ≤ 3 * i ∧ Own 3 1 (natRows out).flatten (natRows out).length v D ∧ e = [(0, .sl 1 (u64Rows hs)), (3, .c v), (4, .c (.int .i64 i))]) ?_ ?_
 · exact ⟨_, 0, _, [], Nat.zero_le _, rfl, rfl, Nat.zero_le _, .nil none (by simp [natRows]) (by simp [natRows]), rfl⟩
 · rintro m e D ⟨i, v, out, hi, rfl, ho, hol, how, rfl⟩ ih
   refine jf hul (h := ?_)
   refine jif (h1 := fun hc => ?_) (h2 := fun hc => ?_)
   · have hlt : i < hs.length := by omega
     have g1 := u64Rows_get (List.getElem?_eq_getElem hlt)
     have h0 : (0 : Int) ≤ (i : Int) := by omega
     have hp := places_ok hs[i] (hh _ (List.getElem_mem hlt))
     have htk : setR (hs.take (i + 1)) = (plN hs[i]).foldl addU (setR (hs.take i)) := by
       unfold setR; rw [List.take_add_one, List.getElem?_eq_getElem hlt, List.foldl_append]; rfl
     have hpl : (plN hs[i]).length = 3 := rfl
     generalize plN hs[i] = ps at *
     refine jf (cA g1 hul) (h := ?_)
     refine jc (hs := hp) (hk := ?_)
     refine jr (h := ?_)
     refine jk [0, 3, 4, 5, 6] (h := ?_)
     refine J_loopI (I := fun m2 e D => ∃ (k : Nat) (v : Value) (o2 : List Nat), k ≤ 3 ∧ m2 = 3 - k ∧ o2 = (ps.take k).foldl addU out ∧ o2.length ≤ out.length + k ∧ Own 3 1 (natRows o2).flatten (natRows o2).length v D ∧ e = [(0, .sl 1 (u64Rows hs)), (3, .c v), (4, .c (.int .i64 i)), (5, .sl 1 (natRows ps)), (6, .c (.int .i64 k))]) ?_ ?_
     · exact ⟨_, 0, v, out, by omega, rfl, rfl, by omega, how, rfl⟩
     · rintro m2 e D ⟨k, v, o2, hk, rfl, ho2, hol2, how, rfl⟩ ih2
       refine jr (h := ?_)
       refine jif (h1 := fun hc2 => ?_) (h2 := fun hc2 => ?_)
       · have hlk : k < ps.length := by omega
         have g2 := natRows_get (List.getElem?_eq_getElem hlk)
         have h0k : (0 : Int) ≤ (k : Int) := by omega
         have hnl := natRows_len ps
         have hno := natRows_len o2
         have htk2 : (ps.take (k + 1)).foldl addU out = addU o2 ps[k] := by
           rw [List.take_add_one, List.getElem?_eq_getElem hlk, List.foldl_append, ho2]; rfl
         refine jr (h := ?_)
         refine jk [0, 3, 4, 5, 6, 7, 8] (h := ?_)
         refine J_loopI (I := fun m3 e D' => ∃ (j : Nat), j ≤ o2.length ∧ m3 = o2.length - j ∧ D' = D ∧ e = [(0, .sl 1 (u64Rows hs)), (3, .c v), (4, .c (.int .i64 i)), (5, .sl 1 (natRows ps)), (6, .c (.int .i64 k)), (7, .c (.bool (decide (ps[k] ∈ o2.take j)))), (8, .c (.int .i64 j))]) ?_ ?_
         · exact ⟨_, 0, by omega, rfl, rfl, by simp⟩
         · rintro m3 e D' ⟨j, hj, rfl, rfl, rfl⟩ ih3
           obtain ⟨av, cv, hv⟩ := how.slice
           rw [hno] at hv
           subst hv
           refine jr (h := ?_)
           refine jif (h1 := fun hcj => ?_) (h2 := fun hcj => ?_)
           · have hjl : j < o2.length := by omega
             obtain ⟨b, cap, sp, hv, rfl, hcap⟩ := own_nats how (by omega)
             cases hv
             have hget : (o2.map fun (n : Nat) => (AV.c (.int .i64 (n : Int))))[j]? = some (.c (.int .i64 (o2[j] : Int))) := by simp [List.getElem?_eq_getElem hjl]
             have h0j : (0 : Int) ≤ (j : Int) := by omega
             have htj : ps[k] ∈ o2.take (j + 1) ↔ ps[k] ∈ o2.take j ∨ o2[j] = ps[k] := by
               rw [List.take_add_one, List.getElem?_eq_getElem hjl, List.mem_append]
               simp [eq_comm]
             cases hm : decide (ps[k] ∈ o2.take j) with
             | true =>
               have hm2 : decide (ps[k] ∈ o2.take (j + 1)) = true := decide_eq_true (htj.2 (.inl (of_decide_eq_true hm)))
               refine jr (h := ?_)
               refine jd [(0, .pure), (1, .pure), (2, .pure), (3, .pure), (4, .pure), (5, .read), (6, .pure), (7, .pure), (8, .pure), (9, .pure), (10, .pure), (11, .pure), (12, .pure)] mixed (by kernel_rfl) ?_
               refine cr (hk := ?_)
               refine Can_nil ?_
               refine jr (h := ?_)
               refine jk [0, 3, 4, 5, 6, 7, 8] (h := ?_)
               refine ih3 _ _ _ ?_ ⟨j + 1, hjl, rfl, rfl, by rw [hm2]; simp only [Int.natCast_add, Int.cast_ofNat_Int]⟩
               omega
             | false =>
               refine jr (h := ?_)
               refine jd [(0, .pure), (1, .pure), (2, .pure), (3, .pure), (4, .pure), (5, .read), (6, .pure), (7, .pure), (8, .pure), (9, .pure), (10, .pure), (11, .pure), (12, .pure)] mixed (by kernel_rfl) ?_
               have hrd : (List.drop (j * 1) ((o2.map fun (n : Nat) => (AV.c (.int .i64 (n : Int)))) ++ sp))[0]? = some (.c (.int .i64 (o2[j] : Int))) := by
                 rw [Nat.mul_one, List.getElem?_drop, Nat.add_zero, List.getElem?_append_left (by simpa using hjl)]
                 exact hget
               have hm2 : decide ((o2[j] : Int) = (ps[k] : Int)) = decide (ps[k] ∈ o2.take (j + 1)) := by
                 have h1 := of_decide_eq_false hm
                 by_cases he : o2[j] = ps[k]
                 · rw [decide_eq_true (show (o2[j] : Int) = (ps[k] : Int) by omega), decide_eq_true (htj.2 (.inr he))]
                 · rw [decide_eq_false (show ¬ (o2[j] : Int) = (ps[k] : Int) by omega), decide_eq_false (fun h => (htj.1 h).elim h1 he)]
               refine cf (cB g2 hnl hrd) (hk := ?_)
               refine Can_nil ?_
               refine jr (h := ?_)
               refine jk [0, 3, 4, 5, 6, 7, 8] (h := ?_)
               refine ih3 _ _ _ ?_ ⟨j + 1, hjl, rfl, rfl, by rw [← hm2]; simp only [Int.natCast_add, Int.cast_ofNat_Int]⟩
               omega
           · have hj' : j = o2.length := by omega
             subst hj'
             rw [List.take_length]
             have hau : addU o2 ps[k] = if ps[k] ∈ o2 then o2 else o2 ++ [ps[k]] := rfl
             cases hm : decide (ps[k] ∈ o2) with
             | true =>
               rw [if_pos (of_decide_eq_true hm)] at hau
               refine jr (h := ?_)
               refine jn (h := ?_)
               refine jr (h := ?_)
               refine jk [0, 3, 4, 5, 6] (h := ?_)
               refine ih2 _ _ _ ?_ ⟨k + 1, _, o2, by omega, rfl, by rw [htk2, hau], by omega, how, by simp only [Int.natCast_add, Int.cast_ofNat_Int]⟩
               omega
             | false =>
               rw [if_neg (of_decide_eq_false hm)] at hau
               refine jr (h := ?_)
               refine jt (h := ?_)
               refine jf (own := [50]) (cA g2 hnl) (h := ?_)
               refine jap (Fr := []) (how := how) (hp := (by simp)) (hsrc := (by simp only [go_sem] <;> rfl)) (hc := (by rfl)) (hmax := (by rw [natRows_len]; omega)) (hk := ?_)
               rintro _ D2 ⟨v', _, rfl, rfl, how'⟩
               refine jr (h := ?_)
               refine jk [0, 3, 4, 5, 6] (h := ?_)
               refine ih2 _ _ _ ?_ ⟨k + 1, v', o2 ++ [ps[k]], by omega, rfl, by rw [htk2, hau], by rw [List.length_append, List.length_singleton]; omega, natRows_snoc how', by simp only [Int.natCast_add, Int.cast_ofNat_Int]⟩
               omega
       · have hk3 : k = 3 := by omega
         subst hk3
         have hal : ps.take 3 = ps := List.take_of_length_le (by omega)
         rw [hal] at ho2
         refine jr (h := ?_)
         refine jk [0, 3, 4] (h := ?_)
         refine ih _ _ _ ?_ ⟨i + 1, v, o2, hlt, rfl, by rw [htk, ho2, ho], by omega, how, by simp only [Int.natCast_add, Int.cast_ofNat_Int]⟩
         omega
   · have hi' : i = hs.length := by omega
     subst hi'
     rw [List.take_length] at ho
     subst ho
     refine jr (h := ?_)
     refine J_freezeS (Fr := []) how (natRows_row _) (by rw [natRows_len]; unfold maxRows; omega) ?_
     refine J_is (t := 2) (by simp only [go_sem]) (List.mem_cons_self ..) (J_drop ?_)
     refine jret Tryz.func188 (h := ⟨rfl, rfl⟩)
theorem may07_ok (hs : List Int) (h : Int) (hh : ∀ h ∈ hs, In64 h) (hh2 : In64 h) (hl : hs.length < 2 ^ 20) : ACalls Tryz.prog 138 [.sl 1 (u64Rows hs), .c (.int .u64 h)] [] (Ret (.c (.bool (mayR hs h)))) := by
 have hs1 := set07_ok hs hh hl
 have hp := places_ok h hh2
 have hM : mayR hs h = (plN h).all fun p => decide (p ∈ setR hs) := rfl
 rw [hM]
 have hpl : (plN h).length = 3 := rfl
 have hsl : (setR hs).length ≤ [].length + 3 * hs.length := setR_len hs []
 rw [List.length_nil] at hsl
 generalize setR hs = o2 at *
 generalize plN h = ps at *
 have hno := natRows_len o2
 have hnl := natRows_len ps
 refine jen cl_138 Tryz.func138 (h := ?_)
 refine jr (h := ?_)
 refine jc (hs := hs1) (hk := ?_)
 refine jr (h := ?_)
 refine jc (hs := hp) (hk := ?_)
 refine jr (h := ?_)
 refine jk [5, 6, 7] (h := ?_)
 refine J_loopI (I := fun m e D => ∃ (k : Nat), k ≤ 3 ∧ m = 3 - k ∧ D = [] ∧ (∀ p ∈ ps.take k, p ∈ o2) ∧ e = [(5, .sl 1 (natRows o2)), (6, .sl 1 (natRows ps)), (7, .c (.int .i64 k))]) ?_ ?_
 · exact ⟨_, 0, by omega, rfl, rfl, by simp, rfl⟩
 · rintro m e D ⟨k, hk, rfl, rfl, hall, rfl⟩ ih
   refine jr (h := ?_)
   refine jif (h1 := fun hc => ?_) (h2 := fun hc => ?_)
   · have hlk : k < ps.length := by omega
     have g2 := natRows_get (List.getElem?_eq_getElem hlk)
     have h0k : (0 : Int) ≤ (k : Int) := by omega
     refine jr (h := ?_)
     refine jk [5, 6, 7, 8, 9] (h := ?_)
     refine J_loopI (I := fun m3 e D' => ∃ (j : Nat), j ≤ o2.length ∧ m3 = o2.length - j ∧ D' = [] ∧ e = [(5, .sl 1 (natRows o2)), (6, .sl 1 (natRows ps)), (7, .c (.int .i64 k)), (8, .c (.bool (decide (ps[k] ∈ o2.take j)))), (9, .c (.int .i64 j))]) ?_ ?_
     · exact ⟨_, 0, by omega, rfl, rfl, by simp⟩
     · rintro m3 e D' ⟨j, hj, rfl, rfl, rfl⟩ ih3
       refine jf hno (h := ?_)
       refine jif (h1 := fun hcj => ?_) (h2 := fun hcj => ?_)
       · have hjl : j < o2.length := by omega
         have g3 := natRows_get (List.getElem?_eq_getElem hjl)
         have h0j : (0 : Int) ≤ (j : Int) := by omega
         have htj : ps[k] ∈ o2.take (j + 1) ↔ ps[k] ∈ o2.take j ∨ o2[j] = ps[k] := by
           rw [List.take_add_one, List.getElem?_eq_getElem hjl, List.mem_append]
           simp [eq_comm]
         cases hm : decide (ps[k] ∈ o2.take j) with
         | true =>
           have hm2 : decide (ps[k] ∈ o2.take (j + 1)) = true := decide_eq_true (htj.2 (.inl (of_decide_eq_true hm)))
           refine jr (h := ?_)
           refine jd [(0, .pure), (1, .pure), (2, .pure), (3, .pure), (4, .pure), (5, .pure), (6, .pure), (7, .pure), (8, .pure), (9, .pure), (10, .pure), (11, .pure), (12, .pure)] mixed (by kernel_rfl) ?_
           refine cr (hk := ?_)
           refine Can_nil ?_
           refine jr (h := ?_)
           refine jk [5, 6, 7, 8, 9] (h := ?_)
           refine ih3 _ _ _ ?_ ⟨j + 1, hjl, rfl, rfl, by rw [hm2]; simp only [Int.natCast_add, Int.cast_ofNat_Int]⟩
           omega
         | false =>
           have hm2 : decide ((o2[j] : Int) = (ps[k] : Int)) = decide (ps[k] ∈ o2.take (j + 1)) := by
             have h1 := of_decide_eq_false hm
             by_cases he : o2[j] = ps[k]
             · rw [decide_eq_true (show (o2[j] : Int) = (ps[k] : Int) by omega), decide_eq_true (htj.2 (.inr he))]
             · rw [decide_eq_false (show ¬ (o2[j] : Int) = (ps[k] : Int) by omega), decide_eq_false (fun h => (htj.1 h).elim h1 he)]
           refine jr (h := ?_)
           refine jd [(0, .pure), (1, .pure), (2, .pure), (3, .pure), (4, .pure), (5, .pure), (6, .pure), (7, .pure), (8, .pure), (9, .pure), (10, .pure), (11, .pure), (12, .pure)] mixed (by kernel_rfl) ?_
           refine cf (cC g2 g3 hnl hno) (hk := ?_)
           refine Can_nil ?_
           refine jr (h := ?_)
           refine jk [5, 6, 7, 8, 9] (h := ?_)
           refine ih3 _ _ _ ?_ ⟨j + 1, hjl, rfl, rfl, by rw [← hm2]; simp only [Int.natCast_add, Int.cast_ofNat_Int]⟩
           omega
       · have hj' : j = o2.length := by omega
         subst hj'
         rw [List.take_length]
         cases hm : decide (ps[k] ∈ o2) with
         | true =>
           refine jr (h := ?_)
           refine jn (h := ?_)
           refine jr (h := ?_)
           refine jk [5, 6, 7] (h := ?_)
           refine ih _ _ _ ?_ ⟨k + 1, by omega, rfl, rfl, ?_, by simp only [Int.natCast_add, Int.cast_ofNat_Int]⟩
           · omega
           · intro q hq
             rw [List.take_add_one, List.getElem?_eq_getElem hlk, List.mem_append] at hq
             rcases hq with hq | hq
             · exact hall q hq
             · simp at hq; rw [hq]; exact of_decide_eq_true hm
         | false =>
           refine jr (h := ?_)
           refine jt (h := ?_)
           refine jr (h := ?_)
           refine J_retX Tryz.func138 (by simp only [go_sem, ↓reduceIte, Int.reduceLT, Int.reduceLE, Int.reduceToNat, Int.reducePow, Int.reduceNeg, Nat.reduceBEq, Tryz.f138] <;> first | with_reducible rfl | rfl) ⟨by
             have : (ps.all fun p => decide (p ∈ o2)) = false := List.all_eq_false.2 ⟨ps[k], List.getElem_mem _, by simpa using of_decide_eq_false hm⟩
             rw [this], rfl⟩
   · have hk3 : k = 3 := by omega
     subst hk3
     have hal : ps.take 3 = ps := List.take_of_length_le (by omega)
     rw [hal] at hall
     refine jr (h := ?_)
     refine J_retX Tryz.func138 (by simp only [go_sem, ↓reduceIte, Int.reduceLT, Int.reduceLE, Int.reduceToNat, Int.reducePow, Int.reduceNeg, Nat.reduceBEq, Tryz.f138] <;> first | with_reducible rfl | rfl) ⟨by
       have : (ps.all fun p => decide (p ∈ o2)) = true := List.all_eq_true.2 fun p hp => decide_eq_true (hall p hp)
       rw [this], rfl⟩
theorem hasP_set (f : BF) (p q : Nat) (hp : p < 128) (hq : q < 128) : hasP (setP f p) q = (hasP f q || decide (q = p)) := by
 unfold hasP setP
 by_cases h1 : p < 64 <;> by_cases h2 : q < 64 <;> simp only [h1, h2, if_true, if_false, Nat.testBit_or, Nat.testBit_two_pow]
 · have : (p % 64 = q % 64) ↔ q = p := by omega
   simp [this]
 · have : ¬ q = p := by omega
   simp [this]
 · have : ¬ q = p := by omega
   simp [this]
 · have : (p % 64 = q % 64) ↔ q = p := by omega
   simp [this]
theorem hasP_sets (q : Nat) (hq : q < 128) : ∀ (ps : List Nat) (f : BF), (∀ p ∈ ps, p < 128) → hasP (ps.foldl setP f) q = (hasP f q || decide (q ∈ ps))
 | [], f, _ => by simp
 | p :: ps, f, h => by
   rw [List.foldl_cons, hasP_sets q hq ps _ (fun r hr => h r (by simp [hr])), hasP_set f p q (h p (by simp)) hq]
   by_cases h1 : q = p
   · simp [h1]
   · simp [h1]
theorem hasP_of (q : Nat) (hq : q < 128) : ∀ (ks : List (List UInt8)) (f : BF), hasP (ks.foldl (fun f k => addF f (hash64 k)) f) q = (hasP f q || decide (∃ h ∈ ks.map hash64, q ∈ plN h))
 | [], f => by simp
 | k :: ks, f => by
   rw [List.foldl_cons, hasP_of q hq ks]
   unfold addF
   rw [hasP_sets q hq _ _ (fun p hp => plN_lt p hp)]
   simp only [List.map_cons, List.mem_cons, exists_eq_or_imp, Bool.or_assoc, Bool.decide_or]
theorem may_same (ks : List (List UInt8)) (h : Int) : mayF (ofF ks) h = mayR (ks.map hash64) h := by
 unfold mayF mayR
 rw [Bool.eq_iff_iff, List.all_eq_true, List.all_eq_true]
 have h0 : ∀ q, q < 128 → hasP (0, 0) q = false := fun q hq => by unfold hasP; simp
 have hq : ∀ q ∈ plN h, hasP (ofF ks) q = decide (q ∈ setR (ks.map hash64)) := fun q hq => by
   unfold ofF
   rw [hasP_of q (plN_lt q hq), h0 q (plN_lt q hq), Bool.false_or]
   have := setR_mem q (ks.map hash64) []
   unfold setR
   rw [decide_eq_decide, this]
   simp
 exact ⟨fun h q hm => by rw [← hq q hm]; exact h q hm, fun h q hm => by rw [hq q hm]; exact h q hm⟩
end
end Go.Proofs.YtjppajaoekbkpaaGreatDoor
