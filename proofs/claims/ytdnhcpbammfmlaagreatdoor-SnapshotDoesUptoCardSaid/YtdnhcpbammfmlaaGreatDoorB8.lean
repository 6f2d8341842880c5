/- A part of the proof: what the calls do, told by values. -/
import Derived.Test.YtdnhcpbammfmlaaGreatDoorB7
import Derived.Test.YtdnhcpbammfmlaaGreatDoorB4
set_option linter.unusedVariables false
set_option linter.unusedSimpArgs false
set_option maxRecDepth 100000
set_option maxHeartbeats 4000000
namespace Go.Proofs.YtdnhcpbammfmlaaGreatDoor
open Go Go.Av
attribute [local go_sem] packed List.set_cons_zero List.set_cons_succ List.cons_append List.nil_append bytesRows_length cellRows_len chRows_len rCells intRows_len
attribute [-go_sem] cellsOf AV.isCell
attribute [local go_sem] cellsOf_agg cellsOf_int cellsOf_bool cellsOf_str cellsOf_map cellsOf_ptr cellsOf_nilI cellsOf_slice cellsOf_sl cellsOf_ifc cellsOf_fp cellsOf_opt optAV_cell icell_int icell_bool icell_str icell_map icell_ptr icell_nilI icell_slice icell_sl icell_ifc icell_fp
section
theorem numsB_three (n m k : Nat) : numsB [n, m, k] = numB n ++ (numB m ++ numB k) := by simp [numsB]
theorem rd_pgS {e i n : Nat} (b : List UInt8) (he : e ≤ 1099511627776) (hi : i ≤ 4096) (hn : n ≤ 4096) :
   (rd1 (pgS e i n b)).2.2 = e ∧ (rd2 (pgS e i n b)).2.2 = i ∧ rd3 (pgS e i n b) = (0, (numsB [e, i, n]).length, n) := by
 have hb : pgS e i n b = [] ++ (numB e ++ (numB i ++ (numB n ++ pcB b i))) := by simp only [pgS, numsB_three, List.nil_append, List.append_assoc]
 have e1 : rd1 (pgS e i n b) = (0, 0 + (numB e).length, e) := numR_num (pre := []) rfl he hb
 have e2 : rd2 (pgS e i n b) = (0, 0 + (numB e).length + (numB i).length, i) := by
   unfold rd2; rw [e1]
   exact numR_num (pre := numB e) (rest := numB n ++ pcB b i) (by simp) hi (by rw [hb]; simp)
 have e3 : rd3 (pgS e i n b) = (0, 0 + (numB e).length + (numB i).length + (numB n).length, n) := by
   unfold rd3; rw [e2]
   exact numR_num (pre := numB e ++ numB i) (rest := pcB b i) (by simp) hn (by rw [hb]; simp)
 refine ⟨by rw [e1], by rw [e2], by rw [e3, numsB_three]; simp only [List.length_append]; congr 2; omega⟩
theorem pgOK_pgS {e i n : Nat} (b : List UInt8) (he : e ≤ 1099511627776) (hi : i ≤ 4096) (hn : n ≤ 4096) (e' : Int) : pgOK (pgS e i n b) e' i ↔ (e : Int) = e' ∧ i < n := by
 obtain ⟨h1, h2, h3⟩ := rd_pgS b he hi hn
 unfold pgOK
 rw [h1, h2, h3]
 simp
theorem drop_pgS {e i n : Nat} (b : List UInt8) (he : e ≤ 1099511627776) (hi : i ≤ 4096) (hn : n ≤ 4096) : (pgS e i n b).drop (rd3 (pgS e i n b)).2.1 = pcB b i := by
 rw [(rd_pgS b he hi hn).2.2]
 simp only [pgS, List.drop_left]
theorem pg_put {s : Fl} {base : Int} {i e n st : Nat} {b : List UInt8} (hl : lookB s (base + i) = putB st 5 (pgS e i n b)) (hc : checkF s (base + i) = 0) (h1 : 1 ≤ st) (h2 : st ≤ 1099511627776) (he : e ≤ 1099511627776) (hi : i ≤ 4096) (hn : n ≤ 4096) (hin : i < n) :
   pgC s base e i = 0 ∧ pcN s base i = n ∧ pcR s base i = pcB b i ∧ ∀ e' : Int, e' ≠ e → pgC s base e' i = 5 := by
 have hlen := pgS_len (e := e) (i := i) (n := n) (b := b) he hi hn
 have hg : tgetC s (base + i) 5 = 0 := by
   unfold tgetC
   rw [hl, put_getC st 5 _ h1 h2 (by decide) (by decide) (by omega), put_kd st 5 _ (by decide), if_neg (by simp [hc]), if_neg (by simp), if_neg (by simp)]
 have hB : pgB s base i = pgS e i n b := by unfold pgB; rw [hl, put_txt _ _ _ (by omega)]
 refine ⟨?_, ?_, ?_, fun e' hne => ?_⟩
 · unfold pgC; rw [hg, hB, if_neg (by simp), if_pos ((pgOK_pgS b he hi hn e).2 ⟨rfl, hin⟩)]
 · unfold pcN; rw [hB, (rd_pgS b he hi hn).2.2]
 · unfold pcR; rw [hB, drop_pgS b he hi hn]
 · unfold pgC; rw [hg, hB, if_neg (by simp), if_neg fun h => hne ((pgOK_pgS b he hi hn e').1 h).1.symm]
def l20 : SN := [(7, 3, 4), (1, 1, 1)]
theorem l20_w : SnW l20 := ⟨by decide, by decide, by decide, by decide⟩
theorem l20_n : ((snPut l20).length + 199) / 200 = 1 := by
 have e : (snPut l20).length = 21 := by
   have hn : ∀ n, n < 128 → numB n = [UInt8.ofNat n] := fun n h => by
     unfold numB; rw [Nat.div_eq_of_lt h, hi7_zero, Nat.mod_eq_of_lt h]; rfl
   simp only [snPut, l20, snB, numsB_one, numsB_two, List.length_cons, List.length_nil, List.length_append, word8_len]
   rw [hn _ (by decide), hn _ (by decide), hn _ (by decide), hn _ (by decide)]
   rfl
 rw [e]
def fl20 : Fl := ⟨9, [(2, putB 1 5 (pgS 5 0 1 (snPut l20)))], [], -1, false, 2⟩
theorem works20_sv : svR (newFl 9) 1 2 3 5 l20 = (fl20, 2, 0) := by
 obtain ⟨q1, q2, q3⟩ := firm_new (p := 9) (at_ := 2) (kd := 5) (a := pgS 5 0 1 (snPut l20)) (by decide) (by decide) (by decide) (by have := pgS_len (e := 5) (i := 0) (n := 1) (b := snPut l20) (by decide) (by decide) (by decide); omega)
 have hc : tputC (newFl 9) 1 2 5 (pgS 5 0 1 (snPut l20)) = 0 := by
   by_cases h : tputC (newFl 9) 1 2 5 (pgS 5 0 1 (snPut l20)) = 0
   · exact h
   · have h' := q1
     simp only [tfirmC, Int.cast_ofNat_Int] at h'
     rw [if_pos h] at h'
     exact h'
 unfold svR
 rw [l20_n, if_neg (by decide), if_neg (by decide)]
 have e5 : (5 : Int).toNat = 5 := rfl
 have e2 : (2 : Int) + ((0 : Nat) : Int) = 2 := rfl
 rw [e5]
 simp only [svL, e2]
 simp only [tfirmC, tfirmS, Int.cast_ofNat_Int] at q1 q3
 rw [if_neg (by rw [hc]; simp)] at q1 q3
 rw [if_neg (by rw [hc]; simp), q1, q3]
 rfl
end
section
attribute [local go_sem] rowsBytes_bytesRows Option.map_some Int.cast_ofNat_Int getBox_GL setBox_GL fresh_GL flCells
theorem look_one20 (p at_ : Int) (b : List UInt8) (k : Int) : lookB ⟨p, [(at_, b)], [], -1, false, k⟩ at_ = b := by
 simp [lookB, lookL, pageOr, findM]
theorem works20_pg : pgC fl20 2 5 0 = 0 ∧ pcN fl20 2 0 = 1 ∧ pcR fl20 2 0 = pcB (snPut l20) 0 ∧ ∀ e' : Int, e' ≠ 5 → pgC fl20 2 e' 0 = 5 :=
 pg_put (s := fl20) (base := 2) (i := 0) (e := 5) (n := 1) (st := 1) (b := snPut l20) (look_one20 9 2 _ 2) rfl (by decide) (by decide) (by decide) (by decide) (by decide) (by decide)
theorem works20_ld : ldR fl20 2 3 5 = (0, l20) := by
 obtain ⟨h1, h2, h3, -⟩ := works20_pg
 have hb : pcB (snPut l20) 0 = snPut l20 := by
   have := l20_n
   unfold pcB; rw [Nat.zero_mul, List.drop_zero, List.take_of_length_le (by omega)]
 unfold ldR
 rw [h1, h2, h3, hb, if_neg (by simp), if_neg (by decide)]
 simp only [Nat.sub_self, ldL]
 rw [if_neg (by simp), (sn_back l20_w).1, (sn_back l20_w).2]
theorem works20_ld6 : ldR fl20 2 3 6 = (5, []) := by
 obtain ⟨-, -, -, h4⟩ := works20_pg
 unfold ldR
 rw [h4 6 (by decide), if_pos (by decide)]
theorem works20_full : svR fl20 2 2 0 5 l20 = (fl20, 2, 4) := by
 unfold svR
 rw [l20_n, if_neg (by decide), if_pos (by decide)]
theorem open20_ok : ACalls Tryz.prog 18 [] [GL] (fun q Δ => ∃ f t D, q = .ret (.tup [ptr f, ptr t]) ∧ OwnF f (newFl 9) D ∧ Δ = tbox t f 1 :: GL :: D) := by
 have hB : (newFl 9).B 0 := newFl_B (by decide) (by decide)
 refine jen cl_18 Tryz.func18 (h := ?_)
 refine jr (h := ?_)
 refine jcs (Δ1 := []) (Fr := [GL]) (hs := (fnew_ok 9 (by decide) (by decide))) (hp := (List.Perm.refl _)) (hk := ?_) (hpan := (by rintro x Δ' ⟨f, e, _⟩; cases e))
 rintro x D ⟨f, e, hO⟩
 cases e
 refine J_perm (List.perm_append_comm (l₂ := [GL])) ?_
 simp only [List.cons_append, List.nil_append]
 have hto := topen_ok hO (hB.wf (by decide)) (hB.small (by decide)) rfl (by rw [cellsF_new]; decide)
 rw [nextF_new9] at hto
 refine jr (h := ?_)
 refine jn (h := ?_)
 refine jr (h := ?_)
 refine jcs (Δ1 := D) (Fr := [GL]) (hs := hto) (hp := (List.perm_append_comm (l₁ := [GL]))) (hk := ?_) (hpan := (by rintro x Δ' ⟨t, e, _⟩; cases e))
 rintro x _ ⟨t, e, rfl⟩
 cases e
 refine J_perm (Δ' := tbox t f 1 :: GL :: D) (.cons _ (List.perm_append_comm (l₂ := [GL]))) ?_
 refine jr (h := ?_)
 refine jn (h := ?_)
 refine jr (h := ?_)
 refine jret Tryz.func18 (h := ⟨f, t, D, rfl, hO, rfl⟩)
end
section
attribute [local go_sem] rowsBytes_bytesRows Option.map_some Int.cast_ofNat_Int getBox_GL setBox_GL fresh_GL flCells
theorem l20_rows : snRows l20 = [[.c (.int .u64 7), .c (.int .i64 3), .c (.int .i64 4)], [.c (.int .u64 1), .c (.int .i64 1), .c (.int .i64 1)]] := rfl
theorem fl20_B : fl20.B 2 := by
 obtain ⟨q1, q2, q3⟩ := firm_new (p := 9) (at_ := 2) (kd := 5) (a := pgS 5 0 1 (snPut l20)) (by decide) (by decide) (by decide) (by have := pgS_len (e := 5) (i := 0) (n := 1) (b := snPut l20) (by decide) (by decide) (by decide); omega)
 have h := tfirmS_B (newFl_B (p := 9) (by decide) (by decide)) 1 2 ((5 : Nat) : Int) (pgS 5 0 1 (snPut l20))
 rw [q3] at h
 exact h
theorem works20_ok : ACalls Tryz.prog 6 [] [GL] (Ret (.c (.bool true))) := by
 have hB0 : (newFl 9).B 0 := newFl_B (by decide) (by decide)
 have hpT : ∀ (t f : Nat) (x : Int) (D : List HP), (tbox t f x :: GL :: D).Perm ((tbox t f x :: D) ++ [GL]) := fun t f x D => .cons _ (List.perm_append_comm (l₁ := [GL]))
 have hsn := sseen_ok (snPut l20) (by have := l20_w.blen; omega)
 rw [(sn_back l20_w).1, (sn_back l20_w).2] at hsn
 refine jen cl_6 Tryz.func6 (h := ?_)
 refine jr (h := ?_)
 refine jcs (Δ1 := [GL]) (Fr := []) (hs := open20_ok) (hp := (List.Perm.refl _)) (hk := ?_) (hpan := (by rintro x Δ' ⟨f, t, D, e, _⟩; cases e))
 rintro x _ ⟨f, t, D, e, hO, rfl⟩
 cases e
 rw [List.append_nil]
 have hs := ssave_ok (t := t) (x := 1) hO hB0 (by decide) (by decide) 2 3 5 (by decide) (by decide) l20 l20_w
 rw [works20_sv] at hs
 refine jr (h := ?_)
 refine jn (h := ?_)
 refine jr (h := ?_)
 rw [← l20_rows]
 refine jcs (Δ1 := tbox t f 1 :: D) (Fr := [GL]) (hs := hs) (hp := (hpT _ _ _ _)) (hk := ?_) (hpan := (by rintro x Δ' ⟨e, D1, k, _⟩; cases k))
 rintro x _ ⟨e1, D1, k, he1, hO1, rfl⟩
 cases k
 obtain rfl := iserr_zero he1
 refine J_perm (hpT _ _ _ _).symm ?_
 have hw1 : fl20.WF := fl20_B.wf (by decide)
 have hld := sload_ok (t := t) (x := 2) hO1 hw1 2 3 5 (by decide)
 rw [works20_ld] at hld
 have hld6 := sload_ok (t := t) (x := 2) hO1 hw1 2 3 6 (by decide)
 rw [works20_ld6] at hld6
 have hs2 := ssave_ok (t := t) (x := 2) hO1 fl20_B (by decide) (by decide) 2 0 5 (by decide) (by decide) l20 l20_w
 rw [works20_full] at hs2
 refine jr (h := ?_)
 refine jcs (Δ1 := tbox t f 2 :: D1) (Fr := [GL]) (hs := hld) (hp := (hpT _ _ _ _)) (hk := ?_) (hpan := (by rintro x Δ' ⟨e, k, _⟩; cases k))
 rintro x _ ⟨e2, k, he2, rfl⟩
 cases k
 obtain rfl := iserr_zero he2
 refine J_perm (hpT _ _ _ _).symm ?_
 refine jr (h := ?_)
 refine jcs (Δ1 := tbox t f 2 :: D1) (Fr := [GL]) (hs := hld6) (hp := (hpT _ _ _ _)) (hk := ?_) (hpan := (by rintro x Δ' ⟨e, k, _⟩; cases k))
 rintro x _ ⟨e3, k, he3, rfl⟩
 cases k
 refine J_perm (hpT _ _ _ _).symm ?_
 refine jr (h := ?_)
 refine jcs (Δ1 := tbox t f 2 :: D1) (Fr := [GL]) (hs := hs2) (hp := (hpT _ _ _ _)) (hk := ?_) (hpan := (by rintro x Δ' ⟨e, D1, k, _⟩; cases k))
 rintro x _ ⟨e4, D2, k, he4, hO2, rfl⟩
 cases k
 refine J_perm (hpT _ _ _ _).symm ?_
 refine jr (h := ?_)
 refine jc (hs := s20bytes_ok l20 l20_w) (hk := ?_)
 refine jr (h := ?_)
 refine jcs (Δ1 := []) (Fr := tbox t f 2 :: GL :: D2) (hs := hsn) (hp := (List.Perm.refl _)) (hk := ?_) (hpan := (by rintro x Δ' ⟨⟨e, k, _⟩, _⟩; cases k))
 rintro x _ ⟨⟨e5, k, he5⟩, rfl⟩
 cases k
 obtain rfl := iserr_zero he5
 simp only [List.nil_append]
 refine jr (h := ?_)
 refine jc (hs := same20_ok l20 l20 (by decide)) (hk := ?_)
 refine jr (h := ?_)
 refine jcg (hin := by simp [GL]) (hs := of_ok he3) (hk := ?_)
 refine jr (h := ?_)
 refine jcg (hin := by simp [GL]) (hs := of_ok he4) (hk := ?_)
 refine jr (h := ?_)
 refine jc (hs := same20_ok l20 l20 (by decide)) (hk := ?_)
 refine jr (h := ?_)
 refine jc (hs := s20pages_ok 201 (by decide)) (hk := ?_)
 refine jr (h := ?_)
 refine J_forget ?_
 refine jret Tryz.func6 (h := ⟨rfl, rfl⟩)
end
section
attribute [local go_sem] rowsBytes_bytesRows Option.map_some Int.cast_ofNat_Int getBox_GL setBox_GL fresh_GL flCells
theorem snL_len (b : List UInt8) : ∀ (k a : Nat) (c : Int), (snL b k a c).1.length ≤ k
 | 0, a, c => Nat.le_refl _
 | k + 1, a, c => by
   simp only [snL]
   split
   · simp
   · simp only [List.length_cons]
     exact Nat.succ_le_succ (snL_len b k _ _)
theorem snV_len (b : List UInt8) : (snV b).length ≤ 1099511627776 := by
 unfold snV
 split
 · simp
 · exact Nat.le_trans (snL_len b _ _ _) (numR_val b 0 _ (Nat.zero_le _))
theorem rightP.w {l : SN} (h : rightP l) (hh : ∀ p ∈ l, p.1 < 2 ^ 64) : SnW l := ⟨h.2, hh, fun p q => (h.1 p q).1, fun p q => (h.1 p q).2⟩
theorem same20_self (a : SN) (ha : a.length < 2 ^ 62) : ACalls Tryz.prog 9 [.sl 3 (snRows a), .sl 3 (snRows a)] [] (Ret (.c (.bool true))) := by
 have h := same20_ok a a ha
 rwa [decide_eq_true rfl] at h
end
end Go.Proofs.YtdnhcpbammfmlaaGreatDoor
