/- A part of the proof: what the calls do, told by values. -/
import Derived.Test.YtdnhcpbammfmlaaGreatDoorB5
import Derived.Test.YtdnhcpbammfmlaaGreatDoorA8
import Derived.Test.YtdnhcpbammfmlaaGreatDoorB4
set_option linter.unusedVariables false
set_option linter.unusedSimpArgs false
set_option maxRecDepth 100000
set_option maxHeartbeats 4000000
namespace Go.Proofs.YtdnhcpbammfmlaaGreatDoor
open Go Go.Av
attribute [local go_sem] packed List.set_cons_zero List.set_cons_succ List.cons_append List.nil_append bytesRows_length cellRows_len chRows_len rCells intRows_len
attribute [-go_sem] cellsOf AV.isCell
attribute [local go_sem] cellsOf_agg cellsOf_int cellsOf_bool cellsOf_str cellsOf_map cellsOf_ptr cellsOf_nilI cellsOf_slice cellsOf_sl cellsOf_ifc cellsOf_fp cellsOf_opt optAV_cell icell_int icell_bool icell_str icell_map icell_ptr icell_nilI icell_slice icell_sl icell_ifc icell_fp
section
attribute [local go_sem] sAV tAV

end
section
attribute [local go_sem] Entry.av Entry.cells sAV tAV

end
section
attribute [local go_sem] Entry.av Entry.cells sAV tAV

end
section
theorem Rel.wr {s : Fl} {c : List (Int × List UInt8)} {m : Nat} (h : Rel s c m) (n base : Int) (i : Nat) (l : List Entry) (fs : List BF) : Rel (wrS s n base i l fs).2.1 (firmCC s c n (base + i) 1 (allB l)) (m + 2) := h.firm n (base + i) 1 (allB l)
theorem Rel.trimN {s : Fl} {c : List (Int × List UInt8)} {m : Nat} (h : Rel s c m) (base : Int) : ∀ k, Rel (trimN s base k).2 c (m + k)
 | 0 => h
 | k + 1 => by
   have ih := Rel.trimN h base k
   unfold Proofs.YtdnhcpbammfmlaaGreatDoor.trimN
   split
   · exact ih.mono (by omega)
   · exact ih.trim _
end
section
attribute [local go_sem] getBox_GL setBox_GL fresh_GL

end
section
attribute [local go_sem] sAV tAV
def allP (r : Fl) (base : Int) (N : Nat) : List Entry := (List.range N).flatMap fun (i : Nat) => pgE r (base + (i : Int))
end
section
attribute [local go_sem] Entry.av Entry.cells sAV tAV

end
section
attribute [local go_sem] Entry.av Entry.cells sAV tAV

end
section
attribute [local go_sem] Entry.av Entry.cells rowsBytes_bytesRows Option.map_some Int.cast_ofNat_Int getBox_GL setBox_GL fresh_GL

end
section
attribute [local go_sem] Entry.av Entry.cells rowsBytes_bytesRows Option.map_some Int.cast_ofNat_Int getBox_GL setBox_GL fresh_GL

end
section
attribute [local go_sem] Entry.av Entry.cells rowsBytes_bytesRows Option.map_some Int.cast_ofNat_Int getBox_GL setBox_GL fresh_GL

end
section
attribute [local go_sem] Entry.av Entry.cells rowsBytes_bytesRows Option.map_some Int.cast_ofNat_Int getBox_GL setBox_GL fresh_GL

end
section
attribute [local go_sem] Entry.av Entry.cells rowsBytes_bytesRows Option.map_some Int.cast_ofNat_Int getBox_GL setBox_GL fresh_GL

end
section
attribute [local go_sem] Entry.av Entry.cells rowsBytes_bytesRows Option.map_some Int.cast_ofNat_Int getBox_GL setBox_GL fresh_GL
structure Op13 where
 kind : Int
 x : Entry
 n : Int
 keep : List Int
def Op13.cells (o : Op13) : List AV := [.c (.int .i64 o.kind), .c (.string (mkStr o.x.key)), .c (.int .i64 o.x.ver), .c (.int .i64 o.x.asof), .c (.int .i64 o.x.ends), .sl 1 (bytesRows o.x.val), .c (.int .i64 o.n), .sl 1 (intRows o.keep)]
structure OpB (o : Op13) : Prop where
 keep : o.keep.length < 2 ^ 37
 key : o.x.key.length < 2 ^ 37
 val : o.x.val.length < 2 ^ 37
 n : o.n < 9223372036854775808
end
section
attribute [local go_sem] Entry.av Entry.cells rowsBytes_bytesRows Option.map_some Int.cast_ofNat_Int getBox_GL setBox_GL fresh_GL flCells
theorem nextF_new9 : nextF (newFl 9) = 1 := by unfold nextF; rw [cellsF_new]; rfl
def xA : Entry := ⟨[97], 3, 4, 0, [118]⟩
def xB : Entry := ⟨[98], 1, 1, 0, List.replicate 300 0⟩
structure WK (fs0 : List BF) (i : Nat) (h : Int) (s1 : Fl) (n1 : Int) (fs1 : List BF) (g1 : BF) (s2 : Fl) (n2 : Int) (fs2 : List BF) (g2 : BF) (s3 : Fl) (fs3 : List BF) : Prop where
 a1 : setS (newFl 9) 1 2 i xA fs0 = ([], 0, s1, n1, fs1)
 b1 : s1.B 2
 d1 : s1.down = false
 hn : n1 = 2
 l1 : fs1.length = 4
 f1 : fs1[i]? = some g1
 k1 : BFok g1
 m1 : mayF g1 h = true
 p1 : lkE (pgE s1 (2 + (i : Int))) [97] = some xA
 all : (allP s1 2 4).length = 1
 no : ∀ j : Nat, setS s1 n1 2 j xB fs1 = ([], 3, s1, n1, fs1)
 a2 : rmS s1 n1 2 i [97] fs1 = (true, 0, s2, n2, fs2)
 b2 : s2.B 4
 d2 : s2.down = false
 l2 : fs2.length = 4
 f2 : fs2[i]? = some g2
 k2 : BFok g2
 m2 : mayF g2 h = false
 a3 : clearS s2 2 4 fs2 = (0, s3, fs3)
 lo : s3.loose = []
end
section
attribute [local go_sem] rowsBytes_bytesRows Option.map_some Int.cast_ofNat_Int getBox_GL setBox_GL fresh_GL flCells
def pcB (b : List UInt8) (i : Nat) : List UInt8 := (b.drop (i * 200)).take 200
def pgS (e i n : Nat) (b : List UInt8) : List UInt8 := numsB [e, i, n] ++ pcB b i
theorem pcB_cut {b : List UInt8} {i j : Nat} (h1 : i * 200 ≤ b.length) (h2 : j = min ((i + 1) * 200) b.length) : (b.take j).drop (i * 200) = pcB b i := by
 subst h2
 unfold pcB
 rw [List.drop_take]
 by_cases h : (i + 1) * 200 ≤ b.length
 · rw [Nat.min_eq_left h]; congr 1; omega
 · rw [Nat.min_eq_right (by omega), List.take_of_length_le (by rw [List.length_drop]; omega), List.take_of_length_le (by rw [List.length_drop]; omega)]
theorem pgS_len {e i n : Nat} {b : List UInt8} (he : e ≤ 1099511627776) (hi : i ≤ 4096) (hn : n ≤ 4096) : (pgS e i n b).length ≤ 218 := by
 have := numsB_len (l := [e, i, n]) (by intro x hx; simp at hx; omega)
 simp only [pgS, pcB, List.length_append, List.length_take, List.length_cons, List.length_nil] at this ⊢
 omega
def svL (base : Int) (e n : Nat) (b : List UInt8) : Nat → Nat → Fl → Int → Fl × Int × Int
 | 0, _, s, x => (flushS s, x, flushC s)
 | k + 1, i, s, x => if tputC s x (base + i) 5 (pgS e i n b) ≠ 0 then (tputS s x (base + i) 5 (pgS e i n b), x, tputC s x (base + i) 5 (pgS e i n b))
   else svL base e n b k (i + 1) (tputS s x (base + i) 5 (pgS e i n b)) (x + 1)
def svR (s : Fl) (x base pages e : Int) (l : SN) : Fl × Int × Int :=
 if e < 1 then (s, x, 1) else if pages < (((snPut l).length + 199) / 200 : Nat) then (s, x, 4)
 else svL base e.toNat (((snPut l).length + 199) / 200) (snPut l) (((snPut l).length + 199) / 200) 0 s x
theorem ssave_ok {t f mm : Nat} {x : Int} {s : Fl} {D : List HP} (h : OwnF f s D) (hB : s.B mm) (hm : mm < 1000000) (hx : 1 ≤ x ∧ x ≤ 1099511627777) (base pages epoch : Int) (hb : -100 ≤ base ∧ base ≤ 100) (he : epoch ≤ 1099511627776) (l : SN) (hw : SnW l) :
   ACalls Tryz.prog 23 [ptr t, .c (.int .i64 base), .c (.int .i64 pages), .c (.int .i64 epoch), .sl 3 (snRows l)] (tbox t f x :: D)
     (fun r D' => ∃ e D1, r = .ret e ∧ IsErr e (svR s x base pages epoch l).2.2 ∧ OwnF f (svR s x base pages epoch l).1 D1 ∧ D' = tbox t f (svR s x base pages epoch l).2.1 :: D1) := by
 refine jen cl_23 Tryz.func23 (h := ?_)
 by_cases he1 : epoch < 1
 · have hd : decide (epoch < 1) = true := decide_eq_true he1
   have e1 : svR s x base pages epoch l = (s, x, 1) := by unfold svR; rw [if_pos he1]
   rw [e1]
   refine jf hd (h := ?_)
   refine jt (h := ?_)
   refine jr (h := ?_)
   refine jc (hs := newS_ok _ _ _) (hk := ?_)
   refine jr (h := ?_)
   refine jret Tryz.func23 (h := ⟨_, D, rfl, errNew_is _ _ 1, h, rfl⟩)
 have hd : decide (epoch < 1) = false := decide_eq_false he1
 have hbl := hw.blen
 have hby := s20bytes_ok l hw
 have hR : svR s x base pages epoch l = if pages < (((snPut l).length + 199) / 200 : Nat) then (s, x, 4) else svL base epoch.toNat (((snPut l).length + 199) / 200) (snPut l) (((snPut l).length + 199) / 200) 0 s x := by unfold svR; rw [if_neg he1]
 generalize svR s x base pages epoch l = R at *
 obtain ⟨ep, rfl⟩ : ∃ ep : Nat, epoch = (ep : Int) := ⟨epoch.toNat, by omega⟩
 simp only [Int.toNat_natCast] at hR
 generalize snPut l = b at *
 have hpg := s20pages_ok b.length (by omega)
 have hn9 : (b.length + 199) / 200 ≤ 9 := by omega
 have hcut : ∀ i, i < (b.length + 199) / 200 → i * 200 < b.length := fun i hi => by omega
 generalize (b.length + 199) / 200 = n at *
 refine jf hd (h := ?_)
 refine jn (h := ?_)
 refine jr (h := ?_)
 refine jc (hs := hby) (hk := ?_)
 refine jr (h := ?_)
 refine jc (hs := hpg) (hk := ?_)
 refine jr (h := ?_)
 refine jif (h1 := fun hfull => ?_) (h2 := fun hfull => ?_)
 · rw [if_pos (by omega)] at hR
   subst hR
   refine jr (h := ?_)
   refine jc (hs := newS_ok _ _ _) (hk := ?_)
   refine jr (h := ?_)
   refine jret Tryz.func23 (h := ⟨_, D, rfl, errNew_is _ _ 4, h, rfl⟩)
 rw [if_neg (by omega)] at hR
 refine jr (h := ?_)
 refine jk [0, 1, 3, 11, 12, 34, 35] (h := ?_)
 refine J_loopI (I := fun m e D' => ∃ (i : Nat) (s' : Fl) (x' : Int) (D1 : List HP), i ≤ n ∧ m = n - i ∧ OwnF f s' D1 ∧ s'.B (mm + i) ∧ (1 ≤ x' ∧ x' ≤ 1099511627777) ∧ R = svL base ep n b (n - i) i s' x' ∧ D' = tbox t f x' :: D1 ∧ e = [(0, ptr t), (1, .c (.int .i64 base)), (3, .c (.int .i64 (ep : Int))), (11, .sl 1 (bytesRows b)), (12, .c (.int .i64 (n : Int))), (34, .c (.int .i64 (n : Int))), (35, .c (.int .i64 (i : Int)))]) ?_ ?_
 · exact ⟨_, 0, s, x, D, by omega, rfl, h, hB, hx, hR, rfl, rfl⟩
 · rintro m e D' ⟨i, s', x', D1, hi, rfl, hO, hB', hx', hR', rfl, rfl⟩ ih
   refine jr (h := ?_)
   refine jif (h1 := fun hc => ?_) (h2 := fun hc => ?_)
   · have hlt : i < n := by omega
     have hk : n - i = (n - (i + 1)) + 1 := by omega
     rw [hk] at hR'
     simp only [svL] at hR'
     have h200 := hcut i hlt
     have h0 : (0 : Int) ≤ (i : Int) := by omega
     have hp := (put02_ok [] [ep, i, n] (by simp) (by simp) (by intro y hy; simp at hy; omega)).nilArg (pre := [])
     simp only [natRows, List.map_cons, List.map_nil, List.nil_append] at hp
     have hnl := numsB_len (l := [ep, i, n]) (by intro y hy; simp at hy; omega)
     simp only [List.length_cons, List.length_nil] at hnl
     have hpl := pgS_len (e := ep) (i := i) (n := n) (b := b) (by omega) (by omega) (by omega)
     have hpt := tput_ok (t := t) (n := x') hO (hB'.wf (by omega)) (by omega) (base + i) 5 (pgS ep i n b) (by omega)
     have hbd := @tputN_bd s' x' (base + i) 5 (pgS ep i n b) hx'
     have hSB := tputS_B hB' x' (base + i) 5 (pgS ep i n b)
     refine jr (h := ?_)
     refine jcs (Δ1 := []) (Fr := tbox t f x' :: D1) (hs := hp) (hp := (List.Perm.refl _)) (hk := ?_) (hpan := (by rintro y Δ' ⟨v, e, _⟩; cases e))
     rintro y Dv ⟨v, e, how⟩
     cases e
     have hcE : List.drop ((i : Int) * 200).toNat (List.take (min (((i : Int) + 1) * 200) (b.length : Int)).toNat b) = pcB b i := by
       rw [show ((i : Int) * 200).toNat = i * 200 from by omega]
       exact pcB_cut (by omega) (by omega)
     have hpcl : (pcB b i).length ≤ 200 := by unfold pcB; rw [List.length_take]; omega
     refine jr (own := [58]) (h := ?_)
     rw [hcE]
     refine jap (Fr := tbox t f x' :: D1) (how := how) (hp := List.perm_append_comm) (hsrc := (by simp only [go_sem, srcOf] <;> rfl)) (hc := bytes_cell) (hmax := (by omega)) (hk := ?_)
     rintro _ _ ⟨v2, D2, rfl, rfl, how2⟩
     simp only [List.cons_append, List.nil_append]
     have how3 : OwnB 5 (pgS ep i n b) v2 D2 := ownB_app how2
     refine J_freezeB (Fr := tbox t f x' :: D1) how3 (by unfold maxRows; omega) ?_
     refine J_is (t := 58) (by simp only [go_sem]) (List.mem_cons_self ..) (J_drop ?_)
     refine jr (h := ?_)
     refine jcs (Fr := []) (hs := hpt) (hp := (by rw [List.append_nil])) (hk := ?_) (hpan := (by rintro y Δ' ⟨e, D1, h, _⟩; cases h))
     rintro y _ ⟨er, D3, e, her, hz, hO3, rfl⟩
     cases e
     rw [List.append_nil]
     by_cases hcc : tputC s' x' (base + i) 5 (pgS ep i n b) = 0
     · obtain rfl := hz hcc
       rw [if_neg (by rw [hcc]; simp)] at hR'
       have hN : tputN s' x' (base + i) 5 (pgS ep i n b) = x' + 1 := by unfold tputN; rw [if_pos hcc]
       rw [hN] at hbd ⊢
       refine jr (h := ?_)
       refine jn (h := ?_)
       refine jr (h := ?_)
       refine jk [0, 1, 3, 11, 12, 34, 35] (h := ?_)
       exact ih (n - (i + 1)) _ _ (by omega) ⟨i + 1, _, x' + 1, D3, by omega, rfl, hO3, hSB, hbd, hR', rfl, rfl⟩
     · rw [if_pos hcc] at hR'
       have hN : tputN s' x' (base + i) 5 (pgS ep i n b) = x' := by unfold tputN; rw [if_neg hcc]
       rw [hN]
       subst hR'
       obtain ⟨te, ve, rfl⟩ := iserr_ne her hcc
       refine jr (h := ?_)
       refine jt (h := ?_)
       refine jr (h := ?_)
       refine jcs (Δ1 := []) (Fr := tbox t f x' :: D3) (hs := (wrapS_ok _ _ her)) (hp := (List.Perm.refl _)) (hk := ?_) (hpan := (by rintro y Δ' ⟨⟨e, h, _⟩, _⟩; cases h))
       rintro y Δ' ⟨⟨e2, h2, he2⟩, rfl⟩
       cases h2
       refine jr (h := ?_)
       refine jret Tryz.func23 (h := ⟨_, D3, rfl, he2, hO3, rfl⟩)
   · have hin : i = n := by omega
     subst hin
     rw [Nat.sub_self] at hR'
     simp only [svL] at hR'
     subst hR'
     refine jr (h := ?_)
     refine jcs (Δ1 := D1) (Fr := [_]) (hs := (flush_ok hO (hB'.wf (by omega)))) (hp := (List.perm_append_comm (l₁ := [_]))) (hk := ?_) (hpan := (by rintro y Δ' ⟨e, h, _⟩; cases h))
     rintro y D2 ⟨e, h6, he, hz, hO2⟩
     cases h6
     refine J_perm List.perm_append_comm ?_
     refine jr (h := ?_)
     refine jcs (Δ1 := []) (Fr := _ :: D2) (hs := (wrapS_ok _ _ he)) (hp := (List.Perm.refl _)) (hk := ?_) (hpan := (by rintro y Δ' ⟨⟨e, h, _⟩, _⟩; cases h))
     rintro y Δ' ⟨⟨e2, h2, he2⟩, rfl⟩
     cases h2
     refine jr (h := ?_)
     refine jret Tryz.func23 (h := ⟨_, D2, rfl, he2, hO2, rfl⟩)
end
section
attribute [local go_sem] rowsBytes_bytesRows Option.map_some Int.cast_ofNat_Int tAV
def svLC (base : Int) (e n : Nat) (b : List UInt8) : Nat → Nat → Fl → List (Int × List UInt8) → Int → List (Int × List UInt8)
 | 0, _, s, c, _ => flushCC s c
 | k + 1, i, s, c, x => if tputC s x (base + i) 5 (pgS e i n b) ≠ 0 then c else svLC base e n b k (i + 1) (tputS s x (base + i) 5 (pgS e i n b)) c (x + 1)
def svRC (s : Fl) (c : List (Int × List UInt8)) (x base pages e : Int) (l : SN) : List (Int × List UInt8) :=
 if e < 1 then c else if pages < (((snPut l).length + 199) / 200 : Nat) then c
 else svLC base e.toNat (((snPut l).length + 199) / 200) (snPut l) (((snPut l).length + 199) / 200) 0 s c x
end
section
attribute [local go_sem] rowsBytes_bytesRows Option.map_some Int.cast_ofNat_Int getBox_GL setBox_GL fresh_GL flCells tAV
theorem must_nil : ACalls Tryz.prog 50 [.c .nilIface] [] (fun r Δ => r = .ret (.tup []) ∧ Δ = []) := by
 refine jen cl_50 Tryz.func50 (h := ?_)
 refine jr (h := ?_)
 refine jn (h := ?_)
 refine jr (h := ?_)
 refine J_end Tryz.func50 (xs := []) (by rfl) ⟨rfl, rfl⟩
theorem must_err {t : TypeId} {y : AV} : ACalls Tryz.prog 50 [.ifc t y] [] (fun r Δ => r = .pan (.ifc 103 (.agg [.ifc t y])) ∧ Δ = []) := by
 refine jen cl_50 Tryz.func50 (h := ?_)
 refine jr (h := ?_)
 refine jt (h := ?_)
 refine jr (h := ?_)
 refine J_panic rfl rfl rfl (by simp only [go_sem] <;> with_reducible rfl) ?_
 exact ⟨rfl, rfl⟩
def rd1 (b : List UInt8) : Int × Nat × Nat := numR b 0 0 1099511627776
def rd2 (b : List UInt8) : Int × Nat × Nat := numR b (rd1 b).2.1 (rd1 b).1 4096
def rd3 (b : List UInt8) : Int × Nat × Nat := numR b (rd2 b).2.1 (rd2 b).1 4096
def pgOK (b : List UInt8) (e : Int) (i : Nat) : Prop := (rd3 b).1 = 0 ∧ ((rd1 b).2.2 : Int) = e ∧ (rd2 b).2.2 = i ∧ i < (rd3 b).2.2
instance (b : List UInt8) (e : Int) (i : Nat) : Decidable (pgOK b e i) := inferInstanceAs (Decidable (_ ∧ _))
def pgB (s : Fl) (base : Int) (i : Nat) : List UInt8 := txtB (lookB s (base + i))
def pgC (s : Fl) (base e : Int) (i : Nat) : Int := if tgetC s (base + i) 5 ≠ 0 then tgetC s (base + i) 5 else if pgOK (pgB s base i) e i then 0 else 5
theorem pgB_len {s : Fl} (hw : s.WF) (base : Int) (i : Nat) : (pgB s base i).length ≤ 256 := by
 have := look_len hw (base + i)
 unfold pgB txtB; rw [List.length_take, List.length_drop]; omega
theorem pgOK_sel {b : List UInt8} {e : Int} {i : Nat} (h : ¬ pgOK b e i) :
   (decide ((rd3 b).1 ≠ 0) = true ∧ True ∧ True ∧ True) ∨ (decide ((rd3 b).1 ≠ 0) = false ∧ decide (((rd1 b).2.2 : Int) ≠ e) = true ∧ True ∧ True) ∨
   (decide ((rd3 b).1 ≠ 0) = false ∧ decide (((rd1 b).2.2 : Int) ≠ e) = false ∧ decide (((rd2 b).2.2 : Int) ≠ (i : Int)) = true ∧ True) ∨
   (decide ((rd3 b).1 ≠ 0) = false ∧ decide (((rd1 b).2.2 : Int) ≠ e) = false ∧ decide (((rd2 b).2.2 : Int) ≠ (i : Int)) = false ∧ decide (((rd3 b).2.2 : Int) ≤ (i : Int)) = true) := by
 unfold pgOK at h
 simp only [decide_eq_true_eq, decide_eq_false_iff_not, and_true]
 omega
theorem n4096_ok (a : Nat) (b : List UInt8) (at_ : Nat) (c : Int) (h : at_ ≤ b.length) (hb : b.length < 2 ^ 37) :
   ACalls Tryz.prog 28 [.c (.pointer (some ⟨a, 0, none⟩)), .c (.int .i64 4096)] [rdr a b at_ c]
   (fun r Δ => r = .ret (.c (.int .i64 (numR b at_ c 4096).2.2)) ∧ Δ = [rdr a b (numR b at_ c 4096).2.1 (numR b at_ c 4096).1]) := rnum_ok a b at_ c 4096 h hb (by omega)
end
section
attribute [local go_sem] rowsBytes_bytesRows Option.map_some Int.cast_ofNat_Int tAV

end
section
attribute [local go_sem] rowsBytes_bytesRows Option.map_some Int.cast_ofNat_Int tAV
def pcR (s : Fl) (base : Int) (i : Nat) : List UInt8 := (pgB s base i).drop (rd3 (pgB s base i)).2.1
def pcN (s : Fl) (base : Int) (i : Nat) : Nat := (rd3 (pgB s base i)).2.2
def ldL (s : Fl) (base e : Int) (n : Nat) : Nat → Nat → List UInt8 → Int × List UInt8
 | 0, _, acc => (0, acc)
 | k + 1, i, acc => if pgC s base e i ≠ 0 then (pgC s base e i, []) else if pcN s base i ≠ n then (5, []) else ldL s base e n k (i + 1) (acc ++ pcR s base i)
def ldR (s : Fl) (base pages e : Int) : Int × SN :=
 if pgC s base e 0 ≠ 0 then (pgC s base e 0, []) else if pages < (pcN s base 0 : Int) then (4, [])
 else if (ldL s base e (pcN s base 0) (pcN s base 0 - 1) 1 (pcR s base 0)).1 ≠ 0 then ((ldL s base e (pcN s base 0) (pcN s base 0 - 1) 1 (pcR s base 0)).1, [])
 else (snC (ldL s base e (pcN s base 0) (pcN s base 0 - 1) 1 (pcR s base 0)).2, snV (ldL s base e (pcN s base 0) (pcN s base 0 - 1) 1 (pcR s base 0)).2)
theorem pcN_le (s : Fl) (base : Int) (i : Nat) : pcN s base i ≤ 4096 :=
 numR_val _ _ 4096 (numR_at _ _ 4096 (numR_at _ 0 _ (Nat.zero_le _)))
theorem pgC_pos {s : Fl} {base e : Int} {i : Nat} (h : pgC s base e i = 0) : i < pcN s base i := by
 unfold pgC at h
 split at h
 · contradiction
 · split at h
   · rename_i hp; exact hp.2.2.2
   · cases h
end
section
attribute [local go_sem] rowsBytes_bytesRows Option.map_some Int.cast_ofNat_Int
theorem checkW_ok (a : Option Addr) (cap : Nat) (st kd : Int) (b : List UInt8) (hb : b.length < 2 ^ 37) : ACalls Tryz.prog 99 [leafAV st kd (.c (.slice a b.length cap))] [] (fun r Δ => (∃ e, r = .ret e ∧ IsErr e (checkC st kd b.length) ∧ (checkC st kd b.length = 0 → e = .c .nilIface)) ∧ Δ = []) := by
 unfold leafAV
 by_cases h1 : st < 1
 · have d1 := decide_eq_true h1
   refine jen cl_99 Tryz.func99 (h := ?_)
   refine jf d1 (h := ?_)
   refine jt (h := ?_)
   refine jr (h := ?_)
   refine jc (hs := newS_ok _ _ _) (hk := ?_)
   refine jr (h := ?_)
   refine jret Tryz.func99 (h := ⟨⟨_, rfl, by unfold checkC; rw [if_pos (by omega)]; exact errNew_is _ _ _, by unfold checkC; rw [if_pos (by omega)]; intro h; exact absurd h (by decide)⟩, rfl⟩)
 have d1 := decide_eq_false h1
 by_cases h2 : st > 1099511627776
 · have d2 := decide_eq_true h2
   refine jen cl_99 Tryz.func99 (h := ?_)
   refine jf (cA d1 d2) (h := ?_)
   refine jt (h := ?_)
   refine jr (h := ?_)
   refine jc (hs := newS_ok _ _ _) (hk := ?_)
   refine jr (h := ?_)
   refine jret Tryz.func99 (h := ⟨⟨_, rfl, by unfold checkC; rw [if_pos (by omega)]; exact errNew_is _ _ _, by unfold checkC; rw [if_pos (by omega)]; intro h; exact absurd h (by decide)⟩, rfl⟩)
 have d2 := decide_eq_false h2
 by_cases h3 : kd < 1
 · have d3 := decide_eq_true h3
   refine jen cl_99 Tryz.func99 (h := ?_)
   refine jf (cA d1 d2) (h := ?_)
   refine jn (h := ?_)
   refine jf d3 (h := ?_)
   refine jt (h := ?_)
   refine jr (h := ?_)
   refine jc (hs := newS_ok _ _ _) (hk := ?_)
   refine jr (h := ?_)
   refine jret Tryz.func99 (h := ⟨⟨_, rfl, by unfold checkC; rw [if_neg (by omega), if_pos (by omega)]; exact errNew_is _ _ _, by unfold checkC; rw [if_neg (by omega), if_pos (by omega)]; intro h; exact absurd h (by decide)⟩, rfl⟩)
 have d3 := decide_eq_false h3
 by_cases h4 : kd > 5
 · have d4 := decide_eq_true h4
   refine jen cl_99 Tryz.func99 (h := ?_)
   refine jf (cA d1 d2) (h := ?_)
   refine jn (h := ?_)
   refine jf (cA d3 d4) (h := ?_)
   refine jt (h := ?_)
   refine jr (h := ?_)
   refine jc (hs := newS_ok _ _ _) (hk := ?_)
   refine jr (h := ?_)
   refine jret Tryz.func99 (h := ⟨⟨_, rfl, by unfold checkC; rw [if_neg (by omega), if_pos (by omega)]; exact errNew_is _ _ _, by unfold checkC; rw [if_neg (by omega), if_pos (by omega)]; intro h; exact absurd h (by decide)⟩, rfl⟩)
 have d4 := decide_eq_false h4
 refine jen cl_99 Tryz.func99 (h := ?_)
 refine jf (cA d1 d2) (h := ?_)
 refine jn (h := ?_)
 refine jf (cA d3 d4) (h := ?_)
 refine jn (h := ?_)
 refine jr (h := ?_)
 refine jif (h1 := fun h5 => ?_) (h2 := fun h5 => ?_)
 · refine jr (h := ?_)
   refine jc (hs := newS_ok _ _ _) (hk := ?_)
   refine jr (h := ?_)
   refine jret Tryz.func99 (h := ⟨⟨_, rfl, by unfold checkC; rw [if_neg (by omega), if_neg (by omega), if_pos (by omega)]; exact errNew_is _ _ _, by unfold checkC; rw [if_neg (by omega), if_neg (by omega), if_pos (by omega)]; intro h; exact absurd h (by decide)⟩, rfl⟩)
 · refine jr (h := ?_)
   refine jret Tryz.func99 (h := ⟨⟨_, rfl, by unfold checkC; rw [if_neg (by omega), if_neg (by omega), if_neg (by omega)]; exact .none, fun _ => rfl⟩, rfl⟩)
theorem getW_ok (b : List UInt8) (hb : b.length < 2 ^ 37) : ACalls Tryz.prog 96 [.sl 1 (bytesRows b)] [] (fun r Δ => (getC b = 0 → ∃ v, r = .ret (.tup [leafAV (stampsB b).1 (kdB b) (.c v), .c .nilIface]) ∧ OwnB 5 (txtB b) v Δ) ∧
   (getC b ≠ 0 → ∃ e, r = .ret (.tup [leafAV 0 0 (.c (.slice none 0 0)), e]) ∧ IsErr e (getC b) ∧ Δ = [])) := by
 unfold leafAV
 refine jen cl_96 Tryz.func96 (h := ?_)
 refine jr (own := [2]) (h := ?_)
 refine jnv (hh := fun b2 hb2 => ?_)
 refine jr (h := ?_)
 refine jif (h1 := fun hc => ?_) (h2 := fun hc => ?_)
 · have hg : getC b = 6 := by unfold getC; rw [if_pos (by omega)]
   refine jr (h := ?_)
   refine jc (hs := newS_ok _ _ _) (hk := ?_)
   refine jr (h := ?_)
   refine J_forget ?_
   refine jret Tryz.func96 (h := ⟨fun h => absurd (hg.symm.trans h) (by decide), fun _ => ⟨_, rfl, by rw [hg]; exact errNew_is _ _ _, rfl⟩⟩)
 have hl : b.length = 256 := by omega
 have hlr : (bytesRows b).length = 256 := by rw [bytesRows_length, hl]
 have g8 := bytes_get (getD_get (b := b) (i := 8) (by omega))
 have g9 := bytes_get (getD_get (b := b) (i := 9) (by omega))
 have g10 := bytes_get (getD_get (b := b) (i := 10) (by omega))
 refine jr (h := ?_)
 refine jc (hs := stamps_ok b hb) (hk := ?_)
 refine jr (h := ?_)
 refine jd [(0, .pure), (1, .pure), (2, .pure), (3, .pure), (4, .pure), (5, .pure), (6, .pure), (7, .pure), (8, .pure), (9, .pure), (10, .pure)] mixed (by kernel_rfl) ?_
 refine Can_run (own := []) (by simp (maxSteps := 2000000) (disch := omega) only [go_sem, ↓reduceIte, Int.reduceLT, Int.reduceLE, Int.reduceToNat, Int.reducePow, Int.reduceNeg, Nat.reduceBEq, Tryz.ntmps96, g9, g10, hl, or_bytes] <;> with_reducible rfl) ?_
 refine Can_nil ?_
 have e0 : ((256 : Int) - 8) = 248 := by decide
 have hd : (b.drop 248).length = 8 := by rw [List.length_drop]; omega
 have hn : (b.getD 9 0).toNat * 256 + (b.getD 10 0).toNat = nB b := rfl
 rw [hn]
 refine jr (h := ?_)
 refine jd [(0, .pure), (1, .pure), (2, .pure), (3, .pure), (4, .pure), (5, .pure), (6, .pure)] mixed (by kernel_rfl) ?_
 refine cr (hk := ?_)
 refine ccp (hs := lword_ok b (by omega) hb) (hk := ?_)
 refine Can_run (own := []) (by simp (maxSteps := 2000000) (disch := omega) only [go_sem, ↓reduceIte, Int.reduceLT, Int.reduceLE, Int.reduceToNat, Int.reducePow, Int.reduceNeg, Nat.reduceBEq, Tryz.ntmps96, hl, List.take_of_length_le (Nat.le_of_eq hl)] <;> with_reducible rfl) ?_
 refine Can_callp (by simp only [go_sem, ↓reduceIte, Int.reduceLT, Int.reduceLE, Int.reduceToNat, Int.reducePow, Int.reduceNeg, Nat.reduceBEq, Tryz.ntmps96, hl, List.take_of_length_le (Nat.le_of_eq hl)] <;> with_reducible rfl) (lword_ok (b.drop 248) (by omega) (by omega)) ?_
 refine cr (hk := ?_)
 refine Can_nil ?_
 rw [List.take_of_length_le (l := b.drop 248) (by omega)]
 have hu : (((be8 (b.take 8)).toNat : Int) ≠ ((be8 (b.drop 248)).toNat : Int)) ↔ be8 (b.take 8) ≠ be8 (b.drop 248) := by
   rw [ne_eq, ne_eq, ← UInt64.toNat_inj]; omega
 refine jif (h1 := fun h8 => ?_) (h2 := fun h8 => ?_)
 · have hg : getC b = 8 := by unfold getC; rw [if_neg (by omega), if_pos (hu.1 h8)]
   refine jr (h := ?_)
   refine jc (hs := newS_ok _ _ _) (hk := ?_)
   refine jr (h := ?_)
   refine J_forget ?_
   refine jret Tryz.func96 (h := ⟨fun h => absurd (hg.symm.trans h) (by decide), fun _ => ⟨_, rfl, by rw [hg]; exact errNew_is _ _ _, rfl⟩⟩)
 have h8' : ¬ be8 (b.take 8) ≠ be8 (b.drop 248) := fun h => h8 (hu.2 h)
 by_cases hs1 : (((stampsB b).1 : Int) = 0)
 · have d1 := decide_eq_true hs1
   have hg : getC b = 9 := by unfold getC; rw [if_neg (by omega), if_neg h8', if_pos (by omega)]
   refine jf d1 (h := ?_)
   refine jt (h := ?_)
   refine jr (h := ?_)
   refine jc (hs := newS_ok _ _ _) (hk := ?_)
   refine jr (h := ?_)
   refine J_forget ?_
   refine jret Tryz.func96 (h := ⟨fun h => absurd (hg.symm.trans h) (by decide), fun _ => ⟨_, rfl, by rw [hg]; exact errNew_is _ _ _, rfl⟩⟩)
 have d1 := decide_eq_false hs1
 by_cases hs2 : (((stampsB b).2 : Int) = 0)
 · have d2 := decide_eq_true hs2
   have hg : getC b = 9 := by unfold getC; rw [if_neg (by omega), if_neg h8', if_pos (by omega)]
   refine jf (cA d1 d2) (h := ?_)
   refine jt (h := ?_)
   refine jr (h := ?_)
   refine jc (hs := newS_ok _ _ _) (hk := ?_)
   refine jr (h := ?_)
   refine J_forget ?_
   refine jret Tryz.func96 (h := ⟨fun h => absurd (hg.symm.trans h) (by decide), fun _ => ⟨_, rfl, by rw [hg]; exact errNew_is _ _ _, rfl⟩⟩)
 have d2 := decide_eq_false hs2
 refine jf (cA d1 d2) (h := ?_)
 refine jn (h := ?_)
 refine jr (h := ?_)
 refine jc (hs := fits_ok (b.take 248) (by rw [List.length_take]; omega) (by rw [List.length_take]; omega)) (hk := ?_)
 refine jr (h := ?_)
 cases hf : fitsB (b.take 248) with
 | false =>
   have hg : getC b = 7 := by unfold getC; rw [if_neg (by omega), if_neg h8', if_neg (by omega), if_pos hf]
   refine jt (h := ?_)
   refine jr (h := ?_)
   refine jc (hs := newS_ok _ _ _) (hk := ?_)
   refine jr (h := ?_)
   refine J_forget ?_
   refine jret Tryz.func96 (h := ⟨fun h => absurd (hg.symm.trans h) (by decide), fun _ => ⟨_, rfl, by rw [hg]; exact errNew_is _ _ _, rfl⟩⟩)
 | true =>
 refine jn (h := ?_)
 refine jr (h := ?_)
 refine jif (h1 := fun h5 => ?_) (h2 := fun h5 => ?_)
 · have hg : getC b = 5 := by unfold getC; rw [if_neg (by omega), if_neg h8', if_neg (by omega), if_neg (by simp [hf]), if_pos (by omega)]
   refine jr (h := ?_)
   refine jc (hs := newS_ok _ _ _) (hk := ?_)
   refine jr (h := ?_)
   refine J_forget ?_
   refine jret Tryz.func96 (h := ⟨fun h => absurd (hg.symm.trans h) (by decide), fun _ => ⟨_, rfl, by rw [hg]; exact errNew_is _ _ _, rfl⟩⟩)
 have hn5 : nB b ≤ 233 := by omega
 refine jr (h := ?_)
 have htl : (txtB b).length = nB b := by unfold txtB; rw [List.length_take, List.length_drop]; omega
 refine jd2 10 12 [(0, .pure), (1, .pure), (2, .pure), (3, .pure), (4, .pure), (5, .pure), (6, .pure), (7, .pure), (8, .pure), (9, .pure), (10, .act), (11, .pure), (12, .new), (13, .act)] [(0, .pure), (1, .pure), (2, .pure), (3, .pure), (4, .pure), (5, .pure), (6, .pure), (7, .pure), (8, .pure), (9, .pure), (12, .new), (10, .act), (11, .pure), (13, .act)] mixed (by kernel_rfl) ?_ ?_
 all_goals
   refine cf (own := [75, 7]) g8 (hk := ?_)
   rw [show List.drop 11 (List.take ((11 : Int) + (nB b : Int)).toNat b) = txtB b from be_slice b 11 (nB b) (by omega)]
 refine cbi (hb := append0_bi gS (by simp only [go_sem, srcOf] <;> rfl) bytes_cell (by omega)) (hk := ?_)
 rintro _ _ ⟨v, Dv, rfl, rfl, how⟩
 obtain ⟨av, cv, rfl⟩ := how.slice
 refine cr (own := [7]) (hk := ?_)
 refine cnv (hk := fun b7 hb7 => ?_)
 simp only [List.cons_append, List.nil_append, fresh] at hb7
 refine cf hb7 (hk := ?_)
 refine Can_nil ?_
 rotate_left
 refine cnv (hk := fun b7 hb7 => ?_)
 simp only [fresh] at hb7
 refine cf (own := [75]) hb7 (hk := ?_)
 refine cbi (hb := append0_bi gS (by simp only [go_sem, srcOf] <;> rfl) bytes_cell (by omega)) (hk := ?_)
 rintro _ _ ⟨v, Dv, rfl, rfl, how⟩
 obtain ⟨av, cv, rfl⟩ := how.slice
 simp only [List.cons_append, List.nil_append]
 refine cf hb7 (hk := ?_)
 refine Can_nil ?_
 all_goals
   refine jf hb7 (h := ?_)
   have hk : ((b.getD 8 0).toNat : Int) = ((kdB b : Nat) : Int) := rfl
   rw [hk]
   have hck := checkW_ok av cv (stampsB b).1 (kdB b) (txtB b) (by omega)
   rw [htl] at hck ⊢
   unfold leafAV at hck
   refine jcs (Δ1 := []) (Fr := _ :: _ :: Dv) (hs := hck) (hp := (List.Perm.refl _)) (hk := ?_) (hpan := (by rintro x Δ' ⟨⟨e, h, _⟩, _⟩; cases h))
   rintro x Δ' ⟨⟨e, h, he, hz⟩, rfl⟩
   cases h
   by_cases hcc : checkC (stampsB b).1 (kdB b) (nB b) = 0
   rotate_left
   · have hg : getC b = checkC (stampsB b).1 (kdB b) (nB b) := by unfold getC; rw [if_neg (by omega), if_neg h8', if_neg (by omega), if_neg (by simp [hf]), if_neg (by omega), if_pos hcc]
     obtain ⟨t, y, rfl⟩ := iserr_ne he hcc
     refine jr (h := ?_)
     refine jt (h := ?_)
     refine jr (h := ?_)
     refine jcs (Δ1 := []) (Fr := _ :: _ :: Dv) (hs := (wrapS_ok _ _ he)) (hp := (List.Perm.refl _)) (hk := ?_) (hpan := (by rintro x Δ' ⟨⟨e, h, _⟩, _⟩; cases h))
     rintro x Δ' ⟨⟨e, h, he'⟩, rfl⟩
     cases h
     refine jf hb7 (h := ?_)
     refine J_forget ?_
     refine jretf hb7 Tryz.func96 (h := ⟨fun h => absurd (hg.symm.trans h) hcc, fun _ => ⟨_, rfl, by rw [hg]; exact he', rfl⟩⟩)
   obtain rfl := hz hcc
   refine jr (h := ?_)
   refine jn (h := ?_)
   refine J_mrun (own := []) (m := 2000) (by simp (maxSteps := 2000000) (disch := omega) only [go_sem, ↓reduceIte, Int.reduceLT, Int.reduceLE, Int.reduceToNat, Int.reducePow, Int.reduceNeg, Nat.reduceBEq, Tryz.ntmps96, hl, List.take_of_length_le (Nat.le_of_eq hl)] <;> with_reducible rfl) ?_
   rw [show List.drop ((11 : Int) + (nB b : Int)).toNat (List.take 244 b) = restB b from by
     rw [show ((11 : Int) + (nB b : Int)).toNat = 11 + nB b from by omega]
     exact be_slice b (11 + nB b) (233 - nB b) (by omega)]
   have hrl : (restB b).length = 233 - nB b := by unfold restB; rw [List.length_take, List.length_drop]; omega
   have h70 : getC b = if blankB (restB b) = false then 5 else 0 := by
     unfold getC; rw [if_neg (by omega), if_neg h8', if_neg (by omega), if_neg (by simp [hf]), if_neg (by omega), if_neg (by omega)]
   generalize restB b = w at hrl h70 ⊢
   refine jk [2, 4, 7, 88, 89, 90] (h := ?_)
   refine J_loopI (I := fun m e D => ∃ i : Nat, i ≤ w.length ∧ m = w.length - i ∧ D = .box b7 150 [.c (.int .i64 (stampsB b).1), .c (.int .i64 (kdB b)), .c (.slice av (nB b) cv)] :: .box b2 150 [.c (.int .i64 0), .c (.int .i64 0), .c (.slice none 0 0)] :: Dv ∧ blankB (w.take i) = true ∧ e = [(2, .c (.pointer (some ⟨b2, 0, none⟩))), (4, .c (.int .i64 (stampsB b).1)), (7, .c (.pointer (some ⟨b7, 0, none⟩))), (88, .sl 1 (bytesRows w)), (89, .c (.int .i64 w.length)), (90, .c (.int .i64 i))]) ?_ ?_
   · exact ⟨_, 0, by omega, rfl, rfl, rfl, rfl⟩
   · rintro m e D ⟨i, hi, rfl, rfl, hz, rfl⟩ ih
     refine jr (h := ?_)
     refine jif (h1 := fun hcl => ?_) (h2 := fun hcl => ?_)
     · have hlt : i < w.length := by omega
       have g0 := List.getElem?_eq_getElem hlt
       have g1 := bytes_get g0
       have h0 : (0 : Int) ≤ (i : Int) := by omega
       refine jf g1 (h := ?_)
       refine jif (h1 := fun hnz => ?_) (h2 := fun hnz => ?_)
       · have hbf : blankB w = false := by
           simp only [blankB, List.all_eq_false]
           exact ⟨w[i], List.getElem_mem hlt, by
             intro hz0
             have : w[i] = 0 := by simpa using hz0
             rw [this] at hnz; exact hnz rfl⟩
         rw [if_pos hbf] at h70
         refine jf hb7 (h := ?_)
         refine jc (hs := newS_ok _ _ _) (hk := ?_)
         refine jf hb7 (h := ?_)
         refine J_forget ?_
         refine jretf hb7 Tryz.func96 (h := ⟨fun h => absurd (h70.symm.trans h) (by decide), fun _ => ⟨_, rfl, by rw [h70]; exact errNew_is _ _ _, rfl⟩⟩)
       · refine jr (h := ?_)
         refine jk [2, 4, 7, 88, 89, 90] (h := ?_)
         refine ih _ _ _ ?_ ⟨i + 1, by omega, rfl, rfl, ?_, rfl⟩
         · omega
         · simp only [blankB] at hz ⊢
           rw [List.take_add_one, g0, List.all_append, hz]
           have : w[i] = 0 := by
             apply UInt8.toNat_inj.1
             have : ¬ ((w[i].toNat : Int) ≠ 0) := hnz
             simp only [UInt8.toNat_ofNat]; omega
           simp [this]
     · have hi' : i = w.length := by omega
       subst hi'
       rw [List.take_length] at hz
       rw [if_neg (by simp [hz])] at h70
       refine jf hb7 (h := ?_)
       refine J_forgetP ?_
       refine jretf hb7 Tryz.func96 (h := ⟨[_, _], Dv, List.Perm.refl _, fun _ => ⟨_, rfl, by show Own _ _ _ (txtB b).length _ _; rw [htl] at how ⊢; exact how⟩, fun h => absurd h70 h⟩)
end
section
attribute [local go_sem] rowsBytes_bytesRows Option.map_some Int.cast_ofNat_Int
section
variable {t f : Nat} {n : Int} {s : Fl} {D : List HP}
theorem tgetW_ok (h : OwnF f s D) (hw : s.WF) (at_ kd : Int) : ACalls Tryz.prog 74 [ptr t, .c (.int .i64 at_), .c (.int .i64 kd)] (tbox t f n :: D)
   (fun r D' => (tgetC s at_ kd = 0 → ∃ v D2, r = .ret (.tup [leafAV (stampsB (lookB s at_)).1 (kdB (lookB s at_)) (.c v), .c .nilIface]) ∧ OwnB 5 (txtB (lookB s at_)) v D2 ∧ D' = tbox t f n :: (D ++ D2)) ∧
     (tgetC s at_ kd ≠ 0 → ∃ e, r = .ret (.tup [leafAV 0 0 (.c (.slice none 0 0)), e]) ∧ IsErr e (tgetC s at_ kd) ∧ D' = tbox t f n :: D)) := by
 unfold leafAV
 have hll := look_len hw at_
 refine jen cl_74 Tryz.func74 (h := ?_)
 refine jr (own := [6]) (h := ?_)
 refine jnv (hh := fun b6 hb6 => ?_)
 simp only [fresh] at hb6
 refine jf hb6 (h := ?_)
 refine jcs (Δ1 := D) (Fr := [_, _]) (hs := (read_ok' h hw at_)) (hp := (List.perm_append_comm (l₁ := [_, _]))) (hk := ?_) (hpan := (by rintro x Δ' ⟨h1, h2, _⟩; by_cases hc : checkF s at_ = 0; (· cases h1 hc); (· obtain ⟨e, h3, _⟩ := h2 hc; cases h3)))
 rintro x D ⟨h1, h2, rfl⟩
 refine J_perm List.perm_append_comm ?_
 by_cases hc : checkF s at_ = 0
 rotate_left
 · have hC : tgetC s at_ kd = checkF s at_ := by unfold tgetC; rw [if_pos hc]
   obtain ⟨e, h3, he⟩ := h2 hc
   cases h3
   obtain ⟨y, z, rfl⟩ := iserr_ne he hc
   refine J_mrun (own := []) (m := 2000) (by simp (maxSteps := 2000000) (disch := omega) only [go_sem, ↓reduceIte, Int.reduceLT, Int.reduceLE, Int.reduceToNat, Int.reducePow, Int.reduceNeg, Nat.reduceBEq, Tryz.ntmps74, anil, hb6.1, hb6.2.1] <;> with_reducible rfl) ?_
   refine jt (h := ?_)
   refine jf hb6 (h := ?_)
   refine jcs (Δ1 := []) (Fr := _ :: _ :: D) (hs := (wrapS_ok _ _ he)) (hp := (List.Perm.refl _)) (hk := ?_) (hpan := (by rintro x Δ' ⟨⟨e, h, _⟩, _⟩; cases h))
   rintro x Δ' ⟨⟨e, h2, he'⟩, rfl⟩
   cases h2
   refine jf hb6 (h := ?_)
   rw [hC]
   refine J_forgetP ?_
   refine jretf hb6 Tryz.func74 (h := ⟨[_], _, List.Perm.refl _, fun h => absurd h hc, fun _ => ⟨_, rfl, he', rfl⟩⟩)
 cases h1 hc
 have hg := getW_ok (lookB s at_) (by omega)
 unfold leafAV at hg
 simp only [pageAV]
 refine jf hb6 (h := ?_)
 refine jn (h := ?_)
 refine jf (own := [10]) hb6 (h := ?_)
 refine jcs (Δ1 := []) (Fr := _ :: _ :: D) (hs := hg) (hp := (List.Perm.refl _)) (hk := ?_) (hpan := (by rintro x Δ' ⟨h1, h2⟩; by_cases hc : getC (lookB s at_) = 0; (· obtain ⟨v, h3, _⟩ := h1 hc; cases h3); (· obtain ⟨e, h3, _⟩ := h2 hc; cases h3)))
 rintro x D2 ⟨h3, h4⟩
 by_cases hgc : getC (lookB s at_) = 0
 rotate_left
 · have hC : tgetC s at_ kd = getC (lookB s at_) := by unfold tgetC; rw [if_neg (by simp [hc]), if_pos hgc]
   obtain ⟨e, h5, he, rfl⟩ := h4 hgc
   cases h5
   obtain ⟨y, z, rfl⟩ := iserr_ne he hgc
   simp only [List.nil_append]
   refine jf (own := [10]) hb6 (h := ?_)
   refine jnv (hh := fun b10 hb10 => ?_)
   simp only [fresh] at hb10
   refine jf (cA hb6 hb10) (h := ?_)
   refine jt (h := ?_)
   refine jf (cA hb6 hb10) (h := ?_)
   refine jcs (Δ1 := []) (Fr := _ :: _ :: _ :: D) (hs := (wrapS_ok _ _ he)) (hp := (List.Perm.refl _)) (hk := ?_) (hpan := (by rintro x Δ' ⟨⟨e, h, _⟩, _⟩; cases h))
   rintro x Δ' ⟨⟨e, h2, he'⟩, rfl⟩
   cases h2
   refine jf (cA hb6 hb10) (h := ?_)
   rw [hC]
   refine J_forgetP ?_
   refine jretf (cA hb6 hb10) Tryz.func74 (h := ⟨[_, _], _, List.Perm.refl _, fun h => absurd h hgc, fun _ => ⟨_, rfl, he', rfl⟩⟩)
 obtain ⟨v, h5, how⟩ := h3 hgc
 cases h5
 obtain ⟨av, cv, rfl⟩ := how.slice
 refine J_perm List.perm_append_comm ?_
 simp only [List.cons_append, List.nil_append]
 refine jf (own := [10]) hb6 (h := ?_)
 refine jnv (hh := fun b10 hb10 => ?_)
 simp only [fresh] at hb10
 refine jf (cA hb6 hb10) (h := ?_)
 refine jn (h := ?_)
 refine jf (cA hb6 hb10) (h := ?_)
 refine jif (h1 := fun hk => ?_) (h2 := fun hk => ?_)
 · have hC : tgetC s at_ kd = 12 := by unfold tgetC; rw [if_neg (by simp [hc]), if_neg (by simp [hgc]), if_pos hk]
   refine jf (cA hb6 hb10) (h := ?_)
   refine jc (hs := newS_ok _ _ _) (hk := ?_)
   refine jf (cA hb6 hb10) (h := ?_)
   rw [hC]
   refine J_forgetP ?_
   refine jretf (cA hb6 hb10) Tryz.func74 (h := ⟨[_, _] ++ D2, _, (.cons _ (.cons _ (List.perm_append_comm (l₁ := _ :: D) (l₂ := D2)))), fun h => absurd h (by decide), fun _ => ⟨_, rfl, errNew_is _ _ _, rfl⟩⟩)
 · have hC : tgetC s at_ kd = 0 := by unfold tgetC; rw [if_neg (by simp [hc]), if_neg (by simp [hgc]), if_neg hk]
   refine jf (cA hb6 hb10) (h := ?_)
   refine J_forgetP ?_
   refine jretf (cA hb6 hb10) Tryz.func74 (h := ⟨[_, _], _, List.Perm.refl _, fun _ => ⟨_, D2, rfl, how, rfl⟩, fun h => absurd hC h⟩)
end
end
section
attribute [local go_sem] rowsBytes_bytesRows Option.map_some Int.cast_ofNat_Int
theorem _root_.Go.Av.ACalls.leArg {P : Program} {f : FuncId} {pre post : List AV} {x y : AV} {Δ : List HP} {R : APost} (hle : x.le y) (h : ACalls P f (pre ++ y :: post) Δ R) : ACalls P f (pre ++ x :: post) Δ R := by
 refine ⟨h.callable, fun g B us s hr => h.run g B us s ?_⟩
 clear h
 induction pre generalizing us with
 | nil =>
   simp only [List.nil_append, relL] at hr ⊢
   obtain ⟨u, v, rfl, h1, h2⟩ := hr
   exact ⟨u, v, rfl, hle g u h1, h2⟩
 | cons a pre ih =>
   simp only [List.cons_append, relL] at hr ⊢
   obtain ⟨u, v, rfl, h1, h2⟩ := hr
   exact ⟨u, v, rfl, h1, ih v h2⟩
theorem empty_le (p : Option Addr) : (AV.c (.slice p 0 0)).le (.sl 1 (bytesRows [])) := fun g v h => by
 simp only [rel] at h ⊢
 subst h
 exact ⟨p, 0, rfl, ⟨Nat.le_refl _, by simp [bytesRows]⟩, .inl rfl⟩
theorem readW_ok (b : List UInt8) (hb : b.length < 2 ^ 37) {v : Value} {D : List HP} (how : OwnB 5 b v D) : ACalls Tryz.prog 27 [.c v] D (fun r Δ => ∃ a, r = .ret (.c (.pointer (some ⟨a, 0, none⟩))) ∧ Δ = rdr a b 0 0 :: D) := by
 cases how with
 | nil p e1 e2 =>
   have hb0 : b = [] := List.eq_nil_of_length_eq_zero e2
   subst hb0
   exact (read_ok [] (by simp)).leArg (pre := []) (post := []) (empty_le p)
 | box bb cap sp c1 c2 c3 =>
   have hsrc : srcOf [HP.box bb 5 ((bytesRows b).flatten ++ sp)] 1 (.c (.slice (some ⟨bb, 0, none⟩) b.length cap)) = some (b.length, (bytesRows b).flatten) := by
     simp only [srcOf, getBox, if_true, beq_self_eq_true]
     rw [if_pos (by rw [List.length_append, c1]; omega), List.drop_zero, ← c1, List.take_left]
   refine jen cl_27 Tryz.func27 (h := ?_)
   refine jr (own := [5, 7]) (h := ?_)
   refine jbi (hb := append0_bi gS hsrc bytes_cell (by omega)) (hk := ?_)
   rintro _ _ ⟨v, D2, rfl, rfl, how⟩
   refine J_freezeB (Fr := [_]) (b := b) how (by unfold maxRows; omega) ?_
   refine J_is (t := 5) (by simp only [go_sem]) (List.mem_cons_self ..) (J_drop ?_)
   refine jr (own := [7]) (h := ?_)
   refine jnb (hh := fun a ha => ?_)
   refine jr (h := ?_)
   refine jret Tryz.func27 (h := ⟨a, rfl, rfl⟩)
theorem rd_ne {b : List UInt8} (h : (rd3 b).1 = 0) : b ≠ [] := by
 intro hb
 have h1 := numR_zero (numR_zero h)
 subst hb
 simp [rd1, numR, scanN] at h1
end
section
attribute [local go_sem] rowsBytes_bytesRows Option.map_some Int.cast_ofNat_Int getBox_GL setBox_GL fresh_GL flCells tAV
theorem _root_.Go.Av.J_dropL {P : Program} {f : Shape} {n : Nat} {R : APost} {todo : List Item} {env : Env} {Δ : List HP} : ∀ (L : List HP), J P f n R todo env Δ → J P f n R todo env (L ++ Δ)
 | [], h => h
 | _ :: L, h => J_drop (J_dropL L h)
theorem own_box {e : TypeId} {b : List UInt8} {v : Value} {D : List HP} (h : OwnB e b v D) (hb : b ≠ []) : ∃ bb cap sp, v = .slice (some ⟨bb, 0, none⟩) b.length cap ∧ D = [.box bb e ((bytesRows b).flatten ++ sp)] ∧ sp.length = cap - b.length ∧ b.length ≤ cap := by
 cases h with
 | nil p e1 e2 => exact absurd (List.eq_nil_of_length_eq_zero e2) hb
 | box bb cap sp c1 c2 c3 => exact ⟨bb, cap, sp, rfl, rfl, by rw [c2]; omega, c3⟩
theorem spageW_ok {t f : Nat} {x : Int} {s : Fl} {D : List HP} (h : OwnF f s D) (hw : s.WF) (base e : Int) (i : Nat) (hi : i ≤ 4096) (hb : -100 ≤ base ∧ base ≤ 100) :
   ACalls Tryz.prog 49 [ptr t, .c (.int .i64 base), .c (.int .i64 e), .c (.int .i64 (i : Int))] (tbox t f x :: D)
     (fun r D' => (pgC s base e i = 0 → ∃ v D2, r = .ret (.tup [.c v, .c (.int .i64 (pcN s base i : Int))]) ∧ OwnO 5 (pcR s base i) v D2 ∧ D' = tbox t f x :: (D ++ D2)) ∧
       (pgC s base e i ≠ 0 → ∃ y, r = .pan (.ifc 103 (.agg [y])) ∧ IsErr y (pgC s base e i) ∧ D' = tbox t f x :: D)) := by
 unfold pcR pcN
 have hg := tgetW_ok (t := t) (n := x) h hw (base + i) 5
 have hlen := pgB_len hw base i
 have hC : pgC s base e i = if tgetC s (base + i) 5 ≠ 0 then tgetC s (base + i) 5 else if pgOK (pgB s base i) e i then 0 else 5 := rfl
 have hB : txtB (lookB s (base + i)) = pgB s base i := rfl
 rw [hB] at hg
 clear hB
 generalize pgC s base e i = C at *
 generalize pgB s base i = b at *
 generalize tgetC s (base + i) 5 = c at *
 generalize lookB s (base + i) = LB at *
 have k1 := numR_at b (at_ := 0) 0 1099511627776 (Nat.zero_le _)
 have h1 : ∀ a, ACalls _ _ _ [rdr a b 0 0] (fun r Δ => r = .ret (.c (.int .i64 (rd1 b).2.2)) ∧ Δ = [rdr a b (rd1 b).2.1 (rd1 b).1]) := fun a => n40_ok a b 0 0 (Nat.zero_le _) (by omega)
 have k2 : (rd2 b).2.1 ≤ b.length := numR_at b _ 4096 k1
 have h2 : ∀ a, ACalls _ _ _ [rdr a b (rd1 b).2.1 (rd1 b).1] (fun r Δ => r = .ret (.c (.int .i64 (rd2 b).2.2)) ∧ Δ = [rdr a b (rd2 b).2.1 (rd2 b).1]) := fun a => n4096_ok a b (rd1 b).2.1 (rd1 b).1 k1 (by omega)
 have k3 : (rd3 b).2.1 ≤ b.length := numR_at b _ 4096 k2
 have h3 : ∀ a, ACalls _ _ _ [rdr a b (rd2 b).2.1 (rd2 b).1] (fun r Δ => r = .ret (.c (.int .i64 (rd3 b).2.2)) ∧ Δ = [rdr a b (rd3 b).2.1 (rd3 b).1]) := fun a => n4096_ok a b (rd2 b).2.1 (rd2 b).1 k2 (by omega)
 have hsel := @pgOK_sel b e i
 have hbne : pgOK b e i → b ≠ [] := fun h => rd_ne h.1
 have hok : pgOK b e i → decide ((rd3 b).1 ≠ 0) = false ∧ decide (((rd1 b).2.2 : Int) ≠ e) = false ∧ decide (((rd2 b).2.2 : Int) ≠ (i : Int)) = false ∧ decide (((rd3 b).2.2 : Int) ≤ (i : Int)) = false := fun h => by
   unfold pgOK at h
   simp only [decide_eq_false_iff_not]
   omega
 generalize rd1 b = R1 at *
 generalize rd2 b = R2 at *
 generalize rd3 b = R3 at *
 refine jen cl_49 Tryz.func49 (h := ?_)
 refine jr (h := ?_)
 refine jcs (Fr := []) (hs := hg) (hp := (by rw [List.append_nil])) (hk := ?_) (hpan := (by rintro x Δ' ⟨h1, h2⟩; by_cases hc : c = 0; (· obtain ⟨v, D2, h3, _⟩ := h1 hc; cases h3); (· obtain ⟨e, h3, _⟩ := h2 hc; cases h3)))
 rintro y D' ⟨q1, q2⟩
 rw [List.append_nil]
 by_cases hz : c = 0
 rotate_left
 · obtain ⟨er, k, he, rfl⟩ := q2 hz
   cases k
   rw [if_pos hz] at hC
   subst hC
   unfold leafAV
   refine jr (own := [10]) (h := ?_)
   refine jnv (hh := fun b10 hb10 => ?_)
   simp only [fresh] at hb10
   refine jf hb10 (h := ?_)
   refine jcs (Δ1 := []) (Fr := _ :: tbox t f x :: D) (hs := (wrapS_ok _ _ he)) (hp := (List.Perm.refl _)) (hk := ?_) (hpan := (by rintro y Δ' ⟨⟨e, h, _⟩, _⟩; cases h))
   rintro y Δ' ⟨⟨e2, h4, he2⟩, rfl⟩
   cases h4
   obtain ⟨te, ve, rfl⟩ := iserr_ne he2 hz
   refine jf hb10 (h := ?_)
   refine J_drop ?_
   refine jcs (Δ1 := []) (Fr := tbox t f x :: D) (hs := must_err) (hp := (List.Perm.refl _)) (hk := ?_) (hpan := ?_)
   · rintro y Δ' ⟨h, _⟩
     cases h
   · rintro y Δ' ⟨h, rfl⟩
     cases h
     exact ⟨rfl, fun h => absurd h hz, fun _ => ⟨_, rfl, he2, rfl⟩⟩
 · obtain ⟨v, D2, k, how, rfl⟩ := q1 hz
   cases k
   obtain ⟨av, cv, rfl⟩ := how.slice
   rw [if_neg (by simpa using hz)] at hC
   unfold leafAV
   refine jr (own := [10]) (h := ?_)
   refine jnv (hh := fun b10 hb10 => ?_)
   simp only [fresh] at hb10
   refine jf hb10 (h := ?_)
   refine jcs (Δ1 := []) (Fr := _ :: tbox t f x :: (D ++ D2)) (hs := (wrapS_ok _ _ IsErr.none)) (hp := (List.Perm.refl _)) (hk := ?_) (hpan := (by rintro y Δ' ⟨⟨e, h, _⟩, _⟩; cases h))
   rintro y Δ' ⟨⟨e2, h4, he2⟩, rfl⟩
   cases h4
   obtain rfl := iserr_zero he2
   refine jf hb10 (h := ?_)
   refine jcs (Δ1 := []) (Fr := _ :: tbox t f x :: (D ++ D2)) (hs := must_nil) (hp := (List.Perm.refl _)) (hk := ?_) (hpan := (by rintro y Δ' ⟨h, _⟩; cases h))
   rintro y Δ' ⟨h4, rfl⟩
   cases h4
   refine jf hb10 (h := ?_)
   refine jcs (Δ1 := D2) (Fr := _ :: tbox t f x :: D) (hs := (readW_ok b (by omega) how)) (hp := (List.perm_append_comm (l₁ := _ :: _ :: D))) (hk := ?_) (hpan := (by rintro y Δ' ⟨_, e, _⟩; cases e))
   rintro y _ ⟨a, e, rfl⟩
   cases e
   refine J_perm (.cons _ (List.perm_append_comm (l₁ := D2) (l₂ := _ :: _ :: D))) ?_
   simp only [List.cons_append, List.nil_append]
   refine jf hb10 (h := ?_)
   refine jcs (Δ1 := [_]) (Fr := _ :: tbox t f x :: (D ++ D2)) (hs := (h1 a)) (hp := (List.Perm.refl _)) (hk := ?_) (hpan := (by rintro y Δ' ⟨e, _⟩; cases e))
   rintro y _ ⟨e, rfl⟩
   cases e
   simp only [List.cons_append, List.nil_append]
   refine jf hb10 (h := ?_)
   refine jcs (Δ1 := [_]) (Fr := _ :: tbox t f x :: (D ++ D2)) (hs := (h2 a)) (hp := (List.Perm.refl _)) (hk := ?_) (hpan := (by rintro y Δ' ⟨e, _⟩; cases e))
   rintro y _ ⟨e, rfl⟩
   cases e
   simp only [List.cons_append, List.nil_append]
   refine jf hb10 (h := ?_)
   refine jcs (Δ1 := [_]) (Fr := _ :: tbox t f x :: (D ++ D2)) (hs := (h3 a)) (hp := (List.Perm.refl _)) (hk := ?_) (hpan := (by rintro y Δ' ⟨e, _⟩; cases e))
   rintro y _ ⟨e, rfl⟩
   cases e
   simp only [List.cons_append, List.nil_append]
   refine jf hb10 (h := ?_)
   refine jcs (Δ1 := [_]) (Fr := _ :: tbox t f x :: (D ++ D2)) (hs := (rcode_ok a b R3.2.1 R3.1)) (hp := (List.Perm.refl _)) (hk := ?_) (hpan := (by rintro y Δ' ⟨e, _⟩; cases e))
   rintro y _ ⟨e, rfl⟩
   cases e
   simp only [List.cons_append, List.nil_append]
   by_cases hp : pgOK b e i
   · rw [if_pos hp] at hC
     subst hC
     obtain ⟨hd1, hd2, hd3, hd4⟩ := hok hp
     refine jf (cD hb10 hd1 hd2 hd3 hd4) (h := ?_)
     refine jn (h := ?_)
     refine jf hb10 (h := ?_)
     refine J_perm (List.Perm.swap _ _ _) ?_
     refine jd [(0, .pure), (1, .read), (2, .pure), (3, .read), (4, .pure), (5, .pure), (6, .pure), (7, .pure)] mixed (by kernel_rfl) ?_
     refine cf hb10 (hk := ?_)
     refine ccr (hs := ((rat_ok a b R3.2.1 R3.1).around (Fr := _ :: tbox t f x :: (D ++ D2)) (List.Perm.swap _ _ _))) (hk := ?_)
     obtain ⟨bb, cap, sp, hv, rfl, c2, c3⟩ := own_box how (hbne hp)
     obtain ⟨rfl, rfl⟩ : av = some ⟨bb, 0, none⟩ ∧ cv = cap := by injection hv; exact ⟨by assumption, by assumption⟩
     refine cf hb10 (hk := ?_)
     refine Can_nil ?_
     refine J_drop (J_drop ?_)
     have hO : OwnO 5 (b.drop R3.2.1) (.slice (if cv = R3.2.1 then some ⟨bb, 0, none⟩ else some ⟨bb, R3.2.1 * 1, none⟩) (b.length - R3.2.1) (cv - R3.2.1)) [.box bb 5 ((bytesRows b).flatten ++ sp)] := by
       by_cases hcv : cv = R3.2.1
       · rw [if_pos hcv]
         have hbl : b.length = R3.2.1 := by omega
         have hd0 : b.drop R3.2.1 = [] := List.drop_eq_nil_of_le (by omega)
         rw [hd0]
         exact ⟨bb, 0, cv - R3.2.1, _, by rw [hbl]; simp, rfl, by simp [bytesRows], by simp, by omega⟩
       · rw [if_neg hcv]
         have h9 := ownO_drop (e := 5) (b := bb) (o := 0) (cap := cv) (cells := (bytesRows b).flatten ++ sp) R3.2.1 k3 (by rw [List.drop_zero, ← flatB_len b, List.take_left]) c3 (by rw [List.length_append, flatB_len, c2]; omega)
         rw [List.length_drop, Nat.zero_add] at h9
         rw [Nat.mul_one]
         exact h9
     refine jret Tryz.func49 (h := ⟨fun _ => ⟨_, _, rfl, hO, rfl⟩, fun h => absurd rfl h⟩)
   · rw [if_neg hp] at hC
     subst hC
     rcases hsel hp with ⟨hd1, hd2, hd3, hd4⟩ | ⟨hd1, hd2, hd3, hd4⟩ | ⟨hd1, hd2, hd3, hd4⟩ | ⟨hd1, hd2, hd3, hd4⟩
     all_goals
       refine jf (cD hb10 hd1 hd2 hd3 hd4) (h := ?_)
       refine jt (h := ?_)
       refine jf hb10 (h := ?_)
       refine jc (hs := newS_ok _ _ _) (hk := ?_)
       refine jf hb10 (h := ?_)
       refine J_drop (J_drop ?_)
       refine J_perm (.cons _ List.perm_append_comm) ?_
       refine J_perm (List.perm_middle (l₁ := D2) (l₂ := D)).symm (J_dropL D2 ?_)
       have he5 := errNew_is ({ data := #[115, 110, 97, 112, 115, 104, 111, 116] } : ByteArray).data.toList (i : Int) 5
       obtain ⟨te, ve, he6⟩ := iserr_ne he5 (by decide)
       rw [he6] at he5 ⊢
       refine jcs (Δ1 := []) (Fr := tbox t f x :: D) (hs := must_err) (hp := (List.Perm.refl _)) (hk := ?_) (hpan := ?_)
       · rintro y Δ' ⟨h, _⟩
         cases h
       · rintro y Δ' ⟨h, rfl⟩
         cases h
         exact ⟨rfl, fun h => absurd h (by decide), fun _ => ⟨_, rfl, he5, rfl⟩⟩
end
section
attribute [local go_sem] rowsBytes_bytesRows Option.map_some Int.cast_ofNat_Int
theorem load1_calm (b8 b9 : Nat) : ADefersAt Tryz.prog 48 [ptr b8, ptr b9] [] retM retM (fun r D' => r = .ret (.tup []) ∧ D' = []) := by
 refine defersAt_of_JD cl_48 Tryz.func48 rfl (by simp [Tryz.ntmps48]) ?_
 refine JD_seq (JD_region ?_)
 refine JD_calm rfl rfl rfl rfl ?_
 show J _ _ _ _ _ [(5, .c .nilIface), (0, ptr b8), (1, ptr b9)] _
 refine jr (h := ?_)
 refine jn (h := ?_)
 refine jr (h := ?_)
 exact JL_end Tryz.func48 (X := .tup []) (by rfl) ⟨rfl, rfl⟩
theorem load1_take {b8 b9 : Nat} {te : TypeId} {ve y8 y9 : AV} (hne : b8 ≠ b9) : ADefersAt Tryz.prog 48 [ptr b8, ptr b9] [.box b8 22 [y8], .box b9 27 [y9]] (panM (.ifc 103 (.agg [.ifc te ve]))) recM
   (fun r D' => r = .ret (.tup []) ∧ D' = [.box b8 22 [.sl 3 (snRows [])], .box b9 27 [.ifc te ve]]) := by
 refine defersAt_of_JD cl_48 Tryz.func48 rfl (by simp [Tryz.ntmps48]) ?_
 refine JD_seq (JD_region ?_)
 refine JD_take rfl rfl rfl rfl ?_
 show J _ _ _ _ _ [(5, .ifc 103 (.agg [.ifc te ve])), (0, ptr b8), (1, ptr b9)] _
 refine jr (h := ?_)
 refine jt (h := ?_)
 refine jr (own := [3]) (h := ?_)
 refine jnv (hh := fun b3 hb3 => ?_)
 simp only [fresh] at hb3
 refine jf (cA hb3 hne) (h := ?_)
 refine jn (h := ?_)
 refine jr (h := ?_)
 refine jd2 1 2 [(0, .pure), (1, .read), (2, .act), (3, .act)] [(0, .pure), (2, .act), (1, .read), (3, .act)] mixed (by kernel_rfl) ?_ ?_
 all_goals
   refine cf (cA hb3 hne) (hk := ?_)
   refine Can_nil ?_
   refine J_drop ?_
   refine J_wkBox (b := b8) (t := 22) (cells := [.c (.slice none 0 0)]) (y := .sl 3 (snRows [])) 0 rfl nil_le_sl (List.Perm.refl _) ?_
   refine jr (h := ?_)
   exact JL_end Tryz.func48 (X := .tup []) (by rfl) ⟨rfl, rfl⟩
end
section
attribute [local go_sem] rowsBytes_bytesRows Option.map_some Int.cast_ofNat_Int
theorem permL1 (a b c : HP) (D D2 : List HP) : (a :: b :: c :: (D ++ D2)).Perm (a :: b :: (D2 ++ c :: D)) := .cons _ (.cons _ (List.perm_append_comm (l₁ := c :: D) (l₂ := D2)))
theorem permL2 (a b c : HP) (D D2 : List HP) : (a :: b :: c :: (D ++ D2)).Perm ((c :: D) ++ (a :: b :: D2)) := List.perm_append_comm_assoc [a, b] (c :: D) D2
theorem permL3 (T D3 B D2 : List HP) : ((T ++ D3) ++ (B ++ D2)).Perm ((B ++ (T ++ D2)) ++ D3) := by
 refine List.perm_append_comm.trans ?_
 rw [List.append_assoc, List.append_assoc, List.append_assoc]
 exact (List.perm_append_comm_assoc D2 T D3).append_left B
theorem sload_ok {t f : Nat} {x : Int} {s : Fl} {D : List HP} (h : OwnF f s D) (hw : s.WF) (base pages e : Int) (hb : -100 ≤ base ∧ base ≤ 100) :
   ACalls Tryz.prog 21 [ptr t, .c (.int .i64 base), .c (.int .i64 pages), .c (.int .i64 e)] (tbox t f x :: D)
     (fun r D' => ∃ er, r = .ret (.tup [.sl 3 (snRows (ldR s base pages e).2), er]) ∧ IsErr er (ldR s base pages e).1 ∧ D' = tbox t f x :: D) := by
 have hpg := fun (i : Nat) (hi : i ≤ 4096) => spageW_ok (t := t) (x := x) h hw base e i hi hb
 have hN := pcN_le s base 0
 have hlen : ∀ i, (pcR s base i).length ≤ 256 := fun i => by
   have := pgB_len hw base i
   unfold pcR; rw [List.length_drop]; omega
 have hL : ldR s base pages e = if pgC s base e 0 ≠ 0 then (pgC s base e 0, []) else if pages < (pcN s base 0 : Int) then (4, [])
   else if (ldL s base e (pcN s base 0) (pcN s base 0 - 1) 1 (pcR s base 0)).1 ≠ 0 then ((ldL s base e (pcN s base 0) (pcN s base 0 - 1) 1 (pcR s base 0)).1, [])
   else (snC (ldL s base e (pcN s base 0) (pcN s base 0 - 1) 1 (pcR s base 0)).2, snV (ldL s base e (pcN s base 0) (pcN s base 0 - 1) 1 (pcR s base 0)).2) := rfl
 generalize ldR s base pages e = L at *
 refine jen cl_21 Tryz.func21 (h := ?_)
 refine jr (own := [8, 9]) (h := ?_)
 refine jnv (hh := fun b8 hb8 => ?_)
 simp only [fresh] at hb8
 refine jr (own := [8, 9]) (h := ?_)
 refine jnv (hh := fun b9 hb9 => ?_)
 simp only [fresh] at hb9
 have h89 : b8 ≠ b9 := by omega
 have h98 : b9 ≠ b8 := by omega
 refine jr (h := ?_)
 refine jn (h := ?_)
 refine jr (h := ?_)
 refine J_forgetP ?_
 refine J_defer (xs := [ptr b8, ptr b9]) (by rfl) rfl (by rfl) rfl (by simp only [go_sem] <;> rfl) ?_
 rintro vs hlv
 obtain ⟨v1, v2, rfl⟩ : ∃ v1 v2, vs = [v1, v2] := by
   match vs, hlv with
   | [a, b], _ => exact ⟨a, b, rfl⟩
 simp only [isAll, List.cons_append, List.nil_append]
 refine jr (h := ?_)
 refine JO_calls (vs := [v1, v2]) (xs0 := [ptr b8, ptr b9]) (Δ1 := tbox t f x :: D) (Fr := [.box b9 27 [.c .nilIface], .box b8 22 [.c (.slice none 0 0)]]) (Δ := _ :: _ :: tbox t f x :: D) (by simp only [go_sem, ↓reduceIte, Int.reduceLT, Int.reduceLE, Int.reduceToNat, Int.reducePow, Int.reduceNeg, Nat.reduceBEq] <;> with_reducible rfl) (hpg 0 (Nat.zero_le _)) (List.perm_append_comm (l₁ := [_, _])) rfl Tryz.func21 ?_ ?_
 rotate_left
 · rintro y Δ' ⟨q1, q2⟩
   by_cases hz : pgC s base e 0 = 0
   · obtain ⟨v, D2, k, _⟩ := q1 hz; cases k
   obtain ⟨er, k, he, rfl⟩ := q2 hz
   cases k
   obtain ⟨te, ve, rfl⟩ := iserr_ne he hz
   rw [if_pos hz] at hL
   subst hL
   refine ⟨_, tbox t f x :: D, _, load1_take (y8 := .c (.slice none 0 0)) (y9 := .c .nilIface) (by omega), ?_, ?_, ?_⟩
   · exact (List.perm_append_comm (l₂ := [_, _])).trans (List.Perm.swap _ _ _)
   · rintro z D ⟨h, _⟩; cases h
   · rintro z D' ⟨-, rfl⟩
     exact ⟨.tup [.sl 3 (snRows []), .ifc te ve], by simp only [go_sem, h89, h98, List.cons_append, List.nil_append] <;> rfl, [_, _], _, List.Perm.refl _, _, rfl, he, rfl⟩
 · rintro y Δ' ⟨q1, q2⟩
   by_cases hz : pgC s base e 0 = 0
   rotate_left
   · obtain ⟨_, k, _⟩ := q2 hz; cases k
   obtain ⟨v, D2, k, how, rfl⟩ := q1 hz
   cases k
   simp only [isAll, List.cons_append, List.nil_append]
   rw [if_neg (by simpa using hz)] at hL
   have hpos := pgC_pos hz
   generalize hn : pcN s base 0 = n at *
   refine J_perm (.cons _ (.cons _ (List.perm_append_comm (l₁ := _ :: (D ++ D2)) (l₂ := [_, _])))) ?_
   simp only [List.cons_append, List.nil_append]
   refine jr (h := ?_)
   refine jif (h1 := fun hfull => ?_) (h2 := fun hfull => ?_)
   · rw [if_pos (by omega)] at hL
     subst hL
     refine jr (h := ?_)
     refine jc (hs := newS_ok _ _ _) (hk := ?_)
     refine jr (h := ?_)
     have he4 := errNew_is ({ data := #[115, 110, 97, 112, 115, 104, 111, 116] } : ByteArray).data.toList (n : Int) 4
     obtain ⟨te, ve, he6⟩ := iserr_ne he4 (by decide)
     rw [he6] at he4 ⊢
     refine JO_calls (vs := [v1, v2]) (xs0 := [ptr b8, ptr b9]) (Δ1 := []) (Fr := _ :: _ :: tbox t f x :: (D ++ D2)) (Δ := _ :: _ :: tbox t f x :: (D ++ D2)) (by simp only [go_sem, ↓reduceIte, Int.reduceLT, Int.reduceLE, Int.reduceToNat, Int.reducePow, Int.reduceNeg, Nat.reduceBEq] <;> with_reducible rfl) must_err (List.Perm.refl _) rfl Tryz.func21 ?_ ?_
     · rintro y Δ' ⟨h, _⟩
       cases h
     · rintro y Δ' ⟨h, rfl⟩
       cases h
       refine ⟨_, tbox t f x :: (D ++ D2), _, load1_take (y8 := .c (.slice none 0 0)) (y9 := .c .nilIface) h89, List.Perm.swap _ _ _, ?_, ?_⟩
       · rintro z D ⟨h, _⟩; cases h
       · rintro z D' ⟨-, rfl⟩
         exact ⟨.tup [.sl 3 (snRows []), .ifc te ve], by simp only [go_sem, h89, h98, List.cons_append, List.nil_append] <;> rfl, _ :: _ :: D2, tbox t f x :: D, permL1 _ _ _ D D2, _, rfl, he4, rfl⟩
   rw [if_neg (by omega)] at hL
   refine jr (h := ?_)
   refine jk [0, 1, 3, 8, 9, 10, 11, 12] (h := ?_)
   refine J_loopI (I := fun m en D' => ∃ (i : Nat) (acc : List UInt8) (v : Value) (D2 : List HP), 1 ≤ i ∧ i ≤ n ∧ m = n - i ∧ acc.length ≤ 256 * i ∧ OwnO 5 acc v D2 ∧ ldL s base e n (n - 1) 1 (pcR s base 0) = ldL s base e n (n - i) i acc ∧ D' = HP.is v1 (ptr b8) :: HP.is v2 (ptr b9) :: .box b9 27 [.c .nilIface] :: .box b8 22 [.c (.slice none 0 0)] :: tbox t f x :: (D ++ D2) ∧ en = [(0, ptr t), (1, .c (.int .i64 base)), (3, .c (.int .i64 e)), (8, ptr b8), (9, ptr b9), (10, .c v), (11, .c (.int .i64 (n : Int))), (12, .c (.int .i64 (i : Int)))]) ?_ ?_
   · exact ⟨_, 1, _, v, D2, by omega, hpos, rfl, by have := hlen 0; omega, how, rfl, rfl, rfl⟩
   · rintro m en D' ⟨i, acc, v, D2, hi1, hi2, rfl, hacc, how, hl, rfl, rfl⟩ ih
     refine jr (h := ?_)
     refine jif (h1 := fun hc => ?_) (h2 := fun hc => ?_)
     · have hlt : i < n := by omega
       have hk : n - i = (n - (i + 1)) + 1 := by omega
       have hli := hlen i
       rw [hk] at hl
       simp only [ldL] at hl
       have hpi := hpg i (by omega)
       refine jr (h := ?_)
       refine JO_calls (vs := [v1, v2]) (xs0 := [ptr b8, ptr b9]) (Δ1 := tbox t f x :: D) (Fr := .box b9 27 [.c .nilIface] :: .box b8 22 [.c (.slice none 0 0)] :: D2) (Δ := _ :: _ :: tbox t f x :: (D ++ D2)) (by simp only [go_sem, ↓reduceIte, Int.reduceLT, Int.reduceLE, Int.reduceToNat, Int.reducePow, Int.reduceNeg, Nat.reduceBEq] <;> with_reducible rfl) hpi (permL2 _ _ _ D D2) rfl Tryz.func21 ?_ ?_
       rotate_left
       · rintro y Δ' ⟨q1, q2⟩
         by_cases hz2 : pgC s base e i = 0
         · obtain ⟨v, D2, k, _⟩ := q1 hz2; cases k
         obtain ⟨er, k, he, rfl⟩ := q2 hz2
         cases k
         obtain ⟨te, ve, rfl⟩ := iserr_ne he hz2
         rw [if_pos hz2] at hl
         rw [hl, if_pos hz2] at hL
         subst hL
         refine ⟨_, D2 ++ tbox t f x :: D, _, load1_take (y8 := .c (.slice none 0 0)) (y9 := .c .nilIface) h89, ?_, ?_, ?_⟩
         · refine List.perm_append_comm.trans ?_
           exact List.Perm.swap _ _ _
         · rintro z D ⟨h, _⟩; cases h
         · rintro z D' ⟨-, rfl⟩
           exact ⟨.tup [.sl 3 (snRows []), .ifc te ve], by simp only [go_sem, h89, h98, List.cons_append, List.nil_append] <;> rfl, [_, _] ++ D2, _, List.Perm.refl _, _, rfl, he, rfl⟩
       · rintro y Δ' ⟨q1, q2⟩
         by_cases hz2 : pgC s base e i = 0
         rotate_left
         · obtain ⟨_, k, _⟩ := q2 hz2; cases k
         obtain ⟨v3, D3, k, how3, rfl⟩ := q1 hz2
         cases k
         rw [if_neg (by simpa using hz2)] at hl
         simp only [isAll, List.cons_append, List.nil_append]
         refine J_perm (.cons _ (.cons _ (permL3 (tbox t f x :: D) D3 [_, _] D2))) ?_
         simp only [List.cons_append, List.nil_append, List.append_assoc]
         refine jr (h := ?_)
         refine jif (h1 := fun hm => ?_) (h2 := fun hm => ?_)
         · rw [if_pos (by omega)] at hl
           rw [hl, if_pos (by decide)] at hL
           subst hL
           refine jr (h := ?_)
           refine jc (hs := newS_ok _ _ _) (hk := ?_)
           refine jr (h := ?_)
           have he5 := errNew_is ({ data := #[115, 110, 97, 112, 115, 104, 111, 116] } : ByteArray).data.toList (i : Int) 5
           obtain ⟨te, ve, he6⟩ := iserr_ne he5 (by decide)
           rw [he6] at he5 ⊢
           refine JO_calls (vs := [v1, v2]) (xs0 := [ptr b8, ptr b9]) (Δ1 := []) (Fr := _ :: _ :: tbox t f x :: (D ++ (D2 ++ D3))) (Δ := _ :: _ :: tbox t f x :: (D ++ (D2 ++ D3))) (by simp only [go_sem, ↓reduceIte, Int.reduceLT, Int.reduceLE, Int.reduceToNat, Int.reducePow, Int.reduceNeg, Nat.reduceBEq] <;> with_reducible rfl) must_err (List.Perm.refl _) rfl Tryz.func21 ?_ ?_
           · rintro y Δ' ⟨h, _⟩
             cases h
           · rintro y Δ' ⟨h, rfl⟩
             cases h
             refine ⟨_, tbox t f x :: (D ++ (D2 ++ D3)), _, load1_take (y8 := .c (.slice none 0 0)) (y9 := .c .nilIface) h89, List.Perm.swap _ _ _, ?_, ?_⟩
             · rintro z D ⟨h, _⟩; cases h
             · rintro z D' ⟨-, rfl⟩
               exact ⟨.tup [.sl 3 (snRows []), .ifc te ve], by simp only [go_sem, h89, h98, List.cons_append, List.nil_append] <;> rfl, _ :: _ :: (D2 ++ D3), tbox t f x :: D, permL1 _ _ _ D (D2 ++ D3), _, rfl, he5, rfl⟩
         · rw [if_neg (by omega)] at hl
           refine jr (own := [53]) (h := ?_)
           rw [← List.append_assoc D D2 D3]
           refine J_freezeO (Fr := _ :: _ :: _ :: _ :: tbox t f x :: (D ++ D2)) how3 (by unfold maxRows; omega) ?_
           refine J_is (t := 52) (by simp only [go_sem]) (List.mem_cons_self ..) (J_drop ?_)
           refine jbi (hb := appendO_bi gS how (Fr := _ :: _ :: _ :: _ :: tbox t f x :: D) (List.Perm.refl _) (by omega)) (hk := ?_)
           rintro _ _ ⟨v4, D4, rfl, rfl, how4⟩
           simp only [List.cons_append]
           refine jr (h := ?_)
           refine jk [0, 1, 3, 8, 9, 10, 11, 12] (h := ?_)
           refine ih (n - (i + 1)) _ _ (by omega) ⟨i + 1, acc ++ pcR s base i, v4, D4, by omega, by omega, rfl, ?_, how4, hl, rfl, rfl⟩
           rw [List.length_append]; omega
     · have hin : i = n := by omega
       subst hin
       rw [Nat.sub_self] at hl
       simp only [ldL] at hl
       rw [hl, if_neg (by simp)] at hL
       subst hL
       refine J_freezeO (Fr := _ :: _ :: _ :: _ :: tbox t f x :: D) how (by unfold maxRows; omega) ?_
       refine J_is (t := 10) (by simp only [go_sem]) (List.mem_cons_self ..) (J_drop ?_)
       refine jr (h := ?_)
       refine jcs (Δ1 := []) (Fr := _ :: _ :: _ :: _ :: tbox t f x :: D) (hs := (sseen_ok acc (by omega))) (hp := (List.Perm.refl _)) (hk := ?_) (hpan := (by rintro y Δ' ⟨⟨_, h, _⟩, _⟩; cases h))
       rintro y Δ' ⟨⟨er, k, he⟩, rfl⟩
       cases k
       simp only [List.nil_append]
       by_cases hz0 : snC acc = 0
       · obtain rfl := iserr_zero (hz0 ▸ he)
         refine jf (cA h89 h98) (h := ?_)
         refine JO_retC (vs := [v1, v2]) (xs := [ptr b8, ptr b9]) (Δ := .box b9 27 [.c .nilIface] :: .box b8 22 [.sl 3 (snRows (snV acc))] :: tbox t f x :: D) (Δ1 := []) (Fr := .box b9 27 [.c .nilIface] :: .box b8 22 [.sl 3 (snRows (snV acc))] :: tbox t f x :: D) Tryz.func21 rfl (load1_calm b8 b9) (List.Perm.refl _) (by rintro z D ⟨h, _⟩; cases h) ?_
         rintro z D' ⟨-, rfl⟩
         exact ⟨.tup [.sl 3 (snRows (snV acc)), .c .nilIface], by simp only [go_sem, h89, h98, List.cons_append, List.nil_append] <;> rfl, [_, _], _, List.Perm.refl _, _, rfl, he, rfl⟩
       · obtain ⟨te, ve, rfl⟩ := iserr_ne he hz0
         refine jf (cA h89 h98) (h := ?_)
         refine JO_retC (vs := [v1, v2]) (xs := [ptr b8, ptr b9]) (Δ := .box b9 27 [.ifc te ve] :: .box b8 22 [.sl 3 (snRows (snV acc))] :: tbox t f x :: D) (Δ1 := []) (Fr := .box b9 27 [.ifc te ve] :: .box b8 22 [.sl 3 (snRows (snV acc))] :: tbox t f x :: D) Tryz.func21 rfl (load1_calm b8 b9) (List.Perm.refl _) (by rintro z D ⟨h, _⟩; cases h) ?_
         rintro z D' ⟨-, rfl⟩
         exact ⟨.tup [.sl 3 (snRows (snV acc)), .ifc te ve], by simp only [go_sem, h89, h98, List.cons_append, List.nil_append] <;> rfl, [_, _], _, List.Perm.refl _, _, rfl, he, rfl⟩
end
section
theorem numsB_one (n : Nat) : numsB [n] = numB n := by simp [numsB]
theorem numsB_two (n m : Nat) : numsB [n, m] = numB n ++ numB m := by simp [numsB]
theorem snL_back : ∀ (l : SN) (pre b : List UInt8), (∀ p ∈ l, p.1 < 2 ^ 64) → (∀ p ∈ l, 0 ≤ p.2.1 ∧ p.2.1 ≤ 1099511627776) → (∀ p ∈ l, 0 ≤ p.2.2 ∧ p.2.2 ≤ 1099511627776) → b = pre ++ snB l → snL b l.length pre.length 0 = (l, b.length, 0)
 | [], pre, b, _, _, _, hb => by
   subst hb
   simp [snL, snB]
 | (h, v, a) :: l, pre, b, h1, h2, h3, hb => by
   have k1 := h1 (h, v, a) (by simp)
   have k2 := h2 (h, v, a) (by simp)
   have k3 := h3 (h, v, a) (by simp)
   simp only at k1 k2 k3
   have hb' : b = pre ++ (word8 h ++ (numB v.toNat ++ (numB a.toNat ++ snB l))) := by
     rw [hb]; simp only [snB, numsB_two, List.append_assoc]
   have e1 : eightR b pre.length 0 = (0, pre.length + 8, h) := eightR_word rfl k1 hb'
   have hw8 : (word8 h).length = 8 := rfl
   have e2 : numR b (pre.length + 8) 0 1099511627776 = (0, pre.length + 8 + (numB v.toNat).length, v.toNat) :=
     numR_num (pre := pre ++ word8 h) (rest := numB a.toNat ++ snB l) (by rw [List.length_append, hw8]) (by omega) (by rw [hb', List.append_assoc])
   have e3 : numR b (pre.length + 8 + (numB v.toNat).length) 0 1099511627776 = (0, pre.length + 8 + (numB v.toNat).length + (numB a.toNat).length, a.toNat) :=
     numR_num (pre := pre ++ word8 h ++ numB v.toNat) (rest := snB l) (by simp only [List.length_append, hw8]) (by omega) (by rw [hb']; simp only [List.append_assoc])
   have ih := snL_back l (pre ++ word8 h ++ numB v.toNat ++ numB a.toNat) b (fun p q => h1 p (by simp [q])) (fun p q => h2 p (by simp [q])) (fun p q => h3 p (by simp [q])) (by rw [hb']; simp only [List.append_assoc])
   have hlen : (pre ++ word8 h ++ numB v.toNat ++ numB a.toNat).length = pre.length + 8 + (numB v.toNat).length + (numB a.toNat).length := by simp only [List.length_append, hw8]
   rw [hlen] at ih
   simp only [List.length_cons, snL]
   rw [if_neg (by simp), e1]
   simp only [e2, e3, ih]
   rw [Int.toNat_of_nonneg k2.1, Int.toNat_of_nonneg k3.1]
theorem sn_back {l : SN} (hw : SnW l) : snC (snPut l) = 0 ∧ snV (snPut l) = l := by
 have hl := hw.len
 have e0 : snN (snPut l) = (0, 0 + (numB l.length).length, l.length) :=
   numR_num (pre := []) (rest := snB l) rfl (by omega) (by simp only [snPut, numsB_one, List.nil_append])
 have e1 : snL (snPut l) l.length (numB l.length).length 0 = (l, (snPut l).length, 0) :=
   snL_back l (numB l.length) (snPut l) hw.hash hw.ver hw.at_ (by simp only [snPut, numsB_one])
 have eA : snA (snPut l) = (l, (snPut l).length, 0) := by
   unfold snA; rw [e0, Nat.zero_add]; exact e1
 have eC : snC (snPut l) = 0 := by unfold snC endR; rw [eA]; simp
 exact ⟨eC, by unfold snV; rw [eC, eA]; simp⟩
end
section
theorem numsB_three (n m k : Nat) : numsB [n, m, k] = numB n ++ (numB m ++ numB k) := by simp [numsB]
theorem rd_pgS {e i n : Nat} (b : List UInt8) (he : e ≤ 1099511627776) (hi : i ≤ 4096) (hn : n ≤ 4096) :
   (rd1 (pgS e i n b)).2.2 = e ∧ (rd2 (pgS e i n b)).2.2 = i ∧ rd3 (pgS e i n b) = (0, (numsB [e, i, n]).length, n) := by
 have hb : pgS e i n b = [] ++ (numB e ++ (numB i ++ (numB n ++ pcB b i))) := by simp only [pgS, numsB_three, List.nil_append, List.append_assoc]
 have e1 : rd1 (pgS e i n b) = (0, 0 + (numB e).length, e) := numR_num (pre := []) rfl he hb
 have e2 : rd2 (pgS e i n b) = (0, 0 + (numB e).length + (numB i).length, i) := by
   unfold rd2; rw [e1]
   exact numR_num (pre := numB e) (rest := numB n ++ pcB b i) (by simp) hi (by rw [hb]; simp)
 have e3 : rd3 (pgS e i n b) = (0, 0 + (numB e).length + (numB i).length + (numB n).length, n) := by
   unfold rd3; rw [e2]
   exact numR_num (pre := numB e ++ numB i) (rest := pcB b i) (by simp) hn (by rw [hb]; simp)
 refine ⟨by rw [e1], by rw [e2], by rw [e3, numsB_three]; simp only [List.length_append]; congr 2; omega⟩
theorem pgOK_pgS {e i n : Nat} (b : List UInt8) (he : e ≤ 1099511627776) (hi : i ≤ 4096) (hn : n ≤ 4096) (e' : Int) : pgOK (pgS e i n b) e' i ↔ (e : Int) = e' ∧ i < n := by
 obtain ⟨h1, h2, h3⟩ := rd_pgS b he hi hn
 unfold pgOK
 rw [h1, h2, h3]
 simp
theorem drop_pgS {e i n : Nat} (b : List UInt8) (he : e ≤ 1099511627776) (hi : i ≤ 4096) (hn : n ≤ 4096) : (pgS e i n b).drop (rd3 (pgS e i n b)).2.1 = pcB b i := by
 rw [(rd_pgS b he hi hn).2.2]
 simp only [pgS, List.drop_left]
theorem pg_put {s : Fl} {base : Int} {i e n st : Nat} {b : List UInt8} (hl : lookB s (base + i) = putB st 5 (pgS e i n b)) (hc : checkF s (base + i) = 0) (h1 : 1 ≤ st) (h2 : st ≤ 1099511627776) (he : e ≤ 1099511627776) (hi : i ≤ 4096) (hn : n ≤ 4096) (hin : i < n) :
   pgC s base e i = 0 ∧ pcN s base i = n ∧ pcR s base i = pcB b i ∧ ∀ e' : Int, e' ≠ e → pgC s base e' i = 5 := by
 have hlen := pgS_len (e := e) (i := i) (n := n) (b := b) he hi hn
 have hg : tgetC s (base + i) 5 = 0 := by
   unfold tgetC
   rw [hl, put_getC st 5 _ h1 h2 (by decide) (by decide) (by omega), put_kd st 5 _ (by decide), if_neg (by simp [hc]), if_neg (by simp), if_neg (by simp)]
 have hB : pgB s base i = pgS e i n b := by unfold pgB; rw [hl, put_txt _ _ _ (by omega)]
 refine ⟨?_, ?_, ?_, fun e' hne => ?_⟩
 · unfold pgC; rw [hg, hB, if_neg (by simp), if_pos ((pgOK_pgS b he hi hn e).2 ⟨rfl, hin⟩)]
 · unfold pcN; rw [hB, (rd_pgS b he hi hn).2.2]
 · unfold pcR; rw [hB, drop_pgS b he hi hn]
 · unfold pgC; rw [hg, hB, if_neg (by simp), if_neg fun h => hne ((pgOK_pgS b he hi hn e').1 h).1.symm]
def l20 : SN := [(7, 3, 4), (1, 1, 1)]
theorem l20_w : SnW l20 := ⟨by decide, by decide, by decide, by decide⟩
theorem l20_n : ((snPut l20).length + 199) / 200 = 1 := by
 have e : (snPut l20).length = 21 := by
   have hn : ∀ n, n < 128 → numB n = [UInt8.ofNat n] := fun n h => by
     unfold numB; rw [Nat.div_eq_of_lt h, hi7_zero, Nat.mod_eq_of_lt h]; rfl
   simp only [snPut, l20, snB, numsB_one, numsB_two, List.length_cons, List.length_nil, List.length_append, word8_len]
   rw [hn _ (by decide), hn _ (by decide), hn _ (by decide), hn _ (by decide)]
   rfl
 rw [e]
def fl20 : Fl := ⟨9, [(2, putB 1 5 (pgS 5 0 1 (snPut l20)))], [], -1, false, 2⟩
theorem works20_sv : svR (newFl 9) 1 2 3 5 l20 = (fl20, 2, 0) := by
 obtain ⟨q1, q2, q3⟩ := firm_new (p := 9) (at_ := 2) (kd := 5) (a := pgS 5 0 1 (snPut l20)) (by decide) (by decide) (by decide) (by have := pgS_len (e := 5) (i := 0) (n := 1) (b := snPut l20) (by decide) (by decide) (by decide); omega)
 have hc : tputC (newFl 9) 1 2 5 (pgS 5 0 1 (snPut l20)) = 0 := by
   by_cases h : tputC (newFl 9) 1 2 5 (pgS 5 0 1 (snPut l20)) = 0
   · exact h
   · have h' := q1
     simp only [tfirmC, Int.cast_ofNat_Int] at h'
     rw [if_pos h] at h'
     exact h'
 unfold svR
 rw [l20_n, if_neg (by decide), if_neg (by decide)]
 have e5 : (5 : Int).toNat = 5 := rfl
 have e2 : (2 : Int) + ((0 : Nat) : Int) = 2 := rfl
 rw [e5]
 simp only [svL, e2]
 simp only [tfirmC, tfirmS, Int.cast_ofNat_Int] at q1 q3
 rw [if_neg (by rw [hc]; simp)] at q1 q3
 rw [if_neg (by rw [hc]; simp), q1, q3]
 rfl
end
section
attribute [local go_sem] rowsBytes_bytesRows Option.map_some Int.cast_ofNat_Int getBox_GL setBox_GL fresh_GL flCells
theorem look_one20 (p at_ : Int) (b : List UInt8) (k : Int) : lookB ⟨p, [(at_, b)], [], -1, false, k⟩ at_ = b := by
 simp [lookB, lookL, pageOr, findM]
theorem works20_pg : pgC fl20 2 5 0 = 0 ∧ pcN fl20 2 0 = 1 ∧ pcR fl20 2 0 = pcB (snPut l20) 0 ∧ ∀ e' : Int, e' ≠ 5 → pgC fl20 2 e' 0 = 5 :=
 pg_put (s := fl20) (base := 2) (i := 0) (e := 5) (n := 1) (st := 1) (b := snPut l20) (look_one20 9 2 _ 2) rfl (by decide) (by decide) (by decide) (by decide) (by decide) (by decide)
theorem works20_ld : ldR fl20 2 3 5 = (0, l20) := by
 obtain ⟨h1, h2, h3, -⟩ := works20_pg
 have hb : pcB (snPut l20) 0 = snPut l20 := by
   have := l20_n
   unfold pcB; rw [Nat.zero_mul, List.drop_zero, List.take_of_length_le (by omega)]
 unfold ldR
 rw [h1, h2, h3, hb, if_neg (by simp), if_neg (by decide)]
 simp only [Nat.sub_self, ldL]
 rw [if_neg (by simp), (sn_back l20_w).1, (sn_back l20_w).2]
theorem works20_ld6 : ldR fl20 2 3 6 = (5, []) := by
 obtain ⟨-, -, -, h4⟩ := works20_pg
 unfold ldR
 rw [h4 6 (by decide), if_pos (by decide)]
theorem works20_full : svR fl20 2 2 0 5 l20 = (fl20, 2, 4) := by
 unfold svR
 rw [l20_n, if_neg (by decide), if_pos (by decide)]
theorem open20_ok : ACalls Tryz.prog 18 [] [GL] (fun q Δ => ∃ f t D, q = .ret (.tup [ptr f, ptr t]) ∧ OwnF f (newFl 9) D ∧ Δ = tbox t f 1 :: GL :: D) := by
 have hB : (newFl 9).B 0 := newFl_B (by decide) (by decide)
 refine jen cl_18 Tryz.func18 (h := ?_)
 refine jr (h := ?_)
 refine jcs (Δ1 := []) (Fr := [GL]) (hs := (fnew_ok 9 (by decide) (by decide))) (hp := (List.Perm.refl _)) (hk := ?_) (hpan := (by rintro x Δ' ⟨f, e, _⟩; cases e))
 rintro x D ⟨f, e, hO⟩
 cases e
 refine J_perm (List.perm_append_comm (l₂ := [GL])) ?_
 simp only [List.cons_append, List.nil_append]
 have hto := topen_ok hO (hB.wf (by decide)) (hB.small (by decide)) rfl (by rw [cellsF_new]; decide)
 rw [nextF_new9] at hto
 refine jr (h := ?_)
 refine jn (h := ?_)
 refine jr (h := ?_)
 refine jcs (Δ1 := D) (Fr := [GL]) (hs := hto) (hp := (List.perm_append_comm (l₁ := [GL]))) (hk := ?_) (hpan := (by rintro x Δ' ⟨t, e, _⟩; cases e))
 rintro x _ ⟨t, e, rfl⟩
 cases e
 refine J_perm (Δ' := tbox t f 1 :: GL :: D) (.cons _ (List.perm_append_comm (l₂ := [GL]))) ?_
 refine jr (h := ?_)
 refine jn (h := ?_)
 refine jr (h := ?_)
 refine jret Tryz.func18 (h := ⟨f, t, D, rfl, hO, rfl⟩)
end
section
attribute [local go_sem] rowsBytes_bytesRows Option.map_some Int.cast_ofNat_Int getBox_GL setBox_GL fresh_GL flCells
theorem l20_rows : snRows l20 = [[.c (.int .u64 7), .c (.int .i64 3), .c (.int .i64 4)], [.c (.int .u64 1), .c (.int .i64 1), .c (.int .i64 1)]] := rfl
theorem fl20_B : fl20.B 2 := by
 obtain ⟨q1, q2, q3⟩ := firm_new (p := 9) (at_ := 2) (kd := 5) (a := pgS 5 0 1 (snPut l20)) (by decide) (by decide) (by decide) (by have := pgS_len (e := 5) (i := 0) (n := 1) (b := snPut l20) (by decide) (by decide) (by decide); omega)
 have h := tfirmS_B (newFl_B (p := 9) (by decide) (by decide)) 1 2 ((5 : Nat) : Int) (pgS 5 0 1 (snPut l20))
 rw [q3] at h
 exact h
theorem works20_ok : ACalls Tryz.prog 6 [] [GL] (Ret (.c (.bool true))) := by
 have hB0 : (newFl 9).B 0 := newFl_B (by decide) (by decide)
 have hpT : ∀ (t f : Nat) (x : Int) (D : List HP), (tbox t f x :: GL :: D).Perm ((tbox t f x :: D) ++ [GL]) := fun t f x D => .cons _ (List.perm_append_comm (l₁ := [GL]))
 have hsn := sseen_ok (snPut l20) (by have := l20_w.blen; omega)
 rw [(sn_back l20_w).1, (sn_back l20_w).2] at hsn
 refine jen cl_6 Tryz.func6 (h := ?_)
 refine jr (h := ?_)
 refine jcs (Δ1 := [GL]) (Fr := []) (hs := open20_ok) (hp := (List.Perm.refl _)) (hk := ?_) (hpan := (by rintro x Δ' ⟨f, t, D, e, _⟩; cases e))
 rintro x _ ⟨f, t, D, e, hO, rfl⟩
 cases e
 rw [List.append_nil]
 have hs := ssave_ok (t := t) (x := 1) hO hB0 (by decide) (by decide) 2 3 5 (by decide) (by decide) l20 l20_w
 rw [works20_sv] at hs
 refine jr (h := ?_)
 refine jn (h := ?_)
 refine jr (h := ?_)
 rw [← l20_rows]
 refine jcs (Δ1 := tbox t f 1 :: D) (Fr := [GL]) (hs := hs) (hp := (hpT _ _ _ _)) (hk := ?_) (hpan := (by rintro x Δ' ⟨e, D1, k, _⟩; cases k))
 rintro x _ ⟨e1, D1, k, he1, hO1, rfl⟩
 cases k
 obtain rfl := iserr_zero he1
 refine J_perm (hpT _ _ _ _).symm ?_
 have hw1 : fl20.WF := fl20_B.wf (by decide)
 have hld := sload_ok (t := t) (x := 2) hO1 hw1 2 3 5 (by decide)
 rw [works20_ld] at hld
 have hld6 := sload_ok (t := t) (x := 2) hO1 hw1 2 3 6 (by decide)
 rw [works20_ld6] at hld6
 have hs2 := ssave_ok (t := t) (x := 2) hO1 fl20_B (by decide) (by decide) 2 0 5 (by decide) (by decide) l20 l20_w
 rw [works20_full] at hs2
 refine jr (h := ?_)
 refine jcs (Δ1 := tbox t f 2 :: D1) (Fr := [GL]) (hs := hld) (hp := (hpT _ _ _ _)) (hk := ?_) (hpan := (by rintro x Δ' ⟨e, k, _⟩; cases k))
 rintro x _ ⟨e2, k, he2, rfl⟩
 cases k
 obtain rfl := iserr_zero he2
 refine J_perm (hpT _ _ _ _).symm ?_
 refine jr (h := ?_)
 refine jcs (Δ1 := tbox t f 2 :: D1) (Fr := [GL]) (hs := hld6) (hp := (hpT _ _ _ _)) (hk := ?_) (hpan := (by rintro x Δ' ⟨e, k, _⟩; cases k))
 rintro x _ ⟨e3, k, he3, rfl⟩
 cases k
 refine J_perm (hpT _ _ _ _).symm ?_
 refine jr (h := ?_)
 refine jcs (Δ1 := tbox t f 2 :: D1) (Fr := [GL]) (hs := hs2) (hp := (hpT _ _ _ _)) (hk := ?_) (hpan := (by rintro x Δ' ⟨e, D1, k, _⟩; cases k))
 rintro x _ ⟨e4, D2, k, he4, hO2, rfl⟩
 cases k
 refine J_perm (hpT _ _ _ _).symm ?_
 refine jr (h := ?_)
 refine jc (hs := s20bytes_ok l20 l20_w) (hk := ?_)
 refine jr (h := ?_)
 refine jcs (Δ1 := []) (Fr := tbox t f 2 :: GL :: D2) (hs := hsn) (hp := (List.Perm.refl _)) (hk := ?_) (hpan := (by rintro x Δ' ⟨⟨e, k, _⟩, _⟩; cases k))
 rintro x _ ⟨⟨e5, k, he5⟩, rfl⟩
 cases k
 obtain rfl := iserr_zero he5
 simp only [List.nil_append]
 refine jr (h := ?_)
 refine jc (hs := same20_ok l20 l20 (by decide)) (hk := ?_)
 refine jr (h := ?_)
 refine jcg (hin := by simp [GL]) (hs := of_ok he3) (hk := ?_)
 refine jr (h := ?_)
 refine jcg (hin := by simp [GL]) (hs := of_ok he4) (hk := ?_)
 refine jr (h := ?_)
 refine jc (hs := same20_ok l20 l20 (by decide)) (hk := ?_)
 refine jr (h := ?_)
 refine jc (hs := s20pages_ok 201 (by decide)) (hk := ?_)
 refine jr (h := ?_)
 refine J_forget ?_
 refine jret Tryz.func6 (h := ⟨rfl, rfl⟩)
end
section
attribute [local go_sem] rowsBytes_bytesRows Option.map_some Int.cast_ofNat_Int getBox_GL setBox_GL fresh_GL flCells
theorem rightP.w {l : SN} (h : rightP l) (hh : ∀ p ∈ l, p.1 < 2 ^ 64) : SnW l := ⟨h.2, hh, fun p q => (h.1 p q).1, fun p q => (h.1 p q).2⟩
theorem same20_self (a : SN) (ha : a.length < 2 ^ 62) : ACalls Tryz.prog 9 [.sl 3 (snRows a), .sl 3 (snRows a)] [] (Ret (.c (.bool true))) := by
 have h := same20_ok a a ha
 rwa [decide_eq_true rfl] at h
end
end Go.Proofs.YtdnhcpbammfmlaaGreatDoor
