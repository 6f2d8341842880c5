/- A part of the proof: what the calls do, told by values. -/
import Derived.Test.YtjppajaoekbkpaaGreatDoorB9
import Derived.Test.YtjppajaoekbkpaaGreatDoorB8
set_option linter.unusedVariables false
set_option linter.unusedSimpArgs false
set_option maxRecDepth 100000
set_option maxHeartbeats 4000000
namespace Go.Proofs.YtjppajaoekbkpaaGreatDoor
open Go Go.Av
attribute [local go_sem] packed List.set_cons_zero List.set_cons_succ List.cons_append List.nil_append bytesRows_length cellRows_len chRows_len rCells intRows_len
attribute [-go_sem] cellsOf AV.isCell
attribute [local go_sem] cellsOf_agg cellsOf_int cellsOf_bool cellsOf_str cellsOf_map cellsOf_ptr cellsOf_nilI cellsOf_slice cellsOf_sl cellsOf_ifc cellsOf_fp cellsOf_opt optAV_cell icell_int icell_bool icell_str icell_map icell_ptr icell_nilI icell_slice icell_sl icell_ifc icell_fp
section
attribute [local go_sem] rowsBytes_bytesRows Option.map_some Int.cast_ofNat_Int getBox_GL setBox_GL fresh_GL
theorem str_a : (ByteArray.mk #[97]) = mkStr [97] := rfl
theorem str_b : (ByteArray.mk #[98]) = mkStr [98] := rfl
attribute [local go_sem] str_a str_b
theorem xA_av : xA.av = .agg [.c (.string (mkStr [97])), .c (.int .i64 3), .c (.int .i64 4), .c (.int .i64 0), .sl 1 (bytesRows [118])] := rfl
theorem xB_av : xB.av = .agg [.c (.string (mkStr [98])), .c (.int .i64 1), .c (.int .i64 1), .c (.int .i64 0), .sl 1 (bytesRows (List.replicate 300 0))] := rfl
theorem mk300_op {env : Env} {Δ : List HP} {o : Oper} {x y : Operand} (hop : o.op = .makeSlice 23 x y) (hx : env.eval x = some (.c (.int .i64 300))) (hy : env.eval y = some (.c (.int .i64 300))) :
   OpOK Tryz.prog env Δ o (fun r Δ' => r = .sl 1 (bytesRows (List.replicate 300 0)) ∧ Δ' = Δ) := by
 have h := mkz_op (P := Tryz.prog) (Δ := Δ) (env := env) (n := 300) (s := 1) (zs := [.int .u8 0]) hop Tryz.underlying23 tb_5 tk_5 tz_5 rfl (by decide) (by decide) (by decide) (by decide) hx hy
 have e : List.replicate 300 ([Value.int .u8 0].map AV.c) = bytesRows (List.replicate 300 0) := by rfl
 rw [e] at h
 exact h
theorem permD (a b c g : HP) (D : List HP) : (a :: b :: c :: g :: D).Perm ((a :: c :: g :: D) ++ [b]) := (List.perm_middle (l₁ := [a])).trans (List.perm_append_comm (l₁ := [b]))
theorem works13_ok : ACalls Tryz.prog 32 [] [GL] (Ret (.c (.bool true))) := by
 have hs0 : SI (newFl 9) (openFs (newFl 9) 2 4) := SI.open rfl rfl
 obtain ⟨h, hh⟩ : ∃ h, hash64 [97] = h := ⟨_, rfl⟩
 obtain ⟨i, hi⟩ : ∃ i, slotE h 4 = i := ⟨_, rfl⟩
 obtain ⟨s1, n1, fs1, g1, s2, n2, fs2, g2, s3, fs3, W⟩ := works_plain hs0 hh hi
 have hiA : slotE (hash64 [97]) 4 = i := (congrArg (fun q => slotE q 4) hh).trans hi
 have hm1 : mayF g1 (hash64 [97]) = true := by rw [hh]; exact W.m1
 have hm2 : mayF g2 (hash64 [97]) = false := by rw [hh]; exact W.m2
 have hB0 : (newFl 9).B 0 := newFl_B (by decide) (by decide)
 have hd1 : ¬ s1.down = true := by rw [W.d1]; decide
 obtain ⟨j, hj⟩ : ∃ j, slotE (hash64 xB.key) 4 = j := ⟨_, rfl⟩
 have hwB := fun {s : Fl} {m : Nat} (hB : s.B m) (hm : m < 1000) (n : Int) (at_ : Int) (b : List UInt8) => (tputS_B hB n at_ 1 b).wf (by omega)
 have hset1 := fun (sm t f fb : Nat) (D : List HP) (hO : OwnF f (newFl 9) D) (h1 : sm ≠ fb) (h2 : sm ≠ t) (h3 : fb ≠ t) => sset_ok (sm := sm) (t := t) (f := f) (fb := fb) (N := 4) (i := i) (n := 1) (base := 2) (x := xA) (by decide) hO (hB0.wf (by decide)) (hwB hB0 (by decide) 1) (by decide) (by decide) hs0.l4 hiA (by decide) (by decide) h1 h2 h3
 rw [W.a1] at hset1
 have hget := fun (sm t f fb : Nat) (D : List HP) (hO : OwnF f s1 D) (h1 : sm ≠ fb) => sget_ok (sm := sm) (t := t) (f := f) (fb := fb) (n := n1) (base := 2) (k := [97]) (by decide) hO (W.b1.wf (by decide)) (by decide) W.l1 hiA (by decide) h1 W.f1 W.k1
 have hg : getS s1 2 i [97] true = (some xA, 0) := by unfold getS; rw [if_neg (by decide), if_neg hd1, W.p1]
 rw [hm1, hg] at hget
 have hall := fun (sm t f fb : Nat) (D : List HP) (hO : OwnF f s1 D) => sall_ok (sm := sm) (t := t) (f := f) (fb := fb) (N := 4) (n := n1) (base := 2) hO (W.b1.wf (by decide)) (by decide) (by decide) (by decide)
 simp only [if_neg hd1] at hall
 have hset2 := fun (sm t f fb : Nat) (D : List HP) (hO : OwnF f s1 D) (h1 : sm ≠ fb) (h2 : sm ≠ t) (h3 : fb ≠ t) => sset_ok (sm := sm) (t := t) (f := f) (fb := fb) (N := 4) (i := j) (n := n1) (base := 2) (x := xB) (by decide) hO (W.b1.wf (by decide)) (hwB W.b1 (by decide) n1) (by rw [W.hn]; decide) (by decide) W.l1 hj (by decide) (by decide) h1 h2 h3
 rw [W.no] at hset2
 have hrem := fun (sm t f fb : Nat) (D : List HP) (hO : OwnF f s1 D) (h1 : sm ≠ fb) (h2 : sm ≠ t) (h3 : fb ≠ t) => sremove_ok (sm := sm) (t := t) (f := f) (fb := fb) (N := 4) (i := i) (n := n1) (base := 2) (k := [97]) (by decide) hO (W.b1.wf (by decide)) (hwB W.b1 (by decide) n1) (by rw [W.hn]; decide) (by decide) W.l1 hiA (by decide) (by decide) h1 h2 h3
 rw [W.a2] at hrem
 have hmay := fun (sm t fb : Nat) (h1 : sm ≠ fb) => smay_ok (sm := sm) (t := t) (base := 2) (k := [97]) (by decide) W.l2 (by decide) h1 hiA W.f2 W.k2
 rw [hm2] at hmay
 have hclr := fun (sm t f fb : Nat) (D : List HP) (hO : OwnF f s2 D) (h1 : sm ≠ fb) => sclear_ok (sm := sm) (t := t) (f := f) (fb := fb) (N := 4) (n := n2) (base := 2) hO (fun k hk => (trimN_B W.b2 2 k).wf (by omega)) (by decide) W.l2 (by decide) (by decide) h1 (Ne.symm h1)
 rw [W.a3] at hclr
 have hlo := W.lo
 have hal := W.all
 have hsm := same06_ok xA xA (by decide)
 rw [decide_eq_true rfl] at hsm
 have hnil : ents [] = [] := rfl
 simp only [xA_av, xB_av, gotAV, hnil, Option.isSome_some] at hset1 hget hset2 hsm
 simp only at hrem hclr
 have hel : (ents (allP s1 2 4)).length = 1 := by rw [ents_len]; exact hal
 generalize allP s1 2 4 = al at *
 clear W hm1 hm2 hiA hh hj hal hs0
 refine calls_of_J cl_32 Tryz.func32 rfl (by simp [Tryz.ntmps32]) ?_
 refine jr (h := ?_)
 refine jcs (Δ1 := [GL]) (Fr := []) (hs := open13_ok) (hp := (List.Perm.refl _)) (hk := ?_) (hpan := (by rintro x Δ' ⟨f, t, sm, fb, D, e, _⟩; cases e))
 rintro x _ ⟨f, t, sm, fb, D, e, hO, rfl⟩
 cases e
 rw [List.append_nil]
 generalize openFs (newFl 9) 2 4 = fs0 at *
 refine J_apart (b1 := sm) (b2 := fb) (List.Perm.refl _) (fun h1 h1' => ?_)
 refine J_apart (b1 := sm) (b2 := t) (.cons _ (List.Perm.swap _ _ _)) (fun h2 h2' => ?_)
 refine J_apart (b1 := fb) (b2 := t) ((List.Perm.swap _ _ _).trans (.cons _ (List.Perm.swap _ _ _))) (fun h3 h3' => ?_)
 refine jr (h := ?_)
 refine jn (h := ?_)
 refine jr (own := [27]) (h := ?_)
 refine J_op1 rfl (by simp only [go_sem, ↓reduceIte, Int.reduceLT, Int.reduceLE, Int.reduceToNat, Int.reducePow, Int.reduceNeg, Nat.reduceBEq, Tryz.ntmps32]) (newslice_op rfl (by simp only [go_sem, ↓reduceIte, Int.reduceLT, Int.reduceLE, Int.reduceToNat, Int.reducePow, Int.reduceNeg, Nat.reduceBEq] <;> with_reducible rfl) (by simp only [go_sem, ↓reduceIte, Int.reduceLT, Int.reduceLE, Int.reduceToNat, Int.reducePow, Int.reduceNeg, Nat.reduceBEq] <;> with_reducible rfl) (by simp only [go_sem, ↓reduceIte, Int.reduceLT, Int.reduceLE, Int.reduceToNat, Int.reducePow, Int.reduceNeg, Nat.reduceBEq] <;> with_reducible rfl) (by rfl) (by decide) (by decide) (by decide) (by simp only [go_sem, ↓reduceIte, Int.reduceLT, Int.reduceLE, Int.reduceToNat, Int.reducePow, Int.reduceNeg, Nat.reduceBEq] <;> with_reducible rfl) (by simp only [go_sem, ↓reduceIte, Int.reduceLT, Int.reduceLE, Int.reduceToNat, Int.reducePow, Int.reduceNeg, Nat.reduceBEq] <;> with_reducible rfl) (by rfl)) ?_
 rintro _ _ ⟨v7, D7, rfl, rfl, how7⟩
 obtain ⟨a7, c7, rfl⟩ := how7.slice
 refine J_op1 rfl (by simp only [go_sem, ↓reduceIte, Int.reduceLT, Int.reduceLE, Int.reduceToNat, Int.reducePow, Int.reduceNeg, Nat.reduceBEq, Tryz.ntmps32]) (stringish_op (rows := bytesRows [118]) rfl (by simp only [go_sem, ↓reduceIte, Int.reduceLT, Int.reduceLE, Int.reduceToNat, Int.reducePow, Int.reduceNeg, Nat.reduceBEq] <;> with_reducible rfl) (by simp only [go_sem, ↓reduceIte, Int.reduceLT, Int.reduceLE, Int.reduceToNat, Int.reducePow, Int.reduceNeg, Nat.reduceBEq] <;> with_reducible rfl) (by simp only [go_sem, ↓reduceIte, Int.reduceLT, Int.reduceLE, Int.reduceToNat, Int.reducePow, Int.reduceNeg, Nat.reduceBEq] <;> with_reducible rfl) how7 (by decide) (bytes_row _) (by decide)) ?_
 rintro _ _ ⟨rfl, rfl⟩
 refine jr (own := [3]) (h := ?_)
 refine jnv (hh := fun b3 hb3 => ?_)
 refine jr (h := ?_)
 refine J_freeze (s := 3) (o := 0) (by simp only [go_sem]) ?_
 simp only [List.drop_zero]
 refine jr (h := ?_)
 refine jcs (Fr := []) (hs := (hset1 sm t f fb D hO h1 h2 h3)) (hp := (by rw [List.append_nil])) (hk := ?_) (hpan := (by rintro x Δ' ⟨e, D1, h, _⟩; cases h))
 rintro x _ ⟨e4, D1, hx, he4, hO1, rfl⟩
 cases hx
 obtain rfl := iserr_zero he4
 rw [List.append_nil]
 refine jr (h := ?_)
 refine jcs (Fr := []) (hs := (hget sm t f fb D1 hO1 h1)) (hp := (by rw [List.append_nil])) (hk := ?_) (hpan := (by rintro x Δ' ⟨⟨e, h, _⟩, _⟩; cases h))
 rintro x _ ⟨⟨e5, hx, he5⟩, rfl⟩
 cases hx
 obtain rfl := iserr_zero he5
 rw [List.append_nil]
 refine jr (own := [6]) (h := ?_)
 refine jnv (hh := fun b6 hb6 => ?_)
 refine jr (h := ?_)
 refine J_freeze (s := 6) (o := 0) (by simp only [go_sem]) ?_
 simp only [List.drop_zero]
 refine jr (h := ?_)
 refine jcs (Fr := [smF fb fs1]) (hs := (hall sm t f fb D1 hO1)) (hp := (permD _ _ _ _ _)) (hk := ?_) (hpan := (by rintro x Δ' ⟨⟨e, h, _⟩, _⟩; cases h))
 rintro x _ ⟨⟨e6, hx, he6⟩, rfl⟩
 cases hx
 obtain rfl := iserr_zero he6
 refine J_perm (permD _ _ _ _ _).symm ?_
 refine jr (h := ?_)
 refine jop (ho := rfl) (hh := mk300_op rfl (by simp only [go_sem, ↓reduceIte, Int.reduceLT, Int.reduceLE, Int.reduceToNat, Int.reducePow, Int.reduceNeg, Nat.reduceBEq] <;> with_reducible rfl) (by simp only [go_sem, ↓reduceIte, Int.reduceLT, Int.reduceLE, Int.reduceToNat, Int.reducePow, Int.reduceNeg, Nat.reduceBEq] <;> with_reducible rfl)) (hk := ?_)
 rintro _ _ ⟨rfl, rfl⟩
 generalize List.replicate 300 (0 : UInt8) = z300 at *
 refine jr (h := ?_)
 refine jcs (Fr := []) (hs := (hset2 sm t f fb D1 hO1 h1 h2 h3)) (hp := (by rw [List.append_nil])) (hk := ?_) (hpan := (by rintro x Δ' ⟨e, D1, h, _⟩; cases h))
 rintro x _ ⟨e7, D2, hx, he7, hO2, rfl⟩
 cases hx
 rw [List.append_nil]
 refine jr (h := ?_)
 refine jcs (Fr := []) (hs := (hrem sm t f fb D2 hO2 h1 h2 h3)) (hp := (by rw [List.append_nil])) (hk := ?_) (hpan := (by rintro x Δ' ⟨e, D1, h, _⟩; cases h))
 rintro x _ ⟨e8, D3, hx, he8, hO3, rfl⟩
 cases hx
 obtain rfl := iserr_zero he8
 rw [List.append_nil]
 refine jr (h := ?_)
 refine jcs (Δ1 := []) (Fr := smB sm t 2 fb 4 :: smF fb fs2 :: tbox t f n2 :: GL :: D3) (hs := (sopen_nil _ _)) (hp := (List.Perm.refl _)) (hk := ?_) (hpan := (by rintro x Δ' ⟨⟨e, h, _⟩, _⟩; cases h))
 rintro x _ ⟨⟨e9, hx, he9⟩, rfl⟩
 cases hx
 simp only [List.nil_append, List.append]
 refine jq hel (h := ?_)
 refine jc (hs := hsm) (hk := ?_)
 refine jq hel (h := ?_)
 refine jcg (hin := by simp [GL]) (hs := of_ok he7) (hk := ?_)
 refine jq hel (h := ?_)
 refine jcr (hs := ((hmay sm t fb h1).around (Δ := smB sm t 2 fb 4 :: smF fb fs2 :: tbox t f n2 :: GL :: D3) (Fr := tbox t f n2 :: GL :: D3) (List.Perm.refl _))) (hk := ?_)
 refine jq hel (h := ?_)
 refine jcg (hin := by simp [GL]) (hs := of_ok he9) (hk := ?_)
 refine jq hel (h := ?_)
 refine jcr (hs := ((sbuckets_ok (sm := sm) (t := t) (fb := fb) (N := 4) (base := 2)).around (Δ := smB sm t 2 fb 4 :: smF fb fs2 :: tbox t f n2 :: GL :: D3) (Fr := smF fb fs2 :: tbox t f n2 :: GL :: D3) (List.Perm.refl _))) (hk := ?_)
 refine jq hel (h := ?_)
 refine jcs (Fr := []) (hs := (hclr sm t f fb D3 hO3 h1)) (hp := (by rw [List.append_nil])) (hk := ?_) (hpan := (by rintro x Δ' ⟨e, D1, h, _⟩; cases h))
 rintro x _ ⟨ea, D4, hx, hea, hO4, rfl⟩
 cases hx
 obtain rfl := iserr_zero hea
 rw [List.append_nil]
 have hlo4 := loose_ok hO4
 rw [hlo] at hlo4
 refine jq (a5 hel h1 h1' h2 (a3 h2' h3 h3')) (h := ?_)
 refine jcr (hs := (hlo4.around (Δ := smB sm t 2 fb 4 :: smF fb fs3 :: tbox t f n2 :: GL :: D4) (Fr := [smB sm t 2 fb 4, smF fb fs3, tbox t f n2, GL]) (List.perm_append_comm (l₁ := [_, _, _, GL])))) (hk := ?_)
 refine jq hel (h := ?_)
 refine J_forget ?_
 refine jret Tryz.func32 (h := ⟨rfl, rfl⟩)
end
section
attribute [local go_sem] rowsBytes_bytesRows Option.map_some Int.cast_ofNat_Int getBox_GL setBox_GL fresh_GL sAV tAV
structure SS where
 s : Fl
 n : Int
 fs : List BF
def slK (k : List UInt8) : Nat := slotE (hash64 k) 4
def SS.set (a : SS) (x : Entry) : SS := ⟨(setS a.s a.n 2 (slK x.key) x a.fs).2.2.1, (setS a.s a.n 2 (slK x.key) x a.fs).2.2.2.1, (setS a.s a.n 2 (slK x.key) x a.fs).2.2.2.2⟩
def SS.rm (a : SS) (k : List UInt8) : SS := ⟨(rmS a.s a.n 2 (slK k) k a.fs).2.2.1, (rmS a.s a.n 2 (slK k) k a.fs).2.2.2.1, (rmS a.s a.n 2 (slK k) k a.fs).2.2.2.2⟩
def SS.pur (a : SS) (k : List UInt8) (t : Int) : SS := ⟨(purS a.s a.n 2 (slK k) (hash64 k) t a.fs).2.2.1, (purS a.s a.n 2 (slK k) (hash64 k) t a.fs).2.2.2.1, (purS a.s a.n 2 (slK k) (hash64 k) t a.fs).2.2.2.2⟩
def SS.clr (a : SS) : SS := ⟨(clearS a.s 2 4 a.fs).2.1, a.n, (clearS a.s 2 4 a.fs).2.2⟩
def SS.step (a : SS) (o : Op13) : SS :=
 if o.kind = 0 then a.set o.x else if o.kind = 1 then a else if o.kind = 2 then a.rm o.x.key else if o.kind = 6 then a.pur o.x.key o.x.asof
 else if o.kind = 3 then a.clr else if o.kind = 4 then { a with s := fuseS a.s o.n } else a
theorem slK_lt (k : List UInt8) : slK k < 4 := slotE_lt (by decide)
theorem pgE_down {s : Fl} (hd : s.down = true) (at_ : Int) : pgE s at_ = [] := by
 unfold pgE; rw [if_pos (by rw [tgetC_down hd]; decide)]
theorem getS_up {s : Fl} {i : Nat} {k : List UInt8} (hd : ¬ s.down = true) (b : Int) : getS s b i k (mayF (ofF (keysE (pgE s (b + (i : Int))))) (hash64 k)) = (lkE (pgE s (b + (i : Int))) k, 0) := by
 unfold getS
 rw [if_neg hd]
 split
 · rename_i h
   rw [lkE_not]
   intro y hy e
   have := mayF_mem hy
   rw [e, h] at this
   cases this
 · rfl
theorem getS_down {s : Fl} {i : Nat} {k : List UInt8} {m : Bool} (hd : s.down = true) (b : Int) : ∃ c, getS s b i k m = (none, c) := by
 unfold getS
 rw [if_pos hd]
 split
 · exact ⟨0, rfl⟩
 · exact ⟨11, rfl⟩
theorem do13_a {sm t f fb : Nat} {a : SS} {c : List (Int × List UInt8)} {m : Nat} {D : List HP} (hO : OwnF f a.s D) (hrel : Rel a.s c m) (hm : m < 536870000) (hn : 1 ≤ a.n ∧ a.n ≤ 1099511627777) (hS : SI a.s a.fs) (h1 : sm ≠ fb) (h2 : sm ≠ t) (h3 : fb ≠ t) (h1' : fb ≠ sm) (h2' : t ≠ sm) (h3' : t ≠ fb) (o : Op13) (ho : OpB o) (hk : o.kind = 0 ∨ o.kind = 1) :
   ACalls Tryz.prog 35 [ptr sm, ptr t, sAV (wc a.s c) a.n 2 4, .agg o.cells] (smB sm t 2 fb 4 :: smF fb a.fs :: tbox t f a.n :: GL :: D)
     (fun r D' => ∃ c' D1, r = .ret (.tup [sAV (wc (a.step o).s c') (a.step o).n 2 4, .c (.bool true)]) ∧ Rel (a.step o).s c' (m + 5) ∧ OwnF f (a.step o).s D1 ∧ D' = smB sm t 2 fb 4 :: smF fb (a.step o).fs :: tbox t f (a.step o).n :: GL :: D1) := by
 have hwf := hrel.b.wf (by omega)
 have hwt := fun at_ b => (hrel.put a.n at_ 1 b).b.wf (by omega)
 have hR := B_R hrel.rb (by omega)
 have hw' := hR.w
 have hRt : ∀ at_ b, (tputS (wc a.s c) a.n at_ 1 b).R := fun at_ b => by rw [tputS_wc]; exact B_R (hrel.put a.n at_ 1 b).rb (by omega)
 have hl29 : (wc a.s c).loose.length < 2 ^ 29 := by show a.s.loose.length < 2 ^ 29; have := hrel.len; omega
 have hrw := hrel.rb.wf (by omega)
 have hr1 := hrel.rb.safe.page
 have hr2 := hrel.rb.lpage
 have hr3 : (wc a.s c).safe.length < 2 ^ 60 := by have := hrel.rb.len; omega
 have hr4 : (wc a.s c).loose.length < 2 ^ 60 := by omega
 obtain ⟨s, n, fs⟩ := a
 obtain ⟨kd, x, fn, keep⟩ := o
 have hkb : x.key.length < 2 ^ 62 := by have := ho.key; simp only at this; omega
 have hvb : x.val.length < 2 ^ 62 := by have := ho.val; simp only at this; omega
 have hon : fn < 9223372036854775808 := ho.n
 obtain ⟨i, hi⟩ : ∃ i, slotE (hash64 x.key) 4 = i := ⟨_, rfl⟩
 have hi' : slK x.key = i := hi
 have hlt : i < 4 := hi ▸ slotE_lt (by decide)
 have hpw := pgE_wc hrel
 simp only at *
 unfold Op13.cells
 simp only
 by_cases hk0 : kd = 0
 · have hst : SS.step ⟨s, n, fs⟩ ⟨kd, x, fn, keep⟩ = SS.set ⟨s, n, fs⟩ x := by unfold SS.step; rw [if_pos hk0]
   rw [hst]
   unfold SS.set
   simp only [hi']
   obtain ⟨c2, hw1, hrel2⟩ := set_wc hrel n 2 i x fs
   have hp := rset_ok (wc s c) n 2 4 i x hkb (by decide) (by decide) hi hrw hw' hl29 (by omega) hRt hr1 hr2 hr3 hr4 (by decide)
   rw [hw1] at hp
   have hq := sset_ok (sm := sm) (t := t) (fb := fb) (fs := fs) (i := i) (x := x) (N := 4) (base := 2) hkb hO hwf hwt (by omega) (by decide) hS.l4 hi (by decide) (by decide) h1 h2 h3
   have hgb : (setS s n 2 i x fs).1.length < 2 ^ 62 ∧ ∀ y ∈ (setS s n 2 i x fs).1, y.val.length < 2 ^ 62 := by
     have hpw2 := pgE_w hwf (2 + (i : Int))
     have hrl := rmE_len (pgE s (2 + (i : Int))) x.key
     have hin : (insE (pgE s (2 + (i : Int))) x).2.2.length ≤ 257 ∧ ∀ y ∈ (insE (pgE s (2 + (i : Int))) x).2.2, y.val.length < 2 ^ 62 := by
       unfold insE
       split
       · exact ⟨by simp, by simp⟩
       · split
         · exact ⟨by simp, by simp⟩
         · refine ⟨by simp only [List.length_take, List.length_append, List.length_cons, List.length_nil]; omega, fun y hy => ?_⟩
           rcases List.mem_append.1 (List.mem_of_mem_take hy) with h | h
           · have := (hpw2.1 y (rmE_mem h)).b; omega
           · rw [List.mem_singleton.1 h]; exact hvb
     unfold setS
     split
     · exact ⟨by simp, by simp⟩
     · split
       · exact ⟨by simp, by simp⟩
       · split
         · exact ⟨by show (insE (pgE s (2 + (i : Int))) x).2.2.length < 2 ^ 62; omega, hin.2⟩
         · exact ⟨by simp, by simp⟩
   have hsa := sameAll_ok (setS s n 2 i x fs).1 (setS s n 2 i x fs).1 hgb.1 hgb.2
   rw [decide_eq_true rfl] at hsa
   clear hst hw1 hgb
   generalize setS s n 2 i x fs = W at *
   obtain ⟨gone, C, s2, n2, fs2⟩ := W
   simp only at *
   simp only [Entry.av, Entry.cells] at hp hq
   refine calls_of_J cl_35 Tryz.func35 rfl (by simp [Tryz.ntmps35]) ?_
   refine jr (own := [8]) (h := ?_)
   refine jnv (hh := fun b8 hb8 => ?_)
   simp only [fresh, fresh_GL] at hb8
   refine jf hb8 (h := ?_)
   refine jif (h1 := fun _ => ?_) (h2 := fun hc => absurd (by exact hk0) hc)
   refine jf hb8 (h := ?_)
   refine jc (hs := hp) (hk := ?_)
   refine jf (own := [10]) hb8 (h := ?_)
   refine jnv (hh := fun b10 hb10 => ?_)
   simp only [fresh, fresh_GL] at hb10
   refine jmf 1 (a2 hb8 hb10) (h := ?_)
   refine J_freeze (s := 10) (o := 0) (by simp only [go_sem]) ?_
   simp only [List.drop_zero]
   refine jf hb8 (h := ?_)
   refine jcs (Fr := []) (hs := (hq.under1 _)) (hp := (by rw [List.append_nil])) (hk := ?_) (hpan := (by rintro x Δ' ⟨_, ⟨e, D1, h, _⟩, _⟩; cases h))
   rintro z _ ⟨_, ⟨er, D1, h, he, hO1, rfl⟩, rfl⟩
   cases h
   rw [List.append_nil]
   refine jf hb8 (h := ?_)
   refine jd [(0, .pure), (1, .pure), (2, .pure), (3, .pure), (4, .pure), (5, .pure), (6, .read), (7, .pure), (8, .pure), (9, .pure), (10, .act), (11, .pure)] mixed (by kernel_rfl) ?_
   refine cf hb8 (hk := ?_)
   refine ccp (hs := hsa) (hk := ?_)
   refine cf hb8 (hk := ?_)
   refine ccr (hs := ((of_ok he).globKeep (by simp [GL]))) (hk := ?_)
   refine cq hb8 (hk := ?_)
   refine Can_nil ?_
   refine J_forgetP ?_
   refine jretf hb8 Tryz.func35 (h := ⟨[_], _, List.Perm.refl _, c2, D1, rfl, hrel2.mono (by omega), hO1, rfl⟩)
 · by_cases hk1 : kd = 1
   · have hst : SS.step ⟨s, n, fs⟩ ⟨kd, x, fn, keep⟩ = ⟨s, n, fs⟩ := by unfold SS.step; rw [if_neg hk0, if_pos hk1]
     rw [hst]
     simp only
     obtain ⟨fl, hfl⟩ : ∃ fl, fs[i]? = some fl := ⟨_, List.getElem?_eq_getElem (by rw [hS.l4]; exact hlt)⟩
     have hok : BFok fl := hS.ok fl (List.mem_of_getElem? hfl)
     have hp := rget_ok (wc s c) n 2 4 i x.key hkb (by decide) (by decide) hi hrw hr1 hr2 hr3 hr4 (by decide)
     rw [hpw] at hp
     have hq := sget_ok (sm := sm) (t := t) (fb := fb) (fs := fs) (i := i) (k := x.key) (N := 4) (base := 2) (n := n) hkb hO hwf (by decide) hS.l4 hi (by decide) h1 hfl hok
     by_cases hd : s.down = true
     · obtain ⟨cc, hg⟩ := getS_down (i := i) (k := x.key) (m := mayF fl (hash64 x.key)) hd 2
       rw [hg] at hq
       have hnl : lkE (pgE s (2 + (i : Int))) x.key = none := by rw [pgE_down hd]; rfl
       rw [hnl] at hp
       simp only [gotAV, noE, Option.isSome_none] at hp hq
       obtain ⟨pg, sf, lo, fu, dn, dc⟩ := s
       simp only at hd
       subst hd
       refine calls_of_J cl_35 Tryz.func35 rfl (by simp [Tryz.ntmps35]) ?_
       refine jr (own := [8]) (h := ?_)
       refine jnv (hh := fun b8 hb8 => ?_)
       simp only [fresh, fresh_GL] at hb8
       refine jf hb8 (h := ?_)
       refine jif (h1 := fun hc => absurd hc (by exact hk0)) (h2 := fun _ => ?_)
       refine jf hb8 (h := ?_)
       refine jif (h1 := fun _ => ?_) (h2 := fun hc => absurd (by exact hk1) hc)
       refine jf hb8 (h := ?_)
       refine jc (hs := hp) (hk := ?_)
       refine jf (own := [15]) hb8 (h := ?_)
       refine jnv (hh := fun b15 hb15 => ?_)
       simp only [fresh, fresh_GL] at hb15
       refine jmf 1 (a2 hb8 hb15) (h := ?_)
       refine J_freeze (s := 15) (o := 0) (by simp only [go_sem]) ?_
       simp only [List.drop_zero]
       refine jf hb8 (h := ?_)
       refine jcs (Fr := []) (hs := (hq.under1 _)) (hp := (by rw [List.append_nil])) (hk := ?_) (hpan := (by rintro x Δ' ⟨_, ⟨⟨e, h, _⟩, _⟩, _⟩; cases h))
       rintro z _ ⟨_, ⟨⟨er, h, he⟩, rfl⟩, rfl⟩
       cases h
       rw [List.append_nil]
       refine jf (own := [17]) hb8 (h := ?_)
       refine jnv (hh := fun b17 hb17 => ?_)
       simp only [fresh, fresh_GL] at hb17
       refine jf (a2 hb8 hb17) (h := ?_)
       refine jt (h := ?_)
       refine jf (a2 hb8 hb17) (h := ?_)
       refine J_forgetP ?_
       refine jretf (a2 hb8 hb17) Tryz.func35 (h := ⟨[_, _], _, List.Perm.refl _, c, D, rfl, hrel.mono (by omega), hO, rfl⟩)
     · have hdf : s.down = false := by simpa using hd
       have hfe := hS.fl hdf i hlt
       rw [hfl] at hfe
       have hfl2 : fl = ofF (keysE (pgE s (2 + (i : Int)))) := Option.some.inj hfe
       have hm := smay_ok (sm := sm) (t := t) (base := 2) hkb hS.l4 (by decide) h1 hi hfl hok
       have hrm := rmay_ok (wc s c) n 2 4 i x.key hkb (by decide) (by decide) hi hrw hr1 hr2 hr3 hr4 (by decide)
       rw [hpw, ← may_same, ← hfl2] at hrm
       have hg := getS_up (i := i) (k := x.key) hd 2
       rw [← hfl2] at hg
       rw [hg] at hq
       clear hfe hfl2 hg
       have hlv : ∀ y, lkE (pgE s (2 + (i : Int))) x.key = some y → y.val.length < 2 ^ 62 := fun y hy => by
         have := ((pgE_w hwf (2 + (i : Int))).1 y (by unfold lkE at hy; exact List.mem_of_find?_eq_some hy)).b
         omega
       generalize mayF fl (hash64 x.key) = mm at *
       generalize lkE (pgE s (2 + (i : Int))) x.key = L at *
       have hsm : ∀ z : AV, z = gotAV L → ACalls Tryz.prog 44 [z, z] [] (Ret (.c (.bool true))) := by
         rintro z rfl
         cases L with
         | none =>
           have := same06_ok ⟨[], 0, 0, 0, []⟩ ⟨[], 0, 0, 0, []⟩ (by decide)
           rw [decide_eq_true rfl] at this
           have hle : noE.le (Entry.av ⟨[], 0, 0, 0, []⟩) := agg_le 4 rfl (nil_le_sl (s := 1))
           exact this.args fun g us h => by
             simp only [relL] at h ⊢
             obtain ⟨u, _, rfl, q1, v, _, rfl, q2, rfl⟩ := h
             exact ⟨u, _, rfl, hle g u q1, v, _, rfl, hle g v q2, rfl⟩
         | some y =>
           have := same06_ok y y (hlv y rfl)
           rw [decide_eq_true rfl] at this
           exact this
       have hsm1 := hsm _ rfl
       have hsm2 : ACalls Tryz.prog 44 [gotAV L, gotAV L] [] (Ret (.c (.bool true))) := hsm1
       clear hsm1 hsm hlv
       have hmm := hm.around (Δ := smB sm t 2 fb 4 :: smF fb fs :: tbox t f n :: GL :: D) (Fr := tbox t f n :: GL :: D) (List.Perm.refl _)
       have hmm1 := fun bx => hm.around (Δ := bx :: smB sm t 2 fb 4 :: smF fb fs :: tbox t f n :: GL :: D) (Fr := bx :: tbox t f n :: GL :: D) (permC _ _ _ _)
       obtain ⟨pg, sf, lo, fu, dn, dc⟩ := s
       simp only at hdf
       subst hdf
       cases L
       all_goals
         simp only [gotAV, noE, Entry.av, Entry.cells, Option.isSome_some, Option.isSome_none] at hp hq hsm2
         refine calls_of_J cl_35 Tryz.func35 rfl (by simp [Tryz.ntmps35]) ?_
         refine jr (own := [8]) (h := ?_)
         refine jnv (hh := fun b8 hb8 => ?_)
         simp only [fresh, fresh_GL] at hb8
         refine jf hb8 (h := ?_)
         refine jif (h1 := fun hc => absurd hc (by exact hk0)) (h2 := fun _ => ?_)
         refine jf hb8 (h := ?_)
         refine jif (h1 := fun _ => ?_) (h2 := fun hc => absurd (by exact hk1) hc)
         refine jf hb8 (h := ?_)
         refine jc (hs := hp) (hk := ?_)
         refine jf (own := [15]) hb8 (h := ?_)
         refine jnv (hh := fun b15 hb15 => ?_)
         simp only [fresh, fresh_GL] at hb15
         refine jmf 1 (a2 hb8 hb15) (h := ?_)
         refine J_freeze (s := 15) (o := 0) (by simp only [go_sem]) ?_
         simp only [List.drop_zero]
         refine jf hb8 (h := ?_)
         refine jcs (Fr := []) (hs := (hq.under1 _)) (hp := (by rw [List.append_nil])) (hk := ?_) (hpan := (by rintro x Δ' ⟨_, ⟨⟨e, h, _⟩, _⟩, _⟩; cases h))
         rintro z _ ⟨_, ⟨⟨er, h, he⟩, rfl⟩, rfl⟩
         cases h
         obtain rfl := iserr_zero he
         rw [List.append_nil]
         refine jf (own := [17]) hb8 (h := ?_)
         refine jnv (hh := fun b17 hb17 => ?_)
         simp only [fresh, fresh_GL] at hb17
         refine jmf 1 (a2 hb8 hb17) (h := ?_)
         refine J_freeze (s := 17) (o := 0) (by simp only [go_sem]) ?_
         simp only [List.drop_zero]
         refine jf hb8 (h := ?_)
         refine jn (h := ?_)
         refine jr (h := ?_)
         refine jd [(0, .pure), (1, .pure), (2, .pure), (3, .pure), (4, .pure), (5, .pure), (6, .pure), (7, .pure), (8, .pure), (9, .pure), (10, .pure), (11, .pure), (12, .pure), (13, .pure), (14, .pure), (15, .pure), (16, .pure), (17, .pure), (18, .read), (19, .pure), (20, .pure), (21, .pure), (22, .pure), (23, .pure), (24, .pure), (25, .pure), (26, .act), (27, .pure)] mixed (by kernel_rfl) ?_
         refine cf hb8 (hk := ?_)
         refine ccp (hs := hsm2) (hk := ?_)
         refine cf hb8 (hk := ?_)
         refine ccr (hs := (hmm1 _)) (hk := ?_)
         refine cf hb8 (hk := ?_)
         refine ccp (hs := hrm) (hk := ?_)
         refine cq hb8 (hk := ?_)
         refine Can_nil ?_
         refine J_forgetP ?_
         refine jretf hb8 Tryz.func35 (h := ⟨[_], _, List.Perm.refl _, c, D, rfl, hrel.mono (by omega), hO, rfl⟩)
   · omega
end
section
attribute [local go_sem] rowsBytes_bytesRows Option.map_some Int.cast_ofNat_Int getBox_GL setBox_GL fresh_GL sAV tAV
theorem do13_b {sm t f fb : Nat} {a : SS} {c : List (Int × List UInt8)} {m : Nat} {D : List HP} (hO : OwnF f a.s D) (hrel : Rel a.s c m) (hm : m < 536870000) (hn : 1 ≤ a.n ∧ a.n ≤ 1099511627777) (hS : SI a.s a.fs) (h1 : sm ≠ fb) (h2 : sm ≠ t) (h3 : fb ≠ t) (h1' : fb ≠ sm) (h2' : t ≠ sm) (h3' : t ≠ fb) (o : Op13) (ho : OpB o) (hk : o.kind = 2 ∨ o.kind = 6) :
   ACalls Tryz.prog 35 [ptr sm, ptr t, sAV (wc a.s c) a.n 2 4, .agg o.cells] (smB sm t 2 fb 4 :: smF fb a.fs :: tbox t f a.n :: GL :: D)
     (fun r D' => ∃ c' D1, r = .ret (.tup [sAV (wc (a.step o).s c') (a.step o).n 2 4, .c (.bool true)]) ∧ Rel (a.step o).s c' (m + 5) ∧ OwnF f (a.step o).s D1 ∧ D' = smB sm t 2 fb 4 :: smF fb (a.step o).fs :: tbox t f (a.step o).n :: GL :: D1) := by
 have hwf := hrel.b.wf (by omega)
 have hwt := fun at_ b => (hrel.put a.n at_ 1 b).b.wf (by omega)
 have hR := B_R hrel.rb (by omega)
 have hw' := hR.w
 have hRt : ∀ at_ b, (tputS (wc a.s c) a.n at_ 1 b).R := fun at_ b => by rw [tputS_wc]; exact B_R (hrel.put a.n at_ 1 b).rb (by omega)
 have hl29 : (wc a.s c).loose.length < 2 ^ 29 := by show a.s.loose.length < 2 ^ 29; have := hrel.len; omega
 have hrw := hrel.rb.wf (by omega)
 have hr1 := hrel.rb.safe.page
 have hr2 := hrel.rb.lpage
 have hr3 : (wc a.s c).safe.length < 2 ^ 60 := by have := hrel.rb.len; omega
 have hr4 : (wc a.s c).loose.length < 2 ^ 60 := by omega
 obtain ⟨s, n, fs⟩ := a
 obtain ⟨kd, x, fn, keep⟩ := o
 have hkb : x.key.length < 2 ^ 62 := by have := ho.key; simp only at this; omega
 have hvb : x.val.length < 2 ^ 62 := by have := ho.val; simp only at this; omega
 have hon : fn < 9223372036854775808 := ho.n
 obtain ⟨i, hi⟩ : ∃ i, slotE (hash64 x.key) 4 = i := ⟨_, rfl⟩
 have hi' : slK x.key = i := hi
 have hlt : i < 4 := hi ▸ slotE_lt (by decide)
 have hpw := pgE_wc hrel
 simp only at *
 unfold Op13.cells
 simp only
 have hk0 : ¬ kd = 0 := by omega
 have hk1 : ¬ kd = 1 := by omega
 by_cases hk2 : kd = 2
 · have hst : SS.step ⟨s, n, fs⟩ ⟨kd, x, fn, keep⟩ = SS.rm ⟨s, n, fs⟩ x.key := by unfold SS.step; rw [if_neg hk0, if_neg hk1, if_pos hk2]
   rw [hst]
   unfold SS.rm
   simp only [hi']
   obtain ⟨c2, hw1, hrel2⟩ := rm_wc hrel n 2 i x.key fs
   have hp := rremove_ok (wc s c) n 2 4 i x.key hkb (by decide) (by decide) hi hrw hw' hl29 (by omega) hRt hr1 hr2 hr3 hr4 (by decide)
   rw [hw1] at hp
   have hq := sremove_ok (sm := sm) (t := t) (fb := fb) (fs := fs) (i := i) (k := x.key) (N := 4) (base := 2) hkb hO hwf hwt (by omega) (by decide) hS.l4 hi (by decide) (by decide) h1 h2 h3
   clear hst hw1
   generalize rmS s n 2 i x.key fs = W at *
   obtain ⟨ok, C, s2, n2, fs2⟩ := W
   simp only at *
   refine calls_of_J cl_35 Tryz.func35 rfl (by simp [Tryz.ntmps35]) ?_
   refine jr (own := [8]) (h := ?_)
   refine jnv (hh := fun b8 hb8 => ?_)
   simp only [fresh, fresh_GL] at hb8
   refine jf hb8 (h := ?_)
   refine jif (h1 := fun hc => absurd hc (by exact hk0)) (h2 := fun _ => ?_)
   refine jf hb8 (h := ?_)
   refine jif (h1 := fun hc => absurd hc (by exact hk1)) (h2 := fun _ => ?_)
   refine jf hb8 (h := ?_)
   refine jif (h1 := fun _ => ?_) (h2 := fun hc => absurd (by exact hk2) hc)
   refine jf hb8 (h := ?_)
   refine jc (hs := hp) (hk := ?_)
   refine jf (own := [20]) hb8 (h := ?_)
   refine jnv (hh := fun b20 hb20 => ?_)
   simp only [fresh, fresh_GL] at hb20
   refine jmf 1 (a2 hb8 hb20) (h := ?_)
   refine J_freeze (s := 20) (o := 0) (by simp only [go_sem]) ?_
   simp only [List.drop_zero]
   refine jf hb8 (h := ?_)
   refine jcs (Fr := []) (hs := (hq.under1 _)) (hp := (by rw [List.append_nil])) (hk := ?_) (hpan := (by rintro x Δ' ⟨_, ⟨e, D1, h, _⟩, _⟩; cases h))
   rintro z _ ⟨_, ⟨er, D1, h, he, hO1, rfl⟩, rfl⟩
   cases h
   rw [List.append_nil]
   refine jf hb8 (h := ?_)
   refine jd [(0, .pure), (1, .pure), (2, .pure), (3, .pure), (4, .pure), (5, .pure), (6, .read), (7, .pure), (8, .pure), (9, .pure), (10, .act), (11, .pure)] mixed (by kernel_rfl) ?_
   refine cq hb8 (hk := ?_)
   refine ccr (hs := ((of_ok he).globKeep (by simp [GL]))) (hk := ?_)
   refine cq hb8 (hk := ?_)
   refine Can_nil ?_
   refine J_forgetP ?_
   refine jretf hb8 Tryz.func35 (h := ⟨[_], _, List.Perm.refl _, c2, D1, rfl, hrel2.mono (by omega), hO1, rfl⟩)
 · have hk6 : kd = 6 := by omega
   have hst : SS.step ⟨s, n, fs⟩ ⟨kd, x, fn, keep⟩ = SS.pur ⟨s, n, fs⟩ x.key x.asof := by unfold SS.step; rw [if_neg hk0, if_neg hk1, if_neg hk2, if_pos hk6]
   rw [hst]
   unfold SS.pur
   simp only [hi']
   have hhk := bhash_ok x.key hkb
   have hin := hash_in x.key
   generalize hash64 x.key = hh at *
   obtain ⟨c2, hw1, hrel2⟩ := pur_wc hrel n 2 i hh x.asof fs
   have hp := rpurge13_ok (wc s c) n 2 4 i hh x.asof hin (by decide) (by decide) hi hrw hw' hl29 (by omega) hRt hr1 hr2 hr3 hr4 (by decide)
   rw [hw1] at hp
   have hq := spurge_ok (sm := sm) (t := t) (fb := fb) (fs := fs) (i := i) (a := x.asof) (N := 4) (base := 2) hin hO hwf hwt (by omega) (by decide) hS.l4 hi (by decide) (by decide) h1 h2 h3
   clear hst hw1
   generalize purS s n 2 i hh x.asof fs = W at *
   obtain ⟨cnt, C, s2, n2, fs2⟩ := W
   simp only at *
   refine calls_of_J cl_35 Tryz.func35 rfl (by simp [Tryz.ntmps35]) ?_
   refine jr (own := [8]) (h := ?_)
   refine jnv (hh := fun b8 hb8 => ?_)
   simp only [fresh, fresh_GL] at hb8
   refine jf hb8 (h := ?_)
   refine jif (h1 := fun hc => absurd hc (by exact hk0)) (h2 := fun _ => ?_)
   refine jf hb8 (h := ?_)
   refine jif (h1 := fun hc => absurd hc (by exact hk1)) (h2 := fun _ => ?_)
   refine jf hb8 (h := ?_)
   refine jif (h1 := fun hc => absurd hc (by exact hk2)) (h2 := fun _ => ?_)
   refine jf hb8 (h := ?_)
   refine jif (h1 := fun _ => ?_) (h2 := fun hc => absurd (by exact hk6) hc)
   refine jf hb8 (h := ?_)
   refine jd [(0, .pure), (1, .pure), (2, .pure), (3, .pure), (4, .pure), (5, .pure), (6, .pure), (7, .pure), (8, .pure), (9, .pure), (10, .pure), (11, .pure), (12, .pure), (13, .new), (14, .act), (15, .pure), (16, .pure)] mixed (by kernel_rfl) ?_
   refine cf hb8 (hk := ?_)
   refine ccp (hs := hhk) (hk := ?_)
   refine cf hb8 (hk := ?_)
   refine ccp (hs := hp) (hk := ?_)
   refine cf hb8 (hk := ?_)
   refine cnv (hk := fun b25 hb25 => ?_)
   simp only [fresh, fresh_GL] at hb25
   refine cf (a2 hb8 hb25) (hk := ?_)
   refine Can_nil ?_
   refine J_freeze (s := 25) (o := 0) (by simp only [go_sem]) ?_
   simp only [List.drop_zero]
   refine jf hb8 (h := ?_)
   refine jd [(0, .pure), (1, .pure), (2, .pure), (3, .pure), (4, .pure), (5, .pure), (6, .pure), (7, .pure), (8, .act), (9, .pure), (10, .pure), (11, .pure), (12, .pure), (13, .pure)] mixed (by kernel_rfl) ?_
   refine cf hb8 (hk := ?_)
   refine ccp (hs := hhk) (hk := ?_)
   refine cf hb8 (hk := ?_)
   refine ccs (Fr := []) (hs := (hq.under1 _)) (hp := (by rw [List.append_nil])) (hk := ?_) (hn := (by rintro x Δ' ⟨_, ⟨e, D1, h, _⟩, _⟩; cases h))
   rintro z _ ⟨_, ⟨er, D1, h, he, hO1, rfl⟩, rfl⟩
   cases h
   rw [List.append_nil]
   refine cf hb8 (hk := ?_)
   refine Can_nil ?_
   refine jf hb8 (h := ?_)
   refine jd [(0, .pure), (1, .pure), (2, .pure), (3, .pure), (4, .pure), (5, .pure), (6, .read), (7, .pure), (8, .pure), (9, .pure), (10, .act), (11, .pure)] mixed (by kernel_rfl) ?_
   refine cq hb8 (hk := ?_)
   refine ccr (hs := ((of_ok he).globKeep (by simp [GL]))) (hk := ?_)
   refine cq hb8 (hk := ?_)
   refine Can_nil ?_
   refine J_forgetP ?_
   refine jretf hb8 Tryz.func35 (h := ⟨[_], _, List.Perm.refl _, c2, D1, rfl, hrel2.mono (by omega), hO1, rfl⟩)
end
section
attribute [local go_sem] rowsBytes_bytesRows Option.map_some Int.cast_ofNat_Int getBox_GL setBox_GL fresh_GL sAV tAV
theorem do13_c {sm t f fb : Nat} {a : SS} {c : List (Int × List UInt8)} {m : Nat} {D : List HP} (hO : OwnF f a.s D) (hrel : Rel a.s c m) (hm : m < 536870000) (hn : 1 ≤ a.n ∧ a.n ≤ 1099511627777) (hS : SI a.s a.fs) (h1 : sm ≠ fb) (h2 : sm ≠ t) (h3 : fb ≠ t) (h1' : fb ≠ sm) (h2' : t ≠ sm) (h3' : t ≠ fb) (o : Op13) (ho : OpB o) (hk : o.kind ≠ 0 ∧ o.kind ≠ 1 ∧ o.kind ≠ 2 ∧ o.kind ≠ 6) :
   ACalls Tryz.prog 35 [ptr sm, ptr t, sAV (wc a.s c) a.n 2 4, .agg o.cells] (smB sm t 2 fb 4 :: smF fb a.fs :: tbox t f a.n :: GL :: D)
     (fun r D' => ∃ c' D1, r = .ret (.tup [sAV (wc (a.step o).s c') (a.step o).n 2 4, .c (.bool true)]) ∧ Rel (a.step o).s c' (m + 5) ∧ OwnF f (a.step o).s D1 ∧ D' = smB sm t 2 fb 4 :: smF fb (a.step o).fs :: tbox t f (a.step o).n :: GL :: D1) := by
 have hwf := hrel.b.wf (by omega)
 have hwt := fun at_ b => (hrel.put a.n at_ 1 b).b.wf (by omega)
 have hR := B_R hrel.rb (by omega)
 have hw' := hR.w
 have hRt : ∀ at_ b, (tputS (wc a.s c) a.n at_ 1 b).R := fun at_ b => by rw [tputS_wc]; exact B_R (hrel.put a.n at_ 1 b).rb (by omega)
 have hl29 : (wc a.s c).loose.length < 2 ^ 29 := by show a.s.loose.length < 2 ^ 29; have := hrel.len; omega
 have hrw := hrel.rb.wf (by omega)
 have hr1 := hrel.rb.safe.page
 have hr2 := hrel.rb.lpage
 have hr3 : (wc a.s c).safe.length < 2 ^ 60 := by have := hrel.rb.len; omega
 have hr4 : (wc a.s c).loose.length < 2 ^ 60 := by omega
 obtain ⟨s, n, fs⟩ := a
 obtain ⟨kd, x, fn, keep⟩ := o
 have hkb : x.key.length < 2 ^ 62 := by have := ho.key; simp only at this; omega
 have hvb : x.val.length < 2 ^ 62 := by have := ho.val; simp only at this; omega
 have hon : fn < 9223372036854775808 := ho.n
 obtain ⟨i, hi⟩ : ∃ i, slotE (hash64 x.key) 4 = i := ⟨_, rfl⟩
 have hi' : slK x.key = i := hi
 have hlt : i < 4 := hi ▸ slotE_lt (by decide)
 have hpw := pgE_wc hrel
 simp only at *
 unfold Op13.cells
 simp only
 obtain ⟨hk0, hk1, hk2, hk6⟩ := hk
 by_cases hk3 : kd = 3
 · have hst : SS.step ⟨s, n, fs⟩ ⟨kd, x, fn, keep⟩ = SS.clr ⟨s, n, fs⟩ := by unfold SS.step; rw [if_neg hk0, if_neg hk1, if_neg hk2, if_neg hk6, if_pos hk3]
   rw [hst]
   unfold SS.clr
   simp only
   obtain ⟨c2, hw1, hrel2⟩ := clr_wc hrel 2 4 fs
   have hp := rclear13_ok (wc s c) n 2 4 (by decide) (by decide) (fun k hk => by
     have hk4 := hrel.trimN 2 k
     rw [trimN_wc]
     have hrb := B_R hk4.rb (by omega)
     have := hk4.len
     exact ⟨hrb.w, by show (trimN s 2 k).2.loose.length < 2 ^ 29; omega⟩) (by
     have hk4 := hrel.trimN 2 4
     rw [trimN_wc]
     exact B_R hk4.rb (by omega))
   rw [hw1] at hp
   have hq := sclear_ok (sm := sm) (t := t) (fb := fb) (fs := fs) (N := 4) (n := n) (base := 2) hO (fun k hk => (trimN_B hrel.b 2 k).wf (by omega)) (by decide) hS.l4 (by decide) (by decide) h1 h1'
   clear hst hw1
   generalize clearS s 2 4 fs = W at *
   obtain ⟨C, s2, fs2⟩ := W
   simp only at *
   refine calls_of_J cl_35 Tryz.func35 rfl (by simp [Tryz.ntmps35]) ?_
   refine jr (own := [8]) (h := ?_)
   refine jnv (hh := fun b8 hb8 => ?_)
   simp only [fresh, fresh_GL] at hb8
   refine jf hb8 (h := ?_)
   refine jif (h1 := fun hc => absurd hc (by exact hk0)) (h2 := fun _ => ?_)
   refine jf hb8 (h := ?_)
   refine jif (h1 := fun hc => absurd hc (by exact hk1)) (h2 := fun _ => ?_)
   refine jf hb8 (h := ?_)
   refine jif (h1 := fun hc => absurd hc (by exact hk2)) (h2 := fun _ => ?_)
   refine jf hb8 (h := ?_)
   refine jif (h1 := fun hc => absurd hc (by exact hk6)) (h2 := fun _ => ?_)
   refine jf hb8 (h := ?_)
   refine jif (h1 := fun _ => ?_) (h2 := fun hc => absurd (by exact hk3) hc)
   refine jf hb8 (h := ?_)
   refine jc (hs := hp) (hk := ?_)
   refine jf (own := [30]) hb8 (h := ?_)
   refine jnv (hh := fun b30 hb30 => ?_)
   simp only [fresh, fresh_GL] at hb30
   refine jmf 1 (a2 hb8 hb30) (h := ?_)
   refine J_freeze (s := 30) (o := 0) (by simp only [go_sem]) ?_
   simp only [List.drop_zero]
   refine jf hb8 (h := ?_)
   refine jd [(0, .pure), (1, .pure), (4, .pure), (2, .act), (3, .read), (5, .pure), (6, .act), (7, .pure)] mixed (by kernel_rfl) ?_
   refine cf hb8 (hk := ?_)
   refine ccs (Fr := []) (hs := (hq.under1 _)) (hp := (by rw [List.append_nil])) (hk := ?_) (hn := (by rintro x Δ' ⟨_, ⟨e, D1, h, _⟩, _⟩; cases h))
   rintro z _ ⟨_, ⟨er, D1, h, he, hO1, rfl⟩, rfl⟩
   cases h
   rw [List.append_nil]
   refine cf hb8 (hk := ?_)
   refine ccr (hs := ((of_ok he).globKeep (by simp [GL]))) (hk := ?_)
   refine cq hb8 (hk := ?_)
   refine Can_nil ?_
   refine J_forgetP ?_
   refine jretf hb8 Tryz.func35 (h := ⟨[_], _, List.Perm.refl _, c2, D1, rfl, hrel2, hO1, rfl⟩)
 · by_cases hk4 : kd = 4
   · have hst : SS.step ⟨s, n, fs⟩ ⟨kd, x, fn, keep⟩ = ⟨fuseS s fn, n, fs⟩ := by unfold SS.step; rw [if_neg hk0, if_neg hk1, if_neg hk2, if_neg hk6, if_neg hk3, if_pos hk4]
     rw [hst]
     simp only
     have hp2 := fuse04_ok (wc s c) fn
     rw [show fuseS (wc s c) fn = wc (fuseS s fn) c from rfl] at hp2
     have hq := fuse_ok hO fn
     have hr5 := (hrel.fuse hon).mono (Nat.le_add_right m 5)
     unfold rAV at hp2
     clear hst
     generalize fuseS s fn = s2 at *
     refine calls_of_J cl_35 Tryz.func35 rfl (by simp [Tryz.ntmps35]) ?_
     refine jr (own := [8]) (h := ?_)
     refine jnv (hh := fun b8 hb8 => ?_)
     simp only [fresh, fresh_GL] at hb8
     refine jf hb8 (h := ?_)
     refine jif (h1 := fun hc => absurd hc (by exact hk0)) (h2 := fun _ => ?_)
     refine jf hb8 (h := ?_)
     refine jif (h1 := fun hc => absurd hc (by exact hk1)) (h2 := fun _ => ?_)
     refine jf hb8 (h := ?_)
     refine jif (h1 := fun hc => absurd hc (by exact hk2)) (h2 := fun _ => ?_)
     refine jf hb8 (h := ?_)
     refine jif (h1 := fun hc => absurd hc (by exact hk6)) (h2 := fun _ => ?_)
     refine jf hb8 (h := ?_)
     refine jif (h1 := fun hc => absurd hc (by exact hk3)) (h2 := fun _ => ?_)
     refine jf hb8 (h := ?_)
     refine jif (h1 := fun _ => ?_) (h2 := fun hc => absurd (by exact hk4) hc)
     refine jf hb8 (h := ?_)
     refine jd [(0, .pure), (1, .pure), (2, .pure), (3, .read), (4, .pure), (5, .pure), (6, .act)] mixed (by kernel_rfl) ?_
     refine cf (a5 hb8 h1 h1' h2 (a3 h2' h3 h3')) (hk := ?_)
     refine ccs (Fr := []) (hs := (hq.under5 _ _ _ _ GL)) (hp := (by rw [List.append_nil])) (hk := ?_) (hn := (by rintro x Δ' ⟨_, ⟨h, _⟩, _⟩; cases h))
     rintro z _ ⟨D2, ⟨h, hO2⟩, rfl⟩
     cases h
     rw [List.append_nil]
     refine cr (hk := ?_)
     refine Can_nil ?_
     refine jf (own := [32]) hb8 (h := ?_)
     refine jnv (hh := fun b32 hb32 => ?_)
     simp only [fresh, fresh_GL] at hb32
     refine jf (a2 hb8 hb32) (h := ?_)
     refine jc (hs := hp2) (hk := ?_)
     refine jf (a2 hb8 hb32) (h := ?_)
     refine J_forgetP ?_
     refine jretf (a2 hb8 hb32) Tryz.func35 (h := ⟨[_, _], _, List.Perm.refl _, c, D2, rfl, hr5, hO2, rfl⟩)
   · have hst : SS.step ⟨s, n, fs⟩ ⟨kd, x, fn, keep⟩ = ⟨s, n, fs⟩ := by unfold SS.step; rw [if_neg hk0, if_neg hk1, if_neg hk2, if_neg hk6, if_neg hk3, if_neg hk4]
     rw [hst]
     simp only
     refine calls_of_J cl_35 Tryz.func35 rfl (by simp [Tryz.ntmps35]) ?_
     refine jr (own := [8]) (h := ?_)
     refine jnv (hh := fun b8 hb8 => ?_)
     simp only [fresh, fresh_GL] at hb8
     refine jf hb8 (h := ?_)
     refine jif (h1 := fun hc => absurd hc (by exact hk0)) (h2 := fun _ => ?_)
     refine jf hb8 (h := ?_)
     refine jif (h1 := fun hc => absurd hc (by exact hk1)) (h2 := fun _ => ?_)
     refine jf hb8 (h := ?_)
     refine jif (h1 := fun hc => absurd hc (by exact hk2)) (h2 := fun _ => ?_)
     refine jf hb8 (h := ?_)
     refine jif (h1 := fun hc => absurd hc (by exact hk6)) (h2 := fun _ => ?_)
     refine jf hb8 (h := ?_)
     refine jif (h1 := fun hc => absurd hc (by exact hk3)) (h2 := fun _ => ?_)
     refine jf hb8 (h := ?_)
     refine jif (h1 := fun hc => absurd hc (by exact hk4)) (h2 := fun _ => ?_)
     refine jf hb8 (h := ?_)
     refine J_forgetP ?_
     refine jretf hb8 Tryz.func35 (h := ⟨[_], _, List.Perm.refl _, c, D, rfl, hrel.mono (by omega), hO, rfl⟩)
theorem do13_ok {sm t f fb : Nat} {a : SS} {c : List (Int × List UInt8)} {m : Nat} {D : List HP} (hO : OwnF f a.s D) (hrel : Rel a.s c m) (hm : m < 536870000) (hn : 1 ≤ a.n ∧ a.n ≤ 1099511627777) (hS : SI a.s a.fs) (h1 : sm ≠ fb) (h2 : sm ≠ t) (h3 : fb ≠ t) (o : Op13) (ho : OpB o) :
   ACalls Tryz.prog 35 [ptr sm, ptr t, sAV (wc a.s c) a.n 2 4, .agg o.cells] (smB sm t 2 fb 4 :: smF fb a.fs :: tbox t f a.n :: GL :: D)
     (fun r D' => ∃ c' D1, r = .ret (.tup [sAV (wc (a.step o).s c') (a.step o).n 2 4, .c (.bool true)]) ∧ Rel (a.step o).s c' (m + 5) ∧ OwnF f (a.step o).s D1 ∧ D' = smB sm t 2 fb 4 :: smF fb (a.step o).fs :: tbox t f (a.step o).n :: GL :: D1) := by
 by_cases hk : o.kind = 0 ∨ o.kind = 1
 · exact do13_a hO hrel hm hn hS h1 h2 h3 h1.symm h2.symm h3.symm o ho hk
 · by_cases hk2 : o.kind = 2 ∨ o.kind = 6
   · exact do13_b hO hrel hm hn hS h1 h2 h3 h1.symm h2.symm h3.symm o ho hk2
   · exact do13_c hO hrel hm hn hS h1 h2 h3 h1.symm h2.symm h3.symm o ho ⟨fun h => hk (.inl h), fun h => hk (.inr h), fun h => hk2 (.inl h), fun h => hk2 (.inr h)⟩
end
section
attribute [local go_sem] rowsBytes_bytesRows Option.map_some Int.cast_ofNat_Int getBox_GL setBox_GL fresh_GL sAV tAV
theorem SI.step {a : SS} (h : SI a.s a.fs) (hw : a.s.WF) (o : Op13) : SI (a.step o).s (a.step o).fs := by
 unfold SS.step
 split
 · exact h.set hw a.n (slK_lt _) o.x
 · split
   · exact h
   · split
     · exact h.rm hw a.n (slK_lt _) o.x.key
     · split
       · exact h.pur hw a.n (slK_lt _) _ _
       · split
         · exact h.clear hw
         · split
           · exact h.fuse o.n
           · exact h
theorem wrS_n {s : Fl} {n base : Int} {i : Nat} {l : List Entry} {fs : List BF} (h : 1 ≤ n ∧ n ≤ 1099511627777) : 1 ≤ (wrS s n base i l fs).2.2.1 ∧ (wrS s n base i l fs).2.2.1 ≤ 1099511627777 := tputN_bd h
theorem SS.step_n {a : SS} (h : 1 ≤ a.n ∧ a.n ≤ 1099511627777) (o : Op13) : 1 ≤ (a.step o).n ∧ (a.step o).n ≤ 1099511627777 := by
 unfold SS.step
 split
 · unfold SS.set setS
   simp only
   split
   · exact h
   · split
     · exact h
     · exact wrS_n h
 · split
   · exact h
   · split
     · unfold SS.rm rmS
       simp only
       split
       · exact h
       · split
         · exact h
         · exact wrS_n h
     · split
       · unfold SS.pur purS
         simp only
         split
         · exact h
         · split
           · exact h
           · exact wrS_n h
       · split
         · exact h
         · split <;> exact h
end
section
attribute [local go_sem] rowsBytes_bytesRows Option.map_some Int.cast_ofNat_Int getBox_GL setBox_GL fresh_GL sAV tAV newFl
theorem allP_w {s : Fl} (hw : s.WF) (base : Int) (N : Nat) : ∀ x ∈ allP s base N, EntW x := by
 intro x hx
 unfold allP at hx
 obtain ⟨j, -, hj⟩ := List.mem_flatMap.1 hx
 exact (pgE_w hw _).1 x hj
theorem ref10_new9 : ACalls Tryz.prog 23 [.agg [.c (.int .i64 9), .sl 2 [], .sl 3 [], .c (.int .i64 (-1)), .c (.bool false), .c (.int .i64 0)]] [] (Ret (.tup [tAV (newFl 9) 1, .c (.int .i64 0)])) := by
 have hrel : Rel (newFl 9) [] 0 := rel_new (by decide) (by decide)
 have hcn : cellsAt (newFl 9) (upto (newFl 9).pages.toNat) = [] := by have := hrel.cells; rw [cellsF_new] at this; exact this
 have ho10 : ACalls Tryz.prog 23 [rAV (newFl 9)] [] (Ret (.tup [tAV (newFl 9) 1, .c (.int .i64 0)])) := by
   have := open10_ok (newFl 9) rfl (by decide) (B_R hrel.b (by decide))
   rw [hcn] at this
   exact this
 exact ho10
theorem ref13_new9 : ACalls Tryz.prog 34 [tAV (newFl 9) 1, .c (.int .i64 2), .c (.int .i64 4)] [] (Ret (.tup [sAV (wc (newFl 9) []) 1 2 4, .c (.int .i64 0)])) := ropen13_ok (newFl 9) 1 2 4 (by decide) (by decide) rfl
abbrev ss0 : SS := ⟨newFl 9, 1, openFs (newFl 9) 2 4⟩
theorem ss0_rel : Rel ss0.s [] 0 := rel_new (by decide) (by decide)
theorem ss0_SI : SI ss0.s ss0.fs := SI.open rfl rfl
abbrev sC (s : Fl) (c : List (Int × List UInt8)) (n : Int) : List AV := [.c (.int .i64 s.pages), .sl 2 (cellRows c), .sl 3 (chRows s.loose), .c (.int .i64 s.fuse), .c (.bool s.down), .c (.int .i64 s.done), .c (.int .i64 n), .c (.int .i64 2), .c (.int .i64 4)]
end
section
def SS.next (a : SS) (o : Op13) : SS := if o.kind = 4 ∨ o.kind = 5 then a else a.step o
def SS.run (l : List Op13) : SS := l.foldl SS.next ss0
theorem KE.mono {s : Fl} {n : Int} {i k : Nat} (h : KE s n i) (hk : i ≤ k) : KE s n k := by
 obtain ⟨P, h⟩ := h
 exact ⟨P, h.mono hk⟩
theorem KE.step {a : SS} {i : Nat} (h : KE a.s a.n i) (hi : i ≤ 200) (hw : a.s.WF) (o : Op13) (ho : o.kind ≠ 4) : KE (a.step o).s (a.step o).n (i + 1) := by
 unfold SS.step
 split
 · exact h.set hi a.fs hw.page o.x
 · split
   · exact h.mono (Nat.le_succ i)
   · split
     · exact h.rm hi a.fs hw.page (slK_lt _) o.x.key
     · split
       · exact h.pur hi a.fs hw.page (slK_lt _) _ _
       · split
         · exact h.clear a.fs ⟨hw.nodup, hw.page⟩
         · exact h.mono (Nat.le_succ i)
theorem KE.up {s : Fl} {n : Int} {i : Nat} (h : KE s n i) : s.down = false := by
 obtain ⟨P, h⟩ := h; exact h.d
theorem KE.nb {s : Fl} {n : Int} {i : Nat} (h : KE s n i) : 1 ≤ n ∧ n ≤ i + 1 := by
 obtain ⟨P, h⟩ := h; exact ⟨h.n1, h.n2⟩
theorem KE.new : KE ss0.s ss0.n 0 := ⟨_, KS.new⟩
theorem KE.bkp {s : Fl} {n : Int} {i : Nat} (h : KE s n i) (hi : i ≤ 200) {j : Nat} (hj : j < 4) : BkOK (pgE s (2 + (j : Int))) ∧ ∀ y ∈ pgE s (2 + (j : Int)), slK y.key = j := by
 obtain ⟨P, h⟩ := h; exact h.bkp hi hj
theorem allP_mem {s : Fl} {y : Entry} (h : y ∈ allP s 2 4) : ∃ q : Nat, q < 4 ∧ y ∈ pgE s (2 + (q : Int)) := by
 unfold allP at h
 obtain ⟨q, hq, hy⟩ := List.mem_flatMap.1 h
 exact ⟨q, List.mem_range.1 hq, hy⟩
theorem set_cases {s : Fl} {n : Int} {i : Nat} (h : KE s n i) (hi : i ≤ 200) (fs : List BF) (hpg : ∀ p ∈ s.safe, p.2.length = 256) (x : Entry) :
   ((setS s n 2 (slK x.key) x fs).2.1 ≠ 0 ∧ setS s n 2 (slK x.key) x fs = ([], (setS s n 2 (slK x.key) x fs).2.1, s, n, fs)) ∨
   ((setS s n 2 (slK x.key) x fs).2.1 = 0 ∧ (insE (pgE s (2 + (slK x.key : Int))) x).1 = 0 ∧ (setS s n 2 (slK x.key) x fs).1 = (insE (pgE s (2 + (slK x.key : Int))) x).2.2 ∧
     ∀ q : Nat, q < 4 → pgE (setS s n 2 (slK x.key) x fs).2.2.1 (2 + (q : Int)) = if q = slK x.key then (insE (pgE s (2 + (slK x.key : Int))) x).2.1 else pgE s (2 + (q : Int))) := by
 obtain ⟨P, h⟩ := h
 have hj := slK_lt x.key
 obtain ⟨hb, hs⟩ := h.bkp hi hj
 unfold setS
 rw [if_neg (by rw [h.d]; decide)]
 by_cases hc : (insE (pgE s (2 + (slK x.key : Int))) x).1 ≠ 0
 · left
   rw [if_pos hc]
   exact ⟨hc, rfl⟩
 · right
   rw [if_neg hc]
   have hc0 := Classical.not_not.1 hc
   have hin := insE_ok hb hc0
   obtain ⟨h1, -⟩ := h.wr hi fs hpg hj hin.ok (fun y hy => by
     rcases hin.sub y hy with rfl | ⟨h1, h2⟩
     · rfl
     · exact hs y h1)
   rw [if_pos h1]
   refine ⟨h1, hc0, rfl, fun q hq => ?_⟩
   rcases wr_any (n := n) fs hpg h.d h.lo h.p hj hin.ok.w hin.ok.u with ⟨_, _, _, _, _, _, _, _, _, _, hb⟩ | ⟨g, _⟩ | ⟨g, _⟩
   · exact hb q hq
   · exact absurd h1 g
   · rw [h1] at g; exact absurd g (by decide)
theorem gets_back {s : Fl} {n : Int} {i : Nat} (h : KE s n i) (hi : i ≤ 200) (fs : List BF) (hpg : ∀ p ∈ s.safe, p.2.length = 256) (x : Entry) (h0 : (setS s n 2 (slK x.key) x fs).2.1 = 0) :
   lkE (pgE (setS s n 2 (slK x.key) x fs).2.2.1 (2 + (slK x.key : Int))) x.key = some x ∧
   ∀ y ∈ allP s 2 4, y.key ≠ x.key → (findI (setS s n 2 (slK x.key) x fs).1 y.key < 0 ∧ lkE (pgE (setS s n 2 (slK x.key) x fs).2.2.1 (2 + (slK y.key : Int))) y.key = some y) ∨
     (¬ findI (setS s n 2 (slK x.key) x fs).1 y.key < 0 ∧ lkE (pgE (setS s n 2 (slK x.key) x fs).2.2.1 (2 + (slK y.key : Int))) y.key = none) := by
 rcases set_cases h hi fs hpg x with ⟨g, _⟩ | ⟨-, hc, hg, hp⟩
 · exact absurd h0 g
 obtain ⟨hb, hs⟩ := h.bkp hi (slK_lt x.key)
 have hin := insE_ok hb hc
 rw [hp _ (slK_lt x.key), if_pos rfl, hg]
 constructor
 · obtain ⟨m, hm⟩ := hin.mem
   exact lkE_mem hin.ok.u (by rw [hm]; simp)
 · intro y hy hyk
   obtain ⟨q, hq, hyq⟩ := allP_mem hy
   obtain ⟨hbq, hsq⟩ := h.bkp hi hq
   have hsy : slK y.key = q := hsq y hyq
   rw [hp _ (slK_lt y.key), hsy]
   by_cases hqj : q = slK x.key
   · rw [if_pos hqj]
     rw [hqj] at hyq
     rcases hin.all y hyq hyk with h1 | h1
     · left
       exact ⟨findI_neg.2 fun z hz e => hin.not y h1 z hz e.symm, lkE_mem hin.ok.u h1⟩
     · right
       exact ⟨fun g => findI_neg.1 g y h1 rfl, lkE_not fun z hz e => hin.not z hz y h1 e⟩
   · rw [if_neg hqj]
     left
     refine ⟨findI_neg.2 fun z hz e => ?_, lkE_mem hbq.u hyq⟩
     have h1 := hs z (hin.gone z hz).1
     rw [e, hsy] at h1
     exact hqj h1
end
section
attribute [local go_sem] rowsBytes_bytesRows Option.map_some Int.cast_ofNat_Int getBox_GL setBox_GL fresh_GL sAV tAV newFl
theorem smallGets_ok (l : List Op13) (x : Entry) (hl : l.length < 2 ^ 40) (hll : ∀ o ∈ l, OpB o) (hx1 : x.key.length < 2 ^ 37) (hx2 : x.val.length < 2 ^ 37) : ACalls Tryz.prog 7 [.sl 8 (ops13 l), x.av] [GL] (Ret (.c (.bool true))) := by
 have hl6 := light06_ok [x] (by simp) (fun y hy => by rw [List.mem_singleton.1 hy]; exact ⟨hx1, hx2⟩)
 simp only [ents, List.map, Entry.cells] at hl6
 simp only [Entry.av, Entry.cells]
 refine calls_of_J cl_7 Tryz.func7 rfl (by simp [Tryz.ntmps7]) ?_
 refine jr (h := ?_)
 refine jcs (Δ1 := []) (Fr := [GL]) (hs := (light13_ok l hl hll)) (hp := (List.Perm.refl _)) (hk := ?_) (hpan := (by rintro x Δ' ⟨v, h, _⟩; cases h))
 rintro _ _ ⟨v, h, rfl, hv, hv0⟩
 cases h
 simp only [List.nil_append]
 rcases hv with rfl | rfl
 rotate_left
 · refine jr (h := ?_)
   refine jt (h := ?_)
   refine jr (h := ?_)
   refine jcg (hin := by simp [GL]) (hs := works13_ok) (hk := ?_)
   refine jr (h := ?_)
   refine J_forget ?_
   refine jret Tryz.func7 (h := ⟨rfl, rfl⟩)
 have hlen := hv0 rfl
 refine jr (h := ?_)
 refine jcs (Δ1 := []) (Fr := [GL]) (hs := hl6) (hp := (List.Perm.refl _)) (hk := ?_) (hpan := (by rintro x Δ' ⟨v, h, _⟩; cases h))
 rintro _ _ ⟨v, h, rfl, hv, -⟩
 cases h
 simp only [List.nil_append]
 rcases hv with rfl | rfl
 rotate_left
 · refine jr (h := ?_)
   refine jt (h := ?_)
   refine jr (h := ?_)
   refine jcg (hin := by simp [GL]) (hs := works13_ok) (hk := ?_)
   refine jr (h := ?_)
   refine J_forget ?_
   refine jret Tryz.func7 (h := ⟨rfl, rfl⟩)
 refine jr (h := ?_)
 refine jn (h := ?_)
 refine jr (h := ?_)
 refine jcs (Δ1 := [GL]) (Fr := []) (hs := open13_ok) (hp := (List.Perm.refl _)) (hk := ?_) (hpan := (by rintro x Δ' ⟨f, t, sm, fb, D, e, _⟩; cases e))
 rintro _ _ ⟨f, t, sm, fb, D, e, hO, rfl⟩
 cases e
 rw [List.append_nil]
 refine jr (h := ?_)
 refine jn (h := ?_)
 refine jr (h := ?_)
 refine J_wk (t := 46) (by simp only [go_sem] <;> rfl) (agg_le 1 rfl (nil_le_sl (s := 2))) ?_
 refine J_wk (t := 46) (by simp only [go_sem] <;> rfl) (agg_le 2 rfl (nil_le_sl (s := 3))) ?_
 refine jc (hs := ref10_new9) (hk := ?_)
 refine jr (own := [7]) (h := ?_)
 refine jnv (hh := fun b7 hb7 => ?_)
 refine jr (h := ?_)
 refine J_freeze (s := 7) (o := 0) (by simp only [go_sem]) ?_
 simp only [List.drop_zero]
 refine jr (h := ?_)
 refine jc (hs := ref13_new9) (hk := ?_)
 refine jr (own := [9]) (h := ?_)
 refine jnv (hh := fun b9 hb9 => ?_)
 refine jr (h := ?_)
 refine jk [0, 3, 5, 6, 9, 11] (h := ?_)
 refine J_loopI (I := fun m e Δ => ∃ (i : Nat) (a : SS) (c : List (Int × List UInt8)) (D1 : List HP), i ≤ l.length ∧ m = l.length - i ∧ Rel a.s c (5 * i) ∧ (1 ≤ a.n ∧ a.n ≤ 1099511627777) ∧ SI a.s a.fs ∧ KE a.s a.n i ∧ OwnF f a.s D1 ∧ Δ = .box b9 74 (sC a.s c a.n) :: smB sm t 2 fb 4 :: smF fb a.fs :: tbox t f a.n :: GL :: D1 ∧ e = [(0, .sl 8 (ops13 l)), (3, .fp [.c (.string (mkStr x.key)), .c (.int .i64 x.ver), .c (.int .i64 x.asof), .c (.int .i64 x.ends), .sl 1 (bytesRows x.val)]), (5, ptr t), (6, ptr sm), (9, .c (.pointer (some ⟨b9, 0, none⟩))), (11, .c (.int .i64 i))]) ?_ ?_
 · exact ⟨_, 0, ss0, [], D, Nat.zero_le _, rfl, ss0_rel, by decide, ss0_SI, KE.new, hO, rfl, rfl⟩
 · clear hO hb7 hb9
   rintro m e Δ ⟨i, a, c, D1, hi, rfl, hrel, hn, hS, hK, hO, rfl, rfl⟩ ih
   refine jf ops13_len (h := ?_)
   by_cases hc : i < l.length
   · have hdc : decide ((i : Int) < (l.length : Int)) = true := decide_eq_true (by omega)
     refine J_apart (b1 := sm) (b2 := fb) (List.perm_append_comm_assoc [_] [_, _] _) (fun h1 h1' => ?_)
     refine J_apart (b1 := sm) (b2 := t) ((List.Perm.swap _ _ _).trans (.cons _ (List.perm_append_comm_assoc [_, _] [_] _))) (fun h2 h2' => ?_)
     refine J_apart (b1 := fb) (b2 := t) (List.perm_append_comm_assoc [_, _] [_, _] _) (fun h3 h3' => ?_)
     refine jf (a2 ops13_len hdc) (h := ?_)
     refine jt (h := ?_)
     have g1 := ops13_get (List.getElem?_eq_getElem hc)
     have h0 : (0 : Int) ≤ (i : Int) := by omega
     have hob := hll l[i] (List.getElem_mem _)
     generalize l[i] = o at *
     by_cases hk : o.kind ≠ 4 ∧ o.kind ≠ 5
     · have hd1 : decide (o.kind ≠ 4) = true := decide_eq_true hk.1
       have hd2 : decide (o.kind ≠ 5) = true := decide_eq_true hk.2
       have hdo := do13_ok hO hrel (by omega) hn hS h1 h2 h3 o hob
       have hn2 := SS.step_n hn o
       have hS2 := hS.step (hrel.b.wf (by omega)) o
       have hK2 := hK.step (by omega) (hrel.b.wf (by omega)) o hk.1
       unfold Op13.cells at hdo
       generalize a.step o = az at *
       refine jf (a4 g1 ops13_len hd1 hd2) (h := ?_)
       refine jt (h := ?_)
       refine jr (h := ?_)
       refine jd [(0, .pure), (1, .pure), (2, .read), (3, .pure), (4, .pure), (5, .pure), (6, .pure), (7, .act), (8, .pure), (9, .pure), (10, .pure), (11, .act)] mixed (by kernel_rfl) ?_
       refine cf (a2 g1 ops13_len) (hk := ?_)
       refine ccs (Fr := []) (hs := (hdo.underL [_])) (hp := (by rw [List.append_nil]; rfl)) (hk := ?_) (hn := (by rintro x Δ' ⟨_, ⟨_, _, h, _⟩, _⟩; cases h))
       rintro x _ ⟨_, ⟨c2, D2, h, hrel2, hO2, rfl⟩, rfl⟩
       cases h
       rw [List.append_nil]
       simp only [List.cons_append, List.nil_append]
       refine cr (hk := ?_)
       refine Can_nil ?_
       refine jr (h := ?_)
       refine jk [0, 3, 5, 6, 9, 11] (h := ?_)
       refine ih _ _ _ ?_ ⟨i + 1, az, c2, D2, by omega, rfl, hrel2.mono (by omega), hn2, hS2, hK2, hO2, rfl, ?_⟩
       · omega
       · simp only [Int.natCast_add, Int.cast_ofNat_Int]
     · by_cases hk4 : o.kind = 4
       · have hd1 : decide (o.kind ≠ 4) = false := decide_eq_false (fun h => h hk4)
         refine jf (a3 g1 ops13_len hd1) (h := ?_)
         refine jn (h := ?_)
         refine jr (h := ?_)
         refine jk [0, 3, 5, 6, 9, 11] (h := ?_)
         refine ih _ _ _ ?_ ⟨i + 1, a, c, D1, by omega, rfl, hrel.mono (by omega), hn, hS, hK.mono (by omega), hO, rfl, ?_⟩
         · omega
         · simp only [Int.natCast_add, Int.cast_ofNat_Int]
       · have hd1 : decide (o.kind ≠ 4) = true := decide_eq_true hk4
         have hd2 : decide (o.kind ≠ 5) = false := decide_eq_false (fun h => hk ⟨hk4, h⟩)
         refine jf (a4 g1 ops13_len hd1 hd2) (h := ?_)
         refine jn (h := ?_)
         refine jr (h := ?_)
         refine jk [0, 3, 5, 6, 9, 11] (h := ?_)
         refine ih _ _ _ ?_ ⟨i + 1, a, c, D1, by omega, rfl, hrel.mono (by omega), hn, hS, hK.mono (by omega), hO, rfl, ?_⟩
         · omega
         · simp only [Int.natCast_add, Int.cast_ofNat_Int]
   · have hdc : decide ((i : Int) < (l.length : Int)) = false := decide_eq_false (by omega)
     refine J_drop ?_
     refine J_apart (b1 := sm) (b2 := fb) (List.Perm.refl _) (fun h1 h1' => ?_)
     refine J_apart (b1 := sm) (b2 := t) (.cons _ (List.Perm.swap _ _ _)) (fun h2 h2' => ?_)
     refine J_apart (b1 := fb) (b2 := t) ((List.Perm.swap _ _ _).trans (.cons _ (List.Perm.swap _ _ _))) (fun h3 h3' => ?_)
     refine jf (a2 ops13_len hdc) (h := ?_)
     refine jn (h := ?_)
     refine jr (h := ?_)
     have hwf := hrel.b.wf (by omega)
     have hpg := hwf.page
     have hwt := fun at_ b => (hrel.put a.n at_ 1 b).b.wf (by omega)
     have hup : ¬ a.s.down = true := by rw [hK.up]; decide
     have hk62 : x.key.length < 2 ^ 62 := by omega
     have hall := sall_ok (sm := sm) (t := t) (fb := fb) (n := a.n) (base := 2) (N := 4) hO hwf (by decide) (by decide) (by decide)
     simp only [if_neg hup] at hall
     have hset := sset_ok (sm := sm) (t := t) (f := f) (fb := fb) (N := 4) (i := slK x.key) (n := a.n) (base := 2) (x := x) hk62 hO hwf hwt (by omega) (by decide) hS.l4 rfl (by decide) (by decide) h1 h2 h3
     have hcs := set_cases hK (by omega) a.fs hpg x
     have hgb := gets_back hK (by omega) a.fs hpg x
     have hAw := allP_w hwf 2 4
     have hAl := allP_len hwf 2 4
     have hSx := hS.set hwf a.n (slK_lt x.key) x
     have hBx := (set_wc hrel 2 (slK x.key) x a.fs (n := a.n)).choose_spec.2.b
     have hKx : KE (setS a.s a.n 2 (slK x.key) x a.fs).2.2.1 (setS a.s a.n 2 (slK x.key) x a.fs).2.2.2.1 (i + 1) := hK.set (by omega) a.fs hpg x
     have hup2 : ¬ (setS a.s a.n 2 (slK x.key) x a.fs).2.2.1.down = true := by rw [hKx.up]; decide
     have hgl : (setS a.s a.n 2 (slK x.key) x a.fs).1.length < 2 ^ 62 := by
       have hpw := (pgE_w hwf (2 + (slK x.key : Int))).2.1
       have hrl := rmE_len (pgE a.s (2 + (slK x.key : Int))) x.key
       rcases hcs with ⟨_, g⟩ | ⟨_, hc, hg, _⟩
       · rw [g]; exact by simp
       · rw [hg, (insE_zero hc).2.2]
         simp only [List.length_take, List.length_append, List.length_cons, List.length_nil]; omega
     have hsa := sameAll_ok (allP a.s 2 4) (allP a.s 2 4) (by omega) (fun y hy => by have := (hAw y hy).b; omega)
     rw [decide_eq_true rfl] at hsa
     have hsx := same06_ok x x (by omega)
     rw [decide_eq_true rfl] at hsx
     simp only [Entry.av, Entry.cells] at hset hsx
     obtain ⟨AL, hAL⟩ : ∃ AL, allP a.s 2 4 = AL := ⟨_, rfl⟩
     rw [hAL] at hall hsa hAw hAl hgb
     refine jcs (Fr := [_]) (hs := hall) (hp := (permD _ _ _ _ _)) (hk := ?_) (hpan := (by rintro x Δ' ⟨⟨e, h, _⟩, _⟩; cases h))
     rintro _ _ ⟨⟨er, h, he⟩, rfl⟩
     cases h
     obtain rfl := iserr_zero he
     refine J_perm (permD _ _ _ _ _).symm ?_
     refine jr (h := ?_)
     by_cases hC : (setS a.s a.n 2 (slK x.key) x a.fs).2.1 = 0
     rotate_left
     · rcases hcs with ⟨_, g⟩ | ⟨g, _⟩
       rotate_left
       · exact absurd g hC
       generalize (setS a.s a.n 2 (slK x.key) x a.fs).2.1 = C at *
       rw [g] at hset
       simp only at hset
       have hnil : ents [] = [] := rfl
       rw [hnil] at hset
       refine jcs (Fr := []) (hs := hset) (hp := (by rw [List.append_nil])) (hk := ?_) (hpan := (by rintro x Δ' ⟨e, D1, h, _⟩; cases h))
       rintro _ _ ⟨er, D2, h, he, hO2, rfl⟩
       cases h
       rw [List.append_nil]
       obtain ⟨te, ve, rfl⟩ := iserr_ne he hC
       have hall2 := sall_ok (sm := sm) (t := t) (fb := fb) (n := a.n) (base := 2) (N := 4) hO2 hwf (by decide) (by decide) (by decide)
       simp only [if_neg hup] at hall2
       rw [hAL] at hall2
       refine jr (h := ?_)
       refine jt (h := ?_)
       refine jr (h := ?_)
       refine jcs (Fr := [_]) (hs := hall2) (hp := (permD _ _ _ _ _)) (hk := ?_) (hpan := (by rintro x Δ' ⟨⟨e, h, _⟩, _⟩; cases h))
       rintro _ _ ⟨⟨er2, h, he2⟩, rfl⟩
       cases h
       obtain rfl := iserr_zero he2
       refine J_perm (permD _ _ _ _ _).symm ?_
       refine jr (h := ?_)
       refine jc (hs := hsa) (hk := ?_)
       refine jq True.intro (h := ?_)
       refine jcg (hin := by simp [GL]) (hs := works13_ok) (hk := ?_)
       refine jr (h := ?_)
       refine J_forget ?_
       refine jret Tryz.func7 (h := ⟨rfl, rfl⟩)
     · obtain ⟨hb1, hb2⟩ := hgb hC
       clear hcs hgb
       generalize setS a.s a.n 2 (slK x.key) x a.fs = W at *
       obtain ⟨gone, C, s2, n2, fs2⟩ := W
       simp only at *
       subst hC
       refine jcs (Fr := []) (hs := hset) (hp := (by rw [List.append_nil])) (hk := ?_) (hpan := (by rintro x Δ' ⟨e, D1, h, _⟩; cases h))
       rintro _ _ ⟨er, D2, h, he, hO2, rfl⟩
       cases h
       rw [List.append_nil]
       obtain rfl := iserr_zero he
       have hwf2 := hBx.wf (by omega)
       have hget : ∀ k : List UInt8, k.length < 2 ^ 62 → ACalls Tryz.prog 43 [ptr sm, .c (.string (mkStr k))] (smB sm t 2 fb 4 :: smF fb fs2 :: tbox t f n2 :: GL :: D2) (fun r D' => (∃ e, r = .ret (.tup [gotAV (lkE (pgE s2 (2 + (slK k : Int))) k), .c (.bool (lkE (pgE s2 (2 + (slK k : Int))) k).isSome), e]) ∧ IsErr e 0) ∧ D' = smB sm t 2 fb 4 :: smF fb fs2 :: tbox t f n2 :: GL :: D2) := fun k hk => by
         have hf := hSx.fl (by simpa using hup2) (slK k) (slK_lt k)
         have hg := sget_ok (sm := sm) (t := t) (fb := fb) (fs := fs2) (i := slK k) (k := k) (N := 4) (base := 2) (n := n2) hk hO2 hwf2 (by decide) hSx.l4 rfl (by decide) h1 hf (hSx.ok _ (List.mem_of_getElem? hf))
         rw [getS_up hup2 2] at hg
         exact hg
       have hg := hget x.key hk62
       rw [hb1] at hg
       simp only [gotAV, Entry.av, Entry.cells, Option.isSome_some] at hg
       refine jr (h := ?_)
       refine jn (h := ?_)
       refine jr (h := ?_)
       refine jcs (Fr := []) (hs := hg) (hp := (by rw [List.append_nil])) (hk := ?_) (hpan := (by rintro x Δ' ⟨⟨e, h, _⟩, _⟩; cases h))
       rintro _ _ ⟨⟨er, h, he⟩, rfl⟩
       cases h
       rw [List.append_nil]
       obtain rfl := iserr_zero he
       refine jr (own := [18]) (h := ?_)
       refine jnv (hh := fun b18 hb18 => ?_)
       refine jm 1 (h := ?_)
       refine J_freeze (s := 18) (o := 0) (by simp only [go_sem]) ?_
       simp only [List.drop_zero]
       refine jr (h := ?_)
       refine jc (hs := hsx) (hk := ?_)
       refine jr (h := ?_)
       refine jn (h := ?_)
       refine jr (h := ?_)
       clear ih
       refine jk [3, 6, 12, 14, 21] (h := ?_)
       refine J_loopI (I := fun m e Δ => ∃ q : Nat, q ≤ AL.length ∧ m = AL.length - q ∧ Δ = smB sm t 2 fb 4 :: smF fb fs2 :: tbox t f n2 :: GL :: D2 ∧ e = [(3, .fp [.c (.string (mkStr x.key)), .c (.int .i64 x.ver), .c (.int .i64 x.asof), .c (.int .i64 x.ends), .sl 1 (bytesRows x.val)]), (6, ptr sm), (12, .sl 5 (ents AL)), (14, .sl 5 (ents gone)), (21, .c (.int .i64 q))]) ?_ ?_
       · exact ⟨_, 0, Nat.zero_le _, rfl, rfl, rfl⟩
       · rintro m e Δ ⟨q, hq, rfl, rfl, rfl⟩ ih
         refine jf ents_len (h := ?_)
         refine jif (h1 := fun hcq => ?_) (h2 := fun hcq => ?_)
         · have hqt : q < AL.length := by omega
           have g1 := ents_get (List.getElem?_eq_getElem hqt)
           have hq0 : (0 : Int) ≤ (q : Int) := by omega
           have hyw := hAw _ (List.getElem_mem hqt)
           have hym := List.getElem_mem hqt
           generalize AL[q] = y at *
           have hk2 := hyw.k2
           have hvb := hyw.b
           have hg := hget y.key (by omega)
           have hfd := find_ok gone y.key hgl
           by_cases hky : y.key = x.key
           · have hL : lkE (pgE s2 (2 + (slK y.key : Int))) y.key = some x := by rw [hky]; exact hb1
             have hkn : decide (y.key ≠ x.key) = false := decide_eq_false (fun h => h hky)
             rw [hL] at hg
             simp only [gotAV, Entry.av, Entry.cells, Option.isSome_some] at hg
             refine jf (a2 g1 ents_len) (h := ?_)
             refine jcs (Fr := []) (hs := hg) (hp := (by rw [List.append_nil])) (hk := ?_) (hpan := (by rintro x Δ' ⟨⟨e, h, _⟩, _⟩; cases h))
             rintro _ _ ⟨⟨er, h, he⟩, rfl⟩
             cases h
             rw [List.append_nil]
             obtain rfl := iserr_zero he
             refine jr (own := [22]) (h := ?_)
             refine jnv (hh := fun b22 hb22 => ?_)
             refine jm 1 (h := ?_)
             refine J_freeze (s := 22) (o := 0) (by simp only [go_sem]) ?_
             simp only [List.drop_zero]
             refine jr (h := ?_)
             refine jd [(0, .pure), (1, .pure), (2, .pure), (3, .pure), (4, .pure), (5, .pure), (6, .pure), (7, .pure), (8, .pure), (9, .pure), (10, .pure), (11, .pure), (12, .pure), (13, .pure), (14, .pure), (15, .pure), (16, .pure), (17, .pure), (18, .pure), (19, .pure), (20, .pure), (21, .pure), (22, .pure), (23, .pure), (24, .pure), (25, .pure), (26, .pure), (27, .pure), (28, .pure), (29, .pure), (30, .pure), (31, .pure), (32, .pure), (33, .pure), (34, .pure), (35, .pure), (36, .pure), (37, .pure), (38, .pure), (39, .pure), (40, .pure), (41, .pure), (42, .pure), (43, .pure), (44, .pure), (45, .pure)] mixed (by kernel_rfl) ?_
             refine cf (a3 g1 ents_len hkn) (hk := ?_)
             refine Can_nil ?_
             refine jn (h := ?_)
             refine jr (h := ?_)
             refine jk [3, 6, 12, 14, 21] (h := ?_)
             refine ih _ _ _ ?_ ⟨q + 1, hqt, rfl, rfl, ?_⟩
             · omega
             · simp only [Int.natCast_add, Int.cast_ofNat_Int]
           · have hkn : decide (y.key ≠ x.key) = true := decide_eq_true hky
             rcases hb2 y hym hky with ⟨hf1, hL⟩ | ⟨hf1, hL⟩
             · have hfn : decide (findI gone y.key < 0) = true := decide_eq_true hf1
               have hsy := same06_ok y y (by omega)
               rw [decide_eq_true rfl] at hsy
               rw [hL] at hg
               simp only [gotAV, Entry.av, Entry.cells, Option.isSome_some] at hg hsy
               refine jf (a2 g1 ents_len) (h := ?_)
               refine jcs (Fr := []) (hs := hg) (hp := (by rw [List.append_nil])) (hk := ?_) (hpan := (by rintro x Δ' ⟨⟨e, h, _⟩, _⟩; cases h))
               rintro _ _ ⟨⟨er, h, he⟩, rfl⟩
               cases h
               rw [List.append_nil]
               obtain rfl := iserr_zero he
               refine jr (own := [22]) (h := ?_)
               refine jnv (hh := fun b22 hb22 => ?_)
               refine jm 1 (h := ?_)
               refine J_freeze (s := 22) (o := 0) (by simp only [go_sem]) ?_
               simp only [List.drop_zero]
               refine jr (h := ?_)
               refine jd [(0, .pure), (1, .pure), (2, .pure), (3, .pure), (4, .pure), (5, .pure), (6, .pure), (7, .pure), (8, .pure), (9, .pure), (10, .pure), (11, .pure), (12, .pure), (13, .pure), (14, .pure), (15, .pure), (16, .pure), (17, .pure), (18, .pure), (19, .pure), (20, .pure), (21, .pure), (22, .pure), (23, .pure), (24, .pure), (25, .pure), (26, .pure), (27, .pure), (28, .pure), (29, .pure), (30, .pure), (31, .pure), (32, .pure), (33, .pure), (34, .pure), (35, .pure), (36, .pure), (37, .pure), (38, .pure), (39, .pure), (40, .pure), (41, .pure), (42, .pure), (43, .pure), (44, .pure), (45, .pure)] mixed (by kernel_rfl) ?_
               refine cf (a3 g1 ents_len hkn) (hk := ?_)
               refine ccp (hs := hfd) (hk := ?_)
               refine cq (a4 g1 ents_len hkn hfn) (hk := ?_)
               refine ccp (hs := hsy) (hk := ?_)
               refine cr (hk := ?_)
               refine Can_nil ?_
               refine jn (h := ?_)
               refine jr (h := ?_)
               refine jk [3, 6, 12, 14, 21] (h := ?_)
               refine ih _ _ _ ?_ ⟨q + 1, hqt, rfl, rfl, ?_⟩
               · omega
               · simp only [Int.natCast_add, Int.cast_ofNat_Int]
             · have hfn : decide (findI gone y.key < 0) = false := decide_eq_false hf1
               rw [hL] at hg
               simp only [gotAV, noE, Option.isSome_none] at hg
               refine jf (a2 g1 ents_len) (h := ?_)
               refine jcs (Fr := []) (hs := hg) (hp := (by rw [List.append_nil])) (hk := ?_) (hpan := (by rintro x Δ' ⟨⟨e, h, _⟩, _⟩; cases h))
               rintro _ _ ⟨⟨er, h, he⟩, rfl⟩
               cases h
               rw [List.append_nil]
               obtain rfl := iserr_zero he
               refine jr (own := [22]) (h := ?_)
               refine jnv (hh := fun b22 hb22 => ?_)
               refine jm 1 (h := ?_)
               refine J_freeze (s := 22) (o := 0) (by simp only [go_sem]) ?_
               simp only [List.drop_zero]
               refine jr (h := ?_)
               refine jd [(0, .pure), (1, .pure), (2, .pure), (3, .pure), (4, .pure), (5, .pure), (6, .pure), (7, .pure), (8, .pure), (9, .pure), (10, .pure), (11, .pure), (12, .pure), (13, .pure), (14, .pure), (15, .pure), (16, .pure), (17, .pure), (18, .pure), (19, .pure), (20, .pure), (21, .pure), (22, .pure), (23, .pure), (24, .pure), (25, .pure), (26, .pure), (27, .pure), (28, .pure), (29, .pure), (30, .pure), (31, .pure), (32, .pure), (33, .pure), (34, .pure), (35, .pure), (36, .pure), (37, .pure), (38, .pure), (39, .pure), (40, .pure), (41, .pure), (42, .pure), (43, .pure), (44, .pure), (45, .pure)] mixed (by kernel_rfl) ?_
               refine cf (a3 g1 ents_len hkn) (hk := ?_)
               refine ccp (hs := hfd) (hk := ?_)
               refine cq (a4 g1 ents_len hkn hfn) (hk := ?_)
               refine Can_nil ?_
               refine jn (h := ?_)
               refine jr (h := ?_)
               refine jk [3, 6, 12, 14, 21] (h := ?_)
               refine ih _ _ _ ?_ ⟨q + 1, hqt, rfl, rfl, ?_⟩
               · omega
               · simp only [Int.natCast_add, Int.cast_ofNat_Int]
         · refine jr (h := ?_)
           refine jcg (hin := by simp [GL]) (hs := works13_ok) (hk := ?_)
           refine jr (h := ?_)
           refine J_forget ?_
           refine jret Tryz.func7 (h := ⟨rfl, rfl⟩)
end
end Go.Proofs.YtjppajaoekbkpaaGreatDoor
