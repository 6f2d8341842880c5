/- A part of the proof: what the calls do, told by values. -/
import Derived.Test.YtjppajaoekbkpaaGreatDoorB7
import Derived.Test.YtjppajaoekbkpaaGreatDoorB5
import Derived.Test.YtjppajaoekbkpaaGreatDoorA8
set_option linter.unusedVariables false
set_option linter.unusedSimpArgs false
set_option maxRecDepth 100000
set_option maxHeartbeats 4000000
namespace Go.Proofs.YtjppajaoekbkpaaGreatDoor
open Go Go.Av
attribute [local go_sem] packed List.set_cons_zero List.set_cons_succ List.cons_append List.nil_append bytesRows_length cellRows_len chRows_len rCells intRows_len
attribute [-go_sem] cellsOf AV.isCell
attribute [local go_sem] cellsOf_agg cellsOf_int cellsOf_bool cellsOf_str cellsOf_map cellsOf_ptr cellsOf_nilI cellsOf_slice cellsOf_sl cellsOf_ifc cellsOf_fp cellsOf_opt optAV_cell icell_int icell_bool icell_str icell_map icell_ptr icell_nilI icell_slice icell_sl icell_ifc icell_fp
attribute [local go_sem] Entry.av Entry.cells rowsBytes_bytesRows Option.map_some Int.cast_ofNat_Int getBox_GL setBox_GL fresh_GL
section
theorem _root_.Go.Av.ACalls.under7 {f : FuncId} {args : List AV} {D : List HP} {R : APost} (a b c d e p q : HP) (h : ACalls Tryz.prog f args D R) : ACalls Tryz.prog f args (a :: b :: c :: d :: e :: p :: q :: D) (fun r Δ' => ∃ D', R r D' ∧ Δ' = a :: b :: c :: d :: e :: p :: q :: D') := h.underL [a, b, c, d, e, p, q]
abbrev smB (s t : Nat) (base : Int) (fb N : Nat) : HP := .box s 178 [ptr t, .c (.int .i64 base), .c (.slice (some ⟨fb, 0, none⟩) N N)]
def bfRows (fs : List BF) : List (List AV) := fs.map fun f => [.c (.int .u64 (f.1 : Int)), .c (.int .u64 (f.2 : Int))]
theorem bfRows_len (fs : List BF) : (bfRows fs).length = fs.length := by simp [bfRows]
theorem bfRows_row (fs : List BF) : ∀ r ∈ bfRows fs, r.length = 2 := by
 intro r hr; obtain ⟨k, -, rfl⟩ := List.mem_map.1 hr; rfl
theorem bfRows_set (fs : List BF) (i : Nat) (f : BF) : bfRows (fs.set i f) = (bfRows fs).set i [.c (.int .u64 (f.1 : Int)), .c (.int .u64 (f.2 : Int))] := by
 unfold bfRows; rw [List.map_set]
theorem bfCells_len (fs : List BF) : (bfRows fs).flatten.length = fs.length * 2 := by rw [flat_len (bfRows_row fs), bfRows_len]
theorem bf_put {fs : List BF} {i : Nat} (hi : i < fs.length) (f : BF) : (bfRows fs).flatten.take (i * 2) ++ [.c (.int .u64 (f.1 : Int)), .c (.int .u64 (f.2 : Int))] ++ (bfRows fs).flatten.drop (i * 2 + 2) = (bfRows (fs.set i f)).flatten := by
 have h := set_row (s := 2) (sp := []) (x := [AV.c (.int .u64 (f.1 : Int)), AV.c (.int .u64 (f.2 : Int))]) (bfRows_row fs) (i := i) (by rw [bfRows_len]; exact hi) rfl
 simp only [List.append_nil] at h
 rw [bfRows_set]
 exact h
abbrev smF (fb : Nat) (fs : List BF) : HP := .box fb 181 (bfRows fs).flatten
def pgE (s : Fl) (at_ : Int) : List Entry := if tgetC s at_ 1 ≠ 0 then [] else (bktR (txtB (lookB s at_))).2
theorem page_ok {sm t f fb N : Nat} {n base : Int} {s : Fl} {D : List HP} (h : OwnF f s D) (hw : s.WF) (i : Nat) (hb : 0 ≤ base ∧ base ≤ 4096) (hi : i ≤ 4096) :
   ACalls Tryz.prog 95 [ptr sm, .c (.int .i64 (i : Int))] (smB sm t base fb N :: tbox t f n :: GL :: D)
     (fun r D' => (∃ e, r = .ret (.tup [.sl 5 (ents (if s.down = true then [] else pgE s (base + i))), e]) ∧ IsErr e (if s.down = true then 11 else 0)) ∧ D' = smB sm t base fb N :: tbox t f n :: GL :: D) := by
 have hg := tget_ok (t := t) (n := n) h hw (base + i) 1
 have hlen : (txtB (lookB s (base + i))).length < 2 ^ 30 := by
   have := look_len hw (base + i)
   unfold txtB; rw [List.length_take, List.length_drop]; omega
 have hbr := bread_ok _ hlen
 have hup := tgetC_up (s := s) (at_ := base + i) (kd := 1)
 have hdn := tgetC_down (s := s) (at_ := base + i) (kd := 1)
 have hp : pgE s (base + i) = if tgetC s (base + i) 1 ≠ 0 then [] else (bktR (txtB (lookB s (base + i)))).2 := rfl
 rw [hp]
 clear hp hlen
 generalize tgetC s (base + i) 1 = c at *
 generalize lookB s (base + i) = LB at *
 have hrl : (bktR (txtB LB)).1 ≠ 0 → (bktR (txtB LB)).2 = [] := by
   unfold bktR
   split
   · exact fun _ => rfl
   · split
     · exact fun h => absurd rfl h
     · exact fun _ => rfl
 generalize bktR (txtB LB) = R at *
 obtain ⟨rc, rl⟩ := R
 simp only at *
 unfold leafAV at hg
 by_cases hc : c = 0
 · have hdf : s.down = false := by
     rcases Bool.eq_false_or_eq_true s.down with hd | hd
     · have := hdn hd; omega
     · exact hd
   have hd1 : ¬ s.down = true := by rw [hdf]; decide
   rw [if_neg hd1, if_neg hd1, if_neg (fun h => h hc)]
   have hg0 := hg.mono (R' := fun r D' => r = .ret (.tup [.agg [.c (.int .i64 (stampsB LB).1), .c (.int .i64 (kdB LB)), .sl 1 (bytesRows (txtB LB))], .c .nilIface]) ∧ D' = tbox t f n :: D) (fun r D' h => ⟨h.1 hc, h.2.2⟩)
   clear hg
   refine jen cl_95 Tryz.func95 (h := ?_)
   refine jr (h := ?_)
   refine jd [(0, .pure), (1, .pure), (2, .pure), (3, .read), (4, .pure), (5, .pure), (6, .pure), (7, .read), (8, .pure), (9, .pure), (10, .read), (11, .pure), (12, .pure), (13, .pure), (14, .new), (15, .act), (16, .pure)] mixed (by kernel_rfl) ?_
   refine cr (hk := ?_)
   refine ccr (hs := (hg0.around (Fr := [_, GL]) ((List.Perm.swap _ _ _).trans (.cons _ (List.perm_append_comm (l₁ := [_, GL])))))) (hk := ?_)
   refine cr (hk := ?_)
   refine cnv (hk := fun b6 hb6 => ?_)
   simp only [fresh, fresh_GL] at hb6
   refine cf hb6 (hk := ?_)
   refine Can_nil ?_
   all_goals
     refine jr (h := ?_)
     refine jn (h := ?_)
     refine jf hb6 (h := ?_)
     refine jcs (Δ1 := [GL]) (Fr := _ :: _ :: _ :: D) (hs := hbr) (hp := (List.perm_middle (l₁ := [_, _, _]))) (hk := ?_) (hpan := (by rintro x Δ' ⟨⟨e, h, _⟩, _⟩; cases h))
     rintro x _ ⟨⟨er, h, he⟩, rfl⟩
     cases h
     refine J_perm (List.perm_middle (l₁ := [_, _, _])).symm ?_
     simp only [List.cons_append, List.nil_append]
     by_cases hrc : rc = 0
     · subst hrc
       obtain rfl := iserr_zero he
       refine jr (h := ?_)
       refine jn (h := ?_)
       refine jr (h := ?_)
       refine J_forgetP ?_
       refine jret Tryz.func95 (h := ⟨[_], _, List.Perm.refl _, ⟨_, rfl, .none⟩, rfl⟩)
     · rw [hrl hrc]
       obtain ⟨te, ve, rfl⟩ := iserr_ne he hrc
       refine jr (h := ?_)
       refine jt (h := ?_)
       refine jr (h := ?_)
       refine J_wk (t := 4) (by simp only [go_sem]) (nil_le_sl (s := 5)) ?_
       refine J_forgetP ?_
       refine jret Tryz.func95 (h := ⟨[_], _, List.Perm.refl _, ⟨_, rfl, .none⟩, rfl⟩)
 · rw [if_pos hc]
   have hgn := hg.mono (R' := fun r D' => (∃ e, r = .ret (.tup [.agg [.c (.int .i64 0), .c (.int .i64 0), .c (.slice none 0 0)], e]) ∧ IsErr e c) ∧ D' = tbox t f n :: D) (fun r D' h => ⟨h.2.1 hc, h.2.2⟩)
   clear hg
   have hnil : (if s.down = true then ([] : List Entry) else []) = [] := by split <;> rfl
   rw [hnil]
   refine jen cl_95 Tryz.func95 (h := ?_)
   refine jr (h := ?_)
   refine jd2 10 14 [(0, .pure), (1, .pure), (2, .pure), (3, .read), (4, .pure), (5, .pure), (6, .pure), (7, .read), (8, .pure), (9, .pure), (10, .act), (11, .pure), (12, .pure), (13, .pure), (14, .new), (15, .act), (16, .pure)] [(0, .pure), (1, .pure), (2, .pure), (3, .read), (4, .pure), (5, .pure), (6, .pure), (7, .read), (8, .pure), (9, .pure), (14, .new), (10, .act), (11, .pure), (12, .pure), (13, .pure), (15, .act), (16, .pure)] mixed (by kernel_rfl) ?_ ?_
   refine cr (hk := ?_)
   refine ccs (Fr := []) (hs := (hgn.keepAll (Δ := smB sm t base fb N :: tbox t f n :: GL :: D) (Fr := [_, GL]) ((List.Perm.swap _ _ _).trans (.cons _ (List.perm_append_comm (l₁ := [_, GL])))))) (hp := (by rw [List.append_nil])) (hk := ?_) (hn := (by rintro x Δ' ⟨⟨e, h, _⟩, _⟩; cases h))
   rintro x _ ⟨⟨er, h, he⟩, rfl⟩
   cases h
   rw [List.append_nil]
   refine cr (hk := ?_)
   refine cnv (hk := fun b6 hb6 => ?_)
   simp only [fresh, fresh_GL] at hb6
   refine cf hb6 (hk := ?_)
   refine Can_nil ?_
   refine jk [0, 1, 4, 5, 6, 7] (h := ?_)
   rotate_left
   refine cr (hk := ?_)
   refine cnv (hk := fun b6 hb6 => ?_)
   simp only [fresh, fresh_GL] at hb6
   refine cf hb6 (hk := ?_)
   refine ccs (Fr := []) (hs := (hgn.keepAll (Δ := _ :: smB sm t base fb N :: tbox t f n :: GL :: D) (Fr := [_, _, GL]) ((List.perm_middle (l₁ := [_, _])).trans (.cons _ (List.perm_append_comm (l₁ := [_, _, GL])))))) (hp := (by rw [List.append_nil])) (hk := ?_) (hn := (by rintro x Δ' ⟨⟨e, h, _⟩, _⟩; cases h))
   rintro x _ ⟨⟨er, h, he⟩, rfl⟩
   cases h
   rw [List.append_nil]
   refine cf hb6 (hk := ?_)
   refine Can_nil ?_
   refine jk [0, 1, 4, 5, 6, 7] (h := ?_)
   all_goals
     have hh := has_ok he 11
     obtain ⟨te, ve, rfl⟩ := iserr_ne he hc
     refine jr (h := ?_)
     refine jt (h := ?_)
     refine jr (h := ?_)
     refine jc (hs := hh) (hk := ?_)
     refine jr (h := ?_)
     by_cases h11 : c = 11
     · have hd : decide (c ≠ 0 ∧ c = 11) = true := decide_eq_true ⟨hc, h11⟩
       have hdd : s.down = true := by
         rcases Bool.eq_false_or_eq_true s.down with hd | hd
         · exact hd
         · exact absurd h11 (hup hd)
       rw [hd, if_pos hdd]
       refine jt (h := ?_)
       refine jr (h := ?_)
       refine J_wk (t := 4) (by simp only [go_sem]) (nil_le_sl (s := 5)) ?_
       refine J_forgetP ?_
       refine jret Tryz.func95 (h := ⟨[_], _, List.Perm.refl _, ⟨_, rfl, h11 ▸ he⟩, rfl⟩)
     · have hd : decide (c ≠ 0 ∧ c = 11) = false := decide_eq_false (fun h => h11 h.2)
       have hdd : ¬ s.down = true := fun h => h11 (hdn h)
       rw [hd, if_neg hdd]
       refine jn (h := ?_)
       refine jr (h := ?_)
       refine J_wk (t := 4) (by simp only [go_sem]) (nil_le_sl (s := 5)) ?_
       refine J_forgetP ?_
       refine jret Tryz.func95 (h := ⟨[_], _, List.Perm.refl _, ⟨_, rfl, .none⟩, rfl⟩)
end
section
theorem write1_ok {sm t fb N b6 : Nat} {base : Int} {fs : List BF} {l : List Entry} {i : Nat} {er : AV} {C : Int} (he : IsErr er C) (hw : ∀ y ∈ l, EntW y) (hl : l.length < 2 ^ 20) (hN : fs.length = N) (hi : i < N) (hNN : N ≤ 4096) (hne : sm ≠ fb) (hn6 : b6 ≠ fb) (hn7 : b6 ≠ sm) :
   ADefers Tryz.prog 153 [ptr b6, .fp [.sl 5 (ents l)], .fp [ptr sm], .fp [.c (.int .i64 (i : Int))]] [.box b6 27 [er], smB sm t base fb N, smF fb fs]
     (fun r D' => r = .ret (.tup []) ∧ D' = [.box b6 27 [er], smB sm t base fb N, smF fb (if C = 0 then fs.set i (ofF (keysE l)) else fs)]) := by
 have hf := bfilter_ok l (fun y hy => by have := (hw y hy).k2; omega) (by omega)
 have hcl := bfCells_len fs
 have hput := bf_put (fs := fs) (i := i) (by omega) (ofF (keysE l))
 generalize ofF (keysE l) = g at *
 refine defers_of_J cl_153 Tryz.func153 rfl (by simp [Tryz.ntmps153]) ?_
 by_cases hC : C = 0
 · subst hC
   obtain rfl := iserr_zero he
   rw [if_pos rfl]
   refine jr (h := ?_)
   refine jt (h := ?_)
   refine jf (cB hn6 hn7 hne) (h := ?_)
   refine jd [(0, .pure), (1, .pure), (2, .pure), (3, .read), (4, .pure), (5, .pure), (6, .pure), (7, .pure), (8, .act)] mixed (by kernel_rfl) ?_
   refine cf (cB hn6 hn7 hne) (hk := ?_)
   refine ccp (hs := hf) (hk := ?_)
   refine cf (cD hn6 hn7 hne hcl hput) (hk := ?_)
   refine Can_nil ?_
   exact JL_end Tryz.func153 (X := .tup []) (by rfl) ⟨rfl, rfl⟩
 · obtain ⟨te, ve, rfl⟩ := iserr_ne he hC
   rw [if_neg hC]
   refine jr (h := ?_)
   refine jn (h := ?_)
   refine jr (h := ?_)
   exact JL_end Tryz.func153 (X := .tup []) (by rfl) ⟨rfl, rfl⟩
theorem swrite_ok {sm t f fb N i : Nat} {n base : Int} {s : Fl} {D : List HP} {fs : List BF} {l : List Entry} (h : OwnF f s D) (hw : s.WF) (hw2 : (tputS s n (base + i) 1 (allB l)).WF) (hn : n < 4611686018427387904) (hb : 0 ≤ base ∧ base ≤ 4096) (hN : fs.length = N) (hi : i < N) (hNN : N ≤ 4096) (hne : sm ≠ fb) (hsm : sm ≠ t) (hfb : fb ≠ t) (hlw : ∀ y ∈ l, EntW y) (hl : l.length < 2 ^ 20) (hal : (allB l).length < 2 ^ 37) :
   ACalls Tryz.prog 98 [ptr sm, .c (.int .i64 (i : Int)), .sl 5 (ents l)] (smB sm t base fb N :: smF fb fs :: tbox t f n :: D)
     (fun r D' => ∃ e D1, r = .ret e ∧ IsErr e (tfirmC s n (base + i) 1 (allB l)) ∧ OwnF f (tfirmS s n (base + i) 1 (allB l)) D1 ∧
       D' = smB sm t base fb N :: smF fb (if tfirmC s n (base + i) 1 (allB l) = 0 then fs.set i (ofF (keysE l)) else fs) :: tbox t f (tputN s n (base + i) 1 (allB l)) :: D1) := by
 have hall := iall_ok l hlw hl
 have hfm := tfirm_ok (t := t) (base + i) 1 (allB l) h hw hw2 hn hal
 generalize allB l = bb at *
 generalize tfirmC s n (base + i) 1 bb = C at *
 generalize tfirmS s n (base + i) 1 bb = S at *
 generalize tputN s n (base + i) 1 bb = n2 at *
 refine jen cl_98 Tryz.func98 (h := ?_)
 refine jr (own := [6]) (h := ?_)
 refine jnv (hh := fun b6 hb6 => ?_)
 simp only [fresh] at hb6
 refine jf hb6 (h := ?_)
 refine J_defer (xs := [.c (.pointer (some ⟨b6, 0, none⟩)), .fp [.sl 5 (ents l)], .fp [ptr sm], .fp [.c (.int .i64 (i : Int))]]) (by rfl) rfl (by rfl) rfl (by simp only [go_sem] <;> rfl) ?_
 rintro vs hlen
 obtain ⟨v1, v2, v3, v4, rfl⟩ : ∃ v1 v2 v3 v4, vs = [v1, v2, v3, v4] := by
   match vs, hlen with
   | [a, b, c, d], _ => exact ⟨a, b, c, d, rfl⟩
 simp only [isAll, List.cons_append, List.nil_append]
 refine jr (h := ?_)
 refine jd [(0, .pure), (1, .pure), (2, .pure), (3, .read), (4, .pure), (5, .pure), (6, .pure), (7, .read), (8, .pure), (9, .pure), (10, .pure), (11, .pure), (12, .act), (13, .act)] mixed (by kernel_rfl) ?_
 refine cf hb6 (hk := ?_)
 refine ccp (hs := hall) (hk := ?_)
 refine cf hb6 (hk := ?_)
 refine ccs (Fr := []) (hs := (hfm.under7 _ _ _ _ _ _ _)) (hp := (by rw [List.append_nil])) (hk := ?_) (hn := (by rintro x Δ' ⟨_, ⟨e, D1, h, _⟩, _⟩; cases h))
 rintro x _ ⟨_, ⟨er, D1, h, he, -, hO1, rfl⟩, rfl⟩
 cases h
 rw [List.append_nil]
 have hw1 := write1_ok (t := t) (base := base) he hlw hl hN hi hNN hne hb6.2.2.2.1 hb6.2.1
 by_cases hC : C = 0
 rotate_left
 · obtain ⟨te, ve, rfl⟩ := iserr_ne he hC
   refine cf hb6 (hk := ?_)
   refine Can_nil ?_
   refine J_forgetP ?_
   refine JO_ret (vs := [v1, v2, v3, v4]) (xs := [.c (.pointer (some ⟨b6, 0, none⟩)), .fp [.sl 5 (ents l)], .fp [ptr sm], .fp [.c (.int .i64 (i : Int))]]) (Δ := .box b6 27 [.ifc te ve] :: smB sm t base fb N :: smF fb fs :: tbox t f n2 :: D1) (Fr := tbox t f n2 :: D1) Tryz.func98 rfl hw1 (List.Perm.refl _) (by rintro x Δ' ⟨h, _⟩; cases h) ?_
   rintro y _ ⟨-, rfl⟩
   exact ⟨.ifc te ve, by simp only [go_sem, List.cons_append, List.nil_append] <;> rfl, [_], _, List.Perm.refl _, _, D1, rfl, he, hO1, rfl⟩
 · subst hC
   obtain rfl := iserr_zero he
   refine cf hb6 (hk := ?_)
   refine Can_nil ?_
   refine J_forgetP ?_
   refine JO_ret (vs := [v1, v2, v3, v4]) (xs := [.c (.pointer (some ⟨b6, 0, none⟩)), .fp [.sl 5 (ents l)], .fp [ptr sm], .fp [.c (.int .i64 (i : Int))]]) (Δ := .box b6 27 [.c .nilIface] :: smB sm t base fb N :: smF fb fs :: tbox t f n2 :: D1) (Fr := tbox t f n2 :: D1) Tryz.func98 rfl hw1 (List.Perm.refl _) (by rintro x Δ' ⟨h, _⟩; cases h) ?_
   rintro y _ ⟨-, rfl⟩
   exact ⟨.c .nilIface, by simp only [go_sem, List.cons_append, List.nil_append] <;> rfl, [_], _, List.Perm.refl _, _, D1, rfl, he, hO1, rfl⟩
end
section
def slotE (h : Int) (n : Nat) : Nat := h.toNat % n
theorem slotE_lt {h : Int} {n : Nat} (hn : 0 < n) : slotE h n < n := Nat.mod_lt _ hn
theorem bslot_ok (h : Int) (hh : In64 h) (n : Nat) (h0 : 0 < n) (hn : n ≤ 4096) : ACalls Tryz.prog 100 [.c (.int .u64 h), .c (.int .i64 (n : Int))] [] (Ret (.c (.int .i64 (slotE h n : Int)))) := by
 obtain ⟨h1, h2⟩ := hh
 obtain ⟨m, rfl⟩ : ∃ m : Nat, h = m := ⟨h.toNat, by omega⟩
 have hs : slotE (m : Int) n = m % n := by unfold slotE; simp
 have hlt : m % n < n := Nat.mod_lt _ h0
 have hc : ((m : Int) % (n : Int)) = ((m % n : Nat) : Int) := (Int.natCast_emod m n).symm
 rw [hs]
 have q0 : ¬ (n : Int) < 1 := by omega
 refine jen cl_100 Tryz.func100 (h := ?_)
 refine jr (h := ?_)
 refine jif (h1 := fun hc => absurd hc (by exact q0)) (h2 := fun _ => ?_)
 refine jf hc (h := ?_)
 refine J_forget ?_
 refine jret Tryz.func100 (h := ⟨rfl, rfl⟩)
theorem rslot_ok (h : Int) (hh : In64 h) (n : Nat) (h0 : 0 < n) (hn : n ≤ 4096) : ACalls Tryz.prog 101 [.c (.int .u64 h), .c (.int .i64 (n : Int))] [] (Ret (.c (.int .i64 (slotE h n : Int)))) := by
 obtain ⟨h1, h2⟩ := hh
 obtain ⟨m, rfl⟩ : ∃ m : Nat, h = m := ⟨h.toNat, by omega⟩
 have hs : slotE (m : Int) n = m % n := by unfold slotE; simp
 have hlt : m % n < n := Nat.mod_lt _ h0
 have hc : ((m : Int) % (n : Int)) = ((m % n : Nat) : Int) := (Int.natCast_emod m n).symm
 rw [hs]
 have q0 : ¬ (n : Int) < 1 := by omega
 refine jen cl_101 Tryz.func101 (h := ?_)
 refine jr (h := ?_)
 refine jif (h1 := fun hc => absurd hc (by exact q0)) (h2 := fun _ => ?_)
 refine jf hc (h := ?_)
 refine J_forget ?_
 refine jret Tryz.func101 (h := ⟨rfl, rfl⟩)
theorem hash_in (k : List UInt8) : In64 (hash64 k) := by unfold hash64 mix64; exact fold64_in _
theorem sbucket_ok {sm t fb N : Nat} {base : Int} {k : List UInt8} (hk : k.length < 2 ^ 62) (h0 : 0 < N) (hN : N ≤ 4096) :
   ACalls Tryz.prog 47 [ptr sm, .c (.string (mkStr k))] [smB sm t base fb N] (fun r D' => r = .ret (.c (.int .i64 (slotE (hash64 k) N : Int))) ∧ D' = [smB sm t base fb N]) := by
 have hb := bhash_ok k hk
 have hs := bslot_ok (hash64 k) (hash_in k) N h0 hN
 generalize hash64 k = h at *
 generalize slotE h N = i at *
 refine jen cl_47 Tryz.func47 (h := ?_)
 refine jr (h := ?_)
 refine jd [(0, .pure), (1, .pure), (2, .pure), (3, .pure), (4, .pure), (5, .read), (6, .pure), (7, .pure), (8, .pure)] mixed (by kernel_rfl) ?_
 refine cr (hk := ?_)
 refine ccp (hs := hb) (hk := ?_)
 refine cr (hk := ?_)
 refine ccp (hs := hs) (hk := ?_)
 refine cr (hk := ?_)
 refine Can_nil ?_
 refine J_forgetP ?_
 refine jret Tryz.func47 (h := ⟨[], _, List.Perm.refl _, rfl, rfl⟩)
theorem bfRows_get {fs : List BF} {i : Nat} {f : BF} (h : fs[i]? = some f) : (bfRows fs)[i]? = some [.c (.int .u64 (f.1 : Int)), .c (.int .u64 (f.2 : Int))] := by simp [bfRows, h]
theorem bf_cells {fs : List BF} {i : Nat} {f : BF} (h : fs[i]? = some f) : (bfRows fs).flatten.drop (i * 2) = [.c (.int .u64 (f.1 : Int)), .c (.int .u64 (f.2 : Int))] ++ ((bfRows fs).drop (i + 1)).flatten := by
 have hh := get_row (s := 2) (sp := []) (bfRows_row fs) (bfRows_get h)
 simpa using hh
theorem smay_aux {sm t fb N i : Nat} {base h : Int} {k : List UInt8} {fs : List BF} {f : BF} {o : Bool} (hi : i < N) (hN : fs.length = N) (hNN : N ≤ 4096) (hne : sm ≠ fb) (hf : fs[i]? = some f)
   (hb : ACalls Tryz.prog 92 [.c (.string (mkStr k))] [] (Ret (.c (.int .u64 h))))
   (hs2 : ACalls Tryz.prog 47 [ptr sm, .c (.string (mkStr k))] [smB sm t base fb N, smF fb fs] (fun r D' => r = .ret (.c (.int .i64 (i : Int))) ∧ D' = [smB sm t base fb N, smF fb fs]))
   (hm : ACalls Tryz.prog 132 [bfAV f, .c (.int .u64 h)] [] (Ret (.c (.bool o)))) :
   ACalls Tryz.prog 84 [ptr sm, .c (.string (mkStr k))] [smB sm t base fb N, smF fb fs] (fun r D' => r = .ret (.c (.bool o)) ∧ D' = [smB sm t base fb N, smF fb fs]) := by
 have hcl := bfCells_len fs
 have hr := bf_cells hf
 have hrw := bfRows_get hf
 refine jen cl_84 Tryz.func84 (h := ?_)
 refine jr (h := ?_)
 refine jd [(0, .pure), (1, .pure), (2, .pure), (3, .read), (4, .pure), (5, .pure), (6, .read), (7, .pure), (8, .read), (9, .pure), (10, .pure), (11, .pure), (12, .pure)] mixed (by kernel_rfl) ?_
 refine cr (hk := ?_)
 refine ccr (hs := hs2) (hk := ?_)
 refine cf (cB hne hcl hr) (hk := ?_)
 refine ccp (hs := hb) (hk := ?_)
 refine cr (hk := ?_)
 refine ccp (hs := hm) (hk := ?_)
 refine cr (hk := ?_)
 refine Can_nil ?_
 refine J_forgetP ?_
 refine jret Tryz.func84 (h := ⟨[], _, List.Perm.refl _, rfl, rfl⟩)
theorem smay_ok {sm t fb N i : Nat} {base : Int} {k : List UInt8} {fs : List BF} {f : BF} (hk : k.length < 2 ^ 62) (hN : fs.length = N) (hNN : N ≤ 4096) (hne : sm ≠ fb) (hi : slotE (hash64 k) N = i) (hf : fs[i]? = some f) (hok : BFok f) :
   ACalls Tryz.prog 84 [ptr sm, .c (.string (mkStr k))] [smB sm t base fb N, smF fb fs] (fun r D' => r = .ret (.c (.bool (mayF f (hash64 k)))) ∧ D' = [smB sm t base fb N, smF fb fs]) := by
 have hlt : i < N := by have := (List.getElem?_eq_some_iff.1 hf).1; omega
 have hs := sbucket_ok (sm := sm) (t := t) (fb := fb) (base := base) hk (by omega : 0 < N) hNN
 rw [hi] at hs
 exact smay_aux hlt hN hNN hne hf (bhash_ok k hk) (hs.around (Δ := [smB sm t base fb N, smF fb fs]) (Fr := [smF fb fs]) (List.Perm.refl _)) (bmay_ok f hok (hash64 k) (hash_in k))
end
section
theorem txt_le {s : Fl} (hw : s.WF) (at_ : Int) : (txtB (lookB s at_)).length ≤ 256 := by
 have := look_len hw at_
 unfold txtB; rw [List.length_take, List.length_drop]; omega
theorem bktR_w (b : List UInt8) : (∀ x ∈ (bktR b).2, EntW x) ∧ (bktR b).2.length ≤ b.length ∧ uniqE (bktR b).2 = true := by
 have h := readE_w b
 unfold bktR
 split
 · exact ⟨by simp, by simp, rfl⟩
 · split
   · rename_i hu; exact ⟨h.1, h.2, hu⟩
   · exact ⟨by simp, by simp, rfl⟩
theorem pgE_w {s : Fl} (hw : s.WF) (at_ : Int) : (∀ x ∈ pgE s at_, EntW x) ∧ (pgE s at_).length ≤ 256 ∧ uniqE (pgE s at_) = true := by
 unfold pgE
 split
 · exact ⟨by simp, by simp, rfl⟩
 · have h := bktR_w (txtB (lookB s at_)); have := txt_le hw at_
   exact ⟨h.1, by omega, h.2.2⟩
theorem numB_bd {x : Entry} (h : EntW x) : (entB x).length ≤ 8192 := by
 have := entB_len h
 omega
theorem allB_bd : ∀ {l : List Entry}, (∀ x ∈ l, EntW x) → (allB l).length ≤ 8192 * l.length
 | [], _ => by simp [allB]
 | x :: l, h => by
   have h1 := numB_bd (h x (List.mem_cons_self ..))
   have h2 := allB_bd (l := l) (fun y hy => h y (List.mem_cons_of_mem _ hy))
   have e : allB (x :: l) = entB x ++ allB l := by simp [allB]
   rw [e, List.length_append, List.length_cons]; omega
theorem perm4 (a b c g : HP) (D : List HP) : (a :: b :: c :: g :: D).Perm ((a :: b :: c :: D) ++ [g]) :=
 (((List.perm_append_comm (l₁ := [g]) (l₂ := D)).cons c).cons b).cons a
def wrS (s : Fl) (n : Int) (base : Int) (i : Nat) (l : List Entry) (fs : List BF) : Int × Fl × Int × List BF :=
 (tfirmC s n (base + i) 1 (allB l), tfirmS s n (base + i) 1 (allB l), tputN s n (base + i) 1 (allB l), if tfirmC s n (base + i) 1 (allB l) = 0 then fs.set i (ofF (keysE l)) else fs)
theorem swriteG_ok {sm t f fb N i : Nat} {n base : Int} {s : Fl} {D : List HP} {fs : List BF} {l : List Entry} (h : OwnF f s D) (hw : s.WF) (hw2 : ∀ at_ b, (tputS s n at_ 1 b).WF) (hn : n < 4611686018427387904) (hb : 0 ≤ base ∧ base ≤ 4096) (hN : fs.length = N) (hi : i < N) (hNN : N ≤ 4096) (hne : sm ≠ fb) (hsm : sm ≠ t) (hfb : fb ≠ t) (hlw : ∀ y ∈ l, EntW y) (hl : l.length ≤ 1024) :
   ACalls Tryz.prog 98 [ptr sm, .c (.int .i64 (i : Int)), .sl 5 (ents l)] (smB sm t base fb N :: smF fb fs :: tbox t f n :: D)
     (fun r D' => ∃ e D1, r = .ret e ∧ IsErr e (wrS s n base i l fs).1 ∧ OwnF f (wrS s n base i l fs).2.1 D1 ∧ D' = smB sm t base fb N :: smF fb (wrS s n base i l fs).2.2.2 :: tbox t f (wrS s n base i l fs).2.2.1 :: D1) := by
 have := allB_bd hlw
 exact swrite_ok h hw (hw2 _ _) hn hb hN hi hNN hne hsm hfb hlw (by omega) (by omega)
def rmS (s : Fl) (n : Int) (base : Int) (i : Nat) (k : List UInt8) (fs : List BF) : Bool × Int × Fl × Int × List BF :=
 if s.down = true then (false, 11, s, n, fs) else if findI (pgE s (base + i)) k < 0 then (false, 0, s, n, fs)
 else (decide ((wrS s n base i (rmE (pgE s (base + i)) k) fs).1 = 0), wrS s n base i (rmE (pgE s (base + i)) k) fs)
theorem sremove_ok {sm t f fb N i : Nat} {n base : Int} {s : Fl} {D : List HP} {fs : List BF} {k : List UInt8} (hk : k.length < 2 ^ 62) (h : OwnF f s D) (hw : s.WF) (hw2 : ∀ at_ b, (tputS s n at_ 1 b).WF) (hn : n < 4611686018427387904) (hb : 0 ≤ base ∧ base ≤ 4096) (hN : fs.length = N) (hi : slotE (hash64 k) N = i) (h0 : 0 < N) (hNN : N ≤ 4096) (hne : sm ≠ fb) (hsm : sm ≠ t) (hfb : fb ≠ t) :
   ACalls Tryz.prog 83 [ptr sm, .c (.string (mkStr k))] (smB sm t base fb N :: smF fb fs :: tbox t f n :: GL :: D)
     (fun r D' => ∃ e D1, r = .ret (.tup [.c (.bool (rmS s n base i k fs).1), e]) ∧ IsErr e (rmS s n base i k fs).2.1 ∧ OwnF f (rmS s n base i k fs).2.2.1 D1 ∧
       D' = smB sm t base fb N :: smF fb (rmS s n base i k fs).2.2.2.2 :: tbox t f (rmS s n base i k fs).2.2.2.1 :: GL :: D1) := by
 have hlt : i < N := hi ▸ slotE_lt h0
 have hs := sbucket_ok (sm := sm) (t := t) (fb := fb) (base := base) hk h0 hNN
 rw [hi] at hs
 have hs2 := hs.around (Δ := smB sm t base fb N :: smF fb fs :: tbox t f n :: GL :: D) (Fr := smF fb fs :: tbox t f n :: GL :: D) (List.Perm.refl _)
 have hpg := page_ok (sm := sm) (t := t) (n := n) (base := base) (fb := fb) (N := N) h hw i hb (by omega)
 have hpw := pgE_w hw (base + i)
 have hrl := rmE_len (pgE s (base + i)) k
 have hwr := swriteG_ok (sm := sm) (t := t) (fb := fb) (fs := fs) (l := rmE (pgE s (base + i)) k) h hw hw2 hn hb hN hlt hNN hne hsm hfb (fun y hy => hpw.1 y (rmE_mem hy)) (by omega)
 have hrm := bremove_ok (pgE s (base + i)) k (by omega)
 unfold rmS
 generalize wrS s n base i (rmE (pgE s (base + i)) k) fs = W at *
 generalize rmE (pgE s (base + i)) k = l2 at *
 generalize pgE s (base + i) = l at *
 obtain ⟨C, S, n2, fs2⟩ := W
 simp only at *
 clear hs hi hrl
 refine jen cl_83 Tryz.func83 (h := ?_)
 refine jr (h := ?_)
 refine jcr (hs := hs2) (hk := ?_)
 refine jr (h := ?_)
 refine jcs (Fr := [smF fb fs]) (hs := hpg) (hp := ((List.perm_middle (l₁ := [smB sm t base fb N])).trans ((List.perm_append_comm (l₁ := [smF fb fs]))))) (hk := ?_) (hpan := (by rintro x Δ' ⟨⟨e, h, _⟩, _⟩; cases h))
 rintro x _ ⟨⟨er, hx, he⟩, rfl⟩
 cases hx
 refine J_perm (((List.perm_middle (l₁ := [smB sm t base fb N])).trans ((List.perm_append_comm (l₁ := [smF fb fs])))).symm) ?_
 by_cases hd : s.down = true
 · rw [if_pos hd] at he
   simp only [if_pos hd]
   obtain ⟨te, ve, rfl⟩ := iserr_ne he (by decide)
   refine jr (h := ?_)
   refine jt (h := ?_)
   refine jr (h := ?_)
   refine jcs (Δ1 := []) (Fr := _ :: _ :: _ :: _ :: D) (hs := (wrapS_ok _ _ he)) (hp := (List.Perm.refl _)) (hk := ?_) (hpan := (by rintro x Δ' ⟨⟨e, h, _⟩, _⟩; cases h))
   rintro z _ ⟨⟨er2, hx, he2⟩, rfl⟩
   cases hx
   refine jr (h := ?_)
   refine jret Tryz.func83 (h := ⟨_, D, rfl, he2, h, rfl⟩)
 · rw [if_neg hd] at he
   simp only [if_neg hd]
   obtain rfl := iserr_zero he
   refine jr (h := ?_)
   refine jn (h := ?_)
   refine jr (h := ?_)
   refine jc (hs := hrm) (hk := ?_)
   refine jr (h := ?_)
   by_cases hf : findI l k < 0
   · have hdd : decide (0 ≤ findI l k) = false := decide_eq_false (by omega)
     rw [hdd]
     simp only [if_pos hf]
     refine jr (h := ?_)
     refine jt (h := ?_)
     refine jr (h := ?_)
     refine jret Tryz.func83 (h := ⟨_, D, rfl, .none, h, rfl⟩)
   · have hdd : decide (0 ≤ findI l k) = true := decide_eq_true (by omega)
     rw [hdd]
     simp only [if_neg hf]
     refine jr (h := ?_)
     refine jn (h := ?_)
     refine jr (h := ?_)
     refine jcs (Fr := [GL]) (hs := hwr) (hp := (perm4 _ _ _ _ _)) (hk := ?_) (hpan := (by rintro x Δ' ⟨e, D1, h, _⟩; cases h))
     rintro x _ ⟨er, D1, hx, he1, hO1, rfl⟩
     cases hx
     refine J_perm (perm4 _ _ _ _ _).symm ?_
     by_cases hC : C = 0
     · subst hC
       obtain rfl := iserr_zero he1
       refine jr (h := ?_)
       refine jn (h := ?_)
       refine jr (h := ?_)
       refine jret Tryz.func83 (h := ⟨_, D1, rfl, .none, hO1, rfl⟩)
     · obtain ⟨te, ve, rfl⟩ := iserr_ne he1 hC
       have hCC : decide (C = 0) = false := decide_eq_false hC
       rw [hCC]
       refine jr (h := ?_)
       refine jt (h := ?_)
       refine jr (h := ?_)
       refine jcs (Δ1 := []) (Fr := _ :: _ :: _ :: _ :: D1) (hs := (wrapS_ok _ _ he1)) (hp := (List.Perm.refl _)) (hk := ?_) (hpan := (by rintro x Δ' ⟨⟨e, h, _⟩, _⟩; cases h))
       rintro z _ ⟨⟨er2, hx, he2⟩, rfl⟩
       cases hx
       refine jr (h := ?_)
       refine jret Tryz.func83 (h := ⟨_, D1, rfl, he2, hO1, rfl⟩)
end
section
theorem permA (x a b : HP) (c : List HP) : (x :: a :: b :: c).Perm ((a :: c) ++ [x, b]) :=
 (List.Perm.swap _ _ _).trans (List.Perm.cons a (List.perm_append_comm (l₁ := [x, b]) (l₂ := c)))
theorem permB (x a b c g : HP) (D : List HP) : (x :: a :: b :: c :: g :: D).Perm ((a :: b :: c :: D) ++ [x, g]) :=
 (List.perm_middle (l₁ := [a, b, c])).symm.trans (((List.perm_append_comm (l₁ := [x, g]) (l₂ := D)).cons c).cons b |>.cons a)
def setS (s : Fl) (n : Int) (base : Int) (i : Nat) (x : Entry) (fs : List BF) : List Entry × Int × Fl × Int × List BF :=
 if s.down = true then ([], 11, s, n, fs) else if (insE (pgE s (base + i)) x).1 ≠ 0 then ([], (insE (pgE s (base + i)) x).1, s, n, fs)
 else (if (wrS s n base i (insE (pgE s (base + i)) x).2.1 fs).1 = 0 then (insE (pgE s (base + i)) x).2.2 else [], wrS s n base i (insE (pgE s (base + i)) x).2.1 fs)
theorem insE_w {l : List Entry} {x : Entry} (hw : ∀ y ∈ l, EntW y) : (∀ y ∈ (insE l x).2.1, EntW y) ∧ (insE l x).2.1.length ≤ l.length + 1 := by
 unfold insE
 split
 · simp
 · rename_i hc
   have hx : EntW x := (entW_iff x).1 (by false_or_by_contra; rename_i h; exact hc h)
   split
   · simp
   · have := rmE_len l x.key
     refine ⟨fun y hy => ?_, ?_⟩
     · have hm := List.mem_of_mem_drop hy
       rcases List.mem_append.1 hm with h | h
       · exact hw y (rmE_mem h)
       · rw [List.mem_singleton.1 h]; exact hx
     · simp only [List.length_drop, List.length_append, List.length_cons, List.length_nil]; omega
theorem sset_ok {sm t f fb N i : Nat} {n base : Int} {s : Fl} {D : List HP} {fs : List BF} {x : Entry} (hk : x.key.length < 2 ^ 62) (h : OwnF f s D) (hw : s.WF) (hw2 : ∀ at_ b, (tputS s n at_ 1 b).WF) (hn : n < 4611686018427387904) (hb : 0 ≤ base ∧ base ≤ 4096) (hN : fs.length = N) (hi : slotE (hash64 x.key) N = i) (h0 : 0 < N) (hNN : N ≤ 4096) (hne : sm ≠ fb) (hsm : sm ≠ t) (hfb : fb ≠ t) :
   ACalls Tryz.prog 42 [ptr sm, x.av] (smB sm t base fb N :: smF fb fs :: tbox t f n :: GL :: D)
     (fun r D' => ∃ e D1, r = .ret (.tup [.sl 5 (ents (setS s n base i x fs).1), e]) ∧ IsErr e (setS s n base i x fs).2.1 ∧ OwnF f (setS s n base i x fs).2.2.1 D1 ∧
       D' = smB sm t base fb N :: smF fb (setS s n base i x fs).2.2.2.2 :: tbox t f (setS s n base i x fs).2.2.2.1 :: GL :: D1) := by
 have hlt : i < N := hi ▸ slotE_lt h0
 have hs := sbucket_ok (sm := sm) (t := t) (fb := fb) (base := base) hk h0 hNN
 rw [hi] at hs
 have hs2 := fun bx => hs.around (Δ := bx :: smB sm t base fb N :: smF fb fs :: tbox t f n :: GL :: D) (Fr := bx :: smF fb fs :: tbox t f n :: GL :: D) (List.Perm.swap _ _ _)
 have hpg := page_ok (sm := sm) (t := t) (n := n) (base := base) (fb := fb) (N := N) h hw i hb (by omega)
 have hpw := pgE_w hw (base + i)
 have hiw := insE_w (x := x) hpw.1
 have hwr := swriteG_ok (sm := sm) (t := t) (fb := fb) (fs := fs) (l := (insE (pgE s (base + i)) x).2.1) h hw hw2 hn hb hN hlt hNN hne hsm hfb hiw.1 (by omega)
 have hins := insert_ok (pgE s (base + i)) x hpw.1 (by omega)
 unfold setS
 generalize wrS s n base i (insE (pgE s (base + i)) x).2.1 fs = W at *
 generalize insE (pgE s (base + i)) x = I at *
 generalize pgE s (base + i) = l at *
 obtain ⟨C, S, n2, fs2⟩ := W
 obtain ⟨ic, il, ig⟩ := I
 simp only at *
 clear hs hi hiw
 refine jen cl_42 Tryz.func42 (h := ?_)
 refine jr (own := [3]) (h := ?_)
 refine jnb (hh := fun b3 hb3 => ?_)
 simp only [fresh, fresh_GL] at hb3
 refine jf hb3 (h := ?_)
 refine jcr (hs := (hs2 _)) (hk := ?_)
 refine jr (h := ?_)
 refine jcs (Fr := [_, smF fb fs]) (hs := hpg) (hp := (permA _ _ _ _)) (hk := ?_) (hpan := (by rintro x Δ' ⟨⟨e, h, _⟩, _⟩; cases h))
 rintro y _ ⟨⟨er, hx, he⟩, rfl⟩
 cases hx
 refine J_perm (permA _ _ _ _).symm ?_
 by_cases hd : s.down = true
 · rw [if_pos hd] at he
   simp only [if_pos hd]
   obtain ⟨te, ve, rfl⟩ := iserr_ne he (by decide)
   refine jr (h := ?_)
   refine jt (h := ?_)
   refine jr (h := ?_)
   refine jcs (Δ1 := []) (Fr := _ :: _ :: _ :: _ :: _ :: D) (hs := (wrapS_ok _ _ he)) (hp := (List.Perm.refl _)) (hk := ?_) (hpan := (by rintro x Δ' ⟨⟨e, h, _⟩, _⟩; cases h))
   rintro z _ ⟨⟨er2, hx, he2⟩, rfl⟩
   cases hx
   refine jr (h := ?_)
   refine J_wk (t := 4) (by simp only [go_sem]) (nil_le_sl (s := 5)) ?_
   refine J_forgetP ?_
   refine jret Tryz.func42 (h := ⟨[_], _, List.Perm.refl _, _, D, rfl, he2, h, rfl⟩)
 · rw [if_neg hd] at he
   simp only [if_neg hd]
   obtain rfl := iserr_zero he
   refine jr (h := ?_)
   refine jn (h := ?_)
   refine jf hb3 (h := ?_)
   refine jcs (Δ1 := []) (Fr := _ :: _ :: _ :: _ :: _ :: D) (hs := hins) (hp := (List.Perm.refl _)) (hk := ?_) (hpan := (by rintro x Δ' ⟨⟨e, h, _⟩, _⟩; cases h))
   rintro z _ ⟨⟨er2, hx, he2⟩, rfl⟩
   cases hx
   by_cases hf : ic ≠ 0
   · obtain ⟨te, ve, rfl⟩ := iserr_ne he2 hf
     simp only [if_pos hf]
     refine jr (h := ?_)
     refine jt (h := ?_)
     refine jr (h := ?_)
     refine jcs (Δ1 := []) (Fr := _ :: _ :: _ :: _ :: _ :: D) (hs := (wrapS_ok _ _ he2)) (hp := (List.Perm.refl _)) (hk := ?_) (hpan := (by rintro x Δ' ⟨⟨e, h, _⟩, _⟩; cases h))
     rintro z _ ⟨⟨er3, hx, he3⟩, rfl⟩
     cases hx
     refine jr (h := ?_)
     refine J_wk (t := 4) (by simp only [go_sem]) (nil_le_sl (s := 5)) ?_
     refine J_forgetP ?_
     refine jret Tryz.func42 (h := ⟨[_], _, List.Perm.refl _, _, D, rfl, he3, h, rfl⟩)
   · obtain rfl : ic = 0 := by false_or_by_contra; rename_i h; exact hf h
     obtain rfl := iserr_zero he2
     simp only [if_neg hf]
     refine jr (h := ?_)
     refine jn (h := ?_)
     refine jr (h := ?_)
     refine jcs (Fr := [_, GL]) (hs := hwr) (hp := (permB _ _ _ _ _ _)) (hk := ?_) (hpan := (by rintro x Δ' ⟨e, D1, h, _⟩; cases h))
     rintro z _ ⟨er, D1, hx, he1, hO1, rfl⟩
     cases hx
     refine J_perm (permB _ _ _ _ _ _).symm ?_
     by_cases hC : C = 0
     · subst hC
       obtain rfl := iserr_zero he1
       simp only [if_true]
       refine jr (h := ?_)
       refine jn (h := ?_)
       refine jr (h := ?_)
       refine J_forgetP ?_
       refine jret Tryz.func42 (h := ⟨[_], _, List.Perm.refl _, _, D1, rfl, .none, hO1, rfl⟩)
     · obtain ⟨te, ve, rfl⟩ := iserr_ne he1 hC
       simp only [if_neg hC]
       refine jr (h := ?_)
       refine jt (h := ?_)
       refine jr (h := ?_)
       refine jcs (Δ1 := []) (Fr := _ :: _ :: _ :: _ :: _ :: D1) (hs := (wrapS_ok _ _ he1)) (hp := (List.Perm.refl _)) (hk := ?_) (hpan := (by rintro x Δ' ⟨⟨e, h, _⟩, _⟩; cases h))
       rintro z _ ⟨⟨er2, hx, he2⟩, rfl⟩
       cases hx
       refine jr (h := ?_)
       refine J_wk (t := 4) (by simp only [go_sem]) (nil_le_sl (s := 5)) ?_
       refine J_forgetP ?_
       refine jret Tryz.func42 (h := ⟨[_], _, List.Perm.refl _, _, D1, rfl, he2, hO1, rfl⟩)
end
section
def noE : AV := .agg [.c (.string (mkStr [])), .c (.int .i64 0), .c (.int .i64 0), .c (.int .i64 0), .c (.slice none 0 0)]
def gotAV : Option Entry → AV
 | some x => x.av
 | none => noE
theorem permC (x a b : HP) (c : List HP) : (x :: a :: b :: c).Perm ([a, b] ++ (x :: c)) := (List.perm_middle (l₁ := [a, b])).symm
def lkE (l : List Entry) (k : List UInt8) : Option Entry := l.find? fun x => decide (x.key = k)
theorem lkE_none {l : List Entry} {k : List UInt8} (h : findI l k < 0) : lkE l k = none := by
 unfold findI findE at h
 unfold lkE
 rw [List.find?_eq_none]
 cases hq : l.findIdx? (fun x => decide (x.key = k)) with
 | none => rw [List.findIdx?_eq_none_iff] at hq; intro x hx; simp [hq x hx]
 | some i => rw [hq] at h; simp only at h; omega
theorem lkE_some {l : List Entry} {k : List UInt8} (h : ¬ findI l k < 0) : ∃ (j : Nat) (x : Entry), findI l k = j ∧ l[j]? = some x ∧ lkE l k = some x := by
 unfold findI findE at h ⊢
 unfold lkE
 cases hq : l.findIdx? (fun x => decide (x.key = k)) with
 | none => rw [hq] at h; simp only at h; omega
 | some i =>
   obtain ⟨hi, hp, hlt⟩ := List.findIdx?_eq_some_iff_getElem.1 hq
   refine ⟨i, l[i], rfl, List.getElem?_eq_getElem hi, ?_⟩
   rw [List.find?_eq_some_iff_getElem]
   exact ⟨hp, i, hi, rfl, fun j hj => by simpa using hlt j hj⟩
def getS (s : Fl) (base : Int) (i : Nat) (k : List UInt8) (m : Bool) : Option Entry × Int :=
 if m = false then (none, 0) else if s.down = true then (none, 11) else (lkE (pgE s (base + i)) k, 0)
theorem sget_ok {sm t f fb N i : Nat} {n base : Int} {s : Fl} {D : List HP} {fs : List BF} {k : List UInt8} {fl : BF} (hk : k.length < 2 ^ 62) (h : OwnF f s D) (hw : s.WF) (hb : 0 ≤ base ∧ base ≤ 4096) (hN : fs.length = N) (hi : slotE (hash64 k) N = i) (hNN : N ≤ 4096) (hne : sm ≠ fb) (hf : fs[i]? = some fl) (hok : BFok fl) :
   ACalls Tryz.prog 43 [ptr sm, .c (.string (mkStr k))] (smB sm t base fb N :: smF fb fs :: tbox t f n :: GL :: D)
     (fun r D' => (∃ e, r = .ret (.tup [gotAV (getS s base i k (mayF fl (hash64 k))).1, .c (.bool (getS s base i k (mayF fl (hash64 k))).1.isSome), e]) ∧ IsErr e (getS s base i k (mayF fl (hash64 k))).2) ∧
       D' = smB sm t base fb N :: smF fb fs :: tbox t f n :: GL :: D) := by
 have hlt : i < N := by have := (List.getElem?_eq_some_iff.1 hf).1; omega
 have hs := sbucket_ok (sm := sm) (t := t) (fb := fb) (base := base) hk (by omega : 0 < N) hNN
 rw [hi] at hs
 have hs2 := fun bx => hs.around (Δ := bx :: smB sm t base fb N :: smF fb fs :: tbox t f n :: GL :: D) (Fr := bx :: smF fb fs :: tbox t f n :: GL :: D) (List.Perm.swap _ _ _)
 have hm := smay_ok (sm := sm) (t := t) (base := base) hk hN hNN hne hi hf hok
 have hm2 := fun bx => hm.around (Δ := bx :: smB sm t base fb N :: smF fb fs :: tbox t f n :: GL :: D) (Fr := bx :: tbox t f n :: GL :: D) (permC _ _ _ _)
 have hpg := page_ok (sm := sm) (t := t) (n := n) (base := base) (fb := fb) (N := N) h hw i hb (by omega)
 have hpw := pgE_w hw (base + i)
 have hfi := bfind_ok (pgE s (base + i)) k (by omega)
 unfold getS
 clear hs hm hi hf
 generalize mayF fl (hash64 k) = m at *
 generalize pgE s (base + i) = l at *
 refine jen cl_43 Tryz.func43 (h := ?_)
 refine jr (own := [4]) (h := ?_)
 refine jnv (hh := fun b4 hb4 => ?_)
 simp only [fresh, fresh_GL] at hb4
 refine jf hb4 (h := ?_)
 refine jcr (hs := (hm2 _)) (hk := ?_)
 refine jr (h := ?_)
 by_cases hmm : m = false
 · subst hmm
   simp only [if_true]
   refine jr (h := ?_)
   refine jt (h := ?_)
   refine jf hb4 (h := ?_)
   refine J_forgetP ?_
   refine jret Tryz.func43 (h := ⟨[_], _, List.Perm.refl _, ⟨_, rfl, .none⟩, rfl⟩)
 · obtain rfl : m = true := by cases m; exact absurd rfl hmm; rfl
   simp only [if_neg hmm]
   refine jr (h := ?_)
   refine jn (h := ?_)
   refine jf hb4 (h := ?_)
   refine jcr (hs := (hs2 _)) (hk := ?_)
   refine jf hb4 (h := ?_)
   refine jcs (Fr := [_, smF fb fs]) (hs := hpg) (hp := (permA _ _ _ _)) (hk := ?_) (hpan := (by rintro x Δ' ⟨⟨e, h, _⟩, _⟩; cases h))
   rintro y _ ⟨⟨er, hx, he⟩, rfl⟩
   cases hx
   refine J_perm (permA _ _ _ _).symm ?_
   by_cases hd : s.down = true
   · rw [if_pos hd] at he
     simp only [if_pos hd]
     obtain ⟨te, ve, rfl⟩ := iserr_ne he (by decide)
     refine jr (h := ?_)
     refine jt (h := ?_)
     refine jf hb4 (h := ?_)
     refine jcr (hs := (hs2 _)) (hk := ?_)
     refine jf hb4 (h := ?_)
     refine jcs (Δ1 := []) (Fr := _ :: _ :: _ :: _ :: _ :: D) (hs := (wrapS_ok _ _ he)) (hp := (List.Perm.refl _)) (hk := ?_) (hpan := (by rintro x Δ' ⟨⟨e, h, _⟩, _⟩; cases h))
     rintro z _ ⟨⟨er2, hx, he2⟩, rfl⟩
     cases hx
     refine jf hb4 (h := ?_)
     refine J_forgetP ?_
     refine jret Tryz.func43 (h := ⟨[_], _, List.Perm.refl _, ⟨_, rfl, he2⟩, rfl⟩)
   · rw [if_neg hd] at he
     simp only [if_neg hd]
     obtain rfl := iserr_zero he
     refine jr (h := ?_)
     refine jn (h := ?_)
     refine jf hb4 (h := ?_)
     refine jc (hs := hfi) (hk := ?_)
     refine jr (h := ?_)
     by_cases hneg : findI l k < 0
     · rw [lkE_none hneg]
       refine jif (h1 := fun _ => ?_) (h2 := fun hc => absurd (by exact hneg) hc)
       refine jf hb4 (h := ?_)
       refine J_forgetP ?_
       refine jret Tryz.func43 (h := ⟨[_], _, List.Perm.refl _, ⟨_, rfl, .none⟩, rfl⟩)
     · obtain ⟨j, x, hj, hx, hl⟩ := lkE_some hneg
       have hlj : j < l.length := (List.getElem?_eq_some_iff.1 hx).1
       have hel := ents_len l
       have heg := ents_get hx
       rw [hl, hj]
       rw [hj] at hneg
       refine jif (h1 := fun hc => absurd hc (by exact hneg)) (h2 := fun _ => ?_)
       refine jf (cB hb4 heg hel) (h := ?_)
       refine J_forgetP ?_
       refine jret Tryz.func43 (h := ⟨[_], _, List.Perm.refl _, ⟨_, rfl, .none⟩, rfl⟩)
end
end Go.Proofs.YtjppajaoekbkpaaGreatDoor
namespace Go.Proofs.YtjppajaoekbkpaaGreatDoor
open Go Go.Av
attribute [local go_sem] packed List.set_cons_zero List.set_cons_succ List.cons_append List.nil_append bytesRows_length cellRows_len chRows_len rCells intRows_len
attribute [-go_sem] cellsOf AV.isCell
attribute [local go_sem] cellsOf_agg cellsOf_int cellsOf_bool cellsOf_str cellsOf_map cellsOf_ptr cellsOf_nilI cellsOf_slice cellsOf_sl cellsOf_ifc cellsOf_fp cellsOf_opt optAV_cell icell_int icell_bool icell_str icell_map icell_ptr icell_nilI icell_slice icell_sl icell_ifc icell_fp
section
def pgL (b : List UInt8) : List Entry := if getC b = 0 ∧ kdB b = 1 then (bktR (txtB b)).2 else []
theorem pgE_look {s : Fl} (hd : s.down = false) {at_ : Int} (hr : 0 ≤ at_ ∧ at_ < s.pages) : pgE s at_ = pgL (lookB s at_) := by
 have hc : checkF s at_ = 0 := by unfold checkF; rw [hd, if_neg (by simp), if_neg (by omega)]
 have hT : tgetC s at_ 1 = if getC (lookB s at_) ≠ 0 then getC (lookB s at_) else if (kdB (lookB s at_) : Int) ≠ 1 then 12 else 0 := by
   unfold tgetC; rw [hc]; exact if_neg (by simp)
 unfold pgE pgL
 by_cases h1 : getC (lookB s at_) = 0
 · rw [if_neg (by simp [h1])] at hT
   by_cases h2 : kdB (lookB s at_) = 1
   · have h3 : ¬ ((kdB (lookB s at_) : Int) ≠ 1) := by omega
     rw [if_neg h3] at hT
     rw [if_neg (by rw [hT]; simp), if_pos ⟨h1, h2⟩]
   · have h3 : (kdB (lookB s at_) : Int) ≠ 1 := by omega
     rw [if_pos h3] at hT
     rw [if_pos (by rw [hT]; decide), if_neg (fun h => h2 h.2)]
 · rw [if_pos h1] at hT
   rw [if_pos (by rw [hT]; exact h1), if_neg (fun h => h1 h.1)]
structure BkOK (l : List Entry) : Prop where
 w : ∀ y ∈ l, EntW y
 u : uniqE l = true
 r : (allB l).length ≤ 233
theorem pgL_put {n : Nat} {l : List Entry} (h1 : 1 ≤ n ∧ n ≤ 1099511627776) (h : BkOK l) : pgL (putB n 1 (allB l)) = l := by
 unfold pgL
 rw [put_getC _ _ _ h1.1 h1.2 (by decide) (by decide) h.r, put_kd _ _ _ (by decide), put_txt _ _ _ h.r, if_pos ⟨rfl, rfl⟩]
 unfold bktR
 rw [readE_back h.w]
 simp [h.u]
theorem getC_z : getC z256 = 9 := by decide +kernel
theorem pgL_z : pgL z256 = [] := by
 unfold pgL; rw [if_neg (fun h => by rw [getC_z] at h; exact absurd h.1 (by decide))]
theorem BkOK.nil : BkOK [] := ⟨by simp, by decide, by simp [allB]⟩
theorem allB_sub {l m : List Entry} (h : l.Sublist m) : (allB l).length ≤ (allB m).length := by
 unfold allB
 induction h with
 | slnil => simp
 | cons a h ih => simp only [List.flatMap_cons, List.length_append]; omega
 | cons_cons a h ih => simp only [List.flatMap_cons, List.length_append]; omega
theorem BkOK.sub {l m : List Entry} (h : l.Sublist m) (hm : BkOK m) : BkOK l :=
 ⟨fun y hy => hm.w y (h.subset hy), by
   have := hm.u
   unfold uniqE at this ⊢
   rw [decide_eq_true_eq] at this ⊢
   exact List.Sublist.nodup (h.map _) this, Nat.le_trans (allB_sub h) hm.r⟩
theorem rmE_sub (l : List Entry) (k : List UInt8) : (rmE l k).Sublist l := by
 unfold rmE
 split
 · exact List.eraseIdx_sublist _ _
 · exact List.Sublist.refl _
theorem insK_room : ∀ l : List Entry, (allB (l.drop (insK l))).length ≤ 233
 | [] => by simp [insK, allB]
 | x :: l => by
   unfold insK
   split
   · rw [List.drop_succ_cons]; exact insK_room l
   · rename_i h; rw [List.drop_zero]; omega
theorem insK_last {l : List Entry} {x : Entry} (hx : ¬ 233 < (entB x).length) : insK (l ++ [x]) ≤ l.length := by
 induction l with
 | nil => simp only [List.nil_append, insK]; rw [if_neg (by simpa [allB] using hx)]; exact Nat.le_refl _
 | cons y l ih =>
   rw [List.cons_append]
   unfold insK
   split
   · simp only [List.length_cons]; omega
   · exact Nat.zero_le _
theorem rmE_key {l : List Entry} (hu : uniqE l = true) {k : List UInt8} {y : Entry} : y ∈ rmE l k ↔ y ∈ l ∧ y.key ≠ k := by
 rw [rm_but k hu]
 unfold but
 rw [List.mem_filter, decide_eq_true_eq]
structure InsOK (l : List Entry) (x : Entry) : Prop where
 ok : BkOK (insE l x).2.1
 mem : ∃ m, (insE l x).2.1 = m ++ [x]
 sub : ∀ y ∈ (insE l x).2.1, y = x ∨ (y ∈ l ∧ y.key ≠ x.key)
 gone : ∀ y ∈ (insE l x).2.2, y ∈ l ∧ y.key ≠ x.key
 all : ∀ y ∈ l, y.key ≠ x.key → (y ∈ (insE l x).2.1 ∨ y ∈ (insE l x).2.2)
 not : ∀ y ∈ (insE l x).2.1, ∀ z ∈ (insE l x).2.2, y.key ≠ z.key
theorem insE_zero {l : List Entry} {x : Entry} (h : (insE l x).1 = 0) : checkCode x = 0 ∧ ¬ 233 < (entB x).length ∧ insE l x = (0, (rmE l x.key ++ [x]).drop (insK (rmE l x.key ++ [x])), (rmE l x.key ++ [x]).take (insK (rmE l x.key ++ [x]))) := by
 unfold insE at h ⊢
 by_cases h1 : checkCode x ≠ 0
 · rw [if_pos h1] at h; exact absurd h h1
 · rw [if_neg h1] at h ⊢
   by_cases h2 : 233 < (entB x).length
   · rw [if_pos h2] at h; exact absurd h (by decide)
   · rw [if_neg h2] at h ⊢
     exact ⟨Classical.not_not.1 h1, h2, rfl⟩
theorem insE_ok {l : List Entry} {x : Entry} (hl : BkOK l) (h : (insE l x).1 = 0) : InsOK l x := by
 obtain ⟨h1, h2, h3⟩ := insE_zero h
 have hx : EntW x := (entW_iff x).1 h1
 have hk := insK_last (l := rmE l x.key) h2
 have hnd : ((rmE l x.key ++ [x]).map (·.key)).Nodup := by
   rw [List.map_append, List.map_cons, List.map_nil, List.nodup_append]
   refine ⟨?_, by simp, fun a ha b hb e => ?_⟩
   · have := (BkOK.sub (rmE_sub l x.key) hl).u
     unfold uniqE at this
     exact of_decide_eq_true this
   · rw [List.mem_singleton] at hb
     obtain ⟨y, hy, rfl⟩ := List.mem_map.1 ha
     exact ((rmE_key hl.u).1 hy).2 (e.trans hb)
 have hroom := insK_room (rmE l x.key ++ [x])
 have hm : ∀ y, y ∈ rmE l x.key ++ [x] ↔ (y ∈ l ∧ y.key ≠ x.key) ∨ y = x := fun y => by
   rw [List.mem_append, List.mem_singleton, rmE_key hl.u]
 generalize hK : insK (rmE l x.key ++ [x]) = K at *
 have hd : (rmE l x.key ++ [x]).drop K = (rmE l x.key).drop K ++ [x] := by rw [List.drop_append_of_le_length hk]
 have ht : (rmE l x.key ++ [x]).take K = (rmE l x.key).take K := by rw [List.take_append_of_le_length hk]
 have htd := List.take_append_drop K (rmE l x.key ++ [x])
 have e1 : (insE l x).2.1 = (rmE l x.key ++ [x]).drop K := by rw [h3]
 have e2 : (insE l x).2.2 = (rmE l x.key ++ [x]).take K := by rw [h3]
 clear h3
 constructor
 · rw [e1]
   refine ⟨fun y hy => ?_, ?_, hroom⟩
   · rcases (hm y).1 (List.mem_of_mem_drop hy) with h | rfl
     · exact hl.w y h.1
     · exact hx
   · unfold uniqE
     rw [decide_eq_true_eq, List.map_drop]
     exact List.Sublist.nodup (List.drop_sublist _ _) hnd
 · rw [e1]; exact ⟨_, hd⟩
 · intro y hy
   rw [e1] at hy
   rcases (hm y).1 (List.mem_of_mem_drop hy) with h | rfl
   · exact .inr h
   · exact .inl rfl
 · intro y hy
   rw [e2, ht] at hy
   exact (rmE_key hl.u).1 (List.mem_of_mem_take hy)
 · intro y hy hyk
   rw [e1, e2]
   have : y ∈ rmE l x.key ++ [x] := (hm y).2 (.inl ⟨hy, hyk⟩)
   rw [← htd] at this
   rcases List.mem_append.1 this with h | h
   · exact .inr h
   · exact .inl h
 · intro y hy z hz e
   rw [e1] at hy
   rw [e2] at hz
   rw [← htd, List.map_append, List.nodup_append] at hnd
   exact hnd.2.2 z.key (List.mem_map.2 ⟨z, hz, rfl⟩) y.key (List.mem_map.2 ⟨y, hy, rfl⟩) e.symm
theorem lkE_mem {l : List Entry} (hu : uniqE l = true) {y : Entry} (hy : y ∈ l) : lkE l y.key = some y := by
 unfold lkE
 obtain ⟨i, hi, rfl⟩ := List.getElem_of_mem hy
 rw [List.find?_eq_some_iff_getElem]
 refine ⟨by simp, i, hi, rfl, fun j hj => ?_⟩
 have := (uniqE_iff l).1 hu j i (by omega) hi hj
 simpa using this
theorem lkE_not {l : List Entry} {k : List UInt8} (h : ∀ y ∈ l, y.key ≠ k) : lkE l k = none := by
 unfold lkE
 rw [List.find?_eq_none]
 intro y hy
 simpa using h y hy
theorem mayF_mem {l : List Entry} {y : Entry} (hy : y ∈ l) : mayF (ofF (keysE l)) (hash64 y.key) = true := by
 rw [may_same]
 unfold mayR
 rw [List.all_eq_true]
 intro p hp
 rw [decide_eq_true_eq]
 unfold setR
 rw [setR_mem]
 exact .inr ⟨hash64 y.key, List.mem_map.2 ⟨y.key, List.mem_map.2 ⟨y, hy, rfl⟩, rfl⟩, hp⟩
theorem settle_one {sf : List (Int × List UInt8)} (hp : ∀ p ∈ sf, p.2.length = 256) (at_ : Int) {b : List UInt8} (hb : b.length = 256) (hn : blankB b = false) : settleM sf at_ (some b) 256 = updM sf at_ b := by
 have e1 : (min 256 256 : Int).toNat = 256 := rfl
 unfold settleM
 simp only
 rw [if_neg (by omega), e1, List.take_of_length_le (by omega), List.drop_eq_nil_of_le (by
   have : (pageOr sf at_).length = 256 := pageOr_len hp at_
   omega), List.append_nil, hn]
 rfl
theorem firm_any {s : Fl} {n at_ : Int} {kd : Nat} {a : List UInt8} (hpg : ∀ p ∈ s.safe, p.2.length = 256) (hd : s.down = false) (hl : s.loose = []) (hkd : 1 ≤ kd ∧ kd ≤ 5) :
   (tfirmC s n at_ kd a = 0 ∧ (1 ≤ n ∧ n ≤ 1099511627776) ∧ a.length ≤ 233 ∧ tputN s n at_ kd a = n + 1 ∧ ∃ fu dc, (fu < 0 ↔ s.fuse < 0) ∧ (s.fuse < 0 → fu = s.fuse) ∧ tfirmS s n at_ kd a = { s with safe := updM s.safe at_ (putB n.toNat kd a), fuse := fu, done := dc }) ∨
   (tfirmC s n at_ kd a ≠ 0 ∧ tfirmS s n at_ kd a = s ∧ tputN s n at_ kd a = n ∧ ¬ ((1 ≤ n ∧ n ≤ 1099511627776) ∧ a.length ≤ 233 ∧ 0 ≤ at_ ∧ at_ < s.pages)) ∨
   (tfirmC s n at_ kd a = 11 ∧ (tfirmS s n at_ kd a).down = true ∧ 0 ≤ s.fuse) := by
 obtain ⟨pg, sf, lo, fu, dn, dc⟩ := s
 simp only at hpg hd hl
 subst hd hl
 by_cases hck : checkC n kd a.length = 0
 rotate_left
 · right; left
   have hC : tputC ⟨pg, sf, [], fu, false, dc⟩ n at_ kd a = checkC n kd a.length := by unfold tputC; rw [if_pos hck]
   have hN : tputN ⟨pg, sf, [], fu, false, dc⟩ n at_ kd a = n := by unfold tputN; rw [if_neg (by rw [hC]; exact hck)]
   refine ⟨by unfold tfirmC; rw [if_pos (by rw [hC]; exact hck), hC]; exact hck, ?_, hN, fun h => hck ?_⟩
   · unfold tfirmS; rw [if_pos (by rw [hC]; exact hck)]
     unfold tputS; rw [if_pos hck]
   · unfold checkC; rw [if_neg (by omega), if_neg (by omega), if_neg (by omega)]
 obtain ⟨hn, -, hal⟩ := checkC_zero hck
 have hlen := putB_len n.toNat kd a hal
 by_cases hc : checkF ⟨pg, sf, [], fu, false, dc⟩ at_ = 0
 rotate_left
 · right; left
   have hC : tputC ⟨pg, sf, [], fu, false, dc⟩ n at_ kd a = checkF ⟨pg, sf, [], fu, false, dc⟩ at_ := by unfold tputC writeC; rw [if_neg (by simp [hck]), if_pos hc]
   have hN : tputN ⟨pg, sf, [], fu, false, dc⟩ n at_ kd a = n := by unfold tputN; rw [if_neg (by rw [hC]; exact hc)]
   refine ⟨by unfold tfirmC; rw [if_pos (by rw [hC]; exact hc), hC]; exact hc, ?_, hN, fun h => hc ?_⟩
   · unfold tfirmS; rw [if_pos (by rw [hC]; exact hc)]
     unfold tputS writeS; rw [if_neg (by simp [hck]), if_pos (.inl hc)]
   · unfold checkF; rw [if_neg (by simp), if_neg (by simp only at h ⊢; omega)]
 have hC : tputC ⟨pg, sf, [], fu, false, dc⟩ n at_ kd a = changeC ⟨pg, sf, [], fu, false, dc⟩ := by
   unfold tputC writeC; rw [hck, hc]; rfl
 have hS : tputS ⟨pg, sf, [], fu, false, dc⟩ n at_ kd a = burnS ⟨pg, sf, [(at_, some (putB n.toNat kd a))], fu, false, dc⟩ := by
   unfold tputS writeS; rw [if_neg (by rw [hck]; simp), if_neg (by rw [hc]; simp [hlen])]
   rfl
 have hset := settle_one hpg at_ hlen (put_blank n.toNat kd a (by omega) (by omega))
 by_cases hneg : fu < 0
 · have hbu : ∀ lo dc, burnB ⟨pg, sf, lo, fu, false, dc⟩ = false := fun lo dc => by unfold burnB; simp [hneg]
   have hbs : ∀ lo dc, burnS ⟨pg, sf, lo, fu, false, dc⟩ = ⟨pg, sf, lo, fu, false, dc + 1⟩ := fun lo dc => by unfold burnS; rw [if_pos hneg]
   left
   have hC0 : tputC ⟨pg, sf, [], fu, false, dc⟩ n at_ kd a = 0 := by rw [hC]; unfold changeC; rw [hbu]; rfl
   rw [hbs] at hS
   have hfl : flushC ⟨pg, sf, [(at_, some (putB n.toNat kd a))], fu, false, dc + 1⟩ = 0 := by
     unfold flushC; rw [if_neg (by simp), hbu]; rfl
   refine ⟨by unfold tfirmC; rw [if_neg (by simp [hC0]), hS, hfl], hn, hal, by unfold tputN; rw [if_pos hC0], fu, dc + 1 + 1, Iff.rfl, fun _ => rfl, ?_⟩
   unfold tfirmS
   rw [if_neg (by simp [hC0]), hS]
   unfold flushS settleAll
   rw [if_neg (by simp), hbu, if_neg (by simp), hbs]
   simp only [List.foldl_cons, List.foldl_nil]
   rw [hset]
 · by_cases h0 : fu - 1 < 0
   · right; right
     have hbu : ∀ lo dc, burnB ⟨pg, sf, lo, fu, false, dc⟩ = true := fun lo dc => by unfold burnB; simp only; rw [decide_eq_true hneg, decide_eq_true h0]; rfl
     have hC1 : tputC ⟨pg, sf, [], fu, false, dc⟩ n at_ kd a = 11 := by rw [hC]; unfold changeC; rw [hbu]; rfl
     refine ⟨by unfold tfirmC; rw [if_pos (by rw [hC1]; decide), hC1], ?_, by simp only; omega⟩
     unfold tfirmS; rw [if_pos (by rw [hC1]; decide), hS]
     unfold burnS; rw [if_neg hneg]; exact decide_eq_true h0
   · have hbu : ∀ lo dc, burnB ⟨pg, sf, lo, fu, false, dc⟩ = false := fun lo dc => by unfold burnB; simp only; rw [decide_eq_false h0]; simp
     have hC0 : tputC ⟨pg, sf, [], fu, false, dc⟩ n at_ kd a = 0 := by rw [hC]; unfold changeC; rw [hbu]; rfl
     have hbs : ∀ lo dc, burnS ⟨pg, sf, lo, fu, false, dc⟩ = ⟨pg, sf, lo, fu - 1, false, dc + 1⟩ := fun lo dc => by
       unfold burnS; rw [if_neg hneg]; simp only; rw [decide_eq_false h0]
     rw [hbs] at hS
     by_cases h1 : fu - 1 - 1 < 0
     · right; right
       have hbu2 : ∀ lo dc, burnB ⟨pg, sf, lo, fu - 1, false, dc⟩ = true := fun lo dc => by unfold burnB; simp only; rw [decide_eq_true h0, decide_eq_true h1]; rfl
       have hfl : flushC ⟨pg, sf, [(at_, some (putB n.toNat kd a))], fu - 1, false, dc + 1⟩ = 11 := by
         unfold flushC; rw [if_neg (by simp), hbu2]; rfl
       refine ⟨by unfold tfirmC; rw [if_neg (by simp [hC0]), hS, hfl], ?_, by simp only; omega⟩
       unfold tfirmS; rw [if_neg (by simp [hC0]), hS]
       unfold flushS; rw [if_neg (by simp), hbu2, if_pos rfl]
       unfold burnS; rw [if_neg h0]; exact decide_eq_true h1
     · left
       have hbu2 : ∀ lo dc, burnB ⟨pg, sf, lo, fu - 1, false, dc⟩ = false := fun lo dc => by unfold burnB; simp only; rw [decide_eq_false h1]; simp
       have hbs2 : ∀ lo dc, burnS ⟨pg, sf, lo, fu - 1, false, dc⟩ = ⟨pg, sf, lo, fu - 1 - 1, false, dc + 1⟩ := fun lo dc => by
         unfold burnS; rw [if_neg h0]; simp only; rw [decide_eq_false h1]
       have hfl : flushC ⟨pg, sf, [(at_, some (putB n.toNat kd a))], fu - 1, false, dc + 1⟩ = 0 := by
         unfold flushC; rw [if_neg (by simp), hbu2]; rfl
       refine ⟨by unfold tfirmC; rw [if_neg (by simp [hC0]), hS, hfl], hn, hal, by unfold tputN; rw [if_pos hC0], fu - 1 - 1, dc + 1 + 1, by simp only; omega, fun h => absurd h hneg, ?_⟩
       unfold tfirmS
       rw [if_neg (by simp [hC0]), hS]
       unfold flushS settleAll
       rw [if_neg (by simp), hbu2, if_neg (by simp), hbs2]
       simp only [List.foldl_cons, List.foldl_nil]
       rw [hset]
theorem look_free {s : Fl} (h : s.loose = []) (j : Int) : lookB s j = pageOr s.safe j := by
 unfold lookB; rw [h]; rfl
theorem upd_pg (sf : List (Int × List UInt8)) (at_ j : Int) (b : List UInt8) : pageOr (updM sf at_ b) j = if j = at_ then b else pageOr sf j := by
 unfold pageOr
 rw [findM_upd]
 by_cases hj : j = at_
 · rw [if_pos hj.symm, if_pos hj]; rfl
 · rw [if_neg (fun h => hj h.symm), if_neg hj]
end
section
theorem page_del {sf : List (Int × List UInt8)} (hnd : (sf.map (·.1)).Nodup) (at_ j : Int) : pageOr (delM sf at_) j = if j = at_ then z256 else pageOr sf j := by
 unfold pageOr
 rw [findM_del hnd]
 by_cases hj : j = at_
 · rw [if_pos hj.symm, if_pos hj]; rfl
 · rw [if_neg (fun h => hj h.symm), if_neg hj]
def purE (l : List Entry) (h a : Int) : List Entry := l.filter fun x => !(decide (hash64 x.key = h) && decide (x.asof < a))
def purS (s : Fl) (n : Int) (base : Int) (i : Nat) (h a : Int) (fs : List BF) : Int × Int × Fl × Int × List BF :=
 if s.down = true then (0, 11, s, n, fs) else if (purE (pgE s (base + i)) h a).length = (pgE s (base + i)).length then (0, 0, s, n, fs)
 else (if (wrS s n base i (purE (pgE s (base + i)) h a) fs).1 = 0 then ((pgE s (base + i)).length : Int) - (purE (pgE s (base + i)) h a).length else 0, wrS s n base i (purE (pgE s (base + i)) h a) fs)
def trimN (s : Fl) (base : Int) : Nat → Int × Fl
 | 0 => (0, s)
 | k + 1 => if (trimN s base k).1 ≠ 0 then trimN s base k else (trimC (trimN s base k).2 (base + k), trimS (trimN s base k).2 (base + k))
def clearS (s : Fl) (base : Int) (N : Nat) (fs : List BF) : Int × Fl × List BF :=
 if (trimN s base N).1 ≠ 0 then ((trimN s base N).1, (trimN s base N).2, fs)
 else (flushC (trimN s base N).2, flushS (trimN s base N).2, if flushC (trimN s base N).2 = 0 then List.replicate N (0, 0) else fs)
theorem purE_sub (l : List Entry) (h a : Int) : (purE l h a).Sublist l := List.filter_sublist
theorem wr_any {s : Fl} {n : Int} {i : Nat} {l : List Entry} (fs : List BF) (hpg : ∀ p ∈ s.safe, p.2.length = 256) (hd : s.down = false) (hl : s.loose = []) (hp : s.pages = 9) (hi : i < 4) (hw : ∀ y ∈ l, EntW y) (hu : uniqE l = true) :
   ((wrS s n 2 i l fs).1 = 0 ∧ BkOK l ∧ (1 ≤ n ∧ n ≤ 1099511627776) ∧ (wrS s n 2 i l fs).2.2.1 = n + 1 ∧ (wrS s n 2 i l fs).2.2.2 = fs.set i (ofF (keysE l)) ∧ (wrS s n 2 i l fs).2.1.down = false ∧ (wrS s n 2 i l fs).2.1.loose = [] ∧ (wrS s n 2 i l fs).2.1.pages = 9 ∧ (s.fuse < 0 → (wrS s n 2 i l fs).2.1.fuse = s.fuse) ∧
     (∀ j, lookB (wrS s n 2 i l fs).2.1 j = if j = 2 + (i : Int) then putB n.toNat 1 (allB l) else lookB s j) ∧ (∀ j : Nat, j < 4 → pgE (wrS s n 2 i l fs).2.1 (2 + (j : Int)) = if j = i then l else pgE s (2 + (j : Int)))) ∨
   ((wrS s n 2 i l fs).1 ≠ 0 ∧ (wrS s n 2 i l fs).2.1 = s ∧ (wrS s n 2 i l fs).2.2.1 = n ∧ (wrS s n 2 i l fs).2.2.2 = fs ∧ ¬ ((1 ≤ n ∧ n ≤ 1099511627776) ∧ (allB l).length ≤ 233)) ∨
   ((wrS s n 2 i l fs).1 = 11 ∧ (wrS s n 2 i l fs).2.1.down = true ∧ (wrS s n 2 i l fs).2.2.2 = fs ∧ 0 ≤ s.fuse ∧ (wrS s n 2 i l fs).2.1.pages = 9) := by
 unfold wrS
 simp only
 rcases firm_any (n := n) (at_ := 2 + (i : Int)) (kd := 1) (a := allB l) hpg hd hl (by decide) with ⟨h1, h2, h3, h4, fu, dc, h5, h5', h6⟩ | ⟨h1, h2, h3, h4⟩ | ⟨h1, h2, h3⟩
 · left
   replace h1 : tfirmC s n (2 + (i : Int)) 1 (allB l) = 0 := h1
   replace h4 : tputN s n (2 + (i : Int)) 1 (allB l) = n + 1 := h4
   replace h6 : tfirmS s n (2 + (i : Int)) 1 (allB l) = { s with safe := updM s.safe (2 + (i : Int)) (putB n.toNat 1 (allB l)), fuse := fu, done := dc } := h6
   have hb : BkOK l := ⟨hw, hu, h3⟩
   have hlk : ∀ j, lookB { s with safe := updM s.safe (2 + (i : Int)) (putB n.toNat 1 (allB l)), fuse := fu, done := dc } j = if j = 2 + (i : Int) then putB n.toNat 1 (allB l) else lookB s j := fun j => by
     rw [look_free (s := s) hl, look_free (s := { s with safe := updM s.safe (2 + (i : Int)) (putB n.toNat 1 (allB l)), fuse := fu, done := dc }) hl]
     exact upd_pg _ _ _ _
   rw [h1, h4, h6, if_pos rfl]
   refine ⟨rfl, hb, h2, rfl, rfl, hd, hl, hp, h5', hlk, fun j hj => ?_⟩
   rw [pgE_look (s := { s with safe := updM s.safe (2 + (i : Int)) (putB n.toNat 1 (allB l)), fuse := fu, done := dc }) hd (by show 0 ≤ 2 + (j : Int) ∧ 2 + (j : Int) < s.pages; omega), hlk, pgE_look hd (by omega)]
   by_cases hji : j = i
   · subst hji
     rw [if_pos rfl, if_pos rfl, pgL_put (by omega) hb]
   · rw [if_neg (by omega), if_neg hji]
 · right; left
   replace h1 : tfirmC s n (2 + (i : Int)) 1 (allB l) ≠ 0 := h1
   replace h2 : tfirmS s n (2 + (i : Int)) 1 (allB l) = s := h2
   replace h3 : tputN s n (2 + (i : Int)) 1 (allB l) = n := h3
   rw [h2, h3, if_neg h1]
   exact ⟨h1, rfl, rfl, rfl, fun h => h4 ⟨h.1, h.2, by omega, by omega⟩⟩
 · right; right
   replace h1 : tfirmC s n (2 + (i : Int)) 1 (allB l) = 11 := h1
   refine ⟨h1, h2, by rw [h1]; rfl, h3, (?_ : (tfirmS s n (2 + (i : Int)) 1 (allB l)).pages = 9)⟩
   have e1 : ∀ (s : Fl) (n at_ kd : Int) (b : List UInt8), (tputS s n at_ kd b).pages = s.pages := fun s n at_ kd b => by
     unfold tputS; split; (· rfl); (· exact writeS_pages _ _ _)
   have e2 : ∀ s : Fl, (flushS s).pages = s.pages := fun s => by
     unfold flushS
     split
     · rfl
     · split
       · exact burnS_pages s
       · exact burnS_pages s
   unfold tfirmS
   split
   · rw [e1]; exact hp
   · rw [e2, e1]; exact hp
structure SI (s : Fl) (fs : List BF) : Prop where
 p : s.pages = 9
 l4 : fs.length = 4
 ok : ∀ f ∈ fs, BFok f
 lo : s.down = false → s.loose = []
 fl : s.down = false → ∀ i : Nat, i < 4 → fs[i]? = some (ofF (keysE (pgE s (2 + (i : Int)))))
theorem SI.wr {s : Fl} {fs : List BF} (h : SI s fs) (hpg : ∀ p ∈ s.safe, p.2.length = 256) (hd : s.down = false) (n : Int) {i : Nat} (hi : i < 4) {l : List Entry} (hw : ∀ y ∈ l, EntW y) (hu : uniqE l = true) : SI (wrS s n 2 i l fs).2.1 (wrS s n 2 i l fs).2.2.2 := by
 rcases wr_any (n := n) fs hpg hd (h.lo hd) h.p hi hw hu with ⟨h1, h2, h3, h4, h5, h6, h7, h8, h9, ha, hb⟩ | ⟨h1, h2, h3, h4, h5⟩ | ⟨h1, h2, h3, h4, h5⟩
 · rw [h5]
   refine ⟨h8, by rw [List.length_set]; exact h.l4, fun f hf => ?_, fun _ => h7, fun _ j hj => ?_⟩
   · rcases List.mem_or_eq_of_mem_set hf with hf | rfl
     · exact h.ok f hf
     · exact ofF_ok _
   · rw [hb j hj, List.getElem?_set]
     by_cases hji : i = j
     · subst hji; rw [if_pos rfl, if_pos rfl, if_pos (by rw [h.l4]; exact hj)]
     · rw [if_neg hji, if_neg (fun e => hji e.symm)]; exact h.fl hd j hj
 · rw [h2, h4]; exact h
 · rw [h3]
   exact ⟨h5, h.l4, h.ok, fun e => (Bool.eq_false_iff.1 e h2).elim, fun e => (Bool.eq_false_iff.1 e h2).elim⟩
theorem insE_u {l : List Entry} {x : Entry} (hu : uniqE l = true) : uniqE (insE l x).2.1 = true := by
 by_cases h : (insE l x).1 = 0
 · obtain ⟨h1, h2, h3⟩ := insE_zero h
   rw [h3]
   unfold uniqE at hu ⊢
   rw [decide_eq_true_eq] at hu ⊢
   rw [List.map_drop]
   refine List.Sublist.nodup (List.drop_sublist _ _) ?_
   rw [List.map_append, List.map_cons, List.map_nil, List.nodup_append]
   refine ⟨List.Sublist.nodup ((rmE_sub l x.key).map _) hu, by simp, fun a ha b hb e => ?_⟩
   rw [List.mem_singleton] at hb
   obtain ⟨y, hy, rfl⟩ := List.mem_map.1 ha
   exact ((rmE_key (by unfold uniqE; exact decide_eq_true hu)).1 hy).2 (e.trans hb)
 · have : (insE l x).2.1 = [] := by
     unfold insE at h ⊢
     split
     · rfl
     · split
       · rfl
       · rename_i h1 h2; rw [if_neg h1, if_neg h2] at h; exact absurd rfl h
   rw [this]; decide
theorem uniq_sub {l m : List Entry} (h : l.Sublist m) (hm : uniqE m = true) : uniqE l = true := by
 unfold uniqE at hm ⊢
 rw [decide_eq_true_eq] at hm ⊢
 exact List.Sublist.nodup (h.map _) hm
theorem SI.set {s : Fl} {fs : List BF} (h : SI s fs) (hw : s.WF) (n : Int) {i : Nat} (hi : i < 4) (x : Entry) : SI (setS s n 2 i x fs).2.2.1 (setS s n 2 i x fs).2.2.2.2 := by
 have hpw := pgE_w hw (2 + (i : Int))
 unfold setS
 by_cases hd : s.down = true
 · rw [if_pos hd]; exact h
 · rw [if_neg hd]
   split
   · exact h
   · exact h.wr hw.page (by simpa using hd) n hi (insE_w hpw.1).1 (insE_u hpw.2.2)
theorem SI.rm {s : Fl} {fs : List BF} (h : SI s fs) (hw : s.WF) (n : Int) {i : Nat} (hi : i < 4) (k : List UInt8) : SI (rmS s n 2 i k fs).2.2.1 (rmS s n 2 i k fs).2.2.2.2 := by
 have hpw := pgE_w hw (2 + (i : Int))
 unfold rmS
 by_cases hd : s.down = true
 · rw [if_pos hd]; exact h
 · rw [if_neg hd]
   split
   · exact h
   · exact h.wr hw.page (by simpa using hd) n hi (fun y hy => hpw.1 y (rmE_mem hy)) (uniq_sub (rmE_sub _ _) hpw.2.2)
theorem SI.pur {s : Fl} {fs : List BF} (h : SI s fs) (hw : s.WF) (n : Int) {i : Nat} (hi : i < 4) (hh a : Int) : SI (purS s n 2 i hh a fs).2.2.1 (purS s n 2 i hh a fs).2.2.2.2 := by
 have hpw := pgE_w hw (2 + (i : Int))
 unfold purS
 by_cases hd : s.down = true
 · rw [if_pos hd]; exact h
 · rw [if_neg hd]
   split
   · exact h
   · exact h.wr hw.page (by simpa using hd) n hi (fun y hy => hpw.1 y ((purE_sub _ _ _).subset hy)) (uniq_sub (purE_sub _ _ _) hpw.2.2)
theorem SI.fuse {s : Fl} {fs : List BF} (h : SI s fs) (k : Int) : SI (fuseS s k) fs := ⟨h.p, h.l4, h.ok, h.lo, h.fl⟩
theorem trimN_any {s : Fl} (hd : s.down = false) (hl : s.loose = []) (hp : s.pages = 9) : ∀ k, k ≤ 4 →
   ((trimN s 2 k).1 = 0 ∧ (trimN s 2 k).2.down = false ∧ (trimN s 2 k).2.safe = s.safe ∧ (trimN s 2 k).2.pages = 9 ∧ (s.fuse < 0 → (trimN s 2 k).2.fuse = s.fuse) ∧ (trimN s 2 k).2.loose = (List.range k).map fun i : Nat => (2 + (i : Int), none)) ∨
   ((trimN s 2 k).1 = 11 ∧ (trimN s 2 k).2.down = true ∧ 0 ≤ s.fuse ∧ (trimN s 2 k).2.pages = 9)
 | 0, _ => .inl ⟨rfl, hd, rfl, hp, fun _ => rfl, hl⟩
 | k + 1, hk => by
   have ih := trimN_any hd hl hp k (by omega)
   unfold trimN
   rcases ih with ⟨h1, h2, h3, h4, h5, h6⟩ | ⟨h1, h2, h3, h4⟩
   · rw [if_neg (by simp [h1])]
     generalize (trimN s 2 k).2 = u at *
     have hc : checkF u (2 + (k : Int)) = 0 := by unfold checkF; rw [h2, if_neg (by simp), if_neg (by omega)]
     have hC : trimC u (2 + (k : Int)) = changeC u := by unfold trimC; rw [if_neg (by simp [hc])]
     have hS : trimS u (2 + (k : Int)) = changeS u (2 + (k : Int)) none := by unfold trimS; rw [if_neg (by simp [hc])]
     simp only [hC, hS]
     have hr : (List.range (k + 1)).map (fun i : Nat => (2 + (i : Int), (none : Option (List UInt8)))) = u.loose ++ [(2 + (k : Int), none)] := by
       rw [List.range_succ, List.map_append, h6]; rfl
     rw [hr]
     obtain ⟨pg, sf, lo, fu, dn, dc⟩ := u
     simp only at h2 h3 h4 h5
     subst h2
     unfold changeC changeS burnB burnS
     simp only
     by_cases hneg : fu < 0
     · left
       rw [if_pos hneg, decide_eq_false (by omega : ¬ ¬ fu < 0)]
       exact ⟨rfl, rfl, h3, h4, h5, rfl⟩
     · rw [if_neg hneg, decide_eq_true hneg, Bool.true_and]
       by_cases h0 : fu - 1 < 0
       · right
         rw [decide_eq_true h0]
         exact ⟨rfl, rfl, by false_or_by_contra; rename_i hq; have := h5 (by omega); omega, h4⟩
       · left
         rw [decide_eq_false h0]
         exact ⟨rfl, rfl, h3, h4, fun hq => by have := h5 hq; omega, rfl⟩
   · right
     rw [if_pos (by rw [h1]; decide)]
     exact ⟨h1, h2, h3, h4⟩
theorem del_all : ∀ (k : Nat) {sf : List (Int × List UInt8)}, pagesOK sf → (pagesOK (settleAll sf ((List.range k).map fun i : Nat => (2 + (i : Int), none)))) ∧ ∀ j, pageOr (settleAll sf ((List.range k).map fun i : Nat => (2 + (i : Int), none))) j = if 2 ≤ j ∧ j < 2 + (k : Int) then z256 else pageOr sf j
 | 0, sf, h => ⟨h, fun j => by rw [if_neg (by omega)]; rfl⟩
 | k + 1, sf, h => by
   obtain ⟨h1, h2⟩ := del_all k h
   have e : settleAll sf ((List.range (k + 1)).map fun i : Nat => (2 + (i : Int), none)) = delM (settleAll sf ((List.range k).map fun i : Nat => (2 + (i : Int), none))) (2 + (k : Int)) := by
     unfold settleAll
     rw [List.range_succ, List.map_append, List.foldl_append]
     rfl
   rw [e]
   refine ⟨settle_pages (o := none) (keep := 256) h1 (by simp), fun j => ?_⟩
   rw [page_del h1.1, h2]
   by_cases hj : j = 2 + (k : Int)
   · rw [if_pos hj, if_pos (by omega)]
   · rw [if_neg hj]
     by_cases hj2 : 2 ≤ j ∧ j < 2 + (k : Int)
     · rw [if_pos hj2, if_pos (by omega)]
     · rw [if_neg hj2, if_neg (by omega)]
theorem clear_any {s : Fl} (fs : List BF) (hpg : pagesOK s.safe) (hd : s.down = false) (hl : s.loose = []) (hp : s.pages = 9) :
   ((clearS s 2 4 fs).1 = 0 ∧ (clearS s 2 4 fs).2.2 = List.replicate 4 (0, 0) ∧ (clearS s 2 4 fs).2.1.down = false ∧ (clearS s 2 4 fs).2.1.loose = [] ∧ (clearS s 2 4 fs).2.1.pages = 9 ∧ (s.fuse < 0 → (clearS s 2 4 fs).2.1.fuse = s.fuse) ∧ (∀ j, lookB (clearS s 2 4 fs).2.1 j = if 2 ≤ j ∧ j < 6 then z256 else lookB s j)) ∨
   ((clearS s 2 4 fs).1 = 11 ∧ (clearS s 2 4 fs).2.2 = fs ∧ (clearS s 2 4 fs).2.1.down = true ∧ 0 ≤ s.fuse ∧ (clearS s 2 4 fs).2.1.pages = 9) := by
 unfold clearS
 rcases trimN_any hd hl hp 4 (by decide) with ⟨h1, h2, h3, h4, h5, h6⟩ | ⟨h1, h2, h3, h4⟩
 · rw [if_neg (by simp [h1])]
   have hdel := (del_all 4 hpg).2
   rw [← h3, ← h6] at hdel
   have hls := look_free hl
   rw [← h3] at hls
   clear h1 h6
   generalize (trimN s 2 4).2 = u at *
   obtain ⟨pg, sf, lo, fu, dn, dc⟩ := u
   simp only at h2 h3 h4 h5 hdel hls ⊢
   subst h2
   unfold flushC flushS burnB burnS
   simp only [Bool.false_eq_true, if_false]
   by_cases hneg : fu < 0
   · left
     rw [if_pos hneg, decide_eq_false (by omega : ¬ ¬ fu < 0)]
     refine ⟨rfl, rfl, rfl, rfl, h4, h5, fun j => ?_⟩
     rw [look_free rfl, hls]
     exact hdel j
   · rw [if_neg hneg, decide_eq_true hneg, Bool.true_and]
     by_cases h0 : fu - 1 < 0
     · right
       rw [decide_eq_true h0]
       exact ⟨rfl, rfl, rfl, by false_or_by_contra; rename_i hq; have := h5 (by omega); omega, h4⟩
     · left
       rw [decide_eq_false h0]
       refine ⟨rfl, rfl, rfl, rfl, h4, fun hq => by have := h5 hq; omega, fun j => ?_⟩
       rw [look_free rfl, hls]
       exact hdel j
 · right
   rw [if_pos (by rw [h1]; decide)]
   exact ⟨h1, rfl, h2, h3, h4⟩
theorem trimN_down {s : Fl} (hd : s.down = true) (base : Int) : ∀ k, 0 < k → trimN s base k = (11, s)
 | 0, h => absurd h (by decide)
 | 1, _ => by
   unfold trimN trimN trimC trimS checkF
   simp [hd]
 | k + 2, _ => by
   have ih := trimN_down hd base (k + 1) (by omega)
   unfold trimN
   rw [ih, if_pos (by simp)]
theorem clear_down {s : Fl} (fs : List BF) (hd : s.down = true) : clearS s 2 4 fs = (11, s, fs) := by
 unfold clearS
 rw [trimN_down hd 2 4 (by decide), if_pos (by simp)]
theorem SI.clear {s : Fl} {fs : List BF} (h : SI s fs) (hw : s.WF) : SI (clearS s 2 4 fs).2.1 (clearS s 2 4 fs).2.2 := by
 by_cases hd : s.down = true
 · rw [clear_down fs hd]; exact h
 · have hd : s.down = false := by simpa using hd
   rcases clear_any fs ⟨hw.nodup, hw.page⟩ hd (h.lo hd) h.p with ⟨h1, h2, h3, h4, h5, h6, h7⟩ | ⟨h1, h2, h3, h4, h5⟩
   · rw [h2]
     refine ⟨h5, rfl, fun f hf => ?_, fun _ => h4, fun _ i hi => ?_⟩
     · rw [List.eq_of_mem_replicate hf]; exact ⟨by decide, by decide⟩
     · rw [pgE_look h3 (by omega), h7, if_pos (by omega), pgL_z, List.getElem?_replicate, if_pos hi]
       rfl
   · rw [h2]
     exact ⟨h5, h.l4, h.ok, fun e => (Bool.eq_false_iff.1 e h3).elim, fun e => (Bool.eq_false_iff.1 e h3).elim⟩
def openFs (s : Fl) (base : Int) (N : Nat) : List BF := (List.range N).map fun i : Nat => ofF (keysE (pgE s (base + (i : Int))))
theorem SI.open {s : Fl} (hp : s.pages = 9) (hl : s.loose = []) : SI s (openFs s 2 4) := by
 refine ⟨hp, by simp [openFs], fun f hf => ?_, fun _ => hl, fun _ i hi => ?_⟩
 · obtain ⟨i, -, rfl⟩ := List.mem_map.1 hf; exact ofF_ok _
 · unfold openFs
   rw [List.getElem?_map, List.getElem?_range hi]
   rfl
end
section
theorem wd8take : ∀ (n : Fin 256) (k : Fin 8), (word8 n.val).take k.val = List.replicate k.val 0 := by decide +kernel
theorem wd8mix : ∀ (n : Fin 256) (k : Fin 8), (List.replicate k.val 0 ++ (word8 n.val).drop k.val) = word8 n.val := by decide +kernel
theorem tornK_low {old a : List UInt8} {n j k kd : Nat} (hn : n < 256) (hj : j < 256) (h8 : old.take 8 = word8 j) (hk : k ≤ 7) : (putB n kd a).take k ++ old.drop k = old := by
 have e : (putB n kd a).take k = old.take k := by
   have e1 : (putB n kd a).take k = ((putB n kd a).take 8).take k := by rw [List.take_take, Nat.min_eq_left (by omega)]
   have e2 : old.take k = (old.take 8).take k := by rw [List.take_take, Nat.min_eq_left (by omega)]
   rw [e1, e2, put_take8, h8, wd8take ⟨n, hn⟩ ⟨k, by omega⟩, wd8take ⟨j, hj⟩ ⟨k, by omega⟩]
 rw [e, List.take_append_drop]
theorem tornK_mid {old a : List UInt8} {n j k kd : Nat} (hn : n < 256) (hj : j < n) (ha : a.length ≤ 233) (hl : old.length = 256) (h8 : old.drop 248 = word8 j) (h1 : 8 ≤ k) (hk : k ≤ 255) : getC ((putB n kd a).take k ++ old.drop k) = 8 := by
 have hpl := putB_len n kd a ha
 have e1 : ((putB n kd a).take k ++ old.drop k).take 8 = word8 n := by
   rw [List.take_append_of_le_length (by rw [List.length_take]; omega), List.take_take, Nat.min_eq_left h1, put_take8]
 have e2 : ((putB n kd a).take k ++ old.drop k).drop 248 = word8 j := by
   rw [List.drop_append, List.length_take, hpl, Nat.min_eq_left (by omega), List.drop_take, put_drop248 _ _ _ ha, List.drop_drop]
   have e : old.drop (k + (248 - k)) = (word8 j).drop (k - 248) := by rw [← h8, List.drop_drop]; congr 1; omega
   rw [e, wd8take ⟨n, hn⟩ ⟨k - 248, by omega⟩, wd8mix ⟨j, by omega⟩ ⟨k - 248, by omega⟩]
 have hlen : ((putB n kd a).take k ++ old.drop k).length = 256 := by rw [List.length_append, List.length_take, List.length_drop]; omega
 unfold getC
 rw [if_neg (by simp [hlen]), e1, e2, if_pos]
 intro h
 have h2 := be8_word n (by omega)
 have h3 := be8_word j (by omega)
 rw [h, h3] at h2
 omega
theorem blank_z256 {b : List UInt8} (hl : b.length = 256) (h : blankB b = true) : b = z256 := by
 unfold z256
 rw [← hl]
 refine List.eq_replicate_of_mem fun x hx => ?_
 unfold blankB at h
 rw [List.all_eq_true] at h
 simpa using h x hx
theorem settle_pg {sf : List (Int × List UInt8)} (hnd : (sf.map (·.1)).Nodup) (hp : ∀ p ∈ sf, p.2.length = 256) (at_ : Int) {b : List UInt8} (hb : b.length = 256) (keep : Int) (j : Int) :
   pageOr (settleM sf at_ (some b) keep) j = if j = at_ then b.take (min keep 256).toNat ++ (pageOr sf at_).drop (min keep 256).toNat else pageOr sf j := by
 have hpo := pageOr_len hp at_
 unfold settleM
 simp only
 by_cases hk : keep ≤ 0
 · rw [if_pos hk]
   have e : (min keep 256).toNat = 0 := by omega
   rw [e, List.take_zero, List.drop_zero, List.nil_append]
   split
   · rename_i h; rw [h]
   · rfl
 · rw [if_neg hk]
   generalize hkk : (min keep 256).toNat = k
   have hlen : (b.take k ++ (pageOr sf at_).drop k).length = 256 := by rw [List.length_append, List.length_take, List.length_drop]; omega
   by_cases hbl : blankB (b.take k ++ (pageOr sf at_).drop k) = true
   · rw [if_pos hbl]
     have hz := blank_z256 hlen hbl
     show (findM (delM sf at_) j).getD z256 = _
     rw [findM_del hnd]
     by_cases hj : j = at_
     · rw [if_pos hj.symm, if_pos hj, hz]; rfl
     · rw [if_neg (fun h => hj h.symm), if_neg hj]; rfl
   · rw [if_neg hbl]
     show (findM (updM sf at_ _) j).getD z256 = _
     rw [findM_upd]
     by_cases hj : j = at_
     · rw [if_pos hj.symm, if_pos hj]; rfl
     · rw [if_neg (fun h => hj h.symm), if_neg hj]; rfl
theorem firm_torn {s : Fl} {m : Nat} (hB : s.B m) {n at_ : Int} {kd : Nat} {a : List UInt8} (hd : s.down = false) (hl : s.loose = []) (hat : 0 ≤ at_ ∧ at_ < s.pages) (hn : 1 ≤ n ∧ n ≤ 1099511627776) (hk : 1 ≤ kd ∧ kd ≤ 5) (ha : a.length ≤ 233) (fu : Int) (hfu : fu = 0 ∨ fu = 1 ∨ fu = 2) (keep : List Int) :
   ∃ k : Nat, k ≤ 256 ∧ (tfirmC (fuseS s fu) n at_ kd a = 0 ∧ k = 256 ∨ tfirmC (fuseS s fu) n at_ kd a = 11) ∧
     (∀ j, lookB (crashS (tfirmS (fuseS s fu) n at_ kd a) keep) j = if j = at_ then (putB n.toNat kd a).take k ++ (lookB s at_).drop k else lookB s j) := by
 have hls := look_free hl
 have hpg := hB.safe.page
 have hnd := hB.safe.nodup
 obtain ⟨pg, sf, lo, fu0, dn, dc⟩ := s
 simp only at hpg hnd hd hl hat
 subst hd hl
 have hpl := putB_len n.toNat kd a ha
 have hpb := put_blank n.toNat kd a (by omega) (by omega)
 have hc : ∀ fu, checkF ⟨pg, sf, [], fu, false, dc⟩ at_ = 0 := fun fu => by unfold checkF; rw [if_neg (by simp), if_neg (by simp only; omega)]
 have hck : checkC n kd a.length = 0 := by unfold checkC; rw [if_neg (by omega), if_neg (by omega), if_neg (by omega)]
 have hfs : fuseS ⟨pg, sf, [], fu0, false, dc⟩ fu = ⟨pg, sf, [], fu, false, dc⟩ := by unfold fuseS; rcases hfu with rfl | rfl | rfl <;> rfl
 have hS : ∀ fu, tputS ⟨pg, sf, [], fu, false, dc⟩ n at_ kd a = burnS ⟨pg, sf, [(at_, some (putB n.toNat kd a))], fu, false, dc⟩ := fun fu => by
   unfold tputS writeS; rw [if_neg (by rw [hck]; simp), if_neg (by rw [hc]; simp [hpl])]
   rfl
 rw [hfs]
 simp only [hls]
 have htorn : ∀ dc, ∃ k : Nat, k ≤ 256 ∧ ∀ j, lookB (crashS ⟨pg, sf, [(at_, some (putB n.toNat kd a))], -1, true, dc⟩ keep) j = if j = at_ then (putB n.toNat kd a).take k ++ (pageOr sf at_).drop k else pageOr sf j := fun dc => by
   cases keep with
   | nil => exact ⟨0, by omega, fun j => by
       rw [look_free rfl]
       show pageOr sf j = _
       rw [List.take_zero, List.drop_zero, List.nil_append]
       split
       · rename_i h; rw [h]
       · rfl⟩
   | cons k0 ks => exact ⟨(min k0 256).toNat, by omega, fun j => by
       rw [look_free rfl]
       exact settle_pg hnd hpg at_ hpl k0 j⟩
 rcases hfu with rfl | rfl | rfl
 · have hC : tputC ⟨pg, sf, [], 0, false, dc⟩ n at_ kd a = 11 := by
     unfold tputC writeC changeC; rw [hck, hc]; simp [putB_len n.toNat kd a ha]; rfl
   have hF : tfirmC ⟨pg, sf, [], 0, false, dc⟩ n at_ kd a = 11 := by unfold tfirmC; rw [hC]; rfl
   have hT : tfirmS ⟨pg, sf, [], 0, false, dc⟩ n at_ kd a = ⟨pg, sf, [(at_, some (putB n.toNat kd a))], -1, true, dc + 1⟩ := by
     unfold tfirmS; rw [hC, hS]; rfl
   obtain ⟨k, hk, h⟩ := htorn (dc + 1)
   exact ⟨k, hk, .inr hF, by rw [hT]; exact h⟩
 · have hC : tputC ⟨pg, sf, [], 1, false, dc⟩ n at_ kd a = 0 := by
     unfold tputC writeC changeC; rw [hck, hc]; simp [putB_len n.toNat kd a ha]; rfl
   have hF : tfirmC ⟨pg, sf, [], 1, false, dc⟩ n at_ kd a = 11 := by unfold tfirmC; rw [hC, hS]; rfl
   have hT : tfirmS ⟨pg, sf, [], 1, false, dc⟩ n at_ kd a = ⟨pg, sf, [(at_, some (putB n.toNat kd a))], -1, true, dc + 1 + 1⟩ := by
     unfold tfirmS; rw [hC, hS]; rfl
   obtain ⟨k, hk, h⟩ := htorn (dc + 1 + 1)
   exact ⟨k, hk, .inr hF, by rw [hT]; exact h⟩
 · have hC : tputC ⟨pg, sf, [], 2, false, dc⟩ n at_ kd a = 0 := by
     unfold tputC writeC changeC; rw [hck, hc]; simp [putB_len n.toNat kd a ha]; rfl
   have hF : tfirmC ⟨pg, sf, [], 2, false, dc⟩ n at_ kd a = 0 := by unfold tfirmC; rw [hC, hS]; rfl
   have hT : tfirmS ⟨pg, sf, [], 2, false, dc⟩ n at_ kd a = ⟨pg, settleM sf at_ (some (putB n.toNat kd a)) 256, [], 0, false, dc + 1 + 1⟩ := by
     unfold tfirmS; rw [hC, hS]; rfl
   refine ⟨256, by omega, .inl ⟨hF, rfl⟩, fun j => ?_⟩
   rw [hT, look_free rfl]
   show pageOr (settleM sf at_ (some (putB n.toNat kd a)) 256) j = _
   exact settle_pg hnd hpg at_ hpl 256 j
abbrev BP := Option (Nat × List Entry)
def bpg : BP → List UInt8
 | none => z256
 | some (k, l) => putB k 1 (allB l)
def bl : BP → List Entry
 | none => []
 | some (_, l) => l
structure KS (s : Fl) (n : Int) (P : Nat → BP) (i : Nat) : Prop where
 p : s.pages = 9
 lo : s.loose = []
 f : s.fuse < 0
 d : s.down = false
 lk : ∀ j : Nat, j < 4 → lookB s (2 + (j : Int)) = bpg (P j)
 ok : ∀ j : Nat, j < 4 → ∀ k l, P j = some (k, l) → (1 ≤ k ∧ (k : Int) < n) ∧ BkOK l ∧ ∀ y ∈ l, slotE (hash64 y.key) 4 = j
 n1 : 1 ≤ n
 n2 : n ≤ i + 1
theorem KS.mono {s : Fl} {n : Int} {P : Nat → BP} {i k : Nat} (h : KS s n P i) (hk : i ≤ k) : KS s n P k := { h with n2 := by have := h.n2; omega }
theorem KS.bk {s : Fl} {n : Int} {P : Nat → BP} {i : Nat} (h : KS s n P i) {j : Nat} (hj : j < 4) : BkOK (bl (P j)) ∧ ∀ y ∈ bl (P j), slotE (hash64 y.key) 4 = j := by
 cases hP : P j with
 | none => exact ⟨BkOK.nil, by simp [bl]⟩
 | some q => obtain ⟨k, l⟩ := q; exact (h.ok j hj k l hP).2
theorem KS.pgl {s : Fl} {n : Int} {P : Nat → BP} {i : Nat} (h : KS s n P i) (hi : i ≤ 200) {j : Nat} (hj : j < 4) : pgL (bpg (P j)) = bl (P j) := by
 cases hP : P j with
 | none => exact pgL_z
 | some q =>
   obtain ⟨k, l⟩ := q
   obtain ⟨⟨h1, h2⟩, h3, h4⟩ := h.ok j hj k l hP
   have := h.n2
   exact pgL_put ⟨h1, by omega⟩ h3
theorem KS.pg {s : Fl} {n : Int} {P : Nat → BP} {i : Nat} (h : KS s n P i) (hi : i ≤ 200) {j : Nat} (hj : j < 4) : pgE s (2 + (j : Int)) = bl (P j) := by
 have := h.p
 rw [pgE_look h.d (by omega), h.lk j hj, h.pgl hi hj]
theorem KS.bkp {s : Fl} {n : Int} {P : Nat → BP} {i : Nat} (h : KS s n P i) (hi : i ≤ 200) {j : Nat} (hj : j < 4) : BkOK (pgE s (2 + (j : Int))) ∧ ∀ y ∈ pgE s (2 + (j : Int)), slotE (hash64 y.key) 4 = j := by
 rw [h.pg hi hj]; exact h.bk hj
theorem KS.new : KS (newFl 9) 1 (fun _ => none) 0 :=
 ⟨rfl, rfl, by decide, rfl, (fun j hj => rfl), (fun j hj k l h => by cases h), by decide, by decide⟩
theorem KS.wr {s : Fl} {n : Int} {P : Nat → BP} {i : Nat} (h : KS s n P i) (hi : i ≤ 200) (fs : List BF) (hpg : ∀ p ∈ s.safe, p.2.length = 256) {j : Nat} (hj : j < 4) {l : List Entry} (hl : BkOK l) (hs : ∀ y ∈ l, slotE (hash64 y.key) 4 = j) :
   (wrS s n 2 j l fs).1 = 0 ∧ KS (wrS s n 2 j l fs).2.1 (wrS s n 2 j l fs).2.2.1 (fun q => if q = j then some (n.toNat, l) else P q) (i + 1) := by
 have hn1 := h.n1
 have hn2 := h.n2
 have hf := h.f
 rcases wr_any (n := n) fs hpg h.d h.lo h.p hj hl.w hl.u with ⟨h1, h2, h3, h4, h5, h6, h7, h8, h9, ha, hb⟩ | ⟨h1, h2, h3, h4, h5⟩ | ⟨h1, h2, h3, h4, h5⟩
 · refine ⟨h1, h8, h7, by rw [h9 hf]; exact hf, h6, fun q hq => ?_, fun q hq k l' hP => ?_, by omega, by omega⟩
   · rw [ha]
     by_cases hqj : q = j
     · subst hqj; rw [if_pos rfl, if_pos rfl]; rfl
     · rw [if_neg (by omega), if_neg hqj]; exact h.lk q hq
   · by_cases hqj : q = j
     · subst hqj
       rw [if_pos rfl] at hP
       cases hP
       exact ⟨⟨by omega, by omega⟩, hl, hs⟩
     · rw [if_neg hqj] at hP
       obtain ⟨⟨g1, g2⟩, g3⟩ := h.ok q hq k l' hP
       exact ⟨⟨g1, by omega⟩, g3⟩
 · exact absurd ⟨⟨hn1, by omega⟩, hl.r⟩ h5
 · omega
def KE (s : Fl) (n : Int) (i : Nat) : Prop := ∃ P, KS s n P i
theorem KE.set {s : Fl} {n : Int} {i : Nat} (h : KE s n i) (hi : i ≤ 200) (fs : List BF) (hpg : ∀ p ∈ s.safe, p.2.length = 256) (x : Entry) : KE (setS s n 2 (slotE (hash64 x.key) 4) x fs).2.2.1 (setS s n 2 (slotE (hash64 x.key) 4) x fs).2.2.2.1 (i + 1) := by
 obtain ⟨P, h⟩ := h
 have hj : slotE (hash64 x.key) 4 < 4 := slotE_lt (by decide)
 obtain ⟨hb, hs⟩ := h.bkp hi hj
 unfold setS
 rw [if_neg (by rw [h.d]; decide)]
 split
 · exact ⟨P, h.mono (Nat.le_succ i)⟩
 · rename_i hc
   have hin := insE_ok hb (Classical.not_not.1 hc)
   exact ⟨_, (h.wr hi fs hpg hj hin.ok (fun y hy => by
     rcases hin.sub y hy with rfl | ⟨h1, h2⟩
     · rfl
     · exact hs y h1)).2⟩
theorem KE.rm {s : Fl} {n : Int} {i : Nat} (h : KE s n i) (hi : i ≤ 200) (fs : List BF) (hpg : ∀ p ∈ s.safe, p.2.length = 256) {j : Nat} (hj : j < 4) (k : List UInt8) : KE (rmS s n 2 j k fs).2.2.1 (rmS s n 2 j k fs).2.2.2.1 (i + 1) := by
 obtain ⟨P, h⟩ := h
 obtain ⟨hb, hs⟩ := h.bkp hi hj
 unfold rmS
 rw [if_neg (by rw [h.d]; decide)]
 split
 · exact ⟨P, h.mono (Nat.le_succ i)⟩
 · exact ⟨_, (h.wr hi fs hpg hj (hb.sub (rmE_sub _ _)) (fun y hy => hs y (rmE_mem hy))).2⟩
theorem KE.pur {s : Fl} {n : Int} {i : Nat} (h : KE s n i) (hi : i ≤ 200) (fs : List BF) (hpg : ∀ p ∈ s.safe, p.2.length = 256) {j : Nat} (hj : j < 4) (hh a : Int) : KE (purS s n 2 j hh a fs).2.2.1 (purS s n 2 j hh a fs).2.2.2.1 (i + 1) := by
 obtain ⟨P, h⟩ := h
 obtain ⟨hb, hs⟩ := h.bkp hi hj
 unfold purS
 rw [if_neg (by rw [h.d]; decide)]
 split
 · exact ⟨P, h.mono (Nat.le_succ i)⟩
 · exact ⟨_, (h.wr hi fs hpg hj (hb.sub (purE_sub _ _ _)) (fun y hy => hs y ((purE_sub _ _ _).subset hy))).2⟩
theorem KE.clear {s : Fl} {n : Int} {i : Nat} (h : KE s n i) (fs : List BF) (hpg : pagesOK s.safe) : KE (clearS s 2 4 fs).2.1 n (i + 1) := by
 obtain ⟨P, h⟩ := h
 have hf := h.f
 rcases clear_any fs hpg h.d h.lo h.p with ⟨h1, h2, h3, h4, h5, h6, h7⟩ | ⟨h1, h2, h3, h4, h5⟩
 · refine ⟨fun _ => none, h5, h4, by rw [h6 hf]; exact hf, h3, fun j hj => ?_, (fun j hj k l hP => by cases hP), h.n1, by have := h.n2; omega⟩
   rw [h7, if_pos (by omega)]; rfl
 · omega
theorem pgl_torn {s : Fl} {n : Int} {P : Nat → BP} {i : Nat} (h : KS s n P i) (hi : i ≤ 200) {j : Nat} (hj : j < 4) {l : List Entry} (hl : BkOK l) {k : Nat} (hk : k ≤ 256) :
   pgL ((putB n.toNat 1 (allB l)).take k ++ (bpg (P j)).drop k) = bl (P j) ∨ pgL ((putB n.toNat 1 (allB l)).take k ++ (bpg (P j)).drop k) = [] ∨ pgL ((putB n.toNat 1 (allB l)).take k ++ (bpg (P j)).drop k) = l := by
 have hn1 := h.n1
 have hn2 := h.n2
 have hlen : (bpg (P j)).length = 256 := by
   cases hP : P j with
   | none => simp [bpg, z256]
   | some q => obtain ⟨k, l⟩ := q; exact putB_len _ _ _ (h.ok j hj k l hP).2.1.r
 obtain ⟨q, hq, e1, e2⟩ : ∃ q : Nat, q < n.toNat ∧ (bpg (P j)).take 8 = word8 q ∧ (bpg (P j)).drop 248 = word8 q := by
   cases hP : P j with
   | none => exact ⟨0, by omega, by decide +kernel, by decide +kernel⟩
   | some q =>
     obtain ⟨k, l⟩ := q
     obtain ⟨⟨g1, g2⟩, g3, -⟩ := h.ok j hj k l hP
     exact ⟨k, by omega, put_take8 _ _ _, put_drop248 _ _ _ g3.r⟩
 by_cases h7 : k ≤ 7
 · left
   rw [tornK_low (by omega) (by omega) e1 h7]
   exact h.pgl hi hj
 · by_cases h255 : k ≤ 255
   · right; left
     have := tornK_mid (kd := 1) (n := n.toNat) (by omega) hq hl.r hlen e2 (by omega) h255
     unfold pgL; rw [if_neg (fun h => by rw [this] at h; exact absurd h.1 (by decide))]
   · right; right
     have hb := putB_len n.toNat 1 (allB l) hl.r
     rw [List.take_of_length_le (by omega), List.drop_eq_nil_of_le (by omega), List.append_nil]
     exact pgL_put (by omega) hl
theorem crash_free {s : Fl} (hl : s.loose = []) (fu : Int) (keep : List Int) (j : Int) : lookB (crashS (fuseS s fu) keep) j = lookB s j := by
 have e : (crashS (fuseS s fu) keep).safe = s.safe := by
   show settleKeep s.safe s.loose keep = s.safe
   rw [hl]; cases keep <;> rfl
 rw [look_free (s := crashS (fuseS s fu) keep) rfl, look_free hl, e]
structure Torn (s s3 : Fl) (j : Nat) (nx : List Entry) : Prop where
 p : s3.pages = 9
 same : ∀ q : Nat, q < 4 → pgE s3 (2 + (q : Int)) = pgE s (2 + (q : Int)) ∨ (q = j ∧ (pgE s3 (2 + (q : Int)) = [] ∨ pgE s3 (2 + (q : Int)) = nx))
theorem torn_wr {s : Fl} {n : Int} {P : Nat → BP} {i m : Nat} (h : KS s n P i) (hi : i ≤ 200) (hB : s.B m) {fs fs' : List BF} {j : Nat} (hj : j < 4) {l : List Entry} (hl : BkOK l) (hsl : ∀ y ∈ l, slotE (hash64 y.key) 4 = j) (fu : Int) (hfu : fu = 0 ∨ fu = 1 ∨ fu = 2) (keep : List Int) :
   Torn s (crashS (wrS (fuseS s fu) n 2 j l fs).2.1 keep) j (pgE (wrS s n 2 j l fs').2.1 (2 + (j : Int))) := by
 have hn1 := h.n1
 have hn2 := h.n2
 have hp := h.p
 obtain ⟨k, hk, -, hlk⟩ := firm_torn hB (n := n) (at_ := 2 + (j : Int)) (kd := 1) (a := allB l) h.d h.lo (by omega) (by omega) (by decide) hl.r fu hfu keep
 have hpp : (crashS (wrS (fuseS s fu) n 2 j l fs).2.1 keep).pages = 9 := by
   show (wrS (fuseS s fu) n 2 j l fs).2.1.pages = 9
   rcases wr_any (s := fuseS s fu) (n := n) fs hB.safe.page h.d h.lo h.p hj hl.w hl.u with ⟨h1, h2, h3, h4, h5, h6, h7, h8, h9, ha, hb⟩ | ⟨h1, h2, h3, h4, h5⟩ | ⟨h1, h2, h3, h4, h5⟩
   · exact h8
   · rw [h2]; exact hp
   · exact h5
 have hnx : pgE (wrS s n 2 j l fs').2.1 (2 + (j : Int)) = l := by
   obtain ⟨-, hK⟩ := h.wr hi fs' hB.safe.page hj hl hsl
   rcases wr_any (n := n) fs' hB.safe.page h.d h.lo h.p hj hl.w hl.u with ⟨h1, h2, h3, h4, h5, h6, h7, h8, h9, ha, hb⟩ | ⟨h1, h2, h3, h4, h5⟩ | ⟨h1, h2, h3, h4, h5⟩
   · rw [hb j hj, if_pos rfl]
   · exact absurd ⟨⟨hn1, by omega⟩, hl.r⟩ h5
   · have := h.f; omega
 rw [hnx]
 refine ⟨hpp, fun q hq => ?_⟩
 have e : pgE (crashS (wrS (fuseS s fu) n 2 j l fs).2.1 keep) (2 + (q : Int)) = pgL (lookB (crashS (wrS (fuseS s fu) n 2 j l fs).2.1 keep) (2 + (q : Int))) := pgE_look rfl (by rw [hpp]; omega)
 have hlq : lookB (crashS (wrS (fuseS s fu) n 2 j l fs).2.1 keep) (2 + (q : Int)) = if 2 + (q : Int) = 2 + (j : Int) then (putB n.toNat 1 (allB l)).take k ++ (lookB s (2 + (j : Int))).drop k else lookB s (2 + (q : Int)) := hlk _
 rw [e, hlq, h.pg hi hq]
 by_cases hqj : q = j
 · subst hqj
   rw [if_pos rfl, h.lk q hq]
   rcases pgl_torn h hi hq hl hk with e | e | e
   · exact .inl e
   · exact .inr ⟨rfl, .inl e⟩
   · exact .inr ⟨rfl, .inr e⟩
 · rw [if_neg (by omega), h.lk q hq, h.pgl hi hq]
   exact .inl rfl
theorem torn_no {s : Fl} {n : Int} {P : Nat → BP} {i : Nat} (h : KS s n P i) (fu : Int) (keep : List Int) (j : Nat) (nx : List Entry) : Torn s (crashS (fuseS s fu) keep) j nx := by
 have hp := h.p
 refine ⟨hp, fun q hq => .inl ?_⟩
 rw [pgE_look (s := crashS (fuseS s fu) keep) rfl (by show 0 ≤ 2 + (q : Int) ∧ 2 + (q : Int) < s.pages; omega), pgE_look h.d (by omega), crash_free h.lo]
theorem pgE_fuse (s : Fl) (fu at_ : Int) : pgE (fuseS s fu) at_ = pgE s at_ := rfl
theorem torn_set {s : Fl} {n : Int} {i m : Nat} (h : KE s n i) (hi : i ≤ 200) (hB : s.B m) {fs fs' : List BF} (x : Entry) (fu : Int) (hfu : fu = 0 ∨ fu = 1 ∨ fu = 2) (keep : List Int) :
   Torn s (crashS (setS (fuseS s fu) n 2 (slotE (hash64 x.key) 4) x fs).2.2.1 keep) (slotE (hash64 x.key) 4) (pgE (setS s n 2 (slotE (hash64 x.key) 4) x fs').2.2.1 (2 + ((slotE (hash64 x.key) 4 : Nat) : Int))) := by
 obtain ⟨P, h⟩ := h
 have hj : slotE (hash64 x.key) 4 < 4 := slotE_lt (by decide)
 obtain ⟨hb, hs⟩ := h.bkp hi hj
 unfold setS
 rw [pgE_fuse, if_neg (show ¬ (fuseS s fu).down = true by show ¬ s.down = true; rw [h.d]; decide), if_neg (show ¬ s.down = true by rw [h.d]; decide)]
 by_cases hc : (insE (pgE s (2 + ((slotE (hash64 x.key) 4 : Nat) : Int))) x).1 ≠ 0
 · rw [if_pos hc]; exact torn_no h fu keep _ _
 · rw [if_neg hc, if_neg hc]
   have hin := insE_ok hb (Classical.not_not.1 hc)
   exact torn_wr h hi hB hj hin.ok (fun y hy => by
     rcases hin.sub y hy with rfl | ⟨h1, h2⟩
     · rfl
     · exact hs y h1) fu hfu keep
theorem torn_rm {s : Fl} {n : Int} {i m : Nat} (h : KE s n i) (hi : i ≤ 200) (hB : s.B m) {fs fs' : List BF} {j : Nat} (hj : j < 4) (k : List UInt8) (fu : Int) (hfu : fu = 0 ∨ fu = 1 ∨ fu = 2) (keep : List Int) :
   Torn s (crashS (rmS (fuseS s fu) n 2 j k fs).2.2.1 keep) j (pgE (rmS s n 2 j k fs').2.2.1 (2 + (j : Int))) := by
 obtain ⟨P, h⟩ := h
 obtain ⟨hb, hs⟩ := h.bkp hi hj
 unfold rmS
 rw [pgE_fuse, if_neg (show ¬ (fuseS s fu).down = true by show ¬ s.down = true; rw [h.d]; decide), if_neg (show ¬ s.down = true by rw [h.d]; decide)]
 by_cases hc : findI (pgE s (2 + (j : Int))) k < 0
 · rw [if_pos hc]; exact torn_no h fu keep _ _
 · rw [if_neg hc, if_neg hc]
   exact torn_wr h hi hB hj (hb.sub (rmE_sub _ _)) (fun y hy => hs y (rmE_mem hy)) fu hfu keep
end
section
def sAV (r : Fl) (n base : Int) (N : Nat) : AV := .agg (rCells r ++ [.c (.int .i64 n), .c (.int .i64 base), .c (.int .i64 (N : Int))])
attribute [local go_sem] sAV tAV
theorem rbucket_ok (r : Fl) (n base : Int) (N : Nat) (k : List UInt8) (hk : k.length < 2 ^ 62) (h0 : 0 < N) (hN : N ≤ 4096) : ACalls Tryz.prog 48 [sAV r n base N, .c (.string (mkStr k))] [] (Ret (.c (.int .i64 (slotE (hash64 k) N : Int)))) := by
 have hb := rhash_ok k hk
 have hs := rslot_ok (hash64 k) (hash_in k) N h0 hN
 generalize hash64 k = h at *
 generalize slotE h N = i at *
 refine jen cl_48 Tryz.func48 (h := ?_)
 refine jr (own := [2]) (h := ?_)
 refine jnb (hh := fun b2 hb2 => ?_)
 refine jr (h := ?_)
 refine jd [(0, .pure), (1, .pure), (2, .pure), (3, .read), (4, .pure), (5, .pure)] mixed (by kernel_rfl) ?_
 refine cr (hk := ?_)
 refine ccp (hs := hb) (hk := ?_)
 refine cr (hk := ?_)
 refine ccp (hs := hs) (hk := ?_)
 refine cr (hk := ?_)
 refine Can_nil ?_
 refine J_forget ?_
 refine jret Tryz.func48 (h := ⟨rfl, rfl⟩)
theorem rpage_ok (r : Fl) (n base : Int) (N i : Nat) (h1 : ∀ p ∈ r.safe, p.2.length = 256) (h2 : ∀ p ∈ r.loose, ∀ b, p.2 = some b → b.length = 256) (h3 : r.safe.length < 2 ^ 60) (h4 : r.loose.length < 2 ^ 60) (hb : 0 ≤ base ∧ base ≤ 4096) (hi : i ≤ 4096) :
   ACalls Tryz.prog 49 [sAV r n base N, .c (.int .i64 (i : Int))] [] (Ret (.sl 5 (ents (pgE r (base + i))))) := by
 have hg := get10_ok r n (base + i) 1 h1 h2 h3 h4
 have hlen : (txtB (lookB r (base + i))).length < 2 ^ 30 := by
   have := lookB_len h1 h2 (base + i)
   unfold txtB; rw [List.length_take, List.length_drop]; omega
 have hbr := bread12_ok _ hlen
 have hp : pgE r (base + i) = if tgetC r (base + i) 1 ≠ 0 then [] else (bktR (txtB (lookB r (base + i)))).2 := rfl
 rw [hp]
 clear hp hlen
 unfold leafAV at hg
 generalize tgetC r (base + i) 1 = c at *
 generalize lookB r (base + i) = LB at *
 have hrl : (bktR (txtB LB)).1 ≠ 0 → (bktR (txtB LB)).2 = [] := by
   unfold bktR
   split
   · exact fun _ => rfl
   · split
     · exact fun h => absurd rfl h
     · exact fun _ => rfl
 generalize bktR (txtB LB) = R at *
 obtain ⟨rc, rl⟩ := R
 simp only at *
 obtain ⟨pg, sf, lo, fu, dn, dc⟩ := r
 simp only at *
 refine jen cl_49 Tryz.func49 (h := ?_)
 refine jr (own := [2]) (h := ?_)
 refine jnb (hh := fun b2 hb2 => ?_)
 simp only [fresh] at hb2
 refine jf hb2 (h := ?_)
 by_cases hcc : c = 0
 · subst hcc
   simp only [if_true] at hg
   rw [if_neg (fun h => h rfl)]
   refine jc (hs := hg) (hk := ?_)
   refine jr (own := [5]) (h := ?_)
   refine jnv (hh := fun b5 hb5 => ?_)
   simp only [fresh] at hb5
   refine jf (cA hb2 hb5) (h := ?_)
   refine jif (h1 := fun hc => absurd hc (by exact fun h => h rfl)) (h2 := fun _ => ?_)
   refine jf (cA hb2 hb5) (h := ?_)
   refine jc (hs := hbr) (hk := ?_)
   refine jf (cA hb2 hb5) (h := ?_)
   by_cases hrc : rc = 0
   · subst hrc
     refine jr (h := ?_)
     refine jif (h1 := fun hc => absurd hc (by exact fun h => h rfl)) (h2 := fun _ => ?_)
     refine jr (h := ?_)
     refine J_forget ?_
     refine jret Tryz.func49 (h := ⟨rfl, rfl⟩)
   · rw [hrl hrc]
     refine jif (h1 := fun _ => ?_) (h2 := fun hc => absurd (by exact hrc) hc)
     refine jr (h := ?_)
     refine J_wk (t := 4) (by simp only [go_sem]) (nil_le_sl (s := 5)) ?_
     refine J_forget ?_
     refine jret Tryz.func49 (h := ⟨rfl, rfl⟩)
 · simp only [if_neg hcc] at hg
   rw [if_pos hcc]
   refine jc (hs := hg) (hk := ?_)
   refine jr (own := [5]) (h := ?_)
   refine jnv (hh := fun b5 hb5 => ?_)
   simp only [fresh] at hb5
   refine jf (cA hb2 hb5) (h := ?_)
   refine jif (h1 := fun _ => ?_) (h2 := fun hc => absurd (by exact hcc) hc)
   refine jr (h := ?_)
   refine J_wk (t := 4) (by simp only [go_sem]) (nil_le_sl (s := 5)) ?_
   refine J_forget ?_
   refine jret Tryz.func49 (h := ⟨rfl, rfl⟩)
theorem rget_ok (r : Fl) (n base : Int) (N i : Nat) (k : List UInt8) (hk : k.length < 2 ^ 62) (h0 : 0 < N) (hN : N ≤ 4096) (hsl : slotE (hash64 k) N = i) (hw : r.WF) (h1 : ∀ p ∈ r.safe, p.2.length = 256) (h2 : ∀ p ∈ r.loose, ∀ b, p.2 = some b → b.length = 256) (h3 : r.safe.length < 2 ^ 60) (h4 : r.loose.length < 2 ^ 60) (hb : 0 ≤ base ∧ base ≤ 4096) :
   ACalls Tryz.prog 88 [sAV r n base N, .c (.string (mkStr k))] [] (Ret (.tup [gotAV (lkE (pgE r (base + i)) k), .c (.bool (lkE (pgE r (base + i)) k).isSome)])) := by
 have hlt : i < N := hsl ▸ slotE_lt h0
 have hbk := rbucket_ok r n base N k hk h0 hN
 rw [hsl] at hbk
 have hpg := rpage_ok r n base N i h1 h2 h3 h4 hb (by omega)
 have hpw := pgE_w hw (base + i)
 have hfi := find_ok (pgE r (base + i)) k (by omega)
 clear hsl
 generalize pgE r (base + i) = l at *
 obtain ⟨pg, sf, lo, fu, dn, dc⟩ := r
 simp only at *
 refine jen cl_88 Tryz.func88 (h := ?_)
 refine jr (own := [2, 4]) (h := ?_)
 refine jnb (hh := fun b2 hb2 => ?_)
 simp only [fresh] at hb2
 refine jr (own := [2, 4]) (h := ?_)
 refine jnv (hh := fun b4 hb4 => ?_)
 simp only [fresh] at hb4
 refine jr (h := ?_)
 refine jd [(0, .read), (1, .read), (2, .pure), (3, .pure), (4, .pure), (5, .pure)] mixed (by kernel_rfl) ?_
 refine cf (cA hb2 hb4) (hk := ?_)
 refine ccp (hs := hbk) (hk := ?_)
 refine cf (cA hb2 hb4) (hk := ?_)
 refine ccp (hs := hpg) (hk := ?_)
 refine cr (hk := ?_)
 refine Can_nil ?_
 refine jr (h := ?_)
 refine jc (hs := hfi) (hk := ?_)
 refine jr (h := ?_)
 by_cases hneg : findI l k < 0
 · rw [lkE_none hneg]
   refine jif (h1 := fun _ => ?_) (h2 := fun hc => absurd (by exact hneg) hc)
   refine jf (cA hb2 hb4) (h := ?_)
   refine J_forget ?_
   refine jretf (cA hb2 hb4) Tryz.func88 (h := ⟨rfl, rfl⟩)
 · obtain ⟨j, x, hj, hx, hl⟩ := lkE_some hneg
   have hlj : j < l.length := (List.getElem?_eq_some_iff.1 hx).1
   have hel := ents_len l
   have heg := ents_get hx
   rw [hl, hj]
   rw [hj] at hneg
   refine jif (h1 := fun hc => absurd hc (by exact hneg)) (h2 := fun _ => ?_)
   refine jf (cC hb2 hb4 heg hel) (h := ?_)
   refine J_forget ?_
   refine jretf (cA hb2 hb4) Tryz.func88 (h := ⟨rfl, rfl⟩)
end
section
attribute [local go_sem] sAV tAV
theorem with_ok (r r2 : Fl) (n n2 base : Int) (N : Nat) : ACalls Tryz.prog 137 [sAV r n base N, tAV r2 n2] [] (Ret (sAV r2 n2 base N)) := by
 obtain ⟨pg, sf, lo, fu, dn, dc⟩ := r
 obtain ⟨pg2, sf2, lo2, fu2, dn2, dc2⟩ := r2
 refine jen cl_137 Tryz.func137 (h := ?_)
 refine jr (own := [2, 3, 4]) (h := ?_)
 refine jnb (hh := fun b2 hb2 => ?_)
 simp only [fresh] at hb2
 refine jr (own := [2, 3, 4]) (h := ?_)
 refine jnb (hh := fun b3 hb3 => ?_)
 simp only [fresh] at hb3
 refine jr (own := [2, 3, 4]) (h := ?_)
 refine jnv (hh := fun b4 hb4 => ?_)
 simp only [fresh] at hb4
 refine jf (own := [5]) (cB hb2 hb3 hb4) (h := ?_)
 refine jnv (hh := fun b5 hb5 => ?_)
 simp only [fresh] at hb5
 refine jf (cC hb2 hb3 hb4 hb5) (h := ?_)
 refine J_forget ?_
 refine jretf (cC hb2 hb3 hb4 hb5) Tryz.func137 (h := ⟨rfl, rfl⟩)
theorem rmay_ok (r : Fl) (n base : Int) (N i : Nat) (k : List UInt8) (hk : k.length < 2 ^ 62) (h0 : 0 < N) (hN : N ≤ 4096) (hsl : slotE (hash64 k) N = i) (hw : r.WF) (h1 : ∀ p ∈ r.safe, p.2.length = 256) (h2 : ∀ p ∈ r.loose, ∀ b, p.2 = some b → b.length = 256) (h3 : r.safe.length < 2 ^ 60) (h4 : r.loose.length < 2 ^ 60) (hb : 0 ≤ base ∧ base ≤ 4096) :
   ACalls Tryz.prog 89 [sAV r n base N, .c (.string (mkStr k))] [] (Ret (.c (.bool (mayR ((keysE (pgE r (base + i))).map hash64) (hash64 k))))) := by
 have hlt : i < N := hsl ▸ slotE_lt h0
 have hbk := rbucket_ok r n base N k hk h0 hN
 rw [hsl] at hbk
 have hpg := rpage_ok r n base N i h1 h2 h3 h4 hb (by omega)
 have hpw := pgE_w hw (base + i)
 have hke := keys12_ok (pgE r (base + i)) (by omega)
 have hkl : (keysE (pgE r (base + i))).length ≤ 256 := by unfold keysE; rw [List.length_map]; exact hpw.2.1
 have hk7 := keys07_ok (keysE (pgE r (base + i))) (by omega) (fun y hy => by
   obtain ⟨x, hx, rfl⟩ := List.mem_map.1 hy
   have := (hpw.1 x hx).k2; omega)
 have hmy := may07_ok ((keysE (pgE r (base + i))).map hash64) (hash64 k) (fun y hy => by obtain ⟨x, -, rfl⟩ := List.mem_map.1 hy; exact hash_in x) (hash_in k) (by rw [List.length_map]; omega)
 have hh := rhash_ok k hk
 clear hsl hkl
 generalize mayR ((keysE (pgE r (base + i))).map hash64) (hash64 k) = o at *
 generalize (keysE (pgE r (base + i))).map hash64 = hs at *
 generalize hash64 k = h at *
 generalize keysE (pgE r (base + i)) = ks at *
 generalize pgE r (base + i) = l at *
 obtain ⟨pg, sf, lo, fu, dn, dc⟩ := r
 simp only at *
 refine jen cl_89 Tryz.func89 (h := ?_)
 refine jr (own := [2]) (h := ?_)
 refine jnb (hh := fun b2 hb2 => ?_)
 simp only [fresh] at hb2
 refine jr (h := ?_)
 refine jd [(0, .read), (1, .read), (2, .pure), (3, .pure), (4, .pure), (5, .pure)] mixed (by kernel_rfl) ?_
 refine cf hb2 (hk := ?_)
 refine ccp (hs := hbk) (hk := ?_)
 refine cf hb2 (hk := ?_)
 refine ccp (hs := hpg) (hk := ?_)
 refine cr (hk := ?_)
 refine Can_nil ?_
 refine jr (h := ?_)
 refine jc (hs := hke) (hk := ?_)
 refine jr (h := ?_)
 refine jc (hs := hk7) (hk := ?_)
 refine jr (h := ?_)
 refine jc (hs := hh) (hk := ?_)
 refine jr (h := ?_)
 refine jc (hs := hmy) (hk := ?_)
 refine jr (h := ?_)
 refine J_forget ?_
 refine jret Tryz.func89 (h := ⟨rfl, rfl⟩)
end
section
attribute [local go_sem] Entry.av Entry.cells sAV tAV
def wrR (r : Fl) (n : Int) (base : Int) (i : Nat) (l : List Entry) : Int × Fl × Int :=
 (tfirmC r n (base + i) 1 (allB l), tfirm04S r n (base + i) 1 (allB l), tputN r n (base + i) 1 (allB l))
def rrmS (r : Fl) (n : Int) (base : Int) (i : Nat) (k : List UInt8) : Bool × Int × Fl × Int :=
 if r.down = true then (false, 11, r, n) else if findI (pgE r (base + i)) k < 0 then (false, 0, r, n)
 else (decide ((wrR r n base i (rmE (pgE r (base + i)) k)).1 = 0), wrR r n base i (rmE (pgE r (base + i)) k))
theorem rremove_ok (r : Fl) (n base : Int) (N i : Nat) (k : List UInt8) (hk : k.length < 2 ^ 62) (h0 : 0 < N) (hN : N ≤ 4096) (hsl : slotE (hash64 k) N = i) (hw : r.WF) (hw' : r.WF') (hll : r.loose.length < 2 ^ 29) (hn : n < 4611686018427387904) (hw2 : ∀ at_ b, (tputS r n at_ 1 b).R) (h1 : ∀ p ∈ r.safe, p.2.length = 256) (h2 : ∀ p ∈ r.loose, ∀ b, p.2 = some b → b.length = 256) (h3 : r.safe.length < 2 ^ 60) (h4 : r.loose.length < 2 ^ 60) (hb : 0 ≤ base ∧ base ≤ 4096) :
   ACalls Tryz.prog 90 [sAV r n base N, .c (.string (mkStr k))] [] (Ret (.tup [sAV (rrmS r n base i k).2.2.1 (rrmS r n base i k).2.2.2 base N, .c (.bool (rrmS r n base i k).1), .c (.int .i64 (rrmS r n base i k).2.1)])) := by
 have hlt : i < N := hsl ▸ slotE_lt h0
 have hbk := rbucket_ok r n base N k hk h0 hN
 rw [hsl] at hbk
 have hpg := rpage_ok r n base N i h1 h2 h3 h4 hb (by omega)
 have hpw := pgE_w hw (base + i)
 have hfi := find_ok (pgE r (base + i)) k (by omega)
 have hrl := rmE_len (pgE r (base + i)) k
 have hrw : ∀ y ∈ rmE (pgE r (base + i)) k, EntW y := fun y hy => hpw.1 y (rmE_mem hy)
 have hbt := but_ok (pgE r (base + i)) k (by omega)
 rw [← rm_but k hpw.2.2] at hbt
 have hal := rall_ok (rmE (pgE r (base + i)) k) hrw (by omega)
 have hbd := allB_bd hrw
 have hfm := firm10_ok r n hn hw' hll (base + i) 1 (allB (rmE (pgE r (base + i)) k)) (by omega) (hw2 _ _)
 have hwt := fun (r2 : Fl) (n2 : Int) => with_ok r r2 n n2 base N
 have hW : wrR r n base i (rmE (pgE r (base + i)) k) = (tfirmC r n (base + i) 1 (allB (rmE (pgE r (base + i)) k)), tfirm04S r n (base + i) 1 (allB (rmE (pgE r (base + i)) k)), tputN r n (base + i) 1 (allB (rmE (pgE r (base + i)) k))) := rfl
 unfold rrmS
 rw [hW]
 clear hsl hW hbd hrw hrl
 generalize tfirmC r n (base + i) 1 (allB (rmE (pgE r (base + i)) k)) = C at *
 generalize tfirm04S r n (base + i) 1 (allB (rmE (pgE r (base + i)) k)) = S at *
 generalize tputN r n (base + i) 1 (allB (rmE (pgE r (base + i)) k)) = n2 at *
 generalize allB (rmE (pgE r (base + i)) k) = bb at *
 generalize rmE (pgE r (base + i)) k = l2 at *
 generalize pgE r (base + i) = l at *
 have hwt := hwt S n2
 clear hw hw' hw2
 obtain ⟨pg, sf, lo, fu, dn, dc⟩ := r
 obtain ⟨pg2, sf2, lo2, fu2, dn2, dc2⟩ := S
 simp only at *
 refine jen cl_90 Tryz.func90 (h := ?_)
 refine jr (own := [2, 4]) (h := ?_)
 refine jnb (hh := fun b2 hb2 => ?_)
 simp only [fresh] at hb2
 refine jr (own := [2, 4]) (h := ?_)
 refine jnv (hh := fun b4 hb4 => ?_)
 simp only [fresh] at hb4
 refine jf (cA hb2 hb4) (h := ?_)
 by_cases hd : dn = true
 · subst hd
   simp only [if_true]
   refine jt (h := ?_)
   refine jf (cA hb2 hb4) (h := ?_)
   refine J_forget ?_
   refine jretf (cA hb2 hb4) Tryz.func90 (h := ⟨rfl, rfl⟩)
 · obtain rfl : dn = false := by cases dn; rfl; exact absurd rfl hd
   simp only [if_neg hd]
   refine jn (h := ?_)
   refine jf (cA hb2 hb4) (h := ?_)
   refine jc (hs := hbk) (hk := ?_)
   refine jf (cA hb2 hb4) (h := ?_)
   refine jc (hs := hpg) (hk := ?_)
   refine jf (cA hb2 hb4) (h := ?_)
   refine jc (hs := hfi) (hk := ?_)
   refine jf (cA hb2 hb4) (h := ?_)
   by_cases hneg : findI l k < 0
   · simp only [if_pos hneg]
     refine jif (h1 := fun _ => ?_) (h2 := fun hc => absurd (by exact hneg) hc)
     refine jf (cA hb2 hb4) (h := ?_)
     refine J_forget ?_
     refine jretf (cA hb2 hb4) Tryz.func90 (h := ⟨rfl, rfl⟩)
   · simp only [if_neg hneg]
     refine jif (h1 := fun hc => absurd hc (by exact hneg)) (h2 := fun _ => ?_)
     refine jr (h := ?_)
     refine jd [(0, .pure), (1, .read), (2, .pure), (3, .read), (4, .pure), (5, .pure), (6, .pure), (7, .pure), (8, .pure), (9, .pure), (10, .pure), (11, .pure), (12, .pure), (13, .pure), (14, .new), (15, .act), (16, .pure)] mixed (by kernel_rfl) ?_
     refine cf (cA hb2 hb4) (hk := ?_)
     refine ccp (hs := hbt) (hk := ?_)
     refine cf (cA hb2 hb4) (hk := ?_)
     refine ccp (hs := hal) (hk := ?_)
     refine cf (cA hb2 hb4) (hk := ?_)
     refine ccp (hs := hfm) (hk := ?_)
     refine cf (cA hb2 hb4) (hk := ?_)
     refine cnv (hk := fun b9 hb9 => ?_)
     simp only [fresh] at hb9
     refine cf (cB hb2 hb4 hb9) (hk := ?_)
     refine Can_nil ?_
     refine jf (cB hb2 hb4 hb9) (h := ?_)
     refine jc (hs := hwt) (hk := ?_)
     refine jf (cB hb2 hb4 hb9) (h := ?_)
     refine J_forget ?_
     refine jretf (cB hb2 hb4 hb9) Tryz.func90 (h := ⟨rfl, rfl⟩)
end
end Go.Proofs.YtjppajaoekbkpaaGreatDoor
