/- A part of the proof: what the calls do, told by values. -/
import Derived.Test.YtjppajaoekbkpaaGreatDoorB9
set_option linter.unusedVariables false
set_option linter.unusedSimpArgs false
set_option maxRecDepth 100000
set_option maxHeartbeats 4000000
namespace Go.Proofs.YtjppajaoekbkpaaGreatDoor
open Go Go.Av
attribute [local go_sem] packed List.set_cons_zero List.set_cons_succ List.cons_append List.nil_append bytesRows_length cellRows_len chRows_len rCells intRows_len
attribute [-go_sem] cellsOf AV.isCell
attribute [local go_sem] cellsOf_agg cellsOf_int cellsOf_bool cellsOf_str cellsOf_map cellsOf_ptr cellsOf_nilI cellsOf_slice cellsOf_sl cellsOf_ifc cellsOf_fp cellsOf_opt optAV_cell icell_int icell_bool icell_str icell_map icell_ptr icell_nilI icell_slice icell_sl icell_ifc icell_fp
attribute [local go_sem] rowsBytes_bytesRows Option.map_some Int.cast_ofNat_Int getBox_GL setBox_GL fresh_GL sAV tAV
section
theorem do13_b {sm t f fb : Nat} {a : SS} {c : List (Int × List UInt8)} {m : Nat} {D : List HP} (hO : OwnF f a.s D) (hrel : Rel a.s c m) (hm : m < 536870000) (hn : 1 ≤ a.n ∧ a.n ≤ 1099511627777) (hS : SI a.s a.fs) (h1 : sm ≠ fb) (h2 : sm ≠ t) (h3 : fb ≠ t) (h1' : fb ≠ sm) (h2' : t ≠ sm) (h3' : t ≠ fb) (o : Op13) (ho : OpB o) (hk : o.kind = 2 ∨ o.kind = 6) :
   ACalls Tryz.prog 35 [ptr sm, ptr t, sAV (wc a.s c) a.n 2 4, .agg o.cells] (smB sm t 2 fb 4 :: smF fb a.fs :: tbox t f a.n :: GL :: D)
     (fun r D' => ∃ c' D1, r = .ret (.tup [sAV (wc (a.step o).s c') (a.step o).n 2 4, .c (.bool true)]) ∧ Rel (a.step o).s c' (m + 5) ∧ OwnF f (a.step o).s D1 ∧ D' = smB sm t 2 fb 4 :: smF fb (a.step o).fs :: tbox t f (a.step o).n :: GL :: D1) := by
 have hwf := hrel.b.wf (by omega)
 have hwt := fun at_ b => (hrel.put a.n at_ 1 b).b.wf (by omega)
 have hR := B_R hrel.rb (by omega)
 have hw' := hR.w
 have hRt : ∀ at_ b, (tputS (wc a.s c) a.n at_ 1 b).R := fun at_ b => by rw [tputS_wc]; exact B_R (hrel.put a.n at_ 1 b).rb (by omega)
 have hl29 : (wc a.s c).loose.length < 2 ^ 29 := by show a.s.loose.length < 2 ^ 29; have := hrel.len; omega
 have hrw := hrel.rb.wf (by omega)
 have hr1 := hrel.rb.safe.page
 have hr2 := hrel.rb.lpage
 have hr3 : (wc a.s c).safe.length < 2 ^ 60 := by have := hrel.rb.len; omega
 have hr4 : (wc a.s c).loose.length < 2 ^ 60 := by omega
 obtain ⟨s, n, fs⟩ := a
 obtain ⟨kd, x, fn, keep⟩ := o
 have hkb : x.key.length < 2 ^ 62 := by have := ho.key; simp only at this; omega
 have hvb : x.val.length < 2 ^ 62 := by have := ho.val; simp only at this; omega
 have hon : fn < 9223372036854775808 := ho.n
 obtain ⟨i, hi⟩ : ∃ i, slotE (hash64 x.key) 4 = i := ⟨_, rfl⟩
 have hi' : slK x.key = i := hi
 have hlt : i < 4 := hi ▸ slotE_lt (by decide)
 have hpw := pgE_wc hrel
 simp only at *
 unfold Op13.cells
 simp only
 have hk0 : ¬ kd = 0 := by omega
 have hk1 : ¬ kd = 1 := by omega
 by_cases hk2 : kd = 2
 · have hst : SS.step ⟨s, n, fs⟩ ⟨kd, x, fn, keep⟩ = SS.rm ⟨s, n, fs⟩ x.key := by unfold SS.step; rw [if_neg hk0, if_neg hk1, if_pos hk2]
   rw [hst]
   unfold SS.rm
   simp only [hi']
   obtain ⟨c2, hw1, hrel2⟩ := rm_wc hrel n 2 i x.key fs
   have hp := rremove_ok (wc s c) n 2 4 i x.key hkb (by decide) (by decide) hi hrw hw' hl29 (by omega) hRt hr1 hr2 hr3 hr4 (by decide)
   rw [hw1] at hp
   have hq := sremove_ok (sm := sm) (t := t) (fb := fb) (fs := fs) (i := i) (k := x.key) (N := 4) (base := 2) hkb hO hwf hwt (by omega) (by decide) hS.l4 hi (by decide) (by decide) h1 h2 h3
   clear hst hw1
   generalize rmS s n 2 i x.key fs = W at *
   obtain ⟨ok, C, s2, n2, fs2⟩ := W
   simp only at *
   refine jen cl_35 Tryz.func35 (h := ?_)
   refine jr (own := [8]) (h := ?_)
   refine jnv (hh := fun b8 hb8 => ?_)
   simp only [fresh, fresh_GL] at hb8
   refine jf hb8 (h := ?_)
   refine jif (h1 := fun hc => absurd hc (by exact hk0)) (h2 := fun _ => ?_)
   refine jf hb8 (h := ?_)
   refine jif (h1 := fun hc => absurd hc (by exact hk1)) (h2 := fun _ => ?_)
   refine jf hb8 (h := ?_)
   refine jif (h1 := fun _ => ?_) (h2 := fun hc => absurd (by exact hk2) hc)
   refine jf hb8 (h := ?_)
   refine jc (hs := hp) (hk := ?_)
   refine jf (own := [20]) hb8 (h := ?_)
   refine jnv (hh := fun b20 hb20 => ?_)
   simp only [fresh, fresh_GL] at hb20
   refine jmf 1 (cA hb8 hb20) (h := ?_)
   refine J_freeze (s := 20) (o := 0) (by simp only [go_sem]) ?_
   simp only [List.drop_zero]
   refine jf hb8 (h := ?_)
   refine jcs (Fr := []) (hs := (hq.under1 _)) (hp := (by rw [List.append_nil])) (hk := ?_) (hpan := (by rintro x Δ' ⟨_, ⟨e, D1, h, _⟩, _⟩; cases h))
   rintro z _ ⟨_, ⟨er, D1, h, he, hO1, rfl⟩, rfl⟩
   cases h
   rw [List.append_nil]
   refine jf hb8 (h := ?_)
   refine jd [(0, .pure), (1, .pure), (2, .pure), (3, .pure), (4, .pure), (5, .pure), (6, .read), (7, .pure), (8, .pure), (9, .pure), (10, .act), (11, .pure)] mixed (by kernel_rfl) ?_
   refine cq hb8 (hk := ?_)
   refine ccr (hs := ((of_ok he).globKeep (by simp [GL]))) (hk := ?_)
   refine cq hb8 (hk := ?_)
   refine Can_nil ?_
   refine J_forgetP ?_
   refine jretf hb8 Tryz.func35 (h := ⟨[_], _, List.Perm.refl _, c2, D1, rfl, hrel2.mono (by omega), hO1, rfl⟩)
 · have hk6 : kd = 6 := by omega
   have hst : SS.step ⟨s, n, fs⟩ ⟨kd, x, fn, keep⟩ = SS.pur ⟨s, n, fs⟩ x.key x.asof := by unfold SS.step; rw [if_neg hk0, if_neg hk1, if_neg hk2, if_pos hk6]
   rw [hst]
   unfold SS.pur
   simp only [hi']
   have hhk := bhash_ok x.key hkb
   have hin := hash_in x.key
   generalize hash64 x.key = hh at *
   obtain ⟨c2, hw1, hrel2⟩ := pur_wc hrel n 2 i hh x.asof fs
   have hp := rpurge13_ok (wc s c) n 2 4 i hh x.asof hin (by decide) (by decide) hi hrw hw' hl29 (by omega) hRt hr1 hr2 hr3 hr4 (by decide)
   rw [hw1] at hp
   have hq := spurge_ok (sm := sm) (t := t) (fb := fb) (fs := fs) (i := i) (a := x.asof) (N := 4) (base := 2) hin hO hwf hwt (by omega) (by decide) hS.l4 hi (by decide) (by decide) h1 h2 h3
   clear hst hw1
   generalize purS s n 2 i hh x.asof fs = W at *
   obtain ⟨cnt, C, s2, n2, fs2⟩ := W
   simp only at *
   refine jen cl_35 Tryz.func35 (h := ?_)
   refine jr (own := [8]) (h := ?_)
   refine jnv (hh := fun b8 hb8 => ?_)
   simp only [fresh, fresh_GL] at hb8
   refine jf hb8 (h := ?_)
   refine jif (h1 := fun hc => absurd hc (by exact hk0)) (h2 := fun _ => ?_)
   refine jf hb8 (h := ?_)
   refine jif (h1 := fun hc => absurd hc (by exact hk1)) (h2 := fun _ => ?_)
   refine jf hb8 (h := ?_)
   refine jif (h1 := fun hc => absurd hc (by exact hk2)) (h2 := fun _ => ?_)
   refine jf hb8 (h := ?_)
   refine jif (h1 := fun _ => ?_) (h2 := fun hc => absurd (by exact hk6) hc)
   refine jf hb8 (h := ?_)
   refine jd [(0, .pure), (1, .pure), (2, .pure), (3, .pure), (4, .pure), (5, .pure), (6, .pure), (7, .pure), (8, .pure), (9, .pure), (10, .pure), (11, .pure), (12, .pure), (13, .new), (14, .act), (15, .pure), (16, .pure)] mixed (by kernel_rfl) ?_
   refine cf hb8 (hk := ?_)
   refine ccp (hs := hhk) (hk := ?_)
   refine cf hb8 (hk := ?_)
   refine ccp (hs := hp) (hk := ?_)
   refine cf hb8 (hk := ?_)
   refine cnv (hk := fun b25 hb25 => ?_)
   simp only [fresh, fresh_GL] at hb25
   refine cf (cA hb8 hb25) (hk := ?_)
   refine Can_nil ?_
   refine J_freeze (s := 25) (o := 0) (by simp only [go_sem]) ?_
   simp only [List.drop_zero]
   refine jf hb8 (h := ?_)
   refine jd [(0, .pure), (1, .pure), (2, .pure), (3, .pure), (4, .pure), (5, .pure), (6, .pure), (7, .pure), (8, .act), (9, .pure), (10, .pure), (11, .pure), (12, .pure), (13, .pure)] mixed (by kernel_rfl) ?_
   refine cf hb8 (hk := ?_)
   refine ccp (hs := hhk) (hk := ?_)
   refine cf hb8 (hk := ?_)
   refine ccs (Fr := []) (hs := (hq.under1 _)) (hp := (by rw [List.append_nil])) (hk := ?_) (hn := (by rintro x Δ' ⟨_, ⟨e, D1, h, _⟩, _⟩; cases h))
   rintro z _ ⟨_, ⟨er, D1, h, he, hO1, rfl⟩, rfl⟩
   cases h
   rw [List.append_nil]
   refine cf hb8 (hk := ?_)
   refine Can_nil ?_
   refine jf hb8 (h := ?_)
   refine jd [(0, .pure), (1, .pure), (2, .pure), (3, .pure), (4, .pure), (5, .pure), (6, .read), (7, .pure), (8, .pure), (9, .pure), (10, .act), (11, .pure)] mixed (by kernel_rfl) ?_
   refine cq hb8 (hk := ?_)
   refine ccr (hs := ((of_ok he).globKeep (by simp [GL]))) (hk := ?_)
   refine cq hb8 (hk := ?_)
   refine Can_nil ?_
   refine J_forgetP ?_
   refine jretf hb8 Tryz.func35 (h := ⟨[_], _, List.Perm.refl _, c2, D1, rfl, hrel2.mono (by omega), hO1, rfl⟩)
end
section
theorem do13_c {sm t f fb : Nat} {a : SS} {c : List (Int × List UInt8)} {m : Nat} {D : List HP} (hO : OwnF f a.s D) (hrel : Rel a.s c m) (hm : m < 536870000) (hn : 1 ≤ a.n ∧ a.n ≤ 1099511627777) (hS : SI a.s a.fs) (h1 : sm ≠ fb) (h2 : sm ≠ t) (h3 : fb ≠ t) (h1' : fb ≠ sm) (h2' : t ≠ sm) (h3' : t ≠ fb) (o : Op13) (ho : OpB o) (hk : o.kind ≠ 0 ∧ o.kind ≠ 1 ∧ o.kind ≠ 2 ∧ o.kind ≠ 6) :
   ACalls Tryz.prog 35 [ptr sm, ptr t, sAV (wc a.s c) a.n 2 4, .agg o.cells] (smB sm t 2 fb 4 :: smF fb a.fs :: tbox t f a.n :: GL :: D)
     (fun r D' => ∃ c' D1, r = .ret (.tup [sAV (wc (a.step o).s c') (a.step o).n 2 4, .c (.bool true)]) ∧ Rel (a.step o).s c' (m + 5) ∧ OwnF f (a.step o).s D1 ∧ D' = smB sm t 2 fb 4 :: smF fb (a.step o).fs :: tbox t f (a.step o).n :: GL :: D1) := by
 have hwf := hrel.b.wf (by omega)
 have hwt := fun at_ b => (hrel.put a.n at_ 1 b).b.wf (by omega)
 have hR := B_R hrel.rb (by omega)
 have hw' := hR.w
 have hRt : ∀ at_ b, (tputS (wc a.s c) a.n at_ 1 b).R := fun at_ b => by rw [tputS_wc]; exact B_R (hrel.put a.n at_ 1 b).rb (by omega)
 have hl29 : (wc a.s c).loose.length < 2 ^ 29 := by show a.s.loose.length < 2 ^ 29; have := hrel.len; omega
 have hrw := hrel.rb.wf (by omega)
 have hr1 := hrel.rb.safe.page
 have hr2 := hrel.rb.lpage
 have hr3 : (wc a.s c).safe.length < 2 ^ 60 := by have := hrel.rb.len; omega
 have hr4 : (wc a.s c).loose.length < 2 ^ 60 := by omega
 obtain ⟨s, n, fs⟩ := a
 obtain ⟨kd, x, fn, keep⟩ := o
 have hkb : x.key.length < 2 ^ 62 := by have := ho.key; simp only at this; omega
 have hvb : x.val.length < 2 ^ 62 := by have := ho.val; simp only at this; omega
 have hon : fn < 9223372036854775808 := ho.n
 obtain ⟨i, hi⟩ : ∃ i, slotE (hash64 x.key) 4 = i := ⟨_, rfl⟩
 have hi' : slK x.key = i := hi
 have hlt : i < 4 := hi ▸ slotE_lt (by decide)
 have hpw := pgE_wc hrel
 simp only at *
 unfold Op13.cells
 simp only
 obtain ⟨hk0, hk1, hk2, hk6⟩ := hk
 by_cases hk3 : kd = 3
 · have hst : SS.step ⟨s, n, fs⟩ ⟨kd, x, fn, keep⟩ = SS.clr ⟨s, n, fs⟩ := by unfold SS.step; rw [if_neg hk0, if_neg hk1, if_neg hk2, if_neg hk6, if_pos hk3]
   rw [hst]
   unfold SS.clr
   simp only
   obtain ⟨c2, hw1, hrel2⟩ := clr_wc hrel 2 4 fs
   have hp := rclear13_ok (wc s c) n 2 4 (by decide) (by decide) (fun k hk => by
     have hk4 := hrel.trimN 2 k
     rw [trimN_wc]
     have hrb := B_R hk4.rb (by omega)
     have := hk4.len
     exact ⟨hrb.w, by show (trimN s 2 k).2.loose.length < 2 ^ 29; omega⟩) (by
     have hk4 := hrel.trimN 2 4
     rw [trimN_wc]
     exact B_R hk4.rb (by omega))
   rw [hw1] at hp
   have hq := sclear_ok (sm := sm) (t := t) (fb := fb) (fs := fs) (N := 4) (n := n) (base := 2) hO (fun k hk => (trimN_B hrel.b 2 k).wf (by omega)) (by decide) hS.l4 (by decide) (by decide) h1 h1'
   clear hst hw1
   generalize clearS s 2 4 fs = W at *
   obtain ⟨C, s2, fs2⟩ := W
   simp only at *
   refine jen cl_35 Tryz.func35 (h := ?_)
   refine jr (own := [8]) (h := ?_)
   refine jnv (hh := fun b8 hb8 => ?_)
   simp only [fresh, fresh_GL] at hb8
   refine jf hb8 (h := ?_)
   refine jif (h1 := fun hc => absurd hc (by exact hk0)) (h2 := fun _ => ?_)
   refine jf hb8 (h := ?_)
   refine jif (h1 := fun hc => absurd hc (by exact hk1)) (h2 := fun _ => ?_)
   refine jf hb8 (h := ?_)
   refine jif (h1 := fun hc => absurd hc (by exact hk2)) (h2 := fun _ => ?_)
   refine jf hb8 (h := ?_)
   refine jif (h1 := fun hc => absurd hc (by exact hk6)) (h2 := fun _ => ?_)
   refine jf hb8 (h := ?_)
   refine jif (h1 := fun _ => ?_) (h2 := fun hc => absurd (by exact hk3) hc)
   refine jf hb8 (h := ?_)
   refine jc (hs := hp) (hk := ?_)
   refine jf (own := [30]) hb8 (h := ?_)
   refine jnv (hh := fun b30 hb30 => ?_)
   simp only [fresh, fresh_GL] at hb30
   refine jmf 1 (cA hb8 hb30) (h := ?_)
   refine J_freeze (s := 30) (o := 0) (by simp only [go_sem]) ?_
   simp only [List.drop_zero]
   refine jf hb8 (h := ?_)
   refine jd [(0, .pure), (1, .pure), (4, .pure), (2, .act), (3, .read), (5, .pure), (6, .act), (7, .pure)] mixed (by kernel_rfl) ?_
   refine cf hb8 (hk := ?_)
   refine ccs (Fr := []) (hs := (hq.under1 _)) (hp := (by rw [List.append_nil])) (hk := ?_) (hn := (by rintro x Δ' ⟨_, ⟨e, D1, h, _⟩, _⟩; cases h))
   rintro z _ ⟨_, ⟨er, D1, h, he, hO1, rfl⟩, rfl⟩
   cases h
   rw [List.append_nil]
   refine cf hb8 (hk := ?_)
   refine ccr (hs := ((of_ok he).globKeep (by simp [GL]))) (hk := ?_)
   refine cq hb8 (hk := ?_)
   refine Can_nil ?_
   refine J_forgetP ?_
   refine jretf hb8 Tryz.func35 (h := ⟨[_], _, List.Perm.refl _, c2, D1, rfl, hrel2, hO1, rfl⟩)
 · by_cases hk4 : kd = 4
   · have hst : SS.step ⟨s, n, fs⟩ ⟨kd, x, fn, keep⟩ = ⟨fuseS s fn, n, fs⟩ := by unfold SS.step; rw [if_neg hk0, if_neg hk1, if_neg hk2, if_neg hk6, if_neg hk3, if_pos hk4]
     rw [hst]
     simp only
     have hp2 := fuse04_ok (wc s c) fn
     rw [show fuseS (wc s c) fn = wc (fuseS s fn) c from rfl] at hp2
     have hq := fuse_ok hO fn
     have hr5 := (hrel.fuse hon).mono (Nat.le_add_right m 5)
     unfold rAV at hp2
     clear hst
     generalize fuseS s fn = s2 at *
     refine jen cl_35 Tryz.func35 (h := ?_)
     refine jr (own := [8]) (h := ?_)
     refine jnv (hh := fun b8 hb8 => ?_)
     simp only [fresh, fresh_GL] at hb8
     refine jf hb8 (h := ?_)
     refine jif (h1 := fun hc => absurd hc (by exact hk0)) (h2 := fun _ => ?_)
     refine jf hb8 (h := ?_)
     refine jif (h1 := fun hc => absurd hc (by exact hk1)) (h2 := fun _ => ?_)
     refine jf hb8 (h := ?_)
     refine jif (h1 := fun hc => absurd hc (by exact hk2)) (h2 := fun _ => ?_)
     refine jf hb8 (h := ?_)
     refine jif (h1 := fun hc => absurd hc (by exact hk6)) (h2 := fun _ => ?_)
     refine jf hb8 (h := ?_)
     refine jif (h1 := fun hc => absurd hc (by exact hk3)) (h2 := fun _ => ?_)
     refine jf hb8 (h := ?_)
     refine jif (h1 := fun _ => ?_) (h2 := fun hc => absurd (by exact hk4) hc)
     refine jf hb8 (h := ?_)
     refine jd [(0, .pure), (1, .pure), (2, .pure), (3, .read), (4, .pure), (5, .pure), (6, .act)] mixed (by kernel_rfl) ?_
     refine cf (cD hb8 h1 h1' h2 (cB h2' h3 h3')) (hk := ?_)
     refine ccs (Fr := []) (hs := (hq.under5 _ _ _ _ GL)) (hp := (by rw [List.append_nil])) (hk := ?_) (hn := (by rintro x Δ' ⟨_, ⟨h, _⟩, _⟩; cases h))
     rintro z _ ⟨D2, ⟨h, hO2⟩, rfl⟩
     cases h
     rw [List.append_nil]
     refine cr (hk := ?_)
     refine Can_nil ?_
     refine jf (own := [32]) hb8 (h := ?_)
     refine jnv (hh := fun b32 hb32 => ?_)
     simp only [fresh, fresh_GL] at hb32
     refine jf (cA hb8 hb32) (h := ?_)
     refine jc (hs := hp2) (hk := ?_)
     refine jf (cA hb8 hb32) (h := ?_)
     refine J_forgetP ?_
     refine jretf (cA hb8 hb32) Tryz.func35 (h := ⟨[_, _], _, List.Perm.refl _, c, D2, rfl, hr5, hO2, rfl⟩)
   · have hst : SS.step ⟨s, n, fs⟩ ⟨kd, x, fn, keep⟩ = ⟨s, n, fs⟩ := by unfold SS.step; rw [if_neg hk0, if_neg hk1, if_neg hk2, if_neg hk6, if_neg hk3, if_neg hk4]
     rw [hst]
     simp only
     refine jen cl_35 Tryz.func35 (h := ?_)
     refine jr (own := [8]) (h := ?_)
     refine jnv (hh := fun b8 hb8 => ?_)
     simp only [fresh, fresh_GL] at hb8
     refine jf hb8 (h := ?_)
     refine jif (h1 := fun hc => absurd hc (by exact hk0)) (h2 := fun _ => ?_)
     refine jf hb8 (h := ?_)
     refine jif (h1 := fun hc => absurd hc (by exact hk1)) (h2 := fun _ => ?_)
     refine jf hb8 (h := ?_)
     refine jif (h1 := fun hc => absurd hc (by exact hk2)) (h2 := fun _ => ?_)
     refine jf hb8 (h := ?_)
     refine jif (h1 := fun hc => absurd hc (by exact hk6)) (h2 := fun _ => ?_)
     refine jf hb8 (h := ?_)
     refine jif (h1 := fun hc => absurd hc (by exact hk3)) (h2 := fun _ => ?_)
     refine jf hb8 (h := ?_)
     refine jif (h1 := fun hc => absurd hc (by exact hk4)) (h2 := fun _ => ?_)
     refine jf hb8 (h := ?_)
     refine J_forgetP ?_
     refine jretf hb8 Tryz.func35 (h := ⟨[_], _, List.Perm.refl _, c, D, rfl, hrel.mono (by omega), hO, rfl⟩)
theorem do13_ok {sm t f fb : Nat} {a : SS} {c : List (Int × List UInt8)} {m : Nat} {D : List HP} (hO : OwnF f a.s D) (hrel : Rel a.s c m) (hm : m < 536870000) (hn : 1 ≤ a.n ∧ a.n ≤ 1099511627777) (hS : SI a.s a.fs) (h1 : sm ≠ fb) (h2 : sm ≠ t) (h3 : fb ≠ t) (o : Op13) (ho : OpB o) :
   ACalls Tryz.prog 35 [ptr sm, ptr t, sAV (wc a.s c) a.n 2 4, .agg o.cells] (smB sm t 2 fb 4 :: smF fb a.fs :: tbox t f a.n :: GL :: D)
     (fun r D' => ∃ c' D1, r = .ret (.tup [sAV (wc (a.step o).s c') (a.step o).n 2 4, .c (.bool true)]) ∧ Rel (a.step o).s c' (m + 5) ∧ OwnF f (a.step o).s D1 ∧ D' = smB sm t 2 fb 4 :: smF fb (a.step o).fs :: tbox t f (a.step o).n :: GL :: D1) := by
 by_cases hk : o.kind = 0 ∨ o.kind = 1
 · exact do13_a hO hrel hm hn hS h1 h2 h3 h1.symm h2.symm h3.symm o ho hk
 · by_cases hk2 : o.kind = 2 ∨ o.kind = 6
   · exact do13_b hO hrel hm hn hS h1 h2 h3 h1.symm h2.symm h3.symm o ho hk2
   · exact do13_c hO hrel hm hn hS h1 h2 h3 h1.symm h2.symm h3.symm o ho ⟨fun h => hk (.inl h), fun h => hk (.inr h), fun h => hk2 (.inl h), fun h => hk2 (.inr h)⟩
end
section
theorem permE (x a b g : HP) (D : List HP) : ((x :: D) ++ [a, b, g]).Perm (x :: g :: D ++ [a, b]) :=
 .cons x (by simpa using List.perm_append_comm (l₁ := D ++ [a, b]) (l₂ := [g]))
theorem again13g {t f : Nat} {s s' : Fl} {n n' : Int} {c : List (Int × List UInt8)} {m m' : Nat} {D : List HP} (hO : OwnF f s D) (hB : s.B m) (hm : m < 536870000) (hp9 : s.pages = 9) (hrel : Rel s' c m') (hm' : m' < 536870000) (hp9' : s'.pages = 9) (keep : List Int) (hk : keep.length < 2 ^ 37) :
   ACalls Tryz.prog 46 [ptr t, sAV (wc s' c) n' 2 4, .sl 1 (intRows keep)] (tbox t f n :: GL :: D)
     (fun r D' => ∃ t' sm fb c' D1, r = .ret (.tup [ptr t', ptr sm, sAV (wc (crashS s' keep) c') (nextF (crashS s' keep)) 2 4]) ∧ Rel (crashS s' keep) c' m' ∧ OwnF f (crashS s keep) D1 ∧ D' = smB sm t' 2 fb 4 :: smF fb (openFs (crashS s keep) 2 4) :: tbox t' f (nextF (crashS s keep)) :: GL :: D1) := by
 have hwf := hB.wf (by omega)
 have hR := B_R hrel.rb (by omega)
 have hp2 := crash04_ok (wc s' c) hR keep hk
 rw [show crash04S (wc s' c) keep = wc (crashS s' keep) (settleKeepC c s'.loose keep) from rfl] at hp2
 have hq := crash_ok hO hwf keep hk
 have hr2 := hrel.crash keep
 have hB2 := crashS_B hB keep
 have hp3 : (crashS s keep).pages = 9 := hp9
 have hp3' : (crashS s' keep).pages = 9 := hp9'
 have hd2 : (crashS s keep).down = false := rfl
 have hd2' : (crashS s' keep).down = false := rfl
 generalize crashS s keep = s2 at *
 generalize crashS s' keep = s3 at *
 generalize settleKeepC c s'.loose keep = c2 at *
 have hto := fun D (hO : OwnF f s2 D) => topen_ok hO (hB2.wf (by omega)) (hB2.small (by omega)) hd2 (by have := cellsF_len hB2; omega)
 have ho10 := open10_ok (wc s3 c2) hd2' (by show 0 ≤ s3.pages ∧ s3.pages ≤ 4096; omega) (B_R hr2.rb (by omega))
 rw [hr2.cells] at ho10
 have hnx : (cellsF s3).foldl stepN 1 = nextF s3 := rfl
 rw [hnx] at ho10
 generalize nextF s3 = n3 at *
 generalize nextF s2 = n2 at *
 have hso := fun t D (hO : OwnF f s2 D) => sopen_in (t := t) (n := n2) (base := 2) (N := 4) hO (hB2.wf (by omega)) (by omega) (by omega)
 simp only [hd2, Bool.false_eq_true, if_false] at hso
 have hro := ropen13_ok (wc s3 c2) n3 2 4 (by show 0 ≤ (2 : Int) ∧ 1 ≤ 4 ∧ (2 : Int) ≤ s3.pages - (4 : Nat); omega) (by show 0 ≤ s3.pages ∧ s3.pages ≤ 4096; omega) hd2'
 generalize openFs s2 2 4 = fs2 at *
 unfold rAV at hp2 ho10
 refine jen cl_46 Tryz.func46 (h := ?_)
 refine jr (own := [8]) (h := ?_)
 refine jnv (hh := fun b8 hb8 => ?_)
 simp only [fresh, fresh_GL] at hb8
 refine jf hb8 (h := ?_)
 refine jcs (Δ1 := D) (Fr := [_, _, GL]) (hs := hq) (hp := (List.perm_append_comm (l₁ := [_, _, GL]))) (hk := ?_) (hpan := (by rintro x Δ' ⟨h, _⟩; cases h))
 rintro x D2 ⟨h, hO2⟩
 cases h
 refine J_perm (List.perm_append_comm (l₂ := [_, _, GL])) ?_
 simp only [List.cons_append, List.nil_append]
 refine jf hb8 (h := ?_)
 refine jcs (Δ1 := D2) (Fr := [_, _, GL]) (hs := (hto D2 hO2)) (hp := (List.perm_append_comm (l₁ := [_, _, GL]))) (hk := ?_) (hpan := (by rintro x Δ' ⟨t, e, _⟩; cases e))
 rintro x _ ⟨t2, h, rfl⟩
 cases h
 refine J_perm (permE _ _ _ _ _) ?_
 simp only [List.cons_append]
 refine jr (h := ?_)
 refine jn (h := ?_)
 refine jr (h := ?_)
 refine jcs (Δ1 := tbox t2 f n2 :: GL :: D2) (Fr := [_, _]) (hs := (hso t2 D2 hO2)) (hp := (List.Perm.refl _)) (hk := ?_) (hpan := (by rintro x Δ' ⟨sm, fb, e, _⟩; cases e))
 rintro x _ ⟨sm, fb, h, rfl⟩
 cases h
 simp only [List.cons_append]
 refine jr (h := ?_)
 refine jn (h := ?_)
 refine jr (h := ?_)
 refine jc (hs := hp2) (hk := ?_)
 refine jr (h := ?_)
 refine jc (hs := ho10) (hk := ?_)
 refine jr (own := [12]) (h := ?_)
 refine jnv (hh := fun b12 hb12 => ?_)
 refine jmf 1 hb12 (h := ?_)
 refine J_freeze (s := 12) (o := 0) (by simp only [go_sem]) ?_
 simp only [List.drop_zero]
 refine jr (h := ?_)
 refine jc (hs := hro) (hk := ?_)
 refine jr (own := [14]) (h := ?_)
 refine jnv (hh := fun b14 hb14 => ?_)
 refine jmf 1 hb14 (h := ?_)
 refine J_freeze (s := 14) (o := 0) (by simp only [go_sem]) ?_
 simp only [List.drop_zero]
 refine jr (h := ?_)
 refine J_perm (List.perm_append_comm (l₁ := smB sm t2 2 fb 4 :: smF fb fs2 :: tbox t2 f n2 :: GL :: D2) (l₂ := [_, _])) ?_
 simp only [List.cons_append, List.nil_append]
 refine J_apart (b1 := b8) (b2 := sm) (.cons _ (List.Perm.swap _ _ _)) (fun q1 q1' => ?_)
 refine jd [(0, .pure), (1, .pure), (2, .pure), (3, .pure), (4, .pure), (5, .act)] mixed (by kernel_rfl) ?_
 refine cr (hk := ?_)
 refine Can_nil ?_
 refine J_forgetP ?_
 refine jret Tryz.func46 (h := ⟨[_, _], _, List.Perm.refl _, t2, sm, fb, c2, D2, rfl, hr2, hO2, rfl⟩)
theorem SI.step {a : SS} (h : SI a.s a.fs) (hw : a.s.WF) (o : Op13) : SI (a.step o).s (a.step o).fs := by
 unfold SS.step
 split
 · exact h.set hw a.n (slK_lt _) o.x
 · split
   · exact h
   · split
     · exact h.rm hw a.n (slK_lt _) o.x.key
     · split
       · exact h.pur hw a.n (slK_lt _) _ _
       · split
         · exact h.clear hw
         · split
           · exact h.fuse o.n
           · exact h
theorem wrS_n {s : Fl} {n base : Int} {i : Nat} {l : List Entry} {fs : List BF} (h : 1 ≤ n ∧ n ≤ 1099511627777) : 1 ≤ (wrS s n base i l fs).2.2.1 ∧ (wrS s n base i l fs).2.2.1 ≤ 1099511627777 := tputN_bd h
theorem SS.step_n {a : SS} (h : 1 ≤ a.n ∧ a.n ≤ 1099511627777) (o : Op13) : 1 ≤ (a.step o).n ∧ (a.step o).n ≤ 1099511627777 := by
 unfold SS.step
 split
 · unfold SS.set setS
   simp only
   split
   · exact h
   · split
     · exact h
     · exact wrS_n h
 · split
   · exact h
   · split
     · unfold SS.rm rmS
       simp only
       split
       · exact h
       · split
         · exact h
         · exact wrS_n h
     · split
       · unfold SS.pur purS
         simp only
         split
         · exact h
         · split
           · exact h
           · exact wrS_n h
       · split
         · exact h
         · split <;> exact h
end
end Go.Proofs.YtjppajaoekbkpaaGreatDoor
namespace Go.Proofs.YtjppajaoekbkpaaGreatDoor
open Go Go.Av
attribute [local go_sem] packed List.set_cons_zero List.set_cons_succ List.cons_append List.nil_append bytesRows_length cellRows_len chRows_len rCells intRows_len
attribute [-go_sem] cellsOf AV.isCell
attribute [local go_sem] cellsOf_agg cellsOf_int cellsOf_bool cellsOf_str cellsOf_map cellsOf_ptr cellsOf_nilI cellsOf_slice cellsOf_sl cellsOf_ifc cellsOf_fp cellsOf_opt optAV_cell icell_int icell_bool icell_str icell_map icell_ptr icell_nilI icell_slice icell_sl icell_ifc icell_fp
section
attribute [local go_sem] rowsBytes_bytesRows Option.map_some Int.cast_ofNat_Int getBox_GL setBox_GL fresh_GL sAV tAV newFl
theorem allP_w {s : Fl} (hw : s.WF) (base : Int) (N : Nat) : ∀ x ∈ allP s base N, EntW x := by
 intro x hx
 unfold allP at hx
 obtain ⟨j, -, hj⟩ := List.mem_flatMap.1 hx
 exact (pgE_w hw _).1 x hj
theorem ref10_new9 : ACalls Tryz.prog 23 [.agg [.c (.int .i64 9), .sl 2 [], .sl 3 [], .c (.int .i64 (-1)), .c (.bool false), .c (.int .i64 0)]] [] (Ret (.tup [tAV (newFl 9) 1, .c (.int .i64 0)])) := by
 have hrel : Rel (newFl 9) [] 0 := rel_new (by decide) (by decide)
 have hcn : cellsAt (newFl 9) (upto (newFl 9).pages.toNat) = [] := by have := hrel.cells; rw [cellsF_new] at this; exact this
 have ho10 : ACalls Tryz.prog 23 [rAV (newFl 9)] [] (Ret (.tup [tAV (newFl 9) 1, .c (.int .i64 0)])) := by
   have := open10_ok (newFl 9) rfl (by decide) (B_R hrel.b (by decide))
   rw [hcn] at this
   exact this
 exact ho10
theorem ref13_new9 : ACalls Tryz.prog 34 [tAV (newFl 9) 1, .c (.int .i64 2), .c (.int .i64 4)] [] (Ret (.tup [sAV (wc (newFl 9) []) 1 2 4, .c (.int .i64 0)])) := ropen13_ok (newFl 9) 1 2 4 (by decide) (by decide) rfl
abbrev ss0 : SS := ⟨newFl 9, 1, openFs (newFl 9) 2 4⟩
theorem ss0_rel : Rel ss0.s [] 0 := rel_new (by decide) (by decide)
theorem ss0_SI : SI ss0.s ss0.fs := SI.open rfl rfl
abbrev sC (s : Fl) (c : List (Int × List UInt8)) (n : Int) : List AV := [.c (.int .i64 s.pages), .sl 2 (cellRows c), .sl 3 (chRows s.loose), .c (.int .i64 s.fuse), .c (.bool s.down), .c (.int .i64 s.done), .c (.int .i64 n), .c (.int .i64 2), .c (.int .i64 4)]
end
section
def SS.next (a : SS) (o : Op13) : SS := if o.kind = 4 ∨ o.kind = 5 then a else a.step o
def SS.run (l : List Op13) : SS := l.foldl SS.next ss0
theorem run_succ {l : List Op13} {i : Nat} {o : Op13} (h : l[i]? = some o) : SS.run (l.take (i + 1)) = (SS.run (l.take i)).next o := by
 unfold SS.run; rw [List.take_add_one, h, Option.toList_some, List.foldl_append]; rfl
theorem KE.mono {s : Fl} {n : Int} {i k : Nat} (h : KE s n i) (hk : i ≤ k) : KE s n k := by
 obtain ⟨P, h⟩ := h
 exact ⟨P, h.mono hk⟩
theorem KE.step {a : SS} {i : Nat} (h : KE a.s a.n i) (hi : i ≤ 200) (hw : a.s.WF) (o : Op13) (ho : o.kind ≠ 4) : KE (a.step o).s (a.step o).n (i + 1) := by
 unfold SS.step
 split
 · exact h.set hi a.fs hw.page o.x
 · split
   · exact h.mono (Nat.le_succ i)
   · split
     · exact h.rm hi a.fs hw.page (slK_lt _) o.x.key
     · split
       · exact h.pur hi a.fs hw.page (slK_lt _) _ _
       · split
         · exact h.clear a.fs ⟨hw.nodup, hw.page⟩
         · exact h.mono (Nat.le_succ i)
theorem KE.up {s : Fl} {n : Int} {i : Nat} (h : KE s n i) : s.down = false := by
 obtain ⟨P, h⟩ := h; exact h.d
theorem KE.nb {s : Fl} {n : Int} {i : Nat} (h : KE s n i) : 1 ≤ n ∧ n ≤ i + 1 := by
 obtain ⟨P, h⟩ := h; exact ⟨h.n1, h.n2⟩
theorem KE.new : KE ss0.s ss0.n 0 := ⟨_, KS.new⟩
theorem KE.bkp {s : Fl} {n : Int} {i : Nat} (h : KE s n i) (hi : i ≤ 200) {j : Nat} (hj : j < 4) : BkOK (pgE s (2 + (j : Int))) ∧ ∀ y ∈ pgE s (2 + (j : Int)), slK y.key = j := by
 obtain ⟨P, h⟩ := h; exact h.bkp hi hj
end
section
attribute [local go_sem] rowsBytes_bytesRows Option.map_some Int.cast_ofNat_Int getBox_GL setBox_GL fresh_GL sAV tAV
theorem do13_f {sm t f fb : Nat} {a : SS} {s' : Fl} {n' : Int} {c : List (Int × List UInt8)} {m m' : Nat} {D : List HP} (hO : OwnF f a.s D) (hB : a.s.B m) (hm : m < 536870000) (hn : 1 ≤ a.n ∧ a.n ≤ 1099511627777) (hS : SI a.s a.fs) (hrel : Rel s' c m') (hm' : m' < 536870000) (hn' : 1 ≤ n' ∧ n' ≤ 1099511627777) (h1 : sm ≠ fb) (h2 : sm ≠ t) (h3 : fb ≠ t) (o : Op13) (ho : OpB o) (hk : o.kind = 0 ∨ o.kind = 2) :
   ACalls Tryz.prog 35 [ptr sm, ptr t, sAV (wc s' c) n' 2 4, .agg o.cells] (smB sm t 2 fb 4 :: smF fb a.fs :: tbox t f a.n :: GL :: D)
     (fun r D' => ∃ x D1, r = .ret x ∧ OwnF f (a.step o).s D1 ∧ D' = smB sm t 2 fb 4 :: smF fb (a.step o).fs :: tbox t f (a.step o).n :: GL :: D1) := by
 have hwf := hB.wf (by omega)
 have hwt : ∀ at_ b, (tputS a.s a.n at_ 1 b).WF := fun at_ b => (tputS_B hB a.n at_ 1 b).wf (by omega)
 have hR := B_R hrel.rb (by omega)
 have hw' := hR.w
 have hRt : ∀ at_ b, (tputS (wc s' c) n' at_ 1 b).R := fun at_ b => by rw [tputS_wc]; exact B_R (hrel.put n' at_ 1 b).rb (by omega)
 have hl29 : (wc s' c).loose.length < 2 ^ 29 := by show s'.loose.length < 2 ^ 29; have := hrel.len; omega
 have hrw := hrel.rb.wf (by omega)
 have hr1 := hrel.rb.safe.page
 have hr2 := hrel.rb.lpage
 have hr3 : (wc s' c).safe.length < 2 ^ 60 := by have := hrel.rb.len; omega
 have hr4 : (wc s' c).loose.length < 2 ^ 60 := by omega
 obtain ⟨s, n, fs⟩ := a
 obtain ⟨kd, x, fn, keep⟩ := o
 have hkb : x.key.length < 2 ^ 62 := by have := ho.key; simp only at this; omega
 have hvb : x.val.length < 2 ^ 62 := by have := ho.val; simp only at this; omega
 obtain ⟨i, hi⟩ : ∃ i, slotE (hash64 x.key) 4 = i := ⟨_, rfl⟩
 have hi' : slK x.key = i := hi
 have hlt : i < 4 := hi ▸ slotE_lt (by decide)
 have hpw := pgE_wc hrel
 simp only at *
 unfold Op13.cells
 simp only
 by_cases hk0 : kd = 0
 · have hst : SS.step ⟨s, n, fs⟩ ⟨kd, x, fn, keep⟩ = SS.set ⟨s, n, fs⟩ x := by unfold SS.step; rw [if_pos hk0]
   rw [hst]
   unfold SS.set
   simp only [hi']
   have hp := rset_ok (wc s' c) n' 2 4 i x hkb (by decide) (by decide) hi hrw hw' hl29 (by omega) hRt hr1 hr2 hr3 hr4 (by decide)
   have hq := sset_ok (sm := sm) (t := t) (fb := fb) (fs := fs) (i := i) (x := x) (N := 4) (base := 2) hkb hO hwf hwt (by omega) (by decide) hS.l4 hi (by decide) (by decide) h1 h2 h3
   have hgb : (setS s n 2 i x fs).1.length < 2 ^ 62 ∧ ∀ y ∈ (setS s n 2 i x fs).1, y.val.length < 2 ^ 62 := by
     have hpw2 := pgE_w hwf (2 + (i : Int))
     have hrl := rmE_len (pgE s (2 + (i : Int))) x.key
     have hin : (insE (pgE s (2 + (i : Int))) x).2.2.length ≤ 257 ∧ ∀ y ∈ (insE (pgE s (2 + (i : Int))) x).2.2, y.val.length < 2 ^ 62 := by
       unfold insE
       split
       · exact ⟨by simp, by simp⟩
       · split
         · exact ⟨by simp, by simp⟩
         · refine ⟨by simp only [List.length_take, List.length_append, List.length_cons, List.length_nil]; omega, fun y hy => ?_⟩
           rcases List.mem_append.1 (List.mem_of_mem_take hy) with h | h
           · have := (hpw2.1 y (rmE_mem h)).b; omega
           · rw [List.mem_singleton.1 h]; exact hvb
     unfold setS
     split
     · exact ⟨by simp, by simp⟩
     · split
       · exact ⟨by simp, by simp⟩
       · split
         · exact ⟨by show (insE (pgE s (2 + (i : Int))) x).2.2.length < 2 ^ 62; omega, hin.2⟩
         · exact ⟨by simp, by simp⟩
   have hsa := sameAll_ok (setS s n 2 i x fs).1 (rsetS (wc s' c) n' 2 i x).1 hgb.1 hgb.2
   clear hst hgb
   generalize setS s n 2 i x fs = W at *
   generalize rsetS (wc s' c) n' 2 i x = V at *
   obtain ⟨gone, C, s2, n2, fs2⟩ := W
   obtain ⟨gone', C', s3, n3⟩ := V
   simp only at *
   simp only [Entry.av, Entry.cells] at hp hq
   generalize decide (gone = gone') = same at *
   refine jen cl_35 Tryz.func35 (h := ?_)
   refine jr (own := [8]) (h := ?_)
   refine jnv (hh := fun b8 hb8 => ?_)
   simp only [fresh, fresh_GL] at hb8
   refine jf hb8 (h := ?_)
   refine jif (h1 := fun _ => ?_) (h2 := fun hc => absurd (by exact hk0) hc)
   refine jf hb8 (h := ?_)
   refine jc (hs := hp) (hk := ?_)
   refine jf (own := [10]) hb8 (h := ?_)
   refine jnv (hh := fun b10 hb10 => ?_)
   simp only [fresh, fresh_GL] at hb10
   refine jmf 1 (cA hb8 hb10) (h := ?_)
   refine J_freeze (s := 10) (o := 0) (by simp only [go_sem]) ?_
   simp only [List.drop_zero]
   refine jf hb8 (h := ?_)
   refine jcs (Fr := []) (hs := (hq.under1 _)) (hp := (by rw [List.append_nil])) (hk := ?_) (hpan := (by rintro x Δ' ⟨_, ⟨e, D1, h, _⟩, _⟩; cases h))
   rintro z _ ⟨_, ⟨er, D1, h, he, hO1, rfl⟩, rfl⟩
   cases h
   rw [List.append_nil]
   refine jf hb8 (h := ?_)
   refine jd [(0, .pure), (1, .pure), (2, .pure), (3, .pure), (4, .pure), (5, .pure), (6, .read), (7, .pure), (8, .pure), (9, .pure), (10, .act), (11, .pure)] mixed (by kernel_rfl) ?_
   refine cf hb8 (hk := ?_)
   refine ccp (hs := hsa) (hk := ?_)
   cases same
   · refine cf hb8 (hk := ?_)
     refine Can_nil ?_
     refine J_forgetP ?_
     refine jretf hb8 Tryz.func35 (h := ⟨[_], _, List.Perm.refl _, _, D1, rfl, hO1, rfl⟩)
   · refine cf hb8 (hk := ?_)
     refine ccr (hs := ((of_ok he).globKeep (by simp [GL]))) (hk := ?_)
     refine cf hb8 (hk := ?_)
     refine Can_nil ?_
     refine J_forgetP ?_
     refine jretf hb8 Tryz.func35 (h := ⟨[_], _, List.Perm.refl _, _, D1, rfl, hO1, rfl⟩)
 · have hk2 : kd = 2 := by omega
   have hk1 : ¬ kd = 1 := by omega
   have hst : SS.step ⟨s, n, fs⟩ ⟨kd, x, fn, keep⟩ = SS.rm ⟨s, n, fs⟩ x.key := by unfold SS.step; rw [if_neg hk0, if_neg hk1, if_pos hk2]
   rw [hst]
   unfold SS.rm
   simp only [hi']
   have hp := rremove_ok (wc s' c) n' 2 4 i x.key hkb (by decide) (by decide) hi hrw hw' hl29 (by omega) hRt hr1 hr2 hr3 hr4 (by decide)
   have hq := sremove_ok (sm := sm) (t := t) (fb := fb) (fs := fs) (i := i) (k := x.key) (N := 4) (base := 2) hkb hO hwf hwt (by omega) (by decide) hS.l4 hi (by decide) (by decide) h1 h2 h3
   clear hst
   generalize rmS s n 2 i x.key fs = W at *
   generalize rrmS (wc s' c) n' 2 i x.key = V at *
   obtain ⟨ok, C, s2, n2, fs2⟩ := W
   obtain ⟨ok', C', s3, n3⟩ := V
   simp only at *
   refine jen cl_35 Tryz.func35 (h := ?_)
   refine jr (own := [8]) (h := ?_)
   refine jnv (hh := fun b8 hb8 => ?_)
   simp only [fresh, fresh_GL] at hb8
   refine jf hb8 (h := ?_)
   refine jif (h1 := fun hc => absurd hc (by exact hk0)) (h2 := fun _ => ?_)
   refine jf hb8 (h := ?_)
   refine jif (h1 := fun hc => absurd hc (by exact hk1)) (h2 := fun _ => ?_)
   refine jf hb8 (h := ?_)
   refine jif (h1 := fun _ => ?_) (h2 := fun hc => absurd (by exact hk2) hc)
   refine jf hb8 (h := ?_)
   refine jc (hs := hp) (hk := ?_)
   refine jf (own := [20]) hb8 (h := ?_)
   refine jnv (hh := fun b20 hb20 => ?_)
   simp only [fresh, fresh_GL] at hb20
   refine jmf 1 (cA hb8 hb20) (h := ?_)
   refine J_freeze (s := 20) (o := 0) (by simp only [go_sem]) ?_
   simp only [List.drop_zero]
   refine jf hb8 (h := ?_)
   refine jcs (Fr := []) (hs := (hq.under1 _)) (hp := (by rw [List.append_nil])) (hk := ?_) (hpan := (by rintro x Δ' ⟨_, ⟨e, D1, h, _⟩, _⟩; cases h))
   rintro z _ ⟨_, ⟨er, D1, h, he, hO1, rfl⟩, rfl⟩
   cases h
   rw [List.append_nil]
   refine jf hb8 (h := ?_)
   refine jd [(0, .pure), (1, .pure), (2, .pure), (3, .pure), (4, .pure), (5, .pure), (6, .read), (7, .pure), (8, .pure), (9, .pure), (10, .act), (11, .pure)] mixed (by kernel_rfl) ?_
   by_cases hok : ok' = ok
   · have hdk : decide (ok' = ok) = true := decide_eq_true hok
     refine cf (cA hb8 hdk) (hk := ?_)
     refine ccr (hs := ((of_ok he).globKeep (by simp [GL]))) (hk := ?_)
     refine cf (cA hb8 hdk) (hk := ?_)
     refine Can_nil ?_
     refine J_forgetP ?_
     refine jretf hb8 Tryz.func35 (h := ⟨[_], _, List.Perm.refl _, _, D1, rfl, hO1, rfl⟩)
   · have hdk : decide (ok' = ok) = false := decide_eq_false hok
     refine cf (cA hb8 hdk) (hk := ?_)
     refine Can_nil ?_
     refine J_forgetP ?_
     refine jretf hb8 Tryz.func35 (h := ⟨[_], _, List.Perm.refl _, _, D1, rfl, hO1, rfl⟩)
end
section
theorem _root_.Go.Av.J_cutX {P : Program} {f : Shape} {n : Nat} {R : APost} {todo : List Item} {env : Env} {A : List HP} : ∀ X : List HP, J P f n R todo env A → J P f n R todo env (A ++ X)
 | [], h => by rw [List.append_nil]; exact h
 | x :: X, h => J_perm List.perm_middle (J_drop (J_cutX X h))
def atSl (i : Nat) (l : List Entry) : List Entry := l.filter fun y => decide (slK y.key = i)
theorem atSl_page {L : List Entry} {q i : Nat} (h : ∀ y ∈ L, slK y.key = q) : atSl i L = if q = i then L else [] := by
 unfold atSl
 split
 · rename_i e
   rw [List.filter_eq_self]
   intro y hy
   rw [h y hy]; exact decide_eq_true e
 · rename_i e
   rw [List.filter_eq_nil_iff]
   intro y hy
   rw [h y hy]; simp [e]
theorem got_all {s : Fl} (h : ∀ q : Nat, q < 4 → ∀ y ∈ pgE s (2 + (q : Int)), slK y.key = q) {i : Nat} (hi : i < 4) : atSl i (allP s 2 4) = pgE s (2 + (i : Int)) := by
 have e : ∀ a b : List Entry, atSl i (a ++ b) = atSl i a ++ atSl i b := fun a b => List.filter_append ..
 rw [allP_four, e, e, e, atSl_page (h 0 (by decide)), atSl_page (h 1 (by decide)), atSl_page (h 2 (by decide)), atSl_page (h 3 (by decide))]
 rcases (by omega : i = 0 ∨ i = 1 ∨ i = 2 ∨ i = 3) with rfl | rfl | rfl | rfl <;> simp
theorem atSl_step {l : List Entry} {k : Nat} {x : Entry} (hx : l[k]? = some x) (i : Nat) : atSl i (l.take (k + 1)) = atSl i (l.take k) ++ if slK x.key = i then [x] else [] := by
 unfold atSl
 rw [List.take_add_one, hx, Option.toList_some, List.filter_append]
 by_cases h : slK x.key = i <;> simp [h]
theorem atSl_len (i : Nat) (l : List Entry) : (atSl i l).length ≤ l.length := List.length_filter_le _ _
theorem keeps_torn {a : SS} {i m : Nat} (hK : KE a.s a.n i) (hi : i ≤ 200) (hB : a.s.B m) (o : Op13) (ho : o.kind = 0 ∨ o.kind = 2) (fu : Int) (hfu : fu = 0 ∨ fu = 1 ∨ fu = 2) (keep : List Int) :
   Torn a.s (crashS (SS.step ⟨fuseS a.s fu, a.n, a.fs⟩ o).s keep) (slK o.x.key) (pgE (a.step o).s (2 + (slK o.x.key : Int))) := by
 rcases ho with h | h
 · have e : ∀ b : SS, b.step o = b.set o.x := fun b => by unfold SS.step; rw [if_pos h]
   rw [e, e]
   exact torn_set hK hi hB o.x fu hfu keep
 · have e : ∀ b : SS, b.step o = b.rm o.x.key := fun b => by unfold SS.step; rw [if_neg (by omega), if_neg (by omega), if_pos h]
   rw [e, e]
   exact torn_rm hK hi hB (slK_lt _) o.x.key fu hfu keep
theorem torn_slots {s s3 : Fl} {n : Int} {i j : Nat} {nx : List Entry} (hK : KE s n i) (hi : i ≤ 200) (ht : Torn s s3 j nx) (hnx : ∀ y ∈ nx, slK y.key = j) : ∀ q : Nat, q < 4 → ∀ y ∈ pgE s3 (2 + (q : Int)), slK y.key = q := by
 intro q hq y hy
 rcases ht.same q hq with e | ⟨rfl, e | e⟩
 · rw [e] at hy; exact (hK.bkp hi hq).2 y hy
 · rw [e] at hy; cases hy
 · rw [e] at hy; exact hnx y hy
theorem rem3 (n : Int) : aint .rem .i64 n 3 = some (.c (.int .i64 (n.tmod 3))) := by unfold aint; simp only []; rw [if_neg (by omega)]
theorem rem3_in (c : UInt8) : (c.toNat : Int).tmod 3 = 0 ∨ (c.toNat : Int).tmod 3 = 1 ∨ (c.toNat : Int).tmod 3 = 2 := by
 have e : (c.toNat : Int).tmod 3 = ((c.toNat % 3 : Nat) : Int) := rfl
 rw [e]; omega
theorem step_B {s : Fl} {m : Nat} {n : Int} {fs : List BF} (h : s.B m) {o : Op13} (ho : o.kind = 0 ∨ o.kind = 2) : (SS.step ⟨s, n, fs⟩ o).s.B (m + 2) := by
 rcases ho with h0 | h0
 · unfold SS.step
   rw [if_pos h0]
   unfold SS.set setS
   simp only
   split
   · exact h.mono (by omega)
   · split
     · exact h.mono (by omega)
     · exact wrS_B h _ _ _ _ _
 · unfold SS.step
   rw [if_neg (by omega), if_neg (by omega), if_pos h0]
   unfold SS.rm rmS
   simp only
   split
   · exact h.mono (by omega)
   · split
     · exact h.mono (by omega)
     · exact wrS_B h _ _ _ _ _
end
section
attribute [local go_sem] rowsBytes_bytesRows Option.map_some Int.cast_ofNat_Int getBox_GL setBox_GL fresh_GL sAV tAV newFl
theorem smallKeeps_ok (l : List Op13) (y : Op13) (at_ : UInt8) (keep : List Int) (hl : l.length < 2 ^ 40) (hll : ∀ o ∈ l, OpB o) (hyb : OpB y) (hkk : keep.length < 2 ^ 37) : ACalls Tryz.prog 9 [.sl 8 (ops13 l), .agg y.cells, .c (.int .u8 at_.toNat), .sl 1 (intRows keep)] [GL] (Ret (.c (.bool true))) := by
 have hl1 := light13_ok [y] (by simp) (fun o ho => by rw [List.mem_singleton.1 ho]; exact hyb)
 simp only [ops13, List.map, Op13.cells] at hl1
 simp only [Op13.cells]
 refine jen cl_9 Tryz.func9 (h := ?_)
 refine jr (h := ?_)
 refine jcs (Δ1 := []) (Fr := [GL]) (hs := (light13_ok l hl hll)) (hp := (List.Perm.refl _)) (hk := ?_) (hpan := (by rintro x Δ' ⟨v, h, _⟩; cases h))
 rintro _ _ ⟨v, h, rfl, hv, hv0⟩
 cases h
 simp only [List.nil_append]
 rcases hv with rfl | rfl
 rotate_left
 · refine jr (h := ?_)
   refine jt (h := ?_)
   refine jr (h := ?_)
   refine jcg (hin := by simp [GL]) (hs := works13_ok) (hk := ?_)
   refine jr (h := ?_)
   refine J_forget ?_
   refine jret Tryz.func9 (h := ⟨rfl, rfl⟩)
 have hlen := hv0 rfl
 clear hv0
 refine jr (h := ?_)
 refine jcs (Δ1 := []) (Fr := [GL]) (hs := hl1) (hp := (List.Perm.refl _)) (hk := ?_) (hpan := (by rintro x Δ' ⟨v, h, _⟩; cases h))
 rintro _ _ ⟨v, h, rfl, hv, -⟩
 cases h
 simp only [List.nil_append]
 rcases hv with rfl | rfl
 rotate_left
 · refine jr (h := ?_)
   refine jt (h := ?_)
   refine jr (h := ?_)
   refine jcg (hin := by simp [GL]) (hs := works13_ok) (hk := ?_)
   refine jr (h := ?_)
   refine J_forget ?_
   refine jret Tryz.func9 (h := ⟨rfl, rfl⟩)
 by_cases hk60 : keep.length > 60
 · have hd1 : decide ((60 : Int) < (keep.length : Int)) = true := decide_eq_true (by omega)
   refine jf hd1 (h := ?_)
   refine jt (h := ?_)
   refine jr (h := ?_)
   refine jcg (hin := by simp [GL]) (hs := works13_ok) (hk := ?_)
   refine jr (h := ?_)
   refine J_forget ?_
   refine jret Tryz.func9 (h := ⟨rfl, rfl⟩)
 have hd1 : decide ((60 : Int) < (keep.length : Int)) = false := decide_eq_false (by omega)
 by_cases hkd : y.kind ≠ 0 ∧ y.kind ≠ 2
 · have hd2 : decide (y.kind ≠ 0) = true := decide_eq_true hkd.1
   have hd3 : decide (y.kind ≠ 2) = true := decide_eq_true hkd.2
   refine jf (cB hd1 hd2 hd3) (h := ?_)
   refine jt (h := ?_)
   refine jr (h := ?_)
   refine jcg (hin := by simp [GL]) (hs := works13_ok) (hk := ?_)
   refine jr (h := ?_)
   refine J_forget ?_
   refine jret Tryz.func9 (h := ⟨rfl, rfl⟩)
 replace hkd : y.kind = 0 ∨ y.kind = 2 := by omega
 have hcase : decide (y.kind ≠ 0) = false ∨ (decide (y.kind ≠ 0) = true ∧ decide (y.kind ≠ 2) = false) := by
   rcases hkd with h | h
   · exact .inl (decide_eq_false (fun q => q h))
   · exact .inr ⟨decide_eq_true (by omega), decide_eq_false (fun q => q h)⟩
 rcases hcase with hd2 | ⟨hd2, hd3⟩
 rotate_left
 refine jf (cB hd1 hd2 hd3) (h := ?_)
 refine jn (h := ?_)
 refine jk [0, 2, 3, 5] (h := ?_)
 clear hd3
 rotate_left
 refine jf (cA hd1 hd2) (h := ?_)
 refine jn (h := ?_)
 refine jk [0, 2, 3, 5] (h := ?_)
 all_goals
   clear hd2
   refine jr (h := ?_)
   refine jcs (Δ1 := [GL]) (Fr := []) (hs := open13_ok) (hp := (List.Perm.refl _)) (hk := ?_) (hpan := (by rintro x Δ' ⟨f, t, sm, fb, D, e, _⟩; cases e))
   rintro _ _ ⟨f, t, sm, fb, D, e, hO, rfl⟩
   cases e
   rw [List.append_nil]
   refine jr (h := ?_)
   refine jn (h := ?_)
   refine jr (h := ?_)
   refine J_wk (t := 69) (by simp only [go_sem] <;> rfl) (agg_le 1 rfl (nil_le_sl (s := 2))) ?_
   refine J_wk (t := 69) (by simp only [go_sem] <;> rfl) (agg_le 2 rfl (nil_le_sl (s := 3))) ?_
   refine jc (hs := ref10_new9) (hk := ?_)
   refine jr (own := [11]) (h := ?_)
   refine jnv (hh := fun b11 hb11 => ?_)
   refine jr (h := ?_)
   refine J_freeze (s := 11) (o := 0) (by simp only [go_sem]) ?_
   simp only [List.drop_zero]
   refine jr (h := ?_)
   refine jc (hs := ref13_new9) (hk := ?_)
   refine jr (own := [13]) (h := ?_)
   refine jnv (hh := fun b13 hb13 => ?_)
   refine jr (h := ?_)
   refine jk [0, 2, 3, 5, 9, 10, 11, 13, 15] (h := ?_)
   refine J_loopI (I := fun m e Δ => ∃ (i : Nat) (a : SS) (c : List (Int × List UInt8)) (D1 : List HP), i ≤ l.length ∧ m = l.length - i ∧ a = SS.run (l.take i) ∧ Rel a.s c (5 * i) ∧ (1 ≤ a.n ∧ a.n ≤ 1099511627777) ∧ SI a.s a.fs ∧ KE a.s a.n i ∧ OwnF f a.s D1 ∧ Δ = .box b13 74 (sC a.s c a.n) :: smB sm t 2 fb 4 :: smF fb a.fs :: tbox t f a.n :: GL :: D1 ∧ e = [(0, .sl 8 (ops13 l)), (2, .c (.int .u8 at_.toNat)), (3, .sl 1 (intRows keep)), (5, .fp [.c (.int .i64 y.kind), .c (.string (mkStr y.x.key)), .c (.int .i64 y.x.ver), .c (.int .i64 y.x.asof), .c (.int .i64 y.x.ends), .sl 1 (bytesRows y.x.val), .c (.int .i64 y.n), .sl 1 (intRows y.keep)]), (9, ptr t), (10, ptr sm), (11, .fp [.c (.int .i64 9), .sl 2 (cellRows []), .sl 3 (chRows []), .c (.int .i64 (-1)), .c (.bool false), .c (.int .i64 0), .c (.int .i64 1)]), (13, .c (.pointer (some ⟨b13, 0, none⟩))), (15, .c (.int .i64 i))]) ?_ ?_
   · exact ⟨_, 0, ss0, [], D, Nat.zero_le _, rfl, rfl, ss0_rel, by decide, ss0_SI, KE.new, hO, rfl, rfl⟩
   · clear hO hb11 hb13
     rintro m e Δ ⟨i, a, c, D1, hi, rfl, ha, hrel, hn, hS, hK, hO, rfl, rfl⟩ ih
     refine jf ops13_len (h := ?_)
     by_cases hc : i < l.length
     · have hdc : decide ((i : Int) < (l.length : Int)) = true := decide_eq_true (by omega)
       refine J_apart (b1 := sm) (b2 := fb) (List.perm_append_comm_assoc [_] [_, _] _) (fun h1 h1' => ?_)
       refine J_apart (b1 := sm) (b2 := t) ((List.Perm.swap _ _ _).trans (.cons _ (List.perm_append_comm_assoc [_, _] [_] _))) (fun h2 h2' => ?_)
       refine J_apart (b1 := fb) (b2 := t) (List.perm_append_comm_assoc [_, _] [_, _] _) (fun h3 h3' => ?_)
       refine jf (cA ops13_len hdc) (h := ?_)
       refine jt (h := ?_)
       have hrs := run_succ (List.getElem?_eq_getElem hc)
       have g1 := ops13_get (List.getElem?_eq_getElem hc)
       have h0 : (0 : Int) ≤ (i : Int) := by omega
       have hob := hll l[i] (List.getElem_mem _)
       generalize l[i] = o at *
       by_cases hk : o.kind ≠ 4 ∧ o.kind ≠ 5
       · have hd1 : decide (o.kind ≠ 4) = true := decide_eq_true hk.1
         have hd2 : decide (o.kind ≠ 5) = true := decide_eq_true hk.2
         have hdo := do13_ok hO hrel (by omega) hn hS h1 h2 h3 o hob
         have hn2 := SS.step_n hn o
         have hS2 := hS.step (hrel.b.wf (by omega)) o
         have hK2 := hK.step (by omega) (hrel.b.wf (by omega)) o hk.1
         have hrn : SS.run (l.take (i + 1)) = a.step o := by rw [hrs, ← ha]; unfold SS.next; rw [if_neg (by rintro (h | h); (· exact hk.1 h); (· exact hk.2 h))]
         unfold Op13.cells at hdo
         generalize a.step o = az at *
         refine jf (cC g1 ops13_len hd1 hd2) (h := ?_)
         refine jt (h := ?_)
         refine jr (h := ?_)
         refine jd [(0, .pure), (1, .pure), (2, .read), (3, .pure), (4, .pure), (5, .pure), (6, .pure), (7, .act), (8, .pure), (9, .pure), (10, .pure), (11, .act)] mixed (by kernel_rfl) ?_
         refine cf (cA g1 ops13_len) (hk := ?_)
         refine ccs (Fr := []) (hs := (hdo.underL [_])) (hp := (by rw [List.append_nil]; rfl)) (hk := ?_) (hn := (by rintro x Δ' ⟨_, ⟨_, _, h, _⟩, _⟩; cases h))
         rintro x _ ⟨_, ⟨c2, D2, h, hrel2, hO2, rfl⟩, rfl⟩
         cases h
         rw [List.append_nil]
         simp only [List.cons_append, List.nil_append]
         refine cr (hk := ?_)
         refine Can_nil ?_
         refine jr (h := ?_)
         refine jk [0, 2, 3, 5, 9, 10, 11, 13, 15] (h := ?_)
         refine ih _ _ _ ?_ ⟨i + 1, az, c2, D2, by omega, rfl, hrn.symm, hrel2.mono (by omega), hn2, hS2, hK2, hO2, rfl, ?_⟩
         · omega
         · simp only [Int.natCast_add, Int.cast_ofNat_Int]
       · have hrn : SS.run (l.take (i + 1)) = a := by rw [hrs, ← ha]; unfold SS.next; rw [if_pos (by omega)]
         by_cases hk4 : o.kind = 4
         · have hd1 : decide (o.kind ≠ 4) = false := decide_eq_false (fun h => h hk4)
           refine jf (cB g1 ops13_len hd1) (h := ?_)
           refine jn (h := ?_)
           refine jr (h := ?_)
           refine jk [0, 2, 3, 5, 9, 10, 11, 13, 15] (h := ?_)
           refine ih _ _ _ ?_ ⟨i + 1, a, c, D1, by omega, rfl, hrn.symm, hrel.mono (by omega), hn, hS, hK.mono (by omega), hO, rfl, ?_⟩
           · omega
           · simp only [Int.natCast_add, Int.cast_ofNat_Int]
         · have hd1 : decide (o.kind ≠ 4) = true := decide_eq_true hk4
           have hd2 : decide (o.kind ≠ 5) = false := decide_eq_false (fun h => hk ⟨hk4, h⟩)
           refine jf (cC g1 ops13_len hd1 hd2) (h := ?_)
           refine jn (h := ?_)
           refine jr (h := ?_)
           refine jk [0, 2, 3, 5, 9, 10, 11, 13, 15] (h := ?_)
           refine ih _ _ _ ?_ ⟨i + 1, a, c, D1, by omega, rfl, hrn.symm, hrel.mono (by omega), hn, hS, hK.mono (by omega), hO, rfl, ?_⟩
           · omega
           · simp only [Int.natCast_add, Int.cast_ofNat_Int]
     · have hdc : decide ((i : Int) < (l.length : Int)) = false := decide_eq_false (by omega)
       refine J_apart (b1 := sm) (b2 := fb) (List.perm_append_comm_assoc [_] [_, _] _) (fun h1 h1' => ?_)
       refine J_apart (b1 := sm) (b2 := t) ((List.Perm.swap _ _ _).trans (.cons _ (List.perm_append_comm_assoc [_, _] [_] _))) (fun h2 h2' => ?_)
       refine J_apart (b1 := fb) (b2 := t) (List.perm_append_comm_assoc [_, _] [_, _] _) (fun h3 h3' => ?_)
       have hil : i = l.length := by omega
       rw [hil, List.take_length] at ha
       have hi40 : i ≤ 40 := by omega
       refine jf (cA ops13_len hdc) (h := ?_)
       refine jn (h := ?_)
       refine jr (own := [16]) (h := ?_)
       refine jnv (hh := fun b16 hb16 => ?_)
       refine jm 1 (h := ?_)
       refine J_freeze (s := 16) (o := 0) (by simp only [go_sem]) ?_
       simp only [List.drop_zero]
       have hdo := do13_ok hO hrel (by omega) hn hS h1 h2 h3 y hyb
       have hK1 := hK.step (by omega) (hrel.b.wf (by omega)) y (by omega)
       have hnxs : ∀ z ∈ pgE (a.step y).s (2 + (slK y.x.key : Int)), slK z.key = slK y.x.key := (hK1.bkp (by omega) (slK_lt _)).2
       have htn := fun fu hfu => keeps_torn hK (by omega) hrel.b y hkd fu hfu keep
       unfold Op13.cells at hdo
       generalize a.step y = az at *
       refine jr (h := ?_)
       refine jcs (Fr := []) (hs := (hdo.underL [_])) (hp := (by rw [List.append_nil]; rfl)) (hk := ?_) (hpan := (by rintro x Δ' ⟨_, ⟨_, _, h, _⟩, _⟩; cases h))
       rintro _ _ ⟨_, ⟨c1, D2, h, hrel1, hO1, rfl⟩, rfl⟩
       cases h
       rw [List.append_nil]
       simp only [List.cons_append, List.nil_append]
       refine jr (own := [17]) (h := ?_)
       refine jnv (hh := fun b17 hb17 => ?_)
       refine jm 1 (h := ?_)
       refine J_freeze (s := 17) (o := 0) (by simp only [go_sem]) ?_
       simp only [List.drop_zero]
       refine J_perm (List.perm_middle (l₁ := [_, _, _, _])) (J_cutX (A := [GL]) _ ?_)
       have hpg1 := hrel1.rb
       have hw1 := fun (q : Nat) (hq : q < 4) => rpage_ok (wc az.s c1) az.n 2 4 q hpg1.safe.page hpg1.lpage (by have := hpg1.len; omega) (by have := hpg1.len; omega) (by decide) (by omega)
       simp only [pgE_wc hrel1] at hw1
       have hpg0 := hrel.rb
       have hw0 := fun (q : Nat) (hq : q < 4) => rpage_ok (wc a.s c) a.n 2 4 q hpg0.safe.page hpg0.lpage (by have := hpg0.len; omega) (by have := hpg0.len; omega) (by decide) (by omega)
       simp only [pgE_wc hrel] at hw0
       have hwfa := hrel.b.wf (by omega)
       have hBa := hrel.b
       clear hdo hO hO1 h1 h1' h2 h2' h3 h3' ih hpg1 hpg0 hS hn hdc hc hrel hrel1
       refine jr (h := ?_)
       refine jcs (Δ1 := [GL]) (Fr := []) (hs := open13_ok) (hp := (List.Perm.refl _)) (hk := ?_) (hpan := (by rintro x Δ' ⟨f, t, sm, fb, D, e, _⟩; cases e))
       rintro _ _ ⟨f2, t2, sm2, fb2, D3, e, hO2, rfl⟩
       cases e
       rw [List.append_nil]
       refine jr (h := ?_)
       refine jn (h := ?_)
       refine jr (h := ?_)
       refine jc (hs := ref13_new9) (hk := ?_)
       refine jr (own := [21]) (h := ?_)
       refine jnv (hh := fun b21 hb21 => ?_)
       refine jr (h := ?_)
       refine jk [0, 2, 3, 5, 16, 17, 19, 20, 21, 23] (h := ?_)
       refine J_loopI (I := fun m e Δ => ∃ (i5x : Nat) (a5x : SS) (c5x : List (Int × List UInt8)) (E1 : List HP), i5x ≤ l.length ∧ m = l.length - i5x ∧ a5x = SS.run (l.take i5x) ∧ Rel a5x.s c5x (5 * i5x) ∧ (1 ≤ a5x.n ∧ a5x.n ≤ 1099511627777) ∧ SI a5x.s a5x.fs ∧ KE a5x.s a5x.n i5x ∧ OwnF f2 a5x.s E1 ∧ Δ = .box b21 74 (sC a5x.s c5x a5x.n) :: smB sm2 t2 2 fb2 4 :: smF fb2 a5x.fs :: tbox t2 f2 a5x.n :: GL :: E1 ∧ e = [(0, .sl 8 (ops13 l)), (2, .c (.int .u8 at_.toNat)), (3, .sl 1 (intRows keep)), (5, .fp [.c (.int .i64 y.kind), .c (.string (mkStr y.x.key)), .c (.int .i64 y.x.ver), .c (.int .i64 y.x.asof), .c (.int .i64 y.x.ends), .sl 1 (bytesRows y.x.val), .c (.int .i64 y.n), .sl 1 (intRows y.keep)]), (16, .fp (sC a.s c a.n)), (17, .fp (sC az.s c1 az.n)), (19, ptr t2), (20, ptr sm2), (21, .c (.pointer (some ⟨b21, 0, none⟩))), (23, .c (.int .i64 i5x))]) ?_ ?_
       · exact ⟨_, 0, ss0, [], D3, Nat.zero_le _, rfl, rfl, ss0_rel, by decide, ss0_SI, KE.new, hO2, rfl, rfl⟩
       · clear hO2 hb21 hb16 hb17
         rintro m e Δ ⟨i5x, a5x, c5x, E1, ji, rfl, ja, jrel, jn1, jS, jK, jO, rfl, rfl⟩ ih
         refine jf ops13_len (h := ?_)
         by_cases jc1 : i5x < l.length
         · have hdc : decide ((i5x : Int) < (l.length : Int)) = true := decide_eq_true (by omega)
           refine J_apart (b1 := sm2) (b2 := fb2) (List.perm_append_comm_assoc [_] [_, _] _) (fun h1 h1' => ?_)
           refine J_apart (b1 := sm2) (b2 := t2) ((List.Perm.swap _ _ _).trans (.cons _ (List.perm_append_comm_assoc [_, _] [_] _))) (fun h2 h2' => ?_)
           refine J_apart (b1 := fb2) (b2 := t2) (List.perm_append_comm_assoc [_, _] [_, _] _) (fun h3 h3' => ?_)
           refine jf (cA ops13_len hdc) (h := ?_)
           refine jt (h := ?_)
           have hrs := run_succ (List.getElem?_eq_getElem jc1)
           have g1 := ops13_get (List.getElem?_eq_getElem jc1)
           have h0 : (0 : Int) ≤ (i5x : Int) := by omega
           have hob := hll l[i5x] (List.getElem_mem _)
           generalize l[i5x] = o at *
           by_cases hk : o.kind ≠ 4 ∧ o.kind ≠ 5
           · have hd1 : decide (o.kind ≠ 4) = true := decide_eq_true hk.1
             have hd2 : decide (o.kind ≠ 5) = true := decide_eq_true hk.2
             have hdo := do13_ok jO jrel (by omega) jn1 jS h1 h2 h3 o hob
             have hn2 := SS.step_n jn1 o
             have hS2 := jS.step (jrel.b.wf (by omega)) o
             have hK2 := jK.step (by omega) (jrel.b.wf (by omega)) o hk.1
             have hrn : SS.run (l.take (i5x + 1)) = a5x.step o := by rw [hrs, ← ja]; unfold SS.next; rw [if_neg (by rintro (h | h); (· exact hk.1 h); (· exact hk.2 h))]
             unfold Op13.cells at hdo
             generalize a5x.step o = z5x at *
             refine jf (cC g1 ops13_len hd1 hd2) (h := ?_)
             refine jt (h := ?_)
             refine jr (h := ?_)
             refine jd [(0, .pure), (1, .pure), (2, .read), (3, .pure), (4, .pure), (5, .pure), (6, .pure), (7, .act), (8, .pure), (9, .pure), (10, .pure), (11, .act)] mixed (by kernel_rfl) ?_
             refine cf (cA g1 ops13_len) (hk := ?_)
             refine ccs (Fr := []) (hs := (hdo.underL [_])) (hp := (by rw [List.append_nil]; rfl)) (hk := ?_) (hn := (by rintro x Δ' ⟨_, ⟨_, _, h, _⟩, _⟩; cases h))
             rintro x _ ⟨_, ⟨c2, D2, h, hrel2, hO2, rfl⟩, rfl⟩
             cases h
             rw [List.append_nil]
             simp only [List.cons_append, List.nil_append]
             refine cr (hk := ?_)
             refine Can_nil ?_
             refine jr (h := ?_)
             refine jk [0, 2, 3, 5, 16, 17, 19, 20, 21, 23] (h := ?_)
             refine ih _ _ _ ?_ ⟨i5x + 1, z5x, c2, D2, by omega, rfl, hrn.symm, hrel2.mono (by omega), hn2, hS2, hK2, hO2, rfl, ?_⟩
             · omega
             · simp only [Int.natCast_add, Int.cast_ofNat_Int]
           · have hrn : SS.run (l.take (i5x + 1)) = a5x := by rw [hrs, ← ja]; unfold SS.next; rw [if_pos (by omega)]
             by_cases hk4 : o.kind = 4
             · have hd1 : decide (o.kind ≠ 4) = false := decide_eq_false (fun h => h hk4)
               refine jf (cB g1 ops13_len hd1) (h := ?_)
               refine jn (h := ?_)
               refine jr (h := ?_)
               refine jk [0, 2, 3, 5, 16, 17, 19, 20, 21, 23] (h := ?_)
               refine ih _ _ _ ?_ ⟨i5x + 1, a5x, c5x, E1, by omega, rfl, hrn.symm, jrel.mono (by omega), jn1, jS, jK.mono (by omega), jO, rfl, ?_⟩
               · omega
               · simp only [Int.natCast_add, Int.cast_ofNat_Int]
             · have hd1 : decide (o.kind ≠ 4) = true := decide_eq_true hk4
               have hd2 : decide (o.kind ≠ 5) = false := decide_eq_false (fun h => hk ⟨hk4, h⟩)
               refine jf (cC g1 ops13_len hd1 hd2) (h := ?_)
               refine jn (h := ?_)
               refine jr (h := ?_)
               refine jk [0, 2, 3, 5, 16, 17, 19, 20, 21, 23] (h := ?_)
               refine ih _ _ _ ?_ ⟨i5x + 1, a5x, c5x, E1, by omega, rfl, hrn.symm, jrel.mono (by omega), jn1, jS, jK.mono (by omega), jO, rfl, ?_⟩
               · omega
               · simp only [Int.natCast_add, Int.cast_ofNat_Int]
         · have hdc : decide ((i5x : Int) < (l.length : Int)) = false := decide_eq_false (by omega)
           have hil2 : i5x = l.length := by omega
           rw [hil2, List.take_length, ← ha] at ja
           subst ja
           clear ih ha jK
           refine J_apart (b1 := sm2) (b2 := fb2) (List.perm_append_comm_assoc [_] [_, _] _) (fun h1 h1' => ?_)
           refine J_apart (b1 := sm2) (b2 := t2) ((List.Perm.swap _ _ _).trans (.cons _ (List.perm_append_comm_assoc [_, _] [_] _))) (fun h2 h2' => ?_)
           refine J_apart (b1 := fb2) (b2 := t2) (List.perm_append_comm_assoc [_, _] [_, _] _) (fun h3 h3' => ?_)
           refine J_apart (b1 := b21) (b2 := t2) (.cons _ (List.perm_middle (l₁ := [_, _]))) (fun h4 h4' => ?_)
           refine jf (cA ops13_len hdc) (h := ?_)
           refine jn (h := ?_)
           have hr3 := rem3 (at_.toNat : Int)
           have hfu := rem3_in at_
           generalize (at_.toNat : Int).tmod 3 = fu at *
           refine jf (cD hr3 h1 h1' h2 (cD h2' h3 h3' h4 h4')) (h := ?_)
           refine jcs (Δ1 := E1) (Fr := [_, _, _, _, GL]) (hs := (fuse_ok jO fu)) (hp := (List.perm_append_comm (l₁ := [_, _, _, _, GL]))) (hk := ?_) (hpan := (by rintro x Δ' ⟨h, _⟩; cases h))
           rintro _ E2 ⟨h, jO2⟩
           cases h
           refine J_perm (List.perm_append_comm (l₂ := [_, _, _, _, GL])) ?_
           simp only [List.cons_append, List.nil_append]
           have hB1 : (fuseS a5x.s fu).B (5 * i5x) := fuseS_B jrel.b (by omega)
           have hdf := do13_f (sm := sm2) (t := t2) (f := f2) (fb := fb2) (a := ⟨fuseS a5x.s fu, a5x.n, a5x.fs⟩) jO2 hB1 (by omega) jn1 (jS.fuse fu) jrel (by omega) jn1 h1 h2 h3 y hyb hkd
           have htr := htn fu hfu
           have hbB : ∀ o : Op13, (o.kind = 0 ∨ o.kind = 2) → (SS.step ⟨fuseS a5x.s fu, a5x.n, a5x.fs⟩ o).s.B (5 * i5x + 2) ∧ (SS.step ⟨fuseS a5x.s fu, a5x.n, a5x.fs⟩ o).s.pages = 9 := fun o ho => by
             have hb := (jS.fuse fu).step (a := ⟨fuseS a5x.s fu, a5x.n, a5x.fs⟩) (hB1.wf (by omega)) o
             exact ⟨step_B hB1 ho, hb.p⟩
           obtain ⟨hbB1, hbB2⟩ := hbB y hkd
           unfold Op13.cells at hdf
           generalize SS.step ⟨fuseS a5x.s fu, a5x.n, a5x.fs⟩ y = bz at *
           simp only at hdf
           refine jr (h := ?_)
           refine jcs (Fr := []) (hs := (hdf.underL [_])) (hp := (by rw [List.append_nil]; rfl)) (hk := ?_) (hpan := (by rintro x Δ' ⟨_, ⟨_, _, h, _⟩, _⟩; cases h))
           rintro _ _ ⟨_, ⟨x0, E3, h, jO3, rfl⟩, rfl⟩
           cases h
           rw [List.append_nil]
           simp only [List.cons_append, List.nil_append]
           have hag := again13g (t := t2) (n := bz.n) (n' := a5x.n) jO3 hbB1 (by omega) hbB2 jrel (by omega) jS.p keep hkk
           have hB3 := crashS_B hbB1 keep
           have hup3 : ¬ (crashS bz.s keep).down = true := by show ¬ (false = true); decide
           generalize crashS bz.s keep = s3 at *
           generalize nextF s3 = n3 at *
           generalize openFs s3 2 4 = fs3 at *
           refine jr (h := ?_)
           refine jcs (Fr := []) (hs := (hag.underL [_, _, _])) (hp := (by rw [List.append_nil]; rfl)) (hk := ?_) (hpan := (by rintro x Δ' ⟨_, ⟨_, _, _, _, _, h, _⟩, _⟩; cases h))
           rintro _ _ ⟨_, ⟨t3, sm3, fb3, c3, E4, h, -, jO4, rfl⟩, rfl⟩
           cases h
           rw [List.append_nil]
           simp only [List.cons_append, List.nil_append]
           refine jr (own := [26]) (h := ?_)
           refine jnv (hh := fun b26 hb26 => ?_)
           refine jr (h := ?_)
           refine jn (h := ?_)
           refine J_drop (J_drop (J_drop (J_drop ?_)))
           have hwf3 := hB3.wf (by omega)
           have hall := sall_ok (sm := sm3) (t := t3) (fb := fb3) (n := n3) (base := 2) (N := 4) jO4 hwf3 (by decide) (by decide) (by decide)
           simp only [if_neg hup3] at hall
           have hsl := torn_slots hK (by omega) htr hnxs
           have hga := fun (q : Nat) (hq : q < 4) => got_all hsl hq
           have hAw := allP_w hwf3 2 4
           have hAl := allP_len hwf3 2 4
           have hsame := htr.same
           clear htr hsl htn hnxs
           generalize hNX : pgE az.s (2 + (slK y.x.key : Int)) = NX at *
           generalize allP s3 2 4 = AL at *
           refine jr (h := ?_)
           refine jcs (Fr := [_]) (hs := hall) (hp := (permD _ _ _ _ _)) (hk := ?_) (hpan := (by rintro x Δ' ⟨⟨e, h, _⟩, _⟩; cases h))
           rintro _ _ ⟨⟨er, h, he⟩, rfl⟩
           cases h
           obtain rfl := iserr_zero he
           refine J_perm (permD _ _ _ _ _).symm ?_
           refine jr (h := ?_)
           refine jn (h := ?_)
           refine jr (h := ?_)
           refine jk [5, 16, 17, 25, 27, 29] (h := ?_)
           refine J_loopI (I := fun m e Δ => ∃ q : Nat, q ≤ 4 ∧ m = 4 - q ∧ Δ = smB sm3 t3 2 fb3 4 :: smF fb3 fs3 :: tbox t3 f2 n3 :: GL :: E4 ∧ e = [(5, .fp [.c (.int .i64 y.kind), .c (.string (mkStr y.x.key)), .c (.int .i64 y.x.ver), .c (.int .i64 y.x.asof), .c (.int .i64 y.x.ends), .sl 1 (bytesRows y.x.val), .c (.int .i64 y.n), .sl 1 (intRows y.keep)]), (16, .fp (sC a5x.s c a5x.n)), (17, .fp (sC az.s c1 az.n)), (25, ptr sm3), (27, .sl 5 (ents AL)), (29, .c (.int .i64 q))]) ?_ ?_
           · exact ⟨_, 0, by omega, rfl, rfl, rfl⟩
           · rintro m e Δ ⟨q, hq, rfl, rfl, rfl⟩ ih
             refine jr (h := ?_)
             refine jif (h1 := fun hq4 => ?_) (h2 := fun hq4 => ?_)
             · have hqt : q < 4 := by omega
               have hG := hga q hqt
               have hsm := hsame q hqt
               have hw0q := hw0 q hqt
               have hw1q := hw1 q hqt
               have hsb := fun (k : List UInt8) (hk : k.length < 2 ^ 62) => sbucket_ok (sm := sm3) (t := t3) (fb := fb3) (base := 2) (N := 4) hk (by decide) (by decide)
               refine jr (h := ?_)
               refine jk [5, 16, 17, 25, 27, 29, 30, 31] (h := ?_)
               refine J_loopI (I := fun m e Δ => ∃ (k : Nat) (v : Value) (D0 : List HP), k ≤ AL.length ∧ m = AL.length - k ∧ Δ = smB sm3 t3 2 fb3 4 :: smF fb3 fs3 :: tbox t3 f2 n3 :: GL :: (E4 ++ D0) ∧ Own 78 5 (ents (atSl q (AL.take k))).flatten (ents (atSl q (AL.take k))).length v D0 ∧ e = [(5, .fp [.c (.int .i64 y.kind), .c (.string (mkStr y.x.key)), .c (.int .i64 y.x.ver), .c (.int .i64 y.x.asof), .c (.int .i64 y.x.ends), .sl 1 (bytesRows y.x.val), .c (.int .i64 y.n), .sl 1 (intRows y.keep)]), (16, .fp (sC a5x.s c a5x.n)), (17, .fp (sC az.s c1 az.n)), (25, ptr sm3), (27, .sl 5 (ents AL)), (29, .c (.int .i64 q)), (30, .c v), (31, .c (.int .i64 k))]) ?_ ?_
               · exact ⟨_, 0, _, [], Nat.zero_le _, rfl, by rw [List.append_nil], .nil none (by simp [ents, atSl]) (by simp [ents, atSl]), rfl⟩
               · rintro m e Δ ⟨k, v, D0, hk, rfl, rfl, how, rfl⟩ ih2
                 refine jf ents_len (h := ?_)
                 refine jif (h1 := fun hkl => ?_) (h2 := fun hkl => ?_)
                 · have hkt : k < AL.length := by omega
                   have g0 := List.getElem?_eq_getElem hkt
                   have g1 := ents_get g0
                   have hk0 : (0 : Int) ≤ (k : Int) := by omega
                   have hyw := hAw _ (List.getElem_mem hkt)
                   have hst := atSl_step g0 q
                   have hln := atSl_len q (AL.take k)
                   rw [List.length_take] at hln
                   generalize AL[k] = z at *
                   have hk2 := hyw.k2
                   have hsbz := (hsb z.key (by omega)).around (Δ := smB sm3 t3 2 fb3 4 :: smF fb3 fs3 :: tbox t3 f2 n3 :: GL :: (E4 ++ D0)) (Fr := smF fb3 fs3 :: tbox t3 f2 n3 :: GL :: (E4 ++ D0)) (List.Perm.refl _)
                   replace hsbz : ACalls Tryz.prog 47 [ptr sm3, .c (.string (mkStr z.key))] (smB sm3 t3 2 fb3 4 :: smF fb3 fs3 :: tbox t3 f2 n3 :: GL :: (E4 ++ D0)) (fun r Δ' => r = .ret (.c (.int .i64 (slK z.key : Int))) ∧ Δ' = smB sm3 t3 2 fb3 4 :: smF fb3 fs3 :: tbox t3 f2 n3 :: GL :: (E4 ++ D0)) := hsbz
                   generalize slK z.key = sz at *
                   refine jf (cA g1 ents_len) (h := ?_)
                   refine jcr (hs := hsbz) (hk := ?_)
                   refine jr (h := ?_)
                   by_cases hsz : sz = q
                   · rw [if_pos hsz] at hst
                     refine jif (h1 := fun _ => ?_) (h2 := fun hc => absurd (by omega) hc)
                     refine jf (own := [224]) (cA g1 ents_len) (h := ?_)
                     refine jap (Fr := smB sm3 t3 2 fb3 4 :: smF fb3 fs3 :: tbox t3 f2 n3 :: GL :: E4) (how := how) (hp := (List.Perm.refl _)) (hsrc := (by simp only [go_sem] <;> rfl)) (hc := (by rfl)) (hmax := (by rw [ents_len]; omega)) (hk := ?_)
                     rintro _ _ ⟨v', D', rfl, rfl, how'⟩
                     simp only [List.cons_append]
                     refine jr (h := ?_)
                     refine jk [5, 16, 17, 25, 27, 29, 30, 31] (h := ?_)
                     refine ih2 _ _ _ ?_ ⟨k + 1, v', D', hkt, rfl, rfl, by rw [hst]; exact own_snoc (by simpa [Entry.cells] using how'), ?_⟩
                     · omega
                     · simp only [Int.natCast_add, Int.cast_ofNat_Int]
                   · rw [if_neg hsz, List.append_nil] at hst
                     refine jif (h1 := fun hc => absurd hc (by omega)) (h2 := fun _ => ?_)
                     refine jr (h := ?_)
                     refine jk [5, 16, 17, 25, 27, 29, 30, 31] (h := ?_)
                     refine ih2 _ _ _ ?_ ⟨k + 1, v, D0, hkt, rfl, rfl, by rw [hst]; exact how, ?_⟩
                     · omega
                     · simp only [Int.natCast_add, Int.cast_ofNat_Int]
                 · have hkk2 : k = AL.length := by omega
                   rw [hkk2, List.take_length, hG] at how
                   clear ih2 hG
                   have hgw := pgE_w hwf3 (2 + (q : Int))
                   have hhw := pgE_w hwfa (2 + (q : Int))
                   refine J_freezeS (Fr := smB sm3 t3 2 fb3 4 :: smF fb3 fs3 :: tbox t3 f2 n3 :: GL :: E4) how (ents_row _) (by rw [ents_len]; unfold maxRows; omega) ?_
                   refine J_is (t := 30) (by simp only [go_sem]) (List.mem_cons_self ..) (J_drop ?_)
                   generalize pgE s3 (2 + (q : Int)) = G at *
                   generalize hH : pgE a5x.s (2 + (q : Int)) = H at *
                   have hs1 := sameAll_ok G H (by omega) (fun x hx => by have := (hgw.1 x hx).b; omega)
                   have hs2 := sameAll_ok G NX (by omega) (fun x hx => by have := (hgw.1 x hx).b; omega)
                   refine jr (h := ?_)
                   refine jc (hs := hw0q) (hk := ?_)
                   refine jr (h := ?_)
                   refine jc (hs := hs1) (hk := ?_)
                   refine jr (h := ?_)
                   by_cases hGH : G = H
                   · refine jif (h1 := fun _ => ?_) (h2 := fun hc => absurd (by exact hGH) hc)
                     refine jr (h := ?_)
                     refine jk [5, 16, 17, 25, 27, 29] (h := ?_)
                     refine ih _ _ _ ?_ ⟨q + 1, hqt, rfl, rfl, ?_⟩
                     · omega
                     · simp only [Int.natCast_add, Int.cast_ofNat_Int]
                   · refine jif (h1 := fun hc => absurd hc (by exact hGH)) (h2 := fun _ => ?_)
                     rcases hsm with h | ⟨hj, hGn⟩
                     · exact absurd h hGH
                     have hsby := (hsb y.x.key (by have := hyb.key; omega)).around (Δ := smB sm3 t3 2 fb3 4 :: smF fb3 fs3 :: tbox t3 f2 n3 :: GL :: E4) (Fr := smF fb3 fs3 :: tbox t3 f2 n3 :: GL :: E4) (List.Perm.refl _)
                     replace hsby : ACalls Tryz.prog 47 [ptr sm3, .c (.string (mkStr y.x.key))] (smB sm3 t3 2 fb3 4 :: smF fb3 fs3 :: tbox t3 f2 n3 :: GL :: E4) (fun r Δ' => r = .ret (.c (.int .i64 (slK y.x.key : Int))) ∧ Δ' = smB sm3 t3 2 fb3 4 :: smF fb3 fs3 :: tbox t3 f2 n3 :: GL :: E4) := hsby
                     rw [← hj] at hsby hNX
                     have hel := ents_len G
                     refine jr (h := ?_)
                     refine jcr (hs := hsby) (hk := ?_)
                     by_cases hG0 : G = []
                     · have hgl : decide ((0 : Int) < (G.length : Int)) = false := by rw [hG0]; rfl
                       refine jq (cA hel hgl) (h := ?_)
                       refine jn (h := ?_)
                       refine jr (h := ?_)
                       refine jk [5, 16, 17, 25, 27, 29] (h := ?_)
                       refine ih _ _ _ ?_ ⟨q + 1, hqt, rfl, rfl, ?_⟩
                       · omega
                       · simp only [Int.natCast_add, Int.cast_ofNat_Int]
                     · have hgl : decide ((0 : Int) < (G.length : Int)) = true := decide_eq_true (by have := List.length_pos_iff.2 hG0; omega)
                       have hGN : G = NX := by rcases hGn with h | h; (· exact absurd h hG0); (· exact h)
                       rw [hNX] at hw1q
                       rw [decide_eq_true hGN] at hs2
                       refine jq (cA hel hgl) (h := ?_)
                       refine jc (hs := hw1q) (hk := ?_)
                       refine jq (cA hel hgl) (h := ?_)
                       refine jc (hs := hs2) (hk := ?_)
                       refine jr (h := ?_)
                       refine jn (h := ?_)
                       refine jr (h := ?_)
                       refine jk [5, 16, 17, 25, 27, 29] (h := ?_)
                       refine ih _ _ _ ?_ ⟨q + 1, hqt, rfl, rfl, ?_⟩
                       · omega
                       · simp only [Int.natCast_add, Int.cast_ofNat_Int]
             · refine jr (h := ?_)
               refine jcg (hin := by simp [GL]) (hs := works13_ok) (hk := ?_)
               refine jr (h := ?_)
               refine J_forget ?_
               refine jret Tryz.func9 (h := ⟨rfl, rfl⟩)
end
end Go.Proofs.YtjppajaoekbkpaaGreatDoor
