/- A part of the proof: what the calls do, told by values. -/
import Derived.Test.YtjppajaoekbkpaaGreatDoorB8
import Derived.Test.YtjppajaoekbkpaaGreatDoorB5
import Derived.Test.YtjppajaoekbkpaaGreatDoorA8
import Derived.Test.YtjppajaoekbkpaaGreatDoorB7
set_option linter.unusedVariables false
set_option linter.unusedSimpArgs false
set_option maxRecDepth 100000
set_option maxHeartbeats 4000000
namespace Go.Proofs.YtjppajaoekbkpaaGreatDoor
open Go Go.Av
attribute [local go_sem] packed List.set_cons_zero List.set_cons_succ List.cons_append List.nil_append bytesRows_length cellRows_len chRows_len rCells intRows_len
attribute [-go_sem] cellsOf AV.isCell
attribute [local go_sem] cellsOf_agg cellsOf_int cellsOf_bool cellsOf_str cellsOf_map cellsOf_ptr cellsOf_nilI cellsOf_slice cellsOf_sl cellsOf_ifc cellsOf_fp cellsOf_opt optAV_cell icell_int icell_bool icell_str icell_map icell_ptr icell_nilI icell_slice icell_sl icell_ifc icell_fp
section
attribute [local go_sem] Entry.av Entry.cells sAV tAV
def rsetS (r : Fl) (n : Int) (base : Int) (i : Nat) (x : Entry) : List Entry × Int × Fl × Int :=
 if r.down = true then ([], 11, r, n) else if (insE (pgE r (base + i)) x).1 ≠ 0 then ([], (insE (pgE r (base + i)) x).1, r, n)
 else (if (wrR r n base i (insE (pgE r (base + i)) x).2.1).1 = 0 then (insE (pgE r (base + i)) x).2.2 else [], wrR r n base i (insE (pgE r (base + i)) x).2.1)
theorem rset_ok (r : Fl) (n base : Int) (N i : Nat) (x : Entry) (hk : x.key.length < 2 ^ 62) (h0 : 0 < N) (hN : N ≤ 4096) (hsl : slotE (hash64 x.key) N = i) (hw : r.WF) (hw' : r.WF') (hll : r.loose.length < 2 ^ 29) (hn : n < 4611686018427387904) (hw2 : ∀ at_ b, (tputS r n at_ 1 b).R) (h1 : ∀ p ∈ r.safe, p.2.length = 256) (h2 : ∀ p ∈ r.loose, ∀ b, p.2 = some b → b.length = 256) (h3 : r.safe.length < 2 ^ 60) (h4 : r.loose.length < 2 ^ 60) (hb : 0 ≤ base ∧ base ≤ 4096) :
   ACalls Tryz.prog 87 [sAV r n base N, x.av] [] (Ret (.tup [sAV (rsetS r n base i x).2.2.1 (rsetS r n base i x).2.2.2 base N, .sl 5 (ents (rsetS r n base i x).1), .c (.int .i64 (rsetS r n base i x).2.1)])) := by
 have hlt : i < N := hsl ▸ slotE_lt h0
 have hbk := rbucket_ok r n base N x.key hk h0 hN
 rw [hsl] at hbk
 have hpg := rpage_ok r n base N i h1 h2 h3 h4 hb (by omega)
 have hpw := pgE_w hw (base + i)
 have hiw := insE_w (x := x) hpw.1
 have hin := insert12_ok (pgE r (base + i)) x hpw.1 hpw.2.2 (by omega)
 have hal := rall_ok (insE (pgE r (base + i)) x).2.1 hiw.1 (by omega)
 have hbd := allB_bd hiw.1
 have hfm := firm10_ok r n hn hw' hll (base + i) 1 (allB (insE (pgE r (base + i)) x).2.1) (by omega) (hw2 _ _)
 have hwt := fun (r2 : Fl) (n2 : Int) => with_ok r r2 n n2 base N
 have hW : wrR r n base i (insE (pgE r (base + i)) x).2.1 = (tfirmC r n (base + i) 1 (allB (insE (pgE r (base + i)) x).2.1), tfirm04S r n (base + i) 1 (allB (insE (pgE r (base + i)) x).2.1), tputN r n (base + i) 1 (allB (insE (pgE r (base + i)) x).2.1)) := rfl
 unfold rsetS
 rw [hW]
 clear hsl hW hbd hiw
 generalize tfirmC r n (base + i) 1 (allB (insE (pgE r (base + i)) x).2.1) = C at *
 generalize tfirm04S r n (base + i) 1 (allB (insE (pgE r (base + i)) x).2.1) = S at *
 generalize tputN r n (base + i) 1 (allB (insE (pgE r (base + i)) x).2.1) = n2 at *
 generalize allB (insE (pgE r (base + i)) x).2.1 = bb at *
 generalize insE (pgE r (base + i)) x = I at *
 generalize pgE r (base + i) = l at *
 obtain ⟨ic, il, ig⟩ := I
 have hwt := hwt S n2
 clear hw hw' hw2
 obtain ⟨pg, sf, lo, fu, dn, dc⟩ := r
 obtain ⟨pg2, sf2, lo2, fu2, dn2, dc2⟩ := S
 simp only at *
 refine jen cl_87 Tryz.func87 (h := ?_)
 refine jr (own := [2, 3, 4]) (h := ?_)
 refine jnb (hh := fun b2 hb2 => ?_)
 simp only [fresh] at hb2
 refine jr (own := [2, 3, 4]) (h := ?_)
 refine jnb (hh := fun b3 hb3 => ?_)
 simp only [fresh] at hb3
 refine jr (own := [2, 3, 4]) (h := ?_)
 refine jnv (hh := fun b4 hb4 => ?_)
 simp only [fresh] at hb4
 refine jf (cB hb2 hb3 hb4) (h := ?_)
 by_cases hd : dn = true
 · subst hd
   simp only [if_true]
   refine jt (h := ?_)
   refine jf (cB hb2 hb3 hb4) (h := ?_)
   refine J_wk (t := 5) (by simp only [go_sem]) (nil_le_sl (s := 5)) ?_
   refine J_forget ?_
   refine jretf (cB hb2 hb3 hb4) Tryz.func87 (h := ⟨rfl, rfl⟩)
 · obtain rfl : dn = false := by cases dn; rfl; exact absurd rfl hd
   simp only [if_neg hd]
   refine jn (h := ?_)
   refine jf (cB hb2 hb3 hb4) (h := ?_)
   refine jc (hs := hbk) (hk := ?_)
   refine jf (cB hb2 hb3 hb4) (h := ?_)
   refine jd [(0, .read), (1, .pure), (2, .pure), (3, .read), (4, .pure), (5, .pure), (6, .pure), (7, .pure), (8, .pure), (9, .pure), (10, .pure), (11, .pure)] mixed (by kernel_rfl) ?_
   refine cf (cB hb2 hb3 hb4) (hk := ?_)
   refine ccp (hs := hpg) (hk := ?_)
   refine cf (cB hb2 hb3 hb4) (hk := ?_)
   refine ccp (hs := hin) (hk := ?_)
   refine cf (cB hb2 hb3 hb4) (hk := ?_)
   refine Can_nil ?_
   refine jr (h := ?_)
   by_cases hf : ic ≠ 0
   · simp only [if_pos hf]
     refine jif (h1 := fun _ => ?_) (h2 := fun hc => absurd (by exact hf) hc)
     refine jf (cB hb2 hb3 hb4) (h := ?_)
     refine J_wk (t := 5) (by simp only [go_sem]) (nil_le_sl (s := 5)) ?_
     refine J_forget ?_
     refine jretf (cB hb2 hb3 hb4) Tryz.func87 (h := ⟨rfl, rfl⟩)
   · simp only [if_neg hf]
     refine jif (h1 := fun hc => absurd hc (by exact hf)) (h2 := fun _ => ?_)
     refine jr (h := ?_)
     refine jd [(0, .pure), (1, .read), (2, .pure), (3, .read), (4, .pure), (5, .pure), (6, .pure), (7, .pure), (8, .pure), (9, .pure), (10, .pure), (11, .pure), (12, .new), (13, .act), (14, .pure)] mixed (by kernel_rfl) ?_
     refine cf (cB hb2 hb3 hb4) (hk := ?_)
     refine ccp (hs := hal) (hk := ?_)
     refine cf (cB hb2 hb3 hb4) (hk := ?_)
     refine ccp (hs := hfm) (hk := ?_)
     refine cf (cB hb2 hb3 hb4) (hk := ?_)
     refine cnv (hk := fun b9 hb9 => ?_)
     simp only [fresh] at hb9
     refine cf (cC hb2 hb3 hb4 hb9) (hk := ?_)
     refine Can_nil ?_
     refine jf (cC hb2 hb3 hb4 hb9) (h := ?_)
     by_cases hC : C = 0
     · subst hC
       simp only [if_true]
       refine jif (h1 := fun hc => absurd hc (by exact fun h => h rfl)) (h2 := fun _ => ?_)
       refine jf (cC hb2 hb3 hb4 hb9) (h := ?_)
       refine jc (hs := hwt) (hk := ?_)
       refine jf (cC hb2 hb3 hb4 hb9) (h := ?_)
       refine J_forget ?_
       refine jretf (cC hb2 hb3 hb4 hb9) Tryz.func87 (h := ⟨rfl, rfl⟩)
     · simp only [if_neg hC]
       refine jif (h1 := fun _ => ?_) (h2 := fun hc => absurd (by exact hC) hc)
       refine jf (cC hb2 hb3 hb4 hb9) (h := ?_)
       refine jc (hs := hwt) (hk := ?_)
       refine jf (cC hb2 hb3 hb4 hb9) (h := ?_)
       refine J_wk (t := 5) (by simp only [go_sem]) (nil_le_sl (s := 5)) ?_
       refine J_forget ?_
       refine jretf (cC hb2 hb3 hb4 hb9) Tryz.func87 (h := ⟨rfl, rfl⟩)
end
section
theorem pgE_wc {s : Fl} {c : List (Int × List UInt8)} {m : Nat} (h : Rel s c m) (at_ : Int) : pgE (wc s c) at_ = pgE s at_ := by
 have hl := h.look at_
 unfold pgE tgetC
 rw [hl]
 rfl
theorem wrR_wc (s : Fl) (c : List (Int × List UInt8)) (n base : Int) (i : Nat) (l : List Entry) (fs : List BF) :
   wrR (wc s c) n base i l = ((wrS s n base i l fs).1, wc (wrS s n base i l fs).2.1 (firmCC s c n (base + i) 1 (allB l)), (wrS s n base i l fs).2.2.1) := by
 unfold wrR wrS
 rw [firm_wc]
 have hC : tfirmC (wc s c) n (base + i) 1 (allB l) = tfirmC s n (base + i) 1 (allB l) := by
   unfold tfirmC; rw [tputS_wc]; rfl
 rw [hC]
 rfl
theorem Rel.wr {s : Fl} {c : List (Int × List UInt8)} {m : Nat} (h : Rel s c m) (n base : Int) (i : Nat) (l : List Entry) (fs : List BF) : Rel (wrS s n base i l fs).2.1 (firmCC s c n (base + i) 1 (allB l)) (m + 2) := h.firm n (base + i) 1 (allB l)
def rpurS (r : Fl) (n : Int) (base : Int) (i : Nat) (h a : Int) : Int × Int × Fl × Int :=
 if r.down = true then (0, 11, r, n) else if (purE (pgE r (base + i)) h a).length = (pgE r (base + i)).length then (0, 0, r, n)
 else (if (wrR r n base i (purE (pgE r (base + i)) h a)).1 = 0 then ((pgE r (base + i)).length : Int) - (purE (pgE r (base + i)) h a).length else 0, wrR r n base i (purE (pgE r (base + i)) h a))
def rclrS (r : Fl) (base : Int) (N : Nat) : Int × Fl :=
 if (trimN r base N).1 ≠ 0 then trimN r base N else (flushC (trimN r base N).2, flush04S (trimN r base N).2)
theorem set_wc {s : Fl} {c : List (Int × List UInt8)} {m : Nat} (h : Rel s c m) (n base : Int) (i : Nat) (x : Entry) (fs : List BF) :
   ∃ c', rsetS (wc s c) n base i x = ((setS s n base i x fs).1, (setS s n base i x fs).2.1, wc (setS s n base i x fs).2.2.1 c', (setS s n base i x fs).2.2.2.1) ∧ Rel (setS s n base i x fs).2.2.1 c' (m + 2) := by
 unfold rsetS setS
 rw [pgE_wc h]
 by_cases hd : s.down = true
 · have hd' : (wc s c).down = true := hd
   rw [if_pos hd', if_pos hd]; exact ⟨c, rfl, h.mono (by omega)⟩
 · have hd' : ¬ (wc s c).down = true := hd
   rw [if_neg hd', if_neg hd]
   split
   · exact ⟨c, rfl, h.mono (by omega)⟩
   · rw [wrR_wc s c n base i _ fs]
     exact ⟨_, rfl, h.wr n base i _ fs⟩
theorem rm_wc {s : Fl} {c : List (Int × List UInt8)} {m : Nat} (h : Rel s c m) (n base : Int) (i : Nat) (k : List UInt8) (fs : List BF) :
   ∃ c', rrmS (wc s c) n base i k = ((rmS s n base i k fs).1, (rmS s n base i k fs).2.1, wc (rmS s n base i k fs).2.2.1 c', (rmS s n base i k fs).2.2.2.1) ∧ Rel (rmS s n base i k fs).2.2.1 c' (m + 2) := by
 unfold rrmS rmS
 rw [pgE_wc h]
 by_cases hd : s.down = true
 · have hd' : (wc s c).down = true := hd
   rw [if_pos hd', if_pos hd]; exact ⟨c, rfl, h.mono (by omega)⟩
 · have hd' : ¬ (wc s c).down = true := hd
   rw [if_neg hd', if_neg hd]
   split
   · exact ⟨c, rfl, h.mono (by omega)⟩
   · rw [wrR_wc s c n base i _ fs]
     exact ⟨_, rfl, h.wr n base i _ fs⟩
theorem pur_wc {s : Fl} {c : List (Int × List UInt8)} {m : Nat} (h : Rel s c m) (n base : Int) (i : Nat) (hh a : Int) (fs : List BF) :
   ∃ c', rpurS (wc s c) n base i hh a = ((purS s n base i hh a fs).1, (purS s n base i hh a fs).2.1, wc (purS s n base i hh a fs).2.2.1 c', (purS s n base i hh a fs).2.2.2.1) ∧ Rel (purS s n base i hh a fs).2.2.1 c' (m + 2) := by
 unfold rpurS purS
 rw [pgE_wc h]
 by_cases hd : s.down = true
 · have hd' : (wc s c).down = true := hd
   rw [if_pos hd', if_pos hd]; exact ⟨c, rfl, h.mono (by omega)⟩
 · have hd' : ¬ (wc s c).down = true := hd
   rw [if_neg hd', if_neg hd]
   split
   · exact ⟨c, rfl, h.mono (by omega)⟩
   · rw [wrR_wc s c n base i _ fs]
     exact ⟨_, rfl, h.wr n base i _ fs⟩
theorem trimN_wc (s : Fl) (c : List (Int × List UInt8)) (base : Int) : ∀ k, trimN (wc s c) base k = ((trimN s base k).1, wc (trimN s base k).2 c)
 | 0 => rfl
 | k + 1 => by
   unfold trimN
   rw [trimN_wc s c base k]
   simp only
   split
   · rfl
   · rw [trimS_wc]; rfl
theorem Rel.trimN {s : Fl} {c : List (Int × List UInt8)} {m : Nat} (h : Rel s c m) (base : Int) : ∀ k, Rel (trimN s base k).2 c (m + k)
 | 0 => h
 | k + 1 => by
   have ih := Rel.trimN h base k
   unfold Proofs.YtjppajaoekbkpaaGreatDoor.trimN
   split
   · exact ih.mono (by omega)
   · exact ih.trim _
theorem clr_wc {s : Fl} {c : List (Int × List UInt8)} {m : Nat} (h : Rel s c m) (base : Int) (N : Nat) (fs : List BF) :
   ∃ c', rclrS (wc s c) base N = ((clearS s base N fs).1, wc (clearS s base N fs).2.1 c') ∧ Rel (clearS s base N fs).2.1 c' (m + N + 1) := by
 have ht := h.trimN base N
 unfold rclrS clearS
 rw [trimN_wc]
 simp only
 split
 · exact ⟨c, rfl, ht.mono (by omega)⟩
 · rw [flush_wc]
   exact ⟨_, rfl, ht.flush⟩
end
section
attribute [local go_sem] getBox_GL setBox_GL fresh_GL
theorem sbuckets_ok {sm t fb N : Nat} {base : Int} : ACalls Tryz.prog 40 [ptr sm] [smB sm t base fb N] (fun r D' => r = .ret (.c (.int .i64 (N : Int))) ∧ D' = [smB sm t base fb N]) := by
 refine jen cl_40 Tryz.func40 (h := ?_)
 refine jr (h := ?_)
 refine J_forgetP ?_
 refine jret Tryz.func40 (h := ⟨[], _, List.Perm.refl _, rfl, rfl⟩)
end
section
attribute [local go_sem] sAV tAV
def allP (r : Fl) (base : Int) (N : Nat) : List Entry := (List.range N).flatMap fun (i : Nat) => pgE r (base + (i : Int))
theorem allP_succ (r : Fl) (base : Int) (N : Nat) : allP r base (N + 1) = allP r base N ++ pgE r (base + (N : Int)) := by
 unfold allP; rw [List.range_succ, List.flatMap_append]; simp
theorem allP_len {r : Fl} (hw : r.WF) (base : Int) : ∀ N, (allP r base N).length ≤ 256 * N
 | 0 => by simp [allP]
 | N + 1 => by
   rw [allP_succ, List.length_append]
   have := allP_len hw base N; have := (pgE_w hw (base + (N : Int))).2.1
   omega
end
section
attribute [local go_sem] Entry.av Entry.cells sAV tAV
theorem ropen13_ok (r : Fl) (n base : Int) (N : Nat) (h : 0 ≤ base ∧ 1 ≤ N ∧ base ≤ r.pages - N) (hp : 0 ≤ r.pages ∧ r.pages ≤ 4096) (hd : r.down = false) : ACalls Tryz.prog 34 [tAV r n, .c (.int .i64 base), .c (.int .i64 (N : Int))] [] (Ret (.tup [sAV r n base N, .c (.int .i64 0)])) := by
 obtain ⟨pg, sf, lo, fu, dn, dc⟩ := r
 simp only at h hp hd
 subst hd
 refine jen cl_34 Tryz.func34 (h := ?_)
 refine jr (own := [6]) (h := ?_)
 refine jnv (hh := fun b6 hb6 => ?_)
 have hd1 : decide (base < 0) = false := decide_eq_false (by omega)
 have hd2 : decide ((N : Int) < 1) = false := decide_eq_false (by omega)
 refine jf (cA hd1 hd2) (h := ?_)
 refine jif (h1 := fun hc => absurd hc (by first | omega | simp)) (h2 := fun _ => ?_)
 refine jr (h := ?_)
 refine jn (h := ?_)
 refine jr (h := ?_)
 refine J_forget ?_
 refine jret Tryz.func34 (h := ⟨rfl, rfl⟩)
theorem trimN_stop {s : Fl} {base : Int} {k : Nat} (h : (trimN s base k).1 ≠ 0) : ∀ j, k ≤ j → trimN s base j = trimN s base k
 | 0, hj => by obtain rfl : k = 0 := by omega
               rfl
 | j + 1, hj => by
   by_cases e : k = j + 1
   · rw [e]
   · have ih := trimN_stop h j (by omega)
     rw [← ih] at h
     have e2 : trimN s base (j + 1) = if (trimN s base j).1 ≠ 0 then trimN s base j else (trimC (trimN s base j).2 (base + j), trimS (trimN s base j).2 (base + j)) := rfl
     rw [e2, if_pos h]
     exact ih
theorem trimN_next {s u : Fl} {base : Int} {k : Nat} (h : trimN s base k = (0, u)) : trimN s base (k + 1) = (trimC u (base + (k : Int)), trimS u (base + (k : Int))) := by
 have e : trimN s base (k + 1) = if (trimN s base k).1 ≠ 0 then trimN s base k else (trimC (trimN s base k).2 (base + k), trimS (trimN s base k).2 (base + k)) := rfl
 rw [e, h, if_neg (by simp)]
theorem rclear13_ok (r : Fl) (n base : Int) (N : Nat) (hN : N ≤ 4096) (hb : 0 ≤ base ∧ base ≤ 4096) (hT : ∀ k, k ≤ N → (trimN r base k).2.WF' ∧ (trimN r base k).2.loose.length < 2 ^ 29) (hF : (trimN r base N).2.R) :
   ACalls Tryz.prog 94 [sAV r n base N] [] (Ret (.tup [sAV (rclrS r base N).2 n base N, .c (.int .i64 (rclrS r base N).1)])) := by
 have hwt := fun (r2 : Fl) => with_ok r r2 n n base N
 have hnx := fun (u : Fl) (k : Nat) (h : trimN r base k = (0, u)) => trimN_next h
 have hst := fun (k : Nat) (h : (trimN r base k).1 ≠ 0) => trimN_stop h
 have hR : ∀ u, trimN r base N = u → rclrS r base N = if u.1 ≠ 0 then u else (flushC u.2, flush04S u.2) := fun u h => by unfold rclrS; rw [h]
 have hz : trimN r base 0 = (0, r) := rfl
 generalize rclrS r base N = RES at *
 obtain ⟨TN, hTN⟩ : ∃ T : Nat → Int × Fl, ∀ k, trimN r base k = T k := ⟨_, fun _ => rfl⟩
 simp only [hTN] at hnx hst hz hT hF hR
 clear hTN
 obtain ⟨pg, sf, lo, fu, dn, dc⟩ := r
 refine jen cl_94 Tryz.func94 (h := ?_)
 refine jr (own := [2, 4]) (h := ?_)
 refine jnv (hh := fun b2 hb2 => ?_)
 simp only [fresh] at hb2
 refine jf (own := [4]) hb2 (h := ?_)
 refine jnv (hh := fun b4 hb4 => ?_)
 simp only [fresh] at hb4
 refine jf (cA hb2 hb4) (h := ?_)
 refine jk [1, 2, 4, 5] (h := ?_)
 refine J_loopI (I := fun m e D => ∃ (i : Nat) (u : Fl), i ≤ N ∧ m = N - i ∧ TN i = (0, u) ∧ D = [.box b4 51 [.c (.int .i64 u.pages), .sl 2 (cellRows u.safe), .sl 3 (chRows u.loose), .c (.int .i64 u.fuse), .c (.bool u.down), .c (.int .i64 u.done), .c (.int .i64 n)], .box b2 74 [.c (.int .i64 0), .c (.slice none 0 0), .c (.slice none 0 0), .c (.int .i64 0), .c (.bool false), .c (.int .i64 0), .c (.int .i64 0), .c (.int .i64 0), .c (.int .i64 0)]] ∧ e = [(1, .fp [.c (.int .i64 pg), .sl 2 (cellRows sf), .sl 3 (chRows lo), .c (.int .i64 fu), .c (.bool dn), .c (.int .i64 dc), .c (.int .i64 n), .c (.int .i64 base), .c (.int .i64 (N : Int))]), (2, .c (.pointer (some ⟨b2, 0, none⟩))), (4, .c (.pointer (some ⟨b4, 0, none⟩))), (5, .c (.int .i64 i))]) ?_ ?_
 · exact ⟨_, 0, ⟨pg, sf, lo, fu, dn, dc⟩, Nat.zero_le _, rfl, hz, rfl, rfl⟩
 · rintro m e D ⟨i, u, hi, rfl, hu, rfl, rfl⟩ ih
   refine jf (cA hb2 hb4) (h := ?_)
   refine jif (h1 := fun hc => ?_) (h2 := fun hc => ?_)
   · have hlt : i < N := by omega
     have hti := hT i hi
     rw [hu] at hti
     have htr := trim10_ok u n hti.1 hti.2 (base + (i : Int))
     have hn1 := hnx u i hu
     generalize trimC u (base + (i : Int)) = C at *
     generalize trimS u (base + (i : Int)) = u2 at *
     obtain ⟨pg1, sf1, lo1, fu1, dn1, dc1⟩ := u
     obtain ⟨pg2, sf2, lo2, fu2, dn2, dc2⟩ := u2
     have hw2 := hwt ⟨pg2, sf2, lo2, fu2, dn2, dc2⟩
     refine jf (cA hb2 hb4) (h := ?_)
     refine jc (hs := htr) (hk := ?_)
     refine jf (own := [6]) (cA hb2 hb4) (h := ?_)
     refine jnv (hh := fun b6 hb6 => ?_)
     simp only [fresh] at hb6
     refine jf (cB hb2 hb4 hb6) (h := ?_)
     by_cases hC : C = 0
     · subst hC
       refine jif (h1 := fun hc => absurd hc (by exact fun h => h rfl)) (h2 := fun _ => ?_)
       refine jf (cB hb2 hb4 hb6) (h := ?_)
       refine jk [1, 2, 4, 5] (h := ?_)
       refine J_drop ?_
       refine ih _ _ _ ?_ ⟨i + 1, ⟨pg2, sf2, lo2, fu2, dn2, dc2⟩, hlt, rfl, hn1, rfl, by simp only [Int.natCast_add, Int.cast_ofNat_Int]⟩
       omega
     · refine jif (h1 := fun _ => ?_) (h2 := fun hc => absurd (by exact hC) hc)
       refine jf (cB hb2 hb4 hb6) (h := ?_)
       refine jc (hs := hw2) (hk := ?_)
       refine jf (cB hb2 hb4 hb6) (h := ?_)
       have hs := hst (i + 1) (by rw [hn1]; exact hC) N hlt
       rw [hn1] at hs
       have hres := hR _ hs
       rw [if_pos hC] at hres
       rw [hres]
       refine J_forget ?_
       refine jretf (cB hb2 hb4 hb6) Tryz.func94 (h := ⟨rfl, rfl⟩)
   · have hi' : i = N := by omega
     subst hi'
     rw [hu] at hF
     have hfl := flush10_ok u n hF
     have hres := hR _ hu
     rw [if_neg (by simp)] at hres
     rw [hres]
     simp only
     generalize flush04S u = u2 at *
     generalize flushC u = C at *
     obtain ⟨pg1, sf1, lo1, fu1, dn1, dc1⟩ := u
     obtain ⟨pg2, sf2, lo2, fu2, dn2, dc2⟩ := u2
     have hw2 := hwt ⟨pg2, sf2, lo2, fu2, dn2, dc2⟩
     refine jf (cA hb2 hb4) (h := ?_)
     refine jc (hs := hfl) (hk := ?_)
     refine jf (own := [8]) (cA hb2 hb4) (h := ?_)
     refine jnv (hh := fun b8 hb8 => ?_)
     simp only [fresh] at hb8
     refine jf (cB hb2 hb4 hb8) (h := ?_)
     refine jc (hs := hw2) (hk := ?_)
     refine jf (cB hb2 hb4 hb8) (h := ?_)
     refine J_forget ?_
     refine jretf (cB hb2 hb4 hb8) Tryz.func94 (h := ⟨rfl, rfl⟩)
end
section
attribute [local go_sem] Entry.av Entry.cells sAV tAV
theorem purE_step {l : List Entry} {i : Nat} {x : Entry} (hx : l[i]? = some x) (h a : Int) : purE (l.take (i + 1)) h a = purE (l.take i) h a ++ if hash64 x.key = h ∧ x.asof < a then [] else [x] := by
 unfold purE
 rw [List.take_add_one, hx, Option.toList_some, List.filter_append]
 by_cases h1 : hash64 x.key = h <;> by_cases h2 : x.asof < a <;> simp [h1, h2]
theorem purE_len (l : List Entry) (h a : Int) : (purE l h a).length ≤ l.length := (purE_sub l h a).length_le
theorem rpurge13_ok (r : Fl) (n base : Int) (N i : Nat) (h a : Int) (hin : In64 h) (h0 : 0 < N) (hN : N ≤ 4096) (hsl : slotE h N = i) (hw : r.WF) (hw' : r.WF') (hll : r.loose.length < 2 ^ 29) (hn : n < 4611686018427387904) (hw2 : ∀ at_ b, (tputS r n at_ 1 b).R) (h1 : ∀ p ∈ r.safe, p.2.length = 256) (h2 : ∀ p ∈ r.loose, ∀ b, p.2 = some b → b.length = 256) (h3 : r.safe.length < 2 ^ 60) (h4 : r.loose.length < 2 ^ 60) (hb : 0 ≤ base ∧ base ≤ 4096) :
   ACalls Tryz.prog 91 [sAV r n base N, .c (.int .u64 h), .c (.int .i64 a)] [] (Ret (.tup [sAV (rpurS r n base i h a).2.2.1 (rpurS r n base i h a).2.2.2 base N, .c (.int .i64 (rpurS r n base i h a).1), .c (.int .i64 (rpurS r n base i h a).2.1)])) := by
 have hlt : i < N := hsl ▸ slotE_lt h0
 have hsd := rslot_ok h hin N h0 hN
 rw [hsl] at hsd
 have hpg := rpage_ok r n base N i h1 h2 h3 h4 hb (by omega)
 have hpw := pgE_w hw (base + i)
 have hrl := purE_len (pgE r (base + i)) h a
 have hrw : ∀ y ∈ purE (pgE r (base + i)) h a, EntW y := fun y hy => hpw.1 y ((purE_sub _ _ _).subset hy)
 have hal := rall_ok (purE (pgE r (base + i)) h a) hrw (by omega)
 have hbd := allB_bd hrw
 have hfm := firm10_ok r n hn hw' hll (base + i) 1 (allB (purE (pgE r (base + i)) h a)) (by omega) (hw2 _ _)
 have hwt := fun (r2 : Fl) (n2 : Int) => with_ok r r2 n n2 base N
 have hW : wrR r n base i (purE (pgE r (base + i)) h a) = (tfirmC r n (base + i) 1 (allB (purE (pgE r (base + i)) h a)), tfirm04S r n (base + i) 1 (allB (purE (pgE r (base + i)) h a)), tputN r n (base + i) 1 (allB (purE (pgE r (base + i)) h a))) := rfl
 have hkl : ∀ y ∈ pgE r (base + i), y.key.length < 2 ^ 62 := fun y hy => by have := (hpw.1 y hy).k2; omega
 have hl256 := hpw.2.1
 unfold rpurS
 rw [hW]
 clear hsl hW hbd hrw hpw
 generalize tfirmC r n (base + i) 1 (allB (purE (pgE r (base + i)) h a)) = C at *
 generalize tfirm04S r n (base + i) 1 (allB (purE (pgE r (base + i)) h a)) = S at *
 generalize tputN r n (base + i) 1 (allB (purE (pgE r (base + i)) h a)) = n2 at *
 generalize allB (purE (pgE r (base + i)) h a) = bb at *
 generalize pgE r (base + i) = l at *
 have hwt := hwt S n2
 clear hw hw' hw2
 obtain ⟨pg, sf, lo, fu, dn, dc⟩ := r
 obtain ⟨pg2, sf2, lo2, fu2, dn2, dc2⟩ := S
 simp only at *
 refine jen cl_91 Tryz.func91 (h := ?_)
 refine jr (own := [6]) (h := ?_)
 refine jnv (hh := fun b6 hb6 => ?_)
 simp only [fresh] at hb6
 refine jf hb6 (h := ?_)
 by_cases hd : dn = true
 · subst hd
   simp only [if_true]
   refine jt (h := ?_)
   refine jf hb6 (h := ?_)
   refine J_forget ?_
   refine jretf hb6 Tryz.func91 (h := ⟨rfl, rfl⟩)
 · obtain rfl : dn = false := by cases dn; rfl; exact absurd rfl hd
   simp only [if_neg hd]
   refine jn (h := ?_)
   refine jf hb6 (h := ?_)
   refine jc (hs := hsd) (hk := ?_)
   refine jf hb6 (h := ?_)
   refine jc (hs := hpg) (hk := ?_)
   refine jf hb6 (h := ?_)
   refine jk [1, 2, 3, 6, 9, 10, 11, 12] (h := ?_)
   refine J_loopI (I := fun m e D => ∃ (k : Nat) (v : Value) (D0 : List HP), k ≤ l.length ∧ m = l.length - k ∧ D = .box b6 74 [.c (.int .i64 0), .c (.slice none 0 0), .c (.slice none 0 0), .c (.int .i64 0), .c (.bool false), .c (.int .i64 0), .c (.int .i64 0), .c (.int .i64 0), .c (.int .i64 0)] :: D0 ∧ Own 78 5 (ents (purE (l.take k) h a)).flatten (ents (purE (l.take k) h a)).length v D0 ∧ e = [(1, .c (.int .u64 h)), (2, .c (.int .i64 a)), (3, .fp [.c (.int .i64 pg), .sl 2 (cellRows sf), .sl 3 (chRows lo), .c (.int .i64 fu), .c (.bool false), .c (.int .i64 dc), .c (.int .i64 n), .c (.int .i64 base), .c (.int .i64 (N : Int))]), (6, .c (.pointer (some ⟨b6, 0, none⟩))), (9, .c (.int .i64 i)), (10, .sl 5 (ents l)), (11, .c v), (12, .c (.int .i64 k))]) ?_ ?_
   · exact ⟨_, 0, _, [], Nat.zero_le _, rfl, rfl, .nil none (by simp [ents, purE]) (by simp [ents, purE]), rfl⟩
   · rintro m e D ⟨k, v, D0, hk, rfl, rfl, how, rfl⟩ ih
     refine jf ents_len (h := ?_)
     refine jif (h1 := fun hc => ?_) (h2 := fun hc => ?_)
     · have hkt : k < l.length := by omega
       have g0 := List.getElem?_eq_getElem hkt
       have g1 := ents_get g0
       have hk0 : (0 : Int) ≤ (k : Int) := by omega
       have hps := purE_step g0 h a
       have hhk := rhash_ok l[k].key (hkl _ (List.getElem_mem _))
       have hpl := purE_len (l.take k) h a
       rw [List.length_take] at hpl
       generalize l[k] = x at *
       generalize hash64 x.key = hx at *
       refine jf g1 (h := ?_)
       refine jc (hs := hhk) (hk := ?_)
       by_cases e1 : hx = h
       · have hd1 : decide (hx ≠ h) = false := decide_eq_false (fun q => q e1)
         by_cases e2 : x.asof < a
         · have hd2 : decide (a ≤ x.asof) = false := decide_eq_false (by omega)
           rw [if_pos ⟨e1, e2⟩, List.append_nil] at hps
           refine jf (cC g1 hd1 hd2 hk0) (h := ?_)
           refine jn (h := ?_)
           refine jr (h := ?_)
           refine jk [1, 2, 3, 6, 9, 10, 11, 12] (h := ?_)
           refine ih _ _ _ ?_ ⟨k + 1, v, D0, hkt, rfl, rfl, by rw [hps]; exact how, by simp only [Int.natCast_add, Int.cast_ofNat_Int]⟩
           omega
         · have hd2 : decide (a ≤ x.asof) = true := decide_eq_true (by omega)
           rw [if_neg (fun q => e2 q.2)] at hps
           refine jf (cC g1 hd1 hd2 hk0) (h := ?_)
           refine jt (h := ?_)
           refine jf (own := [56]) g1 (h := ?_)
           refine jap (Fr := [_]) (how := how) (hp := (List.Perm.refl _)) (hsrc := (by simp only [go_sem] <;> rfl)) (hc := (by rfl)) (hmax := (by rw [ents_len]; omega)) (hk := ?_)
           rintro _ _ ⟨v', D', rfl, rfl, how'⟩
           refine jr (h := ?_)
           refine jk [1, 2, 3, 6, 9, 10, 11, 12] (h := ?_)
           refine ih _ _ _ ?_ ⟨k + 1, v', D', hkt, rfl, rfl, by rw [hps]; exact own_snoc (by simpa [Entry.cells] using how'), by simp only [Int.natCast_add, Int.cast_ofNat_Int]⟩
           omega
       · have hd1 : decide (hx ≠ h) = true := decide_eq_true e1
         rw [if_neg (fun q => e1 q.1)] at hps
         refine jf (cA g1 hd1) (h := ?_)
         refine jt (h := ?_)
         refine jf (own := [56]) g1 (h := ?_)
         refine jap (Fr := [_]) (how := how) (hp := (List.Perm.refl _)) (hsrc := (by simp only [go_sem] <;> rfl)) (hc := (by rfl)) (hmax := (by rw [ents_len]; omega)) (hk := ?_)
         rintro _ _ ⟨v', D', rfl, rfl, how'⟩
         refine jr (h := ?_)
         refine jk [1, 2, 3, 6, 9, 10, 11, 12] (h := ?_)
         refine ih _ _ _ ?_ ⟨k + 1, v', D', hkt, rfl, rfl, by rw [hps]; exact own_snoc (by simpa [Entry.cells] using how'), by simp only [Int.natCast_add, Int.cast_ofNat_Int]⟩
         omega
     · have hk' : k = l.length := by omega
       subst hk'
       rw [List.take_length] at how
       have hel := ents_len l
       have hpl := ents_len (purE l h a)
       refine J_freezeS (Fr := [_]) how (ents_row _) (by rw [ents_len]; unfold maxRows; omega) ?_
       refine jm 1 (h := ?_)
       refine J_is (t := 11) (by simp only [go_sem]) (List.mem_cons_self ..) (J_drop ?_)
       generalize purE l h a = rest at *
       refine jf (cA hel hpl) (h := ?_)
       by_cases hql : rest.length = l.length
       · simp only [if_pos hql]
         refine jif (h1 := fun _ => ?_) (h2 := fun hc => absurd (by omega) hc)
         refine jf hb6 (h := ?_)
         refine J_forget ?_
         refine jretf hb6 Tryz.func91 (h := ⟨rfl, rfl⟩)
       · simp only [if_neg hql]
         refine jif (h1 := fun hc => absurd hc (by omega)) (h2 := fun _ => ?_)
         refine jr (h := ?_)
         refine jd [(0, .pure), (1, .pure), (2, .pure), (3, .pure), (4, .pure), (5, .pure), (6, .pure), (7, .pure), (8, .pure), (9, .pure), (10, .pure), (11, .pure), (12, .new), (13, .act), (14, .pure)] mixed (by kernel_rfl) ?_
         refine cr (hk := ?_)
         refine ccp (hs := hal) (hk := ?_)
         refine cr (hk := ?_)
         refine ccp (hs := hfm) (hk := ?_)
         refine cr (hk := ?_)
         refine cnv (hk := fun b9 hb9 => ?_)
         simp only [fresh] at hb9
         refine cf (cA hb6 hb9) (hk := ?_)
         refine Can_nil ?_
         refine jf (cA hb6 hb9) (h := ?_)
         by_cases hC : C = 0
         · subst hC
           simp only [if_true]
           refine jif (h1 := fun hc => absurd hc (by exact fun h => h rfl)) (h2 := fun _ => ?_)
           refine jf (cC hb6 hb9 hel hpl) (h := ?_)
           refine jc (hs := hwt) (hk := ?_)
           refine jf (cC hb6 hb9 hel hpl) (h := ?_)
           refine J_forget ?_
           refine jretf (cA hb6 hb9) Tryz.func91 (h := ⟨rfl, rfl⟩)
         · simp only [if_neg hC]
           refine jif (h1 := fun _ => ?_) (h2 := fun hc => absurd (by exact hC) hc)
           refine jf (cA hb6 hb9) (h := ?_)
           refine jc (hs := hwt) (hk := ?_)
           refine jf (cA hb6 hb9) (h := ?_)
           refine J_forget ?_
           refine jretf (cA hb6 hb9) Tryz.func91 (h := ⟨rfl, rfl⟩)
end
section
attribute [local go_sem] Entry.av Entry.cells rowsBytes_bytesRows Option.map_some Int.cast_ofNat_Int getBox_GL setBox_GL fresh_GL
theorem sall_ok {sm t f fb N : Nat} {n base : Int} {s : Fl} {D : List HP} (h : OwnF f s D) (hw : s.WF) (hb : 0 ≤ base ∧ base ≤ 4096) (h0 : 0 < N) (hN : N ≤ 4096) :
   ACalls Tryz.prog 37 [ptr sm] (smB sm t base fb N :: tbox t f n :: GL :: D)
     (fun r D' => (∃ e, r = .ret (.tup [.sl 5 (ents (if s.down = true then [] else allP s base N)), e]) ∧ IsErr e (if s.down = true then 11 else 0)) ∧ D' = smB sm t base fb N :: tbox t f n :: GL :: D) := by
 have hpg := fun (i : Nat) (hi : i ≤ 4096) => page_ok (sm := sm) (t := t) (n := n) (base := base) (fb := fb) (N := N) h hw i hb hi
 have hsu := allP_succ s base
 have hle := allP_len hw base
 have hz : allP s base 0 = [] := rfl
 have hpl := fun i : Nat => (pgE_w hw (base + (i : Int))).2.1
 generalize allP s base = A at *
 obtain ⟨g, hg⟩ : ∃ g : Nat → List Entry, ∀ i : Nat, pgE s (base + (i : Int)) = g i := ⟨_, fun _ => rfl⟩
 simp only [hg] at hpg hsu hpl
 clear hg hw
 refine jen cl_37 Tryz.func37 (h := ?_)
 refine jr (h := ?_)
 refine jk [0, 4, 12, 13] (h := ?_)
 refine J_loopI (I := fun m e Δ => ∃ (i : Nat) (v : Value) (D0 : List HP), i ≤ N ∧ m = N - i ∧ (s.down = true → i = 0) ∧ Δ = smB sm t base fb N :: tbox t f n :: GL :: (D ++ D0) ∧ Own 78 5 (ents (A i)).flatten (ents (A i)).length v D0 ∧ e = [(0, ptr sm), (4, .c v), (12, .c (.int .i64 (N : Int))), (13, .c (.int .i64 i))]) ?_ ?_
 · exact ⟨_, 0, _, [], Nat.zero_le _, rfl, fun _ => rfl, by rw [List.append_nil], .nil none (by rw [hz]; rfl) (by rw [hz]; rfl), rfl⟩
 · rintro m e Δ ⟨i, v, D0, hi, rfl, hdi, rfl, how, rfl⟩ ih
   refine jr (h := ?_)
   refine jif (h1 := fun hc => ?_) (h2 := fun hc => ?_)
   · have hlt : i < N := by omega
     have hp := hpg i (by omega)
     refine jr (h := ?_)
     by_cases hd : s.down = true
     · simp only [if_pos hd] at hp ⊢
       refine jcs (Δ1 := smB sm t base fb N :: tbox t f n :: GL :: D) (Fr := D0) (hs := hp) (hp := (List.Perm.refl _)) (hk := ?_) (hpan := (by rintro x Δ' ⟨⟨e, h, _⟩, _⟩; cases h))
       rintro x _ ⟨⟨er, hx, he⟩, rfl⟩
       cases hx
       simp only [List.cons_append]
       obtain ⟨te, ve, rfl⟩ := iserr_ne he (by decide)
       refine jr (h := ?_)
       refine jt (h := ?_)
       refine jr (h := ?_)
       refine jcs (Δ1 := []) (Fr := _ :: _ :: _ :: (D ++ D0)) (hs := (wrapS_ok _ _ he)) (hp := (List.Perm.refl _)) (hk := ?_) (hpan := (by rintro x Δ' ⟨⟨e, h, _⟩, _⟩; cases h))
       rintro z _ ⟨⟨er2, hx, he2⟩, rfl⟩
       cases hx
       refine jr (h := ?_)
       refine J_wk (t := 2) (by simp only [go_sem]) (nil_le_sl (s := 5)) ?_
       refine J_forgetP ?_
       refine jret Tryz.func37 (h := ⟨D0, _, List.perm_append_comm (l₁ := smB sm t base fb N :: tbox t f n :: GL :: D), ⟨_, rfl, he2⟩, rfl⟩)
     · simp only [if_neg hd] at hp
       refine jcs (Δ1 := smB sm t base fb N :: tbox t f n :: GL :: D) (Fr := D0) (hs := hp) (hp := (List.Perm.refl _)) (hk := ?_) (hpan := (by rintro x Δ' ⟨⟨e, h, _⟩, _⟩; cases h))
       rintro x _ ⟨⟨er, hx, he⟩, rfl⟩
       cases hx
       simp only [List.cons_append]
       obtain rfl := iserr_zero he
       refine jr (h := ?_)
       refine jn (h := ?_)
       refine jr (own := [29]) (h := ?_)
       refine jap (Fr := smB sm t base fb N :: tbox t f n :: GL :: D) (how := how) (hp := (List.Perm.refl _)) (hsrc := (by simp only [go_sem, srcOf] <;> rfl)) (hc := (ents_cell _)) (hmax := (by have := hle i; have := hpl i; simp only [ents_len]; omega)) (hk := ?_)
       rintro _ _ ⟨v', D', rfl, rfl, how'⟩
       simp only [List.cons_append]
       refine jr (h := ?_)
       refine jk [0, 4, 12, 13] (h := ?_)
       refine ih _ _ _ ?_ ⟨i + 1, v', D', hlt, rfl, fun h => absurd h hd, rfl, ?_, ?_⟩
       · omega
       · rw [hsu]; exact own_appE how'
       · simp only [Int.natCast_add, Int.cast_ofNat_Int]
   · have hi' : i = N := by omega
     subst hi'
     have hd : ¬ s.down = true := fun h => by have := hdi h; omega
     simp only [if_neg hd]
     have hle2 := hle i
     refine J_freezeS (Fr := smB sm t base fb i :: tbox t f n :: GL :: D) how (ents_row _) (by rw [ents_len]; unfold maxRows; omega) ?_
     refine jr (h := ?_)
     refine J_is (t := 2) (by simp only [go_sem]) (List.mem_cons_self ..) (J_drop ?_)
     refine jret Tryz.func37 (h := ⟨⟨_, rfl, .none⟩, rfl⟩)
end
section
attribute [local go_sem] Entry.av Entry.cells rowsBytes_bytesRows Option.map_some Int.cast_ofNat_Int getBox_GL setBox_GL fresh_GL
theorem zeros_bf : ∀ n : Nat, zeros [.int .u64 0, .int .u64 0] n = (bfRows (List.replicate n (0, 0))).flatten
 | 0 => rfl
 | n + 1 => by rw [zeros, zeros_bf n, List.replicate_succ]; rfl
theorem sclear_ok {sm t f fb N : Nat} {n base : Int} {s : Fl} {D : List HP} {fs : List BF} (h : OwnF f s D) (hT : ∀ k, k ≤ N → (trimN s base k).2.WF) (hb : 0 ≤ base ∧ base ≤ 4096) (hNf : fs.length = N) (h0 : 0 < N) (hN : N ≤ 4096) (hne : sm ≠ fb) (hne2 : fb ≠ sm) :
   ACalls Tryz.prog 85 [ptr sm] (smB sm t base fb N :: smF fb fs :: tbox t f n :: GL :: D)
     (fun r D' => ∃ e D1, r = .ret e ∧ IsErr e (clearS s base N fs).1 ∧ OwnF f (clearS s base N fs).2.1 D1 ∧ D' = smB sm t base fb N :: smF fb (clearS s base N fs).2.2 :: tbox t f n :: GL :: D1) := by
 have hnx := fun (u : Fl) (k : Nat) (h : trimN s base k = (0, u)) => trimN_next h
 have hst := fun (k : Nat) (h : (trimN s base k).1 ≠ 0) => trimN_stop h
 have hR : ∀ u, trimN s base N = u → clearS s base N fs = if u.1 ≠ 0 then (u.1, u.2, fs) else (flushC u.2, flushS u.2, if flushC u.2 = 0 then List.replicate N (0, 0) else fs) := fun u h => by unfold clearS; rw [h]
 have hz : trimN s base 0 = (0, s) := rfl
 generalize clearS s base N fs = RES at *
 obtain ⟨TN, hTN⟩ : ∃ T : Nat → Int × Fl, ∀ k, trimN s base k = T k := ⟨_, fun _ => rfl⟩
 simp only [hTN] at hnx hst hz hT hR
 clear hTN
 have hcl := bfCells_len fs
 refine jen cl_85 Tryz.func85 (h := ?_)
 refine jf (cA hne hne2) (h := ?_)
 refine jk [0, 10, 11] (h := ?_)
 refine J_loopI (I := fun m e Δ => ∃ (i : Nat) (u : Fl) (D1 : List HP), i ≤ N ∧ m = N - i ∧ TN i = (0, u) ∧ OwnF f u D1 ∧ Δ = smB sm t base fb N :: smF fb fs :: tbox t f n :: GL :: D1 ∧ e = [(0, ptr sm), (10, .c (.int .i64 (N : Int))), (11, .c (.int .i64 i))]) ?_ ?_
 · exact ⟨_, 0, s, D, Nat.zero_le _, rfl, hz, h, rfl, rfl⟩
 · rintro m e Δ ⟨i, u, D1, hi, rfl, hu, hO, rfl, rfl⟩ ih
   refine J_apart (b1 := sm) (b2 := t) (.cons _ (List.Perm.swap _ _ _)) (fun hst1 hst2 => ?_)
   refine J_apart (b1 := fb) (b2 := t) ((List.Perm.swap _ _ _).trans (.cons _ (List.Perm.swap _ _ _))) (fun hft1 hft2 => ?_)
   refine jr (h := ?_)
   refine jif (h1 := fun hc => ?_) (h2 := fun hc => ?_)
   · have hlt : i < N := by omega
     have hwu := hT i hi
     rw [hu] at hwu
     have htr := trim_ok hO hwu (base + (i : Int))
     have hn1 := hnx u i hu
     generalize trimC u (base + (i : Int)) = C at *
     generalize trimS u (base + (i : Int)) = u2 at *
     refine jr (h := ?_)
     refine jd [(0, .pure), (1, .pure), (2, .pure), (3, .read), (4, .pure), (5, .pure), (6, .read), (7, .pure), (8, .pure), (9, .pure), (10, .read), (11, .pure), (12, .pure), (13, .act), (14, .pure)] mixed (by kernel_rfl) ?_
     refine cf (cD hst1 hst2 hft1 hft2 (cA hne hne2)) (hk := ?_)
     refine ccs (Fr := []) (hs := (htr.underL [_, _, _, GL])) (hp := (by rw [List.append_nil]; rfl)) (hk := ?_) (hn := (by rintro x Δ' ⟨_, ⟨e, h, _⟩, _⟩; cases h))
     rintro x _ ⟨D2, ⟨er, hx, he, -, hO2⟩, rfl⟩
     cases hx
     rw [List.append_nil]
     simp only [List.cons_append, List.nil_append]
     refine cr (hk := ?_)
     refine Can_nil ?_
     by_cases hC : C = 0
     · subst hC
       obtain rfl := iserr_zero he
       refine jr (h := ?_)
       refine jn (h := ?_)
       refine jr (h := ?_)
       refine jk [0, 10, 11] (h := ?_)
       refine ih _ _ _ ?_ ⟨i + 1, u2, D2, hlt, rfl, hn1, hO2, rfl, by simp only [Int.natCast_add, Int.cast_ofNat_Int]⟩
       omega
     · obtain ⟨te, ve, rfl⟩ := iserr_ne he hC
       refine jr (h := ?_)
       refine jt (h := ?_)
       refine jr (h := ?_)
       refine jcs (Δ1 := []) (Fr := _ :: _ :: _ :: _ :: D2) (hs := (wrapS_ok _ _ he)) (hp := (List.Perm.refl _)) (hk := ?_) (hpan := (by rintro x Δ' ⟨⟨e, h, _⟩, _⟩; cases h))
       rintro z _ ⟨⟨er2, hx, he2⟩, rfl⟩
       cases hx
       refine jr (h := ?_)
       have hs := hst (i + 1) (by rw [hn1]; exact hC) N hlt
       rw [hn1] at hs
       have hres := hR _ hs
       rw [if_pos hC] at hres
       rw [hres]
       refine jret Tryz.func85 (h := ⟨_, D2, rfl, he2, hO2, rfl⟩)
   · have hi' : i = N := by omega
     subst hi'
     have hwu := hT i hi
     rw [hu] at hwu
     have hfl := flush_ok hO hwu
     have hres := hR _ hu
     rw [if_neg (by simp)] at hres
     simp only at hres
     rw [hres]
     generalize flushS u = u2 at *
     generalize flushC u = C at *
     refine jf (cD hst1 hst2 hft1 hft2 (cA hne hne2)) (h := ?_)
     refine jcs (Fr := []) (hs := (hfl.underL [_, _, _, GL])) (hp := (by rw [List.append_nil]; rfl)) (hk := ?_) (hpan := (by rintro x Δ' ⟨_, ⟨e, h, _⟩, _⟩; cases h))
     rintro x _ ⟨D2, ⟨er, hx, he, -, hO2⟩, rfl⟩
     cases hx
     rw [List.append_nil]
     simp only [List.cons_append, List.nil_append]
     by_cases hC : C = 0
     · subst hC
       obtain rfl := iserr_zero he
       refine jr (h := ?_)
       refine jn (h := ?_)
       refine jf (cC hne hne2 hst1 hst2) (h := ?_)
       refine jbi (hb := clearZ_bi (b := fb) gS gS gS (by rfl) (by decide) h0 (by rfl) (by simp only [getBox, hne, if_neg, if_true] <;> rfl) (by rw [hcl]; omega)) (hk := ?_)
       rintro x D' rfl
       simp only [setBox, if_neg hne, if_true, List.take_zero, List.nil_append]
       rw [List.drop_eq_nil_of_le (by rw [hcl]; omega), List.append_nil, zeros_bf]
       refine jr (h := ?_)
       refine jret Tryz.func85 (h := ⟨_, D2, rfl, .none, hO2, rfl⟩)
     · obtain ⟨te, ve, rfl⟩ := iserr_ne he hC
       rw [if_neg hC]
       refine jr (h := ?_)
       refine jt (h := ?_)
       refine jf (cC hne hne2 hst1 hst2) (h := ?_)
       refine jcs (Δ1 := []) (Fr := _ :: _ :: _ :: _ :: D2) (hs := (wrapS_ok _ _ he)) (hp := (List.Perm.refl _)) (hk := ?_) (hpan := (by rintro x Δ' ⟨⟨e, h, _⟩, _⟩; cases h))
       rintro z _ ⟨⟨er2, hx, he2⟩, rfl⟩
       cases hx
       refine jr (h := ?_)
       refine jret Tryz.func85 (h := ⟨_, D2, rfl, he2, hO2, rfl⟩)
end
section
attribute [local go_sem] Entry.av Entry.cells rowsBytes_bytesRows Option.map_some Int.cast_ofNat_Int getBox_GL setBox_GL fresh_GL
theorem sopen_nil (base N : AV) : ACalls Tryz.prog 36 [.c (.pointer none), base, N] [] (fun r Δ => (∃ e, r = .ret (.tup [.c (.pointer none), e]) ∧ IsErr e 1) ∧ Δ = []) := by
 refine jen cl_36 Tryz.func36 (h := ?_)
 refine jr (h := ?_)
 refine jt (h := ?_)
 refine jr (h := ?_)
 refine jc (hs := newS_ok _ _ _) (hk := ?_)
 refine jr (h := ?_)
 refine jret Tryz.func36 (h := ⟨⟨_, rfl, errNew_is _ _ _⟩, rfl⟩)
theorem mkF_op {env : Env} {Δ : List HP} {o : Oper} {x y : Operand} {N : Nat} (h0 : 0 < N) (hN : N ≤ 4096) (hop : o.op = .makeSlice 176 x y) (hx : env.eval x = some (.c (.int .i64 N))) (hy : env.eval y = some (.c (.int .i64 N))) :
   OpOK Tryz.prog env Δ o (fun r Δ' => ∃ b, r = .c (.slice (some ⟨b, 0, none⟩) N N) ∧ Δ' = smF b (List.replicate N (0, 0)) :: Δ) := by
 have h := mko_op (P := Tryz.prog) (Δ := Δ) (env := env) (n := N) (s := 2) (zs := [.int .u64 0, .int .u64 0]) hop Tryz.underlying176 tb_181 tk_181 tz_181 rfl h0 (by decide) (by omega) (by unfold maxRows; omega) hx hy
 rw [zeros_bf] at h
 exact h
def fsI (s : Fl) (base : Int) (N i : Nat) : List BF := openFs s base i ++ List.replicate (N - i) (0, 0)
theorem openFs_succ (s : Fl) (base : Int) (i : Nat) : openFs s base (i + 1) = openFs s base i ++ [ofF (keysE (pgE s (base + (i : Int))))] := by
 unfold openFs; rw [List.range_succ, List.map_append]; rfl
theorem openFs_len (s : Fl) (base : Int) (i : Nat) : (openFs s base i).length = i := by simp [openFs]
theorem fsI_succ (s : Fl) (base : Int) {N i : Nat} (h : i < N) : (fsI s base N i).set i (ofF (keysE (pgE s (base + (i : Int))))) = fsI s base N (i + 1) := by
 unfold fsI
 rw [openFs_succ, show N - i = (N - (i + 1)) + 1 by omega, List.replicate_succ, List.append_assoc]
 have := openFs_len s base i
 rw [List.set_append_right _ _ (by omega), this, Nat.sub_self]
 rfl
theorem fsI_len (s : Fl) (base : Int) {N i : Nat} (h : i ≤ N) : (fsI s base N i).length = N := by
 unfold fsI; rw [List.length_append, openFs_len, List.length_replicate]; omega
theorem fsI_all (s : Fl) (base : Int) (N : Nat) : fsI s base N N = openFs s base N := by
 unfold fsI; rw [Nat.sub_self]; exact List.append_nil _
theorem sopen_in {t f : Nat} {n base : Int} {N : Nat} {s : Fl} {D : List HP} (h : OwnF f s D) (hw : s.WF) (hb : 0 ≤ base ∧ 1 ≤ N ∧ base ≤ s.pages - N) (hp : 0 ≤ s.pages ∧ s.pages ≤ 4096) :
   ACalls Tryz.prog 36 [ptr t, .c (.int .i64 base), .c (.int .i64 (N : Int))] (tbox t f n :: GL :: D)
     (fun r D' => if s.down = true then (∃ e, r = .ret (.tup [.c (.pointer none), e]) ∧ IsErr e 11) ∧ D' = tbox t f n :: GL :: D
       else ∃ sm fb, r = .ret (.tup [ptr sm, .c .nilIface]) ∧ D' = smB sm t base fb N :: smF fb (openFs s base N) :: tbox t f n :: GL :: D) := by
 have hd1 : decide (base < 0) = false := decide_eq_false (by omega)
 have hd2 : decide ((N : Int) < 1) = false := decide_eq_false (by omega)
 have hpg := fun (sm fb i : Nat) (hi : i ≤ 4096) => page_ok (sm := sm) (t := t) (n := n) (base := base) (fb := fb) (N := N) h hw i (by omega) hi
 have hbf := fun i : Nat => bfilter_ok (pgE s (base + (i : Int))) (fun y hy => by have := ((pgE_w hw (base + (i : Int))).1 y hy).k2; omega) (by have := (pgE_w hw (base + (i : Int))).2.1; omega)
 have hfs := fun (i : Nat) (hi : i < N) => fsI_succ s base hi
 have hfl := fun (i : Nat) (hi : i ≤ N) => fsI_len s base hi
 have hfa := fsI_all s base N
 have hfz : fsI s base N 0 = List.replicate N (0, 0) := rfl
 generalize openFs s base N = FS at *
 generalize fsI s base N = FI at *
 obtain ⟨g, hg⟩ : ∃ g : Nat → List Entry, ∀ i : Nat, pgE s (base + (i : Int)) = g i := ⟨_, fun _ => rfl⟩
 simp only [hg] at hpg hbf hfs
 clear hg
 refine jen cl_36 Tryz.func36 (h := ?_)
 refine jr (h := ?_)
 refine jn (h := ?_)
 refine jf (cA hd1 hd2) (h := ?_)
 refine jcs (Δ1 := D) (Fr := [_, _]) (hs := (pages_ok h)) (hp := (List.perm_append_comm (l₁ := [_, _]))) (hk := ?_) (hpan := (by rintro x Δ' ⟨e, _⟩; cases e))
 rintro x D ⟨e, rfl⟩
 cases e
 refine J_perm (List.perm_append_comm (l₂ := [_, _])) ?_
 simp only [List.cons_append, List.nil_append]
 refine jf (cA hd1 hd2) (h := ?_)
 refine jif (h1 := fun hc => absurd hc (by first | omega | simp)) (h2 := fun _ => ?_)
 refine jr (h := ?_)
 refine jop (ho := rfl) (hh := (mkF_op (N := N) (by omega) (by omega)) rfl gS gS) (hk := ?_)
 rintro _ _ ⟨fb, rfl, rfl⟩
 refine jr (own := [39]) (h := ?_)
 refine jnb (hh := fun sm hsm => ?_)
 simp only [fresh, fresh_GL] at hsm
 refine jf hsm (h := ?_)
 refine jk [0, 1, 2, 8, 44, 45] (h := ?_)
 refine J_loopI (I := fun m e Δ => ∃ i : Nat, i ≤ N ∧ m = N - i ∧ (s.down = true → i = 0) ∧ Δ = smB sm t base fb N :: smF fb (FI i) :: tbox t f n :: GL :: D ∧ e = [(0, ptr t), (1, .c (.int .i64 base)), (2, .c (.int .i64 (N : Int))), (8, ptr sm), (44, .c (.int .i64 (N : Int))), (45, .c (.int .i64 i))]) ?_ ?_
 · exact ⟨_, 0, Nat.zero_le _, rfl, fun _ => rfl, by rw [hfz], rfl⟩
 · rintro m e Δ ⟨i, hi, rfl, hdi, rfl, rfl⟩ ih
   refine jr (h := ?_)
   refine jif (h1 := fun hc => ?_) (h2 := fun hc => ?_)
   · have hlt : i < N := by omega
     have hp1 := hpg sm fb i (by omega)
     refine jr (h := ?_)
     by_cases hd : s.down = true
     · simp only [if_pos hd] at hp1 ⊢
       refine jcs (Δ1 := smB sm t base fb N :: tbox t f n :: GL :: D) (Fr := [smF fb (FI i)]) (hs := hp1) (hp := ((List.perm_middle (l₁ := [smB sm t base fb N])).trans (List.perm_append_comm (l₁ := [smF fb (FI i)])))) (hk := ?_) (hpan := (by rintro x Δ' ⟨⟨e, h, _⟩, _⟩; cases h))
       rintro x _ ⟨⟨er, hx, he⟩, rfl⟩
       cases hx
       refine J_perm (((List.perm_middle (l₁ := [smB sm t base fb N])).trans (List.perm_append_comm (l₁ := [smF fb (FI i)]))).symm) ?_
       obtain ⟨te, ve, rfl⟩ := iserr_ne he (by decide)
       refine jr (h := ?_)
       refine jt (h := ?_)
       refine jr (h := ?_)
       refine jcs (Δ1 := []) (Fr := _ :: _ :: _ :: _ :: D) (hs := (wrapS_ok _ _ he)) (hp := (List.Perm.refl _)) (hk := ?_) (hpan := (by rintro x Δ' ⟨⟨e, h, _⟩, _⟩; cases h))
       rintro z _ ⟨⟨er2, hx, he2⟩, rfl⟩
       cases hx
       refine jr (h := ?_)
       refine J_forgetP ?_
       refine jret Tryz.func36 (h := ⟨[_, _], _, List.Perm.refl _, ⟨_, rfl, he2⟩, rfl⟩)
     · simp only [if_neg hd] at hp1
       refine jcs (Δ1 := smB sm t base fb N :: tbox t f n :: GL :: D) (Fr := [smF fb (FI i)]) (hs := hp1) (hp := ((List.perm_middle (l₁ := [smB sm t base fb N])).trans (List.perm_append_comm (l₁ := [smF fb (FI i)])))) (hk := ?_) (hpan := (by rintro x Δ' ⟨⟨e, h, _⟩, _⟩; cases h))
       rintro x _ ⟨⟨er, hx, he⟩, rfl⟩
       cases hx
       refine J_perm (((List.perm_middle (l₁ := [smB sm t base fb N])).trans (List.perm_append_comm (l₁ := [smF fb (FI i)]))).symm) ?_
       obtain rfl := iserr_zero he
       have hcl := bfCells_len (FI i)
       rw [hfl i hi] at hcl
       have hb1 := hbf i
       have hs1 := hfs i hlt
       have hput := bf_put (fs := FI i) (i := i) (by rw [hfl i hi]; exact hlt) (ofF (keysE (g i)))
       rw [hs1] at hput
       generalize ofF (keysE (g i)) = gf at *
       refine jr (h := ?_)
       refine jn (h := ?_)
       refine jr (h := ?_)
       refine jd [(0, .pure), (1, .pure), (2, .pure), (3, .read), (4, .pure), (5, .pure), (6, .pure), (7, .pure), (8, .act)] mixed (by kernel_rfl) ?_
       refine cf hsm (hk := ?_)
       refine ccp (hs := hb1) (hk := ?_)
       refine cf (cB hsm hcl hput) (hk := ?_)
       refine Can_nil ?_
       refine jr (h := ?_)
       refine jk [0, 1, 2, 8, 44, 45] (h := ?_)
       refine ih _ _ _ ?_ ⟨i + 1, hlt, rfl, fun h => absurd h hd, rfl, ?_⟩
       · omega
       · simp only [Int.natCast_add, Int.cast_ofNat_Int]
   · have hi' : i = N := by omega
     subst hi'
     have hd : ¬ s.down = true := fun h => by have := hdi h; omega
     simp only [if_neg hd]
     rw [hfa]
     refine jr (h := ?_)
     refine jret Tryz.func36 (h := ⟨sm, fb, rfl, rfl⟩)
end
section
attribute [local go_sem] Entry.av Entry.cells rowsBytes_bytesRows Option.map_some Int.cast_ofNat_Int getBox_GL setBox_GL fresh_GL
def isP (h a : Int) (x : Entry) : Bool := decide (hash64 x.key = h) && decide (x.asof < a)
abbrev purF (h a : Int) : AV := .fn (.func 145) [] [.fp [.c (.int .u64 h)], .fp [.c (.int .i64 a)]]
theorem purge1_ok (x : Entry) (h a : Int) (hk : x.key.length < 2 ^ 62) : ACalls Tryz.prog 145 [x.av, .fp [.c (.int .u64 h)], .fp [.c (.int .i64 a)]] [] (Ret (.c (.bool (isP h a x)))) := by
 have hh := bhash_ok x.key hk
 unfold isP
 generalize hash64 x.key = hx at *
 refine jen cl_145 Tryz.func145 (h := ?_)
 by_cases h1 : hx = h
 · have hd1 : decide (hx = h) = true := decide_eq_true h1
   rw [hd1]
   refine jr (h := ?_)
   refine jd [(0, .pure), (1, .pure), (2, .pure), (3, .pure), (4, .pure), (5, .pure), (6, .pure), (7, .pure), (8, .pure), (9, .pure), (10, .pure), (11, .pure)] mixed (by kernel_rfl) ?_
   refine cr (hk := ?_)
   refine ccp (hs := hh) (hk := ?_)
   refine cf hd1 (hk := ?_)
   refine Can_nil ?_
   refine jret Tryz.func145 (h := ⟨by rw [Bool.true_and], rfl⟩)
 · have hd1 : decide (hx = h) = false := decide_eq_false h1
   rw [hd1]
   refine jr (h := ?_)
   refine jd [(0, .pure), (1, .pure), (2, .pure), (3, .pure), (4, .pure), (5, .pure), (6, .pure), (7, .pure), (8, .pure), (9, .pure), (10, .pure), (11, .pure)] mixed (by kernel_rfl) ?_
   refine cr (hk := ?_)
   refine ccp (hs := hh) (hk := ?_)
   refine cf hd1 (hk := ?_)
   refine Can_nil ?_
   refine jret Tryz.func145 (h := ⟨by rw [Bool.false_and], rfl⟩)
def idxP (l : List Entry) (h a : Int) : Int := match l.findIdx? (isP h a) with | some i => i | none => -1
theorem indexP_ok (l : List Entry) (h a : Int) (hk : ∀ y ∈ l, y.key.length < 2 ^ 62) (hl : l.length < 2 ^ 62) : ACalls Tryz.prog 156 [.sl 5 (ents l), purF h a] [] (Ret (.c (.int .i64 (idxP l h a)))) := by
 refine jen cl_156 Tryz.func156 (h := ?_)
 refine jr (h := ?_)
 refine jk [0, 1, 7, 8] (h := ?_)
 refine J_loopI (I := fun m e D => ∃ i : Nat, i ≤ l.length ∧ m = l.length - i ∧ D = [] ∧ (∀ j (q : j < l.length), j < i → isP h a l[j] = false) ∧ e = [(0, .sl 5 (ents l)), (1, purF h a), (7, .c (.int .i64 l.length)), (8, .c (.int .i64 i))]) ?_ ?_
 · exact ⟨_, 0, Nat.zero_le _, rfl, rfl, by simp, by rw [ents_len]; rfl⟩
 · rintro m e D ⟨i, hi, rfl, rfl, hn, rfl⟩ ih
   refine jr (h := ?_)
   refine jif (h1 := fun hc => ?_) (h2 := fun hc => ?_)
   · have hlt : i < l.length := by omega
     have g1 := ents_get (List.getElem?_eq_getElem hlt)
     have h0 : (0 : Int) ≤ (i : Int) := by omega
     have hf := purge1_ok l[i] h a (hk _ (List.getElem_mem _))
     simp only [Entry.av, Entry.cells] at hf
     refine jf (cA g1 ents_len) (h := ?_)
     refine jc (hs := hf) (hk := ?_)
     cases hd : isP h a l[i] with
     | true =>
       refine jr (h := ?_)
       refine jt (h := ?_)
       refine jr (h := ?_)
       refine J_retX Tryz.func156 (by simp only [go_sem, ↓reduceIte, Int.reduceLT, Int.reduceLE, Int.reduceToNat, Int.reducePow, Int.reduceNeg, Nat.reduceBEq, Tryz.f156] <;> first | with_reducible rfl | rfl) ⟨by
         have : l.findIdx? (isP h a) = some i := by
           rw [List.findIdx?_eq_some_iff_getElem]
           exact ⟨hlt, hd, fun j hj => by rw [hn j (by omega) hj]; decide⟩
         simp [idxP, this], rfl⟩
     | false =>
       refine jr (h := ?_)
       refine jn (h := ?_)
       refine jr (h := ?_)
       refine jk [0, 1, 7, 8] (h := ?_)
       refine ih _ _ _ ?_ ⟨i + 1, hlt, rfl, rfl, ?_, by simp only [Int.natCast_add, Int.cast_ofNat_Int]⟩
       · omega
       · intro j h hj
         rcases Nat.lt_succ_iff_lt_or_eq.1 hj with h1 | rfl
         · exact hn j h h1
         · exact hd
   · have hi' : i = l.length := by omega
     subst hi'
     refine jr (h := ?_)
     refine J_retX Tryz.func156 (by simp only [go_sem, ↓reduceIte, Int.reduceLT, Int.reduceLE, Int.reduceToNat, Int.reducePow, Int.reduceNeg, Nat.reduceBEq, Tryz.f156] <;> first | with_reducible rfl | rfl) ⟨by
       have : l.findIdx? (isP h a) = none := by
         rw [List.findIdx?_eq_none_iff]
         intro x hx
         obtain ⟨j, hj, rfl⟩ := List.mem_iff_getElem.1 hx
         exact hn j hj hj
       simp [idxP, this], rfl⟩
theorem purE_none {l : List Entry} {h a : Int} (hn : ∀ y ∈ l, isP h a y = false) : purE l h a = l := by
 unfold purE
 rw [List.filter_eq_self]
 intro y hy
 have := hn y hy
 unfold isP at this
 rw [this]; rfl
theorem purE_stepP {l : List Entry} {i : Nat} {x : Entry} (hx : l[i]? = some x) (h a : Int) : purE (l.take (i + 1)) h a = purE (l.take i) h a ++ if isP h a x = true then [] else [x] := by
 rw [purE_step hx]
 unfold isP
 by_cases h1 : hash64 x.key = h <;> by_cases h2 : x.asof < a <;> simp [h1, h2]
theorem deleteF_ok (l : List Entry) (h a : Int) (hk : ∀ y ∈ l, y.key.length < 2 ^ 62) (hl : l.length < 2 ^ 30) {v : Value} {D : List HP} (how : Own 78 5 (ents l).flatten (ents l).length v D) :
   ACalls Tryz.prog 143 [.c v, purF h a] D (fun r Δ' => ∃ v', r = .ret (.c v') ∧ Own 78 5 (ents (purE l h a)).flatten (ents (purE l h a)).length v' Δ') := by
 have hfi := indexP_ok l h a hk (by omega)
 refine jen cl_143 Tryz.func143 (h := ?_)
 refine jr (h := ?_)
 refine jcs (Δ1 := D) (Fr := []) (hs := (ACalls.lendOwn (pre := []) how hfi (by rintro r Δ' ⟨rfl, rfl⟩; exact ⟨rfl, _, rfl, .c _⟩) (ents_row _) (by rw [ents_len]; unfold maxRows; omega))) (hp := (by simp)) (hk := ?_) (hpan := (by rintro x Δ' ⟨⟨e1, _⟩, _⟩; cases e1))
 rintro x D ⟨⟨e1, -⟩, rfl⟩
 cases e1
 rw [List.append_nil]
 cases hf : l.findIdx? (isP h a) with
 | none =>
   have e1 : idxP l h a = -1 := by unfold idxP; rw [hf]
   have e2 : purE l h a = l := purE_none fun y hy => by
     rw [List.findIdx?_eq_none_iff] at hf
     exact hf y hy
   rw [e1, e2]
   refine jr (h := ?_)
   refine jt (h := ?_)
   refine jr (h := ?_)
   refine jret Tryz.func143 (h := ⟨v, rfl, how⟩)
 | some i0 =>
   have e1 : idxP l h a = i0 := by unfold idxP; rw [hf]
   rw [List.findIdx?_eq_some_iff_getElem] at hf
   obtain ⟨hi0, hp0, hn0⟩ := hf
   have ht0 : purE (l.take i0) h a = l.take i0 := purE_none fun y hy => by
     obtain ⟨j, hj, rfl⟩ := List.mem_iff_getElem.1 hy
     rw [List.length_take] at hj
     rw [List.getElem_take]
     have := hn0 j (by omega)
     simpa using this
   have ht1 : purE (l.take (i0 + 1)) h a = l.take i0 := by
     rw [purE_stepP (List.getElem?_eq_getElem hi0), ht0, if_pos hp0, List.append_nil]
   have hel := ents_len l
   cases how with
   | nil _ _ h => omega
   | box b cap sp hcl hsp hcap =>
   rw [hel] at hcap hsp
   have hlenA : ∀ R : List Entry, R.length = l.length → ((ents R).flatten ++ sp).length = cap * 5 := fun R hR => by
     rw [List.length_append, flat_len (ents_row R), ents_len, hR, hsp, ← Nat.add_mul]; congr 1; omega
   rw [e1]
   refine jr (h := ?_)
   refine jn (h := ?_)
   refine jr (h := ?_)
   refine jk [0, 1, 5, 6] (h := ?_)
   refine J_loopI (I := fun m e D => ∃ (j k : Nat) (R : List Entry), j ≤ l.length ∧ m = l.length - j ∧ k < j ∧ R.length = l.length ∧ R.take k = purE (l.take j) h a ∧ R.drop j = l.drop j ∧ D = [.box b 78 ((ents R).flatten ++ sp)] ∧ e = [(0, .c (.slice (some ⟨b, 0, none⟩) l.length cap)), (1, purF h a), (5, .c (.int .i64 k)), (6, .c (.int .i64 j))]) ?_ ?_
   · exact ⟨_, i0 + 1, i0, l, by omega, rfl, by omega, rfl, ht1.symm, rfl, rfl, by rw [hel]; simp only [Int.natCast_add, Int.cast_ofNat_Int]⟩
   · rintro m e D ⟨j, k, R, hj, rfl, hkj, hR, htk, hdr, rfl, rfl⟩ ih
     have hla := hlenA R hR
     refine jr (h := ?_)
     refine jif (h1 := fun hc => ?_) (h2 := fun hc => ?_)
     · have hlt : j < l.length := by omega
       have g0 := List.getElem?_eq_getElem hlt
       have hRj : R[j]? = some l[j] := by
         have := congrArg (fun x => x[0]?) hdr
         simp only [List.getElem?_drop, Nat.add_zero] at this
         rw [this]; exact g0
       have hgr := get_row (sp := sp) (ents_row R) (ents_get hRj)
       have hst := purE_stepP g0 h a
       have hdr2 : R.drop (j + 1) = l.drop (j + 1) := by
         rw [← List.drop_drop, ← List.drop_drop, hdr]
       have hf := purge1_ok l[j] h a (hk _ (List.getElem_mem _))
       simp only [Entry.av, Entry.cells] at hf
       have h0 : (0 : Int) ≤ (j : Int) := by omega
       generalize l[j] = x at *
       refine jf (own := [7]) (cA hla hgr) (h := ?_)
       refine jnv (hh := fun b7 hb7 => ?_)
       simp only [fresh] at hb7
       refine jmf 1 hb7 (h := ?_)
       refine J_freeze (s := 7) (o := 0) (by simp only [go_sem]) ?_
       simp only [List.drop_zero]
       refine jr (h := ?_)
       refine jc (hs := hf) (hk := ?_)
       cases hd : isP h a x with
       | true =>
         rw [if_pos hd, List.append_nil] at hst
         refine jr (h := ?_)
         refine jn (h := ?_)
         refine jr (h := ?_)
         refine jk [0, 1, 5, 6] (h := ?_)
         refine ih _ _ _ ?_ ⟨j + 1, k, R, hlt, rfl, by omega, hR, by rw [hst]; exact htk, hdr2, rfl, by simp only [Int.natCast_add, Int.cast_ofNat_Int]⟩
         omega
       | false =>
         rw [if_neg (by rw [hd]; decide)] at hst
         have hsr := set_row (sp := sp) (i := k) (x := x.cells) (ents_row R) (by rw [ents_len]; omega) rfl
         have hse : (ents R).set k x.cells = ents (R.set k x) := by unfold ents; rw [List.map_set]
         rw [hse] at hsr
         simp only [Entry.cells] at hsr
         have hk0 : (0 : Int) ≤ (k : Int) := by omega
         refine jr (h := ?_)
         refine jt (h := ?_)
         refine jf (cA hla hsr) (h := ?_)
         refine jk [0, 1, 5, 6] (h := ?_)
         refine ih _ _ _ ?_ ⟨j + 1, k + 1, R.set k x, hlt, rfl, by omega, by rw [List.length_set]; exact hR, ?_, ?_, rfl, by simp only [Int.natCast_add, Int.cast_ofNat_Int]⟩
         · omega
         · rw [hst, ← htk, List.take_add_one, List.take_set, List.getElem?_set, if_pos rfl, if_pos (by omega), Option.toList_some]
           rw [List.set_eq_of_length_le (by rw [List.length_take]; omega)]
         · rw [List.drop_set, if_pos (by omega)]; exact hdr2
     · have hj' : j = l.length := by omega
       subst hj'
       rw [List.take_length] at htk
       have hkc : (cap = k) = False := eq_false (by omega)
       have hk0 : (0 : Int) ≤ (k : Int) := by omega
       have hla5 : ((ents R).flatten ++ sp).length = cap * 5 := hla
       have hsplit : (ents R).flatten ++ sp = (ents (purE l h a)).flatten ++ ((ents (R.drop k)).flatten ++ sp) := by
         rw [← htk, ← List.append_assoc, ← List.flatten_append, ← ents_append, List.take_append_drop]
       have hpl : (purE l h a).length = k := by rw [← htk, List.length_take]; omega
       have hpf : (ents (purE l h a)).flatten.length = k * 5 := by rw [flat_len (ents_row _), ents_len, hpl]
       have hdl : (ents (R.drop k)).flatten.length = (l.length - k) * 5 := by rw [flat_len (ents_row _), ents_len, List.length_drop, hR]
       rw [hsplit] at hla5 ⊢
       refine jf hkc (h := ?_)
       refine jbi (hb := clear_bi gS gS gS (by rfl) (by rfl) getBox_head (by rw [hla5, ← Nat.add_mul]; exact Nat.mul_le_mul_right _ (by omega))) (hk := ?_)
       rintro x D' ⟨z, hz, rfl⟩
       simp only [setBox, if_true]
       obtain ⟨sp2, r1, r2⟩ := wipe_cells (sp1 := (ents (R.drop k)).flatten ++ sp) (z := z) (m := k * 5) hz hpf (by rw [List.length_append, hdl]; omega)
       rw [r2]
       have hpe : (ents (purE l h a)).length = k := by rw [ents_len, hpl]
       rw [hpe]
       refine jr (h := ?_)
       refine jret Tryz.func143 (h := ⟨_, rfl, .box b cap sp2 hpf (by rw [r1, List.length_append, hdl, hsp, ← Nat.add_mul]; congr 1; omega) (by omega)⟩)
end
section
attribute [local go_sem] Entry.av Entry.cells rowsBytes_bytesRows Option.map_some Int.cast_ofNat_Int getBox_GL setBox_GL fresh_GL
theorem spurge_ok {sm t f fb N i : Nat} {n base h a : Int} {s : Fl} {D : List HP} {fs : List BF} (hin : In64 h) (hO : OwnF f s D) (hw : s.WF) (hw2 : ∀ at_ b, (tputS s n at_ 1 b).WF) (hn : n < 4611686018427387904) (hb : 0 ≤ base ∧ base ≤ 4096) (hN : fs.length = N) (hi : slotE h N = i) (h0 : 0 < N) (hNN : N ≤ 4096) (hne : sm ≠ fb) (hsm : sm ≠ t) (hfb : fb ≠ t) :
   ACalls Tryz.prog 93 [ptr sm, .c (.int .u64 h), .c (.int .i64 a)] (smB sm t base fb N :: smF fb fs :: tbox t f n :: GL :: D)
     (fun r D' => ∃ e D1, r = .ret (.tup [.c (.int .i64 (purS s n base i h a fs).1), e]) ∧ IsErr e (purS s n base i h a fs).2.1 ∧ OwnF f (purS s n base i h a fs).2.2.1 D1 ∧
       D' = smB sm t base fb N :: smF fb (purS s n base i h a fs).2.2.2.2 :: tbox t f (purS s n base i h a fs).2.2.2.1 :: GL :: D1) := by
 have hlt : i < N := hi ▸ slotE_lt h0
 have hs := bslot_ok h hin N h0 hNN
 rw [hi] at hs
 have hpg := page_ok (sm := sm) (t := t) (n := n) (base := base) (fb := fb) (N := N) hO hw i hb (by omega)
 have hpw := pgE_w hw (base + i)
 have hrl := purE_len (pgE s (base + i)) h a
 have hwr := swriteG_ok (sm := sm) (t := t) (fb := fb) (fs := fs) (l := purE (pgE s (base + i)) h a) hO hw hw2 hn hb hN hlt hNN hne hsm hfb (fun y hy => hpw.1 y ((purE_sub _ _ _).subset hy)) (by omega)
 have hkl : ∀ y ∈ pgE s (base + i), y.key.length < 2 ^ 62 := fun y hy => by have := (hpw.1 y hy).k2; omega
 have hl256 := hpw.2.1
 unfold purS
 generalize wrS s n base i (purE (pgE s (base + i)) h a) fs = W at *
 generalize pgE s (base + i) = l at *
 obtain ⟨C, S, n2, fs2⟩ := W
 simp only at *
 clear hi hpw
 have hel := ents_len l
 have hpl := ents_len (purE l h a)
 refine jen cl_93 Tryz.func93 (h := ?_)
 refine jr (h := ?_)
 refine jd [(0, .pure), (1, .pure), (2, .pure), (3, .pure), (4, .read), (5, .pure), (6, .pure), (7, .pure)] mixed (by kernel_rfl) ?_
 refine cr (hk := ?_)
 refine ccp (hs := hs) (hk := ?_)
 refine cr (hk := ?_)
 refine Can_nil ?_
 refine jr (h := ?_)
 by_cases hd : s.down = true
 · simp only [if_pos hd] at hpg ⊢
   refine jcs (Fr := [smF fb fs]) (hs := hpg) (hp := ((List.perm_middle (l₁ := [smB sm t base fb N])).trans ((List.perm_append_comm (l₁ := [smF fb fs]))))) (hk := ?_) (hpan := (by rintro x Δ' ⟨⟨e, h, _⟩, _⟩; cases h))
   rintro x _ ⟨⟨er, hx, he⟩, rfl⟩
   cases hx
   refine J_perm (((List.perm_middle (l₁ := [smB sm t base fb N])).trans ((List.perm_append_comm (l₁ := [smF fb fs])))).symm) ?_
   obtain ⟨te, ve, rfl⟩ := iserr_ne he (by decide)
   refine jr (h := ?_)
   refine jt (h := ?_)
   refine jr (h := ?_)
   refine jcs (Δ1 := []) (Fr := _ :: _ :: _ :: _ :: D) (hs := (wrapS_ok _ _ he)) (hp := (List.Perm.refl _)) (hk := ?_) (hpan := (by rintro x Δ' ⟨⟨e, h, _⟩, _⟩; cases h))
   rintro z _ ⟨⟨er2, hx, he2⟩, rfl⟩
   cases hx
   refine jr (h := ?_)
   refine jret Tryz.func93 (h := ⟨_, D, rfl, he2, hO, rfl⟩)
 · simp only [if_neg hd] at hpg ⊢
   refine jcs (Fr := [smF fb fs]) (hs := hpg) (hp := ((List.perm_middle (l₁ := [smB sm t base fb N])).trans ((List.perm_append_comm (l₁ := [smF fb fs]))))) (hk := ?_) (hpan := (by rintro x Δ' ⟨⟨e, h, _⟩, _⟩; cases h))
   rintro x _ ⟨⟨er, hx, he⟩, rfl⟩
   cases hx
   refine J_perm (((List.perm_middle (l₁ := [smB sm t base fb N])).trans ((List.perm_append_comm (l₁ := [smF fb fs])))).symm) ?_
   obtain rfl := iserr_zero he
   refine jr (h := ?_)
   refine jn (h := ?_)
   refine jr (h := ?_)
   refine jcs (Δ1 := []) (Fr := smB sm t base fb N :: smF fb fs :: tbox t f n :: GL :: D) (hs := (cloneE_own l (by omega))) (hp := (List.Perm.refl _)) (hk := ?_) (hpan := (by rintro x Δ' ⟨v, h, _⟩; cases h))
   rintro x D0 ⟨v, hx, how⟩
   cases hx
   refine jr (h := ?_)
   refine jcs (Δ1 := D0) (Fr := smB sm t base fb N :: smF fb fs :: tbox t f n :: GL :: D) (hs := (deleteF_ok l h a hkl (by omega) how)) (hp := (List.Perm.refl _)) (hk := ?_) (hpan := (by rintro x Δ' ⟨v, h, _⟩; cases h))
   rintro x D2 ⟨v2, hx, how2⟩
   cases hx
   refine J_perm (List.perm_append_comm (l₁ := D2)) ?_
   refine J_freezeS (Fr := smB sm t base fb N :: smF fb fs :: tbox t f n :: GL :: D) how2 (ents_row _) (by rw [ents_len]; unfold maxRows; omega) ?_
   refine jm 2 (h := ?_)
   refine J_is (t := 11) (by simp only [go_sem]) (List.mem_cons_self ..) (J_drop ?_)
   generalize purE l h a = rest at *
   refine jf (cA hel hpl) (h := ?_)
   by_cases hql : rest.length = l.length
   · simp only [if_pos hql]
     refine jif (h1 := fun _ => ?_) (h2 := fun hc => absurd (by omega) hc)
     refine jr (h := ?_)
     refine jret Tryz.func93 (h := ⟨_, D, rfl, .none, hO, rfl⟩)
   · simp only [if_neg hql]
     refine jif (h1 := fun hc => absurd hc (by omega)) (h2 := fun _ => ?_)
     refine jr (h := ?_)
     refine jcs (Fr := [GL]) (hs := hwr) (hp := (perm4 _ _ _ _ _)) (hk := ?_) (hpan := (by rintro x Δ' ⟨e, D1, h, _⟩; cases h))
     rintro x _ ⟨er, D1, hx, he1, hO1, rfl⟩
     cases hx
     refine J_perm (perm4 _ _ _ _ _).symm ?_
     by_cases hC : C = 0
     · subst hC
       obtain rfl := iserr_zero he1
       simp only [if_true]
       refine jr (h := ?_)
       refine jn (h := ?_)
       refine jf (cA hel hpl) (h := ?_)
       refine jret Tryz.func93 (h := ⟨_, D1, rfl, .none, hO1, rfl⟩)
     · obtain ⟨te, ve, rfl⟩ := iserr_ne he1 hC
       simp only [if_neg hC]
       refine jr (h := ?_)
       refine jt (h := ?_)
       refine jr (h := ?_)
       refine jcs (Δ1 := []) (Fr := _ :: _ :: _ :: _ :: D1) (hs := (wrapS_ok _ _ he1)) (hp := (List.Perm.refl _)) (hk := ?_) (hpan := (by rintro x Δ' ⟨⟨e, h, _⟩, _⟩; cases h))
       rintro z _ ⟨⟨er2, hx, he2⟩, rfl⟩
       cases hx
       refine jr (h := ?_)
       refine jret Tryz.func93 (h := ⟨_, D1, rfl, he2, hO1, rfl⟩)
end
section
attribute [local go_sem] Entry.av Entry.cells rowsBytes_bytesRows Option.map_some Int.cast_ofNat_Int getBox_GL setBox_GL fresh_GL
theorem light06_ok (l : List Entry) (hl : l.length < 2 ^ 40) (hv : ∀ x ∈ l, x.key.length < 2 ^ 37 ∧ x.val.length < 2 ^ 37) : ACalls Tryz.prog 41 [.sl 5 (ents l)] [] (fun r D => ∃ v : Int, r = .ret (.c (.int .i64 v)) ∧ D = [] ∧ (v = 0 ∨ v = 1) ∧ (v = 0 → l.length ≤ 40)) := by
 refine jen cl_41 Tryz.func41 (h := ?_)
 refine jf ents_len (h := ?_)
 refine jif (h1 := fun hc => ?_) (h2 := fun hc => ?_)
 · refine jr (h := ?_)
   refine jret Tryz.func41 (h := ⟨1, rfl, rfl, .inr rfl, by omega⟩)
 · refine jr (h := ?_)
   refine jk [0, 3, 4] (h := ?_)
   refine J_loopI (I := fun m e D => ∃ (i : Nat) (n : Int), i ≤ l.length ∧ m = l.length - i ∧ D = [] ∧ (0 ≤ n ∧ n ≤ 12000) ∧ e = [(0, .sl 5 (ents l)), (3, .c (.int .i64 n)), (4, .c (.int .i64 i))]) ?_ ?_
   · exact ⟨_, 0, 0, by omega, rfl, rfl, by decide, rfl⟩
   · rintro m e D ⟨i, n, hi, rfl, rfl, hn, rfl⟩ ih
     refine jf ents_len (h := ?_)
     refine jif (h1 := fun hcl => ?_) (h2 := fun hcl => ?_)
     · have hlt : i < l.length := by omega
       have g1 := ents_get (List.getElem?_eq_getElem hlt)
       have h0 : (0 : Int) ≤ (i : Int) := by omega
       have hb := hv _ (List.getElem_mem hlt)
       generalize l[i] = x at *
       by_cases h1 : x.key.length > 200
       · have d1 := decide_eq_true (show (x.key.length : Int) > 200 by omega)
         refine jf (cB g1 ents_len d1) (h := ?_)
         refine jt (h := ?_)
         refine jr (h := ?_)
         refine jret Tryz.func41 (h := ⟨1, rfl, rfl, .inr rfl, by omega⟩)
       · have d1 := decide_eq_false (show ¬ (x.key.length : Int) > 200 by omega)
         by_cases h2 : x.val.length > 5000
         · have d2 := decide_eq_true (show (x.val.length : Int) > 5000 by omega)
           refine jf (cC g1 ents_len d1 d2) (h := ?_)
           refine jt (h := ?_)
           refine jr (h := ?_)
           refine jret Tryz.func41 (h := ⟨1, rfl, rfl, .inr rfl, by omega⟩)
         · have d2 := decide_eq_false (show ¬ (x.val.length : Int) > 5000 by omega)
           refine jf (cC g1 ents_len d1 d2) (h := ?_)
           refine jn (h := ?_)
           refine jf (cC g1 ents_len d1 d2) (h := ?_)
           refine jif (h1 := fun h3 => ?_) (h2 := fun h3 => ?_)
           · refine jr (h := ?_)
             refine jret Tryz.func41 (h := ⟨1, rfl, rfl, .inr rfl, by omega⟩)
           · refine jr (h := ?_)
             refine jk [0, 3, 4] (h := ?_)
             refine ih _ _ _ ?_ ⟨i + 1, _, by omega, rfl, rfl, ?_, rfl⟩
             · omega
             · omega
     · refine jr (h := ?_)
       refine jret Tryz.func41 (h := ⟨0, rfl, rfl, .inl rfl, fun _ => by omega⟩)
structure Op13 where
 kind : Int
 x : Entry
 n : Int
 keep : List Int
def Op13.cells (o : Op13) : List AV := [.c (.int .i64 o.kind), .c (.string (mkStr o.x.key)), .c (.int .i64 o.x.ver), .c (.int .i64 o.x.asof), .c (.int .i64 o.x.ends), .sl 1 (bytesRows o.x.val), .c (.int .i64 o.n), .sl 1 (intRows o.keep)]
def ops13 (l : List Op13) : List (List AV) := l.map Op13.cells
theorem ops13_len (l : List Op13) : (ops13 l).length = l.length := by simp [ops13]
theorem ops13_get {l : List Op13} {i : Nat} {o : Op13} (h : l[i]? = some o) : (ops13 l)[i]? = some [.c (.int .i64 o.kind), .c (.string (mkStr o.x.key)), .c (.int .i64 o.x.ver), .c (.int .i64 o.x.asof), .c (.int .i64 o.x.ends), .sl 1 (bytesRows o.x.val), .c (.int .i64 o.n), .sl 1 (intRows o.keep)] := by simp [ops13, h, Op13.cells]
structure OpB (o : Op13) : Prop where
 keep : o.keep.length < 2 ^ 37
 key : o.x.key.length < 2 ^ 37
 val : o.x.val.length < 2 ^ 37
 n : o.n < 9223372036854775808
theorem light13_ok (l : List Op13) (hl : l.length < 2 ^ 40) (hv : ∀ o ∈ l, OpB o) : ACalls Tryz.prog 31 [.sl 8 (ops13 l)] [] (fun r D => ∃ v : Int, r = .ret (.c (.int .i64 v)) ∧ D = [] ∧ (v = 0 ∨ v = 1) ∧ (v = 0 → l.length ≤ 40)) := by
 refine jen cl_31 Tryz.func31 (h := ?_)
 refine jf ops13_len (h := ?_)
 refine jif (h1 := fun hc => ?_) (h2 := fun hc => ?_)
 · refine jr (h := ?_)
   refine jret Tryz.func31 (h := ⟨1, rfl, rfl, .inr rfl, by omega⟩)
 · refine jr (h := ?_)
   refine jk [0, 3, 4] (h := ?_)
   refine J_loopI (I := fun m e D => ∃ (i : Nat) (v : Value), i ≤ l.length ∧ m = l.length - i ∧ Own 78 5 (ents ((l.take i).map Op13.x)).flatten (ents ((l.take i).map Op13.x)).length v D ∧ e = [(0, .sl 8 (ops13 l)), (3, .c v), (4, .c (.int .i64 i))]) ?_ ?_
   · exact ⟨_, 0, _, Nat.zero_le _, rfl, .nil none (by simp [ents]) (by simp [ents]), rfl⟩
   · rintro m e D ⟨i, v, hi, rfl, how, rfl⟩ ih
     refine jf ops13_len (h := ?_)
     refine jif (h1 := fun hcl => ?_) (h2 := fun hcl => ?_)
     · have hlt : i < l.length := by omega
       have g0 := List.getElem?_eq_getElem hlt
       have g1 := ops13_get g0
       have h0 : (0 : Int) ≤ (i : Int) := by omega
       have hb := hv _ (List.getElem_mem hlt)
       have hkb := hb.keep
       have htk : (l.take (i + 1)).map Op13.x = (l.take i).map Op13.x ++ [l[i].x] := by
         rw [List.take_add_one, g0, Option.toList_some, List.map_append]; rfl
       generalize l[i] = o at *
       refine jf (cA g1 ops13_len) (h := ?_)
       refine jif (h1 := fun h1 => ?_) (h2 := fun h1 => ?_)
       · refine jr (h := ?_)
         refine J_forgetP ?_
         refine jret Tryz.func31 (h := ⟨D, [], by rw [List.append_nil], 1, rfl, rfl, .inr rfl, by omega⟩)
       · refine jf (own := [28]) (cA g1 ops13_len) (h := ?_)
         refine jap (Fr := []) (how := how) (hp := (by simp)) (hsrc := (by simp only [go_sem] <;> rfl)) (hc := (by rfl)) (hmax := (by simp [ents]; omega)) (hk := ?_)
         rintro _ _ ⟨v', D', rfl, rfl, how'⟩
         refine jr (h := ?_)
         refine jk [0, 3, 4] (h := ?_)
         refine ih _ _ _ ?_ ⟨i + 1, v', hlt, rfl, ?_, by simp only [Int.natCast_add, Int.cast_ofNat_Int]⟩
         · omega
         · rw [htk]; exact own_snoc (by simpa [Entry.cells] using how')
     · have hi' : i = l.length := by omega
       subst hi'
       rw [List.take_length] at how
       have hl6 := light06_ok (l.map Op13.x) (by rw [List.length_map]; exact hl) (fun x hx => by
         obtain ⟨o, ho, rfl⟩ := List.mem_map.1 hx
         exact ⟨(hv o ho).key, (hv o ho).val⟩)
       rw [List.length_map] at hl6
       refine J_freezeS (Fr := []) how (ents_row _) (by rw [ents_len, List.length_map]; unfold maxRows; omega) ?_
       refine J_is (t := 3) (by simp only [go_sem]) (List.mem_cons_self ..) (J_drop ?_)
       refine jr (h := ?_)
       refine jcs (Δ1 := []) (Fr := []) (hs := hl6) (hp := (List.Perm.refl _)) (hk := ?_) (hpan := (by rintro x Δ' ⟨v, h, _⟩; cases h))
       rintro x _ ⟨v2, hx, rfl, h1, h2⟩
       cases hx
       refine jr (h := ?_)
       refine jret Tryz.func31 (h := ⟨v2, rfl, rfl, h1, h2⟩)
end
section
attribute [local go_sem] Entry.av Entry.cells rowsBytes_bytesRows Option.map_some Int.cast_ofNat_Int getBox_GL setBox_GL fresh_GL flCells
theorem loose_ok {f : Nat} {s : Fl} {D : List HP} (h : OwnF f s D) : ACalls Tryz.prog 86 [ptr f] D (fun r D' => r = .ret (.c (.int .i64 (s.loose.length : Int))) ∧ D' = D) := by
 obtain ⟨mb, v, L, how, rfl⟩ := h
 obtain ⟨av, cv, rfl⟩ := how.slice
 refine jen cl_86 Tryz.func86 (h := ?_)
 refine jr (h := ?_)
 refine jret Tryz.func86 (h := ⟨rfl, rfl⟩)
theorem nextF_new9 : nextF (newFl 9) = 1 := by unfold nextF; rw [cellsF_new]; rfl
theorem open13_ok : ACalls Tryz.prog 33 [] [GL] (fun q Δ => ∃ f t sm fb D, q = .ret (.tup [ptr t, ptr sm]) ∧ OwnF f (newFl 9) D ∧ Δ = smB sm t 2 fb 4 :: smF fb (openFs (newFl 9) 2 4) :: tbox t f 1 :: GL :: D) := by
 have hB : (newFl 9).B 0 := newFl_B (by decide) (by decide)
 refine jen cl_33 Tryz.func33 (h := ?_)
 refine jr (h := ?_)
 refine jcs (Δ1 := []) (Fr := [GL]) (hs := (fnew_ok 9 (by decide) (by decide))) (hp := (List.Perm.refl _)) (hk := ?_) (hpan := (by rintro x Δ' ⟨f, e, _⟩; cases e))
 rintro x D ⟨f, e, hO⟩
 cases e
 refine J_perm (List.perm_append_comm (l₂ := [GL])) ?_
 simp only [List.cons_append, List.nil_append]
 have hto := topen_ok hO (hB.wf (by decide)) (hB.small (by decide)) rfl (by rw [cellsF_new]; decide)
 rw [nextF_new9] at hto
 refine jr (h := ?_)
 refine jn (h := ?_)
 refine jr (h := ?_)
 refine jcs (Δ1 := D) (Fr := [GL]) (hs := hto) (hp := (List.perm_append_comm (l₁ := [GL]))) (hk := ?_) (hpan := (by rintro x Δ' ⟨t, e, _⟩; cases e))
 rintro x _ ⟨t, e, rfl⟩
 cases e
 refine J_perm (Δ' := tbox t f 1 :: GL :: D) (.cons _ (List.perm_append_comm (l₂ := [GL]))) ?_
 have hso := sopen_in (t := t) (n := 1) (base := 2) (N := 4) hO (hB.wf (by decide)) (by decide) (by decide)
 simp only [show (newFl 9).down = false from rfl, Bool.false_eq_true, if_false] at hso
 generalize openFs (newFl 9) 2 4 = fs at *
 refine jr (h := ?_)
 refine jn (h := ?_)
 refine jr (h := ?_)
 refine jcs (Δ1 := tbox t f 1 :: GL :: D) (Fr := []) (hs := hso) (hp := (by rw [List.append_nil])) (hk := ?_) (hpan := (by rintro x Δ' ⟨sm, fb, e, _⟩; cases e))
 rintro x _ ⟨sm, fb, e, rfl⟩
 cases e
 rw [List.append_nil]
 refine jr (h := ?_)
 refine jn (h := ?_)
 refine jr (h := ?_)
 refine jret Tryz.func33 (h := ⟨f, t, sm, fb, D, rfl, hO, rfl⟩)
theorem trimN_B {s : Fl} {m : Nat} (h : s.B m) (base : Int) : ∀ k, (trimN s base k).2.B (m + k)
 | 0 => h
 | k + 1 => by
   have ih := trimN_B h base k
   unfold trimN
   split
   · exact ih.mono (by omega)
   · exact trimS_B ih _
theorem wrS_B {s : Fl} {m : Nat} (h : s.B m) (n base : Int) (i : Nat) (l : List Entry) (fs : List BF) : (wrS s n base i l fs).2.1.B (m + 2) := tfirmS_B h _ _ _ _
def xA : Entry := ⟨[97], 3, 4, 0, [118]⟩
def xB : Entry := ⟨[98], 1, 1, 0, List.replicate 300 0⟩
theorem xA_w : checkCode xA = 0 := by decide
theorem xA_r : ¬ 233 < (entB xA).length := by decide +kernel
theorem xB_w : checkCode xB = 0 := by decide +kernel
theorem xB_r : 233 < (entB xB).length := by
 unfold entB
 simp only [List.length_append]
 have : xB.val.length = 300 := by decide
 omega
theorem ins_xB (l : List Entry) : insE l xB = (3, [], []) := by
 unfold insE; rw [if_neg (by rw [xB_w]; decide), if_pos xB_r]
theorem ins_xA : insE [] xA = (0, [xA], []) := by
 have e1 : rmE [] xA.key ++ [xA] = [xA] := rfl
 have e2 : insK [xA] = 0 := by
   have : allB [xA] = entB xA := by simp [allB]
   unfold insK; rw [this, if_neg xA_r]
 unfold insE
 rw [if_neg (by rw [xA_w]; decide), if_neg xA_r, e1, e2]
 rfl
theorem mayF_none (h : Int) : mayF (0, 0) h = false := by
 unfold mayF plN hasP
 simp
theorem pgE_new (j : Nat) (hj : j < 4) : pgE (newFl 9) (2 + (j : Int)) = [] := by
 rw [pgE_look rfl (by show 0 ≤ 2 + (j : Int) ∧ 2 + (j : Int) < 9; omega)]
 exact pgL_z
theorem allP_four (s : Fl) : allP s 2 4 = pgE s (2 + ((0 : Nat) : Int)) ++ pgE s (2 + ((1 : Nat) : Int)) ++ pgE s (2 + ((2 : Nat) : Int)) ++ pgE s (2 + ((3 : Nat) : Int)) := by
 rw [show (4 : Nat) = 3 + 1 from rfl, allP_succ, show (3 : Nat) = 2 + 1 from rfl, allP_succ, show (2 : Nat) = 1 + 1 from rfl, allP_succ, show (1 : Nat) = 0 + 1 from rfl, allP_succ]
 rfl
structure WK (fs0 : List BF) (i : Nat) (h : Int) (s1 : Fl) (n1 : Int) (fs1 : List BF) (g1 : BF) (s2 : Fl) (n2 : Int) (fs2 : List BF) (g2 : BF) (s3 : Fl) (fs3 : List BF) : Prop where
 a1 : setS (newFl 9) 1 2 i xA fs0 = ([], 0, s1, n1, fs1)
 b1 : s1.B 2
 d1 : s1.down = false
 hn : n1 = 2
 l1 : fs1.length = 4
 f1 : fs1[i]? = some g1
 k1 : BFok g1
 m1 : mayF g1 h = true
 p1 : lkE (pgE s1 (2 + (i : Int))) [97] = some xA
 all : (allP s1 2 4).length = 1
 no : ∀ j : Nat, setS s1 n1 2 j xB fs1 = ([], 3, s1, n1, fs1)
 a2 : rmS s1 n1 2 i [97] fs1 = (true, 0, s2, n2, fs2)
 b2 : s2.B 4
 d2 : s2.down = false
 l2 : fs2.length = 4
 f2 : fs2[i]? = some g2
 k2 : BFok g2
 m2 : mayF g2 h = false
 a3 : clearS s2 2 4 fs2 = (0, s3, fs3)
 lo : s3.loose = []
theorem works_plain {fs0 : List BF} (hSI0 : SI (newFl 9) fs0) {i : Nat} {h : Int} (hh : hash64 [97] = h) (hi : slotE h 4 = i) : ∃ s1 n1 fs1 g1 s2 n2 fs2 g2 s3 fs3, WK fs0 i h s1 n1 fs1 g1 s2 n2 fs2 g2 s3 fs3 := by
 have hj : i < 4 := hi ▸ slotE_lt (by decide)
 have hB0 : (newFl 9).B 0 := newFl_B (by decide) (by decide)
 have hmem : mayF (ofF (keysE [xA])) h = true := by rw [← hh]; exact mayF_mem (y := xA) (List.mem_singleton.2 rfl)
 have hb1 : BkOK [xA] := ⟨fun y hy => by rw [List.mem_singleton.1 hy]; exact (entW_iff xA).1 xA_w, by decide, by
   have : allB [xA] = entB xA := by simp [allB]
   rw [this]; have := xA_r; omega⟩
 have hs1 : ∀ y ∈ [xA], slotE (hash64 y.key) 4 = i := fun y hy => by rw [List.mem_singleton.1 hy]; exact (congrArg (fun q => slotE q 4) hh).trans hi
 clear hh
 obtain ⟨c1, K1⟩ := KS.new.wr (by decide) fs0 hB0.safe.page hj hb1 hs1
 have S1 := hSI0.wr hB0.safe.page rfl 1 hj hb1.w hb1.u
 have B1 := wrS_B hB0 1 2 i [xA] fs0
 have A1 : setS (newFl 9) 1 2 i xA fs0 = ([], wrS (newFl 9) 1 2 i [xA] fs0) := by
   unfold setS
   rw [if_neg (by decide), pgE_new i hj, ins_xA, if_neg (by simp), c1]
   rfl
 have N1 : (wrS (newFl 9) 1 2 i [xA] fs0).2.2.1 = 2 := by
   rcases wr_any (n := 1) fs0 hB0.safe.page rfl rfl rfl hj hb1.w hb1.u with h | h | h
   · exact h.2.2.2.1
   · exact absurd c1 h.1
   · rw [c1] at h; exact absurd h.1 (by decide)
 have PG1 : ∀ j : Nat, j < 4 → pgE (wrS (newFl 9) 1 2 i [xA] fs0).2.1 (2 + (j : Int)) = if j = i then [xA] else [] := fun j hj2 => by
   rw [K1.pg (by decide) hj2]
   by_cases e : j = i
   · rw [if_pos e, if_pos e]; rfl
   · rw [if_neg e, if_neg e]; rfl
 generalize wrS (newFl 9) 1 2 i [xA] fs0 = W1 at *
 obtain ⟨C1, s1, n1, fs1⟩ := W1
 simp only at c1 K1 S1 B1 N1 PG1
 subst c1
 have P1 : pgE s1 (2 + (i : Int)) = [xA] := by rw [PG1 i hj, if_pos rfl]
 have F1 := S1.fl K1.d i hj
 rw [P1] at F1
 have hs2 : ∀ y ∈ ([] : List Entry), slotE (hash64 y.key) 4 = i := fun y hy => by cases hy
 obtain ⟨c2, K2⟩ := K1.wr (by decide) fs1 B1.safe.page hj BkOK.nil hs2
 have S2 := S1.wr B1.safe.page K1.d n1 hj BkOK.nil.w BkOK.nil.u
 have B2 := wrS_B B1 n1 2 i [] fs1
 have A2 : rmS s1 n1 2 i [97] fs1 = (true, wrS s1 n1 2 i [] fs1) := by
   have e0 : findI [xA] [97] = 0 := by decide
   have e1 : rmE [xA] [97] = [] := by decide
   unfold rmS
   rw [if_neg (by rw [K1.d]; decide), P1, e0, if_neg (by decide), e1, c2]
   rfl
 have P2 := K2.pg (by decide) hj
 rw [if_pos rfl] at P2
 generalize wrS s1 n1 2 i [] fs1 = W2 at *
 obtain ⟨C2, s2, n2, fs2⟩ := W2
 simp only at c2 K2 S2 B2 P2
 subst c2
 have F2 := S2.fl K2.d i hj
 rw [P2] at F2
 have hf := K2.f
 rcases clear_any fs2 B2.safe.pages K2.d K2.lo K2.p with ⟨h1, h2, h3, h4, h5, h6, h7⟩ | ⟨h1, h2, h3, h4, h5⟩
 rotate_left
 · omega
 have A3 : clearS s2 2 4 fs2 = (0, (clearS s2 2 4 fs2).2.1, (clearS s2 2 4 fs2).2.2) := by rw [← h1]
 refine ⟨s1, n1, fs1, _, s2, n2, fs2, _, _, _, A1, B1, K1.d, N1, S1.l4, F1, S1.ok _ (List.mem_of_getElem? F1), hmem, ?_, ?_, fun j => ?_, A2, B2, K2.d, S2.l4, F2, S2.ok _ (List.mem_of_getElem? F2), mayF_none h, A3, h4⟩
 · rw [P1]; exact lkE_mem (y := xA) (by decide) (List.mem_singleton.2 rfl)
 · rw [allP_four, PG1 0 (by decide), PG1 1 (by decide), PG1 2 (by decide), PG1 3 (by decide)]
   rcases (by omega : i = 0 ∨ i = 1 ∨ i = 2 ∨ i = 3) with rfl | rfl | rfl | rfl <;> rfl
 · unfold setS
   rw [if_neg (by rw [K1.d]; decide), ins_xB, if_pos (by decide)]
end
section
attribute [local go_sem] rowsBytes_bytesRows Option.map_some Int.cast_ofNat_Int getBox_GL setBox_GL fresh_GL
theorem str_a : (ByteArray.mk #[97]) = mkStr [97] := rfl
theorem str_b : (ByteArray.mk #[98]) = mkStr [98] := rfl
attribute [local go_sem] str_a str_b
theorem xA_av : xA.av = .agg [.c (.string (mkStr [97])), .c (.int .i64 3), .c (.int .i64 4), .c (.int .i64 0), .sl 1 (bytesRows [118])] := rfl
theorem xB_av : xB.av = .agg [.c (.string (mkStr [98])), .c (.int .i64 1), .c (.int .i64 1), .c (.int .i64 0), .sl 1 (bytesRows (List.replicate 300 0))] := rfl
theorem mk300_op {env : Env} {Δ : List HP} {o : Oper} {x y : Operand} (hop : o.op = .makeSlice 23 x y) (hx : env.eval x = some (.c (.int .i64 300))) (hy : env.eval y = some (.c (.int .i64 300))) :
   OpOK Tryz.prog env Δ o (fun r Δ' => r = .sl 1 (bytesRows (List.replicate 300 0)) ∧ Δ' = Δ) := by
 have h := mkz_op (P := Tryz.prog) (Δ := Δ) (env := env) (n := 300) (s := 1) (zs := [.int .u8 0]) hop Tryz.underlying23 tb_5 tk_5 tz_5 rfl (by decide) (by decide) (by decide) (by decide) hx hy
 have e : List.replicate 300 ([Value.int .u8 0].map AV.c) = bytesRows (List.replicate 300 0) := by rfl
 rw [e] at h
 exact h
theorem permD (a b c g : HP) (D : List HP) : (a :: b :: c :: g :: D).Perm ((a :: c :: g :: D) ++ [b]) := (List.perm_middle (l₁ := [a])).trans (List.perm_append_comm (l₁ := [b]))
theorem works13_ok : ACalls Tryz.prog 32 [] [GL] (Ret (.c (.bool true))) := by
 have hs0 : SI (newFl 9) (openFs (newFl 9) 2 4) := SI.open rfl rfl
 obtain ⟨h, hh⟩ : ∃ h, hash64 [97] = h := ⟨_, rfl⟩
 obtain ⟨i, hi⟩ : ∃ i, slotE h 4 = i := ⟨_, rfl⟩
 obtain ⟨s1, n1, fs1, g1, s2, n2, fs2, g2, s3, fs3, W⟩ := works_plain hs0 hh hi
 have hiA : slotE (hash64 [97]) 4 = i := (congrArg (fun q => slotE q 4) hh).trans hi
 have hm1 : mayF g1 (hash64 [97]) = true := by rw [hh]; exact W.m1
 have hm2 : mayF g2 (hash64 [97]) = false := by rw [hh]; exact W.m2
 have hB0 : (newFl 9).B 0 := newFl_B (by decide) (by decide)
 have hd1 : ¬ s1.down = true := by rw [W.d1]; decide
 obtain ⟨j, hj⟩ : ∃ j, slotE (hash64 xB.key) 4 = j := ⟨_, rfl⟩
 have hwB := fun {s : Fl} {m : Nat} (hB : s.B m) (hm : m < 1000) (n : Int) (at_ : Int) (b : List UInt8) => (tputS_B hB n at_ 1 b).wf (by omega)
 have hset1 := fun (sm t f fb : Nat) (D : List HP) (hO : OwnF f (newFl 9) D) (h1 : sm ≠ fb) (h2 : sm ≠ t) (h3 : fb ≠ t) => sset_ok (sm := sm) (t := t) (f := f) (fb := fb) (N := 4) (i := i) (n := 1) (base := 2) (x := xA) (by decide) hO (hB0.wf (by decide)) (hwB hB0 (by decide) 1) (by decide) (by decide) hs0.l4 hiA (by decide) (by decide) h1 h2 h3
 rw [W.a1] at hset1
 have hget := fun (sm t f fb : Nat) (D : List HP) (hO : OwnF f s1 D) (h1 : sm ≠ fb) => sget_ok (sm := sm) (t := t) (f := f) (fb := fb) (n := n1) (base := 2) (k := [97]) (by decide) hO (W.b1.wf (by decide)) (by decide) W.l1 hiA (by decide) h1 W.f1 W.k1
 have hg : getS s1 2 i [97] true = (some xA, 0) := by unfold getS; rw [if_neg (by decide), if_neg hd1, W.p1]
 rw [hm1, hg] at hget
 have hall := fun (sm t f fb : Nat) (D : List HP) (hO : OwnF f s1 D) => sall_ok (sm := sm) (t := t) (f := f) (fb := fb) (N := 4) (n := n1) (base := 2) hO (W.b1.wf (by decide)) (by decide) (by decide) (by decide)
 simp only [if_neg hd1] at hall
 have hset2 := fun (sm t f fb : Nat) (D : List HP) (hO : OwnF f s1 D) (h1 : sm ≠ fb) (h2 : sm ≠ t) (h3 : fb ≠ t) => sset_ok (sm := sm) (t := t) (f := f) (fb := fb) (N := 4) (i := j) (n := n1) (base := 2) (x := xB) (by decide) hO (W.b1.wf (by decide)) (hwB W.b1 (by decide) n1) (by rw [W.hn]; decide) (by decide) W.l1 hj (by decide) (by decide) h1 h2 h3
 rw [W.no] at hset2
 have hrem := fun (sm t f fb : Nat) (D : List HP) (hO : OwnF f s1 D) (h1 : sm ≠ fb) (h2 : sm ≠ t) (h3 : fb ≠ t) => sremove_ok (sm := sm) (t := t) (f := f) (fb := fb) (N := 4) (i := i) (n := n1) (base := 2) (k := [97]) (by decide) hO (W.b1.wf (by decide)) (hwB W.b1 (by decide) n1) (by rw [W.hn]; decide) (by decide) W.l1 hiA (by decide) (by decide) h1 h2 h3
 rw [W.a2] at hrem
 have hmay := fun (sm t fb : Nat) (h1 : sm ≠ fb) => smay_ok (sm := sm) (t := t) (base := 2) (k := [97]) (by decide) W.l2 (by decide) h1 hiA W.f2 W.k2
 rw [hm2] at hmay
 have hclr := fun (sm t f fb : Nat) (D : List HP) (hO : OwnF f s2 D) (h1 : sm ≠ fb) => sclear_ok (sm := sm) (t := t) (f := f) (fb := fb) (N := 4) (n := n2) (base := 2) hO (fun k hk => (trimN_B W.b2 2 k).wf (by omega)) (by decide) W.l2 (by decide) (by decide) h1 (Ne.symm h1)
 rw [W.a3] at hclr
 have hlo := W.lo
 have hal := W.all
 have hsm := same06_ok xA xA (by decide)
 rw [decide_eq_true rfl] at hsm
 have hnil : ents [] = [] := rfl
 simp only [xA_av, xB_av, gotAV, hnil, Option.isSome_some] at hset1 hget hset2 hsm
 simp only at hrem hclr
 have hel : (ents (allP s1 2 4)).length = 1 := by rw [ents_len]; exact hal
 generalize allP s1 2 4 = al at *
 clear W hm1 hm2 hiA hh hj hal hs0
 refine jen cl_32 Tryz.func32 (h := ?_)
 refine jr (h := ?_)
 refine jcs (Δ1 := [GL]) (Fr := []) (hs := open13_ok) (hp := (List.Perm.refl _)) (hk := ?_) (hpan := (by rintro x Δ' ⟨f, t, sm, fb, D, e, _⟩; cases e))
 rintro x _ ⟨f, t, sm, fb, D, e, hO, rfl⟩
 cases e
 rw [List.append_nil]
 generalize openFs (newFl 9) 2 4 = fs0 at *
 refine J_apart (b1 := sm) (b2 := fb) (List.Perm.refl _) (fun h1 h1' => ?_)
 refine J_apart (b1 := sm) (b2 := t) (.cons _ (List.Perm.swap _ _ _)) (fun h2 h2' => ?_)
 refine J_apart (b1 := fb) (b2 := t) ((List.Perm.swap _ _ _).trans (.cons _ (List.Perm.swap _ _ _))) (fun h3 h3' => ?_)
 refine jr (h := ?_)
 refine jn (h := ?_)
 refine jr (own := [27]) (h := ?_)
 refine J_op1 rfl gN (newslice_op rfl gS gS gS (by rfl) (by decide) (by decide) (by decide) gS gS (by rfl)) ?_
 rintro _ _ ⟨v7, D7, rfl, rfl, how7⟩
 obtain ⟨a7, c7, rfl⟩ := how7.slice
 refine J_op1 rfl gN (stringish_op (rows := bytesRows [118]) rfl gS gS gS how7 (by decide) (bytes_row _) (by decide)) ?_
 rintro _ _ ⟨rfl, rfl⟩
 refine jr (own := [3]) (h := ?_)
 refine jnv (hh := fun b3 hb3 => ?_)
 refine jr (h := ?_)
 refine J_freeze (s := 3) (o := 0) (by simp only [go_sem]) ?_
 simp only [List.drop_zero]
 refine jr (h := ?_)
 refine jcs (Fr := []) (hs := (hset1 sm t f fb D hO h1 h2 h3)) (hp := (by rw [List.append_nil])) (hk := ?_) (hpan := (by rintro x Δ' ⟨e, D1, h, _⟩; cases h))
 rintro x _ ⟨e4, D1, hx, he4, hO1, rfl⟩
 cases hx
 obtain rfl := iserr_zero he4
 rw [List.append_nil]
 refine jr (h := ?_)
 refine jcs (Fr := []) (hs := (hget sm t f fb D1 hO1 h1)) (hp := (by rw [List.append_nil])) (hk := ?_) (hpan := (by rintro x Δ' ⟨⟨e, h, _⟩, _⟩; cases h))
 rintro x _ ⟨⟨e5, hx, he5⟩, rfl⟩
 cases hx
 obtain rfl := iserr_zero he5
 rw [List.append_nil]
 refine jr (own := [6]) (h := ?_)
 refine jnv (hh := fun b6 hb6 => ?_)
 refine jr (h := ?_)
 refine J_freeze (s := 6) (o := 0) (by simp only [go_sem]) ?_
 simp only [List.drop_zero]
 refine jr (h := ?_)
 refine jcs (Fr := [smF fb fs1]) (hs := (hall sm t f fb D1 hO1)) (hp := (permD _ _ _ _ _)) (hk := ?_) (hpan := (by rintro x Δ' ⟨⟨e, h, _⟩, _⟩; cases h))
 rintro x _ ⟨⟨e6, hx, he6⟩, rfl⟩
 cases hx
 obtain rfl := iserr_zero he6
 refine J_perm (permD _ _ _ _ _).symm ?_
 refine jr (h := ?_)
 refine jop (ho := rfl) (hh := mk300_op rfl gS gS) (hk := ?_)
 rintro _ _ ⟨rfl, rfl⟩
 generalize List.replicate 300 (0 : UInt8) = z300 at *
 refine jr (h := ?_)
 refine jcs (Fr := []) (hs := (hset2 sm t f fb D1 hO1 h1 h2 h3)) (hp := (by rw [List.append_nil])) (hk := ?_) (hpan := (by rintro x Δ' ⟨e, D1, h, _⟩; cases h))
 rintro x _ ⟨e7, D2, hx, he7, hO2, rfl⟩
 cases hx
 rw [List.append_nil]
 refine jr (h := ?_)
 refine jcs (Fr := []) (hs := (hrem sm t f fb D2 hO2 h1 h2 h3)) (hp := (by rw [List.append_nil])) (hk := ?_) (hpan := (by rintro x Δ' ⟨e, D1, h, _⟩; cases h))
 rintro x _ ⟨e8, D3, hx, he8, hO3, rfl⟩
 cases hx
 obtain rfl := iserr_zero he8
 rw [List.append_nil]
 refine jr (h := ?_)
 refine jcs (Δ1 := []) (Fr := smB sm t 2 fb 4 :: smF fb fs2 :: tbox t f n2 :: GL :: D3) (hs := (sopen_nil _ _)) (hp := (List.Perm.refl _)) (hk := ?_) (hpan := (by rintro x Δ' ⟨⟨e, h, _⟩, _⟩; cases h))
 rintro x _ ⟨⟨e9, hx, he9⟩, rfl⟩
 cases hx
 simp only [List.nil_append, List.append]
 refine jq hel (h := ?_)
 refine jc (hs := hsm) (hk := ?_)
 refine jq hel (h := ?_)
 refine jcg (hin := by simp [GL]) (hs := of_ok he7) (hk := ?_)
 refine jq hel (h := ?_)
 refine jcr (hs := ((hmay sm t fb h1).around (Δ := smB sm t 2 fb 4 :: smF fb fs2 :: tbox t f n2 :: GL :: D3) (Fr := tbox t f n2 :: GL :: D3) (List.Perm.refl _))) (hk := ?_)
 refine jq hel (h := ?_)
 refine jcg (hin := by simp [GL]) (hs := of_ok he9) (hk := ?_)
 refine jq hel (h := ?_)
 refine jcr (hs := ((sbuckets_ok (sm := sm) (t := t) (fb := fb) (N := 4) (base := 2)).around (Δ := smB sm t 2 fb 4 :: smF fb fs2 :: tbox t f n2 :: GL :: D3) (Fr := smF fb fs2 :: tbox t f n2 :: GL :: D3) (List.Perm.refl _))) (hk := ?_)
 refine jq hel (h := ?_)
 refine jcs (Fr := []) (hs := (hclr sm t f fb D3 hO3 h1)) (hp := (by rw [List.append_nil])) (hk := ?_) (hpan := (by rintro x Δ' ⟨e, D1, h, _⟩; cases h))
 rintro x _ ⟨ea, D4, hx, hea, hO4, rfl⟩
 cases hx
 obtain rfl := iserr_zero hea
 rw [List.append_nil]
 have hlo4 := loose_ok hO4
 rw [hlo] at hlo4
 refine jq (cD hel h1 h1' h2 (cB h2' h3 h3')) (h := ?_)
 refine jcr (hs := (hlo4.around (Δ := smB sm t 2 fb 4 :: smF fb fs3 :: tbox t f n2 :: GL :: D4) (Fr := [smB sm t 2 fb 4, smF fb fs3, tbox t f n2, GL]) (List.perm_append_comm (l₁ := [_, _, _, GL])))) (hk := ?_)
 refine jq hel (h := ?_)
 refine J_forget ?_
 refine jret Tryz.func32 (h := ⟨rfl, rfl⟩)
end
section
attribute [local go_sem] rowsBytes_bytesRows Option.map_some Int.cast_ofNat_Int getBox_GL setBox_GL fresh_GL sAV tAV
structure SS where
 s : Fl
 n : Int
 fs : List BF
def slK (k : List UInt8) : Nat := slotE (hash64 k) 4
def SS.set (a : SS) (x : Entry) : SS := ⟨(setS a.s a.n 2 (slK x.key) x a.fs).2.2.1, (setS a.s a.n 2 (slK x.key) x a.fs).2.2.2.1, (setS a.s a.n 2 (slK x.key) x a.fs).2.2.2.2⟩
def SS.rm (a : SS) (k : List UInt8) : SS := ⟨(rmS a.s a.n 2 (slK k) k a.fs).2.2.1, (rmS a.s a.n 2 (slK k) k a.fs).2.2.2.1, (rmS a.s a.n 2 (slK k) k a.fs).2.2.2.2⟩
def SS.pur (a : SS) (k : List UInt8) (t : Int) : SS := ⟨(purS a.s a.n 2 (slK k) (hash64 k) t a.fs).2.2.1, (purS a.s a.n 2 (slK k) (hash64 k) t a.fs).2.2.2.1, (purS a.s a.n 2 (slK k) (hash64 k) t a.fs).2.2.2.2⟩
def SS.clr (a : SS) : SS := ⟨(clearS a.s 2 4 a.fs).2.1, a.n, (clearS a.s 2 4 a.fs).2.2⟩
def SS.step (a : SS) (o : Op13) : SS :=
 if o.kind = 0 then a.set o.x else if o.kind = 1 then a else if o.kind = 2 then a.rm o.x.key else if o.kind = 6 then a.pur o.x.key o.x.asof
 else if o.kind = 3 then a.clr else if o.kind = 4 then { a with s := fuseS a.s o.n } else a
theorem slK_lt (k : List UInt8) : slK k < 4 := slotE_lt (by decide)
theorem pgE_down {s : Fl} (hd : s.down = true) (at_ : Int) : pgE s at_ = [] := by
 unfold pgE; rw [if_pos (by rw [tgetC_down hd]; decide)]
theorem getS_up {s : Fl} {i : Nat} {k : List UInt8} (hd : ¬ s.down = true) (b : Int) : getS s b i k (mayF (ofF (keysE (pgE s (b + (i : Int))))) (hash64 k)) = (lkE (pgE s (b + (i : Int))) k, 0) := by
 unfold getS
 rw [if_neg hd]
 split
 · rename_i h
   rw [lkE_not]
   intro y hy e
   have := mayF_mem hy
   rw [e, h] at this
   cases this
 · rfl
theorem getS_down {s : Fl} {i : Nat} {k : List UInt8} {m : Bool} (hd : s.down = true) (b : Int) : ∃ c, getS s b i k m = (none, c) := by
 unfold getS
 rw [if_pos hd]
 split
 · exact ⟨0, rfl⟩
 · exact ⟨11, rfl⟩
theorem do13_a {sm t f fb : Nat} {a : SS} {c : List (Int × List UInt8)} {m : Nat} {D : List HP} (hO : OwnF f a.s D) (hrel : Rel a.s c m) (hm : m < 536870000) (hn : 1 ≤ a.n ∧ a.n ≤ 1099511627777) (hS : SI a.s a.fs) (h1 : sm ≠ fb) (h2 : sm ≠ t) (h3 : fb ≠ t) (h1' : fb ≠ sm) (h2' : t ≠ sm) (h3' : t ≠ fb) (o : Op13) (ho : OpB o) (hk : o.kind = 0 ∨ o.kind = 1) :
   ACalls Tryz.prog 35 [ptr sm, ptr t, sAV (wc a.s c) a.n 2 4, .agg o.cells] (smB sm t 2 fb 4 :: smF fb a.fs :: tbox t f a.n :: GL :: D)
     (fun r D' => ∃ c' D1, r = .ret (.tup [sAV (wc (a.step o).s c') (a.step o).n 2 4, .c (.bool true)]) ∧ Rel (a.step o).s c' (m + 5) ∧ OwnF f (a.step o).s D1 ∧ D' = smB sm t 2 fb 4 :: smF fb (a.step o).fs :: tbox t f (a.step o).n :: GL :: D1) := by
 have hwf := hrel.b.wf (by omega)
 have hwt := fun at_ b => (hrel.put a.n at_ 1 b).b.wf (by omega)
 have hR := B_R hrel.rb (by omega)
 have hw' := hR.w
 have hRt : ∀ at_ b, (tputS (wc a.s c) a.n at_ 1 b).R := fun at_ b => by rw [tputS_wc]; exact B_R (hrel.put a.n at_ 1 b).rb (by omega)
 have hl29 : (wc a.s c).loose.length < 2 ^ 29 := by show a.s.loose.length < 2 ^ 29; have := hrel.len; omega
 have hrw := hrel.rb.wf (by omega)
 have hr1 := hrel.rb.safe.page
 have hr2 := hrel.rb.lpage
 have hr3 : (wc a.s c).safe.length < 2 ^ 60 := by have := hrel.rb.len; omega
 have hr4 : (wc a.s c).loose.length < 2 ^ 60 := by omega
 obtain ⟨s, n, fs⟩ := a
 obtain ⟨kd, x, fn, keep⟩ := o
 have hkb : x.key.length < 2 ^ 62 := by have := ho.key; simp only at this; omega
 have hvb : x.val.length < 2 ^ 62 := by have := ho.val; simp only at this; omega
 have hon : fn < 9223372036854775808 := ho.n
 obtain ⟨i, hi⟩ : ∃ i, slotE (hash64 x.key) 4 = i := ⟨_, rfl⟩
 have hi' : slK x.key = i := hi
 have hlt : i < 4 := hi ▸ slotE_lt (by decide)
 have hpw := pgE_wc hrel
 simp only at *
 unfold Op13.cells
 simp only
 by_cases hk0 : kd = 0
 · have hst : SS.step ⟨s, n, fs⟩ ⟨kd, x, fn, keep⟩ = SS.set ⟨s, n, fs⟩ x := by unfold SS.step; rw [if_pos hk0]
   rw [hst]
   unfold SS.set
   simp only [hi']
   obtain ⟨c2, hw1, hrel2⟩ := set_wc hrel n 2 i x fs
   have hp := rset_ok (wc s c) n 2 4 i x hkb (by decide) (by decide) hi hrw hw' hl29 (by omega) hRt hr1 hr2 hr3 hr4 (by decide)
   rw [hw1] at hp
   have hq := sset_ok (sm := sm) (t := t) (fb := fb) (fs := fs) (i := i) (x := x) (N := 4) (base := 2) hkb hO hwf hwt (by omega) (by decide) hS.l4 hi (by decide) (by decide) h1 h2 h3
   have hgb : (setS s n 2 i x fs).1.length < 2 ^ 62 ∧ ∀ y ∈ (setS s n 2 i x fs).1, y.val.length < 2 ^ 62 := by
     have hpw2 := pgE_w hwf (2 + (i : Int))
     have hrl := rmE_len (pgE s (2 + (i : Int))) x.key
     have hin : (insE (pgE s (2 + (i : Int))) x).2.2.length ≤ 257 ∧ ∀ y ∈ (insE (pgE s (2 + (i : Int))) x).2.2, y.val.length < 2 ^ 62 := by
       unfold insE
       split
       · exact ⟨by simp, by simp⟩
       · split
         · exact ⟨by simp, by simp⟩
         · refine ⟨by simp only [List.length_take, List.length_append, List.length_cons, List.length_nil]; omega, fun y hy => ?_⟩
           rcases List.mem_append.1 (List.mem_of_mem_take hy) with h | h
           · have := (hpw2.1 y (rmE_mem h)).b; omega
           · rw [List.mem_singleton.1 h]; exact hvb
     unfold setS
     split
     · exact ⟨by simp, by simp⟩
     · split
       · exact ⟨by simp, by simp⟩
       · split
         · exact ⟨by show (insE (pgE s (2 + (i : Int))) x).2.2.length < 2 ^ 62; omega, hin.2⟩
         · exact ⟨by simp, by simp⟩
   have hsa := sameAll_ok (setS s n 2 i x fs).1 (setS s n 2 i x fs).1 hgb.1 hgb.2
   rw [decide_eq_true rfl] at hsa
   clear hst hw1 hgb
   generalize setS s n 2 i x fs = W at *
   obtain ⟨gone, C, s2, n2, fs2⟩ := W
   simp only at *
   simp only [Entry.av, Entry.cells] at hp hq
   refine jen cl_35 Tryz.func35 (h := ?_)
   refine jr (own := [8]) (h := ?_)
   refine jnv (hh := fun b8 hb8 => ?_)
   simp only [fresh, fresh_GL] at hb8
   refine jf hb8 (h := ?_)
   refine jif (h1 := fun _ => ?_) (h2 := fun hc => absurd (by exact hk0) hc)
   refine jf hb8 (h := ?_)
   refine jc (hs := hp) (hk := ?_)
   refine jf (own := [10]) hb8 (h := ?_)
   refine jnv (hh := fun b10 hb10 => ?_)
   simp only [fresh, fresh_GL] at hb10
   refine jmf 1 (cA hb8 hb10) (h := ?_)
   refine J_freeze (s := 10) (o := 0) (by simp only [go_sem]) ?_
   simp only [List.drop_zero]
   refine jf hb8 (h := ?_)
   refine jcs (Fr := []) (hs := (hq.under1 _)) (hp := (by rw [List.append_nil])) (hk := ?_) (hpan := (by rintro x Δ' ⟨_, ⟨e, D1, h, _⟩, _⟩; cases h))
   rintro z _ ⟨_, ⟨er, D1, h, he, hO1, rfl⟩, rfl⟩
   cases h
   rw [List.append_nil]
   refine jf hb8 (h := ?_)
   refine jd [(0, .pure), (1, .pure), (2, .pure), (3, .pure), (4, .pure), (5, .pure), (6, .read), (7, .pure), (8, .pure), (9, .pure), (10, .act), (11, .pure)] mixed (by kernel_rfl) ?_
   refine cf hb8 (hk := ?_)
   refine ccp (hs := hsa) (hk := ?_)
   refine cf hb8 (hk := ?_)
   refine ccr (hs := ((of_ok he).globKeep (by simp [GL]))) (hk := ?_)
   refine cq hb8 (hk := ?_)
   refine Can_nil ?_
   refine J_forgetP ?_
   refine jretf hb8 Tryz.func35 (h := ⟨[_], _, List.Perm.refl _, c2, D1, rfl, hrel2.mono (by omega), hO1, rfl⟩)
 · by_cases hk1 : kd = 1
   · have hst : SS.step ⟨s, n, fs⟩ ⟨kd, x, fn, keep⟩ = ⟨s, n, fs⟩ := by unfold SS.step; rw [if_neg hk0, if_pos hk1]
     rw [hst]
     simp only
     obtain ⟨fl, hfl⟩ : ∃ fl, fs[i]? = some fl := ⟨_, List.getElem?_eq_getElem (by rw [hS.l4]; exact hlt)⟩
     have hok : BFok fl := hS.ok fl (List.mem_of_getElem? hfl)
     have hp := rget_ok (wc s c) n 2 4 i x.key hkb (by decide) (by decide) hi hrw hr1 hr2 hr3 hr4 (by decide)
     rw [hpw] at hp
     have hq := sget_ok (sm := sm) (t := t) (fb := fb) (fs := fs) (i := i) (k := x.key) (N := 4) (base := 2) (n := n) hkb hO hwf (by decide) hS.l4 hi (by decide) h1 hfl hok
     by_cases hd : s.down = true
     · obtain ⟨cc, hg⟩ := getS_down (i := i) (k := x.key) (m := mayF fl (hash64 x.key)) hd 2
       rw [hg] at hq
       have hnl : lkE (pgE s (2 + (i : Int))) x.key = none := by rw [pgE_down hd]; rfl
       rw [hnl] at hp
       simp only [gotAV, noE, Option.isSome_none] at hp hq
       obtain ⟨pg, sf, lo, fu, dn, dc⟩ := s
       simp only at hd
       subst hd
       refine jen cl_35 Tryz.func35 (h := ?_)
       refine jr (own := [8]) (h := ?_)
       refine jnv (hh := fun b8 hb8 => ?_)
       simp only [fresh, fresh_GL] at hb8
       refine jf hb8 (h := ?_)
       refine jif (h1 := fun hc => absurd hc (by exact hk0)) (h2 := fun _ => ?_)
       refine jf hb8 (h := ?_)
       refine jif (h1 := fun _ => ?_) (h2 := fun hc => absurd (by exact hk1) hc)
       refine jf hb8 (h := ?_)
       refine jc (hs := hp) (hk := ?_)
       refine jf (own := [15]) hb8 (h := ?_)
       refine jnv (hh := fun b15 hb15 => ?_)
       simp only [fresh, fresh_GL] at hb15
       refine jmf 1 (cA hb8 hb15) (h := ?_)
       refine J_freeze (s := 15) (o := 0) (by simp only [go_sem]) ?_
       simp only [List.drop_zero]
       refine jf hb8 (h := ?_)
       refine jcs (Fr := []) (hs := (hq.under1 _)) (hp := (by rw [List.append_nil])) (hk := ?_) (hpan := (by rintro x Δ' ⟨_, ⟨⟨e, h, _⟩, _⟩, _⟩; cases h))
       rintro z _ ⟨_, ⟨⟨er, h, he⟩, rfl⟩, rfl⟩
       cases h
       rw [List.append_nil]
       refine jf (own := [17]) hb8 (h := ?_)
       refine jnv (hh := fun b17 hb17 => ?_)
       simp only [fresh, fresh_GL] at hb17
       refine jf (cA hb8 hb17) (h := ?_)
       refine jt (h := ?_)
       refine jf (cA hb8 hb17) (h := ?_)
       refine J_forgetP ?_
       refine jretf (cA hb8 hb17) Tryz.func35 (h := ⟨[_, _], _, List.Perm.refl _, c, D, rfl, hrel.mono (by omega), hO, rfl⟩)
     · have hdf : s.down = false := by simpa using hd
       have hfe := hS.fl hdf i hlt
       rw [hfl] at hfe
       have hfl2 : fl = ofF (keysE (pgE s (2 + (i : Int)))) := Option.some.inj hfe
       have hm := smay_ok (sm := sm) (t := t) (base := 2) hkb hS.l4 (by decide) h1 hi hfl hok
       have hrm := rmay_ok (wc s c) n 2 4 i x.key hkb (by decide) (by decide) hi hrw hr1 hr2 hr3 hr4 (by decide)
       rw [hpw, ← may_same, ← hfl2] at hrm
       have hg := getS_up (i := i) (k := x.key) hd 2
       rw [← hfl2] at hg
       rw [hg] at hq
       clear hfe hfl2 hg
       have hlv : ∀ y, lkE (pgE s (2 + (i : Int))) x.key = some y → y.val.length < 2 ^ 62 := fun y hy => by
         have := ((pgE_w hwf (2 + (i : Int))).1 y (by unfold lkE at hy; exact List.mem_of_find?_eq_some hy)).b
         omega
       generalize mayF fl (hash64 x.key) = mm at *
       generalize lkE (pgE s (2 + (i : Int))) x.key = L at *
       have hsm : ∀ z : AV, z = gotAV L → ACalls Tryz.prog 44 [z, z] [] (Ret (.c (.bool true))) := by
         rintro z rfl
         cases L with
         | none =>
           have := same06_ok ⟨[], 0, 0, 0, []⟩ ⟨[], 0, 0, 0, []⟩ (by decide)
           rw [decide_eq_true rfl] at this
           have hle : noE.le (Entry.av ⟨[], 0, 0, 0, []⟩) := agg_le 4 rfl (nil_le_sl (s := 1))
           exact this.args fun g us h => by
             simp only [relL] at h ⊢
             obtain ⟨u, _, rfl, q1, v, _, rfl, q2, rfl⟩ := h
             exact ⟨u, _, rfl, hle g u q1, v, _, rfl, hle g v q2, rfl⟩
         | some y =>
           have := same06_ok y y (hlv y rfl)
           rw [decide_eq_true rfl] at this
           exact this
       have hsm1 := hsm _ rfl
       have hsm2 : ACalls Tryz.prog 44 [gotAV L, gotAV L] [] (Ret (.c (.bool true))) := hsm1
       clear hsm1 hsm hlv
       have hmm := hm.around (Δ := smB sm t 2 fb 4 :: smF fb fs :: tbox t f n :: GL :: D) (Fr := tbox t f n :: GL :: D) (List.Perm.refl _)
       have hmm1 := fun bx => hm.around (Δ := bx :: smB sm t 2 fb 4 :: smF fb fs :: tbox t f n :: GL :: D) (Fr := bx :: tbox t f n :: GL :: D) (permC _ _ _ _)
       obtain ⟨pg, sf, lo, fu, dn, dc⟩ := s
       simp only at hdf
       subst hdf
       cases L
       all_goals
         simp only [gotAV, noE, Entry.av, Entry.cells, Option.isSome_some, Option.isSome_none] at hp hq hsm2
         refine jen cl_35 Tryz.func35 (h := ?_)
         refine jr (own := [8]) (h := ?_)
         refine jnv (hh := fun b8 hb8 => ?_)
         simp only [fresh, fresh_GL] at hb8
         refine jf hb8 (h := ?_)
         refine jif (h1 := fun hc => absurd hc (by exact hk0)) (h2 := fun _ => ?_)
         refine jf hb8 (h := ?_)
         refine jif (h1 := fun _ => ?_) (h2 := fun hc => absurd (by exact hk1) hc)
         refine jf hb8 (h := ?_)
         refine jc (hs := hp) (hk := ?_)
         refine jf (own := [15]) hb8 (h := ?_)
         refine jnv (hh := fun b15 hb15 => ?_)
         simp only [fresh, fresh_GL] at hb15
         refine jmf 1 (cA hb8 hb15) (h := ?_)
         refine J_freeze (s := 15) (o := 0) (by simp only [go_sem]) ?_
         simp only [List.drop_zero]
         refine jf hb8 (h := ?_)
         refine jcs (Fr := []) (hs := (hq.under1 _)) (hp := (by rw [List.append_nil])) (hk := ?_) (hpan := (by rintro x Δ' ⟨_, ⟨⟨e, h, _⟩, _⟩, _⟩; cases h))
         rintro z _ ⟨_, ⟨⟨er, h, he⟩, rfl⟩, rfl⟩
         cases h
         obtain rfl := iserr_zero he
         rw [List.append_nil]
         refine jf (own := [17]) hb8 (h := ?_)
         refine jnv (hh := fun b17 hb17 => ?_)
         simp only [fresh, fresh_GL] at hb17
         refine jmf 1 (cA hb8 hb17) (h := ?_)
         refine J_freeze (s := 17) (o := 0) (by simp only [go_sem]) ?_
         simp only [List.drop_zero]
         refine jf hb8 (h := ?_)
         refine jn (h := ?_)
         refine jr (h := ?_)
         refine jd [(0, .pure), (1, .pure), (2, .pure), (3, .pure), (4, .pure), (5, .pure), (6, .pure), (7, .pure), (8, .pure), (9, .pure), (10, .pure), (11, .pure), (12, .pure), (13, .pure), (14, .pure), (15, .pure), (16, .pure), (17, .pure), (18, .read), (19, .pure), (20, .pure), (21, .pure), (22, .pure), (23, .pure), (24, .pure), (25, .pure), (26, .act), (27, .pure)] mixed (by kernel_rfl) ?_
         refine cf hb8 (hk := ?_)
         refine ccp (hs := hsm2) (hk := ?_)
         refine cf hb8 (hk := ?_)
         refine ccr (hs := (hmm1 _)) (hk := ?_)
         refine cf hb8 (hk := ?_)
         refine ccp (hs := hrm) (hk := ?_)
         refine cq hb8 (hk := ?_)
         refine Can_nil ?_
         refine J_forgetP ?_
         refine jretf hb8 Tryz.func35 (h := ⟨[_], _, List.Perm.refl _, c, D, rfl, hrel.mono (by omega), hO, rfl⟩)
   · omega
end
end Go.Proofs.YtjppajaoekbkpaaGreatDoor
