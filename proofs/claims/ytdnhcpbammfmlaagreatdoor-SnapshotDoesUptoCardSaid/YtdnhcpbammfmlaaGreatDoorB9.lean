/- A part of the proof: what the calls do, told by values. -/
import Derived.Test.YtdnhcpbammfmlaaGreatDoorB4
import Derived.Test.YtdnhcpbammfmlaaGreatDoorA9
import Derived.Test.YtdnhcpbammfmlaaGreatDoorCards
import Derived.Test.YtdnhcpbammfmlaaGreatDoorTie
import Derived.LaidLaws
import Derived.LaidHandle
import Derived.Stop.Joined
import Derived.Test.YtdnhcpbammfmlaaGreatDoorB8
set_option linter.unusedVariables false
set_option linter.unusedSimpArgs false
set_option maxRecDepth 100000
set_option maxHeartbeats 4000000
namespace Go.Proofs.YtdnhcpbammfmlaaGreatDoor
open Go Go.Av Go.ChangeShapes Go.WideShapes Go.ChangeAt Go.RowKit
section
theorem cells3 : Tryz.prog.cellsOf 3 = 1 := by kernel_rfl
theorem shp_int {M k : Nat} {xs : List AV} (h : Shp Tryz.prog M (k + 1) 3 xs) : ∃ n : Int, xs = [.c (.int .i64 n)] ∧ n < 9223372036854775808 ∧ -9223372036854775808 ≤ n := by
 unfold Shp at h
 simp only [Tryz.underlying3] at h
 obtain ⟨n, rfl, hw⟩ := h
 simp only [Lit.wf, Bool.and_eq_true, decide_eq_true_eq] at hw
 have e1 : IntKind.i64.min = -9223372036854775808 := by rfl
 have e2 : IntKind.i64.max = 9223372036854775807 := by rfl
 exact ⟨n, rfl, by omega, by omega⟩
theorem shp_ints {M k : Nat} {xs : List AV} (h : Shp Tryz.prog M (k + 2) 56 xs) : ∃ l : List Int, xs = [.sl 1 (intRows l)] ∧ l.length ≤ M ∧ ∀ n ∈ l, n < 9223372036854775808 := by
 unfold Shp at h
 simp only [Tryz.underlying56, cells3] at h
 obtain ⟨rows, rfl, hl, hr⟩ := h
 have : ∃ l : List Int, rows = intRows l ∧ ∀ n ∈ l, n < 9223372036854775808 := by
   clear hl
   induction rows with
   | nil => exact ⟨[], rfl, by simp⟩
   | cons r rows ih =>
     obtain ⟨l, rfl, h2⟩ := ih fun r hr' => hr r (List.mem_cons_of_mem _ hr')
     obtain ⟨n, rfl, h3, -⟩ := shp_int (k := k) (hr r (List.mem_cons_self ..))
     exact ⟨n :: l, rfl, fun m hm => by rcases List.mem_cons.1 hm with rfl | h; (· exact h3); (· exact h2 m h)⟩
 obtain ⟨l, rfl, h2⟩ := this
 exact ⟨l, rfl, by rwa [intRows_len] at hl, h2⟩
mutual
theorem upto_bulk {H : Type} : ∀ d : DataW H, Rows.uptoBulk d = bulk d
 | .lit (.string _) => by simp only [Rows.uptoBulk, bulk]
 | .lit (.bool _) => by simp only [Rows.uptoBulk, bulk]
 | .lit (.int _ _) => by simp only [Rows.uptoBulk, bulk]
 | .lit (.float _ _) => by simp only [Rows.uptoBulk, bulk]
 | .lit .nil => by simp only [Rows.uptoBulk, bulk]
 | .nil => by simp only [Rows.uptoBulk, bulk]
 | .ptr d => by simp only [Rows.uptoBulk, bulk, upto_bulk d]
 | .slice a b => by simp only [Rows.uptoBulk, bulk, upto_bulkAll a, upto_bulkAll b]
 | .agg a => by simp only [Rows.uptoBulk, bulk, upto_bulkAll a]
 | .iface _ d => by simp only [Rows.uptoBulk, bulk, upto_bulk d]
 | .map es => by simp only [Rows.uptoBulk, bulk, upto_bulkEntries es]
 | .held _ => by simp only [Rows.uptoBulk, bulk]
theorem upto_bulkAll {H : Type} : ∀ l : List (DataW H), Rows.uptoBulkAll l = bulkAll l
 | [] => by simp only [Rows.uptoBulkAll, bulkAll]
 | d :: r => by simp only [Rows.uptoBulkAll, bulkAll, upto_bulk d, upto_bulkAll r]
theorem upto_bulkEntries {H : Type} : ∀ l : List (Lit × DataW H), Rows.uptoBulkEntries l = bulkEntries l
 | [] => by simp only [Rows.uptoBulkEntries, bulkEntries]
 | x :: r => by simp only [Rows.uptoBulkEntries, bulkEntries, upto_bulkEntry x, upto_bulkEntries r]
theorem upto_bulkEntry {H : Type} : ∀ x : Lit × DataW H, Rows.uptoBulkEntry x = bulkEntry x
 | (.string _, d) => by simp only [Rows.uptoBulkEntry, bulkEntry, upto_bulk d]
 | (.bool _, d) => by simp only [Rows.uptoBulkEntry, bulkEntry, upto_bulk d]
 | (.int _ _, d) => by simp only [Rows.uptoBulkEntry, bulkEntry, upto_bulk d]
 | (.float _ _, d) => by simp only [Rows.uptoBulkEntry, bulkEntry, upto_bulk d]
 | (.nil, d) => by simp only [Rows.uptoBulkEntry, bulkEntry, upto_bulk d]
end
theorem upto_small {H : Type} {ds : List (DataW H)} (h : Rows.uptoSmall H ds = true) : bulkAll ds ≤ 1048576 := by
 rw [← upto_bulkAll]
 exact of_decide_eq_true h
theorem own : ownKnob Tryz.prog.godebug = none := by kernel_rfl
theorem gET : Tryz.prog.globalNamed "errors.errorType" = some 0 := by kernel_rfl
theorem gRT : (Tryz.prog.cutTypes.find? (·.1 == "internal/reflectlite.rtype")).map (·.2) = some 167 := by kernel_rfl
theorem gSize : Tryz.prog.types.size = 260 := by kernel_rfl
theorem gRow : ((List.range 260).filter fun t => Tryz.prog.rowNamed t [101, 114, 114, 111, 114]) = [27] := by kernel_rfl
theorem handle_of_laid {W : World} (h : laidMetH Tryz.prog Rows.snapshotDoesRow.laid W) : W.cell? ⟨0, 0, none⟩ = some (.iface 167 (.agg #[.pointer (some ⟨1, 27, none⟩)])) := by
 have h' : laidMet Tryz.prog [] W ∧ handlesMet Tryz.prog Rows.snapshotDoesRow.laid W := h
 obtain ⟨name, u, ty, e1, e2, e3, e4, e5⟩ := h'.2 _ (List.mem_singleton.2 rfl)
 have en : name = [101, 114, 114, 111, 114] := (Option.some.inj e1).symm
 subst en
 obtain rfl := Option.some.inj (gRT.symm.trans e2)
 have hm : ty ∈ (List.range 260).filter fun t => Tryz.prog.rowNamed t [101, 114, 114, 111, 114] := List.mem_filter.2 ⟨List.mem_range.2 (by rw [← gSize]; exact e3), e4⟩
 rw [gRow] at hm
 obtain rfl := List.mem_singleton.1 hm
 have hh : typeHandle Tryz.prog 27 = .pointer (some ⟨1, 27, none⟩) := by kernel_rfl
 rw [hh] at e5
 simpa using World.var?_cell gET e5 0
theorem laidOut : laidOutB Tryz.prog = true := by kernel_rfl
noncomputable def laidWorld (os : Os) : World :=
 let w0 := World.holding Tryz.prog os ⟨#[], #[], []⟩
 { w0 with heap := w0.heap.modify 0 fun
     | .cells _ t frozen => .cells #[.iface 167 (.agg #[.pointer (some ⟨1, 27, none⟩)])] t frozen
     | o => o }
theorem laidWorld_met (os : Os) (args : Array Value) : laidMetH Tryz.prog Rows.snapshotDoesRow.laid ((laidWorld os).forCall (fun _ _ => 0) ⟨#[], args, []⟩).memory :=
 laidMetH_of_parts (laidMet_nil _ _) (by kernel_rfl)
end
section
theorem cellsSn : Tryz.prog.cellsOf 70 = 3 := by kernel_rfl
theorem shp_u64 {M k : Nat} {xs : List AV} (h : Shp Tryz.prog M (k + 1) 68 xs) : ∃ n : Nat, xs = [.c (.int .u64 (n : Int))] ∧ n < 2 ^ 64 := by
 unfold Shp at h
 simp only [Tryz.underlying68] at h
 obtain ⟨n, rfl, hw⟩ := h
 simp only [Lit.wf, Bool.and_eq_true, decide_eq_true_eq] at hw
 have e1 : IntKind.u64.min = 0 := by rfl
 have e2 : IntKind.u64.max = 18446744073709551615 := by rfl
 exact ⟨n.toNat, by rw [Int.toNat_of_nonneg (by omega)], by omega⟩
theorem shp_seen {M k : Nat} {xs : List AV} (h : Shp Tryz.prog M (k + 2) 70 xs) : ∃ q : Nat × Int × Int, xs = snRow q ∧ q.1 < 2 ^ 64 := by
 unfold Shp at h
 simp only [Tryz.underlying70, FieldsAre] at h
 obtain ⟨p1, q1, rfl, h1, p2, q2, rfl, h2, p3, q3, rfl, h3, rfl⟩ := h
 obtain ⟨n1, rfl, hn1⟩ := shp_u64 (k := k) h1
 obtain ⟨n2, rfl, -⟩ := shp_int (k := k) h2
 obtain ⟨n3, rfl, -⟩ := shp_int (k := k) h3
 exact ⟨(n1, n2, n3), rfl, hn1⟩
theorem shp_sn {M k : Nat} {xs : List AV} (h : Shp Tryz.prog M (k + 3) 22 xs) : ∃ l : SN, xs = [.sl 3 (snRows l)] ∧ l.length ≤ M ∧ ∀ p ∈ l, p.1 < 2 ^ 64 := by
 unfold Shp at h
 simp only [Tryz.underlying22, cellsSn] at h
 obtain ⟨rows, rfl, hl, hr⟩ := h
 have : ∃ l : SN, rows = snRows l ∧ ∀ p ∈ l, p.1 < 2 ^ 64 := by
   clear hl
   induction rows with
   | nil => exact ⟨[], rfl, by simp⟩
   | cons r rows ih =>
     obtain ⟨l, rfl, h2⟩ := ih fun r hr' => hr r (List.mem_cons_of_mem _ hr')
     obtain ⟨o, rfl, h3⟩ := shp_seen (k := k) (hr r (List.mem_cons_self ..))
     exact ⟨o :: l, rfl, fun o' ho' => by rcases List.mem_cons.1 ho' with rfl | h; (· exact h3); (· exact h2 o' h)⟩
 obtain ⟨l, rfl, h2⟩ := this
 exact ⟨l, rfl, by rwa [snRows_len] at hl, h2⟩
end
end Go.Proofs.YtdnhcpbammfmlaaGreatDoor
namespace Go.Proofs.YtdnhcpbammfmlaaGreatDoor
open Go Go.Av
attribute [local go_sem] packed List.set_cons_zero List.set_cons_succ List.cons_append List.nil_append bytesRows_length cellRows_len chRows_len rCells intRows_len
attribute [-go_sem] cellsOf AV.isCell
attribute [local go_sem] cellsOf_agg cellsOf_int cellsOf_bool cellsOf_str cellsOf_map cellsOf_ptr cellsOf_nilI cellsOf_slice cellsOf_sl cellsOf_ifc cellsOf_fp cellsOf_opt optAV_cell icell_int icell_bool icell_str icell_map icell_ptr icell_nilI icell_slice icell_sl icell_ifc icell_fp
section
theorem pcR_wc {s : Fl} {c : List (Int × List UInt8)} {n : Nat} (h : Rel s c n) (base : Int) (i : Nat) : pcR (wc s c) base i = pcR s base i := by
 unfold pcR pgB; rw [h.look]
theorem pcN_wc {s : Fl} {c : List (Int × List UInt8)} {n : Nat} (h : Rel s c n) (base : Int) (i : Nat) : pcN (wc s c) base i = pcN s base i := by
 unfold pcN pgB; rw [h.look]
theorem ldL_wc {s : Fl} {c : List (Int × List UInt8)} {n : Nat} (h : Rel s c n) (base e : Int) (m : Nat) : ∀ (k i : Nat) (acc : List UInt8), ldL (wc s c) base e m k i acc = ldL s base e m k i acc
 | 0, i, acc => rfl
 | k + 1, i, acc => by simp only [ldL, pgC_wc h, pcN_wc h, pcR_wc h, ldL_wc h base e m k]
theorem ldR_wc {s : Fl} {c : List (Int × List UInt8)} {n : Nat} (h : Rel s c n) (base pages e : Int) : ldR (wc s c) base pages e = ldR s base pages e := by
 unfold ldR; simp only [pgC_wc h, pcN_wc h, pcR_wc h, ldL_wc h]
theorem svL_rel (base : Int) (e n : Nat) (b : List UInt8) : ∀ (k i : Nat) {s : Fl} {c : List (Int × List UInt8)} {m : Nat} {x : Int}, Rel s c m → (1 ≤ x ∧ x ≤ 1099511627777) →
   Rel (svL base e n b k i s x).1 (svLC base e n b k i s c x) (m + k + 1) ∧ (1 ≤ (svL base e n b k i s x).2.1 ∧ (svL base e n b k i s x).2.1 ≤ 1099511627777)
 | 0, i, s, c, m, x, h, hx => by simp only [svL, svLC]; exact ⟨h.flush, hx⟩
 | k + 1, i, s, c, m, x, h, hx => by
   have hbd := @tputN_bd s x (base + i) 5 (pgS e i n b) hx
   by_cases hc : tputC s x (base + i) 5 (pgS e i n b) = 0
   · have hN : tputN s x (base + i) 5 (pgS e i n b) = x + 1 := by unfold tputN; rw [if_pos hc]
     rw [hN] at hbd
     have ih := svL_rel base e n b k (i + 1) (h.put x (base + i) 5 (pgS e i n b)) hbd
     simp only [svL, svLC]
     rw [if_neg (by rw [hc]; simp), if_neg (by rw [hc]; simp)]
     exact ⟨ih.1.mono (by omega), ih.2⟩
   · simp only [svL, svLC]
     rw [if_pos hc, if_pos hc]
     exact ⟨(h.put x (base + i) 5 (pgS e i n b)).mono (by omega), hx⟩
theorem svR_rel {s : Fl} {c : List (Int × List UInt8)} {m : Nat} {x : Int} (h : Rel s c m) (hx : 1 ≤ x ∧ x ≤ 1099511627777) (base pages e : Int) {l : SN} (hw : SnW l) :
   Rel (svR s x base pages e l).1 (svRC s c x base pages e l) (m + 10) ∧ (1 ≤ (svR s x base pages e l).2.1 ∧ (svR s x base pages e l).2.1 ≤ 1099511627777) := by
 have hbl := hw.blen
 have hn : ((snPut l).length + 199) / 200 ≤ 9 := by omega
 unfold svR svRC
 split
 · exact ⟨h.mono (by omega), hx⟩
 · split
   · exact ⟨h.mono (by omega), hx⟩
   · have h2 := svL_rel base e.toNat (((snPut l).length + 199) / 200) (snPut l) (((snPut l).length + 199) / 200) 0 h hx
     exact ⟨h2.1.mono (by omega), h2.2⟩
end
section
attribute [local go_sem] rowsBytes_bytesRows Option.map_some Int.cast_ofNat_Int intRows_len
structure Op20 where
 base : Int
 pages : Int
 epoch : Int
 l : SN
 fuse : Int
 crash : Bool
 keep : List Int
def Op20.cells (o : Op20) : List AV := [.c (.int .i64 o.base), .c (.int .i64 o.pages), .c (.int .i64 o.epoch), .sl 3 (snRows o.l), .c (.int .i64 o.fuse), .c (.bool o.crash), .sl 1 (intRows o.keep)]
def ops20 (l : List Op20) : List (List AV) := l.map Op20.cells
theorem ops20_len (l : List Op20) : (ops20 l).length = l.length := by simp [ops20]
theorem ops20_get {l : List Op20} {i : Nat} {o : Op20} (h : l[i]? = some o) : (ops20 l)[i]? = some [.c (.int .i64 o.base), .c (.int .i64 o.pages), .c (.int .i64 o.epoch), .sl 3 (snRows o.l), .c (.int .i64 o.fuse), .c (.bool o.crash), .sl 1 (intRows o.keep)] := by simp [ops20, h, Op20.cells]
def lightP (o : Op20) : Prop := rightP o.l ∧ o.keep.length ≤ 60 ∧ -9 ≤ o.base ∧ o.base ≤ 20 ∧ o.epoch ≤ 1099511627776
instance (o : Op20) : Decidable (lightP o) := inferInstanceAs (Decidable (_ ∧ _))
def light20P (l : List Op20) : Prop := l.length ≤ 12 ∧ ∀ o ∈ l, lightP o
instance (l : List Op20) : Decidable (light20P l) := inferInstanceAs (Decidable (_ ∧ _))
theorem light20_ok (l : List Op20) (hl : l.length < 2 ^ 40) (hll : ∀ o ∈ l, o.l.length < 2 ^ 40 ∧ o.keep.length < 2 ^ 40) : ACalls Tryz.prog 17 [.sl 7 (ops20 l)] [] (Ret (.c (.bool (decide (light20P l))))) := by
 have hol := ops20_len l
 refine jen cl_17 Tryz.func17 (h := ?_)
 refine jf hol (h := ?_)
 refine jif (h1 := fun hc => ?_) (h2 := fun hc => ?_)
 · refine jr (h := ?_)
   refine jret Tryz.func17 (h := ⟨by rw [decide_eq_false (fun h => by have := h.1; omega)], rfl⟩)
 refine jr (h := ?_)
 refine jk [0, 3] (h := ?_)
 refine J_loopI (I := fun m e D => ∃ i : Nat, i ≤ l.length ∧ m = l.length - i ∧ D = [] ∧ (∀ o ∈ l.take i, lightP o) ∧ e = [(0, .sl 7 (ops20 l)), (3, .c (.int .i64 i))]) ?_ ?_
 · exact ⟨_, 0, by omega, rfl, rfl, by simp, rfl⟩
 · rintro m e D ⟨i, hi, rfl, rfl, hj, rfl⟩ ih
   refine jf hol (h := ?_)
   refine jif (h1 := fun hcl => ?_) (h2 := fun hcl => ?_)
   · have hlt : i < l.length := by omega
     have g0 := List.getElem?_eq_getElem hlt
     have hg := ops20_get g0
     have h0 : (0 : Int) ≤ (i : Int) := by omega
     have hm : l[i] ∈ l := List.getElem_mem hlt
     have hb := hll _ hm
     have htk : l.take (i + 1) = l.take i ++ [l[i]] := List.take_succ_eq_append_getElem hlt
     generalize l[i] = o at *
     have hkl : (intRows o.keep).length = o.keep.length := intRows_len _
     have hrt := right_ok o.l (by omega)
     refine jf (own := [4]) (cA hg hol) (h := ?_)
     refine jnv (hh := fun b4 hb4 => ?_)
     refine jr (h := ?_)
     refine jc (hs := hrt) (hk := ?_)
     have hsel : (decide (rightP o.l) = false ∧ True ∧ True ∧ True ∧ True) ∨ (decide (rightP o.l) = true ∧ decide (60 < (o.keep.length : Int)) = true ∧ True ∧ True ∧ True) ∨
         (decide (rightP o.l) = true ∧ decide (60 < (o.keep.length : Int)) = false ∧ decide (o.base < -9) = true ∧ True ∧ True) ∨
         (decide (rightP o.l) = true ∧ decide (60 < (o.keep.length : Int)) = false ∧ decide (o.base < -9) = false ∧ decide (20 < o.base) = true ∧ True) ∨
         (decide (rightP o.l) = true ∧ decide (60 < (o.keep.length : Int)) = false ∧ decide (o.base < -9) = false ∧ decide (20 < o.base) = false ∧ decide (1099511627776 < o.epoch) = true) ∨ lightP o := by
       unfold lightP
       simp only [decide_eq_true_eq, decide_eq_false_iff_not, and_true]
       by_cases hr : rightP o.l
       · simp only [hr, not_true_eq_false, true_and, false_or, false_and]; omega
       · exact .inl hr
     have hbad : ¬ lightP o → decide (light20P l) = false := fun h => decide_eq_false fun h2 => h (h2.2 _ hm)
     by_cases hp : lightP o
     · obtain ⟨p1, p2, p3, p4, p5⟩ := hp
       have hd1 : decide (rightP o.l) = true := decide_eq_true p1
       have hd2 : decide (60 < (o.keep.length : Int)) = false := decide_eq_false (by omega)
       have hd3 : decide (o.base < -9) = false := decide_eq_false (by omega)
       have hd4 : decide (20 < o.base) = false := decide_eq_false (by omega)
       have hd5 : decide (1099511627776 < o.epoch) = false := decide_eq_false (by omega)
       refine jf (cD hd1 hd2 hd3 hd4 (cA hd5 hkl)) (h := ?_)
       refine jn (h := ?_)
       refine jr (h := ?_)
       refine J_dropall ?_
       refine jk [0, 3] (h := ?_)
       refine ih (l.length - (i + 1)) _ _ (by omega) ⟨i + 1, by omega, rfl, rfl, ?_, rfl⟩
       intro p hq
       rw [htk, List.mem_append, List.mem_singleton] at hq
       rcases hq with hq | rfl
       · exact hj p hq
       · exact ⟨p1, p2, p3, p4, p5⟩
     · rw [hbad hp]
       rcases hsel with ⟨hd1, hd2, hd3, hd4, hd5⟩ | ⟨hd1, hd2, hd3, hd4, hd5⟩ | ⟨hd1, hd2, hd3, hd4, hd5⟩ | ⟨hd1, hd2, hd3, hd4, hd5⟩ | ⟨hd1, hd2, hd3, hd4, hd5⟩ | h
       rotate_right
       · exact absurd h hp
       all_goals
         refine jf (cD hd1 hd2 hd3 hd4 (cA hd5 hkl)) (h := ?_)
         refine jt (h := ?_)
         refine jr (h := ?_)
         refine J_forget ?_
         refine jret Tryz.func17 (h := ⟨rfl, rfl⟩)
   · have hi2 : i = l.length := by omega
     subst hi2
     rw [List.take_length] at hj
     refine jr (h := ?_)
     refine jret Tryz.func17 (h := ⟨by rw [decide_eq_true ⟨by omega, hj⟩], rfl⟩)
end
section
attribute [local go_sem] rowsBytes_bytesRows Option.map_some Int.cast_ofNat_Int getBox_GL setBox_GL fresh_GL tAV intRows_len
def st20 (s : Fl) (x : Int) (o : Op20) : Fl × Int :=
 if o.crash = false ∧ (svR (fuseS s o.fuse) x o.base o.pages o.epoch o.l).1.down = false then ((svR (fuseS s o.fuse) x o.base o.pages o.epoch o.l).1, (svR (fuseS s o.fuse) x o.base o.pages o.epoch o.l).2.1)
 else (crashS (svR (fuseS s o.fuse) x o.base o.pages o.epoch o.l).1 o.keep, nextF (crashS (svR (fuseS s o.fuse) x o.base o.pages o.epoch o.l).1 o.keep))
theorem permDo (a b c t g : HP) (D : List HP) : (a :: b :: c :: t :: g :: D).Perm ((t :: D) ++ [a, b, c, g]) := by
 refine (List.perm_append_comm (l₁ := [a, b, c]) (l₂ := t :: g :: D)).trans ?_
 simp only [List.cons_append]
 refine .cons _ ((List.perm_append_singleton g (D ++ [a, b, c])).symm.trans ?_)
 rw [List.append_assoc]
 exact List.Perm.refl _
theorem do20_ok {t f : Nat} {s : Fl} {c : List (Int × List UInt8)} {m : Nat} {x : Int} {D : List HP} (hO : OwnF f s D) (hrel : Rel s c m) (hm : m < 900000) (hx : 1 ≤ x ∧ x ≤ 1099511627777) {o : Op20} (ho : lightP o) (hh : ∀ p ∈ o.l, p.1 < 2 ^ 64) (hfu : o.fuse < 9223372036854775808) :
   ACalls Tryz.prog 20 [ptr f, ptr t, tAV (wc s c) x, .agg o.cells] (tbox t f x :: GL :: D)
     (fun r D' => ∃ t' c' D1, r = .ret (.tup [ptr t', tAV (wc (st20 s x o).1 c') (st20 s x o).2, .c (.bool true)]) ∧ Rel (st20 s x o).1 c' (m + 10) ∧ OwnF f (st20 s x o).1 D1 ∧ D' = tbox t' f (st20 s x o).2 :: GL :: D1) := by
 obtain ⟨p1, p2, p3, p4, p5⟩ := ho
 have hw := p1.w hh
 have hr1 := hrel.fuse hfu
 have hp2 := fuse04_ok (wc s c) o.fuse
 rw [show fuseS (wc s c) o.fuse = wc (fuseS s o.fuse) c from rfl] at hp2
 have hq := fuse_ok hO o.fuse
 have hpS := r20save_ok (x := x) hr1 (by omega) hx o.base o.pages o.epoch ⟨by omega, by omega⟩ p5 o.l hw
 have hrel2 := svR_rel hr1 hx o.base o.pages o.epoch hw
 have hqS := fun (D : List HP) (hO : OwnF f (fuseS s o.fuse) D) => ssave_ok (t := t) (x := x) hO hr1.b (by omega) hx o.base o.pages o.epoch ⟨by omega, by omega⟩ p5 o.l hw
 obtain ⟨base, pages, epoch, l, fu, crash, keep⟩ := o
 unfold st20
 simp only at *
 unfold Op20.cells
 unfold rAV at hp2
 generalize fuseS s fu = s1 at *
 generalize svR s1 x base pages epoch l = R at *
 generalize svRC s1 c x base pages epoch l = C at *
 obtain ⟨S, X, K⟩ := R
 simp only at *
 refine jen cl_20 Tryz.func20 (h := ?_)
 refine jr (own := [6, 7, 9]) (h := ?_)
 refine jnb (hh := fun b6 hb6 => ?_)
 refine J_freeze (s := 6) (o := 0) (by simp only [go_sem]) ?_
 simp only [List.drop_zero]
 refine jr (own := [7, 9]) (h := ?_)
 refine jnb (hh := fun b7 hb7 => ?_)
 refine J_freeze (s := 7) (o := 0) (by simp only [go_sem]) ?_
 simp only [List.drop_zero]
 refine jr (own := [9]) (h := ?_)
 refine jnv (hh := fun b9 hb9 => ?_)
 simp only [fresh, fresh_GL] at hb9
 refine jf hb9 (h := ?_)
 refine jcs (Δ1 := D) (Fr := [_, tbox t f x, GL]) (hs := hq) (hp := (List.perm_append_comm (l₁ := [_, _, _]))) (hk := ?_) (hpan := (by rintro y Δ' ⟨e, _⟩; cases e))
 rintro y D1 ⟨e, hO1⟩
 cases e
 refine J_perm (List.perm_append_comm (l₂ := [_, _, _])) ?_
 simp only [List.cons_append, List.nil_append]
 refine jf (own := [11]) hb9 (h := ?_)
 refine jnv (hh := fun b11 hb11 => ?_)
 simp only [fresh, fresh_GL] at hb11
 refine jf (cA hb11 hb9) (h := ?_)
 refine jc (hs := hp2) (hk := ?_)
 refine jf (own := [12]) (cA hb11 hb9) (h := ?_)
 refine jc (hs := hpS) (hk := ?_)
 refine jf (own := [12]) (cA hb11 hb9) (h := ?_)
 refine jnv (hh := fun b12 hb12 => ?_)
 simp only [fresh, fresh_GL] at hb12
 refine jf (cB hb12 hb11 hb9) (h := ?_)
 refine jcs (Δ1 := tbox t f x :: D1) (Fr := [_, _, _, GL]) (hs := (hqS D1 hO1)) (hp := (permDo _ _ _ _ _ _)) (hk := ?_) (hpan := (by rintro y Δ' ⟨e, D1, k, _⟩; cases k))
 rintro y _ ⟨er, D2, k, he, hO2, rfl⟩
 cases k
 refine J_perm (permDo _ _ _ _ _ _).symm ?_
 have hdK : decide (K ≠ K) = false := by simp
 refine jf (cB hb12 hb11 hb9) (h := ?_)
 refine jcg (hin := by simp [GL]) (hs := of_ok he) (hk := ?_)
 refine jf (cC hb12 hb11 hb9 hdK) (h := ?_)
 refine jn (h := ?_)
 by_cases hcd : crash = false ∧ S.down = false
 · rw [if_pos hcd]
   obtain ⟨rfl, hdn⟩ := hcd
   obtain ⟨pg, sf, lo, fz, dn, dc⟩ := S
   simp only at hdn
   subst hdn
   refine jf (cB hb12 hb11 hb9) (h := ?_)
   refine jt (h := ?_)
   refine jf (cB hb12 hb11 hb9) (h := ?_)
   refine jd [(0, .pure), (1, .read), (2, .pure), (3, .act), (4, .pure)] mixed (by kernel_rfl) ?_
   refine cf (cB hb12 hb11 hb9) (hk := ?_)
   refine Can_nil ?_
   refine J_forgetP ?_
   refine jretf (cB hb12 hb11 hb9) Tryz.func20 (h := ⟨[_, _, _], _, List.Perm.refl _, t, C, D2, rfl, hrel2.1, hO2, rfl⟩)
 · rw [if_neg hcd]
   have hr2 := hrel2.1
   have hRR := B_R hr2.rb (by omega)
   have hp3 := crash04_ok (wc S C) hRR keep (by omega)
   rw [show crash04S (wc S C) keep = wc (crashS S keep) (settleKeepC C S.loose keep) from rfl] at hp3
   have hq3 := crash_ok hO2 (hr2.b.wf (by omega)) keep (by omega)
   have hr3 := hr2.crash keep
   have hd2 : (crashS S keep).down = false := rfl
   have hto := fun (D : List HP) (hO : OwnF f (crashS S keep) D) => topen_ok hO (hr3.b.wf (by omega)) (hr3.b.small (by omega)) hd2 (by have := cellsF_len hr3.b; omega)
   have hpg : 0 ≤ (crashS S keep).pages ∧ (crashS S keep).pages ≤ 4096 := by have := (hr3.b.wf (by omega)).p1; have := (hr3.b.wf (by omega)).p2; omega
   generalize crashS S keep = S2 at *
   generalize settleKeepC C S.loose keep = C2 at *
   have ho10 := open10_ok (wc S2 C2) hd2 hpg (B_R hr3.rb (by omega))
   rw [hr3.cells] at ho10
   have hnx : (cellsF S2).foldl stepN 1 = nextF S2 := rfl
   rw [hnx] at ho10
   unfold rAV at hp3 ho10
   by_cases hcr : crash = true
   rotate_left
   obtain rfl : crash = false := by cases crash; rfl; exact absurd rfl hcr
   have hdn : S.down = true := by cases h : S.down; exact absurd ⟨rfl, h⟩ hcd; rfl
   obtain ⟨pg, sf, lo, fz, dn, dc⟩ := S
   simp only at hdn
   subst hdn
   refine jf (cB hb12 hb11 hb9) (h := ?_)
   rotate_left
   subst hcr
   refine jf (cB hb12 hb11 hb9) (h := ?_)
   all_goals
     refine jn (h := ?_)
     refine jf (cB hb12 hb11 hb9) (h := ?_)
     refine jcs (Δ1 := D2) (Fr := [_, _, _, tbox t f X, GL]) (hs := hq3) (hp := (List.perm_append_comm (l₁ := [_, _, _, _, _]))) (hk := ?_) (hpan := (by rintro y Δ' ⟨e, _⟩; cases e))
     rintro y D3 ⟨e, hO3⟩
     cases e
     refine J_perm (List.perm_append_comm (l₂ := [_, _, _, _, _])) ?_
     simp only [List.cons_append, List.nil_append]
     refine jf (cB hb12 hb11 hb9) (h := ?_)
     refine jc (hs := hp3) (hk := ?_)
     refine jf (cB hb12 hb11 hb9) (h := ?_)
     refine jc (hs := ho10) (hk := ?_)
     refine jf (own := [14]) (cB hb12 hb11 hb9) (h := ?_)
     refine jnv (hh := fun b14 hb14 => ?_)
     simp only [fresh, fresh_GL] at hb14
     refine jf (cC hb14 hb12 hb11 hb9) (h := ?_)
     refine jcs (Fr := [_, _, _, _, tbox t f X, GL]) (hs := (hto D3 hO3)) (hp := (List.perm_append_comm (l₁ := [_, _, _, _, _, _]))) (hk := ?_) (hpan := (by rintro y Δ' ⟨_, e, _⟩; cases e))
     rintro y _ ⟨t2, e, rfl⟩
     cases e
     refine J_perm (List.perm_append_comm (l₂ := [_, _, _, _, _, _])) ?_
     simp only [List.cons_append, List.nil_append]
     refine jf (cC hb14 hb12 hb11 hb9) (h := ?_)
     refine jd [(0, .pure), (1, .read), (2, .pure), (3, .pure), (4, .pure), (5, .pure), (6, .pure), (7, .pure), (8, .pure), (9, .act), (10, .pure)] mixed (by kernel_rfl) ?_
     refine cf (cC hb14 hb12 hb11 hb9) (hk := ?_)
     refine Can_nil ?_
     refine J_forgetP ?_
     refine jretf (cC hb14 hb12 hb11 hb9) Tryz.func20 (h := ⟨[_, _, _, _, _], _, (List.Perm.swap _ _ _).append_left [_, _, _, _, _], t2, C2, D3, rfl, hr3, hO3, rfl⟩)
end
section
attribute [local go_sem] rowsBytes_bytesRows Option.map_some Int.cast_ofNat_Int getBox_GL setBox_GL fresh_GL tAV intRows_len
theorem ldR_len (s : Fl) (base pages e : Int) : (ldR s base pages e).2.length ≤ 1099511627776 := by
 unfold ldR
 split
 · simp
 · split
   · simp
   · split
     · simp
     · exact snV_len _
theorem st20_x {s : Fl} {c : List (Int × List UInt8)} {m : Nat} {x : Int} (hrel : Rel s c m) (hx : 1 ≤ x ∧ x ≤ 1099511627777) {o : Op20} (ho : lightP o) (hh : ∀ p ∈ o.l, p.1 < 2 ^ 64) (hfu : o.fuse < 9223372036854775808) : 1 ≤ (st20 s x o).2 ∧ (st20 s x o).2 ≤ 1099511627777 := by
 unfold st20
 split
 · exact (svR_rel (hrel.fuse hfu) hx o.base o.pages o.epoch (ho.1.w hh)).2
 · exact nextF_bd _
theorem r10new20 : ACalls Tryz.prog 19 [.agg [.c (.int .i64 9), .sl 2 [], .sl 3 [], .c (.int .i64 (-1)), .c (.bool false), .c (.int .i64 0)]] [] (Ret (.tup [tAV (newFl 9) 1, .c (.int .i64 0)])) := by
 have hrel : Rel (newFl 9) [] 0 := rel_new (by decide) (by decide)
 have hcn : cellsAt (newFl 9) (upto (newFl 9).pages.toNat) = [] := by have := hrel.cells; rw [cellsF_new] at this; exact this
 have ho10 : ACalls Tryz.prog 19 [rAV (newFl 9)] [] (Ret (.tup [tAV (newFl 9) 1, .c (.int .i64 0)])) := by
   have := open10_ok (newFl 9) rfl (by decide) (B_R hrel.b (by decide))
   rw [hcn] at this
   exact this
 exact ho10
abbrev tC20 (s : Fl) (c : List (Int × List UInt8)) (n : Int) : List AV := [.c (.int .i64 s.pages), .sl 2 (cellRows c), .sl 3 (chRows s.loose), .c (.int .i64 s.fuse), .c (.bool s.down), .c (.int .i64 s.done), .c (.int .i64 n)]
theorem permB20 (b t g : HP) (D : List HP) : (b :: t :: g :: D).Perm ((t :: D) ++ [b, g]) := by
 refine (List.Perm.swap _ _ _).trans ?_
 simp only [List.cons_append]
 exact .cons _ (List.perm_append_comm (l₁ := [b, g]))
def OpB20 (o : Op20) : Prop := o.l.length < 2 ^ 40 ∧ o.keep.length < 2 ^ 40 ∧ o.fuse < 9223372036854775808 ∧ ∀ p ∈ o.l, p.1 < 2 ^ 64
theorem snapshotDoes_ok (l : List Op20) (base pages e : Int) (hl : l.length < 2 ^ 40) (hll : ∀ o ∈ l, OpB20 o) :
   ACalls Tryz.prog 4 [.sl 7 (ops20 l), .c (.int .i64 base), .c (.int .i64 pages), .c (.int .i64 e)] [GL] (Ret (.c (.bool true))) := by
 have hlt := light20_ok l hl fun o ho => ⟨(hll o ho).1, (hll o ho).2.1⟩
 have hsel : (decide (light20P l) = false ∧ True ∧ True) ∨ (decide (light20P l) = true ∧ decide (base < -9) = true ∧ True) ∨ (decide (light20P l) = true ∧ decide (base < -9) = false ∧ decide (20 < base) = true) ∨ (light20P l ∧ -9 ≤ base ∧ base ≤ 20) := by
   simp only [decide_eq_true_eq, decide_eq_false_iff_not, and_true]
   by_cases h : light20P l
   · simp only [h, not_true_eq_false, true_and, false_or]; omega
   · exact .inl h
 refine jen cl_4 Tryz.func4 (h := ?_)
 refine jr (h := ?_)
 refine jc (hs := hlt) (hk := ?_)
 by_cases hgood : light20P l ∧ -9 ≤ base ∧ base ≤ 20
 rotate_left
 · rcases hsel with ⟨hd1, hd2, hd3⟩ | ⟨hd1, hd2, hd3⟩ | ⟨hd1, hd2, hd3⟩ | h
   rotate_right
   · exact absurd h hgood
   all_goals
     refine jf (cB hd1 hd2 hd3) (h := ?_)
     refine jt (h := ?_)
     refine jr (h := ?_)
     refine jcg (hin := by simp [GL]) (hs := works20_ok) (hk := ?_)
     refine jr (h := ?_)
     refine J_forget ?_
     refine jret Tryz.func4 (h := ⟨rfl, rfl⟩)
 clear hsel
 obtain ⟨hlp, hb1, hb2⟩ := hgood
 have hd1 : decide (light20P l) = true := decide_eq_true hlp
 have hd2 : decide (base < -9) = false := decide_eq_false (by omega)
 have hd3 : decide (20 < base) = false := decide_eq_false (by omega)
 have h12 := hlp.1
 refine jf (cB hd1 hd2 hd3) (h := ?_)
 refine jn (h := ?_)
 refine jr (h := ?_)
 refine jcs (Δ1 := [GL]) (Fr := []) (hs := open20_ok) (hp := (List.Perm.refl _)) (hk := ?_) (hpan := (by rintro x Δ' ⟨f, t, D, k, _⟩; cases k))
 rintro x _ ⟨f, t, D, k, hO, rfl⟩
 cases k
 rw [List.append_nil]
 refine jr (h := ?_)
 refine jn (h := ?_)
 refine jr (h := ?_)
 refine J_wk (t := 42) (by simp only [go_sem] <;> rfl) (agg_le 1 rfl (nil_le_sl (s := 2))) ?_
 refine J_wk (t := 42) (by simp only [go_sem] <;> rfl) (agg_le 2 rfl (nil_le_sl (s := 3))) ?_
 refine jc (hs := r10new20) (hk := ?_)
 refine jr (own := [11]) (h := ?_)
 refine jnv (hh := fun b11 hb11 => ?_)
 simp only [fresh, fresh_GL] at hb11
 refine jf hb11 (h := ?_)
 refine jk [0, 1, 2, 3, 9, 10, 11, 13, 14] (h := ?_)
 refine J_loopI (I := fun m en Δ => ∃ (i : Nat) (s : Fl) (c : List (Int × List UInt8)) (x : Int) (t : Nat) (D1 : List HP), i ≤ l.length ∧ m = l.length - i ∧ Rel s c (10 * i) ∧ (1 ≤ x ∧ x ≤ 1099511627777) ∧ OwnF f s D1 ∧ Δ = .box b11 51 (tC20 s c x) :: tbox t f x :: GL :: D1 ∧ en = [(0, .sl 7 (ops20 l)), (1, .c (.int .i64 base)), (2, .c (.int .i64 pages)), (3, .c (.int .i64 e)), (9, ptr f), (10, ptr t), (11, ptr b11), (13, .c (.bool true)), (14, .c (.int .i64 i))]) ?_ ?_
 · exact ⟨_, 0, newFl 9, [], 1, t, D, Nat.zero_le _, rfl, rel_new (by decide) (by decide), by decide, hO, rfl, rfl⟩
 · clear hO hb11
   rintro m en Δ ⟨i, s, c, x, t, D1, hi, rfl, hrel, hx, hO, rfl, rfl⟩ ih
   by_cases hc : i < l.length
   rotate_left
   · have hdc : decide ((i : Int) < (l.length : Int)) = false := decide_eq_false (by omega)
     refine J_mrun (own := []) (m := 2000) (by simp (maxSteps := 2000000) (disch := omega) only [go_sem, ↓reduceIte, Int.reduceLT, Int.reduceLE, Int.reduceToNat, Int.reducePow, Int.reduceNeg, Nat.reduceBEq, Tryz.ntmps4, ops20_len, hdc] <;> with_reducible rfl) ?_
     refine jn (h := ?_)
     refine jr (h := ?_)
     refine jcg (hin := by simp [GL]) (hs := works20_ok) (hk := ?_)
     refine jr (h := ?_)
     refine J_forget ?_
     refine jret Tryz.func4 (h := ⟨rfl, rfl⟩)
   have hdc : decide ((i : Int) < (l.length : Int)) = true := decide_eq_true (by omega)
   have g1 := ops20_get (List.getElem?_eq_getElem hc)
   have h0 : (0 : Int) ≤ (i : Int) := by omega
   have hob := hll l[i] (List.getElem_mem _)
   have hol := hlp.2 l[i] (List.getElem_mem _)
   generalize l[i] = o at *
   have hdo := do20_ok (t := t) hO hrel (by omega) hx hol hob.2.2.2 hob.2.2.1
   have hx2 := st20_x hrel hx hol hob.2.2.2 hob.2.2.1
   unfold Op20.cells at hdo
   generalize st20 s x o = az at *
   obtain ⟨s2, x2⟩ := az
   simp only at *
   refine J_mrun (own := []) (m := 2000) (by simp (maxSteps := 2000000) (disch := omega) only [go_sem, ↓reduceIte, Int.reduceLT, Int.reduceLE, Int.reduceToNat, Int.reducePow, Int.reduceNeg, Nat.reduceBEq, Tryz.ntmps4, ops20_len, hdc] <;> with_reducible rfl) ?_
   refine jt (h := ?_)
   refine jr (h := ?_)
   refine jd [(0, .pure), (1, .pure), (2, .read), (3, .pure), (4, .pure), (5, .pure), (6, .pure), (7, .act), (8, .pure), (9, .pure), (10, .pure), (11, .pure), (12, .pure), (13, .act), (14, .pure)] mixed (by kernel_rfl) ?_
   refine Can_run (own := []) (by simp (maxSteps := 2000000) (disch := omega) only [go_sem, ↓reduceIte, Int.reduceLT, Int.reduceLE, Int.reduceToNat, Int.reducePow, Int.reduceNeg, Nat.reduceBEq, Tryz.ntmps4, g1, ops20_len] <;> with_reducible rfl) ?_
   refine ccs (Fr := []) (hs := (hdo.underL [_])) (hp := (by rw [List.append_nil]; rfl)) (hk := ?_) (hn := (by rintro x Δ' ⟨_, ⟨_, _, _, k, _⟩, _⟩; cases k))
   rintro x _ ⟨_, ⟨t2, c2, D2, k, hrel2, hO2, rfl⟩, rfl⟩
   cases k
   rw [List.append_nil]
   simp only [List.cons_append, List.nil_append]
   refine cr (hk := ?_)
   refine Can_nil ?_
   refine jr (h := ?_)
   refine jn (h := ?_)
   refine jr (h := ?_)
   have hld := sload_ok (t := t2) (x := x2) hO2 (hrel2.b.wf (by omega)) base pages e (by omega)
   have hrl := r20load_ok (wc s2 c2) x2 base pages e (by omega) hrel2.rb.safe.page hrel2.rb.lpage (by have := hrel2.rb.len; omega) (by have := hrel2.rb.len; omega)
   rw [ldR_wc hrel2] at hrl
   have hle := ldR_len s2 base pages e
   generalize ldR s2 base pages e = L at *
   obtain ⟨Lc, Ll⟩ := L
   simp only at *
   refine jcs (Δ1 := tbox t2 f x2 :: D2) (Fr := [_, GL]) (hs := hld) (hp := (permB20 _ _ _ _)) (hk := ?_) (hpan := (by rintro x Δ' ⟨_, k, _⟩; cases k))
   rintro x _ ⟨er, k, he, rfl⟩
   cases k
   refine J_perm (permB20 _ _ _ _).symm ?_
   refine jr (h := ?_)
   refine jc (hs := hrl) (hk := ?_)
   refine jr (h := ?_)
   refine jc (hs := same20_self Ll (by omega)) (hk := ?_)
   refine jr (h := ?_)
   refine jcg (hin := by simp [GL]) (hs := of_ok he) (hk := ?_)
   have hdn : decide (Lc ≠ Lc) = false := by simp
   refine jf hdn (h := ?_)
   refine jn (h := ?_)
   refine jr (h := ?_)
   refine jk [0, 1, 2, 3, 9, 10, 11, 13, 14] (h := ?_)
   refine ih _ _ _ ?_ ⟨i + 1, s2, c2, x2, t2, D2, by omega, rfl, hrel2.mono (by omega), hx2, hO2, rfl, ?_⟩
   · omega
   · simp only [Int.natCast_add, Int.cast_ofNat_Int]
end
end Go.Proofs.YtdnhcpbammfmlaaGreatDoor
namespace Go.Proofs.YtdnhcpbammfmlaaGreatDoor
open Go Go.Av Go.ChangeShapes Go.WideShapes Go.ChangeAt Go.RowKit
section
theorem shp_boolS {M k : Nat} {xs : List AV} (h : Shp Tryz.prog M (k + 1) 4 xs) : ∃ b : Bool, xs = [.c (.bool b)] := by
 unfold Shp at h
 simpa only [Tryz.underlying4] using h
theorem cellsOp20 : Tryz.prog.cellsOf 58 = 7 := by kernel_rfl
theorem shp_op20 {M k : Nat} {xs : List AV} (h : Shp Tryz.prog M (k + 4) 58 xs) : ∃ o : Op20, xs = o.cells ∧ o.l.length ≤ M ∧ o.keep.length ≤ M ∧ o.fuse < 9223372036854775808 ∧ ∀ p ∈ o.l, p.1 < 2 ^ 64 := by
 unfold Shp at h
 simp only [Tryz.underlying58, FieldsAre] at h
 obtain ⟨p1, q1, rfl, h1, p2, q2, rfl, h2, p3, q3, rfl, h3, p4, q4, rfl, h4, p5, q5, rfl, h5, p6, q6, rfl, h6, p7, q7, rfl, h7, rfl⟩ := h
 obtain ⟨n1, rfl, -⟩ := shp_int (k := k + 2) h1
 obtain ⟨n2, rfl, -⟩ := shp_int (k := k + 2) h2
 obtain ⟨n3, rfl, -⟩ := shp_int (k := k + 2) h3
 obtain ⟨l, rfl, hl, hh⟩ := shp_sn (k := k) h4
 obtain ⟨n5, rfl, hn5, -⟩ := shp_int (k := k + 2) h5
 obtain ⟨b, rfl⟩ := shp_boolS (k := k + 2) h6
 obtain ⟨ks, rfl, hk, -⟩ := shp_ints (k := k + 1) h7
 exact ⟨⟨n1, n2, n3, l, n5, b, ks⟩, rfl, hl, hk, hn5, hh⟩
theorem shp_ops20 {M k : Nat} {xs : List AV} (h : Shp Tryz.prog M (k + 5) 40 xs) : ∃ l : List Op20, xs = [.sl 7 (ops20 l)] ∧ l.length ≤ M ∧ ∀ o ∈ l, o.l.length ≤ M ∧ o.keep.length ≤ M ∧ o.fuse < 9223372036854775808 ∧ ∀ p ∈ o.l, p.1 < 2 ^ 64 := by
 unfold Shp at h
 simp only [Tryz.underlying40, cellsOp20] at h
 obtain ⟨rows, rfl, hl, hr⟩ := h
 have : ∃ l : List Op20, rows = ops20 l ∧ ∀ o ∈ l, o.l.length ≤ M ∧ o.keep.length ≤ M ∧ o.fuse < 9223372036854775808 ∧ ∀ p ∈ o.l, p.1 < 2 ^ 64 := by
   clear hl
   induction rows with
   | nil => exact ⟨[], rfl, by simp⟩
   | cons r rows ih =>
     obtain ⟨l, rfl, h2⟩ := ih fun r hr' => hr r (List.mem_cons_of_mem _ hr')
     obtain ⟨o, rfl, h3⟩ := shp_op20 (k := k) (hr r (List.mem_cons_self ..))
     exact ⟨o :: l, rfl, fun o' ho' => by rcases List.mem_cons.1 ho' with rfl | h; (· exact h3); (· exact h2 o' h)⟩
 obtain ⟨l, rfl, h2⟩ := this
 exact ⟨l, rfl, by rwa [ops20_len] at hl, h2⟩
end
end Go.Proofs.YtdnhcpbammfmlaaGreatDoor
