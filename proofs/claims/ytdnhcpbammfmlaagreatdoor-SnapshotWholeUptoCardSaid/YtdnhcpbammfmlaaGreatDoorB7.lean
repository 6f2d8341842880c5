/- A part of the proof: what the calls do, told by values. -/
import Derived.Test.YtdnhcpbammfmlaaGreatDoorB4
import Derived.Test.YtdnhcpbammfmlaaGreatDoorA9
import Derived.Test.YtdnhcpbammfmlaaGreatDoorCards
import Derived.Test.YtdnhcpbammfmlaaGreatDoorTie
import Derived.LaidLaws
import Derived.LaidHandle
import Derived.Stop.Joined
import Derived.Test.YtdnhcpbammfmlaaGreatDoorB6
set_option linter.unusedVariables false
set_option linter.unusedSimpArgs false
set_option maxRecDepth 100000
set_option maxHeartbeats 4000000
namespace Go.Proofs.YtdnhcpbammfmlaaGreatDoor
open Go Go.Av Go.ChangeShapes Go.WideShapes Go.ChangeAt Go.RowKit
section
theorem cells3 : Tryz.prog.cellsOf 3 = 1 := by kernel_rfl
theorem shp_int {M k : Nat} {xs : List AV} (h : Shp Tryz.prog M (k + 1) 3 xs) : ∃ n : Int, xs = [.c (.int .i64 n)] ∧ n < 9223372036854775808 ∧ -9223372036854775808 ≤ n := by
 unfold Shp at h
 simp only [Tryz.underlying3] at h
 obtain ⟨n, rfl, hw⟩ := h
 simp only [Lit.wf, Bool.and_eq_true, decide_eq_true_eq] at hw
 have e1 : IntKind.i64.min = -9223372036854775808 := by rfl
 have e2 : IntKind.i64.max = 9223372036854775807 := by rfl
 exact ⟨n, rfl, by omega, by omega⟩
theorem shp_ints {M k : Nat} {xs : List AV} (h : Shp Tryz.prog M (k + 2) 56 xs) : ∃ l : List Int, xs = [.sl 1 (intRows l)] ∧ l.length ≤ M ∧ ∀ n ∈ l, n < 9223372036854775808 := by
 unfold Shp at h
 simp only [Tryz.underlying56, cells3] at h
 obtain ⟨rows, rfl, hl, hr⟩ := h
 have : ∃ l : List Int, rows = intRows l ∧ ∀ n ∈ l, n < 9223372036854775808 := by
   clear hl
   induction rows with
   | nil => exact ⟨[], rfl, by simp⟩
   | cons r rows ih =>
     obtain ⟨l, rfl, h2⟩ := ih fun r hr' => hr r (List.mem_cons_of_mem _ hr')
     obtain ⟨n, rfl, h3, -⟩ := shp_int (k := k) (hr r (List.mem_cons_self ..))
     exact ⟨n :: l, rfl, fun m hm => by rcases List.mem_cons.1 hm with rfl | h; (· exact h3); (· exact h2 m h)⟩
 obtain ⟨l, rfl, h2⟩ := this
 exact ⟨l, rfl, by rwa [intRows_len] at hl, h2⟩
mutual
theorem upto_bulk {H : Type} : ∀ d : DataW H, Rows.uptoBulk d = bulk d
 | .lit (.string _) => by simp only [Rows.uptoBulk, bulk]
 | .lit (.bool _) => by simp only [Rows.uptoBulk, bulk]
 | .lit (.int _ _) => by simp only [Rows.uptoBulk, bulk]
 | .lit (.float _ _) => by simp only [Rows.uptoBulk, bulk]
 | .lit .nil => by simp only [Rows.uptoBulk, bulk]
 | .nil => by simp only [Rows.uptoBulk, bulk]
 | .ptr d => by simp only [Rows.uptoBulk, bulk, upto_bulk d]
 | .slice a b => by simp only [Rows.uptoBulk, bulk, upto_bulkAll a, upto_bulkAll b]
 | .agg a => by simp only [Rows.uptoBulk, bulk, upto_bulkAll a]
 | .iface _ d => by simp only [Rows.uptoBulk, bulk, upto_bulk d]
 | .map es => by simp only [Rows.uptoBulk, bulk, upto_bulkEntries es]
 | .held _ => by simp only [Rows.uptoBulk, bulk]
theorem upto_bulkAll {H : Type} : ∀ l : List (DataW H), Rows.uptoBulkAll l = bulkAll l
 | [] => by simp only [Rows.uptoBulkAll, bulkAll]
 | d :: r => by simp only [Rows.uptoBulkAll, bulkAll, upto_bulk d, upto_bulkAll r]
theorem upto_bulkEntries {H : Type} : ∀ l : List (Lit × DataW H), Rows.uptoBulkEntries l = bulkEntries l
 | [] => by simp only [Rows.uptoBulkEntries, bulkEntries]
 | x :: r => by simp only [Rows.uptoBulkEntries, bulkEntries, upto_bulkEntry x, upto_bulkEntries r]
theorem upto_bulkEntry {H : Type} : ∀ x : Lit × DataW H, Rows.uptoBulkEntry x = bulkEntry x
 | (.string _, d) => by simp only [Rows.uptoBulkEntry, bulkEntry, upto_bulk d]
 | (.bool _, d) => by simp only [Rows.uptoBulkEntry, bulkEntry, upto_bulk d]
 | (.int _ _, d) => by simp only [Rows.uptoBulkEntry, bulkEntry, upto_bulk d]
 | (.float _ _, d) => by simp only [Rows.uptoBulkEntry, bulkEntry, upto_bulk d]
 | (.nil, d) => by simp only [Rows.uptoBulkEntry, bulkEntry, upto_bulk d]
end
theorem upto_small {H : Type} {ds : List (DataW H)} (h : Rows.uptoSmall H ds = true) : bulkAll ds ≤ 1048576 := by
 rw [← upto_bulkAll]
 exact of_decide_eq_true h
theorem own : ownKnob Tryz.prog.godebug = none := by kernel_rfl
theorem gET : Tryz.prog.globalNamed "errors.errorType" = some 0 := by kernel_rfl
theorem gRT : (Tryz.prog.cutTypes.find? (·.1 == "internal/reflectlite.rtype")).map (·.2) = some 167 := by kernel_rfl
theorem gSize : Tryz.prog.types.size = 260 := by kernel_rfl
theorem gRow : ((List.range 260).filter fun t => Tryz.prog.rowNamed t [101, 114, 114, 111, 114]) = [27] := by kernel_rfl
theorem handle_of_laid {W : World} (h : laidMetH Tryz.prog Rows.snapshotDoesRow.laid W) : W.cell? ⟨0, 0, none⟩ = some (.iface 167 (.agg #[.pointer (some ⟨1, 27, none⟩)])) := by
 have h' : laidMet Tryz.prog [] W ∧ handlesMet Tryz.prog Rows.snapshotDoesRow.laid W := h
 obtain ⟨name, u, ty, e1, e2, e3, e4, e5⟩ := h'.2 _ (List.mem_singleton.2 rfl)
 have en : name = [101, 114, 114, 111, 114] := (Option.some.inj e1).symm
 subst en
 obtain rfl := Option.some.inj (gRT.symm.trans e2)
 have hm : ty ∈ (List.range 260).filter fun t => Tryz.prog.rowNamed t [101, 114, 114, 111, 114] := List.mem_filter.2 ⟨List.mem_range.2 (by rw [← gSize]; exact e3), e4⟩
 rw [gRow] at hm
 obtain rfl := List.mem_singleton.1 hm
 have hh : typeHandle Tryz.prog 27 = .pointer (some ⟨1, 27, none⟩) := by kernel_rfl
 rw [hh] at e5
 simpa using World.var?_cell gET e5 0
theorem laidOut : laidOutB Tryz.prog = true := by kernel_rfl
noncomputable def laidWorld (os : Os) : World :=
 let w0 := World.holding Tryz.prog os ⟨#[], #[], []⟩
 { w0 with heap := w0.heap.modify 0 fun
     | .cells _ t frozen => .cells #[.iface 167 (.agg #[.pointer (some ⟨1, 27, none⟩)])] t frozen
     | o => o }
theorem laidWorld_met (os : Os) (args : Array Value) : laidMetH Tryz.prog Rows.snapshotDoesRow.laid ((laidWorld os).forCall (fun _ _ => 0) ⟨#[], args, []⟩).memory :=
 laidMetH_of_parts (laidMet_nil _ _) (by kernel_rfl)
end
section
theorem cellsSn : Tryz.prog.cellsOf 70 = 3 := by kernel_rfl
theorem shp_u64 {M k : Nat} {xs : List AV} (h : Shp Tryz.prog M (k + 1) 68 xs) : ∃ n : Nat, xs = [.c (.int .u64 (n : Int))] ∧ n < 2 ^ 64 := by
 unfold Shp at h
 simp only [Tryz.underlying68] at h
 obtain ⟨n, rfl, hw⟩ := h
 simp only [Lit.wf, Bool.and_eq_true, decide_eq_true_eq] at hw
 have e1 : IntKind.u64.min = 0 := by rfl
 have e2 : IntKind.u64.max = 18446744073709551615 := by rfl
 exact ⟨n.toNat, by rw [Int.toNat_of_nonneg (by omega)], by omega⟩
theorem shp_seen {M k : Nat} {xs : List AV} (h : Shp Tryz.prog M (k + 2) 70 xs) : ∃ q : Nat × Int × Int, xs = snRow q ∧ q.1 < 2 ^ 64 := by
 unfold Shp at h
 simp only [Tryz.underlying70, FieldsAre] at h
 obtain ⟨p1, q1, rfl, h1, p2, q2, rfl, h2, p3, q3, rfl, h3, rfl⟩ := h
 obtain ⟨n1, rfl, hn1⟩ := shp_u64 (k := k) h1
 obtain ⟨n2, rfl, -⟩ := shp_int (k := k) h2
 obtain ⟨n3, rfl, -⟩ := shp_int (k := k) h3
 exact ⟨(n1, n2, n3), rfl, hn1⟩
theorem shp_sn {M k : Nat} {xs : List AV} (h : Shp Tryz.prog M (k + 3) 22 xs) : ∃ l : SN, xs = [.sl 3 (snRows l)] ∧ l.length ≤ M ∧ ∀ p ∈ l, p.1 < 2 ^ 64 := by
 unfold Shp at h
 simp only [Tryz.underlying22, cellsSn] at h
 obtain ⟨rows, rfl, hl, hr⟩ := h
 have : ∃ l : SN, rows = snRows l ∧ ∀ p ∈ l, p.1 < 2 ^ 64 := by
   clear hl
   induction rows with
   | nil => exact ⟨[], rfl, by simp⟩
   | cons r rows ih =>
     obtain ⟨l, rfl, h2⟩ := ih fun r hr' => hr r (List.mem_cons_of_mem _ hr')
     obtain ⟨o, rfl, h3⟩ := shp_seen (k := k) (hr r (List.mem_cons_self ..))
     exact ⟨o :: l, rfl, fun o' ho' => by rcases List.mem_cons.1 ho' with rfl | h; (· exact h3); (· exact h2 o' h)⟩
 obtain ⟨l, rfl, h2⟩ := this
 exact ⟨l, rfl, by rwa [snRows_len] at hl, h2⟩
end
end Go.Proofs.YtdnhcpbammfmlaaGreatDoor
namespace Go.Proofs.YtdnhcpbammfmlaaGreatDoor
open Go Go.Av
attribute [local go_sem] packed List.set_cons_zero List.set_cons_succ List.cons_append List.nil_append bytesRows_length cellRows_len chRows_len rCells intRows_len
attribute [-go_sem] cellsOf AV.isCell
attribute [local go_sem] cellsOf_agg cellsOf_int cellsOf_bool cellsOf_str cellsOf_map cellsOf_ptr cellsOf_nilI cellsOf_slice cellsOf_sl cellsOf_ifc cellsOf_fp cellsOf_opt optAV_cell icell_int icell_bool icell_str icell_map icell_ptr icell_nilI icell_slice icell_sl icell_ifc icell_fp
section
theorem svL_rel (base : Int) (e n : Nat) (b : List UInt8) : ∀ (k i : Nat) {s : Fl} {c : List (Int × List UInt8)} {m : Nat} {x : Int}, Rel s c m → (1 ≤ x ∧ x ≤ 1099511627777) →
   Rel (svL base e n b k i s x).1 (svLC base e n b k i s c x) (m + k + 1) ∧ (1 ≤ (svL base e n b k i s x).2.1 ∧ (svL base e n b k i s x).2.1 ≤ 1099511627777)
 | 0, i, s, c, m, x, h, hx => by simp only [svL, svLC]; exact ⟨h.flush, hx⟩
 | k + 1, i, s, c, m, x, h, hx => by
   have hbd := @tputN_bd s x (base + i) 5 (pgS e i n b) hx
   by_cases hc : tputC s x (base + i) 5 (pgS e i n b) = 0
   · have hN : tputN s x (base + i) 5 (pgS e i n b) = x + 1 := by unfold tputN; rw [if_pos hc]
     rw [hN] at hbd
     have ih := svL_rel base e n b k (i + 1) (h.put x (base + i) 5 (pgS e i n b)) hbd
     simp only [svL, svLC]
     rw [if_neg (by rw [hc]; simp), if_neg (by rw [hc]; simp)]
     exact ⟨ih.1.mono (by omega), ih.2⟩
   · simp only [svL, svLC]
     rw [if_pos hc, if_pos hc]
     exact ⟨(h.put x (base + i) 5 (pgS e i n b)).mono (by omega), hx⟩
theorem svR_rel {s : Fl} {c : List (Int × List UInt8)} {m : Nat} {x : Int} (h : Rel s c m) (hx : 1 ≤ x ∧ x ≤ 1099511627777) (base pages e : Int) {l : SN} (hw : SnW l) :
   Rel (svR s x base pages e l).1 (svRC s c x base pages e l) (m + 10) ∧ (1 ≤ (svR s x base pages e l).2.1 ∧ (svR s x base pages e l).2.1 ≤ 1099511627777) := by
 have hbl := hw.blen
 have hn : ((snPut l).length + 199) / 200 ≤ 9 := by omega
 unfold svR svRC
 split
 · exact ⟨h.mono (by omega), hx⟩
 · split
   · exact ⟨h.mono (by omega), hx⟩
   · have h2 := svL_rel base e.toNat (((snPut l).length + 199) / 200) (snPut l) (((snPut l).length + 199) / 200) 0 h hx
     exact ⟨h2.1.mono (by omega), h2.2⟩
end
section
attribute [local go_sem] rowsBytes_bytesRows Option.map_some Int.cast_ofNat_Int intRows_len
structure Op20 where
 base : Int
 pages : Int
 epoch : Int
 l : SN
 fuse : Int
 crash : Bool
 keep : List Int
def Op20.cells (o : Op20) : List AV := [.c (.int .i64 o.base), .c (.int .i64 o.pages), .c (.int .i64 o.epoch), .sl 3 (snRows o.l), .c (.int .i64 o.fuse), .c (.bool o.crash), .sl 1 (intRows o.keep)]
def lightP (o : Op20) : Prop := rightP o.l ∧ o.keep.length ≤ 60 ∧ -9 ≤ o.base ∧ o.base ≤ 20 ∧ o.epoch ≤ 1099511627776
instance (o : Op20) : Decidable (lightP o) := inferInstanceAs (Decidable (_ ∧ _))
def light20P (l : List Op20) : Prop := l.length ≤ 12 ∧ ∀ o ∈ l, lightP o
instance (l : List Op20) : Decidable (light20P l) := inferInstanceAs (Decidable (_ ∧ _))
end
section
attribute [local go_sem] rowsBytes_bytesRows Option.map_some Int.cast_ofNat_Int getBox_GL setBox_GL fresh_GL tAV intRows_len

end
section
attribute [local go_sem] rowsBytes_bytesRows Option.map_some Int.cast_ofNat_Int getBox_GL setBox_GL fresh_GL tAV intRows_len

end
section
theorem wd8tkS : ∀ (n : Fin 256) (k : Fin 8), (word8 n.val).take k.val = List.replicate k.val 0 := by decide +kernel
theorem wd8mxS : ∀ (n : Fin 256) (k : Fin 8), (List.replicate k.val 0 ++ (word8 n.val).drop k.val) = word8 n.val := by decide +kernel
theorem tornS_low {old a : List UInt8} {n j k kd : Nat} (hn : n < 256) (hj : j < 256) (h8 : old.take 8 = word8 j) (hk : k ≤ 7) : (putB n kd a).take k ++ old.drop k = old := by
 have e : (putB n kd a).take k = old.take k := by
   have e1 : (putB n kd a).take k = ((putB n kd a).take 8).take k := by rw [List.take_take, Nat.min_eq_left (by omega)]
   have e2 : old.take k = (old.take 8).take k := by rw [List.take_take, Nat.min_eq_left (by omega)]
   rw [e1, e2, put_take8, h8, wd8tkS ⟨n, hn⟩ ⟨k, by omega⟩, wd8tkS ⟨j, hj⟩ ⟨k, by omega⟩]
 rw [e, List.take_append_drop]
theorem tornS_mid {old a : List UInt8} {n j k kd : Nat} (hn : n < 256) (hj : j < n) (ha : a.length ≤ 233) (hl : old.length = 256) (h8 : old.drop 248 = word8 j) (h1 : 8 ≤ k) (hk : k ≤ 255) : getC ((putB n kd a).take k ++ old.drop k) = 8 := by
 have hpl := putB_len n kd a ha
 have e1 : ((putB n kd a).take k ++ old.drop k).take 8 = word8 n := by
   rw [List.take_append_of_le_length (by rw [List.length_take]; omega), List.take_take, Nat.min_eq_left h1, put_take8]
 have e2 : ((putB n kd a).take k ++ old.drop k).drop 248 = word8 j := by
   rw [List.drop_append, List.length_take, hpl, Nat.min_eq_left (by omega), List.drop_take, put_drop248 _ _ _ ha, List.drop_drop]
   have e : old.drop (k + (248 - k)) = (word8 j).drop (k - 248) := by rw [← h8, List.drop_drop]; congr 1; omega
   rw [e, wd8tkS ⟨n, hn⟩ ⟨k - 248, by omega⟩, wd8mxS ⟨j, by omega⟩ ⟨k - 248, by omega⟩]
 have hlen : ((putB n kd a).take k ++ old.drop k).length = 256 := by rw [List.length_append, List.length_take, List.length_drop]; omega
 unfold getC
 rw [if_neg (by simp [hlen]), e1, e2, if_pos]
 intro h
 have h2 := be8_word n (by omega)
 have h3 := be8_word j (by omega)
 rw [h, h3] at h2
 omega
theorem blankS_z {b : List UInt8} (hl : b.length = 256) (h : blankB b = true) : b = z256 := by
 unfold z256
 rw [← hl]
 refine List.eq_replicate_of_mem fun x hx => ?_
 unfold blankB at h
 rw [List.all_eq_true] at h
 simpa using h x hx
theorem pageOrS_len {l : List (Int × List UInt8)} (h : ∀ p ∈ l, p.2.length = 256) (at_ : Int) : (pageOr l at_).length = 256 := by
 unfold pageOr
 cases hf : findM l at_ with
 | none => simp [z256]
 | some w => exact h _ (mem_find hf)
theorem settleS_pg {sf : List (Int × List UInt8)} (hp : pagesOK sf) (at_ : Int) {b : List UInt8} (hb : b.length = 256) (keep : Int) (j : Int) :
   pageOr (settleM sf at_ (some b) keep) j = if j = at_ then b.take (min keep 256).toNat ++ (pageOr sf at_).drop (min keep 256).toNat else pageOr sf j := by
 have hpo := pageOrS_len hp.2 at_
 unfold settleM
 simp only
 by_cases hk : keep ≤ 0
 · rw [if_pos hk]
   have e : (min keep 256).toNat = 0 := by omega
   rw [e, List.take_zero, List.drop_zero, List.nil_append]
   split
   · rename_i h; rw [h]
   · rfl
 · rw [if_neg hk]
   generalize hkk : (min keep 256).toNat = k
   have hlen : (b.take k ++ (pageOr sf at_).drop k).length = 256 := by rw [List.length_append, List.length_take, List.length_drop]; omega
   by_cases hbl : blankB (b.take k ++ (pageOr sf at_).drop k) = true
   · rw [if_pos hbl]
     have hz := blankS_z hlen hbl
     show (findM (delM sf at_) j).getD z256 = _
     rw [findM_del hp.1]
     by_cases hj : j = at_
     · rw [if_pos hj.symm, if_pos hj, hz]; rfl
     · rw [if_neg (fun h => hj h.symm), if_neg hj]; rfl
   · rw [if_neg hbl]
     show (findM (updM sf at_ _) j).getD z256 = _
     rw [findM_upd]
     by_cases hj : j = at_
     · rw [if_pos hj.symm, if_pos hj]; rfl
     · rw [if_neg (fun h => hj h.symm), if_neg hj]; rfl
theorem lookS_free {s : Fl} (h : s.loose = []) (j : Int) : lookB s j = pageOr s.safe j := by
 unfold lookB; rw [h]; rfl
def loS (e n : Nat) (b : List UInt8) (x : Nat) : Nat → List (Int × Option (List UInt8))
 | 0 => []
 | i + 1 => loS e n b x i ++ [((0 : Int) + (i : Nat), some (putB (x + i) 5 (pgS e i n b)))]
theorem loS_pages {e n : Nat} {b : List UInt8} {x : Nat} (he : e ≤ 1099511627776) (hn : n ≤ 4096) : ∀ i, i ≤ n → ∀ p ∈ loS e n b x i, ∀ q, p.2 = some q → q.length = 256
 | 0, _, p, hp, _, _ => by simp [loS] at hp
 | i + 1, hi, p, hp, q, hq => by
   simp only [loS, List.mem_append, List.mem_singleton] at hp
   rcases hp with hp | rfl
   · exact loS_pages he hn i (by omega) p hp q hq
   · cases hq
     exact putB_len _ _ _ (by have := pgS_len (e := e) (i := i) (n := n) (b := b) he (by omega) hn; omega)
theorem svL_any {pg : Int} {sf : List (Int × List UInt8)} {e n : Nat} {b : List UInt8} {x : Nat} (hpg : (n : Int) ≤ pg) (he : e ≤ 1099511627776) (hn : n ≤ 4096) (hx : 1 ≤ x ∧ x + n ≤ 1099511627776) : ∀ (k i : Nat) (fu dc : Int), k + i = n →
   (∃ fu' dc', svL 0 e n b k i ⟨pg, sf, loS e n b x i, fu, false, dc⟩ ((x + i : Nat) : Int) = (⟨pg, settleAll sf (loS e n b x n), [], fu', false, dc'⟩, ((x + n : Nat) : Int), 0) ∧ (fu < 0 → fu' = fu)) ∨
   (0 ≤ fu ∧ ∃ j fu' dc', j ≤ n ∧ ∃ X, svL 0 e n b k i ⟨pg, sf, loS e n b x i, fu, false, dc⟩ ((x + i : Nat) : Int) = (⟨pg, sf, loS e n b x j, fu', true, dc'⟩, X, 11))
 | 0, i, fu, dc, hk => by
   obtain rfl : i = n := by omega
   simp only [svL]
   by_cases h0 : fu < 0
   · have hb : burnB ⟨pg, sf, loS e i b x i, fu, false, dc⟩ = false := by unfold burnB; simp [h0]
     left
     refine ⟨fu, dc + 1, ?_, fun _ => rfl⟩
     unfold flushS flushC burnS
     rw [hb]
     simp [h0]
   · by_cases h1 : fu - 1 < 0
     · have hb : burnB ⟨pg, sf, loS e i b x i, fu, false, dc⟩ = true := by unfold burnB; simp only [Bool.and_eq_true, decide_eq_true_eq]; exact ⟨h0, h1⟩
       right
       refine ⟨by omega, i, fu - 1, dc + 1, Nat.le_refl _, ((x + i : Nat) : Int), ?_⟩
       unfold flushS flushC burnS
       rw [hb]
       simp [h0, h1]
     · have hb : burnB ⟨pg, sf, loS e i b x i, fu, false, dc⟩ = false := by unfold burnB; simp [h1]
       left
       refine ⟨fu - 1, dc + 1, ?_, fun h => absurd h h0⟩
       unfold flushS flushC burnS
       rw [hb]
       simp [h0, h1]
 | k + 1, i, fu, dc, hk => by
   have hin : i < n := by omega
   have hlen := pgS_len (e := e) (i := i) (n := n) (b := b) he (by omega) hn
   have hck : checkC ((x + i : Nat) : Int) 5 (pgS e i n b).length = 0 := by unfold checkC; rw [if_neg (by omega), if_neg (by omega), if_neg (by omega)]
   have hcf : checkF ⟨pg, sf, loS e n b x i, fu, false, dc⟩ ((0 : Int) + (i : Nat)) = 0 := by unfold checkF; rw [if_neg (by simp), if_neg (by simp only; omega)]
   have hpl := putB_len (x + i) 5 (pgS e i n b) (by omega)
   have hS : tputS ⟨pg, sf, loS e n b x i, fu, false, dc⟩ ((x + i : Nat) : Int) (0 + (i : Nat)) 5 (pgS e i n b) = burnS ⟨pg, sf, loS e n b x (i + 1), fu, false, dc⟩ := by
     unfold tputS writeS
     rw [if_neg (by rw [hck]; simp), Int.toNat_natCast, show (5 : Int).toNat = 5 from rfl, if_neg (by rw [hcf]; simp [hpl])]
     rfl
   have hC : tputC ⟨pg, sf, loS e n b x i, fu, false, dc⟩ ((x + i : Nat) : Int) (0 + (i : Nat)) 5 (pgS e i n b) = if burnB ⟨pg, sf, loS e n b x i, fu, false, dc⟩ then 11 else 0 := by
     unfold tputC writeC; rw [if_neg (by rw [hck]; simp), if_neg (by rw [hcf]; simp), if_neg (by simp)]
     rfl
   have hxi : ((x + i : Nat) : Int) + 1 = ((x + (i + 1) : Nat) : Int) := by omega
   simp only [svL]
   rw [hC, hS, hxi]
   by_cases h0 : fu < 0
   · have hb : burnB ⟨pg, sf, loS e n b x i, fu, false, dc⟩ = false := by unfold burnB; simp [h0]
     have hbs : burnS ⟨pg, sf, loS e n b x (i + 1), fu, false, dc⟩ = ⟨pg, sf, loS e n b x (i + 1), fu, false, dc + 1⟩ := by unfold burnS; simp [h0]
     rw [hb, hbs, if_neg (by simp)]
     exact svL_any hpg he hn hx k (i + 1) fu (dc + 1) (by omega)
   · by_cases h1 : fu - 1 < 0
     · have hb : burnB ⟨pg, sf, loS e n b x i, fu, false, dc⟩ = true := by unfold burnB; simp only [Bool.and_eq_true, decide_eq_true_eq]; exact ⟨h0, h1⟩
       have hbs : burnS ⟨pg, sf, loS e n b x (i + 1), fu, false, dc⟩ = ⟨pg, sf, loS e n b x (i + 1), fu - 1, true, dc + 1⟩ := by unfold burnS; simp [h0, h1]
       rw [hb, hbs, if_pos (by simp)]
       right
       exact ⟨by omega, i + 1, fu - 1, dc + 1, by omega, _, rfl⟩
     · have hb : burnB ⟨pg, sf, loS e n b x i, fu, false, dc⟩ = false := by unfold burnB; simp [h1]
       have hbs : burnS ⟨pg, sf, loS e n b x (i + 1), fu, false, dc⟩ = ⟨pg, sf, loS e n b x (i + 1), fu - 1, false, dc + 1⟩ := by unfold burnS; simp [h0, h1]
       rw [hb, hbs, if_neg (by simp)]
       rcases svL_any hpg he hn hx k (i + 1) (fu - 1) (dc + 1) (by omega) with ⟨fu', dc', h, _⟩ | ⟨_, h⟩
       · exact .inl ⟨fu', dc', h, fun h2 => absurd h2 h0⟩
       · exact .inr ⟨by omega, h⟩
theorem keep_snoc (l : List (Int × List UInt8)) (a : List (Int × Option (List UInt8))) (p : Int × Option (List UInt8)) (ks : List Int) :
   settleKeep l (a ++ [p]) ks = match ks[a.length]? with | some k => settleM (settleKeep l a ks) p.1 p.2 k | none => settleKeep l a ks := by
 have e1 : (a ++ [p]).take (a.length + 1) = a ++ [p] := List.take_of_length_le (by simp)
 have e2 : (a ++ [p]).take a.length = a := List.take_left
 cases h : ks[a.length]? with
 | some k =>
   have := settleKeep_take (l := l) (ls := a ++ [p]) (ks := ks) (i := a.length) (p := p) (k := k) (by simp) h
   rw [e1, e2] at this; exact this
 | none =>
   have := settleKeep_stop (l := l) (ls := a ++ [p]) (ks := ks) (i := a.length) (by simpa using h)
   rw [e1, e2] at this; exact this
theorem keepS_pg {sf : List (Int × List UInt8)} (hp : pagesOK sf) {e n : Nat} {b : List UInt8} {x : Nat} (he : e ≤ 1099511627776) (hn : n ≤ 4096) (ks : List Int) : ∀ j, j ≤ n →
   (∀ i, i < j → ∃ k, k ≤ 256 ∧ pageOr (settleKeep sf (loS e n b x j) ks) i = (putB (x + i) 5 (pgS e i n b)).take k ++ (pageOr sf i).drop k) ∧
   (∀ q : Int, (∀ i : Nat, i < j → q ≠ i) → pageOr (settleKeep sf (loS e n b x j) ks) q = pageOr sf q)
 | 0, _ => ⟨fun i hi => absurd hi (Nat.not_lt_zero _), fun q _ => by cases ks <;> rfl⟩
 | j + 1, hj => by
   obtain ⟨h1, h2⟩ := keepS_pg hp (b := b) (x := x) he hn ks j (by omega)
   have hk := settleKeep_pages (ks := ks) hp (loS_pages he hn (x := x) (b := b) j (by omega))
   have hpl := putB_len (x + j) 5 (pgS e j n b) (by have := pgS_len (e := e) (i := j) (n := n) (b := b) he (by omega) hn; omega)
   have hpj := h2 j (fun i hi => by omega)
   simp only [loS, Int.zero_add]
   rw [keep_snoc]
   cases hkj : ks[(loS e n b x j).length]? with
   | none =>
     refine ⟨fun i hi => ?_, fun q hq => h2 q fun i hi => hq i (by omega)⟩
     by_cases hij : i = j
     · subst hij; exact ⟨0, by omega, by simpa using hpj⟩
     · exact h1 i (by omega)
   | some k =>
     have hsp := settleS_pg hk j hpl k
     refine ⟨fun i hi => ?_, fun q hq => ?_⟩
     · show ∃ k', k' ≤ 256 ∧ pageOr (settleM (settleKeep sf (loS e n b x j) ks) j (some (putB (x + j) 5 (pgS e j n b))) k) i = _
       rw [hsp i]
       by_cases hij : i = j
       · subst hij
         rw [if_pos rfl, hpj]
         exact ⟨_, by omega, rfl⟩
       · rw [if_neg (by omega)]
         exact h1 i (by omega)
     · show pageOr (settleM (settleKeep sf (loS e n b x j) ks) j (some (putB (x + j) 5 (pgS e j n b))) k) q = _
       rw [hsp q, if_neg (hq j (by omega))]
       exact h2 q fun i hi => hq i (by omega)
theorem allS_pg {sf : List (Int × List UInt8)} (hp : pagesOK sf) {e n : Nat} {b : List UInt8} {x : Nat} (he : e ≤ 1099511627776) (hn : n ≤ 4096) : ∀ j, j ≤ n →
   (∀ i : Nat, i < j → pageOr (settleAll sf (loS e n b x j)) i = putB (x + i) 5 (pgS e i n b)) ∧
   (∀ q : Int, (∀ i : Nat, i < j → q ≠ i) → pageOr (settleAll sf (loS e n b x j)) q = pageOr sf q)
 | 0, _ => ⟨fun i hi => absurd hi (Nat.not_lt_zero _), fun q _ => rfl⟩
 | j + 1, hj => by
   obtain ⟨h1, h2⟩ := allS_pg hp (b := b) (x := x) he hn j (by omega)
   have hk := settleAll_pages hp (loS_pages he hn (x := x) (b := b) j (by omega))
   have hpl := putB_len (x + j) 5 (pgS e j n b) (by have := pgS_len (e := e) (i := j) (n := n) (b := b) he (by omega) hn; omega)
   have hsp := settleS_pg hk j hpl 256
   have hpo := pageOrS_len hk.2 j
   have e1 : settleAll sf (loS e n b x (j + 1)) = settleM (settleAll sf (loS e n b x j)) j (some (putB (x + j) 5 (pgS e j n b))) 256 := by
     simp only [loS, settleAll, List.foldl_append, List.foldl_cons, List.foldl_nil, Int.zero_add]
   rw [e1]
   refine ⟨fun i hi => ?_, fun q hq => ?_⟩
   · rw [hsp i]
     by_cases hij : i = j
     · subst hij
       rw [if_pos rfl, show (min 256 256 : Int).toNat = 256 from rfl, List.take_of_length_le (by omega), List.drop_eq_nil_of_le (by omega), List.append_nil]
     · rw [if_neg (by omega)]
       exact h1 i (by omega)
   · rw [hsp q, if_neg (hq j (by omega))]
     exact h2 q fun i hi => hq i (by omega)
theorem pcB_take (b : List UInt8) (i : Nat) : b.take (i * 200) ++ pcB b i = b.take ((i + 1) * 200) := by
 unfold pcB
 rw [← List.take_add]; congr 1; omega
theorem ldL_any {s : Fl} {e : Int} {n : Nat} {b : List UInt8} (h : ∀ i, i < n → pgC s 0 e i ≠ 0 ∨ (pcN s 0 i = n ∧ pcR s 0 i = pcB b i)) : ∀ (k i : Nat), k + i = n →
   ((ldL s 0 e n k i (b.take (i * 200))).1 ≠ 0 ∧ ¬ ∀ i, i < n → pgC s 0 e i = 0) ∨ ldL s 0 e n k i (b.take (i * 200)) = (0, b.take (n * 200))
 | 0, i, hk => by
   obtain rfl : i = n := by omega
   exact .inr rfl
 | k + 1, i, hk => by
   simp only [ldL]
   by_cases hz : pgC s 0 e i = 0
   · rw [if_neg (by simpa using hz)]
     rcases h i (by omega) with h1 | ⟨h1, h2⟩
     · exact absurd hz h1
     · rw [if_neg (by simpa using h1), h2, pcB_take]
       exact ldL_any h k (i + 1) (by omega)
   · rw [if_pos hz]
     exact .inl ⟨hz, fun h2 => hz (h2 i (by omega))⟩
theorem ldR_any {s : Fl} {e : Int} {n : Nat} {l : SN} (hw : SnW l) (hn : n = ((snPut l).length + 199) / 200) (h : ∀ i, i < n → pgC s 0 e i ≠ 0 ∨ (pcN s 0 i = n ∧ pcR s 0 i = pcB (snPut l) i)) :
   ((ldR s 0 9 e).1 ≠ 0 ∧ (ldR s 0 9 e).2 = [] ∧ ¬ ∀ i, i < n → pgC s 0 e i = 0) ∨ ldR s 0 9 e = (0, l) := by
 have hb := hw.blen
 have hpos : 0 < (snPut l).length := by
   have e0 : 0 < (numB l.length).length := by unfold numB; simp
   simp only [snPut, numsB_one, List.length_append]; omega
 unfold ldR
 by_cases hz : pgC s 0 e 0 = 0
 · rw [if_neg (by simpa using hz)]
   rcases h 0 (by omega) with h1 | ⟨h1, h2⟩
   · exact absurd hz h1
   · rw [h1, h2, if_neg (by omega)]
     have e1 : pcB (snPut l) 0 = (snPut l).take (1 * 200) := by unfold pcB; simp
     rw [e1]
     rcases ldL_any h (n - 1) 1 (by omega) with ⟨g1, g2⟩ | g
     · rw [if_pos g1]; exact .inl ⟨g1, rfl, g2⟩
     · rw [g, if_neg (by simp), List.take_of_length_le (by omega)]
       obtain ⟨b1, b2⟩ := sn_back hw
       simp only
       rw [b1, b2]
       exact .inr rfl
 · rw [if_pos hz]
   exact .inl ⟨hz, rfl, fun h2 => hz (h2 0 (by omega))⟩
theorem torn_pgC {s : Fl} {i e n x : Nat} {b old : List UInt8} (hd : s.down = false) (hp : s.pages = 9) (hi : i < n) (hn : n ≤ 9) (he : e ≤ 1099511627776) (hx : 1 ≤ x ∧ x + i < 256)
   (hold : old = z256 ∨ ∃ st e' n' b', 1 ≤ st ∧ st < x ∧ e' ≠ e ∧ e' ≤ 1099511627776 ∧ n' ≤ 9 ∧ i < n' ∧ old = putB st 5 (pgS e' i n' b')) {k : Nat} (hk : k ≤ 256)
   (hl : lookB s i = (putB (x + i) 5 (pgS e i n b)).take k ++ old.drop k) : (pgC s 0 e i ≠ 0 ∧ k ≠ 256) ∨ (pgC s 0 e i = 0 ∧ pcN s 0 i = n ∧ pcR s 0 i = pcB b i) := by
 have hlen := pgS_len (e := e) (i := i) (n := n) (b := b) he (by omega) (by omega)
 have hpl := putB_len (x + i) 5 (pgS e i n b) (by omega)
 have hcf : checkF s ((0 : Int) + (i : Nat)) = 0 := by unfold checkF; rw [hd, if_neg (by simp), if_neg (by omega)]
 have h0i : (0 : Int) + (i : Nat) = (i : Nat) := Int.zero_add _
 obtain ⟨q, hq, e1, e2, e3, hno⟩ : ∃ q : Nat, q < x ∧ old.take 8 = word8 q ∧ old.drop 248 = word8 q ∧ old.length = 256 ∧ (lookB s i = old → pgC s 0 e i ≠ 0) := by
   rcases hold with rfl | ⟨st, e', n', b', k1, k2, k3, k4, k5, k6, rfl⟩
   · refine ⟨0, by omega, by decide +kernel, by decide +kernel, by simp [z256], fun h => ?_⟩
     have hg : tgetC s ((0 : Int) + (i : Nat)) 5 = 9 := by
       unfold tgetC
       rw [hcf, h0i, h, if_neg (by simp), show getC z256 = 9 by decide +kernel, if_pos (by simp)]
     unfold pgC; rw [hg, if_pos (by simp)]; simp
   · have hl' := pgS_len (e := e') (i := i) (n := n') (b := b') k4 (by omega) (by omega)
     refine ⟨st, by omega, put_take8 _ _ _, put_drop248 _ _ _ (by omega), putB_len _ _ _ (by omega), fun h => ?_⟩
     have := (pg_put (s := s) (base := 0) (by rw [h0i]; exact h) hcf k1 (by omega) k4 (by omega) (by omega) k6).2.2.2 e (by omega)
     rw [this]; simp
 by_cases h7 : k ≤ 7
 · left
   rw [tornS_low (by omega) (by omega) e1 h7] at hl
   exact ⟨hno hl, by omega⟩
 · by_cases h255 : k ≤ 255
   · left
     have := tornS_mid (kd := 5) (n := x + i) (a := pgS e i n b) (by omega) (by omega) (by omega) e3 e2 (by omega) h255
     rw [← hl] at this
     have hg : tgetC s ((0 : Int) + (i : Nat)) 5 = 8 := by
       unfold tgetC
       rw [hcf, h0i, this, if_neg (by simp), if_pos (by simp)]
     refine ⟨?_, by omega⟩
     unfold pgC; rw [hg, if_pos (by simp)]; simp
   · right
     have hk2 : k = 256 := by omega
     subst hk2
     rw [List.take_of_length_le (by omega), List.drop_eq_nil_of_le (by omega), List.append_nil] at hl
     obtain ⟨g1, g2, g3, -⟩ := pg_put (s := s) (base := 0) (by rw [h0i]; exact hl) hcf (by omega) (by omega) he (by omega) (by omega) hi
     exact ⟨g1, g2, g3⟩
theorem whole_plain {l m : SN} (hl : SnW l) (hm : SnW m) (old : Nat) (ho : 1 ≤ old ∧ old ≤ 256) (fu : Int) (hfu : 0 ≤ fu) (keep : List Int) :
   (svR (newFl 9) 1 0 9 old l).2.2 = 0 ∧
   (((ldR (crashS (svR (fuseS (svR (newFl 9) 1 0 9 old l).1 fu) (svR (newFl 9) 1 0 9 old l).2.1 0 9 ((old + 1 : Nat) : Int) m).1 keep) 0 9 ((old + 1 : Nat) : Int)).1 ≠ 0 ∧
     (ldR (crashS (svR (fuseS (svR (newFl 9) 1 0 9 old l).1 fu) (svR (newFl 9) 1 0 9 old l).2.1 0 9 ((old + 1 : Nat) : Int) m).1 keep) 0 9 ((old + 1 : Nat) : Int)).2 = [] ∧
     (svR (fuseS (svR (newFl 9) 1 0 9 old l).1 fu) (svR (newFl 9) 1 0 9 old l).2.1 0 9 ((old + 1 : Nat) : Int) m).2.2 ≠ 0) ∨
   ldR (crashS (svR (fuseS (svR (newFl 9) 1 0 9 old l).1 fu) (svR (newFl 9) 1 0 9 old l).2.1 0 9 ((old + 1 : Nat) : Int) m).1 keep) 0 9 ((old + 1 : Nat) : Int) = (0, m)) := by
 have b1 := hl.blen
 have b2 := hm.blen
 have e1 : svR (newFl 9) 1 0 9 old l = svL 0 old (((snPut l).length + 199) / 200) (snPut l) (((snPut l).length + 199) / 200) 0 (newFl 9) 1 := by
   unfold svR; rw [if_neg (by omega), if_neg (by omega), Int.toNat_natCast]
 rw [e1]
 have q1 : ((snPut l).length + 199) / 200 ≤ 9 := by omega
 generalize ((snPut l).length + 199) / 200 = n1 at *
 generalize snPut l = B1 at *
 rcases svL_any (pg := 9) (sf := []) (e := old) (n := n1) (b := B1) (x := 1) (by omega) (by omega) (by omega) (by omega) n1 0 (-1) 0 (by omega) with ⟨fu', dc', h, hf⟩ | ⟨h, -⟩
 rotate_left
 · omega
 have h' : svL 0 old n1 B1 n1 0 (newFl 9) 1 = (⟨9, settleAll [] (loS old n1 B1 1 n1), [], fu', false, dc'⟩, ((1 + n1 : Nat) : Int), 0) := h
 rw [h']
 refine ⟨rfl, ?_⟩
 simp only
 have hp0 : pagesOK [] := ⟨by simp, by simp⟩
 obtain ⟨a1, a2⟩ := allS_pg hp0 (e := old) (n := n1) (b := B1) (x := 1) (by omega) (by omega) n1 (Nat.le_refl _)
 have hp1 := settleAll_pages hp0 (loS_pages (e := old) (n := n1) (b := B1) (x := 1) (by omega) (by omega) n1 (Nat.le_refl _))
 have hold : ∀ i : Nat, pageOr (settleAll [] (loS old n1 B1 1 n1)) i = z256 ∨ ∃ st e' n' b', 1 ≤ st ∧ st < 1 + n1 ∧ e' ≠ old + 1 ∧ e' ≤ 1099511627776 ∧ n' ≤ 9 ∧ i < n' ∧ pageOr (settleAll [] (loS old n1 B1 1 n1)) i = putB st 5 (pgS e' i n' b') := fun i => by
   by_cases hi : i < n1
   · exact .inr ⟨1 + i, old, n1, B1, by omega, by omega, by omega, by omega, q1, hi, a1 i hi⟩
   · left
     rw [a2 i (fun j hj => by omega)]; rfl
 generalize settleAll [] (loS old n1 B1 1 n1) = sf at *
 clear h h' e1 a1 a2
 have e2 : svR (fuseS ⟨9, sf, [], fu', false, dc'⟩ fu) ((1 + n1 : Nat) : Int) 0 9 ((old + 1 : Nat) : Int) m = svL 0 (old + 1) (((snPut m).length + 199) / 200) (snPut m) (((snPut m).length + 199) / 200) 0 ⟨9, sf, [], max fu (-1), false, dc'⟩ ((1 + n1 : Nat) : Int) := by
   unfold svR; rw [if_neg (by omega), if_neg (by omega), Int.toNat_natCast]; rfl
 rw [e2]
 obtain ⟨n2, hn2⟩ : ∃ n2, n2 = ((snPut m).length + 199) / 200 := ⟨_, rfl⟩
 rw [← hn2]
 have q2 : n2 ≤ 9 := by omega
 have hgo : ∀ s : Fl, s.down = false → s.pages = 9 → (∀ i : Nat, i < n2 → ∃ k, k ≤ 256 ∧ lookB s i = (putB ((1 + n1) + i) 5 (pgS (old + 1) i n2 (snPut m))).take k ++ (pageOr sf i).drop k) →
     (((ldR s 0 9 ((old + 1 : Nat) : Int)).1 ≠ 0 ∧ (ldR s 0 9 ((old + 1 : Nat) : Int)).2 = [] ∧ ¬ ∀ i, i < n2 → pgC s 0 ((old + 1 : Nat) : Int) i = 0) ∨ ldR s 0 9 ((old + 1 : Nat) : Int) = (0, m)) := fun s hd hp hlk => by
   refine ldR_any hm hn2 fun i hi => ?_
   obtain ⟨k, hk, hlk⟩ := hlk i hi
   rcases torn_pgC hd hp hi q2 (by omega) (by omega) (hold i) hk hlk with ⟨g, -⟩ | ⟨-, g⟩
   · exact .inl g
   · exact .inr g
 rcases svL_any (pg := 9) (sf := sf) (e := old + 1) (n := n2) (b := snPut m) (x := 1 + n1) (by omega) (by omega) (by omega) (by omega) n2 0 (max fu (-1)) dc' (by omega) with ⟨fu2, dc2, h, -⟩ | ⟨-, j, fu2, dc2, hj, X, h⟩
 · have h' : svL 0 (old + 1) n2 (snPut m) n2 0 ⟨9, sf, [], max fu (-1), false, dc'⟩ ((1 + n1 : Nat) : Int) = (⟨9, settleAll sf (loS (old + 1) n2 (snPut m) (1 + n1) n2), [], fu2, false, dc2⟩, ((1 + n1 + n2 : Nat) : Int), 0) := h
   rw [h']
   simp only
   right
   obtain ⟨a1, a2⟩ := allS_pg hp1 (e := old + 1) (n := n2) (b := snPut m) (x := 1 + n1) (by omega) (by omega) n2 (Nat.le_refl _)
   have hlk : ∀ i : Nat, i < n2 → lookB (crashS ⟨9, settleAll sf (loS (old + 1) n2 (snPut m) (1 + n1) n2), [], fu2, false, dc2⟩ keep) i = putB ((1 + n1) + i) 5 (pgS (old + 1) i n2 (snPut m)) := fun i hi => by
     rw [lookS_free rfl, ← a1 i hi]
     cases keep <;> rfl
   have hpl : ∀ i : Nat, i < n2 → (putB ((1 + n1) + i) 5 (pgS (old + 1) i n2 (snPut m))).length = 256 := fun i hi => putB_len _ _ _ (by have := pgS_len (e := old + 1) (i := i) (n := n2) (b := snPut m) (by omega) (by omega) (by omega); omega)
   rcases hgo (crashS ⟨9, settleAll sf (loS (old + 1) n2 (snPut m) (1 + n1) n2), [], fu2, false, dc2⟩ keep) rfl rfl (fun i hi => ⟨256, Nat.le_refl _, by
       rw [hlk i hi, List.take_of_length_le (by have := hpl i hi; omega), List.drop_eq_nil_of_le (by have := pageOrS_len hp1.2 i; omega), List.append_nil]⟩) with ⟨-, -, g⟩ | g
   · refine absurd (fun i hi => ?_) g
     have := hpl i hi
     rcases torn_pgC (s := crashS ⟨9, settleAll sf (loS (old + 1) n2 (snPut m) (1 + n1) n2), [], fu2, false, dc2⟩ keep) (x := 1 + n1) (e := old + 1) (b := snPut m) rfl rfl hi q2 (by omega) (by omega) (hold i) (Nat.le_refl 256) (by
       rw [hlk i hi, List.take_of_length_le (by omega), List.drop_eq_nil_of_le (by have := pageOrS_len hp1.2 i; omega), List.append_nil]) with ⟨-, g2⟩ | ⟨g2, -⟩
     · exact absurd rfl g2
     · exact g2
   · exact g
 · have h' : svL 0 (old + 1) n2 (snPut m) n2 0 ⟨9, sf, [], max fu (-1), false, dc'⟩ ((1 + n1 : Nat) : Int) = (⟨9, sf, loS (old + 1) n2 (snPut m) (1 + n1) j, fu2, true, dc2⟩, X, 11) := h
   rw [h']
   simp only
   obtain ⟨a1, a2⟩ := keepS_pg hp1 (e := old + 1) (n := n2) (b := snPut m) (x := 1 + n1) (by omega) (by omega) keep j hj
   rcases hgo (crashS ⟨9, sf, loS (old + 1) n2 (snPut m) (1 + n1) j, fu2, true, dc2⟩ keep) rfl rfl (fun i hi => by
       rw [lookS_free rfl]
       show ∃ k, k ≤ 256 ∧ pageOr (settleKeep sf (loS (old + 1) n2 (snPut m) (1 + n1) j) keep) i = _
       by_cases hij : i < j
       · exact a1 i hij
       · exact ⟨0, by omega, by rw [a2 i (fun q hq => by omega), List.take_zero, List.drop_zero, List.nil_append]⟩) with ⟨g1, g2, -⟩ | g
   · exact .inl ⟨g1, g2, by simp⟩
   · exact .inr g
end
section
attribute [local go_sem] rowsBytes_bytesRows Option.map_some Int.cast_ofNat_Int getBox_GL setBox_GL fresh_GL tAV intRows_len
theorem snapshotWhole_ok (l m : SN) (ep at_ : Nat) (keep : List Int) (hl : l.length < 2 ^ 40) (hm : m.length < 2 ^ 40) (hhl : ∀ p ∈ l, p.1 < 2 ^ 64) (hhm : ∀ p ∈ m, p.1 < 2 ^ 64) (hep : ep < 256) (hat : at_ < 256) (hk : keep.length < 2 ^ 36) :
   ACalls Tryz.prog 5 [.sl 3 (snRows l), .sl 3 (snRows m), .c (.int .u8 (ep : Int)), .c (.int .u8 (at_ : Int)), .sl 1 (intRows keep)] [GL] (Ret (.c (.bool true))) := by
 have hrl := right_ok l (by omega)
 have hrm := right_ok m (by omega)
 have hkl : (intRows keep).length = keep.length := intRows_len _
 have hsel : (decide (rightP l) = false ∧ True ∧ True) ∨ (decide (rightP l) = true ∧ decide (rightP m) = false ∧ True) ∨ (decide (rightP l) = true ∧ decide (rightP m) = true ∧ decide (60 < (keep.length : Int)) = true) ∨ (rightP l ∧ rightP m ∧ keep.length ≤ 60) := by
   simp only [decide_eq_true_eq, decide_eq_false_iff_not, and_true]
   by_cases h : rightP l
   · by_cases h' : rightP m
     · simp only [h, h', not_true_eq_false, true_and, false_or, false_and]; omega
     · exact .inr (.inl ⟨h, h'⟩)
   · exact .inl h
 refine jen cl_5 Tryz.func5 (h := ?_)
 refine jr (h := ?_)
 refine jc (hs := hrl) (hk := ?_)
 by_cases hgood : rightP l ∧ rightP m ∧ keep.length ≤ 60
 rotate_left
 · rcases hsel with ⟨hd1, hd2, hd3⟩ | ⟨hd1, hd2, hd3⟩ | ⟨hd1, hd2, hd3⟩ | h
   rotate_right
   · exact absurd h hgood
   · refine jf (cA hd1 hkl) (h := ?_)
     refine jt (h := ?_)
     refine jr (h := ?_)
     refine jcg (hin := by simp [GL]) (hs := works20_ok) (hk := ?_)
     refine jr (h := ?_)
     refine J_forget ?_
     refine jret Tryz.func5 (h := ⟨rfl, rfl⟩)
   all_goals
     refine jf (cC hd1 hd2 hd3 hkl) (h := ?_)
     refine jc (hs := hrm) (hk := ?_)
     refine jf (cC hd1 hd2 hd3 hkl) (h := ?_)
     refine jt (h := ?_)
     refine jr (h := ?_)
     refine jcg (hin := by simp [GL]) (hs := works20_ok) (hk := ?_)
     refine jr (h := ?_)
     refine J_forget ?_
     refine jret Tryz.func5 (h := ⟨rfl, rfl⟩)
 clear hsel
 obtain ⟨g1, g2, g3⟩ := hgood
 have hd1 : decide (rightP l) = true := decide_eq_true g1
 have hd2 : decide (rightP m) = true := decide_eq_true g2
 have hd3 : decide (60 < (keep.length : Int)) = false := decide_eq_false (by omega)
 have hwl := g1.w hhl
 have hwm := g2.w hhm
 refine jf (cC hd1 hd2 hd3 hkl) (h := ?_)
 refine jc (hs := hrm) (hk := ?_)
 refine jf (cC hd1 hd2 hd3 hkl) (h := ?_)
 refine jn (h := ?_)
 refine jr (h := ?_)
 refine jcs (Δ1 := [GL]) (Fr := []) (hs := open20_ok) (hp := (List.Perm.refl _)) (hk := ?_) (hpan := (by rintro x Δ' ⟨f, t, D, k, _⟩; cases k))
 rintro x _ ⟨f, t, D, k, hO, rfl⟩
 cases k
 rw [List.append_nil]
 refine jr (h := ?_)
 refine jn (h := ?_)
 refine jr (h := ?_)
 have hB0 : (newFl 9).B 0 := newFl_B (by decide) (by decide)
 have hr0 : Rel (newFl 9) [] 0 := rel_new (by decide) (by decide)
 obtain ⟨fu, hfu⟩ : ∃ fu : Int, fu = (at_ : Int) % 11 := ⟨_, rfl⟩
 have hfu1 : 0 ≤ fu := by omega
 have hfu2 : fu < 11 := by omega
 have hpl := whole_plain hwl hwm (1 + ep) ⟨by omega, by omega⟩ fu hfu1 keep
 have hs1 := ssave_ok (t := t) (x := 1) hO hB0 (by decide) (by decide) 0 9 ((1 + ep : Nat) : Int) (by decide) (by omega) l hwl
 obtain ⟨hrA, hxA⟩ := svR_rel (x := 1) hr0 (by decide) 0 9 ((1 + ep : Nat) : Int) hwl
 have e1 : (1 : Int) + (ep : Int) = ((1 + ep : Nat) : Int) := by omega
 have e2 : ((1 + ep : Nat) : Int) + 1 = ((1 + ep + 1 : Nat) : Int) := by omega
 generalize svRC (newFl 9) [] 1 0 9 ((1 + ep : Nat) : Int) l = CA at *
 generalize svR (newFl 9) 1 0 9 ((1 + ep : Nat) : Int) l = R1 at *
 obtain ⟨S1, X1, K1⟩ := R1
 simp only at *
 obtain ⟨rfl, hpl⟩ := hpl
 have hrF := hrA.fuse (k := fu) (by omega)
 have hfuse := fun (D : List HP) (hO : OwnF f S1 D) => fuse_ok hO fu
 have hs2 := fun (D : List HP) (hO : OwnF f (fuseS S1 fu) D) => ssave_ok (t := t) (x := X1) hO hrF.b (by omega) hxA 0 9 ((1 + ep + 1 : Nat) : Int) (by decide) (by omega) m hwm
 obtain ⟨hrB, hxB⟩ := svR_rel hrF hxA 0 9 ((1 + ep + 1 : Nat) : Int) hwm
 generalize svRC (fuseS S1 fu) CA X1 0 9 ((1 + ep + 1 : Nat) : Int) m = CB at *
 generalize svR (fuseS S1 fu) X1 0 9 ((1 + ep + 1 : Nat) : Int) m = R2 at *
 obtain ⟨S2, X2, K2⟩ := R2
 simp only at *
 have hcr := fun (D : List HP) (hO : OwnF f S2 D) => crash_ok hO (hrB.b.wf (by omega)) keep (by omega)
 have hrC := hrB.crash keep
 have hto := fun (D : List HP) (hO : OwnF f (crashS S2 keep) D) => topen_ok hO (hrC.b.wf (by omega)) (hrC.b.small (by omega)) rfl (by have := cellsF_len hrC.b; omega)
 have hld := fun t x (D : List HP) (hO : OwnF f (crashS S2 keep) D) => sload_ok (t := t) (x := x) hO (hrC.b.wf (by omega)) 0 9 ((1 + ep + 1 : Nat) : Int) (by decide)
 generalize crashS S2 keep = S3 at *
 generalize nextF S3 = X3 at *
 generalize ldR S3 0 9 ((1 + ep + 1 : Nat) : Int) = L at *
 obtain ⟨Lc, Ll⟩ := L
 simp only at *
 generalize fuseS S1 fu = S1f at *
 rw [e1]
 refine jcs (Δ1 := tbox t f 1 :: D) (Fr := [GL]) (hs := hs1) (hp := (List.Perm.cons _ (List.perm_append_comm (l₁ := [GL])))) (hk := ?_) (hpan := (by rintro x Δ' ⟨e, D1, k, _⟩; cases k))
 rintro x _ ⟨er1, D1, k, he1, hO1, rfl⟩
 cases k
 obtain rfl := iserr_zero he1
 refine J_perm (List.Perm.cons _ (List.perm_append_comm (l₁ := [GL]))).symm ?_
 refine jr (h := ?_)
 refine jn (h := ?_)
 refine jr (h := ?_)
 rw [← hfu]
 refine jcs (Δ1 := D1) (Fr := [tbox t f X1, GL]) (hs := (hfuse D1 hO1)) (hp := (List.perm_append_comm (l₁ := [_, _]))) (hk := ?_) (hpan := (by rintro y Δ' ⟨k, _⟩; cases k))
 rintro y D2 ⟨k, hO2⟩
 cases k
 refine J_perm (List.perm_append_comm (l₂ := [_, _])) ?_
 simp only [List.cons_append, List.nil_append]
 refine jr (h := ?_)
 rw [e2]
 refine jcs (Δ1 := tbox t f X1 :: D2) (Fr := [GL]) (hs := (hs2 D2 hO2)) (hp := (List.Perm.cons _ (List.perm_append_comm (l₁ := [GL])))) (hk := ?_) (hpan := (by rintro x Δ' ⟨e, D1, k, _⟩; cases k))
 rintro x _ ⟨er2, D3, k, he2, hO3, rfl⟩
 cases k
 refine J_perm (List.Perm.cons _ (List.perm_append_comm (l₁ := [GL]))).symm ?_
 refine jr (h := ?_)
 refine jcs (Δ1 := D3) (Fr := [tbox t f X2, GL]) (hs := (hcr D3 hO3)) (hp := (List.perm_append_comm (l₁ := [_, _]))) (hk := ?_) (hpan := (by rintro y Δ' ⟨k, _⟩; cases k))
 rintro y D4 ⟨k, hO4⟩
 cases k
 refine J_perm (List.perm_append_comm (l₂ := [_, _])) ?_
 simp only [List.cons_append, List.nil_append]
 refine jr (h := ?_)
 refine jcs (Δ1 := D4) (Fr := [tbox t f X2, GL]) (hs := (hto D4 hO4)) (hp := (List.perm_append_comm (l₁ := [_, _]))) (hk := ?_) (hpan := (by rintro y Δ' ⟨_, k, _⟩; cases k))
 rintro y _ ⟨t2, k, rfl⟩
 cases k
 refine J_perm (List.perm_append_comm (l₂ := [_, _])) ?_
 simp only [List.cons_append, List.nil_append]
 refine jr (h := ?_)
 refine jn (h := ?_)
 refine jr (h := ?_)
 rw [e2]
 refine jcs (Δ1 := tbox t2 f X3 :: D4) (Fr := [tbox t f X2, GL]) (hs := (hld t2 X3 D4 hO4)) (hp := (List.perm_append_comm (l₁ := [_, _]))) (hk := ?_) (hpan := (by rintro x Δ' ⟨_, k, _⟩; cases k))
 rintro x _ ⟨er3, k, he3, rfl⟩
 cases k
 refine J_perm (List.perm_append_comm (l₂ := [_, _])) ?_
 simp only [List.cons_append, List.nil_append]
 rcases hpl with ⟨h1, h2, h3⟩ | h
 · obtain rfl := h2
   obtain ⟨te2, ve2, rfl⟩ := iserr_ne he2 h3
   obtain ⟨te3, ve3, rfl⟩ := iserr_ne he3 h1
   have hz0 : decide (((snRows []).length : Int) = 0) = true := rfl
   refine jr (h := ?_)
   refine jn (h := ?_)
   refine jf hz0 (h := ?_)
   refine jcg (hin := by simp [GL]) (hs := works20_ok) (hk := ?_)
   refine jr (h := ?_)
   refine J_forget ?_
   refine jret Tryz.func5 (h := ⟨rfl, rfl⟩)
 · cases h
   obtain rfl := iserr_zero he3
   have hsm := same20_self m (by omega)
   by_cases hK : K2 = 0
   · subst hK
     obtain rfl := iserr_zero he2
     refine jr (h := ?_)
     refine jt (h := ?_)
     refine jr (h := ?_)
     refine jc (hs := hsm) (hk := ?_)
     refine jr (h := ?_)
     refine jcg (hin := by simp [GL]) (hs := works20_ok) (hk := ?_)
     refine jr (h := ?_)
     refine J_forget ?_
     refine jret Tryz.func5 (h := ⟨rfl, rfl⟩)
   · obtain ⟨te2, ve2, rfl⟩ := iserr_ne he2 hK
     refine jr (h := ?_)
     refine jn (h := ?_)
     refine jr (h := ?_)
     refine jc (hs := hsm) (hk := ?_)
     refine jr (h := ?_)
     refine jcg (hin := by simp [GL]) (hs := works20_ok) (hk := ?_)
     refine jr (h := ?_)
     refine J_forget ?_
     refine jret Tryz.func5 (h := ⟨rfl, rfl⟩)
end
end Go.Proofs.YtdnhcpbammfmlaaGreatDoor
namespace Go.Proofs.YtdnhcpbammfmlaaGreatDoor
open Go Go.Av Go.ChangeShapes Go.WideShapes Go.ChangeAt Go.RowKit
section
theorem shp_u8S {M k : Nat} {xs : List AV} (h : Shp Tryz.prog M (k + 1) 5 xs) : ∃ n : Nat, xs = [.c (.int .u8 (n : Int))] ∧ n < 256 := by
 unfold Shp at h
 simp only [Tryz.underlying5] at h
 obtain ⟨n, rfl, hw⟩ := h
 simp only [Lit.wf, Bool.and_eq_true, decide_eq_true_eq] at hw
 have e1 : IntKind.u8.min = 0 := by rfl
 have e2 : IntKind.u8.max = 255 := by rfl
 exact ⟨n.toNat, by rw [Int.toNat_of_nonneg (by omega)], by omega⟩
end
end Go.Proofs.YtdnhcpbammfmlaaGreatDoor
