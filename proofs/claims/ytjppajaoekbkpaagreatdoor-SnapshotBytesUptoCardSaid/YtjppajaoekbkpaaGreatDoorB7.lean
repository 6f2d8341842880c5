/- A part of the proof: what the calls do, told by values. -/
import Derived.Test.YtjppajaoekbkpaaGreatDoorB4
import Derived.Test.YtjppajaoekbkpaaGreatDoorA9
import Derived.Test.YtjppajaoekbkpaaGreatDoorCards
import Derived.Test.YtjppajaoekbkpaaGreatDoorTie
import Derived.LaidLaws
import Derived.LaidHandle
import Derived.Stop.Joined
import Derived.Test.YtjppajaoekbkpaaGreatDoorB6
set_option linter.unusedVariables false
set_option linter.unusedSimpArgs false
set_option maxRecDepth 100000
set_option maxHeartbeats 4000000
namespace Go.Proofs.YtjppajaoekbkpaaGreatDoor
open Go Go.Av Go.ChangeShapes Go.WideShapes Go.ChangeAt Go.RowKit
section
theorem cells5 : Tryz.prog.cellsOf 5 = 1 := by kernel_rfl
theorem shp_bytes {M k : Nat} {xs : List AV} (h : Shp Tryz.prog M (k + 2) 23 xs) : ∃ bs : List UInt8, xs = [.sl 1 (bytesRows bs)] ∧ bs.length ≤ M := by
 unfold Shp at h
 simp only [Tryz.underlying23, cells5] at h
 obtain ⟨rows, rfl, hl, hr⟩ := h
 have : ∃ bs : List UInt8, rows = bytesRows bs := by
   clear hl
   induction rows with
   | nil => exact ⟨[], rfl⟩
   | cons r rows ih =>
     obtain ⟨bs, rfl⟩ := ih fun r hr' => hr r (List.mem_cons_of_mem _ hr')
     have h1 := hr r (List.mem_cons_self ..)
     unfold Shp at h1
     simp only [Tryz.underlying5] at h1
     obtain ⟨n, rfl, hw⟩ := h1
     have hn : 0 ≤ n ∧ n ≤ 255 := by
       simp only [Lit.wf, Bool.and_eq_true, decide_eq_true_eq] at hw
       have e1 : IntKind.u8.min = 0 := by rfl
       have e2 : IntKind.u8.max = 255 := by rfl
       omega
     refine ⟨UInt8.ofNat n.toNat :: bs, ?_⟩
     simp only [bytesRows]
     have : ((UInt8.ofNat n.toNat).toNat : Int) = n := by
       rw [UInt8.toNat_ofNat']; omega
     rw [this]
 obtain ⟨bs, rfl⟩ := this
 exact ⟨bs, rfl, by rwa [bytesRows_length] at hl⟩
theorem shp_int {M k : Nat} {xs : List AV} (h : Shp Tryz.prog M (k + 1) 3 xs) : ∃ n : Int, xs = [.c (.int .i64 n)] ∧ n < 9223372036854775808 ∧ -9223372036854775808 ≤ n := by
 unfold Shp at h
 simp only [Tryz.underlying3] at h
 obtain ⟨n, rfl, hw⟩ := h
 simp only [Lit.wf, Bool.and_eq_true, decide_eq_true_eq] at hw
 have e1 : IntKind.i64.min = -9223372036854775808 := by rfl
 have e2 : IntKind.i64.max = 9223372036854775807 := by rfl
 exact ⟨n, rfl, by omega, by omega⟩
mutual
theorem upto_bulk {H : Type} : ∀ d : DataW H, Rows.uptoBulk d = bulk d
 | .lit (.string _) => by simp only [Rows.uptoBulk, bulk]
 | .lit (.bool _) => by simp only [Rows.uptoBulk, bulk]
 | .lit (.int _ _) => by simp only [Rows.uptoBulk, bulk]
 | .lit (.float _ _) => by simp only [Rows.uptoBulk, bulk]
 | .lit .nil => by simp only [Rows.uptoBulk, bulk]
 | .nil => by simp only [Rows.uptoBulk, bulk]
 | .ptr d => by simp only [Rows.uptoBulk, bulk, upto_bulk d]
 | .slice a b => by simp only [Rows.uptoBulk, bulk, upto_bulkAll a, upto_bulkAll b]
 | .agg a => by simp only [Rows.uptoBulk, bulk, upto_bulkAll a]
 | .iface _ d => by simp only [Rows.uptoBulk, bulk, upto_bulk d]
 | .map es => by simp only [Rows.uptoBulk, bulk, upto_bulkEntries es]
 | .held _ => by simp only [Rows.uptoBulk, bulk]
theorem upto_bulkAll {H : Type} : ∀ l : List (DataW H), Rows.uptoBulkAll l = bulkAll l
 | [] => by simp only [Rows.uptoBulkAll, bulkAll]
 | d :: r => by simp only [Rows.uptoBulkAll, bulkAll, upto_bulk d, upto_bulkAll r]
theorem upto_bulkEntries {H : Type} : ∀ l : List (Lit × DataW H), Rows.uptoBulkEntries l = bulkEntries l
 | [] => by simp only [Rows.uptoBulkEntries, bulkEntries]
 | x :: r => by simp only [Rows.uptoBulkEntries, bulkEntries, upto_bulkEntry x, upto_bulkEntries r]
theorem upto_bulkEntry {H : Type} : ∀ x : Lit × DataW H, Rows.uptoBulkEntry x = bulkEntry x
 | (.string _, d) => by simp only [Rows.uptoBulkEntry, bulkEntry, upto_bulk d]
 | (.bool _, d) => by simp only [Rows.uptoBulkEntry, bulkEntry, upto_bulk d]
 | (.int _ _, d) => by simp only [Rows.uptoBulkEntry, bulkEntry, upto_bulk d]
 | (.float _ _, d) => by simp only [Rows.uptoBulkEntry, bulkEntry, upto_bulk d]
 | (.nil, d) => by simp only [Rows.uptoBulkEntry, bulkEntry, upto_bulk d]
end
theorem upto_small {H : Type} {ds : List (DataW H)} (h : Rows.uptoSmall H ds = true) : bulkAll ds ≤ 1048576 := by
 rw [← upto_bulkAll]
 exact of_decide_eq_true h
theorem own : ownKnob Tryz.prog.godebug = none := by kernel_rfl
theorem gET : Tryz.prog.globalNamed "errors.errorType" = some 0 := by kernel_rfl
theorem gRT : (Tryz.prog.cutTypes.find? (·.1 == "internal/reflectlite.rtype")).map (·.2) = some 262 := by kernel_rfl
theorem gSize : Tryz.prog.types.size = 378 := by kernel_rfl
theorem gRow : ((List.range 378).filter fun t => Tryz.prog.rowNamed t [101, 114, 114, 111, 114]) = [27] := by kernel_rfl
theorem handle_of_laid {W : World} (h : laidMetH Tryz.prog Rows.smallDoesRow.laid W) : W.cell? ⟨0, 0, none⟩ = some (.iface 262 (.agg #[.pointer (some ⟨1, 27, none⟩)])) := by
 have h' : laidMet Tryz.prog [] W ∧ handlesMet Tryz.prog Rows.smallDoesRow.laid W := h
 obtain ⟨name, u, ty, e1, e2, e3, e4, e5⟩ := h'.2 _ (List.mem_singleton.2 rfl)
 have en : name = [101, 114, 114, 111, 114] := (Option.some.inj e1).symm
 subst en
 obtain rfl := Option.some.inj (gRT.symm.trans e2)
 have hm : ty ∈ (List.range 378).filter fun t => Tryz.prog.rowNamed t [101, 114, 114, 111, 114] := List.mem_filter.2 ⟨List.mem_range.2 (by rw [← gSize]; exact e3), e4⟩
 rw [gRow] at hm
 obtain rfl := List.mem_singleton.1 hm
 have hh : typeHandle Tryz.prog 27 = .pointer (some ⟨1, 27, none⟩) := by kernel_rfl
 rw [hh] at e5
 simpa using World.var?_cell gET e5 0
theorem laidOut : laidOutB Tryz.prog = true := by kernel_rfl
noncomputable def laidWorld (os : Os) : World :=
 let w0 := World.holding Tryz.prog os ⟨#[], #[], []⟩
 { w0 with heap := w0.heap.modify 0 fun
     | .cells _ t frozen => .cells #[.iface 262 (.agg #[.pointer (some ⟨1, 27, none⟩)])] t frozen
     | o => o }
theorem laidWorld_met (os : Os) (args : Array Value) : laidMetH Tryz.prog Rows.smallDoesRow.laid ((laidWorld os).forCall (fun _ _ => 0) ⟨#[], args, []⟩).memory :=
 laidMetH_of_parts (laidMet_nil _ _) (by kernel_rfl)
end
section
theorem cellsSn : Tryz.prog.cellsOf 110 = 3 := by kernel_rfl
theorem shp_u64 {M k : Nat} {xs : List AV} (h : Shp Tryz.prog M (k + 1) 108 xs) : ∃ n : Nat, xs = [.c (.int .u64 (n : Int))] ∧ n < 2 ^ 64 := by
 unfold Shp at h
 simp only [Tryz.underlying108] at h
 obtain ⟨n, rfl, hw⟩ := h
 simp only [Lit.wf, Bool.and_eq_true, decide_eq_true_eq] at hw
 have e1 : IntKind.u64.min = 0 := by rfl
 have e2 : IntKind.u64.max = 18446744073709551615 := by rfl
 exact ⟨n.toNat, by rw [Int.toNat_of_nonneg (by omega)], by omega⟩
theorem shp_u16 {M k : Nat} {xs : List AV} (h : Shp Tryz.prog M (k + 1) 24 xs) : ∃ n : Nat, xs = [.c (.int .u16 (n : Int))] ∧ n < 65536 := by
 unfold Shp at h
 simp only [Tryz.underlying24] at h
 obtain ⟨n, rfl, hw⟩ := h
 simp only [Lit.wf, Bool.and_eq_true, decide_eq_true_eq] at hw
 have e1 : IntKind.u16.min = 0 := by rfl
 have e2 : IntKind.u16.max = 65535 := by rfl
 exact ⟨n.toNat, by rw [Int.toNat_of_nonneg (by omega)], by omega⟩
theorem shp_seen {M k : Nat} {xs : List AV} (h : Shp Tryz.prog M (k + 2) 110 xs) : ∃ q : Nat × Int × Int, xs = snRow q ∧ q.1 < 2 ^ 64 := by
 unfold Shp at h
 simp only [Tryz.underlying110, FieldsAre] at h
 obtain ⟨p1, q1, rfl, h1, p2, q2, rfl, h2, p3, q3, rfl, h3, rfl⟩ := h
 obtain ⟨n1, rfl, hn1⟩ := shp_u64 (k := k) h1
 obtain ⟨n2, rfl, -⟩ := shp_int (k := k) h2
 obtain ⟨n3, rfl, -⟩ := shp_int (k := k) h3
 exact ⟨(n1, n2, n3), rfl, hn1⟩
theorem shp_sn {M k : Nat} {xs : List AV} (h : Shp Tryz.prog M (k + 3) 22 xs) : ∃ l : SN, xs = [.sl 3 (snRows l)] ∧ l.length ≤ M ∧ ∀ p ∈ l, p.1 < 2 ^ 64 := by
 unfold Shp at h
 simp only [Tryz.underlying22, cellsSn] at h
 obtain ⟨rows, rfl, hl, hr⟩ := h
 have : ∃ l : SN, rows = snRows l ∧ ∀ p ∈ l, p.1 < 2 ^ 64 := by
   clear hl
   induction rows with
   | nil => exact ⟨[], rfl, by simp⟩
   | cons r rows ih =>
     obtain ⟨l, rfl, h2⟩ := ih fun r hr' => hr r (List.mem_cons_of_mem _ hr')
     obtain ⟨o, rfl, h3⟩ := shp_seen (k := k) (hr r (List.mem_cons_self ..))
     exact ⟨o :: l, rfl, fun o' ho' => by rcases List.mem_cons.1 ho' with rfl | h; (· exact h3); (· exact h2 o' h)⟩
 obtain ⟨l, rfl, h2⟩ := this
 exact ⟨l, rfl, by rwa [snRows_len] at hl, h2⟩
end
end Go.Proofs.YtjppajaoekbkpaaGreatDoor
