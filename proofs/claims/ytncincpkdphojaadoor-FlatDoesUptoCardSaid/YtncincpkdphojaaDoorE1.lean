/- A part of the proof: what the calls do, told by values. -/
import Derived.Test.YtncincpkdphojaaDoorC7
import Derived.Test.YtncincpkdphojaaDoorA5
import Derived.Test.YtncincpkdphojaaDoorCards
import Derived.Test.YtncincpkdphojaaDoorTie
import Derived.LaidLaws
import Derived.LaidHandle
import Derived.Stop.Joined
section
namespace Go.Proofs.YtncincpkdphojaaDoor
open Go Go.Av Go.ChangeShapes Go.WideShapes Go.RowKit
set_option linter.unusedVariables false
set_option linter.unusedSimpArgs false
set_option maxRecDepth 100000

/-! ### Shapes -/
theorem cells5 : Tryd.prog.cellsOf 5 = 1 := by kernel_rfl
theorem cells33 : Tryd.prog.cellsOf 33 = 5 := by kernel_rfl
theorem cells35 : Tryd.prog.cellsOf 35 = 9 := by kernel_rfl

theorem shp_bytes {M k : Nat} {xs : List AV} (h : Shp Tryd.prog M (k + 2) 31 xs) : ∃ bs : List UInt8, xs = [.sl 1 (bytesRows bs)] ∧ bs.length ≤ M := by
  unfold Shp at h
  simp only [Tryd.underlying31, cells5] at h
  obtain ⟨rows, rfl, hl, hr⟩ := h
  have : ∃ bs : List UInt8, rows = bytesRows bs := by
    clear hl
    induction rows with
    | nil => exact ⟨[], rfl⟩
    | cons r rows ih =>
      obtain ⟨bs, rfl⟩ := ih fun r hr' => hr r (List.mem_cons_of_mem _ hr')
      have h1 := hr r (List.mem_cons_self ..)
      unfold Shp at h1
      simp only [Tryd.underlying5] at h1
      obtain ⟨n, rfl, hw⟩ := h1
      have hn : 0 ≤ n ∧ n ≤ 255 := by
        simp only [Lit.wf, Bool.and_eq_true, decide_eq_true_eq] at hw
        have e1 : IntKind.u8.min = 0 := by rfl
        have e2 : IntKind.u8.max = 255 := by rfl
        omega
      refine ⟨UInt8.ofNat n.toNat :: bs, ?_⟩
      simp only [bytesRows]
      have : ((UInt8.ofNat n.toNat).toNat : Int) = n := by
        rw [UInt8.toNat_ofNat']; omega
      rw [this]
  obtain ⟨bs, rfl⟩ := this
  exact ⟨bs, rfl, by rwa [bytesRows_length] at hl⟩

theorem shp_entry {M k : Nat} {xs : List AV} (h : Shp Tryd.prog M (k + 3) 33 xs) : ∃ x : Entry, xs = x.cells ∧ x.key.length ≤ M ∧ x.val.length ≤ M := by
  unfold Shp at h
  simp only [Tryd.underlying33, FieldsAre] at h
  obtain ⟨p1, q1, rfl, h1, p2, q2, rfl, h2, p3, q3, rfl, h3, p4, q4, rfl, h4, p5, q5, rfl, h5, rfl⟩ := h
  unfold Shp at h1 h2 h3 h4
  simp only [Tryd.underlying9, Tryd.underlying3] at h1 h2 h3 h4
  obtain ⟨s, rfl, hs⟩ := h1
  obtain ⟨n2, rfl, -⟩ := h2
  obtain ⟨n3, rfl, -⟩ := h3
  obtain ⟨n4, rfl, -⟩ := h4
  obtain ⟨bs, rfl, hb⟩ := shp_bytes h5
  exact ⟨⟨s, n2, n3, n4, bs⟩, rfl, hs, hb⟩

theorem shp_ents {M k : Nat} {xs : List AV} (h : Shp Tryd.prog M (k + 4) 27 xs) : ∃ l : List Entry, xs = [.sl 5 (ents l)] ∧ l.length ≤ M := by
  unfold Shp at h
  simp only [Tryd.underlying27, cells33] at h
  obtain ⟨rows, rfl, hl, hr⟩ := h
  have : ∃ l : List Entry, rows = ents l := by
    clear hl
    induction rows with
    | nil => exact ⟨[], rfl⟩
    | cons r rows ih =>
      obtain ⟨l, rfl⟩ := ih fun r hr' => hr r (List.mem_cons_of_mem _ hr')
      obtain ⟨x, rfl, -, -⟩ := shp_entry (hr r (List.mem_cons_self ..))
      exact ⟨x :: l, rfl⟩
  obtain ⟨l, rfl⟩ := this
  exact ⟨l, rfl, by rwa [ents_len] at hl⟩

theorem shp_op {M k : Nat} {xs : List AV} (h : Shp Tryd.prog M (k + 5) 35 xs) : ∃ o : OpD, xs = o.cells ∧ o.l.length ≤ M := by
  unfold Shp at h
  simp only [Tryd.underlying35, FieldsAre] at h
  obtain ⟨p1, q1, rfl, h1, p2, q2, rfl, h2, p3, q3, rfl, h3, p4, q4, rfl, h4, p5, q5, rfl, h5, rfl⟩ := h
  unfold Shp at h1 h3 h4
  simp only [Tryd.underlying3, Tryd.underlying4] at h1 h3 h4
  obtain ⟨n1, rfl, -⟩ := h1
  obtain ⟨x, rfl, -, -⟩ := shp_entry h2
  obtain ⟨n3, rfl, -⟩ := h3
  obtain ⟨b4, rfl⟩ := h4
  obtain ⟨l, rfl, hl⟩ := shp_ents h5
  exact ⟨⟨n1, x, n3, b4, l⟩, rfl, hl⟩

theorem shp_ops {M k : Nat} {xs : List AV} (h : Shp Tryd.prog M (k + 6) 22 xs) : ∃ l : List OpD, xs = [.sl 9 (opsD l)] ∧ l.length ≤ M ∧ ∀ o ∈ l, o.l.length ≤ M := by
  unfold Shp at h
  simp only [Tryd.underlying22, cells35] at h
  obtain ⟨rows, rfl, hl, hr⟩ := h
  have : ∃ l : List OpD, rows = opsD l ∧ ∀ o ∈ l, o.l.length ≤ M := by
    clear hl
    induction rows with
    | nil => exact ⟨[], rfl, by simp⟩
    | cons r rows ih =>
      obtain ⟨l, rfl, h2⟩ := ih fun r hr' => hr r (List.mem_cons_of_mem _ hr')
      obtain ⟨o, rfl, h3⟩ := shp_op (hr r (List.mem_cons_self ..))
      exact ⟨o :: l, rfl, fun o' ho' => by rcases List.mem_cons.1 ho' with rfl | h; (· exact h3); (· exact h2 o' h)⟩
  obtain ⟨l, rfl, h2⟩ := this
  exact ⟨l, rfl, by rwa [opsD_len] at hl, h2⟩

/-! ### How much a reading holds: the given one is the library's -/
mutual
theorem upto_bulk {H : Type} : ∀ d : DataW H, Rows.uptoBulk d = bulk d
  | .lit (.string _) => by simp only [Rows.uptoBulk, bulk]
  | .lit (.bool _) => by simp only [Rows.uptoBulk, bulk]
  | .lit (.int _ _) => by simp only [Rows.uptoBulk, bulk]
  | .lit (.float _ _) => by simp only [Rows.uptoBulk, bulk]
  | .lit .nil => by simp only [Rows.uptoBulk, bulk]
  | .nil => by simp only [Rows.uptoBulk, bulk]
  | .ptr d => by simp only [Rows.uptoBulk, bulk, upto_bulk d]
  | .slice a b => by simp only [Rows.uptoBulk, bulk, upto_bulkAll a, upto_bulkAll b]
  | .agg a => by simp only [Rows.uptoBulk, bulk, upto_bulkAll a]
  | .iface _ d => by simp only [Rows.uptoBulk, bulk, upto_bulk d]
  | .map es => by simp only [Rows.uptoBulk, bulk, upto_bulkEntries es]
  | .held _ => by simp only [Rows.uptoBulk, bulk]
theorem upto_bulkAll {H : Type} : ∀ l : List (DataW H), Rows.uptoBulkAll l = bulkAll l
  | [] => by simp only [Rows.uptoBulkAll, bulkAll]
  | d :: r => by simp only [Rows.uptoBulkAll, bulkAll, upto_bulk d, upto_bulkAll r]
theorem upto_bulkEntries {H : Type} : ∀ l : List (Lit × DataW H), Rows.uptoBulkEntries l = bulkEntries l
  | [] => by simp only [Rows.uptoBulkEntries, bulkEntries]
  | x :: r => by simp only [Rows.uptoBulkEntries, bulkEntries, upto_bulkEntry x, upto_bulkEntries r]
theorem upto_bulkEntry {H : Type} : ∀ x : Lit × DataW H, Rows.uptoBulkEntry x = bulkEntry x
  | (.string _, d) => by simp only [Rows.uptoBulkEntry, bulkEntry, upto_bulk d]
  | (.bool _, d) => by simp only [Rows.uptoBulkEntry, bulkEntry, upto_bulk d]
  | (.int _ _, d) => by simp only [Rows.uptoBulkEntry, bulkEntry, upto_bulk d]
  | (.float _ _, d) => by simp only [Rows.uptoBulkEntry, bulkEntry, upto_bulk d]
  | (.nil, d) => by simp only [Rows.uptoBulkEntry, bulkEntry, upto_bulk d]
end
theorem upto_small {H : Type} {ds : List (DataW H)} (h : Rows.uptoSmall H ds = true) : bulkAll ds ≤ 1048576 := by
  rw [← upto_bulkAll]
  exact of_decide_eq_true h

/-! ### The package-level variable -/
theorem own : ownKnob Tryd.prog.godebug = none := by kernel_rfl
theorem gET : Tryd.prog.globalNamed "errors.errorType" = some 0 := by kernel_rfl
theorem gRT : (Tryd.prog.cutTypes.find? (·.1 == "internal/reflectlite.rtype")).map (·.2) = some 121 := by kernel_rfl
theorem gSize : Tryd.prog.types.size = 167 := by kernel_rfl
theorem gRow : ((List.range 167).filter fun t => Tryd.prog.rowNamed t [101, 114, 114, 111, 114]) = [41] := by kernel_rfl

theorem handle_of_laid {W : World} (h : laidMetH Tryd.prog Rows.flatDoesRow.laid W) : W.cell? ⟨0, 0, none⟩ = some (.iface 121 (.agg #[.pointer (some ⟨1, 41, none⟩)])) := by
  have h' : laidMet Tryd.prog [] W ∧ handlesMet Tryd.prog Rows.flatDoesRow.laid W := h
  obtain ⟨name, u, ty, e1, e2, e3, e4, e5⟩ := h'.2 _ (List.mem_singleton.2 rfl)
  have en : name = [101, 114, 114, 111, 114] := (Option.some.inj e1).symm
  subst en
  obtain rfl := Option.some.inj (gRT.symm.trans e2)
  have hm : ty ∈ (List.range 167).filter fun t => Tryd.prog.rowNamed t [101, 114, 114, 111, 114] := List.mem_filter.2 ⟨List.mem_range.2 (by rw [← gSize]; exact e3), e4⟩
  rw [gRow] at hm
  obtain rfl := List.mem_singleton.1 hm
  have hh : typeHandle Tryd.prog 41 = .pointer (some ⟨1, 41, none⟩) := by kernel_rfl
  rw [hh] at e5
  simpa using World.var?_cell gET e5 0
end Go.Proofs.YtncincpkdphojaaDoor
end
