/- A part of the proof: what the calls do, told by values. -/
import Derived.Test.YtdnhcpbammfmlaaGreatDoorB3
import Derived.Test.YtdnhcpbammfmlaaGreatDoorB1
import Derived.Test.YtdnhcpbammfmlaaGreatDoorA7
import Derived.Test.YtdnhcpbammfmlaaGreatDoorA5
set_option linter.unusedVariables false
set_option linter.unusedSimpArgs false
set_option maxRecDepth 100000
set_option maxHeartbeats 4000000
namespace Go.Proofs.YtdnhcpbammfmlaaGreatDoor
open Go Go.Av
attribute [local go_sem] packed List.set_cons_zero List.set_cons_succ List.cons_append List.nil_append bytesRows_length flCells
attribute [-go_sem] cellsOf AV.isCell
attribute [local go_sem] cellsOf_agg cellsOf_int cellsOf_bool cellsOf_str cellsOf_map cellsOf_ptr cellsOf_nilI cellsOf_slice cellsOf_sl cellsOf_ifc cellsOf_fp cellsOf_opt optAV_cell icell_int icell_bool icell_str icell_map icell_ptr icell_nilI icell_slice icell_sl icell_ifc icell_fp
section
theorem anil_bytes {e : TypeId} {b : List UInt8} (h : 0 < b.length) : anil (some (.slice e)) (.sl 1 (bytesRows b)) = some false := by
 cases b with
 | nil => simp at h
 | cons x b => rfl
attribute [-go_sem] anil
attribute [local go_sem] anil_bytes
theorem anil_nil {e : TypeId} {l c : Nat} : anil (some (.slice e)) (.c (.slice none l c)) = some true := rfl
theorem anil_some {e : TypeId} {a : Addr} {l c : Nat} : anil (some (.slice e)) (.c (.slice (some a) l c)) = some false := rfl
attribute [local go_sem] anil_nil anil_some
theorem flatB_len (b : List UInt8) : (bytesRows b).flatten.length = b.length := by rw [flat_len (bytes_row b), bytesRows_length, Nat.mul_one]
theorem flatB_drop (b : List UInt8) (k : Nat) : (bytesRows b).flatten.drop k = (bytesRows (b.drop k)).flatten := by
 have := flat_drop (s := 1) (rows := bytesRows b) k (bytes_row b)
 rw [Nat.mul_one, bytesRows_drop] at this; exact this
theorem all_take {l : List AV} {n : Nat} (h : l.all AV.isCell = true) : (l.take n).all AV.isCell = true := by
 rw [List.all_eq_true] at h ⊢
 exact fun x hx => h x (List.take_subset _ _ hx)
section
variable {f : Nat} {s : Fl} {D : List HP}
theorem read_ok' (h : OwnF f s D) (hw : s.WF) (at_ : Int) : ACalls Tryz.prog 95 [ptr f, .c (.int .i64 at_)] D
   (fun r Δ => (checkF s at_ = 0 → r = .ret (.tup [pageAV (lookB s at_), .c .nilIface])) ∧ (checkF s at_ ≠ 0 → ∃ e, r = .ret (.tup [.c (.slice none 0 0), e]) ∧ IsErr e (checkF s at_)) ∧ Δ = D) := by
 refine jen cl_95 Tryz.func95 (h := ?_)
 refine jr (h := ?_)
 refine jcs (Fr := []) (hs := (fcheck_ok h _ at_)) (hp := (by simp)) (hk := ?_) (hpan := (by rintro x Δ' ⟨⟨e, h, _⟩, _⟩; cases h))
 rintro x D ⟨⟨e, h1, he, hz⟩, rfl⟩
 cases h1
 rw [List.append_nil]
 by_cases hc : checkF s at_ = 0
 rotate_left
 · obtain ⟨t, y, rfl⟩ := iserr_ne he hc
   refine J_mrun (own := []) (m := 2000) (by simp (maxSteps := 2000000) (disch := omega) only [go_sem, ↓reduceIte, Int.reduceLT, Int.reduceLE, Int.reduceToNat, Int.reducePow, Int.reduceNeg, Nat.reduceBEq, Tryz.ntmps95, anil] <;> with_reducible rfl) ?_
   refine jt (h := ?_)
   refine jr (h := ?_)
   refine jret Tryz.func95 (h := ⟨fun h => absurd h hc, fun _ => ⟨_, rfl, he⟩, rfl⟩)
 obtain rfl := hz hc
 refine J_mrun (own := []) (m := 2000) (by simp (maxSteps := 2000000) (disch := omega) only [go_sem, ↓reduceIte, Int.reduceLT, Int.reduceLE, Int.reduceToNat, Int.reducePow, Int.reduceNeg, Nat.reduceBEq, Tryz.ntmps95, anil] <;> with_reducible rfl) ?_
 refine jn (h := ?_)
 refine jr (h := ?_)
 refine jcs (Fr := []) (hs := (look_ok h hw at_)) (hp := (by simp)) (hk := ?_) (hpan := (by rintro x Δ' ⟨e, _⟩; cases e))
 rintro x D ⟨e, rfl⟩
 cases e
 rw [List.append_nil]
 refine jr (h := ?_)
 refine jret Tryz.func95 (h := ⟨fun _ => rfl, fun h => absurd hc h, rfl⟩)
def pageOr (l : List (Int × List UInt8)) (at_ : Int) : List UInt8 := (findM l at_).getD z256
def settleM (l : List (Int × List UInt8)) (at_ : Int) (o : Option (List UInt8)) (keep : Int) : List (Int × List UInt8) := match o with
 | none => if keep ≥ 256 then delM l at_ else l
 | some b => if keep ≤ 0 then l else
     let nb := b.take (min keep 256).toNat ++ (pageOr l at_).drop (min keep 256).toNat
     if blankB nb then delM l at_ else updM l at_ nb
theorem settle_at {mb : Nat} {v : Value} {L : List HP} (how : Own 120 2 (looseAV s.loose).flatten s.loose.length v L) (hw : ∀ p ∈ s.safe, p.2.length = 256) (at_ : Int) (o : Option (List UInt8)) (keep : Int) (ho : ∀ b, o = some b → b.length = 256) : ACalls Tryz.prog 55 [ptr f, .agg [.c (.int .i64 at_), optAV o], .c (.int .i64 keep)] (.box f 118 (flCells s mb v) :: .map mb (mi kI (safeAV s.safe)) :: L)
   (fun r D' => (∃ y, r = .ret y) ∧ D' = .box f 118 (flCells s mb v) :: .map mb (mi kI (safeAV (settleM s.safe at_ o keep))) :: L) := by
 obtain ⟨av, cv, rfl⟩ := how.slice
 cases o with
 | none =>
   refine jen cl_55 Tryz.func55 (h := ?_)
   refine J_mrun (own := []) (m := 2000) (by simp (maxSteps := 2000000) (disch := omega) only [go_sem, ↓reduceIte, Int.reduceLT, Int.reduceLE, Int.reduceToNat, Int.reducePow, Int.reduceNeg, Nat.reduceBEq, Tryz.ntmps55, optAV] <;> with_reducible rfl) ?_
   refine jt (h := ?_)
   refine jr (h := ?_)
   refine jif (h1 := fun hk => ?_) (h2 := fun hk => ?_)
   · refine jr (h := ?_)
     refine jd [(0, .pure), (1, .pure), (2, .pure), (3, .read), (4, .pure), (5, .read), (6, .act)] mixed (by kernel_rfl) ?_
     refine cr (hk := ?_)
     refine cbi (hb := delete_bi (k := at_) (l := safeAV s.safe) kI_ok mt (by simp only [go_sem])) (hk := ?_)
     rintro _ _ ⟨rfl, rfl⟩
     refine cr (hk := ?_)
     refine Can_nil ?_
     refine J_retX Tryz.func55 (by simp only [go_sem, ↓reduceIte, Int.reduceLT, Int.reduceLE, Int.reduceToNat, Int.reducePow, Int.reduceNeg, Nat.reduceBEq, Tryz.f55] <;> first | with_reducible rfl | rfl) ⟨⟨_, rfl⟩, by
       have e : delM (safeAV s.safe) at_ = safeAV (delM s.safe at_) := delM_map pageAV s.safe at_
       simp only [settleM, hk, if_true, e, flCells, ge_iff_le]⟩
   · refine jr (h := ?_)
     refine jret Tryz.func55 (h := ⟨⟨_, rfl⟩, by simp only [settleM, hk, if_false, flCells, ge_iff_le]⟩)
 | some b =>
   have hb := ho b rfl
   refine jen cl_55 Tryz.func55 (h := ?_)
   refine J_mrun (own := []) (m := 2000) (by simp (maxSteps := 2000000) (disch := omega) only [go_sem, ↓reduceIte, Int.reduceLT, Int.reduceLE, Int.reduceToNat, Int.reducePow, Int.reduceNeg, Nat.reduceBEq, Tryz.ntmps55, optAV, pageAV] <;> with_reducible rfl) ?_
   refine jn (h := ?_)
   refine jr (h := ?_)
   refine jif (h1 := fun hk => ?_) (h2 := fun hk => ?_)
   · refine jr (h := ?_)
     refine jret Tryz.func55 (h := ⟨⟨_, rfl⟩, by simp only [settleM, hk, if_true, flCells]⟩)
   refine jr (h := ?_)
   have hpl : (pageOr s.safe at_).length = 256 := by
     unfold pageOr
     cases hf : findM s.safe at_ with
     | none => simp [z256]
     | some w => exact hw _ (mem_find hf)
   refine J_cut (fun e D => ∃ a2 c2 L2, Own 5 1 (bytesRows (pageOr s.safe at_)).flatten 256 (.slice a2 256 c2) L2 ∧ e = [(0, ptr f), (2, .c (.int .i64 keep)), (4, .fp [.c (.int .i64 at_), .sl 1 (bytesRows b)]), (6, .c (.slice a2 256 c2))] ∧ D = .box f 118 (flCells s mb (.slice av s.loose.length cv)) :: .map mb (mi kI (safeAV s.safe)) :: (L ++ L2)) ?_ (fun hcut => ?_)
   rotate_left
   · cases hf : findM s.safe at_ with
     | none =>
       have hfs : findM (safeAV s.safe) at_ = none := by unfold safeAV; rw [findM_map, hf]; rfl
       have hpg : pageOr s.safe at_ = z256 := by unfold pageOr; rw [hf]; rfl
       refine jd [(0, .pure), (1, .pure), (2, .pure), (3, .read), (4, .pure), (5, .read), (6, .read), (8, .pure), (9, .pure), (10, .pure), (11, .read), (12, .pure), (13, .read), (14, .read), (15, .pure), (16, .pure), (7, .new), (17, .act), (18, .pure)] mixed (by kernel_rfl) ?_
       refine cf hfs (hk := ?_)
       refine Can_look rfl gN kI_ok mt gR gR gR ?_
       refine cf hfs (hk := ?_)
       refine Can_look rfl gN kI_ok mt gR gR gR ?_
       refine cf hfs (hk := ?_)
       refine Can_newcall gS cloneN_ok ?_ (by rintro x Δ' ⟨e, _⟩; cases e)
       rintro x L' ⟨e, rfl⟩
       cases e
       have how' : OwnB 5 [] (.slice none 0 0) [] := .nil none rfl rfl
       refine cf hfs (hk := ?_)
       refine cbi (hb := appendZ_bi (n := 256) (zs := [.int .u8 0]) gS gS (by rfl) how' (List.perm_append_comm (l₁ := [])) (by decide)) (hk := ?_)
       rintro _ _ ⟨v2, L2, rfl, rfl, how2⟩
       obtain ⟨a2, c2, rfl⟩ := how2.slice
       have how3 : Own 5 1 (bytesRows z256).flatten 256 (.slice a2 256 c2) L2 := by
         rw [zeros8] at how2
         exact how2
       refine cf hfs (hk := ?_)
       refine Can_nil ?_
       refine jk [0, 2, 4, 6] (h := ?_)
       exact hcut _ _ ⟨a2, c2, L2, by rw [hpg]; exact how3, rfl, rfl⟩
     | some w =>
       have hfs : findM (safeAV s.safe) at_ = some (.sl 1 (bytesRows w)) := by unfold safeAV; rw [findM_map, hf]; rfl
       have hw256 : w.length = 256 := hw _ (mem_find hf)
       have hpg : pageOr s.safe at_ = w := by unfold pageOr; rw [hf]; rfl
       refine jd [(0, .pure), (1, .pure), (2, .pure), (3, .read), (4, .pure), (5, .read), (6, .read), (8, .pure), (9, .pure), (10, .pure), (11, .read), (12, .pure), (13, .read), (14, .read), (15, .pure), (16, .pure), (7, .new), (17, .act), (18, .pure)] mixed (by kernel_rfl) ?_
       refine cf (cA hfs hw256) (hk := ?_)
       refine Can_look rfl gN kI_ok mt gR gR gR ?_
       refine cf (cA hfs hw256) (hk := ?_)
       refine Can_look rfl gN kI_ok mt gR gR gR ?_
       refine cf (cA hfs hw256) (hk := ?_)
       refine Can_newcall gS (clone_ok w (by rintro rfl; simp at hw256) (by omega)) ?_ (by rintro x Δ' ⟨v, D', e, _⟩; cases e)
       rintro x L' ⟨v', D', e, rfl, how'⟩
       cases e
       obtain ⟨a', c', rfl⟩ := how'.slice
       change Own 5 1 (bytesRows w).flatten w.length (.slice a' w.length c') L' at how'
       rw [hw256] at how'
       rw [hw256]
       refine cf (cA hfs hw256) (hk := ?_)
       refine cbi (hb := appendZ_bi (n := 0) (zs := [.int .u8 0]) gS gS (by rfl) how' (List.perm_append_comm (l₁ := L')) (by omega)) (hk := ?_)
       rintro _ _ ⟨v2, L2, rfl, rfl, how2⟩
       obtain ⟨a2, c2, rfl⟩ := how2.slice
       have how3 : Own 5 1 (bytesRows w).flatten 256 (.slice a2 256 c2) L2 := by
         rw [zeros, List.append_nil] at how2
         exact how2
       refine cf (cA hfs hw256) (hk := ?_)
       refine Can_nil ?_
       refine jk [0, 2, 4, 6] (h := ?_)
       exact hcut _ _ ⟨a2, c2, L2, by rw [hpg]; exact how3, rfl, rfl⟩
   · rintro e D ⟨a2, c2, L2, how3, rfl, rfl⟩
     obtain ⟨b2, cap, sp, e1, rfl, hcap⟩ : ∃ b2 cap sp, Value.slice a2 256 c2 = .slice (some ⟨b2, 0, none⟩) 256 cap ∧ L2 = [.box b2 5 ((bytesRows (pageOr s.safe at_)).flatten ++ sp)] ∧ 256 ≤ cap ∧ sp.length = (cap - 256) * 1 := by
       cases how3 with
       | box b cap sp q1 q2 q3 => exact ⟨_, _, _, rfl, rfl, q3, q2⟩
     cases e1
     obtain ⟨k, hkk, hk1, hk2⟩ : ∃ k : Nat, min keep 256 = (k : Int) ∧ 1 ≤ k ∧ k ≤ 256 := ⟨(min keep 256).toNat, by omega, by omega, by omega⟩
     refine J_perm (Δ' := .box b2 5 ((bytesRows (pageOr s.safe at_)).flatten ++ sp) :: .box f 118 (flCells s mb (.slice av s.loose.length cv)) :: .map mb (mi kI (safeAV s.safe)) :: L) (List.perm_append_comm (l₁ := _ :: _ :: L) (l₂ := [_])) ?_
     generalize hw0 : pageOr s.safe at_ = w at *
     refine J_mrun (own := []) (m := 2000) (by simp (maxSteps := 2000000) (disch := omega) only [go_sem, ↓reduceIte, Int.reduceLT, Int.reduceLE, Int.reduceToNat, Int.reducePow, Int.reduceNeg, Nat.reduceBEq, Tryz.ntmps55, hkk, hb, Int.toNat_natCast] <;> with_reducible rfl) ?_
     have hbt : (b.take k).length = k := by rw [List.length_take]; omega
     refine jbi (hb := copy_bi (n := k) gS gS (by simp only [go_sem, srcOf, hbt] <;> rfl) (by simp only [go_sem] <;> rfl) (all_take bytes_cell) (by rw [List.length_append, flatB_len, hpl]; omega)) (hk := ?_)
     rintro _ _ ⟨rfl, rfl⟩
     have hmin : min k 256 * 1 = k := by omega
     have hnl : (b.take k ++ w.drop k).length = 256 := by rw [List.length_append, hbt, List.length_drop]; omega
     have hcells : ((bytesRows w).flatten ++ sp).take 0 ++ (bytesRows (b.take k)).flatten.take (min k 256 * 1) ++ ((bytesRows w).flatten ++ sp).drop (0 + min k 256 * 1) = (bytesRows (b.take k ++ w.drop k)).flatten ++ sp := by
       rw [hmin, List.take_zero, List.nil_append, Nat.zero_add, bytesRows_append, List.flatten_append, List.take_of_length_le (by rw [flatB_len, hbt]; omega), List.drop_append_of_le_length (by rw [flatB_len, hpl]; omega), flatB_drop, List.append_assoc]
     rw [hcells]
     simp only [setBox, if_true]
     generalize hnb : b.take k ++ w.drop k = nb at *
     have how4 : Own 5 1 (bytesRows nb).flatten (bytesRows nb).length (.slice (some ⟨b2, 0, none⟩) 256 c2) [.box b2 5 ((bytesRows nb).flatten ++ sp)] := by
       rw [bytesRows_length, hnl]
       exact .box b2 c2 sp (by rw [flatB_len, hnl]) hcap.2 hcap.1
     have hset : settleM s.safe at_ (some b) keep = if blankB nb then delM s.safe at_ else updM s.safe at_ nb := by
       simp only [settleM, hk, if_false, hw0, hkk, Int.toNat_natCast, hnb]
     refine jr (h := ?_)
     refine jcs (Δ1 := [_]) (Fr := _ :: _ :: L) (hs := (ACalls.lendOwn (pre := []) how4 (blank_ok nb (by omega)) (by rintro r Δ' ⟨rfl, rfl⟩; exact ⟨rfl, _, rfl, .c _⟩) (bytes_row nb) (by rw [bytesRows_length, hnl]; decide))) (hp := (List.Perm.refl _)) (hk := ?_) (hpan := (by rintro x Δ' ⟨⟨e, _⟩, _⟩; cases e))
     rintro x Δ' ⟨⟨e, _⟩, rfl⟩
     cases e
     cases hbl : blankB nb with
     | true =>
       rw [hbl, if_pos rfl] at hset
       refine jr (h := ?_)
       refine jt (h := ?_)
       refine J_drop ?_
       refine jr (h := ?_)
       refine jd [(0, .pure), (1, .pure), (2, .pure), (3, .read), (4, .pure), (5, .read), (6, .act)] mixed (by kernel_rfl) ?_
       refine cr (hk := ?_)
       refine cbi (hb := delete_bi (k := at_) (l := safeAV s.safe) kI_ok mt (by simp only [go_sem])) (hk := ?_)
       rintro _ _ ⟨rfl, rfl⟩
       refine cr (hk := ?_)
       refine Can_nil ?_
       refine jr (h := ?_)
       refine J_end Tryz.func55 (xs := []) (by rfl) ⟨⟨_, rfl⟩, by
         have e : delM (safeAV s.safe) at_ = safeAV (delM s.safe at_) := delM_map pageAV s.safe at_
         simp only [hset, e, flCells]⟩
     | false =>
       rw [hbl, if_neg (by decide)] at hset
       refine jr (h := ?_)
       refine jn (h := ?_)
       refine J_perm (List.perm_append_comm (l₁ := [_]) (l₂ := _ :: _ :: L)) ?_
       refine J_freezeB (b := nb) (by rw [bytesRows_length] at how4; exact how4) (by rw [hnl]; decide) ?_
       refine J_is (t := 6) (by simp only [go_sem, hnl]) (List.mem_cons_self ..) (J_drop ?_)
       refine jr (h := ?_)
       refine jd [(0, .pure), (1, .pure), (2, .pure), (3, .read), (4, .pure), (5, .read), (6, .pure), (7, .act)] mixed (by kernel_rfl) ?_
       refine cr (hk := ?_)
       refine Can_op0 rfl (fun e' ha => update_op (k := at_) (l := safeAV s.safe) rfl kI_ok mt (agree_eval rfl ha (by simp [Op.operands]) gR) (agree_eval rfl ha (by simp [Op.operands]) gR) (agree_eval rfl ha (by simp [Op.operands]) gR) (by simp only [go_sem])) ?_
       rintro _ _ ⟨rfl, rfl⟩
       refine cr (hk := ?_)
       refine Can_nil ?_
       refine jr (h := ?_)
       refine J_end Tryz.func55 (xs := []) (by rfl) ⟨⟨_, rfl⟩, by
         have e : updM (safeAV s.safe) at_ (.sl 1 (bytesRows nb)) = safeAV (updM s.safe at_ nb) := updM_map pageAV s.safe at_ nb
         simp only [hset, e, flCells]⟩
end
end
section
def pagesOK (l : List (Int × List UInt8)) : Prop := (l.map (·.1)).Nodup ∧ ∀ p ∈ l, p.2.length = 256
theorem settle_pages {l : List (Int × List UInt8)} {at_ : Int} {o : Option (List UInt8)} {keep : Int} (h : pagesOK l) (ho : ∀ b, o = some b → b.length = 256) : pagesOK (settleM l at_ o keep) := by
 have hdel : pagesOK (delM l at_) := ⟨nodup_del h.1, fun p hp => h.2 p ((del_sub l at_).subset hp)⟩
 unfold settleM
 cases o with
 | none => simp only; split <;> assumption
 | some b =>
   simp only
   split
   · exact h
   · split
     · exact hdel
     · refine ⟨nodup_upd h.1, fun p hp => ?_⟩
       rcases mem_upd hp with rfl | hp
       · have hb := ho b rfl
         have hpl : (pageOr l at_).length = 256 := by
           unfold pageOr
           cases hf : findM l at_ with
           | none => simp [z256]
           | some w => exact h.2 _ (mem_find hf)
         simp only [List.length_append, List.length_take, List.length_drop, hb, hpl]
         omega
       · exact h.2 p hp
def settleAll (l : List (Int × List UInt8)) (ls : List (Int × Option (List UInt8))) : List (Int × List UInt8) := ls.foldl (fun m p => settleM m p.1 p.2 256) l
theorem settleAll_pages : ∀ {ls : List (Int × Option (List UInt8))} {l : List (Int × List UInt8)}, pagesOK l → (∀ p ∈ ls, ∀ b, p.2 = some b → b.length = 256) → pagesOK (settleAll l ls)
 | [], _, h, _ => h
 | p :: ls, l, h, hl => settleAll_pages (ls := ls) (settle_pages h (hl p (by simp))) fun q hq => hl q (by simp [hq])
section
variable {f : Nat} {s : Fl} {D : List HP}
theorem loose_box {g : G} {B : Nat → Prop} {mb : Nat} {av : Option Addr} {cv : Nat} {L : List HP} {c : List AV} {es : List (Value × AV)} (how : Own 120 2 (looseAV s.loose).flatten s.loose.length (.slice av s.loose.length cv) L)
   (sm : Sim g B (.box f 118 c :: .map mb es :: L)) : s.loose = [] ∨ ∃ b sp, av = some ⟨b, 0, none⟩ ∧ f ≠ b ∧ b ≠ f ∧ L = [.box b 120 ((looseAV s.loose).flatten ++ sp)] ∧ s.loose.length ≤ cv := by
 have hrl : (looseAV s.loose).length = s.loose.length := by simp [looseAV]
 rcases own_at how hrl with ⟨h, _, _⟩ | ⟨b, cap, sp, h, rfl, h2⟩
 · exact .inl (List.eq_nil_of_length_eq_zero (by rw [← hrl, h]; rfl))
 · obtain ⟨B1, h1, ⟨h3, _⟩, B2, h4, _, B3, h5, ⟨h6, _⟩, _⟩ := sm.sep
   have hne : f ≠ b := by rintro rfl; exact (h5 _ h6).1.2 h3
   simp only [Value.slice.injEq] at h
   exact .inr ⟨b, sp, h.1, hne, Ne.symm hne, rfl, by rw [h.2.2]; omega⟩
theorem burnS_loose (s : Fl) : (burnS s).loose = s.loose := by unfold burnS; split <;> rfl
theorem burnS_safe (s : Fl) : (burnS s).safe = s.safe := by unfold burnS; split <;> rfl
theorem burnS_pages (s : Fl) : (burnS s).pages = s.pages := by unfold burnS; split <;> rfl
def flushC (s : Fl) : Int := if s.down = true then 11 else if burnB s then 11 else 0
def flushS (s : Fl) : Fl := if s.down = true then s else if burnB s then burnS s else { burnS s with safe := settleAll s.safe s.loose, loose := [] }
theorem flush_ok (h : OwnF f s D) (hw : s.WF) : ACalls Tryz.prog 54 [ptr f] D (fun r D' => ∃ e, r = .ret e ∧ IsErr e (flushC s) ∧ (flushC s = 0 → e = .c .nilIface) ∧ OwnF f (flushS s) D') := by
 cases hd : s.down with
 | true =>
   have hC : flushC s = 11 := by unfold flushC; rw [if_pos hd]
   have hS : flushS s = s := by unfold flushS; rw [if_pos hd]
   obtain ⟨mb, v, L, how, rfl⟩ := h
   obtain ⟨av, cv, rfl⟩ := how.slice
   refine jen cl_54 Tryz.func54 (h := ?_)
   refine jf hd (h := ?_)
   refine jt (h := ?_)
   refine jr (h := ?_)
   refine jc (hs := newS_ok _ _ _) (hk := ?_)
   refine jr (h := ?_)
   refine jret Tryz.func54 (h := ⟨_, rfl, by rw [hC]; exact errNew_is _ _ _, by rw [hC]; intro h; exact absurd h (by decide), by rw [hS]; exact ⟨mb, _, L, how, by simp only [flCells, hd]⟩⟩)
 | false =>
   have h' := h
   obtain ⟨mb, v, L, how, rfl⟩ := h'
   refine jen cl_54 Tryz.func54 (h := ?_)
   refine jf hd (h := ?_)
   refine jn (h := ?_)
   refine jr (h := ?_)
   refine jcs (Fr := []) (hs := (burns_ok h hw.w)) (hp := (by simp [flCells, hd])) (hk := ?_) (hpan := (by rintro x Δ' ⟨e, _⟩; cases e))
   rintro x D1 ⟨e, hO⟩
   cases e
   rw [List.append_nil]
   clear h how
   obtain ⟨mb, v, L, how, rfl⟩ := hO
   obtain ⟨av, cv, rfl⟩ := how.slice
   cases hb : burnB s with
   | true =>
     have hC : flushC s = 11 := by unfold flushC; rw [if_neg (by simp [hd]), hb]; rfl
     have hS : flushS s = burnS s := by unfold flushS; rw [if_neg (by simp [hd]), hb]; rfl
     refine jr (h := ?_)
     refine jt (h := ?_)
     refine jr (h := ?_)
     refine jc (hs := newS_ok _ _ _) (hk := ?_)
     refine jr (h := ?_)
     refine jret Tryz.func54 (h := ⟨_, rfl, by rw [hC]; exact errNew_is _ _ _, by rw [hC]; intro h; exact absurd h (by decide), by rw [hS]; exact ⟨mb, _, L, how, rfl⟩⟩)
   | false =>
     have hC : flushC s = 0 := by unfold flushC; rw [if_neg (by simp [hd]), hb]; rfl
     have hS : flushS s = { burnS s with safe := settleAll s.safe s.loose, loose := [] } := by unfold flushS; rw [if_neg (by simp [hd]), hb]; rfl
     refine J_have _ (fun g B sm => loose_box how sm) (fun hbox => ?_)
     have q1 := burnS_loose s
     have q2 := burnS_safe s
     have hwp : pagesOK s.safe := ⟨hw.nodup, hw.page⟩
     have hwl := hw.lpage
     have hlen := hw.len
     rw [← q2] at hwp
     rw [← q1] at hwl hlen
     rw [hS, ← q1, ← q2]
     generalize burnS s = s1 at *
     refine jr (h := ?_)
     refine jn (h := ?_)
     refine jr (h := ?_)
     refine jk [0, 26, 27, 28] (h := ?_)
     refine J_loopI (I := fun m e D => ∃ i : Nat, i ≤ s1.loose.length ∧ m = s1.loose.length - i ∧ D = .box f 118 (flCells s1 mb (.slice av s1.loose.length cv)) :: .map mb (mi kI (safeAV (settleAll s1.safe (s1.loose.take i)))) :: L ∧ e = [(0, ptr f), (26, .c (.slice av s1.loose.length cv)), (27, .c (.int .i64 s1.loose.length)), (28, .c (.int .i64 i))]) ?_ ?_
     · exact ⟨_, 0, Nat.zero_le _, rfl, rfl, rfl⟩
     · rintro m e D ⟨i, hi, rfl, rfl, rfl⟩ ih
       refine jr (h := ?_)
       refine jif (h1 := fun hc => ?_) (h2 := fun hc => ?_)
       · have hlt : i < s1.loose.length := by omega
         have g0 := List.getElem?_eq_getElem hlt
         have h0 : (0 : Int) ≤ (i : Int) := by omega
         rcases hbox with h | ⟨b, sp, rfl, hne, hne', rfl, hcap⟩
         · rw [h] at hlt; simp at hlt
         have gr : (looseAV s1.loose)[i]? = some (looseRow s1.loose[i]) := by unfold looseAV; rw [List.getElem?_map, g0]; rfl
         have hgr := get_row (s := 2) (sp := sp) (row_len _) gr
         generalize hcells : (looseAV s1.loose).flatten ++ sp = cells at *
         generalize ((looseAV s1.loose).drop (i + 1)).flatten ++ sp = rest at hgr
         have hgr' : cells.drop (i * 2) = .c (.int .i64 s1.loose[i].1) :: optAV s1.loose[i].2 :: rest := hgr
         have h22 : (2 ≤ rest.length + 1 + 1) = True := by simp
         refine J_mrun (own := [4]) (m := 2000) (by simp (maxSteps := 2000000) (disch := omega) only [go_sem, ↓reduceIte, Int.reduceLT, Int.reduceLE, Int.reduceToNat, Int.reducePow, Int.reduceNeg, Nat.reduceBEq, Tryz.ntmps54, hgr', h22, hne, hne', List.length_cons, List.take_succ_cons, List.take_zero] <;> with_reducible rfl) ?_
         refine jnv (hh := fun b4 hb4 => ?_)
         simp only [fresh] at hb4
         refine jf hb4 (h := ?_)
         have hpg := settleAll_pages (ls := s1.loose.take i) hwp (fun p hp => hwl p (List.take_subset _ _ hp))
         have hst : settleM (settleAll s1.safe (s1.loose.take i)) s1.loose[i].1 s1.loose[i].2 256 = settleAll s1.safe (s1.loose.take (i + 1)) := by
           unfold settleAll; rw [List.take_add_one, g0, List.foldl_append]; rfl
         refine jcs (Δ1 := _ :: _ :: [_]) (Fr := [_]) (hs := (settle_at (s := { s1 with safe := settleAll s1.safe (s1.loose.take i) }) how hpg.2 s1.loose[i].1 s1.loose[i].2 256 (hwl _ (List.getElem_mem hlt)))) (hp := (List.perm_append_comm (l₁ := [_]))) (hk := ?_) (hpan := (by rintro x Δ' ⟨⟨y, e⟩, _⟩; cases e))
         rintro x Δ' ⟨⟨y, e⟩, rfl⟩
         cases e
         refine J_perm (List.perm_append_comm (l₂ := [_])) (J_drop ?_)
         refine jr (h := ?_)
         refine jk [0, 26, 27, 28] (h := ?_)
         refine ih _ _ _ ?_ ⟨i + 1, by omega, rfl, ?_, rfl⟩
         · omega
         · rw [← hst]; rfl
       · have hi' : i = s1.loose.length := by omega
         subst hi'
         rw [List.take_length]
         refine jr (h := ?_)
         refine J_forgetP ?_
         refine jret Tryz.func54 (h := ⟨L, [_, _], List.perm_append_comm (l₁ := [_, _]), _, rfl, by rw [hC]; exact .none, fun _ => rfl, mb, .slice none 0 0, [], .nil none rfl rfl, rfl⟩)
def settleKeep (l : List (Int × List UInt8)) : List (Int × Option (List UInt8)) → List Int → List (Int × List UInt8)
 | p :: ls, k :: ks => settleKeep (settleM l p.1 p.2 k) ls ks
 | _, _ => l
theorem settleKeep_pages : ∀ {ls : List (Int × Option (List UInt8))} {ks : List Int} {l : List (Int × List UInt8)}, pagesOK l → (∀ p ∈ ls, ∀ b, p.2 = some b → b.length = 256) → pagesOK (settleKeep l ls ks)
 | [], _, _, h, _ => h
 | p :: ls, [], l, h, hl => h
 | p :: ls, k :: ks, l, h, hl => settleKeep_pages (ls := ls) (settle_pages h (hl p (by simp))) fun q hq => hl q (by simp [hq])
theorem settleKeep_take : ∀ {ls : List (Int × Option (List UInt8))} {ks : List Int} {l : List (Int × List UInt8)} {i : Nat} {p : Int × Option (List UInt8)} {k : Int}, ls[i]? = some p → ks[i]? = some k →
   settleKeep l (ls.take (i + 1)) ks = settleM (settleKeep l (ls.take i) ks) p.1 p.2 k
 | [], _, _, _, _, _, h, _ => by simp at h
 | _ :: _, [], _, _, _, _, _, h => by simp at h
 | q :: ls, k' :: ks, l, 0, p, k, h1, h2 => by
   simp at h1 h2; subst h1 h2
   cases ls <;> simp [settleKeep]
 | q :: ls, k' :: ks, l, i + 1, p, k, h1, h2 => by
   simp only [List.take_succ_cons, settleKeep]
   exact settleKeep_take (by simpa using h1) (by simpa using h2)
theorem settleKeep_stop : ∀ {ls : List (Int × Option (List UInt8))} {ks : List Int} {l : List (Int × List UInt8)} {i : Nat}, ks.length ≤ i → settleKeep l (ls.take (i + 1)) ks = settleKeep l (ls.take i) ks
 | [], ks, l, i, h => by simp
 | q :: ls, [], l, i, h => by cases i <;> simp [settleKeep]
 | q :: ls, k :: ks, l, 0, h => by simp at h
 | q :: ls, k :: ks, l, i + 1, h => by
   simp only [List.take_succ_cons, settleKeep]
   exact settleKeep_stop (by simpa using h)
def intRows (l : List Int) : List (List AV) := l.map fun n => [.c (.int .i64 n)]
theorem intRows_len (l : List Int) : (intRows l).length = l.length := by simp [intRows]
theorem int_get {l : List Int} {i : Nat} {n : Int} (h : l[i]? = some n) : (intRows l)[i]? = some [.c (.int .i64 n)] := by simp [intRows, h]
attribute [local go_sem] intRows_len
def crashS (s : Fl) (keep : List Int) : Fl := { s with safe := settleKeep s.safe s.loose keep, loose := [], down := false, fuse := -1 }
theorem crash_ok (h : OwnF f s D) (hw : s.WF) (keep : List Int) (hk : keep.length < 2 ^ 37) : ACalls Tryz.prog 25 [ptr f, .sl 1 (intRows keep)] D (fun r D' => r = .ret (.tup []) ∧ OwnF f (crashS s keep) D') := by
 obtain ⟨mb, v, L, how, rfl⟩ := h
 obtain ⟨av, cv, rfl⟩ := how.slice
 have hwp : pagesOK s.safe := ⟨hw.nodup, hw.page⟩
 have hwl := hw.lpage
 have hlen := hw.len
 refine jen cl_25 Tryz.func25 (h := ?_)
 refine J_have _ (fun g B sm => loose_box how sm) (fun hbox => ?_)
 refine jr (h := ?_)
 refine jk [0, 1, 9, 10, 11] (h := ?_)
 refine J_loopI (I := fun m e D => ∃ i : Nat, i ≤ s.loose.length ∧ m = s.loose.length - i ∧ D = .box f 118 (flCells s mb (.slice av s.loose.length cv)) :: .map mb (mi kI (safeAV (settleKeep s.safe (s.loose.take i) keep))) :: L ∧ e = [(0, ptr f), (1, .sl 1 (intRows keep)), (9, .c (.slice av s.loose.length cv)), (10, .c (.int .i64 s.loose.length)), (11, .c (.int .i64 i))]) ?_ ?_
 · exact ⟨_, 0, Nat.zero_le _, rfl, by cases keep <;> rfl, rfl⟩
 · rintro m e D ⟨i, hi, rfl, rfl, rfl⟩ ih
   refine jr (h := ?_)
   refine jif (h1 := fun hc => ?_) (h2 := fun hc => ?_)
   · have hlt : i < s.loose.length := by omega
     have g0 := List.getElem?_eq_getElem hlt
     have h0 : (0 : Int) ≤ (i : Int) := by omega
     rcases hbox with h | ⟨b, sp, rfl, hne, hne', rfl, hcap⟩
     · rw [h] at hlt; simp at hlt
     have gr : (looseAV s.loose)[i]? = some (looseRow s.loose[i]) := by unfold looseAV; rw [List.getElem?_map, g0]; rfl
     have hgr := get_row (s := 2) (sp := sp) (row_len _) gr
     generalize hcells : (looseAV s.loose).flatten ++ sp = cells at *
     generalize ((looseAV s.loose).drop (i + 1)).flatten ++ sp = rest at hgr
     have hgr' : cells.drop (i * 2) = .c (.int .i64 s.loose[i].1) :: optAV s.loose[i].2 :: rest := hgr
     have h22 : (2 ≤ rest.length + 1 + 1) = True := by simp
     refine J_mrun (own := [5]) (m := 2000) (by simp (maxSteps := 2000000) (disch := omega) only [go_sem, ↓reduceIte, Int.reduceLT, Int.reduceLE, Int.reduceToNat, Int.reducePow, Int.reduceNeg, Nat.reduceBEq, Tryz.ntmps25, hgr', h22, hne, hne', List.length_cons, List.take_succ_cons, List.take_zero] <;> with_reducible rfl) ?_
     refine jnv (hh := fun b5 hb5 => ?_)
     simp only [fresh] at hb5
     refine jf hb5 (h := ?_)
     refine jif (h1 := fun hki => ?_) (h2 := fun hki => ?_)
     · have hki' : i < keep.length := by omega
       have gk := List.getElem?_eq_getElem hki'
       have gk1 := int_get gk
       have hpg := settleKeep_pages (ls := s.loose.take i) (ks := keep) hwp (fun p hp => hwl p (List.take_subset _ _ hp))
       have hst := settleKeep_take (l := s.safe) g0 gk
       refine jr (h := ?_)
       refine jd [(0, .pure), (1, .read), (2, .pure), (3, .pure), (4, .pure), (5, .pure), (6, .act)] mixed (by kernel_rfl) ?_
       refine cf gk1 (hk := ?_)
       refine ccs (Δ1 := _ :: _ :: [_]) (Fr := [_]) (hs := (settle_at (s := { s with safe := settleKeep s.safe (s.loose.take i) keep }) how hpg.2 s.loose[i].1 s.loose[i].2 keep[i] (hwl _ (List.getElem_mem hlt)))) (hp := (List.perm_append_comm (l₁ := [_]))) (hk := ?_) (hn := (by rintro x Δ' ⟨⟨y, e⟩, _⟩; cases e))
       rintro x Δ' ⟨⟨y, e⟩, rfl⟩
       cases e
       refine cr (hk := ?_)
       refine Can_nil ?_
       refine J_perm (List.perm_append_comm (l₁ := [_, _, _]) (l₂ := [_])) (J_drop ?_)
       refine jr (h := ?_)
       refine jk [0, 1, 9, 10, 11] (h := ?_)
       refine ih _ _ _ ?_ ⟨i + 1, by omega, rfl, ?_, rfl⟩
       · omega
       · rw [hst]; rfl
     · have hst := settleKeep_stop (ls := s.loose) (ks := keep) (l := s.safe) (i := i) (by omega)
       refine jr (h := ?_)
       refine J_drop ?_
       refine jk [0, 1, 9, 10, 11] (h := ?_)
       refine ih _ _ _ ?_ ⟨i + 1, by omega, rfl, ?_, rfl⟩
       · omega
       · rw [hst]; rfl
   · have hi' : i = s.loose.length := by omega
     subst hi'
     rw [List.take_length]
     refine jr (h := ?_)
     refine J_forgetP ?_
     refine J_end Tryz.func25 (xs := []) (by rfl) ⟨L, [_, _], List.perm_append_comm (l₁ := [_, _]), rfl, mb, .slice none 0 0, [], .nil none rfl rfl, rfl⟩
end
end
end Go.Proofs.YtdnhcpbammfmlaaGreatDoor
namespace Go.Proofs.YtdnhcpbammfmlaaGreatDoor
open Go Go.Av
attribute [local go_sem] packed List.set_cons_zero List.set_cons_succ List.cons_append List.nil_append bytesRows_length
section
theorem mclone_ok (mb : Nat) (es : List (Value × AV)) : ACalls Tryz.prog 81 [.c (.map (some mb))] [.map mb es] (fun r Δ => ∃ b, r = .ret (.c (.map (some b))) ∧ Δ = [.map b es, .map mb es]) := by
 refine jen cl_81 Tryz.func81 (h := ?_)
 refine jr (h := ?_)
 refine jn (h := ?_)
 refine jr (h := ?_)
 refine J_xop (by simp only [go_sem, Tryz.ntmps81] <;> with_reducible rfl) (clone_x Tryz.func105 (by decide) (by rfl) (by rfl) (by rfl) (by simp only [go_sem] <;> rfl)) ?_
 rintro _ _ ⟨b, hb, rfl, rfl⟩
 refine jr (h := ?_)
 refine jret Tryz.func81 (h := ⟨b, rfl, rfl⟩)
theorem keys_ok (mb : Nat) : ACalls Tryz.prog 83 [.c (.map (some mb))] [] (Ret (.fn (.func 108) [] [.fp [.c (.map (some mb))]])) := by
 refine jen cl_83 Tryz.func83 (h := ?_)
 refine jr (h := ?_)
 refine jret Tryz.func83 (h := ⟨rfl, rfl⟩)
def keyOf (m : MapEntry) : Int := match m.key with
 | .int _ n => n
 | _ => 0
theorem keys1_ok {l mb : Nat} {L : List (Int × AV)} {D0 : List HP} (I : List Int → List HP → Prop) (h0 : I [] D0)
   (hy : ∀ pre k D, pre.length < L.length → I pre D → AYields Tryz.prog l [.c (.int .i64 k)] D (fun x D' => x = .ret (.c (.bool true)) ∧ I (pre ++ [k]) D')) :
   ACalls Tryz.prog 108 [.fn (.yield l) [] [], .fp [.c (.map (some mb))]] (.map mb (mi kI L) :: D0) (fun r D' => ∃ y pre D1, r = .ret y ∧ pre.Perm (L.map (·.1)) ∧ I pre D1 ∧ D' = .map mb (mi kI L) :: D1) := by
 refine jen cl_108 Tryz.func108 (h := ?_)
 refine J_openmap (fun ms clock hkey hb hn => ?_)
 have hlen : ms.length = L.length := by
   have := congrArg List.length hkey
   simpa [mi] using this
 have hk1 : ms.map keyOf = L.map (·.1) := by
   have := congrArg (List.map fun v : Value => match v with | .int _ n => n | _ => 0) hkey
   simp only [List.map_map, mi] at this
   exact this
 have hk2 : ∀ m ∈ ms, m.key = .int .i64 (keyOf m) := by
   intro m hm
   have : m.key ∈ (mi kI L).map (·.1) := by rw [← hkey]; exact List.mem_map.2 ⟨m, hm, rfl⟩
   simp only [mi, List.map_map, List.mem_map, Function.comp] at this
   obtain ⟨p, _, hp⟩ := this
   unfold keyOf
   rw [← hp]; rfl
 refine jr (h := ?_)
 refine jop (ho := rfl) (hh := range_op rfl Tryz.underlying115 (by simp only [go_sem] <;> rfl)) (hk := ?_)
 rintro _ _ ⟨b, rfl, rfl⟩
 refine jr (h := ?_)
 refine jk [0, 5] (h := ?_)
 refine J_loopI (I := fun m e D => ∃ (pre rest : List MapEntry) (D1 : List HP), (pre ++ rest).Perm ms ∧ m = rest.length ∧ I (pre.map keyOf) D1 ∧ D = HP.obj b (.mapIter (some mb) clock (pre.map (·.born)).toArray clock) :: HP.obj mb (.map ms.toArray clock) :: HP.relm (mi kI L) ms :: D1 ∧ e = [(0, .fn (.yield l) [] []), (5, ptr b)]) ?_ ?_
 · exact ⟨_, [], ms, D0, List.Perm.refl _, rfl, h0, rfl, rfl⟩
 · rintro m e D ⟨pre, rest, D1, hp, rfl, hI, rfl, rfl⟩ ih
   refine jr (h := ?_)
   refine jop (ho := rfl) (hh := next_op rfl (by simp only [go_sem] <;> rfl) hb hn hp) (hk := ?_)
   rintro y D' (⟨hr, rfl, rfl⟩ | ⟨m, rest', hp', rfl, rfl⟩)
   · subst hr
     rw [List.append_nil] at hp
     refine jr (h := ?_)
     refine jn (h := ?_)
     refine jr (h := ?_)
     refine J_drop (J_shutmap hb hn ?_)
     refine J_end Tryz.func108 (xs := []) (by rfl) ⟨_, pre.map keyOf, D1, rfl, by rw [← hk1]; exact hp.map _, hI, rfl⟩
   · have hm : m ∈ ms := hp'.mem_iff.1 (by simp)
     have hl1 := hp'.length_eq
     have hl2 := hp.length_eq
     simp only [List.length_append, List.length_cons, List.length_nil] at hl1 hl2
     refine jr (h := ?_)
     refine jt (h := ?_)
     refine jr (h := ?_)
     refine jop (ho := rfl) (hh := entry_op rfl (by simp only [go_sem] <;> rfl) hn hp') (hk := ?_)
     rintro _ _ ⟨rfl, rfl⟩
     rw [hk2 m hm]
     refine jr (h := ?_)
     refine J_yield rfl gR gR gR ((hy (pre.map keyOf) (keyOf m) D1 (by rw [List.length_map]; omega) hI).under (Fr := [_, _, _]) (List.perm_append_comm (l₁ := [_, _, _]))) ?_
     rintro x D' ⟨D2, rfl, e, hI2⟩
     cases e
     refine jr (h := ?_)
     refine jn (h := ?_)
     refine jr (h := ?_)
     refine jk [0, 5] (h := ?_)
     refine J_perm List.perm_append_comm (ih _ _ _ ?_ ⟨pre ++ [m], rest', D2, hp', rfl, ?_, rfl, rfl⟩)
     · omega
     · rw [List.map_append]; exact hI2
theorem perm5 (a b c d m : HP) (L : List HP) : (m :: a :: b :: c :: d :: L).Perm (a :: c :: b :: d :: (L ++ [m])) :=
 (List.perm_append_comm (l₁ := [m]) (l₂ := a :: b :: c :: d :: L)).trans (show (a :: b :: c :: d :: (L ++ [m])).Perm _ from .cons _ (.swap _ _ _))
theorem appendSeq_ok (mb : Nat) (L : List (Int × AV)) (hL : L.length < 2 ^ 36) : ACalls Tryz.prog 120 [.c (.slice none 0 0), .fn (.func 108) [] [.fp [.c (.map (some mb))]]] [.map mb (mi kI L)]
   (fun r Δ => ∃ v pre D, r = .ret (.c v) ∧ pre.Perm (L.map (·.1)) ∧ Own 3 1 (intCells pre) pre.length v D ∧ Δ = .map mb (mi kI L) :: D) := by
 refine jen cl_120 Tryz.func120 (h := ?_)
 refine jr (own := [2]) (h := ?_)
 refine jnb (hh := fun b2 hb2 => ?_)
 refine jr (h := ?_)
 refine jk [2, 6] (h := ?_)
 refine J_rangeFunc' (ps := [7]) (by simp only [go_sem] <;> rfl) cl_108 (fun l r q hl hr q1 q2 q3 q4 q5 q6 => ?_)
 refine ⟨_, (keys1_ok (D0 := [_, _, _, _]) (I := fun pre D => ∃ v L', Own 3 1 (intCells pre) pre.length v L' ∧ D = HP.obj l (.loop q) :: HP.envp Tryz.f120.ntmps [(2, ptr b2), (6, .fn (.func 108) [] [.fp [.c (.map (some mb))]])] q.tmps :: HP.obj r (.deferred (some [])) :: .box b2 56 [.c v] :: L') ⟨_, [], .nil none rfl rfl, rfl⟩ ?_).perm (List.perm_append_comm (l₁ := [_, _, _, _]) (l₂ := [_])), ?_⟩
 · rintro pre k D hpl ⟨v, L', how, rfl⟩
   refine yields_J' (f := 120) (ps := [7]) q1 q2 q4 q5 q6 rfl (by simp [Tryz.ntmps120]) q3 ⟨_, Tryz.func120⟩ ?_
   obtain ⟨a, c, rfl⟩ := how.slice
   refine jr (h := ?_)
   refine J_beginRound q1 ?_
   refine jr (own := [11]) (h := ?_)
   refine jap (Fr := [_, _, _, _]) (how := how) (hp := (List.Perm.refl _)) (hsrc := (by simp only [go_sem, srcOf] <;> rfl)) (hc := (by rfl)) (hmax := (by omega)) (hk := ?_)
   rintro _ _ ⟨v2, L2, rfl, rfl, how2⟩
   obtain ⟨a2, c2, rfl⟩ := how2.slice
   refine jr (h := ?_)
   refine JR_end ?_
   refine ⟨_, List.Perm.refl _, .inl ⟨rfl, rfl, _, L2, ?_, rfl⟩⟩
   simpa [intCells] using how2
 · rintro x Δ' ⟨y, pre, D1, rfl, hperm, ⟨v, L', how, rfl⟩, rfl⟩
   obtain ⟨a, c, rfl⟩ := how.slice
   refine ⟨y, q, HP.envp _ _ _ :: .box b2 56 [.c (.slice a pre.length c)] :: (L' ++ [.map mb (mi kI L)]), rfl, by rw [q1]; decide, perm5 _ _ _ _ _ _, ?_⟩
   refine J_perm (List.Perm.swap _ _ _) (J_drop ?_)
   rw [q2]
   simp only [Option.map_none, Option.toList_none, List.nil_append]
   refine jr (h := ?_)
   refine J_forgetP ?_
   refine JM_ret Tryz.func120 (by simp only [go_sem, ↓reduceIte, Int.reduceLT, Int.reduceLE, Int.reduceToNat, Int.reducePow, Int.reduceNeg, Nat.reduceBEq, Tryz.f120] <;> first | with_reducible rfl | rfl) ⟨[_], _, List.Perm.cons _ List.perm_append_comm, _, pre, L', rfl, hperm, how, rfl⟩
theorem collect_ok (mb : Nat) (L : List (Int × AV)) (hL : L.length < 2 ^ 36) : ACalls Tryz.prog 106 [.fn (.func 108) [] [.fp [.c (.map (some mb))]]] [.map mb (mi kI L)]
   (fun r Δ => ∃ v pre D, r = .ret (.c v) ∧ pre.Perm (L.map (·.1)) ∧ Own 3 1 (intCells pre) pre.length v D ∧ Δ = .map mb (mi kI L) :: D) := by
 refine jen cl_106 Tryz.func106 (h := ?_)
 refine jr (h := ?_)
 refine jcs (Fr := []) (hs := (appendSeq_ok mb L hL)) (hp := (by simp)) (hk := ?_) (hpan := (by rintro x Δ' ⟨v, pre, D, e, _⟩; cases e))
 rintro x Δ' ⟨v, pre, D, e, hp, how, rfl⟩
 cases e
 rw [List.append_nil]
 refine jr (h := ?_)
 refine jret Tryz.func106 (h := ⟨v, pre, D, rfl, hp, how, rfl⟩)
theorem sort_ok {zs : List Int} {v : Value} {D : List HP} (how : Own 3 1 (intCells zs) zs.length v D) (hsz : zs.length < 4611686018427387904) :
   ACalls Tryz.prog 107 [.c v] D (fun r Δ => r = .ret (.tup []) ∧ Own 3 1 (intCells (sortInts zs)) zs.length v Δ) :=
 sort_acalls (ρ := sortA_ren) sortA (by kernel_rfl) how hsz
theorem sorted_ok (mb : Nat) (L : List (Int × AV)) (hL : L.length < 2 ^ 36) : ACalls Tryz.prog 82 [.fn (.func 108) [] [.fp [.c (.map (some mb))]]] [.map mb (mi kI L)]
   (fun r Δ => ∃ v pre D, r = .ret (.c v) ∧ pre.Perm (L.map (·.1)) ∧ Own 3 1 (intCells (sortInts pre)) pre.length v D ∧ Δ = D ++ [.map mb (mi kI L)]) := by
 refine jen cl_82 Tryz.func82 (h := ?_)
 refine jr (h := ?_)
 refine jcs (Fr := []) (hs := (collect_ok mb L hL)) (hp := (by simp)) (hk := ?_) (hpan := (by rintro x Δ' ⟨v, pre, D, e, _⟩; cases e))
 rintro x Δ' ⟨v, pre, D, e, hp, how, rfl⟩
 cases e
 rw [List.append_nil]
 have hpl := hp.length_eq
 rw [List.length_map] at hpl
 refine jr (h := ?_)
 refine jcs (Δ1 := D) (Fr := [_]) (hs := (sort_ok how (by omega))) (hp := (List.perm_append_comm (l₁ := [_]))) (hk := ?_) (hpan := (by rintro x Δ' ⟨e, _⟩; cases e))
 rintro x D2 ⟨e, how2⟩
 cases e
 refine jr (h := ?_)
 refine jret Tryz.func82 (h := ⟨v, pre, D2, rfl, hp, how2, rfl⟩)
end
end Go.Proofs.YtdnhcpbammfmlaaGreatDoor
namespace Go.Proofs.YtdnhcpbammfmlaaGreatDoor
open Go Go.Av
attribute [local go_sem] packed List.set_cons_zero List.set_cons_succ List.cons_append List.nil_append bytesRows_length flCells intRows_len
attribute [-go_sem] cellsOf AV.isCell
attribute [local go_sem] cellsOf_agg cellsOf_int cellsOf_bool cellsOf_str cellsOf_map cellsOf_ptr cellsOf_nilI cellsOf_slice cellsOf_sl cellsOf_ifc cellsOf_fp cellsOf_opt optAV_cell icell_int icell_bool icell_str icell_map icell_ptr icell_nilI icell_slice icell_sl icell_ifc icell_fp
section
def cellRow (p : Int × List UInt8) : List AV := [.c (.int .i64 p.1), .sl 1 (bytesRows p.2)]
def cellRows (l : List (Int × List UInt8)) : List (List AV) := l.map cellRow
theorem cellRows_len (l : List (Int × List UInt8)) : (cellRows l).length = l.length := by simp [cellRows]
theorem cellRows_row (l : List (Int × List UInt8)) : ∀ r ∈ cellRows l, r.length = 2 := by
 intro r hr
 obtain ⟨p, _, rfl⟩ := List.mem_map.1 hr
 rfl
def nilAV : AV := .c (.slice none 0 0)
def addLoose (m : List (Int × AV)) (ls : List (Int × Option (List UInt8))) : List (Int × AV) := ls.foldl (fun m p => updM m p.1 nilAV) m
theorem addLoose_nodup : ∀ {ls : List (Int × Option (List UInt8))} {m : List (Int × AV)}, (m.map (·.1)).Nodup → ((addLoose m ls).map (·.1)).Nodup
 | [], _, h => h
 | p :: ls, m, h => addLoose_nodup (ls := ls) (nodup_upd h)
theorem addLoose_mem {k : Int} : ∀ {ls : List (Int × Option (List UInt8))} {m : List (Int × AV)}, k ∈ (addLoose m ls).map (·.1) ↔ k ∈ m.map (·.1) ∨ k ∈ ls.map (·.1)
 | [], m => by simp [addLoose]
 | p :: ls, m => by
   have ih := addLoose_mem (k := k) (ls := ls) (m := updM m p.1 nilAV)
   have e : addLoose m (p :: ls) = addLoose (updM m p.1 nilAV) ls := rfl
   rw [e, ih, keys_upd]
   by_cases hm : p.1 ∈ m.map (·.1)
   · rw [if_pos hm, List.map_cons, List.mem_cons]
     constructor
     · rintro (h | h)
       · exact .inl h
       · exact .inr (.inr h)
     · rintro (h | rfl | h)
       · exact .inl h
       · exact .inl hm
       · exact .inr h
   · rw [if_neg hm, List.map_cons, List.mem_cons, List.mem_append, List.mem_singleton]
     constructor
     · rintro ((h | h) | h)
       · exact .inl h
       · exact .inr (.inl h)
       · exact .inr (.inr h)
     · rintro (h | h | h)
       · exact .inl (.inl h)
       · exact .inl (.inr h)
       · exact .inr h
theorem addLoose_len : ∀ {ls : List (Int × Option (List UInt8))} {m : List (Int × AV)}, (addLoose m ls).length ≤ m.length + ls.length
 | [], m => by simp [addLoose]
 | p :: ls, m => by
   have ih := addLoose_len (ls := ls) (m := updM m p.1 nilAV)
   have e : addLoose m (p :: ls) = addLoose (updM m p.1 nilAV) ls := rfl
   have h1 : (updM m p.1 nilAV).length ≤ m.length + 1 := by
     have := congrArg List.length (keys_upd m p.1 nilAV)
     rw [List.length_map] at this
     rw [this]; split <;> simp
   rw [e, List.length_cons]; omega
theorem sortInts_lt {l : List Int} (h : l.Nodup) : (sortInts l).Pairwise (· < ·) := by
 have h1 : (sortInts l).Pairwise (fun x y => decide (x ≤ y) = true) := List.pairwise_mergeSort (fun a b c h1 h2 => by simp at *; omega) (fun a b => by simp; omega) l
 have h2 : (sortInts l).Nodup := (List.mergeSort_perm l _).nodup_iff.2 h
 have h3 := h1.and h2
 exact h3.imp (fun {a b} ⟨h, hn⟩ => by have := of_decide_eq_true h; omega)
def cellsAt (s : Fl) (ks : List Int) : List (Int × List UInt8) := (ks.map fun k => (k, lookB s k)).filter fun p => !blankB p.2
theorem cellsAt_snoc (s : Fl) (ks : List Int) (k : Int) : cellsAt s (ks ++ [k]) = cellsAt s ks ++ (if blankB (lookB s k) then [] else [(k, lookB s k)]) := by
 simp only [cellsAt, List.map_append, List.filter_append, List.map_cons, List.map_nil, List.filter_cons, List.filter_nil]
 cases blankB (lookB s k) <;> rfl
theorem intRows_flat (l : List Int) : (intRows l).flatten = intCells l := by
 induction l with
 | nil => rfl
 | cons x l ih => simp only [intRows, List.map_cons, List.flatten_cons, intCells] at *; rw [ih]; rfl
theorem intRows_row (l : List Int) : ∀ r ∈ intRows l, r.length = 1 := by
 intro r hr
 obtain ⟨p, _, rfl⟩ := List.mem_map.1 hr
 rfl
section
variable {f : Nat} {s : Fl} {D : List HP}
theorem cells_ok (h : OwnF f s D) (hw : s.WF) (hsl : s.safe.length < 1073741824) : ACalls Tryz.prog 58 [ptr f] D (fun r Δ => (∃ ks : List Int, ks.Pairwise (· < ·) ∧ (∀ k, k ∈ ks ↔ k ∈ s.safe.map (·.1) ∨ k ∈ s.loose.map (·.1)) ∧ r = .ret (.sl 2 (cellRows (cellsAt s ks)))) ∧ Δ = D) := by
 have hF := h
 obtain ⟨mb, v, L, how, rfl⟩ := h
 obtain ⟨av, cv, rfl⟩ := how.slice
 have hlen := hw.len
 have hsafe : (safeAV s.safe).map (·.1) = s.safe.map (·.1) := by simp [safeAV]
 have hsafel : (safeAV s.safe).length = s.safe.length := by simp [safeAV]
 refine jen cl_58 Tryz.func58 (h := ?_)
 refine J_have _ (fun g B sm => loose_box how sm) (fun hbox => ?_)
 refine jr (h := ?_)
 refine jcs (Δ1 := [_]) (Fr := _ :: L) (hs := (mclone_ok mb (mi kI (safeAV s.safe)))) (hp := (List.Perm.swap _ _ _)) (hk := ?_) (hpan := (by rintro x Δ' ⟨b, e, _⟩; cases e))
 rintro x Δ' ⟨b, e, rfl⟩
 cases e
 refine J_perm (Δ' := .map b (mi kI (safeAV s.safe)) :: .box f 118 (flCells s mb (.slice av s.loose.length cv)) :: .map mb (mi kI (safeAV s.safe)) :: L) (List.Perm.cons _ (List.Perm.swap _ _ _)) ?_
 refine jr (h := ?_)
 refine jk [0, 3, 18, 19, 20] (h := ?_)
 refine J_loopI (I := fun m e D => ∃ i : Nat, i ≤ s.loose.length ∧ m = s.loose.length - i ∧ D = .map b (mi kI (addLoose (safeAV s.safe) (s.loose.take i))) :: .box f 118 (flCells s mb (.slice av s.loose.length cv)) :: .map mb (mi kI (safeAV s.safe)) :: L ∧ e = [(0, ptr f), (3, .c (.map (some b))), (18, .c (.slice av s.loose.length cv)), (19, .c (.int .i64 s.loose.length)), (20, .c (.int .i64 i))]) ?_ ?_
 · exact ⟨_, 0, Nat.zero_le _, rfl, rfl, rfl⟩
 · rintro m e D ⟨i, hi, rfl, rfl, rfl⟩ ih
   refine jr (h := ?_)
   refine jif (h1 := fun hc => ?_) (h2 := fun hc => ?_)
   · have hlt : i < s.loose.length := by omega
     have g0 := List.getElem?_eq_getElem hlt
     have h0 : (0 : Int) ≤ (i : Int) := by omega
     rcases hbox with h | ⟨b9, sp, rfl, hne, hne', rfl, hcap⟩
     · rw [h] at hlt; simp at hlt
     have gr : (looseAV s.loose)[i]? = some (looseRow s.loose[i]) := by unfold looseAV; rw [List.getElem?_map, g0]; rfl
     have hgr := get_row (s := 2) (sp := sp) (row_len _) gr
     generalize hcells : (looseAV s.loose).flatten ++ sp = cells at *
     generalize ((looseAV s.loose).drop (i + 1)).flatten ++ sp = rest at hgr
     have hgr' : cells.drop (i * 2) = .c (.int .i64 s.loose[i].1) :: optAV s.loose[i].2 :: rest := hgr
     have h22 : (2 ≤ rest.length + 1 + 1) = True := by simp
     refine J_mrun (own := [5]) (m := 2000) (by simp (maxSteps := 2000000) (disch := omega) only [go_sem, ↓reduceIte, Int.reduceLT, Int.reduceLE, Int.reduceToNat, Int.reducePow, Int.reduceNeg, Nat.reduceBEq, Tryz.ntmps58, hgr', h22, hne, hne', List.length_cons, List.take_succ_cons, List.take_zero] <;> with_reducible rfl) ?_
     refine jnv (hh := fun b5 hb5 => ?_)
     simp only [fresh] at hb5
     refine jr (h := ?_)
     refine J_op0 rfl (update_op (k := s.loose[i].1) (l := addLoose (safeAV s.safe) (s.loose.take i)) (v := nilAV) rfl kI_ok mt (by simp only [go_sem] <;> rfl) (by simp only [go_sem] <;> rfl) (by simp only [go_sem] <;> rfl) (by simp only [go_sem])) ?_
     rintro _ _ ⟨rfl, rfl⟩
     simp only [setMap, if_true]
     refine J_drop ?_
     refine jr (h := ?_)
     refine jk [0, 3, 18, 19, 20] (h := ?_)
     refine ih _ _ _ ?_ ⟨i + 1, by omega, rfl, ?_, rfl⟩
     · omega
     · unfold addLoose; rw [List.take_add_one, g0, List.foldl_append]; rfl
   · have hi' : i = s.loose.length := by omega
     subst hi'
     rw [List.take_length]
     have hml : (addLoose (safeAV s.safe) s.loose).length < 2 ^ 36 := by
       have := addLoose_len (ls := s.loose) (m := safeAV s.safe)
       omega
     have hmn : ((addLoose (safeAV s.safe) s.loose).map (·.1)).Nodup := addLoose_nodup (by rw [hsafe]; exact hw.nodup)
     have hmm : ∀ k, k ∈ (addLoose (safeAV s.safe) s.loose).map (·.1) ↔ k ∈ s.safe.map (·.1) ∨ k ∈ s.loose.map (·.1) := fun k => by rw [addLoose_mem, hsafe]
     generalize addLoose (safeAV s.safe) s.loose = M at *
     refine jr (h := ?_)
     refine jc (hs := keys_ok b) (hk := ?_)
     refine jr (h := ?_)
     refine jcs (Δ1 := [_]) (Fr := _ :: _ :: L) (hs := (sorted_ok b M hml)) (hp := (List.Perm.refl _)) (hk := ?_) (hpan := (by rintro x Δ' ⟨v, pre, D, e, _⟩; cases e))
     rintro x Δ' ⟨v, pre, D, e, hperm, howk, rfl⟩
     cases e
     have hkn : pre.Nodup := hperm.nodup_iff.2 hmn
     have hks := sortInts_lt hkn
     have hkl : (sortInts pre).length = pre.length := by simp [sortInts]
     have hpl := hperm.length_eq
     rw [List.length_map] at hpl
     have hkm : ∀ k, k ∈ sortInts pre ↔ k ∈ s.safe.map (·.1) ∨ k ∈ s.loose.map (·.1) := fun k => by
       rw [← hmm k, ← hperm.mem_iff]; exact (List.mergeSort_perm pre _).mem_iff
     refine J_perm (Δ' := (.map b (mi kI M) :: .box f 118 (flCells s mb (.slice av s.loose.length cv)) :: .map mb (mi kI (safeAV s.safe)) :: L) ++ D) (by rw [List.append_assoc]; exact List.perm_append_comm) ?_
     refine J_freezeS (rows := intRows (sortInts pre)) (by rw [intRows_flat, intRows_len, hkl]; exact howk) (intRows_row _) (by rw [intRows_len, hkl]; unfold maxRows; omega) ?_
     refine J_is (t := 30) (by simp only [go_sem]) (List.mem_cons_self ..) (J_drop (J_drop ?_))
     have hks2 : (sortInts pre).length < 2 ^ 36 := by rw [hkl]; omega
     generalize sortInts pre = ks at *
     refine jr (h := ?_)
     have hcl : ∀ i, (cellsAt s (ks.take i)).length ≤ ks.length := fun i => by
       unfold cellsAt
       refine Nat.le_trans (List.length_filter_le _ _) ?_
       rw [List.length_map, List.length_take]; omega
     refine jk [0, 6, 30, 31, 32] (h := ?_)
     refine J_loopI (I := fun m e D => ∃ (i : Nat) (v6 : Value) (D6 : List HP), i ≤ ks.length ∧ m = ks.length - i ∧ Own 98 2 (cellRows (cellsAt s (ks.take i))).flatten (cellsAt s (ks.take i)).length v6 D6 ∧ D = .box f 118 (flCells s mb (.slice av s.loose.length cv)) :: .map mb (mi kI (safeAV s.safe)) :: (L ++ D6) ∧ e = [(0, ptr f), (6, .c v6), (30, .sl 1 (intRows ks)), (31, .c (.int .i64 ks.length)), (32, .c (.int .i64 i))]) ?_ ?_
     · exact ⟨_, 0, .slice none 0 0, [], Nat.zero_le _, rfl, .nil none rfl rfl, by rw [List.append_nil]; rfl, rfl⟩
     · rintro m e D ⟨i, v6, D6, hi2, rfl, how6, rfl, rfl⟩ ih2
       obtain ⟨a6, c6, rfl⟩ := how6.slice
       refine jr (h := ?_)
       refine jif (h1 := fun hc2 => ?_) (h2 := fun hc2 => ?_)
       · have hlt : i < ks.length := by omega
         have g0 := List.getElem?_eq_getElem hlt
         have g1 := int_get g0
         have h0 : (0 : Int) ≤ (i : Int) := by omega
         have hll := look_len hw ks[i]
         have hsn : cellsAt s (ks.take (i + 1)) = cellsAt s (ks.take i) ++ (if blankB (lookB s ks[i]) then [] else [(ks[i], lookB s ks[i])]) := by
           rw [List.take_add_one, g0]; exact cellsAt_snoc s _ _
         have hci := hcl i
         refine jf g1 (h := ?_)
         refine jcs (Δ1 := .box f 118 (flCells s mb (.slice av s.loose.length cv)) :: .map mb (mi kI (safeAV s.safe)) :: L) (Fr := D6) (hs := (look_ok hF hw ks[i])) (hp := (List.Perm.refl _)) (hk := ?_) (hpan := (by rintro x Δ' ⟨e, _⟩; cases e))
         rintro x Δ' ⟨e, rfl⟩
         cases e
         simp only [pageAV]
         refine jr (h := ?_)
         refine jc (hs := blank_ok (lookB s ks[i]) (by omega)) (hk := ?_)
         refine jr (h := ?_)
         cases hbl : blankB (lookB s ks[i]) with
         | true =>
           rw [hbl, if_pos rfl, List.append_nil] at hsn
           refine jn (h := ?_)
           refine jr (h := ?_)
           refine jk [0, 6, 30, 31, 32] (h := ?_)
           refine ih2 _ _ _ ?_ ⟨i + 1, _, D6, by omega, rfl, by rw [hsn]; exact how6, rfl, rfl⟩
           omega
         | false =>
           rw [hbl, if_neg (by decide)] at hsn
           refine jt (h := ?_)
           refine jr (own := [47]) (h := ?_)
           refine jap (Fr := .box f 118 (flCells s mb (.slice av s.loose.length cv)) :: .map mb (mi kI (safeAV s.safe)) :: L) (how := how6) (hp := (List.Perm.refl _)) (hsrc := (by simp only [go_sem, srcOf] <;> rfl)) (hc := (by rfl)) (hmax := (by omega)) (hk := ?_)
           rintro _ _ ⟨v7, D7, rfl, rfl, how7⟩
           refine jr (h := ?_)
           refine jk [0, 6, 30, 31, 32] (h := ?_)
           refine ih2 _ _ _ ?_ ⟨i + 1, v7, D7, by omega, rfl, ?_, rfl, rfl⟩
           · omega
           · rw [hsn]
             simp only [cellRows, List.map_append, List.flatten_append, List.length_append] at how7 ⊢
             exact how7
       · have hi' : i = ks.length := by omega
         subst hi'
         rw [List.take_length] at how6 ⊢
         refine jr (h := ?_)
         refine J_freezeS (rows := cellRows (cellsAt s ks)) (Fr := .box f 118 (flCells s mb (.slice av s.loose.length cv)) :: .map mb (mi kI (safeAV s.safe)) :: L) (by rw [cellRows_len]; exact how6) (cellRows_row _) (by rw [cellRows_len]; have := hcl ks.length; rw [List.take_length] at this; unfold maxRows; omega) ?_
         refine J_is (t := 2) (by simp only [go_sem] <;> rfl) (List.mem_cons_self ..) (J_drop ?_)
         refine jret Tryz.func58 (h := ⟨⟨ks, hks, hkm, rfl⟩, rfl⟩)
end
end
end Go.Proofs.YtdnhcpbammfmlaaGreatDoor
namespace Go.Proofs.YtdnhcpbammfmlaaGreatDoor
open Go Go.Av
section
structure SafeOK (pages : Int) (l : List (Int × List UInt8)) : Prop where
 nodup : (l.map (·.1)).Nodup
 page : ∀ p ∈ l, p.2.length = 256
 nb : ∀ p ∈ l, blankB p.2 = false
 rng : ∀ p ∈ l, 0 ≤ p.1 ∧ p.1 < pages
theorem SafeOK.pages {pages : Int} {l : List (Int × List UInt8)} (h : SafeOK pages l) : pagesOK l := ⟨h.nodup, h.page⟩
theorem updM_len {V : Type} (l : List (Int × V)) (k : Int) (v : V) : (updM l k v).length ≤ l.length + 1 := by
 have := congrArg List.length (keys_upd l k v)
 rw [List.length_map] at this
 rw [this]; split <;> simp
theorem settle_safe {pages : Int} {l : List (Int × List UInt8)} {at_ : Int} {o : Option (List UInt8)} {keep : Int} (h : SafeOK pages l) (ho : ∀ b, o = some b → b.length = 256) (ha : 0 ≤ at_ ∧ at_ < pages) :
   SafeOK pages (settleM l at_ o keep) ∧ (settleM l at_ o keep).length ≤ l.length + 1 := by
 have hp := settle_pages (keep := keep) (at_ := at_) h.pages ho
 have hdel : (∀ p ∈ delM l at_, blankB p.2 = false) ∧ (∀ p ∈ delM l at_, 0 ≤ p.1 ∧ p.1 < pages) ∧ (delM l at_).length ≤ l.length + 1 :=
   ⟨fun p hp => h.nb p ((del_sub l at_).subset hp), fun p hp => h.rng p ((del_sub l at_).subset hp), Nat.le_succ_of_le (del_sub l at_).length_le⟩
 suffices hs : (∀ p ∈ settleM l at_ o keep, blankB p.2 = false) ∧ (∀ p ∈ settleM l at_ o keep, 0 ≤ p.1 ∧ p.1 < pages) ∧ (settleM l at_ o keep).length ≤ l.length + 1 from
   ⟨⟨hp.1, hp.2, hs.1, hs.2.1⟩, hs.2.2⟩
 unfold settleM
 cases o with
 | none =>
   simp only; split
   · exact hdel
   · exact ⟨h.nb, h.rng, Nat.le_succ _⟩
 | some b =>
   simp only
   split
   · exact ⟨h.nb, h.rng, Nat.le_succ _⟩
   · split
     · exact hdel
     · rename_i hb
       refine ⟨fun p hp => ?_, fun p hp => ?_, updM_len _ _ _⟩
       · rcases mem_upd hp with rfl | hp
         · simpa using hb
         · exact h.nb p hp
       · rcases mem_upd hp with rfl | hp
         · exact ha
         · exact h.rng p hp
theorem settleAll_safe {pages : Int} : ∀ {ls : List (Int × Option (List UInt8))} {l : List (Int × List UInt8)}, SafeOK pages l → (∀ p ∈ ls, ∀ b, p.2 = some b → b.length = 256) → (∀ p ∈ ls, 0 ≤ p.1 ∧ p.1 < pages) →
   SafeOK pages (settleAll l ls) ∧ (settleAll l ls).length ≤ l.length + ls.length
 | [], l, h, _, _ => ⟨h, Nat.le_refl _⟩
 | p :: ls, l, h, h1, h2 => by
   have hs := settle_safe (keep := 256) h (h1 p (by simp)) (h2 p (by simp))
   have := settleAll_safe (ls := ls) hs.1 (fun q hq => h1 q (by simp [hq])) (fun q hq => h2 q (by simp [hq]))
   exact ⟨this.1, by have h3 := this.2; have h4 := hs.2; simp only [List.length_cons]; unfold settleAll at h3 ⊢; simp only [List.foldl_cons]; omega⟩
theorem settleKeep_safe {pages : Int} : ∀ {ls : List (Int × Option (List UInt8))} {ks : List Int} {l : List (Int × List UInt8)}, SafeOK pages l → (∀ p ∈ ls, ∀ b, p.2 = some b → b.length = 256) → (∀ p ∈ ls, 0 ≤ p.1 ∧ p.1 < pages) →
   SafeOK pages (settleKeep l ls ks) ∧ (settleKeep l ls ks).length ≤ l.length + ls.length
 | [], ks, l, h, _, _ => ⟨h, Nat.le_refl _⟩
 | p :: ls, [], l, h, _, _ => ⟨h, Nat.le_add_right _ _⟩
 | p :: ls, k :: ks, l, h, h1, h2 => by
   have hs := settle_safe (keep := k) h (h1 p (by simp)) (h2 p (by simp))
   have := settleKeep_safe (ls := ls) (ks := ks) hs.1 (fun q hq => h1 q (by simp [hq])) (fun q hq => h2 q (by simp [hq]))
   exact ⟨this.1, by have h3 := this.2; have h4 := hs.2; simp only [List.length_cons, settleKeep]; omega⟩
structure Fl.B (s : Fl) (n : Nat) : Prop where
 p1 : 1 ≤ s.pages
 p2 : s.pages ≤ 4096
 safe : SafeOK s.pages s.safe
 lpage : ∀ p ∈ s.loose, ∀ b, p.2 = some b → b.length = 256
 lrng : ∀ p ∈ s.loose, 0 ≤ p.1 ∧ p.1 < s.pages
 f1 : -1 ≤ s.fuse
 f2 : s.fuse < 9223372036854775808
 d1 : 0 ≤ s.done
 d2 : s.done ≤ n
 len : s.safe.length + s.loose.length ≤ n
theorem Fl.B.wf {s : Fl} {n : Nat} (h : s.B n) (hn : n < 1073741824) : s.WF :=
 ⟨h.p1, h.p2, h.safe.nodup, h.safe.page, h.lpage, h.f1, h.f2, h.d1, by have := h.d2; omega, by have := h.len; omega⟩
theorem Fl.B.small {s : Fl} {n : Nat} (h : s.B n) (hn : n < 1073741824) : s.safe.length < 1073741824 := by have := h.len; omega
theorem Fl.B.mono {s : Fl} {n m : Nat} (h : s.B n) (hm : n ≤ m) : s.B m :=
 { h with d2 := by have := h.d2; omega, len := Nat.le_trans h.len hm }
theorem newFl_B {p : Int} (h1 : 1 ≤ p) (h2 : p ≤ 4096) : (newFl p).B 0 :=
 ⟨h1, h2, ⟨by simp [newFl], by simp [newFl], by simp [newFl], by simp [newFl]⟩, by simp [newFl], by simp [newFl], by simp [newFl], by simp [newFl], by simp [newFl], by simp [newFl], by simp [newFl]⟩
theorem burnS_B {s : Fl} {n : Nat} (h : s.B n) : (burnS s).B (n + 1) := by
 have q1 := h.f1
 have q2 := h.f2
 have q3 := h.d1
 have q4 := h.d2
 unfold burnS
 split
 · exact { h with d1 := by show 0 ≤ s.done + 1; omega, d2 := by show s.done + 1 ≤ _; omega, len := Nat.le_succ_of_le h.len }
 · exact { h with f1 := by show -1 ≤ s.fuse - 1; omega, f2 := by show s.fuse - 1 < _; omega, d1 := by show 0 ≤ s.done + 1; omega, d2 := by show s.done + 1 ≤ _; omega, len := Nat.le_succ_of_le h.len }
theorem checkF_rng {s : Fl} {at_ : Int} (h : checkF s at_ = 0) : s.down = false ∧ 0 ≤ at_ ∧ at_ < s.pages := by
 unfold checkF at h
 split at h
 · cases h
 · split at h
   · cases h
   · rename_i h1 h2
     exact ⟨by simpa using h1, by omega, by omega⟩
theorem changeS_B {s : Fl} {n : Nat} (h : s.B n) {at_ : Int} {o : Option (List UInt8)} (hc : checkF s at_ = 0) (ho : ∀ b, o = some b → b.length = 256) : (changeS s at_ o).B (n + 1) := by
 obtain ⟨-, ha⟩ := checkF_rng hc
 unfold changeS
 have q1 := h.f1
 have q2 := h.f2
 have q3 := h.d1
 have q4 := h.d2
 have h2 : ∀ p ∈ s.loose ++ [(at_, o)], ∀ b, p.2 = some b → b.length = 256 := fun p hp => by
   rcases List.mem_append.1 hp with hp | hp
   · exact h.lpage p hp
   · rw [List.mem_singleton.1 hp]; exact ho
 have h3 : ∀ p ∈ s.loose ++ [(at_, o)], 0 ≤ p.1 ∧ p.1 < s.pages := fun p hp => by
   rcases List.mem_append.1 hp with hp | hp
   · exact h.lrng p hp
   · rw [List.mem_singleton.1 hp]; exact ha
 have h4 : s.safe.length + (s.loose ++ [(at_, o)]).length ≤ n + 1 := by have := h.len; simp only [List.length_append, List.length_cons, List.length_nil]; omega
 unfold burnS
 split
 · exact { h with lpage := h2, lrng := h3, d1 := by show 0 ≤ s.done + 1; omega, d2 := by show s.done + 1 ≤ _; omega, len := h4 }
 · exact { h with lpage := h2, lrng := h3, f1 := by show -1 ≤ s.fuse - 1; simp only [Int.not_lt] at *; omega, f2 := by show s.fuse - 1 < _; omega, d1 := by show 0 ≤ s.done + 1; omega, d2 := by show s.done + 1 ≤ _; omega, len := h4 }
theorem writeS_B {s : Fl} {n : Nat} (h : s.B n) (at_ : Int) (b : List UInt8) : (writeS s at_ b).B (n + 1) := by
 unfold writeS
 split
 · exact h.mono (Nat.le_succ _)
 · rename_i hc
   refine changeS_B h (by false_or_by_contra; rename_i h1; exact hc (.inl h1)) (fun b' hb => ?_)
   cases hb
   false_or_by_contra; rename_i h1; exact hc (.inr h1)
theorem trimS_B {s : Fl} {n : Nat} (h : s.B n) (at_ : Int) : (trimS s at_).B (n + 1) := by
 unfold trimS
 split
 · exact h.mono (Nat.le_succ _)
 · rename_i hc
   exact changeS_B h (by false_or_by_contra; rename_i h1; exact hc h1) (fun b' hb => by cases hb)
theorem flushS_B {s : Fl} {n : Nat} (h : s.B n) : (flushS s).B (n + 1) := by
 unfold flushS
 split
 · exact h.mono (Nat.le_succ _)
 · split
   · exact burnS_B h
   · have hb := burnS_B h
     have hs := settleAll_safe (ls := s.loose) h.safe h.lpage h.lrng
     have e := burnS_pages s
     have := h.len
     exact { hb with safe := by show SafeOK (burnS s).pages _; rw [e]; exact hs.1, lpage := (fun p hp => by cases hp), lrng := (fun p hp => by cases hp), len := by have := hs.2; show (settleAll s.safe s.loose).length + 0 ≤ _; omega }
theorem crashS_B {s : Fl} {n : Nat} (h : s.B n) (keep : List Int) : (crashS s keep).B n := by
 have hs := settleKeep_safe (ls := s.loose) (ks := keep) h.safe h.lpage h.lrng
 have := h.len
 exact { h with safe := hs.1, lpage := (fun p hp => by cases hp), lrng := (fun p hp => by cases hp), f1 := by show (-1 : Int) ≤ -1; omega, f2 := by show (-1 : Int) < _; omega, len := by have := hs.2; show (settleKeep s.safe s.loose keep).length + 0 ≤ _; omega }
theorem fuseS_B {s : Fl} {n : Nat} (h : s.B n) {k : Int} (hk : k < 9223372036854775808) : (fuseS s k).B n :=
 { h with f1 := by show -1 ≤ max k (-1); omega, f2 := by show max k (-1) < _; omega }
theorem sorted_ext : ∀ {l m : List Int}, l.Pairwise (· < ·) → m.Pairwise (· < ·) → (∀ k, k ∈ l ↔ k ∈ m) → l = m
 | [], [], _, _, _ => rfl
 | [], b :: m, _, _, h => by have := (h b).2 (by simp); cases this
 | a :: l, [], _, _, h => by have := (h a).1 (by simp); cases this
 | a :: l, b :: m, hl, hm, h => by
   obtain ⟨h1, h2⟩ := List.pairwise_cons.1 hl
   obtain ⟨h3, h4⟩ := List.pairwise_cons.1 hm
   have hab : a = b := by
     have e1 := (h a).1 (by simp)
     have e2 := (h b).2 (by simp)
     rcases List.mem_cons.1 e1 with e | e1
     · exact e
     rcases List.mem_cons.1 e2 with e | e2
     · exact e.symm
     have := h3 a e1
     have := h1 b e2
     omega
   subst hab
   congr 1
   refine sorted_ext h2 h4 fun k => ⟨fun hk => ?_, fun hk => ?_⟩
   · rcases List.mem_cons.1 ((h k).1 (by simp [hk])) with e | e
     · have := h1 k hk; omega
     · exact e
   · rcases List.mem_cons.1 ((h k).2 (by simp [hk])) with e | e
     · have := h3 k hk; omega
     · exact e
def dedup : List Int → List Int
 | [] => []
 | x :: l => if x ∈ dedup l then dedup l else x :: dedup l
theorem dedup_mem {k : Int} : ∀ {l : List Int}, k ∈ dedup l ↔ k ∈ l
 | [] => Iff.rfl
 | x :: l => by
   unfold dedup
   split
   · rename_i h; rw [dedup_mem, List.mem_cons]
     exact ⟨.inr, fun h' => h'.elim (fun e => by rw [e]; exact dedup_mem.1 h) id⟩
   · rw [List.mem_cons, List.mem_cons, dedup_mem]
theorem dedup_nodup : ∀ {l : List Int}, (dedup l).Nodup
 | [] => List.Pairwise.nil
 | x :: l => by
   unfold dedup
   split
   · exact dedup_nodup
   · rename_i h; exact List.nodup_cons.2 ⟨h, dedup_nodup⟩
def keysF (s : Fl) : List Int := sortInts (dedup (s.safe.map (·.1) ++ s.loose.map (·.1)))
theorem keysF_lt (s : Fl) : (keysF s).Pairwise (· < ·) := sortInts_lt dedup_nodup
theorem keysF_mem (s : Fl) (k : Int) : k ∈ keysF s ↔ k ∈ s.safe.map (·.1) ∨ k ∈ s.loose.map (·.1) := by
 unfold keysF sortInts
 rw [(List.mergeSort_perm _ _).mem_iff, dedup_mem, List.mem_append]
def cellsF (s : Fl) : List (Int × List UInt8) := cellsAt s (keysF s)
theorem keysF_len {s : Fl} {n : Nat} (h : s.B n) : (keysF s).length ≤ n := by
 have h1 : ∀ l : List Int, (dedup l).length ≤ l.length := fun l => by
   induction l with
   | nil => exact Nat.le_refl _
   | cons x l ih => unfold dedup; split <;> simp only [List.length_cons] <;> omega
 have h2 := h1 (s.safe.map (·.1) ++ s.loose.map (·.1))
 have h3 := h.len
 have h4 : (keysF s).length = (dedup (s.safe.map (·.1) ++ s.loose.map (·.1))).length := (List.mergeSort_perm _ _).length_eq
 rw [h4]
 simp only [List.length_append, List.length_map] at h2
 omega
theorem cellsF_len {s : Fl} {n : Nat} (h : s.B n) : (cellsF s).length ≤ n := by
 unfold cellsF cellsAt
 refine Nat.le_trans (List.length_filter_le _ _) ?_
 rw [List.length_map]; exact keysF_len h
theorem cellsF_page {s : Fl} (hw : s.WF) : ∀ p ∈ cellsF s, p.2.length = 256 := by
 intro p hp
 obtain ⟨k, -, rfl⟩ := List.mem_map.1 (List.mem_filter.1 hp).1
 exact look_len hw k
theorem cellsF_ok {f : Nat} {s : Fl} {D : List HP} (h : OwnF f s D) (hw : s.WF) (hsl : s.safe.length < 1073741824) : ACalls Tryz.prog 58 [ptr f] D (fun r Δ => r = .ret (.sl 2 (cellRows (cellsF s))) ∧ Δ = D) :=
 (cells_ok h hw hsl).mono fun a Δ ⟨⟨ks, h1, h2, h3⟩, h4⟩ => by
   rw [sorted_ext h1 (keysF_lt s) (fun k => (h2 k).trans (keysF_mem s k).symm)] at h3
   exact ⟨h3, h4⟩
end
section
attribute [local go_sem] packed List.set_cons_zero List.set_cons_succ List.cons_append List.nil_append bytesRows_length cellRows_len
attribute [-go_sem] cellsOf AV.isCell
attribute [local go_sem] cellsOf_agg cellsOf_int cellsOf_bool cellsOf_str cellsOf_map cellsOf_ptr cellsOf_nilI cellsOf_slice cellsOf_sl cellsOf_ifc cellsOf_fp cellsOf_opt optAV_cell icell_int icell_bool icell_str icell_map icell_ptr icell_nilI icell_slice icell_sl icell_ifc icell_fp
abbrev tbox (t f : Nat) (next : Int) : HP := .box t 114 [ptr f, .c (.int .i64 next)]
def stepN (n : Int) (c : Int × List UInt8) : Int := max (max n ((stampsB c.2).1 + 1)) ((stampsB c.2).2 + 1)
def nextF (s : Fl) : Int := (cellsF s).foldl stepN 1
theorem fitN_le (n : UInt64) : fitN n ≤ 1099511627776 := by unfold fitN; split <;> omega
theorem stampsB_le (b : List UInt8) : (stampsB b).1 ≤ 1099511627776 ∧ (stampsB b).2 ≤ 1099511627776 := by
 unfold stampsB; split
 · exact ⟨fitN_le _, fitN_le _⟩
 · exact ⟨by simp, by simp⟩
theorem stepN_bd {n : Int} (c : Int × List UInt8) (h : 1 ≤ n ∧ n ≤ 1099511627777) : 1 ≤ stepN n c ∧ stepN n c ≤ 1099511627777 := by
 have := stampsB_le c.2
 unfold stepN; omega
theorem foldN_bd : ∀ (l : List (Int × List UInt8)) {n : Int}, 1 ≤ n ∧ n ≤ 1099511627777 → 1 ≤ l.foldl stepN n ∧ l.foldl stepN n ≤ 1099511627777
 | [], _, h => h
 | c :: l, _, h => foldN_bd l (stepN_bd c h)
theorem cellRows_get {l : List (Int × List UInt8)} {i : Nat} {p : Int × List UInt8} (h : l[i]? = some p) : (cellRows l)[i]? = some [.c (.int .i64 p.1), .sl 1 (bytesRows p.2)] := by simp [cellRows, h, cellRow]
section
variable {f : Nat} {s : Fl} {D : List HP}
theorem topen_ok (h : OwnF f s D) (hw : s.WF) (hsl : s.safe.length < 1073741824) (hd : s.down = false) (hcl : (cellsF s).length < 1073741824) : ACalls Tryz.prog 26 [ptr f] D (fun r D' => ∃ t, r = .ret (.tup [ptr t, .c .nilIface]) ∧ D' = tbox t f (nextF s) :: D) := by
 refine jen cl_26 Tryz.func26 (h := ?_)
 refine jr (h := ?_)
 refine jn (h := ?_)
 refine jr (h := ?_)
 refine jcs (Fr := []) (hs := (down_ok h)) (hp := (by simp)) (hk := ?_) (hpan := (by rintro x Δ' ⟨e, _⟩; cases e))
 rintro x D ⟨e, rfl⟩
 cases e
 rw [List.append_nil]
 refine jf hd (h := ?_)
 refine jn (h := ?_)
 refine jr (own := [19]) (h := ?_)
 refine jnb (hh := fun t ht => ?_)
 refine jr (h := ?_)
 refine jcs (Δ1 := D) (Fr := [_]) (hs := (cellsF_ok h hw hsl)) (hp := (List.perm_append_comm (l₁ := [_]))) (hk := ?_) (hpan := (by rintro x Δ' ⟨e, _⟩; cases e))
 rintro x D ⟨e, rfl⟩
 cases e
 refine J_perm List.perm_append_comm ?_
 have hpg := cellsF_page hw
 have hnx : nextF s = (cellsF s).foldl stepN 1 := rfl
 rw [hnx]
 generalize cellsF s = cs at *
 refine jr (h := ?_)
 refine jk [4, 21, 22, 23] (h := ?_)
 refine J_loopI (I := fun m e D' => ∃ i : Nat, i ≤ cs.length ∧ m = cs.length - i ∧ D' = tbox t f ((cs.take i).foldl stepN 1) :: D ∧ e = [(4, ptr t), (21, .sl 2 (cellRows cs)), (22, .c (.int .i64 cs.length)), (23, .c (.int .i64 i))]) ?_ ?_
 · exact ⟨_, 0, Nat.zero_le _, rfl, rfl, rfl⟩
 · rintro m e D' ⟨i, hi, rfl, rfl, rfl⟩ ih
   refine jr (h := ?_)
   refine jif (h1 := fun hc => ?_) (h2 := fun hc => ?_)
   · have hlt : i < cs.length := by omega
     have g0 := List.getElem?_eq_getElem hlt
     have g1 := cellRows_get g0
     have h0 : (0 : Int) ≤ (i : Int) := by omega
     have hb := hpg _ (List.getElem_mem hlt)
     have hst := stampsB_le cs[i].2
     have hbd := foldN_bd (cs.take i) (n := 1) (by decide)
     refine jf (own := [6]) g1 (h := ?_)
     refine jnv (hh := fun b6 hb6 => ?_)
     simp only [fresh] at hb6
     refine jf hb6 (h := ?_)
     refine jc (hs := stamps_ok cs[i].2 (by omega)) (hk := ?_)
     refine jf hb6 (h := ?_)
     refine J_drop ?_
     refine jk [4, 21, 22, 23] (h := ?_)
     refine ih _ _ _ ?_ ⟨i + 1, by omega, rfl, ?_, rfl⟩
     · omega
     · rw [List.take_add_one, g0, List.foldl_append]; rfl
   · have hi' : i = cs.length := by omega
     subst hi'
     rw [List.take_length]
     refine jr (h := ?_)
     refine jret Tryz.func26 (h := ⟨t, rfl, rfl⟩)
variable {t : Nat} {n : Int}
def tputC (s : Fl) (n at_ kd : Int) (b : List UInt8) : Int := if checkC n kd b.length ≠ 0 then checkC n kd b.length else writeC s at_ 256
def tputS (s : Fl) (n at_ kd : Int) (b : List UInt8) : Fl := if checkC n kd b.length ≠ 0 then s else writeS s at_ (putB n.toNat kd.toNat b)
def tputN (s : Fl) (n at_ kd : Int) (b : List UInt8) : Int := if tputC s n at_ kd b = 0 then n + 1 else n
theorem checkC_zero {st kd : Int} {n : Nat} (h : checkC st kd n = 0) : (1 ≤ st ∧ st ≤ 1099511627776) ∧ (1 ≤ kd ∧ kd ≤ 5) ∧ n ≤ 233 := by
 unfold checkC at h
 split at h
 · cases h
 · split at h
   · cases h
   · split at h
     · cases h
     · omega
theorem tput_ok (h : OwnF f s D) (hw : s.WF) (hn : n < 4611686018427387904) (at_ kd : Int) (b : List UInt8) (hb : b.length < 2 ^ 37) : ACalls Tryz.prog 52 [ptr t, .c (.int .i64 at_), .c (.int .i64 kd), .sl 1 (bytesRows b)] (tbox t f n :: D)
   (fun r D' => ∃ e D1, r = .ret e ∧ IsErr e (tputC s n at_ kd b) ∧ (tputC s n at_ kd b = 0 → e = .c .nilIface) ∧ OwnF f (tputS s n at_ kd b) D1 ∧ D' = tbox t f (tputN s n at_ kd b) :: D1) := by
 by_cases hc : checkC n kd b.length = 0
 rotate_left
 · have hC : tputC s n at_ kd b = checkC n kd b.length := by unfold tputC; rw [if_pos hc]
   have hS : tputS s n at_ kd b = s := by unfold tputS; rw [if_pos hc]
   have hN : tputN s n at_ kd b = n := by unfold tputN; rw [hC, if_neg hc]
   rw [hC, hS, hN]
   have hpe := put_err n kd b hb hc
   unfold leafAV at hpe
   refine jen cl_52 Tryz.func52 (h := ?_)
   refine jr (h := ?_)
   refine jcs (Δ1 := []) (Fr := _ :: D) (hs := hpe) (hp := (List.Perm.refl _)) (hk := ?_) (hpan := (by rintro x Δ' ⟨⟨e, h, _⟩, _⟩; cases h))
   rintro x Δ' ⟨⟨e, h1, he⟩, rfl⟩
   cases h1
   obtain ⟨y, z, rfl⟩ := iserr_ne he hc
   refine J_mrun (own := []) (m := 2000) (by simp (maxSteps := 2000000) (disch := omega) only [go_sem, ↓reduceIte, Int.reduceLT, Int.reduceLE, Int.reduceToNat, Int.reducePow, Int.reduceNeg, Nat.reduceBEq, Tryz.ntmps52, anil] <;> with_reducible rfl) ?_
   refine jt (h := ?_)
   refine jr (h := ?_)
   refine jcs (Δ1 := []) (Fr := _ :: D) (hs := (wrapS_ok _ _ he)) (hp := (List.Perm.refl _)) (hk := ?_) (hpan := (by rintro x Δ' ⟨⟨e, h, _⟩, _⟩; cases h))
   rintro x Δ' ⟨⟨e, h2, he'⟩, rfl⟩
   cases h2
   refine jr (h := ?_)
   refine jret Tryz.func52 (h := ⟨_, D, rfl, he', fun h => absurd h hc, h, rfl⟩)
 · obtain ⟨⟨h1, h2⟩, ⟨h3, h4⟩, h5⟩ := checkC_zero hc
   have hC : tputC s n at_ kd b = writeC s at_ 256 := by unfold tputC; rw [if_neg (by simp [hc])]
   have hS : tputS s n at_ kd b = writeS s at_ (putB n.toNat kd.toNat b) := by unfold tputS; rw [if_neg (by simp [hc])]
   have hN : tputN s n at_ kd b = if writeC s at_ 256 = 0 then n + 1 else n := by unfold tputN; rw [hC]
   rw [hC, hS, hN]
   have hpl := putB_len n.toNat kd.toNat b h5
   have hp := put_ok n.toNat kd.toNat b (by omega) (by omega) (by omega) (by omega) h5
   rw [show ((n.toNat : Nat) : Int) = n from by omega, show ((kd.toNat : Nat) : Int) = kd from by omega] at hp
   unfold leafAV at hp
   have hwr := write_ok h hw at_ (putB n.toNat kd.toNat b) (by omega)
   rw [hpl] at hwr
   refine jen cl_52 Tryz.func52 (h := ?_)
   refine jr (h := ?_)
   refine jc (hs := hp) (hk := ?_)
   refine J_mrun (own := []) (m := 2000) (by simp (maxSteps := 2000000) (disch := omega) only [go_sem, ↓reduceIte, Int.reduceLT, Int.reduceLE, Int.reduceToNat, Int.reducePow, Int.reduceNeg, Nat.reduceBEq, Tryz.ntmps52, anil] <;> with_reducible rfl) ?_
   refine jn (h := ?_)
   refine jr (h := ?_)
   refine jcs (Δ1 := D) (Fr := [_]) (hs := hwr) (hp := (List.perm_append_comm (l₁ := [_]))) (hk := ?_) (hpan := (by rintro x Δ' ⟨e, h, _⟩; cases h))
   rintro x D2 ⟨e, h6, he, hz, hO⟩
   cases h6
   refine J_perm List.perm_append_comm ?_
   by_cases hw0 : writeC s at_ 256 = 0
   · obtain rfl := hz hw0
     rw [if_pos hw0]
     refine jr (h := ?_)
     refine jn (h := ?_)
     refine jr (h := ?_)
     refine jret Tryz.func52 (h := ⟨_, D2, rfl, he, fun _ => rfl, hO, rfl⟩)
   · rw [if_neg hw0]
     obtain ⟨y, z, rfl⟩ := iserr_ne he hw0
     refine jr (h := ?_)
     refine jt (h := ?_)
     refine jr (h := ?_)
     refine jcs (Δ1 := []) (Fr := _ :: D2) (hs := (wrapS_ok _ _ he)) (hp := (List.Perm.refl _)) (hk := ?_) (hpan := (by rintro x Δ' ⟨⟨e, h, _⟩, _⟩; cases h))
     rintro x Δ' ⟨⟨e, h2, he'⟩, rfl⟩
     cases h2
     refine jr (h := ?_)
     refine jret Tryz.func52 (h := ⟨_, D2, rfl, he', fun h => absurd h hw0, hO, rfl⟩)
def tfirmC (s : Fl) (n at_ kd : Int) (b : List UInt8) : Int := if tputC s n at_ kd b ≠ 0 then tputC s n at_ kd b else flushC (tputS s n at_ kd b)
def tfirmS (s : Fl) (n at_ kd : Int) (b : List UInt8) : Fl := if tputC s n at_ kd b ≠ 0 then tputS s n at_ kd b else flushS (tputS s n at_ kd b)
theorem iserr_zero {e : AV} (h : IsErr e 0) : e = .c .nilIface := by
 cases h with
 | none => rfl
 | code _ _ _ h => exact absurd rfl h
 | under _ _ _ _ h => exact absurd rfl h
def tgetC (s : Fl) (at_ kd : Int) : Int := if checkF s at_ ≠ 0 then checkF s at_ else if getC (lookB s at_) ≠ 0 then getC (lookB s at_) else if (kdB (lookB s at_) : Int) ≠ kd then 12 else 0
end
end
section
theorem beStep_nat (n : UInt64) (c : UInt8) : (beStep n c).toNat = (n.toNat * 256) % 2 ^ 64 + c.toNat := by
 unfold beStep
 have hc := c.toNat_lt
 rw [UInt64.toNat_or, UInt64.toNat_shiftLeft, UInt8.toNat_toUInt64]
 have e1 : n.toNat <<< (UInt64.toNat 8 % 64) % 2 ^ 64 = ((n.toNat % 2 ^ 56) * 256) := by
   rw [Nat.shiftLeft_eq]
   show n.toNat * 256 % 2 ^ 64 = _
   omega
 have e2 : n.toNat * 256 % 2 ^ 64 = ((n.toNat % 2 ^ 56) * 256) := by omega
 rw [e1, e2]
 have := Nat.shiftLeft_add_eq_or_of_lt (i := 8) (b := c.toNat) (by omega) (n.toNat % 2 ^ 56)
 rw [Nat.shiftLeft_eq] at this
 exact this.symm
theorem be8_word (n : Nat) (hn : n < 2 ^ 64) : (be8 (word8 n)).toNat = n := by
 unfold be8 word8
 simp only [List.foldl_cons, List.foldl_nil, beStep_nat, UInt8.toNat_ofNat']
 simp only [UInt64.toNat_zero]
 omega
theorem fit_word (n : Nat) (hn : n ≤ 1099511627776) : fitN (be8 (word8 n)) = n := by
 unfold fitN; rw [be8_word n (by omega), if_neg (by omega)]
theorem word8_len (n : Nat) : (word8 n).length = 8 := rfl
theorem put_take8 (st kd : Nat) (b : List UInt8) : (putB st kd b).take 8 = word8 st := by
 unfold putB sealB bodyB headB; simp only [List.append_assoc]; rw [List.take_left' (word8_len st)]
theorem put_take248 (st kd : Nat) (b : List UInt8) (h : b.length ≤ 233) : (putB st kd b).take 248 = sealB (bodyB st kd b) := by
 unfold putB; rw [List.take_left' (by rw [sealB_len, bodyB_len _ _ _ h])]
theorem put_drop248 (st kd : Nat) (b : List UInt8) (h : b.length ≤ 233) : (putB st kd b).drop 248 = word8 st := by
 unfold putB; rw [List.drop_left' (by rw [sealB_len, bodyB_len _ _ _ h])]
theorem put_fits (st kd : Nat) (b : List UInt8) (h : b.length ≤ 233) : fitsB ((putB st kd b).take 248) = true := by
 have hl := bodyB_len st kd b h
 rw [put_take248 _ _ _ h]
 unfold fitsB
 rw [if_neg (by rw [sealB_len]; omega), sealB_len, hl]
 unfold sealB
 rw [List.take_left' (by omega), List.drop_left' (by omega)]
 simp
theorem put_split (st kd : Nat) (b : List UInt8) : ∃ r, putB st kd b = word8 st ++ ([UInt8.ofNat kd, UInt8.ofNat (b.length / 256), UInt8.ofNat b.length] ++ (b ++ (List.replicate (233 - b.length) 0 ++ r))) := by
 refine ⟨four (crc (bodyB st kd b)) ++ word8 st, ?_⟩
 unfold putB sealB
 conv => lhs; arg 1; arg 1; unfold bodyB
 rw [headB_len, show 244 - (11 + b.length) = 233 - b.length from by omega]
 unfold headB
 simp only [List.append_assoc]
theorem put_n (st kd : Nat) (b : List UInt8) (h : b.length ≤ 233) : nB (putB st kd b) = b.length := by
 obtain ⟨r, e⟩ := put_split st kd b
 rw [e]
 unfold nB word8
 simp only [List.cons_append, List.nil_append, List.getD_cons_succ, List.getD_cons_zero, UInt8.toNat_ofNat']
 omega
theorem put_kd (st kd : Nat) (b : List UInt8) (h : kd ≤ 5) : kdB (putB st kd b) = kd := by
 obtain ⟨r, e⟩ := put_split st kd b
 rw [e]
 unfold kdB word8
 simp only [List.cons_append, List.nil_append, List.getD_cons_succ, List.getD_cons_zero, UInt8.toNat_ofNat']
 omega
theorem put_drop11 (st kd : Nat) (b : List UInt8) : ∃ r, (putB st kd b).drop 11 = b ++ (List.replicate (233 - b.length) 0 ++ r) := by
 obtain ⟨r, e⟩ := put_split st kd b
 exact ⟨r, by rw [e]; rfl⟩
theorem put_txt (st kd : Nat) (b : List UInt8) (h : b.length ≤ 233) : txtB (putB st kd b) = b := by
 obtain ⟨r, e⟩ := put_drop11 st kd b
 unfold txtB
 rw [put_n _ _ _ h, e, List.take_left]
theorem blank_zeros (n : Nat) : blankB (List.replicate n 0) = true := by
 unfold blankB; rw [List.all_eq_true]; intro x hx; rw [List.eq_of_mem_replicate hx]; rfl
theorem put_rest (st kd : Nat) (b : List UInt8) (h : b.length ≤ 233) : blankB (restB (putB st kd b)) = true := by
 obtain ⟨r, e⟩ := put_drop11 st kd b
 unfold restB
 rw [put_n _ _ _ h, ← List.drop_drop, e, List.drop_left, List.take_left' (by simp)]
 exact blank_zeros _
theorem put_stamps (st kd : Nat) (b : List UInt8) (hs : st ≤ 1099511627776) (h : b.length ≤ 233) : stampsB (putB st kd b) = (st, st) := by
 unfold stampsB
 rw [if_pos (putB_len _ _ _ h), put_take8, put_drop248 _ _ _ h, fit_word _ hs]
theorem put_getC (st kd : Nat) (b : List UInt8) (h1 : 1 ≤ st) (hs : st ≤ 1099511627776) (h2 : 1 ≤ kd) (hk : kd ≤ 5) (h : b.length ≤ 233) : getC (putB st kd b) = 0 := by
 unfold getC
 rw [put_stamps _ _ _ hs h, put_n _ _ _ h, put_kd _ _ _ hk, put_take8, put_drop248 _ _ _ h, put_fits _ _ _ h, put_rest _ _ _ h, putB_len _ _ _ h]
 rw [if_neg (by simp), if_neg (by simp), if_neg (by simp only; omega), if_neg (by simp), if_neg (by omega), if_neg (by unfold checkC; rw [if_neg (by simp only; omega), if_neg (by omega), if_neg (by omega)]; simp), if_neg (by simp)]
theorem blank_of_word {l : List UInt8} {n : Nat} (h : l.take 8 = word8 n) (h1 : 1 ≤ n) (h2 : n < 2 ^ 64) : blankB l = false := by
 cases hb : blankB l with
 | false => rfl
 | true =>
   unfold blankB at hb
   rw [List.all_eq_true] at hb
   have hz : be8 (l.take 8) = 0 := by
     have : l.take 8 = List.replicate (l.take 8).length 0 := List.eq_replicate_of_mem fun x hx => by simpa using hb x (List.take_subset _ _ hx)
     rw [h] at this ⊢
     rw [this]; rfl
   rw [h] at hz
   have := be8_word n h2
   rw [hz] at this
   simp at this
   omega
theorem put_blank (st kd : Nat) (b : List UInt8) (h1 : 1 ≤ st) (h2 : st < 2 ^ 64) : blankB (putB st kd b) = false := blank_of_word (put_take8 _ _ _) h1 h2
theorem tputS_B {s : Fl} {m : Nat} (h : s.B m) (n at_ kd : Int) (b : List UInt8) : (tputS s n at_ kd b).B (m + 1) := by
 unfold tputS; split
 · exact h.mono (Nat.le_succ _)
 · exact writeS_B h _ _
theorem tfirmS_B {s : Fl} {m : Nat} (h : s.B m) (n at_ kd : Int) (b : List UInt8) : (tfirmS s n at_ kd b).B (m + 2) := by
 unfold tfirmS; split
 · exact (tputS_B h _ _ _ _).mono (Nat.le_succ _)
 · exact flushS_B (tputS_B h _ _ _ _)
theorem cellsF_new (p : Int) : cellsF (newFl p) = [] := by unfold cellsF keysF; simp [newFl, dedup, sortInts, cellsAt]
theorem firm_new {p at_ : Int} {kd : Nat} {a : List UInt8} (h1 : 1 ≤ p) (h2 : 0 ≤ at_ ∧ at_ < p) (hk : 1 ≤ kd ∧ kd ≤ 5) (ha : a.length ≤ 233) :
   tfirmC (newFl p) 1 at_ kd a = 0 ∧ tputN (newFl p) 1 at_ kd a = 2 ∧ tfirmS (newFl p) 1 at_ kd a = ⟨p, [(at_, putB 1 kd a)], [], -1, false, 2⟩ := by
 have hc : checkF (newFl p) at_ = 0 := by
   unfold checkF newFl; rw [if_neg (by simp), if_neg (by simp only; omega)]
 have hck : checkC 1 kd a.length = 0 := by unfold checkC; rw [if_neg (by omega), if_neg (by omega), if_neg (by omega)]
 have hC : tputC (newFl p) 1 at_ kd a = 0 := by
   unfold tputC writeC changeC; rw [hck, hc]; rfl
 have hl := putB_len 1 kd a ha
 have hS : tputS (newFl p) 1 at_ kd a = ⟨p, [], [(at_, some (putB 1 kd a))], -1, false, 1⟩ := by
   unfold tputS writeS; rw [if_neg (by rw [hck]; simp), if_neg (by rw [hc]; simp [hl])]; rfl
 have hf : tfirmC (newFl p) 1 at_ kd a = 0 := by
   unfold tfirmC; rw [if_neg (by simp [hC]), hS]; rfl
 refine ⟨hf, by unfold tputN; rw [if_pos hC]; rfl, ?_⟩
 unfold tfirmS
 rw [if_neg (by simp [hC]), hS]
 have hset : settleM [] at_ (some (putB 1 kd a)) 256 = [(at_, putB 1 kd a)] := by
   unfold settleM
   simp only
   rw [if_neg (by omega)]
   have e1 : (min 256 256 : Int).toNat = 256 := rfl
   rw [e1, List.take_of_length_le (by omega), List.drop_eq_nil_of_le (by simp [pageOr, findM, z256]), List.append_nil, put_blank _ _ _ (by omega) (by omega)]
   rfl
 unfold flushS settleAll
 simp only [List.foldl_cons, List.foldl_nil, hset]
 rfl
end
section
attribute [local go_sem] packed List.set_cons_zero List.set_cons_succ List.cons_append List.nil_append bytesRows_length
attribute [-go_sem] cellsOf AV.isCell
attribute [local go_sem] cellsOf_agg cellsOf_int cellsOf_bool cellsOf_str cellsOf_map cellsOf_ptr cellsOf_nilI cellsOf_slice cellsOf_sl cellsOf_ifc cellsOf_fp cellsOf_opt optAV_cell icell_int icell_bool icell_str icell_map icell_ptr icell_nilI icell_slice icell_sl icell_ifc icell_fp

end
section

end
section
attribute [local go_sem] packed List.set_cons_zero List.set_cons_succ List.cons_append List.nil_append bytesRows_length
attribute [-go_sem] cellsOf AV.isCell
attribute [local go_sem] cellsOf_agg cellsOf_int cellsOf_bool cellsOf_str cellsOf_map cellsOf_ptr cellsOf_nilI cellsOf_slice cellsOf_sl cellsOf_ifc cellsOf_fp cellsOf_opt optAV_cell icell_int icell_bool icell_str icell_map icell_ptr icell_nilI icell_slice icell_sl icell_ifc icell_fp

end
section
attribute [local go_sem] packed List.set_cons_zero List.set_cons_succ List.cons_append List.nil_append bytesRows_length

end
section
attribute [local go_sem] packed List.set_cons_zero List.set_cons_succ List.cons_append List.nil_append bytesRows_length leafAV
attribute [-go_sem] cellsOf AV.isCell
attribute [local go_sem] cellsOf_agg cellsOf_int cellsOf_bool cellsOf_str cellsOf_map cellsOf_ptr cellsOf_nilI cellsOf_slice cellsOf_sl cellsOf_ifc cellsOf_fp cellsOf_opt optAV_cell icell_int icell_bool icell_str icell_map icell_ptr icell_nilI icell_slice icell_sl icell_ifc icell_fp

end
section
attribute [local go_sem] packed List.set_cons_zero List.set_cons_succ List.cons_append List.nil_append bytesRows_length leafAV
attribute [-go_sem] cellsOf AV.isCell
attribute [local go_sem] cellsOf_agg cellsOf_int cellsOf_bool cellsOf_str cellsOf_map cellsOf_ptr cellsOf_nilI cellsOf_slice cellsOf_sl cellsOf_ifc cellsOf_fp cellsOf_opt optAV_cell icell_int icell_bool icell_str icell_map icell_ptr icell_nilI icell_slice icell_sl icell_ifc icell_fp

end
section
def chRow (p : Int × Option (List UInt8)) : List AV := [.c (.int .i64 p.1), .sl 1 (bytesRows (p.2.getD [])), .c (.bool p.2.isNone)]
def chRows (l : List (Int × Option (List UInt8))) : List (List AV) := l.map chRow
theorem chRows_len (l : List (Int × Option (List UInt8))) : (chRows l).length = l.length := by simp [chRows]
def rCells (r : Fl) : List AV := [.c (.int .i64 r.pages), .sl 2 (cellRows r.safe), .sl 3 (chRows r.loose), .c (.int .i64 r.fuse), .c (.bool r.down), .c (.int .i64 r.done)]
attribute [local go_sem] packed List.set_cons_zero List.set_cons_succ List.cons_append List.nil_append bytesRows_length cellRows_len chRows_len rCells
attribute [-go_sem] cellsOf AV.isCell
attribute [local go_sem] cellsOf_agg cellsOf_int cellsOf_bool cellsOf_str cellsOf_map cellsOf_ptr cellsOf_nilI cellsOf_slice cellsOf_sl cellsOf_ifc cellsOf_fp cellsOf_opt optAV_cell icell_int icell_bool icell_str icell_map icell_ptr icell_nilI icell_slice icell_sl icell_ifc icell_fp
end
section
attribute [local go_sem] packed List.set_cons_zero List.set_cons_succ List.cons_append List.nil_append bytesRows_length cellRows_len chRows_len rCells intRows_len
attribute [-go_sem] cellsOf AV.isCell
attribute [local go_sem] cellsOf_agg cellsOf_int cellsOf_bool cellsOf_str cellsOf_map cellsOf_ptr cellsOf_nilI cellsOf_slice cellsOf_sl cellsOf_ifc cellsOf_fp cellsOf_opt optAV_cell icell_int icell_bool icell_str icell_map icell_ptr icell_nilI icell_slice icell_sl icell_ifc icell_fp
abbrev SN := List (Nat × Int × Int)
def snRow (q : Nat × Int × Int) : List AV := [.c (.int .u64 (q.1 : Int)), .c (.int .i64 q.2.1), .c (.int .i64 q.2.2)]
def snRows (l : SN) : List (List AV) := l.map snRow
theorem snRows_len (l : SN) : (snRows l).length = l.length := by simp [snRows]
theorem snRows_app (l m : SN) : snRows (l ++ m) = snRows l ++ snRows m := by simp [snRows]
theorem snRows_get {l : SN} {i : Nat} (h : i < l.length) : (snRows l)[i]? = some [.c (.int .u64 ((l.getD i (0, 0, 0)).1 : Int)), .c (.int .i64 (l.getD i (0, 0, 0)).2.1), .c (.int .i64 (l.getD i (0, 0, 0)).2.2)] := by
 have h1 : l[i]? = some (l.getD i (0, 0, 0)) := by rw [List.getD_eq_getElem?_getD, List.getElem?_eq_getElem h]; rfl
 rw [snRows, List.getElem?_map, h1]; rfl
def snB : SN → List UInt8
 | [] => []
 | (h, v, a) :: l => word8 h ++ numsB [v.toNat, a.toNat] ++ snB l
def snPut (l : SN) : List UInt8 := numsB [l.length] ++ snB l
theorem snB_take {l : SN} {i : Nat} (h : i < l.length) : snB (l.take (i + 1)) = snB (l.take i) ++ (word8 (l.getD i (0, 0, 0)).1 ++ numsB [(l.getD i (0, 0, 0)).2.1.toNat, (l.getD i (0, 0, 0)).2.2.toNat]) := by
 induction l generalizing i with
 | nil => simp at h
 | cons p l ih =>
   cases i with
   | zero => simp [snB]
   | succ i =>
     have := ih (i := i) (by simpa using h)
     simp only [List.take_succ_cons, snB, List.getD_cons_succ, this, List.append_assoc]
structure SnW (l : SN) : Prop where
 len : l.length ≤ 80
 hash : ∀ p ∈ l, p.1 < 2 ^ 64
 ver : ∀ p ∈ l, 0 ≤ p.2.1 ∧ p.2.1 ≤ 1099511627776
 at_ : ∀ p ∈ l, 0 ≤ p.2.2 ∧ p.2.2 ≤ 1099511627776
theorem snB_len : ∀ {l : SN}, (∀ p ∈ l, p.2.1 ≤ 1099511627776) → (∀ p ∈ l, p.2.2 ≤ 1099511627776) → (snB l).length ≤ 20 * l.length
 | [], _, _ => by simp [snB]
 | (h, v, a) :: l, hv, ha => by
   have h1 := snB_len (l := l) (fun p q => hv p (by simp [q])) (fun p q => ha p (by simp [q]))
   have h4 := hv (h, v, a) (by simp)
   have h5 := ha (h, v, a) (by simp)
   have h2 := numsB_len (l := [v.toNat, a.toNat]) (by intro n hn; simp at hn; simp at h4 h5; omega)
   have h3 : (word8 h).length = 8 := rfl
   simp only [snB, List.length_append, List.length_cons, List.length_nil] at h1 h2 ⊢
   omega
theorem SnW.blen {l : SN} (hw : SnW l) : (snPut l).length ≤ 1606 := by
 have h1 := snB_len (l := l) (fun p q => (hw.ver p q).2) (fun p q => (hw.at_ p q).2)
 have h2 := numsB_len (l := [l.length]) (by intro n hn; have := hw.len; simp at hn; omega)
 have := hw.len
 simp only [snPut, List.length_append, List.length_cons, List.length_nil] at h1 h2 ⊢
 omega
theorem s20bytes_ok (l : SN) (hw : SnW l) : ACalls Tryz.prog 14 [.sl 3 (snRows l)] [] (Ret (.sl 1 (bytesRows (snPut l)))) := by
 have hfl := snRows_len l
 have hlen := hw.len
 have hp0 := (put02_fz [] [l.length] (by simp) (by simp) (by intro n hn; simp at hn; omega)).nilArg (pre := [])
 simp only [natRows, List.map_cons, List.map_nil, List.nil_append] at hp0
 refine jen cl_14 Tryz.func14 (h := ?_)
 refine jf hfl (h := ?_)
 refine jc (hs := hp0) (hk := ?_)
 refine jf hfl (h := ?_)
 refine jk [3, 10, 11, 12] (h := ?_)
 refine J_loopI (I := fun m e D => ∃ i : Nat, i ≤ l.length ∧ m = l.length - i ∧ D = [] ∧ e = [(3, .sl 1 (bytesRows (numsB [l.length] ++ snB (l.take i)))), (10, .sl 3 (snRows l)), (11, .c (.int .i64 l.length)), (12, .c (.int .i64 i))]) ?_ ?_
 · exact ⟨_, 0, by omega, rfl, rfl, by simp [snB]⟩
 · rintro m e D ⟨i, hi, rfl, rfl, rfl⟩ ih
   refine jr (h := ?_)
   refine jif (h1 := fun hc => ?_) (h2 := fun hc => ?_)
   · have hlt : i < l.length := by omega
     have hg := snRows_get hlt
     have h0 : (0 : Int) ≤ (i : Int) := by omega
     have htk := snB_take hlt
     have hbl := snB_len (l := l.take i) (fun p q => (hw.ver p (List.mem_of_mem_take q)).2) (fun p q => (hw.at_ p (List.mem_of_mem_take q)).2)
     rw [List.length_take] at hbl
     have hb0 := numsB_len (l := [l.length]) (by intro n hn; simp at hn; omega)
     simp only [List.length_cons, List.length_nil] at hb0
     have hm : l.getD i (0, 0, 0) ∈ l := by rw [List.getD_eq_getElem?_getD, List.getElem?_eq_getElem hlt]; exact List.getElem_mem hlt
     have hh := hw.hash _ hm
     have hv := hw.ver _ hm
     have ha := hw.at_ _ hm
     generalize l.getD i (0, 0, 0) = q at *
     generalize hcur : numsB [l.length] ++ snB (l.take i) = cur at *
     have hcl : cur.length < 2 ^ 31 := by rw [← hcur]; simp only [List.length_append]; omega
     have hp1 := put02_fz (cur ++ word8 q.1) [q.2.1.toNat, q.2.2.toNat] (by have : (word8 q.1).length = 8 := rfl; rw [List.length_append]; omega) (by simp) (by intro n hn; simp at hn; omega)
     simp only [natRows, List.map_cons, List.map_nil, Int.toNat_of_nonneg hv.1, Int.toNat_of_nonneg ha.1] at hp1
     refine jf (own := [5]) (cA hg hfl) (h := ?_)
     refine jnv (hh := fun b5 hb5 => ?_)
     refine jr (h := ?_)
     refine jd [(0, .pure), (1, .pure), (2, .read), (3, .pure), (4, .pure), (5, .read), (6, .pure), (7, .read), (8, .pure), (9, .pure), (10, .pure)] mixed (by kernel_rfl) ?_
     refine cr (hk := ?_)
     refine ccp (hs := word_ok cur q.1 (by omega) hh) (hk := ?_)
     refine cr (hk := ?_)
     refine ccp (hs := hp1) (hk := ?_)
     refine cr (hk := ?_)
     refine Can_nil ?_
     refine jr (h := ?_)
     refine J_dropall ?_
     refine jk [3, 10, 11, 12] (h := ?_)
     refine ih (l.length - (i + 1)) _ _ (by omega) ⟨i + 1, by omega, rfl, rfl, ?_⟩
     rw [htk, ← hcur]
     simp only [List.append_assoc]
     rfl
   · have hi2 : i = l.length := by omega
     subst hi2
     rw [List.take_length]
     refine jr (h := ?_)
     refine jret Tryz.func14 (h := ⟨rfl, rfl⟩)
theorem s20pages_ok (n : Nat) (hn : n < 2 ^ 40) : ACalls Tryz.prog 11 [.c (.int .i64 n)] [] (Ret (.c (.int .i64 (((n + 199) / 200 : Nat) : Int)))) := by
 have hq := quo_i64 (a := n + 199) (b := 200) (by omega) (by omega)
 have hca : (n : Int) + 199 = ((n + 199 : Nat) : Int) := by omega
 have hcb : (n : Int) + 200 - 1 = ((n + 199 : Nat) : Int) := by omega
 refine jen cl_11 Tryz.func11 (h := ?_)
 refine jf (cB hca hcb hq) (h := ?_)
 refine jret Tryz.func11 (h := ⟨rfl, rfl⟩)
end
section
attribute [local go_sem] packed List.set_cons_zero List.set_cons_succ List.cons_append List.nil_append bytesRows_length cellRows_len chRows_len rCells
attribute [-go_sem] cellsOf AV.isCell
attribute [local go_sem] cellsOf_agg cellsOf_int cellsOf_bool cellsOf_str cellsOf_map cellsOf_ptr cellsOf_nilI cellsOf_slice cellsOf_sl cellsOf_ifc cellsOf_fp cellsOf_opt optAV_cell icell_int icell_bool icell_str icell_map icell_ptr icell_nilI icell_slice icell_sl icell_ifc icell_fp
def lowC (l : List (Int × List UInt8)) (at_ : Int) : Nat := (l.takeWhile fun p => decide (p.1 < at_)).length
def hitC (l : List (Int × List UInt8)) (at_ : Int) (i : Nat) : Bool := match l[i]? with
 | some p => decide (p.1 = at_)
 | none => false
def putC (l : List (Int × List UInt8)) (at_ : Int) (b : List UInt8) : List (Int × List UInt8) :=
 l.take (lowC l at_) ++ (if blankB b then [] else [(at_, b)]) ++ l.drop (lowC l at_ + (if hitC l at_ (lowC l at_) then 1 else 0))
end
section
attribute [local go_sem] packed List.set_cons_zero List.set_cons_succ List.cons_append List.nil_append bytesRows_length cellRows_len chRows_len rCells intRows_len
attribute [-go_sem] cellsOf AV.isCell
attribute [local go_sem] cellsOf_agg cellsOf_int cellsOf_bool cellsOf_str cellsOf_map cellsOf_ptr cellsOf_nilI cellsOf_slice cellsOf_sl cellsOf_ifc cellsOf_fp cellsOf_opt optAV_cell icell_int icell_bool icell_str icell_map icell_ptr icell_nilI icell_slice icell_sl icell_ifc icell_fp
def keepN (keep : Int) : Nat := (min keep 256).toNat
def settleC (l : List (Int × List UInt8)) (at_ : Int) (o : Option (List UInt8)) (keep : Int) : List (Int × List UInt8) := match o with
 | none => if keep < 256 then l else putC l at_ z256
 | some b => putC l at_ (b.take (keepN keep) ++ (pageOr l at_).drop (keepN keep))
theorem pageOr_len {l : List (Int × List UInt8)} (h : ∀ p ∈ l, p.2.length = 256) (at_ : Int) : (pageOr l at_).length = 256 := by
 unfold pageOr
 cases hf : findM l at_ with
 | none => simp [z256]
 | some w => exact h _ (mem_find hf)
theorem putC_page {l : List (Int × List UInt8)} {at_ : Int} {b : List UInt8} (h : ∀ p ∈ l, p.2.length = 256) (hb : b.length = 256) : ∀ p ∈ putC l at_ b, p.2.length = 256 := by
 intro p hp
 unfold putC at hp
 rcases List.mem_append.1 hp with hp | hp
 · rcases List.mem_append.1 hp with hp | hp
   · exact h p (List.take_subset _ _ hp)
   · split at hp
     · cases hp
     · rw [List.mem_singleton.1 hp]; exact hb
 · exact h p (List.drop_subset _ _ hp)
theorem putC_len (l : List (Int × List UInt8)) (at_ : Int) (b : List UInt8) : (putC l at_ b).length ≤ l.length + 1 := by
 unfold putC
 rw [List.length_append, List.length_append, List.length_take, List.length_drop]
 split <;> simp <;> omega
theorem settleC_page {l : List (Int × List UInt8)} {at_ : Int} {o : Option (List UInt8)} {keep : Int} (h : ∀ p ∈ l, p.2.length = 256) (ho : ∀ b, o = some b → b.length = 256) : ∀ p ∈ settleC l at_ o keep, p.2.length = 256 := by
 cases o with
 | none =>
   unfold settleC
   simp only
   split
   · exact h
   · exact putC_page h (by simp [z256])
 | some b =>
   refine putC_page h ?_
   have hb := ho b rfl
   have hw := pageOr_len h at_
   have hkl : keepN keep ≤ 256 := by unfold keepN; omega
   rw [List.length_append, List.length_take, List.length_drop]; omega
theorem settleC_len (l : List (Int × List UInt8)) (at_ : Int) (o : Option (List UInt8)) (keep : Int) : (settleC l at_ o keep).length ≤ l.length + 1 := by
 cases o with
 | none =>
   unfold settleC
   simp only
   split
   · omega
   · exact putC_len _ _ _
 | some b => exact putC_len _ _ _
def settleAllC (l : List (Int × List UInt8)) (ls : List (Int × Option (List UInt8))) : List (Int × List UInt8) := ls.foldl (fun m p => settleC m p.1 p.2 256) l
theorem settleAllC_ok : ∀ {ls : List (Int × Option (List UInt8))} {l : List (Int × List UInt8)}, (∀ p ∈ l, p.2.length = 256) → (∀ p ∈ ls, ∀ b, p.2 = some b → b.length = 256) → (∀ p ∈ settleAllC l ls, p.2.length = 256) ∧ (settleAllC l ls).length ≤ l.length + ls.length
 | [], l, h, _ => ⟨h, Nat.le_refl _⟩
 | p :: ls, l, h, h1 => by
   have := settleAllC_ok (ls := ls) (settleC_page (keep := 256) (at_ := p.1) h (h1 p (by simp))) (fun q hq => h1 q (by simp [hq]))
   have h2 := settleC_len l p.1 p.2 256
   exact ⟨this.1, by have h3 := this.2; unfold settleAllC at h3 ⊢; simp only [List.foldl_cons, List.length_cons]; omega⟩
def settleKeepC (l : List (Int × List UInt8)) : List (Int × Option (List UInt8)) → List Int → List (Int × List UInt8)
 | p :: ls, k :: ks => settleKeepC (settleC l p.1 p.2 k) ls ks
 | _, _ => l
theorem settleKeepC_ok : ∀ {ls : List (Int × Option (List UInt8))} {ks : List Int} {l : List (Int × List UInt8)}, (∀ p ∈ l, p.2.length = 256) → (∀ p ∈ ls, ∀ b, p.2 = some b → b.length = 256) → (∀ p ∈ settleKeepC l ls ks, p.2.length = 256) ∧ (settleKeepC l ls ks).length ≤ l.length + ls.length
 | [], ks, l, h, _ => ⟨h, Nat.le_refl _⟩
 | p :: ls, [], l, h, _ => ⟨h, Nat.le_add_right _ _⟩
 | p :: ls, k :: ks, l, h, h1 => by
   have := settleKeepC_ok (ls := ls) (ks := ks) (settleC_page (keep := k) (at_ := p.1) h (h1 p (by simp))) (fun q hq => h1 q (by simp [hq]))
   have h2 := settleC_len l p.1 p.2 k
   exact ⟨this.1, by have h3 := this.2; simp only [settleKeepC, List.length_cons]; omega⟩
structure Fl.R (r : Fl) : Prop where
 page : ∀ p ∈ r.safe, p.2.length = 256
 lpage : ∀ p ∈ r.loose, ∀ b, p.2 = some b → b.length = 256
 len : r.safe.length + r.loose.length < 2 ^ 29
 w : r.WF'
end
section
attribute [local go_sem] packed List.set_cons_zero List.set_cons_succ List.cons_append List.nil_append bytesRows_length cellRows_len chRows_len rCells intRows_len
attribute [-go_sem] cellsOf AV.isCell
attribute [local go_sem] cellsOf_agg cellsOf_int cellsOf_bool cellsOf_str cellsOf_map cellsOf_ptr cellsOf_nilI cellsOf_slice cellsOf_sl cellsOf_ifc cellsOf_fp cellsOf_opt optAV_cell icell_int icell_bool icell_str icell_map icell_ptr icell_nilI icell_slice icell_sl icell_ifc icell_fp
def upto (n : Nat) : List Int := (List.range n).map fun i : Nat => (i : Int)
end
section
attribute [local go_sem] packed List.set_cons_zero List.set_cons_succ List.cons_append List.nil_append bytesRows_length cellRows_len chRows_len rCells intRows_len
attribute [-go_sem] cellsOf AV.isCell
attribute [local go_sem] cellsOf_agg cellsOf_int cellsOf_bool cellsOf_str cellsOf_map cellsOf_ptr cellsOf_nilI cellsOf_slice cellsOf_sl cellsOf_ifc cellsOf_fp cellsOf_opt optAV_cell icell_int icell_bool icell_str icell_map icell_ptr icell_nilI icell_slice icell_sl icell_ifc icell_fp
def tAV (r : Fl) (n : Int) : AV := .agg (rCells r ++ [.c (.int .i64 n)])
end
end Go.Proofs.YtdnhcpbammfmlaaGreatDoor
