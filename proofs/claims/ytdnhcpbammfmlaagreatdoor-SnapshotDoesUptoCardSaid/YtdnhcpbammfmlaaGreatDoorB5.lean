/- A part of the proof: what the calls do, told by values. -/
import Derived.Test.YtdnhcpbammfmlaaGreatDoorB3
import Derived.Test.YtdnhcpbammfmlaaGreatDoorB4
import Derived.Test.YtdnhcpbammfmlaaGreatDoorA5
set_option linter.unusedVariables false
set_option linter.unusedSimpArgs false
set_option maxRecDepth 100000
set_option maxHeartbeats 4000000
namespace Go.Proofs.YtdnhcpbammfmlaaGreatDoor
open Go Go.Av
attribute [local go_sem] packed List.set_cons_zero List.set_cons_succ List.cons_append List.nil_append bytesRows_length
section
abbrev rdV (b : List UInt8) (at_ c : Int) : AV := .agg [.sl 1 (bytesRows b), .c (.int .i64 at_), .c (.int .i64 c)]
theorem fail02_ok (b : List UInt8) (at_ c k : Int) : ACalls Tryz.prog 62 [rdV b at_ c, .c (.int .i64 k)] [] (Ret (rdV b at_ (if c = 0 then k else c))) := by
 refine jen cl_62 Tryz.func62 (h := ?_)
 refine jr (own := [4, 5]) (h := ?_)
 refine jnv (hh := fun b4 hb4 => ?_)
 refine jr (own := [5]) (h := ?_)
 refine jnv (hh := fun b5 hb5 => ?_)
 simp only [fresh] at hb4 hb5
 refine jf hb5 (h := ?_)
 refine jif (h1 := fun hc => ?_) (h2 := fun hc => ?_)
 · refine jf hb5 (h := ?_)
   refine J_forget ?_
   refine jretf hb5 Tryz.func62 (h := ⟨by rw [if_pos hc], rfl⟩)
 · refine jf hb5 (h := ?_)
   refine J_forget ?_
   refine jretf hb5 Tryz.func62 (h := ⟨by rw [if_neg hc], rfl⟩)
theorem failN_ok (b : List UInt8) (at_ k : Int) : ACalls Tryz.prog 62 [rdV b at_ 0, .c (.int .i64 k)] [] (Ret (rdV b at_ k)) := by
 have h := fail02_ok b at_ 0 k
 rw [if_pos rfl] at h
 exact h
theorem num02R_ok (b : List UInt8) (at_ : Nat) (c : Int) (most : Nat) (h : at_ ≤ b.length) (hb : b.length < 2 ^ 37) (hm : most ≤ 1099511627776) :
   ACalls Tryz.prog 34 [rdV b at_ c, .c (.int .i64 most)] [] (Ret (.tup [rdV b (numR b at_ c most).2.1 (numR b at_ c most).1, .c (.int .i64 (numR b at_ c most).2.2)])) := by
 refine jen cl_34 Tryz.func34 (h := ?_)
 refine jr (own := [4]) (h := ?_)
 refine jnv (hh := fun b4 hb4 => ?_)
 simp only [fresh] at hb4
 refine jr (h := ?_)
 refine jif (h1 := fun hc => ?_) (h2 := fun hc => ?_)
 · have e : numR b at_ c most = (c, at_, 0) := by unfold numR; rw [if_pos hc]
   rw [e]
   refine jr (h := ?_)
   refine J_forget ?_
   refine jret Tryz.func34 (h := ⟨rfl, rfl⟩)
 · have hc0 : c = 0 := by omega
   subst hc0
   refine jr (h := ?_)
   refine jk [1, 2, 4, 6, 7] (h := ?_)
   refine J_loopI (I := fun m e D => ∃ n p : Nat, e = [(1, .c (.int .i64 most)), (2, .fp [.sl 1 (bytesRows b), .c (.int .i64 at_), .c (.int .i64 0)]), (4, .c (.pointer (some ⟨b4, 0, none⟩))), (6, .c (.int .i64 n)), (7, .c (.int .i64 p))] ∧ at_ ≤ p ∧ p ≤ b.length ∧ n ≤ most + 127 ∧ m = b.length - p ∧ D = [.box b4 78 [.c (.slice none 0 0), .c (.int .i64 0), .c (.int .i64 0)]] ∧ numR b at_ 0 most = scanN b at_ most (b.length - p) p n) ?_ ?_
   · exact ⟨_, 0, at_, rfl, Nat.le_refl _, h, by omega, rfl, rfl, by unfold numR; simp⟩
   · rintro m e D ⟨n, p, rfl, hp1, hp2, hn, rfl, rfl, hS⟩ ih
     refine jr (h := ?_)
     refine jif (h1 := fun hge => ?_) (h2 := fun hge => ?_)
     · have hlt : p < b.length := by omega
       have hg := bytes_get (getD_get hlt)
       have h0 : (0 : Int) ≤ (p : Int) := by omega
       have hk : b.length - p = (b.length - (p + 1)) + 1 := by omega
       rw [hk] at hS
       simp only [scanN] at hS
       generalize hcc : b.getD p 0 = cc at *
       have hcl := cc.toNat_lt
       by_cases hA : cc.toNat = 128 ∧ p = at_
       · rw [if_pos hA] at hS
         have hA2 : decide ((cc.toNat : Int) = 128) = true := decide_eq_true (by omega)
         have hA3 : decide ((p : Int) = (at_ : Int)) = true := decide_eq_true (by omega)
         rw [hS]
         refine jf (cB hg hA2 hA3) (h := ?_)
         refine jt (h := ?_)
         refine jr (h := ?_)
         refine jc (hs := failN_ok b at_ 5) (hk := ?_)
         refine jr (h := ?_)
         refine J_forget ?_
         refine jret Tryz.func34 (h := ⟨rfl, rfl⟩)
       · rw [if_neg hA] at hS
         have hsel : (decide ((cc.toNat : Int) = 128) = true ∧ decide ((p : Int) = (at_ : Int)) = false) ∨ (decide ((cc.toNat : Int) = 128) = false ∧ True) := by
           by_cases h1 : cc.toNat = 128
           · exact .inl ⟨decide_eq_true (by omega), decide_eq_false fun h3 => hA ⟨h1, by omega⟩⟩
           · exact .inr ⟨decide_eq_false (by omega), trivial⟩
         have hq := quoN (a := most) (by omega)
         have hr := remN (a := cc.toNat)
         rcases hsel with ⟨hd1, hd2⟩ | ⟨hd1, hd2⟩
         all_goals
           refine jf (cB hg hd1 hd2) (h := ?_)
           refine jk [1, 2, 4, 6, 7, 8, 36] (h := ?_)
           refine jn (h := ?_)
           refine jf hq (h := ?_)
           refine jif (h1 := fun h2 => ?_) (h2 := fun h2 => ?_)
           · rw [if_pos (show most / 128 < n by omega)] at hS
             rw [hS]
             refine jr (h := ?_)
             refine jc (hs := failN_ok b at_ 2) (hk := ?_)
             refine jr (h := ?_)
             refine J_forget ?_
             refine jret Tryz.func34 (h := ⟨rfl, rfl⟩)
           · rw [if_neg (show ¬ most / 128 < n by omega)] at hS
             refine jf hr (h := ?_)
             refine jif (h1 := fun h3 => ?_) (h2 := fun h3 => ?_)
             · rw [if_pos (show 128 ≤ cc.toNat by omega)] at hS
               refine jr (h := ?_)
               refine jk [1, 2, 4, 6, 7] (h := ?_)
               exact ih (b.length - (p + 1)) _ _ (by omega) ⟨n * 128 + cc.toNat % 128, p + 1, rfl, by omega, by omega, by omega, rfl, rfl, hS⟩
             · have hlt2 : cc.toNat < 128 := by omega
               rw [if_neg (show ¬ 128 ≤ cc.toNat by omega)] at hS
               have hmod : cc.toNat % 128 = cc.toNat := Nat.mod_eq_of_lt hlt2
               refine jf hmod (h := ?_)
               refine jif (h1 := fun h4 => ?_) (h2 := fun h4 => ?_)
               · rw [if_pos (show most < n * 128 + cc.toNat by omega)] at hS
                 rw [hS]
                 refine jr (h := ?_)
                 refine jc (hs := failN_ok b at_ 2) (hk := ?_)
                 refine jr (h := ?_)
                 refine J_forget ?_
                 refine jret Tryz.func34 (h := ⟨rfl, rfl⟩)
               · rw [if_neg (show ¬ most < n * 128 + cc.toNat by omega)] at hS
                 rw [hS]
                 refine jr (own := [9]) (h := ?_)
                 refine jnv (hh := fun b9 hb9 => ?_)
                 simp only [fresh] at hb9
                 refine jf hb9 (h := ?_)
                 refine J_forget ?_
                 refine jretf hb9 Tryz.func34 (h := ⟨rfl, rfl⟩)
     · have hpe : b.length - p = 0 := by omega
       rw [hpe] at hS
       simp only [scanN] at hS
       rw [hS]
       refine jr (h := ?_)
       refine jc (hs := failN_ok b at_ 6) (hk := ?_)
       refine jr (h := ?_)
       refine J_forget ?_
       refine jret Tryz.func34 (h := ⟨rfl, rfl⟩)
theorem eight02E_ok (b : List UInt8) (at_ : Nat) (c : Int) (h : at_ ≤ b.length) (hb : b.length < 2 ^ 37) :
   ACalls Tryz.prog 35 [rdV b at_ c] [] (Ret (.tup [rdV b (eightR b at_ c).2.1 (eightR b at_ c).1, .c (.int .u64 (eightR b at_ c).2.2)])) := by
 by_cases hc : c = 0
 · subst hc
   by_cases h8 : at_ + 8 ≤ b.length
   · have e : eightR b at_ 0 = (0, at_ + 8, (be8 ((b.drop at_).take 8)).toNat) := by unfold eightR; rw [if_neg (by simp), if_neg (by omega)]
     rw [e]
     exact eight02_ok b at_ h8 hb
   · have e : eightR b at_ 0 = (6, at_, 0) := by unfold eightR; rw [if_neg (by simp), if_pos (by omega)]
     rw [e]
     refine jen cl_35 Tryz.func35 (h := ?_)
     refine jr (own := [2]) (h := ?_)
     refine jnv (hh := fun b2 hb2 => ?_)
     simp only [fresh] at hb2
     refine jr (h := ?_)
     refine jif (h1 := fun hc => absurd hc (by first | omega | simp)) (h2 := fun _ => ?_)
     refine jr (h := ?_)
     refine jif (h1 := fun _ => ?_) (h2 := fun hc => absurd (by first | omega | simp) hc)
     refine jr (h := ?_)
     refine jc (hs := failN_ok b at_ 6) (hk := ?_)
     refine jr (h := ?_)
     refine J_forget ?_
     refine jret Tryz.func35 (h := ⟨rfl, rfl⟩)
 · have e : eightR b at_ c = (c, at_, 0) := by unfold eightR; rw [if_pos hc]
   rw [e]
   refine jen cl_35 Tryz.func35 (h := ?_)
   refine jr (own := [2]) (h := ?_)
   refine jnv (hh := fun b2 hb2 => ?_)
   simp only [fresh] at hb2
   refine jr (h := ?_)
   refine jif (h1 := fun _ => ?_) (h2 := fun hc => absurd (by first | omega | simp) hc)
   refine jr (h := ?_)
   refine J_forget ?_
   refine jret Tryz.func35 (h := ⟨rfl, rfl⟩)
theorem end02_ok (b : List UInt8) (at_ : Nat) (c : Int) (h : at_ ≤ b.length) (hb : b.length < 2 ^ 37) : ACalls Tryz.prog 36 [rdV b at_ c] [] (Ret (.c (.int .i64 (endR b at_ c)))) := by
 refine jen cl_36 Tryz.func36 (h := ?_)
 by_cases hc : c = 0
 · subst hc
   refine jr (h := ?_)
   refine jif (h1 := fun hl => ?_) (h2 := fun hl => ?_)
   · refine jr (h := ?_)
     refine jret Tryz.func36 (h := ⟨by unfold endR; rw [if_pos ⟨rfl, by omega⟩], rfl⟩)
   · refine jr (h := ?_)
     refine jret Tryz.func36 (h := ⟨by unfold endR; rw [if_neg (fun h => by omega)], rfl⟩)
 · refine jq hc (h := ?_)
   refine jn (h := ?_)
   refine jr (h := ?_)
   refine jret Tryz.func36 (h := ⟨by unfold endR; rw [if_neg (fun h => hc h.1)], rfl⟩)
end
end Go.Proofs.YtdnhcpbammfmlaaGreatDoor
namespace Go.Proofs.YtdnhcpbammfmlaaGreatDoor
open Go Go.Av
attribute [local go_sem] packed List.set_cons_zero List.set_cons_succ List.cons_append List.nil_append bytesRows_length leafAV
attribute [-go_sem] cellsOf AV.isCell
attribute [local go_sem] cellsOf_agg cellsOf_int cellsOf_bool cellsOf_str cellsOf_map cellsOf_ptr cellsOf_nilI cellsOf_slice cellsOf_sl cellsOf_ifc cellsOf_fp cellsOf_opt optAV_cell icell_int icell_bool icell_str icell_map icell_ptr icell_nilI icell_slice icell_sl icell_ifc icell_fp
section
theorem check05_ok (st kd : Int) (b : List UInt8) (hb : b.length < 2 ^ 62) : ACalls Tryz.prog 110 [leafAV st kd (.sl 1 (bytesRows b))] [] (Ret (.c (.int .i64 (checkC st kd b.length)))) := by
 unfold leafAV
 by_cases h1 : st < 1
 · have d1 := decide_eq_true h1
   have hc : checkC st kd b.length = 2 := by unfold checkC; rw [if_pos (.inl h1)]
   refine jen cl_110 Tryz.func110 (h := ?_)
   refine jf d1 (h := ?_)
   refine jt (h := ?_)
   refine jr (h := ?_)
   refine jret Tryz.func110 (h := ⟨by rw [hc], rfl⟩)
 have d1 := decide_eq_false h1
 by_cases h2 : st > 1099511627776
 · have d2 := decide_eq_true h2
   have hc : checkC st kd b.length = 2 := by unfold checkC; rw [if_pos (.inr h2)]
   refine jen cl_110 Tryz.func110 (h := ?_)
   refine jf (cA d1 d2) (h := ?_)
   refine jt (h := ?_)
   refine jr (h := ?_)
   refine jret Tryz.func110 (h := ⟨by rw [hc], rfl⟩)
 have d2 := decide_eq_false h2
 by_cases h3 : kd < 1
 · have d3 := decide_eq_true h3
   have hc : checkC st kd b.length = 12 := by unfold checkC; rw [if_neg (by omega), if_pos (.inl h3)]
   refine jen cl_110 Tryz.func110 (h := ?_)
   refine jf (cA d1 d2) (h := ?_)
   refine jn (h := ?_)
   refine jf d3 (h := ?_)
   refine jt (h := ?_)
   refine jr (h := ?_)
   refine jret Tryz.func110 (h := ⟨by rw [hc], rfl⟩)
 have d3 := decide_eq_false h3
 by_cases h4 : kd > 5
 · have d4 := decide_eq_true h4
   have hc : checkC st kd b.length = 12 := by unfold checkC; rw [if_neg (by omega), if_pos (.inr h4)]
   refine jen cl_110 Tryz.func110 (h := ?_)
   refine jf (cA d1 d2) (h := ?_)
   refine jn (h := ?_)
   refine jf (cA d3 d4) (h := ?_)
   refine jt (h := ?_)
   refine jr (h := ?_)
   refine jret Tryz.func110 (h := ⟨by rw [hc], rfl⟩)
 have d4 := decide_eq_false h4
 refine jen cl_110 Tryz.func110 (h := ?_)
 refine jf (cA d1 d2) (h := ?_)
 refine jn (h := ?_)
 refine jf (cA d3 d4) (h := ?_)
 refine jn (h := ?_)
 refine jr (h := ?_)
 refine jif (h1 := fun h5 => ?_) (h2 := fun h5 => ?_)
 · have hc : checkC st kd b.length = 3 := by unfold checkC; rw [if_neg (by omega), if_neg (by omega), if_pos (by omega)]
   refine jr (h := ?_)
   refine jret Tryz.func110 (h := ⟨by rw [hc], rfl⟩)
 · have hc : checkC st kd b.length = 0 := by unfold checkC; rw [if_neg (by omega), if_neg (by omega), if_neg (by omega)]
   refine jr (h := ?_)
   refine jret Tryz.func110 (h := ⟨by rw [hc], rfl⟩)
theorem put05_err (st kd : Int) (b : List UInt8) (hb : b.length < 2 ^ 37) (hc : checkC st kd b.length ≠ 0) :
   ACalls Tryz.prog 91 [leafAV st kd (.sl 1 (bytesRows b))] [] (Ret (.tup [.c (.slice none 0 0), .c (.int .i64 (checkC st kd b.length))])) := by
 have hk := check05_ok st kd b (by omega)
 unfold leafAV at *
 refine jen cl_91 Tryz.func91 (h := ?_)
 refine jr (h := ?_)
 refine jc (hs := hk) (hk := ?_)
 refine jr (h := ?_)
 refine jif (h1 := fun _ => ?_) (h2 := fun hc => absurd (by first | omega | simp) hc)
 refine jr (h := ?_)
 refine jret Tryz.func91 (h := ⟨rfl, rfl⟩)
theorem head_zeros (st kd : Nat) (b : List UInt8) (h : b.length ≤ 233) : bodyB st kd b = headB st kd b ++ List.replicate (233 - b.length) 0 := by
 unfold bodyB; rw [headB_len]; congr 2; omega
theorem put05_ok (st kd : Nat) (b : List UInt8) (h1 : 1 ≤ st) (h2 : st ≤ 1099511627776) (h3 : 1 ≤ kd) (h4 : kd ≤ 5) (h5 : b.length ≤ 233) :
   ACalls Tryz.prog 91 [leafAV st kd (.sl 1 (bytesRows b))] [] (Ret (.tup [.sl 1 (bytesRows (putB st kd b)), .c (.int .i64 0)])) := by
 have hc : checkC st kd b.length = 0 := by unfold checkC; rw [if_neg (by omega), if_neg (by omega), if_neg (by omega)]
 have hk := check05_ok st kd b (by omega)
 rw [hc] at hk
 unfold leafAV at *
 refine jen cl_91 Tryz.func91 (h := ?_)
 refine jr (h := ?_)
 refine jc (hs := hk) (hk := ?_)
 refine jr (h := ?_)
 refine jif (h1 := fun hc => absurd hc (by first | omega | simp)) (h2 := fun _ => ?_)
 have hw : IntKind.u64.wrap (st : Int) = st := by rw [u64_wrap]; omega
 refine jf hw (h := ?_)
 refine jcs (Δ1 := []) (Fr := []) (hs := ((word02_ok [] st (by simp) (by omega)).nilArg (pre := []))) (hp := (List.Perm.refl _)) (hk := ?_) (hpan := (by rintro x Δ' ⟨v, h, _⟩; cases h))
 rintro x D ⟨v, h, how⟩
 cases h
 have e1 : IntKind.u8.wrap ((b.length : Int) / 256) = ((UInt8.ofNat (b.length / 256)).toNat : Int) := by rw [← wrap8_nat]; rfl
 have e2 : IntKind.u8.wrap ((b.length : Int) % 256) = ((UInt8.ofNat b.length).toNat : Int) := by rw [← wrap8_mod]; rfl
 refine J_mrun (own := [30]) (m := 2000) (by simp (maxSteps := 2000000) (disch := omega) only [go_sem, ↓reduceIte, Int.reduceLT, Int.reduceLE, Int.reduceToNat, Int.reducePow, Int.reduceNeg, Nat.reduceBEq, Tryz.ntmps91, wrap8_nat, e1, e2] <;> with_reducible rfl) ?_
 refine jap (Fr := []) (how := how) (hp := (by simp)) (hsrc := (by simp only [go_sem, srcOf] <;> rfl)) (hc := (by rfl)) (hmax := (by simp [word8])) (hk := ?_)
 rintro _ D2 ⟨v2, _, rfl, rfl, how2⟩
 have how3 : OwnB 5 (word8 st ++ [UInt8.ofNat kd, UInt8.ofNat (b.length / 256), UInt8.ofNat b.length]) v2 D2 := ownB_app (a := word8 st) (b := [UInt8.ofNat kd, UInt8.ofNat (b.length / 256), UInt8.ofNat b.length]) how2
 refine jr (own := [34]) (h := ?_)
 refine jap (Fr := []) (how := how3) (hp := (by simp)) (hsrc := (by simp only [go_sem, srcOf] <;> rfl)) (hc := bytes_cell) (hmax := (by simp [word8]; omega)) (hk := ?_)
 rintro _ D3 ⟨v3, _, rfl, rfl, how4⟩
 have how5 : OwnB 5 (headB st kd b) v3 D3 := ownB_app (b := b) how4
 have hlen := headB_len st kd b
 refine jr (h := ?_)
 refine jk [1, 5] (h := ?_)
 refine J_loopI (I := fun m e D => ∃ (j : Nat) (v : Value), j ≤ 233 - b.length ∧ m = 233 - b.length - j ∧ OwnB 5 (headB st kd b ++ List.replicate j 0) v D ∧ e = [(1, .fp [.c (.int .i64 st), .c (.int .i64 kd), .sl 1 (bytesRows b)]), (5, .c v)]) ?_ ?_
 · exact ⟨_, 0, v3, by omega, rfl, by simpa using how5, rfl⟩
 · rintro m e D ⟨j, v, hj, rfl, how, rfl⟩ ih
   have hl : (headB st kd b ++ List.replicate j 0).length = 11 + b.length + j := by rw [List.length_append, hlen, List.length_replicate]
   obtain ⟨a, c, rfl⟩ := how.slice
   rw [hl]
   refine jr (h := ?_)
   refine jif (h1 := fun hcl => ?_) (h2 := fun hcl => ?_)
   · have h0 : (0 : Int) = ((0 : UInt8).toNat : Int) := rfl
     refine jr (own := [40]) (h := ?_)
     have how8 : Own 5 1 (bytesRows (headB st kd b ++ List.replicate j 0)).flatten (11 + b.length + j) (.slice a (11 + b.length + j) c) D := by rw [← hl]; exact how
     refine jap (Fr := []) (how := how8) (hp := (by simp)) (hsrc := (by simp only [go_sem, srcOf] <;> rfl)) (hc := (by rfl)) (hmax := (by omega)) (hk := ?_)
     rintro _ D4 ⟨v4, _, rfl, rfl, how6⟩
     have how7 : OwnB 5 (headB st kd b ++ List.replicate (j + 1) 0) v4 D4 := by
       rw [List.replicate_succ', ← List.append_assoc]
       refine ownB_app (b := [0]) ?_
       rw [hl]; exact how6
     refine jr (h := ?_)
     refine jk [1, 5] (h := ?_)
     refine ih _ _ _ ?_ ⟨j + 1, v4, by omega, rfl, how7, rfl⟩
     omega
   · have hj' : j = 233 - b.length := by omega
     subst hj'
     rw [← head_zeros st kd b h5] at how hl
     have hl7 := bodyB_len st kd b h5
     rw [← hl]
     refine jr (h := ?_)
     refine J_freezeB (Fr := []) how (by unfold maxRows; omega) ?_
     refine J_is (t := 5) (by simp only [go_sem] <;> rfl) (List.mem_cons_self ..) (J_drop ?_)
     refine jd [(0, .pure), (1, .pure), (2, .pure), (3, .pure), (4, .pure), (5, .pure), (6, .pure), (7, .pure)] mixed (by kernel_rfl) ?_
     refine cf hw (hk := ?_)
     refine ccp (hs := seal03_ok (bodyB st kd b) (by omega)) (hk := ?_)
     refine cf hw (hk := ?_)
     refine ccp (hs := word02_fz (sealB (bodyB st kd b)) st (by rw [sealB_len]; omega) (by omega)) (hk := ?_)
     refine cr (hk := ?_)
     refine Can_nil ?_
     refine jret Tryz.func91 (h := ⟨rfl, rfl⟩)
end
section
theorem be8_inj {a b : List UInt8} (ha : a.length = 8) (hb : b.length = 8) (h : be8 a = be8 b) : a = b := by
 have key : ∀ l : List UInt8, l.length = 8 → l = word8 (be8 l).toNat := by
   intro l hl
   match l, hl with
   | [c0, c1, c2, c3, c4, c5, c6, c7], _ =>
     have h0 := c0.toNat_lt
     have h1 := c1.toNat_lt
     have h2 := c2.toNat_lt
     have h3 := c3.toNat_lt
     have h4 := c4.toNat_lt
     have h5 := c5.toNat_lt
     have h6 := c6.toNat_lt
     have h7 := c7.toNat_lt
     unfold be8 word8
     simp only [List.foldl_cons, List.foldl_nil, beStep_nat, UInt64.toNat_zero]
     simp only [List.cons.injEq, and_true]
     refine ⟨?_, ?_, ?_, ?_, ?_, ?_, ?_, ?_⟩ <;> (apply UInt8.toNat_inj.1; rw [UInt8.toNat_ofNat']; omega)
 rw [key a ha, key b hb, h]
theorem get05_ok (b : List UInt8) (hb : b.length < 2 ^ 37) : ACalls Tryz.prog 98 [.sl 1 (bytesRows b)] [] (Ret (.tup [if getC b = 0 then leafAV (stampsB b).1 (kdB b) (.sl 1 (bytesRows (txtB b))) else leafAV 0 0 (.c (.slice none 0 0)), .c (.int .i64 (getC b))])) := by
 unfold leafAV
 refine jen cl_98 Tryz.func98 (h := ?_)
 refine jr (own := [2, 4]) (h := ?_)
 refine jnv (hh := fun b2 hb2 => ?_)
 refine jr (own := [4]) (h := ?_)
 refine jnv (hh := fun b4 hb4 => ?_)
 simp only [fresh] at hb4
 refine jf hb4 (h := ?_)
 refine jif (h1 := fun hc => ?_) (h2 := fun hc => ?_)
 · have hg : getC b = 6 := by unfold getC; rw [if_pos (by omega)]
   refine jf hb4 (h := ?_)
   refine J_forget ?_
   refine jretf hb4 Tryz.func98 (h := ⟨by rw [hg]; rfl, rfl⟩)
 have hl : b.length = 256 := by omega
 have g8 := bytes_get (getD_get (b := b) (i := 8) (by omega))
 have g9 := bytes_get (getD_get (b := b) (i := 9) (by omega))
 have g10 := bytes_get (getD_get (b := b) (i := 10) (by omega))
 have hd8 : (b.drop 248).length = 8 := by rw [List.length_drop]; omega
 have ht8 : (b.take 8).length = 8 := by rw [List.length_take]; omega
 refine jr (h := ?_)
 refine jd [(0, .pure), (1, .pure), (2, .pure), (3, .pure), (4, .pure), (5, .pure)] mixed (by kernel_rfl) ?_
 refine Can_run (own := []) (by simp (maxSteps := 2000000) (disch := omega) only [go_sem, ↓reduceIte, Int.reduceLT, Int.reduceLE, Int.reduceToNat, Int.reducePow, Int.reduceNeg, Nat.reduceBEq, Tryz.ntmps98, hl, List.take_of_length_le (Nat.le_of_eq hl)] <;> with_reducible rfl) ?_
 refine Can_callp (by simp only [go_sem, ↓reduceIte, Int.reduceLT, Int.reduceLE, Int.reduceToNat, Int.reducePow, Int.reduceNeg, Nat.reduceBEq, Tryz.ntmps98, hl, List.take_of_length_le (Nat.le_of_eq hl)] <;> with_reducible rfl) (same02_ok (b.take 8) (b.drop 248) (by omega)) ?_
 refine cr (hk := ?_)
 refine Can_nil ?_
 by_cases he : b.take 8 = b.drop 248
 rotate_left
 · have hg : getC b = 8 := by unfold getC; rw [if_neg (by omega), if_pos (fun h => he (be8_inj ht8 hd8 h))]
   have d1 := decide_eq_false he
   refine jf d1 (h := ?_)
   refine jt (h := ?_)
   refine jf hb4 (h := ?_)
   refine J_forget ?_
   refine jretf hb4 Tryz.func98 (h := ⟨by rw [hg]; rfl, rfl⟩)
 have h8' : ¬ be8 (b.take 8) ≠ be8 (b.drop 248) := fun h => h (by rw [he])
 have d1 := decide_eq_true he
 have hst : stampsB b = (fitN (be8 (b.take 8)), fitN (be8 (b.take 8))) := by unfold stampsB; rw [if_pos hl, he]
 refine jf d1 (h := ?_)
 refine jn (h := ?_)
 refine jf hl (h := ?_)
 refine jc (hs := stamp05_ok (b.take 8) ht8) (hk := ?_)
 refine jr (h := ?_)
 refine jif (h1 := fun hs => ?_) (h2 := fun hs => ?_)
 · have hg : getC b = 9 := by unfold getC; rw [if_neg (by omega), if_neg h8', if_pos (by rw [hst]; omega)]
   refine jf hb4 (h := ?_)
   refine J_forget ?_
   refine jretf hb4 Tryz.func98 (h := ⟨by rw [hg]; rfl, rfl⟩)
 have hsn : ¬ ((stampsB b).1 = 0 ∨ (stampsB b).2 = 0) := by rw [hst]; simp only; omega
 have hstn : ((stampsB b).1 : Int) = (fitN (be8 (b.take 8)) : Int) := by rw [hst]
 refine jf hl (h := ?_)
 refine jc (hs := fits03_ok (b.take 248) (by rw [List.length_take]; omega) (by rw [List.length_take]; omega)) (hk := ?_)
 refine jr (h := ?_)
 cases hf : fitsB (b.take 248) with
 | false =>
   have hg : getC b = 7 := by unfold getC; rw [if_neg (by omega), if_neg h8', if_neg hsn, if_pos hf]
   refine jt (h := ?_)
   refine jf hb4 (h := ?_)
   refine J_forget ?_
   refine jretf hb4 Tryz.func98 (h := ⟨by rw [hg]; rfl, rfl⟩)
 | true =>
 refine jn (h := ?_)
 refine jr (h := ?_)
 have c9 := (b.getD 9 0).toNat_lt
 have c10 := (b.getD 10 0).toNat_lt
 refine jd [(0, .pure), (1, .pure), (2, .read), (3, .pure), (4, .pure), (5, .pure), (6, .pure), (7, .read), (8, .pure), (9, .pure), (10, .pure)] mixed (by kernel_rfl) ?_
 refine cf (cB g9 g10 hl) (hk := ?_)
 refine Can_nil ?_
 have hn : ((b.getD 9 0).toNat : Int) * 256 + ((b.getD 10 0).toNat : Int) = (nB b : Int) := by unfold nB; omega
 rw [hn]
 refine jr (h := ?_)
 refine jif (h1 := fun h5 => ?_) (h2 := fun h5 => ?_)
 · have hg : getC b = 5 := by unfold getC; rw [if_neg (by omega), if_neg h8', if_neg hsn, if_neg (by simp [hf]), if_pos (by omega)]
   refine jf hb4 (h := ?_)
   refine J_forget ?_
   refine jretf hb4 Tryz.func98 (h := ⟨by rw [hg]; rfl, rfl⟩)
 have hn5 : nB b ≤ 233 := by omega
 have htl : (txtB b).length = nB b := by unfold txtB; rw [List.length_take, List.length_drop]; omega
 refine jr (h := ?_)
 refine jd [(0, .pure), (1, .pure), (2, .pure), (3, .pure), (4, .pure), (5, .pure), (6, .pure), (7, .pure), (8, .new), (9, .act)] mixed (by kernel_rfl) ?_
 refine cf (own := [6]) (cA hl g8) (hk := ?_)
 refine Can_callp (by simp only [go_sem, ↓reduceIte, Int.reduceLT, Int.reduceLE, Int.reduceToNat, Int.reducePow, Int.reduceNeg, Nat.reduceBEq, Tryz.ntmps98, hl] <;> with_reducible rfl) (stamp05_ok (b.take 8) ht8) ?_
 refine cf (own := [6]) (cA hl g8) (hk := ?_)
 refine cnv (hk := fun b6 hb6 => ?_)
 simp only [fresh] at hb6
 refine cf hb6 (hk := ?_)
 refine Can_nil ?_
 have hk : ((b.getD 8 0).toNat : Int) = ((kdB b : Nat) : Int) := rfl
 rw [hk]
 rw [← hstn]
 have hck := check05_ok (stampsB b).1 (kdB b) (txtB b) (by omega)
 rw [htl] at hck
 unfold leafAV at hck
 refine jf hb6 (h := ?_)
 refine jd [(0, .pure), (1, .read), (2, .pure), (3, .pure), (4, .pure), (5, .pure), (6, .pure), (7, .pure), (8, .act)] mixed (by kernel_rfl) ?_
 refine cf (cA hl hb6) (hk := ?_)
 rw [show List.drop 11 (List.take ((11 : Int) + (nB b : Int)).toNat b) = txtB b from be_slice b 11 (nB b) (by omega)]
 refine Can_nil ?_
 refine jf hb6 (h := ?_)
 refine jc (hs := hck) (hk := ?_)
 refine jf hb6 (h := ?_)
 refine jif (h1 := fun hcc => ?_) (h2 := fun hcc => ?_)
 · have hg : getC b = checkC (stampsB b).1 (kdB b) (nB b) := by unfold getC; rw [if_neg (by omega), if_neg h8', if_neg hsn, if_neg (by simp [hf]), if_neg (by omega), if_pos hcc]
   refine jf (cA hb6 hb4) (h := ?_)
   refine J_forget ?_
   refine jretf (cA hb6 hb4) Tryz.func98 (h := ⟨by rw [hg, if_neg hcc], rfl⟩)
 have hrl : (restB b).length = 233 - nB b := by unfold restB; rw [List.length_take, List.length_drop]; omega
 have h70 : getC b = if blankB (restB b) = false then 5 else 0 := by
   unfold getC; rw [if_neg (by omega), if_neg h8', if_neg hsn, if_neg (by simp [hf]), if_neg (by omega), if_neg hcc]
 have hrg : ∀ j, j < 233 - nB b → b[11 + nB b + j]? = (restB b)[j]? := fun j hj => by
   unfold restB; rw [List.getElem?_take_of_lt hj, List.getElem?_drop]
 generalize restB b = w at hrl h70 hrg
 refine jr (h := ?_)
 refine jk [0, 2, 4, 6, 8] (h := ?_)
 refine J_loopI (I := fun m e D => ∃ i : Nat, i ≤ w.length ∧ m = w.length - i ∧ D = [.box b6 150 [.c (.int .i64 (stampsB b).1), .c (.int .i64 (kdB b)), .sl 1 (bytesRows (txtB b))], .box b4 150 [.c (.int .i64 0), .c (.int .i64 0), .c (.slice none 0 0)], .box b2 150 [.c (.int .i64 0), .c (.int .i64 0), .c (.slice none 0 0)]] ∧ blankB (w.take i) = true ∧ e = [(0, .sl 1 (bytesRows b)), (2, .c (.pointer (some ⟨b2, 0, none⟩))), (4, .c (.pointer (some ⟨b4, 0, none⟩))), (6, .c (.pointer (some ⟨b6, 0, none⟩))), (8, .c (.int .i64 ((11 : Int) + (nB b : Int) + (i : Int))))]) ?_ ?_
 · exact ⟨_, 0, by omega, rfl, rfl, rfl, by simp⟩
 · rintro m e D ⟨i, hi, rfl, rfl, hz, rfl⟩ ih
   refine jr (h := ?_)
   refine jif (h1 := fun hcl => ?_) (h2 := fun hcl => ?_)
   · have hlt : i < w.length := by omega
     have g0 := List.getElem?_eq_getElem hlt
     have g1 := bytes_get ((hrg i (by omega)).trans g0)
     have h0 : (0 : Int) ≤ (i : Int) := by omega
     have e1 : ((11 : Int) + (nB b : Int) + (i : Int)).toNat = 11 + nB b + i := by omega
     refine jf (cB g1 e1 hl) (h := ?_)
     refine jif (h1 := fun hnz => ?_) (h2 := fun hnz => ?_)
     · have hbf : blankB w = false := by
         simp only [blankB, List.all_eq_false]
         exact ⟨w[i], List.getElem_mem hlt, by
           intro hz0
           have : w[i] = 0 := by simpa using hz0
           rw [this] at hnz; exact hnz rfl⟩
       rw [if_pos hbf] at h70
       refine jf (cA hb6 hb4) (h := ?_)
       refine J_forget ?_
       refine jretf (cA hb6 hb4) Tryz.func98 (h := ⟨by rw [h70]; rfl, rfl⟩)
     · refine jr (h := ?_)
       refine jk [0, 2, 4, 6, 8] (h := ?_)
       refine ih _ _ _ ?_ ⟨i + 1, by omega, rfl, rfl, ?_, ?_⟩
       · omega
       · simp only [blankB] at hz ⊢
         rw [List.take_add_one, g0, List.all_append, hz]
         have : w[i] = 0 := by
           apply UInt8.toNat_inj.1
           have : ¬ ((w[i].toNat : Int) ≠ 0) := hnz
           simp only [UInt8.toNat_ofNat]; omega
         simp [this]
       · simp only [Int.natCast_add, Int.cast_ofNat_Int, Int.add_assoc]
   · have hi' : i = w.length := by omega
     subst hi'
     rw [List.take_length] at hz
     rw [if_neg (by simp [hz])] at h70
     refine jf (cA hb6 hb4) (h := ?_)
     refine J_forget ?_
     refine jretf (cA hb6 hb4) Tryz.func98 (h := ⟨by rw [h70]; rfl, rfl⟩)
end
end Go.Proofs.YtdnhcpbammfmlaaGreatDoor
namespace Go.Proofs.YtdnhcpbammfmlaaGreatDoor
open Go Go.Av
section
def chRow (p : Int × Option (List UInt8)) : List AV := [.c (.int .i64 p.1), .sl 1 (bytesRows (p.2.getD [])), .c (.bool p.2.isNone)]
def chRows (l : List (Int × Option (List UInt8))) : List (List AV) := l.map chRow
theorem chRows_len (l : List (Int × Option (List UInt8))) : (chRows l).length = l.length := by simp [chRows]
theorem chRows_row (l : List (Int × Option (List UInt8))) : ∀ r ∈ chRows l, r.length = 3 := by
 intro r hr
 obtain ⟨p, _, rfl⟩ := List.mem_map.1 hr
 rfl
theorem chRows_get {l : List (Int × Option (List UInt8))} {i : Nat} {p : Int × Option (List UInt8)} (h : l[i]? = some p) : (chRows l)[i]? = some [.c (.int .i64 p.1), .sl 1 (bytesRows (p.2.getD [])), .c (.bool p.2.isNone)] := by simp [chRows, h, chRow]
def rCells (r : Fl) : List AV := [.c (.int .i64 r.pages), .sl 2 (cellRows r.safe), .sl 3 (chRows r.loose), .c (.int .i64 r.fuse), .c (.bool r.down), .c (.int .i64 r.done)]
def rAV (r : Fl) : AV := .agg (rCells r)
attribute [local go_sem] packed List.set_cons_zero List.set_cons_succ List.cons_append List.nil_append bytesRows_length cellRows_len chRows_len rCells
attribute [-go_sem] cellsOf AV.isCell
attribute [local go_sem] cellsOf_agg cellsOf_int cellsOf_bool cellsOf_str cellsOf_map cellsOf_ptr cellsOf_nilI cellsOf_slice cellsOf_sl cellsOf_ifc cellsOf_fp cellsOf_opt optAV_cell icell_int icell_bool icell_str icell_map icell_ptr icell_nilI icell_slice icell_sl icell_ifc icell_fp
theorem check04_ok (r : Fl) (at_ : Int) : ACalls Tryz.prog 112 [rAV r, .c (.int .i64 at_)] [] (Ret (.c (.int .i64 (checkF r at_)))) := by
 unfold rAV
 cases hd : r.down with
 | true =>
   have hc : checkF r at_ = 11 := by unfold checkF; rw [if_pos hd]
   refine jen cl_112 Tryz.func112 (h := ?_)
   refine jf hd (h := ?_)
   refine jt (h := ?_)
   refine jr (h := ?_)
   refine jret Tryz.func112 (h := ⟨by rw [hc], rfl⟩)
 | false =>
   by_cases h1 : at_ < 0
   · have d1 := decide_eq_true h1
     have hc : checkF r at_ = 2 := by unfold checkF; rw [if_neg (by simp [hd]), if_pos (.inl h1)]
     refine jen cl_112 Tryz.func112 (h := ?_)
     refine jf hd (h := ?_)
     refine jn (h := ?_)
     refine jf d1 (h := ?_)
     refine jt (h := ?_)
     refine jr (h := ?_)
     refine jret Tryz.func112 (h := ⟨by rw [hc], rfl⟩)
   · have d1 := decide_eq_false h1
     by_cases h2 : at_ ≥ r.pages
     · have d2 := decide_eq_true h2
       have hc : checkF r at_ = 2 := by unfold checkF; rw [if_neg (by simp [hd]), if_pos (.inr h2)]
       refine jen cl_112 Tryz.func112 (h := ?_)
       refine jf hd (h := ?_)
       refine jn (h := ?_)
       refine jf (cA d1 d2) (h := ?_)
       refine jt (h := ?_)
       refine jr (h := ?_)
       refine jret Tryz.func112 (h := ⟨by rw [hc], rfl⟩)
     · have d2 := decide_eq_false h2
       have hc : checkF r at_ = 0 := by unfold checkF; rw [if_neg (by simp [hd]), if_neg (by omega)]
       refine jen cl_112 Tryz.func112 (h := ?_)
       refine jf hd (h := ?_)
       refine jn (h := ?_)
       refine jf (cA d1 d2) (h := ?_)
       refine jn (h := ?_)
       refine jr (h := ?_)
       refine jret Tryz.func112 (h := ⟨by rw [hc], rfl⟩)
theorem burns04_ok (r : Fl) (hd : r.down = false) (hw : r.WF') : ACalls Tryz.prog 114 [rAV r] [] (Ret (.tup [rAV (burnS r), .c (.bool (burnB r))])) := by
 have q1 := hw.f1
 have q2 := hw.f2
 have q3 := hw.d1
 have q4 := hw.d2
 unfold rAV
 refine jen cl_114 Tryz.func114 (h := ?_)
 refine jr (own := [2, 4]) (h := ?_)
 refine jnv (hh := fun b2 hb2 => ?_)
 refine jr (own := [4]) (h := ?_)
 refine jnv (hh := fun b4 hb4 => ?_)
 simp only [fresh] at hb4
 refine jf hb4 (h := ?_)
 refine jif (h1 := fun hc => ?_) (h2 := fun hc => ?_)
 · have hS : burnS r = { r with done := r.done + 1 } := by unfold burnS; rw [if_pos hc]
   have hB : burnB r = false := by unfold burnB; simp [hc]
   refine jf hb4 (h := ?_)
   refine J_forget ?_
   refine jretf hb4 Tryz.func114 (h := ⟨by rw [hS, hB]; rfl, rfl⟩)
 · refine jf hb4 (h := ?_)
   refine jif (h1 := fun hf => ?_) (h2 := fun hf => ?_)
   · have hS : burnS r = { r with done := r.done + 1, fuse := r.fuse - 1, down := true } := by unfold burnS; rw [if_neg hc, show decide (r.fuse - 1 < 0) = true from decide_eq_true (by omega)]
     have hB : burnB r = true := by unfold burnB; rw [decide_eq_true hc, decide_eq_true (show r.fuse - 1 < 0 by omega)]; rfl
     refine jf hb4 (h := ?_)
     refine J_forget ?_
     refine jretf hb4 Tryz.func114 (h := ⟨by rw [hS, hB]; rfl, rfl⟩)
   · have hS : burnS r = { r with done := r.done + 1, fuse := r.fuse - 1 } := by unfold burnS; rw [if_neg hc, show decide (r.fuse - 1 < 0) = false from decide_eq_false (by omega), ← hd]
     have hB : burnB r = false := by unfold burnB; rw [decide_eq_false (show ¬ r.fuse - 1 < 0 by omega)]; simp
     refine jf hb4 (h := ?_)
     refine J_forget ?_
     refine jretf hb4 Tryz.func114 (h := ⟨by rw [hS, hB]; rfl, rfl⟩)
theorem blank04_ok (b : List UInt8) (hb : b.length < 2 ^ 62) : ACalls Tryz.prog 69 [.sl 1 (bytesRows b)] [] (Ret (.c (.bool (blankB b)))) := by
 refine jen cl_69 Tryz.func69 (h := ?_)
 refine jr (h := ?_)
 refine jk [0, 3] (h := ?_)
 refine J_loopI (I := fun m e D => ∃ i : Nat, i ≤ b.length ∧ m = b.length - i ∧ D = [] ∧ blankB (b.take i) = true ∧ e = [(0, .sl 1 (bytesRows b)), (3, .c (.int .i64 i))]) ?_ ?_
 · exact ⟨_, 0, by omega, rfl, rfl, rfl, rfl⟩
 · rintro m e D ⟨i, hi, rfl, rfl, hz, rfl⟩ ih
   refine jr (h := ?_)
   refine jif (h1 := fun hcl => ?_) (h2 := fun hcl => ?_)
   · have hlt : i < b.length := by omega
     have g0 := List.getElem?_eq_getElem hlt
     have g1 := bytes_get g0
     have h0 : (0 : Int) ≤ (i : Int) := by omega
     refine jf g1 (h := ?_)
     refine jif (h1 := fun hnz => ?_) (h2 := fun hnz => ?_)
     · have hbf : blankB b = false := by
         simp only [blankB, List.all_eq_false]
         exact ⟨b[i], List.getElem_mem hlt, by
           intro hz0
           have : b[i] = 0 := by simpa using hz0
           rw [this] at hnz; exact hnz rfl⟩
       refine jr (h := ?_)
       refine jret Tryz.func69 (h := ⟨by rw [hbf], rfl⟩)
     · refine jr (h := ?_)
       refine jk [0, 3] (h := ?_)
       refine ih _ _ _ ?_ ⟨i + 1, by omega, rfl, rfl, ?_, ?_⟩
       · omega
       · simp only [blankB] at hz ⊢
         rw [List.take_add_one, g0, List.all_append, hz]
         have : b[i] = 0 := by
           apply UInt8.toNat_inj.1
           have : ¬ ((b[i].toNat : Int) ≠ 0) := hnz
           simp only [UInt8.toNat_ofNat]; omega
         simp [this]
       · simp only [Int.natCast_add, Int.cast_ofNat_Int]
   · have hi' : i = b.length := by omega
     subst hi'
     rw [List.take_length] at hz
     refine jr (h := ?_)
     refine jret Tryz.func69 (h := ⟨by rw [hz], rfl⟩)
theorem find_take_none {l : List (Int × List UInt8)} {k : Int} {i : Nat} (h : ∀ j, j < i → ∀ p, l[j]? = some p → p.1 ≠ k) {p : Int × List UInt8} (hp : l[i]? = some p) : findM l k = if p.1 = k then some p.2 else findM (l.drop i) k := by
 induction l generalizing i with
 | nil => simp at hp
 | cons q l ih =>
   cases i with
   | zero =>
     simp at hp; subst hp
     unfold findM
     by_cases hk : q.1 = k
     · simp [hk]
     · simp only [hk, if_false]; simp [findM, hk]
   | succ i =>
     have h0 := h 0 (by omega) q rfl
     have := ih (i := i) (fun j hj p hp => h (j + 1) (by omega) p (by simpa using hp)) (by simpa using hp)
     rw [List.drop_succ_cons, ← this]
     conv => lhs; unfold findM
     simp only [h0, if_false]
theorem find_all_none {l : List (Int × List UInt8)} {k : Int} (h : ∀ j, j < l.length → ∀ p, l[j]? = some p → p.1 ≠ k) : findM l k = none := by
 rw [findM_none]
 intro hk
 obtain ⟨p, hp, rfl⟩ := List.mem_map.1 hk
 obtain ⟨j, hj, rfl⟩ := List.getElem_of_mem hp
 exact h j hj _ (List.getElem?_eq_getElem hj) rfl
theorem mk256_op {env : Env} {Δ : List HP} {o : Oper} {x y : Operand} (hop : o.op = .makeSlice 23 x y) (hx : env.eval x = some (.c (.int .i64 256))) (hy : env.eval y = some (.c (.int .i64 256))) :
   OpOK Tryz.prog env Δ o (fun r Δ' => r = .sl 1 (bytesRows z256) ∧ Δ' = Δ) := by
 have h := mkz_op (P := Tryz.prog) (Δ := Δ) (env := env) (n := 256) (s := 1) (zs := [.int .u8 0]) hop Tryz.underlying23 tb_5 tk_5 tz_5 rfl (by decide) (by decide) (by decide) (by decide) hx hy
 have e : List.replicate 256 ([Value.int .u8 0].map AV.c) = bytesRows z256 := by rfl
 rw [e] at h
 exact h
theorem safe04_ok (l : List (Int × List UInt8)) (at_ : Int) (hl : l.length < 2 ^ 60) : ACalls Tryz.prog 90 [.sl 2 (cellRows l), .c (.int .i64 at_)] [] (Ret (.sl 1 (bytesRows (pageOr l at_)))) := by
 refine jen cl_90 Tryz.func90 (h := ?_)
 refine jr (h := ?_)
 refine jk [0, 1, 5] (h := ?_)
 refine J_loopI (I := fun m e D => ∃ i : Nat, i ≤ l.length ∧ m = l.length - i ∧ D = [] ∧ (∀ j, j < i → ∀ p, l[j]? = some p → p.1 ≠ at_) ∧ e = [(0, .sl 2 (cellRows l)), (1, .c (.int .i64 at_)), (5, .c (.int .i64 i))]) ?_ ?_
 · exact ⟨_, 0, by omega, rfl, rfl, fun j hj => by omega, rfl⟩
 · rintro m e D ⟨i, hi, rfl, rfl, hz, rfl⟩ ih
   refine jr (h := ?_)
   refine jif (h1 := fun hcl => ?_) (h2 := fun hcl => ?_)
   · have hlt : i < l.length := by omega
     have g0 := List.getElem?_eq_getElem hlt
     have g1 := cellRows_get g0
     have h0 : (0 : Int) ≤ (i : Int) := by omega
     refine jf g1 (h := ?_)
     refine jif (h1 := fun hk => ?_) (h2 := fun hk => ?_)
     · have hf : pageOr l at_ = l[i].2 := by unfold pageOr; rw [find_take_none hz g0, if_pos hk]; rfl
       refine jf g1 (h := ?_)
       refine jret Tryz.func90 (h := ⟨by rw [hf], rfl⟩)
     · refine jr (h := ?_)
       refine jk [0, 1, 5] (h := ?_)
       refine ih _ _ _ ?_ ⟨i + 1, by omega, rfl, rfl, ?_, ?_⟩
       · omega
       · intro j hj p hp
         by_cases hji : j = i
         · subst hji; rw [g0] at hp; cases hp; exact hk
         · exact hz j (by omega) p hp
       · simp only [Int.natCast_add, Int.cast_ofNat_Int]
   · have hi' : i = l.length := by omega
     subst hi'
     have hf : pageOr l at_ = z256 := by unfold pageOr; rw [find_all_none hz]; rfl
     refine jr (h := ?_)
     refine jop (ho := rfl) (hh := mk256_op rfl gS gS) (hk := ?_)
     rintro _ _ ⟨rfl, rfl⟩
     refine jr (h := ?_)
     refine jret Tryz.func90 (h := ⟨by rw [hf], rfl⟩)
end
section
attribute [local go_sem] packed List.set_cons_zero List.set_cons_succ List.cons_append List.nil_append bytesRows_length cellRows_len chRows_len rCells intRows_len
attribute [-go_sem] cellsOf AV.isCell
attribute [local go_sem] cellsOf_agg cellsOf_int cellsOf_bool cellsOf_str cellsOf_map cellsOf_ptr cellsOf_nilI cellsOf_slice cellsOf_sl cellsOf_ifc cellsOf_fp cellsOf_opt optAV_cell icell_int icell_bool icell_str icell_map icell_ptr icell_nilI icell_slice icell_sl icell_ifc icell_fp
abbrev SN := List (Nat × Int × Int)
def snRow (q : Nat × Int × Int) : List AV := [.c (.int .u64 (q.1 : Int)), .c (.int .i64 q.2.1), .c (.int .i64 q.2.2)]
def snRows (l : SN) : List (List AV) := l.map snRow
theorem snRows_len (l : SN) : (snRows l).length = l.length := by simp [snRows]
theorem snRows_app (l m : SN) : snRows (l ++ m) = snRows l ++ snRows m := by simp [snRows]
theorem snRows_get {l : SN} {i : Nat} (h : i < l.length) : (snRows l)[i]? = some [.c (.int .u64 ((l.getD i (0, 0, 0)).1 : Int)), .c (.int .i64 (l.getD i (0, 0, 0)).2.1), .c (.int .i64 (l.getD i (0, 0, 0)).2.2)] := by
 have h1 : l[i]? = some (l.getD i (0, 0, 0)) := by rw [List.getD_eq_getElem?_getD, List.getElem?_eq_getElem h]; rfl
 rw [snRows, List.getElem?_map, h1]; rfl
def snB : SN → List UInt8
 | [] => []
 | (h, v, a) :: l => word8 h ++ numsB [v.toNat, a.toNat] ++ snB l
def snPut (l : SN) : List UInt8 := numsB [l.length] ++ snB l
theorem snB_take {l : SN} {i : Nat} (h : i < l.length) : snB (l.take (i + 1)) = snB (l.take i) ++ (word8 (l.getD i (0, 0, 0)).1 ++ numsB [(l.getD i (0, 0, 0)).2.1.toNat, (l.getD i (0, 0, 0)).2.2.toNat]) := by
 induction l generalizing i with
 | nil => simp at h
 | cons p l ih =>
   cases i with
   | zero => simp [snB]
   | succ i =>
     have := ih (i := i) (by simpa using h)
     simp only [List.take_succ_cons, snB, List.getD_cons_succ, this, List.append_assoc]
structure SnW (l : SN) : Prop where
 len : l.length ≤ 80
 hash : ∀ p ∈ l, p.1 < 2 ^ 64
 ver : ∀ p ∈ l, 0 ≤ p.2.1 ∧ p.2.1 ≤ 1099511627776
 at_ : ∀ p ∈ l, 0 ≤ p.2.2 ∧ p.2.2 ≤ 1099511627776
theorem snB_len : ∀ {l : SN}, (∀ p ∈ l, p.2.1 ≤ 1099511627776) → (∀ p ∈ l, p.2.2 ≤ 1099511627776) → (snB l).length ≤ 20 * l.length
 | [], _, _ => by simp [snB]
 | (h, v, a) :: l, hv, ha => by
   have h1 := snB_len (l := l) (fun p q => hv p (by simp [q])) (fun p q => ha p (by simp [q]))
   have h4 := hv (h, v, a) (by simp)
   have h5 := ha (h, v, a) (by simp)
   have h2 := numsB_len (l := [v.toNat, a.toNat]) (by intro n hn; simp at hn; simp at h4 h5; omega)
   have h3 : (word8 h).length = 8 := rfl
   simp only [snB, List.length_append, List.length_cons, List.length_nil] at h1 h2 ⊢
   omega
theorem SnW.blen {l : SN} (hw : SnW l) : (snPut l).length ≤ 1606 := by
 have h1 := snB_len (l := l) (fun p q => (hw.ver p q).2) (fun p q => (hw.at_ p q).2)
 have h2 := numsB_len (l := [l.length]) (by intro n hn; have := hw.len; simp at hn; omega)
 have := hw.len
 simp only [snPut, List.length_append, List.length_cons, List.length_nil] at h1 h2 ⊢
 omega
theorem s20bytes_ok (l : SN) (hw : SnW l) : ACalls Tryz.prog 14 [.sl 3 (snRows l)] [] (Ret (.sl 1 (bytesRows (snPut l)))) := by
 have hfl := snRows_len l
 have hlen := hw.len
 have hp0 := (put02_fz [] [l.length] (by simp) (by simp) (by intro n hn; simp at hn; omega)).nilArg (pre := [])
 simp only [natRows, List.map_cons, List.map_nil, List.nil_append] at hp0
 refine jen cl_14 Tryz.func14 (h := ?_)
 refine jf hfl (h := ?_)
 refine jc (hs := hp0) (hk := ?_)
 refine jf hfl (h := ?_)
 refine jk [3, 10, 11, 12] (h := ?_)
 refine J_loopI (I := fun m e D => ∃ i : Nat, i ≤ l.length ∧ m = l.length - i ∧ D = [] ∧ e = [(3, .sl 1 (bytesRows (numsB [l.length] ++ snB (l.take i)))), (10, .sl 3 (snRows l)), (11, .c (.int .i64 l.length)), (12, .c (.int .i64 i))]) ?_ ?_
 · exact ⟨_, 0, by omega, rfl, rfl, by simp [snB]⟩
 · rintro m e D ⟨i, hi, rfl, rfl, rfl⟩ ih
   refine jr (h := ?_)
   refine jif (h1 := fun hc => ?_) (h2 := fun hc => ?_)
   · have hlt : i < l.length := by omega
     have hg := snRows_get hlt
     have h0 : (0 : Int) ≤ (i : Int) := by omega
     have htk := snB_take hlt
     have hbl := snB_len (l := l.take i) (fun p q => (hw.ver p (List.mem_of_mem_take q)).2) (fun p q => (hw.at_ p (List.mem_of_mem_take q)).2)
     rw [List.length_take] at hbl
     have hb0 := numsB_len (l := [l.length]) (by intro n hn; simp at hn; omega)
     simp only [List.length_cons, List.length_nil] at hb0
     have hm : l.getD i (0, 0, 0) ∈ l := by rw [List.getD_eq_getElem?_getD, List.getElem?_eq_getElem hlt]; exact List.getElem_mem hlt
     have hh := hw.hash _ hm
     have hv := hw.ver _ hm
     have ha := hw.at_ _ hm
     generalize l.getD i (0, 0, 0) = q at *
     generalize hcur : numsB [l.length] ++ snB (l.take i) = cur at *
     have hcl : cur.length < 2 ^ 31 := by rw [← hcur]; simp only [List.length_append]; omega
     have hp1 := put02_fz (cur ++ word8 q.1) [q.2.1.toNat, q.2.2.toNat] (by have : (word8 q.1).length = 8 := rfl; rw [List.length_append]; omega) (by simp) (by intro n hn; simp at hn; omega)
     simp only [natRows, List.map_cons, List.map_nil, Int.toNat_of_nonneg hv.1, Int.toNat_of_nonneg ha.1] at hp1
     refine jf (own := [5]) (cA hg hfl) (h := ?_)
     refine jnv (hh := fun b5 hb5 => ?_)
     refine jr (h := ?_)
     refine jd [(0, .pure), (1, .pure), (2, .read), (3, .pure), (4, .pure), (5, .read), (6, .pure), (7, .read), (8, .pure), (9, .pure), (10, .pure)] mixed (by kernel_rfl) ?_
     refine cr (hk := ?_)
     refine ccp (hs := word_ok cur q.1 (by omega) hh) (hk := ?_)
     refine cr (hk := ?_)
     refine ccp (hs := hp1) (hk := ?_)
     refine cr (hk := ?_)
     refine Can_nil ?_
     refine jr (h := ?_)
     refine J_dropall ?_
     refine jk [3, 10, 11, 12] (h := ?_)
     refine ih (l.length - (i + 1)) _ _ (by omega) ⟨i + 1, by omega, rfl, rfl, ?_⟩
     rw [htk, ← hcur]
     simp only [List.append_assoc]
     rfl
   · have hi2 : i = l.length := by omega
     subst hi2
     rw [List.take_length]
     refine jr (h := ?_)
     refine jret Tryz.func14 (h := ⟨rfl, rfl⟩)
theorem r20bytes_ok (l : SN) (hw : SnW l) : ACalls Tryz.prog 16 [.sl 3 (snRows l)] [] (Ret (.sl 1 (bytesRows (snPut l)))) := by
 have hfl := snRows_len l
 have hlen := hw.len
 have hp0 := (putR_fz [] [l.length] (by simp) (by simp) (by intro n hn; simp at hn; omega)).nilArg (pre := [])
 simp only [natRows, List.map_cons, List.map_nil, List.nil_append] at hp0
 refine jen cl_16 Tryz.func16 (h := ?_)
 refine jf hfl (h := ?_)
 refine jc (hs := hp0) (hk := ?_)
 refine jf hfl (h := ?_)
 refine jk [0, 3, 4] (h := ?_)
 refine J_loopI (I := fun m e D => ∃ i : Nat, i ≤ l.length ∧ m = l.length - i ∧ D = [] ∧ e = [(0, .sl 3 (snRows l)), (3, .sl 1 (bytesRows (numsB [l.length] ++ snB (l.take i)))), (4, .c (.int .i64 i))]) ?_ ?_
 · exact ⟨_, 0, by omega, rfl, rfl, by simp [snB]⟩
 · rintro m e D ⟨i, hi, rfl, rfl, rfl⟩ ih
   refine jf hfl (h := ?_)
   refine jif (h1 := fun hc => ?_) (h2 := fun hc => ?_)
   · have hlt : i < l.length := by omega
     have hg := snRows_get hlt
     have h0 : (0 : Int) ≤ (i : Int) := by omega
     have htk := snB_take hlt
     have hbl := snB_len (l := l.take i) (fun p q => (hw.ver p (List.mem_of_mem_take q)).2) (fun p q => (hw.at_ p (List.mem_of_mem_take q)).2)
     rw [List.length_take] at hbl
     have hb0 := numsB_len (l := [l.length]) (by intro n hn; simp at hn; omega)
     simp only [List.length_cons, List.length_nil] at hb0
     have hm : l.getD i (0, 0, 0) ∈ l := by rw [List.getD_eq_getElem?_getD, List.getElem?_eq_getElem hlt]; exact List.getElem_mem hlt
     have hh := hw.hash _ hm
     have hv := hw.ver _ hm
     have ha := hw.at_ _ hm
     generalize l.getD i (0, 0, 0) = q at *
     generalize hcur : numsB [l.length] ++ snB (l.take i) = cur at *
     have hcl : cur.length < 2 ^ 31 := by rw [← hcur]; simp only [List.length_append]; omega
     have hp1 := putR_fz (cur ++ word8 q.1) [q.2.1.toNat, q.2.2.toNat] (by have : (word8 q.1).length = 8 := rfl; rw [List.length_append]; omega) (by simp) (by intro n hn; simp at hn; omega)
     simp only [natRows, List.map_cons, List.map_nil, Int.toNat_of_nonneg hv.1, Int.toNat_of_nonneg ha.1] at hp1
     refine jf (cA hg hfl) (h := ?_)
     refine jc (hs := word02_fz cur q.1 (by omega) hh) (hk := ?_)
     refine jr (h := ?_)
     refine jd [(0, .pure), (1, .pure), (2, .pure), (3, .pure), (4, .pure), (5, .read), (6, .pure), (7, .pure), (8, .pure), (9, .pure), (10, .read), (11, .pure), (12, .pure), (13, .pure)] mixed (by kernel_rfl) ?_
     refine cf (cA hg hfl) (hk := ?_)
     refine ccp (hs := hp1) (hk := ?_)
     refine cr (hk := ?_)
     refine Can_nil ?_
     refine jr (h := ?_)
     refine jk [0, 3, 4] (h := ?_)
     refine ih (l.length - (i + 1)) _ _ (by omega) ⟨i + 1, by omega, rfl, rfl, ?_⟩
     rw [htk, ← hcur]
     simp only [List.append_assoc]
     rfl
   · have hi2 : i = l.length := by omega
     subst hi2
     rw [List.take_length]
     refine jr (h := ?_)
     refine jret Tryz.func16 (h := ⟨rfl, rfl⟩)
theorem s20pages_ok (n : Nat) (hn : n < 2 ^ 40) : ACalls Tryz.prog 11 [.c (.int .i64 n)] [] (Ret (.c (.int .i64 (((n + 199) / 200 : Nat) : Int)))) := by
 have hq := quo_i64 (a := n + 199) (b := 200) (by omega) (by omega)
 have hca : (n : Int) + 199 = ((n + 199 : Nat) : Int) := by omega
 have hcb : (n : Int) + 200 - 1 = ((n + 199 : Nat) : Int) := by omega
 refine jen cl_11 Tryz.func11 (h := ?_)
 refine jf (cB hca hcb hq) (h := ?_)
 refine jret Tryz.func11 (h := ⟨rfl, rfl⟩)
theorem r20pages_ok (n : Nat) (hn : n < 2 ^ 40) : ACalls Tryz.prog 12 [.c (.int .i64 n)] [] (Ret (.c (.int .i64 (((n + 199) / 200 : Nat) : Int)))) := by
 have hq := quo_i64 (a := n + 199) (b := 200) (by omega) (by omega)
 have hca : (n : Int) + 199 = ((n + 199 : Nat) : Int) := by omega
 refine jen cl_12 Tryz.func12 (h := ?_)
 refine jf (cA hca hq) (h := ?_)
 refine jret Tryz.func12 (h := ⟨rfl, rfl⟩)
end
section
attribute [local go_sem] packed List.set_cons_zero List.set_cons_succ List.cons_append List.nil_append bytesRows_length cellRows_len chRows_len rCells
attribute [-go_sem] cellsOf AV.isCell
attribute [local go_sem] cellsOf_agg cellsOf_int cellsOf_bool cellsOf_str cellsOf_map cellsOf_ptr cellsOf_nilI cellsOf_slice cellsOf_sl cellsOf_ifc cellsOf_fp cellsOf_opt optAV_cell icell_int icell_bool icell_str icell_map icell_ptr icell_nilI icell_slice icell_sl icell_ifc icell_fp
theorem lookL_snoc {l : List (Int × Option (List UInt8))} {i : Nat} {p : Int × Option (List UInt8)} (h : l[i]? = some p) (at_ : Int) : lookL (l.take (i + 1)) at_ = if p.1 = at_ then some p.2 else lookL (l.take i) at_ := by
 unfold lookL; rw [List.take_add_one, h, List.foldl_append]; rfl
def lookP (r : Fl) (at_ : Int) (i : Nat) : List UInt8 := match lookL (r.loose.take i) at_ with
 | some o => o.getD z256
 | none => pageOr r.safe at_
theorem lookP_snoc {r : Fl} {i : Nat} {p : Int × Option (List UInt8)} (h : r.loose[i]? = some p) (at_ : Int) : lookP r at_ (i + 1) = if p.1 = at_ then p.2.getD z256 else lookP r at_ i := by
 unfold lookP; rw [lookL_snoc h]
 by_cases hk : p.1 = at_
 · rw [if_pos hk, if_pos hk]
 · rw [if_neg hk, if_neg hk]
theorem lookP_all (r : Fl) (at_ : Int) : lookP r at_ r.loose.length = lookB r at_ := by
 unfold lookP lookB pageOr; rw [List.take_length]
 cases lookL r.loose at_ <;> rfl
theorem look04_ok (r : Fl) (at_ : Int) (h1 : r.safe.length < 2 ^ 60) (h2 : r.loose.length < 2 ^ 60) : ACalls Tryz.prog 68 [rAV r, .c (.int .i64 at_)] [] (Ret (.sl 1 (bytesRows (lookB r at_)))) := by
 unfold rAV
 refine jen cl_68 Tryz.func68 (h := ?_)
 refine jr (h := ?_)
 refine jc (hs := safe04_ok r.safe at_ h1) (hk := ?_)
 refine jr (h := ?_)
 refine jk [1, 2, 5, 6] (h := ?_)
 refine J_loopI (I := fun m e D => ∃ i : Nat, i ≤ r.loose.length ∧ m = r.loose.length - i ∧ D = [] ∧ e = [(1, .c (.int .i64 at_)), (2, .fp (rCells r)), (5, .sl 1 (bytesRows (lookP r at_ i))), (6, .c (.int .i64 i))]) ?_ ?_
 · exact ⟨_, 0, by omega, rfl, rfl, rfl⟩
 · rintro m e D ⟨i, hi, rfl, rfl, rfl⟩ ih
   refine jr (h := ?_)
   refine jif (h1 := fun hc => ?_) (h2 := fun hc => ?_)
   · have hlt : i < r.loose.length := by omega
     have g0 := List.getElem?_eq_getElem hlt
     have g1 := chRows_get g0
     have h0 : (0 : Int) ≤ (i : Int) := by omega
     have hs := lookP_snoc g0 at_
     refine jf g1 (h := ?_)
     refine jif (h1 := fun hk => ?_) (h2 := fun hk => ?_)
     · rw [if_pos hk] at hs
       refine jf g1 (h := ?_)
       cases ho : r.loose[i].2 with
       | none =>
         rw [ho] at hs
         refine jf ho (h := ?_)
         refine jt (h := ?_)
         refine jr (h := ?_)
         refine jop (ho := rfl) (hh := mk256_op rfl gS gS) (hk := ?_)
         rintro _ _ ⟨rfl, rfl⟩
         refine jr (h := ?_)
         refine jk [1, 2, 5, 6] (h := ?_)
         refine ih _ _ _ ?_ ⟨i + 1, by omega, rfl, rfl, ?_⟩
         · omega
         · rw [hs]; rfl
       | some b =>
         rw [ho] at hs
         refine jf ho (h := ?_)
         refine jn (h := ?_)
         refine jr (h := ?_)
         refine jk [1, 2, 5, 6] (h := ?_)
         refine ih _ _ _ ?_ ⟨i + 1, by omega, rfl, rfl, ?_⟩
         · omega
         · rw [hs]; rfl
     · rw [if_neg hk] at hs
       refine jr (h := ?_)
       refine jk [1, 2, 5, 6] (h := ?_)
       refine ih _ _ _ ?_ ⟨i + 1, by omega, rfl, rfl, ?_⟩
       · omega
       · rw [hs]; rfl
   · have hi' : i = r.loose.length := by omega
     subst hi'
     refine jr (h := ?_)
     refine jret Tryz.func68 (h := ⟨by rw [lookP_all], rfl⟩)
theorem read04_ok (r : Fl) (at_ : Int) (h1 : r.safe.length < 2 ^ 60) (h2 : r.loose.length < 2 ^ 60) : ACalls Tryz.prog 97 [rAV r, .c (.int .i64 at_)] []
   (Ret (.tup [if checkF r at_ = 0 then .sl 1 (bytesRows (lookB r at_)) else .c (.slice none 0 0), .c (.int .i64 (checkF r at_))])) := by
 have hk := check04_ok r at_
 have hl := look04_ok r at_ h1 h2
 unfold rAV at *
 refine jen cl_97 Tryz.func97 (h := ?_)
 refine jr (h := ?_)
 refine jc (hs := hk) (hk := ?_)
 refine jr (h := ?_)
 refine jif (h1 := fun hc => ?_) (h2 := fun hc => ?_)
 · refine jr (h := ?_)
   refine jret Tryz.func97 (h := ⟨by rw [if_neg hc], rfl⟩)
 · have hc0 : checkF r at_ = 0 := by omega
   refine jr (h := ?_)
   refine jc (hs := hl) (hk := ?_)
   refine jr (h := ?_)
   refine jret Tryz.func97 (h := ⟨by rw [if_pos hc0, hc0], rfl⟩)
def lowC (l : List (Int × List UInt8)) (at_ : Int) : Nat := (l.takeWhile fun p => decide (p.1 < at_)).length
theorem lowC_eq {l : List (Int × List UInt8)} {at_ : Int} {i : Nat} (h1 : ∀ j, j < i → ∀ p, l[j]? = some p → p.1 < at_) (h2 : i = l.length ∨ ∃ p, l[i]? = some p ∧ ¬ p.1 < at_) : lowC l at_ = i := by
 induction l generalizing i with
 | nil =>
   rcases h2 with rfl | ⟨p, h, _⟩
   · rfl
   · simp at h
 | cons q l ih =>
   unfold lowC at ih ⊢
   cases i with
   | zero =>
     rcases h2 with h | ⟨p, h, hn⟩
     · simp at h
     · simp at h; subst h
       rw [List.takeWhile_cons, if_neg (by simpa using hn)]; rfl
   | succ i =>
     have h0 := h1 0 (by omega) q rfl
     rw [List.takeWhile_cons, if_pos (by simpa using h0), List.length_cons, ih (i := i)]
     · exact fun j hj p hp => h1 (j + 1) (by omega) p (by simpa using hp)
     · rcases h2 with h | ⟨p, h, hn⟩
       · left; simpa using h
       · right; exact ⟨p, by simpa using h, hn⟩
def hitC (l : List (Int × List UInt8)) (at_ : Int) (i : Nat) : Bool := match l[i]? with
 | some p => decide (p.1 = at_)
 | none => false
def putC (l : List (Int × List UInt8)) (at_ : Int) (b : List UInt8) : List (Int × List UInt8) :=
 l.take (lowC l at_) ++ (if blankB b then [] else [(at_, b)]) ++ l.drop (lowC l at_ + (if hitC l at_ (lowC l at_) then 1 else 0))
theorem cellRows_app (a b : List (Int × List UInt8)) : cellRows (a ++ b) = cellRows a ++ cellRows b := by simp [cellRows]
theorem cellRows_drop (l : List (Int × List UInt8)) (n : Nat) : (cellRows l).drop n = cellRows (l.drop n) := by simp [cellRows, List.map_drop]
theorem cellRows_cell (l : List (Int × List UInt8)) : (cellRows l).flatten.all AV.isCell = true := by
 induction l with
 | nil => rfl
 | cons p l ih => simp only [cellRows, List.map_cons, List.flatten_cons, List.all_append, cellRow] at ih ⊢; rw [ih]; rfl
theorem own_app {e : TypeId} {a b : List (Int × List UInt8)} {v : Value} {D : List HP} (h : Own e 2 ((cellRows a).flatten ++ (cellRows b).flatten) (a.length + b.length) v D) : Own e 2 (cellRows (a ++ b)).flatten (a ++ b).length v D := by
 rw [cellRows_app, List.flatten_append, List.length_append]; exact h
theorem put04_ok (l : List (Int × List UInt8)) (at_ : Int) (b : List UInt8) (hl : l.length < 2 ^ 30) (hb : b.length < 2 ^ 37) : ACalls Tryz.prog 94 [.sl 2 (cellRows l), .c (.int .i64 at_), .sl 1 (bytesRows b)] [] (Ret (.sl 2 (cellRows (putC l at_ b)))) := by
 refine jen cl_94 Tryz.func94 (h := ?_)
 refine jr (h := ?_)
 refine jk [0, 1, 2, 7, 8] (h := ?_)
 refine J_loopI (I := fun m e D => ∃ (i : Nat) (v : Value), i ≤ l.length ∧ m = l.length - i ∧ (∀ j, j < i → ∀ p, l[j]? = some p → p.1 < at_) ∧ Own 98 2 (cellRows (l.take i)).flatten (l.take i).length v D ∧ e = [(0, .sl 2 (cellRows l)), (1, .c (.int .i64 at_)), (2, .sl 1 (bytesRows b)), (7, .c v), (8, .c (.int .i64 i))]) ?_ ?_
 · exact ⟨_, 0, .slice none 0 0, by omega, rfl, fun j hj => by omega, .nil none rfl rfl, rfl⟩
 · rintro m e D ⟨i, v, hi, rfl, hlow, how, rfl⟩ ih
   have h0 : (0 : Int) ≤ (i : Int) := by omega
   obtain ⟨hlt, hk⟩ | ⟨hlt, hk⟩ | hlt : (∃ h : i < l.length, l[i].1 < at_) ∨ (∃ h : i < l.length, ¬ l[i].1 < at_) ∨ ¬ i < l.length := by
     by_cases h : i < l.length
     · by_cases h2 : l[i].1 < at_
       · exact .inl ⟨h, h2⟩
       · exact .inr (.inl ⟨h, h2⟩)
     · exact .inr (.inr h)
   · have g0 := List.getElem?_eq_getElem hlt
     have g1 := cellRows_get g0
     have d1 := decide_eq_true (show (i : Int) < (l.length : Int) by omega)
     have d2 := decide_eq_true hk
     have hti : l.take (i + 1) = l.take i ++ [l[i]] := by rw [List.take_add_one, g0]; rfl
     refine jf (cB d1 d2 g1) (h := ?_)
     refine jt (h := ?_)
     refine jf (own := [28]) g1 (h := ?_)
     refine jap (Fr := []) (how := how) (hp := (by simp)) (hsrc := (by simp only [go_sem, srcOf] <;> rfl)) (hc := (by rfl)) (hmax := (by rw [List.length_take]; omega)) (hk := ?_)
     rintro _ D2 ⟨v2, _, rfl, rfl, how2⟩
     refine jr (h := ?_)
     refine jk [0, 1, 2, 7, 8] (h := ?_)
     refine ih _ _ _ ?_ ⟨i + 1, v2, by omega, rfl, ?_, ?_, rfl⟩
     · omega
     · intro j hj p hp
       by_cases hji : j = i
       · subst hji; rw [g0] at hp; cases hp; exact hk
       · exact hlow j (by omega) p hp
     · rw [hti]; exact own_app (b := [l[i]]) how2
   have g0 := List.getElem?_eq_getElem hlt
   have g1 := cellRows_get g0
   have d1 := decide_eq_true (show (i : Int) < (l.length : Int) by omega)
   have d2 := decide_eq_false hk
   have hlo : lowC l at_ = i := lowC_eq hlow (.inr ⟨_, g0, hk⟩)
   refine jf (cB d1 d2 g1) (h := ?_)
   refine jn (h := ?_)
   refine jk [0, 1, 2, 7, 8] (h := ?_)
   clear g0 g1 d1 d2 hk hlt
   rotate_left
   have hlo : lowC l at_ = i := lowC_eq hlow (.inl (by omega))
   have d1 := decide_eq_false (show ¬ (i : Int) < (l.length : Int) by omega)
   refine jf d1 (h := ?_)
   refine jn (h := ?_)
   refine jk [0, 1, 2, 7, 8] (h := ?_)
   clear d1 hlt
   all_goals
     refine jr (h := ?_)
     refine jc (hs := blank04_ok b (by omega)) (hk := ?_)
     refine jr (h := ?_)
     have hpc : putC l at_ b = l.take i ++ (if blankB b then [] else [(at_, b)]) ++ l.drop (i + (if hitC l at_ i then 1 else 0)) := by unfold putC; rw [hlo]
     rw [hpc]
     rcases hbl : blankB b with _ | _
     refine jt (h := ?_)
     refine jr (own := [39]) (h := ?_)
     refine jap (Fr := []) (how := how) (hp := (by simp)) (hsrc := (by simp only [go_sem, srcOf] <;> rfl)) (hc := (by rfl)) (hmax := (by rw [List.length_take]; omega)) (hk := ?_)
     rintro _ D2 ⟨v2, _, rfl, rfl, how2⟩
     have how8 : Own 98 2 (cellRows (l.take i ++ (if false = true then [] else [(at_, b)]))).flatten (l.take i ++ (if false = true then [] else [(at_, b)])).length v2 D2 := own_app (b := [(at_, b)]) how2
     have hl8 : (l.take i ++ (if false = true then [] else [(at_, b)])).length ≤ i + 1 := by simp only [Bool.false_eq_true, if_false, List.length_append, List.length_take, List.length_cons, List.length_nil]; omega
     refine jm 1 (h := ?_)
     refine jk [0, 1, 7, 8] (h := ?_)
     rotate_left
     refine jn (h := ?_)
     have how8 : Own 98 2 (cellRows (l.take i ++ (if true = true then [] else [(at_, b)]))).flatten (l.take i ++ (if true = true then [] else [(at_, b)])).length v D := by rw [if_pos rfl, List.append_nil]; exact how
     have hl8 : (l.take i ++ (if true = true then [] else [(at_, b)])).length ≤ i + 1 := by simp only [if_true, List.append_nil, List.length_take]; omega
     refine jk [0, 1, 7, 8] (h := ?_)
     all_goals
       generalize hX : l.take i ++ _ = X at how8 hl8 ⊢
       have hcut : ∀ k, List.drop k (List.take l.length (cellRows l)) = cellRows (l.drop k) := fun k => by rw [List.take_of_length_le (by rw [cellRows_len]; exact Nat.le_refl _), cellRows_drop]
       have hto : ((i : Int) + 1).toNat = i + 1 := by omega
       obtain ⟨hlt, hk⟩ | ⟨hlt, hk⟩ | hlt : (∃ h : i < l.length, l[i].1 = at_) ∨ (∃ h : i < l.length, ¬ l[i].1 = at_) ∨ ¬ i < l.length := by
         by_cases h : i < l.length
         · by_cases h2 : l[i].1 = at_
           · exact .inl ⟨h, h2⟩
           · exact .inr (.inl ⟨h, h2⟩)
         · exact .inr (.inr h)
       have g0 := List.getElem?_eq_getElem hlt
       have g1 := cellRows_get g0
       have d1 := decide_eq_true (show (i : Int) < (l.length : Int) by omega)
       have d2 := decide_eq_true hk
       have hh : hitC l at_ i = true := by unfold hitC; rw [g0]; exact d2
       rw [hh, if_pos rfl]
       refine jf (cB d1 d2 g1) (h := ?_)
       refine jt (h := ?_)
       refine jf (own := [59]) (cA hcut hto) (h := ?_)
       rotate_left
       have g0 := List.getElem?_eq_getElem hlt
       have g1 := cellRows_get g0
       have d1 := decide_eq_true (show (i : Int) < (l.length : Int) by omega)
       have d2 := decide_eq_false hk
       have hh : hitC l at_ i = false := by unfold hitC; rw [g0]; exact d2
       rw [hh, if_neg (by decide)]
       refine jf (cB d1 d2 g1) (h := ?_)
       refine jn (h := ?_)
       refine jf (own := [59]) (cA hcut hto) (h := ?_)
       rotate_left
       have d1 := decide_eq_false (show ¬ (i : Int) < (l.length : Int) by omega)
       have hh : hitC l at_ i = false := by unfold hitC; rw [List.getElem?_eq_none (by omega)]
       rw [hh, if_neg (by decide)]
       refine jf d1 (h := ?_)
       refine jn (h := ?_)
       refine jf (own := [59]) (cA hcut hto) (h := ?_)
       all_goals
         refine jap (Fr := []) (how := how8) (hp := (by simp)) (hsrc := (by simp only [go_sem, srcOf] <;> rfl)) (hc := (cellRows_cell _)) (hmax := (by rw [List.length_drop]; omega)) (hk := ?_)
         rintro _ D9 ⟨v9, _, rfl, rfl, how9⟩
         have how10 := own_app how9
         obtain ⟨a9, c9, rfl⟩ := how10.slice
         refine jr (h := ?_)
         refine J_freezeS (rows := cellRows _) (Fr := []) (by rw [cellRows_len]; exact how10) (cellRows_row _) (by rw [cellRows_len, List.length_append, List.length_drop]; unfold maxRows; omega) ?_
         refine J_is (t := 6) (by simp only [go_sem] <;> rfl) (List.mem_cons_self ..) (J_drop ?_)
         refine jret Tryz.func94 (h := ⟨rfl, rfl⟩)
end
section
attribute [local go_sem] packed List.set_cons_zero List.set_cons_succ List.cons_append List.nil_append bytesRows_length cellRows_len chRows_len rCells intRows_len
attribute [-go_sem] cellsOf AV.isCell
attribute [local go_sem] cellsOf_agg cellsOf_int cellsOf_bool cellsOf_str cellsOf_map cellsOf_ptr cellsOf_nilI cellsOf_slice cellsOf_sl cellsOf_ifc cellsOf_fp cellsOf_opt optAV_cell icell_int icell_bool icell_str icell_map icell_ptr icell_nilI icell_slice icell_sl icell_ifc icell_fp
def keepN (keep : Int) : Nat := (min keep 256).toNat
def settleC (l : List (Int × List UInt8)) (at_ : Int) (o : Option (List UInt8)) (keep : Int) : List (Int × List UInt8) := match o with
 | none => if keep < 256 then l else putC l at_ z256
 | some b => putC l at_ (b.take (keepN keep) ++ (pageOr l at_).drop (keepN keep))
theorem pageOr_len {l : List (Int × List UInt8)} (h : ∀ p ∈ l, p.2.length = 256) (at_ : Int) : (pageOr l at_).length = 256 := by
 unfold pageOr
 cases hf : findM l at_ with
 | none => simp [z256]
 | some w => exact h _ (mem_find hf)
theorem settle04_ok (l : List (Int × List UInt8)) (at_ : Int) (o : Option (List UInt8)) (keep : Int) (hl : l.length < 2 ^ 30) (hp : ∀ p ∈ l, p.2.length = 256) (ho : ∀ b, o = some b → b.length = 256) :
   ACalls Tryz.prog 73 [.sl 2 (cellRows l), .agg [.c (.int .i64 at_), .sl 1 (bytesRows (o.getD [])), .c (.bool o.isNone)], .c (.int .i64 keep)] [] (Ret (.sl 2 (cellRows (settleC l at_ o keep)))) := by
 cases o with
 | none =>
   refine jen cl_73 Tryz.func73 (h := ?_)
   refine jf True.intro (h := ?_)
   refine jt (h := ?_)
   refine jr (h := ?_)
   refine jif (h1 := fun hk => ?_) (h2 := fun hk => ?_)
   · refine jr (h := ?_)
     refine jret Tryz.func73 (h := ⟨by unfold settleC; simp only; rw [if_pos hk], rfl⟩)
   · refine jr (h := ?_)
     refine jd [(0, .pure), (1, .pure), (2, .pure), (3, .act), (4, .pure), (5, .pure)] mixed (by kernel_rfl) ?_
     refine cr (hk := ?_)
     refine Can_op rfl gN (fun e' ha => mk256_op rfl (agree_eval rfl ha (by simp [Op.operands]) gR) (agree_eval rfl ha (by simp [Op.operands]) gR)) ?_
     rintro _ _ ⟨rfl, rfl⟩
     refine cr (hk := ?_)
     refine ccp (hs := put04_ok l at_ z256 hl (by simp [z256])) (hk := ?_)
     refine cr (hk := ?_)
     refine Can_nil ?_
     refine jret Tryz.func73 (h := ⟨by unfold settleC; simp only; rw [if_neg hk], rfl⟩)
 | some b =>
   have hb := ho b rfl
   have hw := pageOr_len hp at_
   have hS : settleC l at_ (some b) keep = putC l at_ (b.take (keepN keep) ++ (pageOr l at_).drop (keepN keep)) := rfl
   have hkl : keepN keep ≤ 256 := by unfold keepN; omega
   rw [hS]
   refine jen cl_73 Tryz.func73 (h := ?_)
   refine jf True.intro (h := ?_)
   refine jn (h := ?_)
   refine jr (h := ?_)
   refine jc (hs := safe04_ok l at_ (by omega)) (hk := ?_)
   generalize pageOr l at_ = w at hw ⊢
   have hn : (b.take (keepN keep) ++ w.drop (keepN keep)).length = 256 := by rw [List.length_append, List.length_take, List.length_drop]; omega
   have hget : ∀ i : Nat, (h : i < 256) → (b.take (keepN keep) ++ w.drop (keepN keep))[i]? = if (i : Int) < keep then b[i]? else w[i]? := fun i h => by
     by_cases hik : (i : Int) < keep
     · have : i < keepN keep := by unfold keepN; omega
       rw [if_pos hik, List.getElem?_append_left (by rw [List.length_take]; omega), List.getElem?_take_of_lt this]
     · have : keepN keep ≤ i := by unfold keepN; omega
       rw [if_neg hik, List.getElem?_append_right (by rw [List.length_take]; omega), List.getElem?_drop, List.length_take]
       congr 1; omega
   generalize b.take (keepN keep) ++ w.drop (keepN keep) = nb at hn hget ⊢
   refine jr (h := ?_)
   refine jk [0, 2, 4, 7, 8, 9] (h := ?_)
   refine J_loopI (I := fun m e D => ∃ (i : Nat) (v : Value), i ≤ 256 ∧ m = 256 - i ∧ OwnB 5 (nb.take i) v D ∧ e = [(0, .sl 2 (cellRows l)), (2, .c (.int .i64 keep)), (4, .fp [.c (.int .i64 at_), .sl 1 (bytesRows b), .c (.bool false)]), (7, .c v), (8, .sl 1 (bytesRows w)), (9, .c (.int .i64 i))]) ?_ ?_
   · exact ⟨_, 0, .slice none 0 0, by omega, rfl, .nil none rfl rfl, rfl⟩
   · rintro m e D ⟨i, v, hi, rfl, how, rfl⟩ ih
     refine jr (h := ?_)
     refine jif (h1 := fun hc => ?_) (h2 := fun hc => ?_)
     · have hlt : i < 256 := by omega
       have g0 := List.getElem?_eq_getElem (l := nb) (i := i) (by omega)
       have hti : nb.take (i + 1) = nb.take i ++ [nb[i]] := by rw [List.take_add_one, g0]; rfl
       have hg := hget i hlt
       have h0 : (0 : Int) ≤ (i : Int) := by omega
       rw [g0] at hg
       generalize nb[i] = c at hti hg
       refine jr (h := ?_)
       refine jif (h1 := fun hik => ?_) (h2 := fun hik => ?_)
       · rw [if_pos hik] at hg
         have g1 := bytes_get hg.symm
         refine jf (own := [38]) g1 (h := ?_)
         refine jap (Fr := []) (how := how) (hp := (by simp)) (hsrc := (by simp only [go_sem, srcOf] <;> rfl)) (hc := (by rfl)) (hmax := (by rw [List.length_take]; omega)) (hk := ?_)
         rintro _ D2 ⟨v2, _, rfl, rfl, how2⟩
         have how3 : OwnB 5 (nb.take (i + 1)) v2 D2 := by rw [hti]; exact ownB_app (b := [c]) how2
         refine jr (h := ?_)
         refine jk [0, 2, 4, 7, 8, 9] (h := ?_)
         refine ih _ _ _ ?_ ⟨i + 1, v2, by omega, rfl, how3, rfl⟩
         omega
       · rw [if_neg hik] at hg
         have g1 := bytes_get hg.symm
         refine jf (own := [45]) g1 (h := ?_)
         refine jap (Fr := []) (how := how) (hp := (by simp)) (hsrc := (by simp only [go_sem, srcOf] <;> rfl)) (hc := (by rfl)) (hmax := (by rw [List.length_take]; omega)) (hk := ?_)
         rintro _ D2 ⟨v2, _, rfl, rfl, how2⟩
         have how3 : OwnB 5 (nb.take (i + 1)) v2 D2 := by rw [hti]; exact ownB_app (b := [c]) how2
         refine jr (h := ?_)
         refine jk [0, 2, 4, 7, 8, 9] (h := ?_)
         refine ih _ _ _ ?_ ⟨i + 1, v2, by omega, rfl, how3, rfl⟩
         omega
     · have hi' : i = 256 := by omega
       subst hi'
       rw [List.take_of_length_le (by omega)] at how
       refine jr (h := ?_)
       refine J_freezeB (Fr := []) how (by unfold maxRows; omega) ?_
       refine J_is (t := 49) (by simp only [go_sem] <;> rfl) (List.mem_cons_self ..) (J_drop ?_)
       refine jc (hs := put04_ok l at_ nb hl (by omega)) (hk := ?_)
       refine jr (h := ?_)
       refine jret Tryz.func73 (h := ⟨rfl, rfl⟩)
theorem fuse04_ok (r : Fl) (n : Int) : ACalls Tryz.prog 45 [rAV r, .c (.int .i64 n)] [] (Ret (rAV (fuseS r n))) := by
 unfold rAV
 refine jen cl_45 Tryz.func45 (h := ?_)
 refine jr (own := [4, 5]) (h := ?_)
 refine jnv (hh := fun b4 hb4 => ?_)
 refine jr (own := [5]) (h := ?_)
 refine jnv (hh := fun b5 hb5 => ?_)
 simp only [fresh] at hb5
 refine jf hb5 (h := ?_)
 refine jif (h1 := fun hc => ?_) (h2 := fun hc => ?_)
 · have hm : max n (-1) = -1 := by omega
   refine jf hb5 (h := ?_)
   refine J_forget ?_
   refine jretf hb5 Tryz.func45 (h := ⟨by unfold fuseS rCells; simp only [hm], rfl⟩)
 · have hm : max n (-1) = n := by omega
   refine jf hb5 (h := ?_)
   refine J_forget ?_
   refine jretf hb5 Tryz.func45 (h := ⟨by unfold fuseS rCells; simp only [hm], rfl⟩)
theorem putC_page {l : List (Int × List UInt8)} {at_ : Int} {b : List UInt8} (h : ∀ p ∈ l, p.2.length = 256) (hb : b.length = 256) : ∀ p ∈ putC l at_ b, p.2.length = 256 := by
 intro p hp
 unfold putC at hp
 rcases List.mem_append.1 hp with hp | hp
 · rcases List.mem_append.1 hp with hp | hp
   · exact h p (List.take_subset _ _ hp)
   · split at hp
     · cases hp
     · rw [List.mem_singleton.1 hp]; exact hb
 · exact h p (List.drop_subset _ _ hp)
theorem putC_len (l : List (Int × List UInt8)) (at_ : Int) (b : List UInt8) : (putC l at_ b).length ≤ l.length + 1 := by
 unfold putC
 rw [List.length_append, List.length_append, List.length_take, List.length_drop]
 split <;> simp <;> omega
theorem settleC_page {l : List (Int × List UInt8)} {at_ : Int} {o : Option (List UInt8)} {keep : Int} (h : ∀ p ∈ l, p.2.length = 256) (ho : ∀ b, o = some b → b.length = 256) : ∀ p ∈ settleC l at_ o keep, p.2.length = 256 := by
 cases o with
 | none =>
   unfold settleC
   simp only
   split
   · exact h
   · exact putC_page h (by simp [z256])
 | some b =>
   refine putC_page h ?_
   have hb := ho b rfl
   have hw := pageOr_len h at_
   have hkl : keepN keep ≤ 256 := by unfold keepN; omega
   rw [List.length_append, List.length_take, List.length_drop]; omega
theorem settleC_len (l : List (Int × List UInt8)) (at_ : Int) (o : Option (List UInt8)) (keep : Int) : (settleC l at_ o keep).length ≤ l.length + 1 := by
 cases o with
 | none =>
   unfold settleC
   simp only
   split
   · omega
   · exact putC_len _ _ _
 | some b => exact putC_len _ _ _
def settleAllC (l : List (Int × List UInt8)) (ls : List (Int × Option (List UInt8))) : List (Int × List UInt8) := ls.foldl (fun m p => settleC m p.1 p.2 256) l
theorem settleAllC_ok : ∀ {ls : List (Int × Option (List UInt8))} {l : List (Int × List UInt8)}, (∀ p ∈ l, p.2.length = 256) → (∀ p ∈ ls, ∀ b, p.2 = some b → b.length = 256) → (∀ p ∈ settleAllC l ls, p.2.length = 256) ∧ (settleAllC l ls).length ≤ l.length + ls.length
 | [], l, h, _ => ⟨h, Nat.le_refl _⟩
 | p :: ls, l, h, h1 => by
   have := settleAllC_ok (ls := ls) (settleC_page (keep := 256) (at_ := p.1) h (h1 p (by simp))) (fun q hq => h1 q (by simp [hq]))
   have h2 := settleC_len l p.1 p.2 256
   exact ⟨this.1, by have h3 := this.2; unfold settleAllC at h3 ⊢; simp only [List.foldl_cons, List.length_cons]; omega⟩
def settleKeepC (l : List (Int × List UInt8)) : List (Int × Option (List UInt8)) → List Int → List (Int × List UInt8)
 | p :: ls, k :: ks => settleKeepC (settleC l p.1 p.2 k) ls ks
 | _, _ => l
theorem settleKeepC_ok : ∀ {ls : List (Int × Option (List UInt8))} {ks : List Int} {l : List (Int × List UInt8)}, (∀ p ∈ l, p.2.length = 256) → (∀ p ∈ ls, ∀ b, p.2 = some b → b.length = 256) → (∀ p ∈ settleKeepC l ls ks, p.2.length = 256) ∧ (settleKeepC l ls ks).length ≤ l.length + ls.length
 | [], ks, l, h, _ => ⟨h, Nat.le_refl _⟩
 | p :: ls, [], l, h, _ => ⟨h, Nat.le_add_right _ _⟩
 | p :: ls, k :: ks, l, h, h1 => by
   have := settleKeepC_ok (ls := ls) (ks := ks) (settleC_page (keep := k) (at_ := p.1) h (h1 p (by simp))) (fun q hq => h1 q (by simp [hq]))
   have h2 := settleC_len l p.1 p.2 k
   exact ⟨this.1, by have h3 := this.2; simp only [settleKeepC, List.length_cons]; omega⟩
theorem settleKeepC_take : ∀ {ls : List (Int × Option (List UInt8))} {ks : List Int} {l : List (Int × List UInt8)} {i : Nat} {p : Int × Option (List UInt8)} {k : Int}, ls[i]? = some p → ks[i]? = some k →
   settleKeepC l (ls.take (i + 1)) ks = settleC (settleKeepC l (ls.take i) ks) p.1 p.2 k
 | [], _, _, _, _, _, h, _ => by simp at h
 | _ :: _, [], _, _, _, _, _, h => by simp at h
 | q :: ls, k' :: ks, l, 0, p, k, h1, h2 => by
   simp at h1 h2; subst h1 h2
   cases ls <;> simp [settleKeepC]
 | q :: ls, k' :: ks, l, i + 1, p, k, h1, h2 => by
   simp only [List.take_succ_cons, settleKeepC]
   exact settleKeepC_take (by simpa using h1) (by simpa using h2)
theorem settleKeepC_stop : ∀ {ls : List (Int × Option (List UInt8))} {ks : List Int} {l : List (Int × List UInt8)} {i : Nat}, (ls.length ≤ i ∨ ks.length ≤ i) → settleKeepC l (ls.take i) ks = settleKeepC l ls ks
 | [], ks, l, i, h => by simp
 | q :: ls, [], l, i, h => by cases i <;> simp [settleKeepC]
 | q :: ls, k :: ks, l, 0, h => by simp at h
 | q :: ls, k :: ks, l, i + 1, h => by
   simp only [List.take_succ_cons, settleKeepC]
   exact settleKeepC_stop (by simpa using h)
structure Fl.R (r : Fl) : Prop where
 page : ∀ p ∈ r.safe, p.2.length = 256
 lpage : ∀ p ∈ r.loose, ∀ b, p.2 = some b → b.length = 256
 len : r.safe.length + r.loose.length < 2 ^ 29
 w : r.WF'
def flush04S (r : Fl) : Fl := if r.down = true then r else if burnB r then burnS r else { burnS r with safe := settleAllC r.safe r.loose, loose := [] }
theorem flush04_ok (r : Fl) (h : r.R) : ACalls Tryz.prog 93 [rAV r] [] (Ret (.tup [rAV (flush04S r), .c (.int .i64 (flushC r))])) := by
 unfold rAV
 cases hd : r.down with
 | true =>
   have hC : flushC r = 11 := by unfold flushC; rw [if_pos hd]
   have hS : flush04S r = r := by unfold flush04S; rw [if_pos hd]
   refine jen cl_93 Tryz.func93 (h := ?_)
   refine jf (own := [2]) hd (h := ?_)
   refine jnv (hh := fun b2 hb2 => ?_)
   refine jf hd (h := ?_)
   refine jt (h := ?_)
   refine jr (h := ?_)
   refine J_forget ?_
   refine jret Tryz.func93 (h := ⟨by rw [hC, hS]; unfold rCells; rw [hd], rfl⟩)
 | false =>
   have hbn := burns04_ok r hd h.w
   unfold rAV at hbn
   have q1 := burnS_loose r
   have q2 := burnS_safe r
   have hlen := h.len
   refine jen cl_93 Tryz.func93 (h := ?_)
   refine jf (own := [2]) hd (h := ?_)
   refine jnv (hh := fun b2 hb2 => ?_)
   refine jf hd (h := ?_)
   refine jn (h := ?_)
   refine jr (h := ?_)
   have hre : ([.c (.int .i64 r.pages), .sl 2 (cellRows r.safe), .sl 3 (chRows r.loose), .c (.int .i64 r.fuse), .c (.bool false), .c (.int .i64 r.done)] : List AV) = rCells r := by unfold rCells; rw [hd]
   rw [hre]
   refine jc (hs := hbn) (hk := ?_)
   cases hb : burnB r with
   | true =>
     have hC : flushC r = 11 := by unfold flushC; rw [if_neg (by simp [hd]), hb]; rfl
     have hS : flush04S r = burnS r := by unfold flush04S; rw [if_neg (by simp [hd]), hb]; rfl
     refine jr (own := [4]) (h := ?_)
     refine jnv (hh := fun b4 hb4 => ?_)
     simp only [fresh] at hb4
     refine jf hb4 (h := ?_)
     refine jt (h := ?_)
     refine jf hb4 (h := ?_)
     refine J_forget ?_
     refine jretf hb4 Tryz.func93 (h := ⟨by rw [hC, hS]; rfl, rfl⟩)
   | false =>
     have hC : flushC r = 0 := by unfold flushC; rw [if_neg (by simp [hd]), hb]; rfl
     have hS : flush04S r = { burnS r with safe := settleAllC r.safe r.loose, loose := [] } := by unfold flush04S; rw [if_neg (by simp [hd]), hb]; rfl
     rw [hC, hS]
     have hc1 : rCells (burnS r) = [.c (.int .i64 (burnS r).pages), .sl 2 (cellRows r.safe), .sl 3 (chRows r.loose), .c (.int .i64 (burnS r).fuse), .c (.bool (burnS r).down), .c (.int .i64 (burnS r).done)] := by unfold rCells; rw [q1, q2]
     rw [hc1]
     generalize burnS r = s1 at *
     refine jr (own := [4]) (h := ?_)
     refine jnv (hh := fun b4 hb4 => ?_)
     simp only [fresh] at hb4
     refine jf hb4 (h := ?_)
     refine jn (h := ?_)
     refine jr (h := ?_)
     refine jk [1, 2, 4, 6] (h := ?_)
     refine J_loopI (I := fun m e D => ∃ i : Nat, i ≤ r.loose.length ∧ m = r.loose.length - i ∧ D = [.box b4 49 [.c (.int .i64 s1.pages), .sl 2 (cellRows (settleAllC r.safe (r.loose.take i))), .sl 3 (chRows r.loose), .c (.int .i64 s1.fuse), .c (.bool s1.down), .c (.int .i64 s1.done)], .box b2 49 [.c (.int .i64 0), .c (.slice none 0 0), .c (.slice none 0 0), .c (.int .i64 0), .c (.bool false), .c (.int .i64 0)]] ∧ e = [(1, .fp (rCells r)), (2, .c (.pointer (some ⟨b2, 0, none⟩))), (4, .c (.pointer (some ⟨b4, 0, none⟩))), (6, .c (.int .i64 i))]) ?_ ?_
     · exact ⟨_, 0, by omega, rfl, rfl, rfl⟩
     · rintro m e D ⟨i, hi, rfl, rfl, rfl⟩ ih
       refine jr (h := ?_)
       refine jif (h1 := fun hc => ?_) (h2 := fun hc => ?_)
       · have hlt : i < r.loose.length := by omega
         have g0 := List.getElem?_eq_getElem hlt
         have g1 := chRows_get g0
         have h0 : (0 : Int) ≤ (i : Int) := by omega
         have hso := settleAllC_ok (ls := r.loose.take i) h.page (fun p hp => h.lpage p (List.take_subset _ _ hp))
         have hsl := settle04_ok (settleAllC r.safe (r.loose.take i)) r.loose[i].1 r.loose[i].2 256 (by have := hso.2; rw [List.length_take] at this; omega) hso.1 (h.lpage _ (List.getElem_mem hlt))
         have hst : settleC (settleAllC r.safe (r.loose.take i)) r.loose[i].1 r.loose[i].2 256 = settleAllC r.safe (r.loose.take (i + 1)) := by
           unfold settleAllC; rw [List.take_add_one, g0, List.foldl_append]; rfl
         rw [hst] at hsl
         refine jr (h := ?_)
         refine jd [(0, .pure), (1, .read), (2, .pure), (3, .pure), (4, .pure), (5, .pure), (6, .pure), (7, .pure), (8, .pure), (9, .act)] mixed (by kernel_rfl) ?_
         refine cf (cA hb4 g1) (hk := ?_)
         refine ccp (hs := hsl) (hk := ?_)
         refine cf hb4 (hk := ?_)
         refine Can_nil ?_
         refine jf hb4 (h := ?_)
         refine jk [1, 2, 4, 6] (h := ?_)
         refine ih _ _ _ ?_ ⟨i + 1, by omega, rfl, rfl, rfl⟩
         omega
       · have hi' : i = r.loose.length := by omega
         subst hi'
         rw [List.take_length]
         refine jf hb4 (h := ?_)
         refine J_perm (List.Perm.swap _ _ _) ?_
         refine J_nilBox 2 3 (by simp only [go_sem]) ?_
         simp only [go_sem]
         refine J_forget ?_
         refine jret Tryz.func93 (h := ⟨rfl, rfl⟩)
def crash04S (r : Fl) (keep : List Int) : Fl := { r with safe := settleKeepC r.safe r.loose keep, loose := [], down := false, fuse := -1 }
theorem crash04_ok (r : Fl) (h : r.R) (keep : List Int) (hk : keep.length < 2 ^ 37) : ACalls Tryz.prog 47 [rAV r, .sl 1 (intRows keep)] [] (Ret (rAV (crash04S r keep))) := by
 unfold rAV
 have hlen := h.len
 refine jen cl_47 Tryz.func47 (h := ?_)
 refine jr (own := [4, 5]) (h := ?_)
 refine jnv (hh := fun b2 hb2 => ?_)
 refine jr (own := [5]) (h := ?_)
 refine jnv (hh := fun b4 hb4 => ?_)
 simp only [fresh] at hb4
 refine jf hb4 (h := ?_)
 refine jk [1, 2, 4, 5, 6] (h := ?_)
 refine J_loopI (I := fun m e D => ∃ i : Nat, i ≤ r.loose.length ∧ m = r.loose.length - i ∧ D = [.box b4 49 [.c (.int .i64 r.pages), .sl 2 (cellRows (settleKeepC r.safe (r.loose.take i) keep)), .sl 3 (chRows r.loose), .c (.int .i64 r.fuse), .c (.bool r.down), .c (.int .i64 r.done)], .box b2 49 [.c (.int .i64 0), .c (.slice none 0 0), .c (.slice none 0 0), .c (.int .i64 0), .c (.bool false), .c (.int .i64 0)]] ∧ e = [(1, .sl 1 (intRows keep)), (2, .fp (rCells r)), (4, .c (.pointer (some ⟨b2, 0, none⟩))), (5, .c (.pointer (some ⟨b4, 0, none⟩))), (6, .c (.int .i64 i))]) ?_ ?_
 · exact ⟨_, 0, by omega, rfl, by cases keep <;> rfl, rfl⟩
 · rintro m e D ⟨i, hi, rfl, rfl, rfl⟩ ih
   have h0 : (0 : Int) ≤ (i : Int) := by omega
   by_cases hlt : i < r.loose.length
   · have d1 := decide_eq_true (show (i : Int) < (r.loose.length : Int) by omega)
     by_cases hki : i < keep.length
     · have d2 := decide_eq_true (show (i : Int) < (keep.length : Int) by omega)
       have g0 := List.getElem?_eq_getElem hlt
       have g1 := chRows_get g0
       have gk := List.getElem?_eq_getElem hki
       have gk1 := int_get gk
       have hso := settleKeepC_ok (ls := r.loose.take i) (ks := keep) h.page (fun p hp => h.lpage p (List.take_subset _ _ hp))
       have hsl := settle04_ok (settleKeepC r.safe (r.loose.take i) keep) r.loose[i].1 r.loose[i].2 keep[i] (by have := hso.2; rw [List.length_take] at this; omega) hso.1 (h.lpage _ (List.getElem_mem hlt))
       rw [← settleKeepC_take g0 gk] at hsl
       refine jf (cA d1 d2) (h := ?_)
       refine jt (h := ?_)
       refine jr (h := ?_)
       refine jd [(0, .pure), (1, .read), (2, .pure), (3, .pure), (4, .pure), (5, .pure), (6, .pure), (7, .pure), (8, .pure), (9, .pure), (10, .pure), (11, .pure), (12, .pure), (13, .act)] mixed (by kernel_rfl) ?_
       refine cf (cB hb4 g1 gk1) (hk := ?_)
       refine ccp (hs := hsl) (hk := ?_)
       refine cf hb4 (hk := ?_)
       refine Can_nil ?_
       refine jf hb4 (h := ?_)
       refine jk [1, 2, 4, 5, 6] (h := ?_)
       refine ih _ _ _ ?_ ⟨i + 1, by omega, rfl, rfl, rfl⟩
       omega
     · have d2 := decide_eq_false (show ¬ (i : Int) < (keep.length : Int) by omega)
       have hst := settleKeepC_stop (ls := r.loose) (ks := keep) (l := r.safe) (i := i) (.inr (by omega))
       rw [hst]
       refine jf (cA d1 d2) (h := ?_)
       refine jn (h := ?_)
       refine jf hb4 (h := ?_)
       refine J_perm (List.Perm.swap _ _ _) ?_
       refine J_nilBox 2 3 (by simp only [go_sem]) ?_
       simp only [go_sem]
       refine J_forget ?_
       refine jret Tryz.func47 (h := ⟨rfl, rfl⟩)
   · have d1 := decide_eq_false (show ¬ (i : Int) < (r.loose.length : Int) by omega)
     have hst := settleKeepC_stop (ls := r.loose) (ks := keep) (l := r.safe) (i := i) (.inl (by omega))
     rw [hst]
     refine jf d1 (h := ?_)
     refine jn (h := ?_)
     refine jf hb4 (h := ?_)
     refine J_perm (List.Perm.swap _ _ _) ?_
     refine J_nilBox 2 3 (by simp only [go_sem]) ?_
     simp only [go_sem]
     refine J_forget ?_
     refine jret Tryz.func47 (h := ⟨rfl, rfl⟩)
end
section
attribute [local go_sem] packed List.set_cons_zero List.set_cons_succ List.cons_append List.nil_append bytesRows_length cellRows_len chRows_len rCells intRows_len
attribute [-go_sem] cellsOf AV.isCell
attribute [local go_sem] cellsOf_agg cellsOf_int cellsOf_bool cellsOf_str cellsOf_map cellsOf_ptr cellsOf_nilI cellsOf_slice cellsOf_sl cellsOf_ifc cellsOf_fp cellsOf_opt optAV_cell icell_int icell_bool icell_str icell_map icell_ptr icell_nilI icell_slice icell_sl icell_ifc icell_fp
theorem chRows_cell (l : List (Int × Option (List UInt8))) : (chRows l).flatten.all AV.isCell = true := by
 induction l with
 | nil => rfl
 | cons p l ih => simp only [chRows, List.map_cons, List.flatten_cons, List.all_append, chRow] at ih ⊢; rw [ih]; rfl
theorem change04_ok (r : Fl) (hd : r.down = false) (hw : r.WF') (hl : r.loose.length < 2 ^ 29) (at_ : Int) (o : Option (List UInt8)) : ACalls Tryz.prog 113 [rAV r, .agg [.c (.int .i64 at_), .sl 1 (bytesRows (o.getD [])), .c (.bool o.isNone)]] []
   (Ret (.tup [rAV (changeS r at_ o), .c (.int .i64 (changeC r))])) := by
 have hbn := burns04_ok { r with loose := r.loose ++ [(at_, o)] } hd ⟨hw.f1, hw.f2, hw.d1, hw.d2⟩
 have hch : changeS r at_ o = burnS { r with loose := r.loose ++ [(at_, o)] } := rfl
 have hbb : burnB { r with loose := r.loose ++ [(at_, o)] } = burnB r := rfl
 rw [hbb, ← hch] at hbn
 unfold rAV at *
 clear hch
 generalize changeS r at_ o = s at *
 refine jen cl_113 Tryz.func113 (h := ?_)
 refine jr (own := [4, 6]) (h := ?_)
 refine jnv (hh := fun b4 hb4 => ?_)
 refine jr (own := [6]) (h := ?_)
 refine jnv (hh := fun b6 hb6 => ?_)
 simp only [fresh] at hb6
 refine jf (own := [15]) hb6 (h := ?_)
 refine J_wk (t := 12) (y := .sl0) (by simp only [go_sem]) nil_sl0 ?_
 refine jbi (hb := append0_bi gS (by simp only [go_sem, srcOf] <;> rfl) (chRows_cell _) (by omega)) (hk := ?_)
 rintro _ _ ⟨v, D, rfl, rfl, how⟩
 obtain ⟨va, vc, rfl⟩ := how.slice
 refine jf (own := [21]) hb6 (h := ?_)
 refine jap (Fr := [_, _]) (how := how) (hp := (by first | exact List.Perm.refl _ | exact List.perm_append_comm)) (hsrc := (by simp only [go_sem, srcOf] <;> rfl)) (hc := (by rfl)) (hmax := (by omega)) (hk := ?_)
 rintro _ _ ⟨v2, D2, rfl, rfl, how2⟩
 have how3 : Own 148 3 (chRows (r.loose ++ [(at_, o)])).flatten (chRows (r.loose ++ [(at_, o)])).length v2 D2 := by
   rw [chRows_len, List.length_append]
   simp only [chRows, List.map_append, List.flatten_append] at how2 ⊢; exact how2
 obtain ⟨v2a, v2c, rfl⟩ := how3.slice
 refine jmf 2 hb6 (h := ?_)
 refine J_freezeS (Fr := [_, _]) how3 (chRows_row _) (by rw [chRows_len, List.length_append]; unfold maxRows; simp only [List.length_cons, List.length_nil]; omega) ?_
 refine J_isBox (Fr := [_]) 2 (by rw [chRows_len]; rfl) (List.Perm.refl _) (J_perm (List.Perm.swap _ _ _) (J_drop ?_))
 simp only [go_sem]
 simp only [rCells] at hbn
 refine jr (h := ?_)
 refine jc (hs := hbn) (hk := ?_)
 refine jf (own := [7]) hb6 (h := ?_)
 refine jnv (hh := fun b7 hb7 => ?_)
 simp only [fresh] at hb7
 have hcc : changeC r = if burnB r then 11 else 0 := rfl
 cases hb : burnB r with
 | true =>
   rw [hb] at hcc
   refine jf (cB hb hb7 hb6) (h := ?_)
   refine jt (h := ?_)
   refine jf (cA hb7 hb6) (h := ?_)
   refine J_forget ?_
   refine jretf (cA hb7 hb6) Tryz.func113 (h := ⟨by rw [hcc]; rfl, rfl⟩)
 | false =>
   rw [hb] at hcc
   refine jf (cB hb hb7 hb6) (h := ?_)
   refine jn (h := ?_)
   refine jf (cA hb7 hb6) (h := ?_)
   refine J_forget ?_
   refine jretf (cA hb7 hb6) Tryz.func113 (h := ⟨by rw [hcc]; rfl, rfl⟩)
def upto (n : Nat) : List Int := (List.range n).map fun i : Nat => (i : Int)
theorem upto_succ (n : Nat) : upto (n + 1) = upto n ++ [(n : Int)] := by simp [upto, List.range_succ]
theorem all04_ok (r : Fl) (hp : 0 ≤ r.pages ∧ r.pages ≤ 4096) (hw : ∀ at_, (lookB r at_).length = 256) (h1 : r.safe.length < 2 ^ 60) (h2 : r.loose.length < 2 ^ 60) : ACalls Tryz.prog 43 [rAV r] [] (Ret (.sl 2 (cellRows (cellsAt r (upto r.pages.toNat))))) := by
 have hlk := fun at_ => look04_ok r at_ h1 h2
 unfold rAV at *
 have hpp : r.pages = (r.pages.toNat : Int) := by omega
 have hpn : r.pages.toNat ≤ 4096 := by omega
 generalize r.pages.toNat = n at hpp hpn ⊢
 refine jen cl_43 Tryz.func43 (h := ?_)
 refine jr (h := ?_)
 refine jk [1, 3, 4] (h := ?_)
 refine J_loopI (I := fun m e D => ∃ (i : Nat) (v : Value), i ≤ n ∧ m = n - i ∧ Own 98 2 (cellRows (cellsAt r (upto i))).flatten (cellsAt r (upto i)).length v D ∧ e = [(1, .fp (rCells r)), (3, .c v), (4, .c (.int .i64 i))]) ?_ ?_
 · exact ⟨_, 0, .slice none 0 0, by omega, rfl, .nil none rfl rfl, rfl⟩
 · rintro m e D ⟨i, v, hi, rfl, how, rfl⟩ ih
   have hcl : (cellsAt r (upto i)).length ≤ i := by
     unfold cellsAt
     refine Nat.le_trans (List.length_filter_le _ _) ?_
     simp [upto]
   have hsn := cellsAt_snoc r (upto i) i
   rw [← upto_succ] at hsn
   refine jf hpp (h := ?_)
   refine jif (h1 := fun hc => ?_) (h2 := fun hc => ?_)
   · have hlt : i < n := by omega
     have hwi := hw i
     have hlki := hlk i
     unfold rCells at hlki
     rw [hpp] at hlki
     refine jr (h := ?_)
     refine jcs (Δ1 := []) (Fr := D) (hs := hlki) (hp := (List.Perm.refl _)) (hk := ?_) (hpan := (by rintro x Δ' ⟨e, _⟩; cases e))
     rintro x _ ⟨e, rfl⟩
     cases e
     refine jr (h := ?_)
     refine jcs (Δ1 := []) (Fr := D) (hs := (blank04_ok (lookB r i) (by omega))) (hp := (List.Perm.refl _)) (hk := ?_) (hpan := (by rintro x Δ' ⟨e, _⟩; cases e))
     rintro x _ ⟨e, rfl⟩
     cases e
     cases hb : blankB (lookB r i) with
     | true =>
       rw [hb, if_pos rfl, List.append_nil] at hsn
       refine jr (h := ?_)
       refine jn (h := ?_)
       refine jr (h := ?_)
       refine jk [1, 3, 4] (h := ?_)
       refine ih _ _ _ ?_ ⟨i + 1, v, by omega, rfl, by rw [hsn]; exact how, ?_⟩
       · omega
       · unfold rCells; rw [hpp]; rfl
     | false =>
       rw [hb, if_neg (by decide)] at hsn
       refine jr (h := ?_)
       refine jt (h := ?_)
       refine jr (own := [23]) (h := ?_)
       refine jap (Fr := []) (how := how) (hp := (by simp)) (hsrc := (by simp only [go_sem, srcOf] <;> rfl)) (hc := (by rfl)) (hmax := (by omega)) (hk := ?_)
       rintro _ D2 ⟨v2, _, rfl, rfl, how2⟩
       refine jr (h := ?_)
       refine jk [1, 3, 4] (h := ?_)
       refine ih _ _ _ ?_ ⟨i + 1, v2, by omega, rfl, ?_, ?_⟩
       · omega
       · rw [hsn]; exact own_app (b := [((i : Int), lookB r i)]) how2
       · unfold rCells; rw [hpp]; rfl
   · have hi' : i = n := by omega
     subst hi'
     obtain ⟨a9, c9, rfl⟩ := how.slice
     refine jr (h := ?_)
     refine J_freezeS (rows := cellRows _) (Fr := []) (by rw [cellRows_len]; exact how) (cellRows_row _) (by rw [cellRows_len]; unfold maxRows; omega) ?_
     refine J_is (t := 2) (by simp only [go_sem] <;> rfl) (List.mem_cons_self ..) (J_drop ?_)
     refine jret Tryz.func43 (h := ⟨rfl, rfl⟩)
end
section
attribute [local go_sem] packed List.set_cons_zero List.set_cons_succ List.cons_append List.nil_append bytesRows_length cellRows_len chRows_len rCells intRows_len
attribute [-go_sem] cellsOf AV.isCell
attribute [local go_sem] cellsOf_agg cellsOf_int cellsOf_bool cellsOf_str cellsOf_map cellsOf_ptr cellsOf_nilI cellsOf_slice cellsOf_sl cellsOf_ifc cellsOf_fp cellsOf_opt optAV_cell icell_int icell_bool icell_str icell_map icell_ptr icell_nilI icell_slice icell_sl icell_ifc icell_fp
theorem write04_ok (r : Fl) (hw : r.WF') (hl : r.loose.length < 2 ^ 29) (at_ : Int) (b : List UInt8) (hb : b.length < 2 ^ 60) : ACalls Tryz.prog 92 [rAV r, .c (.int .i64 at_), .sl 1 (bytesRows b)] [] (Ret (.tup [rAV (writeS r at_ b), .c (.int .i64 (writeC r at_ b.length))])) := by
 have hk := check04_ok r at_
 unfold rAV at *
 by_cases hc : checkF r at_ = 0
 rotate_left
 · have hC : writeC r at_ b.length = checkF r at_ := by unfold writeC; rw [if_pos hc]
   have hS : writeS r at_ b = r := by unfold writeS; rw [if_pos (.inl hc)]
   rw [hC, hS]
   refine jen cl_92 Tryz.func92 (h := ?_)
   refine jr (own := [6]) (h := ?_)
   refine jnv (hh := fun b6 hb6 => ?_)
   refine jr (h := ?_)
   refine jc (hs := hk) (hk := ?_)
   refine jr (h := ?_)
   refine jif (h1 := fun _ => ?_) (h2 := fun hc => absurd (by assumption) hc)
   refine jr (h := ?_)
   refine J_forget ?_
   refine jret Tryz.func92 (h := ⟨rfl, rfl⟩)
 obtain ⟨hd, -⟩ := checkF_rng hc
 have hch := change04_ok r hd hw hl at_ (some b)
 rw [hc] at hk
 unfold rAV at hch
 by_cases hl6 : b.length = 256
 · have hC : writeC r at_ b.length = changeC r := by unfold writeC; rw [if_neg (by simp [hc]), if_neg (by omega)]
   have hS : writeS r at_ b = changeS r at_ (some b) := by unfold writeS; rw [if_neg (by simp [hc, hl6])]
   rw [hC, hS]
   generalize changeS r at_ (some b) = s at *
   simp only [Option.getD_some, Option.isNone_some] at hch
   refine jen cl_92 Tryz.func92 (h := ?_)
   refine jr (own := [6]) (h := ?_)
   refine jnv (hh := fun b6 hb6 => ?_)
   refine jr (h := ?_)
   refine jc (hs := hk) (hk := ?_)
   refine jr (h := ?_)
   refine jif (h1 := fun hc => absurd hc (by first | omega | simp)) (h2 := fun _ => ?_)
   refine jr (h := ?_)
   refine jif (h1 := fun hc => absurd hc (by first | omega | simp)) (h2 := fun _ => ?_)
   refine jr (h := ?_)
   refine jc (hs := hch) (hk := ?_)
   refine jr (h := ?_)
   refine J_forget ?_
   refine jret Tryz.func92 (h := ⟨rfl, rfl⟩)
 · have hC : writeC r at_ b.length = 3 := by unfold writeC; rw [if_neg (by simp [hc]), if_pos (by omega)]
   have hS : writeS r at_ b = r := by unfold writeS; rw [if_pos (.inr hl6)]
   rw [hC, hS]
   refine jen cl_92 Tryz.func92 (h := ?_)
   refine jr (own := [6]) (h := ?_)
   refine jnv (hh := fun b6 hb6 => ?_)
   refine jr (h := ?_)
   refine jc (hs := hk) (hk := ?_)
   refine jr (h := ?_)
   refine jif (h1 := fun hc => absurd hc (by first | omega | simp)) (h2 := fun _ => ?_)
   refine jr (h := ?_)
   refine jif (h1 := fun _ => ?_) (h2 := fun hc => absurd (by first | omega | simp) hc)
   refine jr (h := ?_)
   refine J_forget ?_
   refine jret Tryz.func92 (h := ⟨rfl, rfl⟩)
def tAV (r : Fl) (n : Int) : AV := .agg (rCells r ++ [.c (.int .i64 n)])
theorem lookB_len {r : Fl} (h1 : ∀ p ∈ r.safe, p.2.length = 256) (h2 : ∀ p ∈ r.loose, ∀ b, p.2 = some b → b.length = 256) (at_ : Int) : (lookB r at_).length = 256 := by
 have hw : ∀ l : List (Int × Option (List UInt8)), (∀ p ∈ l, ∀ b, p.2 = some b → b.length = 256) → ∀ o, lookL l at_ = some o → (o.getD z256).length = 256 := by
   intro l
   unfold lookL
   suffices h : ∀ (l : List (Int × Option (List UInt8))) (acc : Option (Option (List UInt8))), (∀ p ∈ l, ∀ b, p.2 = some b → b.length = 256) → (∀ o, acc = some o → (o.getD z256).length = 256) → ∀ o, l.foldl (fun acc p => if p.1 = at_ then some p.2 else acc) acc = some o → (o.getD z256).length = 256 from fun hl => h l none hl (fun o ho => by cases ho)
   intro l
   induction l with
   | nil => intro acc _ ha o ho; exact ha o ho
   | cons p l ih =>
     intro acc hl ha o ho
     rw [List.foldl_cons] at ho
     refine ih _ (fun q hq => hl q (by simp [hq])) (fun o' ho' => ?_) o ho
     split at ho'
     · simp only [Option.some.injEq] at ho'; subst ho'
       cases hp : p.2 with
       | none => simp [z256]
       | some b => exact hl p (by simp) b hp
     · exact ha o' ho'
 unfold lookB
 cases hl : lookL r.loose at_ with
 | some o => exact hw r.loose h2 o hl
 | none => exact pageOr_len h1 at_
theorem open10_ok (r : Fl) (hd : r.down = false) (hp : 0 ≤ r.pages ∧ r.pages ≤ 4096) (h : r.R) : ACalls Tryz.prog 19 [rAV r] [] (Ret (.tup [tAV r ((cellsAt r (upto r.pages.toNat)).foldl stepN 1), .c (.int .i64 0)])) := by
 have hlen := h.len
 have hal := all04_ok r hp (lookB_len h.page h.lpage) (by omega) (by omega)
 have hpg : ∀ p ∈ cellsAt r (upto r.pages.toNat), p.2.length = 256 := by
   intro p hp
   obtain ⟨k, -, rfl⟩ := List.mem_map.1 (List.mem_filter.1 hp).1
   exact lookB_len h.page h.lpage k
 have hcl : (cellsAt r (upto r.pages.toNat)).length ≤ 4096 := by
   unfold cellsAt
   refine Nat.le_trans (List.length_filter_le _ _) ?_
   simp only [upto, List.length_map, List.length_range]; omega
 unfold rAV tAV at *
 generalize cellsAt r (upto r.pages.toNat) = cs at *
 clear h hp hlen
 obtain ⟨rp, rs, rl, rf, rd, rn⟩ := r
 obtain rfl : rd = false := hd
 refine jen cl_19 Tryz.func19 (h := ?_)
 refine jr (own := [2]) (h := ?_)
 refine jnv (hh := fun b2 hb2 => ?_)
 refine jr (h := ?_)
 refine jn (h := ?_)
 refine jr (h := ?_)
 refine jc (hs := hal) (hk := ?_)
 refine jr (h := ?_)
 refine jk [1, 2, 4, 5, 6] (h := ?_)
 refine J_loopI (I := fun m e D' => ∃ i : Nat, i ≤ cs.length ∧ m = cs.length - i ∧ D' = [.box b2 51 [.c (.int .i64 0), .c (.slice none 0 0), .c (.slice none 0 0), .c (.int .i64 0), .c (.bool false), .c (.int .i64 0), .c (.int .i64 0)]] ∧ e = [(1, .fp (rCells ⟨rp, rs, rl, rf, false, rn⟩)), (2, .c (.pointer (some ⟨b2, 0, none⟩))), (4, .c (.int .i64 ((cs.take i).foldl stepN 1))), (5, .sl 2 (cellRows cs)), (6, .c (.int .i64 i))]) ?_ ?_
 · exact ⟨_, 0, Nat.zero_le _, rfl, rfl, rfl⟩
 · rintro m e D' ⟨i, hi, rfl, rfl, rfl⟩ ih
   refine jr (h := ?_)
   refine jif (h1 := fun hc => ?_) (h2 := fun hc => ?_)
   · have hlt : i < cs.length := by omega
     have g0 := List.getElem?_eq_getElem hlt
     have g1 := cellRows_get g0
     have h0 : (0 : Int) ≤ (i : Int) := by omega
     have hb := hpg _ (List.getElem_mem hlt)
     have hst := stampsB_le cs[i].2
     have hbd := foldN_bd (cs.take i) (n := 1) (by decide)
     have hsn : (cs.take (i + 1)).foldl stepN 1 = max (max ((cs.take i).foldl stepN 1) (((stampsB cs[i].2).1 : Int) + 1)) (((stampsB cs[i].2).2 : Int) + 1) := by rw [List.take_add_one, g0, List.foldl_append]; rfl
     generalize (cs.take i).foldl stepN 1 = nx at *
     refine jf g1 (h := ?_)
     refine jc (hs := stamps05_ok cs[i].2 (by omega)) (hk := ?_)
     generalize (stampsB cs[i].2).1 = a at *
     generalize (stampsB cs[i].2).2 = b at *
     refine jr (h := ?_)
     refine jif (h1 := fun ha => ?_) (h2 := fun ha => ?_)
     · refine jr (h := ?_)
       refine jif (h1 := fun hb9 => ?_) (h2 := fun hb9 => ?_)
       · refine jr (h := ?_)
         refine jk [1, 2, 4, 5, 6] (h := ?_)
         refine ih _ _ _ ?_ ⟨i + 1, by omega, rfl, rfl, ?_⟩
         · omega
         · rw [show (cs.take (i + 1)).foldl stepN 1 = (b : Int) + 1 from by rw [hsn]; omega]; rfl
       · refine jr (h := ?_)
         refine jk [1, 2, 4, 5, 6] (h := ?_)
         refine ih _ _ _ ?_ ⟨i + 1, by omega, rfl, rfl, ?_⟩
         · omega
         · rw [show (cs.take (i + 1)).foldl stepN 1 = (a : Int) + 1 from by rw [hsn]; omega]; rfl
     · refine jr (h := ?_)
       refine jif (h1 := fun hb9 => ?_) (h2 := fun hb9 => ?_)
       · refine jr (h := ?_)
         refine jk [1, 2, 4, 5, 6] (h := ?_)
         refine ih _ _ _ ?_ ⟨i + 1, by omega, rfl, rfl, ?_⟩
         · omega
         · rw [show (cs.take (i + 1)).foldl stepN 1 = (b : Int) + 1 from by rw [hsn]; omega]; rfl
       · refine jr (h := ?_)
         refine jk [1, 2, 4, 5, 6] (h := ?_)
         refine ih _ _ _ ?_ ⟨i + 1, by omega, rfl, rfl, ?_⟩
         · omega
         · rw [show (cs.take (i + 1)).foldl stepN 1 = nx from by rw [hsn]; omega]; rfl
   · have hi' : i = cs.length := by omega
     subst hi'
     rw [List.take_length]
     refine jr (h := ?_)
     refine J_forget ?_
     refine jret Tryz.func19 (h := ⟨rfl, rfl⟩)
theorem put10_ok (r : Fl) (n : Int) (hn : n < 4611686018427387904) (hw : r.WF') (hl : r.loose.length < 2 ^ 29) (at_ kd : Int) (b : List UInt8) (hb : b.length < 2 ^ 37) : ACalls Tryz.prog 71 [tAV r n, .c (.int .i64 at_), .c (.int .i64 kd), .sl 1 (bytesRows b)] []
   (Ret (.tup [tAV (tputS r n at_ kd b) (tputN r n at_ kd b), .c (.int .i64 (tputC r n at_ kd b))])) := by
 by_cases hck : checkC n kd b.length = 0
 rotate_left
 · have hC : tputC r n at_ kd b = checkC n kd b.length := by unfold tputC; rw [if_pos hck]
   have hS : tputS r n at_ kd b = r := by unfold tputS; rw [if_pos hck]
   have hN : tputN r n at_ kd b = n := by unfold tputN; rw [hC, if_neg hck]
   have hp := put05_err n kd b hb hck
   rw [hC, hS, hN]
   unfold leafAV tAV at *
   refine jen cl_71 Tryz.func71 (h := ?_)
   refine jr (own := [8]) (h := ?_)
   refine jnv (hh := fun b8 hb8 => ?_)
   refine jr (h := ?_)
   refine jc (hs := hp) (hk := ?_)
   refine J_mrun (own := []) (m := 2000) (by simp (maxSteps := 2000000) (disch := omega) only [go_sem, ↓reduceIte, Int.reduceLT, Int.reduceLE, Int.reduceToNat, Int.reducePow, Int.reduceNeg, Nat.reduceBEq, Tryz.ntmps71, anil] <;> with_reducible rfl) ?_
   refine jif (h1 := fun _ => ?_) (h2 := fun hc => absurd (by assumption) hc)
   refine jr (h := ?_)
   refine J_forget ?_
   refine jret Tryz.func71 (h := ⟨rfl, rfl⟩)
 · obtain ⟨⟨h1, h2⟩, ⟨h3, h4⟩, h5⟩ := checkC_zero hck
   have hC : tputC r n at_ kd b = writeC r at_ 256 := by unfold tputC; rw [if_neg (by simp [hck])]
   have hS : tputS r n at_ kd b = writeS r at_ (putB n.toNat kd.toNat b) := by unfold tputS; rw [if_neg (by simp [hck])]
   have hN : tputN r n at_ kd b = if writeC r at_ 256 = 0 then n + 1 else n := by unfold tputN; rw [hC]
   rw [hC, hS, hN]
   have hpl := putB_len n.toNat kd.toNat b h5
   have hp := put05_ok n.toNat kd.toNat b (by omega) (by omega) (by omega) (by omega) h5
   rw [show ((n.toNat : Nat) : Int) = n from by omega, show ((kd.toNat : Nat) : Int) = kd from by omega] at hp
   have hwr := write04_ok r hw hl at_ (putB n.toNat kd.toNat b) (by omega)
   rw [hpl] at hwr
   unfold leafAV tAV rAV at *
   generalize writeS r at_ (putB n.toNat kd.toNat b) = s at *
   generalize writeC r at_ 256 = c at *
   refine jen cl_71 Tryz.func71 (h := ?_)
   refine jr (own := [8]) (h := ?_)
   refine jnv (hh := fun b8 hb8 => ?_)
   refine jr (h := ?_)
   refine jc (hs := hp) (hk := ?_)
   refine J_mrun (own := []) (m := 2000) (by simp (maxSteps := 2000000) (disch := omega) only [go_sem, ↓reduceIte, Int.reduceLT, Int.reduceLE, Int.reduceToNat, Int.reducePow, Int.reduceNeg, Nat.reduceBEq, Tryz.ntmps71, anil] <;> with_reducible rfl) ?_
   refine jif (h1 := fun hc => absurd hc (by first | omega | simp)) (h2 := fun _ => ?_)
   refine jr (h := ?_)
   refine jc (hs := hwr) (hk := ?_)
   refine jr (own := [12, 14]) (h := ?_)
   refine jnv (hh := fun b12 hb12 => ?_)
   simp only [fresh] at hb12
   refine jf (own := [14]) hb12 (h := ?_)
   refine jnv (hh := fun b14 hb14 => ?_)
   simp only [fresh] at hb14
   refine jf (cA hb14 hb12) (h := ?_)
   refine jif (h1 := fun hz => ?_) (h2 := fun hz => ?_)
   · rw [if_pos hz]
     refine jf (cA hb14 hb12) (h := ?_)
     refine J_forget ?_
     refine jretf (cA hb14 hb12) Tryz.func71 (h := ⟨rfl, rfl⟩)
   · rw [if_neg hz]
     refine jf (cA hb14 hb12) (h := ?_)
     refine J_forget ?_
     refine jretf (cA hb14 hb12) Tryz.func71 (h := ⟨rfl, rfl⟩)
theorem flush10_ok (r : Fl) (n : Int) (h : r.R) : ACalls Tryz.prog 72 [tAV r n] [] (Ret (.tup [tAV (flush04S r) n, .c (.int .i64 (flushC r))])) := by
 have hf := flush04_ok r h
 unfold tAV rAV at *
 generalize flush04S r = s at *
 generalize flushC r = c at *
 refine jen cl_72 Tryz.func72 (h := ?_)
 refine jr (own := [2, 4, 5]) (h := ?_)
 refine jnv (hh := fun b2 hb2 => ?_)
 refine jr (own := [4, 5]) (h := ?_)
 refine jnv (hh := fun b4 hb4 => ?_)
 simp only [fresh] at hb4
 refine jf (own := [5]) hb4 (h := ?_)
 refine jc (hs := hf) (hk := ?_)
 refine jf (own := [5]) hb4 (h := ?_)
 refine jnv (hh := fun b5 hb5 => ?_)
 simp only [fresh] at hb5
 refine jf (cA hb5 hb4) (h := ?_)
 refine J_forget ?_
 refine jretf (cA hb5 hb4) Tryz.func72 (h := ⟨rfl, rfl⟩)
theorem get10_ok (r : Fl) (n : Int) (at_ kd : Int) (h1 : ∀ p ∈ r.safe, p.2.length = 256) (h2 : ∀ p ∈ r.loose, ∀ b, p.2 = some b → b.length = 256) (h3 : r.safe.length < 2 ^ 60) (h4 : r.loose.length < 2 ^ 60) : ACalls Tryz.prog 75 [tAV r n, .c (.int .i64 at_), .c (.int .i64 kd)] []
   (Ret (.tup [if tgetC r at_ kd = 0 then leafAV (stampsB (lookB r at_)).1 (kdB (lookB r at_)) (.sl 1 (bytesRows (txtB (lookB r at_)))) else leafAV 0 0 (.c (.slice none 0 0)), .c (.int .i64 (tgetC r at_ kd))])) := by
 have hrd := read04_ok r at_ h3 h4
 have hlb := lookB_len h1 h2 at_
 have hgt := get05_ok (lookB r at_) (by omega)
 unfold tgetC
 unfold leafAV tAV rAV at *
 generalize lookB r at_ = pg at *
 generalize checkF r at_ = c at *
 refine jen cl_75 Tryz.func75 (h := ?_)
 refine jr (own := [6, 10]) (h := ?_)
 refine jnv (hh := fun b6 hb6 => ?_)
 refine jr (own := [10]) (h := ?_)
 refine jc (hs := hrd) (hk := ?_)
 by_cases hc : c = 0
 rotate_left
 · rw [if_pos hc, if_neg hc, if_neg hc]
   refine jr (h := ?_)
   refine jif (h1 := fun _ => ?_) (h2 := fun hc => absurd (by assumption) hc)
   refine jr (h := ?_)
   refine J_forget ?_
   refine jret Tryz.func75 (h := ⟨rfl, rfl⟩)
 subst hc
 rw [if_pos rfl]
 have e0 : (if (0 : Int) ≠ 0 then (0 : Int) else if getC pg ≠ 0 then getC pg else if (kdB pg : Int) ≠ kd then 12 else 0) = if getC pg ≠ 0 then getC pg else if (kdB pg : Int) ≠ kd then 12 else 0 := if_neg (by simp)
 rw [e0]
 refine jr (h := ?_)
 refine jif (h1 := fun hc => absurd hc (by first | omega | simp)) (h2 := fun _ => ?_)
 refine jr (own := [10]) (h := ?_)
 refine jc (hs := hgt) (hk := ?_)
 by_cases hg : getC pg = 0
 rotate_left
 · rw [if_neg hg, if_pos hg, if_neg hg]
   refine jr (own := [10]) (h := ?_)
   refine jnv (hh := fun b10 hb10 => ?_)
   simp only [fresh] at hb10
   refine jf hb10 (h := ?_)
   refine jif (h1 := fun _ => ?_) (h2 := fun hc => absurd (by assumption) hc)
   refine jf hb10 (h := ?_)
   refine J_forget ?_
   refine jretf hb10 Tryz.func75 (h := ⟨rfl, rfl⟩)
 have e1 : (if getC pg ≠ 0 then getC pg else if (kdB pg : Int) ≠ kd then 12 else 0) = if (kdB pg : Int) ≠ kd then 12 else 0 := if_neg (by simp [hg])
 rw [e1, if_pos hg]
 refine jf (own := [10]) hg (h := ?_)
 refine jnv (hh := fun b10 hb10 => ?_)
 simp only [fresh] at hb10
 refine jf (cA hg hb10) (h := ?_)
 refine jif (h1 := fun hc => absurd hc (by first | omega | simp)) (h2 := fun _ => ?_)
 refine jf hb10 (h := ?_)
 refine jif (h1 := fun hk => ?_) (h2 := fun hk => ?_)
 · rw [if_pos hk, if_neg (by decide)]
   refine jf hb10 (h := ?_)
   refine J_forget ?_
   refine jretf hb10 Tryz.func75 (h := ⟨rfl, rfl⟩)
 · rw [if_neg hk, if_pos rfl]
   refine jf hb10 (h := ?_)
   refine J_forget ?_
   refine jretf hb10 Tryz.func75 (h := ⟨rfl, rfl⟩)
end
end Go.Proofs.YtdnhcpbammfmlaaGreatDoor
