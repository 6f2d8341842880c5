/- A part of the proof: what the calls do, told by values. -/
import Derived.Test.YtjppajaoekbkpaaGreatDoorB7
import Derived.Test.YtjppajaoekbkpaaGreatDoorB6
import Derived.Test.YtjppajaoekbkpaaGreatDoorA8
set_option linter.unusedVariables false
set_option linter.unusedSimpArgs false
set_option maxRecDepth 100000
set_option maxHeartbeats 4000000
namespace Go.Proofs.YtjppajaoekbkpaaGreatDoor
open Go Go.Av
attribute [local go_sem] packed List.set_cons_zero List.set_cons_succ List.cons_append List.nil_append bytesRows_length cellRows_len chRows_len rCells intRows_len
attribute [-go_sem] cellsOf AV.isCell
attribute [local go_sem] cellsOf_agg cellsOf_int cellsOf_bool cellsOf_str cellsOf_map cellsOf_ptr cellsOf_nilI cellsOf_slice cellsOf_sl cellsOf_ifc cellsOf_fp cellsOf_opt optAV_cell icell_int icell_bool icell_str icell_map icell_ptr icell_nilI icell_slice icell_sl icell_ifc icell_fp
attribute [local go_sem] Entry.av Entry.cells rowsBytes_bytesRows Option.map_some Int.cast_ofNat_Int
section
theorem hasP_bit (f : BF) (p : Nat) : hasP f p = if p < 64 then decide (f.1 / 2 ^ (p % 64) % 2 = 1) else decide (f.2 / 2 ^ (p % 64) % 2 = 1) := by
 unfold hasP
 split <;> exact Nat.testBit_eq_decide_div_mod_eq
theorem bmay_ok (f : BF) (hf : BFok f) (h : Int) (hh : In64 h) : ACalls Tryz.prog 132 [bfAV f, .c (.int .u64 h)] [] (Ret (.c (.bool (mayF f h)))) := by
 have hb := bits_ok h hh
 have hpl := plN_lt (h := h)
 have hM : mayF f h = (hasP f (h % 128).toNat && hasP f (h / 2097152 % 128).toNat && hasP f (h / 4398046511104 % 128).toNat) := by
   simp [mayF, plN, Bool.and_assoc]
 rw [hM]
 have q1 := hpl _ (by simp [plN] : (h % 128).toNat ∈ plN h)
 have q2 := hpl _ (by simp [plN] : (h / 2097152 % 128).toNat ∈ plN h)
 have q3 := hpl _ (by simp [plN] : (h / 4398046511104 % 128).toNat ∈ plN h)
 clear hM
 generalize (h % 128).toNat = p1 at *
 generalize (h / 2097152 % 128).toNat = p2 at *
 generalize (h / 4398046511104 % 128).toNat = p3 at *
 refine calls_of_J cl_132 Tryz.func132 rfl (by simp [Tryz.ntmps132]) ?_
 refine jr (h := ?_)
 refine jc (hs := hb) (hk := ?_)
 refine jr (h := ?_)
 refine jk [2, 8, 9] (h := ?_)
 refine J_loopI (I := fun m e D => ∃ (i : Nat) (z : Int), i ≤ 3 ∧ z = i ∧ m = 3 - i ∧ (0 < i → hasP f p1 = true) ∧ (1 < i → hasP f p2 = true) ∧ (2 < i → hasP f p3 = true) ∧ D = [] ∧ e = [(2, .fp [.c (.int .u64 (f.1 : Int)), .c (.int .u64 (f.2 : Int))]), (8, .agg [.c (.int .i64 (p1 : Int)), .c (.int .i64 (p2 : Int)), .c (.int .i64 (p3 : Int))]), (9, .c (.int .i64 z))]) ?_ ?_
 · exact ⟨_, 0, 0, Nat.zero_le _, rfl, rfl, fun h => absurd h (by omega), fun h => absurd h (by omega), fun h => absurd h (by omega), rfl, rfl⟩
 · rintro m e D ⟨i, z, hi, hz, hm, g0, g1, g2, rfl, rfl⟩ ih
   refine jr (h := ?_)
   by_cases hc : i < 3
   · refine jif (h1 := fun _ => ?_) (h2 := fun hc => absurd (by first | omega | simp) hc)
     rcases (by omega : i = 0 ∨ i = 1 ∨ i = 2) with hi0 | hi0 | hi0
     · obtain rfl : z = 0 := by omega
       have hst : p1 % 64 < 64 := Nat.mod_lt _ (by decide)
       have h63 := and63i p1 (by omega)
       rcases bfidx (p := p1) (by omega) with ⟨hlt, hix⟩ | ⟨hlt, hix⟩
       · have hand := and1u (f.1 / 2 ^ (p1 % 64)) (Nat.lt_of_le_of_lt (Nat.div_le_self _ _) hf.1)
         have hshr := shr_u f.1 (p1 % 64) hst
         have hH := hasP_bit f p1
         rw [if_pos hlt] at hH
         refine jf (a4 h63 hix hshr hand) (h := ?_)
         refine jif (h1 := fun hd => ?_) (h2 := fun hd => ?_)
         · have : hasP f p1 = false := by rw [hH]; exact decide_eq_false (by omega)
           refine jr (h := ?_)
           refine jret Tryz.func132 (h := ⟨by simp [this], rfl⟩)
         · have : hasP f p1 = true := by rw [hH]; exact decide_eq_true (by omega)
           refine jr (h := ?_)
           refine jk [2, 8, 9] (h := ?_)
           refine ih 2 _ _ (by omega) ⟨1, 1, by omega, by omega, by omega, fun _ => this, fun h => absurd h (by omega), fun h => absurd h (by omega), rfl, rfl⟩
       · have hand := and1u (f.2 / 2 ^ (p1 % 64)) (Nat.lt_of_le_of_lt (Nat.div_le_self _ _) hf.2)
         have hshr := shr_u f.2 (p1 % 64) hst
         have hH := hasP_bit f p1
         rw [if_neg hlt] at hH
         refine jf (a4 h63 hix hshr hand) (h := ?_)
         refine jif (h1 := fun hd => ?_) (h2 := fun hd => ?_)
         · have : hasP f p1 = false := by rw [hH]; exact decide_eq_false (by omega)
           refine jr (h := ?_)
           refine jret Tryz.func132 (h := ⟨by simp [this], rfl⟩)
         · have : hasP f p1 = true := by rw [hH]; exact decide_eq_true (by omega)
           refine jr (h := ?_)
           refine jk [2, 8, 9] (h := ?_)
           refine ih 2 _ _ (by omega) ⟨1, 1, by omega, by omega, by omega, fun _ => this, fun h => absurd h (by omega), fun h => absurd h (by omega), rfl, rfl⟩
     · obtain rfl : z = 1 := by omega
       have hst : p2 % 64 < 64 := Nat.mod_lt _ (by decide)
       have h63 := and63i p2 (by omega)
       rcases bfidx (p := p2) (by omega) with ⟨hlt, hix⟩ | ⟨hlt, hix⟩
       · have hand := and1u (f.1 / 2 ^ (p2 % 64)) (Nat.lt_of_le_of_lt (Nat.div_le_self _ _) hf.1)
         have hshr := shr_u f.1 (p2 % 64) hst
         have hH := hasP_bit f p2
         rw [if_pos hlt] at hH
         refine jf (a4 h63 hix hshr hand) (h := ?_)
         refine jif (h1 := fun hd => ?_) (h2 := fun hd => ?_)
         · have : hasP f p2 = false := by rw [hH]; exact decide_eq_false (by omega)
           refine jr (h := ?_)
           refine jret Tryz.func132 (h := ⟨by simp [this], rfl⟩)
         · have : hasP f p2 = true := by rw [hH]; exact decide_eq_true (by omega)
           refine jr (h := ?_)
           refine jk [2, 8, 9] (h := ?_)
           refine ih 1 _ _ (by omega) ⟨2, 2, by omega, by omega, by omega, fun h => g0 (by omega), fun _ => this, fun h => absurd h (by omega), rfl, rfl⟩
       · have hand := and1u (f.2 / 2 ^ (p2 % 64)) (Nat.lt_of_le_of_lt (Nat.div_le_self _ _) hf.2)
         have hshr := shr_u f.2 (p2 % 64) hst
         have hH := hasP_bit f p2
         rw [if_neg hlt] at hH
         refine jf (a4 h63 hix hshr hand) (h := ?_)
         refine jif (h1 := fun hd => ?_) (h2 := fun hd => ?_)
         · have : hasP f p2 = false := by rw [hH]; exact decide_eq_false (by omega)
           refine jr (h := ?_)
           refine jret Tryz.func132 (h := ⟨by simp [this], rfl⟩)
         · have : hasP f p2 = true := by rw [hH]; exact decide_eq_true (by omega)
           refine jr (h := ?_)
           refine jk [2, 8, 9] (h := ?_)
           refine ih 1 _ _ (by omega) ⟨2, 2, by omega, by omega, by omega, fun h => g0 (by omega), fun _ => this, fun h => absurd h (by omega), rfl, rfl⟩
     · obtain rfl : z = 2 := by omega
       have hst : p3 % 64 < 64 := Nat.mod_lt _ (by decide)
       have h63 := and63i p3 (by omega)
       rcases bfidx (p := p3) (by omega) with ⟨hlt, hix⟩ | ⟨hlt, hix⟩
       · have hand := and1u (f.1 / 2 ^ (p3 % 64)) (Nat.lt_of_le_of_lt (Nat.div_le_self _ _) hf.1)
         have hshr := shr_u f.1 (p3 % 64) hst
         have hH := hasP_bit f p3
         rw [if_pos hlt] at hH
         refine jf (a4 h63 hix hshr hand) (h := ?_)
         refine jif (h1 := fun hd => ?_) (h2 := fun hd => ?_)
         · have : hasP f p3 = false := by rw [hH]; exact decide_eq_false (by omega)
           refine jr (h := ?_)
           refine jret Tryz.func132 (h := ⟨by simp [this], rfl⟩)
         · have : hasP f p3 = true := by rw [hH]; exact decide_eq_true (by omega)
           refine jr (h := ?_)
           refine jk [2, 8, 9] (h := ?_)
           refine ih 0 _ _ (by omega) ⟨3, 3, by omega, by omega, by omega, fun h => g0 (by omega), fun h => g1 (by omega), fun _ => this, rfl, rfl⟩
       · have hand := and1u (f.2 / 2 ^ (p3 % 64)) (Nat.lt_of_le_of_lt (Nat.div_le_self _ _) hf.2)
         have hshr := shr_u f.2 (p3 % 64) hst
         have hH := hasP_bit f p3
         rw [if_neg hlt] at hH
         refine jf (a4 h63 hix hshr hand) (h := ?_)
         refine jif (h1 := fun hd => ?_) (h2 := fun hd => ?_)
         · have : hasP f p3 = false := by rw [hH]; exact decide_eq_false (by omega)
           refine jr (h := ?_)
           refine jret Tryz.func132 (h := ⟨by simp [this], rfl⟩)
         · have : hasP f p3 = true := by rw [hH]; exact decide_eq_true (by omega)
           refine jr (h := ?_)
           refine jk [2, 8, 9] (h := ?_)
           refine ih 0 _ _ (by omega) ⟨3, 3, by omega, by omega, by omega, fun h => g0 (by omega), fun h => g1 (by omega), fun _ => this, rfl, rfl⟩
   · refine jif (h1 := fun hc => absurd hc (by first | omega | simp)) (h2 := fun _ => ?_)
     refine jr (h := ?_)
     refine jret Tryz.func132 (h := ⟨by rw [g0 (by omega), g1 (by omega), g2 (by omega)]; rfl, rfl⟩)
def strRows (ks : List (List UInt8)) : List (List AV) := ks.map fun k => [.c (.string (mkStr k))]
theorem strRows_len (ks : List (List UInt8)) : (strRows ks).length = ks.length := by simp [strRows]
theorem strRows_row (ks : List (List UInt8)) : ∀ r ∈ strRows ks, r.length = 1 := by
 intro r hr; obtain ⟨k, -, rfl⟩ := List.mem_map.1 hr; rfl
theorem strRows_get {ks : List (List UInt8)} {i : Nat} {k : List UInt8} (h : ks[i]? = some k) : (strRows ks)[i]? = some [.c (.string (mkStr k))] := by simp [strRows, h]
theorem strRows_snoc {e : TypeId} {ks : List (List UInt8)} {k : List UInt8} {v : Value} {D : List HP} (h : Own e 1 ((strRows ks).flatten ++ [.c (.string (mkStr k))]) ((strRows ks).length + 1) v D) : Own e 1 (strRows (ks ++ [k])).flatten (strRows (ks ++ [k])).length v D := by
 have e1 : strRows (ks ++ [k]) = strRows ks ++ [[.c (.string (mkStr k))]] := by simp [strRows]
 rw [e1, List.flatten_append, List.length_append]
 simpa using h
theorem ofF_snoc (ks : List (List UInt8)) (k : List UInt8) : ofF (ks ++ [k]) = addF (ofF ks) (hash64 k) := by unfold ofF; rw [List.foldl_append, List.foldl_cons, List.foldl_nil]
theorem ofF_ok (ks : List (List UInt8)) : BFok (ofF ks) := by
 have : ∀ (l : List (List UInt8)) (f : BF), BFok f → BFok (l.foldl (fun f k => addF f (hash64 k)) f) := fun l => by
   induction l with
   | nil => exact fun f h => h
   | cons k l ih => exact fun f h => ih _ (addF_ok h _)
 exact this ks (0, 0) ⟨by decide, by decide⟩
theorem hash64_in (k : List UInt8) : In64 (hash64 k) := fold64_in _
theorem bof_ok (ks : List (List UInt8)) (hkl : ks.length < 2 ^ 30) (hk : ∀ k ∈ ks, k.length < 2 ^ 62) : ACalls Tryz.prog 149 [.sl 1 (strRows ks)] [] (Ret (bfAV (ofF ks))) := by
 have hsl := strRows_len ks
 refine calls_of_J cl_149 Tryz.func149 rfl (by simp [Tryz.ntmps149]) ?_
 refine jr (own := [2]) (h := ?_)
 refine jnv (hh := fun b2 hb2 => ?_)
 simp only [fresh] at hb2
 refine jf (own := [3]) hb2 (h := ?_)
 refine jnv (hh := fun b3 hb3 => ?_)
 simp only [fresh] at hb3
 refine jf (a3 hb3 hb2 hsl) (h := ?_)
 refine jk [2, 3, 6, 7, 8] (h := ?_)
 refine J_loopI (I := fun m e D => ∃ i : Nat, i ≤ ks.length ∧ m = ks.length - i ∧ D = [.box b3 181 [.c (.int .u64 ((ofF (ks.take i)).1 : Int)), .c (.int .u64 ((ofF (ks.take i)).2 : Int))], .box b2 181 [.c (.int .u64 0), .c (.int .u64 0)]] ∧ e = [(2, .c (.pointer (some ⟨b2, 0, none⟩))), (3, .c (.pointer (some ⟨b3, 0, none⟩))), (6, .sl 1 (strRows ks)), (7, .c (.int .i64 ks.length)), (8, .c (.int .i64 i))]) ?_ ?_
 · exact ⟨_, 0, Nat.zero_le _, rfl, rfl, rfl⟩
 · rintro m e D ⟨i, hi, rfl, rfl, rfl⟩ ih
   refine jr (h := ?_)
   refine jif (h1 := fun hc => ?_) (h2 := fun hc => ?_)
   · have hlt : i < ks.length := by omega
     have g1 := strRows_get (List.getElem?_eq_getElem hlt)
     have h0 : (0 : Int) ≤ (i : Int) := by omega
     have hh := bhash_ok ks[i] (hk _ (List.getElem_mem hlt))
     have hadd := badd_ok (ofF (ks.take i)) (ofF_ok _) (hash64 ks[i]) (hash64_in _)
     have htk : ks.take (i + 1) = ks.take i ++ [ks[i]] := by rw [List.take_add_one, List.getElem?_eq_getElem hlt]; rfl
     rw [← ofF_snoc, ← htk] at hadd
     refine jf (a4 hb3 hb2 g1 hsl) (h := ?_)
     refine jd [(0, .read), (1, .pure), (2, .pure), (3, .pure), (4, .act)] mixed (by kernel_rfl) ?_
     refine cf (a2 hb3 hb2) (hk := ?_)
     refine ccp (hs := hh) (hk := ?_)
     refine cr (hk := ?_)
     refine ccp (hs := hadd) (hk := ?_)
     refine cf (a2 hb3 hb2) (hk := ?_)
     refine Can_nil ?_
     refine jr (h := ?_)
     refine jk [2, 3, 6, 7, 8] (h := ?_)
     refine ih _ _ _ ?_ ⟨i + 1, hlt, rfl, rfl, by simp only [Int.natCast_add, Int.cast_ofNat_Int]⟩
     omega
   · have hi' : i = ks.length := by omega
     subst hi'
     rw [List.take_length]
     refine jf (a2 hb3 hb2) (h := ?_)
     refine J_forget ?_
     refine jretf (a2 hb3 hb2) Tryz.func149 (h := ⟨rfl, rfl⟩)
def keysE (l : List Entry) : List (List UInt8) := l.map (·.key)
theorem bfilter_ok (l : List Entry) (hw : ∀ y ∈ l, y.key.length < 2 ^ 62) (hl : l.length < 2 ^ 30) : ACalls Tryz.prog 96 [.sl 5 (ents l)] [] (Ret (bfAV (ofF (keysE l)))) := by
 have hof := bof_ok (keysE l) (by unfold keysE; rw [List.length_map]; exact hl) (by intro k hk; obtain ⟨y, hy, rfl⟩ := List.mem_map.1 hk; exact hw y hy)
 have hel := ents_len l
 refine calls_of_J cl_96 Tryz.func96 rfl (by simp [Tryz.ntmps96]) ?_
 refine jr (own := [2]) (h := ?_)
 refine jnv (hh := fun b2 hb2 => ?_)
 simp only [fresh] at hb2
 refine jf (a2 hb2 hel) (h := ?_)
 refine jk [2, 3, 6, 7, 8] (h := ?_)
 refine J_loopI (I := fun m e D => ∃ (i : Nat) (v : Value) (Dv : List HP), i ≤ l.length ∧ m = l.length - i ∧ Own 9 1 (strRows (keysE (l.take i))).flatten (strRows (keysE (l.take i))).length v Dv ∧ D = .box b2 181 [.c (.int .u64 0), .c (.int .u64 0)] :: Dv ∧ e = [(2, .c (.pointer (some ⟨b2, 0, none⟩))), (3, .c v), (6, .sl 5 (ents l)), (7, .c (.int .i64 l.length)), (8, .c (.int .i64 i))]) ?_ ?_
 · exact ⟨_, 0, _, [], Nat.zero_le _, rfl, .nil none (by simp [strRows, keysE]) (by simp [strRows, keysE]), rfl, rfl⟩
 · rintro m e D ⟨i, v, Dv, hi, rfl, how, rfl, rfl⟩ ih
   refine jr (h := ?_)
   refine jif (h1 := fun hc => ?_) (h2 := fun hc => ?_)
   · have hlt : i < l.length := by omega
     have g1 := ents_get (List.getElem?_eq_getElem hlt)
     have h0 : (0 : Int) ≤ (i : Int) := by omega
     have htk : keysE (l.take (i + 1)) = keysE (l.take i) ++ [l[i].key] := by unfold keysE; rw [List.take_add_one, List.getElem?_eq_getElem hlt, List.map_append]; rfl
     refine jf (own := [5]) (a2 g1 hel) (h := ?_)
     refine jnv (hh := fun b5 hb5 => ?_)
     refine jm 1 (h := ?_)
     refine J_freeze (s := 5) (o := 0) (by simp only [go_sem]) ?_
     simp only [List.drop_zero]
     refine jr (own := [16]) (h := ?_)
     refine jap (Fr := [_]) (how := how) (hp := (List.Perm.refl _)) (hsrc := (by simp only [go_sem] <;> rfl)) (hc := (by rfl)) (hmax := (by rw [strRows_len]; unfold keysE; rw [List.length_map, List.length_take]; omega)) (hk := ?_)
     rintro _ _ ⟨v', D', rfl, rfl, how'⟩
     refine jr (h := ?_)
     refine jk [2, 3, 6, 7, 8] (h := ?_)
     refine ih _ _ _ ?_ ⟨i + 1, v', D', hlt, rfl, by rw [htk]; exact strRows_snoc how', rfl, by simp only [Int.natCast_add, Int.cast_ofNat_Int]⟩
     omega
   · have hi' : i = l.length := by omega
     subst hi'
     rw [List.take_length] at how
     refine jr (h := ?_)
     refine J_freezeS (Fr := [_]) how (strRows_row _) (by rw [strRows_len]; unfold keysE maxRows; rw [List.length_map]; omega) ?_
     refine J_is (t := 18) (by simp only [go_sem]) (List.mem_cons_self ..) (J_drop ?_)
     refine jc (hs := hof) (hk := ?_)
     refine jr (h := ?_)
     refine J_forget ?_
     refine jret Tryz.func96 (h := ⟨rfl, rfl⟩)
end
section
def addU (out : List Nat) (p : Nat) : List Nat := if p ∈ out then out else out ++ [p]
def setR (hs : List Int) : List Nat := hs.foldl (fun o h => (plN h).foldl addU o) []
def mayR (hs : List Int) (h : Int) : Bool := (plN h).all fun p => decide (p ∈ setR hs)
theorem addU_mem (out : List Nat) (p q : Nat) : q ∈ addU out p ↔ q ∈ out ∨ q = p := by
 unfold addU
 split
 · rename_i h
   exact ⟨.inl, fun h2 => h2.elim id (fun e => e ▸ h)⟩
 · simp
theorem addUs_mem (q : Nat) : ∀ (ps out : List Nat), q ∈ ps.foldl addU out ↔ q ∈ out ∨ q ∈ ps
 | [], out => by simp
 | p :: ps, out => by rw [List.foldl_cons, addUs_mem q ps, addU_mem, List.mem_cons, or_assoc]
theorem setR_mem (q : Nat) : ∀ (hs : List Int) (out : List Nat), q ∈ hs.foldl (fun o h => (plN h).foldl addU o) out ↔ q ∈ out ∨ ∃ h ∈ hs, q ∈ plN h
 | [], out => by simp
 | h :: hs, out => by rw [List.foldl_cons, setR_mem q hs, addUs_mem]; simp [or_assoc]
theorem addU_len (out : List Nat) (p : Nat) : (addU out p).length ≤ out.length + 1 := by unfold addU; split <;> simp
theorem addUs_len : ∀ (ps out : List Nat), (ps.foldl addU out).length ≤ out.length + ps.length
 | [], out => by simp
 | p :: ps, out => by
   have h1 := addUs_len ps (addU out p)
   have h2 := addU_len out p
   rw [List.foldl_cons, List.length_cons]; omega
theorem setR_len : ∀ (hs : List Int) (out : List Nat), (hs.foldl (fun o h => (plN h).foldl addU o) out).length ≤ out.length + 3 * hs.length
 | [], out => by simp
 | h :: hs, out => by
   have h1 := setR_len hs ((plN h).foldl addU out)
   have h2 := addUs_len (plN h) out
   have h3 : (plN h).length = 3 := rfl
   rw [List.foldl_cons, List.length_cons]; omega
theorem places_ok (h : Int) (hh : In64 h) : ACalls Tryz.prog 189 [.c (.int .u64 h)] [] (Ret (.sl 1 (natRows (plN h)))) := by
 have e1 := aint_quo_u64 hh (b := 2097152) (by omega)
 have e2 := aint_quo_u64 hh (b := 4398046511104) (by omega)
 have w1 : ((h % 128).toNat : Int) = h % 128 := Int.toNat_of_nonneg (by omega)
 have w2 : ((h / 2097152 % 128).toNat : Int) = h / 2097152 % 128 := Int.toNat_of_nonneg (by omega)
 have w3 : ((h / 4398046511104 % 128).toNat : Int) = h / 4398046511104 % 128 := Int.toNat_of_nonneg (by omega)
 obtain ⟨h1, h2⟩ := hh
 have hn : natRows (plN h) = [[.c (.int .i64 (h % 128))], [.c (.int .i64 (h / 2097152 % 128))], [.c (.int .i64 (h / 4398046511104 % 128))]] := by
   unfold natRows plN; simp only [List.map_cons, List.map_nil, w1, w2, w3]
 rw [hn]
 refine calls_of_J cl_189 Tryz.func189 rfl (by simp [Tryz.ntmps189]) ?_
 refine jf (a2 e1 e2) (h := ?_)
 refine jret Tryz.func189 (h := ⟨rfl, rfl⟩)
theorem natRows_row (l : List Nat) : ∀ r ∈ natRows l, r.length = 1 := by
 intro r hr; obtain ⟨k, -, rfl⟩ := List.mem_map.1 hr; rfl
theorem natRows_snoc {e : TypeId} {l : List Nat} {k : Nat} {v : Value} {D : List HP} (h : Own e 1 ((natRows l).flatten ++ [.c (.int .i64 (k : Int))]) ((natRows l).length + 1) v D) : Own e 1 (natRows (l ++ [k])).flatten (natRows (l ++ [k])).length v D := by
 have e1 : natRows (l ++ [k]) = natRows l ++ [[.c (.int .i64 (k : Int))]] := by simp [natRows]
 rw [e1, List.flatten_append, List.length_append]
 simpa using h
theorem natRows_flat (l : List Nat) : (natRows l).flatten = l.map fun (n : Nat) => .c (.int .i64 (n : Int)) := by
 induction l with
 | nil => rfl
 | cons x l ih =>
   have e : natRows (x :: l) = [.c (.int .i64 (x : Int))] :: natRows l := rfl
   rw [e, List.flatten_cons, ih]; rfl
def u64Rows (hs : List Int) : List (List AV) := hs.map fun h => [.c (.int .u64 h)]
theorem u64Rows_len (hs : List Int) : (u64Rows hs).length = hs.length := by simp [u64Rows]
theorem u64Rows_row (hs : List Int) : ∀ r ∈ u64Rows hs, r.length = 1 := by
 intro r hr; obtain ⟨k, -, rfl⟩ := List.mem_map.1 hr; rfl
theorem u64Rows_get {hs : List Int} {i : Nat} {h : Int} (e : hs[i]? = some h) : (u64Rows hs)[i]? = some [.c (.int .u64 h)] := by simp [u64Rows, e]
theorem u64Rows_snoc {e : TypeId} {l : List Int} {k : Int} {v : Value} {D : List HP} (h : Own e 1 ((u64Rows l).flatten ++ [.c (.int .u64 k)]) ((u64Rows l).length + 1) v D) : Own e 1 (u64Rows (l ++ [k])).flatten (u64Rows (l ++ [k])).length v D := by
 have e1 : u64Rows (l ++ [k]) = u64Rows l ++ [[.c (.int .u64 k)]] := by simp [u64Rows]
 rw [e1, List.flatten_append, List.length_append]
 simpa using h
theorem keys07_ok (ks : List (List UInt8)) (hkl : ks.length < 2 ^ 30) (hk : ∀ k ∈ ks, k.length < 2 ^ 62) : ACalls Tryz.prog 139 [.sl 1 (strRows ks)] [] (Ret (.sl 1 (u64Rows (ks.map hash64)))) := by
 have hsl := strRows_len ks
 refine calls_of_J cl_139 Tryz.func139 rfl (by simp [Tryz.ntmps139]) ?_
 refine jr (h := ?_)
 refine jk [0, 3, 4] (h := ?_)
 refine J_loopI (I := fun m e D => ∃ (i : Nat) (v : Value), i ≤ ks.length ∧ m = ks.length - i ∧ Own 108 1 (u64Rows ((ks.take i).map hash64)).flatten (u64Rows ((ks.take i).map hash64)).length v D ∧ e = [(0, .sl 1 (strRows ks)), (3, .c v), (4, .c (.int .i64 i))]) ?_ ?_
 · exact ⟨_, 0, _, Nat.zero_le _, rfl, .nil none (by simp [u64Rows]) (by simp [u64Rows]), rfl⟩
 · rintro m e D ⟨i, v, hi, rfl, how, rfl⟩ ih
   refine jf hsl (h := ?_)
   refine jif (h1 := fun hc => ?_) (h2 := fun hc => ?_)
   · have hlt : i < ks.length := by omega
     have g1 := strRows_get (List.getElem?_eq_getElem hlt)
     have h0 : (0 : Int) ≤ (i : Int) := by omega
     have hh := rhash_ok ks[i] (hk _ (List.getElem_mem hlt))
     have htk : (ks.take (i + 1)).map hash64 = (ks.take i).map hash64 ++ [hash64 ks[i]] := by rw [List.take_add_one, List.getElem?_eq_getElem hlt, List.map_append]; rfl
     refine jf (a2 g1 hsl) (h := ?_)
     refine jc (hs := hh) (hk := ?_)
     refine jr (own := [18]) (h := ?_)
     refine jap (Fr := []) (how := how) (hp := (by simp)) (hsrc := (by simp only [go_sem] <;> rfl)) (hc := (by rfl)) (hmax := (by rw [u64Rows_len, List.length_map, List.length_take]; omega)) (hk := ?_)
     rintro _ D' ⟨v', _, rfl, rfl, how'⟩
     refine jr (h := ?_)
     refine jk [0, 3, 4] (h := ?_)
     refine ih _ _ _ ?_ ⟨i + 1, v', hlt, rfl, by rw [htk]; exact u64Rows_snoc how', by simp only [Int.natCast_add, Int.cast_ofNat_Int]⟩
     omega
   · have hi' : i = ks.length := by omega
     subst hi'
     rw [List.take_length] at how
     refine jr (h := ?_)
     refine J_freezeS (Fr := []) how (u64Rows_row _) (by rw [u64Rows_len, List.length_map]; unfold maxRows; omega) ?_
     refine J_is (t := 2) (by simp only [go_sem]) (List.mem_cons_self ..) (J_drop ?_)
     refine jret Tryz.func139 (h := ⟨rfl, rfl⟩)
theorem keys12_ok (l : List Entry) (hl : l.length < 2 ^ 30) : ACalls Tryz.prog 140 [.sl 5 (ents l)] [] (Ret (.sl 1 (strRows (keysE l)))) := by
 have hel := ents_len l
 refine calls_of_J cl_140 Tryz.func140 rfl (by simp [Tryz.ntmps140]) ?_
 refine jr (h := ?_)
 refine jk [0, 3, 4] (h := ?_)
 refine J_loopI (I := fun m e D => ∃ (i : Nat) (v : Value), i ≤ l.length ∧ m = l.length - i ∧ Own 9 1 (strRows (keysE (l.take i))).flatten (strRows (keysE (l.take i))).length v D ∧ e = [(0, .sl 5 (ents l)), (3, .c v), (4, .c (.int .i64 i))]) ?_ ?_
 · exact ⟨_, 0, _, Nat.zero_le _, rfl, .nil none (by simp [strRows, keysE]) (by simp [strRows, keysE]), rfl⟩
 · rintro m e D ⟨i, v, hi, rfl, how, rfl⟩ ih
   refine jf hel (h := ?_)
   refine jif (h1 := fun hc => ?_) (h2 := fun hc => ?_)
   · have hlt : i < l.length := by omega
     have g1 := ents_get (List.getElem?_eq_getElem hlt)
     have h0 : (0 : Int) ≤ (i : Int) := by omega
     have htk : keysE (l.take (i + 1)) = keysE (l.take i) ++ [l[i].key] := by unfold keysE; rw [List.take_add_one, List.getElem?_eq_getElem hlt, List.map_append]; rfl
     refine jf (own := [18]) (a2 g1 hel) (h := ?_)
     refine jap (Fr := []) (how := how) (hp := (by simp)) (hsrc := (by simp only [go_sem] <;> rfl)) (hc := (by rfl)) (hmax := (by rw [strRows_len]; unfold keysE; rw [List.length_map, List.length_take]; omega)) (hk := ?_)
     rintro _ D' ⟨v', _, rfl, rfl, how'⟩
     refine jr (h := ?_)
     refine jk [0, 3, 4] (h := ?_)
     refine ih _ _ _ ?_ ⟨i + 1, v', hlt, rfl, by rw [htk]; exact strRows_snoc how', by simp only [Int.natCast_add, Int.cast_ofNat_Int]⟩
     omega
   · have hi' : i = l.length := by omega
     subst hi'
     rw [List.take_length] at how
     refine jr (h := ?_)
     refine J_freezeS (Fr := []) how (strRows_row _) (by rw [strRows_len]; unfold keysE maxRows; rw [List.length_map]; omega) ?_
     refine J_is (t := 2) (by simp only [go_sem]) (List.mem_cons_self ..) (J_drop ?_)
     refine jret Tryz.func140 (h := ⟨rfl, rfl⟩)
theorem own_nats {o2 : List Nat} {v : Value} {D : List HP} (how : Own 3 1 (natRows o2).flatten (natRows o2).length v D) (hne : 0 < o2.length) : ∃ b cap sp, v = .slice (some ⟨b, 0, none⟩) o2.length cap ∧ D = [.box b 3 ((o2.map fun (n : Nat) => .c (.int .i64 (n : Int))) ++ sp)] ∧ o2.length ≤ cap := by
 have hl := natRows_len o2
 have hf := natRows_flat o2
 generalize (natRows o2).flatten = cells at *
 generalize (natRows o2).length = len at *
 subst hl hf
 cases how with
 | nil a e1 e2 => omega
 | box b cap sp c1 c2 c3 => exact ⟨b, cap, sp, rfl, rfl, c3⟩
theorem set07_ok (hs : List Int) (hh : ∀ h ∈ hs, In64 h) (hl : hs.length < 2 ^ 20) : ACalls Tryz.prog 188 [.sl 1 (u64Rows hs)] [] (Ret (.sl 1 (natRows (setR hs)))) := by
 have hul := u64Rows_len hs
 refine calls_of_J cl_188 Tryz.func188 rfl (by simp [Tryz.ntmps188]) ?_
 refine jr (h := ?_)
 refine jk [0, 3, 4] (h := ?_)
 refine J_loopI (I := fun m e D => ∃ (i : Nat) (v : Value) (out : List Nat), i ≤ hs.length ∧ m = hs.length - i ∧ out = setR (hs.take i) ∧ out.length ≤ 3 * i ∧ Own 3 1 (natRows out).flatten (natRows out).length v D ∧ e = [(0, .sl 1 (u64Rows hs)), (3, .c v), (4, .c (.int .i64 i))]) ?_ ?_
 · exact ⟨_, 0, _, [], Nat.zero_le _, rfl, rfl, Nat.zero_le _, .nil none (by simp [natRows]) (by simp [natRows]), rfl⟩
 · rintro m e D ⟨i, v, out, hi, rfl, ho, hol, how, rfl⟩ ih
   refine jf hul (h := ?_)
   refine jif (h1 := fun hc => ?_) (h2 := fun hc => ?_)
   · have hlt : i < hs.length := by omega
     have g1 := u64Rows_get (List.getElem?_eq_getElem hlt)
     have h0 : (0 : Int) ≤ (i : Int) := by omega
     have hp := places_ok hs[i] (hh _ (List.getElem_mem hlt))
     have htk : setR (hs.take (i + 1)) = (plN hs[i]).foldl addU (setR (hs.take i)) := by
       unfold setR; rw [List.take_add_one, List.getElem?_eq_getElem hlt, List.foldl_append]; rfl
     have hpl : (plN hs[i]).length = 3 := rfl
     generalize plN hs[i] = ps at *
     refine jf (a2 g1 hul) (h := ?_)
     refine jc (hs := hp) (hk := ?_)
     refine jr (h := ?_)
     refine jk [0, 3, 4, 5, 6] (h := ?_)
     refine J_loopI (I := fun m2 e D => ∃ (k : Nat) (v : Value) (o2 : List Nat), k ≤ 3 ∧ m2 = 3 - k ∧ o2 = (ps.take k).foldl addU out ∧ o2.length ≤ out.length + k ∧ Own 3 1 (natRows o2).flatten (natRows o2).length v D ∧ e = [(0, .sl 1 (u64Rows hs)), (3, .c v), (4, .c (.int .i64 i)), (5, .sl 1 (natRows ps)), (6, .c (.int .i64 k))]) ?_ ?_
     · exact ⟨_, 0, v, out, by omega, rfl, rfl, by omega, how, rfl⟩
     · rintro m2 e D ⟨k, v, o2, hk, rfl, ho2, hol2, how, rfl⟩ ih2
       refine jr (h := ?_)
       refine jif (h1 := fun hc2 => ?_) (h2 := fun hc2 => ?_)
       · have hlk : k < ps.length := by omega
         have g2 := natRows_get (List.getElem?_eq_getElem hlk)
         have h0k : (0 : Int) ≤ (k : Int) := by omega
         have hnl := natRows_len ps
         have hno := natRows_len o2
         have htk2 : (ps.take (k + 1)).foldl addU out = addU o2 ps[k] := by
           rw [List.take_add_one, List.getElem?_eq_getElem hlk, List.foldl_append, ho2]; rfl
         refine jr (h := ?_)
         refine jk [0, 3, 4, 5, 6, 7, 8] (h := ?_)
         refine J_loopI (I := fun m3 e D' => ∃ (j : Nat), j ≤ o2.length ∧ m3 = o2.length - j ∧ D' = D ∧ e = [(0, .sl 1 (u64Rows hs)), (3, .c v), (4, .c (.int .i64 i)), (5, .sl 1 (natRows ps)), (6, .c (.int .i64 k)), (7, .c (.bool (decide (ps[k] ∈ o2.take j)))), (8, .c (.int .i64 j))]) ?_ ?_
         · exact ⟨_, 0, by omega, rfl, rfl, by simp⟩
         · rintro m3 e D' ⟨j, hj, rfl, rfl, rfl⟩ ih3
           obtain ⟨av, cv, hv⟩ := how.slice
           rw [hno] at hv
           subst hv
           refine jr (h := ?_)
           refine jif (h1 := fun hcj => ?_) (h2 := fun hcj => ?_)
           · have hjl : j < o2.length := by omega
             obtain ⟨b, cap, sp, hv, rfl, hcap⟩ := own_nats how (by omega)
             cases hv
             have hget : (o2.map fun (n : Nat) => (AV.c (.int .i64 (n : Int))))[j]? = some (.c (.int .i64 (o2[j] : Int))) := by simp [List.getElem?_eq_getElem hjl]
             have h0j : (0 : Int) ≤ (j : Int) := by omega
             have htj : ps[k] ∈ o2.take (j + 1) ↔ ps[k] ∈ o2.take j ∨ o2[j] = ps[k] := by
               rw [List.take_add_one, List.getElem?_eq_getElem hjl, List.mem_append]
               simp [eq_comm]
             cases hm : decide (ps[k] ∈ o2.take j) with
             | true =>
               have hm2 : decide (ps[k] ∈ o2.take (j + 1)) = true := decide_eq_true (htj.2 (.inl (of_decide_eq_true hm)))
               refine jr (h := ?_)
               refine jd [(0, .pure), (1, .pure), (2, .pure), (3, .pure), (4, .pure), (5, .read), (6, .pure), (7, .pure), (8, .pure), (9, .pure), (10, .pure), (11, .pure), (12, .pure)] mixed (by kernel_rfl) ?_
               refine cr (hk := ?_)
               refine Can_nil ?_
               refine jr (h := ?_)
               refine jk [0, 3, 4, 5, 6, 7, 8] (h := ?_)
               refine ih3 _ _ _ ?_ ⟨j + 1, hjl, rfl, rfl, by rw [hm2]; simp only [Int.natCast_add, Int.cast_ofNat_Int]⟩
               omega
             | false =>
               refine jr (h := ?_)
               refine jd [(0, .pure), (1, .pure), (2, .pure), (3, .pure), (4, .pure), (5, .read), (6, .pure), (7, .pure), (8, .pure), (9, .pure), (10, .pure), (11, .pure), (12, .pure)] mixed (by kernel_rfl) ?_
               have hrd : (List.drop (j * 1) ((o2.map fun (n : Nat) => (AV.c (.int .i64 (n : Int)))) ++ sp))[0]? = some (.c (.int .i64 (o2[j] : Int))) := by
                 rw [Nat.mul_one, List.getElem?_drop, Nat.add_zero, List.getElem?_append_left (by simpa using hjl)]
                 exact hget
               have hm2 : decide ((o2[j] : Int) = (ps[k] : Int)) = decide (ps[k] ∈ o2.take (j + 1)) := by
                 have h1 := of_decide_eq_false hm
                 by_cases he : o2[j] = ps[k]
                 · rw [decide_eq_true (show (o2[j] : Int) = (ps[k] : Int) by omega), decide_eq_true (htj.2 (.inr he))]
                 · rw [decide_eq_false (show ¬ (o2[j] : Int) = (ps[k] : Int) by omega), decide_eq_false (fun h => (htj.1 h).elim h1 he)]
               refine cf (a3 g2 hnl hrd) (hk := ?_)
               refine Can_nil ?_
               refine jr (h := ?_)
               refine jk [0, 3, 4, 5, 6, 7, 8] (h := ?_)
               refine ih3 _ _ _ ?_ ⟨j + 1, hjl, rfl, rfl, by rw [← hm2]; simp only [Int.natCast_add, Int.cast_ofNat_Int]⟩
               omega
           · have hj' : j = o2.length := by omega
             subst hj'
             rw [List.take_length]
             have hau : addU o2 ps[k] = if ps[k] ∈ o2 then o2 else o2 ++ [ps[k]] := rfl
             cases hm : decide (ps[k] ∈ o2) with
             | true =>
               rw [if_pos (of_decide_eq_true hm)] at hau
               refine jr (h := ?_)
               refine jn (h := ?_)
               refine jr (h := ?_)
               refine jk [0, 3, 4, 5, 6] (h := ?_)
               refine ih2 _ _ _ ?_ ⟨k + 1, _, o2, by omega, rfl, by rw [htk2, hau], by omega, how, by simp only [Int.natCast_add, Int.cast_ofNat_Int]⟩
               omega
             | false =>
               rw [if_neg (of_decide_eq_false hm)] at hau
               refine jr (h := ?_)
               refine jt (h := ?_)
               refine jf (own := [50]) (a2 g2 hnl) (h := ?_)
               refine jap (Fr := []) (how := how) (hp := (by simp)) (hsrc := (by simp only [go_sem] <;> rfl)) (hc := (by rfl)) (hmax := (by rw [natRows_len]; omega)) (hk := ?_)
               rintro _ D2 ⟨v', _, rfl, rfl, how'⟩
               refine jr (h := ?_)
               refine jk [0, 3, 4, 5, 6] (h := ?_)
               refine ih2 _ _ _ ?_ ⟨k + 1, v', o2 ++ [ps[k]], by omega, rfl, by rw [htk2, hau], by rw [List.length_append, List.length_singleton]; omega, natRows_snoc how', by simp only [Int.natCast_add, Int.cast_ofNat_Int]⟩
               omega
       · have hk3 : k = 3 := by omega
         subst hk3
         have hal : ps.take 3 = ps := List.take_of_length_le (by omega)
         rw [hal] at ho2
         refine jr (h := ?_)
         refine jk [0, 3, 4] (h := ?_)
         refine ih _ _ _ ?_ ⟨i + 1, v, o2, hlt, rfl, by rw [htk, ho2, ho], by omega, how, by simp only [Int.natCast_add, Int.cast_ofNat_Int]⟩
         omega
   · have hi' : i = hs.length := by omega
     subst hi'
     rw [List.take_length] at ho
     subst ho
     refine jr (h := ?_)
     refine J_freezeS (Fr := []) how (natRows_row _) (by rw [natRows_len]; unfold maxRows; omega) ?_
     refine J_is (t := 2) (by simp only [go_sem]) (List.mem_cons_self ..) (J_drop ?_)
     refine jret Tryz.func188 (h := ⟨rfl, rfl⟩)
theorem may07_ok (hs : List Int) (h : Int) (hh : ∀ h ∈ hs, In64 h) (hh2 : In64 h) (hl : hs.length < 2 ^ 20) : ACalls Tryz.prog 138 [.sl 1 (u64Rows hs), .c (.int .u64 h)] [] (Ret (.c (.bool (mayR hs h)))) := by
 have hs1 := set07_ok hs hh hl
 have hp := places_ok h hh2
 have hM : mayR hs h = (plN h).all fun p => decide (p ∈ setR hs) := rfl
 rw [hM]
 have hpl : (plN h).length = 3 := rfl
 have hsl : (setR hs).length ≤ [].length + 3 * hs.length := setR_len hs []
 rw [List.length_nil] at hsl
 generalize setR hs = o2 at *
 generalize plN h = ps at *
 have hno := natRows_len o2
 have hnl := natRows_len ps
 refine calls_of_J cl_138 Tryz.func138 rfl (by simp [Tryz.ntmps138]) ?_
 refine jr (h := ?_)
 refine jc (hs := hs1) (hk := ?_)
 refine jr (h := ?_)
 refine jc (hs := hp) (hk := ?_)
 refine jr (h := ?_)
 refine jk [5, 6, 7] (h := ?_)
 refine J_loopI (I := fun m e D => ∃ (k : Nat), k ≤ 3 ∧ m = 3 - k ∧ D = [] ∧ (∀ p ∈ ps.take k, p ∈ o2) ∧ e = [(5, .sl 1 (natRows o2)), (6, .sl 1 (natRows ps)), (7, .c (.int .i64 k))]) ?_ ?_
 · exact ⟨_, 0, by omega, rfl, rfl, by simp, rfl⟩
 · rintro m e D ⟨k, hk, rfl, rfl, hall, rfl⟩ ih
   refine jr (h := ?_)
   refine jif (h1 := fun hc => ?_) (h2 := fun hc => ?_)
   · have hlk : k < ps.length := by omega
     have g2 := natRows_get (List.getElem?_eq_getElem hlk)
     have h0k : (0 : Int) ≤ (k : Int) := by omega
     refine jr (h := ?_)
     refine jk [5, 6, 7, 8, 9] (h := ?_)
     refine J_loopI (I := fun m3 e D' => ∃ (j : Nat), j ≤ o2.length ∧ m3 = o2.length - j ∧ D' = [] ∧ e = [(5, .sl 1 (natRows o2)), (6, .sl 1 (natRows ps)), (7, .c (.int .i64 k)), (8, .c (.bool (decide (ps[k] ∈ o2.take j)))), (9, .c (.int .i64 j))]) ?_ ?_
     · exact ⟨_, 0, by omega, rfl, rfl, by simp⟩
     · rintro m3 e D' ⟨j, hj, rfl, rfl, rfl⟩ ih3
       refine jf hno (h := ?_)
       refine jif (h1 := fun hcj => ?_) (h2 := fun hcj => ?_)
       · have hjl : j < o2.length := by omega
         have g3 := natRows_get (List.getElem?_eq_getElem hjl)
         have h0j : (0 : Int) ≤ (j : Int) := by omega
         have htj : ps[k] ∈ o2.take (j + 1) ↔ ps[k] ∈ o2.take j ∨ o2[j] = ps[k] := by
           rw [List.take_add_one, List.getElem?_eq_getElem hjl, List.mem_append]
           simp [eq_comm]
         cases hm : decide (ps[k] ∈ o2.take j) with
         | true =>
           have hm2 : decide (ps[k] ∈ o2.take (j + 1)) = true := decide_eq_true (htj.2 (.inl (of_decide_eq_true hm)))
           refine jr (h := ?_)
           refine jd [(0, .pure), (1, .pure), (2, .pure), (3, .pure), (4, .pure), (5, .pure), (6, .pure), (7, .pure), (8, .pure), (9, .pure), (10, .pure), (11, .pure), (12, .pure)] mixed (by kernel_rfl) ?_
           refine cr (hk := ?_)
           refine Can_nil ?_
           refine jr (h := ?_)
           refine jk [5, 6, 7, 8, 9] (h := ?_)
           refine ih3 _ _ _ ?_ ⟨j + 1, hjl, rfl, rfl, by rw [hm2]; simp only [Int.natCast_add, Int.cast_ofNat_Int]⟩
           omega
         | false =>
           have hm2 : decide ((o2[j] : Int) = (ps[k] : Int)) = decide (ps[k] ∈ o2.take (j + 1)) := by
             have h1 := of_decide_eq_false hm
             by_cases he : o2[j] = ps[k]
             · rw [decide_eq_true (show (o2[j] : Int) = (ps[k] : Int) by omega), decide_eq_true (htj.2 (.inr he))]
             · rw [decide_eq_false (show ¬ (o2[j] : Int) = (ps[k] : Int) by omega), decide_eq_false (fun h => (htj.1 h).elim h1 he)]
           refine jr (h := ?_)
           refine jd [(0, .pure), (1, .pure), (2, .pure), (3, .pure), (4, .pure), (5, .pure), (6, .pure), (7, .pure), (8, .pure), (9, .pure), (10, .pure), (11, .pure), (12, .pure)] mixed (by kernel_rfl) ?_
           refine cf (a4 g2 g3 hnl hno) (hk := ?_)
           refine Can_nil ?_
           refine jr (h := ?_)
           refine jk [5, 6, 7, 8, 9] (h := ?_)
           refine ih3 _ _ _ ?_ ⟨j + 1, hjl, rfl, rfl, by rw [← hm2]; simp only [Int.natCast_add, Int.cast_ofNat_Int]⟩
           omega
       · have hj' : j = o2.length := by omega
         subst hj'
         rw [List.take_length]
         cases hm : decide (ps[k] ∈ o2) with
         | true =>
           refine jr (h := ?_)
           refine jn (h := ?_)
           refine jr (h := ?_)
           refine jk [5, 6, 7] (h := ?_)
           refine ih _ _ _ ?_ ⟨k + 1, by omega, rfl, rfl, ?_, by simp only [Int.natCast_add, Int.cast_ofNat_Int]⟩
           · omega
           · intro q hq
             rw [List.take_add_one, List.getElem?_eq_getElem hlk, List.mem_append] at hq
             rcases hq with hq | hq
             · exact hall q hq
             · simp at hq; rw [hq]; exact of_decide_eq_true hm
         | false =>
           refine jr (h := ?_)
           refine jt (h := ?_)
           refine jr (h := ?_)
           refine J_retX Tryz.func138 (by simp only [go_sem, ↓reduceIte, Int.reduceLT, Int.reduceLE, Int.reduceToNat, Int.reducePow, Int.reduceNeg, Nat.reduceBEq, Tryz.f138] <;> first | with_reducible rfl | rfl) ⟨by
             have : (ps.all fun p => decide (p ∈ o2)) = false := List.all_eq_false.2 ⟨ps[k], List.getElem_mem _, by simpa using of_decide_eq_false hm⟩
             rw [this], rfl⟩
   · have hk3 : k = 3 := by omega
     subst hk3
     have hal : ps.take 3 = ps := List.take_of_length_le (by omega)
     rw [hal] at hall
     refine jr (h := ?_)
     refine J_retX Tryz.func138 (by simp only [go_sem, ↓reduceIte, Int.reduceLT, Int.reduceLE, Int.reduceToNat, Int.reducePow, Int.reduceNeg, Nat.reduceBEq, Tryz.f138] <;> first | with_reducible rfl | rfl) ⟨by
       have : (ps.all fun p => decide (p ∈ o2)) = true := List.all_eq_true.2 fun p hp => decide_eq_true (hall p hp)
       rw [this], rfl⟩
theorem hasP_set (f : BF) (p q : Nat) (hp : p < 128) (hq : q < 128) : hasP (setP f p) q = (hasP f q || decide (q = p)) := by
 unfold hasP setP
 by_cases h1 : p < 64 <;> by_cases h2 : q < 64 <;> simp only [h1, h2, if_true, if_false, Nat.testBit_or, Nat.testBit_two_pow]
 · have : (p % 64 = q % 64) ↔ q = p := by omega
   simp [this]
 · have : ¬ q = p := by omega
   simp [this]
 · have : ¬ q = p := by omega
   simp [this]
 · have : (p % 64 = q % 64) ↔ q = p := by omega
   simp [this]
theorem hasP_sets (q : Nat) (hq : q < 128) : ∀ (ps : List Nat) (f : BF), (∀ p ∈ ps, p < 128) → hasP (ps.foldl setP f) q = (hasP f q || decide (q ∈ ps))
 | [], f, _ => by simp
 | p :: ps, f, h => by
   rw [List.foldl_cons, hasP_sets q hq ps _ (fun r hr => h r (by simp [hr])), hasP_set f p q (h p (by simp)) hq]
   by_cases h1 : q = p
   · simp [h1]
   · simp [h1]
theorem hasP_of (q : Nat) (hq : q < 128) : ∀ (ks : List (List UInt8)) (f : BF), hasP (ks.foldl (fun f k => addF f (hash64 k)) f) q = (hasP f q || decide (∃ h ∈ ks.map hash64, q ∈ plN h))
 | [], f => by simp
 | k :: ks, f => by
   rw [List.foldl_cons, hasP_of q hq ks]
   unfold addF
   rw [hasP_sets q hq _ _ (fun p hp => plN_lt p hp)]
   simp only [List.map_cons, List.mem_cons, exists_eq_or_imp, Bool.or_assoc, Bool.decide_or]
theorem may_same (ks : List (List UInt8)) (h : Int) : mayF (ofF ks) h = mayR (ks.map hash64) h := by
 unfold mayF mayR
 rw [Bool.eq_iff_iff, List.all_eq_true, List.all_eq_true]
 have h0 : ∀ q, q < 128 → hasP (0, 0) q = false := fun q hq => by unfold hasP; simp
 have hq : ∀ q ∈ plN h, hasP (ofF ks) q = decide (q ∈ setR (ks.map hash64)) := fun q hq => by
   unfold ofF
   rw [hasP_of q (plN_lt q hq), h0 q (plN_lt q hq), Bool.false_or]
   have := setR_mem q (ks.map hash64) []
   unfold setR
   rw [decide_eq_decide, this]
   simp
 exact ⟨fun h q hm => by rw [← hq q hm]; exact h q hm, fun h q hm => by rw [hq q hm]; exact h q hm⟩
end
end Go.Proofs.YtjppajaoekbkpaaGreatDoor
namespace Go.Proofs.YtjppajaoekbkpaaGreatDoor
open Go Go.Av
attribute [local go_sem] packed List.set_cons_zero List.set_cons_succ List.cons_append List.nil_append bytesRows_length cellRows_len chRows_len rCells intRows_len
attribute [-go_sem] cellsOf AV.isCell
attribute [local go_sem] cellsOf_agg cellsOf_int cellsOf_bool cellsOf_str cellsOf_map cellsOf_ptr cellsOf_nilI cellsOf_slice cellsOf_sl cellsOf_ifc cellsOf_fp cellsOf_opt optAV_cell icell_int icell_bool icell_str icell_map icell_ptr icell_nilI icell_slice icell_sl icell_ifc icell_fp
attribute [local go_sem] Entry.av Entry.cells rowsBytes_bytesRows Option.map_some Int.cast_ofNat_Int getBox_GL setBox_GL fresh_GL
section
theorem _root_.Go.Av.ACalls.under7 {f : FuncId} {args : List AV} {D : List HP} {R : APost} (a b c d e p q : HP) (h : ACalls Tryz.prog f args D R) : ACalls Tryz.prog f args (a :: b :: c :: d :: e :: p :: q :: D) (fun r Δ' => ∃ D', R r D' ∧ Δ' = a :: b :: c :: d :: e :: p :: q :: D') := h.underL [a, b, c, d, e, p, q]
abbrev smB (s t : Nat) (base : Int) (fb N : Nat) : HP := .box s 178 [ptr t, .c (.int .i64 base), .c (.slice (some ⟨fb, 0, none⟩) N N)]
def bfRows (fs : List BF) : List (List AV) := fs.map fun f => [.c (.int .u64 (f.1 : Int)), .c (.int .u64 (f.2 : Int))]
theorem bfRows_len (fs : List BF) : (bfRows fs).length = fs.length := by simp [bfRows]
theorem bfRows_row (fs : List BF) : ∀ r ∈ bfRows fs, r.length = 2 := by
 intro r hr; obtain ⟨k, -, rfl⟩ := List.mem_map.1 hr; rfl
theorem bfRows_set (fs : List BF) (i : Nat) (f : BF) : bfRows (fs.set i f) = (bfRows fs).set i [.c (.int .u64 (f.1 : Int)), .c (.int .u64 (f.2 : Int))] := by
 unfold bfRows; rw [List.map_set]
theorem bfCells_len (fs : List BF) : (bfRows fs).flatten.length = fs.length * 2 := by rw [flat_len (bfRows_row fs), bfRows_len]
theorem bf_put {fs : List BF} {i : Nat} (hi : i < fs.length) (f : BF) : (bfRows fs).flatten.take (i * 2) ++ [.c (.int .u64 (f.1 : Int)), .c (.int .u64 (f.2 : Int))] ++ (bfRows fs).flatten.drop (i * 2 + 2) = (bfRows (fs.set i f)).flatten := by
 have h := set_row (s := 2) (sp := []) (x := [AV.c (.int .u64 (f.1 : Int)), AV.c (.int .u64 (f.2 : Int))]) (bfRows_row fs) (i := i) (by rw [bfRows_len]; exact hi) rfl
 simp only [List.append_nil] at h
 rw [bfRows_set]
 exact h
abbrev smF (fb : Nat) (fs : List BF) : HP := .box fb 181 (bfRows fs).flatten
def pgE (s : Fl) (at_ : Int) : List Entry := if tgetC s at_ 1 ≠ 0 then [] else (bktR (txtB (lookB s at_))).2
theorem page_ok {sm t f fb N : Nat} {n base : Int} {s : Fl} {D : List HP} (h : OwnF f s D) (hw : s.WF) (i : Nat) (hb : 0 ≤ base ∧ base ≤ 4096) (hi : i ≤ 4096) :
   ACalls Tryz.prog 95 [ptr sm, .c (.int .i64 (i : Int))] (smB sm t base fb N :: tbox t f n :: GL :: D)
     (fun r D' => (∃ e, r = .ret (.tup [.sl 5 (ents (if s.down = true then [] else pgE s (base + i))), e]) ∧ IsErr e (if s.down = true then 11 else 0)) ∧ D' = smB sm t base fb N :: tbox t f n :: GL :: D) := by
 have hg := tget_ok (t := t) (n := n) h hw (base + i) 1
 have hlen : (txtB (lookB s (base + i))).length < 2 ^ 30 := by
   have := look_len hw (base + i)
   unfold txtB; rw [List.length_take, List.length_drop]; omega
 have hbr := bread_ok _ hlen
 have hup := tgetC_up (s := s) (at_ := base + i) (kd := 1)
 have hdn := tgetC_down (s := s) (at_ := base + i) (kd := 1)
 have hp : pgE s (base + i) = if tgetC s (base + i) 1 ≠ 0 then [] else (bktR (txtB (lookB s (base + i)))).2 := rfl
 rw [hp]
 clear hp hlen
 generalize tgetC s (base + i) 1 = c at *
 generalize lookB s (base + i) = LB at *
 have hrl : (bktR (txtB LB)).1 ≠ 0 → (bktR (txtB LB)).2 = [] := by
   unfold bktR
   split
   · exact fun _ => rfl
   · split
     · exact fun h => absurd rfl h
     · exact fun _ => rfl
 generalize bktR (txtB LB) = R at *
 obtain ⟨rc, rl⟩ := R
 simp only at *
 unfold leafAV at hg
 by_cases hc : c = 0
 · have hdf : s.down = false := by
     rcases Bool.eq_false_or_eq_true s.down with hd | hd
     · have := hdn hd; omega
     · exact hd
   have hd1 : ¬ s.down = true := by rw [hdf]; decide
   rw [if_neg hd1, if_neg hd1, if_neg (fun h => h hc)]
   have hg0 := hg.mono (R' := fun r D' => r = .ret (.tup [.agg [.c (.int .i64 (stampsB LB).1), .c (.int .i64 (kdB LB)), .sl 1 (bytesRows (txtB LB))], .c .nilIface]) ∧ D' = tbox t f n :: D) (fun r D' h => ⟨h.1 hc, h.2.2⟩)
   clear hg
   refine calls_of_J cl_95 Tryz.func95 rfl (by simp [Tryz.ntmps95]) ?_
   refine jr (h := ?_)
   refine jd [(0, .pure), (1, .pure), (2, .pure), (3, .read), (4, .pure), (5, .pure), (6, .pure), (7, .read), (8, .pure), (9, .pure), (10, .read), (11, .pure), (12, .pure), (13, .pure), (14, .new), (15, .act), (16, .pure)] mixed (by kernel_rfl) ?_
   refine cr (hk := ?_)
   refine ccr (hs := (hg0.around (Fr := [_, GL]) ((List.Perm.swap _ _ _).trans (.cons _ (List.perm_append_comm (l₁ := [_, GL])))))) (hk := ?_)
   refine cr (hk := ?_)
   refine cnv (hk := fun b6 hb6 => ?_)
   simp only [fresh, fresh_GL] at hb6
   refine cf hb6 (hk := ?_)
   refine Can_nil ?_
   all_goals
     refine jr (h := ?_)
     refine jn (h := ?_)
     refine jf hb6 (h := ?_)
     refine jcs (Δ1 := [GL]) (Fr := _ :: _ :: _ :: D) (hs := hbr) (hp := (List.perm_middle (l₁ := [_, _, _]))) (hk := ?_) (hpan := (by rintro x Δ' ⟨⟨e, h, _⟩, _⟩; cases h))
     rintro x _ ⟨⟨er, h, he⟩, rfl⟩
     cases h
     refine J_perm (List.perm_middle (l₁ := [_, _, _])).symm ?_
     simp only [List.cons_append, List.nil_append]
     by_cases hrc : rc = 0
     · subst hrc
       obtain rfl := iserr_zero he
       refine jr (h := ?_)
       refine jn (h := ?_)
       refine jr (h := ?_)
       refine J_forgetP ?_
       refine jret Tryz.func95 (h := ⟨[_], _, List.Perm.refl _, ⟨_, rfl, .none⟩, rfl⟩)
     · rw [hrl hrc]
       obtain ⟨te, ve, rfl⟩ := iserr_ne he hrc
       refine jr (h := ?_)
       refine jt (h := ?_)
       refine jr (h := ?_)
       refine J_wk (t := 4) (by simp only [go_sem]) (nil_le_sl (s := 5)) ?_
       refine J_forgetP ?_
       refine jret Tryz.func95 (h := ⟨[_], _, List.Perm.refl _, ⟨_, rfl, .none⟩, rfl⟩)
 · rw [if_pos hc]
   have hgn := hg.mono (R' := fun r D' => (∃ e, r = .ret (.tup [.agg [.c (.int .i64 0), .c (.int .i64 0), .c (.slice none 0 0)], e]) ∧ IsErr e c) ∧ D' = tbox t f n :: D) (fun r D' h => ⟨h.2.1 hc, h.2.2⟩)
   clear hg
   have hnil : (if s.down = true then ([] : List Entry) else []) = [] := by split <;> rfl
   rw [hnil]
   refine calls_of_J cl_95 Tryz.func95 rfl (by simp [Tryz.ntmps95]) ?_
   refine jr (h := ?_)
   refine jd2 10 14 [(0, .pure), (1, .pure), (2, .pure), (3, .read), (4, .pure), (5, .pure), (6, .pure), (7, .read), (8, .pure), (9, .pure), (10, .act), (11, .pure), (12, .pure), (13, .pure), (14, .new), (15, .act), (16, .pure)] [(0, .pure), (1, .pure), (2, .pure), (3, .read), (4, .pure), (5, .pure), (6, .pure), (7, .read), (8, .pure), (9, .pure), (14, .new), (10, .act), (11, .pure), (12, .pure), (13, .pure), (15, .act), (16, .pure)] mixed (by kernel_rfl) ?_ ?_
   refine cr (hk := ?_)
   refine ccs (Fr := []) (hs := (hgn.keepAll (Δ := smB sm t base fb N :: tbox t f n :: GL :: D) (Fr := [_, GL]) ((List.Perm.swap _ _ _).trans (.cons _ (List.perm_append_comm (l₁ := [_, GL])))))) (hp := (by rw [List.append_nil])) (hk := ?_) (hn := (by rintro x Δ' ⟨⟨e, h, _⟩, _⟩; cases h))
   rintro x _ ⟨⟨er, h, he⟩, rfl⟩
   cases h
   rw [List.append_nil]
   refine cr (hk := ?_)
   refine cnv (hk := fun b6 hb6 => ?_)
   simp only [fresh, fresh_GL] at hb6
   refine cf hb6 (hk := ?_)
   refine Can_nil ?_
   refine jk [0, 1, 4, 5, 6, 7] (h := ?_)
   rotate_left
   refine cr (hk := ?_)
   refine cnv (hk := fun b6 hb6 => ?_)
   simp only [fresh, fresh_GL] at hb6
   refine cf hb6 (hk := ?_)
   refine ccs (Fr := []) (hs := (hgn.keepAll (Δ := _ :: smB sm t base fb N :: tbox t f n :: GL :: D) (Fr := [_, _, GL]) ((List.perm_middle (l₁ := [_, _])).trans (.cons _ (List.perm_append_comm (l₁ := [_, _, GL])))))) (hp := (by rw [List.append_nil])) (hk := ?_) (hn := (by rintro x Δ' ⟨⟨e, h, _⟩, _⟩; cases h))
   rintro x _ ⟨⟨er, h, he⟩, rfl⟩
   cases h
   rw [List.append_nil]
   refine cf hb6 (hk := ?_)
   refine Can_nil ?_
   refine jk [0, 1, 4, 5, 6, 7] (h := ?_)
   all_goals
     have hh := has_ok he 11
     obtain ⟨te, ve, rfl⟩ := iserr_ne he hc
     refine jr (h := ?_)
     refine jt (h := ?_)
     refine jr (h := ?_)
     refine jc (hs := hh) (hk := ?_)
     refine jr (h := ?_)
     by_cases h11 : c = 11
     · have hd : decide (c ≠ 0 ∧ c = 11) = true := decide_eq_true ⟨hc, h11⟩
       have hdd : s.down = true := by
         rcases Bool.eq_false_or_eq_true s.down with hd | hd
         · exact hd
         · exact absurd h11 (hup hd)
       rw [hd, if_pos hdd]
       refine jt (h := ?_)
       refine jr (h := ?_)
       refine J_wk (t := 4) (by simp only [go_sem]) (nil_le_sl (s := 5)) ?_
       refine J_forgetP ?_
       refine jret Tryz.func95 (h := ⟨[_], _, List.Perm.refl _, ⟨_, rfl, h11 ▸ he⟩, rfl⟩)
     · have hd : decide (c ≠ 0 ∧ c = 11) = false := decide_eq_false (fun h => h11 h.2)
       have hdd : ¬ s.down = true := fun h => h11 (hdn h)
       rw [hd, if_neg hdd]
       refine jn (h := ?_)
       refine jr (h := ?_)
       refine J_wk (t := 4) (by simp only [go_sem]) (nil_le_sl (s := 5)) ?_
       refine J_forgetP ?_
       refine jret Tryz.func95 (h := ⟨[_], _, List.Perm.refl _, ⟨_, rfl, .none⟩, rfl⟩)
end
section
theorem write1_ok {sm t fb N b6 : Nat} {base : Int} {fs : List BF} {l : List Entry} {i : Nat} {er : AV} {C : Int} (he : IsErr er C) (hw : ∀ y ∈ l, EntW y) (hl : l.length < 2 ^ 20) (hN : fs.length = N) (hi : i < N) (hNN : N ≤ 4096) (hne : sm ≠ fb) (hn6 : b6 ≠ fb) (hn7 : b6 ≠ sm) :
   ADefers Tryz.prog 153 [ptr b6, .fp [.sl 5 (ents l)], .fp [ptr sm], .fp [.c (.int .i64 (i : Int))]] [.box b6 27 [er], smB sm t base fb N, smF fb fs]
     (fun r D' => r = .ret (.tup []) ∧ D' = [.box b6 27 [er], smB sm t base fb N, smF fb (if C = 0 then fs.set i (ofF (keysE l)) else fs)]) := by
 have hf := bfilter_ok l (fun y hy => by have := (hw y hy).k2; omega) (by omega)
 have hcl := bfCells_len fs
 have hput := bf_put (fs := fs) (i := i) (by omega) (ofF (keysE l))
 generalize ofF (keysE l) = g at *
 refine defers_of_J cl_153 Tryz.func153 rfl (by simp [Tryz.ntmps153]) ?_
 by_cases hC : C = 0
 · subst hC
   obtain rfl := iserr_zero he
   rw [if_pos rfl]
   refine jr (h := ?_)
   refine jt (h := ?_)
   refine jf (a3 hn6 hn7 hne) (h := ?_)
   refine jd [(0, .pure), (1, .pure), (2, .pure), (3, .read), (4, .pure), (5, .pure), (6, .pure), (7, .pure), (8, .act)] mixed (by kernel_rfl) ?_
   refine cf (a3 hn6 hn7 hne) (hk := ?_)
   refine ccp (hs := hf) (hk := ?_)
   refine cf (a5 hn6 hn7 hne hcl hput) (hk := ?_)
   refine Can_nil ?_
   exact JL_end Tryz.func153 (X := .tup []) (by rfl) ⟨rfl, rfl⟩
 · obtain ⟨te, ve, rfl⟩ := iserr_ne he hC
   rw [if_neg hC]
   refine jr (h := ?_)
   refine jn (h := ?_)
   refine jr (h := ?_)
   exact JL_end Tryz.func153 (X := .tup []) (by rfl) ⟨rfl, rfl⟩
theorem swrite_ok {sm t f fb N i : Nat} {n base : Int} {s : Fl} {D : List HP} {fs : List BF} {l : List Entry} (h : OwnF f s D) (hw : s.WF) (hw2 : (tputS s n (base + i) 1 (allB l)).WF) (hn : n < 4611686018427387904) (hb : 0 ≤ base ∧ base ≤ 4096) (hN : fs.length = N) (hi : i < N) (hNN : N ≤ 4096) (hne : sm ≠ fb) (hsm : sm ≠ t) (hfb : fb ≠ t) (hlw : ∀ y ∈ l, EntW y) (hl : l.length < 2 ^ 20) (hal : (allB l).length < 2 ^ 37) :
   ACalls Tryz.prog 98 [ptr sm, .c (.int .i64 (i : Int)), .sl 5 (ents l)] (smB sm t base fb N :: smF fb fs :: tbox t f n :: D)
     (fun r D' => ∃ e D1, r = .ret e ∧ IsErr e (tfirmC s n (base + i) 1 (allB l)) ∧ OwnF f (tfirmS s n (base + i) 1 (allB l)) D1 ∧
       D' = smB sm t base fb N :: smF fb (if tfirmC s n (base + i) 1 (allB l) = 0 then fs.set i (ofF (keysE l)) else fs) :: tbox t f (tputN s n (base + i) 1 (allB l)) :: D1) := by
 have hall := iall_ok l hlw hl
 have hfm := tfirm_ok (t := t) (base + i) 1 (allB l) h hw hw2 hn hal
 generalize allB l = bb at *
 generalize tfirmC s n (base + i) 1 bb = C at *
 generalize tfirmS s n (base + i) 1 bb = S at *
 generalize tputN s n (base + i) 1 bb = n2 at *
 refine calls_of_J cl_98 Tryz.func98 rfl (by simp [Tryz.ntmps98]) ?_
 refine jr (own := [6]) (h := ?_)
 refine jnv (hh := fun b6 hb6 => ?_)
 simp only [fresh] at hb6
 refine jf hb6 (h := ?_)
 refine J_defer (xs := [.c (.pointer (some ⟨b6, 0, none⟩)), .fp [.sl 5 (ents l)], .fp [ptr sm], .fp [.c (.int .i64 (i : Int))]]) (by rfl) rfl (by rfl) rfl (by simp only [go_sem] <;> rfl) ?_
 rintro vs hlen
 obtain ⟨v1, v2, v3, v4, rfl⟩ : ∃ v1 v2 v3 v4, vs = [v1, v2, v3, v4] := by
   match vs, hlen with
   | [a, b, c, d], _ => exact ⟨a, b, c, d, rfl⟩
 simp only [isAll, List.cons_append, List.nil_append]
 refine jr (h := ?_)
 refine jd [(0, .pure), (1, .pure), (2, .pure), (3, .read), (4, .pure), (5, .pure), (6, .pure), (7, .read), (8, .pure), (9, .pure), (10, .pure), (11, .pure), (12, .act), (13, .act)] mixed (by kernel_rfl) ?_
 refine cf hb6 (hk := ?_)
 refine ccp (hs := hall) (hk := ?_)
 refine cf hb6 (hk := ?_)
 refine ccs (Fr := []) (hs := (hfm.under7 _ _ _ _ _ _ _)) (hp := (by rw [List.append_nil])) (hk := ?_) (hn := (by rintro x Δ' ⟨_, ⟨e, D1, h, _⟩, _⟩; cases h))
 rintro x _ ⟨_, ⟨er, D1, h, he, -, hO1, rfl⟩, rfl⟩
 cases h
 rw [List.append_nil]
 have hw1 := write1_ok (t := t) (base := base) he hlw hl hN hi hNN hne hb6.2.2.2.1 hb6.2.1
 by_cases hC : C = 0
 rotate_left
 · obtain ⟨te, ve, rfl⟩ := iserr_ne he hC
   refine cf hb6 (hk := ?_)
   refine Can_nil ?_
   refine J_forgetP ?_
   refine JO_ret (vs := [v1, v2, v3, v4]) (xs := [.c (.pointer (some ⟨b6, 0, none⟩)), .fp [.sl 5 (ents l)], .fp [ptr sm], .fp [.c (.int .i64 (i : Int))]]) (Δ := .box b6 27 [.ifc te ve] :: smB sm t base fb N :: smF fb fs :: tbox t f n2 :: D1) (Fr := tbox t f n2 :: D1) Tryz.func98 rfl hw1 (List.Perm.refl _) (by rintro x Δ' ⟨h, _⟩; cases h) ?_
   rintro y _ ⟨-, rfl⟩
   exact ⟨.ifc te ve, by simp only [go_sem, List.cons_append, List.nil_append] <;> rfl, [_], _, List.Perm.refl _, _, D1, rfl, he, hO1, rfl⟩
 · subst hC
   obtain rfl := iserr_zero he
   refine cf hb6 (hk := ?_)
   refine Can_nil ?_
   refine J_forgetP ?_
   refine JO_ret (vs := [v1, v2, v3, v4]) (xs := [.c (.pointer (some ⟨b6, 0, none⟩)), .fp [.sl 5 (ents l)], .fp [ptr sm], .fp [.c (.int .i64 (i : Int))]]) (Δ := .box b6 27 [.c .nilIface] :: smB sm t base fb N :: smF fb fs :: tbox t f n2 :: D1) (Fr := tbox t f n2 :: D1) Tryz.func98 rfl hw1 (List.Perm.refl _) (by rintro x Δ' ⟨h, _⟩; cases h) ?_
   rintro y _ ⟨-, rfl⟩
   exact ⟨.c .nilIface, by simp only [go_sem, List.cons_append, List.nil_append] <;> rfl, [_], _, List.Perm.refl _, _, D1, rfl, he, hO1, rfl⟩
end
section
def slotE (h : Int) (n : Nat) : Nat := h.toNat % n
theorem slotE_lt {h : Int} {n : Nat} (hn : 0 < n) : slotE h n < n := Nat.mod_lt _ hn
theorem bslot_ok (h : Int) (hh : In64 h) (n : Nat) (h0 : 0 < n) (hn : n ≤ 4096) : ACalls Tryz.prog 100 [.c (.int .u64 h), .c (.int .i64 (n : Int))] [] (Ret (.c (.int .i64 (slotE h n : Int)))) := by
 obtain ⟨h1, h2⟩ := hh
 obtain ⟨m, rfl⟩ : ∃ m : Nat, h = m := ⟨h.toNat, by omega⟩
 have hs : slotE (m : Int) n = m % n := by unfold slotE; simp
 have hlt : m % n < n := Nat.mod_lt _ h0
 have hc : ((m : Int) % (n : Int)) = ((m % n : Nat) : Int) := (Int.natCast_emod m n).symm
 rw [hs]
 have q0 : ¬ (n : Int) < 1 := by omega
 refine calls_of_J cl_100 Tryz.func100 rfl (by simp [Tryz.ntmps100]) ?_
 refine jr (h := ?_)
 refine jif (h1 := fun hc => absurd hc (by exact q0)) (h2 := fun _ => ?_)
 refine jf hc (h := ?_)
 refine J_forget ?_
 refine jret Tryz.func100 (h := ⟨rfl, rfl⟩)
theorem rslot_ok (h : Int) (hh : In64 h) (n : Nat) (h0 : 0 < n) (hn : n ≤ 4096) : ACalls Tryz.prog 101 [.c (.int .u64 h), .c (.int .i64 (n : Int))] [] (Ret (.c (.int .i64 (slotE h n : Int)))) := by
 obtain ⟨h1, h2⟩ := hh
 obtain ⟨m, rfl⟩ : ∃ m : Nat, h = m := ⟨h.toNat, by omega⟩
 have hs : slotE (m : Int) n = m % n := by unfold slotE; simp
 have hlt : m % n < n := Nat.mod_lt _ h0
 have hc : ((m : Int) % (n : Int)) = ((m % n : Nat) : Int) := (Int.natCast_emod m n).symm
 rw [hs]
 have q0 : ¬ (n : Int) < 1 := by omega
 refine calls_of_J cl_101 Tryz.func101 rfl (by simp [Tryz.ntmps101]) ?_
 refine jr (h := ?_)
 refine jif (h1 := fun hc => absurd hc (by exact q0)) (h2 := fun _ => ?_)
 refine jf hc (h := ?_)
 refine J_forget ?_
 refine jret Tryz.func101 (h := ⟨rfl, rfl⟩)
theorem hash_in (k : List UInt8) : In64 (hash64 k) := by unfold hash64 mix64; exact fold64_in _
theorem sbucket_ok {sm t fb N : Nat} {base : Int} {k : List UInt8} (hk : k.length < 2 ^ 62) (h0 : 0 < N) (hN : N ≤ 4096) :
   ACalls Tryz.prog 47 [ptr sm, .c (.string (mkStr k))] [smB sm t base fb N] (fun r D' => r = .ret (.c (.int .i64 (slotE (hash64 k) N : Int))) ∧ D' = [smB sm t base fb N]) := by
 have hb := bhash_ok k hk
 have hs := bslot_ok (hash64 k) (hash_in k) N h0 hN
 generalize hash64 k = h at *
 generalize slotE h N = i at *
 refine calls_of_J cl_47 Tryz.func47 rfl (by simp [Tryz.ntmps47]) ?_
 refine jr (h := ?_)
 refine jd [(0, .pure), (1, .pure), (2, .pure), (3, .pure), (4, .pure), (5, .read), (6, .pure), (7, .pure), (8, .pure)] mixed (by kernel_rfl) ?_
 refine cr (hk := ?_)
 refine ccp (hs := hb) (hk := ?_)
 refine cr (hk := ?_)
 refine ccp (hs := hs) (hk := ?_)
 refine cr (hk := ?_)
 refine Can_nil ?_
 refine J_forgetP ?_
 refine jret Tryz.func47 (h := ⟨[], _, List.Perm.refl _, rfl, rfl⟩)
theorem bfRows_get {fs : List BF} {i : Nat} {f : BF} (h : fs[i]? = some f) : (bfRows fs)[i]? = some [.c (.int .u64 (f.1 : Int)), .c (.int .u64 (f.2 : Int))] := by simp [bfRows, h]
theorem bf_cells {fs : List BF} {i : Nat} {f : BF} (h : fs[i]? = some f) : (bfRows fs).flatten.drop (i * 2) = [.c (.int .u64 (f.1 : Int)), .c (.int .u64 (f.2 : Int))] ++ ((bfRows fs).drop (i + 1)).flatten := by
 have hh := get_row (s := 2) (sp := []) (bfRows_row fs) (bfRows_get h)
 simpa using hh
theorem smay_aux {sm t fb N i : Nat} {base h : Int} {k : List UInt8} {fs : List BF} {f : BF} {o : Bool} (hi : i < N) (hN : fs.length = N) (hNN : N ≤ 4096) (hne : sm ≠ fb) (hf : fs[i]? = some f)
   (hb : ACalls Tryz.prog 92 [.c (.string (mkStr k))] [] (Ret (.c (.int .u64 h))))
   (hs2 : ACalls Tryz.prog 47 [ptr sm, .c (.string (mkStr k))] [smB sm t base fb N, smF fb fs] (fun r D' => r = .ret (.c (.int .i64 (i : Int))) ∧ D' = [smB sm t base fb N, smF fb fs]))
   (hm : ACalls Tryz.prog 132 [bfAV f, .c (.int .u64 h)] [] (Ret (.c (.bool o)))) :
   ACalls Tryz.prog 84 [ptr sm, .c (.string (mkStr k))] [smB sm t base fb N, smF fb fs] (fun r D' => r = .ret (.c (.bool o)) ∧ D' = [smB sm t base fb N, smF fb fs]) := by
 have hcl := bfCells_len fs
 have hr := bf_cells hf
 have hrw := bfRows_get hf
 refine calls_of_J cl_84 Tryz.func84 rfl (by simp [Tryz.ntmps84]) ?_
 refine jr (h := ?_)
 refine jd [(0, .pure), (1, .pure), (2, .pure), (3, .read), (4, .pure), (5, .pure), (6, .read), (7, .pure), (8, .read), (9, .pure), (10, .pure), (11, .pure), (12, .pure)] mixed (by kernel_rfl) ?_
 refine cr (hk := ?_)
 refine ccr (hs := hs2) (hk := ?_)
 refine cf (a3 hne hcl hr) (hk := ?_)
 refine ccp (hs := hb) (hk := ?_)
 refine cr (hk := ?_)
 refine ccp (hs := hm) (hk := ?_)
 refine cr (hk := ?_)
 refine Can_nil ?_
 refine J_forgetP ?_
 refine jret Tryz.func84 (h := ⟨[], _, List.Perm.refl _, rfl, rfl⟩)
theorem smay_ok {sm t fb N i : Nat} {base : Int} {k : List UInt8} {fs : List BF} {f : BF} (hk : k.length < 2 ^ 62) (hN : fs.length = N) (hNN : N ≤ 4096) (hne : sm ≠ fb) (hi : slotE (hash64 k) N = i) (hf : fs[i]? = some f) (hok : BFok f) :
   ACalls Tryz.prog 84 [ptr sm, .c (.string (mkStr k))] [smB sm t base fb N, smF fb fs] (fun r D' => r = .ret (.c (.bool (mayF f (hash64 k)))) ∧ D' = [smB sm t base fb N, smF fb fs]) := by
 have hlt : i < N := by have := (List.getElem?_eq_some_iff.1 hf).1; omega
 have hs := sbucket_ok (sm := sm) (t := t) (fb := fb) (base := base) hk (by omega : 0 < N) hNN
 rw [hi] at hs
 exact smay_aux hlt hN hNN hne hf (bhash_ok k hk) (hs.around (Δ := [smB sm t base fb N, smF fb fs]) (Fr := [smF fb fs]) (List.Perm.refl _)) (bmay_ok f hok (hash64 k) (hash_in k))
end
section
theorem txt_le {s : Fl} (hw : s.WF) (at_ : Int) : (txtB (lookB s at_)).length ≤ 256 := by
 have := look_len hw at_
 unfold txtB; rw [List.length_take, List.length_drop]; omega
theorem bktR_w (b : List UInt8) : (∀ x ∈ (bktR b).2, EntW x) ∧ (bktR b).2.length ≤ b.length ∧ uniqE (bktR b).2 = true := by
 have h := readE_w b
 unfold bktR
 split
 · exact ⟨by simp, by simp, rfl⟩
 · split
   · rename_i hu; exact ⟨h.1, h.2, hu⟩
   · exact ⟨by simp, by simp, rfl⟩
theorem pgE_w {s : Fl} (hw : s.WF) (at_ : Int) : (∀ x ∈ pgE s at_, EntW x) ∧ (pgE s at_).length ≤ 256 ∧ uniqE (pgE s at_) = true := by
 unfold pgE
 split
 · exact ⟨by simp, by simp, rfl⟩
 · have h := bktR_w (txtB (lookB s at_)); have := txt_le hw at_
   exact ⟨h.1, by omega, h.2.2⟩
theorem numB_bd {x : Entry} (h : EntW x) : (entB x).length ≤ 8192 := by
 have := entB_len h
 omega
theorem allB_bd : ∀ {l : List Entry}, (∀ x ∈ l, EntW x) → (allB l).length ≤ 8192 * l.length
 | [], _ => by simp [allB]
 | x :: l, h => by
   have h1 := numB_bd (h x (List.mem_cons_self ..))
   have h2 := allB_bd (l := l) (fun y hy => h y (List.mem_cons_of_mem _ hy))
   have e : allB (x :: l) = entB x ++ allB l := by simp [allB]
   rw [e, List.length_append, List.length_cons]; omega
theorem perm4 (a b c g : HP) (D : List HP) : (a :: b :: c :: g :: D).Perm ((a :: b :: c :: D) ++ [g]) :=
 (((List.perm_append_comm (l₁ := [g]) (l₂ := D)).cons c).cons b).cons a
def wrS (s : Fl) (n : Int) (base : Int) (i : Nat) (l : List Entry) (fs : List BF) : Int × Fl × Int × List BF :=
 (tfirmC s n (base + i) 1 (allB l), tfirmS s n (base + i) 1 (allB l), tputN s n (base + i) 1 (allB l), if tfirmC s n (base + i) 1 (allB l) = 0 then fs.set i (ofF (keysE l)) else fs)
theorem swriteG_ok {sm t f fb N i : Nat} {n base : Int} {s : Fl} {D : List HP} {fs : List BF} {l : List Entry} (h : OwnF f s D) (hw : s.WF) (hw2 : ∀ at_ b, (tputS s n at_ 1 b).WF) (hn : n < 4611686018427387904) (hb : 0 ≤ base ∧ base ≤ 4096) (hN : fs.length = N) (hi : i < N) (hNN : N ≤ 4096) (hne : sm ≠ fb) (hsm : sm ≠ t) (hfb : fb ≠ t) (hlw : ∀ y ∈ l, EntW y) (hl : l.length ≤ 1024) :
   ACalls Tryz.prog 98 [ptr sm, .c (.int .i64 (i : Int)), .sl 5 (ents l)] (smB sm t base fb N :: smF fb fs :: tbox t f n :: D)
     (fun r D' => ∃ e D1, r = .ret e ∧ IsErr e (wrS s n base i l fs).1 ∧ OwnF f (wrS s n base i l fs).2.1 D1 ∧ D' = smB sm t base fb N :: smF fb (wrS s n base i l fs).2.2.2 :: tbox t f (wrS s n base i l fs).2.2.1 :: D1) := by
 have := allB_bd hlw
 exact swrite_ok h hw (hw2 _ _) hn hb hN hi hNN hne hsm hfb hlw (by omega) (by omega)
def rmS (s : Fl) (n : Int) (base : Int) (i : Nat) (k : List UInt8) (fs : List BF) : Bool × Int × Fl × Int × List BF :=
 if s.down = true then (false, 11, s, n, fs) else if findI (pgE s (base + i)) k < 0 then (false, 0, s, n, fs)
 else (decide ((wrS s n base i (rmE (pgE s (base + i)) k) fs).1 = 0), wrS s n base i (rmE (pgE s (base + i)) k) fs)
theorem sremove_ok {sm t f fb N i : Nat} {n base : Int} {s : Fl} {D : List HP} {fs : List BF} {k : List UInt8} (hk : k.length < 2 ^ 62) (h : OwnF f s D) (hw : s.WF) (hw2 : ∀ at_ b, (tputS s n at_ 1 b).WF) (hn : n < 4611686018427387904) (hb : 0 ≤ base ∧ base ≤ 4096) (hN : fs.length = N) (hi : slotE (hash64 k) N = i) (h0 : 0 < N) (hNN : N ≤ 4096) (hne : sm ≠ fb) (hsm : sm ≠ t) (hfb : fb ≠ t) :
   ACalls Tryz.prog 83 [ptr sm, .c (.string (mkStr k))] (smB sm t base fb N :: smF fb fs :: tbox t f n :: GL :: D)
     (fun r D' => ∃ e D1, r = .ret (.tup [.c (.bool (rmS s n base i k fs).1), e]) ∧ IsErr e (rmS s n base i k fs).2.1 ∧ OwnF f (rmS s n base i k fs).2.2.1 D1 ∧
       D' = smB sm t base fb N :: smF fb (rmS s n base i k fs).2.2.2.2 :: tbox t f (rmS s n base i k fs).2.2.2.1 :: GL :: D1) := by
 have hlt : i < N := hi ▸ slotE_lt h0
 have hs := sbucket_ok (sm := sm) (t := t) (fb := fb) (base := base) hk h0 hNN
 rw [hi] at hs
 have hs2 := hs.around (Δ := smB sm t base fb N :: smF fb fs :: tbox t f n :: GL :: D) (Fr := smF fb fs :: tbox t f n :: GL :: D) (List.Perm.refl _)
 have hpg := page_ok (sm := sm) (t := t) (n := n) (base := base) (fb := fb) (N := N) h hw i hb (by omega)
 have hpw := pgE_w hw (base + i)
 have hrl := rmE_len (pgE s (base + i)) k
 have hwr := swriteG_ok (sm := sm) (t := t) (fb := fb) (fs := fs) (l := rmE (pgE s (base + i)) k) h hw hw2 hn hb hN hlt hNN hne hsm hfb (fun y hy => hpw.1 y (rmE_mem hy)) (by omega)
 have hrm := bremove_ok (pgE s (base + i)) k (by omega)
 unfold rmS
 generalize wrS s n base i (rmE (pgE s (base + i)) k) fs = W at *
 generalize rmE (pgE s (base + i)) k = l2 at *
 generalize pgE s (base + i) = l at *
 obtain ⟨C, S, n2, fs2⟩ := W
 simp only at *
 clear hs hi hrl
 refine calls_of_J cl_83 Tryz.func83 rfl (by simp [Tryz.ntmps83]) ?_
 refine jr (h := ?_)
 refine jcr (hs := hs2) (hk := ?_)
 refine jr (h := ?_)
 refine jcs (Fr := [smF fb fs]) (hs := hpg) (hp := ((List.perm_middle (l₁ := [smB sm t base fb N])).trans ((List.perm_append_comm (l₁ := [smF fb fs]))))) (hk := ?_) (hpan := (by rintro x Δ' ⟨⟨e, h, _⟩, _⟩; cases h))
 rintro x _ ⟨⟨er, hx, he⟩, rfl⟩
 cases hx
 refine J_perm (((List.perm_middle (l₁ := [smB sm t base fb N])).trans ((List.perm_append_comm (l₁ := [smF fb fs])))).symm) ?_
 by_cases hd : s.down = true
 · rw [if_pos hd] at he
   simp only [if_pos hd]
   obtain ⟨te, ve, rfl⟩ := iserr_ne he (by decide)
   refine jr (h := ?_)
   refine jt (h := ?_)
   refine jr (h := ?_)
   refine jcs (Δ1 := []) (Fr := _ :: _ :: _ :: _ :: D) (hs := (wrapS_ok _ _ he)) (hp := (List.Perm.refl _)) (hk := ?_) (hpan := (by rintro x Δ' ⟨⟨e, h, _⟩, _⟩; cases h))
   rintro z _ ⟨⟨er2, hx, he2⟩, rfl⟩
   cases hx
   refine jr (h := ?_)
   refine jret Tryz.func83 (h := ⟨_, D, rfl, he2, h, rfl⟩)
 · rw [if_neg hd] at he
   simp only [if_neg hd]
   obtain rfl := iserr_zero he
   refine jr (h := ?_)
   refine jn (h := ?_)
   refine jr (h := ?_)
   refine jc (hs := hrm) (hk := ?_)
   refine jr (h := ?_)
   by_cases hf : findI l k < 0
   · have hdd : decide (0 ≤ findI l k) = false := decide_eq_false (by omega)
     rw [hdd]
     simp only [if_pos hf]
     refine jr (h := ?_)
     refine jt (h := ?_)
     refine jr (h := ?_)
     refine jret Tryz.func83 (h := ⟨_, D, rfl, .none, h, rfl⟩)
   · have hdd : decide (0 ≤ findI l k) = true := decide_eq_true (by omega)
     rw [hdd]
     simp only [if_neg hf]
     refine jr (h := ?_)
     refine jn (h := ?_)
     refine jr (h := ?_)
     refine jcs (Fr := [GL]) (hs := hwr) (hp := (perm4 _ _ _ _ _)) (hk := ?_) (hpan := (by rintro x Δ' ⟨e, D1, h, _⟩; cases h))
     rintro x _ ⟨er, D1, hx, he1, hO1, rfl⟩
     cases hx
     refine J_perm (perm4 _ _ _ _ _).symm ?_
     by_cases hC : C = 0
     · subst hC
       obtain rfl := iserr_zero he1
       refine jr (h := ?_)
       refine jn (h := ?_)
       refine jr (h := ?_)
       refine jret Tryz.func83 (h := ⟨_, D1, rfl, .none, hO1, rfl⟩)
     · obtain ⟨te, ve, rfl⟩ := iserr_ne he1 hC
       have hCC : decide (C = 0) = false := decide_eq_false hC
       rw [hCC]
       refine jr (h := ?_)
       refine jt (h := ?_)
       refine jr (h := ?_)
       refine jcs (Δ1 := []) (Fr := _ :: _ :: _ :: _ :: D1) (hs := (wrapS_ok _ _ he1)) (hp := (List.Perm.refl _)) (hk := ?_) (hpan := (by rintro x Δ' ⟨⟨e, h, _⟩, _⟩; cases h))
       rintro z _ ⟨⟨er2, hx, he2⟩, rfl⟩
       cases hx
       refine jr (h := ?_)
       refine jret Tryz.func83 (h := ⟨_, D1, rfl, he2, hO1, rfl⟩)
end
section
theorem permA (x a b : HP) (c : List HP) : (x :: a :: b :: c).Perm ((a :: c) ++ [x, b]) :=
 (List.Perm.swap _ _ _).trans (List.Perm.cons a (List.perm_append_comm (l₁ := [x, b]) (l₂ := c)))
theorem permB (x a b c g : HP) (D : List HP) : (x :: a :: b :: c :: g :: D).Perm ((a :: b :: c :: D) ++ [x, g]) :=
 (List.perm_middle (l₁ := [a, b, c])).symm.trans (((List.perm_append_comm (l₁ := [x, g]) (l₂ := D)).cons c).cons b |>.cons a)
def setS (s : Fl) (n : Int) (base : Int) (i : Nat) (x : Entry) (fs : List BF) : List Entry × Int × Fl × Int × List BF :=
 if s.down = true then ([], 11, s, n, fs) else if (insE (pgE s (base + i)) x).1 ≠ 0 then ([], (insE (pgE s (base + i)) x).1, s, n, fs)
 else (if (wrS s n base i (insE (pgE s (base + i)) x).2.1 fs).1 = 0 then (insE (pgE s (base + i)) x).2.2 else [], wrS s n base i (insE (pgE s (base + i)) x).2.1 fs)
theorem insE_w {l : List Entry} {x : Entry} (hw : ∀ y ∈ l, EntW y) : (∀ y ∈ (insE l x).2.1, EntW y) ∧ (insE l x).2.1.length ≤ l.length + 1 := by
 unfold insE
 split
 · simp
 · rename_i hc
   have hx : EntW x := (entW_iff x).1 (by false_or_by_contra; rename_i h; exact hc h)
   split
   · simp
   · have := rmE_len l x.key
     refine ⟨fun y hy => ?_, ?_⟩
     · have hm := List.mem_of_mem_drop hy
       rcases List.mem_append.1 hm with h | h
       · exact hw y (rmE_mem h)
       · rw [List.mem_singleton.1 h]; exact hx
     · simp only [List.length_drop, List.length_append, List.length_cons, List.length_nil]; omega
theorem sset_ok {sm t f fb N i : Nat} {n base : Int} {s : Fl} {D : List HP} {fs : List BF} {x : Entry} (hk : x.key.length < 2 ^ 62) (h : OwnF f s D) (hw : s.WF) (hw2 : ∀ at_ b, (tputS s n at_ 1 b).WF) (hn : n < 4611686018427387904) (hb : 0 ≤ base ∧ base ≤ 4096) (hN : fs.length = N) (hi : slotE (hash64 x.key) N = i) (h0 : 0 < N) (hNN : N ≤ 4096) (hne : sm ≠ fb) (hsm : sm ≠ t) (hfb : fb ≠ t) :
   ACalls Tryz.prog 42 [ptr sm, x.av] (smB sm t base fb N :: smF fb fs :: tbox t f n :: GL :: D)
     (fun r D' => ∃ e D1, r = .ret (.tup [.sl 5 (ents (setS s n base i x fs).1), e]) ∧ IsErr e (setS s n base i x fs).2.1 ∧ OwnF f (setS s n base i x fs).2.2.1 D1 ∧
       D' = smB sm t base fb N :: smF fb (setS s n base i x fs).2.2.2.2 :: tbox t f (setS s n base i x fs).2.2.2.1 :: GL :: D1) := by
 have hlt : i < N := hi ▸ slotE_lt h0
 have hs := sbucket_ok (sm := sm) (t := t) (fb := fb) (base := base) hk h0 hNN
 rw [hi] at hs
 have hs2 := fun bx => hs.around (Δ := bx :: smB sm t base fb N :: smF fb fs :: tbox t f n :: GL :: D) (Fr := bx :: smF fb fs :: tbox t f n :: GL :: D) (List.Perm.swap _ _ _)
 have hpg := page_ok (sm := sm) (t := t) (n := n) (base := base) (fb := fb) (N := N) h hw i hb (by omega)
 have hpw := pgE_w hw (base + i)
 have hiw := insE_w (x := x) hpw.1
 have hwr := swriteG_ok (sm := sm) (t := t) (fb := fb) (fs := fs) (l := (insE (pgE s (base + i)) x).2.1) h hw hw2 hn hb hN hlt hNN hne hsm hfb hiw.1 (by omega)
 have hins := insert_ok (pgE s (base + i)) x hpw.1 (by omega)
 unfold setS
 generalize wrS s n base i (insE (pgE s (base + i)) x).2.1 fs = W at *
 generalize insE (pgE s (base + i)) x = I at *
 generalize pgE s (base + i) = l at *
 obtain ⟨C, S, n2, fs2⟩ := W
 obtain ⟨ic, il, ig⟩ := I
 simp only at *
 clear hs hi hiw
 refine calls_of_J cl_42 Tryz.func42 rfl (by simp [Tryz.ntmps42]) ?_
 refine jr (own := [3]) (h := ?_)
 refine jnb (hh := fun b3 hb3 => ?_)
 simp only [fresh, fresh_GL] at hb3
 refine jf hb3 (h := ?_)
 refine jcr (hs := (hs2 _)) (hk := ?_)
 refine jr (h := ?_)
 refine jcs (Fr := [_, smF fb fs]) (hs := hpg) (hp := (permA _ _ _ _)) (hk := ?_) (hpan := (by rintro x Δ' ⟨⟨e, h, _⟩, _⟩; cases h))
 rintro y _ ⟨⟨er, hx, he⟩, rfl⟩
 cases hx
 refine J_perm (permA _ _ _ _).symm ?_
 by_cases hd : s.down = true
 · rw [if_pos hd] at he
   simp only [if_pos hd]
   obtain ⟨te, ve, rfl⟩ := iserr_ne he (by decide)
   refine jr (h := ?_)
   refine jt (h := ?_)
   refine jr (h := ?_)
   refine jcs (Δ1 := []) (Fr := _ :: _ :: _ :: _ :: _ :: D) (hs := (wrapS_ok _ _ he)) (hp := (List.Perm.refl _)) (hk := ?_) (hpan := (by rintro x Δ' ⟨⟨e, h, _⟩, _⟩; cases h))
   rintro z _ ⟨⟨er2, hx, he2⟩, rfl⟩
   cases hx
   refine jr (h := ?_)
   refine J_wk (t := 4) (by simp only [go_sem]) (nil_le_sl (s := 5)) ?_
   refine J_forgetP ?_
   refine jret Tryz.func42 (h := ⟨[_], _, List.Perm.refl _, _, D, rfl, he2, h, rfl⟩)
 · rw [if_neg hd] at he
   simp only [if_neg hd]
   obtain rfl := iserr_zero he
   refine jr (h := ?_)
   refine jn (h := ?_)
   refine jf hb3 (h := ?_)
   refine jcs (Δ1 := []) (Fr := _ :: _ :: _ :: _ :: _ :: D) (hs := hins) (hp := (List.Perm.refl _)) (hk := ?_) (hpan := (by rintro x Δ' ⟨⟨e, h, _⟩, _⟩; cases h))
   rintro z _ ⟨⟨er2, hx, he2⟩, rfl⟩
   cases hx
   by_cases hf : ic ≠ 0
   · obtain ⟨te, ve, rfl⟩ := iserr_ne he2 hf
     simp only [if_pos hf]
     refine jr (h := ?_)
     refine jt (h := ?_)
     refine jr (h := ?_)
     refine jcs (Δ1 := []) (Fr := _ :: _ :: _ :: _ :: _ :: D) (hs := (wrapS_ok _ _ he2)) (hp := (List.Perm.refl _)) (hk := ?_) (hpan := (by rintro x Δ' ⟨⟨e, h, _⟩, _⟩; cases h))
     rintro z _ ⟨⟨er3, hx, he3⟩, rfl⟩
     cases hx
     refine jr (h := ?_)
     refine J_wk (t := 4) (by simp only [go_sem]) (nil_le_sl (s := 5)) ?_
     refine J_forgetP ?_
     refine jret Tryz.func42 (h := ⟨[_], _, List.Perm.refl _, _, D, rfl, he3, h, rfl⟩)
   · obtain rfl : ic = 0 := by false_or_by_contra; rename_i h; exact hf h
     obtain rfl := iserr_zero he2
     simp only [if_neg hf]
     refine jr (h := ?_)
     refine jn (h := ?_)
     refine jr (h := ?_)
     refine jcs (Fr := [_, GL]) (hs := hwr) (hp := (permB _ _ _ _ _ _)) (hk := ?_) (hpan := (by rintro x Δ' ⟨e, D1, h, _⟩; cases h))
     rintro z _ ⟨er, D1, hx, he1, hO1, rfl⟩
     cases hx
     refine J_perm (permB _ _ _ _ _ _).symm ?_
     by_cases hC : C = 0
     · subst hC
       obtain rfl := iserr_zero he1
       simp only [if_true]
       refine jr (h := ?_)
       refine jn (h := ?_)
       refine jr (h := ?_)
       refine J_forgetP ?_
       refine jret Tryz.func42 (h := ⟨[_], _, List.Perm.refl _, _, D1, rfl, .none, hO1, rfl⟩)
     · obtain ⟨te, ve, rfl⟩ := iserr_ne he1 hC
       simp only [if_neg hC]
       refine jr (h := ?_)
       refine jt (h := ?_)
       refine jr (h := ?_)
       refine jcs (Δ1 := []) (Fr := _ :: _ :: _ :: _ :: _ :: D1) (hs := (wrapS_ok _ _ he1)) (hp := (List.Perm.refl _)) (hk := ?_) (hpan := (by rintro x Δ' ⟨⟨e, h, _⟩, _⟩; cases h))
       rintro z _ ⟨⟨er2, hx, he2⟩, rfl⟩
       cases hx
       refine jr (h := ?_)
       refine J_wk (t := 4) (by simp only [go_sem]) (nil_le_sl (s := 5)) ?_
       refine J_forgetP ?_
       refine jret Tryz.func42 (h := ⟨[_], _, List.Perm.refl _, _, D1, rfl, he2, hO1, rfl⟩)
end
section
def noE : AV := .agg [.c (.string (mkStr [])), .c (.int .i64 0), .c (.int .i64 0), .c (.int .i64 0), .c (.slice none 0 0)]
def gotAV : Option Entry → AV
 | some x => x.av
 | none => noE
theorem permC (x a b : HP) (c : List HP) : (x :: a :: b :: c).Perm ([a, b] ++ (x :: c)) := (List.perm_middle (l₁ := [a, b])).symm
def lkE (l : List Entry) (k : List UInt8) : Option Entry := l.find? fun x => decide (x.key = k)
theorem lkE_none {l : List Entry} {k : List UInt8} (h : findI l k < 0) : lkE l k = none := by
 unfold findI findE at h
 unfold lkE
 rw [List.find?_eq_none]
 cases hq : l.findIdx? (fun x => decide (x.key = k)) with
 | none => rw [List.findIdx?_eq_none_iff] at hq; intro x hx; simp [hq x hx]
 | some i => rw [hq] at h; simp only at h; omega
theorem lkE_some {l : List Entry} {k : List UInt8} (h : ¬ findI l k < 0) : ∃ (j : Nat) (x : Entry), findI l k = j ∧ l[j]? = some x ∧ lkE l k = some x := by
 unfold findI findE at h ⊢
 unfold lkE
 cases hq : l.findIdx? (fun x => decide (x.key = k)) with
 | none => rw [hq] at h; simp only at h; omega
 | some i =>
   obtain ⟨hi, hp, hlt⟩ := List.findIdx?_eq_some_iff_getElem.1 hq
   refine ⟨i, l[i], rfl, List.getElem?_eq_getElem hi, ?_⟩
   rw [List.find?_eq_some_iff_getElem]
   exact ⟨hp, i, hi, rfl, fun j hj => by simpa using hlt j hj⟩
def getS (s : Fl) (base : Int) (i : Nat) (k : List UInt8) (m : Bool) : Option Entry × Int :=
 if m = false then (none, 0) else if s.down = true then (none, 11) else (lkE (pgE s (base + i)) k, 0)
theorem sget_ok {sm t f fb N i : Nat} {n base : Int} {s : Fl} {D : List HP} {fs : List BF} {k : List UInt8} {fl : BF} (hk : k.length < 2 ^ 62) (h : OwnF f s D) (hw : s.WF) (hb : 0 ≤ base ∧ base ≤ 4096) (hN : fs.length = N) (hi : slotE (hash64 k) N = i) (hNN : N ≤ 4096) (hne : sm ≠ fb) (hf : fs[i]? = some fl) (hok : BFok fl) :
   ACalls Tryz.prog 43 [ptr sm, .c (.string (mkStr k))] (smB sm t base fb N :: smF fb fs :: tbox t f n :: GL :: D)
     (fun r D' => (∃ e, r = .ret (.tup [gotAV (getS s base i k (mayF fl (hash64 k))).1, .c (.bool (getS s base i k (mayF fl (hash64 k))).1.isSome), e]) ∧ IsErr e (getS s base i k (mayF fl (hash64 k))).2) ∧
       D' = smB sm t base fb N :: smF fb fs :: tbox t f n :: GL :: D) := by
 have hlt : i < N := by have := (List.getElem?_eq_some_iff.1 hf).1; omega
 have hs := sbucket_ok (sm := sm) (t := t) (fb := fb) (base := base) hk (by omega : 0 < N) hNN
 rw [hi] at hs
 have hs2 := fun bx => hs.around (Δ := bx :: smB sm t base fb N :: smF fb fs :: tbox t f n :: GL :: D) (Fr := bx :: smF fb fs :: tbox t f n :: GL :: D) (List.Perm.swap _ _ _)
 have hm := smay_ok (sm := sm) (t := t) (base := base) hk hN hNN hne hi hf hok
 have hm2 := fun bx => hm.around (Δ := bx :: smB sm t base fb N :: smF fb fs :: tbox t f n :: GL :: D) (Fr := bx :: tbox t f n :: GL :: D) (permC _ _ _ _)
 have hpg := page_ok (sm := sm) (t := t) (n := n) (base := base) (fb := fb) (N := N) h hw i hb (by omega)
 have hpw := pgE_w hw (base + i)
 have hfi := bfind_ok (pgE s (base + i)) k (by omega)
 unfold getS
 clear hs hm hi hf
 generalize mayF fl (hash64 k) = m at *
 generalize pgE s (base + i) = l at *
 refine calls_of_J cl_43 Tryz.func43 rfl (by simp [Tryz.ntmps43]) ?_
 refine jr (own := [4]) (h := ?_)
 refine jnv (hh := fun b4 hb4 => ?_)
 simp only [fresh, fresh_GL] at hb4
 refine jf hb4 (h := ?_)
 refine jcr (hs := (hm2 _)) (hk := ?_)
 refine jr (h := ?_)
 by_cases hmm : m = false
 · subst hmm
   simp only [if_true]
   refine jr (h := ?_)
   refine jt (h := ?_)
   refine jf hb4 (h := ?_)
   refine J_forgetP ?_
   refine jret Tryz.func43 (h := ⟨[_], _, List.Perm.refl _, ⟨_, rfl, .none⟩, rfl⟩)
 · obtain rfl : m = true := by cases m; exact absurd rfl hmm; rfl
   simp only [if_neg hmm]
   refine jr (h := ?_)
   refine jn (h := ?_)
   refine jf hb4 (h := ?_)
   refine jcr (hs := (hs2 _)) (hk := ?_)
   refine jf hb4 (h := ?_)
   refine jcs (Fr := [_, smF fb fs]) (hs := hpg) (hp := (permA _ _ _ _)) (hk := ?_) (hpan := (by rintro x Δ' ⟨⟨e, h, _⟩, _⟩; cases h))
   rintro y _ ⟨⟨er, hx, he⟩, rfl⟩
   cases hx
   refine J_perm (permA _ _ _ _).symm ?_
   by_cases hd : s.down = true
   · rw [if_pos hd] at he
     simp only [if_pos hd]
     obtain ⟨te, ve, rfl⟩ := iserr_ne he (by decide)
     refine jr (h := ?_)
     refine jt (h := ?_)
     refine jf hb4 (h := ?_)
     refine jcr (hs := (hs2 _)) (hk := ?_)
     refine jf hb4 (h := ?_)
     refine jcs (Δ1 := []) (Fr := _ :: _ :: _ :: _ :: _ :: D) (hs := (wrapS_ok _ _ he)) (hp := (List.Perm.refl _)) (hk := ?_) (hpan := (by rintro x Δ' ⟨⟨e, h, _⟩, _⟩; cases h))
     rintro z _ ⟨⟨er2, hx, he2⟩, rfl⟩
     cases hx
     refine jf hb4 (h := ?_)
     refine J_forgetP ?_
     refine jret Tryz.func43 (h := ⟨[_], _, List.Perm.refl _, ⟨_, rfl, he2⟩, rfl⟩)
   · rw [if_neg hd] at he
     simp only [if_neg hd]
     obtain rfl := iserr_zero he
     refine jr (h := ?_)
     refine jn (h := ?_)
     refine jf hb4 (h := ?_)
     refine jc (hs := hfi) (hk := ?_)
     refine jr (h := ?_)
     by_cases hneg : findI l k < 0
     · rw [lkE_none hneg]
       refine jif (h1 := fun _ => ?_) (h2 := fun hc => absurd (by exact hneg) hc)
       refine jf hb4 (h := ?_)
       refine J_forgetP ?_
       refine jret Tryz.func43 (h := ⟨[_], _, List.Perm.refl _, ⟨_, rfl, .none⟩, rfl⟩)
     · obtain ⟨j, x, hj, hx, hl⟩ := lkE_some hneg
       have hlj : j < l.length := (List.getElem?_eq_some_iff.1 hx).1
       have hel := ents_len l
       have heg := ents_get hx
       rw [hl, hj]
       rw [hj] at hneg
       refine jif (h1 := fun hc => absurd hc (by exact hneg)) (h2 := fun _ => ?_)
       refine jf (a3 hb4 heg hel) (h := ?_)
       refine J_forgetP ?_
       refine jret Tryz.func43 (h := ⟨[_], _, List.Perm.refl _, ⟨_, rfl, .none⟩, rfl⟩)
end
end Go.Proofs.YtjppajaoekbkpaaGreatDoor
namespace Go.Proofs.YtjppajaoekbkpaaGreatDoor
open Go Go.Av
attribute [local go_sem] packed List.set_cons_zero List.set_cons_succ List.cons_append List.nil_append bytesRows_length cellRows_len chRows_len rCells intRows_len
attribute [-go_sem] cellsOf AV.isCell
attribute [local go_sem] cellsOf_agg cellsOf_int cellsOf_bool cellsOf_str cellsOf_map cellsOf_ptr cellsOf_nilI cellsOf_slice cellsOf_sl cellsOf_ifc cellsOf_fp cellsOf_opt optAV_cell icell_int icell_bool icell_str icell_map icell_ptr icell_nilI icell_slice icell_sl icell_ifc icell_fp
section
def pgL (b : List UInt8) : List Entry := if getC b = 0 ∧ kdB b = 1 then (bktR (txtB b)).2 else []
theorem pgE_look {s : Fl} (hd : s.down = false) {at_ : Int} (hr : 0 ≤ at_ ∧ at_ < s.pages) : pgE s at_ = pgL (lookB s at_) := by
 have hc : checkF s at_ = 0 := by unfold checkF; rw [hd, if_neg (by simp), if_neg (by omega)]
 have hT : tgetC s at_ 1 = if getC (lookB s at_) ≠ 0 then getC (lookB s at_) else if (kdB (lookB s at_) : Int) ≠ 1 then 12 else 0 := by
   unfold tgetC; rw [hc]; exact if_neg (by simp)
 unfold pgE pgL
 by_cases h1 : getC (lookB s at_) = 0
 · rw [if_neg (by simp [h1])] at hT
   by_cases h2 : kdB (lookB s at_) = 1
   · have h3 : ¬ ((kdB (lookB s at_) : Int) ≠ 1) := by omega
     rw [if_neg h3] at hT
     rw [if_neg (by rw [hT]; simp), if_pos ⟨h1, h2⟩]
   · have h3 : (kdB (lookB s at_) : Int) ≠ 1 := by omega
     rw [if_pos h3] at hT
     rw [if_pos (by rw [hT]; decide), if_neg (fun h => h2 h.2)]
 · rw [if_pos h1] at hT
   rw [if_pos (by rw [hT]; exact h1), if_neg (fun h => h1 h.1)]
structure BkOK (l : List Entry) : Prop where
 w : ∀ y ∈ l, EntW y
 u : uniqE l = true
 r : (allB l).length ≤ 233
theorem pgL_put {n : Nat} {l : List Entry} (h1 : 1 ≤ n ∧ n ≤ 1099511627776) (h : BkOK l) : pgL (putB n 1 (allB l)) = l := by
 unfold pgL
 rw [put_getC _ _ _ h1.1 h1.2 (by decide) (by decide) h.r, put_kd _ _ _ (by decide), put_txt _ _ _ h.r, if_pos ⟨rfl, rfl⟩]
 unfold bktR
 rw [readE_back h.w]
 simp [h.u]
theorem getC_z : getC z256 = 9 := by decide +kernel
theorem pgL_z : pgL z256 = [] := by
 unfold pgL; rw [if_neg (fun h => by rw [getC_z] at h; exact absurd h.1 (by decide))]
theorem BkOK.nil : BkOK [] := ⟨by simp, by decide, by simp [allB]⟩
theorem allB_sub {l m : List Entry} (h : l.Sublist m) : (allB l).length ≤ (allB m).length := by
 unfold allB
 induction h with
 | slnil => simp
 | cons a h ih => simp only [List.flatMap_cons, List.length_append]; omega
 | cons_cons a h ih => simp only [List.flatMap_cons, List.length_append]; omega
theorem BkOK.sub {l m : List Entry} (h : l.Sublist m) (hm : BkOK m) : BkOK l :=
 ⟨fun y hy => hm.w y (h.subset hy), by
   have := hm.u
   unfold uniqE at this ⊢
   rw [decide_eq_true_eq] at this ⊢
   exact List.Sublist.nodup (h.map _) this, Nat.le_trans (allB_sub h) hm.r⟩
theorem rmE_sub (l : List Entry) (k : List UInt8) : (rmE l k).Sublist l := by
 unfold rmE
 split
 · exact List.eraseIdx_sublist _ _
 · exact List.Sublist.refl _
theorem insK_room : ∀ l : List Entry, (allB (l.drop (insK l))).length ≤ 233
 | [] => by simp [insK, allB]
 | x :: l => by
   unfold insK
   split
   · rw [List.drop_succ_cons]; exact insK_room l
   · rename_i h; rw [List.drop_zero]; omega
theorem insK_last {l : List Entry} {x : Entry} (hx : ¬ 233 < (entB x).length) : insK (l ++ [x]) ≤ l.length := by
 induction l with
 | nil => simp only [List.nil_append, insK]; rw [if_neg (by simpa [allB] using hx)]; exact Nat.le_refl _
 | cons y l ih =>
   rw [List.cons_append]
   unfold insK
   split
   · simp only [List.length_cons]; omega
   · exact Nat.zero_le _
theorem rmE_key {l : List Entry} (hu : uniqE l = true) {k : List UInt8} {y : Entry} : y ∈ rmE l k ↔ y ∈ l ∧ y.key ≠ k := by
 rw [rm_but k hu]
 unfold but
 rw [List.mem_filter, decide_eq_true_eq]
structure InsOK (l : List Entry) (x : Entry) : Prop where
 ok : BkOK (insE l x).2.1
 mem : ∃ m, (insE l x).2.1 = m ++ [x]
 sub : ∀ y ∈ (insE l x).2.1, y = x ∨ (y ∈ l ∧ y.key ≠ x.key)
 gone : ∀ y ∈ (insE l x).2.2, y ∈ l ∧ y.key ≠ x.key
 all : ∀ y ∈ l, y.key ≠ x.key → (y ∈ (insE l x).2.1 ∨ y ∈ (insE l x).2.2)
 not : ∀ y ∈ (insE l x).2.1, ∀ z ∈ (insE l x).2.2, y.key ≠ z.key
theorem insE_zero {l : List Entry} {x : Entry} (h : (insE l x).1 = 0) : checkCode x = 0 ∧ ¬ 233 < (entB x).length ∧ insE l x = (0, (rmE l x.key ++ [x]).drop (insK (rmE l x.key ++ [x])), (rmE l x.key ++ [x]).take (insK (rmE l x.key ++ [x]))) := by
 unfold insE at h ⊢
 by_cases h1 : checkCode x ≠ 0
 · rw [if_pos h1] at h; exact absurd h h1
 · rw [if_neg h1] at h ⊢
   by_cases h2 : 233 < (entB x).length
   · rw [if_pos h2] at h; exact absurd h (by decide)
   · rw [if_neg h2] at h ⊢
     exact ⟨Classical.not_not.1 h1, h2, rfl⟩
theorem insE_ok {l : List Entry} {x : Entry} (hl : BkOK l) (h : (insE l x).1 = 0) : InsOK l x := by
 obtain ⟨h1, h2, h3⟩ := insE_zero h
 have hx : EntW x := (entW_iff x).1 h1
 have hk := insK_last (l := rmE l x.key) h2
 have hnd : ((rmE l x.key ++ [x]).map (·.key)).Nodup := by
   rw [List.map_append, List.map_cons, List.map_nil, List.nodup_append]
   refine ⟨?_, by simp, fun a ha b hb e => ?_⟩
   · have := (BkOK.sub (rmE_sub l x.key) hl).u
     unfold uniqE at this
     exact of_decide_eq_true this
   · rw [List.mem_singleton] at hb
     obtain ⟨y, hy, rfl⟩ := List.mem_map.1 ha
     exact ((rmE_key hl.u).1 hy).2 (e.trans hb)
 have hroom := insK_room (rmE l x.key ++ [x])
 have hm : ∀ y, y ∈ rmE l x.key ++ [x] ↔ (y ∈ l ∧ y.key ≠ x.key) ∨ y = x := fun y => by
   rw [List.mem_append, List.mem_singleton, rmE_key hl.u]
 generalize hK : insK (rmE l x.key ++ [x]) = K at *
 have hd : (rmE l x.key ++ [x]).drop K = (rmE l x.key).drop K ++ [x] := by rw [List.drop_append_of_le_length hk]
 have ht : (rmE l x.key ++ [x]).take K = (rmE l x.key).take K := by rw [List.take_append_of_le_length hk]
 have htd := List.take_append_drop K (rmE l x.key ++ [x])
 have e1 : (insE l x).2.1 = (rmE l x.key ++ [x]).drop K := by rw [h3]
 have e2 : (insE l x).2.2 = (rmE l x.key ++ [x]).take K := by rw [h3]
 clear h3
 constructor
 · rw [e1]
   refine ⟨fun y hy => ?_, ?_, hroom⟩
   · rcases (hm y).1 (List.mem_of_mem_drop hy) with h | rfl
     · exact hl.w y h.1
     · exact hx
   · unfold uniqE
     rw [decide_eq_true_eq, List.map_drop]
     exact List.Sublist.nodup (List.drop_sublist _ _) hnd
 · rw [e1]; exact ⟨_, hd⟩
 · intro y hy
   rw [e1] at hy
   rcases (hm y).1 (List.mem_of_mem_drop hy) with h | rfl
   · exact .inr h
   · exact .inl rfl
 · intro y hy
   rw [e2, ht] at hy
   exact (rmE_key hl.u).1 (List.mem_of_mem_take hy)
 · intro y hy hyk
   rw [e1, e2]
   have : y ∈ rmE l x.key ++ [x] := (hm y).2 (.inl ⟨hy, hyk⟩)
   rw [← htd] at this
   rcases List.mem_append.1 this with h | h
   · exact .inr h
   · exact .inl h
 · intro y hy z hz e
   rw [e1] at hy
   rw [e2] at hz
   rw [← htd, List.map_append, List.nodup_append] at hnd
   exact hnd.2.2 z.key (List.mem_map.2 ⟨z, hz, rfl⟩) y.key (List.mem_map.2 ⟨y, hy, rfl⟩) e.symm
theorem lkE_mem {l : List Entry} (hu : uniqE l = true) {y : Entry} (hy : y ∈ l) : lkE l y.key = some y := by
 unfold lkE
 obtain ⟨i, hi, rfl⟩ := List.getElem_of_mem hy
 rw [List.find?_eq_some_iff_getElem]
 refine ⟨by simp, i, hi, rfl, fun j hj => ?_⟩
 have := (uniqE_iff l).1 hu j i (by omega) hi hj
 simpa using this
theorem lkE_not {l : List Entry} {k : List UInt8} (h : ∀ y ∈ l, y.key ≠ k) : lkE l k = none := by
 unfold lkE
 rw [List.find?_eq_none]
 intro y hy
 simpa using h y hy
theorem mayF_mem {l : List Entry} {y : Entry} (hy : y ∈ l) : mayF (ofF (keysE l)) (hash64 y.key) = true := by
 rw [may_same]
 unfold mayR
 rw [List.all_eq_true]
 intro p hp
 rw [decide_eq_true_eq]
 unfold setR
 rw [setR_mem]
 exact .inr ⟨hash64 y.key, List.mem_map.2 ⟨y.key, List.mem_map.2 ⟨y, hy, rfl⟩, rfl⟩, hp⟩
theorem settle_one {sf : List (Int × List UInt8)} (hp : ∀ p ∈ sf, p.2.length = 256) (at_ : Int) {b : List UInt8} (hb : b.length = 256) (hn : blankB b = false) : settleM sf at_ (some b) 256 = updM sf at_ b := by
 have e1 : (min 256 256 : Int).toNat = 256 := rfl
 unfold settleM
 simp only
 rw [if_neg (by omega), e1, List.take_of_length_le (by omega), List.drop_eq_nil_of_le (by
   have : (pageOr sf at_).length = 256 := pageOr_len hp at_
   omega), List.append_nil, hn]
 rfl
theorem firm_any {s : Fl} {n at_ : Int} {kd : Nat} {a : List UInt8} (hpg : ∀ p ∈ s.safe, p.2.length = 256) (hd : s.down = false) (hl : s.loose = []) (hkd : 1 ≤ kd ∧ kd ≤ 5) :
   (tfirmC s n at_ kd a = 0 ∧ (1 ≤ n ∧ n ≤ 1099511627776) ∧ a.length ≤ 233 ∧ tputN s n at_ kd a = n + 1 ∧ ∃ fu dc, (fu < 0 ↔ s.fuse < 0) ∧ (s.fuse < 0 → fu = s.fuse) ∧ tfirmS s n at_ kd a = { s with safe := updM s.safe at_ (putB n.toNat kd a), fuse := fu, done := dc }) ∨
   (tfirmC s n at_ kd a ≠ 0 ∧ tfirmS s n at_ kd a = s ∧ tputN s n at_ kd a = n ∧ ¬ ((1 ≤ n ∧ n ≤ 1099511627776) ∧ a.length ≤ 233 ∧ 0 ≤ at_ ∧ at_ < s.pages)) ∨
   (tfirmC s n at_ kd a = 11 ∧ (tfirmS s n at_ kd a).down = true ∧ 0 ≤ s.fuse) := by
 obtain ⟨pg, sf, lo, fu, dn, dc⟩ := s
 simp only at hpg hd hl
 subst hd hl
 by_cases hck : checkC n kd a.length = 0
 rotate_left
 · right; left
   have hC : tputC ⟨pg, sf, [], fu, false, dc⟩ n at_ kd a = checkC n kd a.length := by unfold tputC; rw [if_pos hck]
   have hN : tputN ⟨pg, sf, [], fu, false, dc⟩ n at_ kd a = n := by unfold tputN; rw [if_neg (by rw [hC]; exact hck)]
   refine ⟨by unfold tfirmC; rw [if_pos (by rw [hC]; exact hck), hC]; exact hck, ?_, hN, fun h => hck ?_⟩
   · unfold tfirmS; rw [if_pos (by rw [hC]; exact hck)]
     unfold tputS; rw [if_pos hck]
   · unfold checkC; rw [if_neg (by omega), if_neg (by omega), if_neg (by omega)]
 obtain ⟨hn, -, hal⟩ := checkC_zero hck
 have hlen := putB_len n.toNat kd a hal
 by_cases hc : checkF ⟨pg, sf, [], fu, false, dc⟩ at_ = 0
 rotate_left
 · right; left
   have hC : tputC ⟨pg, sf, [], fu, false, dc⟩ n at_ kd a = checkF ⟨pg, sf, [], fu, false, dc⟩ at_ := by unfold tputC writeC; rw [if_neg (by simp [hck]), if_pos hc]
   have hN : tputN ⟨pg, sf, [], fu, false, dc⟩ n at_ kd a = n := by unfold tputN; rw [if_neg (by rw [hC]; exact hc)]
   refine ⟨by unfold tfirmC; rw [if_pos (by rw [hC]; exact hc), hC]; exact hc, ?_, hN, fun h => hc ?_⟩
   · unfold tfirmS; rw [if_pos (by rw [hC]; exact hc)]
     unfold tputS writeS; rw [if_neg (by simp [hck]), if_pos (.inl hc)]
   · unfold checkF; rw [if_neg (by simp), if_neg (by simp only at h ⊢; omega)]
 have hC : tputC ⟨pg, sf, [], fu, false, dc⟩ n at_ kd a = changeC ⟨pg, sf, [], fu, false, dc⟩ := by
   unfold tputC writeC; rw [hck, hc]; rfl
 have hS : tputS ⟨pg, sf, [], fu, false, dc⟩ n at_ kd a = burnS ⟨pg, sf, [(at_, some (putB n.toNat kd a))], fu, false, dc⟩ := by
   unfold tputS writeS; rw [if_neg (by rw [hck]; simp), if_neg (by rw [hc]; simp [hlen])]
   rfl
 have hset := settle_one hpg at_ hlen (put_blank n.toNat kd a (by omega) (by omega))
 by_cases hneg : fu < 0
 · have hbu : ∀ lo dc, burnB ⟨pg, sf, lo, fu, false, dc⟩ = false := fun lo dc => by unfold burnB; simp [hneg]
   have hbs : ∀ lo dc, burnS ⟨pg, sf, lo, fu, false, dc⟩ = ⟨pg, sf, lo, fu, false, dc + 1⟩ := fun lo dc => by unfold burnS; rw [if_pos hneg]
   left
   have hC0 : tputC ⟨pg, sf, [], fu, false, dc⟩ n at_ kd a = 0 := by rw [hC]; unfold changeC; rw [hbu]; rfl
   rw [hbs] at hS
   have hfl : flushC ⟨pg, sf, [(at_, some (putB n.toNat kd a))], fu, false, dc + 1⟩ = 0 := by
     unfold flushC; rw [if_neg (by simp), hbu]; rfl
   refine ⟨by unfold tfirmC; rw [if_neg (by simp [hC0]), hS, hfl], hn, hal, by unfold tputN; rw [if_pos hC0], fu, dc + 1 + 1, Iff.rfl, fun _ => rfl, ?_⟩
   unfold tfirmS
   rw [if_neg (by simp [hC0]), hS]
   unfold flushS settleAll
   rw [if_neg (by simp), hbu, if_neg (by simp), hbs]
   simp only [List.foldl_cons, List.foldl_nil]
   rw [hset]
 · by_cases h0 : fu - 1 < 0
   · right; right
     have hbu : ∀ lo dc, burnB ⟨pg, sf, lo, fu, false, dc⟩ = true := fun lo dc => by unfold burnB; simp only; rw [decide_eq_true hneg, decide_eq_true h0]; rfl
     have hC1 : tputC ⟨pg, sf, [], fu, false, dc⟩ n at_ kd a = 11 := by rw [hC]; unfold changeC; rw [hbu]; rfl
     refine ⟨by unfold tfirmC; rw [if_pos (by rw [hC1]; decide), hC1], ?_, by simp only; omega⟩
     unfold tfirmS; rw [if_pos (by rw [hC1]; decide), hS]
     unfold burnS; rw [if_neg hneg]; exact decide_eq_true h0
   · have hbu : ∀ lo dc, burnB ⟨pg, sf, lo, fu, false, dc⟩ = false := fun lo dc => by unfold burnB; simp only; rw [decide_eq_false h0]; simp
     have hC0 : tputC ⟨pg, sf, [], fu, false, dc⟩ n at_ kd a = 0 := by rw [hC]; unfold changeC; rw [hbu]; rfl
     have hbs : ∀ lo dc, burnS ⟨pg, sf, lo, fu, false, dc⟩ = ⟨pg, sf, lo, fu - 1, false, dc + 1⟩ := fun lo dc => by
       unfold burnS; rw [if_neg hneg]; simp only; rw [decide_eq_false h0]
     rw [hbs] at hS
     by_cases h1 : fu - 1 - 1 < 0
     · right; right
       have hbu2 : ∀ lo dc, burnB ⟨pg, sf, lo, fu - 1, false, dc⟩ = true := fun lo dc => by unfold burnB; simp only; rw [decide_eq_true h0, decide_eq_true h1]; rfl
       have hfl : flushC ⟨pg, sf, [(at_, some (putB n.toNat kd a))], fu - 1, false, dc + 1⟩ = 11 := by
         unfold flushC; rw [if_neg (by simp), hbu2]; rfl
       refine ⟨by unfold tfirmC; rw [if_neg (by simp [hC0]), hS, hfl], ?_, by simp only; omega⟩
       unfold tfirmS; rw [if_neg (by simp [hC0]), hS]
       unfold flushS; rw [if_neg (by simp), hbu2, if_pos rfl]
       unfold burnS; rw [if_neg h0]; exact decide_eq_true h1
     · left
       have hbu2 : ∀ lo dc, burnB ⟨pg, sf, lo, fu - 1, false, dc⟩ = false := fun lo dc => by unfold burnB; simp only; rw [decide_eq_false h1]; simp
       have hbs2 : ∀ lo dc, burnS ⟨pg, sf, lo, fu - 1, false, dc⟩ = ⟨pg, sf, lo, fu - 1 - 1, false, dc + 1⟩ := fun lo dc => by
         unfold burnS; rw [if_neg h0]; simp only; rw [decide_eq_false h1]
       have hfl : flushC ⟨pg, sf, [(at_, some (putB n.toNat kd a))], fu - 1, false, dc + 1⟩ = 0 := by
         unfold flushC; rw [if_neg (by simp), hbu2]; rfl
       refine ⟨by unfold tfirmC; rw [if_neg (by simp [hC0]), hS, hfl], hn, hal, by unfold tputN; rw [if_pos hC0], fu - 1 - 1, dc + 1 + 1, by simp only; omega, fun h => absurd h hneg, ?_⟩
       unfold tfirmS
       rw [if_neg (by simp [hC0]), hS]
       unfold flushS settleAll
       rw [if_neg (by simp), hbu2, if_neg (by simp), hbs2]
       simp only [List.foldl_cons, List.foldl_nil]
       rw [hset]
theorem look_free {s : Fl} (h : s.loose = []) (j : Int) : lookB s j = pageOr s.safe j := by
 unfold lookB; rw [h]; rfl
theorem upd_pg (sf : List (Int × List UInt8)) (at_ j : Int) (b : List UInt8) : pageOr (updM sf at_ b) j = if j = at_ then b else pageOr sf j := by
 unfold pageOr
 rw [findM_upd]
 by_cases hj : j = at_
 · rw [if_pos hj.symm, if_pos hj]; rfl
 · rw [if_neg (fun h => hj h.symm), if_neg hj]
end
section
theorem page_del {sf : List (Int × List UInt8)} (hnd : (sf.map (·.1)).Nodup) (at_ j : Int) : pageOr (delM sf at_) j = if j = at_ then z256 else pageOr sf j := by
 unfold pageOr
 rw [findM_del hnd]
 by_cases hj : j = at_
 · rw [if_pos hj.symm, if_pos hj]; rfl
 · rw [if_neg (fun h => hj h.symm), if_neg hj]
def purE (l : List Entry) (h a : Int) : List Entry := l.filter fun x => !(decide (hash64 x.key = h) && decide (x.asof < a))
def purS (s : Fl) (n : Int) (base : Int) (i : Nat) (h a : Int) (fs : List BF) : Int × Int × Fl × Int × List BF :=
 if s.down = true then (0, 11, s, n, fs) else if (purE (pgE s (base + i)) h a).length = (pgE s (base + i)).length then (0, 0, s, n, fs)
 else (if (wrS s n base i (purE (pgE s (base + i)) h a) fs).1 = 0 then ((pgE s (base + i)).length : Int) - (purE (pgE s (base + i)) h a).length else 0, wrS s n base i (purE (pgE s (base + i)) h a) fs)
def trimN (s : Fl) (base : Int) : Nat → Int × Fl
 | 0 => (0, s)
 | k + 1 => if (trimN s base k).1 ≠ 0 then trimN s base k else (trimC (trimN s base k).2 (base + k), trimS (trimN s base k).2 (base + k))
def clearS (s : Fl) (base : Int) (N : Nat) (fs : List BF) : Int × Fl × List BF :=
 if (trimN s base N).1 ≠ 0 then ((trimN s base N).1, (trimN s base N).2, fs)
 else (flushC (trimN s base N).2, flushS (trimN s base N).2, if flushC (trimN s base N).2 = 0 then List.replicate N (0, 0) else fs)
theorem purE_sub (l : List Entry) (h a : Int) : (purE l h a).Sublist l := List.filter_sublist
theorem wr_any {s : Fl} {n : Int} {i : Nat} {l : List Entry} (fs : List BF) (hpg : ∀ p ∈ s.safe, p.2.length = 256) (hd : s.down = false) (hl : s.loose = []) (hp : s.pages = 9) (hi : i < 4) (hw : ∀ y ∈ l, EntW y) (hu : uniqE l = true) :
   ((wrS s n 2 i l fs).1 = 0 ∧ BkOK l ∧ (1 ≤ n ∧ n ≤ 1099511627776) ∧ (wrS s n 2 i l fs).2.2.1 = n + 1 ∧ (wrS s n 2 i l fs).2.2.2 = fs.set i (ofF (keysE l)) ∧ (wrS s n 2 i l fs).2.1.down = false ∧ (wrS s n 2 i l fs).2.1.loose = [] ∧ (wrS s n 2 i l fs).2.1.pages = 9 ∧ (s.fuse < 0 → (wrS s n 2 i l fs).2.1.fuse = s.fuse) ∧
     (∀ j, lookB (wrS s n 2 i l fs).2.1 j = if j = 2 + (i : Int) then putB n.toNat 1 (allB l) else lookB s j) ∧ (∀ j : Nat, j < 4 → pgE (wrS s n 2 i l fs).2.1 (2 + (j : Int)) = if j = i then l else pgE s (2 + (j : Int)))) ∨
   ((wrS s n 2 i l fs).1 ≠ 0 ∧ (wrS s n 2 i l fs).2.1 = s ∧ (wrS s n 2 i l fs).2.2.1 = n ∧ (wrS s n 2 i l fs).2.2.2 = fs ∧ ¬ ((1 ≤ n ∧ n ≤ 1099511627776) ∧ (allB l).length ≤ 233)) ∨
   ((wrS s n 2 i l fs).1 = 11 ∧ (wrS s n 2 i l fs).2.1.down = true ∧ (wrS s n 2 i l fs).2.2.2 = fs ∧ 0 ≤ s.fuse ∧ (wrS s n 2 i l fs).2.1.pages = 9) := by
 unfold wrS
 simp only
 rcases firm_any (n := n) (at_ := 2 + (i : Int)) (kd := 1) (a := allB l) hpg hd hl (by decide) with ⟨h1, h2, h3, h4, fu, dc, h5, h5', h6⟩ | ⟨h1, h2, h3, h4⟩ | ⟨h1, h2, h3⟩
 · left
   replace h1 : tfirmC s n (2 + (i : Int)) 1 (allB l) = 0 := h1
   replace h4 : tputN s n (2 + (i : Int)) 1 (allB l) = n + 1 := h4
   replace h6 : tfirmS s n (2 + (i : Int)) 1 (allB l) = { s with safe := updM s.safe (2 + (i : Int)) (putB n.toNat 1 (allB l)), fuse := fu, done := dc } := h6
   have hb : BkOK l := ⟨hw, hu, h3⟩
   have hlk : ∀ j, lookB { s with safe := updM s.safe (2 + (i : Int)) (putB n.toNat 1 (allB l)), fuse := fu, done := dc } j = if j = 2 + (i : Int) then putB n.toNat 1 (allB l) else lookB s j := fun j => by
     rw [look_free (s := s) hl, look_free (s := { s with safe := updM s.safe (2 + (i : Int)) (putB n.toNat 1 (allB l)), fuse := fu, done := dc }) hl]
     exact upd_pg _ _ _ _
   rw [h1, h4, h6, if_pos rfl]
   refine ⟨rfl, hb, h2, rfl, rfl, hd, hl, hp, h5', hlk, fun j hj => ?_⟩
   rw [pgE_look (s := { s with safe := updM s.safe (2 + (i : Int)) (putB n.toNat 1 (allB l)), fuse := fu, done := dc }) hd (by show 0 ≤ 2 + (j : Int) ∧ 2 + (j : Int) < s.pages; omega), hlk, pgE_look hd (by omega)]
   by_cases hji : j = i
   · subst hji
     rw [if_pos rfl, if_pos rfl, pgL_put (by omega) hb]
   · rw [if_neg (by omega), if_neg hji]
 · right; left
   replace h1 : tfirmC s n (2 + (i : Int)) 1 (allB l) ≠ 0 := h1
   replace h2 : tfirmS s n (2 + (i : Int)) 1 (allB l) = s := h2
   replace h3 : tputN s n (2 + (i : Int)) 1 (allB l) = n := h3
   rw [h2, h3, if_neg h1]
   exact ⟨h1, rfl, rfl, rfl, fun h => h4 ⟨h.1, h.2, by omega, by omega⟩⟩
 · right; right
   replace h1 : tfirmC s n (2 + (i : Int)) 1 (allB l) = 11 := h1
   refine ⟨h1, h2, by rw [h1]; rfl, h3, (?_ : (tfirmS s n (2 + (i : Int)) 1 (allB l)).pages = 9)⟩
   have e1 : ∀ (s : Fl) (n at_ kd : Int) (b : List UInt8), (tputS s n at_ kd b).pages = s.pages := fun s n at_ kd b => by
     unfold tputS; split; (· rfl); (· exact writeS_pages _ _ _)
   have e2 : ∀ s : Fl, (flushS s).pages = s.pages := fun s => by
     unfold flushS
     split
     · rfl
     · split
       · exact burnS_pages s
       · exact burnS_pages s
   unfold tfirmS
   split
   · rw [e1]; exact hp
   · rw [e2, e1]; exact hp
structure SI (s : Fl) (fs : List BF) : Prop where
 p : s.pages = 9
 l4 : fs.length = 4
 ok : ∀ f ∈ fs, BFok f
 lo : s.down = false → s.loose = []
 fl : s.down = false → ∀ i : Nat, i < 4 → fs[i]? = some (ofF (keysE (pgE s (2 + (i : Int)))))
theorem SI.wr {s : Fl} {fs : List BF} (h : SI s fs) (hpg : ∀ p ∈ s.safe, p.2.length = 256) (hd : s.down = false) (n : Int) {i : Nat} (hi : i < 4) {l : List Entry} (hw : ∀ y ∈ l, EntW y) (hu : uniqE l = true) : SI (wrS s n 2 i l fs).2.1 (wrS s n 2 i l fs).2.2.2 := by
 rcases wr_any (n := n) fs hpg hd (h.lo hd) h.p hi hw hu with ⟨h1, h2, h3, h4, h5, h6, h7, h8, h9, ha, hb⟩ | ⟨h1, h2, h3, h4, h5⟩ | ⟨h1, h2, h3, h4, h5⟩
 · rw [h5]
   refine ⟨h8, by rw [List.length_set]; exact h.l4, fun f hf => ?_, fun _ => h7, fun _ j hj => ?_⟩
   · rcases List.mem_or_eq_of_mem_set hf with hf | rfl
     · exact h.ok f hf
     · exact ofF_ok _
   · rw [hb j hj, List.getElem?_set]
     by_cases hji : i = j
     · subst hji; rw [if_pos rfl, if_pos rfl, if_pos (by rw [h.l4]; exact hj)]
     · rw [if_neg hji, if_neg (fun e => hji e.symm)]; exact h.fl hd j hj
 · rw [h2, h4]; exact h
 · rw [h3]
   exact ⟨h5, h.l4, h.ok, fun e => (Bool.eq_false_iff.1 e h2).elim, fun e => (Bool.eq_false_iff.1 e h2).elim⟩
theorem insE_u {l : List Entry} {x : Entry} (hu : uniqE l = true) : uniqE (insE l x).2.1 = true := by
 by_cases h : (insE l x).1 = 0
 · obtain ⟨h1, h2, h3⟩ := insE_zero h
   rw [h3]
   unfold uniqE at hu ⊢
   rw [decide_eq_true_eq] at hu ⊢
   rw [List.map_drop]
   refine List.Sublist.nodup (List.drop_sublist _ _) ?_
   rw [List.map_append, List.map_cons, List.map_nil, List.nodup_append]
   refine ⟨List.Sublist.nodup ((rmE_sub l x.key).map _) hu, by simp, fun a ha b hb e => ?_⟩
   rw [List.mem_singleton] at hb
   obtain ⟨y, hy, rfl⟩ := List.mem_map.1 ha
   exact ((rmE_key (by unfold uniqE; exact decide_eq_true hu)).1 hy).2 (e.trans hb)
 · have : (insE l x).2.1 = [] := by
     unfold insE at h ⊢
     split
     · rfl
     · split
       · rfl
       · rename_i h1 h2; rw [if_neg h1, if_neg h2] at h; exact absurd rfl h
   rw [this]; decide
theorem uniq_sub {l m : List Entry} (h : l.Sublist m) (hm : uniqE m = true) : uniqE l = true := by
 unfold uniqE at hm ⊢
 rw [decide_eq_true_eq] at hm ⊢
 exact List.Sublist.nodup (h.map _) hm
theorem SI.set {s : Fl} {fs : List BF} (h : SI s fs) (hw : s.WF) (n : Int) {i : Nat} (hi : i < 4) (x : Entry) : SI (setS s n 2 i x fs).2.2.1 (setS s n 2 i x fs).2.2.2.2 := by
 have hpw := pgE_w hw (2 + (i : Int))
 unfold setS
 by_cases hd : s.down = true
 · rw [if_pos hd]; exact h
 · rw [if_neg hd]
   split
   · exact h
   · exact h.wr hw.page (by simpa using hd) n hi (insE_w hpw.1).1 (insE_u hpw.2.2)
theorem SI.rm {s : Fl} {fs : List BF} (h : SI s fs) (hw : s.WF) (n : Int) {i : Nat} (hi : i < 4) (k : List UInt8) : SI (rmS s n 2 i k fs).2.2.1 (rmS s n 2 i k fs).2.2.2.2 := by
 have hpw := pgE_w hw (2 + (i : Int))
 unfold rmS
 by_cases hd : s.down = true
 · rw [if_pos hd]; exact h
 · rw [if_neg hd]
   split
   · exact h
   · exact h.wr hw.page (by simpa using hd) n hi (fun y hy => hpw.1 y (rmE_mem hy)) (uniq_sub (rmE_sub _ _) hpw.2.2)
theorem SI.pur {s : Fl} {fs : List BF} (h : SI s fs) (hw : s.WF) (n : Int) {i : Nat} (hi : i < 4) (hh a : Int) : SI (purS s n 2 i hh a fs).2.2.1 (purS s n 2 i hh a fs).2.2.2.2 := by
 have hpw := pgE_w hw (2 + (i : Int))
 unfold purS
 by_cases hd : s.down = true
 · rw [if_pos hd]; exact h
 · rw [if_neg hd]
   split
   · exact h
   · exact h.wr hw.page (by simpa using hd) n hi (fun y hy => hpw.1 y ((purE_sub _ _ _).subset hy)) (uniq_sub (purE_sub _ _ _) hpw.2.2)
theorem SI.fuse {s : Fl} {fs : List BF} (h : SI s fs) (k : Int) : SI (fuseS s k) fs := ⟨h.p, h.l4, h.ok, h.lo, h.fl⟩
theorem trimN_any {s : Fl} (hd : s.down = false) (hl : s.loose = []) (hp : s.pages = 9) : ∀ k, k ≤ 4 →
   ((trimN s 2 k).1 = 0 ∧ (trimN s 2 k).2.down = false ∧ (trimN s 2 k).2.safe = s.safe ∧ (trimN s 2 k).2.pages = 9 ∧ (s.fuse < 0 → (trimN s 2 k).2.fuse = s.fuse) ∧ (trimN s 2 k).2.loose = (List.range k).map fun i : Nat => (2 + (i : Int), none)) ∨
   ((trimN s 2 k).1 = 11 ∧ (trimN s 2 k).2.down = true ∧ 0 ≤ s.fuse ∧ (trimN s 2 k).2.pages = 9)
 | 0, _ => .inl ⟨rfl, hd, rfl, hp, fun _ => rfl, hl⟩
 | k + 1, hk => by
   have ih := trimN_any hd hl hp k (by omega)
   unfold trimN
   rcases ih with ⟨h1, h2, h3, h4, h5, h6⟩ | ⟨h1, h2, h3, h4⟩
   · rw [if_neg (by simp [h1])]
     generalize (trimN s 2 k).2 = u at *
     have hc : checkF u (2 + (k : Int)) = 0 := by unfold checkF; rw [h2, if_neg (by simp), if_neg (by omega)]
     have hC : trimC u (2 + (k : Int)) = changeC u := by unfold trimC; rw [if_neg (by simp [hc])]
     have hS : trimS u (2 + (k : Int)) = changeS u (2 + (k : Int)) none := by unfold trimS; rw [if_neg (by simp [hc])]
     simp only [hC, hS]
     have hr : (List.range (k + 1)).map (fun i : Nat => (2 + (i : Int), (none : Option (List UInt8)))) = u.loose ++ [(2 + (k : Int), none)] := by
       rw [List.range_succ, List.map_append, h6]; rfl
     rw [hr]
     obtain ⟨pg, sf, lo, fu, dn, dc⟩ := u
     simp only at h2 h3 h4 h5
     subst h2
     unfold changeC changeS burnB burnS
     simp only
     by_cases hneg : fu < 0
     · left
       rw [if_pos hneg, decide_eq_false (by omega : ¬ ¬ fu < 0)]
       exact ⟨rfl, rfl, h3, h4, h5, rfl⟩
     · rw [if_neg hneg, decide_eq_true hneg, Bool.true_and]
       by_cases h0 : fu - 1 < 0
       · right
         rw [decide_eq_true h0]
         exact ⟨rfl, rfl, by false_or_by_contra; rename_i hq; have := h5 (by omega); omega, h4⟩
       · left
         rw [decide_eq_false h0]
         exact ⟨rfl, rfl, h3, h4, fun hq => by have := h5 hq; omega, rfl⟩
   · right
     rw [if_pos (by rw [h1]; decide)]
     exact ⟨h1, h2, h3, h4⟩
theorem del_all : ∀ (k : Nat) {sf : List (Int × List UInt8)}, pagesOK sf → (pagesOK (settleAll sf ((List.range k).map fun i : Nat => (2 + (i : Int), none)))) ∧ ∀ j, pageOr (settleAll sf ((List.range k).map fun i : Nat => (2 + (i : Int), none))) j = if 2 ≤ j ∧ j < 2 + (k : Int) then z256 else pageOr sf j
 | 0, sf, h => ⟨h, fun j => by rw [if_neg (by omega)]; rfl⟩
 | k + 1, sf, h => by
   obtain ⟨h1, h2⟩ := del_all k h
   have e : settleAll sf ((List.range (k + 1)).map fun i : Nat => (2 + (i : Int), none)) = delM (settleAll sf ((List.range k).map fun i : Nat => (2 + (i : Int), none))) (2 + (k : Int)) := by
     unfold settleAll
     rw [List.range_succ, List.map_append, List.foldl_append]
     rfl
   rw [e]
   refine ⟨settle_pages (o := none) (keep := 256) h1 (by simp), fun j => ?_⟩
   rw [page_del h1.1, h2]
   by_cases hj : j = 2 + (k : Int)
   · rw [if_pos hj, if_pos (by omega)]
   · rw [if_neg hj]
     by_cases hj2 : 2 ≤ j ∧ j < 2 + (k : Int)
     · rw [if_pos hj2, if_pos (by omega)]
     · rw [if_neg hj2, if_neg (by omega)]
theorem clear_any {s : Fl} (fs : List BF) (hpg : pagesOK s.safe) (hd : s.down = false) (hl : s.loose = []) (hp : s.pages = 9) :
   ((clearS s 2 4 fs).1 = 0 ∧ (clearS s 2 4 fs).2.2 = List.replicate 4 (0, 0) ∧ (clearS s 2 4 fs).2.1.down = false ∧ (clearS s 2 4 fs).2.1.loose = [] ∧ (clearS s 2 4 fs).2.1.pages = 9 ∧ (s.fuse < 0 → (clearS s 2 4 fs).2.1.fuse = s.fuse) ∧ (∀ j, lookB (clearS s 2 4 fs).2.1 j = if 2 ≤ j ∧ j < 6 then z256 else lookB s j)) ∨
   ((clearS s 2 4 fs).1 = 11 ∧ (clearS s 2 4 fs).2.2 = fs ∧ (clearS s 2 4 fs).2.1.down = true ∧ 0 ≤ s.fuse ∧ (clearS s 2 4 fs).2.1.pages = 9) := by
 unfold clearS
 rcases trimN_any hd hl hp 4 (by decide) with ⟨h1, h2, h3, h4, h5, h6⟩ | ⟨h1, h2, h3, h4⟩
 · rw [if_neg (by simp [h1])]
   have hdel := (del_all 4 hpg).2
   rw [← h3, ← h6] at hdel
   have hls := look_free hl
   rw [← h3] at hls
   clear h1 h6
   generalize (trimN s 2 4).2 = u at *
   obtain ⟨pg, sf, lo, fu, dn, dc⟩ := u
   simp only at h2 h3 h4 h5 hdel hls ⊢
   subst h2
   unfold flushC flushS burnB burnS
   simp only [Bool.false_eq_true, if_false]
   by_cases hneg : fu < 0
   · left
     rw [if_pos hneg, decide_eq_false (by omega : ¬ ¬ fu < 0)]
     refine ⟨rfl, rfl, rfl, rfl, h4, h5, fun j => ?_⟩
     rw [look_free rfl, hls]
     exact hdel j
   · rw [if_neg hneg, decide_eq_true hneg, Bool.true_and]
     by_cases h0 : fu - 1 < 0
     · right
       rw [decide_eq_true h0]
       exact ⟨rfl, rfl, rfl, by false_or_by_contra; rename_i hq; have := h5 (by omega); omega, h4⟩
     · left
       rw [decide_eq_false h0]
       refine ⟨rfl, rfl, rfl, rfl, h4, fun hq => by have := h5 hq; omega, fun j => ?_⟩
       rw [look_free rfl, hls]
       exact hdel j
 · right
   rw [if_pos (by rw [h1]; decide)]
   exact ⟨h1, rfl, h2, h3, h4⟩
theorem trimN_down {s : Fl} (hd : s.down = true) (base : Int) : ∀ k, 0 < k → trimN s base k = (11, s)
 | 0, h => absurd h (by decide)
 | 1, _ => by
   unfold trimN trimN trimC trimS checkF
   simp [hd]
 | k + 2, _ => by
   have ih := trimN_down hd base (k + 1) (by omega)
   unfold trimN
   rw [ih, if_pos (by simp)]
theorem clear_down {s : Fl} (fs : List BF) (hd : s.down = true) : clearS s 2 4 fs = (11, s, fs) := by
 unfold clearS
 rw [trimN_down hd 2 4 (by decide), if_pos (by simp)]
theorem SI.clear {s : Fl} {fs : List BF} (h : SI s fs) (hw : s.WF) : SI (clearS s 2 4 fs).2.1 (clearS s 2 4 fs).2.2 := by
 by_cases hd : s.down = true
 · rw [clear_down fs hd]; exact h
 · have hd : s.down = false := by simpa using hd
   rcases clear_any fs ⟨hw.nodup, hw.page⟩ hd (h.lo hd) h.p with ⟨h1, h2, h3, h4, h5, h6, h7⟩ | ⟨h1, h2, h3, h4, h5⟩
   · rw [h2]
     refine ⟨h5, rfl, fun f hf => ?_, fun _ => h4, fun _ i hi => ?_⟩
     · rw [List.eq_of_mem_replicate hf]; exact ⟨by decide, by decide⟩
     · rw [pgE_look h3 (by omega), h7, if_pos (by omega), pgL_z, List.getElem?_replicate, if_pos hi]
       rfl
   · rw [h2]
     exact ⟨h5, h.l4, h.ok, fun e => (Bool.eq_false_iff.1 e h3).elim, fun e => (Bool.eq_false_iff.1 e h3).elim⟩
def openFs (s : Fl) (base : Int) (N : Nat) : List BF := (List.range N).map fun i : Nat => ofF (keysE (pgE s (base + (i : Int))))
theorem SI.open {s : Fl} (hp : s.pages = 9) (hl : s.loose = []) : SI s (openFs s 2 4) := by
 refine ⟨hp, by simp [openFs], fun f hf => ?_, fun _ => hl, fun _ i hi => ?_⟩
 · obtain ⟨i, -, rfl⟩ := List.mem_map.1 hf; exact ofF_ok _
 · unfold openFs
   rw [List.getElem?_map, List.getElem?_range hi]
   rfl
end
end Go.Proofs.YtjppajaoekbkpaaGreatDoor
