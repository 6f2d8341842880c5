/- A part of the proof: what the calls do, told by values. -/
import Derived.Test.YtdnhcpbammfmlaaGreatDoorA4
import Derived.Test.YtdnhcpbammfmlaaGreatDoorA3
import Derived.MapKept
import Derived.Test.YtdnhcpbammfmlaaGreatDoorA2
set_option linter.unusedVariables false
set_option linter.unusedSimpArgs false
namespace Go.Av
open Go
section
theorem u32_wrap (n : Int) : IntKind.u32.wrap n = n % 4294967296 := by simp [IntKind.wrap, IntKind.signed, IntKind.bits]
theorem u8_wrap (n : Int) : IntKind.u8.wrap n = n % 256 := by simp [IntKind.wrap, IntKind.signed, IntKind.bits]
theorem ofInt32 (a : UInt32) : BitVec.ofInt IntKind.u32.bits (a.toNat : Int) = a.toBitVec := by
 show BitVec.ofInt 32 _ = _
 rw [BitVec.ofInt_natCast]; simp
theorem ofInt8 (a : UInt8) : BitVec.ofInt IntKind.u8.bits (a.toNat : Int) = a.toBitVec := by
 show BitVec.ofInt 8 _ = _
 rw [BitVec.ofInt_natCast]; simp
theorem ofInt64 (a : UInt64) : BitVec.ofInt IntKind.u64.bits (a.toNat : Int) = a.toBitVec := by
 show BitVec.ofInt 64 _ = _
 rw [BitVec.ofInt_natCast]; simp
theorem wrap32 (a : UInt32) : IntKind.u32.wrap (a.toNat : Int) = a.toNat := by rw [u32_wrap]; have := a.toNat_lt; omega
theorem wrap8 (a : UInt8) : IntKind.u8.wrap (a.toNat : Int) = a.toNat := by rw [u8_wrap]; have := a.toNat_lt; omega
theorem wrap64 (a : UInt64) : IntKind.u64.wrap (a.toNat : Int) = a.toNat := by rw [u64_wrap]; have := a.toNat_lt; omega
@[go_sem high] theorem and32 (a b : UInt32) : aint .and .u32 (a.toNat : Int) (b.toNat : Int) = some (.c (.int .u32 ((a &&& b).toNat : Int))) := by
 show some (AV.c (.int .u32 (IntKind.u32.wrap ((BitVec.ofInt IntKind.u32.bits (a.toNat : Int) &&& BitVec.ofInt IntKind.u32.bits (b.toNat : Int)).toNat : Int)))) = _
 rw [ofInt32, ofInt32]; exact congrArg _ (congrArg _ (congrArg _ (wrap32 (a &&& b))))
@[go_sem high] theorem xor32 (a b : UInt32) : aint .xor .u32 (a.toNat : Int) (b.toNat : Int) = some (.c (.int .u32 ((a ^^^ b).toNat : Int))) := by
 show some (AV.c (.int .u32 (IntKind.u32.wrap ((BitVec.ofInt IntKind.u32.bits (a.toNat : Int) ^^^ BitVec.ofInt IntKind.u32.bits (b.toNat : Int)).toNat : Int)))) = _
 rw [ofInt32, ofInt32]; exact congrArg _ (congrArg _ (congrArg _ (wrap32 (a ^^^ b))))
@[go_sem high] theorem xor8 (a b : UInt8) : aint .xor .u8 (a.toNat : Int) (b.toNat : Int) = some (.c (.int .u8 ((a ^^^ b).toNat : Int))) := by
 show some (AV.c (.int .u8 (IntKind.u8.wrap ((BitVec.ofInt IntKind.u8.bits (a.toNat : Int) ^^^ BitVec.ofInt IntKind.u8.bits (b.toNat : Int)).toNat : Int)))) = _
 rw [ofInt8, ofInt8]; exact congrArg _ (congrArg _ (congrArg _ (wrap8 (a ^^^ b))))
@[go_sem high] theorem or64 (a b : UInt64) : aint .or .u64 (a.toNat : Int) (b.toNat : Int) = some (.c (.int .u64 ((a ||| b).toNat : Int))) := by
 show some (AV.c (.int .u64 (IntKind.u64.wrap ((BitVec.ofInt IntKind.u64.bits (a.toNat : Int) ||| BitVec.ofInt IntKind.u64.bits (b.toNat : Int)).toNat : Int)))) = _
 rw [ofInt64, ofInt64]; exact congrArg _ (congrArg _ (congrArg _ (wrap64 (a ||| b))))
@[go_sem high] theorem not32 (a : UInt32) : aunary .xor (.c (.int .u32 (a.toNat : Int))) = some (.c (.int .u32 ((~~~ a).toNat : Int))) := by
 have h : aunary .xor (.c (.int .u32 (a.toNat : Int))) = aint .xor .u32 (((0xffffffff : UInt32).toNat : Nat) : Int) (a.toNat : Int) := rfl
 rw [h, xor32]
 congr 4
@[go_sem high] theorem shr32_1 (a : UInt32) : ashift .shr .u32 (a.toNat : Int) 1 = some (.c (.int .u32 ((a >>> 1).toNat : Int))) := by
 unfold ashift
 rw [if_neg (by decide)]
 congr 3
 rw [Int.fdiv_eq_ediv_of_nonneg _ (by decide)]
 have : (a >>> 1).toNat = a.toNat / 2 := by rw [UInt32.toNat_shiftRight]; rfl
 rw [this]; rfl
@[go_sem high] theorem shr32_8 (a : UInt32) : ashift .shr .u32 (a.toNat : Int) 8 = some (.c (.int .u32 ((a >>> 8).toNat : Int))) := by
 unfold ashift
 rw [if_neg (by decide)]
 congr 3
 rw [Int.fdiv_eq_ediv_of_nonneg _ (by decide)]
 have : (a >>> 8).toNat = a.toNat / 256 := by rw [UInt32.toNat_shiftRight]; exact Nat.shiftRight_eq_div_pow _ 8
 rw [this]; rfl
@[go_sem high] theorem shr32_16 (a : UInt32) : ashift .shr .u32 (a.toNat : Int) 16 = some (.c (.int .u32 ((a >>> 16).toNat : Int))) := by
 unfold ashift
 rw [if_neg (by decide)]
 congr 3
 rw [Int.fdiv_eq_ediv_of_nonneg _ (by decide)]
 have : (a >>> 16).toNat = a.toNat / 65536 := by rw [UInt32.toNat_shiftRight]; exact Nat.shiftRight_eq_div_pow _ 16
 rw [this]; rfl
@[go_sem high] theorem shr32_24 (a : UInt32) : ashift .shr .u32 (a.toNat : Int) 24 = some (.c (.int .u32 ((a >>> 24).toNat : Int))) := by
 unfold ashift
 rw [if_neg (by decide)]
 congr 3
 rw [Int.fdiv_eq_ediv_of_nonneg _ (by decide)]
 have : (a >>> 24).toNat = a.toNat / 16777216 := by rw [UInt32.toNat_shiftRight]; exact Nat.shiftRight_eq_div_pow _ 24
 rw [this]; rfl
@[go_sem high] theorem wrap32_8 (a : UInt8) : IntKind.u32.wrap (a.toNat : Int) = (a.toUInt32.toNat : Int) := by
 rw [u32_wrap]; have := a.toNat_lt; rw [UInt8.toNat_toUInt32]; omega
@[go_sem high] theorem wrap8_32 (a : UInt32) : IntKind.u8.wrap (a.toNat : Int) = (a.toUInt8.toNat : Int) := by
 rw [u8_wrap, UInt32.toNat_toUInt8]; omega
@[go_sem high] theorem wrap64_8 (a : UInt8) : IntKind.u64.wrap (a.toNat : Int) = (a.toUInt64.toNat : Int) := by
 rw [u64_wrap]; have := a.toNat_lt; rw [UInt8.toNat_toUInt64]; omega
@[go_sem high] theorem not32' (a : UInt32) : aint .xor .u32 (if IntKind.u32.signed = true then -1 else IntKind.u32.max) (a.toNat : Int) = some (.c (.int .u32 ((~~~ a).toNat : Int))) := not32 a
theorem bytesRows_get : ∀ (l : List UInt8) (i : Nat), (bytesRows l)[i]? = (l[i]?).map fun b => [.c (.int .u8 b.toNat)]
 | [], i => by simp [bytesRows]
 | b :: l, 0 => by simp [bytesRows]
 | b :: l, i + 1 => by simp [bytesRows, bytesRows_get l i]
theorem bytes_get {l : List UInt8} {i : Nat} {b : UInt8} (h : l[i]? = some b) : (bytesRows l)[i]? = some [.c (.int .u8 b.toNat)] := by
 rw [bytesRows_get, h]; rfl
theorem bytesRows_append : ∀ (a b : List UInt8), bytesRows (a ++ b) = bytesRows a ++ bytesRows b
 | [], b => rfl
 | x :: a, b => by simp [bytesRows, bytesRows_append a b]
theorem bytes_cell {b : List UInt8} : (bytesRows b).flatten.all AV.isCell = true := by
 rw [bytesRows_flatten, List.all_eq_true]
 intro x hx
 obtain ⟨v, hv, rfl⟩ := List.mem_map.1 hx
 obtain ⟨c, -, rfl⟩ := List.mem_map.1 hv
 rfl
theorem bytes_row (b : List UInt8) : ∀ r ∈ bytesRows b, r.length = 1 := bytesRows_one b
abbrev OwnB (e : TypeId) (b : List UInt8) (v : Value) (D : List HP) : Prop := Own e 1 (bytesRows b).flatten b.length v D
theorem ownB_app {e : TypeId} {a b : List UInt8} {v : Value} {D : List HP} (h : Own e 1 ((bytesRows a).flatten ++ (bytesRows b).flatten) (a.length + b.length) v D) : OwnB e (a ++ b) v D := by
 unfold OwnB
 rw [bytesRows_append, List.flatten_append, List.length_append]
 exact h
theorem ownB_rows {e : TypeId} {b : List UInt8} {v : Value} {D : List HP} (h : OwnB e b v D) : Own e 1 (bytesRows b).flatten (bytesRows b).length v D := by
 rw [bytesRows_length]; exact h
theorem J_freezeB {P : Program} {f : Shape} {n : Nat} {R : APost} {todo : List Item} {env : Env} {e : TypeId} {b : List UInt8} {v : Value} {D Fr : List HP} (how : OwnB e b v D) (hmax : b.length ≤ maxRows) (h : J P f n R todo env (HP.is v (.sl 1 (bytesRows b)) :: Fr)) : J P f n R todo env (Fr ++ D) :=
 J_freezeS (ownB_rows how) (bytes_row b) (by rw [bytesRows_length]; exact hmax) h
end
section
@[go_sem high] theorem shl64_8 (a : UInt64) : ashift .shl .u64 (a.toNat : Int) 8 = some (.c (.int .u64 ((a <<< 8).toNat : Int))) := by
 unfold ashift
 rw [if_neg (by decide)]
 congr 3
 have : (a <<< 8).toNat = a.toNat * 256 % 2 ^ 64 := by
   rw [UInt64.toNat_shiftLeft]
   show a.toNat <<< 8 % 2 ^ 64 = _
   rw [Nat.shiftLeft_eq]
 rw [this, u64_wrap]
 have e : ((2 : Int) ^ (min (Int.toNat 8) IntKind.u64.bits)) = 256 := by decide
 rw [e, Int.natCast_emod, Int.natCast_mul]
 rfl
@[go_sem] theorem bytesRows_take : ∀ (n : Nat) (b : List UInt8), (bytesRows b).take n = bytesRows (b.take n)
 | 0, _ => rfl
 | n + 1, [] => rfl
 | n + 1, x :: b => by
   show _ :: (bytesRows b).take n = _ :: bytesRows (b.take n)
   rw [bytesRows_take n b]
@[go_sem] theorem bytesRows_drop : ∀ (n : Nat) (b : List UInt8), (bytesRows b).drop n = bytesRows (b.drop n)
 | 0, _ => rfl
 | n + 1, [] => rfl
 | n + 1, x :: b => bytesRows_drop n b
@[go_sem high] theorem wrapi_8 (x : UInt8) : IntKind.i64.wrap (x.toNat : Int) = (x.toNat : Int) := by
 have := x.toNat_lt
 rw [IntKind.wrap_i64]; omega
@[go_sem high] theorem shl_byte (x : UInt8) : ashift .shl .i64 (x.toNat : Int) 8 = some (.c (.int .i64 ((x.toNat : Int) * 256))) := by
 unfold ashift
 rw [if_neg (by decide)]
 congr 3
 have := x.toNat_lt
 have e : ((2 : Int) ^ (min (Int.toNat 8) IntKind.i64.bits)) = 256 := by decide
 rw [e, IntKind.wrap_i64]
 generalize x.toNat = y at *
 have h1 : (y : Int) < 256 := by omega
 have h2 : (0 : Int) ≤ y := by omega
 generalize (y : Int) = z at *
 show some (AV.c (Value.int IntKind.i64 ((z * 256 + 9223372036854775808) % 18446744073709551616 - 9223372036854775808))) = _
 rw [show (z * 256 + 9223372036854775808) % 18446744073709551616 - 9223372036854775808 = z * 256 from by omega]
theorem be_slice {α : Type} (b : List α) (i m : Nat) {k : Nat} (hk : k = i + m) : (b.take k).drop i = (b.drop i).take m := by
 rw [hk, List.drop_take, Nat.add_sub_cancel_left]
section
variable {P : Program} {env : Env} {Δ : List HP}
theorem arr_op {o : Oper} {t e : TypeId} {x : Operand} {m s : Nat} {rows : List (List AV)} (hop : o.op = .sliceToArrayPointer t x) (hu : P.underlying t = some (.array m e)) (hx : env.eval x = some (.sl s rows)) (hm : m ≤ rows.length) (h0 : rows ≠ []) :
   OpOK P env Δ o (fun r Δ' => r = .fp rows.flatten ∧ Δ' = Δ) := by
 intro g B tmps sm he
 have hr := Env.eval_rel he hx
 simp only [rel] at hr
 obtain ⟨a, cap, hv, ⟨hcap, hmax⟩, hor⟩ := hr
 rcases hor with h | ⟨b, o', rfl, hb, hr⟩
 · exact absurd h h0
 · refine ⟨g, B, .fp rows.flatten, Δ, .value (.pointer (some ⟨b, o', none⟩)), _, ?_, .inl rfl, .refl _ _, sm, ?_, rfl, rfl⟩
   · simp only [execOp, hop, hv]
     unfold Instr.arrayAt
     simp only [Sem.run_bind, run_underlying hu, Result.andThen_ok]
     rw [if_neg (by omega)]
     rfl
   · simp only [rel]
     exact ⟨b, o', rfl, hb, (relR_flat hr).1⟩
def byteAV (b : UInt8) : AV := .c (.int .u8 b.toNat)
theorem relL_bytes {g : G} : ∀ {as : List UInt8} {us : List Value}, relL g (as.map byteAV) us → us = as.map fun b => .int .u8 b.toNat
 | [], us, h => by simpa [relL] using h
 | a :: as, us, h => by
   simp only [List.map_cons, relL, byteAV, rel] at h
   obtain ⟨v, vs, rfl, rfl, h⟩ := h
   rw [relL_bytes h]; rfl
theorem eq4 {w : World} {t e : TypeId} (hu : P.underlying t = some (.array 4 e)) (he : P.underlying e = some (.int .u8)) (ht : tk P e = some (1, false)) (a0 a1 a2 a3 b0 b1 b2 b3 : UInt8) :
   (Op.equal t (.agg ([a0, a1, a2, a3].map fun b => Value.int .u8 b.toNat).toArray) (.agg ([b0, b1, b2, b3].map fun b => Value.int .u8 b.toNat).toArray)).run P w = .ok (decide ([a0, a1, a2, a3] = [b0, b1, b2, b3])) w := by
 have cell : ∀ (d : Nat) (x y : UInt8), (Op.equalIn (d + 1) e (.int .u8 x.toNat) (.int .u8 y.toNat)).run P w = .ok (decide (x = y)) w := by
   intro d x y
   simp only [Op.equalIn, Sem.run_bind, run_underlying he, Result.andThen_ok, if_true, Sem.run_pure]
   congr 1
   by_cases h : x = y
   · simp [h]
   · have : ¬ ((x.toNat : Int) = (y.toNat : Int)) := fun hh => h (UInt8.toNat_inj.1 (by exact_mod_cast hh))
     simp [h, this]
 have prt : ∀ (xs : Array Value) (i : Nat) (v : Value), xs[i]? = some v → (part e xs i).run P w = .ok v w := by
   intro xs i v h
   unfold part
   simp only [Sem.run_bind, run_isAgg ht, Result.andThen_ok, Bool.false_eq_true, if_false, h, Sem.run_pure]
 unfold Op.equal
 rw [show Op.maxDepth = 9998 + 1 + 1 from rfl]
 rw [Op.equalIn]
 simp only [Sem.run_bind, run_underlying hu, Result.andThen_ok, run_sizeOf ht]
 have hrg : List.range' 0 4 1 = [0, 1, 2, 3] := rfl
 simp only [Std.Legacy.Range.forIn_eq_forIn_range', Std.Legacy.Range.size, Nat.sub_zero, Nat.add_sub_cancel, Nat.div_one, hrg, List.forIn_cons, List.forIn_nil, Sem.run_bind, Nat.mul_one]
 have pa := fun (i : Nat) (v : Value) => prt ([a0, a1, a2, a3].map fun b => Value.int .u8 b.toNat).toArray i v
 have pb := fun (i : Nat) (v : Value) => prt ([b0, b1, b2, b3].map fun b => Value.int .u8 b.toNat).toArray i v
 have pa0 := pa 0 (.int .u8 a0.toNat) rfl
 have pa1 := pa 1 (.int .u8 a1.toNat) rfl
 have pa2 := pa 2 (.int .u8 a2.toNat) rfl
 have pa3 := pa 3 (.int .u8 a3.toNat) rfl
 have pb0 := pb 0 (.int .u8 b0.toNat) rfl
 have pb1 := pb 1 (.int .u8 b1.toNat) rfl
 have pb2 := pb 2 (.int .u8 b2.toNat) rfl
 have pb3 := pb 3 (.int .u8 b3.toNat) rfl
 clear pa pb
 generalize ([a0, a1, a2, a3].map fun b => Value.int .u8 b.toNat).toArray = X at *
 generalize ([b0, b1, b2, b3].map fun b => Value.int .u8 b.toNat).toArray = Y at *
 simp only [pa0, pb0, Result.andThen_ok, cell]
 by_cases h0 : a0 = b0
 · simp only [h0, decide_true, Bool.not_true, Bool.false_eq_true, if_false, Sem.run_pure, Result.andThen_ok, Sem.run_bind, pa1, pb1, cell]
   by_cases h1 : a1 = b1
   · simp only [h1, decide_true, Bool.not_true, Bool.false_eq_true, if_false, Sem.run_pure, Result.andThen_ok, Sem.run_bind, pa2, pb2, cell]
     by_cases h2 : a2 = b2
     · simp only [h2, decide_true, Bool.not_true, Bool.false_eq_true, if_false, Sem.run_pure, Result.andThen_ok, Sem.run_bind, pa3, pb3, cell]
       by_cases h3 : a3 = b3
       · simp [h3]
       · simp [h3]
     · simp [h2]
   · simp [h1]
 · simp [h0]
theorem eqArr_op {o : Oper} {t e t' : TypeId} {x y : Operand} {a0 a1 a2 a3 b0 b1 b2 b3 : UInt8} (hop : o.op = .binOp .eql t x y t') (hu : P.underlying t = some (.array 4 e)) (hg : P.eqGuardType P.depth t = false) (he : P.underlying e = some (.int .u8)) (ht : tk P e = some (1, false))
   (hx : env.eval x = some (.agg ([a0, a1, a2, a3].map byteAV))) (hy : env.eval y = some (.agg ([b0, b1, b2, b3].map byteAV))) :
   OpOK P env Δ o (fun r Δ' => r = .c (.bool (decide ([a0, a1, a2, a3] = [b0, b1, b2, b3]))) ∧ Δ' = Δ) := by
 intro g B tmps sm hee
 have h1 := Env.eval_rel hee hx
 have h2 := Env.eval_rel hee hy
 simp only [rel] at h1 h2
 obtain ⟨us, e1, k1⟩ := h1
 obtain ⟨vs, e2, k2⟩ := h2
 have k1' := relL_bytes k1
 have k2' := relL_bytes k2
 subst k1' k2'
 refine ⟨g, B, _, Δ, .value (.bool (decide ([a0, a1, a2, a3] = [b0, b1, b2, b3]))), _, ?_, .inl rfl, .refl _ _, sm, rel_c, rfl, rfl⟩
 simp only [execOp, hop, e1, e2, eqGuard]
 have hm : (BinOp.eql matches .eql | .neq) = true := rfl
 simp only [hm, Bool.not_true, Bool.false_eq_true, if_false, Sem.run_bind, run_program, Result.andThen_ok, hg, Bool.not_false, if_true, Sem.run_pure]
 have hb : binOp .eql t (.agg ([a0, a1, a2, a3].map fun b => Value.int .u8 b.toNat).toArray) (.agg ([b0, b1, b2, b3].map fun b => Value.int .u8 b.toNat).toArray) = (do pure (.bool (← Op.equal t (.agg ([a0, a1, a2, a3].map fun b => Value.int .u8 b.toNat).toArray) (.agg ([b0, b1, b2, b3].map fun b => Value.int .u8 b.toNat).toArray)))) := rfl
 rw [hb]
 simp only [Sem.run_bind, eq4 hu he ht, Result.andThen_ok, Sem.run_pure]
theorem Can_op {n : Nat} {ops : Array Oper} {i : Nat} {kont : Env → List HP → Prop} {V : Env} {c : List (Nat × Knd)} {d : Tmp} {op : Op} {ty : TypeId} {pos : String} {aft : Array Edge} {K : AV → List HP → Prop} (ho : ops[i]? = some ⟨some d, op, ty, pos, aft, none⟩) (hd : d < n)
   (h : ∀ e', Agree (namesOf ops i) V e' → OpOK P e' Δ ⟨some d, op, ty, pos, aft, none⟩ K) (hk : ∀ x Δ', K x Δ' → Can P ops n kont c ((d, x) :: V) Δ') : Can P ops n kont ((i, .act) :: c) V Δ :=
 .op ho rfl (by simpa using hd) h (fun x Δ' hr => by rw [show dstOf ops i = some d from by simp [dstOf, ho]]; exact hk x Δ' hr)
theorem Can_op0 {n : Nat} {ops : Array Oper} {i : Nat} {kont : Env → List HP → Prop} {V : Env} {c : List (Nat × Knd)} {op : Op} {ty : TypeId} {pos : String} {aft : Array Edge} {K : AV → List HP → Prop} (ho : ops[i]? = some ⟨none, op, ty, pos, aft, none⟩)
   (h : ∀ e', Agree (namesOf ops i) V e' → OpOK P e' Δ ⟨none, op, ty, pos, aft, none⟩ K) (hk : ∀ x Δ', K x Δ' → Can P ops n kont c V Δ') : Can P ops n kont ((i, .act) :: c) V Δ :=
 .op ho rfl rfl h (fun x Δ' hr => by rw [show dstOf ops i = none from by simp [dstOf, ho]]; exact hk x Δ' hr)
theorem J_op1 {f : Shape} {n : Nat} {R : APost} {k : List Item} {ops : Array Oper} {i : Nat} {is : List Nat} {d : Tmp} {op : Op} {ty : TypeId} {pos : String} {aft : Array Edge} {K : AV → List HP → Prop} (ho : ops[i]? = some ⟨some d, op, ty, pos, aft, none⟩) (hd : d < n)
   (h : OpOK P env Δ ⟨some d, op, ty, pos, aft, none⟩ K) (hk : ∀ x Δ', K x Δ' → J P f n R (.inRegion ops is :: k) ((d, x) :: env) Δ') : J P f n R (.inRegion ops (i :: is) :: k) env Δ :=
 J_op (o := ⟨some d, op, ty, pos, aft, none⟩) ho rfl (by simpa using hd) h hk
theorem J_op0 {f : Shape} {n : Nat} {R : APost} {k : List Item} {ops : Array Oper} {i : Nat} {is : List Nat} {op : Op} {ty : TypeId} {pos : String} {aft : Array Edge} {K : AV → List HP → Prop} (ho : ops[i]? = some ⟨none, op, ty, pos, aft, none⟩)
   (h : OpOK P env Δ ⟨none, op, ty, pos, aft, none⟩ K) (hk : ∀ x Δ', K x Δ' → J P f n R (.inRegion ops is :: k) env Δ') : J P f n R (.inRegion ops (i :: is) :: k) env Δ :=
 J_op (o := ⟨none, op, ty, pos, aft, none⟩) ho rfl rfl h hk
theorem agree_eval {ops : Array Oper} {i : Nat} {o : Oper} {e e' : Env} {x : Operand} {a : AV} (ho : ops[i]? = some o) (h : Agree (namesOf ops i) e e') (hx : x ∈ o.op.operands.toList) (ha : e.eval x = some a) : e'.eval x = some a := by
 rw [← eval_agree (xs := o.op.operands.toList) (fun t ht => h t ?_) hx]
 · exact ha
 · simp only [namesOf, ho]
   exact List.mem_append_left _ (List.mem_append_left _ ht)
end
end
section
section
variable {P : Program}
theorem zeros_len {zs : List Value} : ∀ n, (zeros zs n).length = n * zs.length
 | 0 => by simp [zeros]
 | n + 1 => by rw [zeros, List.length_append, zeros_len n, List.length_map, Nat.add_mul, Nat.one_mul, Nat.add_comm]
theorem zeros_cell {zs : List Value} (h : (zs.map AV.c).all AV.isCell = true) : ∀ n, (zeros zs n).all AV.isCell = true
 | 0 => by simp [zeros]
 | n + 1 => by rw [zeros, List.all_append, h, zeros_cell h n]; rfl
theorem appended_run {w : World} {e : TypeId} {s n : Nat} {zs : List Value} (h3 : tkZero P e = some zs) (h7 : zs.length = s) :
   ((if n * s = 0 then pure #[] else do pure (Builtin.zeroCells (← zeroValue e).cells n)) : Sem (Array Value)).run P w = .ok (Builtin.zeroCells zs.toArray n) w := by
 obtain ⟨z, hz1, hz2⟩ := run_zero (P := P) (w := w) h3
 by_cases h : n * s = 0
 · rw [if_pos h, Sem.run_pure]
   have : (Builtin.zeroCells zs.toArray n).size = 0 := by rw [zeroCells_length]; simpa [h7] using h
   rw [Array.eq_empty_of_size_eq_zero this]
 · rw [if_neg h, Sem.run_bind, hz1, Result.andThen_ok, Sem.run_pure, hz2]
theorem zin_run {g : G} {sT xT e : TypeId} {s nb n sLen sCap : Nat} {k kx : IntKind} {ag : Bool} {zs : List Value} {a : Option Addr} {ats' : Array TypeId} {ty : TypeId} {cs' : Array Bool} (h0 : ats'[0]? = some sT) (h1 : ats'[1]? = some xT)
   (hu : P.underlying sT = some (.slice e)) (hux : P.underlying xT = some (.int kx)) (ht : tk P e = some (s, ag)) (h2 : tkBytes P e = some nb) (h3 : tkZero P e = some zs) (h7 : zs.length = s) (h4 : nb ≤ 256) (hmax : sLen + n ≤ 2 ^ 38)
   (hfit : sLen + n ≤ sCap) {w' : World} (hst : ∀ a', a = some a' → (storeCells (a'.add (sLen * s)) (Builtin.zeroCells zs.toArray n).toList).run P g.w = .ok () w') (hn : a = none → w' = g.w) :
   (builtin .append ats' ty cs' #[.slice a sLen sCap, .int k n]).run P g.w = .ok (.value (.slice a (sLen + n) sCap)) w' := by
 obtain ⟨i1, hi1, hi2⟩ := run_bytes (P := P) (w := g.w) h2
 have hwrap : IntKind.i64.wrap (n : Int) = n := by rw [IntKind.wrap_i64]; omega
 have hnb : ¬ ((n : Int) * (i1.bytes : Nat) > 2 ^ 48) := by
   rw [hi2]
   have : n * nb ≤ 2 ^ 38 * 256 := Nat.mul_le_mul (by omega) h4
   have h' : ((n * nb : Nat) : Int) ≤ ((2 ^ 38 * 256 : Nat) : Int) := Int.ofNat_le.2 this
   rw [Int.natCast_mul] at h'
   have : ((2 ^ 38 * 256 : Nat) : Int) = 70368744177664 := by decide
   omega
 simp only [builtin]
 unfold Builtin.append_
 simp only [h0, h1, List.getElem?_toArray, List.getElem?_cons_zero, List.getElem?_cons_succ]
 rw [Sem.run_bind, Sem.run_bind, run_underlying hu, Result.andThen_ok]
 simp only
 rw [Sem.run_bind, run_sizeOf ht, Result.andThen_ok]
 rw [Sem.run_bind, run_underlying hux, Result.andThen_ok]
 simp only
 rw [Sem.run_bind, Sem.run_pure, Result.andThen_ok]
 simp only [if_true, Bool.not_true, Bool.false_eq_true, if_false, asInt, asIntOf]
 simp only [Sem.run_bind, Sem.run_pure, Result.andThen_ok, hwrap]
 rw [if_neg (by omega)]
 simp only [Sem.run_bind, hi1, Result.andThen_ok]
 rw [if_neg hnb]
 simp only [Sem.run_bind, Sem.run_pure, Result.andThen_ok, Int.toNat_natCast]
 rw [if_pos hfit]
 simp only [Sem.run_bind]
 rw [appended_run h3 h7, Result.andThen_ok]
 cases a with
 | none => rw [hn rfl]; rfl
 | some a =>
   simp only [Sem.run_bind]
   rw [hst a rfl]; rfl
theorem zgrow_run {g : G} {sT xT e : TypeId} {s nb n sLen sCap : Nat} {k kx : IntKind} {ag : Bool} {zs : List Value} {a : Option Addr} {ats' : Array TypeId} {ty : TypeId} {cs' : Array Bool} (h0 : ats'[0]? = some sT) (h1 : ats'[1]? = some xT)
   (hu : P.underlying sT = some (.slice e)) (hux : P.underlying xT = some (.int kx)) (ht : tk P e = some (s, ag)) (h2 : tkBytes P e = some nb) (h3 : tkZero P e = some zs) (h7 : zs.length = s) (h4 : nb ≤ 256) (hmax : sLen + n ≤ 2 ^ 38)
   {uo : List Value} (hgr : sCap < sLen + n) (hold : (Builtin.firstCells s sLen (.slice a sLen sCap)).run P g.drew.w = .ok uo.toArray g.drew.w) :
   ∃ cap : Nat, sLen + n ≤ cap ∧ (builtin .append ats' ty cs' #[.slice a sLen sCap, .int k n]).run P g.w = .ok (.value (.slice (some ⟨g.w.heap.size, 0, none⟩) (sLen + n) cap))
     (g.drew.grow (.cells (uo ++ (Builtin.zeroCells zs.toArray n).toList ++ (Builtin.zeroCells zs.toArray (cap - (sLen + n))).toList).toArray e)).w := by
 obtain ⟨i1, hi1, hi2⟩ := run_bytes (P := P) (w := g.w) h2
 have hwrap : IntKind.i64.wrap (n : Int) = n := by rw [IntKind.wrap_i64]; omega
 have hnb : ¬ ((n : Int) * (i1.bytes : Nat) > 2 ^ 48) := by
   rw [hi2]
   have : n * nb ≤ 2 ^ 38 * 256 := Nat.mul_le_mul (by omega) h4
   have h' : ((n * nb : Nat) : Int) ≤ ((2 ^ 38 * 256 : Nat) : Int) := Int.ofNat_le.2 this
   rw [Int.natCast_mul] at h'
   have : ((2 ^ 38 * 256 : Nat) : Int) = 70368744177664 := by decide
   omega
 simp only [builtin]
 unfold Builtin.append_
 simp only [h0, h1, List.getElem?_toArray, List.getElem?_cons_zero, List.getElem?_cons_succ]
 rw [Sem.run_bind, Sem.run_bind, run_underlying hu, Result.andThen_ok]
 simp only
 rw [Sem.run_bind, run_sizeOf ht, Result.andThen_ok]
 rw [Sem.run_bind, run_underlying hux, Result.andThen_ok]
 simp only
 rw [Sem.run_bind, Sem.run_pure, Result.andThen_ok]
 simp only [if_true, Bool.not_true, Bool.false_eq_true, if_false, asInt, asIntOf]
 simp only [Sem.run_bind, Sem.run_pure, Result.andThen_ok, hwrap]
 rw [if_neg (by omega)]
 simp only [Sem.run_bind, hi1, Result.andThen_ok]
 rw [if_neg hnb]
 simp only [Sem.run_bind, Sem.run_pure, Result.andThen_ok, Int.toNat_natCast]
 have hnc := nextslicecap_le hgr
 have hmul : Builtin.nextslicecap (sLen + n) sCap * i1.bytes ≤ 2 ^ 48 := by
   rw [hi2]
   calc Builtin.nextslicecap (sLen + n) sCap * nb ≤ (2 ^ 39 + 768) * 256 := Nat.mul_le_mul (by omega) h4
     _ ≤ 2 ^ 48 := by decide
 have hmax' : ¬ (((sLen + n : Nat) : Int) > IntKind.i64.max ∧ (True ∨ i1.bytes = 0)) := by
   rintro ⟨h, _⟩
   have : IntKind.i64.max = 9223372036854775807 := by rfl
   omega
 let q : Question := .appendCap (sLen + n) sCap e
 let newCap := q.cut (g.w.tape g.w.drawn q)
 have hcap : sLen + n ≤ newCap := by simp only [newCap, q, Question.cut]; omega
 obtain ⟨i3, hi3, hi4⟩ := run_bytes (P := P) (w := g.drew.w) h2
 obtain ⟨z, hz1, hz2⟩ := run_zero (P := P) (w := g.drew.w) h3
 refine ⟨newCap, hcap, ?_⟩
 rw [if_neg (by omega)]
 simp only [Sem.run_bind, hi1, Result.andThen_ok]
 rw [if_neg hmax']
 simp only [Sem.run_bind, hi1, Result.andThen_ok]
 rw [if_neg (by omega)]
 simp only [Sem.run_bind]
 rw [run_choose, if_neg (by simp [Question.forced]), Result.andThen_ok]
 rw [show (typeInfo e).run P { g.w with drawn := g.w.drawn + 1 } = .ok i3 g.drew.w from hi3, Result.andThen_ok]
 rw [run_askRoom, Result.andThen_ok]
 rw [hold, Result.andThen_ok]
 rw [appended_run h3 h7, Result.andThen_ok]
 rw [hz1, Result.andThen_ok]
 have hcells : (uo.toArray ++ Builtin.zeroCells zs.toArray n ++ Builtin.zeroCells z.cells (newCap - (sLen + n))) = (uo ++ (Builtin.zeroCells zs.toArray n).toList ++ (Builtin.zeroCells zs.toArray (newCap - (sLen + n))).toList).toArray := by simp [hz2]
 rw [← hcells]
 rfl
theorem zeros_rel {g : G} {zs : List Value} {n : Nat} (h : 0 < zs.length) : relL g (zeros zs n) (Builtin.zeroCells zs.toArray n).toList := by
 rw [← range_map_zeros h n]
 have : (Array.range (n * zs.length)).map (fun i => zs.toArray[i % zs.toArray.size]!) = Builtin.zeroCells zs.toArray n := by simp [Builtin.zeroCells]
 rw [this]
 exact relL_consts _
theorem appendZ_bi {sT xT e : TypeId} {ats : List TypeId} {s n len : Nat} {k : IntKind} {zs : List Value} {Δ D Fr : List HP} {bu : Value} {cells : List AV} (hty : appTyZ P sT xT = some (e, s)) (hz : tkZero P e = some zs) (hc : (zs.map AV.c).all AV.isCell = true) (how : Own e s cells len bu D) (hp : Δ.Perm (Fr ++ D))
   (hmax : len + n ≤ 2 ^ 38) : BiOK P .append (sT :: xT :: ats) [.c bu, .c (.int k n)] Δ (fun r Δ' => ∃ v D', r = .c v ∧ Δ' = Fr ++ D' ∧ Own e s (cells ++ zeros zs n) (len + n) v D') := by
 intro g B us ats' ty cs' hats sm hl
 obtain ⟨hu, ⟨kx, hux⟩, ⟨ag, ht⟩, nb, zs', h2, h3, h4, h5, hs0, h7⟩ := appTyZ_spec hty
 rw [hz] at h3; obtain rfl := Option.some.inj h3
 simp only [relL] at hl
 obtain ⟨u, _, rfl, hbu, w, _, rfl, hw, rfl⟩ := hl
 simp only [rel] at hbu hw; subst hbu; subst hw
 have h0 : ats'[0]? = some sT := by rw [← Array.getElem?_toList, hats]; rfl
 have h1 : ats'[1]? = some xT := by rw [← Array.getElem?_toList, hats]; rfl
 have sm' : Sim g B (D ++ Fr) := ⟨sm.fzlt, sm.blt, sm.disj, sep_perm (hp.trans List.perm_append_comm) sm.sep⟩
 have hzl : (zeros zs n).length = n * s := by rw [zeros_len, h7]
 -- beyond the room
 have grow : ∀ (a : Option Addr) (sCap : Nat) (uo : List Value), sCap < len + n → cells.length = len * s → relL g.drew cells uo → (Builtin.firstCells s len (.slice a len sCap)).run P g.drew.w = .ok uo.toArray g.drew.w →
     (∀ (g' : G) (B' : Nat → Prop) (x : HP), sep (x :: (D ++ Fr)) g' B' → sep (Fr ++ [x]) g' B') →
     ∃ g' B' x Δ' v, (builtin .append ats' ty cs' [.slice a len sCap, .int k n].toArray).run P g.w = .ok (.value v) g'.w ∧ Ext g B g' B' ∧ Sim g' B' Δ' ∧ rel g' x v ∧ ∃ v' D', x = .c v' ∧ Δ' = Fr ++ D' ∧ Own e s (cells ++ zeros zs n) (len + n) v' D' := by
   intro a sCap uo hgr hcl hrel hold hsep
   obtain ⟨cap, hcap, hrun⟩ := zgrow_run (P := P) (g := g) (ty := ty) (cs' := cs') (k := k) h0 h1 hu hux ht h2 hz h7 h4 hmax hgr hold
   let cs := uo ++ (Builtin.zeroCells zs.toArray n).toList ++ (Builtin.zeroCells zs.toArray (cap - (len + n))).toList
   let more := zeros zs (cap - (len + n))
   have hgs := grow_sim (x := .box g.drew.w.heap.size e (cells ++ zeros zs n ++ more)) (o := .cells cs.toArray e) (drew_sim sm') ⟨rfl, cs, push_new, by
     have hL : Le g.drew (g.drew.grow (.cells cs.toArray e)) := ⟨fun _ h => h, fun b hb => push_get ((drew_sim sm').fzlt b hb)⟩
     exact relL_mono hL _ _ (relL_append (relL_append hrel (zeros_rel (by omega))) (zeros_rel (by omega)))⟩
   refine ⟨_, _, .c (.slice (some ⟨g.w.heap.size, 0, none⟩) (len + n) cap), Fr ++ [.box g.w.heap.size e (cells ++ zeros zs n ++ more)], _, hrun, drew_ext.trans hgs.1, ⟨hgs.2.fzlt, hgs.2.blt, hgs.2.disj, hsep _ _ _ hgs.2.sep⟩, rel_c, _, _, rfl, rfl, ?_⟩
   exact .box _ cap more (by rw [List.length_append, hcl, hzl, Nat.add_mul]) (by simp only [more]; rw [zeros_len, h7]) hcap
 cases how with
 | nil a e1 e2 =>
   subst e1 e2
   by_cases hn : n = 0
   · subst hn
     refine ⟨g, B, .c (.slice a 0 0), Fr, _, zin_run (P := P) (g := g) (sCap := 0) (w' := g.w) h0 h1 hu hux ht h2 hz h7 h4 hmax (by omega) (fun a' _ => ?_) (fun _ => rfl), .refl _ _, by simpa using sm', rel_c, _, [], rfl, by simp, .nil a rfl rfl⟩
     have : (Builtin.zeroCells zs.toArray 0).toList = [] := by simp [Builtin.zeroCells]
     rw [this]; simp [storeCells]
   · exact grow a 0 [] (by omega) (by simp) (by simp [relL]) (by cases a <;> simp [Builtin.firstCells, loadCells, loadCellsFrom]) (fun g' B' x h => sep_perm (by simpa using List.perm_append_comm (l₁ := [x]) (l₂ := Fr)) h)
 | box b cap sp c1 c2 c3 =>
   have hg : getBox ([HP.box b e (cells ++ sp)] ++ Fr) b = some (e, cells ++ sp) := by simp [getBox]
   by_cases hfit : len + n ≤ cap
   · have hl : len * s + (zeros zs n).length ≤ (cells ++ sp).length := by
       rw [List.length_append, c1, c2, hzl, Nat.sub_mul]
       have : (len + n) * s ≤ cap * s := Nat.mul_le_mul_right _ hfit
       have := Nat.mul_le_mul_right s c3
       rw [Nat.add_mul] at *; omega
     obtain ⟨g', q1, q2, q3⟩ := boxStore (P := P) (o := len * s) sm' hg (zeros_rel (g := g) (zs := zs) (n := n) (by omega)) (zeros_cell hc n) hl
     refine ⟨g', B, .c (.slice (some ⟨b, 0, none⟩) (len + n) cap), Fr ++ [.box b e (cells ++ zeros zs n ++ sp.drop (n * s))], _, zin_run (P := P) (g := g) (w' := g'.w) h0 h1 hu hux ht h2 hz h7 h4 hmax hfit (fun a' ha => ?_) (fun h => by simp at h), q2, ?_, rel_c, _, _, rfl, rfl, ?_⟩
     · obtain rfl := Option.some.inj ha.symm
       simpa only [addr_add, Nat.zero_add] using q1
     · have e1 : (cells ++ sp).take (len * s) ++ zeros zs n ++ (cells ++ sp).drop (len * s + (zeros zs n).length) = cells ++ zeros zs n ++ sp.drop (n * s) := by
         rw [hzl, ← c1, List.take_left, List.drop_append]; simp
       rw [e1] at q3
       refine ⟨q3.fzlt, q3.blt, q3.disj, sep_perm ?_ q3.sep⟩
       simpa [setBox] using List.perm_append_comm (l₁ := [HP.box b e (cells ++ zeros zs n ++ sp.drop (n * s))]) (l₂ := Fr)
     · refine .box b cap _ (by rw [List.length_append, c1, hzl, Nat.add_mul]) ?_ hfit
       rw [List.length_drop, c2, ← Nat.sub_mul]
       congr 1; omega
   · have hbase : srcOf ([HP.box b e (cells ++ sp)] ++ Fr) s (.c (.slice (some ⟨b, 0, none⟩) len cap)) = some (len, cells) := by
       simp only [srcOf, hg]
       rw [if_pos (by rw [List.length_append, c1]; omega)]
       simp only [List.drop_zero]
       rw [← c1, List.take_left]
     have hbr : rel g.drew (.c (.slice (some ⟨b, 0, none⟩) len cap)) (.slice (some ⟨b, 0, none⟩) len cap) := by simp only [rel]
     obtain ⟨o1, o2, o3⟩ := srcOf_run (P := P) (drew_sim sm') hbr hbase
     obtain ⟨uo, o4, o5⟩ := o3 len (Nat.le_refl _)
     rw [← o1, List.take_length] at o4
     refine grow _ cap uo (by omega) c1 o4 o5 (fun g' B' x h => ?_)
     obtain ⟨B1, w1, w2, w3⟩ := sep_swap h
     refine sep_perm (by simpa using List.perm_append_comm (l₁ := [x]) (l₂ := Fr)) (sep_mono w3 (fun b hb => hb.1) (fun _ h => h) (fun _ _ => rfl))
end
theorem ACalls.freezeB {P : Program} {f : FuncId} {args : List AV} {Δ : List HP} {e : TypeId} {b : List UInt8} (h : ACalls P f args Δ (fun r D => ∃ v, r = .ret (.c v) ∧ OwnB e b v D)) (hmax : b.length ≤ maxRows) : ACalls P f args Δ (Ret (.sl 1 (bytesRows b))) := by
 refine ⟨h.callable, fun g B us s r => (h.run g B us s r).mono ?_⟩
 rintro en w' ⟨g', B', a, Δ', rfl, hx, hs, hr, v, rfl, how⟩
 obtain ⟨g2, B2, hw, hx2, hs2⟩ := own_freeze (Fr := []) (by simpa using hs) (ownB_rows how) (bytes_row b) (by simpa [bytesRows_length] using hmax)
 have hin := is_spec hs2.sep (u := v) (x := .sl 1 (bytesRows b)) (by simp)
 refine ⟨g2, B2, .ret (.sl 1 (bytesRows b)), [], hw, hx.trans hx2, ⟨hs2.fzlt, hs2.blt, hs2.disj, trivial⟩, ?_, rfl, rfl⟩
 cases en with
 | returned u => simp only [endRel, rel] at hr ⊢; rw [hr]; exact hin
 | panicked ch => simp [endRel] at hr
 | outgrown => simp [endRel] at hr
theorem zeros8 (n : Nat) : zeros [Value.int .u8 0] n = (bytesRows (List.replicate n 0)).flatten := by
 induction n with
 | zero => rfl
 | succ n ih => rw [zeros, ih]; rfl
end
end Go.Av
namespace Go.Av
open Go Go.MapKept
section
structure KeyOK {K : Type} [DecidableEq K] (κ : K → Value) (d : TypeDesc) : Prop where
 same : ∀ a b, Instr.sameNow d (κ a) (κ b) = some (decide (a = b))
 key : ∀ a, IsKey d (κ a)
 bits : ∀ a, Instr.sameBits 10000 (κ a) (κ a) = true
def kI (n : Int) : Value := .int .i64 n
theorem kI_ok : KeyOK kI (.int .i64) where
 same a b := by simp only [Instr.sameNow, kI, if_true]; congr 1
 key a := by simp [IsKey, kI]
 bits a := by simp [Instr.sameBits, kI]
section
variable {K : Type} [DecidableEq K] (κ : K → Value)
def mi (l : List (K × AV)) : List (Value × AV) := l.map fun p => (κ p.1, p.2)
variable {V W : Type}
def findM : List (K × V) → K → Option V
 | [], _ => none
 | (k', x) :: l, k => if k' = k then some x else findM l k
def updM : List (K × V) → K → V → List (K × V)
 | [], k, x => [(k, x)]
 | (k', y) :: l, k, x => if k' = k then (k, x) :: l else (k', y) :: updM l k x
def delM : List (K × V) → K → List (K × V)
 | [], _ => []
 | (k', y) :: l, k => if k' = k then l else (k', y) :: delM l k
theorem findM_upd : ∀ (l : List (K × V)) (k j : K) (x : V), findM (updM l k x) j = if k = j then some x else findM l j
 | [], k, j, x => by simp only [updM, findM]
 | (k', y) :: l, k, j, x => by
   simp only [updM]
   by_cases h : k' = k
   · subst h; simp only [if_true, findM]; split <;> rfl
   · simp only [h, if_false, findM, findM_upd l k j x]
     by_cases h1 : k' = j
     · have : ¬ k = j := fun e => h (h1.trans e.symm)
       simp [h1, this]
     · simp [h1]
theorem del_none : ∀ {l : List (K × V)} {k : K}, findM l k = none → delM l k = l
 | [], _, _ => rfl
 | (k', y) :: l, k, h => by
   simp only [findM] at h
   by_cases hk : k' = k
   · simp [hk] at h
   · simp only [hk, if_false] at h
     simp only [delM, hk, if_false, del_none h]
theorem findM_none : ∀ {l : List (K × V)} {k : K}, findM l k = none ↔ k ∉ l.map (·.1)
 | [], k => by simp [findM]
 | (k', y) :: l, k => by
   simp only [findM, List.map_cons, List.mem_cons, not_or]
   by_cases h : k' = k
   · simp [h]
   · simp only [h, if_false, findM_none (l := l)]
     exact ⟨fun e => ⟨fun e' => h e'.symm, e⟩, fun e => e.2⟩
theorem keys_upd : ∀ (l : List (K × V)) (k : K) (x : V), (updM l k x).map (·.1) = if k ∈ l.map (·.1) then l.map (·.1) else l.map (·.1) ++ [k]
 | [], k, x => by simp [updM]
 | (k', y) :: l, k, x => by
   simp only [updM]
   by_cases h : k' = k
   · simp [h]
   · have h' : ¬ k = k' := fun e => h e.symm
     simp only [h, if_false, List.map_cons, keys_upd l k x, List.mem_cons, h', false_or]
     split <;> simp
theorem nodup_upd {l : List (K × V)} {k : K} {x : V} (h : (l.map (·.1)).Nodup) : ((updM l k x).map (·.1)).Nodup := by
 rw [keys_upd]
 split
 · exact h
 · rename_i hn
   exact List.nodup_append.2 ⟨h, by simp, fun a ha b hb => by simp at hb; subst hb; rintro rfl; exact hn ha⟩
theorem del_sub : ∀ (l : List (K × V)) (k : K), (delM l k).Sublist l
 | [], _ => .slnil
 | (k', y) :: l, k => by
   simp only [delM]
   split
   · exact .cons _ (.refl _)
   · exact .cons_cons _ (del_sub l k)
theorem nodup_del {l : List (K × V)} {k : K} (h : (l.map (·.1)).Nodup) : ((delM l k).map (·.1)).Nodup := ((del_sub l k).map _).nodup h
theorem findM_del : ∀ {l : List (K × V)} {k j : K}, (l.map (·.1)).Nodup → findM (delM l k) j = if k = j then none else findM l j
 | [], k, j, _ => by simp [delM, findM]
 | (k', y) :: l, k, j, h => by
   simp only [List.map_cons, List.nodup_cons] at h
   simp only [delM]
   by_cases hk : k' = k
   · subst hk
     simp only [if_true, findM]
     by_cases hj : k' = j
     · subst hj; simp only [if_true]; exact findM_none.2 h.1
     · simp [hj]
   · simp only [hk, if_false, findM, findM_del (k := k) (j := j) h.2]
     by_cases hj : k' = j
     · have : ¬ k = j := fun e => hk (hj.trans e.symm)
       simp [hj, this]
     · simp [hj]
theorem findM_map (h : V → W) : ∀ (l : List (K × V)) (k : K), findM (l.map fun p => (p.1, h p.2)) k = (findM l k).map h
 | [], _ => rfl
 | (k', y) :: l, k => by
   simp only [List.map_cons, findM]
   split
   · rfl
   · exact findM_map h l k
theorem updM_map (h : V → W) : ∀ (l : List (K × V)) (k : K) (x : V), updM (l.map fun p => (p.1, h p.2)) k (h x) = (updM l k x).map fun p => (p.1, h p.2)
 | [], _, _ => rfl
 | (k', y) :: l, k, x => by
   simp only [List.map_cons, updM]
   split
   · rfl
   · simp only [List.map_cons, updM_map h l k x]
theorem delM_map (h : V → W) : ∀ (l : List (K × V)) (k : K), delM (l.map fun p => (p.1, h p.2)) k = (delM l k).map fun p => (p.1, h p.2)
 | [], _ => rfl
 | (k', y) :: l, k => by
   simp only [List.map_cons, delM]
   split
   · rfl
   · simp only [List.map_cons, delM_map h l k]
theorem mem_upd : ∀ {l : List (K × V)} {k : K} {x : V} {p : K × V}, p ∈ updM l k x → p = (k, x) ∨ p ∈ l
 | [], k, x, p, h => by simp only [updM, List.mem_singleton] at h; exact .inl h
 | (k', y) :: l, k, x, p, h => by
   simp only [updM] at h
   split at h
   · rcases List.mem_cons.1 h with h | h
     · exact .inl h
     · exact .inr (List.mem_cons_of_mem _ h)
   · rcases List.mem_cons.1 h with h | h
     · exact .inr (h ▸ List.mem_cons_self ..)
     · exact (mem_upd h).imp id (List.mem_cons_of_mem _)
theorem mem_find : ∀ {l : List (K × V)} {k : K} {x : V}, findM l k = some x → (k, x) ∈ l
 | (k', y) :: l, k, x, h => by
   simp only [findM] at h
   split at h
   · rename_i e; subst e; simp only [Option.some.injEq] at h; subst h; exact List.mem_cons_self ..
   · exact List.mem_cons_of_mem _ (mem_find h)
variable {κ} {d : TypeDesc}
theorem findNow_rel (hκ : KeyOK κ d) {g : G} {k : K} : ∀ {l : List (K × AV)} {ms : List MapEntry}, relM g (mi κ l) ms → ∀ i : Nat,
   (findM l k = none ∧ Instr.findNow d (κ k) ms i = some none) ∨
   ∃ x j m, findM l k = some x ∧ Instr.findNow d (κ k) ms i = some (some (i + j, m.val)) ∧ rel g x m.val ∧ ms[j]? = some m ∧ m.key = κ k ∧ relM g (mi κ (delM l k)) (ms.eraseIdx j) ∧
     ∀ y w', rel g y w' → relM g (mi κ (updM l k y)) (ms.modify j (fun e => { e with key := κ k, val := w' }))
 | [], ms, h, i => by
   simp only [mi, List.map_nil, relM] at h; subst h
   exact .inl ⟨rfl, rfl⟩
 | (k', x) :: l, ms, h, i => by
   simp only [mi, List.map_cons, relM] at h
   obtain ⟨m, ms', rfl, h1, h2, h3⟩ := h
   by_cases hk : k' = k
   · subst hk
     refine .inr ⟨x, 0, m, by simp [findM], ?_, h2, rfl, h1, ?_, ?_⟩
     · simp only [Instr.findNow, h1, hκ.same, decide_true, Nat.add_zero]
     · simp only [delM, if_true, List.eraseIdx_cons_zero]; exact h3
     · intro y w' hy
       simp only [updM, if_true, mi, List.map_cons, relM, List.modify_zero_cons]
       exact ⟨_, _, rfl, rfl, hy, h3⟩
   · have hne : ¬ k = k' := fun e => hk e.symm
     rcases findNow_rel hκ (k := k) (l := l) h3 (i + 1) with ⟨q1, q2⟩ | ⟨y, j, m', q1, q2, q3, q4, q5, q6, q7⟩
     · refine .inl ⟨by simp [findM, hk, q1], ?_⟩
       simp only [Instr.findNow, h1, hκ.same, hne, decide_false, q2]
     · refine .inr ⟨y, j + 1, m', by simp [findM, hk, q1], ?_, q3, by simpa using q4, q5, ?_, ?_⟩
       · simp only [Instr.findNow, h1, hκ.same, hne, decide_false, q2]
         congr 3; omega
       · simp only [delM, hk, if_false, mi, List.map_cons, relM, List.eraseIdx_cons_succ]
         exact ⟨_, _, rfl, h1, h2, q6⟩
       · intro z w' hz
         simp only [updM, hk, if_false, mi, List.map_cons, relM, List.modify_succ_cons]
         exact ⟨_, _, rfl, h1, h2, q7 z w' hz⟩
theorem relM_push {g : G} {k : K} {y : AV} {w' : Value} {c : Nat} (hy : rel g y w') : ∀ {l : List (K × AV)} {ms : List MapEntry}, relM g (mi κ l) ms → findM l k = none → relM g (mi κ (updM l k y)) (ms ++ [{ key := κ k, val := w', born := c }])
 | [], ms, h, _ => by
   simp only [mi, List.map_nil, relM] at h; subst h
   simp only [updM, mi, List.map_cons, List.map_nil, relM, List.nil_append]
   exact ⟨_, _, rfl, rfl, hy, rfl⟩
 | (k', x) :: l, ms, h, hf => by
   simp only [mi, List.map_cons, relM] at h
   obtain ⟨m, ms', rfl, h1, h2, h3⟩ := h
   have hk : ¬ k' = k := fun e => by simp [findM, e] at hf
   simp only [findM, hk, if_false] at hf
   simp only [updM, hk, if_false, mi, List.map_cons, relM, List.cons_append]
   exact ⟨_, _, rfl, h1, h2, relM_push hy h3 hf⟩
end
def setMap : List HP → Nat → List (Value × AV) → List HP
 | [], _, _ => []
 | .map b' es :: Δ, b, es' => if b' = b then .map b' es' :: Δ else .map b' es :: setMap Δ b es'
 | h :: Δ, b, es' => h :: setMap Δ b es'
def World.putB (w : World) (b : Nat) (o : Obj) : World := { w with heap := w.heap.setIfInBounds b o }
theorem putB_ne {w : World} {b b' : Nat} {o : Obj} (h : b' ≠ b) : (World.putB w b o).heap[b']? = w.heap[b']? := by
 simp only [World.putB]; rw [Array.getElem?_setIfInBounds_ne (Ne.symm h)]
theorem putB_self {w : World} {b : Nat} {o : Obj} (h : b < w.heap.size) : (World.putB w b o).heap[b]? = some o := by simp [World.putB, h]
theorem setMap_sep {g : G} {b : Nat} {es es' : List (Value × AV)} {ms : List MapEntry} {clock : Nat} (hb : ¬ g.fz b) (hlt : b < g.w.heap.size) (hr : relM ⟨g.fz, World.putB g.w b (.map ms.toArray clock)⟩ es' ms) (hc : ∀ m ∈ ms, m.born < clock) (hn : (ms.map (·.born)).Nodup) :
   ∀ {Δ : List HP} {B : Nat → Prop}, sep Δ g B → getMap Δ b = some es → sep (setMap Δ b es') ⟨g.fz, World.putB g.w b (.map ms.toArray clock)⟩ B := by
 have others : ∀ {Δ : List HP} {B : Nat → Prop}, sep Δ g B → (¬ B b) → sep Δ ⟨g.fz, World.putB g.w b (.map ms.toArray clock)⟩ B := by
   intro Δ B h hn
   refine sep_mono h (fun _ h => h) (fun _ h => h) (fun b' hb' => putB_ne ?_)
   rintro rfl
   exact hb'.elim hb hn
 have piece : ∀ {h : HP} {B1 : Nat → Prop}, h.toH.p g B1 → ¬ B1 b → h.toH.p ⟨g.fz, World.putB g.w b (.map ms.toArray clock)⟩ B1 := by
   intro h B1 hp hn
   refine h.toH.mono hp (fun _ h => h) (fun b' hb' => putB_ne ?_)
   rintro rfl
   exact hb'.elim hb hn
 intro Δ
 induction Δ with
 | nil => intro B _ h; simp [getMap] at h
 | cons x Δ ih =>
   intro B hs h
   obtain ⟨B1, h1, h2, h3⟩ := hs
   have recc : getMap Δ b = some es → ∀ y, setMap (x :: Δ) b es' = y :: setMap Δ b es' → y = x → sep (setMap (x :: Δ) b es') ⟨g.fz, World.putB g.w b (.map ms.toArray clock)⟩ B := by
     intro hg y e1 e2
     subst e2
     rw [e1]
     have hB := (getMap_spec h3 hg).1
     exact ⟨B1, h1, piece h2 hB.2, ih h3 hg⟩
   cases x with
   | map b' es0 =>
     simp only [getMap] at h
     split at h
     · rename_i e; subst e
       simp only [Option.some.injEq] at h
       subst h
       simp only [setMap, if_true]
       exact ⟨B1, h1, ⟨h2.1, ms, clock, putB_self hlt, hr, hc, hn⟩, others h3 (fun hh => hh.2 h2.1)⟩
     · rename_i e
       exact recc h _ (by simp only [setMap, if_neg e]) rfl
   | row _ _ _ _ _ => exact recc (by simpa only [getMap] using h) _ (by simp only [setMap]) rfl
   | box _ _ _ => exact recc (by simpa only [getMap] using h) _ (by simp only [setMap]) rfl
   | pred _ => exact recc (by simpa only [getMap] using h) _ (by simp only [setMap]) rfl
theorem setMap_sim {g : G} {B : Nat → Prop} {Δ : List HP} {b : Nat} {es es' : List (Value × AV)} {ms : List MapEntry} {clock : Nat} (sm : Sim g B Δ) (hg : getMap Δ b = some es) (hr : relM g es' ms) (hc : ∀ m ∈ ms, m.born < clock) (hn : (ms.map (·.born)).Nodup) :
   Ext g B ⟨g.fz, World.putB g.w b (.map ms.toArray clock)⟩ B ∧ Sim ⟨g.fz, World.putB g.w b (.map ms.toArray clock)⟩ B (setMap Δ b es') := by
 obtain ⟨hB, _⟩ := getMap_spec sm.sep hg
 have hlt := sm.blt b hB
 have hnf : ¬ g.fz b := fun hf => sm.disj b hf hB
 have hle : Le g ⟨g.fz, World.putB g.w b (.map ms.toArray clock)⟩ := ⟨fun _ h => h, fun b' hb' => putB_ne (by rintro rfl; exact hnf hb')⟩
 refine ⟨⟨rfl, rfl, rfl, by simp [World.putB], fun b' _ hn => putB_ne (by rintro rfl; exact hn hB), fun _ h => h, fun _ h => .inl h, fun _ h => .inl h⟩, ?_⟩
 exact ⟨fun b' hb' => by simpa [World.putB] using sm.fzlt b' hb', fun b' hb' => by simpa [World.putB] using sm.blt b' hb', sm.disj, setMap_sep hnf hlt (relM_mono hle hr) hc hn sm.sep hg⟩
section
variable {P : Program} {env : Env} {Δ : List HP} {K : Type} [DecidableEq K] {κ : K → Value} {d : TypeDesc}
def mapTy (P : Program) (t : TypeId) : Option (TypeId × TypeDesc × TypeId × Value) :=
 match P.underlying t with
 | some (.map kt vt) => match P.underlying kt, (P.info? vt).bind (·.zero) with
   | some d, some z => some (kt, d, vt, z)
   | _, _ => none
 | _ => none
theorem mapTy_spec {t kt vt : TypeId} {z : Value} (h : mapTy P t = some (kt, d, vt, z)) : P.underlying t = some (.map kt vt) ∧ P.underlying kt = some d ∧ ∀ w, (zeroValue vt).run P w = .ok z w := by
 unfold mapTy at h
 split at h
 · rename_i kt' vt' hu
   split at h
   · rename_i d' z' h1 h2
     simp only [Option.some.injEq, Prod.mk.injEq] at h
     obtain ⟨rfl, rfl, rfl, rfl⟩ := h
     refine ⟨hu, h1, fun w => ?_⟩
     unfold zeroValue typeInfo
     cases hi : P.info? vt' with
     | none => simp [hi] at h2
     | some i =>
       simp only [hi, Option.bind_some] at h2
       simp only [Sem.run_bind, run_program, Result.andThen_ok, hi, Sem.run_pure, h2]
   · simp at h
 · simp at h
theorem lookup_op {o : Oper} {t kt vt : TypeId} {z : Value} {x y : Operand} {b : Nat} {k : K} {l : List (K × AV)} (hop : o.op = .lookup t x y false) (hκ : KeyOK κ d) (ht : mapTy P t = some (kt, d, vt, z)) (hx : env.eval x = some (.c (.map (some b)))) (hy : env.eval y = some (.c (κ k)))
   (hg : getMap Δ b = some (mi κ l)) : OpOK P env Δ o (fun r Δ' => r = (findM l k).getD (.c z) ∧ Δ' = Δ) := by
 intro g B tmps sm he
 obtain ⟨hu, hk, hz⟩ := mapTy_spec ht
 have h1 := Env.eval_rel he hx
 have h2 := Env.eval_rel he hy
 simp only [rel] at h1 h2
 obtain ⟨hB, ms, clock, hm1, hm2, hm3, hm4⟩ := getMap_spec sm.sep hg
 have hzero := hz g.w
 have hrun : (Instr.lookup t (.map (some b)) (κ k) false).run P g.w = .ok (match Instr.findNow d (κ k) ms 0 with | some (some (_, v)) => v | _ => z) g.w := by
   unfold Instr.lookup
   simp only [Sem.run_bind, run_underlying hu, Result.andThen_ok, MapKept.run_getObj_map hm1, Sem.run_pure, run_checkKey hk (hκ.key k)]
   rcases findNow_rel hκ (k := k) hm2 0 with ⟨q1, q2⟩ | ⟨x', j, m, q1, q2, _⟩
   · rw [run_findKey hk q2, q2]
     simp only [Result.andThen_ok, Sem.run_bind, hzero, Sem.run_pure, Bool.false_eq_true, if_false]
   · rw [run_findKey hk q2, q2]
     simp only [Result.andThen_ok, Sem.run_bind, Sem.run_pure, Bool.false_eq_true, if_false]
 refine ⟨g, B, _, Δ, .value (match Instr.findNow d (κ k) ms 0 with | some (some (_, v)) => v | _ => z), _, ?_, .inl rfl, .refl _ _, sm, ?_, rfl, rfl⟩
 · simp only [execOp, hop, h1, h2, Sem.run_bind, hrun, Result.andThen_ok, Sem.run_pure]
 · rcases findNow_rel hκ (k := k) hm2 0 with ⟨q1, q2⟩ | ⟨x', j, m, q1, q2, q3, _⟩
   · rw [q1, q2]; exact rel_c
   · rw [q1, q2]; exact q3
theorem look_read {n : Nat} {ops : Array Oper} {i : Nat} {e : Env} {dd : Tmp} {t kt vt : TypeId} {z : Value} {x y : Operand} {b : Nat} {k : K} {l : List (K × AV)} {ty : TypeId} {pos : String} {aft : Array Edge} (ho : ops[i]? = some ⟨some dd, .lookup t x y false, ty, pos, aft, none⟩) (hd : dd < n)
   (hκ : KeyOK κ d) (ht : mapTy P t = some (kt, d, vt, z)) (hx : e.eval x = some (.c (.map (some b)))) (hy : e.eval y = some (.c (κ k))) (hg : getMap Δ b = some (mi κ l)) : LVal P ops n e Δ i ((findM l k).getD (.c z)) := by
 refine .look ho rfl (by simpa using hd) (fun e' Δ' ha hgr => ?_)
 exact lookup_op rfl hκ ht (agree_eval ho ha (by simp [Op.operands]) hx) (agree_eval ho ha (by simp [Op.operands]) hy) (hgr.choose_spec.2.2 _ _ hg)
theorem Can_look {n : Nat} {ops : Array Oper} {i : Nat} {kont : Env → List HP → Prop} {V : Env} {c : List (Nat × Knd)} {dd : Tmp} {t kt vt : TypeId} {z : Value} {x y : Operand} {b : Nat} {k : K} {l : List (K × AV)} {ty : TypeId} {pos : String} {aft : Array Edge} (ho : ops[i]? = some ⟨some dd, .lookup t x y false, ty, pos, aft, none⟩) (hd : dd < n)
   (hκ : KeyOK κ d) (ht : mapTy P t = some (kt, d, vt, z)) (hx : V.eval x = some (.c (.map (some b)))) (hy : V.eval y = some (.c (κ k))) (hg : getMap Δ b = some (mi κ l)) (hk : Can P ops n kont c ((dd, (findM l k).getD (.c z)) :: V) Δ) : Can P ops n kont ((i, .read) :: c) V Δ :=
 ⟨_, look_read ho hd hκ ht hx hy hg, by rw [show dstOf ops i = some dd from by simp [dstOf, ho]]; exact hk⟩
theorem Can_newcall {n : Nat} {ops : Array Oper} {i : Nat} {kont : Env → List HP → Prop} {V : Env} {c : List (Nat × Knd)} {dst : Option Tmp} {h : FuncId} {as : List AV} {R1 : APost} (hc : callAt ops V n i = some (dst, h, as)) (hs : ACalls P h as [] R1) (hk : ∀ x D, R1 (.ret x) D → Can P ops n kont c (V.put dst x) (D ++ Δ))
   (hn : ∀ x Δ', ¬ R1 (.pan x) Δ') : Can P ops n kont ((i, .new) :: c) V Δ :=
 .call hc hs (fun x D hr _ => by rw [callAt_dst hc]; exact hk x D hr) hn
theorem update_op {o : Oper} {t kt vt : TypeId} {z : Value} {m x y : Operand} {b : Nat} {k : K} {v : AV} {l : List (K × AV)} (hop : o.op = .mapUpdate t m x y) (hκ : KeyOK κ d) (ht : mapTy P t = some (kt, d, vt, z)) (hm : env.eval m = some (.c (.map (some b)))) (hx : env.eval x = some (.c (κ k))) (hy : env.eval y = some v)
   (hg : getMap Δ b = some (mi κ l)) : OpOK P env Δ o (fun r Δ' => r = .c undef ∧ Δ' = setMap Δ b (mi κ (updM l k v))) := by
 intro g B tmps sm he
 obtain ⟨hu, hk, hz⟩ := mapTy_spec ht
 have h1 := Env.eval_rel he hm
 have h2 := Env.eval_rel he hx
 have h3 := Env.eval_rel he hy
 simp only [rel] at h1 h2
 obtain ⟨hB, ms, clock, hm1, hm2, hm3, hm4⟩ := getMap_spec sm.sep hg
 have fin : ∀ (ms' : List MapEntry) (clock' : Nat), relM g (mi κ (updM l k v)) ms' → (∀ m ∈ ms', m.born < clock') → (ms'.map (·.born)).Nodup →
     (Instr.mapUpdate t (.map (some b)) (κ k) (({ tmps := tmps, defers := [] } : Act).eval y)).run P g.w = .ok () (World.putB g.w b (.map ms'.toArray clock')) →
     ∃ g' B' x' Δ' nx v', (execOp (({ tmps := tmps, defers := [] } : Act).eval) o).run P g.w = .ok nx g'.w ∧ (nx = .value v' ∨ nx = .skip ∧ v' = undef) ∧ Ext g B g' B' ∧ Sim g' B' Δ' ∧ rel g' x' v' ∧ x' = .c undef ∧ Δ' = setMap Δ b (mi κ (updM l k v)) := by
   intro ms' clock' a1 a2 a3 a4
   obtain ⟨e1, e2⟩ := setMap_sim sm hg a1 a2 a3
   refine ⟨_, B, .c undef, _, .skip, undef, ?_, .inr ⟨rfl, rfl⟩, e1, e2, rel_c, rfl, rfl⟩
   simp only [execOp, hop, h1, h2, Sem.run_bind, a4, Result.andThen_ok, Sem.run_pure]
 rcases findNow_rel hκ (k := k) hm2 0 with ⟨q1, q2⟩ | ⟨x', j, m', q1, q2, q3, q4, q5, q6, q7⟩
 · refine fin (ms ++ [{ key := κ k, val := ({ tmps := tmps, defers := [] } : Act).eval y, born := clock }]) (clock + 1) (relM_push h3 hm2 q1) ?_ ?_ ?_
   · intro m' hm'
     rcases List.mem_append.1 hm' with hm' | hm'
     · have := hm3 m' hm'; omega
     · simp at hm'; subst hm'; simp
   · rw [List.map_append]
     refine List.nodup_append.2 ⟨hm4, by simp, ?_⟩
     intro a ha c hc
     obtain ⟨m', hm', rfl⟩ := List.mem_map.1 ha
     have := hm3 m' hm'
     simp at hc; subst hc; omega
   · unfold Instr.mapUpdate
     simp only [Sem.run_bind, run_underlying hu, Result.andThen_ok, MapKept.run_getObj_map hm1, run_checkKey hk (hκ.key k)]
     rw [run_findKey hk q2]
     simp only [Result.andThen_ok]
     rw [MapKept.run_setObj_map _ hm1]
     simp [World.putB]
 · refine fin (ms.modify j (fun e => { e with key := κ k, val := ({ tmps := tmps, defers := [] } : Act).eval y })) clock (q7 v _ h3) ?_ ?_ ?_
   · have hb : ((ms.modify j (fun e => { e with key := κ k, val := ({ tmps := tmps, defers := [] } : Act).eval y })).map (·.born)) = ms.map (·.born) := by
       apply List.ext_getElem?
       intro i
       simp only [List.getElem?_map, List.getElem?_modify]
       by_cases hij : j = i
       · subst hij; cases ms[j]? <;> simp
       · simp [hij]
     intro m2 hm2'
     have : m2.born ∈ ms.map (·.born) := by rw [← hb]; exact List.mem_map.2 ⟨m2, hm2', rfl⟩
     obtain ⟨m3, h3', e3⟩ := List.mem_map.1 this
     rw [← e3]; exact hm3 m3 h3'
   · have hb : ((ms.modify j (fun e => { e with key := κ k, val := ({ tmps := tmps, defers := [] } : Act).eval y })).map (·.born)) = ms.map (·.born) := by
       apply List.ext_getElem?
       intro i
       simp only [List.getElem?_map, List.getElem?_modify]
       by_cases hij : j = i
       · subst hij; cases ms[j]? <;> simp
       · simp [hij]
     rw [hb]; exact hm4
   · unfold Instr.mapUpdate
     simp only [Sem.run_bind, run_underlying hu, Result.andThen_ok, MapKept.run_getObj_map hm1, run_checkKey hk (hκ.key k)]
     rw [run_findKey hk q2]
     have hst : (Instr.keyThatStays ((((ms.toArray)[0 + j]?).map (·.key)).getD (κ k)) (κ k)).run P g.w = .ok (κ k) g.w := by
       unfold Instr.keyThatStays
       have : (((ms.toArray)[0 + j]?).map (·.key)).getD (κ k) = κ k := by simp [q4, q5]
       rw [this, if_pos (hκ.bits k), Sem.run_pure]
     simp only [Result.andThen_ok, Sem.run_bind, hst]
     rw [MapKept.run_setObj_map _ hm1]
     simp [World.putB]
theorem delete_bi {t kt vt : TypeId} {z : Value} {ats : List TypeId} {b : Nat} {k : K} {l : List (K × AV)} (hκ : KeyOK κ d) (ht : mapTy P t = some (kt, d, vt, z)) (hg : getMap Δ b = some (mi κ l)) :
   BiOK P .delete (t :: ats) [.c (.map (some b)), .c (κ k)] Δ (fun r Δ' => r = .c (.tuple #[]) ∧ Δ' = setMap Δ b (mi κ (delM l k))) := by
 intro g B us ats' ty cs' hats sm hl
 obtain ⟨hu, hk, hz⟩ := mapTy_spec ht
 simp only [relL] at hl
 obtain ⟨u, _, rfl, hbu, w, _, rfl, hx, rfl⟩ := hl
 simp only [rel] at hbu hx; subst hbu; subst hx
 obtain ⟨hB, ms, clock, hm1, hm2, hm3, hm4⟩ := getMap_spec sm.sep hg
 have h0 : ats'[0]? = some t := by rw [← Array.getElem?_toList, hats]; rfl
 have fin : ∀ (ms' : List MapEntry), relM g (mi κ (delM l k)) ms' → (∀ m ∈ ms', m.born < clock) → (ms'.map (·.born)).Nodup →
     (Builtin.delete_ ats' ty #[.map (some b), κ k]).run P g.w = .ok (.tuple #[]) (World.putB g.w b (.map ms'.toArray clock)) →
     ∃ g' B' x Δ' v, (builtin .delete ats' ty cs' [.map (some b), κ k].toArray).run P g.w = .ok (.value v) g'.w ∧ Ext g B g' B' ∧ Sim g' B' Δ' ∧ rel g' x v ∧ x = .c (.tuple #[]) ∧ Δ' = setMap Δ b (mi κ (delM l k)) := by
   intro ms' a1 a2 a3 a4
   obtain ⟨e1, e2⟩ := setMap_sim sm hg a1 a2 a3
   refine ⟨_, B, .c (.tuple #[]), _, .tuple #[], ?_, e1, e2, rel_c, rfl, rfl⟩
   simp only [builtin, Sem.run_bind, a4, Result.andThen_ok, Sem.run_pure]
 have pre : ∀ a, Instr.findNow d (κ k) ms 0 = some a → (Builtin.delete_ ats' ty #[.map (some b), κ k]).run P g.w = ((match a with | some (i, _) => setObj b (.map (ms.toArray.eraseIdxIfInBounds i) clock) | none => setObj b (.map ms.toArray clock)) >>= fun _ => pure (.tuple #[]) : Sem Value).run P g.w := by
   intro a ha
   unfold Builtin.delete_
   simp only [h0, List.getElem?_toArray, List.getElem?_cons_zero, List.getElem?_cons_succ]
   simp only [Sem.run_bind, run_underlying hu, Result.andThen_ok, MapKept.run_getObj_map hm1, run_checkKey hk (hκ.key k)]
   rw [run_findKey hk ha]
   simp only [Result.andThen_ok]
   cases a with
   | none => simp only [Sem.run_bind]
   | some p => simp only [Sem.run_bind]
 rcases findNow_rel hκ (k := k) hm2 0 with ⟨q1, q2⟩ | ⟨x', j, m', q1, q2, q3, q4, q5, q6, q7⟩
 · have hdl : delM l k = l := del_none q1
   refine fin ms (by rw [hdl]; exact hm2) hm3 hm4 ?_
   rw [pre _ q2]
   simp only [Sem.run_bind]
   rw [MapKept.run_setObj_map _ hm1]
   simp [World.putB]
 · have hsub : (ms.eraseIdx j).Sublist ms := List.eraseIdx_sublist ..
   have hlt : j < ms.length := by
     rcases Nat.lt_or_ge j ms.length with h | h
     · exact h
     · simp [List.getElem?_eq_none h] at q4
   refine fin (ms.eraseIdx j) q6 (fun m hm => hm3 m (hsub.subset hm)) ((hsub.map _).nodup hm4) ?_
   rw [pre _ q2]
   simp only [Sem.run_bind]
   rw [MapKept.run_setObj_map _ hm1]
   simp [World.putB, Array.eraseIdxIfInBounds, hlt]
theorem makeMap_op {o : Oper} {t : TypeId} (hop : o.op = .makeMap t none) : OpOK P env Δ o (fun r Δ' => ∃ b, fresh Δ b ∧ r = .c (.map (some b)) ∧ Δ' = .map b [] :: Δ) := by
 intro g B tmps sm he
 have hfr : fresh Δ g.w.heap.size := fresh_of sm.sep (fun hB => by have := sm.blt _ hB; omega)
 have hgs := grow_sim (x := .map g.w.heap.size []) (o := .map #[] 0) sm ⟨rfl, [], 0, push_new, rfl, by simp, by simp⟩
 refine ⟨_, _, _, _, .value (.map (some g.w.heap.size)), _, ?_, .inl rfl, hgs.1, hgs.2, rel_c, g.w.heap.size, hfr, rfl, rfl⟩
 simp only [execOp, hop, Option.map_none, Instr.makeMap, Sem.run_bind, run_newObj, Result.andThen_ok, Sem.run_pure]
 rfl
theorem J_xop {f : Shape} {n : Nat} {R : APost} {k : List Item} {ops : Array Oper} {i : Nat} {is : List Nat} {dst : Option Tmp} {h : FuncId} {as : List AV} {KK : AV → List HP → Prop}
   (hat : callAt ops env n i = some (dst, h, as)) (hs : ∀ g B us, Sim g B Δ → relL g as us → ∃ g' B' x Δ' v, (callFunc h us.toArray).run P g.w = .ok (.value v) g'.w ∧ Ext g B g' B' ∧ Sim g' B' Δ' ∧ rel g' x v ∧ KK x Δ') (hk : ∀ x Δ', KK x Δ' → J P f n R (.inRegion ops is :: k) (env.put dst x) Δ') : J P f n R (.inRegion ops (i :: is) :: k) env Δ := by
 unfold callAt at hat
 split at hat
 · rename_i dst' fo args ats ty pos aft gd ho
   split at hat
   · rename_i hw
     split at hat
     · rename_i hd
       split at hat
       · rename_i h' fs cs xs hfo has
         simp only [Option.some.injEq, Prod.mk.injEq] at hat
         obtain ⟨rfl, rfl, rfl⟩ := hat
         refine J_op (K := KK) ho (by simpa only [awanted] using hw) hd ?_ hk
         intro g B tmps sm he
         have hf := Env.eval_rel he hfo
         simp only [rel] at hf
         obtain ⟨us, vs, hfv, hu, hv⟩ := hf
         have hargs := evalL_rel he has
         have hrel : relL g (fs ++ xs ++ cs) (us ++ args.toList.map (({ tmps := tmps, defers := [] } : Act).eval) ++ vs) := relL_append (relL_append hu hargs) hv
         obtain ⟨g', B', x, Δ', v, h1, h2, h3, h4, h5⟩ := hs g B _ sm hrel
         refine ⟨g', B', x, Δ', .value v, v, ?_, .inl rfl, h2, h3, h4, h5⟩
         have e1 : (us ++ args.toList.map (({ tmps := tmps, defers := [] } : Act).eval) ++ vs).toArray = us.toArray ++ args.map (({ tmps := tmps, defers := [] } : Act).eval) ++ vs.toArray := by simp
         rw [e1] at h1
         simp only [execOp, resolve, hfv, Deferred.ofValue, Sem.run_bind, Sem.run_pure, Result.andThen_ok, invoke]
         exact h1
       · simp at hat
     · simp at hat
   · simp at hat
 · simp at hat
theorem clone_x {h : FuncId} {fn : Func} {t : TypeId} {b : Nat} {es : List (Value × AV)} (hf : P.funcs[h]? = some fn) (hname : (fn.name == "runtime.NumGoroutine") = false)
   (hb : fn.body.isNone = true) (hn : Extern.findNext fn = none) (he : Extern.find fn = some Extern.MapsClone.clone) (hg : getMap Δ b = some es) :
   ∀ g B us, Sim g B Δ → relL g [.ifc t (.c (.map (some b)))] us → ∃ g' B' x Δ' v, (callFunc h us.toArray).run P g.w = .ok (.value v) g'.w ∧ Ext g B g' B' ∧ Sim g' B' Δ' ∧ rel g' x v ∧ ∃ b', fresh Δ b' ∧ x = .ifc t (.c (.map (some b'))) ∧ Δ' = .map b' es :: Δ := by
 intro g B us sm hl
 simp only [relL, rel] at hl
 obtain ⟨u, _, rfl, ⟨v, rfl, rfl⟩, rfl⟩ := hl
 obtain ⟨hB, ms, clock, hm1, hm2, hm3, hm4⟩ := getMap_spec sm.sep hg
 have hfr : fresh Δ g.w.heap.size := fresh_of sm.sep (fun hB => by have := sm.blt _ hB; omega)
 have hgs := grow_sim (x := .map g.w.heap.size es) (o := .map ms.toArray clock) sm ⟨rfl, ms, clock, push_new, relM_mono (g := g) (g' := g.grow _) ⟨fun _ h => h, fun b hb => push_get (sm.fzlt b hb)⟩ hm2, hm3, hm4⟩
 refine ⟨_, _, _, _, .iface t (.map (some g.w.heap.size)), ?_, hgs.1, hgs.2, by simp only [rel]; exact ⟨_, rfl, rfl⟩, g.w.heap.size, hfr, rfl, rfl⟩
 have e : Extern.MapsClone.clone [Value.iface t (.map (some b))].toArray = (getObj b >>= fun o => match o with | .map entries clock => (newObj (.map entries clock) >>= fun r => pure (.iface t (.map (some r)))) | _ => stuck "maps.clone: a map expected" : Sem Value) := rfl
 rw [run_callFunc_extern hf hname hb hn he, e]
 simp only [Sem.run_bind, MapKept.run_getObj_map hm1, Result.andThen_ok, run_newObj, Sem.run_pure]
 rfl
end
attribute [go_sem] getMap setMap
end
end Go.Av
namespace Go.Av
open Go
section
section
variable {P : Program} {env : Env}
end
end
end Go.Av
