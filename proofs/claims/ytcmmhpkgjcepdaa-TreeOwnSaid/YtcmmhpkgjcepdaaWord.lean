/- Words of 32 bits and bytes as values, and what the operations do to them. -/
import Derived.Test.YtcmmhpkgjcepdaaBaseAll
namespace Go.EW
/-! words of 32 bits and bytes, as values -/
def U (x : UInt32) : Value := .int .u32 (x.toNat : Int)
theorem wrap_u32 (t : Nat) : IntKind.wrap .u32 (t : Int) = ((t % 4294967296 : Nat) : Int) := by
  simp only [IntKind.wrap, IntKind.signed, IntKind.bits]
  simp
theorem wrap_u8 (t : Nat) : IntKind.wrap .u8 (t : Int) = ((t % 256 : Nat) : Int) := by
  simp only [IntKind.wrap, IntKind.signed, IntKind.bits]
  simp
theorem ofInt_nat (w t : Nat) : (BitVec.ofInt w (t : Int)).toNat = t % 2 ^ w := by
  rw [BitVec.toNat_ofInt]
  omega
theorem bv32 (x : UInt32) : BitVec.ofInt 32 (x.toNat : Int) = x.toBitVec := by
  apply BitVec.eq_of_toNat_eq
  rw [ofInt_nat, Nat.mod_eq_of_lt x.toNat_lt]; rfl
theorem bv8 (x : UInt8) : BitVec.ofInt 8 (x.toNat : Int) = x.toBitVec := by
  apply BitVec.eq_of_toNat_eq
  rw [ofInt_nat, Nat.mod_eq_of_lt x.toNat_lt]; rfl
theorem wrapU (x : UInt32) : IntKind.wrap .u32 (x.toNat : Int) = x.toNat := by rw [wrap_u32, Nat.mod_eq_of_lt x.toNat_lt]
theorem wrapB (x : UInt8) : IntKind.wrap .u8 (x.toNat : Int) = x.toNat := by rw [wrap_u8, Nat.mod_eq_of_lt x.toNat_lt]
theorem xor_U (a b : UInt32) : bitI .xor .u32 (a.toNat : Int) (b.toNat : Int) = ((a ^^^ b).toNat : Int) := by
  show IntKind.wrap .u32 (((BitVec.ofInt 32 (a.toNat : Int) ^^^ BitVec.ofInt 32 (b.toNat : Int)).toNat : Nat) : Int) = _
  rw [bv32, bv32]; exact wrapU (a ^^^ b)
theorem and_U (a b : UInt32) : bitI .and .u32 (a.toNat : Int) (b.toNat : Int) = ((a &&& b).toNat : Int) := by
  show IntKind.wrap .u32 (((BitVec.ofInt 32 (a.toNat : Int) &&& BitVec.ofInt 32 (b.toNat : Int)).toNat : Nat) : Int) = _
  rw [bv32, bv32]; exact wrapU (a &&& b)
theorem or_U (a b : UInt32) : bitI .or .u32 (a.toNat : Int) (b.toNat : Int) = ((a ||| b).toNat : Int) := by
  show IntKind.wrap .u32 (((BitVec.ofInt 32 (a.toNat : Int) ||| BitVec.ofInt 32 (b.toNat : Int)).toNat : Nat) : Int) = _
  rw [bv32, bv32]; exact wrapU (a ||| b)
theorem and_B8 (a b : UInt8) : bitI .and .u8 (a.toNat : Int) (b.toNat : Int) = ((a &&& b).toNat : Int) := by
  show IntKind.wrap .u8 (((BitVec.ofInt 8 (a.toNat : Int) &&& BitVec.ofInt 8 (b.toNat : Int)).toNat : Nat) : Int) = _
  rw [bv8, bv8]; exact wrapB (a &&& b)
theorem or_B8 (a b : UInt8) : bitI .or .u8 (a.toNat : Int) (b.toNat : Int) = ((a ||| b).toNat : Int) := by
  show IntKind.wrap .u8 (((BitVec.ofInt 8 (a.toNat : Int) ||| BitVec.ofInt 8 (b.toNat : Int)).toNat : Nat) : Int) = _
  rw [bv8, bv8]; exact wrapB (a ||| b)
theorem xor_B8 (a b : UInt8) : bitI .xor .u8 (a.toNat : Int) (b.toNat : Int) = ((a ^^^ b).toNat : Int) := by
  show IntKind.wrap .u8 (((BitVec.ofInt 8 (a.toNat : Int) ^^^ BitVec.ofInt 8 (b.toNat : Int)).toNat : Nat) : Int) = _
  rw [bv8, bv8]; exact wrapB (a ^^^ b)
theorem not_U (a : UInt32) : bitI .xor .u32 IntKind.u32.max (a.toNat : Int) = ((~~~a).toNat : Int) := by
  show IntKind.wrap .u32 (((BitVec.ofInt 32 IntKind.u32.max ^^^ BitVec.ofInt 32 (a.toNat : Int)).toNat : Nat) : Int) = _
  rw [bv32]
  have h : (BitVec.ofInt 32 IntKind.u32.max ^^^ a.toBitVec) = (~~~a).toBitVec := by
    rw [show BitVec.ofInt 32 IntKind.u32.max = BitVec.allOnes 32 from by decide, BitVec.allOnes_xor]; rfl
  rw [h]; exact wrapU (~~~a)
theorem add_U (a b : UInt32) : IntKind.wrap .u32 ((a.toNat : Int) + (b.toNat : Int)) = ((a + b).toNat : Int) := by
  rw [show (a.toNat : Int) + (b.toNat : Int) = ((a.toNat + b.toNat : Nat) : Int) by omega, wrap_u32, UInt32.toNat_add]
theorem shr_U (a : UInt32) (n : Nat) (hn : n < 32) : shrI .u32 (a.toNat : Int) n = ((a >>> UInt32.ofNat n).toNat : Int) := by
  unfold shrI
  rw [show min n IntKind.u32.bits = n from Nat.min_eq_left (by show n ≤ 32; omega), UInt32.toNat_shiftRight, UInt32.toNat_ofNat', Nat.mod_eq_of_lt (a := n) (by omega), Nat.mod_eq_of_lt (by omega), Nat.shiftRight_eq_div_pow]
  have h : (2 : Int) ^ n = ((2 ^ n : Nat) : Int) := by simp
  rw [h, Int.fdiv_eq_ediv_of_nonneg _ (Int.natCast_nonneg _)]
  exact (Int.natCast_ediv _ _).symm
theorem shl_U (a : UInt32) (n : Nat) (hn : n < 32) : shlI .u32 (a.toNat : Int) n = ((a <<< UInt32.ofNat n).toNat : Int) := by
  unfold shlI
  rw [show min n IntKind.u32.bits = n from Nat.min_eq_left (by show n ≤ 32; omega), UInt32.toNat_shiftLeft, UInt32.toNat_ofNat', Nat.mod_eq_of_lt (a := n) (by omega), Nat.mod_eq_of_lt (a := n) (by omega), Nat.shiftLeft_eq]
  have h : (2 : Int) ^ n = ((2 ^ n : Nat) : Int) := by simp
  rw [h, ← Int.natCast_mul, wrap_u32]
section
variable {e : Operand → Value} {T T' : TypeId} {x y : Operand} {a b : UInt32} {c d : UInt8}
theorem kb_u32 : Nat.beq (kn .u32) (kn .u32) = true := rfl
theorem u_add (hx : e x = U a) (hy : e y = U b) : pureV e (.binOp .add T x y T') = some (U (a + b)) := by
  simp only [pureV, hx, hy, U, binV]
  show some (Value.int .u32 (IntKind.wrap .u32 _)) = _
  rw [add_U]
theorem u_xor (hx : e x = U a) (hy : e y = U b) : pureV e (.binOp .xor T x y T') = some (U (a ^^^ b)) := by
  simp only [pureV, hx, hy, U, binV]
  show some (Value.int .u32 (bitI .xor .u32 _ _)) = _
  rw [xor_U]
theorem u_and (hx : e x = U a) (hy : e y = U b) : pureV e (.binOp .and T x y T') = some (U (a &&& b)) := by
  simp only [pureV, hx, hy, U, binV]
  show some (Value.int .u32 (bitI .and .u32 _ _)) = _
  rw [and_U]
theorem u_or (hx : e x = U a) (hy : e y = U b) : pureV e (.binOp .or T x y T') = some (U (a ||| b)) := by
  simp only [pureV, hx, hy, U, binV]
  show some (Value.int .u32 (bitI .or .u32 _ _)) = _
  rw [or_U]
theorem u_not (hx : e x = U a) : pureV e (.unOp .xor T x) = some (U (~~~a)) := by
  simp only [pureV, hx, U, unV]
  show some (Value.int .u32 (bitI .xor .u32 IntKind.u32.max _)) = _
  rw [not_U]
theorem u_shr {k : IntKind} {n : Nat} (hx : e x = U a) (hy : e y = .int k (n : Int)) (hn : n < 32) : pureV e (.binOp .shr T x y T') = some (U (a >>> UInt32.ofNat n)) := by
  simp only [pureV, hx, hy, U, binV]
  show some (Value.int .u32 (shrI .u32 _ n)) = _
  rw [shr_U _ _ hn]
theorem u_shl {k : IntKind} {n : Nat} (hx : e x = U a) (hy : e y = .int k (n : Int)) (hn : n < 32) : pureV e (.binOp .shl T x y T') = some (U (a <<< UInt32.ofNat n)) := by
  simp only [pureV, hx, hy, U, binV]
  show some (Value.int .u32 (shlI .u32 _ n)) = _
  rw [shl_U _ _ hn]
theorem v_xor (hx : e x = B c) (hy : e y = B d) : pureV e (.binOp .xor T x y T') = some (B (c ^^^ d)) := by
  simp only [pureV, hx, hy, B, binV]
  show some (Value.int .u8 (bitI .xor .u8 _ _)) = _
  rw [xor_B8]
theorem v_and (hx : e x = B c) (hy : e y = B d) : pureV e (.binOp .and T x y T') = some (B (c &&& d)) := by
  simp only [pureV, hx, hy, B, binV]
  show some (Value.int .u8 (bitI .and .u8 _ _)) = _
  rw [and_B8]
theorem v_or (hx : e x = B c) (hy : e y = B d) : pureV e (.binOp .or T x y T') = some (B (c ||| d)) := by
  simp only [pureV, hx, hy, B, binV]
  show some (Value.int .u8 (bitI .or .u8 _ _)) = _
  rw [or_B8]
end
section
variable {P : Program} {w : World}
/-- a byte as a word, a word's lowest byte -/
theorem q_byteU {e : Operand → Value} {o : Oper} {x : Operand} {T T' : TypeId} {u : UInt8} (ho : o.op = .convert T T' x) (hs : (P.underlying T).isSome = true) (hT : intT P T' = some .u32) (hx : e x = B u) :
    (execOp e o).run P w = .ok (.value (U u.toUInt32)) w := by
  rw [q_convInt (k' := .u8) ho hs hT hx]
  have h : IntKind.wrap .u32 (u.toNat : Int) = (u.toUInt32.toNat : Int) := by
    rw [wrap_u32, UInt8.toNat_toUInt32]
    have := u.toNat_lt
    congr 1
    omega
  rw [h]; rfl
theorem q_lowB {e : Operand → Value} {o : Oper} {x : Operand} {T T' : TypeId} {a : UInt32} (ho : o.op = .convert T T' x) (hs : (P.underlying T).isSome = true) (hT : intT P T' = some .u8) (hx : e x = U a) :
    (execOp e o).run P w = .ok (.value (B a.toUInt8)) w := by
  rw [q_convInt (k' := .u32) ho hs hT hx]
  have h : IntKind.wrap .u8 (a.toNat : Int) = (a.toUInt8.toNat : Int) := by
    rw [wrap_u8, UInt32.toNat_toUInt8]
  rw [h]; rfl
end
theorem q_buildArr {P : Program} {w : World} {e : Operand → Value} {o : Oper} {T E : TypeId} {len sz : Nat} {parts : List (Nat × Operand)} {z : Value} {cs : List Value} (ho : o.op = .build T parts.toArray) (hT : arrT P T = some (len, E, sz)) (hz : zeroV P T = some z)
    (hf : fillL (fun i => some (i * sz, sz)) z.cells.toList (parts.map fun p => (p.1, e p.2)) = some cs) : (execOp e o).run P w = .ok (.value (.agg cs.toArray)) w := by
  obtain ⟨inf, hu, hi, rfl⟩ := arrT_spec hT
  have hfl := fill_eq _ _ _ _ hf
  unfold execOp
  simp only [ho, Instr.build, Sem.run_bind, run_zero hz, Result.andThen_ok, run_underlying hu, run_sizeOf hi]
  rw [show (List.map (fun p : Nat × Operand => (p.1, e p.2)) parts) = (Array.map (fun x : Nat × Operand => match x with | (i, x) => (i, e x)) parts.toArray).toList by simp] at hfl
  simp only [Array.toArray_toList] at hfl
  rw [hfl]
  rfl
theorem q_indexArrE {P : Program} {w : World} {e : Operand → Value} {o : Oper} {T E : TypeId} {x i : Operand} {b k sz len : Nat} {kd : IntKind} {j : Int} (j' : Nat) (ho : o.op = .indexAddr T x i) (hT : arrT P T = some (len, E, sz))
    (hx : e x = .pointer (some ⟨b, k, none⟩)) (hi : e i = .int kd j) (hj : j = (j' : Int)) (h0 : j' < len) : (execOp e o).run P w = .ok (.value (.pointer (some ⟨b, k + j' * sz, none⟩))) w := by
  subst hj; exact q_indexArrN ho hT hx hi h0
theorem q_indexSliceE {P : Program} {w : World} {e : Operand → Value} {o : Oper} {T E : TypeId} {x i : Operand} {a : Option Addr} {b k sz by_ len cap : Nat} {kd : IntKind} {j : Int} (j' : Nat) (ho : o.op = .indexAddr T x i) (hT : elT P T = some (E, sz, by_))
    (hx : e x = .slice a len cap) (ha : a = some ⟨b, k, none⟩) (hi : e i = .int kd j) (hj : j = (j' : Int)) (h0 : j' < len) : (execOp e o).run P w = .ok (.value (.pointer (some ⟨b, k + j' * sz, none⟩))) w := by
  subst ha; subst hj; exact q_indexSliceN ho hT hx hi h0
theorem arr_cell {w : World} {b j : Nat} {l : List UInt32} (h : Cells w b 0 (l.map U)) (hj : j < l.length) : w.cell? ⟨b, 0 + j * 1, none⟩ = some (U (l.getD j 0)) := by
  rw [Nat.mul_one]
  exact h.get j _ (by rw [List.getElem?_map, List.getElem?_eq_getElem hj]; simp [List.getD, hj])
theorem q_min {P : Program} {w : World} {e : Operand → Value} {o : Oper} {x y : Operand} {T T' : TypeId} {k : IntKind} {a b : Int} (m : Int) (ho : o.op = .call { callee := .builtin .min, args := #[x, y], argTypes := #[T, T'] })
    (hx : e x = .int k a) (hy : e y = .int k b) (hm : m = if b < a then b else a) : (execOp e o).run P w = .ok (.value (.int k m)) w := by
  subst hm
  unfold execOp
  simp only [ho, resolve, invoke, builtin, Sem.run_bind, Sem.run_pure, Result.andThen_ok, List.map_toArray, List.map_cons, List.map_nil, hx, hy, Builtin.min_, List.foldlM_cons, List.foldlM_nil, Builtin.min2]
theorem RdIn.blk {W : World} {S : List Seg} {b : Nat} {cs : List Value} {T : TypeId} (i : Nat) (hi : S[i]? = some (EW.blk b cs T)) : RdIn W S (some ⟨b, 0, none⟩) cs := by
  have := RdIn.mem (W := W) i hi 0 cs.length
  simpa using this
theorem u64_shr {e : Operand → Value} {T T' : TypeId} {x y : Operand} {a c : Int} {k : IntKind} (N n : Nat) (hx : e x = .int .u64 a) (ha : a = (N : Int)) (hy : e y = .int k c) (hc : c = (n : Int)) (hn : n ≤ 64) :
    pureV e (.binOp .shr T x y T') = some (.int .u64 ((N / 2 ^ n : Nat) : Int)) := by
  subst ha; subst hc
  simp only [pureV, hx, hy, binV]
  show some (Value.int .u64 (shrI .u64 _ n)) = _
  unfold shrI
  rw [show min n IntKind.u64.bits = n from Nat.min_eq_left hn]
  have h : (2 : Int) ^ n = ((2 ^ n : Nat) : Int) := by simp
  rw [h, Int.fdiv_eq_ediv_of_nonneg _ (Int.natCast_nonneg _)]
  rw [← Int.natCast_ediv]
theorem q_lowN {P : Program} {w : World} {e : Operand → Value} {o : Oper} {x : Operand} {T T' : TypeId} {k' : IntKind} {M : Nat} (ho : o.op = .convert T T' x) (hs : (P.underlying T).isSome = true) (hT : intT P T' = some .u8) (hx : e x = .int k' (M : Int)) :
    (execOp e o).run P w = .ok (.value (B (UInt8.ofNat M))) w := by
  rw [q_convInt ho hs hT hx]
  have h : IntKind.wrap .u8 (M : Int) = ((UInt8.ofNat M).toNat : Int) := by
    rw [wrap_u8, UInt8.toNat_ofNat']
  rw [h]; rfl
end Go.EW
