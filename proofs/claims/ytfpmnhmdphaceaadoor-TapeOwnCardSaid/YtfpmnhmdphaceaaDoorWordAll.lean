/- Laws of machine words. -/
import Derived.Test.YtfpmnhmdphaceaaDoorBaseAll
namespace Go.EW
/-! words of 32 bits and bytes, as values -/
def U (x : UInt32) : Value := .int .u32 (x.toNat : Int)
theorem wrap_u32 (t : Nat) : IntKind.wrap .u32 (t : Int) = ((t % 4294967296 : Nat) : Int) := by
  simp only [IntKind.wrap, IntKind.signed, IntKind.bits]
  simp
theorem wrap_u8 (t : Nat) : IntKind.wrap .u8 (t : Int) = ((t % 256 : Nat) : Int) := by
  simp only [IntKind.wrap, IntKind.signed, IntKind.bits]
  simp
theorem ofInt_nat (w t : Nat) : (BitVec.ofInt w (t : Int)).toNat = t % 2 ^ w := by
  rw [BitVec.toNat_ofInt]
  omega
theorem bv32 (x : UInt32) : BitVec.ofInt 32 (x.toNat : Int) = x.toBitVec := by
  apply BitVec.eq_of_toNat_eq
  rw [ofInt_nat, Nat.mod_eq_of_lt x.toNat_lt]; rfl
theorem wrapU (x : UInt32) : IntKind.wrap .u32 (x.toNat : Int) = x.toNat := by rw [wrap_u32, Nat.mod_eq_of_lt x.toNat_lt]
theorem xor_U (a b : UInt32) : bitI .xor .u32 (a.toNat : Int) (b.toNat : Int) = ((a ^^^ b).toNat : Int) := by
  show IntKind.wrap .u32 (((BitVec.ofInt 32 (a.toNat : Int) ^^^ BitVec.ofInt 32 (b.toNat : Int)).toNat : Nat) : Int) = _
  rw [bv32, bv32]; exact wrapU (a ^^^ b)
theorem and_U (a b : UInt32) : bitI .and .u32 (a.toNat : Int) (b.toNat : Int) = ((a &&& b).toNat : Int) := by
  show IntKind.wrap .u32 (((BitVec.ofInt 32 (a.toNat : Int) &&& BitVec.ofInt 32 (b.toNat : Int)).toNat : Nat) : Int) = _
  rw [bv32, bv32]; exact wrapU (a &&& b)
theorem or_U (a b : UInt32) : bitI .or .u32 (a.toNat : Int) (b.toNat : Int) = ((a ||| b).toNat : Int) := by
  show IntKind.wrap .u32 (((BitVec.ofInt 32 (a.toNat : Int) ||| BitVec.ofInt 32 (b.toNat : Int)).toNat : Nat) : Int) = _
  rw [bv32, bv32]; exact wrapU (a ||| b)
theorem not_U (a : UInt32) : bitI .xor .u32 IntKind.u32.max (a.toNat : Int) = ((~~~a).toNat : Int) := by
  show IntKind.wrap .u32 (((BitVec.ofInt 32 IntKind.u32.max ^^^ BitVec.ofInt 32 (a.toNat : Int)).toNat : Nat) : Int) = _
  rw [bv32]
  have h : (BitVec.ofInt 32 IntKind.u32.max ^^^ a.toBitVec) = (~~~a).toBitVec := by
    rw [show BitVec.ofInt 32 IntKind.u32.max = BitVec.allOnes 32 from by decide, BitVec.allOnes_xor]; rfl
  rw [h]; exact wrapU (~~~a)
theorem add_U (a b : UInt32) : IntKind.wrap .u32 ((a.toNat : Int) + (b.toNat : Int)) = ((a + b).toNat : Int) := by
  rw [show (a.toNat : Int) + (b.toNat : Int) = ((a.toNat + b.toNat : Nat) : Int) by omega, wrap_u32, UInt32.toNat_add]
theorem shr_U (a : UInt32) (n : Nat) (hn : n < 32) : shrI .u32 (a.toNat : Int) n = ((a >>> UInt32.ofNat n).toNat : Int) := by
  unfold shrI
  rw [show min n IntKind.u32.bits = n from Nat.min_eq_left (by show n ≤ 32; omega), UInt32.toNat_shiftRight, UInt32.toNat_ofNat', Nat.mod_eq_of_lt (a := n) (by omega), Nat.mod_eq_of_lt (by omega), Nat.shiftRight_eq_div_pow]
  have h : (2 : Int) ^ n = ((2 ^ n : Nat) : Int) := by simp
  rw [h, Int.fdiv_eq_ediv_of_nonneg _ (Int.natCast_nonneg _)]
  exact (Int.natCast_ediv _ _).symm
theorem shl_U (a : UInt32) (n : Nat) (hn : n < 32) : shlI .u32 (a.toNat : Int) n = ((a <<< UInt32.ofNat n).toNat : Int) := by
  unfold shlI
  rw [show min n IntKind.u32.bits = n from Nat.min_eq_left (by show n ≤ 32; omega), UInt32.toNat_shiftLeft, UInt32.toNat_ofNat', Nat.mod_eq_of_lt (a := n) (by omega), Nat.mod_eq_of_lt (a := n) (by omega), Nat.shiftLeft_eq]
  have h : (2 : Int) ^ n = ((2 ^ n : Nat) : Int) := by simp
  rw [h, ← Int.natCast_mul, wrap_u32]
section
variable {e : Operand → Value} {T T' : TypeId} {x y : Operand} {a b : UInt32} {c d : UInt8}
theorem u_add (hx : e x = U a) (hy : e y = U b) : pureV e (.binOp .add T x y T') = some (U (a + b)) := by
  simp only [pureV, hx, hy, U, binV]
  show some (Value.int .u32 (IntKind.wrap .u32 _)) = _
  rw [add_U]
theorem u_xor (hx : e x = U a) (hy : e y = U b) : pureV e (.binOp .xor T x y T') = some (U (a ^^^ b)) := by
  simp only [pureV, hx, hy, U, binV]
  show some (Value.int .u32 (bitI .xor .u32 _ _)) = _
  rw [xor_U]
theorem u_and (hx : e x = U a) (hy : e y = U b) : pureV e (.binOp .and T x y T') = some (U (a &&& b)) := by
  simp only [pureV, hx, hy, U, binV]
  show some (Value.int .u32 (bitI .and .u32 _ _)) = _
  rw [and_U]
theorem u_or (hx : e x = U a) (hy : e y = U b) : pureV e (.binOp .or T x y T') = some (U (a ||| b)) := by
  simp only [pureV, hx, hy, U, binV]
  show some (Value.int .u32 (bitI .or .u32 _ _)) = _
  rw [or_U]
theorem u_not (hx : e x = U a) : pureV e (.unOp .xor T x) = some (U (~~~a)) := by
  simp only [pureV, hx, U, unV]
  show some (Value.int .u32 (bitI .xor .u32 IntKind.u32.max _)) = _
  rw [not_U]
theorem u_shr {k : IntKind} {n : Nat} (hx : e x = U a) (hy : e y = .int k (n : Int)) (hn : n < 32) : pureV e (.binOp .shr T x y T') = some (U (a >>> UInt32.ofNat n)) := by
  simp only [pureV, hx, hy, U, binV]
  show some (Value.int .u32 (shrI .u32 _ n)) = _
  rw [shr_U _ _ hn]
theorem u_shl {k : IntKind} {n : Nat} (hx : e x = U a) (hy : e y = .int k (n : Int)) (hn : n < 32) : pureV e (.binOp .shl T x y T') = some (U (a <<< UInt32.ofNat n)) := by
  simp only [pureV, hx, hy, U, binV]
  show some (Value.int .u32 (shlI .u32 _ n)) = _
  rw [shl_U _ _ hn]
end
section
variable {P : Program} {w : World}
/-- a byte as a word, a word's lowest byte -/
theorem q_byteU {e : Operand → Value} {o : Oper} {x : Operand} {T T' : TypeId} {u : UInt8} (ho : o.op = .convert T T' x) (hs : (P.underlying T).isSome = true) (hT : intT P T' = some .u32) (hx : e x = B u) :
    (execOp e o).run P w = .ok (.value (U u.toUInt32)) w := by
  rw [q_convInt (k' := .u8) ho hs hT hx]
  have h : IntKind.wrap .u32 (u.toNat : Int) = (u.toUInt32.toNat : Int) := by
    rw [wrap_u32, UInt8.toNat_toUInt32]
    have := u.toNat_lt
    congr 1
    omega
  rw [h]; rfl
theorem q_lowB {e : Operand → Value} {o : Oper} {x : Operand} {T T' : TypeId} {a : UInt32} (ho : o.op = .convert T T' x) (hs : (P.underlying T).isSome = true) (hT : intT P T' = some .u8) (hx : e x = U a) :
    (execOp e o).run P w = .ok (.value (B a.toUInt8)) w := by
  rw [q_convInt (k' := .u32) ho hs hT hx]
  have h : IntKind.wrap .u8 (a.toNat : Int) = (a.toUInt8.toNat : Int) := by
    rw [wrap_u8, UInt32.toNat_toUInt8]
  rw [h]; rfl
end
theorem q_buildArr {P : Program} {w : World} {e : Operand → Value} {o : Oper} {T E : TypeId} {len sz : Nat} {parts : List (Nat × Operand)} {z : Value} {cs : List Value} (ho : o.op = .build T parts.toArray) (hT : arrT P T = some (len, E, sz)) (hz : zeroV P T = some z)
    (hf : fillL (fun i => some (i * sz, sz)) z.cells.toList (parts.map fun p => (p.1, e p.2)) = some cs) : (execOp e o).run P w = .ok (.value (.agg cs.toArray)) w := by
  obtain ⟨inf, hu, hi, rfl⟩ := arrT_spec hT
  have hfl := fill_eq _ _ _ _ hf
  unfold execOp
  simp only [ho, Instr.build, Sem.run_bind, run_zero hz, Result.andThen_ok, run_underlying hu, run_sizeOf hi]
  rw [show (List.map (fun p : Nat × Operand => (p.1, e p.2)) parts) = (Array.map (fun x : Nat × Operand => match x with | (i, x) => (i, e x)) parts.toArray).toList by simp] at hfl
  simp only [Array.toArray_toList] at hfl
  rw [hfl]
  rfl
theorem q_indexArrE {P : Program} {w : World} {e : Operand → Value} {o : Oper} {T E : TypeId} {x i : Operand} {b k sz len : Nat} {kd : IntKind} {j : Int} (j' : Nat) (ho : o.op = .indexAddr T x i) (hT : arrT P T = some (len, E, sz))
    (hx : e x = .pointer (some ⟨b, k, none⟩)) (hi : e i = .int kd j) (hj : j = (j' : Int)) (h0 : j' < len) : (execOp e o).run P w = .ok (.value (.pointer (some ⟨b, k + j' * sz, none⟩))) w := by
  subst hj; exact q_indexArrN ho hT hx hi h0
theorem q_indexSliceE {P : Program} {w : World} {e : Operand → Value} {o : Oper} {T E : TypeId} {x i : Operand} {a : Option Addr} {b k sz by_ len cap : Nat} {kd : IntKind} {j : Int} (j' : Nat) (ho : o.op = .indexAddr T x i) (hT : elT P T = some (E, sz, by_))
    (hx : e x = .slice a len cap) (ha : a = some ⟨b, k, none⟩) (hi : e i = .int kd j) (hj : j = (j' : Int)) (h0 : j' < len) : (execOp e o).run P w = .ok (.value (.pointer (some ⟨b, k + j' * sz, none⟩))) w := by
  subst ha; subst hj; exact q_indexSliceN ho hT hx hi h0
theorem arr_cell {w : World} {b j : Nat} {l : List UInt32} (h : Cells w b 0 (l.map U)) (hj : j < l.length) : w.cell? ⟨b, 0 + j * 1, none⟩ = some (U (l.getD j 0)) := by
  rw [Nat.mul_one]
  exact h.get j _ (by rw [List.getElem?_map, List.getElem?_eq_getElem hj]; simp [List.getD, hj])
theorem q_min {P : Program} {w : World} {e : Operand → Value} {o : Oper} {x y : Operand} {T T' : TypeId} {k : IntKind} {a b : Int} (m : Int) (ho : o.op = .call { callee := .builtin .min, args := #[x, y], argTypes := #[T, T'] })
    (hx : e x = .int k a) (hy : e y = .int k b) (hm : m = if b < a then b else a) : (execOp e o).run P w = .ok (.value (.int k m)) w := by
  subst hm
  unfold execOp
  simp only [ho, resolve, invoke, builtin, Sem.run_bind, Sem.run_pure, Result.andThen_ok, List.map_toArray, List.map_cons, List.map_nil, hx, hy, Builtin.min_, List.foldlM_cons, List.foldlM_nil, Builtin.min2]
theorem RdIn.blk {W : World} {S : List Seg} {b : Nat} {cs : List Value} {T : TypeId} (i : Nat) (hi : S[i]? = some (EW.blk b cs T)) : RdIn W S (some ⟨b, 0, none⟩) cs := by
  have := RdIn.mem (W := W) i hi 0 cs.length
  simpa using this
theorem u64_shr {e : Operand → Value} {T T' : TypeId} {x y : Operand} {a c : Int} {k : IntKind} (N n : Nat) (hx : e x = .int .u64 a) (ha : a = (N : Int)) (hy : e y = .int k c) (hc : c = (n : Int)) (hn : n ≤ 64) :
    pureV e (.binOp .shr T x y T') = some (.int .u64 ((N / 2 ^ n : Nat) : Int)) := by
  subst ha; subst hc
  simp only [pureV, hx, hy, binV]
  show some (Value.int .u64 (shrI .u64 _ n)) = _
  unfold shrI
  rw [show min n IntKind.u64.bits = n from Nat.min_eq_left hn]
  have h : (2 : Int) ^ n = ((2 ^ n : Nat) : Int) := by simp
  rw [h, Int.fdiv_eq_ediv_of_nonneg _ (Int.natCast_nonneg _)]
  rw [← Int.natCast_ediv]
theorem q_lowN {P : Program} {w : World} {e : Operand → Value} {o : Oper} {x : Operand} {T T' : TypeId} {k' : IntKind} {M : Nat} (ho : o.op = .convert T T' x) (hs : (P.underlying T).isSome = true) (hT : intT P T' = some .u8) (hx : e x = .int k' (M : Int)) :
    (execOp e o).run P w = .ok (.value (B (UInt8.ofNat M))) w := by
  rw [q_convInt ho hs hT hx]
  have h : IntKind.wrap .u8 (M : Int) = ((UInt8.ofNat M).toNat : Int) := by
    rw [wrap_u8, UInt8.toNat_ofNat']
  rw [h]; rfl
end Go.EW
namespace Go.EW
set_option linter.unusedVariables false
/-! bytes: more laws; hexadecimal texts -/
section
variable {e : Operand → Value} {T T' : TypeId} {x y : Operand} {c d : UInt8}
end
theorem get_B {l : List UInt8} {j : Nat} (hj : j < l.length) : (l.map B)[((j : Nat) : Int).toNat]? = some (B (l.getD j 0)) := by
  rw [Int.toNat_natCast, List.getElem?_map, List.getElem?_eq_getElem hj]; simp [List.getD, hj]
theorem all1 (l : List UInt8) : (l.map B).all Value.oneCell' = true := List.all_eq_true.2 (oneB l)
/-! hexadecimal -/
def digs : List UInt8 := [48, 49, 50, 51, 52, 53, 54, 55, 56, 57, 97, 98, 99, 100, 101, 102]
def hexd (n : Nat) : UInt8 := digs.getD n 0
def hex1 (x : UInt8) : List UInt8 := [hexd (x.toNat / 16), hexd (x.toNat % 16)]
def hexL (h : List UInt8) : List UInt8 := h.flatMap hex1
/-- what a digit is worth -/
def digitI (c : UInt8) : Int := if 48 ≤ c.toNat ∧ c.toNat ≤ 57 then (c.toNat : Int) - 48 else if 97 ≤ c.toNat ∧ c.toNat ≤ 102 then (c.toNat : Int) - 97 + 10 else -1
def put4 (a : UInt8) (d : Nat) : UInt8 := UInt8.ofNat (a.toNat * 16 + d)
/-- the bytes behind the first i digits -/
def parA (t : List UInt8) : Nat → List UInt8
  | 0 => List.replicate 32 0
  | i + 1 => (parA t i).set (i / 2) (put4 ((parA t i).getD (i / 2) 0) (digitI (t.getD i 0)).toNat)
/-- what Parse answers from place i on, k places -/
def pgo (t : List UInt8) : Nat → Nat → List UInt8 × Int × Nat
  | 0, _ => if 64 < t.length then (List.replicate 32 0, 190, 64) else (parA t 64, 0, 0)
  | k + 1, i => if t.length ≤ i then (List.replicate 32 0, 190, t.length) else if digitI (t.getD i 0) < 0 then (List.replicate 32 0, 190, i) else pgo t k (i + 1)
end Go.EW
namespace Go.EW
set_option linter.unusedVariables false
/-! there and back: Print and Parse, as plain laws -/
end Go.EW
namespace Go.EW
set_option linter.unusedVariables false
/-! the reference's numbers: limbs of sixteen bits, roots, primes, as plain functions -/
def N64 (x : Nat) : Value := .int .u64 (x : Int)
def tgo : List Nat → Nat → Nat → List Nat
  | [], _, _ => []
  | x :: r, m, c => ((x * m + c) % 65536) :: tgo r m ((x * m + c) / 65536)
def outH (v : Nat) : Nat → List Nat
  | 0 => List.replicate 9 0
  | i + 1 => (outH v i).set i (v / 65536 ^ i % 65536)
def lgo (a b : List Nat) : Nat → Bool
  | 0 => false
  | i + 1 => if a.getD i 0 ≠ b.getD i 0 then decide (a.getD i 0 < b.getD i 0) else lgo a b i
def cubeL (t : Nat) : List Nat := tgo (tgo (outH t 4) t 0) t 0
def wantL (p : Nat) : List Nat := [0, 0, 0, 0, 0, 0, p, 0, 0]
def rgo (p : Nat) : Nat → Nat
  | 0 => 0
  | i + 1 => bif lgo (wantL p) (cubeL (rgo p i + 2 ^ (35 - i))) 9 then rgo p i else rgo p i + 2 ^ (35 - i)
def rootU (p : Nat) : UInt32 := UInt32.ofNat (rgo p 36 % 4294967296)
def pl : Nat → List Nat
  | 0 => []
  | k + 1 => bif (pl k).all (fun q => !Nat.beq ((k + 2) % q) 0) then pl k ++ [k + 2] else pl k
end Go.EW
namespace Go.EW
theorem or_low {v b : Nat} (hb : b < 256) : v * 256 ||| b = v * 256 + b := by
  have h := Nat.shiftLeft_add_eq_or_of_lt (b := b) (i := 8) (by simpa using hb) v
  rw [Nat.shiftLeft_eq] at h
  exact h.symm
theorem u64_shl8 {e : Operand → Value} {T T' : TypeId} {x y : Operand} {k : IntKind} {v : Nat} (hx : e x = N64 v) (hy : e y = .int k 8) (hv : v < 72057594037927936) : pureV e (.binOp .shl T x y T') = some (N64 (v * 256)) := by
  simp only [pureV, hx, hy, N64, binV]
  show some (Value.int .u64 (shlI .u64 (v : Int) 8)) = _
  unfold shlI
  rw [show min 8 IntKind.u64.bits = 8 from rfl, show (v : Int) * 2 ^ 8 = ((v * 256 : Nat) : Int) by omega]
  rw [wrap_inK (by simp only [inK]; omega)]
theorem u64_orb {e : Operand → Value} {T T' : TypeId} {x y : Operand} {v b : Nat} (hx : e x = N64 (v * 256)) (hy : e y = N64 b) (hb : b < 256) (hv : v < 72057594037927936) : pureV e (.binOp .or T x y T') = some (N64 (v * 256 + b)) := by
  simp only [pureV, hx, hy, N64, binV]
  show some (Value.int .u64 (bitI .or .u64 ((v * 256 : Nat) : Int) (b : Int))) = _
  have h : (BitVec.ofInt 64 ((v * 256 : Nat) : Int) ||| BitVec.ofInt 64 (b : Int)).toNat = v * 256 + b := by
    rw [BitVec.toNat_or, ofInt_nat, ofInt_nat, Nat.mod_eq_of_lt (by omega), Nat.mod_eq_of_lt (by omega), or_low hb]
  show some (Value.int .u64 (IntKind.wrap .u64 (((BitVec.ofInt 64 ((v * 256 : Nat) : Int) ||| BitVec.ofInt 64 (b : Int)).toNat : Nat) : Int))) = _
  rw [h, wrap_inK (by simp only [inK]; omega)]
theorem i64_shl8 {e : Operand → Value} {T T' : TypeId} {x y : Operand} {k : IntKind} {v : Nat} (hx : e x = .int .i64 (v : Int)) (hy : e y = .int k 8) (hv : v < 36028797018963968) : pureV e (.binOp .shl T x y T') = some (.int .i64 ((v * 256 : Nat) : Int)) := by
  simp only [pureV, hx, hy, binV]
  show some (Value.int .i64 (shlI .i64 (v : Int) 8)) = _
  unfold shlI
  rw [show min 8 IntKind.i64.bits = 8 from rfl, show (v : Int) * 2 ^ 8 = ((v * 256 : Nat) : Int) by omega]
  rw [wrap_inK (by simp only [inK]; omega)]
theorem i64_orb {e : Operand → Value} {T T' : TypeId} {x y : Operand} {v b : Nat} (hx : e x = .int .i64 ((v * 256 : Nat) : Int)) (hy : e y = .int .i64 (b : Int)) (hb : b < 256) (hv : v < 36028797018963968) : pureV e (.binOp .or T x y T') = some (.int .i64 ((v * 256 + b : Nat) : Int)) := by
  simp only [pureV, hx, hy, binV]
  show some (Value.int .i64 (bitI .or .i64 ((v * 256 : Nat) : Int) (b : Int))) = _
  have h : (BitVec.ofInt 64 ((v * 256 : Nat) : Int) ||| BitVec.ofInt 64 (b : Int)).toNat = v * 256 + b := by
    rw [BitVec.toNat_or, ofInt_nat, ofInt_nat, Nat.mod_eq_of_lt (by omega), Nat.mod_eq_of_lt (by omega), or_low hb]
  show some (Value.int .i64 (IntKind.wrap .i64 (((BitVec.ofInt 64 ((v * 256 : Nat) : Int) ||| BitVec.ofInt 64 (b : Int)).toNat : Nat) : Int))) = _
  rw [h, wrap_inK (by simp only [inK]; omega)]
theorem i64_shr {e : Operand → Value} {T T' : TypeId} {x y : Operand} {n i : Nat} (hx : e x = .int .i64 (n : Int)) (hy : e y = .int .i64 (i : Int)) (hi : i ≤ 64) : pureV e (.binOp .shr T x y T') = some (.int .i64 ((n / 2 ^ i : Nat) : Int)) := by
  simp only [pureV, hx, hy, binV]
  show some (Value.int .i64 (shrI .i64 _ i)) = _
  unfold shrI
  rw [show min i IntKind.i64.bits = i from Nat.min_eq_left hi]
  have h : (2 : Int) ^ i = ((2 ^ i : Nat) : Int) := by simp
  rw [h, Int.fdiv_eq_ediv_of_nonneg _ (Int.natCast_nonneg _), ← Int.natCast_ediv]
theorem i64_shrK {e : Operand → Value} {T T' : TypeId} {x y : Operand} {kd : IntKind} {n i : Nat} (hx : e x = .int .i64 (n : Int)) (hy : e y = .int kd (i : Int)) (hi : i ≤ 64) : pureV e (.binOp .shr T x y T') = some (.int .i64 ((n / 2 ^ i : Nat) : Int)) := by
  simp only [pureV, hx, hy, binV]
  show some (Value.int .i64 (shrI .i64 _ i)) = _
  unfold shrI
  rw [show min i IntKind.i64.bits = i from Nat.min_eq_left hi]
  have h : (2 : Int) ^ i = ((2 ^ i : Nat) : Int) := by simp
  rw [h, Int.fdiv_eq_ediv_of_nonneg _ (Int.natCast_nonneg _), ← Int.natCast_ediv]
theorem and_one (n : Nat) (hn : n < 18446744073709551616) : bitI .and .i64 (n : Int) 1 = ((n % 2 : Nat) : Int) := by
  simp only [bitI, IntKind.bits]
  have h : (BitVec.ofInt 64 (n : Int) &&& BitVec.ofInt 64 1).toNat = n % 2 := by
    rw [BitVec.toNat_and, BitVec.toNat_ofInt, BitVec.toNat_ofInt]
    rw [show ((n : Int) % ((2 ^ 64 : Nat) : Int)).toNat = n by omega, show ((1 : Int) % ((2 ^ 64 : Nat) : Int)).toNat = 1 from rfl, Nat.and_one_is_mod]
  show IntKind.wrap .i64 (((BitVec.ofInt 64 (n : Int) &&& BitVec.ofInt 64 1).toNat : Nat) : Int) = _
  rw [h]
  have h2 : n % 2 < 2 := Nat.mod_lt _ (by decide)
  rcases (show n % 2 = 0 ∨ n % 2 = 1 by omega) with h3 | h3 <;> rw [h3] <;> rfl
theorem i64_bit {e : Operand → Value} {T T' : TypeId} {x y : Operand} {n : Nat} (hx : e x = .int .i64 (n : Int)) (hy : e y = .int .i64 1) (hn : n < 18446744073709551616) : pureV e (.binOp .and T x y T') = some (.int .i64 ((n % 2 : Nat) : Int)) := by
  simp only [pureV, hx, hy, binV]
  show some (Value.int .i64 (bitI .and .i64 _ _)) = _
  rw [and_one n hn]
end Go.EW
namespace Go.EW
end Go.EW
