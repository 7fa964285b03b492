/- Bytes: shifts, sums, products; hexadecimal digits and texts as plain functions. -/
import Derived.Test.YtcmmhpkgjcepdaaWord
namespace Go.EW
set_option linter.unusedVariables false
/-! bytes: more laws; hexadecimal texts -/
theorem shr_B8 (a : UInt8) (n : Nat) (hn : n < 8) : shrI .u8 (a.toNat : Int) n = ((a >>> UInt8.ofNat n).toNat : Int) := by
  unfold shrI
  rw [show min n IntKind.u8.bits = n from Nat.min_eq_left (by show n ≤ 8; omega), UInt8.toNat_shiftRight, UInt8.toNat_ofNat', Nat.mod_eq_of_lt (a := n) (by omega), Nat.mod_eq_of_lt (by omega), Nat.shiftRight_eq_div_pow]
  have h : (2 : Int) ^ n = ((2 ^ n : Nat) : Int) := by simp
  rw [h, Int.fdiv_eq_ediv_of_nonneg _ (Int.natCast_nonneg _)]
  exact (Int.natCast_ediv _ _).symm
theorem shl_B8 (a : UInt8) (n : Nat) (hn : n < 8) : shlI .u8 (a.toNat : Int) n = ((a <<< UInt8.ofNat n).toNat : Int) := by
  unfold shlI
  rw [show min n IntKind.u8.bits = n from Nat.min_eq_left (by show n ≤ 8; omega), UInt8.toNat_shiftLeft, UInt8.toNat_ofNat', Nat.mod_eq_of_lt (a := n) (by omega), Nat.mod_eq_of_lt (a := n) (by omega), Nat.shiftLeft_eq]
  have h : (2 : Int) ^ n = ((2 ^ n : Nat) : Int) := by simp
  rw [h, ← Int.natCast_mul, wrap_u8]
section
variable {e : Operand → Value} {T T' : TypeId} {x y : Operand} {c d : UInt8}
theorem v_shr {k : IntKind} {n : Nat} (hx : e x = B c) (hy : e y = .int k (n : Int)) (hn : n < 8) : pureV e (.binOp .shr T x y T') = some (B (c >>> UInt8.ofNat n)) := by
  simp only [pureV, hx, hy, B, binV]
  show some (Value.int .u8 (shrI .u8 _ n)) = _
  rw [shr_B8 _ _ hn]
theorem v_shl {k : IntKind} {n : Nat} (hx : e x = B c) (hy : e y = .int k (n : Int)) (hn : n < 8) : pureV e (.binOp .shl T x y T') = some (B (c <<< UInt8.ofNat n)) := by
  simp only [pureV, hx, hy, B, binV]
  show some (Value.int .u8 (shlI .u8 _ n)) = _
  rw [shl_B8 _ _ hn]
theorem v_mul (hx : e x = B c) (hy : e y = B d) : pureV e (.binOp .mul T x y T') = some (B (c * d)) := by
  simp only [pureV, hx, hy, B, binV]
  show some (Value.int .u8 (IntKind.wrap .u8 _)) = _
  rw [← Int.natCast_mul, wrap_u8, UInt8.toNat_mul]
theorem v_add (hx : e x = B c) (hy : e y = B d) : pureV e (.binOp .add T x y T') = some (B (c + d)) := by
  simp only [pureV, hx, hy, B, binV]
  show some (Value.int .u8 (IntKind.wrap .u8 _)) = _
  rw [← Int.natCast_add, wrap_u8, UInt8.toNat_add]
end
theorem tdivN (i k : Nat) : ((i : Int).tdiv (k : Int)) = ((i / k : Nat) : Int) := (Int.ofNat_tdiv i k).symm
theorem tmodN (i k : Nat) : ((i : Int).tmod (k : Int)) = ((i % k : Nat) : Int) := (Int.ofNat_tmod i k).symm
theorem finc3 {P : Program} {n : Nat} {ρ : Env} {w : World} {t b m u x : Nat} {T : TypeId} {vs : List Value} {v' v'' : Value} {R : Value → World → Prop} (hv : ev n ρ (.tmp t) = .pointer (some ⟨b, 0, none⟩)) (hc : aggB P T m = true) (hl : Nat.beq vs.length m = true) (hb : Cells w b 0 vs) (hv' : ev n ρ (.tmp u) = v') (hv'' : ev n ρ (.tmp x) = v'') (h : R (.tuple #[.agg vs.toArray, v', v'']) w) :
    fin P n #[.cell t T, .tmp u, .tmp x] R .ret ρ w :=
  ⟨_, by simp [results, getD_actOf', hv, hv', hv'', asAddr, run_loadVarN hc hl hb], h⟩
theorem fit_bytes : ∀ l : List UInt8, Fit (List.replicate l.length (.int .u8)) (l.map B)
  | [] => trivial
  | u :: l => ⟨⟨_, rfl⟩, fit_bytes l⟩
theorem eqL_bytes : ∀ xs ys : List UInt8, xs.length = ys.length → eqL (xs.map B) (ys.map B) = decide (xs = ys)
  | [], [], _ => rfl
  | x :: xs, y :: ys, h => by
    have h' : xs.length = ys.length := by simpa using h
    simp only [List.map_cons, eqL, eqL_bytes xs ys h', B, eqC]
    by_cases hx : x = y
    · subst hx; simp
    · have : ¬ (x.toNat : Int) = (y.toNat : Int) := fun hh => hx (UInt8.toNat_inj.1 (Int.ofNat_inj.1 hh))
      simp [hx, this]
theorem arr_cellB {w : World} {b j : Nat} {l : List UInt8} (h : Cells w b 0 (l.map B)) (hj : j < l.length) : w.cell? ⟨b, 0 + j * 1, none⟩ = some (B (l.getD j 0)) := by
  rw [Nat.mul_one]
  exact h.get j _ (by rw [List.getElem?_map, List.getElem?_eq_getElem hj]; simp [List.getD, hj])
theorem get_B {l : List UInt8} {j : Nat} (hj : j < l.length) : (l.map B)[((j : Nat) : Int).toNat]? = some (B (l.getD j 0)) := by
  rw [Int.toNat_natCast, List.getElem?_map, List.getElem?_eq_getElem hj]; simp [List.getD, hj]
theorem all1 (l : List UInt8) : (l.map B).all Value.oneCell' = true := List.all_eq_true.2 (oneB l)
/-! hexadecimal -/
def digs : List UInt8 := [48, 49, 50, 51, 52, 53, 54, 55, 56, 57, 97, 98, 99, 100, 101, 102]
def hexd (n : Nat) : UInt8 := digs.getD n 0
def hex1 (x : UInt8) : List UInt8 := [hexd (x.toNat / 16), hexd (x.toNat % 16)]
def hexL (h : List UInt8) : List UInt8 := h.flatMap hex1
theorem hexd_get {n : Nat} (hn : n < 16) : digs[n]? = some (hexd n) := by
  have : n < digs.length := hn
  rw [List.getElem?_eq_getElem this]; simp [hexd, List.getD, this]
theorem dig_hi (x : UInt8) : digs[((x >>> UInt8.ofNat 4).toNat : Int).toNat]? = some (hexd (x.toNat / 16)) := by
  have := x.toNat_lt
  rw [Int.toNat_natCast, UInt8.toNat_shiftRight, show (UInt8.ofNat 4).toNat % 8 = 4 from rfl, Nat.shiftRight_eq_div_pow]
  exact hexd_get (by omega)
theorem dig_lo (x : UInt8) : digs[((x &&& 15).toNat : Int).toNat]? = some (hexd (x.toNat % 16)) := by
  rw [Int.toNat_natCast, UInt8.toNat_and, show (15 : UInt8).toNat = 2 ^ 4 - 1 from rfl, Nat.and_two_pow_sub_one_eq_mod]
  exact hexd_get (by omega)
theorem dig_hi2 (x : UInt8) : digs[((x.toNat : Int).tdiv 16).toNat]? = some (hexd (x.toNat / 16)) := by
  have := x.toNat_lt
  rw [show ((x.toNat : Int).tdiv 16) = ((x.toNat / 16 : Nat) : Int) from tdivN _ 16, Int.toNat_natCast]
  exact hexd_get (by omega)
theorem dig_lo2 (x : UInt8) : digs[((x.toNat : Int).tmod 16).toNat]? = some (hexd (x.toNat % 16)) := by
  rw [show ((x.toNat : Int).tmod 16) = ((x.toNat % 16 : Nat) : Int) from tmodN _ 16, Int.toNat_natCast]
  exact hexd_get (by omega)
theorem hexL_snoc (h : List UInt8) {i : Nat} (hi : i < h.length) : hexL (h.take (i + 1)) = hexL (h.take i) ++ hex1 (h.getD i 0) := by
  have e : h.getD i 0 = h[i] := by simp [List.getD, hi]
  unfold hexL
  rw [List.take_add_one, List.getElem?_eq_getElem hi, List.flatMap_append, e]
  simp only [Option.toList_some, List.flatMap_cons, List.flatMap_nil, List.append_nil]
theorem hexL_len (h : List UInt8) : (hexL h).length = 2 * h.length := by
  induction h with
  | nil => rfl
  | cons a t ih => simp only [hexL, List.flatMap_cons, List.length_append, List.length_cons] at ih ⊢; simp [hex1, ih]; omega
/-- what a digit is worth -/
def digitI (c : UInt8) : Int := if 48 ≤ c.toNat ∧ c.toNat ≤ 57 then (c.toNat : Int) - 48 else if 97 ≤ c.toNat ∧ c.toNat ≤ 102 then (c.toNat : Int) - 97 + 10 else -1
theorem digitI_lt (c : UInt8) : digitI c < 16 := by unfold digitI; split <;> (try split) <;> omega
def put4 (a : UInt8) (d : Nat) : UInt8 := UInt8.ofNat (a.toNat * 16 + d)
theorem put_or (a : UInt8) {d : Nat} (hd : d < 16) : (a <<< UInt8.ofNat 4 ||| UInt8.ofNat d) = put4 a d := by
  apply UInt8.toNat_inj.1
  unfold put4
  rw [UInt8.toNat_or, UInt8.toNat_shiftLeft, UInt8.toNat_ofNat', UInt8.toNat_ofNat', UInt8.toNat_ofNat', show 4 % 2 ^ 8 % 8 = 4 from rfl, Nat.mod_eq_of_lt (a := d) (by omega), Nat.shiftLeft_eq,
    show a.toNat * 2 ^ 4 % 2 ^ 8 = (a.toNat % 16) * 2 ^ 4 by omega, ← Nat.shiftLeft_eq, ← Nat.shiftLeft_add_eq_or_of_lt (by omega), Nat.shiftLeft_eq]
  omega
theorem put_mul (a : UInt8) {d : Nat} (hd : d < 16) : (a * 16 + UInt8.ofNat d) = put4 a d := by
  apply UInt8.toNat_inj.1
  unfold put4
  rw [UInt8.toNat_add, UInt8.toNat_mul, UInt8.toNat_ofNat', UInt8.toNat_ofNat', show (16 : UInt8).toNat = 16 from rfl]
  omega
/-- the bytes behind the first i digits -/
def parA (t : List UInt8) : Nat → List UInt8
  | 0 => List.replicate 32 0
  | i + 1 => (parA t i).set (i / 2) (put4 ((parA t i).getD (i / 2) 0) (digitI (t.getD i 0)).toNat)
theorem parA_len (t : List UInt8) : ∀ i, (parA t i).length = 32
  | 0 => by simp [parA]
  | i + 1 => by simp [parA, parA_len t i]
/-- what Parse answers from place i on, k places -/
def pgo (t : List UInt8) : Nat → Nat → List UInt8 × Int × Nat
  | 0, _ => if 64 < t.length then (List.replicate 32 0, 190, 64) else (parA t 64, 0, 0)
  | k + 1, i => if t.length ≤ i then (List.replicate 32 0, 190, t.length) else if digitI (t.getD i 0) < 0 then (List.replicate 32 0, 190, i) else pgo t k (i + 1)
def parseL (t : List UInt8) : List UInt8 × Int × Nat := pgo t 64 0
end Go.EW
