/- The reference's numbers as plain functions: limbs of sixteen bits, roots, primes. -/
import Derived.Test.YtcmmhpkgjcepdaaTextLaw
namespace Go.EW
set_option linter.unusedVariables false
/-! the reference's numbers: limbs of sixteen bits, roots, primes, as plain functions -/
def N64 (x : Nat) : Value := .int .u64 (x : Int)
def tgo : List Nat → Nat → Nat → List Nat
  | [], _, _ => []
  | x :: r, m, c => ((x * m + c) % 65536) :: tgo r m ((x * m + c) / 65536)
theorem tgo_len : ∀ (a : List Nat) (m c : Nat), (tgo a m c).length = a.length
  | [], _, _ => rfl
  | x :: r, m, c => by simp [tgo, tgo_len r]
theorem tgo_lt : ∀ (a : List Nat) (m c : Nat), ∀ x ∈ tgo a m c, x < 65536
  | [], _, _, x, h => by cases h
  | y :: r, m, c, x, h => by
    rcases List.mem_cons.1 h with rfl | h
    · exact Nat.mod_lt _ (by decide)
    · exact tgo_lt r m _ x h
theorem tgo_step {a : List Nat} {m c i : Nat} {T : List Nat} (hi : i < a.length) (h : tgo (a.drop i) m c = T.drop i) (hT : T.length = a.length) :
    tgo (a.drop (i + 1)) m ((a.getD i 0 * m + c) / 65536) = T.drop (i + 1) ∧ (T.take i ++ List.replicate (a.length - i) 0).set i ((a.getD i 0 * m + c) % 65536) = T.take (i + 1) ++ List.replicate (a.length - (i + 1)) 0 := by
  have e1 : a.drop i = a.getD i 0 :: a.drop (i + 1) := by rw [List.drop_eq_getElem_cons hi]; simp [List.getD, hi]
  have hi' : i < T.length := by omega
  have e2 : T.drop i = T[i] :: T.drop (i + 1) := List.drop_eq_getElem_cons hi'
  rw [e1, e2, tgo] at h
  obtain ⟨h1, h2⟩ := List.cons.inj h
  refine ⟨h2, ?_⟩
  rw [List.set_append_right _ _ (by simp; omega), List.length_take, show i - min i T.length = 0 by omega, show a.length - i = (a.length - (i + 1)) + 1 by omega, List.replicate_succ, List.set_cons_zero, List.take_add_one, List.getElem?_eq_getElem hi', h1]
  simp only [Option.toList_some, List.append_assoc, List.cons_append, List.nil_append]
def outH (v : Nat) : Nat → List Nat
  | 0 => List.replicate 9 0
  | i + 1 => (outH v i).set i (v / 65536 ^ i % 65536)
theorem outH_len (v : Nat) : ∀ i, (outH v i).length = 9
  | 0 => by simp [outH]
  | i + 1 => by simp [outH, outH_len v i]
theorem outH_lt (v : Nat) : ∀ i, ∀ x ∈ outH v i, x < 65536
  | 0, x, h => by rw [outH] at h; rw [List.eq_of_mem_replicate h]; omega
  | i + 1, x, h => by
    rw [outH] at h
    rcases List.mem_or_eq_of_mem_set h with h | h
    · exact outH_lt v i x h
    · rw [h]; exact Nat.mod_lt _ (by decide)
def lgo (a b : List Nat) : Nat → Bool
  | 0 => false
  | i + 1 => if a.getD i 0 ≠ b.getD i 0 then decide (a.getD i 0 < b.getD i 0) else lgo a b i
def cubeL (t : Nat) : List Nat := tgo (tgo (outH t 4) t 0) t 0
def wantL (p : Nat) : List Nat := [0, 0, 0, 0, 0, 0, p, 0, 0]
def rgo (p : Nat) : Nat → Nat
  | 0 => 0
  | i + 1 => bif lgo (wantL p) (cubeL (rgo p i + 2 ^ (35 - i))) 9 then rgo p i else rgo p i + 2 ^ (35 - i)
theorem rgo_lt (p : Nat) : ∀ i, i ≤ 36 → rgo p i + 2 ^ (36 - i) ≤ 2 ^ 36
  | 0, _ => by simp [rgo]
  | i + 1, h => by
    have ih := rgo_lt p i (by omega)
    have e : 2 ^ (36 - i) = 2 * 2 ^ (36 - (i + 1)) := by rw [show 36 - i = (36 - (i + 1)) + 1 by omega, Nat.pow_succ]; omega
    have e2 : 35 - i = 36 - (i + 1) := by omega
    rw [rgo, e2]
    cases lgo (wantL p) (cubeL (rgo p i + 2 ^ (36 - (i + 1)))) 9 with
    | true => show rgo p i + _ ≤ _; omega
    | false => show rgo p i + 2 ^ (36 - (i + 1)) + _ ≤ _; omega
def rootU (p : Nat) : UInt32 := UInt32.ofNat (rgo p 36 % 4294967296)
def pl : Nat → List Nat
  | 0 => []
  | k + 1 => bif (pl k).all (fun q => !Nat.beq ((k + 2) % q) 0) then pl k ++ [k + 2] else pl k
theorem pl_pos : ∀ k, ∀ q ∈ pl k, 2 ≤ q ∧ q ≤ k + 1
  | 0, q, h => by cases h
  | k + 1, q, h => by
    rw [pl] at h
    cases hb : (pl k).all (fun q => !Nat.beq ((k + 2) % q) 0) with
    | true =>
      rw [hb] at h
      rcases List.mem_append.1 h with h | h
      · have := pl_pos k q h; omega
      · rw [List.mem_singleton.1 h]; omega
    | false =>
      rw [hb] at h
      have := pl_pos k q h; omega
/-- the first sixty-four primes -/
theorem all_snoc {p : Nat → Bool} {l : List Nat} {i : Nat} (hi : i < l.length) : (l.take (i + 1)).all p = ((l.take i).all p && p (l.getD i 0)) := by
  rw [List.take_add_one, List.getElem?_eq_getElem hi, List.all_append]
  simp [List.getD, hi]
theorem n64_cell {w : World} {b j : Nat} {l : List Nat} (h : Cells w b 0 (l.map N64)) (hj : j < l.length) : w.cell? ⟨b, 0 + j * 1, none⟩ = some (N64 (l.getD j 0)) := by
  rw [Nat.mul_one]
  exact h.get j _ (by rw [List.getElem?_map, List.getElem?_eq_getElem hj]; simp [List.getD, hj])
theorem get_N {l : List Nat} {j : Nat} (hj : j < l.length) : (l.map N64)[j]? = some (N64 (l.getD j 0)) := by
  rw [List.getElem?_map, List.getElem?_eq_getElem hj]; simp [List.getD, hj]
theorem put_N {l : List Nat} {i x : Nat} : putL (l.map N64) (0 + i * 1) [N64 x] = (l.set i x).map N64 := by
  rw [Nat.mul_one, Nat.zero_add, List.map_set]; rfl
theorem wrap_n64 {q : Nat} (h : q < 2 ^ 64) : IntKind.wrap .u64 (q : Int) = (q : Int) := by
  refine wrap_inK ?_
  simp only [inK]
  omega
theorem u64_shl1 {e : Operand → Value} {T T' : TypeId} {x y : Operand} {k : IntKind} {c : Int} (n : Nat) (hx : e x = .int .u64 1) (hy : e y = .int k c) (hc : c = (n : Int)) (hn : n < 64) : pureV e (.binOp .shl T x y T') = some (N64 (2 ^ n)) := by
  subst hc
  simp only [pureV, hx, hy, binV]
  show some (Value.int .u64 (shlI .u64 1 n)) = _
  unfold shlI
  rw [show min n IntKind.u64.bits = n from Nat.min_eq_left (by show n ≤ 64; omega)]
  have h : (2 : Int) ^ n = ((2 ^ n : Nat) : Int) := by simp
  have h2 : 2 ^ n < 2 ^ 64 := Nat.pow_lt_pow_right (by decide) hn
  rw [h, Int.one_mul, wrap_n64 h2]; rfl
end Go.EW
