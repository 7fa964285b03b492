/- The tree's sides does what its contract says. -/
import Derived.Test.YtcmmhpkgjcepdaaTre3
import Derived.Test.YtcmmhpkgjcepdaaTreeLaw
namespace Go.Proofs.Ytcmmhpkgjcepdaa
open Go.EW
attribute [local irreducible] EW.W EW.L EW.fin block8 outB shaL
set_option linter.unusedVariables false
set_option linter.unusedSimpArgs false
attribute [local irreducible] swp

def Bo (b : Bool) : Value := .bool b
theorem q_subN {P : Program} {w : World} {e : Operand → Value} {oo : Oper} {x y : Operand} {T T' : TypeId} {a b : Nat} (ho : oo.op = .binOp .sub T x y T') (hx : e x = .int .i64 (a : Int)) (hy : e y = .int .i64 (b : Int)) (h : b ≤ a ∧ a ≤ 9223372036854775807) : (execOp e oo).run P w = .ok (.value (.int .i64 ((a - b : Nat) : Int))) w := by
  rw [Int.ofNat_sub h.1]
  exact q_sub ho hx hy (by simp only [inK]; omega)
theorem rd_at2 {w : World} {a : Option Addr} {b o j : Nat} {xs : List Value} {v : Value} (ha : a = some ⟨b, o, none⟩) (h : Rd w a xs) (hj : xs[j]? = some v) : w.cell? ⟨b, o + j * 1, none⟩ = some v := by
  obtain ⟨b', o', h1, h2⟩ := h j v hj
  rw [ha] at h1; cases h1
  rw [Nat.mul_one]; exact h2
theorem get_Bo {l : List Bool} {j : Nat} (hj : j < l.length) : (l.map Bo)[j]? = some (Bo (l.getD j false)) := by
  rw [List.getElem?_map, List.getElem?_eq_getElem hj]; simp [List.getD, hj]
/-- of a place in a size, from the top down: does what the path has stand on the left? -/
def tds : Nat → Nat → Nat → List Bool
  | 0, _, _ => []
  | f + 1, n, p => if 1 < n then (if splitN n < p then true :: tds f (n - splitN n) (p - splitN n) else false :: tds f (splitN n) p) else []
def sidesN (n p : Nat) : List Bool := (tds n n p).reverse
theorem tds_end {f n p : Nat} (h : n ≤ 1) : tds f n p = [] := by
  match f with
  | 0 => rfl
  | f + 1 => rw [tds, if_neg (by omega)]
theorem tds_len : ∀ (f n p : Nat), n ≤ f → (tds f n p).length ≤ n
  | 0, n, p, h => Nat.zero_le _
  | f + 1, n, p, h => by
    rw [tds]
    split
    · have hs := splitN_spec (n := n) (by omega)
      split
      · have := tds_len f (n - splitN n) (p - splitN n) (by omega)
        simp only [List.length_cons]; omega
      · have := tds_len f (splitN n) p (by omega)
        simp only [List.length_cons]; omega
    · exact Nat.zero_le _
theorem sgo_ge (n : Nat) : ∀ f k, k ≤ sgo n f k
  | 0, k => Nat.le_refl _
  | f + 1, k => by
    rw [sgo]
    split
    · have := sgo_ge n f (2 * k); omega
    · exact Nat.le_refl _
theorem sgo_pow (n : Nat) : ∀ f i, ∃ j, sgo n f (2 ^ i) = 2 ^ j
  | 0, i => ⟨i, rfl⟩
  | f + 1, i => by
    rw [sgo]
    split
    · obtain ⟨j, hj⟩ := sgo_pow n f (i + 1)
      exact ⟨j, by rw [← hj, Nat.pow_succ, Nat.mul_comm]⟩
    · exact ⟨i, rfl⟩
theorem splitN_pow (n : Nat) : ∃ j, splitN n = 2 ^ j := sgo_pow n n 0
theorem pow_half {j c : Nat} (h : 2 ^ j < 2 ^ (c + 1)) : 2 ^ j ≤ 2 ^ c := by
  have : j < c + 1 := (Nat.pow_lt_pow_iff_right (by decide)).1 h
  exact Nat.pow_le_pow_right (by decide) (by omega)
theorem tds_short : ∀ (c f n p : Nat), n ≤ 2 ^ c → (tds f n p).length ≤ c
  | 0, f, n, p, h => by rw [tds_end (by omega)]; exact Nat.le_refl _
  | c + 1, 0, n, p, h => Nat.zero_le _
  | c + 1, f + 1, n, p, h => by
    rw [tds]
    split
    · have hs := splitN_spec (n := n) (by omega)
      obtain ⟨j, hj⟩ := splitN_pow n
      have hh : splitN n ≤ 2 ^ c := by rw [hj]; exact pow_half (by rw [← hj]; omega)
      split
      · have := tds_short c f (n - splitN n) (p - splitN n) (by omega)
        simp only [List.length_cons]; omega
      · have := tds_short c f (splitN n) p hh
        simp only [List.length_cons]; omega
    · exact Nat.zero_le _
theorem bool_snoc {W w : World} {S : List Seg} {a : Option Addr} {n cap : Nat} {l : List Bool} {u : Bool} (hn : n = l.length + 1) (H : St W w (row 4 1 a n cap (l.map Bo ++ [Bo u]) :: S)) : St W w (row 4 1 a (l ++ [u]).length cap ((l ++ [u]).map Bo) :: S) := by
  subst hn
  simpa using H
theorem swp_put {l : List Bool} {i j : Nat} (hj : j = l.length - 1 - i) : putL (putL ((swp l i).map Bo) (0 + i * 1) [Bo ((swp l i).getD j false)]) (0 + j * 1) [Bo ((swp l i).getD i false)] = (swp l (i + 1)).map Bo := by
  subst hj
  rw [Nat.mul_one, Nat.zero_add, Nat.mul_one, Nat.zero_add, swp, List.map_set, List.map_set]; rfl

theorem sides_ok {W w : World} {F : List Seg} (H : St W w F) {n p : Nat} (hn : n ≤ 9223372036854775807) (hp : p ≤ 9223372036854775807) :
    Ok Try.prog 65 [.int .i64 (n : Int), .int .i64 (p : Int)].toArray w (fun r w' => ∃ a c, r = .slice a (sidesN n p).length c ∧ St W w' (row 4 1 a (sidesN n p).length c ((sidesN n p).map Bo) :: F)) := by
  refine enter (n := 54) (rs := #[.tmp 4]) Try.func65 rfl rfl rfl rfl ?_
  refine w_seq ?_
  refine w_region ?_
  refine l_pslice rfl rfl ?_
  refine l_nil ?_
  refine w_seq ?_
  refine w_region ?_
  refine l_pslice rfl rfl ?_
  refine l_nil ?_
  refine w_seq ?_
  refine w_block ?_
  refine w_loopG (G := Nat × Nat × Nat × Option Addr × Nat × List Bool) [0, 1, 5, 6, 9, 10, 11, 12, 13, 14, 15, 16, 17, 18, 19, 20, 21, 22, 23, 24, 25, 26, 27, 28] (fun ⟨f, n', p', a5, c5, l⟩ => [(0, .int .i64 ((n' : Nat) : Int)), (1, .int .i64 ((p' : Nat) : Int)), (5, .slice a5 l.length c5)]) (fun m ⟨f, n', p', a5, c5, l⟩ w => (m = n' ∧ n' ≤ f ∧ l.length + n' ≤ n ∧ p' ≤ p) ∧ l ++ tds f n' p' = tds n n p ∧ St W w (row 4 1 a5 l.length c5 (l.map Bo) :: F)) (fun _ => rfl) ?_ ?_
  · exact ⟨n, (n, n, p, none, 0, []), ⟨rfl, rfl, rfl, trivial⟩, ⟨rfl, Nat.le_refl _, by simp, Nat.le_refl _⟩, rfl, St.newRow H⟩
  · rintro m ⟨f, n', p', a5, c5, l⟩ ρ1 w ⟨⟨hmn, hnf, hln, hpp⟩, htd, H⟩
    have hl63 : l.length ≤ 63 := by
      have h1 := tds_short 63 n n p (by omega)
      rw [← htd, List.length_append] at h1; omega
    refine w_seq ?_
    refine w_seq ?_
    refine w_region ?_
    refine l_pint rfl rfl ?_
    refine l_pbool rfl rfl ?_
    refine l_nil ?_
    refine w_cond rfl (fun c1 => ?_) (fun c1 => ?_)
    · try simp only [decide_eq_true_eq, decide_eq_false_iff_not, Bool.not_eq_true', Bool.not_eq_false', beq_iff_eq, beq_eq_false_iff_ne, bne_iff_ne, bne_eq_false_iff_eq, ne_eq, Int.not_lt, Int.not_le] at c1
      have hn2 : 2 ≤ n' := by omega
      have hsp := splitN_spec hn2
      obtain ⟨f, rfl⟩ : ∃ g, f = g + 1 := ⟨f - 1, by omega⟩
      rw [tds, if_pos (by omega)] at htd
      refine w_skip ?_
      refine w_block ?_
      refine w_seq ?_
      refine w_region ?_
      refine l_pint rfl rfl ?_
      refine b_call rfl cb_51 rfl (split_ok (n := n') ⟨by omega, by omega⟩) (fun v w hv => ?_)
      obtain ⟨rfl, rfl⟩ := hv
      refine l_pint rfl rfl ?_
      refine l_nil ?_
      refine w_seq ?_
      refine w_region ?_
      refine l_pslice rfl rfl ?_
      refine l_pint rfl rfl ?_
      refine l_pint rfl rfl ?_
      refine l_pbool rfl rfl ?_
      refine b_buildSlice (cs := [Bo (decide ((p' : Int) > (splitN n' : Int)))]) rfl el_108 ze_4 rfl rfl rfl H (fun b17 w H => ?_)
      refine b_append rfl el_108 ze_4 rfl rfl rfl H 1 rfl (Rd.mk (H.cells0 0 rfl)) rfl (by simp [Value.oneCell', Bo]) ⟨by omega, by simp only [maxLen]; omega⟩ (fun a18 c18 w H => ?_)
      refine l_pslice rfl rfl ?_
      refine l_nil ?_
      refine w_seq ?_
      refine w_region ?_
      refine l_pint rfl rfl ?_
      refine l_pint rfl rfl ?_
      refine l_pbool rfl rfl ?_
      refine l_nil ?_
      refine w_cond rfl (fun c2 => ?_) (fun c2 => ?_)
      · try simp only [decide_eq_true_eq, decide_eq_false_iff_not, Bool.not_eq_true', Bool.not_eq_false', beq_iff_eq, beq_eq_false_iff_ne, bne_iff_ne, bne_eq_false_iff_eq, ne_eq, Int.not_lt, Int.not_le] at c2
        rw [if_pos (by omega)] at htd
        refine w_region ?_
        refine l_pint rfl rfl ?_
        refine l_pint rfl rfl ?_
        first | refine l_v rfl (q_sub rfl rfl rfl (by simp only [inK]; omega)) ?_ | refine l_pint rfl rfl ?_
        refine l_pint rfl rfl ?_
        refine l_pint rfl rfl ?_
        first | refine l_v rfl (q_sub rfl rfl rfl (by simp only [inK]; omega)) ?_ | refine l_pint rfl rfl ?_
        refine l_pint rfl rfl ?_
        refine l_pint rfl rfl ?_
        refine l_nil ?_
        refine ⟨by repeat' first | exact Agr.mix _ _ _ | exact Agr.refl _ _ | refine Agr.inner rfl ?_ | refine Agr.upd rfl ?_ | refine Agr.updL' rfl ?_, ?_⟩
        have hd : decide ((p' : Int) > (splitN n' : Int)) = true := decide_eq_true (by omega)
        rw [hd] at H
        exact ⟨n' - splitN n', (f, n' - splitN n', p' - splitN n', a18, c18, l ++ [true]), by omega, ⟨congrArg (Value.int .i64) (by omega), congrArg (Value.int .i64) (by omega), congrArg (fun x => Value.slice a18 x c18) (by simp), trivial⟩, ⟨rfl, by omega, by simp; omega, by omega⟩, by rw [List.append_assoc]; exact htd, bool_snoc rfl H.drop1⟩
      · try simp only [decide_eq_true_eq, decide_eq_false_iff_not, Bool.not_eq_true', Bool.not_eq_false', beq_iff_eq, beq_eq_false_iff_ne, bne_iff_ne, bne_eq_false_iff_eq, ne_eq, Int.not_lt, Int.not_le] at c2
        rw [if_neg (by omega)] at htd
        refine w_region ?_
        refine l_pint rfl rfl ?_
        refine l_pint rfl rfl ?_
        refine l_nil ?_
        refine ⟨by repeat' first | exact Agr.mix _ _ _ | exact Agr.refl _ _ | refine Agr.inner rfl ?_ | refine Agr.upd rfl ?_ | refine Agr.updL' rfl ?_, ?_⟩
        have hd : decide ((p' : Int) > (splitN n' : Int)) = false := decide_eq_false (by omega)
        rw [hd] at H
        exact ⟨splitN n', (f, splitN n', p', a18, c18, l ++ [false]), by omega, ⟨rfl, rfl, congrArg (fun x => Value.slice a18 x c18) (by simp), trivial⟩, ⟨rfl, by omega, by simp; omega, by omega⟩, by rw [List.append_assoc]; exact htd, bool_snoc rfl H.drop1⟩
    · try simp only [decide_eq_true_eq, decide_eq_false_iff_not, Bool.not_eq_true', Bool.not_eq_false', beq_iff_eq, beq_eq_false_iff_ne, bne_iff_ne, bne_eq_false_iff_eq, ne_eq, Int.not_lt, Int.not_le] at c1
      rw [tds_end (by omega), List.append_nil] at htd
      refine w_exit ?_
      refine w_seq ?_
      refine w_seq ?_
      refine w_region ?_
      refine l_pslice rfl rfl ?_
      refine l_v rfl (q_lenSlice rfl el_108 rfl) ?_
      first | refine l_v rfl (q_sub rfl rfl rfl (by simp only [inK]; omega)) ?_ | refine l_pint rfl rfl ?_
      refine l_pint rfl rfl ?_
      refine l_pint rfl rfl ?_
      refine l_nil ?_
      refine w_block ?_
      refine w_loopG (G := Nat) [7, 8, 32, 33, 34, 35, 36, 37, 38, 39, 40, 41, 42, 43, 44, 45, 46, 47, 48, 49, 50, 51, 52] (fun i => [(7, .int .i64 ((i : Nat) : Int)), (8, .int .i64 ((l.length : Int) - 1 - (i : Nat)))]) (fun m i w => (m + i = l.length ∧ 2 * i ≤ l.length) ∧ St W w (row 4 1 a5 l.length c5 ((swp l i).map Bo) :: F)) (fun _ => rfl) ?_ ?_
      · refine ⟨l.length, 0, ⟨rfl, congrArg (Value.int .i64) (by omega), trivial⟩, ⟨by omega, by omega⟩, ?_⟩
        rw [show (swp l 0) = l from by unfold swp; rfl]
        exact H
      · rintro m i ρ1 w ⟨⟨hmi, hi2⟩, H⟩
        refine w_seq ?_
        refine w_seq ?_
        refine w_region ?_
        refine l_pint rfl rfl ?_
        refine l_pint rfl rfl ?_
        refine l_pbool rfl rfl ?_
        refine l_nil ?_
        refine w_cond rfl (fun c3 => ?_) (fun c3 => ?_)
        · try simp only [decide_eq_true_eq, decide_eq_false_iff_not, Bool.not_eq_true', Bool.not_eq_false', beq_iff_eq, beq_eq_false_iff_ne, bne_iff_ne, bne_eq_false_iff_eq, ne_eq, Int.not_lt, Int.not_le] at c3
          obtain ⟨j, hj⟩ : ∃ j, j = l.length - 1 - i := ⟨_, rfl⟩
          have hsl := swp_len l i
          obtain ⟨ba, haa, _⟩ := row_addr (k := i) H (i := 0) rfl (get_Bo (by omega))
          refine w_skip ?_
          refine w_seq ?_
          refine w_block ?_
          refine w_drawT [13, 15] [7, 11] [(0, 0), (1, 0), (2, 0), (3, 0), (4, 0), (5, 0), (6, 0), (7, 1), (8, 0), (9, 0), (10, 0), (11, 1), (12, 0), (13, 2), (14, 0), (15, 2)] mixed (by kernel_rfl) (fun _ _ _ h => fin_panic h) H (fun H => ?_)
          refine r_pslice rfl rfl rfl ?_
          refine r_pint rfl rfl rfl ?_
          refine r_pslice rfl rfl rfl ?_
          refine r_pint rfl rfl rfl ?_
          refine r_pslice rfl rfl rfl ?_
          refine r_pint rfl rfl rfl ?_
          refine r_w rfl rfl (fun w => q_indexSliceE (j) rfl el_108 rfl haa rfl (by omega) (by omega)) ?_
          refine r_v rfl rfl (fun w hS => q_load1 rfl c1_4 rfl (rd_at2 haa ((hS.rowInv (i := 0) rfl).2.2.2.2) (get_Bo (j := j) (by omega)))) ?_
          refine r_pslice rfl rfl rfl ?_
          refine r_pint rfl rfl rfl ?_
          refine r_w rfl rfl (fun w => q_indexSliceE (i) rfl el_108 rfl haa rfl (by omega) (by omega)) ?_
          refine r_v rfl rfl (fun w hS => q_load1 rfl c1_4 rfl (rd_at2 haa ((hS.rowInv (i := 0) rfl).2.2.2.2) (get_Bo (j := i) (by omega)))) ?_
          refine r_w rfl rfl (fun w => q_indexSliceE (i) rfl el_108 rfl haa rfl (by omega) (by omega)) ?_
          refine r_do rfl ?_
          refine b_storeRow (vs := [Bo ((swp l i).getD j false)]) rfl sz_4 rfl rfl rfl rfl rfl H 0 rfl haa (by simp [swp_len]; omega) rfl (fun w H => ?_)
          refine l_nil ⟨(fun h => nomatch h), ?_⟩
          refine r_w rfl rfl (fun w => q_indexSliceE (j) rfl el_108 rfl haa rfl (by omega) (by omega)) ?_
          refine r_do rfl ?_
          refine b_storeRow (vs := [Bo ((swp l i).getD i false)]) rfl sz_4 rfl rfl rfl rfl rfl H 0 rfl haa (by simp [length_putL, swp_len]; omega) (swp_put hj) (fun w H => ?_)
          refine l_nil ⟨(fun h => nomatch h), ?_⟩
          refine r_nil ?_
          refine w_region ?_
          refine l_pint rfl rfl ?_
          first | refine l_v rfl (q_add rfl rfl rfl (by simp only [inK]; omega)) ?_ | refine l_pint rfl rfl ?_
          refine l_pint rfl rfl ?_
          first | refine l_v rfl (q_sub rfl rfl rfl (by simp only [inK]; omega)) ?_ | refine l_pint rfl rfl ?_
          refine l_pint rfl rfl ?_
          refine l_pint rfl rfl ?_
          refine l_nil ?_
          refine ⟨by repeat' first | exact Agr.mix _ _ _ | exact Agr.refl _ _ | refine Agr.inner rfl ?_ | refine Agr.upd rfl ?_ | refine Agr.updL' rfl ?_, ?_⟩
          exact ⟨m - 1, i + 1, by omega, ⟨by exact congrArg (Value.int IntKind.i64) (Int.natCast_succ i).symm, congrArg (Value.int .i64) (by omega), trivial⟩, ⟨by omega, by omega⟩, H⟩
        · try simp only [decide_eq_true_eq, decide_eq_false_iff_not, Bool.not_eq_true', Bool.not_eq_false', beq_iff_eq, beq_eq_false_iff_ne, bne_iff_ne, bne_eq_false_iff_eq, ne_eq, Int.not_lt, Int.not_le] at c3
          have hrev : swp l i = sidesN n p := by rw [swp_done l (by omega) (by omega), htd]; rfl
          have hsl := swp_len l i
          refine w_exit ?_
          refine w_seq ?_
          refine w_region ?_
          refine l_pslice rfl rfl ?_
          refine l_pslice rfl rfl ?_
          refine l_nil ?_
          refine w_ret ?_
          refine fin1 (v := .slice _ _ _) rfl ?_
          have hll : l.length = (sidesN n p).length := by rw [← hrev, hsl]
          refine ⟨a5, c5, congrArg (fun x => Value.slice a5 x c5) hll, ?_⟩
          rw [hrev, hll] at H
          exact H

end Go.Proofs.Ytcmmhpkgjcepdaa
