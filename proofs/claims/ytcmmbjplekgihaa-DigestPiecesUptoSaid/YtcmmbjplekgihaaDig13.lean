/- The reference's less, times, halves and root do what their contracts say. -/
import Derived.Test.YtcmmbjplekgihaaDig11
import Derived.Test.YtcmmbjplekgihaaRefTab
import Derived.Test.YtcmmbjplekgihaaBase16
namespace Go.Proofs.Ytcmmbjplekgihaa
open Go.EW
attribute [local irreducible] EW.W EW.L EW.fin block8 outB parA pgo hexL shaL digitI
set_option linter.unusedVariables false
set_option linter.unusedSimpArgs false
attribute [local irreducible] tgo outH lgo rgo pl cubeL

theorem rd_N {w : World} {a : Option Addr} {l : List Nat} {j : Nat} (h : Rd w a (l.map N64)) (hj : j < l.length) : ∃ b o, a = some ⟨b, o, none⟩ ∧ w.cell? ⟨b, o + j * 1, none⟩ = some (N64 (l.getD j 0)) :=
  rd_cell h (get_N hj)
theorem getD_lt {l : List Nat} {m : Nat} (h : ∀ x ∈ l, x < m) (hm : 0 < m) (i : Nat) : l.getD i 0 < m := by
  rw [List.getD_eq_getElem?_getD]
  by_cases hi : i < l.length
  · rw [List.getElem?_eq_getElem hi]; exact h _ (List.getElem_mem hi)
  · rw [List.getElem?_eq_none (by omega)]; exact hm
theorem mul_lt {x m c : Nat} (hx : x < 65536) (hm : m < 1099511627776) (hc : c < 2199023255552) : x * m < 72057594037927936 ∧ (x * m + c) / 65536 < 2199023255552 := by
  have h1 : x * m ≤ 65536 * m := Nat.mul_le_mul_right m (by omega)
  omega
theorem repL_one {n : Nat} {z : Value} : repL n [z] = List.replicate n z := by
  unfold repL
  induction n with
  | zero => rfl
  | succ n ih => rw [List.replicate_succ, List.flatten_cons, ih, List.replicate_succ]; rfl
theorem N64_mul (a b : Nat) : N64 (a * b) = .int .u64 ((a : Int) * (b : Int)) := by unfold N64; rw [Int.natCast_mul]
theorem N64_add (a b : Nat) : N64 (a + b) = .int .u64 ((a : Int) + (b : Int)) := by unfold N64; rw [Int.natCast_add]
theorem q_mulN {P : Program} {w : World} {e : Operand → Value} {oo : Oper} {x y : Operand} {T T' : TypeId} {a b : Nat} (ho : oo.op = .binOp .mul T x y T') (hx : e x = N64 a) (hy : e y = N64 b) (h : a * b < 18446744073709551616) : (execOp e oo).run P w = .ok (.value (N64 (a * b))) w := by
  rw [N64_mul]; exact q_mul (k := .u64) ho hx hy (by rw [← Int.natCast_mul]; simp only [inK]; omega)
theorem q_addN {P : Program} {w : World} {e : Operand → Value} {oo : Oper} {x y : Operand} {T T' : TypeId} {a b : Nat} (ho : oo.op = .binOp .add T x y T') (hx : e x = N64 a) (hy : e y = N64 b) (h : a + b < 18446744073709551616) : (execOp e oo).run P w = .ok (.value (N64 (a + b))) w := by
  rw [N64_add]; exact q_add (k := .u64) ho hx hy (by simp only [inK]; omega)
theorem q_remN {P : Program} {w : World} {e : Operand → Value} {oo : Oper} {x y : Operand} {T T' : TypeId} {a b : Nat} (ho : oo.op = .binOp .rem T x y T') (hx : e x = N64 a) (hy : e y = N64 b) (h : b ≠ 0) : (execOp e oo).run P w = .ok (.value (N64 (a % b))) w := by
  have := q_rem (P := P) (w := w) (k := .u64) (a := (a : Int)) (b := (b : Int)) ho hx hy (by omega)
  rw [tmodN] at this; exact this
theorem q_quoN {P : Program} {w : World} {e : Operand → Value} {oo : Oper} {x y : Operand} {T T' : TypeId} {a b : Nat} (ho : oo.op = .binOp .quo T x y T') (hx : e x = N64 a) (hy : e y = N64 b) (h : b ≠ 0) (hs : a < 18446744073709551616) : (execOp e oo).run P w = .ok (.value (N64 (a / b))) w := by
  have := q_quo (P := P) (w := w) (k := .u64) (a := (a : Int)) (b := (b : Int)) ho hx hy (by omega) (by rw [tdivN]; have h1 := Nat.div_le_self a b; obtain ⟨q, hq⟩ : ∃ q, q = a / b := ⟨_, rfl⟩; rw [← hq] at h1 ⊢; simp only [inK]; omega)
  rw [tdivN] at this; exact this

theorem rd_at {w : World} {a : Option Addr} {b o j : Nat} {xs : List Value} {v : Value} (ha : a = some ⟨b, o, none⟩) (h : Rd w a xs) (hj : xs[j]? = some v) : w.cell? ⟨b, o + j * 1, none⟩ = some v := by
  obtain ⟨b', o', h1, h2⟩ := h j v hj
  rw [ha] at h1; cases h1
  rw [Nat.mul_one]; exact h2

theorem less_ok {W w : World} {F : List Seg} (H : St W w F) {a a2 : Option Addr} {n c c2 : Nat} {la lb : List Nat} (ha : RdIn W F a (la.map N64)) (hb : RdIn W F a2 (lb.map N64)) (hla : la.length = n) (hlb : lb.length = n) (hn : n ≤ 1000) :
    Ok Try.prog 50 [.slice a n c, .slice a2 n c2].toArray w (fun v w' => v = .bool (lgo la lb n) ∧ St W w' F) := by
  refine enter (n := 31) (rs := #[.tmp 4]) Try.func50 rfl rfl rfl rfl ?_
  refine w_seq ?_
  refine w_region ?_
  refine l_pbool rfl rfl ?_
  refine l_nil ?_
  refine w_seq ?_
  refine w_seq ?_
  refine w_region ?_
  refine l_pslice rfl rfl ?_
  refine l_v rfl (q_lenSlice rfl el_87 rfl) ?_
  first | refine l_v rfl (q_sub rfl rfl rfl (by simp only [inK]; omega)) ?_ | refine l_pint rfl rfl ?_
  refine l_pint rfl rfl ?_
  refine l_nil ?_
  refine w_block ?_
  refine w_loopG (G := Nat) [4, 5, 9, 10, 11, 12, 13, 14, 15, 16, 17, 18, 19, 20, 21, 22, 23, 24, 25, 26, 27, 28, 29, 30] (fun i => [(5, .int .i64 ((i : Nat) - 1 : Int))]) (fun m i w => m = i ∧ i ≤ n ∧ lgo la lb i = lgo la lb n ∧ St W w F) (fun _ => rfl) ?_ ?_
  · exact ⟨n, n, ⟨rfl, trivial⟩, rfl, Nat.le_refl _, rfl, H⟩
  · rintro m i ρ1 w ⟨hmi, hin, hlg, H⟩
    refine w_seq ?_
    refine w_seq ?_
    refine w_region ?_
    refine l_pint rfl rfl ?_
    refine l_pbool rfl rfl ?_
    refine l_nil ?_
    refine w_cond rfl (fun c1 => ?_) (fun c1 => ?_)
    · try simp only [decide_eq_true_eq, decide_eq_false_iff_not, Bool.not_eq_true', Bool.not_eq_false', beq_iff_eq, beq_eq_false_iff_ne, bne_iff_ne, bne_eq_false_iff_eq, ne_eq, Int.not_lt, Int.not_le] at c1
      obtain ⟨j, rfl⟩ : ∃ j, i = j + 1 := ⟨i - 1, by omega⟩
      obtain ⟨ba, oa, haa, hca⟩ := rd_N (j := j) (ha.use H 0 rfl) (by omega)
      obtain ⟨bb, ob, hab, hcb⟩ := rd_N (j := j) (hb.use H 0 rfl) (by omega)
      refine w_skip ?_
      refine w_seq ?_
      refine w_block ?_
      refine w_seq ?_
      refine w_drawT [] [3, 7] [(0, 0), (1, 0), (2, 0), (3, 1), (4, 0), (5, 0), (6, 0), (7, 1), (8, 0)] mixed (by kernel_rfl) (fun _ _ _ h => fin_panic h) H (fun H => ?_)
      refine r_pslice rfl rfl rfl ?_
      refine r_pint rfl rfl rfl ?_
      refine r_w rfl rfl (fun w => q_indexSliceE j rfl el_87 rfl haa rfl (by omega) (by omega)) ?_
      refine r_v rfl rfl (fun w hS => q_load1 rfl c1_81 rfl (rd_at haa (ha.use hS 0 rfl) (get_N (by omega)))) ?_
      refine r_pslice rfl rfl rfl ?_
      refine r_pint rfl rfl rfl ?_
      refine r_w rfl rfl (fun w => q_indexSliceE j rfl el_87 rfl hab rfl (by omega) (by omega)) ?_
      refine r_v rfl rfl (fun w hS => q_load1 rfl c1_81 rfl (rd_at hab (hb.use hS 0 rfl) (get_N (by omega)))) ?_
      refine r_pbool rfl rfl rfl ?_
      refine r_nil ?_
      refine w_cond rfl (fun c2 => ?_) (fun c2 => ?_)
      · try simp only [decide_eq_true_eq, decide_eq_false_iff_not, Bool.not_eq_true', Bool.not_eq_false', beq_iff_eq, beq_eq_false_iff_ne, bne_iff_ne, bne_eq_false_iff_eq, ne_eq, Int.not_lt, Int.not_le] at c2
        refine w_seq ?_
        refine w_drawT [] [3, 7] [(0, 0), (1, 0), (2, 0), (3, 1), (4, 0), (5, 0), (6, 0), (7, 1), (8, 0), (9, 0)] mixed (by kernel_rfl) (fun _ _ _ h => fin_panic h) H (fun H => ?_)
        refine r_pslice rfl rfl rfl ?_
        refine r_pint rfl rfl rfl ?_
        refine r_w rfl rfl (fun w => q_indexSliceE j rfl el_87 rfl haa rfl (by omega) (by omega)) ?_
        refine r_v rfl rfl (fun w hS => q_load1 rfl c1_81 rfl (rd_at haa (ha.use hS 0 rfl) (get_N (by omega)))) ?_
        refine r_pslice rfl rfl rfl ?_
        refine r_pint rfl rfl rfl ?_
        refine r_w rfl rfl (fun w => q_indexSliceE j rfl el_87 rfl hab rfl (by omega) (by omega)) ?_
        refine r_v rfl rfl (fun w hS => q_load1 rfl c1_81 rfl (rd_at hab (hb.use hS 0 rfl) (get_N (by omega)))) ?_
        refine r_pbool rfl rfl rfl ?_
        refine r_pbool rfl rfl rfl ?_
        refine r_nil ?_
        refine w_ret ?_
        refine fin1 (v := .bool _) rfl ?_
        refine ⟨?_, H⟩
        rw [← hlg, lgo, if_pos (by omega)]
        exact congrArg Value.bool (decide_eq_decide.2 (by omega))
      · try simp only [decide_eq_true_eq, decide_eq_false_iff_not, Bool.not_eq_true', Bool.not_eq_false', beq_iff_eq, beq_eq_false_iff_ne, bne_iff_ne, bne_eq_false_iff_eq, ne_eq, Int.not_lt, Int.not_le] at c2
        refine w_skip ?_
        refine w_region ?_
        refine l_pint rfl rfl ?_
        first | refine l_v rfl (q_sub rfl rfl rfl (by simp only [inK]; omega)) ?_ | refine l_pint rfl rfl ?_
        refine l_pint rfl rfl ?_
        refine l_nil ?_
        refine ⟨by repeat' first | exact Agr.mix _ _ _ | exact Agr.refl _ _ | refine Agr.inner rfl ?_ | refine Agr.upd rfl ?_ | refine Agr.updL' rfl ?_, ?_⟩
        exact ⟨j, j, by omega, ⟨congrArg (Value.int .i64) (by omega), trivial⟩, rfl, by omega, (by rw [← hlg, lgo, if_neg (by omega)]), H⟩
    · try simp only [decide_eq_true_eq, decide_eq_false_iff_not, Bool.not_eq_true', Bool.not_eq_false', beq_iff_eq, beq_eq_false_iff_ne, bne_iff_ne, bne_eq_false_iff_eq, ne_eq, Int.not_lt, Int.not_le] at c1
      obtain rfl : i = 0 := by omega
      refine w_exit ?_
      refine w_seq ?_
      refine w_region ?_
      refine l_pbool rfl rfl ?_
      refine l_nil ?_
      refine w_ret ?_
      refine fin1 (v := .bool _) rfl ?_
      refine ⟨?_, H⟩
      rw [← hlg]; unfold lgo; rfl

theorem times_ok {W w : World} {F : List Seg} (H : St W w F) {a : Option Addr} {n c mm : Nat} {la : List Nat} (ha : RdIn W F a (la.map N64)) (hla : la.length = n) (hn : n ≤ 1000) (hlt : ∀ x ∈ la, x < 65536) (hmm : mm < 1099511627776) :
    Ok Try.prog 48 [.slice a n c, N64 mm].toArray w (fun v w' => ∃ b, v = .slice (some ⟨b, 0, none⟩) n n ∧ St W w' (blk0 b ((tgo la mm 0).map N64) 81 :: F)) := by
  refine enter (n := 34) (rs := #[.tmp 4]) Try.func48 rfl rfl rfl rfl ?_
  refine w_seq ?_
  refine w_region ?_
  refine l_pslice rfl rfl ?_
  refine l_nil ?_
  refine w_seq ?_
  refine w_region ?_
  refine l_pslice rfl rfl ?_
  refine l_v rfl (q_lenSlice rfl el_87 rfl) ?_
  refine b_make rfl el_87 ze_81 rfl rfl rfl ⟨by omega, by simp only [maxLen]; omega⟩ H (fun b11 w H => ?_)
  refine l_pslice rfl rfl ?_
  refine l_nil ?_
  refine w_seq ?_
  refine w_region ?_
  refine l_pint rfl rfl ?_
  refine l_nil ?_
  refine w_seq ?_
  refine w_seq ?_
  refine w_region ?_
  refine l_pint rfl rfl ?_
  refine l_nil ?_
  refine w_block ?_
  refine w_loopG (G := Nat × Nat) [6, 7, 8, 12, 13, 14, 15, 16, 17, 18, 19, 20, 21, 22, 23, 24, 25, 26, 27, 28, 29, 30, 31, 32] (fun ⟨i, cy⟩ => [(7, .int .i64 ((i : Nat) : Int)), (6, N64 cy)]) (fun m ⟨i, cy⟩ w => m + i = n ∧ cy < 2199023255552 ∧ tgo (la.drop i) mm cy = (tgo la mm 0).drop i ∧ St W w (blk0 b11 (((tgo la mm 0).take i ++ List.replicate (la.length - i) 0).map N64) 81 :: F)) (fun _ => rfl) ?_ ?_
  · refine ⟨n, (0, 0), ⟨rfl, rfl, trivial⟩, rfl, by omega, rfl, ?_⟩
    rw [List.take_zero, List.nil_append, Nat.sub_zero, hla, List.map_replicate]
    show St W w (blk0 b11 (List.replicate n (N64 0)) 81 :: F)
    rw [← repL_one]
    exact H
  · rintro m ⟨i, cy⟩ ρ1 w ⟨hmi, hcy, htg, H⟩
    refine w_seq ?_
    refine w_seq ?_
    refine w_region ?_
    refine l_pint rfl rfl ?_
    refine l_pslice rfl rfl ?_
    refine l_v rfl (q_lenSlice rfl el_87 rfl) ?_
    refine l_pbool rfl rfl ?_
    refine l_nil ?_
    refine w_cond rfl (fun c1 => ?_) (fun c1 => ?_)
    · try simp only [decide_eq_true_eq, decide_eq_false_iff_not, Bool.not_eq_true', Bool.not_eq_false', beq_iff_eq, beq_eq_false_iff_ne, bne_iff_ne, bne_eq_false_iff_eq, ne_eq, Int.not_lt, Int.not_le] at c1
      obtain ⟨ba, oa, haa, hca⟩ := rd_N (j := i) (ha.use H 1 rfl) (by omega)
      have hml := mul_lt (getD_lt hlt (by omega) i) hmm hcy
      have hts := tgo_step (by omega) htg (tgo_len _ _ _)
      refine w_skip ?_
      refine w_seq ?_
      refine w_block ?_
      refine w_seq ?_
      refine w_region ?_
      refine l_pslice rfl rfl ?_
      refine l_pint rfl rfl ?_
      refine l_v rfl (q_indexSliceE (i) rfl el_87 rfl haa rfl rfl (by omega)) ?_
      refine l_v rfl (q_load1 rfl c1_81 rfl hca) ?_
      refine l_pint rfl rfl ?_
      refine l_v rfl (q_mulN (a := la.getD i 0) (b := mm) rfl rfl rfl (by omega)) ?_
      refine l_pint rfl rfl ?_
      refine l_v rfl (q_addN (a := la.getD i 0 * mm) (b := cy) rfl rfl rfl (by omega)) ?_
      refine l_pint rfl rfl ?_
      refine l_nil ?_
      refine w_seq ?_
      refine w_region ?_
      refine l_pslice rfl rfl ?_
      refine l_pint rfl rfl ?_
      refine l_pint rfl rfl ?_
      refine l_v rfl (q_remN (a := la.getD i 0 * mm + cy) (b := 65536) rfl rfl rfl (by omega)) ?_
      refine l_v rfl (q_indexSliceE (i) rfl el_87 rfl rfl rfl rfl (by omega)) ?_
      refine b_store0 (vs := [N64 ((la.getD i 0 * mm + cy) % 65536)]) rfl sz_81 rfl rfl rfl rfl rfl H 0 rfl (by simp [tgo_len]; omega) (fun w H => ?_)
      rw [put_N, hts.2] at H
      refine l_nil ?_
      refine w_region ?_
      refine l_pint rfl rfl ?_
      refine l_v rfl (q_quoN (a := la.getD i 0 * mm + cy) (b := 65536) rfl rfl rfl (by omega) (by omega)) ?_
      refine l_pint rfl rfl ?_
      refine l_nil ?_
      refine w_region ?_
      refine l_pint rfl rfl ?_
      first | refine l_v rfl (q_add rfl rfl rfl (by simp only [inK]; omega)) ?_ | refine l_pint rfl rfl ?_
      refine l_pint rfl rfl ?_
      refine l_nil ?_
      refine ⟨by repeat' first | exact Agr.mix _ _ _ | exact Agr.refl _ _ | refine Agr.inner rfl ?_ | refine Agr.upd rfl ?_ | refine Agr.updL' rfl ?_, ?_⟩
      exact ⟨m - 1, (i + 1, (la.getD i 0 * mm + cy) / 65536), by omega, ⟨by exact congrArg (Value.int IntKind.i64) (Int.natCast_succ i).symm, rfl, trivial⟩, by omega, hml.2, hts.1, H⟩
    · try simp only [decide_eq_true_eq, decide_eq_false_iff_not, Bool.not_eq_true', Bool.not_eq_false', beq_iff_eq, beq_eq_false_iff_ne, bne_iff_ne, bne_eq_false_iff_eq, ne_eq, Int.not_lt, Int.not_le] at c1
      have e : i = n := by omega
      refine w_exit ?_
      refine w_seq ?_
      refine w_region ?_
      refine l_pslice rfl rfl ?_
      refine l_pslice rfl rfl ?_
      refine l_nil ?_
      refine w_ret ?_
      refine fin1 (v := .slice _ _ _) rfl ?_
      refine ⟨b11, rfl, ?_⟩
      rw [e, hla, Nat.sub_self, List.replicate_zero, List.append_nil, List.take_of_length_le (by rw [tgo_len]; omega)] at H
      exact H

theorem halves_ok {W w : World} {F : List Seg} (H : St W w F) {vv : Nat} (hv : vv < 18446744073709551616) :
    Ok Try.prog 49 [N64 vv].toArray w (fun v w' => ∃ b, v = .slice (some ⟨b, 0, none⟩) 9 9 ∧ St W w' (blk0 b ((outH vv 4).map N64) 81 :: F)) := by
  refine enter (n := 18) (rs := #[.tmp 2]) Try.func49 rfl rfl rfl rfl ?_
  refine w_seq ?_
  refine w_region ?_
  refine l_pslice rfl rfl ?_
  refine l_nil ?_
  refine w_seq ?_
  refine w_region ?_
  refine b_make (m := 9) rfl el_87 ze_81 rfl rfl rfl ⟨by decide, by decide⟩ H (fun b5 w H => ?_)
  refine l_pslice rfl rfl ?_
  refine l_nil ?_
  refine w_seq ?_
  refine w_seq ?_
  refine w_region ?_
  refine l_pint rfl rfl ?_
  refine l_nil ?_
  refine w_block ?_
  refine w_loopG (G := Nat) [0, 4, 6, 7, 8, 9, 10, 11, 12, 13, 14, 15, 16] (fun i => [(4, .int .i64 ((i : Nat) : Int)), (0, N64 (vv / 65536 ^ i))]) (fun m i w => m + i = 4 ∧ St W w (blk0 b5 ((outH vv i).map N64) 81 :: F)) (fun _ => rfl) ?_ ?_
  · refine ⟨4, 0, ⟨rfl, by rw [Nat.pow_zero, Nat.div_one]; exact rfl, trivial⟩, rfl, ?_⟩
    rw [outH]
    exact H
  · rintro m i ρ1 w ⟨hmi, H⟩
    refine w_seq ?_
    refine w_seq ?_
    refine w_region ?_
    refine l_pint rfl rfl ?_
    refine l_pbool rfl rfl ?_
    refine l_nil ?_
    refine w_cond rfl (fun c1 => ?_) (fun c1 => ?_)
    · try simp only [decide_eq_true_eq, decide_eq_false_iff_not, Bool.not_eq_true', Bool.not_eq_false', beq_iff_eq, beq_eq_false_iff_ne, bne_iff_ne, bne_eq_false_iff_eq, ne_eq, Int.not_lt, Int.not_le] at c1
      have hvi := Nat.div_le_self vv (65536 ^ i)
      refine w_skip ?_
      refine w_seq ?_
      refine w_block ?_
      refine w_seq ?_
      refine w_region ?_
      refine l_pslice rfl rfl ?_
      refine l_pint rfl rfl ?_
      refine l_pint rfl rfl ?_
      refine l_v rfl (q_remN (a := vv / 65536 ^ i) (b := 65536) rfl rfl rfl (by omega)) ?_
      refine l_v rfl (q_indexSliceE (i) rfl el_87 rfl rfl rfl rfl (by omega)) ?_
      refine b_store0 (vs := [N64 (vv / 65536 ^ i % 65536)]) rfl sz_81 rfl rfl rfl rfl rfl H 0 rfl (by simp [outH_len]; omega) (fun w H => ?_)
      rw [put_N, ← outH] at H
      refine l_nil ?_
      refine w_region ?_
      refine l_pint rfl rfl ?_
      refine l_v rfl (q_quoN (a := vv / 65536 ^ i) (b := 65536) rfl rfl rfl (by omega) (by omega)) ?_
      refine l_pint rfl rfl ?_
      refine l_nil ?_
      refine w_region ?_
      refine l_pint rfl rfl ?_
      first | refine l_v rfl (q_add rfl rfl rfl (by simp only [inK]; omega)) ?_ | refine l_pint rfl rfl ?_
      refine l_pint rfl rfl ?_
      refine l_nil ?_
      refine ⟨by repeat' first | exact Agr.mix _ _ _ | exact Agr.refl _ _ | refine Agr.inner rfl ?_ | refine Agr.upd rfl ?_ | refine Agr.updL' rfl ?_, ?_⟩
      exact ⟨m - 1, i + 1, by omega, ⟨by exact congrArg (Value.int IntKind.i64) (Int.natCast_succ i).symm, by rw [Nat.pow_succ, ← Nat.div_div_eq_div_mul]; exact rfl, trivial⟩, by omega, H⟩
    · try simp only [decide_eq_true_eq, decide_eq_false_iff_not, Bool.not_eq_true', Bool.not_eq_false', beq_iff_eq, beq_eq_false_iff_ne, bne_iff_ne, bne_eq_false_iff_eq, ne_eq, Int.not_lt, Int.not_le] at c1
      have e : i = 4 := by omega
      refine w_exit ?_
      refine w_seq ?_
      refine w_region ?_
      refine l_pslice rfl rfl ?_
      refine l_pslice rfl rfl ?_
      refine l_nil ?_
      refine w_ret ?_
      refine fin1 (v := .slice _ _ _) rfl ?_
      refine ⟨b5, rfl, ?_⟩
      rw [e] at H
      exact H

theorem root_ok {W w : World} {F : List Seg} (H : St W w F) {p : Nat} (hp : p < 65536) :
    Ok Try.prog 41 [N64 p].toArray w (fun v w' => v = U (rootU p) ∧ St W w' F) := by
  refine enter (n := 35) (rs := #[.tmp 2]) Try.func41 rfl rfl rfl rfl ?_
  refine w_seq ?_
  refine w_region ?_
  refine l_pint rfl rfl ?_
  refine l_nil ?_
  refine w_seq ?_
  refine w_region ?_
  refine b_make (m := 9) rfl el_87 ze_81 rfl rfl rfl ⟨by decide, by decide⟩ H (fun b8 w H => ?_)
  refine l_pslice rfl rfl ?_
  refine l_nil ?_
  refine w_seq ?_
  refine w_region ?_
  refine l_pslice rfl rfl ?_
  refine l_pint rfl rfl ?_
  refine l_v rfl (q_indexSliceE 6 rfl el_87 rfl rfl rfl rfl (by omega)) ?_
  refine b_store0 (vs := [N64 p]) rfl sz_81 rfl rfl rfl rfl rfl H 0 rfl (by show 0 + 6 * 1 + 1 ≤ 9; decide) (fun w H => ?_)
  have H : St W w (blk0 b8 ((wantL p).map N64) 81 :: F) := H
  refine l_nil ?_
  refine w_seq ?_
  refine w_region ?_
  refine l_pint rfl rfl ?_
  refine l_nil ?_
  refine w_seq ?_
  refine w_seq ?_
  refine w_region ?_
  refine l_pint rfl rfl ?_
  refine l_nil ?_
  refine w_block ?_
  refine w_loopG (G := Nat) [4, 5, 6, 7, 12, 13, 14, 15, 16, 17, 18, 19, 20, 21, 22, 23, 24, 25, 26, 27, 28, 29, 30, 31] (fun i => [(5, .int .i64 (35 - (i : Nat) : Int)), (4, N64 (rgo p i))]) (fun m i w => m + i = 36 ∧ St W w (blk0 b8 ((wantL p).map N64) 81 :: F)) (fun _ => rfl) ?_ ?_
  · exact ⟨36, 0, ⟨rfl, by rw [rgo]; exact rfl, trivial⟩, rfl, H⟩
  · rintro m i ρ1 w ⟨hmi, H⟩
    refine w_seq ?_
    refine w_seq ?_
    refine w_region ?_
    refine l_pint rfl rfl ?_
    refine l_pbool rfl rfl ?_
    refine l_nil ?_
    refine w_cond rfl (fun c1 => ?_) (fun c1 => ?_)
    · try simp only [decide_eq_true_eq, decide_eq_false_iff_not, Bool.not_eq_true', Bool.not_eq_false', beq_iff_eq, beq_eq_false_iff_ne, bne_iff_ne, bne_eq_false_iff_eq, ne_eq, Int.not_lt, Int.not_le] at c1
      have hrl := rgo_lt p i (by omega)
      have h2 : 2 ^ (36 - i) = 2 * 2 ^ (35 - i) := by rw [show 36 - i = (35 - i) + 1 by omega, Nat.pow_succ]; omega
      have hpw : 0 < 2 ^ (35 - i) := Nat.pow_pos (by decide)
      refine w_skip ?_
      refine w_seq ?_
      refine w_block ?_
      refine w_seq ?_
      refine w_region ?_
      refine l_p (v := N64 (rgo p i)) rfl rfl ?_
      refine l_pint rfl rfl ?_
      refine l_v rfl (q_convIntIn rfl (by kernel_rfl) in_64 rfl (by simp only [inK]; omega)) ?_
      refine l_v rfl (q_pure (u64_shl1 (35 - i) rfl rfl (by omega) (by omega))) ?_
      refine l_v rfl (q_addN (a := rgo p i) (b := 2 ^ (35 - i)) rfl rfl rfl (by omega)) ?_
      refine l_pint rfl rfl ?_
      refine l_nil ?_
      refine w_seq ?_
      refine w_region ?_
      refine l_pint rfl rfl ?_
      refine b_call rfl cb_49 rfl (halves_ok H (vv := (rgo p i + 2 ^ (35 - i))) (by omega)) (fun v w hv => ?_)
      obtain ⟨bh, rfl, H⟩ := hv
      refine l_pint rfl rfl ?_
      refine b_call rfl cb_48 rfl (times_ok H (la := outH (rgo p i + 2 ^ (35 - i)) 4) (mm := (rgo p i + 2 ^ (35 - i))) (RdIn.blk0 0 rfl) (outH_len _ _) (by omega) (outH_lt _ _) (by omega)) (fun v w hv => ?_)
      obtain ⟨bt, rfl, H⟩ := hv
      refine l_pint rfl rfl ?_
      refine b_call rfl cb_48 rfl (times_ok H (la := tgo (outH (rgo p i + 2 ^ (35 - i)) 4) (rgo p i + 2 ^ (35 - i)) 0) (mm := (rgo p i + 2 ^ (35 - i))) (RdIn.blk0 0 rfl) (by rw [tgo_len, outH_len]) (by omega) (tgo_lt _ _ _) (by omega)) (fun v w hv => ?_)
      obtain ⟨bu, rfl, H⟩ := hv
      refine l_pslice rfl rfl ?_
      refine l_nil ?_
      refine w_seq ?_
      refine w_region ?_
      refine l_pslice rfl rfl ?_
      refine l_pslice rfl rfl ?_
      refine b_call rfl cb_50 rfl (less_ok H (la := wantL p) (lb := tgo (tgo (outH (rgo p i + 2 ^ (35 - i)) 4) (rgo p i + 2 ^ (35 - i)) 0) (rgo p i + 2 ^ (35 - i)) 0) (n := 9) (RdIn.blk0 3 rfl) (RdIn.blk0 0 rfl) rfl (by rw [tgo_len, tgo_len, outH_len]) (by omega)) (fun v w hv => ?_)
      obtain ⟨rfl, H⟩ := hv
      refine l_pbool rfl rfl ?_
      refine l_nil ?_
      refine w_cond rfl (fun c2 => ?_) (fun c2 => ?_)
      · try simp only [decide_eq_true_eq, decide_eq_false_iff_not, Bool.not_eq_true', Bool.not_eq_false', beq_iff_eq, beq_eq_false_iff_ne, bne_iff_ne, bne_eq_false_iff_eq, ne_eq, Int.not_lt, Int.not_le] at c2
        have hr : rgo p (i + 1) = rgo p i + 2 ^ (35 - i) := by
          rw [rgo]; unfold cubeL; rw [c2]; rfl
        refine w_region ?_
        refine l_pint rfl rfl ?_
        refine l_pint rfl rfl ?_
        refine l_nil ?_
        refine w_region ?_
        refine l_pint rfl rfl ?_
        first | refine l_v rfl (q_sub rfl rfl rfl (by simp only [inK]; omega)) ?_ | refine l_pint rfl rfl ?_
        refine l_pint rfl rfl ?_
        refine l_nil ?_
        refine ⟨by repeat' first | exact Agr.mix _ _ _ | exact Agr.refl _ _ | refine Agr.inner rfl ?_ | refine Agr.upd rfl ?_ | refine Agr.updL' rfl ?_, ?_⟩
        exact ⟨m - 1, i + 1, by omega, ⟨congrArg (Value.int .i64) (by omega), by rw [hr]; exact rfl, trivial⟩, by omega, ((H.erase 0).erase 0).erase 0⟩
      · try simp only [decide_eq_true_eq, decide_eq_false_iff_not, Bool.not_eq_true', Bool.not_eq_false', beq_iff_eq, beq_eq_false_iff_ne, bne_iff_ne, bne_eq_false_iff_eq, ne_eq, Int.not_lt, Int.not_le] at c2
        have hr : rgo p (i + 1) = rgo p i := by
          rw [rgo]; unfold cubeL; rw [(by simpa using c2 : lgo (wantL p) (tgo (tgo (outH (rgo p i + 2 ^ (35 - i)) 4) (rgo p i + 2 ^ (35 - i)) 0) (rgo p i + 2 ^ (35 - i)) 0) 9 = true)]; rfl
        refine w_skip ?_
        refine w_region ?_
        refine l_pint rfl rfl ?_
        first | refine l_v rfl (q_sub rfl rfl rfl (by simp only [inK]; omega)) ?_ | refine l_pint rfl rfl ?_
        refine l_pint rfl rfl ?_
        refine l_nil ?_
        refine ⟨by repeat' first | exact Agr.mix _ _ _ | exact Agr.refl _ _ | refine Agr.inner rfl ?_ | refine Agr.upd rfl ?_ | refine Agr.updL' rfl ?_, ?_⟩
        exact ⟨m - 1, i + 1, by omega, ⟨congrArg (Value.int .i64) (by omega), by rw [hr]; exact rfl, trivial⟩, by omega, ((H.erase 0).erase 0).erase 0⟩
    · try simp only [decide_eq_true_eq, decide_eq_false_iff_not, Bool.not_eq_true', Bool.not_eq_false', beq_iff_eq, beq_eq_false_iff_ne, bne_iff_ne, bne_eq_false_iff_eq, ne_eq, Int.not_lt, Int.not_le] at c1
      have e : i = 36 := by omega
      subst e
      refine w_exit ?_
      refine w_seq ?_
      refine w_region ?_
      refine l_pint rfl rfl ?_
      refine l_v rfl (q_remN (a := rgo p 36) (b := 4294967296) rfl rfl rfl (by omega)) ?_
      refine l_v rfl (q_convIntIn rfl (by kernel_rfl) in_45 rfl (by simp only [inK]; omega)) ?_
      refine l_pint rfl rfl ?_
      refine l_nil ?_
      refine w_ret ?_
      refine fin1 (v := .int _ _) rfl ?_
      refine ⟨?_, H.erase 0⟩
      show Value.int .u32 ((rgo p 36 % 4294967296 : Nat) : Int) = U (rootU p)
      unfold U rootU
      rw [UInt32.toNat_ofNat', Nat.mod_eq_of_lt (a := rgo p 36 % 4294967296) (by omega)]

end Go.Proofs.Ytcmmbjplekgihaa
