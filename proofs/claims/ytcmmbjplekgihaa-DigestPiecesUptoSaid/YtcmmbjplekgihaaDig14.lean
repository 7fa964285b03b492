/- The reference's primes and Table do what their contracts say. -/
import Derived.Test.YtcmmbjplekgihaaDig13
namespace Go.Proofs.Ytcmmbjplekgihaa
open Go.EW
attribute [local irreducible] EW.W EW.L EW.fin block8 outB parA pgo hexL shaL digitI
set_option linter.unusedVariables false
set_option linter.unusedSimpArgs false
attribute [local irreducible] tgo outH lgo rgo pl cubeL rootU

theorem pl_mono (k : Nat) : ∀ d, (pl k).length ≤ (pl (k + d)).length
  | 0 => Nat.le_refl _
  | d + 1 => by
    refine Nat.le_trans (pl_mono k d) ?_
    rw [show k + (d + 1) = (k + d) + 1 by omega, pl]
    cases (pl (k + d)).all (fun q => !Nat.beq ((k + d + 2) % q) 0) with
    | true => show _ ≤ (pl (k + d) ++ [k + d + 2]).length; simp
    | false => exact Nat.le_refl _
theorem pl_309 : (pl 309).length = 63 := by kernel_rfl
theorem pl_few {k : Nat} (h : k < 310) : (pl k).length < 64 := by
  have := pl_mono k (309 - k)
  rw [show k + (309 - k) = 309 by omega, pl_309] at this
  omega
theorem pl_all : (pl 310).length = 64 := by rw [pl_310]; rfl

theorem primes_ok {W w : World} {F : List Seg} (H : St W w F) :
    Ok Try.prog 40 [.int .i64 64].toArray w (fun v w' => ∃ a c, v = .slice a 64 c ∧ St W w' (row 81 1 a 64 c ((pl 310).map N64) :: F)) := by
  refine enter (n := 32) (rs := #[.tmp 2]) Try.func40 rfl rfl rfl rfl ?_
  refine w_seq ?_
  refine w_region ?_
  refine l_pslice rfl rfl ?_
  refine l_nil ?_
  refine w_seq ?_
  refine w_region ?_
  refine l_pslice rfl rfl ?_
  refine l_nil ?_
  refine w_seq ?_
  refine w_seq ?_
  refine w_region ?_
  refine l_pint rfl rfl ?_
  refine l_nil ?_
  refine w_block ?_
  refine w_loopG (G := Nat × Option Addr × Nat) [3, 4, 5, 6, 7, 8, 9, 10, 11, 12, 13, 14, 15, 16, 17, 18, 19, 20, 21, 22, 23, 24, 25, 26, 27, 28, 29, 30] (fun ⟨k, a, c⟩ => [(3, .slice a (pl k).length c), (4, N64 (k + 2))]) (fun m ⟨k, a, c⟩ w => m + k = 310 ∧ St W w (row 81 1 a (pl k).length c ((pl k).map N64) :: F)) (fun _ => rfl) ?_ ?_
  · refine ⟨310, (0, none, 0), ⟨by rw [pl]; exact rfl, rfl, trivial⟩, rfl, ?_⟩
    rw [pl]
    exact St.newRow H
  · rintro m ⟨k, a, c⟩ ρ1 w ⟨hmk, H⟩
    refine w_seq ?_
    refine w_seq ?_
    refine w_region ?_
    refine l_pslice rfl rfl ?_
    refine l_v rfl (q_lenSlice rfl el_87 rfl) ?_
    refine l_pint rfl rfl ?_
    refine l_pbool rfl rfl ?_
    refine l_nil ?_
    refine w_cond rfl (fun c1 => ?_) (fun c1 => ?_)
    · try simp only [decide_eq_true_eq, decide_eq_false_iff_not, Bool.not_eq_true', Bool.not_eq_false', beq_iff_eq, beq_eq_false_iff_ne, bne_iff_ne, bne_eq_false_iff_eq, ne_eq, Int.not_lt, Int.not_le] at c1
      have hk310 : k < 310 := by
        rcases Nat.lt_or_ge k 310 with h | h
        · exact h
        · have e : k = 310 := by omega
          rw [e, pl_all] at c1
          exact absurd c1 (by decide)
      have hfew := pl_few hk310
      refine w_skip ?_
      refine w_seq ?_
      refine w_block ?_
      refine w_seq ?_
      refine w_region ?_
      refine l_pbool rfl rfl ?_
      refine l_nil ?_
      refine w_seq ?_
      refine w_seq ?_
      refine w_region ?_
      refine l_pint rfl rfl ?_
      refine l_nil ?_
      refine w_block ?_
      refine w_loopG (G := Nat) [5, 6, 13, 14, 15, 16, 17, 18, 19, 20, 21, 22, 23, 24, 25] (fun i => [(6, .int .i64 ((i : Nat) : Int)), (5, .bool (((pl k).take i).all (fun q => !Nat.beq ((k + 2) % q) 0)))]) (fun m i w => m + i = (pl k).length ∧ St W w (row 81 1 a (pl k).length c ((pl k).map N64) :: F)) (fun _ => rfl) ?_ ?_
      · exact ⟨(pl k).length, 0, ⟨rfl, by rw [List.take_zero]; exact rfl, trivial⟩, rfl, H⟩
      · rintro m i ρ1 w ⟨hmi, H⟩
        refine w_seq ?_
        refine w_seq ?_
        refine w_region ?_
        refine l_pint rfl rfl ?_
        refine l_pslice rfl rfl ?_
        refine l_v rfl (q_lenSlice rfl el_87 rfl) ?_
        refine l_pbool rfl rfl ?_
        refine l_nil ?_
        refine w_cond rfl (fun c2 => ?_) (fun c2 => ?_)
        · try simp only [decide_eq_true_eq, decide_eq_false_iff_not, Bool.not_eq_true', Bool.not_eq_false', beq_iff_eq, beq_eq_false_iff_ne, bne_iff_ne, bne_eq_false_iff_eq, ne_eq, Int.not_lt, Int.not_le] at c2
          have hi' : i < (pl k).length := by omega
          obtain ⟨ba, oa, haa, hca⟩ := rd_N (j := i) ((RdIn.row 0 rfl).use H 0 rfl) hi'
          have hq2 := pl_pos k ((pl k).getD i 0) (by simp [List.getD, hi'])
          refine w_skip ?_
          refine w_seq ?_
          refine w_block ?_
          refine w_seq ?_
          refine w_region ?_
          refine l_pint rfl rfl ?_
          refine l_pslice rfl rfl ?_
          refine l_pint rfl rfl ?_
          refine l_v rfl (q_indexSliceE i rfl el_87 rfl haa rfl rfl hi') ?_
          refine l_v rfl (q_load1 rfl c1_81 rfl hca) ?_
          refine l_v rfl (q_remN (a := k + 2) (b := (pl k).getD i 0) rfl rfl rfl (by omega)) ?_
          refine l_pbool rfl rfl ?_
          refine l_nil ?_
          refine w_cond rfl (fun c3 => ?_) (fun c3 => ?_)
          · try simp only [decide_eq_true_eq, decide_eq_false_iff_not, Bool.not_eq_true', Bool.not_eq_false', beq_iff_eq, beq_eq_false_iff_ne, bne_iff_ne, bne_eq_false_iff_eq, ne_eq, Int.not_lt, Int.not_le] at c3
            refine w_region ?_
            refine l_pbool rfl rfl ?_
            refine l_nil ?_
            refine w_region ?_
            refine l_pint rfl rfl ?_
            first | refine l_v rfl (q_add rfl rfl rfl (by simp only [inK]; omega)) ?_ | refine l_pint rfl rfl ?_
            refine l_pint rfl rfl ?_
            refine l_nil ?_
            refine ⟨by repeat' first | exact Agr.mix _ _ _ | exact Agr.refl _ _ | refine Agr.inner rfl ?_ | refine Agr.upd rfl ?_ | refine Agr.updL' rfl ?_, ?_⟩
            exact ⟨m - 1, i + 1, by omega, ⟨by exact congrArg (Value.int IntKind.i64) (Int.natCast_succ i).symm, congrArg Value.bool (by rw [all_snoc hi']; rw [Int.natCast_eq_zero.1 c3]; simp), trivial⟩, by omega, H⟩
          · try simp only [decide_eq_true_eq, decide_eq_false_iff_not, Bool.not_eq_true', Bool.not_eq_false', beq_iff_eq, beq_eq_false_iff_ne, bne_iff_ne, bne_eq_false_iff_eq, ne_eq, Int.not_lt, Int.not_le] at c3
            refine w_skip ?_
            refine w_region ?_
            refine l_pint rfl rfl ?_
            first | refine l_v rfl (q_add rfl rfl rfl (by simp only [inK]; omega)) ?_ | refine l_pint rfl rfl ?_
            refine l_pint rfl rfl ?_
            refine l_nil ?_
            refine ⟨by repeat' first | exact Agr.mix _ _ _ | exact Agr.refl _ _ | refine Agr.inner rfl ?_ | refine Agr.upd rfl ?_ | refine Agr.updL' rfl ?_, ?_⟩
            exact ⟨m - 1, i + 1, by omega, ⟨by exact congrArg (Value.int IntKind.i64) (Int.natCast_succ i).symm, congrArg Value.bool (by rw [all_snoc hi']; cases hb : Nat.beq ((k + 2) % (pl k).getD i 0) 0 with
      | true => exact absurd (by rw [Nat.eq_of_beq_eq_true hb]; rfl) c3
      | false => simp), trivial⟩, by omega, H⟩
        · try simp only [decide_eq_true_eq, decide_eq_false_iff_not, Bool.not_eq_true', Bool.not_eq_false', beq_iff_eq, beq_eq_false_iff_ne, bne_iff_ne, bne_eq_false_iff_eq, ne_eq, Int.not_lt, Int.not_le] at c2
          have ei : i = (pl k).length := by omega
          rw [ei, List.take_length]
          refine w_exit ?_
          refine w_seq ?_
          refine w_region ?_
          refine l_pbool rfl rfl ?_
          refine l_nil ?_
          refine w_cond rfl (fun c4 => ?_) (fun c4 => ?_)
          · try simp only [decide_eq_true_eq, decide_eq_false_iff_not, Bool.not_eq_true', Bool.not_eq_false', beq_iff_eq, beq_eq_false_iff_ne, bne_iff_ne, bne_eq_false_iff_eq, ne_eq, Int.not_lt, Int.not_le] at c4
            refine w_region ?_
            refine l_pslice rfl rfl ?_
            refine l_pint rfl rfl ?_
            refine b_buildSlice (cs := [N64 (k + 2)]) rfl el_87 ze_81 rfl rfl rfl H (fun b29 w H => ?_)
            refine b_append rfl el_87 ze_81 rfl rfl rfl H 1 rfl (Rd.mk (H.cells0 0 rfl)) rfl (by simp [Value.oneCell', N64]) ⟨by omega, by simp only [maxLen]; omega⟩ (fun a30 c30 w H => ?_)
            refine l_pslice rfl rfl ?_
            refine l_nil ?_
            refine w_region ?_
            refine l_pint rfl rfl ?_
            refine l_v rfl (q_addN (a := k + 2) (b := 1) rfl rfl rfl (by omega)) ?_
            refine l_pint rfl rfl ?_
            refine l_nil ?_
            refine ⟨by repeat' first | exact Agr.mix _ _ _ | exact Agr.refl _ _ | refine Agr.inner rfl ?_ | refine Agr.upd rfl ?_ | refine Agr.updL' rfl ?_, ?_⟩
            have hp : pl (k + 1) = pl k ++ [k + 2] := by rw [pl, c4]; rfl
            have hpl : (pl (k + 1)).length = (pl k).length + 1 := by rw [hp]; simp
            have H2 : St W w (row 81 1 a30 ((pl k).length + 1) c30 ((pl k).map N64 ++ [N64 (k + 2)]) :: F) := H.drop1
            exact ⟨309 - k, (k + 1, a30, c30), by omega, ⟨congrArg (fun x => Value.slice a30 x c30) hpl.symm, rfl, trivial⟩, by omega, by rw [hpl, hp, List.map_append]; exact H2⟩
          · try simp only [decide_eq_true_eq, decide_eq_false_iff_not, Bool.not_eq_true', Bool.not_eq_false', beq_iff_eq, beq_eq_false_iff_ne, bne_iff_ne, bne_eq_false_iff_eq, ne_eq, Int.not_lt, Int.not_le] at c4
            refine w_skip ?_
            refine w_region ?_
            refine l_pint rfl rfl ?_
            refine l_v rfl (q_addN (a := k + 2) (b := 1) rfl rfl rfl (by omega)) ?_
            refine l_pint rfl rfl ?_
            refine l_nil ?_
            refine ⟨by repeat' first | exact Agr.mix _ _ _ | exact Agr.refl _ _ | refine Agr.inner rfl ?_ | refine Agr.upd rfl ?_ | refine Agr.updL' rfl ?_, ?_⟩
            have hp : pl (k + 1) = pl k := by rw [pl, c4]; rfl
            exact ⟨309 - k, (k + 1, a, c), by omega, ⟨congrArg (fun l => Value.slice a (List.length l) c) hp.symm, rfl, trivial⟩, by omega, by rw [hp]; exact H⟩
    · try simp only [decide_eq_true_eq, decide_eq_false_iff_not, Bool.not_eq_true', Bool.not_eq_false', beq_iff_eq, beq_eq_false_iff_ne, bne_iff_ne, bne_eq_false_iff_eq, ne_eq, Int.not_lt, Int.not_le] at c1
      have e : k = 310 := by
        rcases Nat.lt_or_ge k 310 with h | h
        · have := pl_few h; omega
        · omega
      subst e
      refine w_exit ?_
      refine w_seq ?_
      refine w_region ?_
      refine l_pslice rfl rfl ?_
      refine l_pslice rfl rfl ?_
      refine l_nil ?_
      refine w_ret ?_
      refine fin1 (v := .slice _ _ _) rfl ?_
      exact ⟨a, c, by rw [pl_all], by rw [pl_all] at H; exact H⟩


set_option maxRecDepth 20000 in
theorem tableL : (pl 310).map rootU = keysL := by rw [pl_310]; kernel_rfl

theorem take_snoc {l : List Nat} {i : Nat} (hi : i < l.length) : l.take (i + 1) = l.take i ++ [l.getD i 0] := by
  rw [List.take_add_one, List.getElem?_eq_getElem hi]; simp [List.getD, hi]

theorem Table_ok {W w : World} {F : List Seg} (H : St W w F) :
    Ok Try.prog 27 [].toArray w (fun v w' => ∃ a c, v = .slice a 64 c ∧ St W w' (row 45 1 a 64 c (keysL.map U) :: F)) := by
  refine enter (n := 18) (rs := #[.tmp 0]) Try.func27 rfl rfl rfl rfl ?_
  refine w_seq ?_
  refine w_region ?_
  refine l_pslice rfl rfl ?_
  refine l_nil ?_
  refine w_seq ?_
  refine w_region ?_
  refine b_call rfl cb_40 rfl (primes_ok H) (fun v w hv => ?_)
  obtain ⟨a4, c4, rfl, H⟩ := hv
  refine l_pslice rfl rfl ?_
  refine l_nil ?_
  refine w_seq ?_
  refine w_region ?_
  refine l_pslice rfl rfl ?_
  refine l_nil ?_
  refine w_seq ?_
  refine w_seq ?_
  refine w_region ?_
  refine l_pint rfl rfl ?_
  refine l_nil ?_
  refine w_block ?_
  refine w_loopG (G := Nat × Option Addr × Nat × List UInt32) [2, 3, 5, 6, 7, 8, 9, 10, 11, 12, 13, 14, 15, 16] (fun ⟨i, a2, c2, l⟩ => [(3, .int .i64 ((i : Nat) : Int)), (2, .slice a2 l.length c2)]) (fun m ⟨i, a2, c2, l⟩ w => m + i = 64 ∧ l = ((pl 310).take i).map rootU ∧ St W w (row 45 1 a2 l.length c2 (l.map U) :: row 81 1 a4 64 c4 ((pl 310).map N64) :: F)) (fun _ => rfl) ?_ ?_
  · exact ⟨64, (0, none, 0, []), ⟨rfl, rfl, trivial⟩, rfl, by rw [List.take_zero]; rfl, St.newRow H⟩
  · rintro m ⟨i, a2, c2, l⟩ ρ1 w ⟨hmi, hli, H⟩
    have hll : l.length = i := by rw [hli, List.length_map, List.length_take, pl_all]; omega
    refine w_seq ?_
    refine w_seq ?_
    refine w_region ?_
    refine l_pint rfl rfl ?_
    refine l_pbool rfl rfl ?_
    refine l_nil ?_
    refine w_cond rfl (fun c1 => ?_) (fun c1 => ?_)
    · try simp only [decide_eq_true_eq, decide_eq_false_iff_not, Bool.not_eq_true', Bool.not_eq_false', beq_iff_eq, beq_eq_false_iff_ne, bne_iff_ne, bne_eq_false_iff_eq, ne_eq, Int.not_lt, Int.not_le] at c1
      have hi' : i < (pl 310).length := by rw [pl_all]; omega
      have hq2 := pl_pos 310 ((pl 310).getD i 0) (by simp [List.getD, hi'])
      obtain ⟨ba, oa, haa, hca⟩ := rd_N (j := i) ((RdIn.row 1 rfl).use H 0 rfl) hi'
      refine w_skip ?_
      refine w_seq ?_
      refine w_block ?_
      refine w_region ?_
      refine l_pslice rfl rfl ?_
      refine l_pslice rfl rfl ?_
      refine l_pint rfl rfl ?_
      refine l_v rfl (q_indexSliceE i rfl el_87 rfl haa rfl rfl (by omega)) ?_
      refine l_v rfl (q_load1 rfl c1_81 rfl hca) ?_
      refine b_call rfl cb_41 rfl (root_ok H (p := (pl 310).getD i 0) (by omega)) (fun v w hv => ?_)
      obtain ⟨rfl, H⟩ := hv
      refine b_buildSlice (cs := [U (rootU ((pl 310).getD i 0))]) rfl el_61 ze_45 rfl rfl rfl H (fun b15 w H => ?_)
      refine b_append rfl el_61 ze_45 rfl rfl rfl H 1 rfl (Rd.mk (H.cells0 0 rfl)) rfl (by simp [Value.oneCell', U]) ⟨by omega, by simp only [maxLen]; omega⟩ (fun a16 c16 w H => ?_)
      refine l_pslice rfl rfl ?_
      refine l_nil ?_
      refine w_region ?_
      refine l_pint rfl rfl ?_
      first | refine l_v rfl (q_add rfl rfl rfl (by simp only [inK]; omega)) ?_ | refine l_pint rfl rfl ?_
      refine l_pint rfl rfl ?_
      refine l_nil ?_
      refine ⟨by repeat' first | exact Agr.mix _ _ _ | exact Agr.refl _ _ | refine Agr.inner rfl ?_ | refine Agr.upd rfl ?_ | refine Agr.updL' rfl ?_, ?_⟩
      refine ⟨m - 1, (i + 1, a16, c16, l ++ [rootU ((pl 310).getD i 0)]), by omega, ⟨by exact congrArg (Value.int IntKind.i64) (Int.natCast_succ i).symm, by exact congrArg (fun x => Value.slice a16 x c16) (by simp), trivial⟩, by omega, by rw [hli, take_snoc hi', List.map_append]; rfl, ?_⟩
      have H2 : St W w (row 45 1 a16 (l.length + 1) c16 (l.map U ++ [U (rootU ((pl 310).getD i 0))]) :: row 81 1 a4 64 c4 ((pl 310).map N64) :: F) := H.drop1
      simpa using H2
    · try simp only [decide_eq_true_eq, decide_eq_false_iff_not, Bool.not_eq_true', Bool.not_eq_false', beq_iff_eq, beq_eq_false_iff_ne, bne_iff_ne, bne_eq_false_iff_eq, ne_eq, Int.not_lt, Int.not_le] at c1
      have e : i = 64 := by omega
      refine w_exit ?_
      refine w_seq ?_
      refine w_region ?_
      refine l_pslice rfl rfl ?_
      refine l_pslice rfl rfl ?_
      refine l_nil ?_
      refine w_ret ?_
      refine fin1 (v := .slice _ _ _) rfl ?_
      have hlk : l = keysL := by rw [hli, e, List.take_of_length_le (Nat.le_of_eq pl_all), tableL]
      refine ⟨a2, c2, by rw [hll, e], ?_⟩
      rw [hll, e, hlk] at H
      exact H.erase 1

end Go.Proofs.Ytcmmbjplekgihaa
