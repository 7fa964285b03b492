/- The network's Copy, Drop and Clear, and two helpers, do what their contracts say. -/
import Derived.Test.YtmgcmgfjaimlnaaNet9
namespace Go.Proofs.Ytmgcmgfjaimlnaa
open Go.EW
attribute [local irreducible] EW.W EW.L EW.fin
set_option linter.unusedVariables false
set_option linter.unusedSimpArgs false
theorem copy_fin {W w : World} {F : List Seg} {b x1 x2 T1 T2 : Nat} {y1 y2 : List Value} {st : NetS} {q : Pk} {pa : Option Addr} {pcap : Nat}
    (H : St W w (blk0 x1 y1 T1 :: blk x2 y2 T2 :: q.own :: blk b [.int .i64 st.nodes, .int .i64 st.clients, .slice pa (st.pool.length + 1) pcap, .slice st.ra st.record.length st.rcap, .map (some st.pm), .map (some st.cm)] 84 ::
      row 31 3 pa (st.pool.length + 1) pcap (pks st.pool ++ [.int .i64 q.fr, .int .i64 q.to, .slice q.a q.n q.cap]) :: Segs (st.pool.map Pk.own) :: row 31 3 st.ra st.record.length st.rcap (pks st.record) :: Segs (st.record.map Pk.own) :: kmap st.pm st.place :: kmap st.cm st.came :: F)) :
    St W w (netL b { st with pa, pcap, pool := st.pool ++ [q] } F) := by
  have H2 := St.snocseg.1 (H.pick [5, 2, 3, 4, 6, 7, 8, 9] (pre := [_, _, _, _, _, _, _, _, _, _]) rfl rfl)
  have H3 := H2.pick [1, 2, 0, 3, 4, 5, 6] (pre := [_, _, _, _, _, _, _]) rfl rfl
  unfold netL NetS.cells
  simp only [own_snoc, pks_snoc, List.length_append, List.length_singleton]
  exact H3
theorem Copy_ok {W w : World} {F : List Seg} {b : Nat} {st : NetS} (H : St W w (netL b st F)) (hfit : st.fit) (hroom : (st.pool.length + 1) * 40 ≤ 211106232532992) (k : Int) :
    Ok Try.prog 26 [.pointer (some ⟨b, 0, none⟩), .int .i64 k].toArray w (fun v w' => ∃ q e, v = .int .i64 e ∧ AtR st.pool k q e ∧ ((e ≠ 0 ∧ St W w' (netL b st F)) ∨ (e = 0 ∧ ∃ pa pcap, St W w' (netL b { st with pa, pcap, pool := st.pool ++ [q] } F)))) := by
  refine enter (n := 28) (rs := #[.tmp 4]) Try.func26 rfl rfl rfl rfl ?_
  refine w_seq ?_
  refine w_region ?_
  refine l_pint rfl rfl ?_
  refine l_nil ?_
  refine w_seq ?_
  refine w_seq ?_
  refine w_region ?_
  refine l_pptr rfl rfl ?_
  refine l_v rfl (q_eqlNilF rfl pt_24 rfl rfl) ?_
  refine l_nil ?_
  refine w_cond_f rfl ?_
  refine w_skip ?_
  refine w_seq ?_
  refine w_region ?_
  refine l_pptr rfl rfl ?_
  refine l_pint rfl rfl ?_
  refine b_call rfl cb_27 rfl (At_ok H hfit k) (fun v w hv => ?_)
  obtain ⟨q, e, rfl, hat, H⟩ := hv
  refine l_ptup rfl rfl ?_
  refine l_pagg rfl rfl ?_
  refine l_pint rfl rfl ?_
  refine b_alloc rfl ze_31 rfl H (fun b5 w H => ?_)
  first | refine b_store (cs' := [_, _, _]) rfl sz_31 rfl rfl rfl rfl rfl H 0 rfl rfl rfl (fun w H => ?_) | refine b_store (cs' := [_, _, _]) rfl sz_31 rfl rfl rfl rfl rfl H 1 rfl rfl rfl (fun w H => ?_) | refine b_store (cs' := [_, _, _]) rfl sz_31 rfl rfl rfl rfl rfl H 2 rfl rfl rfl (fun w H => ?_) | refine b_store (cs' := [_, _, _]) rfl sz_31 rfl rfl rfl rfl rfl H 3 rfl rfl rfl (fun w H => ?_) | refine b_store (cs' := [_, _, _]) rfl sz_31 rfl rfl rfl rfl rfl H 4 rfl rfl rfl (fun w H => ?_) | refine b_store (cs' := [_, _, _]) rfl sz_31 rfl rfl rfl rfl rfl H 5 rfl rfl rfl (fun w H => ?_) | refine b_store (cs' := [_, _, _]) rfl sz_31 rfl rfl rfl rfl rfl H 6 rfl rfl rfl (fun w H => ?_) | refine b_store (cs' := [_, _, _]) rfl sz_31 rfl rfl rfl rfl rfl H 7 rfl rfl rfl (fun w H => ?_) | refine b_store (cs' := [_, _, _]) rfl sz_31 rfl rfl rfl rfl rfl H 8 rfl rfl rfl (fun w H => ?_) | refine b_store (cs' := [_, _, _]) rfl sz_31 rfl rfl rfl rfl rfl H 9 rfl rfl rfl (fun w H => ?_)
  refine l_pint rfl rfl ?_
  refine l_nil ?_
  refine w_seq ?_
  refine w_seq ?_
  refine w_region ?_
  refine l_pint rfl rfl ?_
  refine l_pbool rfl rfl ?_
  refine l_nil ?_
  refine w_cond rfl (fun c1 => ?_) (fun c1 => ?_)
  · try simp only [decide_eq_true_eq, decide_eq_false_iff_not, Bool.not_eq_true', Bool.not_eq_false', beq_iff_eq, beq_eq_false_iff_ne, bne_iff_ne, bne_eq_false_iff_eq, ne_eq, Int.not_lt, Int.not_le] at c1
    refine w_drawS [7, 10] [4, 5] 99 [(0, 0), (1, 0), (2, 0), (3, 0), (4, 1), (5, 1), (6, 2), (7, 2), (8, 0), (9, 0), (10, 2)] mixed (by kernel_rfl) (fun _ _ _ h => fin_panic h) H (fun H => ?_)
    refine r_pptr rfl rfl rfl ?_
    refine r_pptr rfl rfl rfl ?_
    refine r_pptr rfl rfl rfl ?_
    refine r_w rfl rfl (fun w => q_fieldAddr rfl fo84_2 rfl) ?_
    refine r_v rfl rfl (fun w hS => q_load1 rfl c1_22 rfl (by first | exact hS.cell 0 rfl rfl | exact hS.cell 1 rfl rfl | exact hS.cell 2 rfl rfl | exact hS.cell 3 rfl rfl | exact hS.cell 4 rfl rfl | exact hS.cell 5 rfl rfl | exact hS.cell 6 rfl rfl | exact hS.cell 7 rfl rfl | exact hS.cell 8 rfl rfl | exact hS.cell 9 rfl rfl)) ?_
    refine r_v rfl rfl (fun w hS => q_loadN (vs := [_, _, _]) rfl ag_31 rfl rfl (by first | exact hS.cells 0 rfl | exact hS.cells 1 rfl | exact hS.cells 2 rfl | exact hS.cells 3 rfl | exact hS.cells 4 rfl | exact hS.cells 5 rfl | exact hS.cells 6 rfl | exact hS.cells 7 rfl | exact hS.cells 8 rfl | exact hS.cells 9 rfl)) ?_
    refine r_do rfl ?_
    refine b_buildSlice (cs := [_, _, _]) rfl el_22 ze_31 rfl rfl rfl H (fun b23 w H => ?_)
    refine l_nil ⟨fun _ _ => (by first | exact Sx.of H 0 99 rfl | exact Sx.of H 1 99 rfl | exact Sx.of H 2 99 rfl | exact Sx.of H 3 99 rfl | exact Sx.of H 4 99 rfl), ?_⟩
    refine r_do rfl ?_
    first | refine b_append rfl el_22 ze_31 rfl rfl rfl H 1 rfl (Rd.mk (H.cells0 0 rfl)) rfl (by simp [Value.oneCell']) ⟨by (try dsimp only); omega, by simp only [maxLen]; (try dsimp only); omega⟩ (fun a24 c24 w H => ?_) | refine b_append rfl el_22 ze_31 rfl rfl rfl H 2 rfl (Rd.mk (H.cells0 0 rfl)) rfl (by simp [Value.oneCell']) ⟨by (try dsimp only); omega, by simp only [maxLen]; (try dsimp only); omega⟩ (fun a24 c24 w H => ?_) | refine b_append rfl el_22 ze_31 rfl rfl rfl H 3 rfl (Rd.mk (H.cells0 0 rfl)) rfl (by simp [Value.oneCell']) ⟨by (try dsimp only); omega, by simp only [maxLen]; (try dsimp only); omega⟩ (fun a24 c24 w H => ?_) | refine b_append rfl el_22 ze_31 rfl rfl rfl H 4 rfl (Rd.mk (H.cells0 0 rfl)) rfl (by simp [Value.oneCell']) ⟨by (try dsimp only); omega, by simp only [maxLen]; (try dsimp only); omega⟩ (fun a24 c24 w H => ?_) | refine b_append rfl el_22 ze_31 rfl rfl rfl H 5 rfl (Rd.mk (H.cells0 0 rfl)) rfl (by simp [Value.oneCell']) ⟨by (try dsimp only); omega, by simp only [maxLen]; (try dsimp only); omega⟩ (fun a24 c24 w H => ?_) | refine b_append rfl el_22 ze_31 rfl rfl rfl H 6 rfl (Rd.mk (H.cells0 0 rfl)) rfl (by simp [Value.oneCell']) ⟨by (try dsimp only); omega, by simp only [maxLen]; (try dsimp only); omega⟩ (fun a24 c24 w H => ?_) | refine b_append rfl el_22 ze_31 rfl rfl rfl H 7 rfl (Rd.mk (H.cells0 0 rfl)) rfl (by simp [Value.oneCell']) ⟨by (try dsimp only); omega, by simp only [maxLen]; (try dsimp only); omega⟩ (fun a24 c24 w H => ?_) | refine b_append rfl el_22 ze_31 rfl rfl rfl H 8 rfl (Rd.mk (H.cells0 0 rfl)) rfl (by simp [Value.oneCell']) ⟨by (try dsimp only); omega, by simp only [maxLen]; (try dsimp only); omega⟩ (fun a24 c24 w H => ?_) | refine b_append rfl el_22 ze_31 rfl rfl rfl H 9 rfl (Rd.mk (H.cells0 0 rfl)) rfl (by simp [Value.oneCell']) ⟨by (try dsimp only); omega, by simp only [maxLen]; (try dsimp only); omega⟩ (fun a24 c24 w H => ?_)
    refine l_nil ⟨(fun h => nomatch h), ?_⟩
    refine r_pptr rfl rfl rfl ?_
    refine r_w rfl rfl (fun w => q_fieldAddr rfl fo84_2 rfl) ?_
    refine r_do rfl ?_
    first | refine b_store rfl sz_22 rfl rfl rfl rfl rfl H 0 rfl rfl rfl (fun w H => ?_) | refine b_store rfl sz_22 rfl rfl rfl rfl rfl H 1 rfl rfl rfl (fun w H => ?_) | refine b_store rfl sz_22 rfl rfl rfl rfl rfl H 2 rfl rfl rfl (fun w H => ?_) | refine b_store rfl sz_22 rfl rfl rfl rfl rfl H 3 rfl rfl rfl (fun w H => ?_) | refine b_store rfl sz_22 rfl rfl rfl rfl rfl H 4 rfl rfl rfl (fun w H => ?_) | refine b_store rfl sz_22 rfl rfl rfl rfl rfl H 5 rfl rfl rfl (fun w H => ?_) | refine b_store rfl sz_22 rfl rfl rfl rfl rfl H 6 rfl rfl rfl (fun w H => ?_) | refine b_store rfl sz_22 rfl rfl rfl rfl rfl H 7 rfl rfl rfl (fun w H => ?_) | refine b_store rfl sz_22 rfl rfl rfl rfl rfl H 8 rfl rfl rfl (fun w H => ?_) | refine b_store rfl sz_22 rfl rfl rfl rfl rfl H 9 rfl rfl rfl (fun w H => ?_)
    refine l_nil ⟨(fun h => nomatch h), ?_⟩
    refine r_nil ?_
    refine w_seq ?_
    refine w_region ?_
    refine l_pint rfl rfl ?_
    refine l_pint rfl rfl ?_
    refine l_nil ?_
    refine w_ret ?_
    refine fin1 (v := .int _ _) rfl ?_
    exact ⟨q, e, rfl, hat, .inr ⟨c1, _, _, copy_fin H⟩⟩
  try simp only [decide_eq_true_eq, decide_eq_false_iff_not, Bool.not_eq_true', Bool.not_eq_false', beq_iff_eq, beq_eq_false_iff_ne, bne_iff_ne, bne_eq_false_iff_eq, ne_eq, Int.not_lt, Int.not_le] at c1
  refine w_skip ?_
  refine w_seq ?_
  refine w_region ?_
  refine l_pint rfl rfl ?_
  refine l_pint rfl rfl ?_
  refine l_nil ?_
  refine w_ret ?_
  refine fin1 (v := .int _ _) rfl ?_
  exact ⟨q, e, rfl, hat, .inl ⟨c1, (H.erase 0).erase 0⟩⟩
theorem Drop_ok {W w : World} {F : List Seg} {b : Nat} {st : NetS} (H : St W w (netL b st F)) (hfit : st.fit) (k : Int) :
    Ok Try.prog 21 [.pointer (some ⟨b, 0, none⟩), .int .i64 k].toArray w (fun v w' => ∃ q e, v = .int .i64 e ∧ AtR st.pool k q e ∧ St W w' (netL b (takeS st k) F)) := by
  refine enter (n := 14) (rs := #[.tmp 4]) Try.func21 rfl rfl rfl rfl ?_
  refine w_seq ?_
  refine w_region ?_
  refine l_pint rfl rfl ?_
  refine l_nil ?_
  refine w_seq ?_
  refine w_region ?_
  refine l_pptr rfl rfl ?_
  refine l_pint rfl rfl ?_
  refine b_call rfl cb_14 rfl (Take_ok H hfit k) (fun v w hv => ?_)
  obtain ⟨q, e, rfl, hat, H⟩ := hv
  refine l_ptup rfl rfl ?_
  refine l_pagg rfl rfl ?_
  refine l_pint rfl rfl ?_
  refine b_alloc rfl ze_31 rfl H (fun b5 w H => ?_)
  first | refine b_store (cs' := [_, _, _]) rfl sz_31 rfl rfl rfl rfl rfl H 0 rfl rfl rfl (fun w H => ?_) | refine b_store (cs' := [_, _, _]) rfl sz_31 rfl rfl rfl rfl rfl H 1 rfl rfl rfl (fun w H => ?_) | refine b_store (cs' := [_, _, _]) rfl sz_31 rfl rfl rfl rfl rfl H 2 rfl rfl rfl (fun w H => ?_) | refine b_store (cs' := [_, _, _]) rfl sz_31 rfl rfl rfl rfl rfl H 3 rfl rfl rfl (fun w H => ?_) | refine b_store (cs' := [_, _, _]) rfl sz_31 rfl rfl rfl rfl rfl H 4 rfl rfl rfl (fun w H => ?_) | refine b_store (cs' := [_, _, _]) rfl sz_31 rfl rfl rfl rfl rfl H 5 rfl rfl rfl (fun w H => ?_) | refine b_store (cs' := [_, _, _]) rfl sz_31 rfl rfl rfl rfl rfl H 6 rfl rfl rfl (fun w H => ?_) | refine b_store (cs' := [_, _, _]) rfl sz_31 rfl rfl rfl rfl rfl H 7 rfl rfl rfl (fun w H => ?_) | refine b_store (cs' := [_, _, _]) rfl sz_31 rfl rfl rfl rfl rfl H 8 rfl rfl rfl (fun w H => ?_) | refine b_store (cs' := [_, _, _]) rfl sz_31 rfl rfl rfl rfl rfl H 9 rfl rfl rfl (fun w H => ?_)
  refine l_pint rfl rfl ?_
  refine l_nil ?_
  refine w_seq ?_
  refine w_region ?_
  refine l_pint rfl rfl ?_
  refine l_pint rfl rfl ?_
  refine l_nil ?_
  refine w_ret ?_
  refine fin1 (v := .int _ _) rfl ?_
  exact ⟨q, e, rfl, hat, (H.erase 0).erase 0⟩
def clearS (st : NetS) : NetS := { st with pa := none, pcap := 0, pool := [] }
theorem clear_fin {W w : World} {F : List Seg} {b : Nat} {st : NetS}
    (H : St W w (blk b [.int .i64 st.nodes, .int .i64 st.clients, .slice none 0 0, .slice st.ra st.record.length st.rcap, .map (some st.pm), .map (some st.cm)] 84 ::
      row 31 3 st.pa st.pool.length st.pcap (pks st.pool) :: Segs (st.pool.map Pk.own) :: row 31 3 st.ra st.record.length st.rcap (pks st.record) :: Segs (st.record.map Pk.own) :: kmap st.pm st.place :: kmap st.cm st.came :: F)) :
    St W w (netL b (clearS st) F) := by
  have H1 := St.newRow (T := 31) (sz := 3) (St.nilseg.2 H)
  exact H1.pick [2, 0, 1, 5, 6, 7, 8] (pre := [_, _, _, _, _, _, _, _, _]) rfl rfl
theorem Clear_ok {W w : World} {F : List Seg} {b : Nat} {st : NetS} (H : St W w (netL b st F)) :
    Ok Try.prog 24 [.pointer (some ⟨b, 0, none⟩)].toArray w (fun v w' => v = .tuple #[] ∧ St W w' (netL b (clearS st) F)) := by
  refine enter (n := 7) (rs := #[]) Try.func24 rfl rfl rfl rfl ?_
  refine w_seq ?_
  refine w_region ?_
  refine l_pptr rfl rfl ?_
  refine l_v rfl (q_neqNilF rfl pt_24 rfl rfl) ?_
  refine l_nil ?_
  refine w_cond_t rfl ?_
  refine w_region ?_
  refine l_pptr rfl rfl ?_
  refine l_pptr rfl rfl ?_
  refine l_v rfl (q_fieldAddr rfl fo84_2 rfl) ?_
  first | refine b_store rfl sz_22 rfl rfl rfl rfl rfl H 0 rfl rfl rfl (fun w H => ?_) | refine b_store rfl sz_22 rfl rfl rfl rfl rfl H 1 rfl rfl rfl (fun w H => ?_) | refine b_store rfl sz_22 rfl rfl rfl rfl rfl H 2 rfl rfl rfl (fun w H => ?_) | refine b_store rfl sz_22 rfl rfl rfl rfl rfl H 3 rfl rfl rfl (fun w H => ?_) | refine b_store rfl sz_22 rfl rfl rfl rfl rfl H 4 rfl rfl rfl (fun w H => ?_) | refine b_store rfl sz_22 rfl rfl rfl rfl rfl H 5 rfl rfl rfl (fun w H => ?_) | refine b_store rfl sz_22 rfl rfl rfl rfl rfl H 6 rfl rfl rfl (fun w H => ?_) | refine b_store rfl sz_22 rfl rfl rfl rfl rfl H 7 rfl rfl rfl (fun w H => ?_) | refine b_store rfl sz_22 rfl rfl rfl rfl rfl H 8 rfl rfl rfl (fun w H => ?_) | refine b_store rfl sz_22 rfl rfl rfl rfl rfl H 9 rfl rfl rfl (fun w H => ?_)
  refine l_nil ?_
  exact fin0n ⟨rfl, clear_fin H⟩
end Go.Proofs.Ytmgcmgfjaimlnaa
