/- The laws' helpers: lists of copies, the pool, Genuine. -/
import Derived.Test.YtmgcmgfjaimlnaaNet5
namespace Go.Proofs.Ytmgcmgfjaimlnaa
open Go.EW
attribute [local irreducible] EW.W EW.L EW.fin
set_option linter.unusedVariables false
set_option linter.unusedSimpArgs false
theorem Genuine_ok {W w : World} {F : List Seg} {b : Nat} {st : NetS} (H : St W w (netL b st F)) (fr to : Int) {a : Option Addr} {n cap : Nat} {bs : List UInt8} (hr : RdIn W F a (bs.map B)) (hl : bs.length = n) :
    Ok Try.prog 30 [.pointer (some ⟨b, 0, none⟩), .agg #[.int .i64 fr, .int .i64 to, .slice a n cap]].toArray w (fun v w' => v = .bool (decide ((kget (0, to, bs) st.came).getD 0 > 0)) ∧ St W w' (netL b st F)) := by
  refine enter (n := 21) (rs := #[.tmp 4]) Try.func30 rfl rfl rfl rfl ?_
  refine w_seq ?_
  refine w_region ?_
  refine b_box rfl rfl rfl H (fun b3 w H => ?_)
  refine l_pbool rfl rfl ?_
  refine l_nil ?_
  refine w_seq ?_
  refine w_drawT [] [6, 8, 10, 11, 13] [(0, 0), (1, 0), (2, 0), (3, 0), (4, 0), (5, 0), (6, 1), (7, 0), (8, 1), (9, 0), (10, 1), (11, 1), (12, 0), (13, 1), (14, 0), (15, 0), (16, 0)] mixed (by kernel_rfl) (fun _ _ _ h => fin_panic h) H (fun H => ?_)
  refine r_pptr rfl rfl rfl ?_
  refine r_w rfl rfl (fun w => q_neqNilF rfl pt_24 rfl rfl) ?_
  refine r_pbool rfl rfl rfl ?_
  refine r_pptr rfl rfl rfl ?_
  refine r_pptr rfl rfl rfl ?_
  refine r_w rfl rfl (fun w => q_fieldAddr rfl fo84_5 rfl) ?_
  refine r_v rfl rfl (fun w hS => q_load1 rfl c1_82 rfl (by first | exact hS.cell 0 rfl rfl | exact hS.cell 1 rfl rfl | exact hS.cell 2 rfl rfl | exact hS.cell 3 rfl rfl | exact hS.cell 4 rfl rfl | exact hS.cell 5 rfl rfl | exact hS.cell 6 rfl rfl | exact hS.cell 7 rfl rfl | exact hS.cell 8 rfl rfl | exact hS.cell 9 rfl rfl)) ?_
  refine r_w rfl rfl (fun w => q_fieldAddr rfl fo31_1 rfl) ?_
  refine r_v rfl rfl (fun w hS => q_load1 rfl c1_3 rfl (by first | exact hS.cell 0 rfl rfl | exact hS.cell 1 rfl rfl | exact hS.cell 2 rfl rfl | exact hS.cell 3 rfl rfl | exact hS.cell 4 rfl rfl | exact hS.cell 5 rfl rfl | exact hS.cell 6 rfl rfl | exact hS.cell 7 rfl rfl | exact hS.cell 8 rfl rfl | exact hS.cell 9 rfl rfl)) ?_
  refine r_w rfl rfl (fun w => q_fieldAddr rfl fo31_2 rfl) ?_
  refine r_v rfl rfl (fun w hS => q_load1 rfl c1_29 rfl (by first | exact hS.cell 0 rfl rfl | exact hS.cell 1 rfl rfl | exact hS.cell 2 rfl rfl | exact hS.cell 3 rfl rfl | exact hS.cell 4 rfl rfl | exact hS.cell 5 rfl rfl | exact hS.cell 6 rfl rfl | exact hS.cell 7 rfl rfl | exact hS.cell 8 rfl rfl | exact hS.cell 9 rfl rfl)) ?_
  refine r_v rfl rfl (fun w hS => q_bytesStr rfl by_29 st_9 rfl ((hr.up 8 rfl).use hS 0 rfl) hl) ?_
  refine r_w rfl rfl (fun w => q_build (cs := [.int _ _, .int _ _, .string _]) rfl sp_88 rfl) ?_
  refine r_v rfl rfl (fun w hS => q_lookup1 (k := (_, _, _)) rfl mp_82 ky_88 ze_3 rfl rfl (by first | exact hS.heapMI 0 rfl | exact hS.heapMI 1 rfl | exact hS.heapMI 2 rfl | exact hS.heapMI 3 rfl | exact hS.heapMI 4 rfl | exact hS.heapMI 5 rfl | exact hS.heapMI 6 rfl | exact hS.heapMI 7 rfl | exact hS.heapMI 8 rfl | exact hS.heapMI 9 rfl)) ?_
  refine r_pbool rfl rfl rfl ?_
  refine r_pickT (v := .bool _) rfl rfl rfl rfl ?_
  refine r_pbool rfl rfl rfl ?_
  refine r_nil ?_
  refine w_ret ?_
  refine fin1 (v := .bool _) rfl ?_
  refine ⟨congrArg Value.bool ?_, H.erase 0⟩
  rfl
def Pk.con (p : Pk) : Int × Int × List UInt8 := (p.fr, p.to, p.bs)
def Good (W : World) (F : List Seg) (l : List Pk) : Prop := ∀ p ∈ l, RdIn W F p.a (p.bs.map B) ∧ p.bs.length = p.n ∧ p.n ≤ 140737488355328
theorem Good.up {W : World} {F S : List Seg} {l : List Pk} (h : Good W F l) (k : Nat) (hk : S.drop k = F) : Good W S l := fun p hp => ⟨(h p hp).1.up k hk, (h p hp).2⟩
theorem pack7 {W w : World} {F : List Seg} {b x1 x2 T1 T2 : Nat} {y1 y2 : List Value} {st : NetS} {a' : Option Addr} {i cap' : Nat} {l' : List Pk} {q : Pk}
    (H : St W w (blk0 x1 y1 T1 :: blk x2 y2 T2 :: q.own :: (netL b st (row 31 3 a' (i + 1) cap' (pks l' ++ [.int .i64 q.fr, .int .i64 q.to, .slice q.a q.n q.cap]) :: Segs (l'.map Pk.own) :: F)))) :
    St W w (netL b st (row 31 3 a' (i + 1) cap' (pks (l' ++ [q])) :: Segs ((l' ++ [q]).map Pk.own) :: F)) := by
  have H1 := H.pick [11, 2, 3, 4, 5, 6, 7, 8, 9, 10] (pre := [_, _, _, _, _, _, _, _, _, _, _, _]) rfl rfl
  have H2 := St.snocseg.1 H1
  have H3 := H2.pick [1, 2, 3, 4, 5, 6, 7, 8, 0] (pre := [_, _, _, _, _, _, _, _, _]) rfl rfl
  rw [pks_snoc, own_snoc]
  exact H3
theorem AtR.hit {pool : List Pk} {i : Nat} {q : Pk} {e : Int} (h : AtR pool i q e) (hi : i < pool.length) : e = 0 ∧ ∃ p, pool[i]? = some p ∧ q = ⟨p.fr, p.to, q.a, p.n, p.n, p.bs⟩ := by
  rcases h with h | ⟨p, _, _, hp, he, hq⟩
  · exact absurd ⟨by omega, by omega⟩ h.1
  exact ⟨he, p, by simpa using hp, hq⟩
theorem AtR.con {p q : Pk} (h : q = ⟨p.fr, p.to, q.a, p.n, p.n, p.bs⟩) : q.con = p.con := by rw [h]; rfl
theorem pool_ok {W w : World} {F : List Seg} {b : Nat} {st : NetS} (H : St W w (netL b st F)) (hfit : st.fit) (hn : st.pool.length * 40 ≤ 211106232532992) :
    Ok Try.prog 12 [.pointer (some ⟨b, 0, none⟩)].toArray w (fun v w' => ∃ a' c' l', v = .slice a' st.pool.length c' ∧ l'.map Pk.con = st.pool.map Pk.con ∧ St W w' (netL b st (row 31 3 a' st.pool.length c' (pks l') :: Segs (l'.map Pk.own) :: F))) := by
  refine enter (n := 26) (rs := #[.tmp 2]) Try.func12 rfl rfl rfl rfl ?_
  refine w_seq ?_
  refine w_region ?_
  refine l_pslice rfl rfl ?_
  refine l_nil ?_
  refine w_seq ?_
  refine w_region ?_
  refine l_pslice rfl rfl ?_
  refine l_nil ?_
  refine w_seq ?_
  refine w_seq ?_
  refine w_region ?_
  refine l_pint rfl rfl ?_
  refine l_nil ?_
  refine w_block ?_
  refine w_loopG (G := Nat × Option Addr × Nat × List Pk) [2, 3, 4, 5, 6, 7, 8, 9, 10, 11, 12, 13, 14, 15, 16, 17, 18, 19, 20, 21, 22, 23, 24] (fun ⟨i, a', c', l'⟩ => [(4, .int .i64 ((i : Nat) : Int)), (3, .slice a' i c')]) (fun m ⟨i, a', c', l'⟩ w => m + i = st.pool.length ∧ l'.length = i ∧ l'.map Pk.con = (st.pool.take i).map Pk.con ∧ St W w (netL b st (row 31 3 a' i c' (pks l') :: Segs (l'.map Pk.own) :: F))) (fun _ => rfl) ?_ ?_
  · exact ⟨st.pool.length, (0, none, 0, []), ⟨rfl, rfl, trivial⟩, rfl, rfl, rfl, sink7 (St.newRow (sink7 (St.nilseg.2 H)))⟩
  rintro m ⟨i, a', c', l'⟩ ρ1 w ⟨hi, hl', hcon, H⟩
  refine w_seq ?_
  refine w_seq ?_
  refine w_region ?_
  refine l_pint rfl rfl ?_
  refine l_pptr rfl rfl ?_
  refine b_call rfl cb_16 rfl (Len_ok (i := 0) H rfl rfl) (fun v w hv => ?_)
  obtain ⟨rfl, rfl⟩ := hv
  refine l_pbool rfl rfl ?_
  refine l_nil ?_
  refine w_cond rfl (fun c1 => ?_) (fun c1 => ?_)
  · try simp only [decide_eq_true_eq, decide_eq_false_iff_not, Bool.not_eq_true', Bool.not_eq_false', beq_iff_eq, beq_eq_false_iff_ne, bne_iff_ne, bne_eq_false_iff_eq, ne_eq, Int.not_lt, Int.not_le] at c1
    refine w_skip ?_
    refine w_seq ?_
    refine w_block ?_
    refine w_seq ?_
    refine w_region ?_
    refine l_pptr rfl rfl ?_
    refine l_pint rfl rfl ?_
    refine b_call rfl cb_27 rfl (At_ok H hfit i) (fun v w hv => ?_)
    obtain ⟨q, e, rfl, hat, H⟩ := hv
    obtain ⟨rfl, p, hp, hq⟩ := hat.hit (by omega)
    refine l_ptup rfl rfl ?_
    refine l_pagg rfl rfl ?_
    refine l_pint rfl rfl ?_
    refine b_alloc rfl ze_31 rfl H (fun b5 w H => ?_)
    first | refine b_store (cs' := [_, _, _]) rfl sz_31 rfl rfl rfl rfl rfl H 0 rfl rfl rfl (fun w H => ?_) | refine b_store (cs' := [_, _, _]) rfl sz_31 rfl rfl rfl rfl rfl H 1 rfl rfl rfl (fun w H => ?_) | refine b_store (cs' := [_, _, _]) rfl sz_31 rfl rfl rfl rfl rfl H 2 rfl rfl rfl (fun w H => ?_) | refine b_store (cs' := [_, _, _]) rfl sz_31 rfl rfl rfl rfl rfl H 3 rfl rfl rfl (fun w H => ?_) | refine b_store (cs' := [_, _, _]) rfl sz_31 rfl rfl rfl rfl rfl H 4 rfl rfl rfl (fun w H => ?_) | refine b_store (cs' := [_, _, _]) rfl sz_31 rfl rfl rfl rfl rfl H 5 rfl rfl rfl (fun w H => ?_) | refine b_store (cs' := [_, _, _]) rfl sz_31 rfl rfl rfl rfl rfl H 6 rfl rfl rfl (fun w H => ?_) | refine b_store (cs' := [_, _, _]) rfl sz_31 rfl rfl rfl rfl rfl H 7 rfl rfl rfl (fun w H => ?_) | refine b_store (cs' := [_, _, _]) rfl sz_31 rfl rfl rfl rfl rfl H 8 rfl rfl rfl (fun w H => ?_) | refine b_store (cs' := [_, _, _]) rfl sz_31 rfl rfl rfl rfl rfl H 9 rfl rfl rfl (fun w H => ?_) | refine b_store (cs' := [_, _, _]) rfl sz_31 rfl rfl rfl rfl rfl H 10 rfl rfl rfl (fun w H => ?_) | refine b_store (cs' := [_, _, _]) rfl sz_31 rfl rfl rfl rfl rfl H 11 rfl rfl rfl (fun w H => ?_) | refine b_store (cs' := [_, _, _]) rfl sz_31 rfl rfl rfl rfl rfl H 12 rfl rfl rfl (fun w H => ?_)
    refine l_pint rfl rfl ?_
    refine l_nil ?_
    refine w_seq ?_
    refine w_seq ?_
    refine w_region ?_
    refine l_pint rfl rfl ?_
    refine l_pbool rfl rfl ?_
    refine l_nil ?_
    refine w_cond rfl (fun c2 => ?_) (fun c2 => ?_)
    · try simp only [decide_eq_true_eq, decide_eq_false_iff_not, Bool.not_eq_true', Bool.not_eq_false', beq_iff_eq, beq_eq_false_iff_ne, bne_iff_ne, bne_eq_false_iff_eq, ne_eq, Int.not_lt, Int.not_le] at c2
      refine w_seq ?_
      refine w_region ?_
      refine l_pslice rfl rfl ?_
      refine l_nil ?_
      refine w_ret ?_
      refine fin1 (v := .slice _ _ _) rfl ?_
      exact absurd c2 (by decide)
    try simp only [decide_eq_true_eq, decide_eq_false_iff_not, Bool.not_eq_true', Bool.not_eq_false', beq_iff_eq, beq_eq_false_iff_ne, bne_iff_ne, bne_eq_false_iff_eq, ne_eq, Int.not_lt, Int.not_le] at c2
    refine w_skip ?_
    refine w_region ?_
    refine l_pslice rfl rfl ?_
    refine l_v rfl (q_loadN (vs := [_, _, _]) rfl ag_31 rfl rfl (by first | exact H.cells 0 rfl | exact H.cells 1 rfl | exact H.cells 2 rfl | exact H.cells 3 rfl | exact H.cells 4 rfl | exact H.cells 5 rfl | exact H.cells 6 rfl | exact H.cells 7 rfl | exact H.cells 8 rfl | exact H.cells 9 rfl | exact H.cells 10 rfl | exact H.cells 11 rfl | exact H.cells 12 rfl)) ?_
    refine b_buildSlice (cs := [_, _, _]) rfl el_22 ze_31 rfl rfl rfl H (fun b23 w H => ?_)
    first | refine b_append rfl el_22 ze_31 rfl rfl rfl H 1 rfl (Rd.mk (H.cells0 0 rfl)) rfl (by simp [Value.oneCell']) ⟨by (try dsimp only); omega, by simp only [maxLen]; (try dsimp only); omega⟩ (fun a24 c24 w H => ?_) | refine b_append rfl el_22 ze_31 rfl rfl rfl H 2 rfl (Rd.mk (H.cells0 0 rfl)) rfl (by simp [Value.oneCell']) ⟨by (try dsimp only); omega, by simp only [maxLen]; (try dsimp only); omega⟩ (fun a24 c24 w H => ?_) | refine b_append rfl el_22 ze_31 rfl rfl rfl H 3 rfl (Rd.mk (H.cells0 0 rfl)) rfl (by simp [Value.oneCell']) ⟨by (try dsimp only); omega, by simp only [maxLen]; (try dsimp only); omega⟩ (fun a24 c24 w H => ?_) | refine b_append rfl el_22 ze_31 rfl rfl rfl H 4 rfl (Rd.mk (H.cells0 0 rfl)) rfl (by simp [Value.oneCell']) ⟨by (try dsimp only); omega, by simp only [maxLen]; (try dsimp only); omega⟩ (fun a24 c24 w H => ?_) | refine b_append rfl el_22 ze_31 rfl rfl rfl H 5 rfl (Rd.mk (H.cells0 0 rfl)) rfl (by simp [Value.oneCell']) ⟨by (try dsimp only); omega, by simp only [maxLen]; (try dsimp only); omega⟩ (fun a24 c24 w H => ?_) | refine b_append rfl el_22 ze_31 rfl rfl rfl H 6 rfl (Rd.mk (H.cells0 0 rfl)) rfl (by simp [Value.oneCell']) ⟨by (try dsimp only); omega, by simp only [maxLen]; (try dsimp only); omega⟩ (fun a24 c24 w H => ?_) | refine b_append rfl el_22 ze_31 rfl rfl rfl H 7 rfl (Rd.mk (H.cells0 0 rfl)) rfl (by simp [Value.oneCell']) ⟨by (try dsimp only); omega, by simp only [maxLen]; (try dsimp only); omega⟩ (fun a24 c24 w H => ?_) | refine b_append rfl el_22 ze_31 rfl rfl rfl H 8 rfl (Rd.mk (H.cells0 0 rfl)) rfl (by simp [Value.oneCell']) ⟨by (try dsimp only); omega, by simp only [maxLen]; (try dsimp only); omega⟩ (fun a24 c24 w H => ?_) | refine b_append rfl el_22 ze_31 rfl rfl rfl H 9 rfl (Rd.mk (H.cells0 0 rfl)) rfl (by simp [Value.oneCell']) ⟨by (try dsimp only); omega, by simp only [maxLen]; (try dsimp only); omega⟩ (fun a24 c24 w H => ?_) | refine b_append rfl el_22 ze_31 rfl rfl rfl H 10 rfl (Rd.mk (H.cells0 0 rfl)) rfl (by simp [Value.oneCell']) ⟨by (try dsimp only); omega, by simp only [maxLen]; (try dsimp only); omega⟩ (fun a24 c24 w H => ?_) | refine b_append rfl el_22 ze_31 rfl rfl rfl H 11 rfl (Rd.mk (H.cells0 0 rfl)) rfl (by simp [Value.oneCell']) ⟨by (try dsimp only); omega, by simp only [maxLen]; (try dsimp only); omega⟩ (fun a24 c24 w H => ?_) | refine b_append rfl el_22 ze_31 rfl rfl rfl H 12 rfl (Rd.mk (H.cells0 0 rfl)) rfl (by simp [Value.oneCell']) ⟨by (try dsimp only); omega, by simp only [maxLen]; (try dsimp only); omega⟩ (fun a24 c24 w H => ?_)
    refine l_pslice rfl rfl ?_
    refine l_nil ?_
    refine w_region ?_
    refine l_pint rfl rfl ?_
    first | refine l_v rfl (q_add rfl rfl rfl (by simp only [inK]; omega)) ?_ | refine l_pint rfl rfl ?_
    refine l_pint rfl rfl ?_
    refine l_nil ?_
    refine ⟨by repeat' first | exact Agr.mix _ _ _ | exact Agr.refl _ _ | refine Agr.inner rfl ?_ | refine Agr.upd rfl ?_ | refine Agr.updL' rfl ?_, ?_⟩
    refine ⟨m - 1, (i + 1, a24, c24, l' ++ [q]), by omega, ⟨by exact congrArg (Value.int IntKind.i64) (Int.natCast_succ i).symm, rfl, trivial⟩, by omega, by simp [hl'], ?_, ?_⟩
    · rw [List.map_append, hcon, List.take_add_one, hp, List.map_append]; exact congrArg (fun x => _ ++ [x]) (AtR.con hq)
    exact pack7 H
  try simp only [decide_eq_true_eq, decide_eq_false_iff_not, Bool.not_eq_true', Bool.not_eq_false', beq_iff_eq, beq_eq_false_iff_ne, bne_iff_ne, bne_eq_false_iff_eq, ne_eq, Int.not_lt, Int.not_le] at c1
  refine w_exit ?_
  refine w_seq ?_
  refine w_region ?_
  refine l_pslice rfl rfl ?_
  refine l_pslice rfl rfl ?_
  refine l_nil ?_
  refine w_ret ?_
  refine fin1 (v := .slice _ _ _) rfl ?_
  obtain rfl : i = st.pool.length := by omega
  exact ⟨a', c', l', rfl, by rw [hcon, List.take_of_length_le (Nat.le_refl _)], H⟩
end Go.Proofs.Ytmgcmgfjaimlnaa
