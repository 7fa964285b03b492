/- The law NetworkHeap answers true, of every list of packets and all numbers. -/
import Derived.Test.YtmgcmgfjaimlnaaNet12
namespace Go.Proofs.Ytmgcmgfjaimlnaa
open Go.EW
attribute [local irreducible] EW.W EW.L EW.fin
set_option linter.unusedVariables false
set_option linter.unusedSimpArgs false
set_option maxRecDepth 8000 in
set_option maxHeartbeats 2000000 in
theorem NetworkHeap_ok {W w : World} {F : List Seg} (H : St W w F) {a : Option Addr} {n cap : Nat} {l : List Pk} (hr : RdIn W F a (pks l)) (hln : l.length = n) (hg : Good W F l) (hn : n * 40 ≤ 140737488351232) (xi xk xa : Int) (m : UInt8) :
    Ok Try.prog 5 [.slice a n cap, .int .i64 xi, .int .i64 xk, .int .i64 xa, B m].toArray w (fun v w' => v = .bool true ∧ ∃ S, St W w' S) := by
  refine enter (n := 283) (rs := #[.tmp 10]) Try.func5 rfl rfl rfl rfl ?_
  refine w_seq ?_
  refine w_region ?_
  refine l_pbool rfl rfl ?_
  refine l_nil ?_
  refine w_seq ?_
  refine w_region ?_
  refine l_pslice rfl rfl ?_
  refine b_call rfl cb_10 rfl (filled_ok H hr hln hg hn) (fun v w hv => ?_)
  obtain ⟨b, st0, rfl, hok0, hpl0, H⟩ := hv
  subst hpl0
  have hfit0 := hok0.fit
  refine l_pptr rfl rfl ?_
  refine l_nil ?_
  refine w_seq ?_
  refine w_seq ?_
  refine w_region ?_
  refine l_pptr rfl rfl ?_
  refine l_v rfl (q_eqlNilF rfl pt_24 rfl rfl) ?_
  refine l_pbool rfl rfl ?_
  refine l_pptr rfl rfl ?_
  refine b_call rfl cb_16 rfl (Len_ok (i := 0) H rfl rfl) (fun v w hv => ?_)
  obtain ⟨rfl, rfl⟩ := hv
  refine l_pslice rfl rfl ?_
  refine l_v rfl (q_lenSlice rfl el_22 rfl) ?_
  refine l_pbool rfl rfl ?_
  refine l_pickF (v := .bool _) rfl rfl rfl ?_
  refine l_pbool rfl rfl ?_
  refine l_split 35 rfl (fun h35 => absurd h35 (by simp)) (fun h35 => ?_)
  try simp only [decide_eq_true_eq, decide_eq_false_iff_not, Bool.not_eq_true', Bool.not_eq_false', beq_iff_eq, beq_eq_false_iff_ne, bne_iff_ne, bne_eq_false_iff_eq, ne_eq, Int.not_lt, Int.not_le] at h35
  refine b_call rfl cb_11 rfl (works_ok H) (fun v w hv => ?_)
  obtain ⟨rfl, H⟩ := hv
  refine l_pbool rfl rfl ?_
  refine l_pickF (v := .bool _) rfl rfl rfl ?_
  refine l_nil ?_
  refine w_cond rfl (fun c1 => ?_) (fun c1 => ?_)
  · try simp only [decide_eq_true_eq, decide_eq_false_iff_not, Bool.not_eq_true', Bool.not_eq_false', beq_iff_eq, beq_eq_false_iff_ne, bne_iff_ne, bne_eq_false_iff_eq, ne_eq, Int.not_lt, Int.not_le] at c1
    refine w_seq ?_
    refine w_region ?_
    refine l_pbool rfl rfl ?_
    refine l_nil ?_
    refine w_ret ?_
    refine fin1 (v := .bool _) rfl ?_
    exact absurd c1 (by decide)
  · try simp only [decide_eq_true_eq, decide_eq_false_iff_not, Bool.not_eq_true', Bool.not_eq_false', beq_iff_eq, beq_eq_false_iff_ne, bne_iff_ne, bne_eq_false_iff_eq, ne_eq, Int.not_lt, Int.not_le] at c1
    refine w_skip ?_
    refine w_seq ?_
    refine w_seq ?_
    refine w_region ?_
    refine l_pslice rfl rfl ?_
    refine l_v rfl (q_lenSlice rfl el_22 rfl) ?_
    refine l_pbool rfl rfl ?_
    refine l_nil ?_
    refine w_cond rfl (fun c2 => ?_) (fun c2 => ?_)
    · try simp only [decide_eq_true_eq, decide_eq_false_iff_not, Bool.not_eq_true', Bool.not_eq_false', beq_iff_eq, beq_eq_false_iff_ne, bne_iff_ne, bne_eq_false_iff_eq, ne_eq, Int.not_lt, Int.not_le] at c2
      refine w_seq ?_
      refine w_region ?_
      refine l_pptr rfl rfl ?_
      refine b_call rfl cb_26 rfl (Copy_ok H hfit0 (by omega) 0) (fun v w hv => ?_)
      obtain ⟨q, e, rfl, hat, hv⟩ := hv
      obtain rfl := hat.miss (by omega)
      have H := (hv.resolve_right (fun h => by have := h.1; omega)).2
      refine l_pbool rfl rfl ?_
      refine l_pbool rfl rfl ?_
      refine l_split 45 rfl (fun h45 => ?_) (fun h45 => absurd h45 (by decide))
      try simp only [decide_eq_true_eq, decide_eq_false_iff_not, Bool.not_eq_true', Bool.not_eq_false', beq_iff_eq, beq_eq_false_iff_ne, bne_iff_ne, bne_eq_false_iff_eq, ne_eq, Int.not_lt, Int.not_le] at h45
      refine l_pptr rfl rfl ?_
      refine b_call rfl cb_21 rfl (Drop_ok H hfit0 0) (fun v w hv => ?_)
      obtain ⟨q, e, rfl, hat, H⟩ := hv
      obtain rfl := hat.miss (by omega)
      rw [takeS_miss (by omega)] at H
      refine l_pbool rfl rfl ?_
      refine l_pickT (v := .bool _) rfl rfl rfl ?_
      refine l_pbool rfl rfl ?_
      refine l_split 50 rfl (fun h50 => ?_) (fun h50 => absurd h50 (by decide))
      try simp only [decide_eq_true_eq, decide_eq_false_iff_not, Bool.not_eq_true', Bool.not_eq_false', beq_iff_eq, beq_eq_false_iff_ne, bne_iff_ne, bne_eq_false_iff_eq, ne_eq, Int.not_lt, Int.not_le] at h50
      refine l_pptr rfl rfl ?_
      refine b_call rfl cb_23 rfl (Swap_ok H 0 0) (fun v w hv => ?_)
      obtain ⟨rfl, H⟩ := hv
      rw [swapS_miss (by omega)] at H
      rw [if_neg (by omega)]
      refine l_pbool rfl rfl ?_
      refine l_pickT (v := .bool _) rfl rfl rfl ?_
      refine l_pbool rfl rfl ?_
      refine l_split 55 rfl (fun h55 => ?_) (fun h55 => absurd h55 (by decide))
      try simp only [decide_eq_true_eq, decide_eq_false_iff_not, Bool.not_eq_true', Bool.not_eq_false', beq_iff_eq, beq_eq_false_iff_ne, bne_iff_ne, bne_eq_false_iff_eq, ne_eq, Int.not_lt, Int.not_le] at h55
      refine l_pptr rfl rfl ?_
      refine b_call rfl cb_22 rfl (Turn_ok H 0 0 1) (fun v w hv => ?_)
      obtain ⟨rfl, H⟩ := hv
      rw [(turn_no1 (m := 0) (j := 0) (fun h => by omega : ¬ ((0:Int) ≤ 0 ∧ (0:Int) < (st0.pool.length : Int)))).2]
      rw [(turn_no1 (m := 1) (j := 0) (fun h => by omega : ¬ ((0:Int) ≤ 0 ∧ (0:Int) < (st0.pool.length : Int)))).1] at H
      refine l_pbool rfl rfl ?_
      refine l_pickT (v := .bool _) rfl rfl rfl ?_
      refine l_pbool rfl rfl ?_
      refine l_nil ?_
      refine w_ret ?_
      refine fin1 (v := .bool _) rfl ?_
      exact ⟨rfl, _, H⟩
    · try simp only [decide_eq_true_eq, decide_eq_false_iff_not, Bool.not_eq_true', Bool.not_eq_false', beq_iff_eq, beq_eq_false_iff_ne, bne_iff_ne, bne_eq_false_iff_eq, ne_eq, Int.not_lt, Int.not_le] at c2
      refine w_skip ?_
      refine w_seq ?_
      refine w_region ?_
      refine l_pint rfl rfl ?_
      refine l_pslice rfl rfl ?_
      refine l_v rfl (q_lenSlice rfl el_22 rfl) ?_
      first | refine l_v rfl (q_sub rfl rfl rfl (by simp only [inK]; omega)) ?_ | refine l_pint rfl rfl ?_
      refine b_call rfl cb_13 rfl (within_ok xi _ (by omega) (by omega)) (fun v w hv => ?_)
      obtain ⟨i, rfl, rfl, hi0, hi1⟩ := hv
      obtain ⟨i, rfl⟩ := Int.eq_ofNat_of_zero_le hi0
      refine l_pint rfl rfl ?_
      refine l_nil ?_
      refine w_seq ?_
      refine w_region ?_
      refine l_pint rfl rfl ?_
      refine l_pslice rfl rfl ?_
      refine l_v rfl (q_lenSlice rfl el_22 rfl) ?_
      first | refine l_v rfl (q_sub rfl rfl rfl (by simp only [inK]; omega)) ?_ | refine l_pint rfl rfl ?_
      refine b_call rfl cb_13 rfl (within_ok xk _ (by omega) (by omega)) (fun v w hv => ?_)
      obtain ⟨k, rfl, rfl, hk0, hk1⟩ := hv
      obtain ⟨k, rfl⟩ := Int.eq_ofNat_of_zero_le hk0
      have hik : i < st0.pool.length := by omega
      have hkk : k < st0.pool.length := by omega
      refine l_pint rfl rfl ?_
      refine l_nil ?_
      refine w_seq ?_
      refine w_region ?_
      refine l_pptr rfl rfl ?_
      refine b_call rfl cb_12 rfl (pool_ok H hfit0 (by omega)) (fun v w hv => ?_)
      obtain ⟨a0, c0, l0, rfl, hcon0, H⟩ := hv
      have hg0 := good_of H 8 2 rfl rfl hcon0 hfit0.pool
      have hl0 : l0.length = st0.pool.length := by simpa using congrArg List.length hcon0
      refine l_pslice rfl rfl ?_
      refine l_nil ?_
      refine w_seq ?_
      refine w_region ?_
      refine l_pptr rfl rfl ?_
      refine l_pint rfl rfl ?_
      refine l_pint rfl rfl ?_
      refine b_call rfl cb_23 rfl (Swap_ok H i k) (fun v w hv => ?_)
      obtain ⟨rfl, H⟩ := hv
      rw [if_pos (by omega)]
      refine l_pint rfl rfl ?_
      refine l_nil ?_
      refine w_seq ?_
      refine w_region ?_
      refine l_pptr rfl rfl ?_
      refine l_pint rfl rfl ?_
      refine l_pint rfl rfl ?_
      refine b_call rfl cb_23 rfl (Swap_ok H k i) (fun v w hv => ?_)
      obtain ⟨rfl, H⟩ := hv
      rw [swap_back hik hkk] at H
      rw [swapS_len, if_pos (by omega)]
      refine l_pint rfl rfl ?_
      refine l_nil ?_
      refine w_seq ?_
      refine w_seq ?_
      refine w_region ?_
      refine l_pint rfl rfl ?_
      refine l_pbool rfl rfl ?_
      refine l_pbool rfl rfl ?_
      refine l_split 82 rfl (fun h82 => absurd h82 (by decide)) (fun h82 => ?_)
      try simp only [decide_eq_true_eq, decide_eq_false_iff_not, Bool.not_eq_true', Bool.not_eq_false', beq_iff_eq, beq_eq_false_iff_ne, bne_iff_ne, bne_eq_false_iff_eq, ne_eq, Int.not_lt, Int.not_le] at h82
      refine l_pint rfl rfl ?_
      refine l_pbool rfl rfl ?_
      refine l_pickF (v := .bool _) rfl rfl rfl ?_
      refine l_pbool rfl rfl ?_
      refine l_split 86 rfl (fun h86 => absurd h86 (by decide)) (fun h86 => ?_)
      try simp only [decide_eq_true_eq, decide_eq_false_iff_not, Bool.not_eq_true', Bool.not_eq_false', beq_iff_eq, beq_eq_false_iff_ne, bne_iff_ne, bne_eq_false_iff_eq, ne_eq, Int.not_lt, Int.not_le] at h86
      refine l_pptr rfl rfl ?_
      refine b_call rfl cb_12 rfl (pool_ok H hfit0 (by omega)) (fun v w hv => ?_)
      obtain ⟨a1, c1', l1, rfl, hcon1, H⟩ := hv
      have hg1 := good_of H 8 2 rfl rfl hcon1 hfit0.pool
      have hl1 : l1.length = st0.pool.length := by simpa using congrArg List.length hcon1
      refine l_pslice rfl rfl ?_
      refine b_call rfl cb_25 rfl (SamePackets_ok H (RdIn.row (xs := pks l1) 7 rfl) hl1 (good_segs 8 rfl hg1) (RdIn.row (xs := pks l0) 9 rfl) hl0 (good_segs 10 rfl hg0) (hcon1.trans hcon0.symm) (by omega)) (fun v w hv => ?_)
      obtain ⟨rfl, H⟩ := hv
      have H := (liftX [_, _] H).dropN 2
      refine l_pbool rfl rfl ?_
      refine l_pickF (v := .bool _) rfl rfl rfl ?_
      refine l_nil ?_
      refine w_cond rfl (fun c3 => ?_) (fun c3 => ?_)
      · try simp only [decide_eq_true_eq, decide_eq_false_iff_not, Bool.not_eq_true', Bool.not_eq_false', beq_iff_eq, beq_eq_false_iff_ne, bne_iff_ne, bne_eq_false_iff_eq, ne_eq, Int.not_lt, Int.not_le] at c3
        refine w_seq ?_
        refine w_region ?_
        refine l_pbool rfl rfl ?_
        refine l_nil ?_
        refine w_ret ?_
        refine fin1 (v := .bool _) rfl ?_
        exact absurd c3 (by decide)
      · try simp only [decide_eq_true_eq, decide_eq_false_iff_not, Bool.not_eq_true', Bool.not_eq_false', beq_iff_eq, beq_eq_false_iff_ne, bne_iff_ne, bne_eq_false_iff_eq, ne_eq, Int.not_lt, Int.not_le] at c3
        refine w_skip ?_
        refine w_seq ?_
        refine w_region ?_
        refine l_pptr rfl rfl ?_
        refine l_pint rfl rfl ?_
        refine b_call rfl cb_26 rfl (Copy_ok H hfit0 (by omega) i) (fun v w hv => ?_)
        obtain ⟨q, e, rfl, hat, hv⟩ := hv
        obtain ⟨rfl, p, hp, hq⟩ := hat.hit (i := i) hik
        obtain ⟨_, pa2, pcap2, H⟩ := hv.resolve_left (fun h => h.1 rfl)
        have hpn := hfit0.pool p (List.mem_of_getElem? hp)
        have hqn : q.n = p.n := by rw [hq]
        have hqb : q.bs = p.bs := by rw [hq]
        have hqc : q.con = p.con := AtR.con hq
        have hfit2 := fit_copy (pa := pa2) (pcap := pcap2) hfit0 (q := q) (by omega)
        obtain ⟨st2, e2⟩ : ∃ s, s = ({ st0 with pa := pa2, pcap := pcap2, pool := st0.pool ++ [q] } : NetS) := ⟨_, rfl⟩
        rw [← e2] at H hfit2
        have hpool2 : st2.pool = st0.pool ++ [q] := by rw [e2]
        have hpl2 : st2.pool.length = st0.pool.length + 1 := by rw [hpool2]; simp
        have hq2 : st2.pool[st0.pool.length]? = some q := by rw [hpool2]; simp
        obtain ⟨p0, hp0⟩ : ∃ p0, l0[i]? = some p0 := ⟨_, List.getElem?_eq_getElem (by omega)⟩
        have hp0m := List.mem_of_getElem? hp0
        have hc0 : p0.con = p.con := con_get hcon0 hp0 hp
        have hb0 : p0.bs = p.bs := con_bs hc0
        refine l_pint rfl rfl ?_
        refine l_nil ?_
        refine w_seq ?_
        refine w_region ?_
        refine l_pptr rfl rfl ?_
        refine l_pslice rfl rfl ?_
        refine l_v rfl (q_lenSlice rfl el_22 rfl) ?_
        refine b_call rfl cb_27 rfl (At_ok H hfit2 (st0.pool.length : Int)) (fun v w hv => ?_)
        obtain ⟨q2, e, rfl, hat2, H⟩ := hv
        obtain ⟨rfl, p2, hp2, hq2'⟩ := hat2.hit (i := st0.pool.length) (by omega)
        obtain rfl : q = p2 := by rw [hq2] at hp2; exact Option.some.inj hp2
        have hq2l := (H.rowInv (i := 0) rfl).1
        have hsame2 : sameB q2 p0 = true := con_same ((hc0.trans hqc.symm).trans (AtR.con hq2').symm)
        have H := sinkX [_] H
        obtain ⟨br, o9, hra, _⟩ := pk_cells (H.rowInv (i := 8) rfl).2.2.2.2 hp0
        have hpbl : p.bs.length = p.n := by have h1 := (hg0 p0 hp0m).1; have h2 : q2.bs.length = q2.n * 1 := by simpa using hq2l
                                            rw [show q2.bs = q.bs by rw [hq2'], show q2.n = q.n by rw [hq2'], hqb, hqn] at h2; omega
        have hp0n : p0.n = p.n := by have h1 := (hg0 p0 hp0m).1; rw [hb0] at h1; omega
        refine l_ptup rfl rfl ?_
        refine l_pagg rfl rfl ?_
        refine l_pint rfl rfl ?_
        refine b_alloc rfl ze_31 rfl H (fun b15 w H => ?_)
        first | refine b_store (cs' := [_, _, _]) rfl sz_31 rfl rfl rfl rfl rfl H 0 rfl rfl rfl (fun w H => ?_) | refine b_store (cs' := [_, _, _]) rfl sz_31 rfl rfl rfl rfl rfl H 1 rfl rfl rfl (fun w H => ?_) | refine b_store (cs' := [_, _, _]) rfl sz_31 rfl rfl rfl rfl rfl H 2 rfl rfl rfl (fun w H => ?_) | refine b_store (cs' := [_, _, _]) rfl sz_31 rfl rfl rfl rfl rfl H 3 rfl rfl rfl (fun w H => ?_) | refine b_store (cs' := [_, _, _]) rfl sz_31 rfl rfl rfl rfl rfl H 4 rfl rfl rfl (fun w H => ?_) | refine b_store (cs' := [_, _, _]) rfl sz_31 rfl rfl rfl rfl rfl H 5 rfl rfl rfl (fun w H => ?_) | refine b_store (cs' := [_, _, _]) rfl sz_31 rfl rfl rfl rfl rfl H 6 rfl rfl rfl (fun w H => ?_) | refine b_store (cs' := [_, _, _]) rfl sz_31 rfl rfl rfl rfl rfl H 7 rfl rfl rfl (fun w H => ?_) | refine b_store (cs' := [_, _, _]) rfl sz_31 rfl rfl rfl rfl rfl H 8 rfl rfl rfl (fun w H => ?_) | refine b_store (cs' := [_, _, _]) rfl sz_31 rfl rfl rfl rfl rfl H 9 rfl rfl rfl (fun w H => ?_) | refine b_store (cs' := [_, _, _]) rfl sz_31 rfl rfl rfl rfl rfl H 10 rfl rfl rfl (fun w H => ?_) | refine b_store (cs' := [_, _, _]) rfl sz_31 rfl rfl rfl rfl rfl H 11 rfl rfl rfl (fun w H => ?_) | refine b_store (cs' := [_, _, _]) rfl sz_31 rfl rfl rfl rfl rfl H 12 rfl rfl rfl (fun w H => ?_) | refine b_store (cs' := [_, _, _]) rfl sz_31 rfl rfl rfl rfl rfl H 13 rfl rfl rfl (fun w H => ?_) | refine b_store (cs' := [_, _, _]) rfl sz_31 rfl rfl rfl rfl rfl H 14 rfl rfl rfl (fun w H => ?_) | refine b_store (cs' := [_, _, _]) rfl sz_31 rfl rfl rfl rfl rfl H 15 rfl rfl rfl (fun w H => ?_) | refine b_store (cs' := [_, _, _]) rfl sz_31 rfl rfl rfl rfl rfl H 16 rfl rfl rfl (fun w H => ?_)
        refine l_pint rfl rfl ?_
        refine l_nil ?_
        refine w_seq ?_
        refine w_seq ?_
        refine w_drawS [20] [15, 19] 99 [(0, 0), (1, 0), (2, 0), (3, 0), (4, 0), (5, 0), (6, 0), (7, 0), (9, 0), (10, 0), (11, 0), (8, 2), (12, 0), (13, 0), (14, 0), (15, 1), (16, 0), (17, 0), (18, 0), (19, 1), (20, 2), (21, 0), (22, 0)] mixed (by kernel_rfl) (fun _ _ _ h => fin_panic h) H (fun H => ?_)
        refine r_pint rfl rfl rfl ?_
        refine r_pbool rfl rfl rfl ?_
        refine r_pbool rfl rfl rfl ?_
        refine r_split 105 rfl (fun h105 => absurd h105 (by decide)) (fun h105 => ?_)
        try simp only [decide_eq_true_eq, decide_eq_false_iff_not, Bool.not_eq_true', Bool.not_eq_false', beq_iff_eq, beq_eq_false_iff_ne, bne_iff_ne, bne_eq_false_iff_eq, ne_eq, Int.not_lt, Int.not_le] at h105
        refine r_pint rfl rfl rfl ?_
        refine r_pbool rfl rfl rfl ?_
        refine r_pickF (v := .bool _) rfl rfl rfl rfl ?_
        refine r_pbool rfl rfl rfl ?_
        refine r_split 109 rfl (fun h109 => absurd h109 (by decide)) (fun h109 => ?_)
        try simp only [decide_eq_true_eq, decide_eq_false_iff_not, Bool.not_eq_true', Bool.not_eq_false', beq_iff_eq, beq_eq_false_iff_ne, bne_iff_ne, bne_eq_false_iff_eq, ne_eq, Int.not_lt, Int.not_le] at h109
        refine r_pptr rfl rfl rfl ?_
        refine r_pslice rfl rfl rfl ?_
        refine r_w rfl rfl (fun w => q_lenSlice rfl el_22 rfl) ?_
        first | refine r_w rfl rfl (fun w => q_add rfl rfl rfl (by simp only [inK]; omega)) ?_ | refine r_pint rfl rfl rfl ?_
        refine r_do rfl ?_
        refine b_call rfl cb_16 rfl (Len_ok (i := 1) H rfl rfl) (fun v w hv => ?_)
        obtain ⟨rfl, rfl⟩ := hv
        refine l_nil ⟨fun _ _ => (by first | exact Sx.of H 0 99 rfl | exact Sx.of H 1 99 rfl | exact Sx.of H 2 99 rfl | exact Sx.of H 3 99 rfl | exact Sx.of H 4 99 rfl), ?_⟩
        refine r_pbool rfl rfl rfl ?_
        refine r_pickF (v := .bool _) rfl rfl rfl rfl ?_
        refine r_pbool rfl rfl rfl ?_
        refine r_split 117 rfl (fun h117 => absurd h117 (by simp [hpl2])) (fun h117 => ?_)
        try simp only [decide_eq_true_eq, decide_eq_false_iff_not, Bool.not_eq_true', Bool.not_eq_false', beq_iff_eq, beq_eq_false_iff_ne, bne_iff_ne, bne_eq_false_iff_eq, ne_eq, Int.not_lt, Int.not_le] at h117
        refine r_v rfl rfl (fun w hS => q_loadN (vs := [_, _, _]) rfl ag_31 rfl rfl (by first | exact hS.cells 0 rfl | exact hS.cells 1 rfl | exact hS.cells 2 rfl | exact hS.cells 3 rfl | exact hS.cells 4 rfl | exact hS.cells 5 rfl | exact hS.cells 6 rfl | exact hS.cells 7 rfl | exact hS.cells 8 rfl | exact hS.cells 9 rfl | exact hS.cells 10 rfl | exact hS.cells 11 rfl | exact hS.cells 12 rfl | exact hS.cells 13 rfl | exact hS.cells 14 rfl | exact hS.cells 15 rfl | exact hS.cells 16 rfl)) ?_
        refine r_pslice rfl rfl rfl ?_
        refine r_pint rfl rfl rfl ?_
        refine r_w rfl rfl (fun w => q_indexSliceA rfl el_22 rfl hra rfl (by omega)) ?_
        refine r_v rfl rfl (fun w hS => q_loadN (vs := [_, _, _]) rfl ag_31 rfl rfl (pk_cellsA hra (hS.rd 9 rfl) hp0)) ?_
        refine r_do rfl ?_
        refine b_call rfl cb_15 rfl (Same_ok (p := q2) (q := p0) H (RdIn.row 8 rfl) (by simpa using hq2l) (good_segs 10 rfl hg0 p0 hp0m).1 (hg0 p0 hp0m).1) (fun v w hv => ?_)
        obtain ⟨rfl, H⟩ := hv
        rw [hsame2]
        refine l_nil ⟨(fun h => nomatch h), ?_⟩
        refine r_pbool rfl rfl rfl ?_
        refine r_pickF (v := .bool _) rfl rfl rfl rfl ?_
        refine r_nil ?_
        refine w_cond rfl (fun c4 => ?_) (fun c4 => ?_)
        · try simp only [decide_eq_true_eq, decide_eq_false_iff_not, Bool.not_eq_true', Bool.not_eq_false', beq_iff_eq, beq_eq_false_iff_ne, bne_iff_ne, bne_eq_false_iff_eq, ne_eq, Int.not_lt, Int.not_le] at c4
          refine w_seq ?_
          refine w_region ?_
          refine l_pbool rfl rfl ?_
          refine l_nil ?_
          refine w_ret ?_
          refine fin1 (v := .bool _) rfl ?_
          exact absurd c4 (by decide)
        · try simp only [decide_eq_true_eq, decide_eq_false_iff_not, Bool.not_eq_true', Bool.not_eq_false', beq_iff_eq, beq_eq_false_iff_ne, bne_iff_ne, bne_eq_false_iff_eq, ne_eq, Int.not_lt, Int.not_le] at c4
          refine w_skip ?_
          refine w_cutG (G := Unit) [3, 10, 13, 14, 16, 17, 18, 19, 20, 126, 127, 128, 129, 130, 131, 132, 133, 134, 135, 136, 137, 138, 139, 140, 141, 142, 143, 144, 145, 146, 147, 148, 149, 150, 151, 152, 153, 154, 155, 156, 157, 158, 159, 160, 161, 162, 163, 164, 165, 166, 167, 168, 169, 170, 171, 172, 173, 174, 175, 176, 177, 178, 179, 180, 181, 182, 183, 184, 185, 186, 187, 188, 189, 190, 191, 192, 193, 194, 195, 196, 197, 198, 199, 200, 201, 202, 203, 204, 205, 206, 207, 208, 209, 210, 211, 212, 213, 214, 215, 216, 217, 218, 219, 220, 221, 222, 223, 224, 225, 226, 227, 228, 229, 230, 231, 232, 233, 234, 235, 236, 237, 238, 239] (fun _ => []) (fun _ w => St W w (netL b st2 (row 31 3 a0 st0.pool.length c0 (pks l0) :: Segs (l0.map Pk.own) :: F))) (fun _ => rfl) ?_ ?_
          · refine w_seq ?_
            refine w_region ?_
            refine l_pslice rfl rfl ?_
            refine l_pint rfl rfl ?_
            refine l_v rfl (q_indexSliceA rfl el_22 rfl hra rfl (by omega)) ?_
            refine l_v rfl (q_fieldAddr rfl fo31_2 rfl) ?_
            refine l_v rfl (q_load1 rfl c1_29 rfl ((pk_cellsA hra (H.rowInv (i := 9) rfl).2.2.2.2 hp0).get 2 _ rfl)) ?_
            refine l_v rfl (q_lenSlice rfl el_29 rfl) ?_
            refine l_pbool rfl rfl ?_
            refine l_nil ?_
            refine w_cond rfl (fun c5 => ?_) (fun c5 => ?_)
            · try simp only [decide_eq_true_eq, decide_eq_false_iff_not, Bool.not_eq_true', Bool.not_eq_false', beq_iff_eq, beq_eq_false_iff_ne, bne_iff_ne, bne_eq_false_iff_eq, ne_eq, Int.not_lt, Int.not_le] at c5
              refine w_seq ?_
              refine w_region ?_
              refine l_pint rfl rfl ?_
              refine l_pslice rfl rfl ?_
              refine l_pint rfl rfl ?_
              refine l_v rfl (q_indexSliceA rfl el_22 rfl hra rfl (by omega)) ?_
              refine l_v rfl (q_fieldAddr rfl fo31_2 rfl) ?_
              refine l_v rfl (q_load1 rfl c1_29 rfl ((pk_cellsA hra (H.rowInv (i := 9) rfl).2.2.2.2 hp0).get 2 _ rfl)) ?_
              refine l_v rfl (q_lenSlice rfl el_29 rfl) ?_
              first | refine l_v rfl (q_sub rfl rfl rfl (by simp only [inK]; omega)) ?_ | refine l_pint rfl rfl ?_
              refine b_call rfl cb_13 rfl (within_ok xa _ (by omega) (by omega)) (fun v w hv => ?_)
              obtain ⟨j, rfl, rfl, hj0, hj1⟩ := hv
              obtain ⟨j, rfl⟩ := Int.eq_ofNat_of_zero_le hj0
              have hjn : j < p.n := by omega
              refine l_pint rfl rfl ?_
              refine l_nil ?_
              refine w_seq ?_
              refine w_region ?_
              refine l_pptr rfl rfl ?_
              refine l_pslice rfl rfl ?_
              refine l_v rfl (q_lenSlice rfl el_22 rfl) ?_
              refine l_pint rfl rfl ?_
              refine l_pint rfl rfl ?_
              refine b_call rfl cb_22 rfl (Turn_ok (sinkX [_] H) (st0.pool.length : Int) j m) (fun v w hv => ?_)
              obtain ⟨rfl, H⟩ := hv
              obtain ⟨hT1, hE1⟩ := turn_yes (m := m) hq2 (show j < q.n by omega)
              rw [hE1]
              have hfit3 := fit_turn hfit2 (st0.pool.length : Int) j m
              obtain ⟨st3, e3⟩ : ∃ s, s = turnS st2 (st0.pool.length : Int) j m := ⟨_, rfl⟩
              rw [← e3] at H hfit3
              have hpool3 : st3.pool = st2.pool.set st0.pool.length { q with bs := q.bs.set j (q.bs.getD j 0 ^^^ m) } := by rw [e3, hT1]
              have hq3 : st3.pool[st0.pool.length]? = some { q with bs := q.bs.set j (q.bs.getD j 0 ^^^ m) } := by rw [hpool3, List.getElem?_set_self (by omega)]
              have hpi3 : st3.pool[i]? = some p := by rw [hpool3, List.getElem?_set_ne (by omega), hpool2, List.getElem?_append_left hik]; exact hp
              refine l_pint rfl rfl ?_
              refine l_nil ?_
              refine w_seq ?_
              refine w_region ?_
              refine l_pptr rfl rfl ?_
              refine l_pslice rfl rfl ?_
              refine l_v rfl (q_lenSlice rfl el_22 rfl) ?_
              refine b_call rfl cb_27 rfl (At_ok H hfit3 (st0.pool.length : Int)) (fun v w hv => ?_)
              obtain ⟨q3, e, rfl, hat3, H⟩ := hv
              obtain ⟨rfl, p3, hp3, hq3'⟩ := hat3.hit (i := st0.pool.length) (by rw [hpool3, List.length_set]; omega)
              obtain rfl : ({ q with bs := q.bs.set j (q.bs.getD j 0 ^^^ m) } : Pk) = p3 := by rw [hq3] at hp3; exact Option.some.inj hp3
              have hq3b : q3.bs = p.bs.set j (p.bs.getD j 0 ^^^ m) := by rw [hq3', hqb]
              have hq3n : q3.n = p.n := by rw [hq3', hqn]
              have hq3l : q3.bs.length = p.n := by rw [hq3b, List.length_set]; exact hpbl
              refine l_ptup rfl rfl ?_
              refine l_pagg rfl rfl ?_
              refine l_pint rfl rfl ?_
              first | refine b_store (cs' := [_, _, _]) rfl sz_31 rfl rfl rfl rfl rfl H 0 rfl rfl rfl (fun w H => ?_) | refine b_store (cs' := [_, _, _]) rfl sz_31 rfl rfl rfl rfl rfl H 1 rfl rfl rfl (fun w H => ?_) | refine b_store (cs' := [_, _, _]) rfl sz_31 rfl rfl rfl rfl rfl H 2 rfl rfl rfl (fun w H => ?_) | refine b_store (cs' := [_, _, _]) rfl sz_31 rfl rfl rfl rfl rfl H 3 rfl rfl rfl (fun w H => ?_) | refine b_store (cs' := [_, _, _]) rfl sz_31 rfl rfl rfl rfl rfl H 4 rfl rfl rfl (fun w H => ?_) | refine b_store (cs' := [_, _, _]) rfl sz_31 rfl rfl rfl rfl rfl H 5 rfl rfl rfl (fun w H => ?_) | refine b_store (cs' := [_, _, _]) rfl sz_31 rfl rfl rfl rfl rfl H 6 rfl rfl rfl (fun w H => ?_) | refine b_store (cs' := [_, _, _]) rfl sz_31 rfl rfl rfl rfl rfl H 7 rfl rfl rfl (fun w H => ?_) | refine b_store (cs' := [_, _, _]) rfl sz_31 rfl rfl rfl rfl rfl H 8 rfl rfl rfl (fun w H => ?_) | refine b_store (cs' := [_, _, _]) rfl sz_31 rfl rfl rfl rfl rfl H 9 rfl rfl rfl (fun w H => ?_) | refine b_store (cs' := [_, _, _]) rfl sz_31 rfl rfl rfl rfl rfl H 10 rfl rfl rfl (fun w H => ?_) | refine b_store (cs' := [_, _, _]) rfl sz_31 rfl rfl rfl rfl rfl H 11 rfl rfl rfl (fun w H => ?_) | refine b_store (cs' := [_, _, _]) rfl sz_31 rfl rfl rfl rfl rfl H 12 rfl rfl rfl (fun w H => ?_) | refine b_store (cs' := [_, _, _]) rfl sz_31 rfl rfl rfl rfl rfl H 13 rfl rfl rfl (fun w H => ?_) | refine b_store (cs' := [_, _, _]) rfl sz_31 rfl rfl rfl rfl rfl H 14 rfl rfl rfl (fun w H => ?_) | refine b_store (cs' := [_, _, _]) rfl sz_31 rfl rfl rfl rfl rfl H 15 rfl rfl rfl (fun w H => ?_) | refine b_store (cs' := [_, _, _]) rfl sz_31 rfl rfl rfl rfl rfl H 16 rfl rfl rfl (fun w H => ?_)
              refine l_pint rfl rfl ?_
              refine l_nil ?_
              refine w_seq ?_
              refine w_region ?_
              refine l_pptr rfl rfl ?_
              refine l_pint rfl rfl ?_
              refine b_call rfl cb_27 rfl (At_ok (sinkX [_] H) hfit3 i) (fun v w hv => ?_)
              obtain ⟨q4, e, rfl, hat4, H⟩ := hv
              obtain ⟨rfl, p4, hp4, hq4'⟩ := hat4.hit (i := i) (by rw [hpool3, List.length_set]; omega)
              obtain rfl : p = p4 := by rw [hpi3] at hp4; exact Option.some.inj hp4
              have hsame4 : sameB q4 p0 = true := con_same (hc0.trans (AtR.con hq4').symm)
              have hq4b : q4.bs = p.bs := by rw [hq4']
              have hq4n : q4.n = p.n := by rw [hq4']
              have hq4l : q4.bs.length = p.n := by rw [hq4b]; exact hpbl
              obtain ⟨b3, o3, hqa3⟩ := byte_addr (j := j) (H.rowInv (i := 8) rfl).2.2.2.2 (by omega)
              obtain ⟨b4, o4, hqa4⟩ := byte_addr (j := j) (H.rowInv (i := 0) rfl).2.2.2.2 (by omega)
              refine l_ptup rfl rfl ?_
              refine l_pagg rfl rfl ?_
              refine l_pint rfl rfl ?_
              refine b_alloc rfl ze_31 rfl H (fun b17 w H => ?_)
              first | refine b_store (cs' := [_, _, _]) rfl sz_31 rfl rfl rfl rfl rfl H 0 rfl rfl rfl (fun w H => ?_) | refine b_store (cs' := [_, _, _]) rfl sz_31 rfl rfl rfl rfl rfl H 1 rfl rfl rfl (fun w H => ?_) | refine b_store (cs' := [_, _, _]) rfl sz_31 rfl rfl rfl rfl rfl H 2 rfl rfl rfl (fun w H => ?_) | refine b_store (cs' := [_, _, _]) rfl sz_31 rfl rfl rfl rfl rfl H 3 rfl rfl rfl (fun w H => ?_) | refine b_store (cs' := [_, _, _]) rfl sz_31 rfl rfl rfl rfl rfl H 4 rfl rfl rfl (fun w H => ?_) | refine b_store (cs' := [_, _, _]) rfl sz_31 rfl rfl rfl rfl rfl H 5 rfl rfl rfl (fun w H => ?_) | refine b_store (cs' := [_, _, _]) rfl sz_31 rfl rfl rfl rfl rfl H 6 rfl rfl rfl (fun w H => ?_) | refine b_store (cs' := [_, _, _]) rfl sz_31 rfl rfl rfl rfl rfl H 7 rfl rfl rfl (fun w H => ?_) | refine b_store (cs' := [_, _, _]) rfl sz_31 rfl rfl rfl rfl rfl H 8 rfl rfl rfl (fun w H => ?_) | refine b_store (cs' := [_, _, _]) rfl sz_31 rfl rfl rfl rfl rfl H 9 rfl rfl rfl (fun w H => ?_) | refine b_store (cs' := [_, _, _]) rfl sz_31 rfl rfl rfl rfl rfl H 10 rfl rfl rfl (fun w H => ?_) | refine b_store (cs' := [_, _, _]) rfl sz_31 rfl rfl rfl rfl rfl H 11 rfl rfl rfl (fun w H => ?_) | refine b_store (cs' := [_, _, _]) rfl sz_31 rfl rfl rfl rfl rfl H 12 rfl rfl rfl (fun w H => ?_) | refine b_store (cs' := [_, _, _]) rfl sz_31 rfl rfl rfl rfl rfl H 13 rfl rfl rfl (fun w H => ?_) | refine b_store (cs' := [_, _, _]) rfl sz_31 rfl rfl rfl rfl rfl H 14 rfl rfl rfl (fun w H => ?_) | refine b_store (cs' := [_, _, _]) rfl sz_31 rfl rfl rfl rfl rfl H 15 rfl rfl rfl (fun w H => ?_) | refine b_store (cs' := [_, _, _]) rfl sz_31 rfl rfl rfl rfl rfl H 16 rfl rfl rfl (fun w H => ?_)
              refine l_pint rfl rfl ?_
              refine l_nil ?_
              refine w_seq ?_
              refine w_seq ?_
              refine w_drawS [] [11, 15, 21, 24, 30, 33, 35, 38] 99 [(0, 0), (1, 0), (2, 0), (3, 0), (4, 0), (5, 0), (6, 0), (7, 0), (8, 0), (9, 0), (10, 0), (11, 1), (12, 0), (13, 0), (14, 0), (15, 1), (16, 2), (17, 0), (18, 0), (19, 0), (20, 0), (21, 1), (22, 0), (23, 0), (24, 1), (25, 0), (26, 0), (27, 0), (28, 0), (29, 0), (30, 1), (31, 0), (32, 0), (33, 1), (34, 0), (35, 1), (36, 0), (37, 0), (38, 1), (39, 0), (40, 0), (41, 0), (42, 0)] mixed (by kernel_rfl) (fun _ _ _ h => fin_panic h) H (fun H => ?_)
              refine r_pint rfl rfl rfl ?_
              refine r_pbool rfl rfl rfl ?_
              refine r_pbool rfl rfl rfl ?_
              refine r_split 163 rfl (fun h163 => absurd h163 (by decide)) (fun h163 => ?_)
              try simp only [decide_eq_true_eq, decide_eq_false_iff_not, Bool.not_eq_true', Bool.not_eq_false', beq_iff_eq, beq_eq_false_iff_ne, bne_iff_ne, bne_eq_false_iff_eq, ne_eq, Int.not_lt, Int.not_le] at h163
              refine r_pint rfl rfl rfl ?_
              refine r_pbool rfl rfl rfl ?_
              refine r_pickF (v := .bool _) rfl rfl rfl rfl ?_
              refine r_pbool rfl rfl rfl ?_
              refine r_split 167 rfl (fun h167 => absurd h167 (by decide)) (fun h167 => ?_)
              try simp only [decide_eq_true_eq, decide_eq_false_iff_not, Bool.not_eq_true', Bool.not_eq_false', beq_iff_eq, beq_eq_false_iff_ne, bne_iff_ne, bne_eq_false_iff_eq, ne_eq, Int.not_lt, Int.not_le] at h167
              refine r_pint rfl rfl rfl ?_
              refine r_pbool rfl rfl rfl ?_
              refine r_pickF (v := .bool _) rfl rfl rfl rfl ?_
              refine r_pbool rfl rfl rfl ?_
              refine r_split 171 rfl (fun h171 => absurd h171 (by decide)) (fun h171 => ?_)
              try simp only [decide_eq_true_eq, decide_eq_false_iff_not, Bool.not_eq_true', Bool.not_eq_false', beq_iff_eq, beq_eq_false_iff_ne, bne_iff_ne, bne_eq_false_iff_eq, ne_eq, Int.not_lt, Int.not_le] at h171
              refine r_v rfl rfl (fun w hS => q_loadN (vs := [_, _, _]) rfl ag_31 rfl rfl (by first | exact hS.cells 0 rfl | exact hS.cells 1 rfl | exact hS.cells 2 rfl | exact hS.cells 3 rfl | exact hS.cells 4 rfl | exact hS.cells 5 rfl | exact hS.cells 6 rfl | exact hS.cells 7 rfl | exact hS.cells 8 rfl | exact hS.cells 9 rfl | exact hS.cells 10 rfl | exact hS.cells 11 rfl | exact hS.cells 12 rfl | exact hS.cells 13 rfl | exact hS.cells 14 rfl | exact hS.cells 15 rfl | exact hS.cells 16 rfl)) ?_
              refine r_pslice rfl rfl rfl ?_
              refine r_pint rfl rfl rfl ?_
              refine r_w rfl rfl (fun w => q_indexSliceA rfl el_22 rfl hra rfl (by omega)) ?_
              refine r_v rfl rfl (fun w hS => q_loadN (vs := [_, _, _]) rfl ag_31 rfl rfl (pk_cellsA hra (hS.rd 12 rfl) hp0)) ?_
              refine r_do rfl ?_
              refine b_call rfl cb_15 rfl (Same_ok (p := q4) (q := p0) H (RdIn.row 1 rfl) (by omega) (good_segs 13 rfl hg0 p0 hp0m).1 (hg0 p0 hp0m).1) (fun v w hv => ?_)
              obtain ⟨rfl, H⟩ := hv
              rw [hsame4]
              refine l_nil ⟨fun _ _ => (by first | exact Sx.of H 0 99 rfl | exact Sx.of H 1 99 rfl | exact Sx.of H 2 99 rfl | exact Sx.of H 3 99 rfl | exact Sx.of H 4 99 rfl), ?_⟩
              refine r_pbool rfl rfl rfl ?_
              refine r_pickF (v := .bool _) rfl rfl rfl rfl ?_
              refine r_pbool rfl rfl rfl ?_
              refine r_split 180 rfl (fun h180 => absurd h180 (by decide)) (fun h180 => ?_)
              try simp only [decide_eq_true_eq, decide_eq_false_iff_not, Bool.not_eq_true', Bool.not_eq_false', beq_iff_eq, beq_eq_false_iff_ne, bne_iff_ne, bne_eq_false_iff_eq, ne_eq, Int.not_lt, Int.not_le] at h180
              refine r_w rfl rfl (fun w => q_fieldAddr rfl fo31_2 rfl) ?_
              refine r_v rfl rfl (fun w hS => q_load1 rfl c1_29 rfl (by first | exact hS.cell 0 rfl rfl | exact hS.cell 1 rfl rfl | exact hS.cell 2 rfl rfl | exact hS.cell 3 rfl rfl | exact hS.cell 4 rfl rfl | exact hS.cell 5 rfl rfl | exact hS.cell 6 rfl rfl | exact hS.cell 7 rfl rfl | exact hS.cell 8 rfl rfl | exact hS.cell 9 rfl rfl | exact hS.cell 10 rfl rfl | exact hS.cell 11 rfl rfl | exact hS.cell 12 rfl rfl | exact hS.cell 13 rfl rfl | exact hS.cell 14 rfl rfl | exact hS.cell 15 rfl rfl | exact hS.cell 16 rfl rfl)) ?_
              refine r_w rfl rfl (fun w => q_lenSlice rfl el_29 rfl) ?_
              refine r_w rfl rfl (fun w => q_fieldAddr rfl fo31_2 rfl) ?_
              refine r_v rfl rfl (fun w hS => q_load1 rfl c1_29 rfl (by first | exact hS.cell 0 rfl rfl | exact hS.cell 1 rfl rfl | exact hS.cell 2 rfl rfl | exact hS.cell 3 rfl rfl | exact hS.cell 4 rfl rfl | exact hS.cell 5 rfl rfl | exact hS.cell 6 rfl rfl | exact hS.cell 7 rfl rfl | exact hS.cell 8 rfl rfl | exact hS.cell 9 rfl rfl | exact hS.cell 10 rfl rfl | exact hS.cell 11 rfl rfl | exact hS.cell 12 rfl rfl | exact hS.cell 13 rfl rfl | exact hS.cell 14 rfl rfl | exact hS.cell 15 rfl rfl | exact hS.cell 16 rfl rfl)) ?_
              refine r_w rfl rfl (fun w => q_lenSlice rfl el_29 rfl) ?_
              refine r_pbool rfl rfl rfl ?_
              refine r_pickF (v := .bool _) rfl rfl rfl rfl ?_
              refine r_pbool rfl rfl rfl ?_
              refine r_split 189 rfl (fun h189 => absurd h189 (by simp [hq3n, hq4n])) (fun h189 => ?_)
              try simp only [decide_eq_true_eq, decide_eq_false_iff_not, Bool.not_eq_true', Bool.not_eq_false', beq_iff_eq, beq_eq_false_iff_ne, bne_iff_ne, bne_eq_false_iff_eq, ne_eq, Int.not_lt, Int.not_le] at h189
              refine r_w rfl rfl (fun w => q_fieldAddr rfl fo31_2 rfl) ?_
              refine r_v rfl rfl (fun w hS => q_load1 rfl c1_29 rfl (by first | exact hS.cell 0 rfl rfl | exact hS.cell 1 rfl rfl | exact hS.cell 2 rfl rfl | exact hS.cell 3 rfl rfl | exact hS.cell 4 rfl rfl | exact hS.cell 5 rfl rfl | exact hS.cell 6 rfl rfl | exact hS.cell 7 rfl rfl | exact hS.cell 8 rfl rfl | exact hS.cell 9 rfl rfl | exact hS.cell 10 rfl rfl | exact hS.cell 11 rfl rfl | exact hS.cell 12 rfl rfl | exact hS.cell 13 rfl rfl | exact hS.cell 14 rfl rfl | exact hS.cell 15 rfl rfl | exact hS.cell 16 rfl rfl)) ?_
              refine r_pint rfl rfl rfl ?_
              refine r_w rfl rfl (fun w => q_indexSliceA rfl el_29 rfl hqa3 rfl (by omega)) ?_
              refine r_v rfl rfl (fun w hS => q_load1 rfl c1_5 rfl (byte_cell hqa3 (hS.rd 9 rfl) (by omega))) ?_
              refine r_w rfl rfl (fun w => q_fieldAddr rfl fo31_2 rfl) ?_
              refine r_v rfl rfl (fun w hS => q_load1 rfl c1_29 rfl (by first | exact hS.cell 0 rfl rfl | exact hS.cell 1 rfl rfl | exact hS.cell 2 rfl rfl | exact hS.cell 3 rfl rfl | exact hS.cell 4 rfl rfl | exact hS.cell 5 rfl rfl | exact hS.cell 6 rfl rfl | exact hS.cell 7 rfl rfl | exact hS.cell 8 rfl rfl | exact hS.cell 9 rfl rfl | exact hS.cell 10 rfl rfl | exact hS.cell 11 rfl rfl | exact hS.cell 12 rfl rfl | exact hS.cell 13 rfl rfl | exact hS.cell 14 rfl rfl | exact hS.cell 15 rfl rfl | exact hS.cell 16 rfl rfl)) ?_
              refine r_pint rfl rfl rfl ?_
              refine r_w rfl rfl (fun w => q_indexSliceA rfl el_29 rfl hqa4 rfl (by omega)) ?_
              refine r_v rfl rfl (fun w hS => q_load1 rfl c1_5 rfl (byte_cell hqa4 (hS.rd 1 rfl) (by omega))) ?_
              refine r_pint rfl rfl rfl ?_
              refine r_pint rfl rfl rfl ?_
              refine r_pbool rfl rfl rfl ?_
              refine r_pickF (v := .bool _) rfl rfl rfl rfl ?_
              refine r_nil ?_
              refine w_cond rfl (fun c6 => ?_) (fun c6 => ?_)
              · try simp only [decide_eq_true_eq, decide_eq_false_iff_not, Bool.not_eq_true', Bool.not_eq_false', beq_iff_eq, beq_eq_false_iff_ne, bne_iff_ne, bne_eq_false_iff_eq, ne_eq, Int.not_lt, Int.not_le] at c6
                refine w_seq ?_
                refine w_region ?_
                refine l_pbool rfl rfl ?_
                refine l_nil ?_
                refine w_ret ?_
                refine fin1 (v := .bool _) rfl ?_
                exact absurd c6 (by simp [xor_B, hq3b, hq4b, List.getD, show j < p.bs.length by omega])
              · try simp only [decide_eq_true_eq, decide_eq_false_iff_not, Bool.not_eq_true', Bool.not_eq_false', beq_iff_eq, beq_eq_false_iff_ne, bne_iff_ne, bne_eq_false_iff_eq, ne_eq, Int.not_lt, Int.not_le] at c6
                refine w_skip ?_
                refine w_seq ?_
                refine w_drawT [11] [1, 4, 7] [(0, 0), (1, 1), (2, 0), (3, 0), (4, 1), (5, 0), (6, 0), (7, 1), (8, 0), (9, 0), (10, 0), (11, 2)] mixed (by kernel_rfl) (fun _ _ _ h => fin_panic h) H (fun H => ?_)
                refine r_w rfl rfl (fun w => q_fieldAddr rfl fo31_2 rfl) ?_
                refine r_v rfl rfl (fun w hS => q_load1 rfl c1_29 rfl (by first | exact hS.cell 0 rfl rfl | exact hS.cell 1 rfl rfl | exact hS.cell 2 rfl rfl | exact hS.cell 3 rfl rfl | exact hS.cell 4 rfl rfl | exact hS.cell 5 rfl rfl | exact hS.cell 6 rfl rfl | exact hS.cell 7 rfl rfl | exact hS.cell 8 rfl rfl | exact hS.cell 9 rfl rfl | exact hS.cell 10 rfl rfl | exact hS.cell 11 rfl rfl | exact hS.cell 12 rfl rfl | exact hS.cell 13 rfl rfl | exact hS.cell 14 rfl rfl | exact hS.cell 15 rfl rfl | exact hS.cell 16 rfl rfl)) ?_
                refine r_pint rfl rfl rfl ?_
                refine r_w rfl rfl (fun w => q_fieldAddr rfl fo31_2 rfl) ?_
                refine r_v rfl rfl (fun w hS => q_load1 rfl c1_29 rfl (by first | exact hS.cell 0 rfl rfl | exact hS.cell 1 rfl rfl | exact hS.cell 2 rfl rfl | exact hS.cell 3 rfl rfl | exact hS.cell 4 rfl rfl | exact hS.cell 5 rfl rfl | exact hS.cell 6 rfl rfl | exact hS.cell 7 rfl rfl | exact hS.cell 8 rfl rfl | exact hS.cell 9 rfl rfl | exact hS.cell 10 rfl rfl | exact hS.cell 11 rfl rfl | exact hS.cell 12 rfl rfl | exact hS.cell 13 rfl rfl | exact hS.cell 14 rfl rfl | exact hS.cell 15 rfl rfl | exact hS.cell 16 rfl rfl)) ?_
                refine r_pint rfl rfl rfl ?_
                refine r_w rfl rfl (fun w => q_indexSliceA rfl el_29 rfl hqa3 rfl (by omega)) ?_
                refine r_v rfl rfl (fun w hS => q_load1 rfl c1_5 rfl (byte_cell hqa3 (hS.rowInv (i := 9) rfl).2.2.2.2 (by omega))) ?_
                refine r_pint rfl rfl rfl ?_
                refine r_pint rfl rfl rfl ?_
                refine r_w rfl rfl (fun w => q_indexSliceA rfl el_29 rfl hqa3 rfl (by omega)) ?_
                refine r_do rfl ?_
                obtain ⟨rfl, hxl, hm3, hcap3, spare, hsp, H⟩ := rowOpenA hqa3 (H.front 9 rfl)
                refine b_store0 (vs := [B (q3.bs.getD j 0 ^^^ m)]) rfl sz_5 rfl (congrArg (Value.int .u8) (xor_B (q3.bs.getD j 0) m)) rfl rfl rfl H 0 rfl (by simp only [List.length_append, List.length_cons, List.length_nil, hxl]; omega) (fun w H => ?_)
                rw [putL_bytes (by omega)] at H
                have H := St.rowShut (m := q3.n) (cap := q3.cap) (sz := 1) H (by simpa using hsp) (by simp only [List.length_map, List.length_set]; omega) hm3 hcap3
                rw [← hqa3] at H
                refine l_nil ⟨(fun h => nomatch h), ?_⟩
                refine r_nil ?_
                refine w_seq ?_
                refine w_region ?_
                refine l_pptr rfl rfl ?_
                refine l_pslice rfl rfl ?_
                refine l_v rfl (q_lenSlice rfl el_22 rfl) ?_
                refine l_pint rfl rfl ?_
                refine l_pint rfl rfl ?_
                refine b_call rfl cb_22 rfl (Turn_ok (sinkX [_, _, _] H) (st0.pool.length : Int) j m) (fun v w hv => ?_)
                obtain ⟨rfl, H⟩ := hv
                obtain ⟨hT3, hE3⟩ := turn_yes (m := m) hq3 (show j < q.n by omega)
                rw [hE3]
                rw [e3, turn_back hq2 (show j < q.n by omega) (by rw [hqb, hqn]; exact hpbl)] at H
                refine l_pint rfl rfl ?_
                refine l_nil ?_
                refine w_seq ?_
                refine w_region ?_
                refine l_pptr rfl rfl ?_
                refine l_pslice rfl rfl ?_
                refine l_v rfl (q_lenSlice rfl el_22 rfl) ?_
                refine b_call rfl cb_27 rfl (At_ok H hfit2 (st0.pool.length : Int)) (fun v w hv => ?_)
                obtain ⟨q6, e, rfl, hat6, H⟩ := hv
                obtain ⟨rfl, p6, hp6, hq6'⟩ := hat6.hit (i := st0.pool.length) (by omega)
                obtain rfl : q = p6 := by rw [hq2] at hp6; exact Option.some.inj hp6
                have hq6l := (H.rowInv (i := 0) rfl).1
                have hsame6 : sameB q6 { q3 with bs := q3.bs.set j (q3.bs.getD j 0 ^^^ m) } = true := by
                  have e1 : q3.bs.set j (q3.bs.getD j 0 ^^^ m) = q6.bs := by rw [hq3b, set_xor_back m (by omega), hq6', hqb]
                  simp only [sameB, e1, decide_eq_true_eq]
                  rw [hq6', hq3']; exact ⟨rfl, rfl, trivial⟩
                refine l_ptup rfl rfl ?_
                refine l_pagg rfl rfl ?_
                refine l_pint rfl rfl ?_
                refine b_alloc rfl ze_31 rfl H (fun b19 w H => ?_)
                first | refine b_store (cs' := [_, _, _]) rfl sz_31 rfl rfl rfl rfl rfl H 0 rfl rfl rfl (fun w H => ?_) | refine b_store (cs' := [_, _, _]) rfl sz_31 rfl rfl rfl rfl rfl H 1 rfl rfl rfl (fun w H => ?_) | refine b_store (cs' := [_, _, _]) rfl sz_31 rfl rfl rfl rfl rfl H 2 rfl rfl rfl (fun w H => ?_) | refine b_store (cs' := [_, _, _]) rfl sz_31 rfl rfl rfl rfl rfl H 3 rfl rfl rfl (fun w H => ?_) | refine b_store (cs' := [_, _, _]) rfl sz_31 rfl rfl rfl rfl rfl H 4 rfl rfl rfl (fun w H => ?_) | refine b_store (cs' := [_, _, _]) rfl sz_31 rfl rfl rfl rfl rfl H 5 rfl rfl rfl (fun w H => ?_) | refine b_store (cs' := [_, _, _]) rfl sz_31 rfl rfl rfl rfl rfl H 6 rfl rfl rfl (fun w H => ?_) | refine b_store (cs' := [_, _, _]) rfl sz_31 rfl rfl rfl rfl rfl H 7 rfl rfl rfl (fun w H => ?_) | refine b_store (cs' := [_, _, _]) rfl sz_31 rfl rfl rfl rfl rfl H 8 rfl rfl rfl (fun w H => ?_) | refine b_store (cs' := [_, _, _]) rfl sz_31 rfl rfl rfl rfl rfl H 9 rfl rfl rfl (fun w H => ?_) | refine b_store (cs' := [_, _, _]) rfl sz_31 rfl rfl rfl rfl rfl H 10 rfl rfl rfl (fun w H => ?_) | refine b_store (cs' := [_, _, _]) rfl sz_31 rfl rfl rfl rfl rfl H 11 rfl rfl rfl (fun w H => ?_) | refine b_store (cs' := [_, _, _]) rfl sz_31 rfl rfl rfl rfl rfl H 12 rfl rfl rfl (fun w H => ?_) | refine b_store (cs' := [_, _, _]) rfl sz_31 rfl rfl rfl rfl rfl H 13 rfl rfl rfl (fun w H => ?_) | refine b_store (cs' := [_, _, _]) rfl sz_31 rfl rfl rfl rfl rfl H 14 rfl rfl rfl (fun w H => ?_) | refine b_store (cs' := [_, _, _]) rfl sz_31 rfl rfl rfl rfl rfl H 15 rfl rfl rfl (fun w H => ?_) | refine b_store (cs' := [_, _, _]) rfl sz_31 rfl rfl rfl rfl rfl H 16 rfl rfl rfl (fun w H => ?_)
                refine l_pint rfl rfl ?_
                refine l_nil ?_
                refine w_seq ?_
                refine w_region ?_
                refine l_pint rfl rfl ?_
                refine l_pbool rfl rfl ?_
                refine l_pbool rfl rfl ?_
                refine l_split 230 rfl (fun h230 => absurd h230 (by decide)) (fun h230 => ?_)
                try simp only [decide_eq_true_eq, decide_eq_false_iff_not, Bool.not_eq_true', Bool.not_eq_false', beq_iff_eq, beq_eq_false_iff_ne, bne_iff_ne, bne_eq_false_iff_eq, ne_eq, Int.not_lt, Int.not_le] at h230
                refine l_pint rfl rfl ?_
                refine l_pbool rfl rfl ?_
                refine l_pickF (v := .bool _) rfl rfl rfl ?_
                refine l_pbool rfl rfl ?_
                refine l_split 234 rfl (fun h234 => absurd h234 (by decide)) (fun h234 => ?_)
                try simp only [decide_eq_true_eq, decide_eq_false_iff_not, Bool.not_eq_true', Bool.not_eq_false', beq_iff_eq, beq_eq_false_iff_ne, bne_iff_ne, bne_eq_false_iff_eq, ne_eq, Int.not_lt, Int.not_le] at h234
                refine l_v rfl (q_loadN (vs := [_, _, _]) rfl ag_31 rfl rfl (by first | exact H.cells 0 rfl | exact H.cells 1 rfl | exact H.cells 2 rfl | exact H.cells 3 rfl | exact H.cells 4 rfl | exact H.cells 5 rfl | exact H.cells 6 rfl | exact H.cells 7 rfl | exact H.cells 8 rfl | exact H.cells 9 rfl | exact H.cells 10 rfl | exact H.cells 11 rfl | exact H.cells 12 rfl | exact H.cells 13 rfl | exact H.cells 14 rfl | exact H.cells 15 rfl | exact H.cells 16 rfl)) ?_
                refine l_v rfl (q_loadN (vs := [_, _, _]) rfl ag_31 rfl rfl (by first | exact H.cells 0 rfl | exact H.cells 1 rfl | exact H.cells 2 rfl | exact H.cells 3 rfl | exact H.cells 4 rfl | exact H.cells 5 rfl | exact H.cells 6 rfl | exact H.cells 7 rfl | exact H.cells 8 rfl | exact H.cells 9 rfl | exact H.cells 10 rfl | exact H.cells 11 rfl | exact H.cells 12 rfl | exact H.cells 13 rfl | exact H.cells 14 rfl | exact H.cells 15 rfl | exact H.cells 16 rfl)) ?_
                refine b_call rfl cb_15 rfl (Same_ok (p := q6) (q := { q3 with bs := q3.bs.set j (q3.bs.getD j 0 ^^^ m) }) H (RdIn.row 1 rfl) (by simpa using hq6l) (RdIn.row 9 rfl) (by simp only [List.length_set]; omega)) (fun v w hv => ?_)
                obtain ⟨rfl, H⟩ := hv
                rw [hsame6]
                refine l_pbool rfl rfl ?_
                refine l_pickF (v := .bool _) rfl rfl rfl ?_
                refine l_nil ?_
                refine w_cond rfl (fun c7 => ?_) (fun c7 => ?_)
                · try simp only [decide_eq_true_eq, decide_eq_false_iff_not, Bool.not_eq_true', Bool.not_eq_false', beq_iff_eq, beq_eq_false_iff_ne, bne_iff_ne, bne_eq_false_iff_eq, ne_eq, Int.not_lt, Int.not_le] at c7
                  refine w_seq ?_
                  refine w_region ?_
                  refine l_pbool rfl rfl ?_
                  refine l_nil ?_
                  refine w_ret ?_
                  refine fin1 (v := .bool _) rfl ?_
                  exact absurd c7 (by decide)
                · try simp only [decide_eq_true_eq, decide_eq_false_iff_not, Bool.not_eq_true', Bool.not_eq_false', beq_iff_eq, beq_eq_false_iff_ne, bne_iff_ne, bne_eq_false_iff_eq, ne_eq, Int.not_lt, Int.not_le] at c7
                  refine w_skip ?_
                  refine ⟨by repeat' first | exact Agr.mix _ _ _ | exact Agr.refl _ _ | refine Agr.inner rfl ?_ | refine Agr.upd rfl ?_ | refine Agr.updL' rfl ?_, ?_⟩
                  exact ⟨(), trivial, (liftX [_, _, _, _, _, _, _] (sinkX [_, _] H)).dropN 7⟩
            · try simp only [decide_eq_true_eq, decide_eq_false_iff_not, Bool.not_eq_true', Bool.not_eq_false', beq_iff_eq, beq_eq_false_iff_ne, bne_iff_ne, bne_eq_false_iff_eq, ne_eq, Int.not_lt, Int.not_le] at c5
              refine w_skip ?_
              refine ⟨by repeat' first | exact Agr.mix _ _ _ | exact Agr.refl _ _ | refine Agr.inner rfl ?_ | refine Agr.upd rfl ?_ | refine Agr.updL' rfl ?_, ?_⟩
              exact ⟨(), trivial, (liftX [_, _] (sinkX [_] H)).dropN 2⟩
          · rintro _ ρ1 w H
            refine w_seq ?_
            refine w_seq ?_
            refine w_region ?_
            refine l_pptr rfl rfl ?_
            refine l_pslice rfl rfl ?_
            refine l_v rfl (q_lenSlice rfl el_22 rfl) ?_
            refine b_call rfl cb_21 rfl (Drop_ok H hfit2 (st0.pool.length : Int)) (fun v w hv => ?_)
            obtain ⟨q9, e, rfl, hat, H⟩ := hv
            obtain ⟨rfl, _⟩ := hat.hit (i := st0.pool.length) (by omega)
            have hfit6 := fit_take hfit2 (st0.pool.length : Int)
            obtain ⟨st6, e6⟩ : ∃ s, s = takeS st2 (st0.pool.length : Int) := ⟨_, rfl⟩
            rw [← e6] at H hfit6
            have hpool6 : st6.pool = st0.pool := by rw [e6, takeS_pool (by omega), hpool2]; simp [List.eraseIdx_append_of_length_le]
            refine l_pbool rfl rfl ?_
            refine l_pbool rfl rfl ?_
            refine l_split 245 rfl (fun h245 => absurd h245 (by decide)) (fun h245 => ?_)
            try simp only [decide_eq_true_eq, decide_eq_false_iff_not, Bool.not_eq_true', Bool.not_eq_false', beq_iff_eq, beq_eq_false_iff_ne, bne_iff_ne, bne_eq_false_iff_eq, ne_eq, Int.not_lt, Int.not_le] at h245
            refine l_pptr rfl rfl ?_
            refine b_call rfl cb_12 rfl (pool_ok H hfit6 (by rw [hpool6]; omega)) (fun v w hv => ?_)
            obtain ⟨a6, c6', l6, rfl, hcon6, H⟩ := hv
            have hg6 := good_of H 8 2 rfl rfl hcon6 hfit6.pool
            have hl6 : l6.length = st6.pool.length := by simpa using congrArg List.length hcon6
            refine l_pslice rfl rfl ?_
            refine b_call rfl cb_25 rfl (SamePackets_ok H (RdIn.row (xs := pks l6) 7 rfl) hl6 (good_segs 8 rfl hg6) (RdIn.row (xs := pks l0) 9 rfl) hl0 (good_segs 10 rfl hg0) (by rw [hcon6, hpool6, hcon0]) (by rw [hpool6]; omega)) (fun v w hv => ?_)
            obtain ⟨rfl, H⟩ := hv
            have H := (liftX [_, _] H).dropN 2
            refine l_pbool rfl rfl ?_
            refine l_pickF (v := .bool _) rfl rfl rfl ?_
            refine l_nil ?_
            refine w_cond rfl (fun c8 => ?_) (fun c8 => ?_)
            · try simp only [decide_eq_true_eq, decide_eq_false_iff_not, Bool.not_eq_true', Bool.not_eq_false', beq_iff_eq, beq_eq_false_iff_ne, bne_iff_ne, bne_eq_false_iff_eq, ne_eq, Int.not_lt, Int.not_le] at c8
              refine w_seq ?_
              refine w_region ?_
              refine l_pbool rfl rfl ?_
              refine l_nil ?_
              refine w_ret ?_
              refine fin1 (v := .bool _) rfl ?_
              exact absurd c8 (by decide)
            · try simp only [decide_eq_true_eq, decide_eq_false_iff_not, Bool.not_eq_true', Bool.not_eq_false', beq_iff_eq, beq_eq_false_iff_ne, bne_iff_ne, bne_eq_false_iff_eq, ne_eq, Int.not_lt, Int.not_le] at c8
              refine w_skip ?_
              refine w_seq ?_
              refine w_region ?_
              refine l_pptr rfl rfl ?_
              refine l_pint rfl rfl ?_
              refine b_call rfl cb_14 rfl (Take_ok H hfit6 k) (fun v w hv => ?_)
              obtain ⟨q7, e, rfl, hat7, H⟩ := hv
              obtain ⟨rfl, p7, hp7, hq7'⟩ := hat7.hit (i := k) (by rw [hpool6]; exact hkk)
              obtain ⟨k0, hk0'⟩ : ∃ k0, l0[k]? = some k0 := ⟨_, List.getElem?_eq_getElem (by omega)⟩
              have hk0m := List.mem_of_getElem? hk0'
              rw [hpool6] at hp7
              have hsame7 : sameB q7 k0 = true := con_same ((con_get hcon0 hk0' hp7).trans (AtR.con hq7').symm)
              have hq7l := (H.rowInv (i := 0) rfl).1
              have hfit7 := fit_take hfit6 (k : Int)
              have hpool7 : (takeS st6 k).pool = st0.pool.eraseIdx k := by rw [takeS_pool (by rw [hpool6]; exact hkk), hpool6]
              obtain ⟨st7, e7⟩ : ∃ s, s = takeS st6 (k : Int) := ⟨_, rfl⟩
              rw [← e7] at H hfit7 hpool7
              obtain ⟨br2, o92, hra2, _⟩ := pk_cells (H.rowInv (i := 8) rfl).2.2.2.2 hk0'
              have hcap0 := (H.rowInv (i := 8) rfl).2.1
              refine l_ptup rfl rfl ?_
              refine l_pagg rfl rfl ?_
              refine l_pint rfl rfl ?_
              refine b_alloc rfl ze_31 rfl H (fun b21 w H => ?_)
              first | refine b_store (cs' := [_, _, _]) rfl sz_31 rfl rfl rfl rfl rfl H 0 rfl rfl rfl (fun w H => ?_) | refine b_store (cs' := [_, _, _]) rfl sz_31 rfl rfl rfl rfl rfl H 1 rfl rfl rfl (fun w H => ?_) | refine b_store (cs' := [_, _, _]) rfl sz_31 rfl rfl rfl rfl rfl H 2 rfl rfl rfl (fun w H => ?_) | refine b_store (cs' := [_, _, _]) rfl sz_31 rfl rfl rfl rfl rfl H 3 rfl rfl rfl (fun w H => ?_) | refine b_store (cs' := [_, _, _]) rfl sz_31 rfl rfl rfl rfl rfl H 4 rfl rfl rfl (fun w H => ?_) | refine b_store (cs' := [_, _, _]) rfl sz_31 rfl rfl rfl rfl rfl H 5 rfl rfl rfl (fun w H => ?_) | refine b_store (cs' := [_, _, _]) rfl sz_31 rfl rfl rfl rfl rfl H 6 rfl rfl rfl (fun w H => ?_) | refine b_store (cs' := [_, _, _]) rfl sz_31 rfl rfl rfl rfl rfl H 7 rfl rfl rfl (fun w H => ?_) | refine b_store (cs' := [_, _, _]) rfl sz_31 rfl rfl rfl rfl rfl H 8 rfl rfl rfl (fun w H => ?_) | refine b_store (cs' := [_, _, _]) rfl sz_31 rfl rfl rfl rfl rfl H 9 rfl rfl rfl (fun w H => ?_) | refine b_store (cs' := [_, _, _]) rfl sz_31 rfl rfl rfl rfl rfl H 10 rfl rfl rfl (fun w H => ?_) | refine b_store (cs' := [_, _, _]) rfl sz_31 rfl rfl rfl rfl rfl H 11 rfl rfl rfl (fun w H => ?_) | refine b_store (cs' := [_, _, _]) rfl sz_31 rfl rfl rfl rfl rfl H 12 rfl rfl rfl (fun w H => ?_) | refine b_store (cs' := [_, _, _]) rfl sz_31 rfl rfl rfl rfl rfl H 13 rfl rfl rfl (fun w H => ?_) | refine b_store (cs' := [_, _, _]) rfl sz_31 rfl rfl rfl rfl rfl H 14 rfl rfl rfl (fun w H => ?_) | refine b_store (cs' := [_, _, _]) rfl sz_31 rfl rfl rfl rfl rfl H 15 rfl rfl rfl (fun w H => ?_) | refine b_store (cs' := [_, _, _]) rfl sz_31 rfl rfl rfl rfl rfl H 16 rfl rfl rfl (fun w H => ?_)
              refine l_pint rfl rfl ?_
              refine l_nil ?_
              refine w_seq ?_
              refine w_drawT [3, 8] [] [(0, 0), (1, 0), (2, 0), (4, 0), (5, 0), (6, 0), (7, 0), (3, 2), (8, 2), (9, 0)] mixed (by kernel_rfl) (fun _ _ _ h => fin_panic h) H (fun H => ?_)
              refine r_pslice rfl rfl rfl ?_
              refine r_pint rfl rfl rfl ?_
              refine r_w rfl rfl (fun w => q_slice rfl el_22 rfl Bnd.none (by first | exact Bnd.nat (by omega) | exact Bnd.mk ⟨by omega, by omega⟩) Bnd.none (by simp)) ?_
              refine r_pslice rfl rfl rfl ?_
              refine r_pint rfl rfl rfl ?_
              first | refine r_w rfl rfl (fun w => q_add rfl rfl rfl (by simp only [inK]; omega)) ?_ | refine r_pint rfl rfl rfl ?_
              refine r_w rfl rfl (fun w => q_slice rfl el_22 rfl Bnd.none Bnd.none (by first | exact Bnd.nat (by omega) | exact Bnd.mk ⟨by omega, by omega⟩) (by simp)) ?_
              refine r_do rfl ?_
              refine b_call rfl cb_17 rfl (CopyPackets_ok (n := k) (l := l0.take k) H (pks_take l0 k ▸ (RdIn.row (xs := pks l0) 9 rfl).subA (l := 0) (j := k * 3) (fun _ => .inr rfl)) (by simp; omega) (fun p hp => good_segs 10 rfl hg0 p (List.mem_of_mem_take hp)) (by omega)) (fun v w hv => ?_)
              obtain ⟨a2, c2', l2, rfl, hcon2, H⟩ := hv
              have good2 := good_of2 H 1 rfl hcon2 (fun p hp => hg0 p (List.mem_of_mem_take hp))
              have hys : ((pks l0).drop ((k + 1) * 3)).take ((st0.pool.length - (k + 1)) * 3) = pks (l0.drop (k + 1)) := by
                rw [pks_drop, List.take_of_length_le (by rw [List.length_drop, pks_length]; omega)]
              have hl2 : l2.length = k := by have := congrArg List.length hcon2; simp at this; omega
              have hrl : (l2 ++ l0.drop (k + 1)).length = k + (st0.pool.length - (k + 1)) := by simp [hl2, hl0]
              refine l_nil ⟨(fun h => nomatch h), ?_⟩
              refine r_do rfl ?_
              refine b_append rfl el_22 ze_31 rfl rfl rfl H 0 rfl (ys := pks (l0.drop (k + 1))) (hys ▸ Rd.subA (l := k + 1) (j := (st0.pool.length - (k + 1)) * 3) (H.rowInv (i := 11) rfl).2.2.2.2 (fun h => .inl (by omega))) (by simp [pks_length, hl0]) (pks_one _) ⟨by omega, by simp only [maxLen]; omega⟩ (fun a266 c266 w H => ?_)
              refine l_nil ⟨(fun h => nomatch h), ?_⟩
              refine r_pslice rfl rfl rfl ?_
              refine r_nil ?_
              refine w_seq ?_
              refine w_drawT [8, 12, 14] [3, 7] [(0, 0), (1, 0), (2, 0), (3, 1), (4, 0), (5, 0), (6, 0), (7, 1), (8, 2), (9, 0), (10, 0), (11, 0), (13, 0), (12, 2), (14, 2), (15, 0), (16, 0)] mixed (by kernel_rfl) (fun _ _ _ h => fin_panic h) H (fun H => ?_)
              refine r_pint rfl rfl rfl ?_
              refine r_pbool rfl rfl rfl ?_
              refine r_pbool rfl rfl rfl ?_
              refine r_split 269 rfl (fun h269 => ?_) (fun h269 => absurd h269 (by decide))
              try simp only [decide_eq_true_eq, decide_eq_false_iff_not, Bool.not_eq_true', Bool.not_eq_false', beq_iff_eq, beq_eq_false_iff_ne, bne_iff_ne, bne_eq_false_iff_eq, ne_eq, Int.not_lt, Int.not_le] at h269
              refine r_v rfl rfl (fun w hS => q_loadN (vs := [_, _, _]) rfl ag_31 rfl rfl (by first | exact hS.cells 0 rfl | exact hS.cells 1 rfl | exact hS.cells 2 rfl | exact hS.cells 3 rfl | exact hS.cells 4 rfl | exact hS.cells 5 rfl | exact hS.cells 6 rfl | exact hS.cells 7 rfl | exact hS.cells 8 rfl | exact hS.cells 9 rfl | exact hS.cells 10 rfl | exact hS.cells 11 rfl | exact hS.cells 12 rfl | exact hS.cells 13 rfl | exact hS.cells 14 rfl | exact hS.cells 15 rfl | exact hS.cells 16 rfl)) ?_
              refine r_pslice rfl rfl rfl ?_
              refine r_pint rfl rfl rfl ?_
              refine r_w rfl rfl (fun w => q_indexSliceA rfl el_22 rfl hra2 rfl (by omega)) ?_
              refine r_v rfl rfl (fun w hS => q_loadN (vs := [_, _, _]) rfl ag_31 rfl rfl (pk_cellsA hra2 (hS.rowInv (i := 11) rfl).2.2.2.2 hk0')) ?_
              refine r_do rfl ?_
              refine b_call rfl cb_15 rfl (Same_ok (p := q7) (q := k0) H (RdIn.row 3 rfl) (by simpa using hq7l) (good_segs 12 rfl hg0 k0 hk0m).1 (hg0 k0 hk0m).1) (fun v w hv => ?_)
              obtain ⟨rfl, H⟩ := hv
              rw [hsame7]
              refine l_nil ⟨(fun h => nomatch h), ?_⟩
              refine r_pickT (v := .bool _) rfl rfl rfl rfl ?_
              refine r_pbool rfl rfl rfl ?_
              refine r_split 277 rfl (fun h277 => ?_) (fun h277 => absurd h277 (by decide))
              try simp only [decide_eq_true_eq, decide_eq_false_iff_not, Bool.not_eq_true', Bool.not_eq_false', beq_iff_eq, beq_eq_false_iff_ne, bne_iff_ne, bne_eq_false_iff_eq, ne_eq, Int.not_lt, Int.not_le] at h277
              refine r_pptr rfl rfl rfl ?_
              refine r_pslice rfl rfl rfl ?_
              refine r_do rfl ?_
              refine b_call rfl cb_12 rfl (pool_ok (sinkX [_, _, _, _] H) hfit7 (by rw [hpool7, List.length_eraseIdx_of_lt (by omega)]; omega)) (fun v w hv => ?_)
              obtain ⟨a8, c8, l8, rfl, hcon8, H⟩ := hv
              have hg8 := good_of H 8 2 rfl rfl hcon8 hfit7.pool
              have hl8 : l8.length = st7.pool.length := by simpa using congrArg List.length hcon8
              have hcr : l8.map Pk.con = (l2 ++ l0.drop (k + 1)).map Pk.con := by
                rw [hcon8, hpool7, List.map_append, hcon2, ← map_eraseIdx_own, ← hcon0, List.eraseIdx_eq_take_drop_succ, List.map_take, List.map_drop]
              refine l_nil ⟨(fun h => nomatch h), ?_⟩
              refine r_do rfl ?_
              refine b_call rfl cb_25 rfl (SamePackets_ok H (RdIn.row (xs := pks l8) 7 rfl) hl8 (good_segs 8 rfl hg8) (l' := l2 ++ l0.drop (k + 1)) ((pks_append l2 (l0.drop (k + 1))).symm ▸ RdIn.row 9 rfl) hrl (fun p hp => (List.mem_append.1 hp).elim (fun hp => good_segs 10 rfl good2 p hp) (fun hp => good_segs 14 rfl hg0 p (List.mem_of_mem_drop hp))) hcr (by rw [hpool7, List.length_eraseIdx_of_lt (by omega)]; omega)) (fun v w hv => ?_)
              obtain ⟨rfl, H⟩ := hv
              refine l_nil ⟨(fun h => nomatch h), ?_⟩
              refine r_pickT (v := .bool _) rfl rfl rfl rfl ?_
              refine r_pbool rfl rfl rfl ?_
              refine r_nil ?_
              refine w_ret ?_
              refine fin1 (v := .bool _) rfl ?_
              exact ⟨rfl, _, H⟩

end Go.Proofs.Ytmgcmgfjaimlnaa
