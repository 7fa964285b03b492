/- The law NetworkOrders answers true, of every list of packets and every order that memory holds. -/
import Derived.Test.YtmgcmgfjaimlnaaNet8
namespace Go.Proofs.Ytmgcmgfjaimlnaa
open Go.EW
attribute [local irreducible] EW.W EW.L EW.fin
set_option linter.unusedVariables false
set_option linter.unusedSimpArgs false

theorem NetOk.take {st : NetS} {i : Nat} (h : NetOk st i) (k : Int) : NetOk (takeS st k) i := by
  unfold takeS
  split
  · refine ⟨h.cl, h.nd, fun p hp => h.pool p (List.mem_of_mem_eraseIdx hp), h.record, ?_, h.rl, h.few⟩
    have := h.pl
    have h2 := (List.eraseIdx_sublist st.pool k.toNat).length_le
    show (st.pool.eraseIdx k.toNat).length ≤ i
    omega
  · exact h
theorem takeS_pool {st : NetS} {k : Nat} (hk : k < st.pool.length) : (takeS st k).pool = st.pool.eraseIdx k := by
  unfold takeS; rw [if_pos ⟨by omega, by omega⟩]; simp
theorem con_mem {l l' : List Pk} (h : l'.map Pk.con = l.map Pk.con) {q : Pk} (hq : q ∈ l') : ∃ p ∈ l, q.con = p.con := by
  have h1 : q.con ∈ l.map Pk.con := h ▸ List.mem_map_of_mem hq
  obtain ⟨p, hp, he⟩ := List.mem_map.1 h1
  exact ⟨p, hp, he.symm⟩
theorem con_get {l l' : List Pk} (h : l'.map Pk.con = l.map Pk.con) {k : Nat} {q p : Pk} (hq : l'[k]? = some q) (hp : l[k]? = some p) : q.con = p.con := by
  have := congrArg (fun x => x[k]?) h
  simpa [hq, hp] using this
theorem con_bs {p q : Pk} (h : q.con = p.con) : q.bs = p.bs := congrArg (·.2.2) h
theorem con_same {p q : Pk} (h : q.con = p.con) : sameB p q = true := by
  simp only [Pk.con, Prod.mk.injEq] at h
  simp [sameB, h]
/-- copies of what a net holds are good -/
theorem good_of {W w : World} {S : List Seg} {l' pool : List Pk} (H : St W w S) (i j : Nat) (hi : S[i]? = some (Segs (l'.map Pk.own))) (hj : S[j]? = some (Segs (pool.map Pk.own))) (hc : l'.map Pk.con = pool.map Pk.con) (hp : ∀ p ∈ pool, p.n ≤ 32768) :
    ∀ q ∈ l', q.bs.length = q.n ∧ q.n ≤ 140737488355328 := by
  intro q hq
  obtain ⟨k, hk⟩ := List.mem_iff_getElem?.1 hq
  obtain ⟨p, hpm, he⟩ := con_mem hc hq
  obtain ⟨k2, hk2⟩ := List.mem_iff_getElem?.1 hpm
  have h1 := (pk_len H i hi hk).1
  have h2 := (pk_len H j hj hk2).1
  have h3 := hp p hpm
  rw [con_bs he] at h1
  exact ⟨(pk_len H i hi hk).1, by omega⟩
theorem good_segs {W : World} {S : List Seg} {l' : List Pk} (i : Nat) (hi : S[i]? = some (Segs (l'.map Pk.own))) (h : ∀ q ∈ l', q.bs.length = q.n ∧ q.n ≤ 140737488355328) : Good W S l' := by
  intro q hq
  obtain ⟨k, hk⟩ := List.mem_iff_getElem?.1 hq
  exact ⟨pk_own i hi hk, h q hq⟩
theorem pk_cellsA {w : World} {a : Option Addr} {b o : Nat} {l : List Pk} {k : Nat} {p : Pk} (ha : a = some ⟨b, o, none⟩) (h : Rd w a (pks l)) (hk : l[k]? = some p) : Cells w b (o + k * 3) p.cells := by
  obtain ⟨b', o', h1, h2⟩ := pk_cells h hk
  rw [ha] at h1; cases h1; exact h2
theorem good_of2 {W w : World} {S : List Seg} {l' l : List Pk} (H : St W w S) (i : Nat) (hi : S[i]? = some (Segs (l'.map Pk.own))) (hc : l'.map Pk.con = l.map Pk.con) (hp : ∀ p ∈ l, p.bs.length = p.n ∧ p.n ≤ 140737488355328) :
    ∀ q ∈ l', q.bs.length = q.n ∧ q.n ≤ 140737488355328 := by
  intro q hq
  obtain ⟨k, hk⟩ := List.mem_iff_getElem?.1 hq
  obtain ⟨p, hpm, he⟩ := con_mem hc hq
  have h1 := (pk_len H i hi hk).1
  have h2 := hp p hpm
  rw [con_bs he] at h1
  exact ⟨(pk_len H i hi hk).1, by omega⟩
theorem orders_round {W w : World} {F' : List Seg} {b b9 T9 : Nat} {c9 : List Value} {st' : NetS} {q : Pk} {a78 a : Option Addr} {k c c78 : Nat} {l' l2 : List Pk} (hk : k < l'.length) (h2 : l2.map Pk.con = (l'.take k).map Pk.con)
    (H : St W w (row 31 3 a78 (k + (l'.length - (k + 1))) c78 (pks l2 ++ pks (l'.drop (k + 1))) :: Segs (l2.map Pk.own) :: blk b9 c9 T9 :: netL b st' (q.own :: row 31 3 a l'.length c (pks l') :: F'))) :
    (l2 ++ l'.drop (k + 1)).length = k + (l'.length - (k + 1)) ∧ (l2 ++ l'.drop (k + 1)).map Pk.con = (l'.map Pk.con).eraseIdx k ∧
    St W w (netL b st' (row 31 3 a78 (l2 ++ l'.drop (k + 1)).length c78 (pks (l2 ++ l'.drop (k + 1))) :: Segs (l2.map Pk.own) :: blk b9 c9 T9 :: q.own :: row 31 3 a l'.length c (pks l') :: F')) := by
  have hl : l2.length = k := by have := congrArg List.length h2; simp at this; omega
  have hlen : (l2 ++ l'.drop (k + 1)).length = k + (l'.length - (k + 1)) := by simp [hl]
  refine ⟨hlen, ?_, ?_⟩
  · rw [List.map_append, h2, List.eraseIdx_eq_take_drop_succ, List.map_take, List.map_drop]
  · rw [hlen, pks_append]
    exact sinkX [_, _, _] H

theorem NetworkOrders_ok {W w : World} {F : List Seg} (H : St W w F) {a : Option Addr} {n cap : Nat} {l : List Pk} (hr : RdIn W F a (pks l)) (hln : l.length = n) (hg : Good W F l) (hn : n * 40 ≤ 140737488351232) {oa : Option Addr} {on oc : Nat} {os : List Int} (hro : RdIn W [] oa (os.map I64)) (hon : os.length = on) :
    Ok Try.prog 3 [.slice a n cap, .slice oa on oc].toArray w (fun v w' => v = .bool true ∧ ∃ S, St W w' S) := by
  refine enter (n := 91) (rs := #[.tmp 4]) Try.func3 rfl rfl rfl rfl ?_
  refine w_seq ?_
  refine w_region ?_
  refine l_pbool rfl rfl ?_
  refine l_nil ?_
  refine w_seq ?_
  refine w_region ?_
  refine l_pslice rfl rfl ?_
  refine b_call rfl cb_10 rfl (filled_ok H hr hln hg hn) (fun v w hv => ?_)
  obtain ⟨b, st0, rfl, hok0, hpl0, H⟩ := hv
  refine l_pptr rfl rfl ?_
  refine l_nil ?_
  refine w_seq ?_
  refine w_seq ?_
  refine w_region ?_
  refine l_pptr rfl rfl ?_
  refine l_v rfl (q_eqlNilF rfl pt_24 rfl rfl) ?_
  refine l_pbool rfl rfl ?_
  refine b_call rfl cb_11 rfl (works_ok H) (fun v w hv => ?_)
  obtain ⟨rfl, H⟩ := hv
  refine l_pbool rfl rfl ?_
  refine l_pickF (v := .bool _) rfl rfl rfl ?_
  refine l_nil ?_
  refine w_cond rfl (fun c1 => ?_) (fun c1 => ?_)
  · try simp only [decide_eq_true_eq, decide_eq_false_iff_not, Bool.not_eq_true', Bool.not_eq_false', beq_iff_eq, beq_eq_false_iff_ne, bne_iff_ne, bne_eq_false_iff_eq, ne_eq, Int.not_lt, Int.not_le] at c1
    refine w_seq ?_
    refine w_region ?_
    refine l_pbool rfl rfl ?_
    refine l_nil ?_
    refine w_ret ?_
    refine fin1 (v := .bool _) rfl ?_
    exact absurd c1 (by decide)
  · try simp only [decide_eq_true_eq, decide_eq_false_iff_not, Bool.not_eq_true', Bool.not_eq_false', beq_iff_eq, beq_eq_false_iff_ne, bne_iff_ne, bne_eq_false_iff_eq, ne_eq, Int.not_lt, Int.not_le] at c1
    refine w_skip ?_
    refine w_seq ?_
    refine w_region ?_
    refine l_pptr rfl rfl ?_
    refine b_call rfl cb_12 rfl (pool_ok H hok0.fit (by rw [hpl0]; omega)) (fun v w hv => ?_)
    obtain ⟨a0, c0, l0, rfl, hcon0, H⟩ := hv
    have hg0 := good_of H 8 2 rfl rfl hcon0 hok0.fit.pool
    have hl0 : l0.length = st0.pool.length := by simpa using congrArg List.length hcon0
    refine l_pslice rfl rfl ?_
    refine l_nil ?_
    refine w_seq ?_
    refine w_seq ?_
    refine w_region ?_
    refine l_pslice rfl rfl ?_
    refine l_v rfl (q_lenSlice rfl el_22 rfl) ?_
    refine l_pslice rfl rfl ?_
    refine l_v rfl (q_lenSlice rfl el_22 rfl) ?_
    refine l_pbool rfl rfl ?_
    refine l_nil ?_
    refine w_cond rfl (fun c2 => ?_) (fun c2 => ?_)
    · try simp only [decide_eq_true_eq, decide_eq_false_iff_not, Bool.not_eq_true', Bool.not_eq_false', beq_iff_eq, beq_eq_false_iff_ne, bne_iff_ne, bne_eq_false_iff_eq, ne_eq, Int.not_lt, Int.not_le] at c2
      refine w_seq ?_
      refine w_region ?_
      refine l_pbool rfl rfl ?_
      refine l_nil ?_
      refine w_ret ?_
      refine fin1 (v := .bool _) rfl ?_
      exact absurd c2 (by omega)
    · try simp only [decide_eq_true_eq, decide_eq_false_iff_not, Bool.not_eq_true', Bool.not_eq_false', beq_iff_eq, beq_eq_false_iff_ne, bne_iff_ne, bne_eq_false_iff_eq, ne_eq, Int.not_lt, Int.not_le] at c2
      refine w_skip ?_
      refine w_seq ?_
      refine w_seq ?_
      refine w_region ?_
      refine l_pint rfl rfl ?_
      refine l_nil ?_
      refine w_block ?_
      refine w_loopG (G := Nat × Option Addr × Nat × List Pk × NetS × List Seg) [4, 6, 7, 8, 9, 10, 28, 29, 30, 31, 32, 33, 34, 35, 36, 37, 38, 39, 40, 41, 42, 43, 44, 45, 46, 47, 48, 49, 50, 51, 52, 53, 54, 55, 56, 57, 58, 59, 60, 61, 62, 63, 64, 65, 66, 67, 68, 69, 70, 71, 72, 73, 74, 75, 76, 77, 78] (fun ⟨t, a1, c1', l', st, F'⟩ => [(7, .int .i64 ((t : Nat) : Int)), (6, .slice a1 l'.length c1')]) (fun m ⟨t, a1, c1', l', st, F'⟩ w => m = l'.length ∧ t + m = n ∧ NetOk st n ∧ l'.map Pk.con = st.pool.map Pk.con ∧ Good W F' l' ∧ St W w (netL b st (row 31 3 a1 l'.length c1' (pks l') :: F'))) (fun _ => rfl) ?_ ?_
      · refine ⟨l0.length, (0, a0, c0, l0, st0, Segs (l0.map Pk.own) :: F), ⟨rfl, by exact congrArg (fun x => Value.slice a0 x c0) hl0.symm, trivial⟩, rfl, by omega, hok0, hcon0, good_segs 0 rfl hg0, ?_⟩
        rw [hl0]; exact H
      · rintro m ⟨t, a1, c1', l', st, F'⟩ ρ1 w ⟨rfl, htm, hok, hcon, hgood, H⟩
        refine w_seq ?_
        refine w_seq ?_
        refine w_region ?_
        refine l_pslice rfl rfl ?_
        refine l_v rfl (q_lenSlice rfl el_22 rfl) ?_
        refine l_pbool rfl rfl ?_
        refine l_nil ?_
        refine w_cond rfl (fun c3 => ?_) (fun c3 => ?_)
        · try simp only [decide_eq_true_eq, decide_eq_false_iff_not, Bool.not_eq_true', Bool.not_eq_false', beq_iff_eq, beq_eq_false_iff_ne, bne_iff_ne, bne_eq_false_iff_eq, ne_eq, Int.not_lt, Int.not_le] at c3
          refine w_skip ?_
          refine w_seq ?_
          refine w_block ?_
          refine w_seq ?_
          refine w_region ?_
          refine l_pint rfl rfl ?_
          refine l_nil ?_
          refine w_cutG (G := Nat) [8, 33, 34, 35, 36, 37, 38, 39, 40, 41, 42, 43, 44] (fun k => [(8, .int .i64 ((k : Nat) : Int))]) (fun k w => k < l'.length ∧ St W w (netL b st (row 31 3 a1 l'.length c1' (pks l') :: F'))) (fun _ => rfl) ?_ ?_
          · refine w_seq ?_
            refine w_region ?_
            refine l_pint rfl rfl ?_
            refine l_pslice rfl rfl ?_
            refine l_v rfl (q_lenSlice rfl el_23 rfl) ?_
            refine l_pbool rfl rfl ?_
            refine l_nil ?_
            refine w_cond rfl (fun c4 => ?_) (fun c4 => ?_)
            · try simp only [decide_eq_true_eq, decide_eq_false_iff_not, Bool.not_eq_true', Bool.not_eq_false', beq_iff_eq, beq_eq_false_iff_ne, bne_iff_ne, bne_eq_false_iff_eq, ne_eq, Int.not_lt, Int.not_le] at c4
              obtain ⟨x, hx⟩ : ∃ x, os[t]? = some x := ⟨_, List.getElem?_eq_getElem (by omega)⟩
              obtain ⟨b0, o0, hoa, hxc⟩ := ints_cell ((RdIn.ro hro).use H 0 rfl) hx
              refine w_region ?_
              refine l_pslice rfl rfl ?_
              refine l_pint rfl rfl ?_
              refine l_v rfl (q_indexSliceA rfl el_23 rfl hoa rfl (by omega)) ?_
              refine l_v rfl (q_load1 rfl c1_3 rfl hxc) ?_
              refine l_pslice rfl rfl ?_
              refine l_v rfl (q_lenSlice rfl el_22 rfl) ?_
              first | refine l_v rfl (q_sub rfl rfl rfl (by simp only [inK]; omega)) ?_ | refine l_pint rfl rfl ?_
              refine b_call rfl cb_13 rfl (within_ok x _ (by omega) (by omega)) (fun v w hv => ?_)
              obtain ⟨k, rfl, rfl, hk0, hk1⟩ := hv
              obtain ⟨k, rfl⟩ := Int.eq_ofNat_of_zero_le hk0
              refine l_pint rfl rfl ?_
              refine l_nil ?_
              refine ⟨by repeat' first | exact Agr.mix _ _ _ | exact Agr.refl _ _ | refine Agr.inner rfl ?_ | refine Agr.upd rfl ?_ | refine Agr.updL' rfl ?_, ?_⟩
              exact ⟨k, ⟨rfl, trivial⟩, by omega, H⟩
            · try simp only [decide_eq_true_eq, decide_eq_false_iff_not, Bool.not_eq_true', Bool.not_eq_false', beq_iff_eq, beq_eq_false_iff_ne, bne_iff_ne, bne_eq_false_iff_eq, ne_eq, Int.not_lt, Int.not_le] at c4
              refine w_skip ?_
              refine ⟨by repeat' first | exact Agr.mix _ _ _ | exact Agr.refl _ _ | refine Agr.inner rfl ?_ | refine Agr.upd rfl ?_ | refine Agr.updL' rfl ?_, ?_⟩
              exact ⟨0, ⟨rfl, trivial⟩, by omega, H⟩
          · rintro k ρ1 w ⟨hk, H⟩
            have hcap := (H.rowInv (i := 7) rfl).2.1
            refine w_seq ?_
            refine w_region ?_
            refine l_pptr rfl rfl ?_
            refine l_pint rfl rfl ?_
            refine b_call rfl cb_14 rfl (Take_ok H hok.fit k) (fun v w hv => ?_)
            obtain ⟨q, e, rfl, hat, H⟩ := hv
            have hplen : st.pool.length = l'.length := by simpa using congrArg List.length hcon.symm
            obtain ⟨rfl, p, hp, hq⟩ := hat.hit (i := k) (by omega)
            obtain ⟨r, hr'⟩ : ∃ r, l'[k]? = some r := ⟨_, List.getElem?_eq_getElem (by omega)⟩
            have hrm := List.mem_of_getElem? hr'
            have hql := (H.rowInv (i := 0) rfl).1
            have hsame : sameB q r = true := con_same ((con_get hcon hr' hp).trans (AtR.con hq).symm)
            have hpool := takeS_pool (st := st) (k := k) (by omega)
            have hok' := hok.take k
            have hpl2 : (takeS st k).pool.length = st.pool.length - 1 := by rw [hpool, List.length_eraseIdx_of_lt (by omega)]
            have H := sinkX [_] H
            obtain ⟨br, o9, hra, _⟩ := pk_cells (H.rowInv (i := 8) rfl).2.2.2.2 hr'
            refine l_ptup rfl rfl ?_
            refine l_pagg rfl rfl ?_
            refine l_pint rfl rfl ?_
            refine b_alloc rfl ze_31 rfl H (fun b9 w H => ?_)
            first | refine b_store (cs' := [_, _, _]) rfl sz_31 rfl rfl rfl rfl rfl H 0 rfl rfl rfl (fun w H => ?_) | refine b_store (cs' := [_, _, _]) rfl sz_31 rfl rfl rfl rfl rfl H 1 rfl rfl rfl (fun w H => ?_) | refine b_store (cs' := [_, _, _]) rfl sz_31 rfl rfl rfl rfl rfl H 2 rfl rfl rfl (fun w H => ?_) | refine b_store (cs' := [_, _, _]) rfl sz_31 rfl rfl rfl rfl rfl H 3 rfl rfl rfl (fun w H => ?_) | refine b_store (cs' := [_, _, _]) rfl sz_31 rfl rfl rfl rfl rfl H 4 rfl rfl rfl (fun w H => ?_) | refine b_store (cs' := [_, _, _]) rfl sz_31 rfl rfl rfl rfl rfl H 5 rfl rfl rfl (fun w H => ?_) | refine b_store (cs' := [_, _, _]) rfl sz_31 rfl rfl rfl rfl rfl H 6 rfl rfl rfl (fun w H => ?_) | refine b_store (cs' := [_, _, _]) rfl sz_31 rfl rfl rfl rfl rfl H 7 rfl rfl rfl (fun w H => ?_) | refine b_store (cs' := [_, _, _]) rfl sz_31 rfl rfl rfl rfl rfl H 8 rfl rfl rfl (fun w H => ?_) | refine b_store (cs' := [_, _, _]) rfl sz_31 rfl rfl rfl rfl rfl H 9 rfl rfl rfl (fun w H => ?_) | refine b_store (cs' := [_, _, _]) rfl sz_31 rfl rfl rfl rfl rfl H 10 rfl rfl rfl (fun w H => ?_) | refine b_store (cs' := [_, _, _]) rfl sz_31 rfl rfl rfl rfl rfl H 11 rfl rfl rfl (fun w H => ?_) | refine b_store (cs' := [_, _, _]) rfl sz_31 rfl rfl rfl rfl rfl H 12 rfl rfl rfl (fun w H => ?_)
            refine l_pint rfl rfl ?_
            refine l_nil ?_
            refine w_seq ?_
            refine w_seq ?_
            refine w_drawT [8, 13] [3, 7] [(0, 0), (1, 0), (2, 0), (3, 1), (4, 0), (5, 0), (6, 0), (7, 1), (8, 2), (9, 0), (10, 0), (11, 0), (12, 0), (14, 0), (15, 0), (16, 0), (13, 2), (17, 0), (18, 0)] mixed (by kernel_rfl) (fun _ _ _ h => fin_panic h) H (fun H => ?_)
            refine r_pint rfl rfl rfl ?_
            refine r_pbool rfl rfl rfl ?_
            refine r_pbool rfl rfl rfl ?_
            refine r_split 53 rfl (fun h53 => absurd h53 (by decide)) (fun h53 => ?_)
            try simp only [decide_eq_true_eq, decide_eq_false_iff_not, Bool.not_eq_true', Bool.not_eq_false', beq_iff_eq, beq_eq_false_iff_ne, bne_iff_ne, bne_eq_false_iff_eq, ne_eq, Int.not_lt, Int.not_le] at h53
            refine r_v rfl rfl (fun w hS => q_loadN (vs := [_, _, _]) rfl ag_31 rfl rfl (by first | exact hS.cells 0 rfl | exact hS.cells 1 rfl | exact hS.cells 2 rfl | exact hS.cells 3 rfl | exact hS.cells 4 rfl | exact hS.cells 5 rfl | exact hS.cells 6 rfl | exact hS.cells 7 rfl | exact hS.cells 8 rfl | exact hS.cells 9 rfl | exact hS.cells 10 rfl | exact hS.cells 11 rfl | exact hS.cells 12 rfl)) ?_
            refine r_pslice rfl rfl rfl ?_
            refine r_pint rfl rfl rfl ?_
            refine r_w rfl rfl (fun w => q_indexSliceA rfl el_22 rfl hra rfl (by omega)) ?_
            refine r_v rfl rfl (fun w hS => q_loadN (vs := [_, _, _]) rfl ag_31 rfl rfl (pk_cellsA hra (hS.rowInv (i := 9) rfl).2.2.2.2 hr')) ?_
            refine r_do rfl ?_
            refine b_call rfl cb_15 rfl (Same_ok (p := q) (q := r) H (RdIn.row 8 rfl) (by simpa using hql) ((hgood r hrm).1.up 10 rfl) (hgood r hrm).2.1) (fun v w hv => ?_)
            obtain ⟨rfl, H⟩ := hv
            rw [hsame]
            refine l_nil ⟨(fun h => nomatch h), ?_⟩
            refine r_pbool rfl rfl rfl ?_
            refine r_pickF (v := .bool _) rfl rfl rfl rfl ?_
            refine r_pbool rfl rfl rfl ?_
            refine r_split 62 rfl (fun h62 => absurd h62 (by decide)) (fun h62 => ?_)
            try simp only [decide_eq_true_eq, decide_eq_false_iff_not, Bool.not_eq_true', Bool.not_eq_false', beq_iff_eq, beq_eq_false_iff_ne, bne_iff_ne, bne_eq_false_iff_eq, ne_eq, Int.not_lt, Int.not_le] at h62
            refine r_pptr rfl rfl rfl ?_
            refine r_pslice rfl rfl rfl ?_
            refine r_w rfl rfl (fun w => q_lenSlice rfl el_22 rfl) ?_
            first | refine r_w rfl rfl (fun w => q_sub rfl rfl rfl (by simp only [inK]; omega)) ?_ | refine r_pint rfl rfl rfl ?_
            refine r_do rfl ?_
            refine b_call rfl cb_16 rfl (Len_ok (i := 1) H rfl rfl) (fun v w hv => ?_)
            obtain ⟨rfl, rfl⟩ := hv
            refine l_nil ⟨(fun h => nomatch h), ?_⟩
            refine r_pbool rfl rfl rfl ?_
            refine r_pickF (v := .bool _) rfl rfl rfl rfl ?_
            refine r_nil ?_
            refine w_cond rfl (fun c5 => ?_) (fun c5 => ?_)
            · try simp only [decide_eq_true_eq, decide_eq_false_iff_not, Bool.not_eq_true', Bool.not_eq_false', beq_iff_eq, beq_eq_false_iff_ne, bne_iff_ne, bne_eq_false_iff_eq, ne_eq, Int.not_lt, Int.not_le] at c5
              refine w_seq ?_
              refine w_region ?_
              refine l_pbool rfl rfl ?_
              refine l_nil ?_
              refine w_ret ?_
              refine fin1 (v := .bool _) rfl ?_
              exact absurd c5 (by omega)
            · try simp only [decide_eq_true_eq, decide_eq_false_iff_not, Bool.not_eq_true', Bool.not_eq_false', beq_iff_eq, beq_eq_false_iff_ne, bne_iff_ne, bne_eq_false_iff_eq, ne_eq, Int.not_lt, Int.not_le] at c5
              refine w_skip ?_
              refine w_drawT [3, 8] [] [(0, 0), (1, 0), (2, 0), (4, 0), (5, 0), (6, 0), (7, 0), (3, 2), (8, 2), (9, 0)] mixed (by kernel_rfl) (fun _ _ _ h => fin_panic h) H (fun H => ?_)
              refine r_pslice rfl rfl rfl ?_
              refine r_pint rfl rfl rfl ?_
              refine r_w rfl rfl (fun w => q_slice rfl el_22 rfl Bnd.none (by first | exact Bnd.nat (by omega) | exact Bnd.mk ⟨by omega, by omega⟩) Bnd.none (by simp)) ?_
              refine r_pslice rfl rfl rfl ?_
              refine r_pint rfl rfl rfl ?_
              first | refine r_w rfl rfl (fun w => q_add rfl rfl rfl (by simp only [inK]; omega)) ?_ | refine r_pint rfl rfl rfl ?_
              refine r_w rfl rfl (fun w => q_slice rfl el_22 rfl Bnd.none Bnd.none (by first | exact Bnd.nat (by omega) | exact Bnd.mk ⟨by omega, by omega⟩) (by simp)) ?_
              refine r_do rfl ?_
              refine b_call rfl cb_17 rfl (CopyPackets_ok (n := k) (l := l'.take k) H (pks_take l' k ▸ (RdIn.row (xs := pks l') 9 rfl).subA (l := 0) (j := k * 3) (fun _ => .inr rfl)) (by simp; omega) (fun p hp => ⟨(hgood p (List.mem_of_mem_take hp)).1.up 10 rfl, (hgood p (List.mem_of_mem_take hp)).2⟩) (by omega)) (fun v w hv => ?_)
              obtain ⟨a2, c2, l2, rfl, hcon2, H⟩ := hv
              have good2 := good_of2 H 1 rfl hcon2 (fun p hp => (hgood p (List.mem_of_mem_take hp)).2)
              have hys : ((pks l').drop ((k + 1) * 3)).take ((l'.length - (k + 1)) * 3) = pks (l'.drop (k + 1)) := by
                rw [pks_drop, List.take_of_length_le (by rw [List.length_drop, pks_length]; omega)]
              refine l_nil ⟨(fun h => nomatch h), ?_⟩
              refine r_do rfl ?_
              refine b_append rfl el_22 ze_31 rfl rfl rfl H 0 rfl (ys := pks (l'.drop (k + 1))) (hys ▸ Rd.subA (l := k + 1) (j := (l'.length - (k + 1)) * 3) (H.rowInv (i := 11) rfl).2.2.2.2 (fun h => .inl (by omega))) (by simp [pks_length]) (pks_one _) ⟨by omega, by simp only [maxLen]; omega⟩ (fun a78 c78 w H => ?_)
              refine l_nil ⟨(fun h => nomatch h), ?_⟩
              refine r_pslice rfl rfl rfl ?_
              refine r_nil ?_
              refine w_region ?_
              refine l_pint rfl rfl ?_
              first | refine l_v rfl (q_add rfl rfl rfl (by simp only [inK]; omega)) ?_ | refine l_pint rfl rfl ?_
              refine l_pint rfl rfl ?_
              refine l_nil ?_
              refine ⟨by repeat' first | exact Agr.mix _ _ _ | exact Agr.refl _ _ | refine Agr.inner rfl ?_ | refine Agr.upd rfl ?_ | refine Agr.updL' rfl ?_, ?_⟩
              obtain ⟨e1, e2, H⟩ := orders_round (by omega) hcon2 H
              refine ⟨l'.length - 1, (t + 1, a78, c78, l2 ++ l'.drop (k + 1), takeS st k, _), by omega, ⟨by exact congrArg (Value.int IntKind.i64) (Int.natCast_succ t).symm, by exact congrArg (fun x => Value.slice a78 x c78) e1.symm, trivial⟩, by omega, by omega, hok', ?_, ?_, H⟩
              · rw [e2, hcon, hpool, map_eraseIdx_own]
              · intro p hp
                rcases List.mem_append.1 hp with hp | hp
                · have h2 : ∀ q ∈ l2, q.bs.length = q.n ∧ q.n ≤ 140737488355328 := good2
                  exact good_segs 0 rfl h2 p hp
                · exact ⟨(hgood p (List.mem_of_mem_drop hp)).1.up 4 rfl, (hgood p (List.mem_of_mem_drop hp)).2⟩
        · try simp only [decide_eq_true_eq, decide_eq_false_iff_not, Bool.not_eq_true', Bool.not_eq_false', beq_iff_eq, beq_eq_false_iff_ne, bne_iff_ne, bne_eq_false_iff_eq, ne_eq, Int.not_lt, Int.not_le] at c3
          refine w_exit ?_
          refine w_seq ?_
          refine w_region ?_
          refine l_pptr rfl rfl ?_
          refine b_call rfl cb_14 rfl (Take_ok H hok.fit 0) (fun v w hv => ?_)
          obtain ⟨q, e, rfl, hat, H⟩ := hv
          have hplen : st.pool.length = l'.length := by simpa using congrArg List.length hcon.symm
          obtain rfl : e = 141 := by
            rcases hat with h | ⟨p, h1, h2, _⟩
            · exact h.2.1
            · omega
          have htk : takeS st 0 = st := by unfold takeS; rw [if_neg (by omega)]
          rw [htk] at H
          refine l_ptup rfl rfl ?_
          refine l_pagg rfl rfl ?_
          refine l_pint rfl rfl ?_
          refine b_alloc rfl ze_31 rfl H (fun b11 w H => ?_)
          first | refine b_store (cs' := [_, _, _]) rfl sz_31 rfl rfl rfl rfl rfl H 0 rfl rfl rfl (fun w H => ?_) | refine b_store (cs' := [_, _, _]) rfl sz_31 rfl rfl rfl rfl rfl H 1 rfl rfl rfl (fun w H => ?_) | refine b_store (cs' := [_, _, _]) rfl sz_31 rfl rfl rfl rfl rfl H 2 rfl rfl rfl (fun w H => ?_) | refine b_store (cs' := [_, _, _]) rfl sz_31 rfl rfl rfl rfl rfl H 3 rfl rfl rfl (fun w H => ?_) | refine b_store (cs' := [_, _, _]) rfl sz_31 rfl rfl rfl rfl rfl H 4 rfl rfl rfl (fun w H => ?_) | refine b_store (cs' := [_, _, _]) rfl sz_31 rfl rfl rfl rfl rfl H 5 rfl rfl rfl (fun w H => ?_) | refine b_store (cs' := [_, _, _]) rfl sz_31 rfl rfl rfl rfl rfl H 6 rfl rfl rfl (fun w H => ?_) | refine b_store (cs' := [_, _, _]) rfl sz_31 rfl rfl rfl rfl rfl H 7 rfl rfl rfl (fun w H => ?_) | refine b_store (cs' := [_, _, _]) rfl sz_31 rfl rfl rfl rfl rfl H 8 rfl rfl rfl (fun w H => ?_) | refine b_store (cs' := [_, _, _]) rfl sz_31 rfl rfl rfl rfl rfl H 9 rfl rfl rfl (fun w H => ?_) | refine b_store (cs' := [_, _, _]) rfl sz_31 rfl rfl rfl rfl rfl H 10 rfl rfl rfl (fun w H => ?_) | refine b_store (cs' := [_, _, _]) rfl sz_31 rfl rfl rfl rfl rfl H 11 rfl rfl rfl (fun w H => ?_) | refine b_store (cs' := [_, _, _]) rfl sz_31 rfl rfl rfl rfl rfl H 12 rfl rfl rfl (fun w H => ?_)
          refine l_pint rfl rfl ?_
          refine l_nil ?_
          refine w_seq ?_
          refine w_region ?_
          refine l_pint rfl rfl ?_
          refine l_pbool rfl rfl ?_
          refine l_pbool rfl rfl ?_
          refine l_split 86 rfl (fun h86 => ?_) (fun h86 => absurd h86 (by decide))
          try simp only [decide_eq_true_eq, decide_eq_false_iff_not, Bool.not_eq_true', Bool.not_eq_false', beq_iff_eq, beq_eq_false_iff_ne, bne_iff_ne, bne_eq_false_iff_eq, ne_eq, Int.not_lt, Int.not_le] at h86
          refine l_pptr rfl rfl ?_
          refine b_call rfl cb_16 rfl (Len_ok (i := 2) H rfl rfl) (fun v w hv => ?_)
          obtain ⟨rfl, rfl⟩ := hv
          refine l_pbool rfl rfl ?_
          refine l_pickT (v := .bool _) rfl rfl rfl ?_
          refine l_pbool rfl rfl ?_
          refine l_nil ?_
          refine w_ret ?_
          refine fin1 (v := .bool _) rfl ?_
          have h0 : l'.length = 0 := by omega
          exact ⟨by rw [hplen, h0]; rfl, _, H⟩

end Go.Proofs.Ytmgcmgfjaimlnaa
