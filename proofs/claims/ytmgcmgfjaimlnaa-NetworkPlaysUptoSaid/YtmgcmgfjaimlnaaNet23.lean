/- Calls of the reference net: a packet read by place, a record read by place, a copy put into the pool; for nets whose packets fit and whose pools leave room. -/
import Derived.Test.YtmgcmgfjaimlnaaNet22
namespace Go.Proofs.Ytmgcmgfjaimlnaa
open Go.EW
attribute [local irreducible] EW.W EW.L EW.fin
set_option linter.unusedVariables false
set_option linter.unusedSimpArgs false
def AtQ (pool : List Pk) (k : Int) (q : Pk) (e : Int) : Prop :=
  (¬ (0 ≤ k ∧ k < pool.length) ∧ e = 141 ∧ q = ⟨0, 0, none, 0, 0, []⟩) ∨ (∃ p, 0 ≤ k ∧ k < pool.length ∧ pool[k.toNat]? = some p ∧ e = 0 ∧ q.con = p.con ∧ q.n = p.n)
theorem rpk_room {st : RS} (h : st.fit) {p : Pk} (hp : p ∈ st.pool) : p.n ≤ 140737488355328 := by have := h.pool p hp; omega
/-- a packet more in the pool -/
theorem rput {W w : World} {F : List Seg} {b x T : Nat} {y cs : List Value} {st : RS} {pa : Option Addr} {pcap : Nat} {q : Pk}
    (H : St W w (blk0 x y T :: q.own :: blk b cs 97 :: row 31 3 pa (st.pool.length + 1) pcap (pks st.pool ++ [.int .i64 q.fr, .int .i64 q.to, .slice q.a q.n q.cap]) :: Segs (st.pool.map Pk.own) :: row 31 3 st.ra st.rc.length st.rcap (pks st.rc) :: Segs (st.rc.map Pk.own) :: F))
    (hc : cs = [.int .i64 st.nodes, .int .i64 st.clients, .slice pa (st.pool.length + 1) pcap, .slice st.ra st.rc.length st.rcap]) : St W w (rfL b { st with pa, pcap, pool := st.pool ++ [q] } F) := by
  subst hc
  have H1 := St.snocseg.1 (St.pick [4, 1, 2, 3, 5, 6] (pre := [_, _, _, _, _, _, _]) rfl H rfl)
  have H2 := St.pick [1, 2, 0, 3, 4] (pre := [_, _, _, _, _]) rfl H1 rfl
  unfold rfL RS.cells
  simp only [List.length_append, List.length_singleton, own_snoc, pks_snoc]
  exact H2
theorem rputR {W w : World} {F : List Seg} {b x T : Nat} {y cs : List Value} {st : RS} {pa : Option Addr} {pcap : Nat} {q : Pk}
    (H : St W w (blk0 x y T :: q.own :: blk b cs 97 :: row 31 3 st.pa st.pool.length st.pcap (pks st.pool) :: Segs (st.pool.map Pk.own) :: row 31 3 pa (st.rc.length + 1) pcap (pks st.rc ++ [.int .i64 q.fr, .int .i64 q.to, .slice q.a q.n q.cap]) :: Segs (st.rc.map Pk.own) :: F))
    (hc : cs = [.int .i64 st.nodes, .int .i64 st.clients, .slice st.pa st.pool.length st.pcap, .slice pa (st.rc.length + 1) pcap]) : St W w (rfL b { st with ra := pa, rcap := pcap, rc := st.rc ++ [q] } F) := by
  subst hc
  have H1 := St.snocseg.1 (St.pick [6, 1, 2, 3, 4, 5] (pre := [_, _, _, _, _, _, _]) rfl H rfl)
  have H2 := St.pick [1, 2, 3, 4, 0] (pre := [_, _, _, _, _]) rfl H1 rfl
  unfold rfL RS.cells
  simp only [List.length_append, List.length_singleton, own_snoc, pks_snoc]
  exact H2
theorem rAt_ok {W w : World} {F : List Seg} {b : Nat} {st : RS} (H : St W w (rfL b st F)) (hfit : st.fit) (k : Int) :
    Ok Try.prog 41 [.pointer (some ⟨b, 0, none⟩), .int .i64 k].toArray w (fun v w' => ∃ q e, v = .tuple #[pkv q, .int .i64 e] ∧ AtQ st.pool k q e ∧ St W w' (q.own :: rfL b st F)) := by
  refine enter (n := 22) (rs := #[.cell 4 31, .tmp 5]) Try.func41 rfl rfl rfl rfl ?_
  refine w_seq ?_
  refine w_region ?_
  refine b_alloc rfl ze_31 rfl H (fun b4 w H => ?_)
  have H : St W w (rfL b st (blk b4 [.int .i64 0, .int .i64 0, .slice none 0 0] 31 :: F)) := St.pick [1, 2, 3, 4, 5, 0] (pre := [_, _, _, _, _, _]) rfl H rfl
  refine l_pint rfl rfl ?_
  refine l_nil ?_
  refine w_seq ?_
  refine w_seq ?_
  refine w_region ?_
  refine l_pptr rfl rfl ?_
  refine l_v rfl (q_eqlNilF rfl pt_61 rfl rfl) ?_
  refine l_nil ?_
  refine w_cond_f rfl ?_
  refine w_skip ?_
  refine w_seq ?_
  refine w_seq ?_
  refine w_region ?_
  refine l_pptr rfl rfl ?_
  refine l_pint rfl rfl ?_
  refine b_call rfl cb_80 rfl (rHas_ok H k) (fun v w hv => ?_)
  obtain ⟨rfl, H⟩ := hv
  refine l_pbool rfl rfl ?_
  refine l_nil ?_
  refine w_cond rfl (fun c1 => ?_) (fun c1 => ?_)
  · try simp only [sH] at c1
    refine w_seq ?_
    refine w_region ?_
    refine l_v rfl (q_build (cs := [.int _ _, .int _ _, .slice _ _ _]) rfl sp_31 rfl) ?_
    first | refine b_store (cs' := [_, _, _]) rfl sz_31 rfl rfl rfl rfl rfl H 0 rfl rfl rfl (fun w H => ?_) | refine b_store (cs' := [_, _, _]) rfl sz_31 rfl rfl rfl rfl rfl H 1 rfl rfl rfl (fun w H => ?_) | refine b_store (cs' := [_, _, _]) rfl sz_31 rfl rfl rfl rfl rfl H 2 rfl rfl rfl (fun w H => ?_) | refine b_store (cs' := [_, _, _]) rfl sz_31 rfl rfl rfl rfl rfl H 3 rfl rfl rfl (fun w H => ?_) | refine b_store (cs' := [_, _, _]) rfl sz_31 rfl rfl rfl rfl rfl H 4 rfl rfl rfl (fun w H => ?_) | refine b_store (cs' := [_, _, _]) rfl sz_31 rfl rfl rfl rfl rfl H 5 rfl rfl rfl (fun w H => ?_) | refine b_store (cs' := [_, _, _]) rfl sz_31 rfl rfl rfl rfl rfl H 6 rfl rfl rfl (fun w H => ?_)
    refine l_pint rfl rfl ?_
    refine l_nil ?_
    refine w_ret ?_
    refine finc2 rfl ag_31 rfl (by first | exact H.cells 0 rfl | exact H.cells 1 rfl | exact H.cells 2 rfl | exact H.cells 3 rfl | exact H.cells 4 rfl | exact H.cells 5 rfl | exact H.cells 6 rfl) rfl ?_
    refine ⟨⟨0, 0, none, 0, 0, []⟩, 141, rfl, .inl ⟨by simpa using c1, rfl, rfl⟩, ?_⟩
    exact (St.pick [0, 1, 2, 3, 4] (pre := [_, _, _, _, _, _]) rfl H rfl).newRow
  try simp only [sH] at c1
  have c1' : 0 ≤ k ∧ k < (st.pool.length : Int) := by simpa using c1
  obtain ⟨p, hp⟩ : ∃ p, st.pool[k.toNat]? = some p := ⟨_, List.getElem?_eq_getElem (by omega)⟩
  obtain ⟨b0, o0, hpa, hcs⟩ := pk_cells ((RdIn.row (W := W) 1 rfl).use H 0 rfl) hp
  have hlp := pk_len H 2 rfl hp
  refine w_skip ?_
  refine w_seq ?_
  refine w_region ?_
  refine l_pptr rfl rfl ?_
  refine l_pptr rfl rfl ?_
  refine l_v rfl (q_fieldAddr rfl fo97_2 rfl) ?_
  refine l_v rfl (q_load1 rfl c1_22 rfl (by first | exact H.cell 0 rfl rfl | exact H.cell 1 rfl rfl | exact H.cell 2 rfl rfl | exact H.cell 3 rfl rfl | exact H.cell 4 rfl rfl | exact H.cell 5 rfl rfl | exact H.cell 6 rfl rfl)) ?_
  refine l_pint rfl rfl ?_
  refine l_v rfl (q_indexSliceA rfl el_22 rfl hpa rfl c1') ?_
  refine l_v rfl (q_loadN (vs := p.cells) rfl ag_31 rfl rfl hcs) ?_
  refine b_call rfl cb_48 rfl (Twin_ok H p.fr p.to (pk_own 2 rfl hp) hlp.1 (rpk_room hfit (List.mem_of_getElem? hp))) (fun v w hv => ?_)
  obtain ⟨qa, qc, rfl, H⟩ := hv
  first | refine b_store (cs' := [_, _, _]) rfl sz_31 rfl rfl rfl rfl rfl H 0 rfl rfl rfl (fun w H => ?_) | refine b_store (cs' := [_, _, _]) rfl sz_31 rfl rfl rfl rfl rfl H 1 rfl rfl rfl (fun w H => ?_) | refine b_store (cs' := [_, _, _]) rfl sz_31 rfl rfl rfl rfl rfl H 2 rfl rfl rfl (fun w H => ?_) | refine b_store (cs' := [_, _, _]) rfl sz_31 rfl rfl rfl rfl rfl H 3 rfl rfl rfl (fun w H => ?_) | refine b_store (cs' := [_, _, _]) rfl sz_31 rfl rfl rfl rfl rfl H 4 rfl rfl rfl (fun w H => ?_) | refine b_store (cs' := [_, _, _]) rfl sz_31 rfl rfl rfl rfl rfl H 5 rfl rfl rfl (fun w H => ?_) | refine b_store (cs' := [_, _, _]) rfl sz_31 rfl rfl rfl rfl rfl H 6 rfl rfl rfl (fun w H => ?_)
  refine l_pint rfl rfl ?_
  refine l_nil ?_
  refine w_ret ?_
  refine finc2 rfl ag_31 rfl (by first | exact H.cells 0 rfl | exact H.cells 1 rfl | exact H.cells 2 rfl | exact H.cells 3 rfl | exact H.cells 4 rfl | exact H.cells 5 rfl | exact H.cells 6 rfl) rfl ?_
  exact ⟨⟨p.fr, p.to, qa, p.n, qc, p.bs⟩, 0, rfl, .inr ⟨p, c1'.1, c1'.2, hp, rfl, rfl, rfl⟩, St.pick [0, 1, 2, 3, 4, 5] (pre := [_, _, _, _, _, _, _]) rfl H rfl⟩
theorem rRecord_ok {W w : World} {F : List Seg} {b : Nat} {st : RS} (H : St W w (rfL b st F)) (hfit : st.fit) (k : Int) :
    Ok Try.prog 42 [.pointer (some ⟨b, 0, none⟩), .int .i64 k].toArray w (fun v w' => ∃ q e, v = .tuple #[pkv q, .int .i64 e] ∧ AtQ st.rc k q e ∧ St W w' (q.own :: rfL b st F)) := by
  refine enter (n := 29) (rs := #[.cell 4 31, .tmp 5]) Try.func42 rfl rfl rfl rfl ?_
  refine w_seq ?_
  refine w_region ?_
  refine b_alloc rfl ze_31 rfl H (fun b4 w H => ?_)
  have H : St W w (rfL b st (blk b4 [.int .i64 0, .int .i64 0, .slice none 0 0] 31 :: F)) := St.pick [1, 2, 3, 4, 5, 0] (pre := [_, _, _, _, _, _]) rfl H rfl
  refine l_pint rfl rfl ?_
  refine l_nil ?_
  refine w_seq ?_
  refine w_seq ?_
  refine w_region ?_
  refine l_pptr rfl rfl ?_
  refine l_v rfl (q_eqlNilF rfl pt_61 rfl rfl) ?_
  refine l_nil ?_
  refine w_cond_f rfl ?_
  refine w_skip ?_
  refine w_seq ?_
  refine w_seq ?_
  refine w_region ?_
  refine l_pint rfl rfl ?_
  refine l_pbool rfl rfl ?_
  refine l_pbool rfl rfl ?_
  refine l_split 11 rfl (fun h11 => ?_) (fun h11 => ?_)
  · try simp only [sH] at h11
    refine l_no rfl ?_
    refine l_no rfl ?_
    refine l_no rfl ?_
    refine l_no rfl ?_
    refine l_no rfl ?_
    refine l_no rfl ?_
    refine l_no rfl ?_
    refine l_pickT (v := .bool _) rfl rfl rfl ?_
    refine l_nil ?_
    refine w_cond_t rfl ?_
    refine w_seq ?_
    refine w_region ?_
    refine l_v rfl (q_build (cs := [.int _ _, .int _ _, .slice _ _ _]) rfl sp_31 rfl) ?_
    first | refine b_store (cs' := [_, _, _]) rfl sz_31 rfl rfl rfl rfl rfl H 0 rfl rfl rfl (fun w H => ?_) | refine b_store (cs' := [_, _, _]) rfl sz_31 rfl rfl rfl rfl rfl H 1 rfl rfl rfl (fun w H => ?_) | refine b_store (cs' := [_, _, _]) rfl sz_31 rfl rfl rfl rfl rfl H 2 rfl rfl rfl (fun w H => ?_) | refine b_store (cs' := [_, _, _]) rfl sz_31 rfl rfl rfl rfl rfl H 3 rfl rfl rfl (fun w H => ?_) | refine b_store (cs' := [_, _, _]) rfl sz_31 rfl rfl rfl rfl rfl H 4 rfl rfl rfl (fun w H => ?_) | refine b_store (cs' := [_, _, _]) rfl sz_31 rfl rfl rfl rfl rfl H 5 rfl rfl rfl (fun w H => ?_) | refine b_store (cs' := [_, _, _]) rfl sz_31 rfl rfl rfl rfl rfl H 6 rfl rfl rfl (fun w H => ?_)
    refine l_pint rfl rfl ?_
    refine l_nil ?_
    refine w_ret ?_
    refine finc2 rfl ag_31 rfl (by first | exact H.cells 0 rfl | exact H.cells 1 rfl | exact H.cells 2 rfl | exact H.cells 3 rfl | exact H.cells 4 rfl | exact H.cells 5 rfl | exact H.cells 6 rfl) rfl ?_
    refine ⟨⟨0, 0, none, 0, 0, []⟩, 141, rfl, .inl ⟨by omega, rfl, rfl⟩, ?_⟩
    exact (St.pick [0, 1, 2, 3, 4] (pre := [_, _, _, _, _, _]) rfl H rfl).newRow
  try simp only [sH] at h11
  refine l_pint rfl rfl ?_
  refine l_pptr rfl rfl ?_
  refine l_pptr rfl rfl ?_
  refine l_v rfl (q_fieldAddr rfl fo97_3 rfl) ?_
  refine l_v rfl (q_load1 rfl c1_22 rfl (by first | exact H.cell 0 rfl rfl | exact H.cell 1 rfl rfl | exact H.cell 2 rfl rfl | exact H.cell 3 rfl rfl | exact H.cell 4 rfl rfl | exact H.cell 5 rfl rfl | exact H.cell 6 rfl rfl)) ?_
  refine l_v rfl (q_lenSlice rfl el_22 rfl) ?_
  refine l_pbool rfl rfl ?_
  refine l_pickF (v := .bool _) rfl rfl rfl ?_
  refine l_nil ?_
  refine w_cond rfl (fun c1 => ?_) (fun c1 => ?_)
  · try simp only [sH] at c1
    refine w_seq ?_
    refine w_region ?_
    refine l_v rfl (q_build (cs := [.int _ _, .int _ _, .slice _ _ _]) rfl sp_31 rfl) ?_
    first | refine b_store (cs' := [_, _, _]) rfl sz_31 rfl rfl rfl rfl rfl H 0 rfl rfl rfl (fun w H => ?_) | refine b_store (cs' := [_, _, _]) rfl sz_31 rfl rfl rfl rfl rfl H 1 rfl rfl rfl (fun w H => ?_) | refine b_store (cs' := [_, _, _]) rfl sz_31 rfl rfl rfl rfl rfl H 2 rfl rfl rfl (fun w H => ?_) | refine b_store (cs' := [_, _, _]) rfl sz_31 rfl rfl rfl rfl rfl H 3 rfl rfl rfl (fun w H => ?_) | refine b_store (cs' := [_, _, _]) rfl sz_31 rfl rfl rfl rfl rfl H 4 rfl rfl rfl (fun w H => ?_) | refine b_store (cs' := [_, _, _]) rfl sz_31 rfl rfl rfl rfl rfl H 5 rfl rfl rfl (fun w H => ?_) | refine b_store (cs' := [_, _, _]) rfl sz_31 rfl rfl rfl rfl rfl H 6 rfl rfl rfl (fun w H => ?_)
    refine l_pint rfl rfl ?_
    refine l_nil ?_
    refine w_ret ?_
    refine finc2 rfl ag_31 rfl (by first | exact H.cells 0 rfl | exact H.cells 1 rfl | exact H.cells 2 rfl | exact H.cells 3 rfl | exact H.cells 4 rfl | exact H.cells 5 rfl | exact H.cells 6 rfl) rfl ?_
    refine ⟨⟨0, 0, none, 0, 0, []⟩, 141, rfl, .inl ⟨by omega, rfl, rfl⟩, ?_⟩
    exact (St.pick [0, 1, 2, 3, 4] (pre := [_, _, _, _, _, _]) rfl H rfl).newRow
  try simp only [sH] at c1
  have c1' : 0 ≤ k ∧ k < (st.rc.length : Int) := by omega
  obtain ⟨p, hp⟩ : ∃ p, st.rc[k.toNat]? = some p := ⟨_, List.getElem?_eq_getElem (by omega)⟩
  obtain ⟨b0, o0, hpa, hcs⟩ := pk_cells ((RdIn.row (W := W) 3 rfl).use H 0 rfl) hp
  have hlp := pk_len H 4 rfl hp
  refine w_skip ?_
  refine w_seq ?_
  refine w_region ?_
  refine l_pptr rfl rfl ?_
  refine l_pptr rfl rfl ?_
  refine l_v rfl (q_fieldAddr rfl fo97_3 rfl) ?_
  refine l_v rfl (q_load1 rfl c1_22 rfl (by first | exact H.cell 0 rfl rfl | exact H.cell 1 rfl rfl | exact H.cell 2 rfl rfl | exact H.cell 3 rfl rfl | exact H.cell 4 rfl rfl | exact H.cell 5 rfl rfl | exact H.cell 6 rfl rfl)) ?_
  refine l_pint rfl rfl ?_
  refine l_v rfl (q_indexSliceA rfl el_22 rfl hpa rfl c1') ?_
  refine l_v rfl (q_loadN (vs := p.cells) rfl ag_31 rfl rfl hcs) ?_
  refine b_call rfl cb_48 rfl (Twin_ok H p.fr p.to (pk_own 4 rfl hp) hlp.1 (by have := hfit.rc p (List.mem_of_getElem? hp); omega)) (fun v w hv => ?_)
  obtain ⟨qa, qc, rfl, H⟩ := hv
  first | refine b_store (cs' := [_, _, _]) rfl sz_31 rfl rfl rfl rfl rfl H 0 rfl rfl rfl (fun w H => ?_) | refine b_store (cs' := [_, _, _]) rfl sz_31 rfl rfl rfl rfl rfl H 1 rfl rfl rfl (fun w H => ?_) | refine b_store (cs' := [_, _, _]) rfl sz_31 rfl rfl rfl rfl rfl H 2 rfl rfl rfl (fun w H => ?_) | refine b_store (cs' := [_, _, _]) rfl sz_31 rfl rfl rfl rfl rfl H 3 rfl rfl rfl (fun w H => ?_) | refine b_store (cs' := [_, _, _]) rfl sz_31 rfl rfl rfl rfl rfl H 4 rfl rfl rfl (fun w H => ?_) | refine b_store (cs' := [_, _, _]) rfl sz_31 rfl rfl rfl rfl rfl H 5 rfl rfl rfl (fun w H => ?_) | refine b_store (cs' := [_, _, _]) rfl sz_31 rfl rfl rfl rfl rfl H 6 rfl rfl rfl (fun w H => ?_)
  refine l_pint rfl rfl ?_
  refine l_nil ?_
  refine w_ret ?_
  refine finc2 rfl ag_31 rfl (by first | exact H.cells 0 rfl | exact H.cells 1 rfl | exact H.cells 2 rfl | exact H.cells 3 rfl | exact H.cells 4 rfl | exact H.cells 5 rfl | exact H.cells 6 rfl) rfl ?_
  exact ⟨⟨p.fr, p.to, qa, p.n, qc, p.bs⟩, 0, rfl, .inr ⟨p, c1'.1, c1'.2, hp, rfl, rfl, rfl⟩, St.pick [0, 1, 2, 3, 4, 5] (pre := [_, _, _, _, _, _, _]) rfl H rfl⟩
theorem rCopy_ok {W w : World} {F : List Seg} {b : Nat} {st : RS} (H : St W w (rfL b st F)) (hfit : st.fit) (hroom : (st.pool.length + 1) * 40 ≤ 140737488355328) (k : Int) :
    Ok Try.prog 60 [.pointer (some ⟨b, 0, none⟩), .int .i64 k].toArray w (fun v w' => (¬ (0 ≤ k ∧ k < st.pool.length) ∧ v = .int .i64 141 ∧ St W w' (rfL b st F)) ∨ ((0 ≤ k ∧ k < st.pool.length) ∧ v = .int .i64 0 ∧ ∃ p q, st.pool[k.toNat]? = some p ∧ q.con = p.con ∧ q.n = p.n ∧ ∃ pa pcap, St W w' (rfL b { st with pa, pcap, pool := st.pool ++ [q] } F))) := by
  refine enter (n := 28) (rs := #[.tmp 4]) Try.func60 rfl rfl rfl rfl ?_
  refine w_seq ?_
  refine w_region ?_
  refine l_pint rfl rfl ?_
  refine l_nil ?_
  refine w_seq ?_
  refine w_seq ?_
  refine w_region ?_
  refine l_pptr rfl rfl ?_
  refine l_v rfl (q_eqlNilF rfl pt_61 rfl rfl) ?_
  refine l_nil ?_
  refine w_cond_f rfl ?_
  refine w_skip ?_
  refine w_seq ?_
  refine w_seq ?_
  refine w_region ?_
  refine l_pptr rfl rfl ?_
  refine l_pint rfl rfl ?_
  refine b_call rfl cb_80 rfl (rHas_ok H k) (fun v w hv => ?_)
  obtain ⟨rfl, H⟩ := hv
  refine l_pbool rfl rfl ?_
  refine l_nil ?_
  refine w_cond rfl (fun c1 => ?_) (fun c1 => ?_)
  · try simp only [sH] at c1
    refine w_seq ?_
    refine w_region ?_
    refine l_pint rfl rfl ?_
    refine l_nil ?_
    refine w_ret ?_
    refine fin1 (v := .int _ _) rfl ?_
    exact .inl ⟨by simpa using c1, rfl, H⟩
  try simp only [sH] at c1
  have c1' : 0 ≤ k ∧ k < (st.pool.length : Int) := by simpa using c1
  obtain ⟨p, hp⟩ : ∃ p, st.pool[k.toNat]? = some p := ⟨_, List.getElem?_eq_getElem (by omega)⟩
  obtain ⟨b0, o0, hpa, hcs⟩ := pk_cells ((RdIn.row (W := W) 1 rfl).use H 0 rfl) hp
  have hlp := pk_len H 2 rfl hp
  refine w_skip ?_
  refine w_seq ?_
  refine w_drawT [14, 17] [4, 8, 11] [(0, 0), (1, 0), (2, 0), (3, 0), (4, 1), (5, 0), (6, 0), (7, 0), (8, 1), (9, 0), (10, 0), (11, 1), (12, 2), (13, 2), (14, 2), (15, 0), (16, 0), (17, 2)] mixed (by kernel_rfl) (fun _ _ _ h => fin_panic h) H (fun H => ?_)
  refine r_pptr rfl rfl rfl ?_
  refine r_pptr rfl rfl rfl ?_
  refine r_pptr rfl rfl rfl ?_
  refine r_w rfl rfl (fun w => q_fieldAddr rfl fo97_2 rfl) ?_
  refine r_v rfl rfl (fun w hS => q_load1 rfl c1_22 rfl (by first | exact hS.cell 0 rfl rfl | exact hS.cell 1 rfl rfl | exact hS.cell 2 rfl rfl | exact hS.cell 3 rfl rfl | exact hS.cell 4 rfl rfl | exact hS.cell 5 rfl rfl)) ?_
  refine r_pptr rfl rfl rfl ?_
  refine r_pptr rfl rfl rfl ?_
  refine r_w rfl rfl (fun w => q_fieldAddr rfl fo97_2 rfl) ?_
  refine r_v rfl rfl (fun w hS => q_load1 rfl c1_22 rfl (by first | exact hS.cell 0 rfl rfl | exact hS.cell 1 rfl rfl | exact hS.cell 2 rfl rfl | exact hS.cell 3 rfl rfl | exact hS.cell 4 rfl rfl | exact hS.cell 5 rfl rfl)) ?_
  refine r_pint rfl rfl rfl ?_
  refine r_w rfl rfl (fun w => q_indexSliceA rfl el_22 rfl hpa rfl c1') ?_
  refine r_v rfl rfl (fun w hS => q_loadN (vs := p.cells) rfl ag_31 rfl rfl (pk_cellsA hpa ((RdIn.row (W := W) 1 rfl).use hS 0 rfl) hp)) ?_
  refine r_do rfl ?_
  refine b_call rfl cb_48 rfl (Twin_ok H p.fr p.to (pk_own 2 rfl hp) hlp.1 (rpk_room hfit (List.mem_of_getElem? hp))) (fun v w hv => ?_)
  obtain ⟨qa, qc, rfl, H⟩ := hv
  refine l_nil ⟨fun _ _ => (by first | exact H | exact H.drop1 | exact H.drop1.drop1 | exact H.drop1.drop1.drop1), ?_⟩
  refine r_do rfl ?_
  refine b_buildSlice (cs := [_, _, _]) rfl el_22 ze_31 rfl rfl rfl H (fun b24 w H => ?_)
  refine l_nil ⟨fun _ _ => (by first | exact H | exact H.drop1 | exact H.drop1.drop1 | exact H.drop1.drop1.drop1), ?_⟩
  refine r_do rfl ?_
  first | refine b_append rfl el_22 ze_31 rfl rfl rfl H 1 rfl (Rd.mk (H.cells0 0 rfl)) rfl (by simp [Value.oneCell']) ⟨by (try dsimp only); omega, by simp only [maxLen]; (try dsimp only); omega⟩ (fun a25 c25 w H => ?_) | refine b_append rfl el_22 ze_31 rfl rfl rfl H 2 rfl (Rd.mk (H.cells0 0 rfl)) rfl (by simp [Value.oneCell']) ⟨by (try dsimp only); omega, by simp only [maxLen]; (try dsimp only); omega⟩ (fun a25 c25 w H => ?_) | refine b_append rfl el_22 ze_31 rfl rfl rfl H 3 rfl (Rd.mk (H.cells0 0 rfl)) rfl (by simp [Value.oneCell']) ⟨by (try dsimp only); omega, by simp only [maxLen]; (try dsimp only); omega⟩ (fun a25 c25 w H => ?_) | refine b_append rfl el_22 ze_31 rfl rfl rfl H 4 rfl (Rd.mk (H.cells0 0 rfl)) rfl (by simp [Value.oneCell']) ⟨by (try dsimp only); omega, by simp only [maxLen]; (try dsimp only); omega⟩ (fun a25 c25 w H => ?_) | refine b_append rfl el_22 ze_31 rfl rfl rfl H 5 rfl (Rd.mk (H.cells0 0 rfl)) rfl (by simp [Value.oneCell']) ⟨by (try dsimp only); omega, by simp only [maxLen]; (try dsimp only); omega⟩ (fun a25 c25 w H => ?_) | refine b_append rfl el_22 ze_31 rfl rfl rfl H 6 rfl (Rd.mk (H.cells0 0 rfl)) rfl (by simp [Value.oneCell']) ⟨by (try dsimp only); omega, by simp only [maxLen]; (try dsimp only); omega⟩ (fun a25 c25 w H => ?_) | refine b_append rfl el_22 ze_31 rfl rfl rfl H 7 rfl (Rd.mk (H.cells0 0 rfl)) rfl (by simp [Value.oneCell']) ⟨by (try dsimp only); omega, by simp only [maxLen]; (try dsimp only); omega⟩ (fun a25 c25 w H => ?_) | refine b_append rfl el_22 ze_31 rfl rfl rfl H 8 rfl (Rd.mk (H.cells0 0 rfl)) rfl (by simp [Value.oneCell']) ⟨by (try dsimp only); omega, by simp only [maxLen]; (try dsimp only); omega⟩ (fun a25 c25 w H => ?_)
  refine l_nil ⟨(fun h => nomatch h), ?_⟩
  refine r_pptr rfl rfl rfl ?_
  refine r_w rfl rfl (fun w => q_fieldAddr rfl fo97_2 rfl) ?_
  refine r_do rfl ?_
  first | refine b_store rfl sz_22 rfl rfl rfl rfl rfl H 0 rfl rfl rfl (fun w H => ?_) | refine b_store rfl sz_22 rfl rfl rfl rfl rfl H 1 rfl rfl rfl (fun w H => ?_) | refine b_store rfl sz_22 rfl rfl rfl rfl rfl H 2 rfl rfl rfl (fun w H => ?_) | refine b_store rfl sz_22 rfl rfl rfl rfl rfl H 3 rfl rfl rfl (fun w H => ?_) | refine b_store rfl sz_22 rfl rfl rfl rfl rfl H 4 rfl rfl rfl (fun w H => ?_) | refine b_store rfl sz_22 rfl rfl rfl rfl rfl H 5 rfl rfl rfl (fun w H => ?_)
  refine l_nil ⟨(fun h => nomatch h), ?_⟩
  refine r_nil ?_
  refine w_seq ?_
  refine w_region ?_
  refine l_pint rfl rfl ?_
  refine l_nil ?_
  refine w_ret ?_
  refine fin1 (v := .int _ _) rfl ?_
  exact .inr ⟨c1', rfl, p, ⟨p.fr, p.to, qa, p.n, qc, p.bs⟩, hp, rfl, rfl, _, _, rput H rfl⟩
end Go.Proofs.Ytmgcmgfjaimlnaa
