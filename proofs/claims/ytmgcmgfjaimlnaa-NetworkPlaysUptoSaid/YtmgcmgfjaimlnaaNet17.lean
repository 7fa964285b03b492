/- The net's Each, and the walk over what it answers, do what the plain lists say. -/
import Derived.Test.YtmgcmgfjaimlnaaNet16
import Derived.Test.YtmgcmgfjaimlnaaNet13
import Derived.Test.YtmgcmgfjaimlnaaBaseAll
namespace Go.Proofs.Ytmgcmgfjaimlnaa
open Go.EW
attribute [local irreducible] EW.W EW.L EW.fin
set_option linter.unusedVariables false
set_option linter.unusedSimpArgs false
/-- what a walk over a pool holds -/
def eachL (b3 : Nat) (a : Option Addr) (c : Nat) (l : List Pk) (F : List Seg) : List Seg := blk b3 [.slice a l.length c] 22 :: row 31 3 a l.length c (pks l) :: Segs (l.map Pk.own) :: F
theorem pack9 {W w : World} {F : List Seg} {b3 x1 T1 : Nat} {y1 : List Value} {a' : Option Addr} {i cap' : Nat} {l' : List Pk} {q : Pk} {v : List Value} (hi : l'.length = i)
    (H : St W w (q.own :: blk x1 y1 T1 :: blk b3 v 22 :: row 31 3 a' (i + 1) cap' (pks l' ++ [.int .i64 q.fr, .int .i64 q.to, .slice q.a q.n q.cap]) :: Segs (l'.map Pk.own) :: F)) (hv : v = [.slice a' (i + 1) cap']) :
    St W w (eachL b3 a' cap' (l' ++ [q]) F) := by
  subst hv; subst hi
  have H1 := H.pick [4, 0, 2, 3] (pre := [_, _, _, _, _]) rfl rfl
  have H2 := (St.snocseg.1 H1).pick [1, 2, 0] (pre := [_, _, _]) rfl rfl
  unfold eachL
  rw [pks_snoc, own_snoc, List.length_append]
  exact H2
theorem Each_ok {W w : World} {F : List Seg} {b : Nat} {st : NetS} (H : St W w (netL b st F)) (hfit : st.fit) (hroom : st.pool.length * 40 ≤ 140737488351232) :
    Ok Try.prog 33 [.pointer (some ⟨b, 0, none⟩)].toArray w (fun v w' => ∃ b3 a' c' l', v = .func (.func 53) #[] #[.pointer (some ⟨b3, 0, none⟩)] ∧ l'.map Pk.con = st.pool.map Pk.con ∧ (∀ q ∈ l', q.n ≤ 32768) ∧ St W w' (eachL b3 a' c' l' (netL b st F))) := by
  refine enter (n := 25) (rs := #[.tmp 2]) Try.func33 rfl rfl rfl rfl ?_
  refine w_seq ?_
  refine w_region ?_
  refine l_p (v := .nilFunc) rfl rfl ?_
  refine l_nil ?_
  refine w_seq ?_
  refine w_seq ?_
  refine w_region ?_
  refine l_pptr rfl rfl ?_
  refine l_v rfl (q_eqlNilF rfl pt_24 rfl rfl) ?_
  refine l_nil ?_
  refine w_cond_f rfl ?_
  refine w_skip ?_
  refine w_seq ?_
  refine w_region ?_
  refine b_alloc rfl ze_22 rfl H (fun b3 w H => ?_)
  refine l_nil ?_
  refine w_seq ?_
  refine w_seq ?_
  refine w_region ?_
  refine l_pptr rfl rfl ?_
  refine l_pptr rfl rfl ?_
  refine l_v rfl (q_fieldAddr rfl fo84_2 rfl) ?_
  refine l_v rfl (q_load1 rfl c1_22 rfl (H.cell 1 rfl rfl)) ?_
  refine l_v rfl (q_lenSlice rfl el_22 rfl) ?_
  refine l_pint rfl rfl ?_
  refine l_nil ?_
  refine w_block ?_
  refine w_loopG (G := Nat × Option Addr × Nat × List Pk) [5, 14, 15, 16, 17, 18, 19, 20, 21, 22, 23] (fun ⟨i, a', c', l'⟩ => [(14, I64 ((i : Nat) : Int))]) (fun m ⟨i, a', c', l'⟩ w => m + i = st.pool.length ∧ l'.length = i ∧ l'.map Pk.con = (st.pool.take i).map Pk.con ∧ (∀ q ∈ l', q.n ≤ 32768) ∧ St W w (eachL b3 a' c' l' (netL b st F))) (fun _ => rfl) ?_ ?_
  · exact ⟨st.pool.length, (0, none, 0, []), ⟨rfl, trivial⟩, rfl, rfl, rfl, fun _ h => (by cases h), St.pick [2, 0, 1] (pre := [_, _, _]) rfl (St.newRow (T := 31) (sz := 3) (St.nilseg.2 H)) rfl⟩
  rintro m ⟨i, a', c', l'⟩ ρ1 w ⟨hmi, hll, hcon, hq, H⟩
  refine w_seq ?_
  refine w_region ?_
  refine l_pbool rfl rfl ?_
  refine l_nil ?_
  refine w_seq ?_
  refine w_cond rfl (fun c1 => ?_) (fun c1 => ?_)
  · try simp only [sH] at c1
    obtain ⟨p, hp⟩ : ∃ p, st.pool[i]? = some p := ⟨_, List.getElem?_eq_getElem (by omega)⟩
    have hpm := List.mem_of_getElem? hp
    obtain ⟨b0, o0, hpa, hcs⟩ := pk_cells ((RdIn.row (W := W) 4 rfl).use H 0 rfl) hp
    have hlp := pk_len H 5 rfl hp
    refine w_skip ?_
    refine w_seq ?_
    refine w_block ?_
    refine w_seq ?_
    refine w_region ?_
    refine l_v rfl (q_indexSliceA rfl el_22 rfl hpa rfl (by omega)) ?_
    refine l_v rfl (q_loadN (vs := p.cells) rfl ag_31 rfl rfl hcs) ?_
    refine b_alloc rfl ze_31 rfl H (fun b5 w H => ?_)
    refine b_store (cs' := p.cells) rfl sz_31 rfl rfl rfl rfl rfl H 0 rfl rfl (putL_all rfl) (fun w H => ?_)
    refine l_nil ?_
    refine w_drawS [4, 5] [0, 1] 99 [(0, 1), (1, 1), (2, 2), (3, 2), (4, 2), (5, 2)] mixed (by kernel_rfl) (fun _ _ _ h => fin_panic h) H (fun H => ?_)
    refine r_v rfl rfl (fun w hS => q_load1 rfl c1_22 rfl (by first | exact hS.cell 0 rfl rfl | exact hS.cell 1 rfl rfl | exact hS.cell 2 rfl rfl | exact hS.cell 3 rfl rfl | exact hS.cell 4 rfl rfl | exact hS.cell 5 rfl rfl)) ?_
    refine r_v rfl rfl (fun w hS => q_loadN (vs := [_, _, _]) rfl ag_31 rfl rfl (by first | exact hS.cells 0 rfl | exact hS.cells 1 rfl | exact hS.cells 2 rfl | exact hS.cells 3 rfl | exact hS.cells 4 rfl | exact hS.cells 5 rfl)) ?_
    refine r_do rfl ?_
    refine b_call rfl cb_47 rfl (copied_ok H p.fr p.to (pk_own 6 rfl hp) hlp.1 (by have := hfit.pool p hpm; omega)) (fun v w hv => ?_)
    obtain ⟨bq, rfl, H⟩ := hv
    refine l_nil ⟨fun _ _ => (by first | exact Sx.of H 0 99 rfl | exact Sx.of H 1 99 rfl | exact Sx.of H 2 99 rfl | exact Sx.of H 3 99 rfl | exact Sx.of H 4 99 rfl), ?_⟩
    refine r_do rfl ?_
    refine b_buildSlice (cs := [_, _, _]) rfl el_22 ze_31 rfl rfl rfl H (fun b21 w H => ?_)
    refine l_nil ⟨fun _ _ => (by first | exact Sx.of H 0 99 rfl | exact Sx.of H 1 99 rfl | exact Sx.of H 2 99 rfl | exact Sx.of H 3 99 rfl | exact Sx.of H 4 99 rfl), ?_⟩
    refine r_do rfl ?_
    first | refine b_append rfl el_22 ze_31 rfl rfl rfl H 1 rfl (Rd.mk (H.cells0 0 rfl)) rfl (by simp [Value.oneCell']) ⟨by (try dsimp only); omega, by simp only [maxLen]; (try dsimp only); omega⟩ (fun a22 c22 w H => ?_) | refine b_append rfl el_22 ze_31 rfl rfl rfl H 2 rfl (Rd.mk (H.cells0 0 rfl)) rfl (by simp [Value.oneCell']) ⟨by (try dsimp only); omega, by simp only [maxLen]; (try dsimp only); omega⟩ (fun a22 c22 w H => ?_) | refine b_append rfl el_22 ze_31 rfl rfl rfl H 3 rfl (Rd.mk (H.cells0 0 rfl)) rfl (by simp [Value.oneCell']) ⟨by (try dsimp only); omega, by simp only [maxLen]; (try dsimp only); omega⟩ (fun a22 c22 w H => ?_) | refine b_append rfl el_22 ze_31 rfl rfl rfl H 4 rfl (Rd.mk (H.cells0 0 rfl)) rfl (by simp [Value.oneCell']) ⟨by (try dsimp only); omega, by simp only [maxLen]; (try dsimp only); omega⟩ (fun a22 c22 w H => ?_) | refine b_append rfl el_22 ze_31 rfl rfl rfl H 5 rfl (Rd.mk (H.cells0 0 rfl)) rfl (by simp [Value.oneCell']) ⟨by (try dsimp only); omega, by simp only [maxLen]; (try dsimp only); omega⟩ (fun a22 c22 w H => ?_) | refine b_append rfl el_22 ze_31 rfl rfl rfl H 6 rfl (Rd.mk (H.cells0 0 rfl)) rfl (by simp [Value.oneCell']) ⟨by (try dsimp only); omega, by simp only [maxLen]; (try dsimp only); omega⟩ (fun a22 c22 w H => ?_) | refine b_append rfl el_22 ze_31 rfl rfl rfl H 7 rfl (Rd.mk (H.cells0 0 rfl)) rfl (by simp [Value.oneCell']) ⟨by (try dsimp only); omega, by simp only [maxLen]; (try dsimp only); omega⟩ (fun a22 c22 w H => ?_) | refine b_append rfl el_22 ze_31 rfl rfl rfl H 8 rfl (Rd.mk (H.cells0 0 rfl)) rfl (by simp [Value.oneCell']) ⟨by (try dsimp only); omega, by simp only [maxLen]; (try dsimp only); omega⟩ (fun a22 c22 w H => ?_)
    refine l_nil ⟨(fun h => nomatch h), ?_⟩
    refine r_do rfl ?_
    first | refine b_store (cs' := [_]) rfl sz_22 rfl rfl rfl rfl rfl H 0 rfl rfl rfl (fun w H => ?_) | refine b_store (cs' := [_]) rfl sz_22 rfl rfl rfl rfl rfl H 1 rfl rfl rfl (fun w H => ?_) | refine b_store (cs' := [_]) rfl sz_22 rfl rfl rfl rfl rfl H 2 rfl rfl rfl (fun w H => ?_) | refine b_store (cs' := [_]) rfl sz_22 rfl rfl rfl rfl rfl H 3 rfl rfl rfl (fun w H => ?_) | refine b_store (cs' := [_]) rfl sz_22 rfl rfl rfl rfl rfl H 4 rfl rfl rfl (fun w H => ?_) | refine b_store (cs' := [_]) rfl sz_22 rfl rfl rfl rfl rfl H 5 rfl rfl rfl (fun w H => ?_)
    refine l_nil ⟨(fun h => nomatch h), ?_⟩
    refine r_nil ?_
    refine w_region ?_
    first | refine l_v rfl (q_add rfl rfl rfl (by simp only [inK]; omega)) ?_ | refine l_pint rfl rfl ?_
    refine l_pint rfl rfl ?_
    refine l_nil ?_
    refine ⟨by repeat' first | exact aM | exact aR | refine aI rfl ?_ | refine aU rfl ?_ | refine aL rfl ?_, ?_⟩
    refine ⟨m - 1, (i + 1, a22, c22, l' ++ [⟨p.fr, p.to, some ⟨bq, 0, none⟩, p.n, p.n, p.bs⟩]), by omega, ⟨by exact congrArg (Value.int IntKind.i64) (Int.natCast_succ i).symm, trivial⟩, by omega, by simp [hll], ?_, ?_, ?_⟩
    · rw [List.map_append, hcon, List.take_add_one, hp, List.map_append]; rfl
    · intro q hm
      rcases List.mem_append.1 hm with hm | hm
      · exact hq q hm
      rw [List.mem_singleton.1 hm]; exact hfit.pool p hpm
    exact pack9 (i := l'.length) (q := ⟨p.fr, p.to, some ⟨bq, 0, none⟩, p.n, p.n, p.bs⟩) rfl (H.erase 0) rfl
  try simp only [sH] at c1
  obtain rfl : i = st.pool.length := by omega
  refine w_exit ?_
  refine w_seq ?_
  refine w_region ?_
  refine b_makeFunc rfl rfl rfl ?_
  refine l_pfn rfl rfl ?_
  refine l_nil ?_
  refine w_ret ?_
  refine fin1 (v := _) rfl ?_
  exact ⟨b3, a', c', l', rfl, by rw [hcon, List.take_of_length_le (Nat.le_refl _)], hq, H⟩
theorem Each1_ok {W w : World} {F : List Seg} {b3 : Nat} {a : Option Addr} {c lp : Nat} {l : List Pk} {C X : Nat → Seg} (hn : ∀ q ∈ l, q.n ≤ 32768) (hl : l.length ≤ 140737488351232) (H : St W w (C 0 :: eachL b3 a c l F))
    (hY : ∀ (i : Nat) (p q : Pk) (F' : List Seg) (w : World), l[i]? = some p → q.con = p.con → q.bs.length = q.n → St W w (q.own :: C i :: F') → Yl Try.prog lp [I64 (i : Int), pkv q].toArray w (fun v w' => ∃ bb : Bool, v = .bool bb ∧ St W w' (cond bb (C (i + 1)) (X (i + 1)) :: F'))) :
    Ok Try.prog 53 [.func (.yield lp) #[] #[], .pointer (some ⟨b3, 0, none⟩)].toArray w (fun _ w' => St W w' (C l.length :: eachL b3 a c l F) ∨ ∃ k, St W w' (X k :: eachL b3 a c l F)) := by
  refine enter (args := [.func (.yield lp) #[] #[], .pointer (some ⟨b3, 0, none⟩)]) (n := 19) (rs := #[]) Try.func53 rfl rfl rfl rfl ?_
  refine w_seq ?_
  refine w_region ?_
  refine l_v rfl (q_load1 rfl c1_22 rfl (H.cell 1 rfl rfl)) ?_
  refine l_v rfl (q_lenSlice rfl el_22 rfl) ?_
  refine l_pint rfl rfl ?_
  refine l_nil ?_
  refine w_block ?_
  refine w_loopG (G := Nat) [3, 4, 7, 8, 9, 10, 11, 12, 13, 14, 15, 16, 17, 18] (fun i => [(7, I64 ((i : Nat) : Int))]) (fun m i w => m + i = l.length ∧ St W w (C i :: eachL b3 a c l F)) (fun _ => rfl) ?_ ?_
  · exact ⟨l.length, 0, ⟨rfl, trivial⟩, rfl, H⟩
  rintro m i ρ1 w ⟨hmi, H⟩
  refine w_seq ?_
  refine w_region ?_
  refine l_pbool rfl rfl ?_
  refine l_nil ?_
  refine w_seq ?_
  refine w_cond rfl (fun c1 => ?_) (fun c1 => ?_)
  · try simp only [sH] at c1
    obtain ⟨p, hp⟩ : ∃ p, l[i]? = some p := ⟨_, List.getElem?_eq_getElem (by omega)⟩
    have hpm := List.mem_of_getElem? hp
    obtain ⟨b0, o0, hpa, hcs⟩ := pk_cells ((RdIn.row (W := W) 2 rfl).use H 0 rfl) hp
    have hlp := pk_len H 3 rfl hp
    refine w_skip ?_
    refine w_seq ?_
    refine w_block ?_
    refine w_seq ?_
    refine w_region ?_
    refine l_pint rfl rfl ?_
    refine l_v rfl (q_indexSliceA rfl el_22 rfl hpa rfl (by omega)) ?_
    refine l_v rfl (q_loadN (vs := p.cells) rfl ag_31 rfl rfl hcs) ?_
    refine b_alloc rfl ze_31 rfl H (fun b4 w H => ?_)
    refine l_pint rfl rfl ?_
    refine b_store (cs' := p.cells) rfl sz_31 rfl rfl rfl rfl rfl H 0 rfl rfl (putL_all rfl) (fun w H => ?_)
    refine l_nil ?_
    refine w_seq ?_
    refine w_region ?_
    refine l_pfn rfl rfl ?_
    refine l_pint rfl rfl ?_
    refine l_v rfl (q_loadN (vs := p.cells) rfl ag_31 rfl rfl (H.cells 0 rfl)) ?_
    refine b_call rfl cb_47 rfl (copied_ok H p.fr p.to (pk_own 4 rfl hp) hlp.1 (by have := hn p hpm; omega)) (fun v w hv => ?_)
    obtain ⟨bq, rfl, H⟩ := hv
    refine b_yield rfl rfl rfl (hY i p ⟨p.fr, p.to, some ⟨bq, 0, none⟩, p.n, p.n, p.bs⟩ _ w hp rfl hlp.1 (St.pick [0, 2, 3, 4, 5] (pre := [_, _, _, _, _, _]) rfl H rfl)) (fun v w hv => ?_)
    obtain ⟨bb, rfl, H⟩ := hv
    refine l_pbool rfl rfl ?_
    refine l_nil ?_
    refine w_cond rfl (fun c2 => ?_) (fun c2 => ?_)
    · try simp only [sH] at c2
      obtain rfl : bb = false := by simpa using c2
      refine w_ret ?_
      refine fin0 ?_
      exact .inr ⟨_, H⟩
    try simp only [sH] at c2
    obtain rfl : bb = true := by simpa using c2
    refine w_skip ?_
    refine w_region ?_
    first | refine l_v rfl (q_add rfl rfl rfl (by simp only [inK]; omega)) ?_ | refine l_pint rfl rfl ?_
    refine l_pint rfl rfl ?_
    refine l_nil ?_
    refine ⟨by repeat' first | exact aM | exact aR | refine aI rfl ?_ | refine aU rfl ?_ | refine aL rfl ?_, ?_⟩
    exact ⟨m - 1, i + 1, by omega, ⟨by exact congrArg (Value.int IntKind.i64) (Int.natCast_succ i).symm, trivial⟩, by omega, H⟩
  try simp only [sH] at c1
  obtain rfl : i = l.length := by omega
  refine w_exit ?_
  exact fin0n (.inl H)
end Go.Proofs.Ytmgcmgfjaimlnaa
