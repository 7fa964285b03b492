/- Calls of the reference net: Drop, Take, Swap, Turn, For, Genuine; for nets whose pools leave room. -/
import Derived.Test.YtmgcmgfjaimlnaaNet24
namespace Go.Proofs.Ytmgcmgfjaimlnaa
open Go.EW
attribute [local irreducible] EW.W EW.L EW.fin
set_option linter.unusedVariables false
set_option linter.unusedSimpArgs false
theorem drop_step {α : Type} {l : List α} {i k : Nat} {p : α} (hp : l[i]? = some p) : (l.take (i + 1)).eraseIdx k = if i = k then (l.take i).eraseIdx k else (l.take i).eraseIdx k ++ [p] := by
  have hi := (List.getElem?_eq_some_iff.1 hp).1
  have hl : (l.take i).length = i := by rw [List.length_take]; omega
  rw [List.take_add_one, hp, Option.toList_some]
  by_cases h : k < i
  · rw [List.eraseIdx_append_of_lt_length (by omega), if_neg (by omega)]
  rw [List.eraseIdx_append_of_length_le (by omega), hl, List.eraseIdx_of_length_le (by omega : (l.take i).length ≤ k)]
  by_cases h2 : i = k
  · subst h2; rw [if_pos rfl]; simp
  rw [if_neg h2, List.eraseIdx_of_length_le (by simp; omega)]
theorem drop_fin {W w : World} {F : List Seg} {b : Nat} {cs : List Value} {st : RS} {pa : Option Addr} {pcap k m : Nat} (hk : k < st.pool.length) (hm : m = (st.pool.eraseIdx k).length)
    (H : St W w (row 31 3 pa m pcap (pks (st.pool.eraseIdx k)) :: blk b cs 97 :: row 31 3 st.pa st.pool.length st.pcap (pks st.pool) :: Segs (st.pool.map Pk.own) :: row 31 3 st.ra st.rc.length st.rcap (pks st.rc) :: Segs (st.rc.map Pk.own) :: F))
    (hc : cs = [.int .i64 st.nodes, .int .i64 st.clients, .slice pa m pcap, .slice st.ra st.rc.length st.rcap]) : St W w (rfL b { st with pa, pcap, pool := st.pool.eraseIdx k } F) := by
  subst hc; subst hm
  have H1 := Segs.take (l := st.pool.map Pk.own) k (by rw [List.getElem?_map, List.getElem?_eq_getElem hk]; rfl) (St.pick [3, 0, 1, 4, 5] (pre := [_, _, _, _, _, _]) rfl H rfl)
  have H2 := St.pick [3, 2, 1, 4, 5] (pre := [_, _, _, _, _, _]) rfl H1 rfl
  unfold rfL RS.cells
  rw [map_eraseIdx_own] at H2
  exact H2
theorem rDrop_ok {W w : World} {F : List Seg} {b : Nat} {st : RS} (H : St W w (rfL b st F)) (hroom : (st.pool.length + 1) * 40 ≤ 140737488355328) (k : Int) :
    Ok Try.prog 61 [.pointer (some ⟨b, 0, none⟩), .int .i64 k].toArray w (fun v w' => (¬ (0 ≤ k ∧ k < st.pool.length) ∧ v = .int .i64 141 ∧ St W w' (rfL b st F)) ∨ ((0 ≤ k ∧ k < st.pool.length) ∧ v = .int .i64 0 ∧ ∃ pa pcap, St W w' (rfL b { st with pa, pcap, pool := st.pool.eraseIdx k.toNat } F))) := by
  refine enter (n := 39) (rs := #[.tmp 4]) Try.func61 rfl rfl rfl rfl ?_
  refine w_seq ?_
  refine w_region ?_
  refine l_pint rfl rfl ?_
  refine l_nil ?_
  refine w_seq ?_
  refine w_seq ?_
  refine w_region ?_
  refine l_pptr rfl rfl ?_
  refine l_v rfl (q_eqlNilF rfl pt_61 rfl rfl) ?_
  refine l_nil ?_
  refine w_cond_f rfl ?_
  refine w_skip ?_
  refine w_seq ?_
  refine w_seq ?_
  refine w_region ?_
  refine l_pptr rfl rfl ?_
  refine l_pint rfl rfl ?_
  refine b_call rfl cb_80 rfl (rHas_ok H k) (fun v w hv => ?_)
  obtain ⟨rfl, H⟩ := hv
  refine l_pbool rfl rfl ?_
  refine l_nil ?_
  refine w_cond rfl (fun c1 => ?_) (fun c1 => ?_)
  · try simp only [sH] at c1
    refine w_seq ?_
    refine w_region ?_
    refine l_pint rfl rfl ?_
    refine l_nil ?_
    refine w_ret ?_
    refine fin1 (v := .int _ _) rfl ?_
    exact .inl ⟨by simpa using c1, rfl, H⟩
  try simp only [sH] at c1
  have c1' : 0 ≤ k ∧ k < (st.pool.length : Int) := by simpa using c1
  refine w_skip ?_
  refine w_seq ?_
  refine w_region ?_
  refine l_pslice rfl rfl ?_
  refine l_nil ?_
  refine w_seq ?_
  refine w_seq ?_
  refine w_region ?_
  refine l_pint rfl rfl ?_
  refine l_nil ?_
  refine w_block ?_
  refine w_loopG (G := Nat × Option Addr × Nat) [5, 6, 13, 14, 15, 16, 17, 18, 19, 20, 21, 22, 23, 24, 25, 26, 27, 28, 29, 30, 31, 32, 33, 34] (fun ⟨i, a', c'⟩ => [(5, .slice a' ((st.pool.take i).eraseIdx k.toNat).length c'), (6, I64 ((i : Nat) : Int))]) (fun m ⟨i, a', c'⟩ w => m + i = st.pool.length ∧ St W w (row 31 3 a' ((st.pool.take i).eraseIdx k.toNat).length c' (pks ((st.pool.take i).eraseIdx k.toNat)) :: rfL b st F)) (fun _ => rfl) ?_ ?_
  · exact ⟨st.pool.length, (0, none, 0), ⟨rfl, rfl, trivial⟩, rfl, St.newRow (T := 31) (sz := 3) H⟩
  rintro m ⟨i, a', c'⟩ ρ1 w ⟨hmi, H⟩
  refine w_seq ?_
  refine w_seq ?_
  refine w_region ?_
  refine l_pint rfl rfl ?_
  refine l_pptr rfl rfl ?_
  refine l_pptr rfl rfl ?_
  refine l_v rfl (q_fieldAddr rfl fo97_2 rfl) ?_
  refine l_v rfl (q_load1 rfl c1_22 rfl (by first | exact H.cell 0 rfl rfl | exact H.cell 1 rfl rfl | exact H.cell 2 rfl rfl | exact H.cell 3 rfl rfl | exact H.cell 4 rfl rfl | exact H.cell 5 rfl rfl | exact H.cell 6 rfl rfl | exact H.cell 7 rfl rfl)) ?_
  refine l_v rfl (q_lenSlice rfl el_22 rfl) ?_
  refine l_pbool rfl rfl ?_
  refine l_nil ?_
  refine w_cond rfl (fun c2 => ?_) (fun c2 => ?_)
  · try simp only [sH] at c2
    obtain ⟨p, hp⟩ : ∃ p, st.pool[i]? = some p := ⟨_, List.getElem?_eq_getElem (by omega)⟩
    obtain ⟨b0, o0, hpa, hcs⟩ := pk_cells ((RdIn.row (W := W) 2 rfl).use H 0 rfl) hp
    have hlp := pk_len H 3 rfl hp
    have hel : ((st.pool.take i).eraseIdx k.toNat).length ≤ i := by rw [List.length_eraseIdx, List.length_take]; split <;> omega
    refine w_skip ?_
    refine w_seq ?_
    refine w_block ?_
    refine w_seq ?_
    refine w_region ?_
    refine l_pint rfl rfl ?_
    refine l_pint rfl rfl ?_
    refine l_pbool rfl rfl ?_
    refine l_nil ?_
    refine w_cond rfl (fun c3 => ?_) (fun c3 => ?_)
    · try simp only [sH] at c3
      refine w_region ?_
      refine l_pslice rfl rfl ?_
      refine l_pptr rfl rfl ?_
      refine l_pptr rfl rfl ?_
      refine l_v rfl (q_fieldAddr rfl fo97_2 rfl) ?_
      refine l_v rfl (q_load1 rfl c1_22 rfl (by first | exact H.cell 0 rfl rfl | exact H.cell 1 rfl rfl | exact H.cell 2 rfl rfl | exact H.cell 3 rfl rfl | exact H.cell 4 rfl rfl | exact H.cell 5 rfl rfl | exact H.cell 6 rfl rfl | exact H.cell 7 rfl rfl)) ?_
      refine l_pint rfl rfl ?_
      refine l_v rfl (q_indexSliceA rfl el_22 rfl hpa rfl (by omega)) ?_
      refine l_v rfl (q_loadN (vs := p.cells) rfl ag_31 rfl rfl hcs) ?_
      refine b_buildSlice (cs := [_, _, _]) rfl el_22 ze_31 rfl rfl rfl H (fun b33 w H => ?_)
      first | refine b_append rfl el_22 ze_31 rfl rfl rfl H 1 rfl (Rd.mk (H.cells0 0 rfl)) rfl (by simp [Value.oneCell']) ⟨by (try dsimp only); omega, by simp only [maxLen]; (try dsimp only); omega⟩ (fun a34 c34 w H => ?_) | refine b_append rfl el_22 ze_31 rfl rfl rfl H 2 rfl (Rd.mk (H.cells0 0 rfl)) rfl (by simp [Value.oneCell']) ⟨by (try dsimp only); omega, by simp only [maxLen]; (try dsimp only); omega⟩ (fun a34 c34 w H => ?_) | refine b_append rfl el_22 ze_31 rfl rfl rfl H 3 rfl (Rd.mk (H.cells0 0 rfl)) rfl (by simp [Value.oneCell']) ⟨by (try dsimp only); omega, by simp only [maxLen]; (try dsimp only); omega⟩ (fun a34 c34 w H => ?_) | refine b_append rfl el_22 ze_31 rfl rfl rfl H 4 rfl (Rd.mk (H.cells0 0 rfl)) rfl (by simp [Value.oneCell']) ⟨by (try dsimp only); omega, by simp only [maxLen]; (try dsimp only); omega⟩ (fun a34 c34 w H => ?_) | refine b_append rfl el_22 ze_31 rfl rfl rfl H 5 rfl (Rd.mk (H.cells0 0 rfl)) rfl (by simp [Value.oneCell']) ⟨by (try dsimp only); omega, by simp only [maxLen]; (try dsimp only); omega⟩ (fun a34 c34 w H => ?_) | refine b_append rfl el_22 ze_31 rfl rfl rfl H 6 rfl (Rd.mk (H.cells0 0 rfl)) rfl (by simp [Value.oneCell']) ⟨by (try dsimp only); omega, by simp only [maxLen]; (try dsimp only); omega⟩ (fun a34 c34 w H => ?_) | refine b_append rfl el_22 ze_31 rfl rfl rfl H 7 rfl (Rd.mk (H.cells0 0 rfl)) rfl (by simp [Value.oneCell']) ⟨by (try dsimp only); omega, by simp only [maxLen]; (try dsimp only); omega⟩ (fun a34 c34 w H => ?_) | refine b_append rfl el_22 ze_31 rfl rfl rfl H 8 rfl (Rd.mk (H.cells0 0 rfl)) rfl (by simp [Value.oneCell']) ⟨by (try dsimp only); omega, by simp only [maxLen]; (try dsimp only); omega⟩ (fun a34 c34 w H => ?_)
      refine l_pslice rfl rfl ?_
      refine l_nil ?_
      refine w_region ?_
      refine l_pint rfl rfl ?_
      first | refine l_v rfl (q_add rfl rfl rfl (by simp only [inK]; omega)) ?_ | refine l_pint rfl rfl ?_
      refine l_pint rfl rfl ?_
      refine l_nil ?_
      refine ⟨by repeat' first | exact aM | exact aR | refine aI rfl ?_ | refine aU rfl ?_ | refine aL rfl ?_, ?_⟩
      have hst := drop_step (k := k.toNat) hp
      rw [if_neg (by omega)] at hst
      refine ⟨m - 1, (i + 1, a34, c34), by omega, ⟨by rw [hst, List.length_append]; rfl, by exact congrArg (Value.int IntKind.i64) (Int.natCast_succ i).symm, trivial⟩, by omega, ?_⟩
      rw [hst, List.length_append, pks_snoc]
      exact H.drop1
    try simp only [sH] at c3
    refine w_skip ?_
    refine w_region ?_
    refine l_pint rfl rfl ?_
    first | refine l_v rfl (q_add rfl rfl rfl (by simp only [inK]; omega)) ?_ | refine l_pint rfl rfl ?_
    refine l_pint rfl rfl ?_
    refine l_nil ?_
    refine ⟨by repeat' first | exact aM | exact aR | refine aI rfl ?_ | refine aU rfl ?_ | refine aL rfl ?_, ?_⟩
    have hst := drop_step (k := k.toNat) hp
    rw [if_pos (by omega)] at hst
    refine ⟨m - 1, (i + 1, a', c'), by omega, ⟨by rw [hst]; rfl, by exact congrArg (Value.int IntKind.i64) (Int.natCast_succ i).symm, trivial⟩, by omega, ?_⟩
    rw [hst]
    exact H
  try simp only [sH] at c2
  obtain rfl : i = st.pool.length := by omega
  refine w_exit ?_
  refine w_seq ?_
  refine w_region ?_
  refine l_pptr rfl rfl ?_
  refine l_pslice rfl rfl ?_
  refine l_pptr rfl rfl ?_
  refine l_v rfl (q_fieldAddr rfl fo97_2 rfl) ?_
  first | refine b_store rfl sz_22 rfl rfl rfl rfl rfl H 0 rfl rfl rfl (fun w H => ?_) | refine b_store rfl sz_22 rfl rfl rfl rfl rfl H 1 rfl rfl rfl (fun w H => ?_) | refine b_store rfl sz_22 rfl rfl rfl rfl rfl H 2 rfl rfl rfl (fun w H => ?_) | refine b_store rfl sz_22 rfl rfl rfl rfl rfl H 3 rfl rfl rfl (fun w H => ?_) | refine b_store rfl sz_22 rfl rfl rfl rfl rfl H 4 rfl rfl rfl (fun w H => ?_) | refine b_store rfl sz_22 rfl rfl rfl rfl rfl H 5 rfl rfl rfl (fun w H => ?_) | refine b_store rfl sz_22 rfl rfl rfl rfl rfl H 6 rfl rfl rfl (fun w H => ?_) | refine b_store rfl sz_22 rfl rfl rfl rfl rfl H 7 rfl rfl rfl (fun w H => ?_)
  refine l_nil ?_
  refine w_seq ?_
  refine w_region ?_
  refine l_pint rfl rfl ?_
  refine l_nil ?_
  refine w_ret ?_
  refine fin1 (v := .int _ _) rfl ?_
  rw [List.take_length] at H
  exact .inr ⟨c1', rfl, _, _, drop_fin (by omega) rfl H rfl⟩
theorem rTake_ok {W w : World} {F : List Seg} {b : Nat} {st : RS} (H : St W w (rfL b st F)) (hfit : st.fit) (hroom : (st.pool.length + 1) * 40 ≤ 140737488355328) (k : Int) :
    Ok Try.prog 59 [.pointer (some ⟨b, 0, none⟩), .int .i64 k].toArray w (fun v w' => ∃ q e, v = .tuple #[pkv q, .int .i64 e] ∧ AtQ st.pool k q e ∧ ∃ pa pcap, St W w' (q.own :: rfL b (if 0 ≤ k ∧ k < st.pool.length then { st with pa, pcap, pool := st.pool.eraseIdx k.toNat } else st) F)) := by
  refine enter (n := 19) (rs := #[.cell 4 31, .tmp 5]) Try.func59 rfl rfl rfl rfl ?_
  refine w_seq ?_
  refine w_region ?_
  refine b_alloc rfl ze_31 rfl H (fun b4 w H => ?_)
  have H := rsink H
  refine l_pint rfl rfl ?_
  refine l_nil ?_
  refine w_seq ?_
  refine w_region ?_
  refine l_pptr rfl rfl ?_
  refine l_pint rfl rfl ?_
  refine b_call rfl cb_41 rfl (rAt_ok H hfit k) (fun v w hv => ?_)
  obtain ⟨q, e, rfl, hat, H⟩ := hv
  refine l_ptup rfl rfl ?_
  refine l_pagg rfl rfl ?_
  refine l_pint rfl rfl ?_
  refine b_alloc rfl ze_31 rfl H (fun b6 w H => ?_)
  first | refine b_store (cs' := [_, _, _]) rfl sz_31 rfl rfl rfl rfl rfl H 0 rfl rfl rfl (fun w H => ?_) | refine b_store (cs' := [_, _, _]) rfl sz_31 rfl rfl rfl rfl rfl H 1 rfl rfl rfl (fun w H => ?_) | refine b_store (cs' := [_, _, _]) rfl sz_31 rfl rfl rfl rfl rfl H 2 rfl rfl rfl (fun w H => ?_) | refine b_store (cs' := [_, _, _]) rfl sz_31 rfl rfl rfl rfl rfl H 3 rfl rfl rfl (fun w H => ?_) | refine b_store (cs' := [_, _, _]) rfl sz_31 rfl rfl rfl rfl rfl H 4 rfl rfl rfl (fun w H => ?_) | refine b_store (cs' := [_, _, _]) rfl sz_31 rfl rfl rfl rfl rfl H 5 rfl rfl rfl (fun w H => ?_) | refine b_store (cs' := [_, _, _]) rfl sz_31 rfl rfl rfl rfl rfl H 6 rfl rfl rfl (fun w H => ?_) | refine b_store (cs' := [_, _, _]) rfl sz_31 rfl rfl rfl rfl rfl H 7 rfl rfl rfl (fun w H => ?_)
  refine l_pint rfl rfl ?_
  refine l_nil ?_
  refine w_seq ?_
  refine w_region ?_
  refine l_pptr rfl rfl ?_
  refine l_pint rfl rfl ?_
  refine b_call rfl cb_61 rfl (rDrop_ok (b := b) (st := st) (F := blk b6 q.cells 31 :: q.own :: blk b4 [.int .i64 0, .int .i64 0, .slice none 0 0] 31 :: F) (St.pick [2, 3, 4, 5, 6, 0, 1] (pre := [_, _, _, _, _, _, _]) rfl H rfl) hroom k) (fun v w hv => ?_)
  replace hv : ∃ pa pcap, St W w (rfL b (if 0 ≤ k ∧ k < (st.pool.length : Int) then { st with pa, pcap, pool := st.pool.eraseIdx k.toNat } else st) (blk b6 q.cells 31 :: q.own :: blk b4 [.int .i64 0, .int .i64 0, .slice none 0 0] 31 :: F)) := by
    rcases hv with ⟨h, _, H⟩ | ⟨h, _, pa, pcap, H⟩
    · exact ⟨none, 0, by rw [if_neg h]; exact H⟩
    exact ⟨pa, pcap, by rw [if_pos h]; exact H⟩
  obtain ⟨pa, pcap, H⟩ := hv
  have H := rlift H
  refine l_nil ?_
  refine w_seq ?_
  refine w_region ?_
  refine l_v rfl (q_loadN (vs := [_, _, _]) rfl ag_31 rfl rfl (by first | exact H.cells 0 rfl | exact H.cells 1 rfl | exact H.cells 2 rfl | exact H.cells 3 rfl | exact H.cells 4 rfl | exact H.cells 5 rfl | exact H.cells 6 rfl | exact H.cells 7 rfl)) ?_
  refine l_pint rfl rfl ?_
  first | refine b_store (cs' := [_, _, _]) rfl sz_31 rfl rfl rfl rfl rfl H 0 rfl rfl rfl (fun w H => ?_) | refine b_store (cs' := [_, _, _]) rfl sz_31 rfl rfl rfl rfl rfl H 1 rfl rfl rfl (fun w H => ?_) | refine b_store (cs' := [_, _, _]) rfl sz_31 rfl rfl rfl rfl rfl H 2 rfl rfl rfl (fun w H => ?_) | refine b_store (cs' := [_, _, _]) rfl sz_31 rfl rfl rfl rfl rfl H 3 rfl rfl rfl (fun w H => ?_) | refine b_store (cs' := [_, _, _]) rfl sz_31 rfl rfl rfl rfl rfl H 4 rfl rfl rfl (fun w H => ?_) | refine b_store (cs' := [_, _, _]) rfl sz_31 rfl rfl rfl rfl rfl H 5 rfl rfl rfl (fun w H => ?_) | refine b_store (cs' := [_, _, _]) rfl sz_31 rfl rfl rfl rfl rfl H 6 rfl rfl rfl (fun w H => ?_) | refine b_store (cs' := [_, _, _]) rfl sz_31 rfl rfl rfl rfl rfl H 7 rfl rfl rfl (fun w H => ?_)
  refine l_pint rfl rfl ?_
  refine l_nil ?_
  refine w_ret ?_
  refine finc2 rfl ag_31 rfl (by first | exact H.cells 0 rfl | exact H.cells 1 rfl | exact H.cells 2 rfl | exact H.cells 3 rfl | exact H.cells 4 rfl | exact H.cells 5 rfl | exact H.cells 6 rfl | exact H.cells 7 rfl) rfl ?_
  exact ⟨q, e, rfl, hat, pa, pcap, St.pick [6, 1, 2, 3, 4, 5] (pre := [_, _, _, _, _, _, _, _]) rfl H rfl⟩
def rswapS (st : RS) (i k : Int) : RS := if (0 ≤ i ∧ i < st.pool.length) ∧ 0 ≤ k ∧ k < st.pool.length then { st with pool := swapL st.pool i.toNat k.toNat } else st
theorem rswap_fin {W w : World} {F : List Seg} {b b0 : Nat} {st : RS} {s : Seg} {p q : Pk} {i k : Nat} {spare : List Value} (hpa : st.pa = some ⟨b0, 0, none⟩) (hp : st.pool[i]? = some p) (hq : st.pool[k]? = some q)
    (hl : (pks st.pool).length + spare.length = st.pcap * 3) (hm : st.pool.length ≤ st.pcap) (hc : st.pcap ≤ maxLen)
    (H : St W w (blk0 b0 (putL (putL (pks st.pool ++ spare) (0 + i * 3) q.cells) (0 + k * 3) p.cells) 31 :: s :: blk b st.cells 97 ::
      Segs (st.pool.map Pk.own) :: row 31 3 st.ra st.rc.length st.rcap (pks st.rc) :: Segs (st.rc.map Pk.own) :: F)) :
    St W w (rfL b (rswapS st i k) F) := by
  have hi := (List.getElem?_eq_some_iff.1 hp).1
  have hk := (List.getElem?_eq_some_iff.1 hq).1
  have he : rswapS st i k = { st with pool := swapL st.pool i k } := by unfold rswapS; rw [if_pos (by omega)]; simp
  have hs : swapL st.pool i k = (st.pool.set i q).set k p := by unfold swapL; rw [hp, hq]
  rw [putL_pks hi, putL_pks (by simpa using hk), ← hs] at H
  have hl2 := swapL_length st.pool i k
  have H1 := St.rowShut (m := st.pool.length) (cap := st.pcap) (sz := 3) H (by rw [pks_length, hl2]; rw [pks_length] at hl; exact hl) (by rw [pks_length, hl2]) hm hc
  have H2 := segs_perm ((swapL_perm st.pool i k).symm.map Pk.own) (H1.pick [3, 0, 2, 4, 5] (pre := [_, _, _, _, _, _]) rfl rfl)
  have H3 := H2.pick [2, 1, 0, 3, 4] (pre := [_, _, _, _, _]) rfl rfl
  rw [he]
  unfold rfL RS.cells
  unfold RS.cells at H3
  simp only [hl2, hpa] at H3 ⊢
  exact H3
def rturnS (st : RS) (k j : Int) (m : UInt8) : RS := match st.pool[k.toNat]? with
  | some p => if (0 ≤ k ∧ k < st.pool.length) ∧ 0 ≤ j ∧ j < p.n then { st with pool := turnL st.pool k.toNat j.toNat m } else st
  | none => st
def turnEL (l : List Pk) (k j : Int) : Int := if 0 ≤ k ∧ k < l.length then (match l[k.toNat]? with | some p => if 0 ≤ j ∧ j < p.n then 0 else 143 | none => 143) else 141
theorem rturn_no1 {st : RS} {k j : Int} {m : UInt8} (h : ¬ (0 ≤ k ∧ k < st.pool.length)) : rturnS st k j m = st ∧ turnEL st.pool k j = 141 := by
  refine ⟨?_, if_neg h⟩
  unfold rturnS; split
  · rw [if_neg (fun h2 => h h2.1)]
  rfl
theorem rturn_no2 {st : RS} {k : Nat} {j : Int} {m : UInt8} {p : Pk} (hp : st.pool[k]? = some p) (h : ¬ (0 ≤ j ∧ j < p.n)) : rturnS st k j m = st ∧ turnEL st.pool k j = 143 := by
  have hk := (List.getElem?_eq_some_iff.1 hp).1
  have hp' : st.pool[(k : Int).toNat]? = some p := by simpa using hp
  refine ⟨?_, ?_⟩
  · unfold rturnS; rw [hp']; simp only; rw [if_neg (fun h2 => h h2.2)]
  unfold turnEL; rw [if_pos (by omega), hp']; simp only; rw [if_neg h]
theorem rturn_yes {st : RS} {k j : Nat} {m : UInt8} {p : Pk} (hp : st.pool[k]? = some p) (h : j < p.n) : rturnS st k j m = { st with pool := st.pool.set k { p with bs := p.bs.set j (p.bs.getD j 0 ^^^ m) } } ∧ turnEL st.pool k j = 0 := by
  have hk := (List.getElem?_eq_some_iff.1 hp).1
  have hp' : st.pool[(k : Int).toNat]? = some p := by simpa using hp
  refine ⟨?_, ?_⟩
  · unfold rturnS; rw [hp']; simp only; rw [if_pos (by omega)]; unfold turnL; simp only [Int.toNat_natCast, hp]
  unfold turnEL; rw [if_pos (by omega), hp']; simp only; rw [if_pos (by omega)]
theorem rturn_fin {W w : World} {F : List Seg} {b b1 : Nat} {st : RS} {p : Pk} {k j : Nat} {m : UInt8} {spare : List Value} (hpb : p.a = some ⟨b1, 0, none⟩) (hp : st.pool[k]? = some p) (hj : j < p.n)
    (hxl : (p.bs.map B).length = p.n * 1) (hl : (p.bs.map B).length + spare.length = p.cap * 1) (hm : p.n ≤ p.cap) (hc : p.cap ≤ maxLen)
    (H : St W w (blk0 b1 (putL (p.bs.map B ++ spare) (0 + j * 1) [B (p.bs.getD j 0 ^^^ m)]) 5 :: Segs ((st.pool.map Pk.own).eraseIdx k) :: blk b st.cells 97 ::
      row 31 3 st.pa st.pool.length st.pcap (pks st.pool) :: row 31 3 st.ra st.rc.length st.rcap (pks st.rc) :: Segs (st.rc.map Pk.own) :: F)) :
    St W w (rfL b (rturnS st k j m) F) := by
  have hk := (List.getElem?_eq_some_iff.1 hp).1
  have hbl : p.bs.length = p.n := by simpa using hxl
  rw [putL_bytes (by omega)] at H
  have H1 := St.rowShut (m := p.n) (cap := p.cap) (sz := 1) H (by simpa using hl) (by simpa using hbl) hm hc
  rw [← hpb] at H1
  have H2 := Segs.put (l := st.pool.map Pk.own) k (by simpa using hk) H1
  rw [(rturn_yes (m := m) hp hj).1]
  have e1 : pks (st.pool.set k { p with bs := p.bs.set j (p.bs.getD j 0 ^^^ m) }) = pks st.pool := pks_set_same hp rfl
  have e2 : (st.pool.set k { p with bs := p.bs.set j (p.bs.getD j 0 ^^^ m) }).map Pk.own = (st.pool.map Pk.own).set k (row 5 1 p.a p.n p.cap ((p.bs.set j (p.bs.getD j 0 ^^^ m)).map B)) := by
    rw [List.map_set]; rfl
  have H3 := H2.pick [1, 2, 0, 3, 4] (pre := [_, _, _, _, _]) rfl rfl
  unfold rfL RS.cells
  unfold RS.cells at H3
  simp only [e1, e2, List.length_set]
  exact H3
theorem rSwap_ok {W w : World} {F : List Seg} {b : Nat} {st : RS} (H : St W w (rfL b st F)) (i k : Int) :
    Ok Try.prog 63 [.pointer (some ⟨b, 0, none⟩), .int .i64 i, .int .i64 k].toArray w (fun v w' => v = .int .i64 (if (0 ≤ i ∧ i < st.pool.length) ∧ 0 ≤ k ∧ k < st.pool.length then 0 else 141) ∧ St W w' (rfL b (rswapS st i k) F)) := by
  refine enter (n := 47) (rs := #[.tmp 6]) Try.func63 rfl rfl rfl rfl ?_
  refine w_seq ?_
  refine w_region ?_
  refine l_pint rfl rfl ?_
  refine l_nil ?_
  refine w_seq ?_
  refine w_seq ?_
  refine w_region ?_
  refine l_pptr rfl rfl ?_
  refine l_v rfl (q_eqlNilF rfl pt_61 rfl rfl) ?_
  refine l_nil ?_
  refine w_cond_f rfl ?_
  refine w_skip ?_
  refine w_seq ?_
  refine w_seq ?_
  refine w_region ?_
  refine l_pptr rfl rfl ?_
  refine l_pint rfl rfl ?_
  refine b_call rfl cb_80 rfl (rHas_ok H i) (fun v w hv => ?_)
  obtain ⟨rfl, H⟩ := hv
  refine l_pbool rfl rfl ?_
  refine l_pbool rfl rfl ?_
  refine l_split 14 rfl (fun h14 => ?_) (fun h14 => ?_)
  · try simp only [sH] at h14
    refine l_no rfl ?_
    refine l_no rfl ?_
    refine l_no rfl ?_
    refine l_no rfl ?_
    refine l_pickT (v := .bool _) rfl rfl rfl ?_
    refine l_nil ?_
    refine w_cond_t rfl ?_
    refine w_seq ?_
    refine w_region ?_
    refine l_pint rfl rfl ?_
    refine l_nil ?_
    refine w_ret ?_
    refine fin1 (v := .int _ _) rfl ?_
    exact ⟨by rw [if_neg (fun h => by simp at h14; omega)], by unfold rswapS; rw [if_neg (fun h => by simp at h14; omega)]; exact H⟩
  try simp only [sH] at h14
  refine l_pptr rfl rfl ?_
  refine l_pint rfl rfl ?_
  refine b_call rfl cb_80 rfl (rHas_ok H k) (fun v w hv => ?_)
  obtain ⟨rfl, H⟩ := hv
  refine l_pbool rfl rfl ?_
  refine l_pickF (v := .bool _) rfl rfl rfl ?_
  refine l_nil ?_
  refine w_cond rfl (fun c1 => ?_) (fun c1 => ?_)
  · try simp only [sH] at c1
    refine w_seq ?_
    refine w_region ?_
    refine l_pint rfl rfl ?_
    refine l_nil ?_
    refine w_ret ?_
    refine fin1 (v := .int _ _) rfl ?_
    exact ⟨by rw [if_neg (fun h => by simp at c1; omega)], by unfold rswapS; rw [if_neg (fun h => by simp at c1; omega)]; exact H⟩
  try simp only [sH] at c1
  have hi : 0 ≤ i ∧ i < (st.pool.length : Int) := by simpa using h14
  have hk : 0 ≤ k ∧ k < (st.pool.length : Int) := by simpa using c1
  obtain ⟨i, rfl⟩ := Int.eq_ofNat_of_zero_le hi.1
  obtain ⟨k, rfl⟩ := Int.eq_ofNat_of_zero_le hk.1
  obtain ⟨p, hp⟩ : ∃ p, st.pool[i]? = some p := ⟨_, List.getElem?_eq_getElem (by omega)⟩
  obtain ⟨q, hq⟩ : ∃ q, st.pool[k]? = some q := ⟨_, List.getElem?_eq_getElem (by omega)⟩
  obtain ⟨b0, o0, hpa, hcs⟩ := pk_cells (H.rowInv (i := 1) rfl).2.2.2.2 hp
  have hif : (if (0 ≤ (i : Int) ∧ (i : Int) < st.pool.length) ∧ 0 ≤ (k : Int) ∧ (k : Int) < st.pool.length then (0 : Int) else 141) = 0 := if_pos ⟨hi, hk⟩
  refine w_skip ?_
  refine w_seq ?_
  refine w_region ?_
  refine l_pptr rfl rfl ?_
  refine l_pptr rfl rfl ?_
  refine l_v rfl (q_fieldAddr rfl fo97_2 rfl) ?_
  refine l_v rfl (q_load1 rfl c1_22 rfl (by first | exact H.cell 0 rfl rfl | exact H.cell 1 rfl rfl | exact H.cell 2 rfl rfl | exact H.cell 3 rfl rfl | exact H.cell 4 rfl rfl | exact H.cell 5 rfl rfl | exact H.cell 6 rfl rfl | exact H.cell 7 rfl rfl)) ?_
  refine l_pint rfl rfl ?_
  refine l_v rfl (q_indexSliceA rfl el_22 rfl hpa rfl (by omega)) ?_
  refine l_v rfl (q_loadN (vs := p.cells) rfl ag_31 rfl rfl hcs) ?_
  refine b_alloc rfl ze_31 rfl H (fun b7 w H => ?_)
  first | refine b_store (cs' := [_, _, _]) rfl sz_31 rfl rfl rfl rfl rfl H 0 rfl rfl rfl (fun w H => ?_) | refine b_store (cs' := [_, _, _]) rfl sz_31 rfl rfl rfl rfl rfl H 1 rfl rfl rfl (fun w H => ?_) | refine b_store (cs' := [_, _, _]) rfl sz_31 rfl rfl rfl rfl rfl H 2 rfl rfl rfl (fun w H => ?_) | refine b_store (cs' := [_, _, _]) rfl sz_31 rfl rfl rfl rfl rfl H 3 rfl rfl rfl (fun w H => ?_) | refine b_store (cs' := [_, _, _]) rfl sz_31 rfl rfl rfl rfl rfl H 4 rfl rfl rfl (fun w H => ?_) | refine b_store (cs' := [_, _, _]) rfl sz_31 rfl rfl rfl rfl rfl H 5 rfl rfl rfl (fun w H => ?_) | refine b_store (cs' := [_, _, _]) rfl sz_31 rfl rfl rfl rfl rfl H 6 rfl rfl rfl (fun w H => ?_) | refine b_store (cs' := [_, _, _]) rfl sz_31 rfl rfl rfl rfl rfl H 7 rfl rfl rfl (fun w H => ?_)
  refine l_nil ?_
  refine w_seq ?_
  refine w_drawT [13] [3, 8, 11] [(0, 0), (1, 0), (2, 0), (3, 1), (4, 0), (5, 0), (6, 0), (7, 0), (8, 1), (9, 0), (10, 0), (11, 1), (12, 0), (13, 2)] mixed (by kernel_rfl) (fun _ _ _ h => fin_panic h) H (fun H => ?_)
  refine r_pptr rfl rfl rfl ?_
  refine r_pptr rfl rfl rfl ?_
  refine r_w rfl rfl (fun w => q_fieldAddr rfl fo97_2 rfl) ?_
  refine r_v rfl rfl (fun w hS => q_load1 rfl c1_22 rfl (by first | exact hS.cell 0 rfl rfl | exact hS.cell 1 rfl rfl | exact hS.cell 2 rfl rfl | exact hS.cell 3 rfl rfl | exact hS.cell 4 rfl rfl | exact hS.cell 5 rfl rfl | exact hS.cell 6 rfl rfl | exact hS.cell 7 rfl rfl)) ?_
  refine r_pint rfl rfl rfl ?_
  refine r_pptr rfl rfl rfl ?_
  refine r_pptr rfl rfl rfl ?_
  refine r_w rfl rfl (fun w => q_fieldAddr rfl fo97_2 rfl) ?_
  refine r_v rfl rfl (fun w hS => q_load1 rfl c1_22 rfl (by first | exact hS.cell 0 rfl rfl | exact hS.cell 1 rfl rfl | exact hS.cell 2 rfl rfl | exact hS.cell 3 rfl rfl | exact hS.cell 4 rfl rfl | exact hS.cell 5 rfl rfl | exact hS.cell 6 rfl rfl | exact hS.cell 7 rfl rfl)) ?_
  refine r_pint rfl rfl rfl ?_
  refine r_w rfl rfl (fun w => q_indexSliceA rfl el_22 rfl hpa rfl (by omega)) ?_
  refine r_v rfl rfl (fun w hS => q_loadN (vs := q.cells) rfl ag_31 rfl rfl (pk_cellsA hpa ((RdIn.row (W := W) 2 rfl).use hS 0 rfl) hq)) ?_
  refine r_w rfl rfl (fun w => q_indexSliceA rfl el_22 rfl hpa rfl (by omega)) ?_
  refine r_do rfl ?_
  obtain ⟨rfl, hxl, hm, hcap, spare, hsp, H⟩ := rowOpenA hpa (H.front 2 rfl)
  refine b_store0 (vs := q.cells) rfl sz_31 rfl rfl rfl rfl rfl H 0 rfl (by simp only [length_putL, List.length_append, List.length_cons, List.length_nil, hxl, Pk.cells]; omega) (fun w H => ?_)
  refine l_nil ⟨(fun h => nomatch h), ?_⟩
  refine r_nil ?_
  refine w_seq ?_
  refine w_drawT [7] [3, 5] [(0, 0), (1, 0), (2, 0), (3, 1), (4, 0), (5, 1), (6, 0), (7, 2)] mixed (by kernel_rfl) (fun _ _ _ h => fin_panic h) H (fun H => ?_)
  refine r_pptr rfl rfl rfl ?_
  refine r_pptr rfl rfl rfl ?_
  refine r_w rfl rfl (fun w => q_fieldAddr rfl fo97_2 rfl) ?_
  refine r_v rfl rfl (fun w hS => q_load1 rfl c1_22 rfl (by first | exact hS.cell 0 rfl rfl | exact hS.cell 1 rfl rfl | exact hS.cell 2 rfl rfl | exact hS.cell 3 rfl rfl | exact hS.cell 4 rfl rfl | exact hS.cell 5 rfl rfl | exact hS.cell 6 rfl rfl | exact hS.cell 7 rfl rfl)) ?_
  refine r_pint rfl rfl rfl ?_
  refine r_v rfl rfl (fun w hS => q_loadN (vs := [_, _, _]) rfl ag_31 rfl rfl (by first | exact hS.cells 0 rfl | exact hS.cells 1 rfl | exact hS.cells 2 rfl | exact hS.cells 3 rfl | exact hS.cells 4 rfl | exact hS.cells 5 rfl | exact hS.cells 6 rfl | exact hS.cells 7 rfl)) ?_
  refine r_w rfl rfl (fun w => q_indexSliceA rfl el_22 rfl hpa rfl (by omega)) ?_
  refine r_do rfl ?_
  refine b_store0 (vs := p.cells) rfl sz_31 rfl rfl rfl rfl rfl H 0 rfl (by simp only [length_putL, List.length_append, List.length_cons, List.length_nil, hxl, Pk.cells]; omega) (fun w H => ?_)
  refine l_nil ⟨(fun h => nomatch h), ?_⟩
  refine r_nil ?_
  refine w_seq ?_
  refine w_region ?_
  refine l_pint rfl rfl ?_
  refine l_nil ?_
  refine w_ret ?_
  refine fin1 (v := .int _ _) rfl ?_
  exact ⟨by rw [hif], rswap_fin hpa hp hq hsp hm hcap H⟩
theorem rTurn_ok {W w : World} {F : List Seg} {b : Nat} {st : RS} (H : St W w (rfL b st F)) (k j : Int) (m : UInt8) :
    Ok Try.prog 62 [.pointer (some ⟨b, 0, none⟩), .int .i64 k, .int .i64 j, B m].toArray w (fun v w' => v = .int .i64 (turnEL st.pool k j) ∧ St W w' (rfL b (rturnS st k j m) F)) := by
  refine enter (n := 53) (rs := #[.tmp 8]) Try.func62 rfl rfl rfl rfl ?_
  refine w_seq ?_
  refine w_region ?_
  refine l_pint rfl rfl ?_
  refine l_nil ?_
  refine w_seq ?_
  refine w_seq ?_
  refine w_region ?_
  refine l_pptr rfl rfl ?_
  refine l_v rfl (q_eqlNilF rfl pt_61 rfl rfl) ?_
  refine l_nil ?_
  refine w_cond_f rfl ?_
  refine w_skip ?_
  refine w_seq ?_
  refine w_seq ?_
  refine w_region ?_
  refine l_pptr rfl rfl ?_
  refine l_pint rfl rfl ?_
  refine b_call rfl cb_80 rfl (rHas_ok H k) (fun v w hv => ?_)
  obtain ⟨rfl, H⟩ := hv
  refine l_pbool rfl rfl ?_
  refine l_nil ?_
  refine w_cond rfl (fun c1 => ?_) (fun c1 => ?_)
  · try simp only [sH] at c1
    refine w_seq ?_
    refine w_region ?_
    refine l_pint rfl rfl ?_
    refine l_nil ?_
    refine w_ret ?_
    refine fin1 (v := .int _ _) rfl ?_
    obtain ⟨h1, h2⟩ := rturn_no1 (m := m) (j := j) (fun h => by simp at c1; omega : ¬ (0 ≤ k ∧ k < (st.pool.length : Int)))
    exact ⟨by rw [h2], by rw [h1]; exact H⟩
  try simp only [sH] at c1
  have hk : 0 ≤ k ∧ k < (st.pool.length : Int) := by simpa using c1
  obtain ⟨k, rfl⟩ := Int.eq_ofNat_of_zero_le hk.1
  obtain ⟨p, hp⟩ : ∃ p, st.pool[k]? = some p := ⟨_, List.getElem?_eq_getElem (by omega)⟩
  obtain ⟨b0, o0, hpa, hcs⟩ := pk_cells ((RdIn.row (W := W) 1 rfl).use H 0 rfl) hp
  refine w_skip ?_
  refine w_seq ?_
  refine w_seq ?_
  refine w_region ?_
  refine l_pint rfl rfl ?_
  refine l_pbool rfl rfl ?_
  refine l_pbool rfl rfl ?_
  refine l_split 17 rfl (fun h17 => ?_) (fun h17 => ?_)
  · try simp only [sH] at h17
    refine l_no rfl ?_
    refine l_no rfl ?_
    refine l_no rfl ?_
    refine l_no rfl ?_
    refine l_no rfl ?_
    refine l_no rfl ?_
    refine l_no rfl ?_
    refine l_no rfl ?_
    refine l_no rfl ?_
    refine l_no rfl ?_
    refine l_no rfl ?_
    refine l_pickT (v := .bool _) rfl rfl rfl ?_
    refine l_nil ?_
    refine w_cond_t rfl ?_
    refine w_seq ?_
    refine w_region ?_
    refine l_pint rfl rfl ?_
    refine l_nil ?_
    refine w_ret ?_
    refine fin1 (v := .int _ _) rfl ?_
    obtain ⟨h1, h2⟩ := rturn_no2 (m := m) (j := j) hp (fun h => by omega)
    exact ⟨by rw [h2], by rw [h1]; exact H⟩
  try simp only [sH] at h17
  refine l_pint rfl rfl ?_
  refine l_pptr rfl rfl ?_
  refine l_pptr rfl rfl ?_
  refine l_v rfl (q_fieldAddr rfl fo97_2 rfl) ?_
  refine l_v rfl (q_load1 rfl c1_22 rfl (by first | exact H.cell 0 rfl rfl | exact H.cell 1 rfl rfl | exact H.cell 2 rfl rfl | exact H.cell 3 rfl rfl | exact H.cell 4 rfl rfl | exact H.cell 5 rfl rfl | exact H.cell 6 rfl rfl | exact H.cell 7 rfl rfl)) ?_
  refine l_pint rfl rfl ?_
  refine l_v rfl (q_indexSliceA rfl el_22 rfl hpa rfl hk) ?_
  refine l_v rfl (q_fieldAddr rfl fo31_2 rfl) ?_
  refine l_v rfl (q_load1 rfl c1_29 rfl (hcs.get 2 _ rfl)) ?_
  refine l_v rfl (q_lenSlice rfl el_29 rfl) ?_
  refine l_pbool rfl rfl ?_
  refine l_pickF (v := .bool _) rfl rfl rfl ?_
  refine l_nil ?_
  refine w_cond rfl (fun c2 => ?_) (fun c2 => ?_)
  · try simp only [sH] at c2
    refine w_seq ?_
    refine w_region ?_
    refine l_pint rfl rfl ?_
    refine l_nil ?_
    refine w_ret ?_
    refine fin1 (v := .int _ _) rfl ?_
    obtain ⟨h1, h2⟩ := rturn_no2 (m := m) (j := j) hp (fun h => by omega)
    exact ⟨by rw [h2], by rw [h1]; exact H⟩
  try simp only [sH] at c2
  have hj : 0 ≤ j ∧ j < (p.n : Int) := ⟨by simpa using h17, by simpa using c2⟩
  obtain ⟨j, rfl⟩ := Int.eq_ofNat_of_zero_le hj.1
  have hlen := pk_len H 2 rfl hp
  have hrd := (pk_own 2 rfl hp).use H 0 rfl
  obtain ⟨b1, o1, hpb, hcell⟩ := hrd j (B (p.bs.getD j 0)) (by rw [List.getElem?_map, List.getElem?_eq_getElem (by omega)]; simp [List.getD, List.getElem?_eq_getElem (show j < p.bs.length by omega)])
  obtain ⟨hT, hE⟩ := rturn_yes (m := m) hp (show j < p.n by omega)
  have hgt : p.bs[j]? = some (p.bs.getD j 0) := by simp [List.getD, List.getElem?_eq_getElem (show j < p.bs.length by omega)]
  refine w_skip ?_
  refine w_seq ?_
  refine w_drawT [23] [3, 7, 12, 16, 19] [(0, 0), (1, 0), (2, 0), (3, 1), (4, 0), (5, 0), (6, 0), (7, 1), (8, 0), (9, 0), (10, 0), (11, 0), (12, 1), (13, 0), (14, 0), (15, 0), (16, 1), (17, 0), (18, 0), (19, 1), (20, 0), (21, 0), (22, 0), (23, 2)] mixed (by kernel_rfl) (fun _ _ _ h => fin_panic h) H (fun H => ?_)
  refine r_pptr rfl rfl rfl ?_
  refine r_pptr rfl rfl rfl ?_
  refine r_w rfl rfl (fun w => q_fieldAddr rfl fo97_2 rfl) ?_
  refine r_v rfl rfl (fun w hS => q_load1 rfl c1_22 rfl (by first | exact hS.cell 0 rfl rfl | exact hS.cell 1 rfl rfl | exact hS.cell 2 rfl rfl | exact hS.cell 3 rfl rfl | exact hS.cell 4 rfl rfl | exact hS.cell 5 rfl rfl | exact hS.cell 6 rfl rfl | exact hS.cell 7 rfl rfl)) ?_
  refine r_pint rfl rfl rfl ?_
  refine r_w rfl rfl (fun w => q_indexSliceA rfl el_22 rfl hpa rfl hk) ?_
  refine r_w rfl rfl (fun w => q_fieldAddr rfl fo31_2 rfl) ?_
  refine r_v rfl rfl (fun w hS => q_load1 rfl c1_29 rfl ((pk_cellsA hpa ((RdIn.row (W := W) 1 rfl).use hS 0 rfl) hp).get 2 _ rfl)) ?_
  refine r_pint rfl rfl rfl ?_
  refine r_pptr rfl rfl rfl ?_
  refine r_pptr rfl rfl rfl ?_
  refine r_w rfl rfl (fun w => q_fieldAddr rfl fo97_2 rfl) ?_
  refine r_v rfl rfl (fun w hS => q_load1 rfl c1_22 rfl (by first | exact hS.cell 0 rfl rfl | exact hS.cell 1 rfl rfl | exact hS.cell 2 rfl rfl | exact hS.cell 3 rfl rfl | exact hS.cell 4 rfl rfl | exact hS.cell 5 rfl rfl | exact hS.cell 6 rfl rfl | exact hS.cell 7 rfl rfl)) ?_
  refine r_pint rfl rfl rfl ?_
  refine r_w rfl rfl (fun w => q_indexSliceA rfl el_22 rfl hpa rfl hk) ?_
  refine r_w rfl rfl (fun w => q_fieldAddr rfl fo31_2 rfl) ?_
  refine r_v rfl rfl (fun w hS => q_load1 rfl c1_29 rfl ((pk_cellsA hpa ((RdIn.row (W := W) 1 rfl).use hS 0 rfl) hp).get 2 _ rfl)) ?_
  refine r_pint rfl rfl rfl ?_
  refine r_w rfl rfl (fun w => q_indexSliceA rfl el_29 rfl hpb rfl hj) ?_
  refine r_v rfl rfl (fun w hS => q_load1 rfl c1_5 rfl (byte_cell hpb ((pk_own 2 rfl hp).use hS 0 rfl) (show j < p.bs.length by omega))) ?_
  refine r_pint rfl rfl rfl ?_
  refine r_pint rfl rfl rfl ?_
  refine r_w rfl rfl (fun w => q_indexSliceA rfl el_29 rfl hpb rfl hj) ?_
  refine r_do rfl ?_
  have H := Segs.take k (by rw [List.getElem?_map, hp]; rfl) (H.front 2 rfl)
  obtain ⟨rfl, hxl, hm, hcap, spare, hsp, H⟩ := rowOpenA hpb (show St W _ (row 5 1 p.a p.n p.cap (p.bs.map B) :: _) from H)
  refine b_store0 (vs := [B (p.bs.getD j 0 ^^^ m)]) rfl sz_5 rfl (congrArg (Value.int .u8) (xor_B (p.bs.getD j 0) m)) rfl rfl rfl H 0 rfl (by simp only [length_putL, List.length_append, List.length_cons, List.length_nil, hxl]; omega) (fun w H => ?_)
  refine l_nil ⟨(fun h => nomatch h), ?_⟩
  refine r_nil ?_
  refine w_seq ?_
  refine w_region ?_
  refine l_pint rfl rfl ?_
  refine l_nil ?_
  refine w_ret ?_
  refine fin1 (v := .int _ _) rfl ?_
  exact ⟨by rw [hE], rturn_fin hpb hp (by omega) hxl hsp hm hcap H⟩
theorem rFor_ok {W w : World} {F : List Seg} {b : Nat} {st : RS} (H : St W w (rfL b st F)) (hroom : (st.pool.length + 1) * 40 ≤ 140737488355328) (to : Int) :
    Ok Try.prog 65 [.pointer (some ⟨b, 0, none⟩), I64 to].toArray w (fun v w' => ∃ a' c', v = .slice a' (forN to st.pool st.pool.length).length c' ∧ St W w' (row 3 1 a' (forN to st.pool st.pool.length).length c' ((forN to st.pool st.pool.length).map fun i : Nat => I64 (i : Int)) :: rfL b st F)) := by
  refine enter (n := 34) (rs := #[.tmp 4]) Try.func65 rfl rfl rfl rfl ?_
  refine w_seq ?_
  refine w_region ?_
  refine l_pslice rfl rfl ?_
  refine l_nil ?_
  refine w_seq ?_
  refine w_region ?_
  refine l_pslice rfl rfl ?_
  refine l_nil ?_
  refine w_seq ?_
  refine w_seq ?_
  refine w_region ?_
  refine l_pptr rfl rfl ?_
  refine l_v rfl (q_eqlNilF rfl pt_61 rfl rfl) ?_
  refine l_nil ?_
  refine w_cond_f rfl ?_
  refine w_skip ?_
  refine w_seq ?_
  refine w_seq ?_
  refine w_region ?_
  refine l_pint rfl rfl ?_
  refine l_nil ?_
  refine w_block ?_
  refine w_loopG (G := Nat × Option Addr × Nat) [5, 6, 10, 11, 12, 13, 14, 15, 16, 17, 18, 19, 20, 21, 22, 23, 24, 25, 26, 27, 28, 29, 30, 31, 32] (fun ⟨i, a', c'⟩ => [(5, .slice a' (forN to st.pool i).length c'), (6, I64 ((i : Nat) : Int))]) (fun m ⟨i, a', c'⟩ w => m + i = st.pool.length ∧ St W w (row 3 1 a' (forN to st.pool i).length c' ((forN to st.pool i).map fun i : Nat => I64 (i : Int)) :: rfL b st F)) (fun _ => rfl) ?_ ?_
  · exact ⟨st.pool.length, (0, none, 0), ⟨rfl, rfl, trivial⟩, rfl, St.newRow (T := 3) (sz := 1) H⟩
  rintro m ⟨i, a', c'⟩ ρ1 w ⟨hmi, H⟩
  refine w_seq ?_
  refine w_seq ?_
  refine w_region ?_
  refine l_pint rfl rfl ?_
  refine l_pptr rfl rfl ?_
  refine l_pptr rfl rfl ?_
  refine l_v rfl (q_fieldAddr rfl fo97_2 rfl) ?_
  refine l_v rfl (q_load1 rfl c1_22 rfl (by first | exact H.cell 0 rfl rfl | exact H.cell 1 rfl rfl | exact H.cell 2 rfl rfl | exact H.cell 3 rfl rfl | exact H.cell 4 rfl rfl | exact H.cell 5 rfl rfl | exact H.cell 6 rfl rfl | exact H.cell 7 rfl rfl)) ?_
  refine l_v rfl (q_lenSlice rfl el_22 rfl) ?_
  refine l_pbool rfl rfl ?_
  refine l_nil ?_
  refine w_cond rfl (fun c1 => ?_) (fun c1 => ?_)
  · try simp only [sH] at c1
    obtain ⟨p, hp⟩ : ∃ p, st.pool[i]? = some p := ⟨_, List.getElem?_eq_getElem (by omega)⟩
    obtain ⟨b0, o0, hpa, hcs⟩ := pk_cells ((RdIn.row (W := W) 2 rfl).use H 0 rfl) hp
    have hlp := pk_len H 3 rfl hp
    have hfl := forN_len to st.pool i
    refine w_skip ?_
    refine w_seq ?_
    refine w_block ?_
    refine w_seq ?_
    refine w_region ?_
    refine l_pptr rfl rfl ?_
    refine l_pptr rfl rfl ?_
    refine l_v rfl (q_fieldAddr rfl fo97_2 rfl) ?_
    refine l_v rfl (q_load1 rfl c1_22 rfl (by first | exact H.cell 0 rfl rfl | exact H.cell 1 rfl rfl | exact H.cell 2 rfl rfl | exact H.cell 3 rfl rfl | exact H.cell 4 rfl rfl | exact H.cell 5 rfl rfl | exact H.cell 6 rfl rfl | exact H.cell 7 rfl rfl)) ?_
    refine l_pint rfl rfl ?_
    refine l_v rfl (q_indexSliceA rfl el_22 rfl hpa rfl (by omega)) ?_
    refine l_v rfl (q_fieldAddr rfl fo31_1 rfl) ?_
    refine l_v rfl (q_load1 rfl c1_3 rfl (hcs.get 1 _ rfl)) ?_
    refine l_pint rfl rfl ?_
    refine l_pbool rfl rfl ?_
    refine l_nil ?_
    refine w_cond rfl (fun c2 => ?_) (fun c2 => ?_)
    · try simp only [sH] at c2
      refine w_region ?_
      refine l_pslice rfl rfl ?_
      refine l_pint rfl rfl ?_
      refine b_buildSlice (cs := [_]) rfl el_23 ze_3 rfl rfl rfl H (fun b31 w H => ?_)
      refine b_append rfl el_23 ze_3 rfl rfl rfl H 1 rfl (ys := [I64 (i : Int)]) (Rd.mk (H.cells0 0 rfl)) rfl (fun u hu => by obtain rfl := List.mem_singleton.1 hu; rfl) ⟨by omega, by simp only [maxLen]; omega⟩ (fun a32 c32 w H => ?_)
      refine l_pslice rfl rfl ?_
      refine l_nil ?_
      refine w_region ?_
      refine l_pint rfl rfl ?_
      first | refine l_v rfl (q_add rfl rfl rfl (by simp only [inK]; omega)) ?_ | refine l_pint rfl rfl ?_
      refine l_pint rfl rfl ?_
      refine l_nil ?_
      refine ⟨by repeat' first | exact aM | exact aR | refine aI rfl ?_ | refine aU rfl ?_ | refine aL rfl ?_, ?_⟩
      have hst : forN to st.pool (i + 1) = forN to st.pool i ++ [i] := by rw [forN, hp]; simp [c2]
      refine ⟨m - 1, (i + 1, a32, c32), by omega, ⟨by rw [hst, List.length_append]; rfl, by exact congrArg (Value.int IntKind.i64) (Int.natCast_succ i).symm, trivial⟩, by omega, ?_⟩
      rw [hst, List.length_append, List.map_append]
      exact H.drop1
    try simp only [sH] at c2
    refine w_skip ?_
    refine w_region ?_
    refine l_pint rfl rfl ?_
    first | refine l_v rfl (q_add rfl rfl rfl (by simp only [inK]; omega)) ?_ | refine l_pint rfl rfl ?_
    refine l_pint rfl rfl ?_
    refine l_nil ?_
    refine ⟨by repeat' first | exact aM | exact aR | refine aI rfl ?_ | refine aU rfl ?_ | refine aL rfl ?_, ?_⟩
    have hst : forN to st.pool (i + 1) = forN to st.pool i := by rw [forN, hp, if_neg (by simpa using c2), List.append_nil]
    refine ⟨m - 1, (i + 1, a', c'), by omega, ⟨by rw [hst]; rfl, by exact congrArg (Value.int IntKind.i64) (Int.natCast_succ i).symm, trivial⟩, by omega, ?_⟩
    rw [hst]
    exact H
  try simp only [sH] at c1
  obtain rfl : i = st.pool.length := by omega
  refine w_exit ?_
  refine w_seq ?_
  refine w_region ?_
  refine l_pslice rfl rfl ?_
  refine l_pslice rfl rfl ?_
  refine l_nil ?_
  refine w_ret ?_
  refine fin1 (v := .slice _ _ _) rfl ?_
  exact ⟨_, _, rfl, H⟩
theorem rGenuine_ok {W w : World} {F : List Seg} {b : Nat} {st : RS} (H : St W w (rfL b st F)) (hrc : st.rc.length ≤ 140737488355328) (fr to : Int) {a : Option Addr} {n cap : Nat} {bs : List UInt8} (hr : RdIn W F a (bs.map B)) (hl : bs.length = n) :
    Ok Try.prog 68 [.pointer (some ⟨b, 0, none⟩), .agg #[.int .i64 fr, .int .i64 to, .slice a n cap]].toArray w (fun v w' => v = .bool (st.rc.any fun p => decide (p.to = to ∧ p.bs = bs)) ∧ St W w' (rfL b st F)) := by
  refine enter (n := 45) (rs := #[.tmp 4]) Try.func68 rfl rfl rfl rfl ?_
  refine w_seq ?_
  refine w_region ?_
  refine b_box (cs := [.int .i64 fr, .int .i64 to, .slice a n cap]) rfl rfl rfl H (fun b3 w H => ?_)
  refine l_pbool rfl rfl ?_
  refine l_nil ?_
  refine w_seq ?_
  refine w_seq ?_
  refine w_region ?_
  refine l_pint rfl rfl ?_
  refine l_nil ?_
  refine w_block ?_
  refine w_loopG (G := Nat) [4, 5, 6, 7, 8, 9, 10, 11, 12, 13, 14, 15, 16, 17, 18, 19, 20, 21, 22, 23, 24, 25, 26, 27, 28, 29, 30, 31, 32, 33, 34, 35, 36, 37, 38, 39, 40, 41, 42, 43, 44] (fun i => [(5, I64 ((i : Nat) : Int))]) (fun m i w => m + i = st.rc.length ∧ (∀ j < i, ∀ p, st.rc[j]? = some p → ¬ (p.to = to ∧ p.bs = bs)) ∧ St W w (blk b3 [.int .i64 fr, .int .i64 to, .slice a n cap] 31 :: rfL b st F)) (fun _ => rfl) ?_ ?_
  · exact ⟨st.rc.length, 0, ⟨rfl, trivial⟩, rfl, fun _ h => absurd h (by omega), H⟩
  rintro m i ρ1 w ⟨hmi, hno, H⟩
  refine w_seq ?_
  refine w_seq ?_
  refine w_region ?_
  refine l_pptr rfl rfl ?_
  refine l_v rfl (q_neqNilF rfl pt_61 rfl rfl) ?_
  refine l_pbool rfl rfl ?_
  refine l_pint rfl rfl ?_
  refine l_pptr rfl rfl ?_
  refine l_pptr rfl rfl ?_
  refine l_v rfl (q_fieldAddr rfl fo97_3 rfl) ?_
  refine l_v rfl (q_load1 rfl c1_22 rfl (by first | exact H.cell 0 rfl rfl | exact H.cell 1 rfl rfl | exact H.cell 2 rfl rfl | exact H.cell 3 rfl rfl | exact H.cell 4 rfl rfl | exact H.cell 5 rfl rfl | exact H.cell 6 rfl rfl)) ?_
  refine l_v rfl (q_lenSlice rfl el_22 rfl) ?_
  refine l_pbool rfl rfl ?_
  refine l_pickT (v := .bool _) rfl rfl rfl ?_
  refine l_nil ?_
  refine w_cond rfl (fun c1 => ?_) (fun c1 => ?_)
  · try simp only [sH] at c1
    obtain ⟨p, hp⟩ : ∃ p, st.rc[i]? = some p := ⟨_, List.getElem?_eq_getElem (by omega)⟩
    obtain ⟨b0, o0, hpa, hcs⟩ := pk_cells ((RdIn.row (W := W) 4 rfl).use H 0 rfl) hp
    have hlp := pk_len H 5 rfl hp
    refine w_skip ?_
    refine w_seq ?_
    refine w_block ?_
    refine w_seq ?_
    refine w_drawT [] [3, 7, 9, 15, 19, 20, 22, 23] [(0, 0), (1, 0), (2, 0), (3, 1), (4, 0), (5, 0), (6, 0), (7, 1), (8, 0), (9, 1), (10, 0), (11, 0), (12, 0), (13, 0), (14, 0), (15, 1), (16, 0), (17, 0), (18, 0), (19, 1), (20, 1), (21, 0), (22, 1), (23, 1), (24, 0), (25, 0)] mixed (by kernel_rfl) (fun _ _ _ h => fin_panic h) H (fun H => ?_)
    refine r_pptr rfl rfl rfl ?_
    refine r_pptr rfl rfl rfl ?_
    refine r_w rfl rfl (fun w => q_fieldAddr rfl fo97_3 rfl) ?_
    refine r_v rfl rfl (fun w hS => q_load1 rfl c1_22 rfl (by first | exact hS.cell 0 rfl rfl | exact hS.cell 1 rfl rfl | exact hS.cell 2 rfl rfl | exact hS.cell 3 rfl rfl | exact hS.cell 4 rfl rfl | exact hS.cell 5 rfl rfl | exact hS.cell 6 rfl rfl)) ?_
    refine r_pint rfl rfl rfl ?_
    refine r_w rfl rfl (fun w => q_indexSliceA rfl el_22 rfl hpa rfl (by omega)) ?_
    refine r_w rfl rfl (fun w => q_fieldAddr rfl fo31_1 rfl) ?_
    refine r_v rfl rfl (fun w hS => q_load1 rfl c1_3 rfl ((pk_cellsA hpa ((RdIn.row (W := W) 4 rfl).use hS 0 rfl) hp).get 1 _ rfl)) ?_
    refine r_w rfl rfl (fun w => q_fieldAddr rfl fo31_1 rfl) ?_
    refine r_v rfl rfl (fun w hS => q_load1 rfl c1_3 rfl (by first | exact hS.cell 0 rfl rfl | exact hS.cell 1 rfl rfl | exact hS.cell 2 rfl rfl | exact hS.cell 3 rfl rfl | exact hS.cell 4 rfl rfl | exact hS.cell 5 rfl rfl | exact hS.cell 6 rfl rfl)) ?_
    refine r_pbool rfl rfl rfl ?_
    refine r_pbool rfl rfl rfl ?_
    refine r_split 30 rfl (fun h30 => ?_) (fun h30 => ?_)
    · try simp only [sH] at h30
      refine r_pptr rfl rfl rfl ?_
      refine r_pptr rfl rfl rfl ?_
      refine r_w rfl rfl (fun w => q_fieldAddr rfl fo97_3 rfl) ?_
      refine r_v rfl rfl (fun w hS => q_load1 rfl c1_22 rfl (by first | exact hS.cell 0 rfl rfl | exact hS.cell 1 rfl rfl | exact hS.cell 2 rfl rfl | exact hS.cell 3 rfl rfl | exact hS.cell 4 rfl rfl | exact hS.cell 5 rfl rfl | exact hS.cell 6 rfl rfl)) ?_
      refine r_pint rfl rfl rfl ?_
      refine r_w rfl rfl (fun w => q_indexSliceA rfl el_22 rfl hpa rfl (by omega)) ?_
      refine r_w rfl rfl (fun w => q_fieldAddr rfl fo31_2 rfl) ?_
      refine r_v rfl rfl (fun w hS => q_load1 rfl c1_29 rfl ((pk_cellsA hpa ((RdIn.row (W := W) 4 rfl).use hS 0 rfl) hp).get 2 _ rfl)) ?_
      refine r_v rfl rfl (fun w hS => q_bytesStr rfl by_29 st_9 rfl ((pk_own 5 rfl hp).use hS 0 rfl) hlp.1) ?_
      refine r_w rfl rfl (fun w => q_fieldAddr rfl fo31_2 rfl) ?_
      refine r_v rfl rfl (fun w hS => q_load1 rfl c1_29 rfl (by first | exact hS.cell 0 rfl rfl | exact hS.cell 1 rfl rfl | exact hS.cell 2 rfl rfl | exact hS.cell 3 rfl rfl | exact hS.cell 4 rfl rfl | exact hS.cell 5 rfl rfl | exact hS.cell 6 rfl rfl)) ?_
      refine r_v rfl rfl (fun w hS => q_bytesStr rfl by_29 st_9 rfl ((hr.up 6 rfl).use hS 0 rfl) hl) ?_
      refine r_pbool rfl rfl rfl ?_
      refine r_pickT (v := .bool _) rfl rfl rfl rfl ?_
      refine r_nil ?_
      refine w_cond rfl (fun c2 => ?_) (fun c2 => ?_)
      · try simp only [sH] at c2
        refine w_seq ?_
        refine w_region ?_
        refine l_pbool rfl rfl ?_
        refine l_nil ?_
        refine w_ret ?_
        refine fin1 (v := .bool _) rfl ?_
        have hb : p.bs = bs := by simpa [ByteArray.toList_eq] using c2
        refine ⟨congrArg Value.bool ?_, H.erase 0⟩
        exact (List.any_eq_true.2 ⟨p, List.mem_of_getElem? hp, by simp [h30, hb]⟩).symm
      try simp only [sH] at c2
      refine w_skip ?_
      refine w_region ?_
      refine l_pint rfl rfl ?_
      first | refine l_v rfl (q_add rfl rfl rfl (by simp only [inK]; omega)) ?_ | refine l_pint rfl rfl ?_
      refine l_pint rfl rfl ?_
      refine l_nil ?_
      refine ⟨by repeat' first | exact aM | exact aR | refine aI rfl ?_ | refine aU rfl ?_ | refine aL rfl ?_, ?_⟩
      have hb : ¬ p.bs = bs := by simpa [ByteArray.toList_eq] using c2
      refine ⟨m - 1, i + 1, by omega, ⟨by exact congrArg (Value.int IntKind.i64) (Int.natCast_succ i).symm, trivial⟩, by omega, fun j hj p' hp' => ?_, H⟩
      by_cases hji : j = i
      · subst hji; obtain rfl : p = p' := by rw [hp] at hp'; exact Option.some.inj hp'
        exact fun h => hb h.2
      exact hno j (by omega) p' hp'
    try simp only [sH] at h30
    refine r_no rfl rfl ?_
    refine r_no rfl rfl ?_
    refine r_no rfl rfl ?_
    refine r_no1 rfl rfl ?_
    refine r_no rfl rfl ?_
    refine r_no rfl rfl ?_
    refine r_no rfl rfl ?_
    refine r_no1 rfl rfl ?_
    refine r_no1 rfl rfl ?_
    refine r_no rfl rfl ?_
    refine r_no1 rfl rfl ?_
    refine r_no1 rfl rfl ?_
    refine r_no rfl rfl ?_
    refine r_pickF (v := .bool _) rfl rfl rfl rfl ?_
    refine r_nil ?_
    refine w_cond_f rfl ?_
    refine w_skip ?_
    refine w_region ?_
    refine l_pint rfl rfl ?_
    first | refine l_v rfl (q_add rfl rfl rfl (by simp only [inK]; omega)) ?_ | refine l_pint rfl rfl ?_
    refine l_pint rfl rfl ?_
    refine l_nil ?_
    refine ⟨by repeat' first | exact aM | exact aR | refine aI rfl ?_ | refine aU rfl ?_ | refine aL rfl ?_, ?_⟩
    refine ⟨m - 1, i + 1, by omega, ⟨by exact congrArg (Value.int IntKind.i64) (Int.natCast_succ i).symm, trivial⟩, by omega, fun j hj p' hp' => ?_, H⟩
    by_cases hji : j = i
    · subst hji; obtain rfl : p = p' := by rw [hp] at hp'; exact Option.some.inj hp'
      exact fun h => h30 h.1
    exact hno j (by omega) p' hp'
  try simp only [sH] at c1
  refine w_exit ?_
  refine w_seq ?_
  refine w_region ?_
  refine l_pbool rfl rfl ?_
  refine l_nil ?_
  refine w_ret ?_
  refine fin1 (v := .bool _) rfl ?_
  refine ⟨congrArg Value.bool ?_, H.erase 0⟩
  refine (List.any_eq_false.2 (fun p hp => ?_)).symm
  obtain ⟨j, hj, hjp⟩ := List.getElem_of_mem hp
  simpa using hno j (by simp at c1; omega) p (by rw [List.getElem?_eq_getElem hj, hjp])
end Go.Proofs.Ytmgcmgfjaimlnaa
