/- does: one call of a script on both nets answers true and keeps the relation; for at most 1000000000 calls. -/
import Derived.Test.YtmgcmgfjaimlnaaNet30
namespace Go.Proofs.Ytmgcmgfjaimlnaa
open Go.EW
attribute [local irreducible] EW.W EW.L EW.fin
set_option linter.unusedVariables false
set_option linter.unusedSimpArgs false
theorem nets_mono {W w : World} {F : List Seg} {b b' bk N M : Nat} {st : NetS} {r : RS} (H : St W w (netL b st (rfL b' r (bkX bk N :: F)))) (h : N ≤ M) : St W w (netL b st (rfL b' r (bkX bk M :: F))) :=
  St.pick [1, 2, 3, 4, 5, 6, 7, 8, 9, 10, 11, 12, 0] (pre := [_, _, _, _, _, _, _, _, _, _, _, _, _]) rfl (bk_mono (M := M) (St.pick [12, 0, 1, 2, 3, 4, 5, 6, 7, 8, 9, 10, 11] (pre := [_, _, _, _, _, _, _, _, _, _, _, _, _]) rfl H rfl) h) rfl
theorem own_rd {W : World} {S : List Seg} {x : Tx} {bs : List UInt8} (i : Nat) (hi : S[i]? = some (Segs ([x].map Tx.seg))) (hx : x.bs = bs ++ [90]) : RdIn W S x.a (bs.map B) := by
  have h := rdin_head (c := x.c) (n := bs.length) (RdIn.segs (W := W) i hi 0 rfl : RdIn W S x.a (x.bs.map B))
  rw [subA_z, hx, List.take_left] at h
  exact h
theorem own_start {W w : World} {S : List Seg} {x : Tx} {bs : List UInt8} {n : Nat} (H : St W w (Segs ([x].map Tx.seg) :: S)) (hx : x.bs = bs ++ [90]) (hn : bs.length = n) : St W w (row 5 1 x.a (n + 1) x.c ((bs ++ [90]).map B) :: S) := by
  have H := (St.consseg.1 H).erase 1
  have e : x.seg = row 5 1 x.a (n + 1) x.c ((bs ++ [90]).map B) := by unfold Tx.seg; rw [hx, List.length_append, hn]; rfl
  rw [← e]; exact H
theorem own_len {W w : World} {S : List Seg} {q : Pk} (H : St W w (q.own :: S)) : q.bs.length = q.n := by
  have := (H.rowInv (i := 0) rfl).1
  simpa using this
set_option maxRecDepth 8000 in
set_option maxHeartbeats 2000000 in
theorem does_ok {W w : World} {F : List Seg} {b b' bk N i : Nat} {st : NetS} {r : RS} {o : OpS} (H : St W w (netL b st (rfL b' r (bkX bk N :: F)))) (hP : Pl st r i) (hi : i ≤ 1000000000) (hN : N + i + 1 ≤ 2000000000000) (hro : RdIn W F o.pk.a (o.pk.bs.map B)) (hol : o.pk.bs.length = o.pk.n) (hon : o.pk.n ≤ 140737488355328) :
    Ok Try.prog 36 [.pointer (some ⟨b, 0, none⟩), .pointer (some ⟨b', 0, none⟩), .agg o.cells.toArray, .pointer (some ⟨bk, 0, none⟩)].toArray w (fun v w' => v = .bool true ∧ ∃ st1 r1 M, Pl st1 r1 (i + 1) ∧ (10 ≤ o.kind → st1 = st ∧ r1 = r) ∧ (M ≤ N + i + 1 ∧ (10 ≤ o.kind → o.kind ≤ 13 → M ≤ N + 1)) ∧ St W w' (netL b st1 (rfL b' r1 (bkX bk M :: F)))) := by
  have hpl := hP.pl
  have hrl := hP.rl
  refine enter (n := 278) (rs := #[.tmp 8]) Try.func36 rfl rfl rfl rfl ?_
  refine w_seq ?_
  refine w_region ?_
  refine b_box (cs := o.cells) rfl rfl rfl H (fun b6 w H => ?_)
  refine l_pbool rfl rfl ?_
  refine l_nil ?_
  refine w_seq ?_
  refine w_region ?_
  refine l_v rfl (q_fieldAddr rfl fo41_1 rfl) ?_
  refine l_v rfl (q_load1 rfl c1_3 rfl (by first | exact H.cell 0 rfl rfl | exact H.cell 1 rfl rfl | exact H.cell 2 rfl rfl | exact H.cell 3 rfl rfl | exact H.cell 4 rfl rfl | exact H.cell 5 rfl rfl | exact H.cell 6 rfl rfl | exact H.cell 7 rfl rfl | exact H.cell 8 rfl rfl | exact H.cell 9 rfl rfl | exact H.cell 10 rfl rfl | exact H.cell 11 rfl rfl | exact H.cell 12 rfl rfl | exact H.cell 13 rfl rfl | exact H.cell 14 rfl rfl | exact H.cell 15 rfl rfl | exact H.cell 16 rfl rfl | exact H.cell 17 rfl rfl | exact H.cell 18 rfl rfl | exact H.cell 19 rfl rfl | exact H.cell 20 rfl rfl | exact H.cell 21 rfl rfl | exact H.cell 22 rfl rfl | exact H.cell 23 rfl rfl)) ?_
  refine l_pint rfl rfl ?_
  refine l_nil ?_
  refine w_cutG (G := Int) [9, 10, 37, 38, 39, 40, 41, 42, 43, 44, 45, 46, 47, 48, 49, 50, 51, 52, 53, 54, 55] (fun k => [(9, .int .i64 k)]) (fun k w => St W w (blk b6 o.cells 41 :: netL b st (rfL b' r (bkX bk N :: F)))) (fun _ => rfl) ?_ ?_
  · refine w_seq ?_
    refine w_region ?_
    refine l_v rfl (q_fieldAddr rfl fo41_5 rfl) ?_
    refine l_v rfl (q_load1 rfl c1_4 rfl (by first | exact H.cell 0 rfl rfl | exact H.cell 1 rfl rfl | exact H.cell 2 rfl rfl | exact H.cell 3 rfl rfl | exact H.cell 4 rfl rfl | exact H.cell 5 rfl rfl | exact H.cell 6 rfl rfl | exact H.cell 7 rfl rfl | exact H.cell 8 rfl rfl | exact H.cell 9 rfl rfl | exact H.cell 10 rfl rfl | exact H.cell 11 rfl rfl | exact H.cell 12 rfl rfl | exact H.cell 13 rfl rfl | exact H.cell 14 rfl rfl | exact H.cell 15 rfl rfl | exact H.cell 16 rfl rfl | exact H.cell 17 rfl rfl | exact H.cell 18 rfl rfl | exact H.cell 19 rfl rfl | exact H.cell 20 rfl rfl | exact H.cell 21 rfl rfl | exact H.cell 22 rfl rfl | exact H.cell 23 rfl rfl)) ?_
    refine l_nil ?_
    refine w_cond rfl (fun c1 => ?_) (fun c1 => ?_)
    · try simp only [sH] at c1
      refine w_seq ?_
      refine w_region ?_
      refine l_pptr rfl rfl ?_
      refine b_call rfl cb_40 rfl (qLen_ok (b' := b') (r := r) (st := st) (St.pick [8, 9, 10, 11, 12, 0, 1, 2, 3, 4, 5, 6, 7, 13] (pre := [_, _, _, _, _, _, _, _, _, _, _, _, _, _]) rfl H rfl) hP) (fun v w hv => ?_)
      obtain ⟨rfl, H⟩ := hv
      have H := St.pick [5, 6, 7, 8, 9, 10, 11, 12, 0, 1, 2, 3, 4, 13] (pre := [_, _, _, _, _, _, _, _, _, _, _, _, _, _]) rfl H rfl
      refine l_pint rfl rfl ?_
      refine l_nil ?_
      refine w_cutG (G := Nat) [10, 41, 42, 43, 44, 45] (fun mm => [(10, .int .i64 ((mm : Nat) : Int))]) (fun mm w => mm ≤ i ∧ St W w (blk b6 o.cells 41 :: netL b st (rfL b' r (bkX bk N :: F)))) (fun _ => rfl) ?_ ?_
      · refine w_seq ?_
        refine w_region ?_
        refine l_v rfl (q_fieldAddr rfl fo41_0 rfl) ?_
        refine l_v rfl (q_load1 rfl c1_3 rfl (by first | exact H.cell 0 rfl rfl | exact H.cell 1 rfl rfl | exact H.cell 2 rfl rfl | exact H.cell 3 rfl rfl | exact H.cell 4 rfl rfl | exact H.cell 5 rfl rfl | exact H.cell 6 rfl rfl | exact H.cell 7 rfl rfl | exact H.cell 8 rfl rfl | exact H.cell 9 rfl rfl | exact H.cell 10 rfl rfl | exact H.cell 11 rfl rfl | exact H.cell 12 rfl rfl | exact H.cell 13 rfl rfl | exact H.cell 14 rfl rfl | exact H.cell 15 rfl rfl | exact H.cell 16 rfl rfl | exact H.cell 17 rfl rfl | exact H.cell 18 rfl rfl | exact H.cell 19 rfl rfl | exact H.cell 20 rfl rfl | exact H.cell 21 rfl rfl | exact H.cell 22 rfl rfl | exact H.cell 23 rfl rfl)) ?_
        refine l_pbool rfl rfl ?_
        refine l_nil ?_
        refine w_cond rfl (fun c2 => ?_) (fun c2 => ?_)
        · try simp only [sH] at c2
          refine w_region ?_
          refine l_pptr rfl rfl ?_
          refine b_call rfl cb_38 rfl (qSent_ok (b' := b') (r := r) (st := st) (St.pick [8, 9, 10, 11, 12, 0, 1, 2, 3, 4, 5, 6, 7, 13] (pre := [_, _, _, _, _, _, _, _, _, _, _, _, _, _]) rfl H rfl) hP) (fun v w hv => ?_)
          obtain ⟨rfl, H⟩ := hv
          have H := St.pick [5, 6, 7, 8, 9, 10, 11, 12, 0, 1, 2, 3, 4, 13] (pre := [_, _, _, _, _, _, _, _, _, _, _, _, _, _]) rfl H rfl
          refine l_pint rfl rfl ?_
          refine l_nil ?_
          refine ⟨by repeat' first | exact aM | exact aR | refine aI rfl ?_ | refine aU rfl ?_ | refine aL rfl ?_, ?_⟩
          exact ⟨st.record.length, ⟨rfl, trivial⟩, hrl, H⟩
        try simp only [sH] at c2
        refine w_skip ?_
        refine ⟨by repeat' first | exact aM | exact aR | refine aI rfl ?_ | refine aU rfl ?_ | refine aL rfl ?_, ?_⟩
        exact ⟨st.pool.length, ⟨rfl, trivial⟩, hpl, H⟩
      rintro mm ρ1 w ⟨hmm, H⟩
      refine w_seq ?_
      refine w_region ?_
      refine l_pint rfl rfl ?_
      refine l_pbool rfl rfl ?_
      refine l_nil ?_
      refine w_cond rfl (fun c3 => ?_) (fun c3 => ?_)
      · try simp only [sH] at c3
        obtain ⟨hx1, hx2⟩ := tmod_bd o.k (show (0:Int) < (mm:Int) by omega)
        refine w_seq ?_
        refine w_region ?_
        refine l_pint rfl rfl ?_
        refine l_pint rfl rfl ?_
        refine l_v rfl (q_rem rfl rfl rfl (by omega)) ?_
        refine l_pint rfl rfl ?_
        refine l_nil ?_
        refine w_seq ?_
        refine w_region ?_
        refine l_pint rfl rfl ?_
        refine l_pbool rfl rfl ?_
        refine l_nil ?_
        refine w_cond rfl (fun c4 => ?_) (fun c4 => ?_)
        · try simp only [sH] at c4
          refine w_region ?_
          refine l_pint rfl rfl ?_
          refine l_pint rfl rfl ?_
          first | refine l_v rfl (q_add rfl rfl rfl (by simp only [inK]; omega)) ?_ | refine l_pint rfl rfl ?_
          refine l_pint rfl rfl ?_
          refine l_nil ?_
          refine ⟨by repeat' first | exact aM | exact aR | refine aI rfl ?_ | refine aU rfl ?_ | refine aL rfl ?_, ?_⟩
          exact ⟨_, ⟨rfl, trivial⟩, H⟩
        try simp only [sH] at c4
        refine w_skip ?_
        refine ⟨by repeat' first | exact aM | exact aR | refine aI rfl ?_ | refine aU rfl ?_ | refine aL rfl ?_, ?_⟩
        exact ⟨_, ⟨rfl, trivial⟩, H⟩
      try simp only [sH] at c3
      refine w_skip ?_
      refine ⟨by repeat' first | exact aM | exact aR | refine aI rfl ?_ | refine aU rfl ?_ | refine aL rfl ?_, ?_⟩
      exact ⟨_, ⟨rfl, trivial⟩, H⟩
    try simp only [sH] at c1
    refine w_skip ?_
    refine ⟨by repeat' first | exact aM | exact aR | refine aI rfl ?_ | refine aU rfl ?_ | refine aL rfl ?_, ?_⟩
    exact ⟨_, ⟨rfl, trivial⟩, H⟩
  rintro k ρ1 w H
  refine w_seq ?_
  refine w_region ?_
  refine b_alloc (cs := gcells gp0) rfl ze_100 rfl H (fun b11 w H => ?_)
  have H := given0 H
  refine l_nil ?_
  refine w_seq ?_
  refine w_region ?_
  refine l_v rfl (q_fieldAddr rfl fo41_4 rfl) ?_
  refine l_v rfl (q_loadN (vs := [.int .i64 o.pk.fr, .int .i64 o.pk.to, .slice o.pk.a o.pk.n o.pk.cap]) rfl ag_31 rfl rfl ((H.cells 5 rfl).sub 4 3)) ?_
  refine b_call rfl cb_54 rfl (GPacket_ok H o.pk.fr o.pk.to (hro.up 14 rfl) hol hon) (fun v w hv => ?_)
  obtain ⟨ga, gc, wa, wc, x, y, hx, hy, rfl, hxc, H⟩ := hv
  rw [subA_z]
  refine b_alloc rfl ze_31 rfl H (fun b12 w H => ?_)
  refine b_store (cs' := [.int .i64 o.pk.fr, .int .i64 o.pk.to, .slice x.a o.pk.n x.c]) rfl sz_31 rfl rfl rfl rfl rfl H 0 rfl rfl rfl (fun w H => ?_)
  refine l_nil ?_
  refine w_seq ?_
  refine w_seq ?_
  refine w_region ?_
  refine l_v rfl (q_fieldAddr rfl fo41_0 rfl) ?_
  refine l_v rfl (q_load1 rfl c1_3 rfl (by first | exact H.cell 0 rfl rfl | exact H.cell 1 rfl rfl | exact H.cell 2 rfl rfl | exact H.cell 3 rfl rfl | exact H.cell 4 rfl rfl | exact H.cell 5 rfl rfl | exact H.cell 6 rfl rfl | exact H.cell 7 rfl rfl | exact H.cell 8 rfl rfl | exact H.cell 9 rfl rfl | exact H.cell 10 rfl rfl | exact H.cell 11 rfl rfl | exact H.cell 12 rfl rfl | exact H.cell 13 rfl rfl | exact H.cell 14 rfl rfl | exact H.cell 15 rfl rfl | exact H.cell 16 rfl rfl | exact H.cell 17 rfl rfl | exact H.cell 18 rfl rfl | exact H.cell 19 rfl rfl | exact H.cell 20 rfl rfl | exact H.cell 21 rfl rfl | exact H.cell 22 rfl rfl | exact H.cell 23 rfl rfl)) ?_
  refine l_nil ?_
  refine w_block ?_
  refine w_seq ?_
  refine w_region ?_
  refine l_pbool rfl rfl ?_
  refine l_pbool rfl rfl ?_
  refine l_nil ?_
  refine w_cond rfl (fun c5 => ?_) (fun c5 => ?_)
  · try simp only [sH] at c5
    refine w_seq ?_
    refine w_region ?_
    refine l_pptr rfl rfl ?_
    refine l_v rfl (q_loadN (vs := [_, _, _]) rfl ag_31 rfl rfl (by first | exact H.cells 0 rfl | exact H.cells 1 rfl | exact H.cells 2 rfl | exact H.cells 3 rfl | exact H.cells 4 rfl | exact H.cells 5 rfl | exact H.cells 6 rfl | exact H.cells 7 rfl | exact H.cells 8 rfl | exact H.cells 9 rfl | exact H.cells 10 rfl | exact H.cells 11 rfl | exact H.cells 12 rfl | exact H.cells 13 rfl | exact H.cells 14 rfl | exact H.cells 15 rfl | exact H.cells 16 rfl | exact H.cells 17 rfl | exact H.cells 18 rfl | exact H.cells 19 rfl | exact H.cells 20 rfl | exact H.cells 21 rfl | exact H.cells 22 rfl | exact H.cells 23 rfl)) ?_
    refine b_call rfl cb_19 rfl (pSend_ok (b := b) (st := st) (St.pick [7, 8, 9, 10, 11, 12, 13, 0, 1, 2, 3, 4, 5, 6, 14, 15, 16, 17, 18, 19] (pre := [_, _, _, _, _, _, _, _, _, _, _, _, _, _, _, _, _, _, _, _]) rfl H rfl) hP hi o.pk.fr o.pk.to (own_rd 4 rfl hx) hol) (fun v w hv => ?_)
    obtain ⟨rfl, st1, hs, H⟩ := hv
    refine l_pint rfl rfl ?_
    refine l_nil ?_
    refine w_seq ?_
    refine w_region ?_
    refine l_pptr rfl rfl ?_
    refine l_v rfl (q_fieldAddr rfl fo41_4 rfl) ?_
    refine l_v rfl (q_loadN (vs := [.int .i64 o.pk.fr, .int .i64 o.pk.to, .slice o.pk.a o.pk.n o.pk.cap]) rfl ag_31 rfl rfl ((H.cells 13 rfl).sub 4 3)) ?_
    refine b_call rfl cb_55 rfl (qSend_ok (b' := b') (r := r) (St.pick [14, 15, 16, 17, 18, 0, 1, 2, 3, 4, 5, 6, 7, 8, 9, 10, 11, 12, 13, 19] (pre := [_, _, _, _, _, _, _, _, _, _, _, _, _, _, _, _, _, _, _, _]) rfl H rfl) hP hi hs (hro.up 15 rfl) hol) (fun v w hv => ?_)
    obtain ⟨rfl, r1, hP1, H⟩ := hv
    refine l_pint rfl rfl ?_
    refine l_nil ?_
    refine w_seq ?_
    refine w_region ?_
    refine b_call rfl cb_56 rfl (Intact_ok (gb := b11) (g := ⟨ga, gc, wa, wc, [x], [y]⟩) (St.pick [13, 14, 15, 16, 17, 0, 1, 2, 3, 4, 5, 6, 7, 8, 9, 10, 11, 12, 18, 19] (pre := [_, _, _, _, _, _, _, _, _, _, _, _, _, _, _, _, _, _, _, _]) rfl H rfl) (by unfold GOk; simp [hx, hy]) (by simp)) (fun v w hv => ?_)
    obtain ⟨rfl, H⟩ := hv
    refine l_pbool rfl rfl ?_
    refine l_nil ?_
    refine w_seq ?_
    refine w_seq ?_
    refine w_region ?_
    refine l_pint rfl rfl ?_
    refine l_nil ?_
    refine w_block ?_
    refine w_loopG (G := Nat × List UInt8) [16, 71, 72, 73, 74, 75, 76, 77, 78, 79, 80, 81] (fun ⟨j, ys⟩ => [(16, I64 ((j : Nat) : Int))]) (fun m ⟨j, ys⟩ w => m + j = o.pk.n ∧ ys.length = o.pk.n + 1 ∧ St W w (row 5 1 x.a (o.pk.n + 1) x.c (ys.map B) :: blk b12 [.int .i64 o.pk.fr, .int .i64 o.pk.to, .slice x.a o.pk.n x.c] 31 :: netL b st1 (rfL b' r1 (bkX bk N :: F)))) (fun _ => rfl) ?_ ?_
    · exact ⟨o.pk.n, (0, o.pk.bs ++ [90]), ⟨rfl, trivial⟩, rfl, by simp [hol], own_start (St.pick [3, 17, 10, 11, 12, 13, 14, 15, 16, 5, 6, 7, 8, 9, 19] (pre := [_, _, _, _, _, _, _, _, _, _, _, _, _, _, _, _, _, _, _, _]) rfl H rfl) hx hol⟩
    rintro m ⟨j, ys⟩ ρ1 w ⟨hmj, hys, H⟩
    refine w_seq ?_
    refine w_seq ?_
    refine w_region ?_
    refine l_pint rfl rfl ?_
    refine l_v rfl (q_fieldAddr rfl fo31_2 rfl) ?_
    refine l_v rfl (q_load1 rfl c1_29 rfl (by first | exact H.cell 0 rfl rfl | exact H.cell 1 rfl rfl | exact H.cell 2 rfl rfl | exact H.cell 3 rfl rfl | exact H.cell 4 rfl rfl | exact H.cell 5 rfl rfl | exact H.cell 6 rfl rfl | exact H.cell 7 rfl rfl | exact H.cell 8 rfl rfl | exact H.cell 9 rfl rfl | exact H.cell 10 rfl rfl | exact H.cell 11 rfl rfl | exact H.cell 12 rfl rfl | exact H.cell 13 rfl rfl | exact H.cell 14 rfl rfl | exact H.cell 15 rfl rfl | exact H.cell 16 rfl rfl | exact H.cell 17 rfl rfl | exact H.cell 18 rfl rfl | exact H.cell 19 rfl rfl | exact H.cell 20 rfl rfl | exact H.cell 21 rfl rfl | exact H.cell 22 rfl rfl | exact H.cell 23 rfl rfl)) ?_
    refine l_v rfl (q_lenSlice rfl el_29 rfl) ?_
    refine l_pbool rfl rfl ?_
    refine l_nil ?_
    refine w_cond rfl (fun c6 => ?_) (fun c6 => ?_)
    · try simp only [sH] at c6
      have hyj : (ys.map B)[j]? = some (B (ys[j]'(by omega))) := by rw [List.getElem?_map, List.getElem?_eq_getElem (by omega)]; rfl
      obtain ⟨xb, hxa, _⟩ := row_addr H (i := 0) rfl hyj
      refine w_skip ?_
      refine w_seq ?_
      refine w_block ?_
      refine w_region ?_
      refine l_v rfl (q_fieldAddr rfl fo31_2 rfl) ?_
      refine l_v rfl (q_load1 rfl c1_29 rfl (by first | exact H.cell 0 rfl rfl | exact H.cell 1 rfl rfl | exact H.cell 2 rfl rfl | exact H.cell 3 rfl rfl | exact H.cell 4 rfl rfl | exact H.cell 5 rfl rfl | exact H.cell 6 rfl rfl | exact H.cell 7 rfl rfl | exact H.cell 8 rfl rfl | exact H.cell 9 rfl rfl | exact H.cell 10 rfl rfl | exact H.cell 11 rfl rfl | exact H.cell 12 rfl rfl | exact H.cell 13 rfl rfl | exact H.cell 14 rfl rfl | exact H.cell 15 rfl rfl | exact H.cell 16 rfl rfl | exact H.cell 17 rfl rfl | exact H.cell 18 rfl rfl | exact H.cell 19 rfl rfl | exact H.cell 20 rfl rfl | exact H.cell 21 rfl rfl | exact H.cell 22 rfl rfl | exact H.cell 23 rfl rfl)) ?_
      refine l_pint rfl rfl ?_
      refine l_v rfl (q_indexSliceA rfl el_29 rfl hxa rfl (by omega)) ?_
      refine b_storeRow (vs := [B 51]) (xs' := (ys.set j 51).map B) rfl sz_5 rfl rfl rfl rfl rfl H 0 rfl hxa (by simp [hys]; omega) (by rw [Nat.zero_add, Nat.mul_one, List.map_set]; rfl) (fun w H => ?_)
      refine l_nil ?_
      refine w_region ?_
      refine l_pint rfl rfl ?_
      first | refine l_v rfl (q_add rfl rfl rfl (by simp only [inK]; omega)) ?_ | refine l_pint rfl rfl ?_
      refine l_pint rfl rfl ?_
      refine l_nil ?_
      refine ⟨by repeat' first | exact aM | exact aR | refine aI rfl ?_ | refine aU rfl ?_ | refine aL rfl ?_, ?_⟩
      exact ⟨m - 1, (j + 1, ys.set j 51), by omega, ⟨by exact congrArg (Value.int IntKind.i64) (Int.natCast_succ j).symm, trivial⟩, by omega, by rw [List.length_set]; exact hys, H⟩
    try simp only [sH] at c6
    refine w_exit ?_
    refine w_seq ?_
    refine w_region ?_
    refine l_pint rfl rfl ?_
    refine l_pint rfl rfl ?_
    refine l_pbool rfl rfl ?_
    refine l_pbool rfl rfl ?_
    refine l_split 85 rfl (fun h85 => ?_) (fun h85 => absurd h85 (by simp))
    try simp only [sH] at h85
    refine l_pbool rfl rfl ?_
    refine l_pickT (v := .bool _) rfl rfl rfl ?_
    refine l_pbool rfl rfl ?_
    refine l_nil ?_
    refine w_ret ?_
    refine fin1 (v := .bool _) rfl ?_
    exact ⟨rfl, st1, r1, N, hP1, fun h => by omega, ⟨by omega, fun h1 h2 => by omega⟩, St.pick [2, 3, 4, 5, 6, 7, 8, 9, 10, 11, 12, 13, 14] (pre := [_, _, _, _, _, _, _, _, _, _, _, _, _, _, _]) rfl H rfl⟩
  try simp only [sH] at c5
  refine w_seq ?_
  refine w_region ?_
  refine l_pbool rfl rfl ?_
  refine l_pbool rfl rfl ?_
  refine l_nil ?_
  refine w_cond rfl (fun c7 => ?_) (fun c7 => ?_)
  · try simp only [sH] at c7
    refine w_seq ?_
    refine w_region ?_
    refine l_pptr rfl rfl ?_
    refine l_v rfl (q_loadN (vs := [_, _, _]) rfl ag_31 rfl rfl (by first | exact H.cells 0 rfl | exact H.cells 1 rfl | exact H.cells 2 rfl | exact H.cells 3 rfl | exact H.cells 4 rfl | exact H.cells 5 rfl | exact H.cells 6 rfl | exact H.cells 7 rfl | exact H.cells 8 rfl | exact H.cells 9 rfl | exact H.cells 10 rfl | exact H.cells 11 rfl | exact H.cells 12 rfl | exact H.cells 13 rfl | exact H.cells 14 rfl | exact H.cells 15 rfl | exact H.cells 16 rfl | exact H.cells 17 rfl | exact H.cells 18 rfl | exact H.cells 19 rfl | exact H.cells 20 rfl | exact H.cells 21 rfl | exact H.cells 22 rfl | exact H.cells 23 rfl)) ?_
    refine b_call rfl cb_31 rfl (pInject_ok (b := b) (st := st) (St.pick [7, 8, 9, 10, 11, 12, 13, 0, 1, 2, 3, 4, 5, 6, 14, 15, 16, 17, 18, 19] (pre := [_, _, _, _, _, _, _, _, _, _, _, _, _, _, _, _, _, _, _, _]) rfl H rfl) hP hi o.pk.fr o.pk.to (own_rd 4 rfl hx) hol) (fun v w hv => ?_)
    obtain ⟨rfl, st1, hs, H⟩ := hv
    refine l_pint rfl rfl ?_
    refine l_nil ?_
    refine w_seq ?_
    refine w_region ?_
    refine l_pptr rfl rfl ?_
    refine l_v rfl (q_fieldAddr rfl fo41_4 rfl) ?_
    refine l_v rfl (q_loadN (vs := [.int .i64 o.pk.fr, .int .i64 o.pk.to, .slice o.pk.a o.pk.n o.pk.cap]) rfl ag_31 rfl rfl ((H.cells 13 rfl).sub 4 3)) ?_
    refine b_call rfl cb_57 rfl (qInject_ok (b' := b') (r := r) (St.pick [14, 15, 16, 17, 18, 0, 1, 2, 3, 4, 5, 6, 7, 8, 9, 10, 11, 12, 13, 19] (pre := [_, _, _, _, _, _, _, _, _, _, _, _, _, _, _, _, _, _, _, _]) rfl H rfl) hP hi hs (hro.up 15 rfl) hol) (fun v w hv => ?_)
    obtain ⟨rfl, r1, hP1, H⟩ := hv
    refine l_pint rfl rfl ?_
    refine l_nil ?_
    refine w_seq ?_
    refine w_region ?_
    refine b_call rfl cb_56 rfl (Intact_ok (gb := b11) (g := ⟨ga, gc, wa, wc, [x], [y]⟩) (St.pick [13, 14, 15, 16, 17, 0, 1, 2, 3, 4, 5, 6, 7, 8, 9, 10, 11, 12, 18, 19] (pre := [_, _, _, _, _, _, _, _, _, _, _, _, _, _, _, _, _, _, _, _]) rfl H rfl) (by unfold GOk; simp [hx, hy]) (by simp)) (fun v w hv => ?_)
    obtain ⟨rfl, H⟩ := hv
    refine l_pbool rfl rfl ?_
    refine l_nil ?_
    refine w_seq ?_
    refine w_seq ?_
    refine w_region ?_
    refine l_pint rfl rfl ?_
    refine l_nil ?_
    refine w_block ?_
    refine w_loopG (G := Nat × List UInt8) [20, 98, 99, 100, 101, 102, 103, 104, 105, 106, 107, 108] (fun ⟨j, ys⟩ => [(20, I64 ((j : Nat) : Int))]) (fun m ⟨j, ys⟩ w => m + j = o.pk.n ∧ ys.length = o.pk.n + 1 ∧ St W w (row 5 1 x.a (o.pk.n + 1) x.c (ys.map B) :: blk b12 [.int .i64 o.pk.fr, .int .i64 o.pk.to, .slice x.a o.pk.n x.c] 31 :: netL b st1 (rfL b' r1 (bkX bk N :: F)))) (fun _ => rfl) ?_ ?_
    · exact ⟨o.pk.n, (0, o.pk.bs ++ [90]), ⟨rfl, trivial⟩, rfl, by simp [hol], own_start (St.pick [3, 17, 10, 11, 12, 13, 14, 15, 16, 5, 6, 7, 8, 9, 19] (pre := [_, _, _, _, _, _, _, _, _, _, _, _, _, _, _, _, _, _, _, _]) rfl H rfl) hx hol⟩
    rintro m ⟨j, ys⟩ ρ1 w ⟨hmj, hys, H⟩
    refine w_seq ?_
    refine w_seq ?_
    refine w_region ?_
    refine l_pint rfl rfl ?_
    refine l_v rfl (q_fieldAddr rfl fo31_2 rfl) ?_
    refine l_v rfl (q_load1 rfl c1_29 rfl (by first | exact H.cell 0 rfl rfl | exact H.cell 1 rfl rfl | exact H.cell 2 rfl rfl | exact H.cell 3 rfl rfl | exact H.cell 4 rfl rfl | exact H.cell 5 rfl rfl | exact H.cell 6 rfl rfl | exact H.cell 7 rfl rfl | exact H.cell 8 rfl rfl | exact H.cell 9 rfl rfl | exact H.cell 10 rfl rfl | exact H.cell 11 rfl rfl | exact H.cell 12 rfl rfl | exact H.cell 13 rfl rfl | exact H.cell 14 rfl rfl | exact H.cell 15 rfl rfl | exact H.cell 16 rfl rfl | exact H.cell 17 rfl rfl | exact H.cell 18 rfl rfl | exact H.cell 19 rfl rfl | exact H.cell 20 rfl rfl | exact H.cell 21 rfl rfl | exact H.cell 22 rfl rfl | exact H.cell 23 rfl rfl)) ?_
    refine l_v rfl (q_lenSlice rfl el_29 rfl) ?_
    refine l_pbool rfl rfl ?_
    refine l_nil ?_
    refine w_cond rfl (fun c8 => ?_) (fun c8 => ?_)
    · try simp only [sH] at c8
      have hyj : (ys.map B)[j]? = some (B (ys[j]'(by omega))) := by rw [List.getElem?_map, List.getElem?_eq_getElem (by omega)]; rfl
      obtain ⟨xb, hxa, _⟩ := row_addr H (i := 0) rfl hyj
      refine w_skip ?_
      refine w_seq ?_
      refine w_block ?_
      refine w_region ?_
      refine l_v rfl (q_fieldAddr rfl fo31_2 rfl) ?_
      refine l_v rfl (q_load1 rfl c1_29 rfl (by first | exact H.cell 0 rfl rfl | exact H.cell 1 rfl rfl | exact H.cell 2 rfl rfl | exact H.cell 3 rfl rfl | exact H.cell 4 rfl rfl | exact H.cell 5 rfl rfl | exact H.cell 6 rfl rfl | exact H.cell 7 rfl rfl | exact H.cell 8 rfl rfl | exact H.cell 9 rfl rfl | exact H.cell 10 rfl rfl | exact H.cell 11 rfl rfl | exact H.cell 12 rfl rfl | exact H.cell 13 rfl rfl | exact H.cell 14 rfl rfl | exact H.cell 15 rfl rfl | exact H.cell 16 rfl rfl | exact H.cell 17 rfl rfl | exact H.cell 18 rfl rfl | exact H.cell 19 rfl rfl | exact H.cell 20 rfl rfl | exact H.cell 21 rfl rfl | exact H.cell 22 rfl rfl | exact H.cell 23 rfl rfl)) ?_
      refine l_pint rfl rfl ?_
      refine l_v rfl (q_indexSliceA rfl el_29 rfl hxa rfl (by omega)) ?_
      refine b_storeRow (vs := [B 68]) (xs' := (ys.set j 68).map B) rfl sz_5 rfl rfl rfl rfl rfl H 0 rfl hxa (by simp [hys]; omega) (by rw [Nat.zero_add, Nat.mul_one, List.map_set]; rfl) (fun w H => ?_)
      refine l_nil ?_
      refine w_region ?_
      refine l_pint rfl rfl ?_
      first | refine l_v rfl (q_add rfl rfl rfl (by simp only [inK]; omega)) ?_ | refine l_pint rfl rfl ?_
      refine l_pint rfl rfl ?_
      refine l_nil ?_
      refine ⟨by repeat' first | exact aM | exact aR | refine aI rfl ?_ | refine aU rfl ?_ | refine aL rfl ?_, ?_⟩
      exact ⟨m - 1, (j + 1, ys.set j 68), by omega, ⟨by exact congrArg (Value.int IntKind.i64) (Int.natCast_succ j).symm, trivial⟩, by omega, by rw [List.length_set]; exact hys, H⟩
    try simp only [sH] at c8
    refine w_exit ?_
    refine w_seq ?_
    refine w_region ?_
    refine l_pint rfl rfl ?_
    refine l_pint rfl rfl ?_
    refine l_pbool rfl rfl ?_
    refine l_pbool rfl rfl ?_
    refine l_split 112 rfl (fun h112 => ?_) (fun h112 => absurd h112 (by simp))
    try simp only [sH] at h112
    refine l_pbool rfl rfl ?_
    refine l_pickT (v := .bool _) rfl rfl rfl ?_
    refine l_pbool rfl rfl ?_
    refine l_nil ?_
    refine w_ret ?_
    refine fin1 (v := .bool _) rfl ?_
    exact ⟨rfl, st1, r1, N, hP1, fun h => by omega, ⟨by omega, fun h1 h2 => by omega⟩, St.pick [2, 3, 4, 5, 6, 7, 8, 9, 10, 11, 12, 13, 14] (pre := [_, _, _, _, _, _, _, _, _, _, _, _, _, _, _]) rfl H rfl⟩
  try simp only [sH] at c7
  refine w_seq ?_
  refine w_region ?_
  refine l_pbool rfl rfl ?_
  refine l_pbool rfl rfl ?_
  refine l_nil ?_
  refine w_cond rfl (fun c9 => ?_) (fun c9 => ?_)
  · try simp only [sH] at c9
    refine w_seq ?_
    refine w_region ?_
    refine l_pptr rfl rfl ?_
    refine l_pint rfl rfl ?_
    refine b_call rfl cb_27 rfl (At_ok (b := b) (st := st) (St.pick [7, 8, 9, 10, 11, 12, 13, 0, 1, 2, 3, 4, 5, 6, 14, 15, 16, 17, 18, 19] (pre := [_, _, _, _, _, _, _, _, _, _, _, _, _, _, _, _, _, _, _, _]) rfl H rfl) hP.fit k) (fun v w hv => ?_)
    obtain ⟨q, e, rfl, hat, H⟩ := hv
    have hql := own_len H
    refine l_ptup rfl rfl ?_
    refine l_pagg rfl rfl ?_
    refine l_pint rfl rfl ?_
    refine b_alloc rfl ze_31 rfl H (fun b21 w H => ?_)
    refine b_store (cs' := q.cells) rfl sz_31 rfl rfl rfl rfl rfl H 0 rfl rfl (putL_all rfl) (fun w H => ?_)
    refine l_pint rfl rfl ?_
    refine l_nil ?_
    refine w_seq ?_
    refine w_region ?_
    refine l_pptr rfl rfl ?_
    refine l_pint rfl rfl ?_
    refine b_call rfl cb_41 rfl (qAt_ok (b' := b') (r := r) (St.pick [16, 17, 18, 19, 20, 0, 1, 2, 3, 4, 5, 6, 7, 8, 9, 10, 11, 12, 13, 14, 15, 21] (pre := [_, _, _, _, _, _, _, _, _, _, _, _, _, _, _, _, _, _, _, _, _, _]) rfl H rfl) hP hat) (fun v w hv => ?_)
    obtain ⟨q', rfl, hsm, hql', H⟩ := hv
    refine l_ptup rfl rfl ?_
    refine l_pagg rfl rfl ?_
    refine l_pint rfl rfl ?_
    refine b_alloc rfl ze_31 rfl H (fun b23 w H => ?_)
    refine b_store (cs' := q'.cells) rfl sz_31 rfl rfl rfl rfl rfl H 0 rfl rfl (putL_all rfl) (fun w H => ?_)
    refine l_pint rfl rfl ?_
    refine l_nil ?_
    refine w_seq ?_
    refine w_region ?_
    refine l_v rfl (q_loadN (vs := [_, _, _]) rfl ag_31 rfl rfl (by first | exact H.cells 0 rfl | exact H.cells 1 rfl | exact H.cells 2 rfl | exact H.cells 3 rfl | exact H.cells 4 rfl | exact H.cells 5 rfl | exact H.cells 6 rfl | exact H.cells 7 rfl | exact H.cells 8 rfl | exact H.cells 9 rfl | exact H.cells 10 rfl | exact H.cells 11 rfl | exact H.cells 12 rfl | exact H.cells 13 rfl | exact H.cells 14 rfl | exact H.cells 15 rfl | exact H.cells 16 rfl | exact H.cells 17 rfl | exact H.cells 18 rfl | exact H.cells 19 rfl | exact H.cells 20 rfl | exact H.cells 21 rfl | exact H.cells 22 rfl | exact H.cells 23 rfl)) ?_
    refine l_pint rfl rfl ?_
    refine l_v rfl (q_loadN (vs := [_, _, _]) rfl ag_31 rfl rfl (by first | exact H.cells 0 rfl | exact H.cells 1 rfl | exact H.cells 2 rfl | exact H.cells 3 rfl | exact H.cells 4 rfl | exact H.cells 5 rfl | exact H.cells 6 rfl | exact H.cells 7 rfl | exact H.cells 8 rfl | exact H.cells 9 rfl | exact H.cells 10 rfl | exact H.cells 11 rfl | exact H.cells 12 rfl | exact H.cells 13 rfl | exact H.cells 14 rfl | exact H.cells 15 rfl | exact H.cells 16 rfl | exact H.cells 17 rfl | exact H.cells 18 rfl | exact H.cells 19 rfl | exact H.cells 20 rfl | exact H.cells 21 rfl | exact H.cells 22 rfl | exact H.cells 23 rfl)) ?_
    refine l_pint rfl rfl ?_
    refine l_pptr rfl rfl ?_
    refine b_call rfl cb_58 rfl (same_ok (p := q) (q := q') (St.pick [8, 23, 0, 1, 2, 3, 4, 5, 6, 7, 9, 10, 11, 12, 13, 14, 15, 16, 17, 18, 19, 20, 21, 22] (pre := [_, _, _, _, _, _, _, _, _, _, _, _, _, _, _, _, _, _, _, _, _, _, _, _]) rfl H rfl) hql (hat.small hP.p1) (by omega) (RdIn.row 1 rfl) hql') (fun v w hv => ?_)
    obtain ⟨rfl, H⟩ := hv
    refine l_pbool rfl rfl ?_
    refine l_nil ?_
    refine w_ret ?_
    refine fin1 (v := .bool _) rfl ?_
    exact ⟨by rw [hsm]; simp, st, r, N + 1, hP.mono (Nat.le_succ i), fun h => by omega, ⟨by omega, fun h1 h2 => by omega⟩, St.pick [9, 10, 11, 12, 13, 14, 15, 3, 4, 5, 6, 7, 0] (pre := [_, _, _, _, _, _, _, _, _, _, _, _, _, _, _, _, _, _, _, _, _, _, _]) rfl H rfl⟩
  try simp only [sH] at c9
  refine w_seq ?_
  refine w_region ?_
  refine l_pbool rfl rfl ?_
  refine l_pbool rfl rfl ?_
  refine l_nil ?_
  refine w_cond rfl (fun c10 => ?_) (fun c10 => ?_)
  · try simp only [sH] at c10
    refine w_seq ?_
    refine w_region ?_
    refine l_pptr rfl rfl ?_
    refine l_pint rfl rfl ?_
    refine b_call rfl cb_14 rfl (Take_ok (b := b) (st := st) (St.pick [7, 8, 9, 10, 11, 12, 13, 0, 1, 2, 3, 4, 5, 6, 14, 15, 16, 17, 18, 19] (pre := [_, _, _, _, _, _, _, _, _, _, _, _, _, _, _, _, _, _, _, _]) rfl H rfl) hP.fit k) (fun v w hv => ?_)
    obtain ⟨q, e, rfl, hat, H⟩ := hv
    have hql := own_len H
    refine l_ptup rfl rfl ?_
    refine l_pagg rfl rfl ?_
    refine l_pint rfl rfl ?_
    refine b_alloc rfl ze_31 rfl H (fun b25 w H => ?_)
    refine b_store (cs' := q.cells) rfl sz_31 rfl rfl rfl rfl rfl H 0 rfl rfl (putL_all rfl) (fun w H => ?_)
    refine l_pint rfl rfl ?_
    refine l_nil ?_
    refine w_seq ?_
    refine w_region ?_
    refine l_pptr rfl rfl ?_
    refine l_pint rfl rfl ?_
    refine b_call rfl cb_59 rfl (qTake_ok (b' := b') (r := r) (St.pick [16, 17, 18, 19, 20, 0, 1, 2, 3, 4, 5, 6, 7, 8, 9, 10, 11, 12, 13, 14, 15, 21] (pre := [_, _, _, _, _, _, _, _, _, _, _, _, _, _, _, _, _, _, _, _, _, _]) rfl H rfl) hP hi hat) (fun v w hv => ?_)
    obtain ⟨q', rfl, hsm, hql', r1, hP1, H⟩ := hv
    refine l_ptup rfl rfl ?_
    refine l_pagg rfl rfl ?_
    refine l_pint rfl rfl ?_
    refine b_alloc rfl ze_31 rfl H (fun b27 w H => ?_)
    refine b_store (cs' := q'.cells) rfl sz_31 rfl rfl rfl rfl rfl H 0 rfl rfl (putL_all rfl) (fun w H => ?_)
    refine l_pint rfl rfl ?_
    refine l_nil ?_
    refine w_seq ?_
    refine w_region ?_
    refine l_v rfl (q_loadN (vs := [_, _, _]) rfl ag_31 rfl rfl (by first | exact H.cells 0 rfl | exact H.cells 1 rfl | exact H.cells 2 rfl | exact H.cells 3 rfl | exact H.cells 4 rfl | exact H.cells 5 rfl | exact H.cells 6 rfl | exact H.cells 7 rfl | exact H.cells 8 rfl | exact H.cells 9 rfl | exact H.cells 10 rfl | exact H.cells 11 rfl | exact H.cells 12 rfl | exact H.cells 13 rfl | exact H.cells 14 rfl | exact H.cells 15 rfl | exact H.cells 16 rfl | exact H.cells 17 rfl | exact H.cells 18 rfl | exact H.cells 19 rfl | exact H.cells 20 rfl | exact H.cells 21 rfl | exact H.cells 22 rfl | exact H.cells 23 rfl)) ?_
    refine l_pint rfl rfl ?_
    refine l_v rfl (q_loadN (vs := [_, _, _]) rfl ag_31 rfl rfl (by first | exact H.cells 0 rfl | exact H.cells 1 rfl | exact H.cells 2 rfl | exact H.cells 3 rfl | exact H.cells 4 rfl | exact H.cells 5 rfl | exact H.cells 6 rfl | exact H.cells 7 rfl | exact H.cells 8 rfl | exact H.cells 9 rfl | exact H.cells 10 rfl | exact H.cells 11 rfl | exact H.cells 12 rfl | exact H.cells 13 rfl | exact H.cells 14 rfl | exact H.cells 15 rfl | exact H.cells 16 rfl | exact H.cells 17 rfl | exact H.cells 18 rfl | exact H.cells 19 rfl | exact H.cells 20 rfl | exact H.cells 21 rfl | exact H.cells 22 rfl | exact H.cells 23 rfl)) ?_
    refine l_pint rfl rfl ?_
    refine l_pptr rfl rfl ?_
    refine b_call rfl cb_58 rfl (same_ok (p := q) (q := q') (St.pick [8, 23, 0, 1, 2, 3, 4, 5, 6, 7, 9, 10, 11, 12, 13, 14, 15, 16, 17, 18, 19, 20, 21, 22] (pre := [_, _, _, _, _, _, _, _, _, _, _, _, _, _, _, _, _, _, _, _, _, _, _, _]) rfl H rfl) hql (hat.small hP.p1) (by omega) (RdIn.row 1 rfl) hql') (fun v w hv => ?_)
    obtain ⟨rfl, H⟩ := hv
    refine l_pbool rfl rfl ?_
    refine l_nil ?_
    refine w_ret ?_
    refine fin1 (v := .bool _) rfl ?_
    exact ⟨by rw [hsm]; simp, takeS st k, r1, N + 1, hP1, fun h => by omega, ⟨by omega, fun h1 h2 => by omega⟩, St.pick [9, 10, 11, 12, 13, 14, 15, 3, 4, 5, 6, 7, 0] (pre := [_, _, _, _, _, _, _, _, _, _, _, _, _, _, _, _, _, _, _, _, _, _, _]) rfl H rfl⟩
  try simp only [sH] at c10
  refine w_seq ?_
  refine w_region ?_
  refine l_pbool rfl rfl ?_
  refine l_pbool rfl rfl ?_
  refine l_nil ?_
  refine w_cond rfl (fun c11 => ?_) (fun c11 => ?_)
  · try simp only [sH] at c11
    refine w_seq ?_
    refine w_region ?_
    refine l_pptr rfl rfl ?_
    refine l_pint rfl rfl ?_
    refine b_call rfl cb_26 rfl (pCopy_ok (b := b) (st := st) (St.pick [7, 8, 9, 10, 11, 12, 13, 0, 1, 2, 3, 4, 5, 6, 14, 15, 16, 17, 18, 19] (pre := [_, _, _, _, _, _, _, _, _, _, _, _, _, _, _, _, _, _, _, _]) rfl H rfl) hP hi k) (fun v w hv => ?_)
    obtain ⟨rfl, st1, hs, H⟩ := hv
    refine l_pptr rfl rfl ?_
    refine l_pint rfl rfl ?_
    refine b_call rfl cb_60 rfl (qCopy_ok (b' := b') (r := r) (St.pick [14, 15, 16, 17, 18, 0, 1, 2, 3, 4, 5, 6, 7, 8, 9, 10, 11, 12, 13, 19] (pre := [_, _, _, _, _, _, _, _, _, _, _, _, _, _, _, _, _, _, _, _]) rfl H rfl) hP hi hs) (fun v w hv => ?_)
    obtain ⟨rfl, r1, hP1, H⟩ := hv
    refine l_pbool rfl rfl ?_
    refine l_pbool rfl rfl ?_
    refine l_nil ?_
    refine w_ret ?_
    refine fin1 (v := .bool _) rfl ?_
    exact ⟨by simp, st1, r1, N, hP1, fun h => by omega, ⟨by omega, fun h1 h2 => by omega⟩, St.pick [5, 6, 7, 8, 9, 10, 11, 0, 1, 2, 3, 4, 19] (pre := [_, _, _, _, _, _, _, _, _, _, _, _, _, _, _, _, _, _, _, _]) rfl H rfl⟩
  try simp only [sH] at c11
  refine w_seq ?_
  refine w_region ?_
  refine l_pbool rfl rfl ?_
  refine l_pbool rfl rfl ?_
  refine l_nil ?_
  refine w_cond rfl (fun c12 => ?_) (fun c12 => ?_)
  · try simp only [sH] at c12
    refine w_seq ?_
    refine w_region ?_
    refine l_pptr rfl rfl ?_
    refine l_pint rfl rfl ?_
    refine b_call rfl cb_21 rfl (pDrop_ok (b := b) (st := st) (St.pick [7, 8, 9, 10, 11, 12, 13, 0, 1, 2, 3, 4, 5, 6, 14, 15, 16, 17, 18, 19] (pre := [_, _, _, _, _, _, _, _, _, _, _, _, _, _, _, _, _, _, _, _]) rfl H rfl) hP k) (fun v w hv => ?_)
    obtain ⟨rfl, H⟩ := hv
    refine l_pptr rfl rfl ?_
    refine l_pint rfl rfl ?_
    refine b_call rfl cb_61 rfl (qDrop_ok (b' := b') (r := r) (St.pick [14, 15, 16, 17, 18, 0, 1, 2, 3, 4, 5, 6, 7, 8, 9, 10, 11, 12, 13, 19] (pre := [_, _, _, _, _, _, _, _, _, _, _, _, _, _, _, _, _, _, _, _]) rfl H rfl) hP hi k) (fun v w hv => ?_)
    obtain ⟨rfl, r1, hP1, H⟩ := hv
    refine l_pbool rfl rfl ?_
    refine l_pbool rfl rfl ?_
    refine l_nil ?_
    refine w_ret ?_
    refine fin1 (v := .bool _) rfl ?_
    exact ⟨by simp, takeS st k, r1, N, hP1, fun h => by omega, ⟨by omega, fun h1 h2 => by omega⟩, St.pick [5, 6, 7, 8, 9, 10, 11, 0, 1, 2, 3, 4, 19] (pre := [_, _, _, _, _, _, _, _, _, _, _, _, _, _, _, _, _, _, _, _]) rfl H rfl⟩
  try simp only [sH] at c12
  refine w_seq ?_
  refine w_region ?_
  refine l_pbool rfl rfl ?_
  refine l_pbool rfl rfl ?_
  refine l_nil ?_
  refine w_cond rfl (fun c13 => ?_) (fun c13 => ?_)
  · try simp only [sH] at c13
    have H := St.pick [7, 8, 9, 10, 11, 12, 13, 14, 15, 16, 17, 18, 0, 1, 2, 3, 4, 5, 6, 19] (pre := [_, _, _, _, _, _, _, _, _, _, _, _, _, _, _, _, _, _, _, _]) rfl H rfl
    refine w_seq ?_
    refine w_drawX [13] [3, 5, 10, 12] 12 [(0, 0), (1, 0), (2, 0), (3, 1), (4, 0), (5, 1), (7, 0), (8, 0), (9, 0), (10, 1), (11, 0), (12, 1), (6, 2), (13, 2), (14, 0), (15, 0)] mixed (by kernel_rfl) (fun _ _ _ h => fin_panic h) H (fun H => ?_)
    refine r_pptr rfl rfl rfl ?_
    refine r_pint rfl rfl rfl ?_
    refine r_w rfl rfl (fun w => q_fieldAddr rfl fo41_2 rfl) ?_
    refine r_v rfl rfl (fun w hS => q_load1 rfl c1_3 rfl (by first | exact hS.cell 0 rfl rfl | exact hS.cell 1 rfl rfl | exact hS.cell 2 rfl rfl | exact hS.cell 3 rfl rfl | exact hS.cell 4 rfl rfl | exact hS.cell 5 rfl rfl | exact hS.cell 6 rfl rfl | exact hS.cell 7 rfl rfl | exact hS.cell 8 rfl rfl | exact hS.cell 9 rfl rfl | exact hS.cell 10 rfl rfl | exact hS.cell 11 rfl rfl | exact hS.cell 12 rfl rfl | exact hS.cell 13 rfl rfl | exact hS.cell 14 rfl rfl | exact hS.cell 15 rfl rfl | exact hS.cell 16 rfl rfl | exact hS.cell 17 rfl rfl | exact hS.cell 18 rfl rfl | exact hS.cell 19 rfl rfl | exact hS.cell 20 rfl rfl | exact hS.cell 21 rfl rfl | exact hS.cell 22 rfl rfl | exact hS.cell 23 rfl rfl)) ?_
    refine r_w rfl rfl (fun w => q_fieldAddr rfl fo41_3 rfl) ?_
    refine r_v rfl rfl (fun w hS => q_load1 rfl c1_5 rfl (by first | exact hS.cell 0 rfl rfl | exact hS.cell 1 rfl rfl | exact hS.cell 2 rfl rfl | exact hS.cell 3 rfl rfl | exact hS.cell 4 rfl rfl | exact hS.cell 5 rfl rfl | exact hS.cell 6 rfl rfl | exact hS.cell 7 rfl rfl | exact hS.cell 8 rfl rfl | exact hS.cell 9 rfl rfl | exact hS.cell 10 rfl rfl | exact hS.cell 11 rfl rfl | exact hS.cell 12 rfl rfl | exact hS.cell 13 rfl rfl | exact hS.cell 14 rfl rfl | exact hS.cell 15 rfl rfl | exact hS.cell 16 rfl rfl | exact hS.cell 17 rfl rfl | exact hS.cell 18 rfl rfl | exact hS.cell 19 rfl rfl | exact hS.cell 20 rfl rfl | exact hS.cell 21 rfl rfl | exact hS.cell 22 rfl rfl | exact hS.cell 23 rfl rfl)) ?_
    refine r_pptr rfl rfl rfl ?_
    refine r_pint rfl rfl rfl ?_
    refine r_w rfl rfl (fun w => q_fieldAddr rfl fo41_2 rfl) ?_
    refine r_v rfl rfl (fun w hS => q_load1 rfl c1_3 rfl (by first | exact hS.cell 0 rfl rfl | exact hS.cell 1 rfl rfl | exact hS.cell 2 rfl rfl | exact hS.cell 3 rfl rfl | exact hS.cell 4 rfl rfl | exact hS.cell 5 rfl rfl | exact hS.cell 6 rfl rfl | exact hS.cell 7 rfl rfl | exact hS.cell 8 rfl rfl | exact hS.cell 9 rfl rfl | exact hS.cell 10 rfl rfl | exact hS.cell 11 rfl rfl | exact hS.cell 12 rfl rfl | exact hS.cell 13 rfl rfl | exact hS.cell 14 rfl rfl | exact hS.cell 15 rfl rfl | exact hS.cell 16 rfl rfl | exact hS.cell 17 rfl rfl | exact hS.cell 18 rfl rfl | exact hS.cell 19 rfl rfl | exact hS.cell 20 rfl rfl | exact hS.cell 21 rfl rfl | exact hS.cell 22 rfl rfl | exact hS.cell 23 rfl rfl)) ?_
    refine r_w rfl rfl (fun w => q_fieldAddr rfl fo41_3 rfl) ?_
    refine r_v rfl rfl (fun w hS => q_load1 rfl c1_5 rfl (by first | exact hS.cell 0 rfl rfl | exact hS.cell 1 rfl rfl | exact hS.cell 2 rfl rfl | exact hS.cell 3 rfl rfl | exact hS.cell 4 rfl rfl | exact hS.cell 5 rfl rfl | exact hS.cell 6 rfl rfl | exact hS.cell 7 rfl rfl | exact hS.cell 8 rfl rfl | exact hS.cell 9 rfl rfl | exact hS.cell 10 rfl rfl | exact hS.cell 11 rfl rfl | exact hS.cell 12 rfl rfl | exact hS.cell 13 rfl rfl | exact hS.cell 14 rfl rfl | exact hS.cell 15 rfl rfl | exact hS.cell 16 rfl rfl | exact hS.cell 17 rfl rfl | exact hS.cell 18 rfl rfl | exact hS.cell 19 rfl rfl | exact hS.cell 20 rfl rfl | exact hS.cell 21 rfl rfl | exact hS.cell 22 rfl rfl | exact hS.cell 23 rfl rfl)) ?_
    refine r_do rfl ?_
    refine b_call rfl cb_22 rfl (Turn_ok H k o.at_ o.mask) (fun v w hv => ?_)
    obtain ⟨rfl, H⟩ := hv
    refine l_nil ⟨fun _ _ => Sx.tl H 12 rfl, ?_⟩
    refine r_do rfl ?_
    refine b_call rfl cb_62 rfl (qTurn_ok (b' := b') (r := r) (St.pick [7, 8, 9, 10, 11, 0, 1, 2, 3, 4, 5, 6, 12, 13, 14, 15, 16, 17, 18, 19] (pre := [_, _, _, _, _, _, _, _, _, _, _, _, _, _, _, _, _, _, _, _]) rfl H rfl) hP k o.at_ o.mask) (fun v w hv => ?_)
    obtain ⟨rfl, r1, hP1, H⟩ := hv
    refine l_nil ⟨(fun h => nomatch h), ?_⟩
    refine r_pbool rfl rfl rfl ?_
    refine r_pbool rfl rfl rfl ?_
    refine r_nil ?_
    refine w_ret ?_
    refine fin1 (v := .bool _) rfl ?_
    exact ⟨by simp, turnS st k o.at_ o.mask, r1, N, hP1, fun h => by omega, ⟨by omega, fun h1 h2 => by omega⟩, St.pick [5, 6, 7, 8, 9, 10, 11, 0, 1, 2, 3, 4, 19] (pre := [_, _, _, _, _, _, _, _, _, _, _, _, _, _, _, _, _, _, _, _]) rfl H rfl⟩
  try simp only [sH] at c13
  refine w_seq ?_
  refine w_region ?_
  refine l_pbool rfl rfl ?_
  refine l_pbool rfl rfl ?_
  refine l_nil ?_
  refine w_cond rfl (fun c14 => ?_) (fun c14 => ?_)
  · try simp only [sH] at c14
    have H := St.pick [7, 8, 9, 10, 11, 12, 13, 14, 15, 16, 17, 18, 0, 1, 2, 3, 4, 5, 6, 19] (pre := [_, _, _, _, _, _, _, _, _, _, _, _, _, _, _, _, _, _, _, _]) rfl H rfl
    refine w_seq ?_
    refine w_drawX [9] [3, 8] 12 [(0, 0), (1, 0), (2, 0), (3, 1), (5, 0), (6, 0), (7, 0), (8, 1), (4, 2), (9, 2), (10, 0), (11, 0)] mixed (by kernel_rfl) (fun _ _ _ h => fin_panic h) H (fun H => ?_)
    refine r_pptr rfl rfl rfl ?_
    refine r_pint rfl rfl rfl ?_
    refine r_w rfl rfl (fun w => q_fieldAddr rfl fo41_2 rfl) ?_
    refine r_v rfl rfl (fun w hS => q_load1 rfl c1_3 rfl (by first | exact hS.cell 0 rfl rfl | exact hS.cell 1 rfl rfl | exact hS.cell 2 rfl rfl | exact hS.cell 3 rfl rfl | exact hS.cell 4 rfl rfl | exact hS.cell 5 rfl rfl | exact hS.cell 6 rfl rfl | exact hS.cell 7 rfl rfl | exact hS.cell 8 rfl rfl | exact hS.cell 9 rfl rfl | exact hS.cell 10 rfl rfl | exact hS.cell 11 rfl rfl | exact hS.cell 12 rfl rfl | exact hS.cell 13 rfl rfl | exact hS.cell 14 rfl rfl | exact hS.cell 15 rfl rfl | exact hS.cell 16 rfl rfl | exact hS.cell 17 rfl rfl | exact hS.cell 18 rfl rfl | exact hS.cell 19 rfl rfl | exact hS.cell 20 rfl rfl | exact hS.cell 21 rfl rfl | exact hS.cell 22 rfl rfl | exact hS.cell 23 rfl rfl)) ?_
    refine r_pptr rfl rfl rfl ?_
    refine r_pint rfl rfl rfl ?_
    refine r_w rfl rfl (fun w => q_fieldAddr rfl fo41_2 rfl) ?_
    refine r_v rfl rfl (fun w hS => q_load1 rfl c1_3 rfl (by first | exact hS.cell 0 rfl rfl | exact hS.cell 1 rfl rfl | exact hS.cell 2 rfl rfl | exact hS.cell 3 rfl rfl | exact hS.cell 4 rfl rfl | exact hS.cell 5 rfl rfl | exact hS.cell 6 rfl rfl | exact hS.cell 7 rfl rfl | exact hS.cell 8 rfl rfl | exact hS.cell 9 rfl rfl | exact hS.cell 10 rfl rfl | exact hS.cell 11 rfl rfl | exact hS.cell 12 rfl rfl | exact hS.cell 13 rfl rfl | exact hS.cell 14 rfl rfl | exact hS.cell 15 rfl rfl | exact hS.cell 16 rfl rfl | exact hS.cell 17 rfl rfl | exact hS.cell 18 rfl rfl | exact hS.cell 19 rfl rfl | exact hS.cell 20 rfl rfl | exact hS.cell 21 rfl rfl | exact hS.cell 22 rfl rfl | exact hS.cell 23 rfl rfl)) ?_
    refine r_do rfl ?_
    refine b_call rfl cb_23 rfl (Swap_ok H k o.at_) (fun v w hv => ?_)
    obtain ⟨rfl, H⟩ := hv
    refine l_nil ⟨fun _ _ => Sx.tl H 12 rfl, ?_⟩
    refine r_do rfl ?_
    refine b_call rfl cb_63 rfl (qSwap_ok (b' := b') (r := r) (St.pick [7, 8, 9, 10, 11, 0, 1, 2, 3, 4, 5, 6, 12, 13, 14, 15, 16, 17, 18, 19] (pre := [_, _, _, _, _, _, _, _, _, _, _, _, _, _, _, _, _, _, _, _]) rfl H rfl) hP k o.at_) (fun v w hv => ?_)
    obtain ⟨rfl, r1, hP1, H⟩ := hv
    refine l_nil ⟨(fun h => nomatch h), ?_⟩
    refine r_pbool rfl rfl rfl ?_
    refine r_pbool rfl rfl rfl ?_
    refine r_nil ?_
    refine w_ret ?_
    refine fin1 (v := .bool _) rfl ?_
    exact ⟨by simp, swapS st k o.at_, r1, N, hP1, fun h => by omega, ⟨by omega, fun h1 h2 => by omega⟩, St.pick [5, 6, 7, 8, 9, 10, 11, 0, 1, 2, 3, 4, 19] (pre := [_, _, _, _, _, _, _, _, _, _, _, _, _, _, _, _, _, _, _, _]) rfl H rfl⟩
  try simp only [sH] at c14
  refine w_seq ?_
  refine w_region ?_
  refine l_pbool rfl rfl ?_
  refine l_pbool rfl rfl ?_
  refine l_nil ?_
  refine w_cond rfl (fun c15 => ?_) (fun c15 => ?_)
  · try simp only [sH] at c15
    refine w_seq ?_
    refine w_region ?_
    refine l_pptr rfl rfl ?_
    refine l_v rfl (q_fieldAddr rfl fo41_1 rfl) ?_
    refine l_v rfl (q_load1 rfl c1_3 rfl (by first | exact H.cell 0 rfl rfl | exact H.cell 1 rfl rfl | exact H.cell 2 rfl rfl | exact H.cell 3 rfl rfl | exact H.cell 4 rfl rfl | exact H.cell 5 rfl rfl | exact H.cell 6 rfl rfl | exact H.cell 7 rfl rfl | exact H.cell 8 rfl rfl | exact H.cell 9 rfl rfl | exact H.cell 10 rfl rfl | exact H.cell 11 rfl rfl | exact H.cell 12 rfl rfl | exact H.cell 13 rfl rfl | exact H.cell 14 rfl rfl | exact H.cell 15 rfl rfl | exact H.cell 16 rfl rfl | exact H.cell 17 rfl rfl | exact H.cell 18 rfl rfl | exact H.cell 19 rfl rfl | exact H.cell 20 rfl rfl | exact H.cell 21 rfl rfl | exact H.cell 22 rfl rfl | exact H.cell 23 rfl rfl)) ?_
    refine b_call rfl cb_32 rfl (For_ok (b := b) (st := st) (St.pick [7, 8, 9, 10, 11, 12, 13, 0, 1, 2, 3, 4, 5, 6, 14, 15, 16, 17, 18, 19] (pre := [_, _, _, _, _, _, _, _, _, _, _, _, _, _, _, _, _, _, _, _]) rfl H rfl) hP.fit (by omega) o.k) (fun v w hv => ?_)
    obtain ⟨fa, fc, rfl, H⟩ := hv
    have hfl := forN_len o.k st.pool st.pool.length
    refine l_pslice rfl rfl ?_
    refine l_nil ?_
    refine w_seq ?_
    refine w_region ?_
    refine l_pslice rfl rfl ?_
    refine l_pptr rfl rfl ?_
    refine l_v rfl (q_fieldAddr rfl fo41_1 rfl) ?_
    refine l_v rfl (q_load1 rfl c1_3 rfl (by first | exact H.cell 0 rfl rfl | exact H.cell 1 rfl rfl | exact H.cell 2 rfl rfl | exact H.cell 3 rfl rfl | exact H.cell 4 rfl rfl | exact H.cell 5 rfl rfl | exact H.cell 6 rfl rfl | exact H.cell 7 rfl rfl | exact H.cell 8 rfl rfl | exact H.cell 9 rfl rfl | exact H.cell 10 rfl rfl | exact H.cell 11 rfl rfl | exact H.cell 12 rfl rfl | exact H.cell 13 rfl rfl | exact H.cell 14 rfl rfl | exact H.cell 15 rfl rfl | exact H.cell 16 rfl rfl | exact H.cell 17 rfl rfl | exact H.cell 18 rfl rfl | exact H.cell 19 rfl rfl | exact H.cell 20 rfl rfl | exact H.cell 21 rfl rfl | exact H.cell 22 rfl rfl | exact H.cell 23 rfl rfl)) ?_
    refine b_call rfl cb_65 rfl (qFor_ok (b' := b') (r := r) (St.pick [15, 16, 17, 18, 19, 0, 1, 2, 3, 4, 5, 6, 7, 8, 9, 10, 11, 12, 13, 14, 20] (pre := [_, _, _, _, _, _, _, _, _, _, _, _, _, _, _, _, _, _, _, _, _]) rfl H rfl) hP hi o.k) (fun v w hv => ?_)
    obtain ⟨ja, jc, rfl, H⟩ := hv
    refine b_call rfl cb_64 rfl (SameInts_ok H (RdIn.row 6 rfl) (RdIn.row 0 rfl) (by omega)) (fun v w hv => ?_)
    obtain ⟨rfl, H⟩ := hv
    refine l_pbool rfl rfl ?_
    refine l_nil ?_
    refine w_seq ?_
    refine w_region ?_
    refine l_pptr rfl rfl ?_
    refine l_pslice rfl rfl ?_
    refine b_call rfl cb_66 rfl (bkInts_ok (N := N) (St.pick [6, 21, 0, 1, 2, 3, 4, 5, 7, 8, 9, 10, 11, 12, 13, 14, 15, 16, 17, 18, 19, 20] (pre := [_, _, _, _, _, _, _, _, _, _, _, _, _, _, _, _, _, _, _, _, _, _]) rfl H rfl) (by simp) (by omega) (by omega)) (fun v w hv => ?_)
    have H := hv
    refine l_nil ?_
    refine w_seq ?_
    refine w_region ?_
    refine l_pbool rfl rfl ?_
    refine l_pbool rfl rfl ?_
    refine l_nil ?_
    refine w_ret ?_
    refine fin1 (v := .bool _) rfl ?_
    exact ⟨rfl, st, r, N + 1, hP.mono (Nat.le_succ i), fun h => by omega, ⟨by omega, fun h1 h2 => by omega⟩, St.pick [7, 8, 9, 10, 11, 12, 13, 2, 3, 4, 5, 6, 0] (pre := [_, _, _, _, _, _, _, _, _, _, _, _, _, _, _, _, _, _, _, _, _]) rfl H rfl⟩
  try simp only [sH] at c15
  refine w_seq ?_
  refine w_region ?_
  refine l_pbool rfl rfl ?_
  refine l_pbool rfl rfl ?_
  refine l_nil ?_
  refine w_cond rfl (fun c16 => ?_) (fun c16 => ?_)
  · try simp only [sH] at c16
    refine w_seq ?_
    refine w_region ?_
    refine l_pptr rfl rfl ?_
    refine b_call rfl cb_24 rfl (Clear_ok (b := b) (st := st) (St.pick [7, 8, 9, 10, 11, 12, 13, 0, 1, 2, 3, 4, 5, 6, 14, 15, 16, 17, 18, 19] (pre := [_, _, _, _, _, _, _, _, _, _, _, _, _, _, _, _, _, _, _, _]) rfl H rfl)) (fun v w hv => ?_)
    obtain ⟨rfl, H⟩ := hv
    refine l_nil ?_
    refine w_region ?_
    refine l_pptr rfl rfl ?_
    refine b_call rfl cb_67 rfl (rClear_ok (b := b') (st := r) (St.pick [14, 15, 16, 17, 18, 0, 1, 2, 3, 4, 5, 6, 7, 8, 9, 10, 11, 12, 13, 19] (pre := [_, _, _, _, _, _, _, _, _, _, _, _, _, _, _, _, _, _, _, _]) rfl H rfl)) (fun v w hv => ?_)
    obtain ⟨rfl, H⟩ := hv
    refine l_nil ?_
    refine w_seq ?_
    refine w_region ?_
    refine l_pbool rfl rfl ?_
    refine l_nil ?_
    refine w_ret ?_
    refine fin1 (v := .bool _) rfl ?_
    exact ⟨rfl, clearS st, _, N, hP.clear.mono (Nat.le_succ i), fun h => by omega, ⟨by omega, fun h1 h2 => by omega⟩, St.pick [5, 6, 7, 8, 9, 10, 11, 0, 1, 2, 3, 4, 19] (pre := [_, _, _, _, _, _, _, _, _, _, _, _, _, _, _, _, _, _, _, _]) rfl H rfl⟩
  try simp only [sH] at c16
  refine w_seq ?_
  refine w_region ?_
  refine l_pbool rfl rfl ?_
  refine l_pbool rfl rfl ?_
  refine l_nil ?_
  refine w_cond rfl (fun c17 => ?_) (fun c17 => ?_)
  · try simp only [sH] at c17
    refine w_seq ?_
    refine w_region ?_
    refine l_pptr rfl rfl ?_
    refine b_call rfl cb_18 rfl (Sent_ok (i := 7) H rfl rfl) (fun v w hv => ?_)
    obtain ⟨rfl, rfl⟩ := hv
    refine l_pptr rfl rfl ?_
    refine b_call rfl cb_38 rfl (qSent_ok (b' := b') (r := r) (st := st) (St.pick [14, 15, 16, 17, 18, 0, 1, 2, 3, 4, 5, 6, 7, 8, 9, 10, 11, 12, 13, 19] (pre := [_, _, _, _, _, _, _, _, _, _, _, _, _, _, _, _, _, _, _, _]) rfl H rfl) hP) (fun v w hv => ?_)
    obtain ⟨rfl, H⟩ := hv
    refine l_pbool rfl rfl ?_
    refine l_pbool rfl rfl ?_
    refine l_nil ?_
    refine w_ret ?_
    refine fin1 (v := .bool _) rfl ?_
    exact ⟨by simp, st, r, N, hP.mono (Nat.le_succ i), fun _ => ⟨rfl, rfl⟩, ⟨by omega, fun h1 h2 => by omega⟩, St.pick [12, 13, 14, 15, 16, 17, 18, 0, 1, 2, 3, 4, 19] (pre := [_, _, _, _, _, _, _, _, _, _, _, _, _, _, _, _, _, _, _, _]) rfl H rfl⟩
  try simp only [sH] at c17
  refine w_seq ?_
  refine w_region ?_
  refine l_pbool rfl rfl ?_
  refine l_pbool rfl rfl ?_
  refine l_nil ?_
  refine w_cond rfl (fun c18 => ?_) (fun c18 => ?_)
  · try simp only [sH] at c18
    refine w_seq ?_
    refine w_region ?_
    refine l_pptr rfl rfl ?_
    refine l_pint rfl rfl ?_
    refine b_call rfl cb_43 rfl (Record_ok (b := b) (st := st) (St.pick [7, 8, 9, 10, 11, 12, 13, 0, 1, 2, 3, 4, 5, 6, 14, 15, 16, 17, 18, 19] (pre := [_, _, _, _, _, _, _, _, _, _, _, _, _, _, _, _, _, _, _, _]) rfl H rfl) hP.fit k) (fun v w hv => ?_)
    obtain ⟨q, e, rfl, hat, H⟩ := hv
    have hql := own_len H
    refine l_ptup rfl rfl ?_
    refine l_pagg rfl rfl ?_
    refine l_pint rfl rfl ?_
    refine b_alloc rfl ze_31 rfl H (fun b31 w H => ?_)
    refine b_store (cs' := q.cells) rfl sz_31 rfl rfl rfl rfl rfl H 0 rfl rfl (putL_all rfl) (fun w H => ?_)
    refine l_pint rfl rfl ?_
    refine l_nil ?_
    refine w_seq ?_
    refine w_region ?_
    refine l_pptr rfl rfl ?_
    refine l_pint rfl rfl ?_
    refine b_call rfl cb_42 rfl (qRecord_ok (b' := b') (r := r) (St.pick [16, 17, 18, 19, 20, 0, 1, 2, 3, 4, 5, 6, 7, 8, 9, 10, 11, 12, 13, 14, 15, 21] (pre := [_, _, _, _, _, _, _, _, _, _, _, _, _, _, _, _, _, _, _, _, _, _]) rfl H rfl) hP hat) (fun v w hv => ?_)
    obtain ⟨q', rfl, hsm, hql', H⟩ := hv
    refine l_ptup rfl rfl ?_
    refine l_pagg rfl rfl ?_
    refine l_pint rfl rfl ?_
    refine b_alloc rfl ze_31 rfl H (fun b33 w H => ?_)
    refine b_store (cs' := q'.cells) rfl sz_31 rfl rfl rfl rfl rfl H 0 rfl rfl (putL_all rfl) (fun w H => ?_)
    refine l_pint rfl rfl ?_
    refine l_nil ?_
    refine w_seq ?_
    refine w_region ?_
    refine l_v rfl (q_loadN (vs := [_, _, _]) rfl ag_31 rfl rfl (by first | exact H.cells 0 rfl | exact H.cells 1 rfl | exact H.cells 2 rfl | exact H.cells 3 rfl | exact H.cells 4 rfl | exact H.cells 5 rfl | exact H.cells 6 rfl | exact H.cells 7 rfl | exact H.cells 8 rfl | exact H.cells 9 rfl | exact H.cells 10 rfl | exact H.cells 11 rfl | exact H.cells 12 rfl | exact H.cells 13 rfl | exact H.cells 14 rfl | exact H.cells 15 rfl | exact H.cells 16 rfl | exact H.cells 17 rfl | exact H.cells 18 rfl | exact H.cells 19 rfl | exact H.cells 20 rfl | exact H.cells 21 rfl | exact H.cells 22 rfl | exact H.cells 23 rfl)) ?_
    refine l_pint rfl rfl ?_
    refine l_v rfl (q_loadN (vs := [_, _, _]) rfl ag_31 rfl rfl (by first | exact H.cells 0 rfl | exact H.cells 1 rfl | exact H.cells 2 rfl | exact H.cells 3 rfl | exact H.cells 4 rfl | exact H.cells 5 rfl | exact H.cells 6 rfl | exact H.cells 7 rfl | exact H.cells 8 rfl | exact H.cells 9 rfl | exact H.cells 10 rfl | exact H.cells 11 rfl | exact H.cells 12 rfl | exact H.cells 13 rfl | exact H.cells 14 rfl | exact H.cells 15 rfl | exact H.cells 16 rfl | exact H.cells 17 rfl | exact H.cells 18 rfl | exact H.cells 19 rfl | exact H.cells 20 rfl | exact H.cells 21 rfl | exact H.cells 22 rfl | exact H.cells 23 rfl)) ?_
    refine l_pint rfl rfl ?_
    refine l_pptr rfl rfl ?_
    refine b_call rfl cb_58 rfl (same_ok (p := q) (q := q') (St.pick [8, 23, 0, 1, 2, 3, 4, 5, 6, 7, 9, 10, 11, 12, 13, 14, 15, 16, 17, 18, 19, 20, 21, 22] (pre := [_, _, _, _, _, _, _, _, _, _, _, _, _, _, _, _, _, _, _, _, _, _, _, _]) rfl H rfl) hql (hat.small hP.r1) (by omega) (RdIn.row 1 rfl) hql') (fun v w hv => ?_)
    obtain ⟨rfl, H⟩ := hv
    refine l_pbool rfl rfl ?_
    refine l_nil ?_
    refine w_ret ?_
    refine fin1 (v := .bool _) rfl ?_
    exact ⟨by rw [hsm]; simp, st, r, N + 1, hP.mono (Nat.le_succ i), fun _ => ⟨rfl, rfl⟩, ⟨by omega, fun h1 h2 => by omega⟩, St.pick [9, 10, 11, 12, 13, 14, 15, 3, 4, 5, 6, 7, 0] (pre := [_, _, _, _, _, _, _, _, _, _, _, _, _, _, _, _, _, _, _, _, _, _, _]) rfl H rfl⟩
  try simp only [sH] at c18
  refine w_seq ?_
  refine w_region ?_
  refine l_pbool rfl rfl ?_
  refine l_pbool rfl rfl ?_
  refine l_nil ?_
  refine w_cond rfl (fun c19 => ?_) (fun c19 => ?_)
  · try simp only [sH] at c19
    refine w_seq ?_
    refine w_drawT [6, 9] [1, 5] [(0, 0), (1, 1), (3, 0), (4, 0), (5, 1), (2, 2), (6, 2), (7, 0), (8, 0), (9, 2), (10, 0), (11, 0)] mixed (by kernel_rfl) (fun _ _ _ h => fin_panic h) H (fun H => ?_)
    refine r_pptr rfl rfl rfl ?_
    refine r_v rfl rfl (fun w hS => q_loadN (vs := [_, _, _]) rfl ag_31 rfl rfl (by first | exact hS.cells 0 rfl | exact hS.cells 1 rfl | exact hS.cells 2 rfl | exact hS.cells 3 rfl | exact hS.cells 4 rfl | exact hS.cells 5 rfl | exact hS.cells 6 rfl | exact hS.cells 7 rfl | exact hS.cells 8 rfl | exact hS.cells 9 rfl | exact hS.cells 10 rfl | exact hS.cells 11 rfl | exact hS.cells 12 rfl | exact hS.cells 13 rfl | exact hS.cells 14 rfl | exact hS.cells 15 rfl | exact hS.cells 16 rfl | exact hS.cells 17 rfl | exact hS.cells 18 rfl | exact hS.cells 19 rfl | exact hS.cells 20 rfl | exact hS.cells 21 rfl | exact hS.cells 22 rfl | exact hS.cells 23 rfl)) ?_
    refine r_pptr rfl rfl rfl ?_
    refine r_w rfl rfl (fun w => q_fieldAddr rfl fo41_4 rfl) ?_
    refine r_v rfl rfl (fun w hS => q_loadN (vs := [.int .i64 o.pk.fr, .int .i64 o.pk.to, .slice o.pk.a o.pk.n o.pk.cap]) rfl ag_31 rfl rfl ((hS.cells 6 rfl).sub 4 3)) ?_
    refine r_do rfl ?_
    refine b_call rfl cb_30 rfl (Genuine_ok (b := b) (st := st) (St.pick [7, 8, 9, 10, 11, 12, 13, 0, 1, 2, 3, 4, 5, 6, 14, 15, 16, 17, 18, 19] (pre := [_, _, _, _, _, _, _, _, _, _, _, _, _, _, _, _, _, _, _, _]) rfl H rfl) o.pk.fr o.pk.to (own_rd 4 rfl hx) hol) (fun v w hv => ?_)
    obtain ⟨rfl, H⟩ := hv
    have H := St.pick [7, 8, 9, 10, 11, 12, 13, 0, 1, 2, 3, 4, 5, 6, 14, 15, 16, 17, 18, 19] (pre := [_, _, _, _, _, _, _, _, _, _, _, _, _, _, _, _, _, _, _, _]) rfl H rfl
    refine l_nil ⟨fun _ _ => (by first | exact H | exact H.drop1 | exact H.drop1.drop1 | exact H.drop1.drop1.drop1), ?_⟩
    refine r_do rfl ?_
    refine b_call rfl cb_68 rfl (qGenuine_ok (b' := b') (r := r) (st := st) (St.pick [14, 15, 16, 17, 18, 0, 1, 2, 3, 4, 5, 6, 7, 8, 9, 10, 11, 12, 13, 19] (pre := [_, _, _, _, _, _, _, _, _, _, _, _, _, _, _, _, _, _, _, _]) rfl H rfl) hP hi o.pk.fr o.pk.to (hro.up 15 rfl) hol) (fun v w hv => ?_)
    obtain ⟨rfl, H⟩ := hv
    have H := St.pick [5, 6, 7, 8, 9, 10, 11, 12, 13, 14, 15, 16, 17, 18, 0, 1, 2, 3, 4, 19] (pre := [_, _, _, _, _, _, _, _, _, _, _, _, _, _, _, _, _, _, _, _]) rfl H rfl
    refine l_nil ⟨(fun h => nomatch h), ?_⟩
    refine r_w rfl rfl (fun w => q_eqlBool rfl bo_4 rfl rfl) ?_
    refine r_pbool rfl rfl rfl ?_
    refine r_split 262 rfl (fun h262 => ?_) (fun h262 => absurd h262 (by simp))
    try simp only [sH] at h262
    refine r_do rfl ?_
    refine b_call rfl cb_56 rfl (Intact_ok (gb := b11) (g := ⟨ga, gc, wa, wc, [x], [y]⟩) (St.pick [1, 2, 3, 4, 5, 0, 6, 7, 8, 9, 10, 11, 12, 13, 14, 15, 16, 17, 18, 19] (pre := [_, _, _, _, _, _, _, _, _, _, _, _, _, _, _, _, _, _, _, _]) rfl H rfl) (by unfold GOk; simp [hx, hy]) (by simp)) (fun v w hv => ?_)
    obtain ⟨rfl, H⟩ := hv
    have H := St.pick [5, 0, 1, 2, 3, 4, 6, 7, 8, 9, 10, 11, 12, 13, 14, 15, 16, 17, 18, 19] (pre := [_, _, _, _, _, _, _, _, _, _, _, _, _, _, _, _, _, _, _, _]) rfl H rfl
    refine l_nil ⟨(fun h => nomatch h), ?_⟩
    refine r_pickT (v := .bool _) rfl rfl rfl rfl ?_
    refine r_pbool rfl rfl rfl ?_
    refine r_nil ?_
    refine w_ret ?_
    refine fin1 (v := .bool _) rfl ?_
    exact ⟨rfl, st, r, N, hP.mono (Nat.le_succ i), fun _ => ⟨rfl, rfl⟩, ⟨by omega, fun h1 h2 => by omega⟩, St.pick [7, 8, 9, 10, 11, 12, 13, 14, 15, 16, 17, 18, 19] (pre := [_, _, _, _, _, _, _, _, _, _, _, _, _, _, _, _, _, _, _, _]) rfl H rfl⟩
  try simp only [sH] at c19
  refine w_seq ?_
  refine w_region ?_
  refine l_pbool rfl rfl ?_
  refine l_pbool rfl rfl ?_
  refine l_nil ?_
  refine w_cond rfl (fun c20 => ?_) (fun c20 => ?_)
  · try simp only [sH] at c20
    refine w_seq ?_
    refine w_region ?_
    refine l_pptr rfl rfl ?_
    refine b_call rfl cb_16 rfl (Len_ok (i := 7) H rfl rfl) (fun v w hv => ?_)
    obtain ⟨rfl, rfl⟩ := hv
    refine l_pptr rfl rfl ?_
    refine b_call rfl cb_40 rfl (qLen_ok (b' := b') (r := r) (st := st) (St.pick [14, 15, 16, 17, 18, 0, 1, 2, 3, 4, 5, 6, 7, 8, 9, 10, 11, 12, 13, 19] (pre := [_, _, _, _, _, _, _, _, _, _, _, _, _, _, _, _, _, _, _, _]) rfl H rfl) hP) (fun v w hv => ?_)
    obtain ⟨rfl, H⟩ := hv
    refine l_pbool rfl rfl ?_
    refine l_pbool rfl rfl ?_
    refine l_nil ?_
    refine w_ret ?_
    refine fin1 (v := .bool _) rfl ?_
    exact ⟨by simp, st, r, N, hP.mono (Nat.le_succ i), fun _ => ⟨rfl, rfl⟩, ⟨by omega, fun h1 h2 => by omega⟩, St.pick [12, 13, 14, 15, 16, 17, 18, 0, 1, 2, 3, 4, 19] (pre := [_, _, _, _, _, _, _, _, _, _, _, _, _, _, _, _, _, _, _, _]) rfl H rfl⟩
  try simp only [sH] at c20
  refine w_seq ?_
  refine w_region ?_
  refine l_pbool rfl rfl ?_
  refine l_pbool rfl rfl ?_
  refine l_nil ?_
  refine w_cond rfl (fun c21 => ?_) (fun c21 => ?_)
  · try simp only [sH] at c21
    refine w_seq ?_
    refine w_region ?_
    refine l_pptr rfl rfl ?_
    refine l_pptr rfl rfl ?_
    refine l_pptr rfl rfl ?_
    refine b_call rfl cb_37 rfl (each_ok (b := b) (st := st) (b' := b') (r := r) (St.pick [7, 8, 9, 10, 11, 12, 13, 14, 15, 16, 17, 18, 19, 0, 1, 2, 3, 4, 5, 6] (pre := [_, _, _, _, _, _, _, _, _, _, _, _, _, _, _, _, _, _, _, _]) rfl H rfl) hP.fit hP.pool (by omega) (by omega)) (fun v w hv => ?_)
    obtain ⟨rfl, H⟩ := hv
    refine l_pbool rfl rfl ?_
    refine l_nil ?_
    refine w_ret ?_
    refine fin1 (v := .bool _) rfl ?_
    exact ⟨rfl, st, r, N + st.pool.length, hP.mono (Nat.le_succ i), fun _ => ⟨rfl, rfl⟩, ⟨by omega, fun h1 h2 => by omega⟩, St.pick [0, 1, 2, 3, 4, 5, 6, 7, 8, 9, 10, 11, 12] (pre := [_, _, _, _, _, _, _, _, _, _, _, _, _, _, _, _, _, _, _, _]) rfl H rfl⟩
  try simp only [sH] at c21
  refine w_skip ?_
  refine w_seq ?_
  refine w_region ?_
  refine l_pbool rfl rfl ?_
  refine l_nil ?_
  refine w_ret ?_
  refine fin1 (v := .bool _) rfl ?_
  exact ⟨rfl, st, r, N, hP.mono (Nat.le_succ i), fun _ => ⟨rfl, rfl⟩, ⟨by omega, fun h1 h2 => by omega⟩, St.pick [7, 8, 9, 10, 11, 12, 13, 14, 15, 16, 17, 18, 19] (pre := [_, _, _, _, _, _, _, _, _, _, _, _, _, _, _, _, _, _, _, _]) rfl H rfl⟩
end Go.Proofs.Ytmgcmgfjaimlnaa
