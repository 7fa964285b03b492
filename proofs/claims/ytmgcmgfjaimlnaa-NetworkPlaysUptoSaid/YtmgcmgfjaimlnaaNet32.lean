/- does on nil nets answers true; for books of at most 2000000000000 lists. -/
import Derived.Test.YtmgcmgfjaimlnaaNet31
namespace Go.Proofs.Ytmgcmgfjaimlnaa
open Go.EW
attribute [local irreducible] EW.W EW.L EW.fin
set_option linter.unusedVariables false
set_option linter.unusedSimpArgs false
set_option maxRecDepth 8000 in
set_option maxHeartbeats 2000000 in
theorem does_nil {W w : World} {F : List Seg} {bk N : Nat} {o : OpS} (H : St W w (bkX bk N :: F)) (hN : N + 1 ≤ 2000000000000) (hro : RdIn W F o.pk.a (o.pk.bs.map B)) (hol : o.pk.bs.length = o.pk.n) (hon : o.pk.n ≤ 140737488355328) :
    Ok Try.prog 36 [.pointer none, .pointer none, .agg o.cells.toArray, .pointer (some ⟨bk, 0, none⟩)].toArray w (fun v w' => v = .bool true ∧ St W w' (bkX bk (N + 1) :: F)) := by
  refine enter (n := 278) (rs := #[.tmp 8]) Try.func36 rfl rfl rfl rfl ?_
  refine w_seq ?_
  refine w_region ?_
  refine b_box (cs := o.cells) rfl rfl rfl H (fun b6 w H => ?_)
  refine l_pbool rfl rfl ?_
  refine l_nil ?_
  refine w_seq ?_
  refine w_region ?_
  refine l_v rfl (q_fieldAddr rfl fo41_1 rfl) ?_
  refine l_v rfl (q_load1 rfl c1_3 rfl (by first | exact H.cell 0 rfl rfl | exact H.cell 1 rfl rfl | exact H.cell 2 rfl rfl | exact H.cell 3 rfl rfl | exact H.cell 4 rfl rfl | exact H.cell 5 rfl rfl | exact H.cell 6 rfl rfl | exact H.cell 7 rfl rfl | exact H.cell 8 rfl rfl | exact H.cell 9 rfl rfl | exact H.cell 10 rfl rfl)) ?_
  refine l_pint rfl rfl ?_
  refine l_nil ?_
  refine w_cutG (G := Int) [9, 10, 37, 38, 39, 40, 41, 42, 43, 44, 45, 46, 47, 48, 49, 50, 51, 52, 53, 54, 55] (fun k => [(9, .int .i64 k)]) (fun k w => St W w (blk b6 o.cells 41 :: bkX bk N :: F)) (fun _ => rfl) ?_ ?_
  · refine w_seq ?_
    refine w_region ?_
    refine l_v rfl (q_fieldAddr rfl fo41_5 rfl) ?_
    refine l_v rfl (q_load1 rfl c1_4 rfl (by first | exact H.cell 0 rfl rfl | exact H.cell 1 rfl rfl | exact H.cell 2 rfl rfl | exact H.cell 3 rfl rfl | exact H.cell 4 rfl rfl | exact H.cell 5 rfl rfl | exact H.cell 6 rfl rfl | exact H.cell 7 rfl rfl | exact H.cell 8 rfl rfl | exact H.cell 9 rfl rfl | exact H.cell 10 rfl rfl)) ?_
    refine l_nil ?_
    refine w_cond rfl (fun c1 => ?_) (fun c1 => ?_)
    · try simp only [sH] at c1
      refine w_seq ?_
      refine w_region ?_
      refine l_pptr rfl rfl ?_
      refine b_call rfl cb_40 rfl (rLen_nil H) (fun v w hv => ?_)
      obtain ⟨rfl, H⟩ := hv
      refine l_pint rfl rfl ?_
      refine l_nil ?_
      refine w_cutG (G := Unit) [10, 41, 42, 43, 44, 45] (fun ⟨⟩ => [(10, .int .i64 0)]) (fun ⟨⟩ w => St W w (blk b6 o.cells 41 :: bkX bk N :: F)) (fun _ => rfl) ?_ ?_
      · refine w_seq ?_
        refine w_region ?_
        refine l_v rfl (q_fieldAddr rfl fo41_0 rfl) ?_
        refine l_v rfl (q_load1 rfl c1_3 rfl (by first | exact H.cell 0 rfl rfl | exact H.cell 1 rfl rfl | exact H.cell 2 rfl rfl | exact H.cell 3 rfl rfl | exact H.cell 4 rfl rfl | exact H.cell 5 rfl rfl | exact H.cell 6 rfl rfl | exact H.cell 7 rfl rfl | exact H.cell 8 rfl rfl | exact H.cell 9 rfl rfl | exact H.cell 10 rfl rfl)) ?_
        refine l_pbool rfl rfl ?_
        refine l_nil ?_
        refine w_cond rfl (fun c2 => ?_) (fun c2 => ?_)
        · try simp only [sH] at c2
          refine w_region ?_
          refine l_pptr rfl rfl ?_
          refine b_call rfl cb_38 rfl (rSent_nil H) (fun v w hv => ?_)
          obtain ⟨rfl, H⟩ := hv
          refine l_pint rfl rfl ?_
          refine l_nil ?_
          refine ⟨by repeat' first | exact aM | exact aR | refine aI rfl ?_ | refine aU rfl ?_ | refine aL rfl ?_, ?_⟩
          exact ⟨⟨⟩, ⟨rfl, trivial⟩, H⟩
        try simp only [sH] at c2
        refine w_skip ?_
        refine ⟨by repeat' first | exact aM | exact aR | refine aI rfl ?_ | refine aU rfl ?_ | refine aL rfl ?_, ?_⟩
        exact ⟨⟨⟩, ⟨rfl, trivial⟩, H⟩
      rintro ⟨⟩ ρ1 w H
      refine w_seq ?_
      refine w_region ?_
      refine l_pint rfl rfl ?_
      refine l_pbool rfl rfl ?_
      refine l_nil ?_
      refine w_cond rfl (fun c3 => ?_) (fun c3 => ?_)
      · try simp only [sH] at c3
        exact absurd c3 (by simp)
      try simp only [sH] at c3
      refine w_skip ?_
      refine ⟨by repeat' first | exact aM | exact aR | refine aI rfl ?_ | refine aU rfl ?_ | refine aL rfl ?_, ?_⟩
      exact ⟨_, ⟨rfl, trivial⟩, H⟩
    try simp only [sH] at c1
    refine w_skip ?_
    refine ⟨by repeat' first | exact aM | exact aR | refine aI rfl ?_ | refine aU rfl ?_ | refine aL rfl ?_, ?_⟩
    exact ⟨_, ⟨rfl, trivial⟩, H⟩
  rintro k ρ1 w H
  refine w_seq ?_
  refine w_region ?_
  refine b_alloc (cs := gcells gp0) rfl ze_100 rfl H (fun b11 w H => ?_)
  have H := given0 H
  refine l_nil ?_
  refine w_seq ?_
  refine w_region ?_
  refine l_v rfl (q_fieldAddr rfl fo41_4 rfl) ?_
  refine l_v rfl (q_loadN (vs := [.int .i64 o.pk.fr, .int .i64 o.pk.to, .slice o.pk.a o.pk.n o.pk.cap]) rfl ag_31 rfl rfl ((H.cells 5 rfl).sub 4 3)) ?_
  refine b_call rfl cb_54 rfl (GPacket_ok H o.pk.fr o.pk.to (hro.up 2 rfl) hol hon) (fun v w hv => ?_)
  obtain ⟨ga, gc, wa, wc, x, y, hx, hy, rfl, hxc, H⟩ := hv
  rw [subA_z]
  refine b_alloc rfl ze_31 rfl H (fun b12 w H => ?_)
  refine b_store (cs' := [.int .i64 o.pk.fr, .int .i64 o.pk.to, .slice x.a o.pk.n x.c]) rfl sz_31 rfl rfl rfl rfl rfl H 0 rfl rfl rfl (fun w H => ?_)
  refine l_nil ?_
  refine w_seq ?_
  refine w_seq ?_
  refine w_region ?_
  refine l_v rfl (q_fieldAddr rfl fo41_0 rfl) ?_
  refine l_v rfl (q_load1 rfl c1_3 rfl (by first | exact H.cell 0 rfl rfl | exact H.cell 1 rfl rfl | exact H.cell 2 rfl rfl | exact H.cell 3 rfl rfl | exact H.cell 4 rfl rfl | exact H.cell 5 rfl rfl | exact H.cell 6 rfl rfl | exact H.cell 7 rfl rfl | exact H.cell 8 rfl rfl | exact H.cell 9 rfl rfl | exact H.cell 10 rfl rfl)) ?_
  refine l_nil ?_
  refine w_block ?_
  refine w_seq ?_
  refine w_region ?_
  refine l_pbool rfl rfl ?_
  refine l_pbool rfl rfl ?_
  refine l_nil ?_
  refine w_cond rfl (fun c4 => ?_) (fun c4 => ?_)
  · try simp only [sH] at c4
    refine w_seq ?_
    refine w_region ?_
    refine l_pptr rfl rfl ?_
    refine l_v rfl (q_loadN (vs := [_, _, _]) rfl ag_31 rfl rfl (by first | exact H.cells 0 rfl | exact H.cells 1 rfl | exact H.cells 2 rfl | exact H.cells 3 rfl | exact H.cells 4 rfl | exact H.cells 5 rfl | exact H.cells 6 rfl | exact H.cells 7 rfl | exact H.cells 8 rfl | exact H.cells 9 rfl | exact H.cells 10 rfl)) ?_
    refine b_call rfl cb_19 rfl (Send_nil H o.pk.fr o.pk.to) (fun v w hv => ?_)
    obtain ⟨rfl, H⟩ := hv
    refine l_pint rfl rfl ?_
    refine l_nil ?_
    refine w_seq ?_
    refine w_region ?_
    refine l_pptr rfl rfl ?_
    refine l_v rfl (q_fieldAddr rfl fo41_4 rfl) ?_
    refine l_v rfl (q_loadN (vs := [.int .i64 o.pk.fr, .int .i64 o.pk.to, .slice o.pk.a o.pk.n o.pk.cap]) rfl ag_31 rfl rfl ((H.cells 6 rfl).sub 4 3)) ?_
    refine b_call rfl cb_55 rfl (rSend_nil H o.pk.fr o.pk.to) (fun v w hv => ?_)
    obtain ⟨rfl, H⟩ := hv
    refine l_pint rfl rfl ?_
    refine l_nil ?_
    refine w_seq ?_
    refine w_region ?_
    refine b_call rfl cb_56 rfl (Intact_ok (gb := b11) (g := ⟨ga, gc, wa, wc, [x], [y]⟩) (St.pick [1, 2, 3, 4, 5, 0, 6, 7] (pre := [_, _, _, _, _, _, _, _]) rfl H rfl) (by unfold GOk; simp [hx, hy]) (by simp)) (fun v w hv => ?_)
    obtain ⟨rfl, H⟩ := hv
    refine l_pbool rfl rfl ?_
    refine l_nil ?_
    refine w_seq ?_
    refine w_seq ?_
    refine w_region ?_
    refine l_pint rfl rfl ?_
    refine l_nil ?_
    refine w_block ?_
    refine w_loopG (G := Nat × List UInt8) [16, 71, 72, 73, 74, 75, 76, 77, 78, 79, 80, 81] (fun ⟨j, ys⟩ => [(16, I64 ((j : Nat) : Int))]) (fun m ⟨j, ys⟩ w => m + j = o.pk.n ∧ ys.length = o.pk.n + 1 ∧ St W w (row 5 1 x.a (o.pk.n + 1) x.c (ys.map B) :: blk b12 [.int .i64 o.pk.fr, .int .i64 o.pk.to, .slice x.a o.pk.n x.c] 31 :: bkX bk N :: F)) (fun _ => rfl) ?_ ?_
    · exact ⟨o.pk.n, (0, o.pk.bs ++ [90]), ⟨rfl, trivial⟩, rfl, by simp [hol], own_start (St.pick [3, 5, 7] (pre := [_, _, _, _, _, _, _, _]) rfl H rfl) hx hol⟩
    rintro m ⟨j, ys⟩ ρ1 w ⟨hmj, hys, H⟩
    refine w_seq ?_
    refine w_seq ?_
    refine w_region ?_
    refine l_pint rfl rfl ?_
    refine l_v rfl (q_fieldAddr rfl fo31_2 rfl) ?_
    refine l_v rfl (q_load1 rfl c1_29 rfl (by first | exact H.cell 0 rfl rfl | exact H.cell 1 rfl rfl | exact H.cell 2 rfl rfl | exact H.cell 3 rfl rfl | exact H.cell 4 rfl rfl | exact H.cell 5 rfl rfl | exact H.cell 6 rfl rfl | exact H.cell 7 rfl rfl | exact H.cell 8 rfl rfl | exact H.cell 9 rfl rfl | exact H.cell 10 rfl rfl)) ?_
    refine l_v rfl (q_lenSlice rfl el_29 rfl) ?_
    refine l_pbool rfl rfl ?_
    refine l_nil ?_
    refine w_cond rfl (fun c5 => ?_) (fun c5 => ?_)
    · try simp only [sH] at c5
      have hyj : (ys.map B)[j]? = some (B (ys[j]'(by omega))) := by rw [List.getElem?_map, List.getElem?_eq_getElem (by omega)]; rfl
      obtain ⟨xb, hxa, _⟩ := row_addr H (i := 0) rfl hyj
      refine w_skip ?_
      refine w_seq ?_
      refine w_block ?_
      refine w_region ?_
      refine l_v rfl (q_fieldAddr rfl fo31_2 rfl) ?_
      refine l_v rfl (q_load1 rfl c1_29 rfl (by first | exact H.cell 0 rfl rfl | exact H.cell 1 rfl rfl | exact H.cell 2 rfl rfl | exact H.cell 3 rfl rfl | exact H.cell 4 rfl rfl | exact H.cell 5 rfl rfl | exact H.cell 6 rfl rfl | exact H.cell 7 rfl rfl | exact H.cell 8 rfl rfl | exact H.cell 9 rfl rfl | exact H.cell 10 rfl rfl)) ?_
      refine l_pint rfl rfl ?_
      refine l_v rfl (q_indexSliceA rfl el_29 rfl hxa rfl (by omega)) ?_
      refine b_storeRow (vs := [B 51]) (xs' := (ys.set j 51).map B) rfl sz_5 rfl rfl rfl rfl rfl H 0 rfl hxa (by simp [hys]; omega) (by rw [Nat.zero_add, Nat.mul_one, List.map_set]; rfl) (fun w H => ?_)
      refine l_nil ?_
      refine w_region ?_
      refine l_pint rfl rfl ?_
      first | refine l_v rfl (q_add rfl rfl rfl (by simp only [inK]; omega)) ?_ | refine l_pint rfl rfl ?_
      refine l_pint rfl rfl ?_
      refine l_nil ?_
      refine ⟨by repeat' first | exact aM | exact aR | refine aI rfl ?_ | refine aU rfl ?_ | refine aL rfl ?_, ?_⟩
      exact ⟨m - 1, (j + 1, ys.set j 51), by omega, ⟨by exact congrArg (Value.int IntKind.i64) (Int.natCast_succ j).symm, trivial⟩, by omega, by rw [List.length_set]; exact hys, H⟩
    try simp only [sH] at c5
    refine w_exit ?_
    refine w_seq ?_
    refine w_region ?_
    refine l_pint rfl rfl ?_
    refine l_pint rfl rfl ?_
    refine l_pbool rfl rfl ?_
    refine l_pbool rfl rfl ?_
    refine l_split 85 rfl (fun h85 => ?_) (fun h85 => absurd h85 (by simp))
    try simp only [sH] at h85
    refine l_pbool rfl rfl ?_
    refine l_pickT (v := .bool _) rfl rfl rfl ?_
    refine l_pbool rfl rfl ?_
    refine l_nil ?_
    refine w_ret ?_
    refine fin1 (v := .bool _) rfl ?_
    exact ⟨rfl, bk_mono (N := N) (St.pick [2] (pre := [_, _, _]) rfl H rfl) (by omega)⟩
  try simp only [sH] at c4
  refine w_seq ?_
  refine w_region ?_
  refine l_pbool rfl rfl ?_
  refine l_pbool rfl rfl ?_
  refine l_nil ?_
  refine w_cond rfl (fun c6 => ?_) (fun c6 => ?_)
  · try simp only [sH] at c6
    refine w_seq ?_
    refine w_region ?_
    refine l_pptr rfl rfl ?_
    refine l_v rfl (q_loadN (vs := [_, _, _]) rfl ag_31 rfl rfl (by first | exact H.cells 0 rfl | exact H.cells 1 rfl | exact H.cells 2 rfl | exact H.cells 3 rfl | exact H.cells 4 rfl | exact H.cells 5 rfl | exact H.cells 6 rfl | exact H.cells 7 rfl | exact H.cells 8 rfl | exact H.cells 9 rfl | exact H.cells 10 rfl)) ?_
    refine b_call rfl cb_31 rfl (Inject_nil H o.pk.fr o.pk.to) (fun v w hv => ?_)
    obtain ⟨rfl, H⟩ := hv
    refine l_pint rfl rfl ?_
    refine l_nil ?_
    refine w_seq ?_
    refine w_region ?_
    refine l_pptr rfl rfl ?_
    refine l_v rfl (q_fieldAddr rfl fo41_4 rfl) ?_
    refine l_v rfl (q_loadN (vs := [.int .i64 o.pk.fr, .int .i64 o.pk.to, .slice o.pk.a o.pk.n o.pk.cap]) rfl ag_31 rfl rfl ((H.cells 6 rfl).sub 4 3)) ?_
    refine b_call rfl cb_57 rfl (rInject_nil H o.pk.fr o.pk.to) (fun v w hv => ?_)
    obtain ⟨rfl, H⟩ := hv
    refine l_pint rfl rfl ?_
    refine l_nil ?_
    refine w_seq ?_
    refine w_region ?_
    refine b_call rfl cb_56 rfl (Intact_ok (gb := b11) (g := ⟨ga, gc, wa, wc, [x], [y]⟩) (St.pick [1, 2, 3, 4, 5, 0, 6, 7] (pre := [_, _, _, _, _, _, _, _]) rfl H rfl) (by unfold GOk; simp [hx, hy]) (by simp)) (fun v w hv => ?_)
    obtain ⟨rfl, H⟩ := hv
    refine l_pbool rfl rfl ?_
    refine l_nil ?_
    refine w_seq ?_
    refine w_seq ?_
    refine w_region ?_
    refine l_pint rfl rfl ?_
    refine l_nil ?_
    refine w_block ?_
    refine w_loopG (G := Nat × List UInt8) [20, 98, 99, 100, 101, 102, 103, 104, 105, 106, 107, 108] (fun ⟨j, ys⟩ => [(20, I64 ((j : Nat) : Int))]) (fun m ⟨j, ys⟩ w => m + j = o.pk.n ∧ ys.length = o.pk.n + 1 ∧ St W w (row 5 1 x.a (o.pk.n + 1) x.c (ys.map B) :: blk b12 [.int .i64 o.pk.fr, .int .i64 o.pk.to, .slice x.a o.pk.n x.c] 31 :: bkX bk N :: F)) (fun _ => rfl) ?_ ?_
    · exact ⟨o.pk.n, (0, o.pk.bs ++ [90]), ⟨rfl, trivial⟩, rfl, by simp [hol], own_start (St.pick [3, 5, 7] (pre := [_, _, _, _, _, _, _, _]) rfl H rfl) hx hol⟩
    rintro m ⟨j, ys⟩ ρ1 w ⟨hmj, hys, H⟩
    refine w_seq ?_
    refine w_seq ?_
    refine w_region ?_
    refine l_pint rfl rfl ?_
    refine l_v rfl (q_fieldAddr rfl fo31_2 rfl) ?_
    refine l_v rfl (q_load1 rfl c1_29 rfl (by first | exact H.cell 0 rfl rfl | exact H.cell 1 rfl rfl | exact H.cell 2 rfl rfl | exact H.cell 3 rfl rfl | exact H.cell 4 rfl rfl | exact H.cell 5 rfl rfl | exact H.cell 6 rfl rfl | exact H.cell 7 rfl rfl | exact H.cell 8 rfl rfl | exact H.cell 9 rfl rfl | exact H.cell 10 rfl rfl)) ?_
    refine l_v rfl (q_lenSlice rfl el_29 rfl) ?_
    refine l_pbool rfl rfl ?_
    refine l_nil ?_
    refine w_cond rfl (fun c7 => ?_) (fun c7 => ?_)
    · try simp only [sH] at c7
      have hyj : (ys.map B)[j]? = some (B (ys[j]'(by omega))) := by rw [List.getElem?_map, List.getElem?_eq_getElem (by omega)]; rfl
      obtain ⟨xb, hxa, _⟩ := row_addr H (i := 0) rfl hyj
      refine w_skip ?_
      refine w_seq ?_
      refine w_block ?_
      refine w_region ?_
      refine l_v rfl (q_fieldAddr rfl fo31_2 rfl) ?_
      refine l_v rfl (q_load1 rfl c1_29 rfl (by first | exact H.cell 0 rfl rfl | exact H.cell 1 rfl rfl | exact H.cell 2 rfl rfl | exact H.cell 3 rfl rfl | exact H.cell 4 rfl rfl | exact H.cell 5 rfl rfl | exact H.cell 6 rfl rfl | exact H.cell 7 rfl rfl | exact H.cell 8 rfl rfl | exact H.cell 9 rfl rfl | exact H.cell 10 rfl rfl)) ?_
      refine l_pint rfl rfl ?_
      refine l_v rfl (q_indexSliceA rfl el_29 rfl hxa rfl (by omega)) ?_
      refine b_storeRow (vs := [B 68]) (xs' := (ys.set j 68).map B) rfl sz_5 rfl rfl rfl rfl rfl H 0 rfl hxa (by simp [hys]; omega) (by rw [Nat.zero_add, Nat.mul_one, List.map_set]; rfl) (fun w H => ?_)
      refine l_nil ?_
      refine w_region ?_
      refine l_pint rfl rfl ?_
      first | refine l_v rfl (q_add rfl rfl rfl (by simp only [inK]; omega)) ?_ | refine l_pint rfl rfl ?_
      refine l_pint rfl rfl ?_
      refine l_nil ?_
      refine ⟨by repeat' first | exact aM | exact aR | refine aI rfl ?_ | refine aU rfl ?_ | refine aL rfl ?_, ?_⟩
      exact ⟨m - 1, (j + 1, ys.set j 68), by omega, ⟨by exact congrArg (Value.int IntKind.i64) (Int.natCast_succ j).symm, trivial⟩, by omega, by rw [List.length_set]; exact hys, H⟩
    try simp only [sH] at c7
    refine w_exit ?_
    refine w_seq ?_
    refine w_region ?_
    refine l_pint rfl rfl ?_
    refine l_pint rfl rfl ?_
    refine l_pbool rfl rfl ?_
    refine l_pbool rfl rfl ?_
    refine l_split 112 rfl (fun h112 => ?_) (fun h112 => absurd h112 (by simp))
    try simp only [sH] at h112
    refine l_pbool rfl rfl ?_
    refine l_pickT (v := .bool _) rfl rfl rfl ?_
    refine l_pbool rfl rfl ?_
    refine l_nil ?_
    refine w_ret ?_
    refine fin1 (v := .bool _) rfl ?_
    exact ⟨rfl, bk_mono (N := N) (St.pick [2] (pre := [_, _, _]) rfl H rfl) (by omega)⟩
  try simp only [sH] at c6
  refine w_seq ?_
  refine w_region ?_
  refine l_pbool rfl rfl ?_
  refine l_pbool rfl rfl ?_
  refine l_nil ?_
  refine w_cond rfl (fun c8 => ?_) (fun c8 => ?_)
  · try simp only [sH] at c8
    refine w_seq ?_
    refine w_region ?_
    refine l_pptr rfl rfl ?_
    refine l_pint rfl rfl ?_
    refine b_call rfl cb_27 rfl (At_nil H k) (fun v w hv => ?_)
    obtain ⟨rfl, H⟩ := hv
    refine l_ptup rfl rfl ?_
    refine l_pagg rfl rfl ?_
    refine l_pint rfl rfl ?_
    refine b_alloc rfl ze_31 rfl H (fun b21 w H => ?_)
    refine b_store (cs' := Pk.cells ⟨0, 0, none, 0, 0, []⟩) rfl sz_31 rfl rfl rfl rfl rfl H 0 rfl rfl (putL_all rfl) (fun w H => ?_)
    refine l_pint rfl rfl ?_
    refine l_nil ?_
    refine w_seq ?_
    refine w_region ?_
    refine l_pptr rfl rfl ?_
    refine l_pint rfl rfl ?_
    refine b_call rfl cb_41 rfl (rAt_nil H k) (fun v w hv => ?_)
    obtain ⟨rfl, H⟩ := hv
    refine l_ptup rfl rfl ?_
    refine l_pagg rfl rfl ?_
    refine l_pint rfl rfl ?_
    refine b_alloc rfl ze_31 rfl H (fun b23 w H => ?_)
    refine b_store (cs' := Pk.cells ⟨0, 0, none, 0, 0, []⟩) rfl sz_31 rfl rfl rfl rfl rfl H 0 rfl rfl (putL_all rfl) (fun w H => ?_)
    refine l_pint rfl rfl ?_
    refine l_nil ?_
    refine w_seq ?_
    refine w_region ?_
    refine l_v rfl (q_loadN (vs := [_, _, _]) rfl ag_31 rfl rfl (by first | exact H.cells 0 rfl | exact H.cells 1 rfl | exact H.cells 2 rfl | exact H.cells 3 rfl | exact H.cells 4 rfl | exact H.cells 5 rfl | exact H.cells 6 rfl | exact H.cells 7 rfl | exact H.cells 8 rfl | exact H.cells 9 rfl | exact H.cells 10 rfl)) ?_
    refine l_pint rfl rfl ?_
    refine l_v rfl (q_loadN (vs := [_, _, _]) rfl ag_31 rfl rfl (by first | exact H.cells 0 rfl | exact H.cells 1 rfl | exact H.cells 2 rfl | exact H.cells 3 rfl | exact H.cells 4 rfl | exact H.cells 5 rfl | exact H.cells 6 rfl | exact H.cells 7 rfl | exact H.cells 8 rfl | exact H.cells 9 rfl | exact H.cells 10 rfl)) ?_
    refine l_pint rfl rfl ?_
    refine l_pptr rfl rfl ?_
    refine b_call rfl cb_58 rfl (same_ok (N := N) (p := ⟨0, 0, none, 0, 0, []⟩) (q := ⟨0, 0, none, 0, 0, []⟩) (St.pick [0, 10, 1, 2, 3, 4, 5, 6, 7, 8, 9] (pre := [_, _, _, _, _, _, _, _, _, _, _]) rfl (St.newRow (T := 5) (sz := 1) H) rfl) rfl (Nat.zero_le _) (by omega) RdIn.nil rfl) (fun v w hv => ?_)
    obtain ⟨rfl, H⟩ := hv
    refine l_pbool rfl rfl ?_
    refine l_nil ?_
    refine w_ret ?_
    refine fin1 (v := .bool _) rfl ?_
    exact ⟨rfl, St.pick [0] (pre := [_, _, _, _, _, _, _, _, _, _]) rfl H rfl⟩
  try simp only [sH] at c8
  refine w_seq ?_
  refine w_region ?_
  refine l_pbool rfl rfl ?_
  refine l_pbool rfl rfl ?_
  refine l_nil ?_
  refine w_cond rfl (fun c9 => ?_) (fun c9 => ?_)
  · try simp only [sH] at c9
    refine w_seq ?_
    refine w_region ?_
    refine l_pptr rfl rfl ?_
    refine l_pint rfl rfl ?_
    refine b_call rfl cb_14 rfl (Take_nil H k) (fun v w hv => ?_)
    obtain ⟨rfl, H⟩ := hv
    refine l_ptup rfl rfl ?_
    refine l_pagg rfl rfl ?_
    refine l_pint rfl rfl ?_
    refine b_alloc rfl ze_31 rfl H (fun b25 w H => ?_)
    refine b_store (cs' := Pk.cells ⟨0, 0, none, 0, 0, []⟩) rfl sz_31 rfl rfl rfl rfl rfl H 0 rfl rfl (putL_all rfl) (fun w H => ?_)
    refine l_pint rfl rfl ?_
    refine l_nil ?_
    refine w_seq ?_
    refine w_region ?_
    refine l_pptr rfl rfl ?_
    refine l_pint rfl rfl ?_
    refine b_call rfl cb_59 rfl (rTake_nil H k) (fun v w hv => ?_)
    obtain ⟨rfl, H⟩ := hv
    refine l_ptup rfl rfl ?_
    refine l_pagg rfl rfl ?_
    refine l_pint rfl rfl ?_
    refine b_alloc rfl ze_31 rfl H (fun b27 w H => ?_)
    refine b_store (cs' := Pk.cells ⟨0, 0, none, 0, 0, []⟩) rfl sz_31 rfl rfl rfl rfl rfl H 0 rfl rfl (putL_all rfl) (fun w H => ?_)
    refine l_pint rfl rfl ?_
    refine l_nil ?_
    refine w_seq ?_
    refine w_region ?_
    refine l_v rfl (q_loadN (vs := [_, _, _]) rfl ag_31 rfl rfl (by first | exact H.cells 0 rfl | exact H.cells 1 rfl | exact H.cells 2 rfl | exact H.cells 3 rfl | exact H.cells 4 rfl | exact H.cells 5 rfl | exact H.cells 6 rfl | exact H.cells 7 rfl | exact H.cells 8 rfl | exact H.cells 9 rfl | exact H.cells 10 rfl)) ?_
    refine l_pint rfl rfl ?_
    refine l_v rfl (q_loadN (vs := [_, _, _]) rfl ag_31 rfl rfl (by first | exact H.cells 0 rfl | exact H.cells 1 rfl | exact H.cells 2 rfl | exact H.cells 3 rfl | exact H.cells 4 rfl | exact H.cells 5 rfl | exact H.cells 6 rfl | exact H.cells 7 rfl | exact H.cells 8 rfl | exact H.cells 9 rfl | exact H.cells 10 rfl)) ?_
    refine l_pint rfl rfl ?_
    refine l_pptr rfl rfl ?_
    refine b_call rfl cb_58 rfl (same_ok (N := N) (p := ⟨0, 0, none, 0, 0, []⟩) (q := ⟨0, 0, none, 0, 0, []⟩) (St.pick [0, 10, 1, 2, 3, 4, 5, 6, 7, 8, 9] (pre := [_, _, _, _, _, _, _, _, _, _, _]) rfl (St.newRow (T := 5) (sz := 1) H) rfl) rfl (Nat.zero_le _) (by omega) RdIn.nil rfl) (fun v w hv => ?_)
    obtain ⟨rfl, H⟩ := hv
    refine l_pbool rfl rfl ?_
    refine l_nil ?_
    refine w_ret ?_
    refine fin1 (v := .bool _) rfl ?_
    exact ⟨rfl, St.pick [0] (pre := [_, _, _, _, _, _, _, _, _, _]) rfl H rfl⟩
  try simp only [sH] at c9
  refine w_seq ?_
  refine w_region ?_
  refine l_pbool rfl rfl ?_
  refine l_pbool rfl rfl ?_
  refine l_nil ?_
  refine w_cond rfl (fun c10 => ?_) (fun c10 => ?_)
  · try simp only [sH] at c10
    refine w_seq ?_
    refine w_region ?_
    refine l_pptr rfl rfl ?_
    refine l_pint rfl rfl ?_
    refine b_call rfl cb_26 rfl (Copy_nil H k) (fun v w hv => ?_)
    obtain ⟨rfl, H⟩ := hv
    refine l_pptr rfl rfl ?_
    refine l_pint rfl rfl ?_
    refine b_call rfl cb_60 rfl (rCopy_nil H k) (fun v w hv => ?_)
    obtain ⟨rfl, H⟩ := hv
    refine l_pbool rfl rfl ?_
    refine l_pbool rfl rfl ?_
    refine l_nil ?_
    refine w_ret ?_
    refine fin1 (v := .bool _) rfl ?_
    exact ⟨rfl, bk_mono (N := N) (St.pick [7] (pre := [_, _, _, _, _, _, _, _]) rfl H rfl) (by omega)⟩
  try simp only [sH] at c10
  refine w_seq ?_
  refine w_region ?_
  refine l_pbool rfl rfl ?_
  refine l_pbool rfl rfl ?_
  refine l_nil ?_
  refine w_cond rfl (fun c11 => ?_) (fun c11 => ?_)
  · try simp only [sH] at c11
    refine w_seq ?_
    refine w_region ?_
    refine l_pptr rfl rfl ?_
    refine l_pint rfl rfl ?_
    refine b_call rfl cb_21 rfl (Drop_nil H k) (fun v w hv => ?_)
    obtain ⟨rfl, H⟩ := hv
    refine l_pptr rfl rfl ?_
    refine l_pint rfl rfl ?_
    refine b_call rfl cb_61 rfl (rDrop_nil H k) (fun v w hv => ?_)
    obtain ⟨rfl, H⟩ := hv
    refine l_pbool rfl rfl ?_
    refine l_pbool rfl rfl ?_
    refine l_nil ?_
    refine w_ret ?_
    refine fin1 (v := .bool _) rfl ?_
    exact ⟨rfl, bk_mono (N := N) (St.pick [7] (pre := [_, _, _, _, _, _, _, _]) rfl H rfl) (by omega)⟩
  try simp only [sH] at c11
  refine w_seq ?_
  refine w_region ?_
  refine l_pbool rfl rfl ?_
  refine l_pbool rfl rfl ?_
  refine l_nil ?_
  refine w_cond rfl (fun c12 => ?_) (fun c12 => ?_)
  · try simp only [sH] at c12
    refine w_seq ?_
    refine w_drawT [13] [3, 5, 10, 12] [(0, 0), (1, 0), (2, 0), (3, 1), (4, 0), (5, 1), (7, 0), (8, 0), (9, 0), (10, 1), (11, 0), (12, 1), (6, 2), (13, 2), (14, 0), (15, 0)] mixed (by kernel_rfl) (fun _ _ _ h => fin_panic h) H (fun H => ?_)
    refine r_pptr rfl rfl rfl ?_
    refine r_pint rfl rfl rfl ?_
    refine r_w rfl rfl (fun w => q_fieldAddr rfl fo41_2 rfl) ?_
    refine r_v rfl rfl (fun w hS => q_load1 rfl c1_3 rfl (by first | exact hS.cell 0 rfl rfl | exact hS.cell 1 rfl rfl | exact hS.cell 2 rfl rfl | exact hS.cell 3 rfl rfl | exact hS.cell 4 rfl rfl | exact hS.cell 5 rfl rfl | exact hS.cell 6 rfl rfl | exact hS.cell 7 rfl rfl | exact hS.cell 8 rfl rfl | exact hS.cell 9 rfl rfl | exact hS.cell 10 rfl rfl)) ?_
    refine r_w rfl rfl (fun w => q_fieldAddr rfl fo41_3 rfl) ?_
    refine r_v rfl rfl (fun w hS => q_load1 rfl c1_5 rfl (by first | exact hS.cell 0 rfl rfl | exact hS.cell 1 rfl rfl | exact hS.cell 2 rfl rfl | exact hS.cell 3 rfl rfl | exact hS.cell 4 rfl rfl | exact hS.cell 5 rfl rfl | exact hS.cell 6 rfl rfl | exact hS.cell 7 rfl rfl | exact hS.cell 8 rfl rfl | exact hS.cell 9 rfl rfl | exact hS.cell 10 rfl rfl)) ?_
    refine r_pptr rfl rfl rfl ?_
    refine r_pint rfl rfl rfl ?_
    refine r_w rfl rfl (fun w => q_fieldAddr rfl fo41_2 rfl) ?_
    refine r_v rfl rfl (fun w hS => q_load1 rfl c1_3 rfl (by first | exact hS.cell 0 rfl rfl | exact hS.cell 1 rfl rfl | exact hS.cell 2 rfl rfl | exact hS.cell 3 rfl rfl | exact hS.cell 4 rfl rfl | exact hS.cell 5 rfl rfl | exact hS.cell 6 rfl rfl | exact hS.cell 7 rfl rfl | exact hS.cell 8 rfl rfl | exact hS.cell 9 rfl rfl | exact hS.cell 10 rfl rfl)) ?_
    refine r_w rfl rfl (fun w => q_fieldAddr rfl fo41_3 rfl) ?_
    refine r_v rfl rfl (fun w hS => q_load1 rfl c1_5 rfl (by first | exact hS.cell 0 rfl rfl | exact hS.cell 1 rfl rfl | exact hS.cell 2 rfl rfl | exact hS.cell 3 rfl rfl | exact hS.cell 4 rfl rfl | exact hS.cell 5 rfl rfl | exact hS.cell 6 rfl rfl | exact hS.cell 7 rfl rfl | exact hS.cell 8 rfl rfl | exact hS.cell 9 rfl rfl | exact hS.cell 10 rfl rfl)) ?_
    refine r_do rfl ?_
    refine b_call rfl cb_22 rfl (Turn_nil H k o.at_ o.mask) (fun v w hv => ?_)
    obtain ⟨rfl, H⟩ := hv
    refine l_nil ⟨fun _ _ => (by first | exact H | exact H.drop1 | exact H.drop1.drop1 | exact H.drop1.drop1.drop1), ?_⟩
    refine r_do rfl ?_
    refine b_call rfl cb_62 rfl (rTurn_nil H k o.at_ o.mask) (fun v w hv => ?_)
    obtain ⟨rfl, H⟩ := hv
    refine l_nil ⟨(fun h => nomatch h), ?_⟩
    refine r_pbool rfl rfl rfl ?_
    refine r_pbool rfl rfl rfl ?_
    refine r_nil ?_
    refine w_ret ?_
    refine fin1 (v := .bool _) rfl ?_
    exact ⟨rfl, bk_mono (N := N) (St.pick [7] (pre := [_, _, _, _, _, _, _, _]) rfl H rfl) (by omega)⟩
  try simp only [sH] at c12
  refine w_seq ?_
  refine w_region ?_
  refine l_pbool rfl rfl ?_
  refine l_pbool rfl rfl ?_
  refine l_nil ?_
  refine w_cond rfl (fun c13 => ?_) (fun c13 => ?_)
  · try simp only [sH] at c13
    refine w_seq ?_
    refine w_drawT [9] [3, 8] [(0, 0), (1, 0), (2, 0), (3, 1), (5, 0), (6, 0), (7, 0), (8, 1), (4, 2), (9, 2), (10, 0), (11, 0)] mixed (by kernel_rfl) (fun _ _ _ h => fin_panic h) H (fun H => ?_)
    refine r_pptr rfl rfl rfl ?_
    refine r_pint rfl rfl rfl ?_
    refine r_w rfl rfl (fun w => q_fieldAddr rfl fo41_2 rfl) ?_
    refine r_v rfl rfl (fun w hS => q_load1 rfl c1_3 rfl (by first | exact hS.cell 0 rfl rfl | exact hS.cell 1 rfl rfl | exact hS.cell 2 rfl rfl | exact hS.cell 3 rfl rfl | exact hS.cell 4 rfl rfl | exact hS.cell 5 rfl rfl | exact hS.cell 6 rfl rfl | exact hS.cell 7 rfl rfl | exact hS.cell 8 rfl rfl | exact hS.cell 9 rfl rfl | exact hS.cell 10 rfl rfl)) ?_
    refine r_pptr rfl rfl rfl ?_
    refine r_pint rfl rfl rfl ?_
    refine r_w rfl rfl (fun w => q_fieldAddr rfl fo41_2 rfl) ?_
    refine r_v rfl rfl (fun w hS => q_load1 rfl c1_3 rfl (by first | exact hS.cell 0 rfl rfl | exact hS.cell 1 rfl rfl | exact hS.cell 2 rfl rfl | exact hS.cell 3 rfl rfl | exact hS.cell 4 rfl rfl | exact hS.cell 5 rfl rfl | exact hS.cell 6 rfl rfl | exact hS.cell 7 rfl rfl | exact hS.cell 8 rfl rfl | exact hS.cell 9 rfl rfl | exact hS.cell 10 rfl rfl)) ?_
    refine r_do rfl ?_
    refine b_call rfl cb_23 rfl (Swap_nil H k o.at_) (fun v w hv => ?_)
    obtain ⟨rfl, H⟩ := hv
    refine l_nil ⟨fun _ _ => (by first | exact H | exact H.drop1 | exact H.drop1.drop1 | exact H.drop1.drop1.drop1), ?_⟩
    refine r_do rfl ?_
    refine b_call rfl cb_63 rfl (rSwap_nil H k o.at_) (fun v w hv => ?_)
    obtain ⟨rfl, H⟩ := hv
    refine l_nil ⟨(fun h => nomatch h), ?_⟩
    refine r_pbool rfl rfl rfl ?_
    refine r_pbool rfl rfl rfl ?_
    refine r_nil ?_
    refine w_ret ?_
    refine fin1 (v := .bool _) rfl ?_
    exact ⟨rfl, bk_mono (N := N) (St.pick [7] (pre := [_, _, _, _, _, _, _, _]) rfl H rfl) (by omega)⟩
  try simp only [sH] at c13
  refine w_seq ?_
  refine w_region ?_
  refine l_pbool rfl rfl ?_
  refine l_pbool rfl rfl ?_
  refine l_nil ?_
  refine w_cond rfl (fun c14 => ?_) (fun c14 => ?_)
  · try simp only [sH] at c14
    refine w_seq ?_
    refine w_region ?_
    refine l_pptr rfl rfl ?_
    refine l_v rfl (q_fieldAddr rfl fo41_1 rfl) ?_
    refine l_v rfl (q_load1 rfl c1_3 rfl (by first | exact H.cell 0 rfl rfl | exact H.cell 1 rfl rfl | exact H.cell 2 rfl rfl | exact H.cell 3 rfl rfl | exact H.cell 4 rfl rfl | exact H.cell 5 rfl rfl | exact H.cell 6 rfl rfl | exact H.cell 7 rfl rfl | exact H.cell 8 rfl rfl | exact H.cell 9 rfl rfl | exact H.cell 10 rfl rfl)) ?_
    refine b_call rfl cb_32 rfl (For_nil H o.k) (fun v w hv => ?_)
    obtain ⟨rfl, H⟩ := hv
    refine l_pslice rfl rfl ?_
    refine l_nil ?_
    refine w_seq ?_
    refine w_region ?_
    refine l_pslice rfl rfl ?_
    refine l_pptr rfl rfl ?_
    refine l_v rfl (q_fieldAddr rfl fo41_1 rfl) ?_
    refine l_v rfl (q_load1 rfl c1_3 rfl (by first | exact H.cell 0 rfl rfl | exact H.cell 1 rfl rfl | exact H.cell 2 rfl rfl | exact H.cell 3 rfl rfl | exact H.cell 4 rfl rfl | exact H.cell 5 rfl rfl | exact H.cell 6 rfl rfl | exact H.cell 7 rfl rfl | exact H.cell 8 rfl rfl | exact H.cell 9 rfl rfl | exact H.cell 10 rfl rfl)) ?_
    refine b_call rfl cb_65 rfl (rFor_nil H o.k) (fun v w hv => ?_)
    obtain ⟨rfl, H⟩ := hv
    refine b_call rfl cb_64 rfl (SameInts_ok (l := []) H RdIn.nil RdIn.nil (by simp)) (fun v w hv => ?_)
    obtain ⟨rfl, H⟩ := hv
    refine l_pbool rfl rfl ?_
    refine l_nil ?_
    refine w_seq ?_
    refine w_region ?_
    refine l_pptr rfl rfl ?_
    refine l_pslice rfl rfl ?_
    refine b_call rfl cb_66 rfl (bkInts_ok (N := N) (n := 0) (xs := []) (St.pick [0, 8, 1, 2, 3, 4, 5, 6, 7] (pre := [_, _, _, _, _, _, _, _, _]) rfl (St.newRow (T := 3) (sz := 1) H) rfl) rfl (by omega) (by omega)) (fun v w hv => ?_)
    have H := hv
    refine l_nil ?_
    refine w_seq ?_
    refine w_region ?_
    refine l_pbool rfl rfl ?_
    refine l_pbool rfl rfl ?_
    refine l_nil ?_
    refine w_ret ?_
    refine fin1 (v := .bool _) rfl ?_
    exact ⟨rfl, St.pick [0] (pre := [_, _, _, _, _, _, _, _]) rfl H rfl⟩
  try simp only [sH] at c14
  refine w_seq ?_
  refine w_region ?_
  refine l_pbool rfl rfl ?_
  refine l_pbool rfl rfl ?_
  refine l_nil ?_
  refine w_cond rfl (fun c15 => ?_) (fun c15 => ?_)
  · try simp only [sH] at c15
    refine w_seq ?_
    refine w_region ?_
    refine l_pptr rfl rfl ?_
    refine b_call rfl cb_24 rfl (Clear_nil H) (fun v w hv => ?_)
    obtain ⟨rfl, H⟩ := hv
    refine l_nil ?_
    refine w_region ?_
    refine l_pptr rfl rfl ?_
    refine b_call rfl cb_67 rfl (rClear_nil H) (fun v w hv => ?_)
    obtain ⟨rfl, H⟩ := hv
    refine l_nil ?_
    refine w_seq ?_
    refine w_region ?_
    refine l_pbool rfl rfl ?_
    refine l_nil ?_
    refine w_ret ?_
    refine fin1 (v := .bool _) rfl ?_
    exact ⟨rfl, bk_mono (N := N) (St.pick [7] (pre := [_, _, _, _, _, _, _, _]) rfl H rfl) (by omega)⟩
  try simp only [sH] at c15
  refine w_seq ?_
  refine w_region ?_
  refine l_pbool rfl rfl ?_
  refine l_pbool rfl rfl ?_
  refine l_nil ?_
  refine w_cond rfl (fun c16 => ?_) (fun c16 => ?_)
  · try simp only [sH] at c16
    refine w_seq ?_
    refine w_region ?_
    refine l_pptr rfl rfl ?_
    refine b_call rfl cb_18 rfl (Sent_nil H) (fun v w hv => ?_)
    obtain ⟨rfl, H⟩ := hv
    refine l_pptr rfl rfl ?_
    refine b_call rfl cb_38 rfl (rSent_nil H) (fun v w hv => ?_)
    obtain ⟨rfl, H⟩ := hv
    refine l_pbool rfl rfl ?_
    refine l_pbool rfl rfl ?_
    refine l_nil ?_
    refine w_ret ?_
    refine fin1 (v := .bool _) rfl ?_
    exact ⟨rfl, bk_mono (N := N) (St.pick [7] (pre := [_, _, _, _, _, _, _, _]) rfl H rfl) (by omega)⟩
  try simp only [sH] at c16
  refine w_seq ?_
  refine w_region ?_
  refine l_pbool rfl rfl ?_
  refine l_pbool rfl rfl ?_
  refine l_nil ?_
  refine w_cond rfl (fun c17 => ?_) (fun c17 => ?_)
  · try simp only [sH] at c17
    refine w_seq ?_
    refine w_region ?_
    refine l_pptr rfl rfl ?_
    refine l_pint rfl rfl ?_
    refine b_call rfl cb_43 rfl (Record_nil H k) (fun v w hv => ?_)
    obtain ⟨rfl, H⟩ := hv
    refine l_ptup rfl rfl ?_
    refine l_pagg rfl rfl ?_
    refine l_pint rfl rfl ?_
    refine b_alloc rfl ze_31 rfl H (fun b31 w H => ?_)
    refine b_store (cs' := Pk.cells ⟨0, 0, none, 0, 0, []⟩) rfl sz_31 rfl rfl rfl rfl rfl H 0 rfl rfl (putL_all rfl) (fun w H => ?_)
    refine l_pint rfl rfl ?_
    refine l_nil ?_
    refine w_seq ?_
    refine w_region ?_
    refine l_pptr rfl rfl ?_
    refine l_pint rfl rfl ?_
    refine b_call rfl cb_42 rfl (rRecord_nil H k) (fun v w hv => ?_)
    obtain ⟨rfl, H⟩ := hv
    refine l_ptup rfl rfl ?_
    refine l_pagg rfl rfl ?_
    refine l_pint rfl rfl ?_
    refine b_alloc rfl ze_31 rfl H (fun b33 w H => ?_)
    refine b_store (cs' := Pk.cells ⟨0, 0, none, 0, 0, []⟩) rfl sz_31 rfl rfl rfl rfl rfl H 0 rfl rfl (putL_all rfl) (fun w H => ?_)
    refine l_pint rfl rfl ?_
    refine l_nil ?_
    refine w_seq ?_
    refine w_region ?_
    refine l_v rfl (q_loadN (vs := [_, _, _]) rfl ag_31 rfl rfl (by first | exact H.cells 0 rfl | exact H.cells 1 rfl | exact H.cells 2 rfl | exact H.cells 3 rfl | exact H.cells 4 rfl | exact H.cells 5 rfl | exact H.cells 6 rfl | exact H.cells 7 rfl | exact H.cells 8 rfl | exact H.cells 9 rfl | exact H.cells 10 rfl)) ?_
    refine l_pint rfl rfl ?_
    refine l_v rfl (q_loadN (vs := [_, _, _]) rfl ag_31 rfl rfl (by first | exact H.cells 0 rfl | exact H.cells 1 rfl | exact H.cells 2 rfl | exact H.cells 3 rfl | exact H.cells 4 rfl | exact H.cells 5 rfl | exact H.cells 6 rfl | exact H.cells 7 rfl | exact H.cells 8 rfl | exact H.cells 9 rfl | exact H.cells 10 rfl)) ?_
    refine l_pint rfl rfl ?_
    refine l_pptr rfl rfl ?_
    refine b_call rfl cb_58 rfl (same_ok (N := N) (p := ⟨0, 0, none, 0, 0, []⟩) (q := ⟨0, 0, none, 0, 0, []⟩) (St.pick [0, 10, 1, 2, 3, 4, 5, 6, 7, 8, 9] (pre := [_, _, _, _, _, _, _, _, _, _, _]) rfl (St.newRow (T := 5) (sz := 1) H) rfl) rfl (Nat.zero_le _) (by omega) RdIn.nil rfl) (fun v w hv => ?_)
    obtain ⟨rfl, H⟩ := hv
    refine l_pbool rfl rfl ?_
    refine l_nil ?_
    refine w_ret ?_
    refine fin1 (v := .bool _) rfl ?_
    exact ⟨rfl, St.pick [0] (pre := [_, _, _, _, _, _, _, _, _, _]) rfl H rfl⟩
  try simp only [sH] at c17
  refine w_seq ?_
  refine w_region ?_
  refine l_pbool rfl rfl ?_
  refine l_pbool rfl rfl ?_
  refine l_nil ?_
  refine w_cond rfl (fun c18 => ?_) (fun c18 => ?_)
  · try simp only [sH] at c18
    refine w_seq ?_
    refine w_drawT [6, 9] [1, 5] [(0, 0), (1, 1), (3, 0), (4, 0), (5, 1), (2, 2), (6, 2), (7, 0), (8, 0), (9, 2), (10, 0), (11, 0)] mixed (by kernel_rfl) (fun _ _ _ h => fin_panic h) H (fun H => ?_)
    refine r_pptr rfl rfl rfl ?_
    refine r_v rfl rfl (fun w hS => q_loadN (vs := [_, _, _]) rfl ag_31 rfl rfl (by first | exact hS.cells 0 rfl | exact hS.cells 1 rfl | exact hS.cells 2 rfl | exact hS.cells 3 rfl | exact hS.cells 4 rfl | exact hS.cells 5 rfl | exact hS.cells 6 rfl | exact hS.cells 7 rfl | exact hS.cells 8 rfl | exact hS.cells 9 rfl | exact hS.cells 10 rfl)) ?_
    refine r_pptr rfl rfl rfl ?_
    refine r_w rfl rfl (fun w => q_fieldAddr rfl fo41_4 rfl) ?_
    refine r_v rfl rfl (fun w hS => q_loadN (vs := [.int .i64 o.pk.fr, .int .i64 o.pk.to, .slice o.pk.a o.pk.n o.pk.cap]) rfl ag_31 rfl rfl ((hS.cells 6 rfl).sub 4 3)) ?_
    refine r_do rfl ?_
    refine b_call rfl cb_30 rfl (Genuine_nil H o.pk.fr o.pk.to) (fun v w hv => ?_)
    obtain ⟨rfl, H⟩ := hv
    refine l_nil ⟨fun _ _ => (by first | exact H | exact H.drop1 | exact H.drop1.drop1 | exact H.drop1.drop1.drop1), ?_⟩
    refine r_do rfl ?_
    refine b_call rfl cb_68 rfl (rGenuine_nil H o.pk.fr o.pk.to) (fun v w hv => ?_)
    obtain ⟨rfl, H⟩ := hv
    refine l_nil ⟨(fun h => nomatch h), ?_⟩
    refine r_w rfl rfl (fun w => q_eqlBool rfl bo_4 rfl rfl) ?_
    refine r_pbool rfl rfl rfl ?_
    refine r_split 262 rfl (fun h262 => ?_) (fun h262 => absurd h262 (by simp))
    try simp only [sH] at h262
    refine r_do rfl ?_
    refine b_call rfl cb_56 rfl (Intact_ok (gb := b11) (g := ⟨ga, gc, wa, wc, [x], [y]⟩) (St.pick [1, 2, 3, 4, 5, 0, 6, 7] (pre := [_, _, _, _, _, _, _, _]) rfl H rfl) (by unfold GOk; simp [hx, hy]) (by simp)) (fun v w hv => ?_)
    obtain ⟨rfl, H⟩ := hv
    have H := St.pick [5, 0, 1, 2, 3, 4, 6, 7] (pre := [_, _, _, _, _, _, _, _]) rfl H rfl
    refine l_nil ⟨(fun h => nomatch h), ?_⟩
    refine r_pickT (v := .bool _) rfl rfl rfl rfl ?_
    refine r_pbool rfl rfl rfl ?_
    refine r_nil ?_
    refine w_ret ?_
    refine fin1 (v := .bool _) rfl ?_
    exact ⟨rfl, bk_mono (N := N) (St.pick [7] (pre := [_, _, _, _, _, _, _, _]) rfl H rfl) (by omega)⟩
  try simp only [sH] at c18
  refine w_seq ?_
  refine w_region ?_
  refine l_pbool rfl rfl ?_
  refine l_pbool rfl rfl ?_
  refine l_nil ?_
  refine w_cond rfl (fun c19 => ?_) (fun c19 => ?_)
  · try simp only [sH] at c19
    refine w_seq ?_
    refine w_region ?_
    refine l_pptr rfl rfl ?_
    refine b_call rfl cb_16 rfl (Len_nil H) (fun v w hv => ?_)
    obtain ⟨rfl, H⟩ := hv
    refine l_pptr rfl rfl ?_
    refine b_call rfl cb_40 rfl (rLen_nil H) (fun v w hv => ?_)
    obtain ⟨rfl, H⟩ := hv
    refine l_pbool rfl rfl ?_
    refine l_pbool rfl rfl ?_
    refine l_nil ?_
    refine w_ret ?_
    refine fin1 (v := .bool _) rfl ?_
    exact ⟨rfl, bk_mono (N := N) (St.pick [7] (pre := [_, _, _, _, _, _, _, _]) rfl H rfl) (by omega)⟩
  try simp only [sH] at c19
  refine w_seq ?_
  refine w_region ?_
  refine l_pbool rfl rfl ?_
  refine l_pbool rfl rfl ?_
  refine l_nil ?_
  refine w_cond rfl (fun c20 => ?_) (fun c20 => ?_)
  · try simp only [sH] at c20
    refine w_seq ?_
    refine w_region ?_
    refine l_pptr rfl rfl ?_
    refine l_pptr rfl rfl ?_
    refine l_pptr rfl rfl ?_
    refine b_call rfl cb_37 rfl (each_nil H) (fun v w hv => ?_)
    obtain ⟨rfl, H⟩ := hv
    refine l_pbool rfl rfl ?_
    refine l_nil ?_
    refine w_ret ?_
    refine fin1 (v := .bool _) rfl ?_
    exact ⟨rfl, bk_mono (N := N) (St.pick [7] (pre := [_, _, _, _, _, _, _, _]) rfl H rfl) (by omega)⟩
  try simp only [sH] at c20
  refine w_skip ?_
  refine w_seq ?_
  refine w_region ?_
  refine l_pbool rfl rfl ?_
  refine l_nil ?_
  refine w_ret ?_
  refine fin1 (v := .bool _) rfl ?_
  exact ⟨rfl, bk_mono (N := N) (St.pick [7] (pre := [_, _, _, _, _, _, _, _]) rfl H rfl) (by omega)⟩
end Go.Proofs.Ytmgcmgfjaimlnaa
