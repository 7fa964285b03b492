/- The walk of the law TapeSeeks ends in true, where the table of nibbles is laid. -/
import Derived.Test.YtfpmnhmdphaceaaDoorTap43
import Derived.Test.YtfpmnhmdphaceaaDoorTap38
import Derived.Test.YtfpmnhmdphaceaaDoorTap32
namespace Go.Proofs.YtfpmnhmdphaceaaDoor
open Go.EW
attribute [local irreducible] EW.W EW.L EW.fin block8 outB shaL
set_option linter.unusedVariables false
set_option linter.unusedSimpArgs false
attribute [local irreducible] crcN crcB crcL sealL openR sealR indexR seekR
theorem SameInts_ok {W w : World} {F : List Seg} (H : St W w F) {l : List Nat} {xa ya : Option Addr} {n xc yc : Nat} (hx : RdIn W F xa (natsV l)) (hy : RdIn W F ya (natsV l)) (hn : l.length = n) (hl : n ≤ 140737488355328) :
    Ok Tryd.prog 36 [.slice xa n xc, .slice ya n yc].toArray w (fun r w' => r = .bool true ∧ St W w' F) := by
  subst hn
  refine enter (n := 26) (rs := #[.tmp 4]) Tryd.func36 rfl rfl rfl rfl ?_
  refine w_seq ?_
  refine w_region ?_
  refine l_pbool rfl rfl ?_
  refine l_nil ?_
  refine w_seq ?_
  refine w_seq ?_
  refine w_region ?_
  refine l_pslice rfl rfl ?_
  refine l_v rfl (q_lenSlice rfl el_66 rfl) ?_
  refine l_pslice rfl rfl ?_
  refine l_v rfl (q_lenSlice rfl el_66 rfl) ?_
  refine l_pbool rfl rfl ?_
  refine l_nil ?_
  refine w_cond rfl (fun c1 => ?_) (fun c1 => ?_)
  · try simp only [sH] at c1
    exact absurd c1 (by simp)
  try simp only [sH] at c1
  refine w_skip ?_
  refine w_seq ?_
  refine w_seq ?_
  refine w_region ?_
  refine l_pint rfl rfl ?_
  refine l_nil ?_
  refine w_block ?_
  refine w_loopG (G := Nat) [4, 5, 11, 12, 13, 14, 15, 16, 17, 18, 19, 20, 21, 22, 23, 24, 25] (fun i => [(5, .int .i64 ((i : Nat) : Int))]) (fun m i w => m + i = l.length ∧ St W w F) (fun _ => rfl) ?_ ?_
  · exact ⟨l.length, 0, ⟨rfl, trivial⟩, rfl, H⟩
  rintro m i ρ1 w ⟨hmi, H⟩
  refine w_seq ?_
  refine w_seq ?_
  refine w_region ?_
  refine l_pint rfl rfl ?_
  refine l_pslice rfl rfl ?_
  refine l_v rfl (q_lenSlice rfl el_66 rfl) ?_
  refine l_pbool rfl rfl ?_
  refine l_nil ?_
  refine w_cond rfl (fun c2 => ?_) (fun c2 => ?_)
  · try simp only [sH] at c2
    have hi : i < l.length := by omega
    obtain ⟨xb, xo, hxa, _⟩ := nat_at (hx.use H 0 rfl) hi
    obtain ⟨yb, yo, hya, _⟩ := nat_at (hy.use H 0 rfl) hi
    refine w_skip ?_
    refine w_seq ?_
    refine w_block ?_
    refine w_seq ?_
    refine w_drawT [] [3, 7] [(0, 0), (1, 0), (2, 0), (3, 1), (4, 0), (5, 0), (6, 0), (7, 1), (8, 0)] mixed (by kernel_rfl) (fun _ _ _ h => fin_panic h) H (fun H => ?_)
    refine r_pslice rfl rfl rfl ?_
    refine r_pint rfl rfl rfl ?_
    refine r_w rfl rfl (fun w => q_indexSliceE i rfl el_66 rfl hxa rfl rfl hi) ?_
    refine r_v rfl rfl (fun w hS => q_load1 rfl c1_3 rfl (nat_c hxa (hx.use hS 0 rfl) hi)) ?_
    refine r_pslice rfl rfl rfl ?_
    refine r_pint rfl rfl rfl ?_
    refine r_w rfl rfl (fun w => q_indexSliceE i rfl el_66 rfl hya rfl rfl hi) ?_
    refine r_v rfl rfl (fun w hS => q_load1 rfl c1_3 rfl (nat_c hya (hy.use hS 0 rfl) hi)) ?_
    refine r_pbool rfl rfl rfl ?_
    refine r_nil ?_
    refine w_cond rfl (fun c3 => ?_) (fun c3 => ?_)
    · try simp only [sH] at c3
      exact absurd c3 (by simp)
    try simp only [sH] at c3
    refine w_skip ?_
    refine w_region ?_
    refine l_pint rfl rfl ?_
    first | refine l_v rfl (q_add rfl rfl rfl (by simp only [inK]; omega)) ?_ | refine l_pint rfl rfl ?_
    refine l_pint rfl rfl ?_
    refine l_nil ?_
    refine ⟨by repeat' first | exact aM | exact aR | refine aI rfl ?_ | refine aU rfl ?_ | refine aL rfl ?_, ?_⟩
    exact ⟨m - 1, i + 1, by omega, ⟨by exact congrArg (Value.int IntKind.i64) (Int.natCast_succ i).symm, trivial⟩, by omega, H⟩
  try simp only [sH] at c2
  refine w_exit ?_
  refine w_seq ?_
  refine w_region ?_
  refine l_pbool rfl rfl ?_
  refine l_nil ?_
  refine w_ret ?_
  refine fin1 (v := .bool _) rfl ?_
  exact ⟨rfl, H⟩
attribute [local semireducible] indexR in
theorem index_len (bs : List UInt8) : (indexR bs).2.1.length ≤ 140737488355328 := by
  by_cases h : (indexR bs).2.2 = 0
  · have := (index_inv h).2.1; omega
  unfold indexR at h ⊢
  split
  · exact Nat.zero_le _
  rename_i h1
  rw [if_neg h1] at h
  split
  · exact Nat.zero_le _
  rename_i h2
  rw [if_neg h2] at h
  exact absurd rfl h
set_option maxRecDepth 8000 in
set_option maxHeartbeats 1000000 in
theorem TapeSeeks_ok {W w : World} {F : List Seg} (hN : NibOk W) (H : St W w F) {a : Option Addr} {n c : Nat} {bs : List UInt8} {fr cn : Int} (hr : RdIn W F a (bs.map B)) (hl : bs.length = n) (hcp : bs.length ≤ c) (hn : n ≤ 140737488351232) (hfr : -9223372036854775808 ≤ fr ∧ fr ≤ 9223372036854775807) (hcn : -9223372036854775808 ≤ cn ∧ cn ≤ 9223372036854775807) :
    Ok Tryd.prog 8 [.slice a n c, I fr, I cn].toArray w (fun r w' => r = .bool true ∧ ∃ S, St W w' S) := by
  subst hl
  refine enter (n := 67) (rs := #[.tmp 6]) Tryd.func8 rfl rfl rfl rfl ?_
  refine w_seq ?_
  refine w_region ?_
  refine l_pbool rfl rfl ?_
  refine l_nil ?_
  refine w_seq ?_
  refine w_region ?_
  refine b_alloc (cs := gcells gp0) rfl ze_37 rfl H (fun b7 w H => ?_)
  have H := given0 H
  refine l_nil ?_
  refine w_seq ?_
  refine w_region ?_
  refine l_pslice rfl rfl ?_
  refine b_call rfl cb_15 rfl (GBytes_ok H (Nat.zero_le _) (Nat.zero_le _) hr rfl (by omega)) (fun v w hv => ?_)
  obtain ⟨ga, gc, wa, wc, x, y, hx, hy, rfl, hxc, H⟩ := hv
  have hgo : GOk ⟨ga, gc, wa, wc, [] ++ [x], [] ++ [y]⟩ := by
    show [x.bs] = [y.bs]
    rw [hx, hy]
  refine l_pslice rfl rfl ?_
  refine l_nil ?_
  refine w_seq ?_
  refine w_region ?_
  refine l_pslice rfl rfl ?_
  refine b_call rfl cb_32 rfl (Index_ok hN H (rdin_mark hx (RdIn.segs 3 rfl 0 rfl)) rfl hxc (by omega)) (fun v w hv => ?_)
  obtain ⟨ia, ic, rfl, H⟩ := hv
  refine l_ptup rfl rfl ?_
  refine l_pslice rfl rfl ?_
  refine l_pint rfl rfl ?_
  refine l_pslice rfl rfl ?_
  refine l_pint rfl rfl ?_
  refine l_nil ?_
  refine w_seq ?_
  refine w_region ?_
  refine l_pslice rfl rfl ?_
  refine b_call rfl cb_33 rfl (Index_r H (hr.up 6 rfl) rfl hcp (by omega)) (fun v w hv => ?_)
  obtain ⟨ja, jc, rfl, H⟩ := hv
  refine l_ptup rfl rfl ?_
  refine l_pslice rfl rfl ?_
  refine l_pint rfl rfl ?_
  refine l_pslice rfl rfl ?_
  refine l_pint rfl rfl ?_
  refine l_nil ?_
  refine w_seq ?_
  refine w_region ?_
  refine l_pslice rfl rfl ?_
  refine l_pint rfl rfl ?_
  refine l_pint rfl rfl ?_
  refine b_call rfl cb_34 rfl (Seek_ok hN H (rdin_mark hx (RdIn.segs 5 rfl 0 rfl)) rfl hxc (by omega) hfr hcn) (fun v w hv => ?_)
  obtain ⟨ea, ec, es, hes, rfl, H⟩ := hv
  refine l_ptup rfl rfl ?_
  refine l_pslice rfl rfl ?_
  refine l_pint rfl rfl ?_
  refine l_pslice rfl rfl ?_
  refine l_pint rfl rfl ?_
  refine l_nil ?_
  refine w_seq ?_
  refine w_region ?_
  refine l_pslice rfl rfl ?_
  refine l_pint rfl rfl ?_
  refine l_pint rfl rfl ?_
  refine b_call rfl cb_35 rfl (Seek_r H (hr.up 9 rfl) rfl hcp (by omega) hfr hcn) (fun v w hv => ?_)
  obtain ⟨da, dc, ds, hds, rfl, H⟩ := hv
  refine l_ptup rfl rfl ?_
  refine l_pslice rfl rfl ?_
  refine l_pint rfl rfl ?_
  refine l_pslice rfl rfl ?_
  refine l_pint rfl rfl ?_
  refine l_nil ?_
  refine w_seq ?_
  refine w_region ?_
  refine l_pslice rfl rfl ?_
  refine l_pslice rfl rfl ?_
  refine b_call rfl cb_36 rfl (SameInts_ok H (RdIn.row 5 rfl) (RdIn.row 4 rfl) rfl (index_len bs)) (fun v w hv => ?_)
  obtain ⟨rfl, H⟩ := hv
  refine l_pbool rfl rfl ?_
  refine l_split 46 rfl (fun h46 => ?_) (fun h46 => absurd h46 (by simp))
  try simp only [sH] at h46
  refine l_pint rfl rfl ?_
  refine l_pint rfl rfl ?_
  refine l_pbool rfl rfl ?_
  refine l_pickT (v := .bool _) rfl rfl rfl ?_
  refine l_pbool rfl rfl ?_
  refine l_split 51 rfl (fun h51 => ?_) (fun h51 => absurd h51 (by simp))
  try simp only [sH] at h51
  refine l_pslice rfl rfl ?_
  refine l_pslice rfl rfl ?_
  refine b_call rfl cb_27 rfl (sameEvents_ok H (xs := es) (ys := ds) (RdIn.row 2 rfl) rfl (EvsR.segs 3 rfl) (RdIn.row 0 rfl) rfl (EvsR.segs 1 rfl) (by have h := H.rowInv (i := 2) rfl; have h1 := h.2.1; have h2 := h.2.2.1; simp only [maxLen] at h2; omega)) (fun v w hv => ?_)
  obtain ⟨bb, hbb, rfl, H⟩ := hv
  obtain rfl : bb = true := hbb.2 (hes.trans hds.symm)
  refine l_pickT (v := .bool _) rfl rfl rfl ?_
  refine l_pbool rfl rfl ?_
  refine l_split 56 rfl (fun h56 => ?_) (fun h56 => absurd h56 (by simp))
  try simp only [sH] at h56
  refine l_pint rfl rfl ?_
  refine l_pint rfl rfl ?_
  refine l_pbool rfl rfl ?_
  refine l_pickT (v := .bool _) rfl rfl rfl ?_
  refine l_pbool rfl rfl ?_
  refine l_split 61 rfl (fun h61 => ?_) (fun h61 => absurd h61 (by simp))
  try simp only [sH] at h61
  refine b_call rfl cb_18 rfl (Ok_perm (pickP [6, 7, 8, 9, 10, 0, 1, 2, 3, 4, 5] (pre := [_, _, _, _, _, _, _, _, _, _, _]) rfl rfl) (fun H => Intact_ok H hgo (by show 1 ≤ 1000000; decide)) H) (fun v w hv => ?_)
  obtain ⟨rfl, H⟩ := hv
  refine l_pickT (v := .bool _) rfl rfl rfl ?_
  refine l_pbool rfl rfl ?_
  refine l_split 64 rfl (fun h64 => ?_) (fun h64 => absurd h64 (by simp))
  try simp only [sH] at h64
  refine b_call rfl cb_19 rfl (works_ok hN H) (fun v w hv => ?_)
  obtain ⟨rfl, H⟩ := hv
  refine l_pickT (v := .bool _) rfl rfl rfl ?_
  refine l_pbool rfl rfl ?_
  refine l_nil ?_
  refine w_ret ?_
  refine fin1 (v := .bool _) rfl ?_
  exact ⟨rfl, _, H⟩
end Go.Proofs.YtfpmnhmdphaceaaDoor
