/- The walk of the law TapeReads ends in true, where the table of nibbles is laid. -/
import Derived.Test.YtfpmnhmdphaceaaGreatDoorZap56
import Derived.Test.YtfpmnhmdphaceaaGreatDoorZap31
import Derived.Test.YtfpmnhmdphaceaaGreatDoorZap38
import Derived.Test.YtfpmnhmdphaceaaGreatDoorZap30
import Derived.Test.YtfpmnhmdphaceaaGreatDoorZap29
import Derived.Test.YtfpmnhmdphaceaaGreatDoorZapP5
namespace Go.Proofs.YtfpmnhmdphaceaaGreatDoor
open Go.EW
attribute [local irreducible] EW.W EW.L EW.fin block8 outB shaL
set_option linter.unusedVariables false
set_option linter.unusedSimpArgs false
attribute [local irreducible] crcN crcB crcL sealL openR sealR bodyR headR tailR eventsR chunkR numberR
theorem given0 {W w : World} {F : List Seg} {b : Nat} (H : St W w (blk b (gcells gp0) 43 :: F)) : St W w (givenL b gp0 F) :=
  St.pick [4, 0, 1, 2, 3] (pre := [_, _, _, _, _]) rfl (St.newRow (T := 50) (sz := 1) (St.newRow (T := 50) (sz := 1) (St.nilseg.2 (St.nilseg.2 H)))) rfl
theorem rdin_mark {W : World} {S : List Seg} {a : Option Addr} {c : Nat} {bs xs : List UInt8} (e : xs = bs ++ [90]) (h : RdIn W S a (xs.map B)) : RdIn W S (subA a 1 0 c) (bs.map B) := by
  have h2 := rdin_head (c := c) (n := bs.length) h
  rwa [e, List.take_left' rfl] at h2
theorem run_cls (bs : List UInt8) : (runR bs).2.2.stp.cls.length ≤ 16 := (run_all bs).2.2.1
theorem read_cls (bs : List UInt8) : (readR bs).1.cls.length ≤ 16 := by
  by_cases h : (runR bs).1 = 0
  · rw [read_yes h]; exact run_cls bs
  rw [read_no h]; exact Nat.zero_le _
attribute [local irreducible] runR loopR readR
set_option maxRecDepth 8000 in
set_option maxHeartbeats 1000000 in
theorem TapeReads_ok {W w : World} {F : List Seg} (hN : NibOk W) (H : St W w F) {a : Option Addr} {n c : Nat} {bs : List UInt8} (hr : RdIn W F a (bs.map B)) (hl : bs.length = n) (hcp : bs.length ≤ c) (hn : n ≤ 140737488351232) :
    Ok Tryz.prog 4 [.slice a n c].toArray w (fun r w' => r = .bool true ∧ ∃ S, St W w' S) := by
  subst hl
  refine enter (n := 82) (rs := #[.tmp 2]) Tryz.func4 rfl rfl rfl rfl ?_
  refine w_seq ?_
  refine w_region ?_
  refine l_pbool rfl rfl ?_
  refine l_nil ?_
  refine w_seq ?_
  refine w_region ?_
  refine b_alloc (cs := gcells gp0) rfl ze_43 rfl H (fun b3 w H => ?_)
  have H := given0 H
  refine l_nil ?_
  refine w_seq ?_
  refine w_region ?_
  refine l_pslice rfl rfl ?_
  refine b_call rfl cb_16 rfl (GBytes_ok H (Nat.zero_le _) (Nat.zero_le _) hr rfl (by omega)) (fun v w hv => ?_)
  obtain ⟨ga, gc, wa, wc, x, y, hx, hy, rfl, hxc, H⟩ := hv
  have hgo : GOk ⟨ga, gc, wa, wc, [] ++ [x], [] ++ [y]⟩ := by
    show [x.bs] = [y.bs]
    rw [hx, hy]
  refine l_pslice rfl rfl ?_
  refine l_nil ?_
  refine w_seq ?_
  refine w_region ?_
  refine l_pslice rfl rfl ?_
  refine b_call rfl cb_17 rfl (Read_ok hN H (rdin_mark hx (RdIn.segs 3 rfl 0 rfl)) rfl hxc (by omega)) (fun v w hv => ?_)
  obtain ⟨ea, ec, ca, cc, es, hes, rfl, H⟩ := hv
  refine l_ptup rfl rfl ?_
  refine l_pagg rfl rfl ?_
  refine l_pslice rfl rfl ?_
  refine l_pint rfl rfl ?_
  refine l_pint rfl rfl ?_
  refine b_alloc (cs := stp0.cells none 0) rfl ze_26 rfl H (fun b5 w H => ?_)
  refine b_store (cs' := (readR bs).1.cells ca cc) rfl sz_26 rfl rfl rfl rfl rfl H 0 rfl rfl (putL_all rfl) (fun w H => ?_)
  refine l_pslice rfl rfl ?_
  refine l_pint rfl rfl ?_
  refine l_pint rfl rfl ?_
  refine l_nil ?_
  refine w_seq ?_
  refine w_region ?_
  refine l_pslice rfl rfl ?_
  refine b_call rfl cb_18 rfl (rRead_r H (hr.up 9 rfl) rfl hcp (by omega)) (fun v w hv => ?_)
  obtain ⟨ea2, ec2, ca2, cc2, es2, hes2, rfl, H⟩ := hv
  refine l_ptup rfl rfl ?_
  refine l_pagg rfl rfl ?_
  refine l_pslice rfl rfl ?_
  refine l_pint rfl rfl ?_
  refine l_pint rfl rfl ?_
  refine b_alloc (cs := stp0.cells none 0) rfl ze_26 rfl H (fun b9 w H => ?_)
  refine b_store (cs' := (readR bs).1.cells ca2 cc2) rfl sz_26 rfl rfl rfl rfl rfl H 0 rfl rfl (putL_all rfl) (fun w H => ?_)
  refine l_pslice rfl rfl ?_
  refine l_pint rfl rfl ?_
  refine l_pint rfl rfl ?_
  refine l_nil ?_
  refine w_seq ?_
  refine w_seq ?_
  refine w_region ?_
  refine l_v rfl (q_loadN (vs := (readR bs).1.cells ca cc) rfl ag_26 rfl rfl (H.cells 4 rfl)) ?_
  refine l_v rfl (q_loadN (vs := (readR bs).1.cells ca2 cc2) rfl ag_26 rfl rfl (H.cells 0 rfl)) ?_
  refine b_call rfl cb_19 rfl (sameSetup_ok H (s := (readR bs).1) (t := (readR bs).1) (RdIn.row 7 rfl) (RdIn.row 3 rfl) (by have := read_cls bs; omega)) (fun v w hv => ?_)
  obtain ⟨bb, hbb, rfl, H⟩ := hv
  obtain rfl : bb = true := hbb.2 rfl
  refine l_pbool rfl rfl ?_
  refine l_pbool rfl rfl ?_
  refine l_split 35 rfl (fun h35 => absurd h35 (by simp)) (fun h35 => ?_)
  try simp only [sH] at h35
  refine l_pslice rfl rfl ?_
  refine l_pslice rfl rfl ?_
  refine b_call rfl cb_20 rfl (sameEvents_ok H (xs := es) (ys := es2) (RdIn.row 5 rfl) rfl (EvsR.segs 6 rfl) (RdIn.row 1 rfl) rfl (EvsR.segs 2 rfl) (by have h := H.rowInv (i := 5) rfl; have h1 := h.2.1; have h2 := h.2.2.1; simp only [maxLen] at h2; omega)) (fun v w hv => ?_)
  obtain ⟨bb, hbb, rfl, H⟩ := hv
  obtain rfl : bb = true := hbb.2 (hes.trans hes2.symm)
  refine l_pbool rfl rfl ?_
  refine l_pickF (v := .bool _) rfl rfl rfl ?_
  refine l_pbool rfl rfl ?_
  refine l_split 41 rfl (fun h41 => absurd h41 (by simp)) (fun h41 => ?_)
  try simp only [sH] at h41
  refine l_pint rfl rfl ?_
  refine l_pint rfl rfl ?_
  refine l_pbool rfl rfl ?_
  refine l_pickF (v := .bool _) rfl rfl rfl ?_
  refine l_pbool rfl rfl ?_
  refine l_split 46 rfl (fun h46 => absurd h46 (by simp)) (fun h46 => ?_)
  try simp only [sH] at h46
  refine l_pint rfl rfl ?_
  refine l_pint rfl rfl ?_
  refine l_pbool rfl rfl ?_
  refine l_pickF (v := .bool _) rfl rfl rfl ?_
  refine l_nil ?_
  refine w_cond rfl (fun c1 => ?_) (fun c1 => ?_)
  · try simp only [sH] at c1
    exact absurd c1 (by simp)
  try simp only [sH] at c1
  refine w_skip ?_
  refine w_seq ?_
  refine w_region ?_
  refine l_pslice rfl rfl ?_
  refine b_call rfl cb_21 rfl (Salvage_ok hN H (rdin_mark hx (RdIn.segs 11 rfl 0 rfl)) rfl hxc (by omega)) (fun v w hv => ?_)
  obtain ⟨ea3, ec3, ca3, cc3, es3, hes3, rfl, H⟩ := hv
  refine l_ptup rfl rfl ?_
  refine l_pagg rfl rfl ?_
  refine l_pslice rfl rfl ?_
  refine l_pint rfl rfl ?_
  refine b_store (cs' := (runR bs).2.2.stp.cells ca3 cc3) rfl sz_26 rfl rfl rfl rfl rfl H 7 rfl rfl (putL_all rfl) (fun w H => ?_)
  refine l_pslice rfl rfl ?_
  refine l_pint rfl rfl ?_
  refine l_nil ?_
  refine w_seq ?_
  refine w_region ?_
  refine l_pslice rfl rfl ?_
  refine b_call rfl cb_22 rfl (rSalvage_r H (hr.up 16 rfl) rfl hcp (by omega)) (fun v w hv => ?_)
  obtain ⟨ea4, ec4, ca4, cc4, es4, hes4, rfl, H⟩ := hv
  refine l_ptup rfl rfl ?_
  refine l_pagg rfl rfl ?_
  refine l_pslice rfl rfl ?_
  refine l_pint rfl rfl ?_
  refine b_store (cs' := (runR bs).2.2.stp.cells ca4 cc4) rfl sz_26 rfl rfl rfl rfl rfl H 6 rfl rfl (putL_all rfl) (fun w H => ?_)
  refine l_pslice rfl rfl ?_
  refine l_pint rfl rfl ?_
  refine l_nil ?_
  refine w_seq ?_
  refine w_region ?_
  refine l_v rfl (q_loadN (vs := (runR bs).2.2.stp.cells ca3 cc3) rfl ag_26 rfl rfl (H.cells 10 rfl)) ?_
  refine l_v rfl (q_loadN (vs := (runR bs).2.2.stp.cells ca4 cc4) rfl ag_26 rfl rfl (H.cells 6 rfl)) ?_
  refine b_call rfl cb_19 rfl (sameSetup_ok H (s := (runR bs).2.2.stp) (t := (runR bs).2.2.stp) (RdIn.row 5 rfl) (RdIn.row 2 rfl) (by have := run_cls bs; omega)) (fun v w hv => ?_)
  obtain ⟨bb, hbb, rfl, H⟩ := hv
  obtain rfl : bb = true := hbb.2 rfl
  refine l_pbool rfl rfl ?_
  refine l_split 66 rfl (fun h66 => ?_) (fun h66 => absurd h66 (by simp))
  try simp only [sH] at h66
  refine l_pslice rfl rfl ?_
  refine l_pslice rfl rfl ?_
  refine b_call rfl cb_20 rfl (sameEvents_ok H (xs := es3) (ys := es4) (RdIn.row 3 rfl) rfl (EvsR.segs 4 rfl) (RdIn.row 0 rfl) rfl (EvsR.segs 1 rfl) (by have h := H.rowInv (i := 3) rfl; have h1 := h.2.1; have h2 := h.2.2.1; simp only [maxLen] at h2; omega)) (fun v w hv => ?_)
  obtain ⟨bb, hbb, rfl, H⟩ := hv
  obtain rfl : bb = true := hbb.2 (hes3.trans hes4.symm)
  refine l_pickT (v := .bool _) rfl rfl rfl ?_
  refine l_pbool rfl rfl ?_
  refine l_split 71 rfl (fun h71 => ?_) (fun h71 => absurd h71 (by simp))
  try simp only [sH] at h71
  refine l_pint rfl rfl ?_
  refine l_pint rfl rfl ?_
  refine l_pbool rfl rfl ?_
  refine l_pickT (v := .bool _) rfl rfl rfl ?_
  refine l_pbool rfl rfl ?_
  refine l_split 76 rfl (fun h76 => ?_) (fun h76 => absurd h76 (by simp))
  try simp only [sH] at h76
  refine b_call rfl cb_12 rfl (Ok_perm (pickP [14, 15, 16, 17, 18, 0, 1, 2, 3, 4, 5, 6, 7, 8, 9, 10, 11, 12, 13] (pre := [_, _, _, _, _, _, _, _, _, _, _, _, _, _, _, _, _, _, _]) rfl rfl) (fun H => Intact_ok H hgo (by show 1 ≤ 1000000; decide)) H) (fun v w hv => ?_)
  obtain ⟨rfl, H⟩ := hv
  refine l_pickT (v := .bool _) rfl rfl rfl ?_
  refine l_pbool rfl rfl ?_
  refine l_split 79 rfl (fun h79 => ?_) (fun h79 => absurd h79 (by simp))
  try simp only [sH] at h79
  refine b_call rfl cb_8 rfl (works_ok hN H) (fun v w hv => ?_)
  obtain ⟨rfl, H⟩ := hv
  refine l_pickT (v := .bool _) rfl rfl rfl ?_
  refine l_pbool rfl rfl ?_
  refine l_nil ?_
  refine w_ret ?_
  refine fin1 (v := .bool _) rfl ?_
  exact ⟨rfl, _, H⟩
end Go.Proofs.YtfpmnhmdphaceaaGreatDoor
