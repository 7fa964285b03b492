/- Walks through the tape's functions. -/
import Derived.Test.YtfpmnhmdphaceaaDoorTap31
import Derived.Test.YtfpmnhmdphaceaaDoorTap9
import Derived.Test.YtfpmnhmdphaceaaDoorTap11
namespace Go.Proofs.YtfpmnhmdphaceaaDoor
open Go.EW
attribute [local irreducible] EW.W EW.L EW.fin block8 outB shaL
set_option linter.unusedVariables false
set_option linter.unusedSimpArgs false
attribute [local irreducible] crcN crcB crcL sealL openR sealR putEv getEv

theorem given0 {W w : World} {F : List Seg} {b : Nat} (H : St W w (blk b (gcells gp0) 37 :: F)) : St W w (givenL b gp0 F) :=
  St.pick [4, 0, 1, 2, 3] (pre := [_, _, _, _, _]) rfl (St.newRow (T := 28) (sz := 1) (St.newRow (T := 28) (sz := 1) (St.nilseg.2 (St.nilseg.2 H)))) rfl
theorem rdin_mark {W : World} {S : List Seg} {a : Option Addr} {c : Nat} {bs xs : List UInt8} (e : xs = bs ++ [90]) (h : RdIn W S a (xs.map B)) : RdIn W S (subA a 1 0 c) (bs.map B) := by
  have h2 := rdin_head (c := c) (n := bs.length) h
  rwa [e, List.take_left' rfl] at h2

set_option maxRecDepth 8000 in
set_option maxHeartbeats 1000000 in
theorem TapeEvents_ok {W w : World} {F : List Seg} (hN : NibOk W) (H : St W w F) (e : Evt) (he : EvOk e) {a a2 : Option Addr} {c n2 c2 : Nat} {bs : List UInt8} (hr : RdIn W F a (e.bs.map B)) (hr2 : RdIn W F a2 (bs.map B)) (hl : bs.length = n2) (hcp : bs.length ≤ c2) (hn : n2 ≤ 140737488351232) :
    Ok Tryd.prog 3 [.agg (e.cells a c).toArray, .slice a2 n2 c2].toArray w (fun r w' => r = .bool true ∧ ∃ S, St W w' S) := by
  subst hl
  refine enter (n := 62) (rs := #[.tmp 4]) Tryd.func3 rfl rfl rfl rfl ?_
  refine w_seq ?_
  refine w_region ?_
  refine b_box (cs := e.cells a c) rfl rfl rfl H (fun b2 w H => ?_)
  refine l_pbool rfl rfl ?_
  refine l_nil ?_
  refine w_seq ?_
  refine w_region ?_
  refine b_alloc (cs := gcells gp0) rfl ze_37 rfl H (fun b5 w H => ?_)
  have H := given0 H
  refine l_nil ?_
  refine w_seq ?_
  refine w_region ?_
  refine l_v rfl (q_loadN (vs := e.cells a c) rfl ag_30 rfl rfl (H.cells 5 rfl)) ?_
  refine b_call rfl cb_12 rfl (GEvent_ok H (Nat.zero_le _) (Nat.zero_le _) e (hr.up 1 rfl) (by have := he.bs; omega)) (fun v w hv => ?_)
  obtain ⟨ga, gc, wa, wc, x, y, hx, hy, hxc, rfl, H⟩ := hv
  refine b_call rfl cb_11 rfl (PutEvent_ok H e he (rdin_mark hx (RdIn.segs 3 rfl 0 rfl))) (fun v w hv => ?_)
  obtain ⟨pa, pc, rfl, H⟩ := hv
  refine l_ptup rfl rfl ?_
  refine l_pslice rfl rfl ?_
  refine l_pint rfl rfl ?_
  refine l_pslice rfl rfl ?_
  refine l_pint rfl rfl ?_
  refine l_nil ?_
  refine w_seq ?_
  refine w_region ?_
  refine l_v rfl (q_loadN (vs := e.cells a c) rfl ag_30 rfl rfl (H.cells 6 rfl)) ?_
  refine b_call rfl cb_13 rfl (rPutEvent_ok H e he (hr.up 7 rfl)) (fun v w hv => ?_)
  obtain ⟨qa, qc, rfl, H⟩ := hv
  have H := St.pick [2, 3, 4, 5, 6, 0, 1, 7] (pre := [_, _, _, _, _, _, _, _]) rfl H rfl
  refine l_ptup rfl rfl ?_
  refine l_pslice rfl rfl ?_
  refine l_pint rfl rfl ?_
  refine l_pslice rfl rfl ?_
  refine l_pint rfl rfl ?_
  refine l_nil ?_
  refine w_seq ?_
  refine w_region ?_
  refine l_pslice rfl rfl ?_
  refine b_call rfl cb_15 rfl (GBytes_ok H (by show 0 + 1 ≤ 1000000; decide) (by show 0 + 1 ≤ 1000000; decide) (hr2.up 3 rfl) rfl (by omega)) (fun v w hv => ?_)
  obtain ⟨ga2, gc2, wa2, wc2, x2, y2, hx2, hy2, rfl, hxc2, H⟩ := hv
  refine b_call rfl cb_14 rfl (GetEvent_ok H (rdin_mark hx2 (RdIn.segs 3 rfl 1 rfl)) rfl (by omega)) (fun v w hv => ?_)
  obtain ⟨ua, uc, rfl, H⟩ := hv
  refine l_ptup rfl rfl ?_
  refine l_pagg rfl rfl ?_
  refine l_pint rfl rfl ?_
  refine b_alloc (cs := evt0.cells none 0) rfl ze_30 rfl H (fun b10 w H => ?_)
  refine b_store (cs' := (getEv bs).1.cells ua uc) rfl sz_30 rfl rfl rfl rfl rfl H 0 rfl rfl (putL_all rfl) (fun w H => ?_)
  refine l_pint rfl rfl ?_
  refine l_nil ?_
  refine w_seq ?_
  refine w_region ?_
  refine l_pslice rfl rfl ?_
  refine b_call rfl cb_16 rfl (rGetEvent_ok H (hr2.up 10 rfl) rfl hcp (by omega)) (fun v w hv => ?_)
  obtain ⟨va, vc, rfl, H⟩ := hv
  have hgo : GOk ⟨ga2, gc2, wa2, wc2, ([] ++ [x]) ++ [x2], ([] ++ [y]) ++ [y2]⟩ := by
    show [x.bs, x2.bs] = [y.bs, y2.bs]
    rw [hx, hy, hx2, hy2]
  refine l_ptup rfl rfl ?_
  refine l_pagg rfl rfl ?_
  refine l_pint rfl rfl ?_
  refine b_alloc (cs := evt0.cells none 0) rfl ze_30 rfl H (fun b12 w H => ?_)
  refine b_store (cs' := (getEv bs).1.cells va vc) rfl sz_30 rfl rfl rfl rfl rfl H 0 rfl rfl (putL_all rfl) (fun w H => ?_)
  refine l_pint rfl rfl ?_
  refine l_nil ?_
  refine w_seq ?_
  refine w_region ?_
  refine l_pslice rfl rfl ?_
  refine l_v rfl (q_bytesStr (bs := (putEv e).1) rfl by_28 st_9 rfl ((H.rowInv (i := 10) rfl).2.2.2.2) rfl) ?_
  refine l_pslice rfl rfl ?_
  refine l_v rfl (q_bytesStr (bs := (putEv e).1) rfl by_28 st_9 rfl ((H.rowInv (i := 9) rfl).2.2.2.2) rfl) ?_
  refine l_v rfl (q_pure (s_eql rfl rfl)) ?_
  refine l_pbool rfl rfl ?_
  refine l_split 41 rfl (fun h41 => ?_) (fun h41 => absurd h41 (by simp))
  try simp only [sH] at h41
  refine l_pint rfl rfl ?_
  refine l_pint rfl rfl ?_
  refine l_pbool rfl rfl ?_
  refine l_pickT (v := .bool _) rfl rfl rfl ?_
  refine l_pbool rfl rfl ?_
  refine l_split 46 rfl (fun h46 => ?_) (fun h46 => absurd h46 (by simp))
  try simp only [sH] at h46
  refine l_v rfl (q_loadN (vs := (getEv bs).1.cells ua uc) rfl ag_30 rfl rfl (H.cells 2 rfl)) ?_
  refine l_v rfl (q_loadN (vs := (getEv bs).1.cells va vc) rfl ag_30 rfl rfl (H.cells 0 rfl)) ?_
  refine b_call rfl cb_17 rfl (sameEvent_ok H (x := (getEv bs).1) (y := (getEv bs).1) (RdIn.rowF 3 rfl) (RdIn.rowF 1 rfl)) (fun v w hv => ?_)
  obtain ⟨bb, hbb, rfl, H⟩ := hv
  obtain rfl : bb = true := hbb.2 rfl
  refine l_pickT (v := .bool _) rfl rfl rfl ?_
  refine l_pbool rfl rfl ?_
  refine l_split 51 rfl (fun h51 => ?_) (fun h51 => absurd h51 (by simp))
  try simp only [sH] at h51
  refine l_pint rfl rfl ?_
  refine l_pint rfl rfl ?_
  refine l_pbool rfl rfl ?_
  refine l_pickT (v := .bool _) rfl rfl rfl ?_
  refine l_pbool rfl rfl ?_
  refine l_split 56 rfl (fun h56 => ?_) (fun h56 => absurd h56 (by simp))
  try simp only [sH] at h56
  refine b_call rfl cb_18 rfl (Ok_perm (pickP [4, 5, 6, 7, 8, 0, 1, 2, 3] (pre := [_, _, _, _, _, _, _, _, _]) rfl rfl) (fun H => Intact_ok H hgo (by show 1 + 1 ≤ 1000000; decide)) H) (fun v w hv => ?_)
  obtain ⟨rfl, H⟩ := hv
  refine l_pickT (v := .bool _) rfl rfl rfl ?_
  refine l_pbool rfl rfl ?_
  refine l_split 59 rfl (fun h59 => ?_) (fun h59 => absurd h59 (by simp))
  try simp only [sH] at h59
  refine b_call rfl cb_19 rfl (works_ok hN H) (fun v w hv => ?_)
  obtain ⟨rfl, H⟩ := hv
  refine l_pickT (v := .bool _) rfl rfl rfl ?_
  refine l_pbool rfl rfl ?_
  refine l_nil ?_
  refine w_ret ?_
  refine fin1 (v := .bool _) rfl ?_
  exact ⟨rfl, _, H⟩

end Go.Proofs.YtfpmnhmdphaceaaDoor
