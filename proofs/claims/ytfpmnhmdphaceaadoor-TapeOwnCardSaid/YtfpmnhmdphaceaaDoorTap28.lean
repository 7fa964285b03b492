/- Walks through the tape's functions. -/
import Derived.Test.YtfpmnhmdphaceaaDoorTap27
import Derived.Test.YtfpmnhmdphaceaaDoorBaseAll
namespace Go.Proofs.YtfpmnhmdphaceaaDoor
open Go.EW
attribute [local irreducible] EW.W EW.L EW.fin block8 outB shaL
set_option linter.unusedVariables false
set_option linter.unusedSimpArgs false
attribute [local irreducible] crcN crcB crcL sealL openR sealR
def readR (bs : List UInt8) : Stp × List Evt × Nat × Nat :=
  if (runR bs).1 ≠ 0 then (stp0, [], (runR bs).1, (runR bs).2.1) else ((runR bs).2.2.stp, (runR bs).2.2.evs, 0, 0)
theorem scan0 {W w : World} {F : List Seg} {b : Nat} {a : Option Addr} {n c : Nat} (H : St W w (blk b (scells (sp0.at a n c) ss0) 146 :: F)) : St W w (scanL b (sp0.at a n c) ss0 F) :=
  St.pick [5, 0, 1, 2, 3, 4] (pre := [_, _, _, _, _, _]) rfl (St.newRow (T := 30) (sz := 13) (St.nilseg.2 (St.newRow (T := 3) (sz := 1) (St.newRow (T := 28) (sz := 1) (St.newRow (T := 150) (sz := 1) H))))) rfl
attribute [local irreducible] runR
set_option maxRecDepth 8000 in
theorem Read_ok {W w : World} {F : List Seg} (hN : NibOk W) (H : St W w F) {a : Option Addr} {n c : Nat} {bs : List UInt8} (hr : RdIn W F a (bs.map B)) (hl : bs.length = n) (hcp : bs.length ≤ c) (hn : bs.length ≤ 140737488351232) :
    Ok Tryd.prog 20 [.slice a n c].toArray w (fun r w' => ∃ ea ec ca cc, ∃ es : List EvM, es.map EvM.e = (readR bs).2.1 ∧ r = .tuple #[.agg ((readR bs).1.cells ca cc).toArray, .slice ea es.length ec, I ((readR bs).2.2.1 : Int), I ((readR bs).2.2.2 : Int)] ∧ St W w' (row 30 13 ea es.length ec (evsV es) :: Segs (es.map EvM.seg) :: row 150 1 ca (readR bs).1.cls.length cc (intsV (readR bs).1.cls) :: F)) := by
  subst hl
  refine enter (n := 30) (rs := #[.cell 2 56, .tmp 3, .tmp 4, .tmp 5]) Tryd.func20 rfl rfl rfl rfl ?_
  refine w_seq ?_
  refine w_region ?_
  refine b_alloc (cs := stp0.cells none 0) rfl ze_56 rfl H (fun b2 w H => ?_)
  refine l_pslice rfl rfl ?_
  refine l_pint rfl rfl ?_
  refine l_pint rfl rfl ?_
  refine l_nil ?_
  refine w_seq ?_
  refine w_region ?_
  refine l_pslice rfl rfl ?_
  refine l_v rfl (q_build (cs := scells (sp0.at a bs.length c) ss0) rfl sp_146 rfl) ?_
  refine b_box (cs := scells (sp0.at a bs.length c) ss0) rfl rfl rfl H (fun b11 w H => ?_)
  refine l_pptr rfl rfl ?_
  refine l_nil ?_
  refine w_seq ?_
  refine w_seq ?_
  refine w_region ?_
  refine l_pptr rfl rfl ?_
  refine b_call rfl cb_66 rfl (run_ok hN (scan0 H) (hr.up 1 rfl) rfl hcp hn) (fun v w hv => ?_)
  obtain ⟨P, rfl, hsp, H⟩ := hv
  have H := St.pick [6, 0, 1, 2, 3, 4, 5] (pre := [_, _, _, _, _, _, _]) rfl H rfl
  refine l_ptup rfl rfl ?_
  refine l_pint rfl rfl ?_
  refine l_pint rfl rfl ?_
  refine l_pint rfl rfl ?_
  refine l_pint rfl rfl ?_
  refine l_nil ?_
  refine w_seq ?_
  refine w_region ?_
  refine l_pint rfl rfl ?_
  refine l_pbool rfl rfl ?_
  refine l_nil ?_
  refine w_cond rfl (fun c1 => ?_) (fun c1 => ?_)
  · try simp only [sH] at c1
    refine w_seq ?_
    refine w_region ?_
    refine l_v rfl (q_build (cs := stp0.cells none 0) rfl sp_56 rfl) ?_
    refine l_pint rfl rfl ?_
    refine l_pint rfl rfl ?_
    refine b_store (cs' := stp0.cells none 0) rfl sz_56 rfl rfl rfl rfl rfl H 0 rfl rfl (putL_all rfl) (fun w H => ?_)
    refine l_pslice rfl rfl ?_
    refine l_pint rfl rfl ?_
    refine l_pint rfl rfl ?_
    refine l_nil ?_
    refine w_ret ?_
    refine finct3 rfl ag_56 rfl (by first | exact H.cells 0 rfl | exact H.cells 1 rfl | exact H.cells 2 rfl | exact H.cells 3 rfl) rfl rfl rfl ?_
    have e : readR bs = (stp0, [], (runR bs).1, (runR bs).2.1) := if_pos (by omega)
    rw [e]
    have H2 := H.drop1.drop1.drop1.drop1.drop1.drop1.drop1
    exact ⟨none, 0, none, 0, [], rfl, rfl, St.pick [1, 0, 2] (pre := [_, _, _]) rfl (St.nilseg.2 (St.newRow (T := 30) (sz := 13) (St.newRow (T := 150) (sz := 1) H2))) rfl⟩
  try simp only [sH] at c1
  refine w_skip ?_
  refine w_seq ?_
  refine w_drawX [] [3, 7] 1 [(0, 0), (1, 0), (2, 0), (3, 1), (4, 0), (5, 0), (6, 0), (7, 1), (8, 2), (9, 0), (10, 0), (11, 0)] mixed (by kernel_rfl) (fun _ _ _ h => fin_panic h) H (fun H => ?_)
  refine r_pptr rfl rfl rfl ?_
  refine r_pptr rfl rfl rfl ?_
  refine r_w rfl rfl (fun w => q_fieldAddr rfl fo146_1 rfl) ?_
  refine r_v rfl rfl (fun w hS => q_loadN (vs := (runR bs).2.2.stp.cells P.ca P.cc) rfl ag_56 rfl rfl ((hS.cells 0 rfl).sub 1 5)) ?_
  refine r_pptr rfl rfl rfl ?_
  refine r_pptr rfl rfl rfl ?_
  refine r_w rfl rfl (fun w => q_fieldAddr rfl fo146_2 rfl) ?_
  refine r_v rfl rfl (fun w hS => q_load1 rfl c1_57 rfl (by first | exact hS.cell 0 rfl rfl | exact hS.cell 1 rfl rfl | exact hS.cell 2 rfl rfl | exact hS.cell 3 rfl rfl)) ?_
  refine r_do rfl ?_
  refine b_store (cs' := (runR bs).2.2.stp.cells P.ca P.cc) rfl sz_56 rfl rfl rfl rfl rfl H 0 rfl rfl (putL_all rfl) (fun w H => ?_)
  refine l_nil ⟨fun _ _ => (by first | exact Sx.tl H 1 rfl | exact Sx.tl H 0 rfl), ?_⟩
  refine r_pslice rfl rfl rfl ?_
  refine r_pint rfl rfl rfl ?_
  refine r_pint rfl rfl rfl ?_
  refine r_nil ?_
  refine w_ret ?_
  refine finct3 rfl ag_56 rfl (by first | exact H.cells 0 rfl | exact H.cells 1 rfl | exact H.cells 2 rfl | exact H.cells 3 rfl) rfl rfl rfl ?_
  have e : readR bs = ((runR bs).2.2.stp, (runR bs).2.2.evs, 0, 0) := if_neg (by omega)
  rw [e]
  exact ⟨P.ea, P.ec, P.ca, P.cc, P.es, hsp.evs, rfl, St.pick [2, 3, 6] (pre := [_, _, _, _, _, _, _]) rfl H rfl⟩
set_option maxRecDepth 8000 in
theorem Salvage_ok {W w : World} {F : List Seg} (hN : NibOk W) (H : St W w F) {a : Option Addr} {n c : Nat} {bs : List UInt8} (hr : RdIn W F a (bs.map B)) (hl : bs.length = n) (hcp : bs.length ≤ c) (hn : bs.length ≤ 140737488351232) :
    Ok Tryd.prog 26 [.slice a n c].toArray w (fun r w' => ∃ ea ec ca cc, ∃ es : List EvM, es.map EvM.e = (runR bs).2.2.evs ∧ r = .tuple #[.agg ((runR bs).2.2.stp.cells ca cc).toArray, .slice ea es.length ec, I ((runR bs).2.2.right : Int)] ∧ St W w' (row 30 13 ea es.length ec (evsV es) :: Segs (es.map EvM.seg) :: row 150 1 ca (runR bs).2.2.stp.cls.length cc (intsV (runR bs).2.2.stp.cls) :: F)) := by
  subst hl
  refine enter (n := 23) (rs := #[.cell 2 56, .tmp 3, .tmp 4]) Tryd.func26 rfl rfl rfl rfl ?_
  refine w_seq ?_
  refine w_region ?_
  refine b_alloc (cs := stp0.cells none 0) rfl ze_56 rfl H (fun b2 w H => ?_)
  refine l_pslice rfl rfl ?_
  refine l_pint rfl rfl ?_
  refine l_nil ?_
  refine w_seq ?_
  refine w_region ?_
  refine l_pslice rfl rfl ?_
  refine l_v rfl (q_build (cs := scells (sp0.at a bs.length c) ss0) rfl sp_146 rfl) ?_
  refine b_box (cs := scells (sp0.at a bs.length c) ss0) rfl rfl rfl H (fun b8 w H => ?_)
  refine l_pptr rfl rfl ?_
  refine l_nil ?_
  refine w_seq ?_
  refine w_region ?_
  refine l_pptr rfl rfl ?_
  refine b_call rfl cb_66 rfl (run_ok hN (scan0 H) (hr.up 1 rfl) rfl hcp hn) (fun v w hv => ?_)
  obtain ⟨P, rfl, hsp, H⟩ := hv
  have H := St.pick [6, 0, 1, 2, 3, 4, 5] (pre := [_, _, _, _, _, _, _]) rfl H rfl
  refine l_nil ?_
  refine w_seq ?_
  refine w_drawX [] [3, 7, 11] 1 [(0, 0), (1, 0), (2, 0), (3, 1), (4, 0), (5, 0), (6, 0), (7, 1), (8, 0), (9, 0), (10, 0), (11, 1), (12, 2), (13, 0), (14, 0)] mixed (by kernel_rfl) (fun _ _ _ h => fin_panic h) H (fun H => ?_)
  refine r_pptr rfl rfl rfl ?_
  refine r_pptr rfl rfl rfl ?_
  refine r_w rfl rfl (fun w => q_fieldAddr rfl fo146_1 rfl) ?_
  refine r_v rfl rfl (fun w hS => q_loadN (vs := (runR bs).2.2.stp.cells P.ca P.cc) rfl ag_56 rfl rfl ((hS.cells 0 rfl).sub 1 5)) ?_
  refine r_pptr rfl rfl rfl ?_
  refine r_pptr rfl rfl rfl ?_
  refine r_w rfl rfl (fun w => q_fieldAddr rfl fo146_2 rfl) ?_
  refine r_v rfl rfl (fun w hS => q_load1 rfl c1_57 rfl (by first | exact hS.cell 0 rfl rfl | exact hS.cell 1 rfl rfl | exact hS.cell 2 rfl rfl | exact hS.cell 3 rfl rfl)) ?_
  refine r_pptr rfl rfl rfl ?_
  refine r_pptr rfl rfl rfl ?_
  refine r_w rfl rfl (fun w => q_fieldAddr rfl fo146_5 rfl) ?_
  refine r_v rfl rfl (fun w hS => q_load1 rfl c1_3 rfl (by first | exact hS.cell 0 rfl rfl | exact hS.cell 1 rfl rfl | exact hS.cell 2 rfl rfl | exact hS.cell 3 rfl rfl)) ?_
  refine r_do rfl ?_
  refine b_store (cs' := (runR bs).2.2.stp.cells P.ca P.cc) rfl sz_56 rfl rfl rfl rfl rfl H 0 rfl rfl (putL_all rfl) (fun w H => ?_)
  refine l_nil ⟨fun _ _ => (by first | exact Sx.tl H 1 rfl | exact Sx.tl H 0 rfl), ?_⟩
  refine r_pslice rfl rfl rfl ?_
  refine r_pint rfl rfl rfl ?_
  refine r_nil ?_
  refine w_ret ?_
  refine finct2 rfl ag_56 rfl (by first | exact H.cells 0 rfl | exact H.cells 1 rfl | exact H.cells 2 rfl | exact H.cells 3 rfl) rfl rfl ?_
  exact ⟨P.ea, P.ec, P.ca, P.cc, P.es, hsp.evs, rfl, St.pick [2, 3, 6] (pre := [_, _, _, _, _, _, _]) rfl H rfl⟩
def smallS : Stp := ⟨1, 4, 6, false, [0]⟩
theorem small_ok {W w : World} {F : List Seg} (H : St W w F) :
    Ok Tryd.prog 65 [].toArray w (fun r w' => ∃ b, r = .agg (smallS.cells (some ⟨b, 0, none⟩) 1).toArray ∧ St W w' (blk0 b [I 0] 150 :: F)) := by
  refine enter (n := 5) (rs := #[.cell 0 56]) Tryd.func65 rfl rfl rfl rfl ?_
  refine w_seq ?_
  refine w_region ?_
  refine b_alloc (cs := stp0.cells none 0) rfl ze_56 rfl H (fun b0 w H => ?_)
  refine l_nil ?_
  refine w_seq ?_
  refine w_region ?_
  refine l_v rfl (q_build (cs := [I 1, I 4, I 6, .bool false]) rfl sp_53 rfl) ?_
  refine l_v rfl (q_build (cs := [I 0]) rfl sp_150 rfl) ?_
  refine b_buildSlice (cs := [I 0]) rfl el_54 ze_150 rfl rfl rfl H (fun b3 w H => ?_)
  refine l_v rfl (q_build (cs := smallS.cells (some ⟨b3, 0, none⟩) 1) rfl sp_56 rfl) ?_
  refine b_store (cs' := smallS.cells (some ⟨b3, 0, none⟩) 1) rfl sz_56 rfl rfl rfl rfl rfl H 1 rfl rfl (putL_all rfl) (fun w H => ?_)
  refine l_nil ?_
  refine w_ret ?_
  refine finc rfl ag_56 rfl (by first | exact H.cells 0 rfl | exact H.cells 1 rfl | exact H.cells 2 rfl) ?_
  exact ⟨b3, rfl, H.erase 1⟩
end Go.Proofs.YtfpmnhmdphaceaaDoor
