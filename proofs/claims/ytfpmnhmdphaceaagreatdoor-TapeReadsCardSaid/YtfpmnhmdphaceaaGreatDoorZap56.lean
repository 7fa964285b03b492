/- The reference's Read and Salvage do what the plain functions say, of any bytes in memory. -/
import Derived.Test.YtfpmnhmdphaceaaGreatDoorZap55
namespace Go.Proofs.YtfpmnhmdphaceaaGreatDoor
open Go.EW
attribute [local irreducible] EW.W EW.L EW.fin block8 outB shaL
set_option linter.unusedVariables false
set_option linter.unusedSimpArgs false
attribute [local irreducible] crcN crcB crcL sealL openR sealR bodyR headR tailR eventsR chunkR numberR
theorem read_no {bs : List UInt8} (h : (runR bs).1 ≠ 0) : readR bs = (stp0, [], (runR bs).1, (runR bs).2.1) := if_pos h
theorem read_yes {bs : List UInt8} (h : (runR bs).1 = 0) : readR bs = ((runR bs).2.2.stp, (runR bs).2.2.evs, 0, 0) := if_neg (fun h2 => h2 h)
attribute [local irreducible] runR loopR readR
theorem rRead_r {W w : World} {F : List Seg} (H : St W w F) {a : Option Addr} {n c : Nat} {bs : List UInt8} (hr : RdIn W F a (bs.map B)) (hl : bs.length = n) (hcp : bs.length ≤ c) (hn : n ≤ 140737488351232) :
    Ok Tryz.prog 18 [.slice a n c].toArray w (fun r w' => ∃ ea ec ca cc, ∃ es : List EvM, es.map EvM.e = (readR bs).2.1 ∧ r = .tuple #[.agg ((readR bs).1.cells ca cc).toArray, .slice ea es.length ec, I ((readR bs).2.2.1 : Int), I ((readR bs).2.2.2 : Int)] ∧ St W w' (row 52 13 ea es.length ec (evsV es) :: Segs (es.map EvM.seg) :: row 36 1 ca (readR bs).1.cls.length cc (intsV (readR bs).1.cls) :: F)) := by
  subst hl
  refine enter (n := 27) (rs := #[.cell 2 26, .tmp 3, .tmp 4, .tmp 5]) Tryz.func18 rfl rfl rfl rfl ?_
  refine w_seq ?_
  refine w_region ?_
  refine b_alloc (cs := stp0.cells none 0) rfl ze_26 rfl H (fun b2 w H => ?_)
  refine l_pslice rfl rfl ?_
  refine l_pint rfl rfl ?_
  refine l_pint rfl rfl ?_
  refine l_nil ?_
  refine w_seq ?_
  refine w_region ?_
  refine l_pslice rfl rfl ?_
  refine b_call rfl cb_50 rfl (scan_r H (hr.up 1 rfl) rfl hcp (by omega)) (fun v w hv => ?_)
  obtain ⟨ca, cc, ta, tc, txs, rfl, hev, htb, hts, H⟩ := hv
  generalize hstp : (runR bs).2.2.stp = stp at *
  generalize hrt : (runR bs).2.2.right = rt at *
  refine l_ptup rfl rfl ?_
  refine l_pagg rfl rfl ?_
  refine l_pslice rfl rfl ?_
  refine l_pint rfl rfl ?_
  refine l_pint rfl rfl ?_
  refine l_pint rfl rfl ?_
  refine b_alloc (cs := stp0.cells none 0) rfl ze_26 rfl H (fun b6 w H => ?_)
  refine b_store (cs' := stp.cells ca cc) rfl sz_26 rfl rfl rfl rfl rfl H 0 rfl rfl (putL_all rfl) (fun w H => ?_)
  refine l_pslice rfl rfl ?_
  refine l_pint rfl rfl ?_
  refine l_pint rfl rfl ?_
  refine l_pint rfl rfl ?_
  refine l_nil ?_
  refine w_seq ?_
  refine w_seq ?_
  refine w_region ?_
  refine l_pint rfl rfl ?_
  refine l_pbool rfl rfl ?_
  refine l_nil ?_
  refine w_cond rfl (fun c1 => ?_) (fun c1 => ?_)
  · try simp only [sH] at c1
    refine w_seq ?_
    refine w_region ?_
    refine l_v rfl (q_build (cs := stp0.cells none 0) rfl sp_26 rfl) ?_
    refine l_pint rfl rfl ?_
    refine l_pint rfl rfl ?_
    first
      | refine b_store (cs' := stp.cells ca cc) rfl sz_26 rfl rfl rfl rfl rfl H 6 rfl rfl (putL_all rfl) (fun w H => ?_)
      | refine b_store (cs' := stp0.cells none 0) rfl sz_26 rfl rfl rfl rfl rfl H 4 rfl rfl (putL_all rfl) (fun w H => ?_)
    refine l_pslice rfl rfl ?_
    refine l_pint rfl rfl ?_
    refine l_pint rfl rfl ?_
    refine l_nil ?_
    refine w_ret ?_
    refine finct3 rfl ag_26 rfl (by first | exact H.cells 0 rfl | exact H.cells 1 rfl | exact H.cells 2 rfl | exact H.cells 3 rfl | exact H.cells 4 rfl | exact H.cells 5 rfl | exact H.cells 6 rfl | exact H.cells 7 rfl) rfl rfl rfl ?_
    rw [read_no (bs := bs) (by omega)]
    refine ⟨none, 0, none, 0, [], rfl, congrArg (fun z : Nat => Value.tuple #[_, _, _, I (z : Int)]) (if_neg (by omega)), St.newRow (T := 52) (sz := 13) (St.nilseg.2 (St.newRow (T := 36) (sz := 1) (St.pick [] (pre := [_, _, _, _, _]) rfl H rfl)))⟩
  try simp only [sH] at c1
  refine w_skip ?_
  refine w_seq ?_
  refine w_drawT [3] [0] [(0, 1), (1, 0), (2, 2), (3, 2), (4, 0), (5, 0), (6, 0)] mixed (by kernel_rfl) (fun _ _ _ h => fin_panic h) H (fun H => ?_)
  refine r_v rfl rfl (fun w hS => q_loadN (vs := stp.cells ca cc) rfl ag_26 rfl rfl (hS.cells 0 rfl)) ?_
  refine r_pslice rfl rfl rfl ?_
  refine r_do rfl ?_
  refine b_call rfl cb_51 rfl (events_r H (RdIn.row 2 rfl) rfl (fun t ht => ⟨((txs_segsF 3 rfl (fun t h => by have := htb t h; omega)) t ht).1, by have := htb t ht; omega, seg_cap H 3 rfl t ht⟩) (by omega)) (fun v w hv => ?_)
  obtain ⟨ea, ec, es, hes, rfl, H⟩ := hv
  refine l_nil ⟨fun _ _ => (by first | exact H | exact H.drop1 | exact H.drop1.drop1 | exact H.drop1.drop1.drop1), ?_⟩
  refine r_do rfl ?_
  first
    | refine b_store (cs' := stp.cells ca cc) rfl sz_26 rfl rfl rfl rfl rfl H 6 rfl rfl (putL_all rfl) (fun w H => ?_)
    | refine b_store (cs' := stp0.cells none 0) rfl sz_26 rfl rfl rfl rfl rfl H 4 rfl rfl (putL_all rfl) (fun w H => ?_)
  refine l_nil ⟨(fun h => nomatch h), ?_⟩
  refine r_pslice rfl rfl rfl ?_
  refine r_pint rfl rfl rfl ?_
  refine r_pint rfl rfl rfl ?_
  refine r_nil ?_
  refine w_ret ?_
  refine finct3 rfl ag_26 rfl (by first | exact H.cells 0 rfl | exact H.cells 1 rfl | exact H.cells 2 rfl | exact H.cells 3 rfl | exact H.cells 4 rfl | exact H.cells 5 rfl | exact H.cells 6 rfl | exact H.cells 7 rfl) rfl rfl rfl ?_
  rw [read_yes (bs := bs) (by omega), hstp]
  exact ⟨ea, ec, ca, cc, es, hes.trans hev, rfl, St.pick [0, 1, 3] (pre := [_, _, _, _, _, _, _]) rfl H rfl⟩
theorem rSalvage_r {W w : World} {F : List Seg} (H : St W w F) {a : Option Addr} {n c : Nat} {bs : List UInt8} (hr : RdIn W F a (bs.map B)) (hl : bs.length = n) (hcp : bs.length ≤ c) (hn : n ≤ 140737488351232) :
    Ok Tryz.prog 22 [.slice a n c].toArray w (fun r w' => ∃ ea ec ca cc, ∃ es : List EvM, es.map EvM.e = (runR bs).2.2.evs ∧ r = .tuple #[.agg ((runR bs).2.2.stp.cells ca cc).toArray, .slice ea es.length ec, I ((runR bs).2.2.right : Int)] ∧ St W w' (row 52 13 ea es.length ec (evsV es) :: Segs (es.map EvM.seg) :: row 36 1 ca (runR bs).2.2.stp.cls.length cc (intsV (runR bs).2.2.stp.cls) :: F)) := by
  subst hl
  refine enter (n := 22) (rs := #[.cell 2 26, .tmp 3, .tmp 4]) Tryz.func22 rfl rfl rfl rfl ?_
  refine w_seq ?_
  refine w_region ?_
  refine b_alloc (cs := stp0.cells none 0) rfl ze_26 rfl H (fun b2 w H => ?_)
  refine l_pslice rfl rfl ?_
  refine l_pint rfl rfl ?_
  refine l_nil ?_
  refine w_seq ?_
  refine w_region ?_
  refine l_pslice rfl rfl ?_
  refine b_call rfl cb_50 rfl (scan_r H (hr.up 1 rfl) rfl hcp (by omega)) (fun v w hv => ?_)
  obtain ⟨ca, cc, ta, tc, txs, rfl, hev, htb, hts, H⟩ := hv
  generalize hstp : (runR bs).2.2.stp = stp at *
  generalize hrt : (runR bs).2.2.right = rt at *
  refine l_ptup rfl rfl ?_
  refine l_pagg rfl rfl ?_
  refine l_pslice rfl rfl ?_
  refine l_pint rfl rfl ?_
  refine l_pint rfl rfl ?_
  refine l_pint rfl rfl ?_
  refine b_alloc (cs := stp0.cells none 0) rfl ze_26 rfl H (fun b6 w H => ?_)
  refine b_store (cs' := stp.cells ca cc) rfl sz_26 rfl rfl rfl rfl rfl H 0 rfl rfl (putL_all rfl) (fun w H => ?_)
  refine l_pslice rfl rfl ?_
  refine l_pint rfl rfl ?_
  refine l_pint rfl rfl ?_
  refine l_pint rfl rfl ?_
  refine l_nil ?_
  refine w_seq ?_
  refine w_drawT [4] [0] [(0, 1), (1, 0), (3, 0), (2, 2), (4, 2), (5, 0), (6, 0)] mixed (by kernel_rfl) (fun _ _ _ h => fin_panic h) H (fun H => ?_)
  refine r_v rfl rfl (fun w hS => q_loadN (vs := stp.cells ca cc) rfl ag_26 rfl rfl (hS.cells 0 rfl)) ?_
  refine r_pslice rfl rfl rfl ?_
  refine r_pint rfl rfl rfl ?_
  refine r_do rfl ?_
  refine b_call rfl cb_51 rfl (events_r H (RdIn.row 2 rfl) rfl (fun t ht => ⟨((txs_segsF 3 rfl (fun t h => by have := htb t h; omega)) t ht).1, by have := htb t ht; omega, seg_cap H 3 rfl t ht⟩) (by omega)) (fun v w hv => ?_)
  obtain ⟨ea, ec, es, hes, rfl, H⟩ := hv
  refine l_nil ⟨fun _ _ => (by first | exact H | exact H.drop1 | exact H.drop1.drop1 | exact H.drop1.drop1.drop1), ?_⟩
  refine r_do rfl ?_
  first
    | refine b_store (cs' := stp.cells ca cc) rfl sz_26 rfl rfl rfl rfl rfl H 6 rfl rfl (putL_all rfl) (fun w H => ?_)
    | refine b_store (cs' := stp0.cells none 0) rfl sz_26 rfl rfl rfl rfl rfl H 4 rfl rfl (putL_all rfl) (fun w H => ?_)
  refine l_nil ⟨(fun h => nomatch h), ?_⟩
  refine r_pslice rfl rfl rfl ?_
  refine r_pint rfl rfl rfl ?_
  refine r_nil ?_
  refine w_ret ?_
  refine finct2 rfl ag_26 rfl (by first | exact H.cells 0 rfl | exact H.cells 1 rfl | exact H.cells 2 rfl | exact H.cells 3 rfl | exact H.cells 4 rfl | exact H.cells 5 rfl | exact H.cells 6 rfl | exact H.cells 7 rfl) rfl rfl ?_
  exact ⟨ea, ec, ca, cc, es, hes.trans hev, rfl, St.pick [0, 1, 3] (pre := [_, _, _, _, _, _, _]) rfl H rfl⟩
end Go.Proofs.YtfpmnhmdphaceaaGreatDoor
