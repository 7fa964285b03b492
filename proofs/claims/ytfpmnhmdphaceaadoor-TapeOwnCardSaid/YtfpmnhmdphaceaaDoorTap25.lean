/- Walks through the tape's functions. -/
import Derived.Test.YtfpmnhmdphaceaaDoorTap24
import Derived.Test.YtfpmnhmdphaceaaDoorBaseAll
namespace Go.Proofs.YtfpmnhmdphaceaaDoor
open Go.EW
attribute [local irreducible] EW.W EW.L EW.fin block8 outB shaL
set_option linter.unusedVariables false
set_option linter.unusedSimpArgs false
attribute [local irreducible] crcN crcB crcL sealL openR sealR
set_option maxRecDepth 8000 in
set_option maxHeartbeats 1000000 in
theorem events_ok {W w : World} {F : List Seg} (H : St W w F) {a : Option Addr} {n c : Nat} {bs : List UInt8} (hr : RdIn W F a (bs.map B)) (hl : bs.length = n) (hn : n ≤ 100000) :
    Ok Tryd.prog 82 [.slice a n c].toArray w (fun r w' => ∃ la lc, ∃ es : List EvM, ∃ ta tc, ∃ txs : List Tx, r = .tuple #[.int .i64 ((eventsR bs).1 : Int), .slice la es.length lc, .slice ta txs.length tc, .bool (eventsR bs).2.2.2] ∧ es.map EvM.e = (eventsR bs).2.1 ∧ txs.map Tx.bs = (eventsR bs).2.2.1 ∧ St W w' (row 30 13 la es.length lc (evsV es) :: Segs (es.map EvM.seg) :: row 28 1 ta txs.length tc (txs.map Tx.v) :: F)) := by
  subst hl
  have hl1 := rInt_le (b := bs) (m := maxI) (s := ⟨0, 0⟩)
  refine enter (n := 61) (rs := #[.tmp 2, .tmp 3, .tmp 4, .tmp 5]) Tryd.func82 rfl rfl rfl rfl ?_
  refine w_seq ?_
  refine w_region ?_
  refine l_pint rfl rfl ?_
  refine l_pslice rfl rfl ?_
  refine l_pslice rfl rfl ?_
  refine l_pbool rfl rfl ?_
  refine l_nil ?_
  refine w_seq ?_
  refine w_region ?_
  refine l_pslice rfl rfl ?_
  refine b_call rfl cb_50 rfl (NewReader_ok H hr rfl (by omega)) (fun v w hv => ?_)
  obtain ⟨rb, ra, rc, rfl, H⟩ := hv
  refine l_pptr rfl rfl ?_
  refine l_nil ?_
  refine w_seq ?_
  refine w_region ?_
  refine l_pptr rfl rfl ?_
  refine b_call rfl cb_51 rfl (RIntM_ok H (rs0 bs) (by omega)) (fun v w hv => ?_)
  obtain ⟨rfl, H⟩ := hv
  refine l_pptr rfl rfl ?_
  refine b_call rfl cb_51 rfl (RIntM_ok H (rInt_ok2 (rs0 bs)) (by omega)) (fun v w hv => ?_)
  obtain ⟨rfl, H⟩ := hv
  refine l_pptr rfl rfl ?_
  refine b_call rfl cb_51 rfl (RIntM_ok H (rInt_ok2 (rInt_ok2 (rs0 bs))) (by omega)) (fun v w hv => ?_)
  obtain ⟨rfl, H⟩ := hv
  have H : St W w (readerL rb ra rc bs (rInts bs ⟨0, 0⟩ 3).2 F) := H
  refine l_pint rfl rfl ?_
  refine l_pint rfl rfl ?_
  refine l_pint rfl rfl ?_
  refine l_nil ?_
  refine w_seq ?_
  refine w_seq ?_
  refine w_region ?_
  refine l_pint rfl rfl ?_
  refine l_pbool rfl rfl ?_
  refine l_pbool rfl rfl ?_
  refine l_split 25 rfl (fun h25 => ?_) (fun h25 => ?_)
  · try simp only [sH] at h25
    refine l_no rfl ?_
    refine l_no rfl ?_
    refine l_pickT (v := .bool _) rfl rfl rfl ?_
    refine l_pbool rfl rfl ?_
    refine l_no rfl ?_
    refine l_no rfl ?_
    refine l_pickT (v := .bool _) rfl rfl rfl ?_
    refine l_nil ?_
    refine w_cond_t rfl ?_
    refine w_seq ?_
    refine w_region ?_
    refine l_pint rfl rfl ?_
    refine l_pslice rfl rfl ?_
    refine l_pslice rfl rfl ?_
    refine l_pbool rfl rfl ?_
    refine l_nil ?_
    refine w_ret ?_
    refine fin4 rfl rfl rfl rfl ?_
    have e0 : (rInts bs ⟨0, 0⟩ 3).1.getD 0 0 = (rInt bs maxI ⟨0, 0⟩).1 := rfl
    have e2 : ((rInts bs ⟨0, 0⟩ 3).1.getD 2 0) = (rInt bs maxI (rInt bs maxI (rInt bs maxI ⟨0, 0⟩).2).2).1 := rfl
    have e : eventsR bs = (0, [], [], false) := if_pos (by omega)
    rw [e]
    exact ⟨none, 0, [], none, 0, [], rfl, rfl, rfl, St.pick [2, 0, 1] (pre := [_, _, _]) rfl (St.nilseg.2 (St.newRow (T := 28) (sz := 1) (St.newRow (T := 30) (sz := 13) (H.drop1.drop1)))) rfl⟩
  try simp only [sH] at h25
  refine l_pint rfl rfl ?_
  refine l_pbool rfl rfl ?_
  refine l_pickF (v := .bool _) rfl rfl rfl ?_
  refine l_pbool rfl rfl ?_
  refine l_split 29 rfl (fun h29 => ?_) (fun h29 => ?_)
  · try simp only [sH] at h29
    refine l_no rfl ?_
    refine l_no rfl ?_
    refine l_pickT (v := .bool _) rfl rfl rfl ?_
    refine l_nil ?_
    refine w_cond_t rfl ?_
    refine w_seq ?_
    refine w_region ?_
    refine l_pint rfl rfl ?_
    refine l_pslice rfl rfl ?_
    refine l_pslice rfl rfl ?_
    refine l_pbool rfl rfl ?_
    refine l_nil ?_
    refine w_ret ?_
    refine fin4 rfl rfl rfl rfl ?_
    have e0 : (rInts bs ⟨0, 0⟩ 3).1.getD 0 0 = (rInt bs maxI ⟨0, 0⟩).1 := rfl
    have e2 : ((rInts bs ⟨0, 0⟩ 3).1.getD 2 0) = (rInt bs maxI (rInt bs maxI (rInt bs maxI ⟨0, 0⟩).2).2).1 := rfl
    have e : eventsR bs = (0, [], [], false) := if_pos (by omega)
    rw [e]
    exact ⟨none, 0, [], none, 0, [], rfl, rfl, rfl, St.pick [2, 0, 1] (pre := [_, _, _]) rfl (St.nilseg.2 (St.newRow (T := 28) (sz := 1) (St.newRow (T := 30) (sz := 13) (H.drop1.drop1)))) rfl⟩
  try simp only [sH] at h29
  refine l_pint rfl rfl ?_
  refine l_pbool rfl rfl ?_
  refine l_pickF (v := .bool _) rfl rfl rfl ?_
  refine l_nil ?_
  refine w_cond rfl (fun c1 => ?_) (fun c1 => ?_)
  · try simp only [sH] at c1
    refine w_seq ?_
    refine w_region ?_
    refine l_pint rfl rfl ?_
    refine l_pslice rfl rfl ?_
    refine l_pslice rfl rfl ?_
    refine l_pbool rfl rfl ?_
    refine l_nil ?_
    refine w_ret ?_
    refine fin4 rfl rfl rfl rfl ?_
    have e0 : (rInts bs ⟨0, 0⟩ 3).1.getD 0 0 = (rInt bs maxI ⟨0, 0⟩).1 := rfl
    have e2 : ((rInts bs ⟨0, 0⟩ 3).1.getD 2 0) = (rInt bs maxI (rInt bs maxI (rInt bs maxI ⟨0, 0⟩).2).2).1 := rfl
    have e : eventsR bs = (0, [], [], false) := if_pos (by omega)
    rw [e]
    exact ⟨none, 0, [], none, 0, [], rfl, rfl, rfl, St.pick [2, 0, 1] (pre := [_, _, _]) rfl (St.nilseg.2 (St.newRow (T := 28) (sz := 1) (St.newRow (T := 30) (sz := 13) (H.drop1.drop1)))) rfl⟩
  try simp only [sH] at c1
  have e0 : (rInts bs ⟨0, 0⟩ 3).1.getD 0 0 = (rInt bs maxI ⟨0, 0⟩).1 := rfl
  have e2 : ((rInts bs ⟨0, 0⟩ 3).1.getD 2 0) = (rInt bs maxI (rInt bs maxI (rInt bs maxI ⟨0, 0⟩).2).2).1 := rfl
  have hk : ¬ ((rInts bs ⟨0, 0⟩ 3).1.getD 0 0 ≠ 2 ∨ ((rInts bs ⟨0, 0⟩ 3).1.getD 2 0) < 1 ∨ 32 < ((rInts bs ⟨0, 0⟩ 3).1.getD 2 0)) := by omega
  refine w_skip ?_
  refine w_seq ?_
  refine w_region ?_
  refine l_pslice rfl rfl ?_
  refine l_nil ?_
  refine w_seq ?_
  refine w_region ?_
  refine l_pslice rfl rfl ?_
  refine l_nil ?_
  refine w_seq ?_
  refine w_seq ?_
  refine w_region ?_
  refine l_pint rfl rfl ?_
  refine l_pint rfl rfl ?_
  refine l_nil ?_
  refine w_block ?_
  refine w_loopG (G := Nat × Option Addr × Nat × Option Addr × Nat × List EvM × List Tx × Rs) [2, 3, 4, 5, 10, 11, 12, 13, 14, 34, 35, 36, 37, 38, 39, 40, 41, 42, 43, 44, 45, 46, 47, 48, 49, 50, 51, 52, 53, 54] (fun ⟨i, la, lc, ta, tc, es, txs, s⟩ => [(10, .slice la i lc), (11, .slice ta i tc), (34, .int .i64 ((i : Nat) : Int))]) (fun m ⟨i, la, lc, ta, tc, es, txs, s⟩ w => m + i = ((rInts bs ⟨0, 0⟩ 3).1.getD 2 0) ∧ es.length = i ∧ txs.length = i ∧ RsOk2 bs s ∧ ego bs (rInts bs ⟨0, 0⟩ 3).2 i = some (es.map EvM.e, txs.map Tx.bs, s) ∧ St W w (readerL rb ra rc bs s (row 30 13 la i lc (evsV es) :: Segs (es.map EvM.seg) :: row 28 1 ta i tc (txs.map Tx.v) :: F))) (fun _ => rfl) ?_ ?_
  · (refine ⟨((rInts bs ⟨0, 0⟩ 3).1.getD 2 0), (0, none, 0, none, 0, [], [], (rInts bs ⟨0, 0⟩ 3).2), ⟨rfl, rfl, rfl, trivial⟩, rfl, rfl, rfl, rInts_ok2 (rs0 bs) 3, rfl, ?_⟩; exact St.pick [3, 4, 2, 0, 1] (pre := [_, _, _, _, _]) rfl (St.nilseg.2 (St.newRow (T := 28) (sz := 1) (St.newRow (T := 30) (sz := 13) H))) rfl)
  rintro m ⟨i, la, lc, ta, tc, es, txs, s⟩ ρ1 w ⟨hmi, hel, htx, hso, hgo, H⟩
  refine w_seq ?_
  refine w_region ?_
  refine l_pbool rfl rfl ?_
  refine l_nil ?_
  refine w_seq ?_
  refine w_cond rfl (fun c2 => ?_) (fun c2 => ?_)
  · try simp only [sH] at c2
    refine w_skip ?_
    refine w_seq ?_
    refine w_block ?_
    refine w_seq ?_
    refine w_region ?_
    refine l_pptr rfl rfl ?_
    refine b_call rfl cb_55 rfl (RText_ok (mo := 32768) H hso (by omega) (by decide)) (fun v w hv => ?_)
    obtain ⟨rfl, H⟩ := hv
    have htl : (⟨(rText bs 32768 s).1.toArray⟩ : ByteArray).size ≤ maxLen := by have := (rText_len (b := bs) (m := 32768) (s := s)).1; show (rText bs 32768 s).1.length ≤ _; simp only [maxLen]; omega
    have htm : (rText bs 32768 s).1.length ≤ 32768 := (rText_len (b := bs) (m := 32768) (s := s)).1
    refine b_strBytesF rfl st_9 by_28 el_28 rfl htl H (fun b38 c38 w H => ?_)
    refine l_pslice rfl rfl ?_
    refine l_nil ?_
    refine w_seq ?_
    refine w_region ?_
    refine l_pslice rfl rfl ?_
    refine b_call rfl cb_14 rfl (GetEvent_ok H (RdIn.rowF 0 rfl) rfl (by show (rText bs 32768 s).1.length ≤ _; omega)) (fun v w hv => ?_)
    obtain ⟨ea, ec, rfl, H⟩ := hv
    refine l_ptup rfl rfl ?_
    refine l_pagg rfl rfl ?_
    refine l_pint rfl rfl ?_
    refine b_alloc (cs := evt0.cells none 0) rfl ze_30 rfl H (fun b13 w H => ?_)
    refine b_store (cs' := (getEv (rText bs 32768 s).1).1.cells ea ec) rfl sz_30 rfl rfl rfl rfl rfl H 0 rfl rfl (putL_all rfl) (fun w H => ?_)
    refine l_pint rfl rfl ?_
    refine l_nil ?_
    refine w_seq ?_
    refine w_seq ?_
    refine w_region ?_
    refine l_pint rfl rfl ?_
    refine l_pbool rfl rfl ?_
    refine l_nil ?_
    refine w_cond rfl (fun c3 => ?_) (fun c3 => ?_)
    · try simp only [sH] at c3
      refine w_seq ?_
      refine w_region ?_
      refine l_pint rfl rfl ?_
      refine l_pslice rfl rfl ?_
      refine l_pslice rfl rfl ?_
      refine l_pbool rfl rfl ?_
      refine l_nil ?_
      refine w_ret ?_
      refine fin4 rfl rfl rfl rfl ?_
      have hg1 : ego bs (rInts bs ⟨0, 0⟩ 3).2 (i + 1) = none := by rw [ego, hgo]; exact if_pos (by omega)
      have e : eventsR bs = (0, [], [], false) := by unfold eventsR; rw [if_neg hk, ego_none hg1 _ (by omega)]
      rw [e]
      exact ⟨none, 0, [], none, 0, [], rfl, rfl, rfl, St.pick [2, 0, 1] (pre := [_, _, _]) rfl (St.nilseg.2 (St.newRow (T := 28) (sz := 1) (St.newRow (T := 30) (sz := 13) (H.drop1.drop1.drop1.drop1.drop1.drop1.drop1.drop1)))) rfl⟩
    try simp only [sH] at c3
    refine w_skip ?_
    refine w_seq ?_
    refine w_region ?_
    refine l_pslice rfl rfl ?_
    refine l_v rfl (q_loadN (vs := (getEv (rText bs 32768 s).1).1.cells ea ec) rfl ag_30 rfl rfl (H.cells 0 rfl)) ?_
    refine b_buildSlice (cs := (getEv (rText bs 32768 s).1).1.cells ea ec) rfl el_57 ze_30 rfl rfl (fill_evt _ _ _) H (fun b48 w H => ?_)
    refine b_append rfl el_57 ze_30 rfl rfl rfl H 6 rfl (ys := (getEv (rText bs 32768 s).1).1.cells ea ec) (Rd.mk (H.cells0 0 rfl)) rfl (fun u hu => oneEv [⟨(getEv (rText bs 32768 s).1).1, ea, ec⟩] u (by rw [evsV_one]; exact hu)) ⟨by omega, by simp only [maxLen]; omega⟩ (fun a49 c49 w H => ?_)
    have H := H.drop1
    refine l_pslice rfl rfl ?_
    refine l_nil ?_
    refine w_region ?_
    refine l_pslice rfl rfl ?_
    refine l_pslice rfl rfl ?_
    refine b_buildSlice (cs := [.slice (some ⟨b38, 0, none⟩) (rText bs 32768 s).1.length c38]) rfl el_31 ze_28 rfl rfl rfl H (fun b52 w H => ?_)
    refine b_append rfl el_31 ze_28 rfl rfl rfl H 8 rfl (Rd.mk (H.cells0 0 rfl)) rfl (fun u hu => by obtain rfl := List.mem_singleton.1 hu; rfl) ⟨by omega, by simp only [maxLen]; omega⟩ (fun a53 c53 w H => ?_)
    have H := H.drop1
    refine l_pslice rfl rfl ?_
    refine l_nil ?_
    refine w_region ?_
    first | refine l_v rfl (q_add rfl rfl rfl (by simp only [inK]; omega)) ?_ | refine l_pint rfl rfl ?_
    refine l_pint rfl rfl ?_
    refine l_nil ?_
    refine ⟨by repeat' first | exact aM | exact aR | refine aI rfl ?_ | refine aU rfl ?_ | refine aL rfl ?_, ?_⟩
    have hg1 : ego bs (rInts bs ⟨0, 0⟩ 3).2 (i + 1) = some ((es ++ [(⟨(getEv (rText bs 32768 s).1).1, ea, ec⟩ : EvM)]).map EvM.e, (txs ++ [(⟨some ⟨b38, 0, none⟩, c38, (rText bs 32768 s).1⟩ : Tx)]).map Tx.bs, (rText bs 32768 s).2) := by
      rw [ego, hgo, List.map_append, List.map_append]; exact if_neg (by omega)
    refine ⟨m - 1, (i + 1, a49, c49, a53, c53, es ++ [⟨(getEv (rText bs 32768 s).1).1, ea, ec⟩], txs ++ [⟨some ⟨b38, 0, none⟩, c38, (rText bs 32768 s).1⟩], (rText bs 32768 s).2), by omega, ⟨rfl, rfl, by exact congrArg (Value.int IntKind.i64) (Int.natCast_succ i).symm, trivial⟩, by omega, by rw [List.length_append, hel]; rfl, by rw [List.length_append, htx]; rfl, rText_ok2 hso, hg1, ?_⟩
    rw [evsV_app, evsV_one, List.map_append, List.map_append]
    exact St.pick [1, 2, 3, 0, 4] (pre := [_, _, _, _, _]) rfl (St.snocseg.1 (St.pick [6, 1, 3, 4, 5, 7] (pre := [_, _, _, _, _, _, _, _]) rfl H rfl)) rfl
  try simp only [sH] at c2
  obtain rfl : i = ((rInts bs ⟨0, 0⟩ 3).1.getD 2 0) := by omega
  refine w_exit ?_
  refine w_seq ?_
  refine w_region ?_
  refine l_pint rfl rfl ?_
  refine l_pslice rfl rfl ?_
  refine l_pslice rfl rfl ?_
  refine l_pptr rfl rfl ?_
  refine b_call rfl cb_53 rfl (REnd_ok H) (fun v w hv => ?_)
  obtain ⟨rfl, H⟩ := hv
  refine l_pbool rfl rfl ?_
  refine l_pint rfl rfl ?_
  refine l_pslice rfl rfl ?_
  refine l_pslice rfl rfl ?_
  refine l_pbool rfl rfl ?_
  refine l_nil ?_
  refine w_ret ?_
  refine fin4 rfl rfl rfl rfl ?_
  have e : eventsR bs = ((rInts bs ⟨0, 0⟩ 3).1.getD 1 0, es.map EvM.e, txs.map Tx.bs, decide (rEnd bs s = 0)) := by unfold eventsR; rw [if_neg hk, hgo]
  rw [e]
  refine ⟨la, lc, es, ta, tc, txs, ?_, rfl, rfl, by rw [hel, htx]; exact H.drop1.drop1⟩
  rw [hel, htx]
  refine congrArg (fun z => Value.tuple #[_, _, _, .bool z]) ?_
  rw [Bool.eq_iff_iff, beq_iff_eq, decide_eq_true_iff]; omega
end Go.Proofs.YtfpmnhmdphaceaaDoor
