/- The law's places does what the plain functions posW and aheadL say, of any setup that may be and any events in memory. -/
import Derived.Test.YtfpmnhmdphaceaaDoorTapP14
import Derived.Test.YtfpmnhmdphaceaaDoorTap33
namespace Go.Proofs.YtfpmnhmdphaceaaDoor
open Go.EW
attribute [local irreducible] EW.W EW.L EW.fin block8 outB shaL
set_option linter.unusedVariables false
set_option linter.unusedSimpArgs false
attribute [local irreducible] crcN crcB crcL sealL openR sealR putEv getEv fileL chsOf
/-- how many events stand ahead of each part -/
def aheadL (cs : List (List Txt)) : Nat → List Nat
  | 0 => [0, 0]
  | i + 1 => aheadL cs i ++ [cnt (cs.take (i + 1))]
theorem ahead_len (cs : List (List Txt)) : ∀ i, (aheadL cs i).length = i + 2
  | 0 => rfl
  | i + 1 => by rw [aheadL, List.length_append, ahead_len cs i]; rfl
theorem ahead_get (cs : List (List Txt)) : ∀ i j, j ≤ i → (aheadL cs i)[j + 1]? = some (cnt (cs.take j))
  | 0, j, h => by obtain rfl : j = 0 := by omega
                  rfl
  | i + 1, j, h => by
    rw [aheadL]
    rcases Nat.lt_or_ge j (i + 1) with h1 | h1
    · rw [List.getElem?_append_left (by rw [ahead_len]; omega)]; exact ahead_get cs i j (by omega)
    obtain rfl : j = i + 1 := by omega
    rw [List.getElem?_append_right (by rw [ahead_len]; omega), ahead_len, Nat.sub_self]; rfl
def evTxt (l : List EvM) : List Txt := l.map fun x => (putEv x.e).1
theorem evTxt_len (l : List EvM) : ∀ t ∈ evTxt l, t.length ≤ 20000 := fun t ht => by
  obtain ⟨x, _, rfl⟩ := List.mem_map.1 ht
  have := putEv_len x.e; omega
set_option maxRecDepth 8000 in
set_option maxHeartbeats 1000000 in
theorem places_ok {W w : World} {F : List Seg} (H : St W w F) (s : Stp) (hso : StpOk s) (hc : chkS s = 0) {a : Option Addr} {c : Nat} (hr : RdIn W F a (intsV s.cls)) {es : List EvM} {ea : Option Addr} {n ec : Nat} (hre : RdIn W F ea (evsV es)) (hl : es.length = n) (hes : EvsIn W F es) (hn : n ≤ 10000) :
    Ok Tryd.prog 24 [.agg (s.cells a c).toArray, .slice ea n ec].toArray w (fun r w' => ∃ pa pc ha hc2, r = .tuple #[.slice pa (posW s (evTxt es)).length pc, .slice ha (aheadL (chsOf (evTxt es)) (chsOf (evTxt es)).length).length hc2] ∧ St W w' (row 3 1 pa (posW s (evTxt es)).length pc (natsV (posW s (evTxt es))) :: row 3 1 ha (aheadL (chsOf (evTxt es)) (chsOf (evTxt es)).length).length hc2 (natsV (aheadL (chsOf (evTxt es)) (chsOf (evTxt es)).length)) :: F)) := by
  subst hl
  have hul : (evTxt es).length = es.length := List.length_map _
  have hcl := chs_len (evTxt es) (evTxt_len es)
  refine enter (n := 61) (rs := #[.tmp 4, .tmp 5]) Tryd.func24 rfl rfl rfl rfl ?_
  refine w_seq ?_
  refine w_region ?_
  refine b_box (cs := s.cells a c) rfl rfl rfl H (fun b2 w H => ?_)
  refine l_pslice rfl rfl ?_
  refine l_pslice rfl rfl ?_
  refine l_nil ?_
  refine w_seq ?_
  refine w_region ?_
  refine l_pslice rfl rfl ?_
  refine l_nil ?_
  refine w_seq ?_
  refine w_seq ?_
  refine w_region ?_
  refine l_pint rfl rfl ?_
  refine l_nil ?_
  refine w_block ?_
  refine w_loopG (G := Nat × Option Addr × Nat × List Tx) [6, 7, 8, 9, 16, 17, 18, 19, 20, 21, 22, 23, 24, 25, 26, 27, 28, 29, 30, 31, 32, 33] (fun ⟨i, ta, tc, txs⟩ => [(6, .slice ta txs.length tc), (7, I (i : Int))]) (fun m ⟨i, ta, tc, txs⟩ w => m + i = es.length ∧ txs.map Tx.bs = evTxt (es.take i) ∧ txs.length = i ∧ St W w (row 28 1 ta txs.length tc (txs.map Tx.v) :: Segs (txs.map Tx.seg) :: blk b2 (s.cells a c) 56 :: F)) (fun _ => rfl) ?_ ?_
  · exact ⟨es.length, (0, none, 0, []), ⟨rfl, rfl, trivial⟩, rfl, rfl, rfl, St.newRow (T := 28) (sz := 1) (St.nilseg.2 H)⟩
  rintro m ⟨i, ta, tc, txs⟩ ρ1 w ⟨hmi, htx, htl, H⟩
  refine w_seq ?_
  refine w_seq ?_
  refine w_region ?_
  refine l_pint rfl rfl ?_
  refine l_pslice rfl rfl ?_
  refine l_v rfl (q_lenSlice rfl el_57 rfl) ?_
  refine l_pbool rfl rfl ?_
  refine l_nil ?_
  refine w_cond rfl (fun c1 => ?_) (fun c1 => ?_)
  · try simp only [sH] at c1
    have hi : i < es.length := by omega
    obtain ⟨eb, eo, hea⟩ := evs_ex (hre.use H 3 rfl) hi
    have hei := hes _ (List.getElem_mem hi)
    refine w_skip ?_
    refine w_seq ?_
    refine w_block ?_
    refine w_seq ?_
    refine w_region ?_
    refine l_pslice rfl rfl ?_
    refine l_pint rfl rfl ?_
    refine l_v rfl (q_indexSliceE i rfl el_57 rfl hea rfl rfl hi) ?_
    refine l_v rfl (q_loadN (vs := es[i].cells) rfl ag_30 rfl rfl (evs_at hea (hre.use H 3 rfl) hi)) ?_
    refine b_call rfl cb_13 rfl (rPutEvent_ok H es[i].e hei.2 (hei.1.up 3 rfl)) (fun v w hv => ?_)
    obtain ⟨pa, pc, rfl, H⟩ := hv
    refine l_ptup rfl rfl ?_
    refine l_pslice rfl rfl ?_
    refine l_pint rfl rfl ?_
    refine l_pslice rfl rfl ?_
    refine l_pint rfl rfl ?_
    refine l_nil ?_
    refine w_region ?_
    refine l_pslice rfl rfl ?_
    refine l_pslice rfl rfl ?_
    refine b_buildSlice (cs := [.slice pa (putEv es[i].e).1.length pc]) rfl el_31 ze_28 rfl rfl rfl H (fun b32 w H => ?_)
    refine b_append rfl el_31 ze_28 rfl rfl rfl H 2 rfl (Rd.mk (H.cells0 0 rfl)) rfl (fun u hu => by obtain rfl := List.mem_singleton.1 hu; rfl) ⟨by omega, by simp only [maxLen]; omega⟩ (fun a33 c33 w H => ?_)
    have H := H.drop1
    refine l_pslice rfl rfl ?_
    refine l_nil ?_
    refine w_region ?_
    refine l_pint rfl rfl ?_
    first | refine l_v rfl (q_add rfl rfl rfl (by simp only [inK]; omega)) ?_ | refine l_pint rfl rfl ?_
    refine l_pint rfl rfl ?_
    refine l_nil ?_
    refine ⟨by repeat' first | exact aM | exact aR | refine aI rfl ?_ | refine aU rfl ?_ | refine aL rfl ?_, ?_⟩
    refine ⟨m - 1, (i + 1, a33, c33, txs ++ [⟨pa, pc, (putEv es[i].e).1⟩]), by omega, ⟨by rw [List.length_append]; rfl, by exact congrArg (Value.int IntKind.i64) (Int.natCast_succ i).symm, trivial⟩, by omega, ?_, by rw [List.length_append, htl]; rfl, ?_⟩
    · rw [List.map_append, htx, List.take_succ_eq_append_getElem hi]; unfold evTxt; rw [List.map_append]; rfl
    rw [List.map_append, List.map_append, List.length_append]
    exact St.pick [1, 0, 2] (pre := [_, _, _]) rfl (St.snocseg.1 (St.pick [2, 0, 1, 3] (pre := [_, _, _, _]) rfl H rfl)) rfl
  try simp only [sH] at c1
  obtain rfl : i = es.length := by omega
  have htxa : txs.map Tx.bs = evTxt es := by rw [htx, List.take_length]
  have hts20 : ∀ t ∈ txs, t.bs.length ≤ 20000 := fun t h => evTxt_len es _ (by rw [← htxa]; exact List.mem_map.2 ⟨t, h, rfl⟩)
  refine w_exit ?_
  refine w_seq ?_
  refine w_region ?_
  refine l_v rfl (q_loadN (vs := s.cells a c) rfl ag_56 rfl rfl (H.cells 2 rfl)) ?_
  refine l_pslice rfl rfl ?_
  refine b_call rfl cb_30 rfl (Write_r H s hso hc (hr.up 3 rfl) (RdIn.row 0 rfl) rfl (H.rowInv (i := 0) rfl).2.1 (txs_segs 1 rfl (fun t h => by have := hts20 t h; omega)) (by rw [htxa]; exact evTxt_len es) (by omega)) (fun v w hv => ?_)
  obtain ⟨fa, fc, pa, pc, rfl, H⟩ := hv
  rw [htxa] at H ⊢
  refine l_ptup rfl rfl ?_
  refine l_pslice rfl rfl ?_
  refine l_pslice rfl rfl ?_
  refine l_pslice rfl rfl ?_
  refine l_pslice rfl rfl ?_
  refine l_nil ?_
  refine w_seq ?_
  refine w_region ?_
  refine l_pslice rfl rfl ?_
  refine b_call rfl cb_70 rfl (Chunks_r (ts := txs) H (RdIn.row 2 rfl) rfl (H.rowInv (i := 2) rfl).2.1 (txs_segs 3 rfl (fun t h => by have := hts20 t h; omega)) (by omega)) (fun v w hv => ?_)
  obtain ⟨la, lc, rfl, H⟩ := hv
  rw [htxa] at H ⊢
  refine l_pslice rfl rfl ?_
  refine l_nil ?_
  refine w_seq ?_
  refine w_region ?_
  refine b_buildSlice (cs := [I 0, I 0]) rfl el_66 ze_3 rfl rfl rfl H (fun b42 w H => ?_)
  have H : St W w (row 3 1 (some ⟨b42, 0, none⟩) 2 2 [I 0, I 0] :: _) := row_blk0 rfl (by decide) H
  have H : St W w (row 3 1 (some ⟨b42, 0, none⟩) 2 2 [I 0, I 0] :: row 3 1 la (chsOf (evTxt es)).length lc (natsV ((chsOf (evTxt es)).map List.length)) :: row 3 1 pa (posW s (evTxt es)).length pc (natsV (posW s (evTxt es))) :: F) := St.pick [0, 1, 3] (pre := [_, _, _, _, _, _, _]) rfl H rfl
  refine l_pslice rfl rfl ?_
  refine l_nil ?_
  refine w_seq ?_
  refine w_region ?_
  refine l_pint rfl rfl ?_
  refine l_nil ?_
  refine w_seq ?_
  refine w_seq ?_
  refine w_region ?_
  refine l_pint rfl rfl ?_
  refine l_nil ?_
  refine w_block ?_
  refine w_loopG (G := Nat × Option Addr × Nat) [13, 14, 15, 43, 44, 45, 46, 47, 48, 49, 50, 51, 52, 53, 54, 55, 56, 57, 58] (fun ⟨i, ha, hc2⟩ => [(13, .slice ha (aheadL (chsOf (evTxt es)) i).length hc2), (14, I (cnt ((chsOf (evTxt es)).take i) : Int)), (15, I (i : Int))]) (fun m ⟨i, ha, hc2⟩ w => m + i = (chsOf (evTxt es)).length ∧ St W w (row 3 1 ha (aheadL (chsOf (evTxt es)) i).length hc2 (natsV (aheadL (chsOf (evTxt es)) i)) :: row 3 1 la (chsOf (evTxt es)).length lc (natsV ((chsOf (evTxt es)).map List.length)) :: row 3 1 pa (posW s (evTxt es)).length pc (natsV (posW s (evTxt es))) :: F)) (fun _ => rfl) ?_ ?_
  · exact ⟨(chsOf (evTxt es)).length, (0, some ⟨b42, 0, none⟩, 2), ⟨rfl, rfl, rfl, trivial⟩, rfl, H⟩
  rintro m ⟨i, ha, hc2⟩ ρ1 w ⟨hmi, H⟩
  refine w_seq ?_
  refine w_seq ?_
  refine w_region ?_
  refine l_pint rfl rfl ?_
  refine l_pslice rfl rfl ?_
  refine l_v rfl (q_lenSlice rfl el_66 rfl) ?_
  refine l_pbool rfl rfl ?_
  refine l_nil ?_
  refine w_cond rfl (fun c2 => ?_) (fun c2 => ?_)
  · try simp only [sH] at c2
    have hi2 : i < (chsOf (evTxt es)).length := by omega
    have hi' : i < ((chsOf (evTxt es)).map List.length).length := by rw [List.length_map]; exact hi2
    obtain ⟨pb, po, hpa, _⟩ := nat_at ((H.rowInv (i := 1) rfl).2.2.2.2) hi'
    have hcc := cnt_take (List.getElem?_eq_getElem hi2 : (chsOf (evTxt es))[i]? = some (chsOf (evTxt es))[i])
    have hci := cnt_le (us := evTxt es) (i := i + 1)
    refine w_skip ?_
    refine w_seq ?_
    refine w_block ?_
    refine w_seq ?_
    refine w_region ?_
    refine l_pint rfl rfl ?_
    refine l_pslice rfl rfl ?_
    refine l_pint rfl rfl ?_
    refine l_v rfl (q_indexSliceE i rfl el_66 rfl hpa rfl rfl hi2) ?_
    refine l_v rfl (q_load1 (v := I ((chsOf (evTxt es))[i].length : Int)) rfl c1_3 rfl (by have h := nat_c hpa ((H.rowInv (i := 1) rfl).2.2.2.2) hi'; rw [List.getElem_map] at h; exact h)) ?_
    first | refine l_v rfl (q_add rfl rfl rfl (by simp only [inK]; omega)) ?_ | refine l_pint rfl rfl ?_
    refine l_pint rfl rfl ?_
    refine l_nil ?_
    refine w_region ?_
    refine l_pslice rfl rfl ?_
    refine l_pint rfl rfl ?_
    have hci := cnt_le (us := evTxt es) (i := i + 1)
    refine b_buildSlice (cs := [I ((cnt ((chsOf (evTxt es)).take i) : Int) + ((chsOf (evTxt es))[i].length : Int))]) rfl el_66 ze_3 rfl rfl rfl H (fun b57 w H => ?_)
    have hahl := ahead_len (chsOf (evTxt es)) i
    refine b_append rfl el_66 ze_3 rfl rfl rfl H 1 rfl (ys := [I (cnt ((chsOf (evTxt es)).take (i + 1)) : Int)]) (by have h := Rd.mk (H.cells0 0 rfl); rw [show ((cnt ((chsOf (evTxt es)).take i) : Int) + ((chsOf (evTxt es))[i].length : Int)) = (cnt ((chsOf (evTxt es)).take (i + 1)) : Int) by rw [hcc]; omega] at h; exact h) rfl (fun u hu => by obtain rfl := List.mem_singleton.1 hu; rfl) ⟨by omega, by simp only [maxLen]; omega⟩ (fun a58 c58 w H => ?_)
    have H := H.drop1
    refine l_pslice rfl rfl ?_
    refine l_nil ?_
    refine w_region ?_
    refine l_pint rfl rfl ?_
    first | refine l_v rfl (q_add rfl rfl rfl (by simp only [inK]; omega)) ?_ | refine l_pint rfl rfl ?_
    refine l_pint rfl rfl ?_
    refine l_nil ?_
    refine ⟨by repeat' first | exact aM | exact aR | refine aI rfl ?_ | refine aU rfl ?_ | refine aL rfl ?_, ?_⟩
    have hlA : (aheadL (chsOf (evTxt es)) (i + 1)).length = (aheadL (chsOf (evTxt es)) i).length + 1 := by rw [ahead_len, ahead_len]
    have hA : (aheadL (chsOf (evTxt es)) (i + 1)) = (aheadL (chsOf (evTxt es)) i) ++ [cnt ((chsOf (evTxt es)).take (i + 1))] := rfl
    refine ⟨m - 1, (i + 1, a58, c58), by omega, ⟨by show _ = Value.slice a58 (aheadL (chsOf (evTxt es)) (i + 1)).length c58; rw [hlA]; rfl, congrArg (Value.int IntKind.i64) (by rw [hcc]; omega), by exact congrArg (Value.int IntKind.i64) (Int.natCast_succ i).symm, trivial⟩, by omega, ?_⟩
    rw [hlA, hA]
    unfold natsV at H ⊢
    rw [List.map_append (l₁ := (aheadL (chsOf (evTxt es)) i))]
    exact H
  try simp only [sH] at c2
  obtain rfl : i = (chsOf (evTxt es)).length := by omega
  refine w_exit ?_
  refine w_seq ?_
  refine w_region ?_
  refine l_pslice rfl rfl ?_
  refine l_pslice rfl rfl ?_
  refine l_pslice rfl rfl ?_
  refine l_pslice rfl rfl ?_
  refine l_nil ?_
  refine w_ret ?_
  refine fin2 rfl rfl ?_
  exact ⟨pa, pc, ha, hc2, rfl, St.pick [2, 0] (pre := [_, _, _]) rfl H rfl⟩
end Go.Proofs.YtfpmnhmdphaceaaDoor
