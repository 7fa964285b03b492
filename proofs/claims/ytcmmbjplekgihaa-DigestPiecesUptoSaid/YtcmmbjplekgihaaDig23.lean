/- The law DigestPieces answers true, under the bound. -/
import Derived.Test.YtcmmbjplekgihaaDig22
namespace Go.Proofs.Ytcmmbjplekgihaa
open Go.EW
attribute [local irreducible] EW.W EW.L EW.fin block8 outB parA pgo hexL shaL digitI
set_option linter.unusedVariables false
set_option linter.unusedSimpArgs false

def Bo (b : Bool) : Value := .bool b
theorem get_Bo {l : List Bool} {j : Nat} (hj : j < l.length) : (l.map Bo)[j]? = some (Bo (l.getD j false)) := by
  rw [List.getElem?_map, List.getElem?_eq_getElem hj]; simp [List.getD, hj]

set_option maxRecDepth 8000 in
set_option maxHeartbeats 1000000 in
theorem DigestPieces_ok {W w : World} {F : List Seg} (H : St W w F) {ab ar aq : Option Addr} {cb cr cq : Nat} {bs : List UInt8} {ps : List Part} {qs : List Bool} (hrb : RdIn W F ab (bs.map B)) (hcb : bs.length ≤ cb) (hnb : bs.length ≤ 1048576) (hrp : RdIn W F ar (ps.map pv)) (hp : ∀ p ∈ ps, RdIn W F p.1 (p.2.2.map B) ∧ p.2.2.length ≤ p.2.1) (hps : ps.length ≤ 1048576) (ht : (joinL ps).length ≤ 1048576) (hrq : RdIn W F aq (qs.map Bo)) (hqs : qs.length ≤ 1048576) :
    Ok Try.prog 4 [.slice ab bs.length cb, .slice ar ps.length cr, .slice aq qs.length cq].toArray w (fun v w' => v = .bool true ∧ ∃ S, St W w' S) := by
  refine enter (n := 99) (rs := #[.tmp 6]) Try.func4 rfl rfl rfl rfl ?_
  refine w_seq ?_
  refine w_region ?_
  refine l_pbool rfl rfl ?_
  refine l_nil ?_
  refine w_seq ?_
  refine w_seq ?_
  refine w_region ?_
  refine b_call rfl cb_14 rfl (alive_ok H) (fun v w hv => ?_)
  obtain ⟨rfl, H⟩ := hv
  refine l_pbool rfl rfl ?_
  refine l_nil ?_
  refine w_cond_f rfl ?_
  refine w_skip ?_
  refine w_seq ?_
  refine w_region ?_
  refine b_call rfl cb_15 rfl (New_ok H) (fun v w hv => ?_)
  obtain ⟨bh, rfl, H⟩ := hv
  refine l_pptr rfl rfl ?_
  refine l_nil ?_
  refine w_seq ?_
  refine w_seq ?_
  refine w_region ?_
  refine l_pptr rfl rfl ?_
  refine l_v rfl (q_eqlNilF rfl pt_39 rfl rfl) ?_
  refine l_pbool rfl rfl ?_
  refine l_pptr rfl rfl ?_
  refine b_call rfl cb_16 rfl (Len_to HOk.new H) (fun v w hv => ?_)
  obtain ⟨rfl, H⟩ := hv
  refine l_pbool rfl rfl ?_
  refine l_pickF (v := .bool _) rfl rfl rfl ?_
  refine l_pbool rfl rfl ?_
  refine l_split 21 rfl (fun h21 => absurd h21 (by simp)) (fun h21 => ?_)
  try simp only [decide_eq_true_eq, decide_eq_false_iff_not, Bool.not_eq_true', Bool.not_eq_false', beq_iff_eq, beq_eq_false_iff_ne, bne_iff_ne, bne_eq_false_iff_eq, ne_eq, Int.not_lt, Int.not_le] at h21
  refine l_pptr rfl rfl ?_
  refine b_call rfl cb_17 rfl (Sum_ok H HOk.new (by decide)) (fun v w hv => ?_)
  obtain ⟨rfl, H⟩ := hv
  refine b_call rfl cb_9 rfl (SumB_to H (bs := []) RdIn.nil rfl (Nat.le_refl _) (by decide)) (fun v w hv => ?_)
  obtain ⟨rfl, H⟩ := hv
  refine l_v rfl (q_neqHash rfl rfl rfl (shaL_len _) (shaL_len _)) ?_
  refine l_pickF (v := .bool _) rfl rfl rfl ?_
  refine l_nil ?_
  refine w_cond rfl (fun c1 => ?_) (fun c1 => ?_)
  · try simp only [decide_eq_true_eq, decide_eq_false_iff_not, Bool.not_eq_true', Bool.not_eq_false', beq_iff_eq, beq_eq_false_iff_ne, bne_iff_ne, bne_eq_false_iff_eq, ne_eq, Int.not_lt, Int.not_le] at c1
    refine w_seq ?_
    refine w_region ?_
    refine l_pbool rfl rfl ?_
    refine l_nil ?_
    refine w_ret ?_
    refine fin1 (v := .bool _) rfl ?_
    exact absurd c1 (by simp)
  · try simp only [decide_eq_true_eq, decide_eq_false_iff_not, Bool.not_eq_true', Bool.not_eq_false', beq_iff_eq, beq_eq_false_iff_ne, bne_iff_ne, bne_eq_false_iff_eq, ne_eq, Int.not_lt, Int.not_le] at c1
    refine w_skip ?_
    refine w_seq ?_
    refine w_region ?_
    refine l_pptr rfl rfl ?_
    refine l_pslice rfl rfl ?_
    refine b_call rfl cb_18 rfl (Write_to HOk.new H hrb rfl hcb (by omega) (by decide)) (fun v w hv => ?_)
    obtain ⟨rfl, h0, hk0, H⟩ := hv
    refine l_nil ?_
    refine w_seq ?_
    refine w_region ?_
    refine l_pptr rfl rfl ?_
    refine b_call rfl cb_19 rfl (Reset_ok H) (fun v w hv => ?_)
    obtain ⟨rfl, H⟩ := hv
    refine l_nil ?_
    refine w_seq ?_
    refine w_region ?_
    refine l_pslice rfl rfl ?_
    refine l_nil ?_
    refine w_seq ?_
    refine w_region ?_
    refine b_alloc rfl ze_29 rfl H (fun b9 w H => ?_)
    refine l_nil ?_
    refine w_seq ?_
    refine w_seq ?_
    refine w_region ?_
    refine l_pint rfl rfl ?_
    refine l_nil ?_
    refine w_block ?_
    refine w_loopG (G := Nat × Option Addr × Nat × GA × List GB × HS) [6, 8, 10, 32, 33, 34, 35, 36, 37, 38, 39, 40, 41, 42, 43, 44, 45, 46, 47, 48, 49, 50, 51, 52, 53, 54, 55, 56, 57, 58, 59, 60, 61, 62, 63, 64, 65, 66, 67, 68, 69, 70, 71, 72, 73, 74, 75, 76] (fun ⟨i, a8, c8, ga, gs, h⟩ => [(10, .int .i64 ((i : Nat) : Int)), (8, .slice a8 (joinL (ps.take i)).length c8)]) (fun m ⟨i, a8, c8, ga, gs, h⟩ w => m + i = ps.length ∧ gs.map GB.bs = (ps.take i).map (·.2.2) ∧ HOk h (joinL (ps.take i)) ∧ St W w (givenL b9 ga gs (row 5 1 a8 (joinL (ps.take i)).length c8 ((joinL (ps.take i)).map B) :: hashL bh h F))) (fun _ => rfl) ?_ ?_
    · refine ⟨ps.length, (0, none, 0, ⟨none, 0, none, 0⟩, [], newH), ⟨rfl, by rw [List.take_zero]; exact rfl, trivial⟩, by omega, by rw [List.take_zero]; rfl, by rw [List.take_zero]; exact HOk.new, ?_⟩
      rw [List.take_zero]
      have H1 := given_new H
      exact ((St.newRow (T := 5) (sz := 1) H1).pick [1, 2, 3, 4, 5, 0] (pre := [_, _, _, _, _, _]) rfl rfl)
    · rintro m ⟨i, a8, c8, ga, gs, h⟩ ρ1 w ⟨hmi, hgs, hk, H⟩
      have hgl := gs_len hgs (by omega)
      have hjl := joinL_le ps i
      refine w_seq ?_
      refine w_seq ?_
      refine w_region ?_
      refine l_pint rfl rfl ?_
      refine l_pslice rfl rfl ?_
      refine l_v rfl (q_lenSlice rfl el_23 rfl) ?_
      refine l_pbool rfl rfl ?_
      refine l_nil ?_
      refine w_cond rfl (fun c2 => ?_) (fun c2 => ?_)
      · try simp only [decide_eq_true_eq, decide_eq_false_iff_not, Bool.not_eq_true', Bool.not_eq_false', beq_iff_eq, beq_eq_false_iff_ne, bne_iff_ne, bne_eq_false_iff_eq, ne_eq, Int.not_lt, Int.not_le] at c2
        have hi' : i < ps.length := by omega
        have hjl2 := joinL_le ps (i + 1)
        have hjs : (joinL (ps.take (i + 1))).length = (joinL (ps.take i)).length + ps[i].2.2.length := by rw [joinL_snoc hi', List.length_append]
        obtain ⟨b0, o0, ha0, hc0⟩ := rd_cell (x := pv ps[i]) (hrp.use H 8 rfl) (by rw [List.getElem?_map, List.getElem?_eq_getElem hi']; rfl)
        refine w_skip ?_
        refine w_seq ?_
        refine w_block ?_
        refine w_seq ?_
        refine w_region ?_
        refine l_pptr rfl rfl ?_
        refine l_pslice rfl rfl ?_
        refine l_pint rfl rfl ?_
        refine l_v rfl (q_indexSliceE i rfl el_23 rfl ha0 rfl rfl (by omega)) ?_
        refine l_v rfl (q_load1 rfl c1_22 rfl (rd_at ha0 (hrp.use H 8 rfl) (by rw [List.getElem?_map, List.getElem?_eq_getElem hi']; rfl))) ?_
        refine b_call rfl cb_8 rfl (Bytes_ok H ((hp ps[i] (List.getElem_mem hi')).1.up 3 rfl) rfl (by have := part_le hi'; omega) (by omega)) (fun v w hv => ?_)
        obtain ⟨g, ga', hg, rfl, H⟩ := hv
        have glast : RdIn W (givenL b9 ga' (gs ++ [g]) (row 5 1 a8 (joinL (ps.take i)).length c8 ((joinL (ps.take i)).map B) :: F)) g.a (g.bs.map B) := by
          have := given_part' (W := W) (F := row 5 1 a8 (joinL (ps.take i)).length c8 ((joinL (ps.take i)).map B) :: F) (b := b9) (ga := ga') (gs := gs ++ [g]) (i := gs.length) (by simp)
          simpa using this
        have hgcap : ps[i].2.2.length ≤ g.cap := by
          have := (given_part H (i := gs.length) (by simp)).2
          rw [← hg]; simpa using this
        refine b_call rfl cb_18 rfl (Write_to hk (b := bh) (F := givenL b9 ga' (gs ++ [g]) (row 5 1 a8 (joinL (ps.take i)).length c8 ((joinL (ps.take i)).map B) :: F)) (H.pick [6, 7, 0, 1, 2, 3, 4, 5] (pre := [_, _, _, _, _, _, _, _]) rfl rfl) glast (by rw [hg]) hgcap (by have := part_le hi'; omega) (by omega)) (fun v w hv => ?_)
        obtain ⟨rfl, h', hk', H⟩ := hv
        have H : St W w (givenL b9 ga' (gs ++ [g]) (row 5 1 a8 (joinL (ps.take i)).length c8 ((joinL (ps.take i)).map B) :: hashL bh h' F)) := H.pick [2, 3, 4, 5, 6, 7, 0, 1] (pre := [_, _, _, _, _, _, _, _]) rfl rfl
        rw [hg, ← joinL_snoc hi'] at hk'
        refine l_nil ?_
        refine w_seq ?_
        refine w_region ?_
        refine l_pslice rfl rfl ?_
        refine l_pslice rfl rfl ?_
        refine l_pint rfl rfl ?_
        refine l_v rfl (q_indexSliceE i rfl el_23 rfl ha0 rfl rfl (by omega)) ?_
        refine l_v rfl (q_load1 rfl c1_22 rfl (rd_at ha0 (hrp.use H 8 rfl) (by rw [List.getElem?_map, List.getElem?_eq_getElem hi']; rfl))) ?_
        refine b_append rfl el_22 ze_5 rfl rfl rfl H 5 rfl (ys := ps[i].2.2.map B) ((hp ps[i] (List.getElem_mem hi')).1.use H 8 rfl) (by simp) (oneB _) ⟨by omega, by simp only [maxLen]; omega⟩ (fun a50 c50 w H => ?_)
        have H : St W w (givenL b9 ga' (gs ++ [g]) (row 5 1 a50 (joinL (ps.take (i + 1))).length c50 ((joinL (ps.take (i + 1))).map B) :: hashL bh h' F)) := by
          rw [hjs, joinL_snoc hi', List.map_append]; exact H
        have hc8 := (H.rowInv (i := 5) rfl).2.1
        refine l_pslice rfl rfl ?_
        refine l_nil ?_
        refine w_seq ?_
        refine w_region ?_
        refine l_pslice rfl rfl ?_
        refine l_v rfl (q_lenSlice rfl el_38 rfl) ?_
        refine l_pbool rfl rfl ?_
        refine l_pbool rfl rfl ?_
        refine l_split 54 rfl (fun h54 => ?_) (fun h54 => ?_)
        · try simp only [decide_eq_true_eq, decide_eq_false_iff_not, Bool.not_eq_true', Bool.not_eq_false', beq_iff_eq, beq_eq_false_iff_ne, bne_iff_ne, bne_eq_false_iff_eq, ne_eq, Int.not_lt, Int.not_le] at h54
          refine l_pslice rfl rfl ?_
          refine l_pint rfl rfl ?_
          refine l_pslice rfl rfl ?_
          refine l_v rfl (q_lenSlice rfl el_38 rfl) ?_
          refine l_v rfl (q_rem (k := .i64) (a := ((i : Nat) : Int)) (b := ((qs.length : Nat) : Int)) rfl rfl rfl (by omega)) ?_
          obtain ⟨bq, oq, haq, hcq⟩ := rd_cell (x := Bo (qs.getD (i % qs.length) false)) (hrq.use H 8 rfl) (get_Bo (Nat.mod_lt _ (by omega)))
          refine l_v rfl (q_indexSliceE (i % qs.length) rfl el_38 rfl haq rfl (tmodN _ _) (Nat.mod_lt _ (by omega))) ?_
          refine l_v rfl (q_load1 rfl c1_4 rfl hcq) ?_
          refine l_pickT (v := .bool _) rfl rfl rfl ?_
          refine l_pbool rfl rfl ?_
          refine l_split 63 rfl (fun h63 => ?_) (fun h63 => ?_)
          · try simp only [decide_eq_true_eq, decide_eq_false_iff_not, Bool.not_eq_true', Bool.not_eq_false', beq_iff_eq, beq_eq_false_iff_ne, bne_iff_ne, bne_eq_false_iff_eq, ne_eq, Int.not_lt, Int.not_le] at h63
            refine l_pptr rfl rfl ?_
            refine b_call rfl cb_17 rfl (Ok_perm (pickP [6, 7, 0, 1, 2, 3, 4, 5] (pre := [_, _, _, _, _, _, _, _]) rfl rfl) (fun H => Sum_ok (h := h') H hk' (by omega)) H) (fun v w hv => ?_)
            obtain ⟨rfl, H⟩ := hv
            refine l_pslice rfl rfl ?_
            refine b_call rfl cb_9 rfl (SumB_to H (bs := joinL (ps.take (i + 1))) (RdIn.row 5 rfl) hjs (by rw [← hjs]; exact hc8) (by omega)) (fun v w hv => ?_)
            obtain ⟨rfl, H⟩ := hv
            refine l_v rfl (q_neqHash rfl rfl rfl (shaL_len _) (shaL_len _)) ?_
            refine l_pbool rfl rfl ?_
            refine l_split 69 rfl (fun h69 => absurd h69 (by simp)) (fun h69 => ?_)
            try simp only [decide_eq_true_eq, decide_eq_false_iff_not, Bool.not_eq_true', Bool.not_eq_false', beq_iff_eq, beq_eq_false_iff_ne, bne_iff_ne, bne_eq_false_iff_eq, ne_eq, Int.not_lt, Int.not_le] at h69
            refine l_pptr rfl rfl ?_
            refine b_call rfl cb_16 rfl (Ok_perm (pickP [6, 7, 0, 1, 2, 3, 4, 5] (pre := [_, _, _, _, _, _, _, _]) rfl rfl) (fun H => Len_to (h := h') hk' H) H) (fun v w hv => ?_)
            obtain ⟨rfl, H⟩ := hv
            refine l_pslice rfl rfl ?_
            refine l_v rfl (q_lenSlice rfl el_22 rfl) ?_
            refine l_pbool rfl rfl ?_
            refine l_pickF (v := .bool _) rfl rfl rfl ?_
            refine l_pickT (v := .bool _) rfl rfl rfl ?_
            refine l_nil ?_
            refine w_cond rfl (fun c3 => ?_) (fun c3 => ?_)
            · try simp only [decide_eq_true_eq, decide_eq_false_iff_not, Bool.not_eq_true', Bool.not_eq_false', beq_iff_eq, beq_eq_false_iff_ne, bne_iff_ne, bne_eq_false_iff_eq, ne_eq, Int.not_lt, Int.not_le] at c3
              refine w_seq ?_
              refine w_region ?_
              refine l_pbool rfl rfl ?_
              refine l_nil ?_
              refine w_ret ?_
              refine fin1 (v := .bool _) rfl ?_
              exact absurd c3 (by rw [hjs]; simp)
            · try simp only [decide_eq_true_eq, decide_eq_false_iff_not, Bool.not_eq_true', Bool.not_eq_false', beq_iff_eq, beq_eq_false_iff_ne, bne_iff_ne, bne_eq_false_iff_eq, ne_eq, Int.not_lt, Int.not_le] at c3
              refine w_skip ?_
              refine w_region ?_
              refine l_pint rfl rfl ?_
              first | refine l_v rfl (q_add rfl rfl rfl (by simp only [inK]; omega)) ?_ | refine l_pint rfl rfl ?_
              refine l_pint rfl rfl ?_
              refine l_nil ?_
              refine ⟨by repeat' first | exact Agr.mix _ _ _ | exact Agr.refl _ _ | refine Agr.inner rfl ?_ | refine Agr.upd rfl ?_ | refine Agr.updL' rfl ?_, ?_⟩
              exact ⟨m - 1, (i + 1, a50, c50, ga', gs ++ [g], h'), by omega, ⟨by exact congrArg (Value.int IntKind.i64) (Int.natCast_succ i).symm, congrArg (fun x => Value.slice a50 x c50) hjs.symm, trivial⟩, by omega, bs_snoc hi' hgs hg, hk', H⟩
          · try simp only [decide_eq_true_eq, decide_eq_false_iff_not, Bool.not_eq_true', Bool.not_eq_false', beq_iff_eq, beq_eq_false_iff_ne, bne_iff_ne, bne_eq_false_iff_eq, ne_eq, Int.not_lt, Int.not_le] at h63
            refine l_no rfl ?_
            refine l_no rfl ?_
            refine l_no rfl ?_
            refine l_no rfl ?_
            refine l_no rfl ?_
            refine l_no rfl ?_
            refine l_no rfl ?_
            refine l_no rfl ?_
            refine l_no rfl ?_
            refine l_no rfl ?_
            refine l_no rfl ?_
            refine l_no rfl ?_
            refine l_pickF (v := .bool _) rfl rfl rfl ?_
            refine l_nil ?_
            refine w_cond_f rfl ?_
            refine w_skip ?_
            refine w_region ?_
            refine l_pint rfl rfl ?_
            first | refine l_v rfl (q_add rfl rfl rfl (by simp only [inK]; omega)) ?_ | refine l_pint rfl rfl ?_
            refine l_pint rfl rfl ?_
            refine l_nil ?_
            refine ⟨by repeat' first | exact Agr.mix _ _ _ | exact Agr.refl _ _ | refine Agr.inner rfl ?_ | refine Agr.upd rfl ?_ | refine Agr.updL' rfl ?_, ?_⟩
            exact ⟨m - 1, (i + 1, a50, c50, ga', gs ++ [g], h'), by omega, ⟨by exact congrArg (Value.int IntKind.i64) (Int.natCast_succ i).symm, congrArg (fun x => Value.slice a50 x c50) hjs.symm, trivial⟩, by omega, bs_snoc hi' hgs hg, hk', H⟩
        · try simp only [decide_eq_true_eq, decide_eq_false_iff_not, Bool.not_eq_true', Bool.not_eq_false', beq_iff_eq, beq_eq_false_iff_ne, bne_iff_ne, bne_eq_false_iff_eq, ne_eq, Int.not_lt, Int.not_le] at h54
          refine l_no rfl ?_
          refine l_no rfl ?_
          refine l_no rfl ?_
          refine l_no rfl ?_
          refine l_no rfl ?_
          refine l_no rfl ?_
          refine l_no rfl ?_
          refine l_pickF (v := .bool _) rfl rfl rfl ?_
          refine l_pbool rfl rfl ?_
          refine l_no rfl ?_
          refine l_no rfl ?_
          refine l_no rfl ?_
          refine l_no rfl ?_
          refine l_no rfl ?_
          refine l_no rfl ?_
          refine l_no rfl ?_
          refine l_no rfl ?_
          refine l_no rfl ?_
          refine l_no rfl ?_
          refine l_no rfl ?_
          refine l_no rfl ?_
          refine l_pickF (v := .bool _) rfl rfl rfl ?_
          refine l_nil ?_
          refine w_cond_f rfl ?_
          refine w_skip ?_
          refine w_region ?_
          refine l_pint rfl rfl ?_
          first | refine l_v rfl (q_add rfl rfl rfl (by simp only [inK]; omega)) ?_ | refine l_pint rfl rfl ?_
          refine l_pint rfl rfl ?_
          refine l_nil ?_
          refine ⟨by repeat' first | exact Agr.mix _ _ _ | exact Agr.refl _ _ | refine Agr.inner rfl ?_ | refine Agr.upd rfl ?_ | refine Agr.updL' rfl ?_, ?_⟩
          exact ⟨m - 1, (i + 1, a50, c50, ga', gs ++ [g], h'), by omega, ⟨by exact congrArg (Value.int IntKind.i64) (Int.natCast_succ i).symm, congrArg (fun x => Value.slice a50 x c50) hjs.symm, trivial⟩, by omega, bs_snoc hi' hgs hg, hk', H⟩
      · try simp only [decide_eq_true_eq, decide_eq_false_iff_not, Bool.not_eq_true', Bool.not_eq_false', beq_iff_eq, beq_eq_false_iff_ne, bne_iff_ne, bne_eq_false_iff_eq, ne_eq, Int.not_lt, Int.not_le] at c2
        have ei : i = ps.length := by omega
        have et : ps.take i = ps := by rw [ei, List.take_length]
        have hgl2 : gs.length ≤ 1048576 := by omega
        have hc8 := (H.rowInv (i := 5) rfl).2.1
        refine w_exit ?_
        refine w_seq ?_
        refine w_region ?_
        refine l_pptr rfl rfl ?_
        refine b_call rfl cb_17 rfl (Ok_perm (pickP [6, 7, 0, 1, 2, 3, 4, 5] (pre := [_, _, _, _, _, _, _, _]) rfl rfl) (fun H => Sum_ok (h := h) H hk (by omega)) H) (fun v w hv => ?_)
        obtain ⟨rfl, H⟩ := hv
        refine l_pslice rfl rfl ?_
        refine b_call rfl cb_9 rfl (SumB_to H (bs := joinL (ps.take i)) (RdIn.row 5 rfl) rfl hc8 (by omega)) (fun v w hv => ?_)
        obtain ⟨rfl, H⟩ := hv
        refine l_v rfl (q_eqlHash rfl rfl rfl (shaL_len _) (shaL_len _)) ?_
        refine l_pbool rfl rfl ?_
        refine l_split 82 rfl (fun h82 => ?_) (fun h82 => absurd h82 (by simp))
        try simp only [decide_eq_true_eq, decide_eq_false_iff_not, Bool.not_eq_true', Bool.not_eq_false', beq_iff_eq, beq_eq_false_iff_ne, bne_iff_ne, bne_eq_false_iff_eq, ne_eq, Int.not_lt, Int.not_le] at h82
        refine l_pptr rfl rfl ?_
        refine b_call rfl cb_17 rfl (Ok_perm (pickP [6, 7, 0, 1, 2, 3, 4, 5] (pre := [_, _, _, _, _, _, _, _]) rfl rfl) (fun H => Sum_ok (h := h) H hk (by omega)) H) (fun v w hv => ?_)
        obtain ⟨rfl, H⟩ := hv
        refine l_pslice rfl rfl ?_
        refine b_call rfl cb_11 rfl (Join_ok H (hrp.up 8 rfl) rfl (fun p hq => ⟨(hp p hq).1.up 8 rfl, (hp p hq).2, by
      obtain ⟨j, hj, rfl⟩ := List.getElem_of_mem hq
      have := part_le hj
      omega⟩) (by omega) (by omega)) (fun v w hv => ?_)
        obtain ⟨rfl, H⟩ := hv
        refine l_v rfl (q_eqlHash rfl rfl rfl (shaL_len _) (shaL_len _)) ?_
        refine l_pickT (v := .bool _) rfl rfl rfl ?_
        refine l_pbool rfl rfl ?_
        refine l_split 89 rfl (fun h89 => ?_) (fun h89 => absurd h89 (by simp [et]))
        try simp only [decide_eq_true_eq, decide_eq_false_iff_not, Bool.not_eq_true', Bool.not_eq_false', beq_iff_eq, beq_eq_false_iff_ne, bne_iff_ne, bne_eq_false_iff_eq, ne_eq, Int.not_lt, Int.not_le] at h89
        refine l_pptr rfl rfl ?_
        refine b_call rfl cb_16 rfl (Ok_perm (pickP [6, 7, 0, 1, 2, 3, 4, 5] (pre := [_, _, _, _, _, _, _, _]) rfl rfl) (fun H => Len_to (h := h) hk H) H) (fun v w hv => ?_)
        obtain ⟨rfl, H⟩ := hv
        refine l_pslice rfl rfl ?_
        refine l_v rfl (q_lenSlice rfl el_22 rfl) ?_
        refine l_pbool rfl rfl ?_
        refine l_pickT (v := .bool _) rfl rfl rfl ?_
        refine l_pbool rfl rfl ?_
        refine l_split 96 rfl (fun h96 => ?_) (fun h96 => absurd h96 (by simp))
        try simp only [decide_eq_true_eq, decide_eq_false_iff_not, Bool.not_eq_true', Bool.not_eq_false', beq_iff_eq, beq_eq_false_iff_ne, bne_iff_ne, bne_eq_false_iff_eq, ne_eq, Int.not_lt, Int.not_le] at h96
        refine b_call rfl cb_13 rfl (Intact_ok H (by omega)) (fun v w hv => ?_)
        obtain ⟨rfl, H⟩ := hv
        refine l_pickT (v := .bool _) rfl rfl rfl ?_
        refine l_pbool rfl rfl ?_
        refine l_nil ?_
        refine w_ret ?_
        refine fin1 (v := .bool _) rfl ?_
        exact ⟨rfl, _, H⟩

end Go.Proofs.Ytcmmbjplekgihaa
