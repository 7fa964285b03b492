/- The laws' helper Intact answers true of what was handed out and not written. -/
import Derived.Test.YtcmmbjplekgihaaDig20
namespace Go.Proofs.Ytcmmbjplekgihaa
open Go.EW
attribute [local irreducible] EW.W EW.L EW.fin block8 outB parA pgo hexL shaL digitI
set_option linter.unusedVariables false
set_option linter.unusedSimpArgs false
set_option maxRecDepth 8000 in
theorem Intact_ok {W w : World} {F : List Seg} {b : Nat} {ga : GA} {gs : List GB} (H : St W w (givenL b ga gs F)) (hgn : gs.length ≤ 1099511627776) :
    Ok Try.prog 13 [.pointer (some ⟨b, 0, none⟩)].toArray w (fun v w' => v = .bool true ∧ St W w' (givenL b ga gs F)) := by
  have hgl := (H.rowInv (i := 1) rfl).2.1
  have hgm := (H.rowInv (i := 1) rfl).2.2.1
  have hml : maxLen = 9223372036854775807 := rfl
  have hgo : ∀ i (hi : i < gs.length), (gs.map GB.own)[i]? = some (row 5 1 gs[i].a (gs[i].bs.length + 1) gs[i].cap ((gs[i].bs ++ [90]).map B)) := fun i hi => by rw [List.getElem?_map, List.getElem?_eq_getElem hi]; rfl
  have hgc : ∀ i (hi : i < gs.length), (gs.map GB.copy)[i]? = some (row 5 1 gs[i].a2 (gs[i].bs.length + 1) gs[i].cap2 ((gs[i].bs ++ [90]).map B)) := fun i hi => by rw [List.getElem?_map, List.getElem?_eq_getElem hi]; rfl
  refine enter (n := 133) (rs := #[.tmp 2]) Try.func13 rfl rfl rfl rfl ?_
  refine w_seq ?_
  refine w_region ?_
  refine l_pbool rfl rfl ?_
  refine l_nil ?_
  refine w_seq ?_
  refine w_seq ?_
  refine w_region ?_
  refine l_pint rfl rfl ?_
  refine l_nil ?_
  refine w_block ?_
  refine w_loopG (G := Nat) [2, 3, 8, 9, 10, 11, 12, 13, 14, 15, 16, 17, 18, 19, 20, 21, 22, 23, 24, 25, 26, 27, 28, 29, 30, 31, 32] (fun i => [(3, .int .i64 ((i : Nat) : Int))]) (fun m i w => m + i = gs.length ∧ St W w (givenL b ga gs F)) (fun _ => rfl) ?_ ?_
  · exact ⟨gs.length, 0, ⟨rfl, trivial⟩, by omega, H⟩
  · rintro m i ρ1 w ⟨hmi, H⟩
    refine w_seq ?_
    refine w_seq ?_
    refine w_region ?_
    refine l_pint rfl rfl ?_
    refine l_pptr rfl rfl ?_
    refine l_pptr rfl rfl ?_
    refine l_v rfl (q_fieldAddr rfl fo29_0 rfl) ?_
    refine l_v rfl (q_load1 rfl c1_23 rfl (by first | exact H.cell 0 rfl rfl)) ?_
    refine l_v rfl (q_lenSlice rfl el_23 rfl) ?_
    refine l_pbool rfl rfl ?_
    refine l_nil ?_
    refine w_cond rfl (fun c1 => ?_) (fun c1 => ?_)
    · try simp only [decide_eq_true_eq, decide_eq_false_iff_not, Bool.not_eq_true', Bool.not_eq_false', beq_iff_eq, beq_eq_false_iff_ne, bne_iff_ne, bne_eq_false_iff_eq, ne_eq, Int.not_lt, Int.not_le] at c1
      have hi' : i < gs.length := by omega
      have hv1 : (gs.map GB.v1)[i]? = some gs[i].v1 := by rw [List.getElem?_map, List.getElem?_eq_getElem hi']; rfl
      have hv2 : (gs.map GB.v2)[i]? = some gs[i].v2 := by rw [List.getElem?_map, List.getElem?_eq_getElem hi']; rfl
      obtain ⟨bo, hao, _⟩ := row_addr H (i := 1) rfl hv1
      obtain ⟨bc, hac, _⟩ := row_addr H (i := 2) rfl hv2
      refine w_skip ?_
      refine w_seq ?_
      refine w_block ?_
      refine w_seq ?_
      refine w_drawT [14] [3, 6, 10, 13] [(0, 0), (1, 0), (2, 0), (3, 1), (4, 0), (5, 0), (6, 1), (7, 0), (8, 0), (9, 0), (10, 1), (11, 0), (12, 0), (13, 1), (14, 2), (15, 0)] mixed (by kernel_rfl) (fun _ _ _ h => fin_panic h) H (fun H => ?_)
      refine r_pptr rfl rfl rfl ?_
      refine r_pptr rfl rfl rfl ?_
      refine r_w rfl rfl (fun w => q_fieldAddr rfl fo29_0 rfl) ?_
      refine r_v rfl rfl (fun w hS => q_load1 rfl c1_23 rfl (by first | exact hS.cell 0 rfl rfl)) ?_
      refine r_pint rfl rfl rfl ?_
      refine r_w rfl rfl (fun w => q_indexSliceE i rfl el_23 rfl hao rfl rfl (by omega)) ?_
      refine r_v rfl rfl (fun w hS => q_load1 rfl c1_22 rfl (rd_at hao ((hS.rowInv (i := 1) rfl).2.2.2.2) hv1)) ?_
      refine r_pptr rfl rfl rfl ?_
      refine r_pptr rfl rfl rfl ?_
      refine r_w rfl rfl (fun w => q_fieldAddr rfl fo29_1 rfl) ?_
      refine r_v rfl rfl (fun w hS => q_load1 rfl c1_23 rfl (by first | exact hS.cell 0 rfl rfl)) ?_
      refine r_pint rfl rfl rfl ?_
      refine r_w rfl rfl (fun w => q_indexSliceE i rfl el_23 rfl hac rfl rfl (by omega)) ?_
      refine r_v rfl rfl (fun w hS => q_load1 rfl c1_22 rfl (rd_at hac ((hS.rowInv (i := 2) rfl).2.2.2.2) hv2)) ?_
      refine r_do rfl ?_
      refine b_call rfl cb_29 rfl (SameBytes_ok (n := gs[i].bs.length + 1) (bs := gs[i].bs ++ [90]) ((RdIn.segs 3 rfl i (hgo i hi')).use H 0 rfl) ((RdIn.segs 4 rfl i (hgc i hi')).use H 0 rfl) (by simp)) (fun v w hv => ?_)
      obtain ⟨rfl, rfl⟩ := hv
      refine l_nil ⟨(fun h => nomatch h), ?_⟩
      refine r_pbool rfl rfl rfl ?_
      refine r_nil ?_
      refine w_cond_f rfl ?_
      refine w_skip ?_
      refine w_region ?_
      refine l_pint rfl rfl ?_
      first | refine l_v rfl (q_add rfl rfl rfl (by simp only [inK]; omega)) ?_ | refine l_pint rfl rfl ?_
      refine l_pint rfl rfl ?_
      refine l_nil ?_
      refine ⟨by repeat' first | exact Agr.mix _ _ _ | exact Agr.refl _ _ | refine Agr.inner rfl ?_ | refine Agr.upd rfl ?_ | refine Agr.updL' rfl ?_, ?_⟩
      exact ⟨m - 1, i + 1, by omega, ⟨by exact congrArg (Value.int IntKind.i64) (Int.natCast_succ i).symm, trivial⟩, by omega, H⟩
    · try simp only [decide_eq_true_eq, decide_eq_false_iff_not, Bool.not_eq_true', Bool.not_eq_false', beq_iff_eq, beq_eq_false_iff_ne, bne_iff_ne, bne_eq_false_iff_eq, ne_eq, Int.not_lt, Int.not_le] at c1
      refine w_exit ?_
      refine w_seq ?_
      refine w_seq ?_
      refine w_region ?_
      refine l_pint rfl rfl ?_
      refine l_nil ?_
      refine w_block ?_
      refine w_loopG (G := Unit) [2, 4, 33, 34, 35, 36, 37, 38, 39, 40, 41, 42, 43, 44, 45, 46, 47, 48, 49, 50, 51, 52, 53, 54, 55, 56, 57] (fun _ => [(4, .int .i64 0)]) (fun m _ w => m = 0 ∧ St W w (givenL b ga gs F)) (fun _ => rfl) ?_ ?_
      · exact ⟨0, (), ⟨rfl, trivial⟩, rfl, H⟩
      · rintro m _ ρ1 w ⟨_, H⟩
        refine w_seq ?_
        refine w_seq ?_
        refine w_region ?_
        refine l_pint rfl rfl ?_
        refine l_pptr rfl rfl ?_
        refine l_pptr rfl rfl ?_
        refine l_v rfl (q_fieldAddr rfl fo29_8 rfl) ?_
        refine l_v rfl (q_load1 rfl c1_27 rfl (by first | exact H.cell 0 rfl rfl)) ?_
        refine l_v rfl (q_lenSlice rfl el_27 rfl) ?_
        refine l_pbool rfl rfl ?_
        refine l_nil ?_
        refine w_cond_f rfl ?_
        refine w_exit ?_
        refine w_seq ?_
        refine w_seq ?_
        refine w_region ?_
        refine l_pint rfl rfl ?_
        refine l_nil ?_
        refine w_block ?_
        refine w_loopG (G := Unit) [2, 5, 58, 59, 60, 61, 62, 63, 64, 65, 66, 67, 68, 69, 70, 71, 72, 73, 74, 75, 76, 77, 78, 79, 80, 81, 82] (fun _ => [(5, .int .i64 0)]) (fun m _ w => m = 0 ∧ St W w (givenL b ga gs F)) (fun _ => rfl) ?_ ?_
        · exact ⟨0, (), ⟨rfl, trivial⟩, rfl, H⟩
        · rintro m _ ρ1 w ⟨_, H⟩
          refine w_seq ?_
          refine w_seq ?_
          refine w_region ?_
          refine l_pint rfl rfl ?_
          refine l_pptr rfl rfl ?_
          refine l_pptr rfl rfl ?_
          refine l_v rfl (q_fieldAddr rfl fo29_6 rfl) ?_
          refine l_v rfl (q_load1 rfl c1_26 rfl (by first | exact H.cell 0 rfl rfl)) ?_
          refine l_v rfl (q_lenSlice rfl el_26 rfl) ?_
          refine l_pbool rfl rfl ?_
          refine l_nil ?_
          refine w_cond_f rfl ?_
          refine w_exit ?_
          refine w_seq ?_
          refine w_seq ?_
          refine w_region ?_
          refine l_pint rfl rfl ?_
          refine l_nil ?_
          refine w_block ?_
          refine w_loopG (G := Unit) [2, 6, 83, 84, 85, 86, 87, 88, 89, 90, 91, 92, 93, 94, 95, 96, 97, 98, 99, 100, 101, 102, 103, 104, 105, 106, 107] (fun _ => [(6, .int .i64 0)]) (fun m _ w => m = 0 ∧ St W w (givenL b ga gs F)) (fun _ => rfl) ?_ ?_
          · exact ⟨0, (), ⟨rfl, trivial⟩, rfl, H⟩
          · rintro m _ ρ1 w ⟨_, H⟩
            refine w_seq ?_
            refine w_seq ?_
            refine w_region ?_
            refine l_pint rfl rfl ?_
            refine l_pptr rfl rfl ?_
            refine l_pptr rfl rfl ?_
            refine l_v rfl (q_fieldAddr rfl fo29_2 rfl) ?_
            refine l_v rfl (q_load1 rfl c1_24 rfl (by first | exact H.cell 0 rfl rfl)) ?_
            refine l_v rfl (q_lenSlice rfl el_24 rfl) ?_
            refine l_pbool rfl rfl ?_
            refine l_nil ?_
            refine w_cond_f rfl ?_
            refine w_exit ?_
            refine w_seq ?_
            refine w_seq ?_
            refine w_region ?_
            refine l_pint rfl rfl ?_
            refine l_nil ?_
            refine w_block ?_
            refine w_loopG (G := Unit) [2, 7, 108, 109, 110, 111, 112, 113, 114, 115, 116, 117, 118, 119, 120, 121, 122, 123, 124, 125, 126, 127, 128, 129, 130, 131, 132] (fun _ => [(7, .int .i64 0)]) (fun m _ w => m = 0 ∧ St W w (givenL b ga gs F)) (fun _ => rfl) ?_ ?_
            · exact ⟨0, (), ⟨rfl, trivial⟩, rfl, H⟩
            · rintro m _ ρ1 w ⟨_, H⟩
              refine w_seq ?_
              refine w_seq ?_
              refine w_region ?_
              refine l_pint rfl rfl ?_
              refine l_pptr rfl rfl ?_
              refine l_pptr rfl rfl ?_
              refine l_v rfl (q_fieldAddr rfl fo29_4 rfl) ?_
              refine l_v rfl (q_load1 rfl c1_25 rfl (by first | exact H.cell 0 rfl rfl)) ?_
              refine l_v rfl (q_lenSlice rfl el_25 rfl) ?_
              refine l_pbool rfl rfl ?_
              refine l_nil ?_
              refine w_cond_f rfl ?_
              refine w_exit ?_
              refine w_seq ?_
              refine w_region ?_
              refine l_pbool rfl rfl ?_
              refine l_nil ?_
              refine w_ret ?_
              refine fin1 (v := .bool _) rfl ?_
              exact ⟨rfl, H⟩

end Go.Proofs.Ytcmmbjplekgihaa
