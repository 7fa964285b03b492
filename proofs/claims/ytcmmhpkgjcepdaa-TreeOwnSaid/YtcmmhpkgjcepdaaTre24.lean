/- The law TreeHeads answers true, of every log, any two digests, any entry. -/
import Derived.Test.YtcmmhpkgjcepdaaTre23
namespace Go.Proofs.Ytcmmhpkgjcepdaa
open Go.EW
attribute [local irreducible] EW.W EW.L EW.fin block8 outB shaL
set_option linter.unusedVariables false
set_option linter.unusedSimpArgs false
attribute [local irreducible] swp headH leafH nodeH inclN sidesN bothN lenN splitN upN incdR extR pathV
set_option maxRecDepth 8000 in
theorem Intact_ok {W w : World} {F : List Seg} {b : Nat} {o1 o2 a1 a2 : Option Addr} {c1 c2 p1 p2 : Nat} {es : List Ent} (H : St W w (givenE b o1 o2 a1 a2 c1 c2 p1 p2 es F)) (hn : es.length ≤ 140737488355000) :
    Ok Try.prog 21 [.pointer (some ⟨b, 0, none⟩)].toArray w (fun v w' => v = .bool true ∧ St W w' (givenE b o1 o2 a1 a2 c1 c2 p1 p2 es F)) := by
  have hb1 := (H.rowInv (i := 3) rfl).2.1
  refine enter (n := 133) (rs := #[.tmp 2]) Try.func21 rfl rfl rfl rfl ?_
  refine w_seq ?_
  refine w_region ?_
  refine l_pbool rfl rfl ?_
  refine l_nil ?_
  refine w_seq ?_
  refine w_seq ?_
  refine w_region ?_
  refine l_pint rfl rfl ?_
  refine l_nil ?_
  refine w_block ?_
  refine w_loopG (G := Unit) [2, 3, 8, 9, 10, 11, 12, 13, 14, 15, 16, 17, 18, 19, 20, 21, 22, 23, 24, 25, 26, 27, 28, 29, 30, 31, 32] (fun _ => [(3, .int .i64 0)]) (fun m _ w => m = 0 ∧ St W w (givenE b o1 o2 a1 a2 c1 c2 p1 p2 es F)) (fun _ => rfl) ?_ ?_
  · exact ⟨0, (), ⟨rfl, trivial⟩, rfl, H⟩
  · rintro m _ ρ1 w ⟨_, H⟩
    refine w_seq ?_
    refine w_seq ?_
    refine w_region ?_
    refine l_pint rfl rfl ?_
    refine l_pptr rfl rfl ?_
    refine l_pptr rfl rfl ?_
    refine l_v rfl (q_fieldAddr rfl fo35_0 rfl) ?_
    refine l_v rfl (q_load1 rfl c1_29 rfl (by first | exact H.cell 0 rfl rfl)) ?_
    refine l_v rfl (q_lenSlice rfl el_29 rfl) ?_
    refine l_pbool rfl rfl ?_
    refine l_nil ?_
    refine w_cond_f rfl ?_
    refine w_exit ?_
    refine w_seq ?_
    refine w_seq ?_
    refine w_region ?_
    refine l_pint rfl rfl ?_
    refine l_nil ?_
    refine w_block ?_
    refine w_loopG (G := Unit) [2, 4, 33, 34, 35, 36, 37, 38, 39, 40, 41, 42, 43, 44, 45, 46, 47, 48, 49, 50, 51, 52, 53, 54, 55, 56, 57] (fun _ => [(4, .int .i64 0)]) (fun m _ w => m = 0 ∧ St W w (givenE b o1 o2 a1 a2 c1 c2 p1 p2 es F)) (fun _ => rfl) ?_ ?_
    · exact ⟨0, (), ⟨rfl, trivial⟩, rfl, H⟩
    · rintro m _ ρ1 w ⟨_, H⟩
      refine w_seq ?_
      refine w_seq ?_
      refine w_region ?_
      refine l_pint rfl rfl ?_
      refine l_pptr rfl rfl ?_
      refine l_pptr rfl rfl ?_
      refine l_v rfl (q_fieldAddr rfl fo35_8 rfl) ?_
      refine l_v rfl (q_load1 rfl c1_33 rfl (by first | exact H.cell 0 rfl rfl)) ?_
      refine l_v rfl (q_lenSlice rfl el_33 rfl) ?_
      refine l_pbool rfl rfl ?_
      refine l_nil ?_
      refine w_cond_f rfl ?_
      refine w_exit ?_
      refine w_seq ?_
      refine w_seq ?_
      refine w_region ?_
      refine l_pint rfl rfl ?_
      refine l_nil ?_
      refine w_block ?_
      refine w_loopG (G := Unit) [2, 5, 58, 59, 60, 61, 62, 63, 64, 65, 66, 67, 68, 69, 70, 71, 72, 73, 74, 75, 76, 77, 78, 79, 80, 81, 82] (fun _ => [(5, .int .i64 0)]) (fun m _ w => m = 0 ∧ St W w (givenE b o1 o2 a1 a2 c1 c2 p1 p2 es F)) (fun _ => rfl) ?_ ?_
      · exact ⟨0, (), ⟨rfl, trivial⟩, rfl, H⟩
      · rintro m _ ρ1 w ⟨_, H⟩
        refine w_seq ?_
        refine w_seq ?_
        refine w_region ?_
        refine l_pint rfl rfl ?_
        refine l_pptr rfl rfl ?_
        refine l_pptr rfl rfl ?_
        refine l_v rfl (q_fieldAddr rfl fo35_6 rfl) ?_
        refine l_v rfl (q_load1 rfl c1_32 rfl (by first | exact H.cell 0 rfl rfl)) ?_
        refine l_v rfl (q_lenSlice rfl el_32 rfl) ?_
        refine l_pbool rfl rfl ?_
        refine l_nil ?_
        refine w_cond_f rfl ?_
        refine w_exit ?_
        refine w_seq ?_
        refine w_seq ?_
        refine w_region ?_
        refine l_pint rfl rfl ?_
        refine l_nil ?_
        refine w_block ?_
        refine w_loopG (G := Unit) [2, 6, 83, 84, 85, 86, 87, 88, 89, 90, 91, 92, 93, 94, 95, 96, 97, 98, 99, 100, 101, 102, 103, 104, 105, 106, 107] (fun _ => [(6, .int .i64 0)]) (fun m _ w => m = 0 ∧ St W w (givenE b o1 o2 a1 a2 c1 c2 p1 p2 es F)) (fun _ => rfl) ?_ ?_
        · exact ⟨0, (), ⟨rfl, trivial⟩, rfl, H⟩
        · rintro m _ ρ1 w ⟨_, H⟩
          refine w_seq ?_
          refine w_seq ?_
          refine w_region ?_
          refine l_pint rfl rfl ?_
          refine l_pptr rfl rfl ?_
          refine l_pptr rfl rfl ?_
          refine l_v rfl (q_fieldAddr rfl fo35_2 rfl) ?_
          refine l_v rfl (q_load1 rfl c1_30 rfl (by first | exact H.cell 0 rfl rfl)) ?_
          refine l_v rfl (q_lenSlice rfl el_30 rfl) ?_
          refine l_pbool rfl rfl ?_
          refine l_nil ?_
          refine w_cond_f rfl ?_
          refine w_exit ?_
          refine w_seq ?_
          refine w_seq ?_
          refine w_region ?_
          refine l_pint rfl rfl ?_
          refine l_nil ?_
          refine w_block ?_
          refine w_loopG (G := Nat) [2, 7, 108, 109, 110, 111, 112, 113, 114, 115, 116, 117, 118, 119, 120, 121, 122, 123, 124, 125, 126, 127, 128, 129, 130, 131, 132] (fun i => [(7, .int .i64 ((i : Nat) : Int))]) (fun m i w => m + i = 1 ∧ St W w (givenE b o1 o2 a1 a2 c1 c2 p1 p2 es F)) (fun _ => rfl) ?_ ?_
          · exact ⟨1, 0, ⟨rfl, trivial⟩, by omega, H⟩
          · rintro m i ρ1 w ⟨hmi, H⟩
            refine w_seq ?_
            refine w_seq ?_
            refine w_region ?_
            refine l_pint rfl rfl ?_
            refine l_pptr rfl rfl ?_
            refine l_pptr rfl rfl ?_
            refine l_v rfl (q_fieldAddr rfl fo35_4 rfl) ?_
            refine l_v rfl (q_load1 rfl c1_31 rfl (by first | exact H.cell 0 rfl rfl)) ?_
            refine l_v rfl (q_lenSlice rfl el_31 rfl) ?_
            refine l_pbool rfl rfl ?_
            refine l_nil ?_
            refine w_cond rfl (fun c1 => ?_) (fun c1 => ?_)
            · try simp only [decide_eq_true_eq, decide_eq_false_iff_not, Bool.not_eq_true', Bool.not_eq_false', beq_iff_eq, beq_eq_false_iff_ne, bne_iff_ne, bne_eq_false_iff_eq, ne_eq, Int.not_lt, Int.not_le] at c1
              obtain rfl : i = 0 := by omega
              obtain ⟨bo, hao, _⟩ := row_addr H (i := 1) (k := 0) rfl rfl
              obtain ⟨bc, hac, _⟩ := row_addr H (i := 2) (k := 0) rfl rfl
              refine w_skip ?_
              refine w_seq ?_
              refine w_block ?_
              refine w_seq ?_
              refine w_drawT [14] [3, 6, 10, 13] [(0, 0), (1, 0), (2, 0), (3, 1), (4, 0), (5, 0), (6, 1), (7, 0), (8, 0), (9, 0), (10, 1), (11, 0), (12, 0), (13, 1), (14, 2), (15, 0)] mixed (by kernel_rfl) (fun _ _ _ h => fin_panic h) H (fun H => ?_)
              refine r_pptr rfl rfl rfl ?_
              refine r_pptr rfl rfl rfl ?_
              refine r_w rfl rfl (fun w => q_fieldAddr rfl fo35_4 rfl) ?_
              refine r_v rfl rfl (fun w hS => q_load1 rfl c1_31 rfl (by first | exact hS.cell 0 rfl rfl)) ?_
              refine r_pint rfl rfl rfl ?_
              refine r_w rfl rfl (fun w => q_indexSliceE 0 rfl el_31 rfl hao rfl rfl (by omega)) ?_
              refine r_v rfl rfl (fun w hS => q_load1 rfl c1_22 rfl (rd_at hao ((hS.rowInv (i := 1) rfl).2.2.2.2) rfl)) ?_
              refine r_pptr rfl rfl rfl ?_
              refine r_pptr rfl rfl rfl ?_
              refine r_w rfl rfl (fun w => q_fieldAddr rfl fo35_5 rfl) ?_
              refine r_v rfl rfl (fun w hS => q_load1 rfl c1_31 rfl (by first | exact hS.cell 0 rfl rfl)) ?_
              refine r_pint rfl rfl rfl ?_
              refine r_w rfl rfl (fun w => q_indexSliceE 0 rfl el_31 rfl hac rfl rfl (by omega)) ?_
              refine r_v rfl rfl (fun w hS => q_load1 rfl c1_22 rfl (rd_at hac ((hS.rowInv (i := 2) rfl).2.2.2.2) rfl)) ?_
              refine r_do rfl ?_
              refine b_call rfl cb_63 rfl (SameEntries_ok H (es := es ++ [markE]) (RdIn.row 3 rfl) (RdIn.row 4 rfl) (by simp) (by omega)) (fun v w hv => ?_)
              obtain ⟨rfl, H⟩ := hv
              refine l_nil ⟨(fun h => nomatch h), ?_⟩
              refine r_pbool rfl rfl rfl ?_
              refine r_nil ?_
              refine w_cond_f rfl ?_
              refine w_skip ?_
              refine w_region ?_
              refine l_pint rfl rfl ?_
              first | refine l_v rfl (q_add rfl rfl rfl (by simp only [inK]; omega)) ?_ | refine l_pint rfl rfl ?_
              refine l_pint rfl rfl ?_
              refine l_nil ?_
              refine ⟨by repeat' first | exact Agr.mix _ _ _ | exact Agr.refl _ _ | refine Agr.inner rfl ?_ | refine Agr.upd rfl ?_ | refine Agr.updL' rfl ?_, ?_⟩
              exact ⟨m - 1, 1, by omega, ⟨rfl, trivial⟩, by omega, H⟩
            · try simp only [decide_eq_true_eq, decide_eq_false_iff_not, Bool.not_eq_true', Bool.not_eq_false', beq_iff_eq, beq_eq_false_iff_ne, bne_iff_ne, bne_eq_false_iff_eq, ne_eq, Int.not_lt, Int.not_le] at c1
              refine w_exit ?_
              refine w_seq ?_
              refine w_region ?_
              refine l_pbool rfl rfl ?_
              refine l_nil ?_
              refine w_ret ?_
              refine fin1 (v := .bool _) rfl ?_
              exact ⟨rfl, H⟩

theorem rdin_mark {W : World} {F : List Seg} {a : Option Addr} {es : List Ent} {x : Ent} (h : RdIn W F a (entsV (es ++ [x]))) : RdIn W F a (entsV es) := by
  have := rdin_take5 h es.length 0
  rw [subA_z, List.take_left] at this
  exact this

set_option maxRecDepth 8000 in
set_option maxHeartbeats 1000000 in
theorem TreeHeads_ok {W w : World} {F : List Seg} (H : St W w F) {pa : Option Addr} {n pc : Nat} {es : List Ent} (hr : RdIn W F pa (entsV es)) (hl : es.length = n) (hc : n ≤ pc) (hn : n * 48 ≤ 140737488351232) (hok : EntsOk es) {x y : List UInt8} (hx : x.length = 32) (hy : y.length = 32) (e : Ent) (hva : e.va.size ≤ 140737488351232) :
    Ok Try.prog 3 [.slice pa n pc, .agg (x.map B).toArray, .agg (y.map B).toArray, .agg e.cells.toArray].toArray w (fun r w' => r = .bool true ∧ ∃ S, St W w' S) := by
  refine enter (n := 38) (rs := #[.tmp 8]) Try.func3 rfl rfl rfl rfl ?_
  refine w_seq ?_
  refine w_region ?_
  refine b_box rfl rfl rfl H (fun b5 w H => ?_)
  refine b_box rfl rfl rfl H (fun b6 w H => ?_)
  refine b_box rfl rfl rfl H (fun b7 w H => ?_)
  refine l_pbool rfl rfl ?_
  refine l_nil ?_
  refine w_seq ?_
  refine w_region ?_
  refine b_alloc rfl ze_35 rfl H (fun b9 w H => ?_)
  refine l_nil ?_
  refine w_seq ?_
  refine w_drawX [] [7, 8, 10, 11, 16, 18] 1 [(0, 0), (3, 0), (1, 2), (2, 2), (4, 2), (5, 0), (6, 0), (7, 1), (8, 1), (10, 1), (11, 1), (9, 2), (12, 2), (13, 0), (14, 0), (15, 0), (16, 1), (18, 1), (17, 2), (19, 2), (20, 0), (21, 0), (22, 0), (23, 2), (24, 0), (25, 0), (26, 2), (27, 0), (28, 0)] mixed (by kernel_rfl) (fun _ _ _ h => fin_panic h) H (fun H => ?_)
  refine r_pslice rfl rfl rfl ?_
  refine r_pslice rfl rfl rfl ?_
  refine r_do rfl ?_
  refine b_call rfl cb_15 rfl (Entries_ok H (hr.up 3 rfl) hl (by omega)) (fun v w hv => ?_)
  obtain ⟨o1, o2, a1, a2, c1, c2, p1, p2, rfl, H⟩ := hv
  have hp1 := (H.rowInv (i := 3) rfl).2.1
  refine l_nil ⟨fun _ _ => Sx.tl H 5 rfl, ?_⟩
  refine r_do rfl ?_
  refine b_call rfl cb_14 rfl (Head_ok n H (rdin_mark (RdIn.row 3 rfl)) hl (by omega) hok rfl (by omega)) (fun v w hv => ?_)
  obtain ⟨rfl, H⟩ := hv
  refine l_nil ⟨fun _ _ => Sx.tl H 5 rfl, ?_⟩
  refine r_do rfl ?_
  refine b_call rfl cb_16 rfl (rHead_ok n H (hr.up 8 rfl) hl hc hok rfl (by omega)) (fun v w hv => ?_)
  obtain ⟨rfl, H⟩ := hv
  refine l_nil ⟨fun _ _ => Sx.tl H 5 rfl, ?_⟩
  refine r_w rfl rfl (fun w => q_eqlHash rfl rfl rfl (headH_len _) (headH_len _)) ?_
  refine r_pbool rfl rfl rfl ?_
  refine r_split 16 rfl (fun h16 => ?_) (fun h16 => absurd h16 (by simp))
  try simp only [decide_eq_true_eq, decide_eq_false_iff_not, Bool.not_eq_true', Bool.not_eq_false', beq_iff_eq, beq_eq_false_iff_ne, bne_iff_ne, bne_eq_false_iff_eq, ne_eq, Int.not_lt, Int.not_le] at h16
  refine r_v rfl rfl (fun w hS => q_loadN (vs := x.map B) rfl ag_24 rfl (by simp [hx]) (hS.cells 2 rfl)) ?_
  refine r_v rfl rfl (fun w hS => q_loadN (vs := y.map B) rfl ag_24 rfl (by simp [hy]) (hS.cells 1 rfl)) ?_
  refine r_v rfl rfl (fun w hS => q_loadN (vs := x.map B) rfl ag_24 rfl (by simp [hx]) (hS.cells 2 rfl)) ?_
  refine r_v rfl rfl (fun w hS => q_loadN (vs := y.map B) rfl ag_24 rfl (by simp [hy]) (hS.cells 1 rfl)) ?_
  refine r_do rfl ?_
  refine b_call rfl cb_17 rfl (Node_ok H hx hy) (fun v w hv => ?_)
  obtain ⟨rfl, H⟩ := hv
  refine l_nil ⟨fun _ _ => Sx.tl H 5 rfl, ?_⟩
  refine r_do rfl ?_
  refine b_call rfl cb_18 rfl (rNode_ok H hx hy) (fun v w hv => ?_)
  obtain ⟨rfl, H⟩ := hv
  refine l_nil ⟨fun _ _ => Sx.tl H 5 rfl, ?_⟩
  refine r_w rfl rfl (fun w => q_eqlHash rfl rfl rfl (nodeH_len _ _) (nodeH_len _ _)) ?_
  refine r_pickT (v := .bool _) rfl rfl rfl rfl ?_
  refine r_pbool rfl rfl rfl ?_
  refine r_split 25 rfl (fun h25 => ?_) (fun h25 => absurd h25 (by simp))
  try simp only [decide_eq_true_eq, decide_eq_false_iff_not, Bool.not_eq_true', Bool.not_eq_false', beq_iff_eq, beq_eq_false_iff_ne, bne_iff_ne, bne_eq_false_iff_eq, ne_eq, Int.not_lt, Int.not_le] at h25
  refine r_v rfl rfl (fun w hS => q_loadN (vs := e.cells) rfl ag_28 rfl rfl (hS.cells 0 rfl)) ?_
  refine r_v rfl rfl (fun w hS => q_loadN (vs := e.cells) rfl ag_28 rfl rfl (hS.cells 0 rfl)) ?_
  refine r_do rfl ?_
  refine b_call rfl cb_19 rfl (Leaf_ok H e hva) (fun v w hv => ?_)
  obtain ⟨rfl, H⟩ := hv
  refine l_nil ⟨fun _ _ => Sx.tl H 5 rfl, ?_⟩
  refine r_do rfl ?_
  refine b_call rfl cb_20 rfl (rLeaf_ok H e hva) (fun v w hv => ?_)
  obtain ⟨rfl, H⟩ := hv
  refine l_nil ⟨fun _ _ => Sx.tl H 5 rfl, ?_⟩
  refine r_w rfl rfl (fun w => q_eqlHash rfl rfl rfl (leafH_len _) (leafH_len _)) ?_
  refine r_pickT (v := .bool _) rfl rfl rfl rfl ?_
  refine r_pbool rfl rfl rfl ?_
  refine r_split 32 rfl (fun h32 => ?_) (fun h32 => absurd h32 (by simp))
  try simp only [decide_eq_true_eq, decide_eq_false_iff_not, Bool.not_eq_true', Bool.not_eq_false', beq_iff_eq, beq_eq_false_iff_ne, bne_iff_ne, bne_eq_false_iff_eq, ne_eq, Int.not_lt, Int.not_le] at h32
  refine r_do rfl ?_
  refine b_call rfl cb_21 rfl (Intact_ok H (by omega)) (fun v w hv => ?_)
  obtain ⟨rfl, H⟩ := hv
  refine l_nil ⟨fun _ _ => Sx.tl H 5 rfl, ?_⟩
  refine r_pickT (v := .bool _) rfl rfl rfl rfl ?_
  refine r_pbool rfl rfl rfl ?_
  refine r_split 35 rfl (fun h35 => ?_) (fun h35 => absurd h35 (by simp))
  try simp only [decide_eq_true_eq, decide_eq_false_iff_not, Bool.not_eq_true', Bool.not_eq_false', beq_iff_eq, beq_eq_false_iff_ne, bne_iff_ne, bne_eq_false_iff_eq, ne_eq, Int.not_lt, Int.not_le] at h35
  refine r_do rfl ?_
  refine b_call rfl cb_22 rfl (works_ok H) (fun v w hv => ?_)
  obtain ⟨rfl, H⟩ := hv
  refine l_nil ⟨fun _ _ => Sx.tl H 5 rfl, ?_⟩
  refine r_pickT (v := .bool _) rfl rfl rfl rfl ?_
  refine r_pbool rfl rfl rfl ?_
  refine r_nil ?_
  refine w_ret ?_
  refine fin1 (v := .bool _) rfl ?_
  exact ⟨congrArg Value.bool (by simp), _, H⟩

end Go.Proofs.Ytcmmhpkgjcepdaa
