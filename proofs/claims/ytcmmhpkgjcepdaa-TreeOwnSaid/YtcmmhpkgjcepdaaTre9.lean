/- The laws' helper works answers true. -/
import Derived.Test.YtcmmhpkgjcepdaaTreW
namespace Go.Proofs.Ytcmmhpkgjcepdaa
open Go.EW
attribute [local irreducible] EW.W EW.L EW.fin block8 outB shaL
set_option linter.unusedVariables false
set_option linter.unusedSimpArgs false
attribute [local irreducible] swp headH leafH nodeH inclN sidesN bothN lenN incR incdR extR

theorem incR_ok (es : List Ent) (x : Int) : PathOk (incR es x).1 ∧ (incR es x).1.length ≤ es.length := by
  unfold incR
  split
  · exact ⟨(fun h hh => absurd hh (by simp)), Nat.zero_le _⟩
  · exact inclN_ok _ _
theorem three_ok : EntsOk three := fun e he => by
  rcases List.mem_cons.1 he with rfl | he
  · decide
  · rcases List.mem_cons.1 he with rfl | he
    · decide
    · obtain rfl := List.mem_singleton.1 he; decide

theorem entry_ok {W w : World} {F : List Seg} (H : St W w F) {n : Nat} (hn : n ≤ 200) :
    Ok Try.prog 64 [.int .i64 (n : Int)].toArray w (fun r w' => r = .agg (entN n).cells.toArray ∧ St W w' F) := by
  refine enter (n := 13) (rs := #[.cell 2 28]) Try.func64 rfl rfl rfl rfl ?_
  refine w_seq ?_
  refine w_region ?_
  refine b_alloc rfl ze_28 rfl H (fun b2 w H => ?_)
  refine l_nil ?_
  refine w_seq ?_
  refine w_region ?_
  refine l_pint rfl rfl ?_
  refine l_v rfl (q_rem (k := .i64) (a := ((n : Nat) : Int)) (b := 16) rfl rfl rfl (by omega)) ?_
  refine l_pint rfl rfl ?_
  first | refine l_v rfl (q_add rfl rfl rfl (by simp only [inK]; omega)) ?_ | refine l_pint rfl rfl ?_
  refine l_pint rfl rfl ?_
  refine l_v rfl (q_lowN (M := n) rfl (by kernel_rfl) in_5 rfl) ?_
  refine b_buildSlice (cs := [B (UInt8.ofNat n)]) rfl el_90 ze_5 rfl rfl rfl H (fun b9 w H => ?_)
  refine l_v rfl (q_bytesStr (bs := [UInt8.ofNat n]) rfl by_90 st_9 rfl (Rd.mk (H.cells0 0 rfl)) rfl) ?_
  refine l_v rfl (q_build (cs := [.int .i64 2, .int .i64 0, .string ⟨#[UInt8.ofNat n]⟩]) rfl sp_26 rfl) ?_
  refine l_v rfl (q_build (cs := (entN n).cells) rfl sp_28 (by rw [show ((n : Int).tmod 16) = ((n % 16 : Nat) : Int) from tmodN n 16]; rfl)) ?_
  refine b_store (vs := (entN n).cells) (cs' := (entN n).cells) rfl sz_28 rfl rfl rfl rfl rfl H 1 rfl rfl rfl (fun w H => ?_)
  refine l_nil ?_
  refine w_ret ?_
  refine finc (vs := (entN n).cells) rfl ag_28 rfl (by first | exact H.cells 0 rfl | exact H.cells 1 rfl | exact H.cells 2 rfl) ?_
  exact ⟨rfl, (H.erase 0).erase 0⟩

set_option maxRecDepth 8000 in
set_option maxHeartbeats 1000000 in
theorem works_ok {W w : World} {F : List Seg} (H : St W w F) :
    Ok Try.prog 22 [].toArray w (fun r w' => r = .bool true ∧ St W w' F) := by
  have hn0 : ((shaL [])[0]?.getD 0) = 227 := by have := w_none.1; rwa [List.getD_eq_getElem?_getD] at this
  have hn1 : ((shaL [])[31]?.getD 0) = 85 := by have := w_none.2; rwa [List.getD_eq_getElem?_getD] at this
  refine enter (n := 59) (rs := #[.tmp 0]) Try.func22 rfl rfl rfl rfl ?_
  refine w_seq ?_
  refine w_region ?_
  refine l_pbool rfl rfl ?_
  refine l_nil ?_
  refine w_seq ?_
  refine w_region ?_
  refine b_call rfl cb_64 rfl (entry_ok H (n := 1) (by decide)) (fun v w hv => ?_)
  obtain ⟨rfl, H⟩ := hv
  refine b_call rfl cb_64 rfl (entry_ok H (n := 2) (by decide)) (fun v w hv => ?_)
  obtain ⟨rfl, H⟩ := hv
  refine b_call rfl cb_64 rfl (entry_ok H (n := 3) (by decide)) (fun v w hv => ?_)
  obtain ⟨rfl, H⟩ := hv
  refine b_buildSlice (cs := entsV three) rfl el_22 ze_28 rfl rfl rfl H (fun b9 w H => ?_)
  refine l_pslice rfl rfl ?_
  refine l_nil ?_
  refine w_seq ?_
  refine w_region ?_
  refine l_pslice rfl rfl ?_
  refine b_call rfl cb_14 rfl (Head_ok 3 H (n := 3) (es := three) (RdIn.blk0 0 rfl) rfl (by decide) three_ok rfl (by decide)) (fun v w hv => ?_)
  obtain ⟨rfl, H⟩ := hv
  refine b_alloc rfl ze_24 rfl H (fun b2 w H => ?_)
  refine b_store (vs := (headH three).map B) rfl sz_24 rfl rfl rfl (by simp [headH_len]) (all1 _) H 0 rfl (by simp [headH_len]) (putL_all (by simp [headH_len])) (fun w H => ?_)
  refine l_nil ?_
  refine w_seq ?_
  refine w_region ?_
  refine l_pslice rfl rfl ?_
  refine b_call rfl cb_31 rfl (Inclusion_ok H (n := 3) (es := three) (RdIn.blk0 1 rfl) rfl (by decide) three_ok (by decide) 2) (fun v w hv => ?_)
  obtain ⟨a14, c14, rfl, H⟩ := hv
  obtain ⟨pth, hpth⟩ : ∃ p, p = (incR three 2).1 := ⟨_, rfl⟩
  refine l_ptup rfl rfl ?_
  refine l_pslice rfl rfl ?_
  refine l_pint rfl rfl ?_
  refine l_pslice rfl rfl ?_
  refine l_pint rfl rfl ?_
  refine l_nil ?_
  refine w_seq ?_
  refine w_region ?_
  refine b_call rfl cb_14 rfl (Head_ok 0 H (n := 0) (es := []) RdIn.nil rfl (by decide) (fun e he => absurd he (by simp)) rfl (by decide)) (fun v w hv => ?_)
  obtain ⟨rfl, H⟩ := hv
  rw [headH_nil]
  refine b_alloc rfl ze_24 rfl H (fun b5 w H => ?_)
  refine b_store (vs := (shaL []).map B) rfl sz_24 rfl rfl rfl (by simp [sha_nil_len]) (all1 _) H 0 rfl (by simp [sha_nil_len]) (putL_all (by simp [sha_nil_len])) (fun w H => ?_)
  refine l_nil ?_
  refine w_seq ?_
  refine w_drawT [] [1, 5, 18, 21, 27, 30, 36, 37] [(0, 0), (1, 1), (2, 0), (3, 0), (4, 0), (5, 1), (6, 0), (7, 0), (8, 0), (9, 0), (10, 0), (11, 0), (12, 0), (13, 0), (14, 0), (15, 0), (16, 0), (17, 0), (18, 1), (19, 0), (20, 0), (21, 1), (22, 0), (23, 2), (24, 0), (25, 0), (26, 0), (27, 1), (28, 0), (29, 0), (30, 1), (31, 0), (32, 2), (33, 0), (34, 0), (35, 0), (36, 1), (37, 1), (38, 2), (39, 0), (40, 0), (41, 0)] mixed (by kernel_rfl) (fun _ _ _ h => fin_panic h) H (fun H => ?_)
  refine r_w rfl rfl (fun w => q_indexArrE 0 rfl ar_24 rfl rfl rfl (by decide)) ?_
  refine r_v rfl rfl (fun w hS => q_load1 rfl c1_5 rfl (arr_cellB (l := shaL []) (hS.cells 0 rfl) (by rw [sha_nil_len]; decide))) ?_
  refine r_pbool rfl rfl rfl ?_
  refine r_pbool rfl rfl rfl ?_
  refine r_split 21 rfl (fun h21 => ?_) (fun h21 => absurd h21 (by first | (simp [hn0]; done) | (simp [hn1]; done) | (simp [B, hn0]; done) | (simp [B, hn1]; done) | (simp [w_none.1]; done) | (simp [w_none.2]; done) | (simp [w_path.1]; done) | (simp [w_path.2]; done) | (simp [w_in]; done) | (simp [w_out]; done) | (simp [B, w_none.1]; done) | (simp [B, w_none.2]; done)))
  try simp only [decide_eq_true_eq, decide_eq_false_iff_not, Bool.not_eq_true', Bool.not_eq_false', beq_iff_eq, beq_eq_false_iff_ne, bne_iff_ne, bne_eq_false_iff_eq, ne_eq, Int.not_lt, Int.not_le] at h21
  refine r_w rfl rfl (fun w => q_indexArrE 31 rfl ar_24 rfl rfl rfl (by decide)) ?_
  refine r_v rfl rfl (fun w hS => q_load1 rfl c1_5 rfl (arr_cellB (l := shaL []) (hS.cells 0 rfl) (by rw [sha_nil_len]; decide))) ?_
  refine r_pbool rfl rfl rfl ?_
  refine r_pickT (v := .bool _) rfl rfl rfl rfl ?_
  refine r_pbool rfl rfl rfl ?_
  refine r_split 26 rfl (fun h26 => ?_) (fun h26 => absurd h26 (by first | (simp [hn0]; done) | (simp [hn1]; done) | (simp [B, hn0]; done) | (simp [B, hn1]; done) | (simp [w_none.1]; done) | (simp [w_none.2]; done) | (simp [w_path.1]; done) | (simp [w_path.2]; done) | (simp [w_in]; done) | (simp [w_out]; done) | (simp [B, w_none.1]; done) | (simp [B, w_none.2]; done)))
  try simp only [decide_eq_true_eq, decide_eq_false_iff_not, Bool.not_eq_true', Bool.not_eq_false', beq_iff_eq, beq_eq_false_iff_ne, bne_iff_ne, bne_eq_false_iff_eq, ne_eq, Int.not_lt, Int.not_le] at h26
  refine r_pint rfl rfl rfl ?_
  refine r_pbool rfl rfl rfl ?_
  refine r_pickT (v := .bool _) rfl rfl rfl rfl ?_
  refine r_pbool rfl rfl rfl ?_
  refine r_split 30 rfl (fun h30 => ?_) (fun h30 => absurd h30 (by first | (simp [hn0]; done) | (simp [hn1]; done) | (simp [B, hn0]; done) | (simp [B, hn1]; done) | (simp [w_none.1]; done) | (simp [w_none.2]; done) | (simp [w_path.1]; done) | (simp [w_path.2]; done) | (simp [w_in]; done) | (simp [w_out]; done) | (simp [B, w_none.1]; done) | (simp [B, w_none.2]; done)))
  try simp only [decide_eq_true_eq, decide_eq_false_iff_not, Bool.not_eq_true', Bool.not_eq_false', beq_iff_eq, beq_eq_false_iff_ne, bne_iff_ne, bne_eq_false_iff_eq, ne_eq, Int.not_lt, Int.not_le] at h30
  refine r_pslice rfl rfl rfl ?_
  refine r_w rfl rfl (fun w => q_lenSlice rfl el_42 rfl) ?_
  refine r_pbool rfl rfl rfl ?_
  refine r_pickT (v := .bool _) rfl rfl rfl rfl ?_
  refine r_pbool rfl rfl rfl ?_
  refine r_split 35 rfl (fun h35 => ?_) (fun h35 => absurd h35 (by first | (simp [hn0]; done) | (simp [hn1]; done) | (simp [B, hn0]; done) | (simp [B, hn1]; done) | (simp [w_none.1]; done) | (simp [w_none.2]; done) | (simp [w_path.1]; done) | (simp [w_path.2]; done) | (simp [w_in]; done) | (simp [w_out]; done) | (simp [B, w_none.1]; done) | (simp [B, w_none.2]; done)))
  try simp only [decide_eq_true_eq, decide_eq_false_iff_not, Bool.not_eq_true', Bool.not_eq_false', beq_iff_eq, beq_eq_false_iff_ne, bne_iff_ne, bne_eq_false_iff_eq, ne_eq, Int.not_lt, Int.not_le] at h35
  refine r_v rfl rfl (fun w hS => q_loadN (vs := (headH three).map B) rfl ag_24 rfl (by simp [headH_len]) (hS.cells 2 rfl)) ?_
  refine r_pslice rfl rfl rfl ?_
  refine r_w rfl rfl (fun w => q_indexSliceE 1 rfl el_22 rfl rfl rfl rfl (by decide)) ?_
  refine r_v rfl rfl (fun w hS => q_loadN (vs := (entN 2).cells) rfl ag_28 rfl rfl ((hS.cells0 3 rfl).sub 5 5)) ?_
  refine r_pslice rfl rfl rfl ?_
  refine r_do rfl ?_
  refine b_call rfl cb_24 rfl (Included_ok H (headH_len _) 3 2 (entN 2) (three_ok _ (by simp [three])) (incR_ok three 2).1 (RdIn.row 1 rfl) (by rw [w_path.2]; decide) (by decide)) (fun v w hv => ?_)
  obtain ⟨rfl, H⟩ := hv
  refine l_nil ⟨fun _ _ => (by first | exact H | exact H.drop1 | exact H.drop1.drop1 | exact H.drop1.drop1.drop1), ?_⟩
  refine r_pbool rfl rfl rfl ?_
  refine r_pickT (v := .bool _) rfl rfl rfl rfl ?_
  refine r_pbool rfl rfl rfl ?_
  refine r_split 44 rfl (fun h44 => ?_) (fun h44 => absurd h44 (by first | (simp [hn0]; done) | (simp [hn1]; done) | (simp [B, hn0]; done) | (simp [B, hn1]; done) | (simp [w_none.1]; done) | (simp [w_none.2]; done) | (simp [w_path.1]; done) | (simp [w_path.2]; done) | (simp [w_in]; done) | (simp [w_out]; done) | (simp [B, w_none.1]; done) | (simp [B, w_none.2]; done)))
  try simp only [decide_eq_true_eq, decide_eq_false_iff_not, Bool.not_eq_true', Bool.not_eq_false', beq_iff_eq, beq_eq_false_iff_ne, bne_iff_ne, bne_eq_false_iff_eq, ne_eq, Int.not_lt, Int.not_le] at h44
  refine r_v rfl rfl (fun w hS => q_loadN (vs := (headH three).map B) rfl ag_24 rfl (by simp [headH_len]) (hS.cells 2 rfl)) ?_
  refine r_pslice rfl rfl rfl ?_
  refine r_w rfl rfl (fun w => q_indexSliceE 2 rfl el_22 rfl rfl rfl rfl (by decide)) ?_
  refine r_v rfl rfl (fun w hS => q_loadN (vs := (entN 3).cells) rfl ag_28 rfl rfl ((hS.cells0 3 rfl).sub 10 5)) ?_
  refine r_pslice rfl rfl rfl ?_
  refine r_do rfl ?_
  refine b_call rfl cb_24 rfl (Included_ok H (headH_len _) 3 2 (entN 3) (three_ok _ (by simp [three])) (incR_ok three 2).1 (RdIn.row 1 rfl) (by rw [w_path.2]; decide) (by decide)) (fun v w hv => ?_)
  obtain ⟨rfl, H⟩ := hv
  refine l_nil ⟨fun _ _ => (by first | exact H | exact H.drop1 | exact H.drop1.drop1 | exact H.drop1.drop1.drop1), ?_⟩
  refine r_pbool rfl rfl rfl ?_
  refine r_pickT (v := .bool _) rfl rfl rfl rfl ?_
  refine r_pbool rfl rfl rfl ?_
  refine r_split 53 rfl (fun h53 => ?_) (fun h53 => absurd h53 (by first | (simp [hn0]; done) | (simp [hn1]; done) | (simp [B, hn0]; done) | (simp [B, hn1]; done) | (simp [w_none.1]; done) | (simp [w_none.2]; done) | (simp [w_path.1]; done) | (simp [w_path.2]; done) | (simp [w_in]; done) | (simp [w_out]; done) | (simp [B, w_none.1]; done) | (simp [B, w_none.2]; done)))
  try simp only [decide_eq_true_eq, decide_eq_false_iff_not, Bool.not_eq_true', Bool.not_eq_false', beq_iff_eq, beq_eq_false_iff_ne, bne_iff_ne, bne_eq_false_iff_eq, ne_eq, Int.not_lt, Int.not_le] at h53
  refine r_v rfl rfl (fun w hS => q_loadN (vs := (headH three).map B) rfl ag_24 rfl (by simp [headH_len]) (hS.cells 2 rfl)) ?_
  refine r_v rfl rfl (fun w hS => q_loadN (vs := (shaL []).map B) rfl ag_24 rfl (by simp [sha_nil_len]) (hS.cells 0 rfl)) ?_
  refine r_do rfl ?_
  refine b_call rfl cb_27 rfl (Extends_ok H (headH_len _) sha_nil_len 3 3 (path := []) (fun h hh => absurd hh (by simp)) RdIn.nil (Nat.le_refl _) (by decide) (by decide)) (fun v w hv => ?_)
  obtain ⟨rfl, H⟩ := hv
  refine l_nil ⟨fun _ _ => (by first | exact H | exact H.drop1 | exact H.drop1.drop1 | exact H.drop1.drop1.drop1), ?_⟩
  refine r_pbool rfl rfl rfl ?_
  refine r_pickT (v := .bool _) rfl rfl rfl rfl ?_
  refine r_pbool rfl rfl rfl ?_
  refine r_nil ?_
  refine w_ret ?_
  refine fin1 (v := .bool _) rfl ?_
  exact ⟨congrArg Value.bool (by rw [w_ext]; rfl), ((((H.erase 0).erase 0).erase 0).erase 0)⟩

end Go.Proofs.Ytcmmhpkgjcepdaa
