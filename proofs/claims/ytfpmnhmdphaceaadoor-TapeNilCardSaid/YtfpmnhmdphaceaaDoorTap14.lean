/- Walks through the tape's functions. -/
import Derived.Test.YtfpmnhmdphaceaaDoorTap13
namespace Go.Proofs.YtfpmnhmdphaceaaDoor
open Go.EW
attribute [local irreducible] EW.W EW.L EW.fin block8 outB shaL
set_option linter.unusedVariables false
set_option linter.unusedSimpArgs false
attribute [local irreducible] crcN crcB crcL

theorem low_0 (s : UInt32) : s.toUInt8 = UInt8.ofNat s.toNat := by
  apply UInt8.toNat_inj.1
  rw [UInt32.toNat_toUInt8, UInt8.toNat_ofNat']
theorem U_of {m : Nat} (h : m < 4294967296) : U (UInt32.ofNat m) = .int .u32 (m : Int) := by
  unfold U
  rw [UInt32.toNat_ofNat', Nat.mod_eq_of_lt (by omega)]
theorem U_toNat {m : Nat} (h : m < 4294967296) : (UInt32.ofNat m).toNat = m := by rw [UInt32.toNat_ofNat', Nat.mod_eq_of_lt (by omega)]
theorem row_blk0 {W w : World} {S : List Seg} {T b n : Nat} {cs : List Value} (hl : cs.length = n) (hn : n ≤ maxLen) (H : St W w (blk0 b cs T :: S)) : St W w (row T 1 (some ⟨b, 0, none⟩) n n cs :: S) :=
  H.imp fun c h => row_of_blk0 h (by rw [hl, Nat.mul_one]) (List.take_of_length_le (Nat.le_refl _)) (by rw [hl, Nat.mul_one]) (Nat.le_refl _) hn

theorem rfour_ok {W w : World} {F : List Seg} (H : St W w F) (s : UInt32) :
    Ok Tryd.prog 134 [U s].toArray w (fun r w' => ∃ b, r = .slice (some ⟨b, 0, none⟩) 4 4 ∧ St W w' (row 5 1 (some ⟨b, 0, none⟩) 4 4 ((be4 s.toNat).map B) :: F)) := by
  refine enter (n := 15) (rs := #[.tmp 2]) Tryd.func134 rfl rfl rfl rfl ?_
  refine w_seq ?_
  refine w_region ?_
  refine l_pslice rfl rfl ?_
  refine l_nil ?_
  refine w_seq ?_
  refine w_region ?_
  first | refine l_p (v := U _) rfl rfl ?_ | refine l_pint rfl rfl ?_
  refine l_v rfl (q_pure (u_shr (a := s) (n := 24) rfl rfl (by decide))) ?_
  refine l_v rfl (q_lowB rfl (by kernel_rfl) in_5 rfl) ?_
  first | refine l_p (v := U _) rfl rfl ?_ | refine l_pint rfl rfl ?_
  refine l_v rfl (q_pure (u_shr (a := s) (n := 16) rfl rfl (by decide))) ?_
  refine l_v rfl (q_lowB rfl (by kernel_rfl) in_5 rfl) ?_
  first | refine l_p (v := U _) rfl rfl ?_ | refine l_pint rfl rfl ?_
  refine l_v rfl (q_pure (u_shr (a := s) (n := 8) rfl rfl (by decide))) ?_
  refine l_v rfl (q_lowB rfl (by kernel_rfl) in_5 rfl) ?_
  first | refine l_p (v := U _) rfl rfl ?_ | refine l_pint rfl rfl ?_
  refine l_v rfl (q_lowB rfl (by kernel_rfl) in_5 rfl) ?_
  refine b_buildSlice (cs := [B (s >>> UInt32.ofNat 24).toUInt8, B (s >>> UInt32.ofNat 16).toUInt8, B (s >>> UInt32.ofNat 8).toUInt8, B s.toUInt8]) rfl el_28 ze_5 rfl rfl rfl H (fun b14 w H => ?_)
  rw [low_shr _ (by decide), low_shr _ (by decide), low_shr _ (by decide), low_0] at H
  refine l_pslice rfl rfl ?_
  refine l_nil ?_
  refine w_ret ?_
  refine fin1 (v := .slice _ _ _) rfl ?_
  exact ⟨b14, rfl, row_blk0 rfl (by decide) H⟩

theorem rfourN_ok {W w : World} {F : List Seg} (H : St W w F) {m : Nat} (hm : m < 4294967296) :
    Ok Tryd.prog 134 [.int .u32 (m : Int)].toArray w (fun r w' => ∃ b, r = .slice (some ⟨b, 0, none⟩) 4 4 ∧ St W w' (row 5 1 (some ⟨b, 0, none⟩) 4 4 ((be4 m).map B) :: F)) := by
  have h := rfour_ok H (UInt32.ofNat m)
  rw [U_of hm, U_toNat hm] at h
  exact h

theorem rSeal_ok {W w : World} {F : List Seg} (H : St W w F) {a : Option Addr} {n c : Nat} {bs : List UInt8} (hr : RdIn W F a (bs.map B)) (hl : bs.length = n) (hn : n ≤ 140737488355328) :
    Ok Tryd.prog 114 [.slice a n c].toArray w (fun r w' => ∃ a' c', r = .tuple #[.slice a' (sealR bs).1.length c', I ((sealR bs).2 : Int)] ∧ St W w' (row 5 1 a' (sealR bs).1.length c' ((sealR bs).1.map B) :: F)) := by
  subst hl
  refine enter (n := 39) (rs := #[.tmp 2, .tmp 3]) Tryd.func114 rfl rfl rfl rfl ?_
  refine w_seq ?_
  refine w_region ?_
  refine l_pslice rfl rfl ?_
  refine l_pint rfl rfl ?_
  refine l_nil ?_
  refine w_seq ?_
  refine w_seq ?_
  refine w_region ?_
  refine l_pslice rfl rfl ?_
  refine l_v rfl (q_lenSlice rfl el_28 rfl) ?_
  refine l_pbool rfl rfl ?_
  refine l_nil ?_
  refine w_cond rfl (fun c1 => ?_) (fun c1 => ?_)
  · try simp only [sH] at c1
    refine w_seq ?_
    refine w_region ?_
    refine l_pslice rfl rfl ?_
    refine l_pint rfl rfl ?_
    refine l_nil ?_
    refine w_ret ?_
    refine fin2 rfl rfl ?_
    rw [sealR_long (by omega)]
    exact ⟨none, 0, rfl, St.newRow H⟩
  · try simp only [sH] at c1
    refine w_skip ?_
    refine w_seq ?_
    refine w_region ?_
    refine l_pslice rfl rfl ?_
    refine l_nil ?_
    refine w_seq ?_
    refine w_region ?_
    refine l_pslice rfl rfl ?_
    refine b_buildSlice (cs := magicL.map B) rfl el_28 ze_5 rfl rfl rfl H (fun b10 w H => ?_)
    refine b_append rfl el_28 ze_5 rfl rfl rfl (St.newRow (T := 5) (sz := 1) H) 0 rfl (ys := magicL.map B) (Rd.mk (H.cells0 0 rfl)) rfl (EW.oneB _) ⟨by decide, by decide⟩ (fun a11 c11 w H => ?_)
    have H : St W w (row 5 1 a11 (4) c11 ((magicL).map B) :: F) := H.erase 1
    refine l_pslice rfl rfl ?_
    refine l_nil ?_
    refine w_seq ?_
    refine w_region ?_
    refine l_pslice rfl rfl ?_
    refine l_pslice rfl rfl ?_
    refine l_v rfl (q_lenSlice rfl el_28 rfl) ?_
    refine l_v rfl (q_convIntIn rfl (by kernel_rfl) in_235 rfl (by simp only [inK]; omega)) ?_
    refine b_call rfl cb_134 rfl (rfourN_ok H (m := bs.length) (by omega)) (fun v w hv => ?_)
    obtain ⟨b16, rfl, H⟩ := hv
    refine b_append rfl el_28 ze_5 rfl rfl rfl H 1 rfl (ys := (be4 bs.length).map B) (H.rowInv (i := 0) rfl).2.2.2.2 rfl (EW.oneB _) ⟨by decide, by decide⟩ (fun a17 c17 w H => ?_)
    have H : St W w (row 5 1 a17 (8) c17 ((magicL ++ be4 bs.length).map B) :: F) := H.drop1
    refine l_pslice rfl rfl ?_
    refine l_nil ?_
    refine w_seq ?_
    refine w_region ?_
    refine l_pslice rfl rfl ?_
    refine l_pslice rfl rfl ?_
    refine b_append rfl el_28 ze_5 rfl rfl rfl H 0 rfl (ys := bs.map B) (hr.use H 1 rfl) (by simp) (EW.oneB _) ⟨by omega, by simp only [maxLen]; omega⟩ (fun a20 c20 w H => ?_)
    have H : St W w (row 5 1 a20 (8 + bs.length) c20 ((frmL bs).map B) :: F) := by
      rw [← List.map_append] at H
      exact H
    refine l_pslice rfl rfl ?_
    refine l_nil ?_
    refine w_seq ?_
    refine w_region ?_
    refine l_pslice rfl rfl ?_
    refine b_call rfl cb_135 rfl (rCrc_ok (bs := frmL bs) H (RdIn.row 0 rfl) (frm_len bs) (by omega)) (fun v w hv => ?_)
    obtain ⟨rfl, H⟩ := hv
    refine b_call rfl cb_134 rfl (rfour_ok H (crcL (frmL bs))) (fun v w hv => ?_)
    obtain ⟨b23, rfl, H⟩ := hv
    refine l_pslice rfl rfl ?_
    refine l_nil ?_
    refine w_seq ?_
    refine w_drawT [13, 14] [3, 6, 9, 12] [(0, 0), (1, 0), (2, 0), (3, 1), (4, 0), (5, 0), (6, 1), (7, 0), (8, 0), (9, 1), (10, 0), (11, 0), (12, 1), (13, 2), (14, 2), (15, 0), (16, 0)] mixed (by kernel_rfl) (fun _ _ _ h => fin_panic h) H (fun H => ?_)
    refine r_pslice rfl rfl rfl ?_
    refine r_pslice rfl rfl rfl ?_
    first | refine r_w rfl rfl (fun w => q_indexSliceN rfl el_28 rfl rfl (by omega)) ?_ | refine r_w rfl rfl (fun w => q_indexSlice rfl el_28 rfl rfl ⟨by omega, by omega⟩) ?_
    refine r_v rfl rfl (fun w hS => q_load1 (v := B (UInt8.ofNat ((crcL (frmL bs)).toNat))) rfl c1_5 rfl (rd_at (j := 3) rfl (hS.rowInv (i := 0) rfl).2.2.2.2 rfl)) ?_
    refine r_pslice rfl rfl rfl ?_
    first | refine r_w rfl rfl (fun w => q_indexSliceN rfl el_28 rfl rfl (by omega)) ?_ | refine r_w rfl rfl (fun w => q_indexSlice rfl el_28 rfl rfl ⟨by omega, by omega⟩) ?_
    refine r_v rfl rfl (fun w hS => q_load1 (v := B (UInt8.ofNat ((crcL (frmL bs)).toNat / 2 ^ 8))) rfl c1_5 rfl (rd_at (j := 2) rfl (hS.rowInv (i := 0) rfl).2.2.2.2 rfl)) ?_
    refine r_pslice rfl rfl rfl ?_
    first | refine r_w rfl rfl (fun w => q_indexSliceN rfl el_28 rfl rfl (by omega)) ?_ | refine r_w rfl rfl (fun w => q_indexSlice rfl el_28 rfl rfl ⟨by omega, by omega⟩) ?_
    refine r_v rfl rfl (fun w hS => q_load1 (v := B (UInt8.ofNat ((crcL (frmL bs)).toNat / 2 ^ 16))) rfl c1_5 rfl (rd_at (j := 1) rfl (hS.rowInv (i := 0) rfl).2.2.2.2 rfl)) ?_
    refine r_pslice rfl rfl rfl ?_
    first | refine r_w rfl rfl (fun w => q_indexSliceN rfl el_28 rfl rfl (by omega)) ?_ | refine r_w rfl rfl (fun w => q_indexSlice rfl el_28 rfl rfl ⟨by omega, by omega⟩) ?_
    refine r_v rfl rfl (fun w hS => q_load1 (v := B (UInt8.ofNat ((crcL (frmL bs)).toNat / 2 ^ 24))) rfl c1_5 rfl (rd_at (j := 0) rfl (hS.rowInv (i := 0) rfl).2.2.2.2 rfl)) ?_
    refine r_do rfl ?_
    refine b_buildSlice (cs := (le4 (crcL (frmL bs))).map B) rfl el_28 ze_5 rfl rfl rfl H (fun b37 w H => ?_)
    refine l_nil ⟨(fun h => nomatch h), ?_⟩
    refine r_do rfl ?_
    refine b_append rfl el_28 ze_5 rfl rfl rfl H 2 rfl (ys := (le4 (crcL (frmL bs))).map B) (Rd.mk (H.cells0 0 rfl)) rfl (EW.oneB _) ⟨by omega, by simp only [maxLen]; omega⟩ (fun a38 c38 w H => ?_)
    refine l_nil ⟨(fun h => nomatch h), ?_⟩
    refine r_pslice rfl rfl rfl ?_
    refine r_pint rfl rfl rfl ?_
    refine r_nil ?_
    refine w_ret ?_
    refine fin2 rfl rfl ?_
    rw [sealR_ok (by omega)]
    refine ⟨a38, c38, congrArg (fun z => Value.tuple #[.slice a38 z c38, I 0]) (by rw [seal_len]; omega), ?_⟩
    rw [seal_len, show bs.length + 12 = 8 + bs.length + 4 by omega]
    rw [← List.map_append] at H
    exact H.drop1.drop1

end Go.Proofs.YtfpmnhmdphaceaaDoor
