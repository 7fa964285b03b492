/- Walks through the tape's functions. -/
import Derived.Test.YtfpmnhmdphaceaaDoorTap12
import Derived.Test.YtfpmnhmdphaceaaDoorTap7
import Derived.Test.YtfpmnhmdphaceaaDoorBaseAll
namespace Go.Proofs.YtfpmnhmdphaceaaDoor
open Go.EW
attribute [local irreducible] EW.W EW.L EW.fin block8 outB shaL
set_option linter.unusedVariables false
set_option linter.unusedSimpArgs false
attribute [local irreducible] crcN crcB crcL

theorem shr_le {s : UInt32} {i : Nat} (hi : i < 4) : UInt32.ofNat (8 * i) = UInt32.ofNat (8 * i) := rfl
theorem be4_all (n : Nat) : (be4 n).take 4 = be4 n := rfl
theorem le4_all (s : UInt32) : (le4 s).take 4 = le4 s := rfl
theorem sealR_ok {b : List UInt8} (h : b.length ≤ 32756) : sealR b = (sealL b, 0) := if_neg (by omega)
theorem sealR_long {b : List UInt8} (h : 32756 < b.length) : sealR b = ([], 11) := if_pos h

theorem Seal_ok {W w : World} {F : List Seg} (hN : NibOk W) (H : St W w F) {a : Option Addr} {n c : Nat} {bs : List UInt8} (hr : RdIn W F a (bs.map B)) (hl : bs.length = n) (hn : n ≤ 140737488355328) :
    Ok Tryd.prog 111 [.slice a n c].toArray w (fun r w' => ∃ a' c', r = .tuple #[.slice a' (sealR bs).1.length c', I ((sealR bs).2 : Int)] ∧ St W w' (row 5 1 a' (sealR bs).1.length c' ((sealR bs).1.map B) :: F)) := by
  subst hl
  refine enter (n := 49) (rs := #[.tmp 2, .tmp 3]) Tryd.func111 rfl rfl rfl rfl ?_
  refine w_seq ?_
  refine w_region ?_
  refine l_pslice rfl rfl ?_
  refine l_pint rfl rfl ?_
  refine l_nil ?_
  refine w_seq ?_
  refine w_seq ?_
  refine w_region ?_
  refine l_pslice rfl rfl ?_
  refine l_v rfl (q_lenSlice rfl el_28 rfl) ?_
  refine l_pbool rfl rfl ?_
  refine l_nil ?_
  refine w_cond rfl (fun c1 => ?_) (fun c1 => ?_)
  · try simp only [sH] at c1
    refine w_seq ?_
    refine w_region ?_
    refine l_pslice rfl rfl ?_
    refine l_pint rfl rfl ?_
    refine l_nil ?_
    refine w_ret ?_
    refine fin2 rfl rfl ?_
    rw [sealR_long (by omega)]
    exact ⟨none, 0, rfl, St.newRow H⟩
  · try simp only [sH] at c1
    refine w_skip ?_
    refine w_seq ?_
    refine w_region ?_
    refine l_pslice rfl rfl ?_
    refine l_v rfl (q_lenSlice rfl el_28 rfl) ?_
    first | refine l_v rfl (q_add rfl rfl rfl (by simp only [inK]; omega)) ?_ | refine l_pint rfl rfl ?_
    refine b_make0 (m := bs.length + 12) rfl el_28 ze_5 rfl rfl (congrArg (Value.int .i64) (by omega)) ⟨by omega, by simp only [maxLen]; omega⟩ H (fun b14 w H => ?_)
    refine l_pslice rfl rfl ?_
    refine l_nil ?_
    refine w_seq ?_
    refine w_region ?_
    refine l_pslice rfl rfl ?_
    refine b_appendStr rfl el_28 ze_5 rfl rfl st_9 rfl rfl rfl H 0 rfl ⟨by decide, by decide⟩ (fun a16 c16 w H => ?_)
    have H : St W w (row 5 1 a16 (4) c16 ((magicL).map B) :: F) := H
    refine l_pslice rfl rfl ?_
    refine l_nil ?_
    refine w_seq ?_
    refine w_seq ?_
    refine w_region ?_
    refine l_pint rfl rfl ?_
    refine l_nil ?_
    refine w_block ?_
    refine w_loopG (G := Nat × Option Addr × Nat) [4, 5, 17, 18, 19, 20, 21, 22, 23, 24, 25, 26, 27, 28, 29, 30] (fun ⟨i, fa, fc⟩ => [(4, .slice fa (4 + i) fc), (17, .int .i64 ((i : Nat) : Int))]) (fun m ⟨i, fa, fc⟩ w => m + i = 4 ∧ St W w (row 5 1 fa (4 + i) fc ((magicL ++ (be4 bs.length).take i).map B) :: F)) (fun _ => rfl) ?_ ?_
    · exact ⟨4, (0, a16, c16), ⟨rfl, rfl, trivial⟩, rfl, H⟩
    · rintro m ⟨i, fa, fc⟩ ρ1 w ⟨hmi, H⟩
      refine w_seq ?_
      refine w_region ?_
      refine l_pbool rfl rfl ?_
      refine l_nil ?_
      refine w_seq ?_
      refine w_cond rfl (fun c2 => ?_) (fun c2 => ?_)
      · try simp only [sH] at c2
        refine w_skip ?_
        refine w_seq ?_
        refine w_block ?_
        refine w_seq ?_
        refine w_region ?_
        refine l_pint rfl rfl ?_
        refine l_pint rfl rfl ?_
        refine l_nil ?_
        refine w_region ?_
        refine l_pslice rfl rfl ?_
        refine l_pslice rfl rfl ?_
        refine l_v rfl (q_lenSlice rfl el_28 rfl) ?_
        refine l_pint rfl rfl ?_
        first | refine l_v rfl (q_mul (a := 8) (b := (i : Int)) rfl rfl rfl (by simp only [inK]; omega)) ?_ | refine l_pint rfl rfl ?_
        first | refine l_v rfl (q_sub rfl rfl rfl (by simp only [inK]; omega)) ?_ | refine l_pint rfl rfl ?_
        refine l_v rfl (q_pure (i64_shr (n := bs.length) (i := 24 - 8 * i) rfl (congrArg (Value.int .i64) (by omega)) (by omega))) ?_
        refine l_v rfl (q_lowN (M := bs.length / 2 ^ (24 - 8 * i)) rfl (by kernel_rfl) in_5 rfl) ?_
        refine b_buildSlice (cs := [B (UInt8.ofNat (bs.length / 2 ^ (24 - 8 * i)))]) rfl el_28 ze_5 rfl rfl rfl H (fun b28 w H => ?_)
        refine b_append rfl el_28 ze_5 rfl rfl rfl H 1 rfl (Rd.mk (H.cells0 0 rfl)) rfl (fun u hu => by obtain rfl := List.mem_singleton.1 hu; rfl) ⟨by omega, by simp only [maxLen]; omega⟩ (fun a29 c29 w H => ?_)
        refine l_pslice rfl rfl ?_
        refine l_nil ?_
        refine w_region ?_
        first | refine l_v rfl (q_add rfl rfl rfl (by simp only [inK]; omega)) ?_ | refine l_pint rfl rfl ?_
        refine l_pint rfl rfl ?_
        refine l_nil ?_
        refine ⟨by repeat' first | exact aM | exact aR | refine aI rfl ?_ | refine aU rfl ?_ | refine aL rfl ?_, ?_⟩
        refine ⟨m - 1, (i + 1, a29, c29), by omega, ⟨rfl, by exact congrArg (Value.int IntKind.i64) (Int.natCast_succ i).symm, trivial⟩, by omega, ?_⟩
        rw [be4_take _ (by omega), ← List.append_assoc, List.map_append]
        exact H.drop1
      · try simp only [sH] at c2
        obtain rfl : i = 4 := by omega
        refine w_exit ?_
        refine w_seq ?_
        refine w_region ?_
        refine l_pslice rfl rfl ?_
        refine l_pslice rfl rfl ?_
        refine b_append rfl el_28 ze_5 rfl rfl rfl H 0 rfl (ys := bs.map B) (hr.use H 1 rfl) (by simp) (EW.oneB _) ⟨by omega, by simp only [maxLen]; omega⟩ (fun a33 c33 w H => ?_)
        have H : St W w (row 5 1 a33 (8 + bs.length) c33 ((frmL bs).map B) :: F) := by
          rw [← List.map_append] at H
          exact H
        refine l_pslice rfl rfl ?_
        refine l_nil ?_
        refine w_seq ?_
        refine w_region ?_
        refine l_pslice rfl rfl ?_
        refine b_call rfl cb_132 rfl (Crc_ok (bs := frmL bs) hN H (RdIn.row 0 rfl) (frm_len bs) (by omega)) (fun v w hv => ?_)
        obtain ⟨rfl, H⟩ := hv
        first | refine l_p (v := U _) rfl rfl ?_ | refine l_pint rfl rfl ?_
        refine l_nil ?_
        refine w_seq ?_
        refine w_seq ?_
        refine w_region ?_
        refine l_pint rfl rfl ?_
        refine l_nil ?_
        refine w_block ?_
        refine w_loopG (G := Nat × Option Addr × Nat) [4, 7, 36, 37, 38, 39, 40, 41, 42, 43, 44, 45, 46, 47] (fun ⟨i, fa, fc⟩ => [(4, .slice fa (8 + bs.length + i) fc), (36, .int .i64 ((i : Nat) : Int))]) (fun m ⟨i, fa, fc⟩ w => m + i = 4 ∧ St W w (row 5 1 fa (8 + bs.length + i) fc ((frmL bs ++ (le4 (crcL (frmL bs))).take i).map B) :: F)) (fun _ => rfl) ?_ ?_
        · refine ⟨4, (0, a33, c33), ⟨rfl, rfl, trivial⟩, rfl, ?_⟩
          rw [List.take_zero, List.append_nil]
          exact H
        · rintro m ⟨i, fa, fc⟩ ρ1 w ⟨hmi, H⟩
          refine w_seq ?_
          refine w_region ?_
          refine l_pbool rfl rfl ?_
          refine l_nil ?_
          refine w_seq ?_
          refine w_cond rfl (fun c3 => ?_) (fun c3 => ?_)
          · try simp only [sH] at c3
            refine w_skip ?_
            refine w_seq ?_
            refine w_block ?_
            refine w_seq ?_
            refine w_region ?_
            refine l_pint rfl rfl ?_
            refine l_pint rfl rfl ?_
            refine l_nil ?_
            refine w_region ?_
            refine l_pslice rfl rfl ?_
            first | refine l_p (v := U _) rfl rfl ?_ | refine l_pint rfl rfl ?_
            refine l_pint rfl rfl ?_
            first | refine l_v rfl (q_mul (a := 8) (b := (i : Int)) rfl rfl rfl (by simp only [inK]; omega)) ?_ | refine l_pint rfl rfl ?_
            refine l_v rfl (q_pure (u_shr (a := crcL (frmL bs)) (n := 8 * i) rfl (congrArg (Value.int .i64) (by omega)) (by omega))) ?_
            refine l_v rfl (q_lowB rfl (by kernel_rfl) in_5 rfl) ?_
            refine b_buildSlice (cs := [B (crcL (frmL bs) >>> UInt32.ofNat (8 * i)).toUInt8]) rfl el_28 ze_5 rfl rfl rfl H (fun b45 w H => ?_)
            rw [low_shr _ (by omega)] at H
            refine b_append rfl el_28 ze_5 rfl rfl rfl H 1 rfl (Rd.mk (H.cells0 0 rfl)) rfl (fun u hu => by obtain rfl := List.mem_singleton.1 hu; rfl) ⟨by omega, by simp only [maxLen]; omega⟩ (fun a46 c46 w H => ?_)
            refine l_pslice rfl rfl ?_
            refine l_nil ?_
            refine w_region ?_
            first | refine l_v rfl (q_add rfl rfl rfl (by simp only [inK]; omega)) ?_ | refine l_pint rfl rfl ?_
            refine l_pint rfl rfl ?_
            refine l_nil ?_
            refine ⟨by repeat' first | exact aM | exact aR | refine aI rfl ?_ | refine aU rfl ?_ | refine aL rfl ?_, ?_⟩
            refine ⟨m - 1, (i + 1, a46, c46), by omega, ⟨rfl, by exact congrArg (Value.int IntKind.i64) (Int.natCast_succ i).symm, trivial⟩, by omega, ?_⟩
            rw [le4_take _ (by omega), ← List.append_assoc, List.map_append]
            exact H.drop1
          · try simp only [sH] at c3
            obtain rfl : i = 4 := by omega
            refine w_exit ?_
            refine w_seq ?_
            refine w_region ?_
            refine l_pslice rfl rfl ?_
            refine l_pslice rfl rfl ?_
            refine l_pint rfl rfl ?_
            refine l_nil ?_
            refine w_ret ?_
            refine fin2 rfl rfl ?_
            rw [sealR_ok (by omega)]
            refine ⟨fa, fc, congrArg (fun z => Value.tuple #[.slice fa z fc, I 0]) (by rw [seal_len]; omega), ?_⟩
            rw [seal_len, show bs.length + 12 = 8 + bs.length + 4 by omega]
            exact H

end Go.Proofs.YtfpmnhmdphaceaaDoor
