/- Walks through the tape's functions. -/
import Derived.Test.YtfpmnhmdphaceaaDoorTapLAll
import Derived.Test.YtfpmnhmdphaceaaDoorTap4
import Derived.Test.YtfpmnhmdphaceaaDoorBaseAll
namespace Go.Proofs.YtfpmnhmdphaceaaDoor
open Go.EW
attribute [local irreducible] EW.W EW.L EW.fin block8 outB shaL
set_option linter.unusedVariables false
set_option linter.unusedSimpArgs false
attribute [local irreducible] crcN crcB
/-- the table of sixteen words is as it was laid -/
def NibOk (W : World) : Prop := Rd W (some ⟨0, 0, none⟩) (nibL.map U)
theorem nib_lt (s : UInt32) : (s &&& 15).toNat < 16 := by
  have h2 : (s &&& 15).toNat = s.toNat % 16 := by rw [UInt32.toNat_and]; exact Nat.and_two_pow_sub_one_eq_mod s.toNat 4
  omega
theorem nib_cell {W w : World} {S : List Seg} (hN : NibOk W) (H : St W w S) (s : UInt32) : w.cell? ⟨0, 0 + (s &&& 15).toNat * 1, none⟩ = some (U (nibL.getD (s &&& 15).toNat 0)) := by
  have h := ((RdIn.rdro hN).ro (S := S)) w [] (by simpa using H)
  refine rd_at rfl h ?_
  have hl := nib_lt s
  rw [List.getElem?_map, List.getElem?_eq_getElem (by exact hl), List.getD_eq_getElem?_getD, List.getElem?_eq_getElem (by exact hl)]; rfl
theorem crc_take {l : List UInt8} {i : Nat} (hi : i < l.length) : (l.take (i + 1)).foldl crcB 4294967295 = crcB ((l.take i).foldl crcB 4294967295) l[i] := by
  rw [List.take_succ_eq_append_getElem hi, crc_snoc]
theorem low_shr (s : UInt32) {k : Nat} (hk : k < 32) : (s >>> UInt32.ofNat k).toUInt8 = UInt8.ofNat (s.toNat / 2 ^ k) := by
  apply UInt8.toNat_inj.1
  rw [UInt32.toNat_toUInt8, UInt32.toNat_shiftRight, UInt32.toNat_ofNat', UInt8.toNat_ofNat', Nat.mod_eq_of_lt (show k < 2 ^ 32 by omega), Nat.mod_eq_of_lt hk, Nat.shiftRight_eq_div_pow]
theorem be4_take (n : Nat) {i : Nat} (hi : i < 4) : (be4 n).take (i + 1) = (be4 n).take i ++ [UInt8.ofNat (n / 2 ^ (24 - 8 * i))] := by
  match i, hi with
  | 0, _ => rfl
  | 1, _ => rfl
  | 2, _ => rfl
  | 3, _ => show be4 n = [_, _, _] ++ [_]; simp [be4]
theorem le4_take (s : UInt32) {i : Nat} (hi : i < 4) : (le4 s).take (i + 1) = (le4 s).take i ++ [UInt8.ofNat (s.toNat / 2 ^ (8 * i))] := by
  match i, hi with
  | 0, _ => show [_] = [] ++ [_]; simp [le4]
  | 1, _ => rfl
  | 2, _ => rfl
  | 3, _ => rfl
theorem frm_len (b : List UInt8) : (frmL b).length = 8 + b.length := by
  unfold frmL
  rw [List.length_append, List.length_append]; rfl
theorem Crc_ok {W w : World} {F : List Seg} (hN : NibOk W) (H : St W w F) {a : Option Addr} {n c : Nat} {bs : List UInt8} (hr : RdIn W F a (bs.map B)) (hl : bs.length = n) (hn : n ≤ 140737488355328) :
    Ok Tryd.prog 132 [.slice a n c].toArray w (fun r w' => r = U (crcL bs) ∧ St W w' F) := by
  subst hl
  refine enter (n := 33) (rs := #[.tmp 2]) Tryd.func132 rfl rfl rfl rfl ?_
  refine w_seq ?_
  refine w_region ?_
  first | refine l_p (v := U _) rfl rfl ?_ | refine l_pint rfl rfl ?_
  refine l_nil ?_
  refine w_seq ?_
  refine w_region ?_
  first | refine l_p (v := U _) rfl rfl ?_ | refine l_pint rfl rfl ?_
  refine l_nil ?_
  refine w_seq ?_
  refine w_seq ?_
  refine w_region ?_
  refine l_pslice rfl rfl ?_
  refine l_v rfl (q_lenSlice rfl el_28 rfl) ?_
  refine l_pint rfl rfl ?_
  refine l_nil ?_
  refine w_block ?_
  refine w_loopG (G := Nat) [3, 5, 8, 9, 10, 11, 12, 13, 14, 15, 16, 17, 18, 19, 20, 21, 22, 23, 24, 25, 26, 27, 28, 29, 30] (fun i => [(3, U ((bs.take i).foldl crcB 4294967295)), (8, .int .i64 ((i : Nat) : Int))]) (fun m i w => m + i = bs.length ∧ St W w F) (fun _ => rfl) ?_ ?_
  · exact ⟨bs.length, 0, ⟨rfl, rfl, trivial⟩, rfl, H⟩
  rintro m i ρ1 w ⟨hmi, H⟩
  refine w_seq ?_
  refine w_region ?_
  refine l_pbool rfl rfl ?_
  refine l_nil ?_
  refine w_seq ?_
  refine w_cond rfl (fun c1 => ?_) (fun c1 => ?_)
  · try simp only [sH] at c1
    have hi : i < bs.length := by omega
    obtain ⟨db, do_, hda, _⟩ := by_cell (hr.use H 0 rfl) hi
    refine w_skip ?_
    refine w_seq ?_
    refine w_block ?_
    refine w_seq ?_
    refine w_region ?_
    refine l_v rfl (q_indexSliceE i rfl el_28 rfl hda rfl rfl hi) ?_
    refine l_v rfl (q_load1 rfl c1_5 rfl (by_at hda (hr.use H 0 rfl) hi)) ?_
    first | refine l_p (v := B _) rfl rfl ?_ | refine l_pint rfl rfl ?_
    refine l_nil ?_
    refine w_seq ?_
    refine w_region ?_
    first | refine l_p (v := U _) rfl rfl ?_ | refine l_pint rfl rfl ?_
    first | refine l_p (v := B _) rfl rfl ?_ | refine l_pint rfl rfl ?_
    refine l_v rfl (q_byteU rfl (by kernel_rfl) in_235 rfl) ?_
    refine l_v rfl (q_pure (u_xor (a := ((bs.take i).foldl crcB 4294967295)) (b := bs[i].toUInt32) rfl rfl)) ?_
    first | refine l_p (v := U _) rfl rfl ?_ | refine l_pint rfl rfl ?_
    refine l_nil ?_
    refine w_seq ?_
    refine w_region ?_
    first | refine l_p (v := U _) rfl rfl ?_ | refine l_pint rfl rfl ?_
    refine l_v rfl (q_pure (u_and (a := (((bs.take i).foldl crcB 4294967295) ^^^ bs[i].toUInt32)) (b := 15) rfl rfl)) ?_
    refine l_v rfl (q_indexArrE ((((bs.take i).foldl crcB 4294967295) ^^^ bs[i].toUInt32) &&& 15).toNat rfl ar_244 rfl rfl rfl (nib_lt _)) ?_
    refine l_v rfl (q_load1 rfl c1_235 rfl (nib_cell hN H (((bs.take i).foldl crcB 4294967295) ^^^ bs[i].toUInt32))) ?_
    first | refine l_p (v := U _) rfl rfl ?_ | refine l_pint rfl rfl ?_
    refine l_v rfl (q_pure (u_shr (a := (((bs.take i).foldl crcB 4294967295) ^^^ bs[i].toUInt32)) (n := 4) rfl rfl (by decide))) ?_
    refine l_v rfl (q_pure (v := U (crcN 4 (((bs.take i).foldl crcB 4294967295) ^^^ bs[i].toUInt32))) (by rw [← nib_step]; exact u_xor (a := nibL.getD ((((bs.take i).foldl crcB 4294967295) ^^^ bs[i].toUInt32) &&& 15).toNat 0) (b := (((bs.take i).foldl crcB 4294967295) ^^^ bs[i].toUInt32) >>> 4) rfl rfl)) ?_
    first | refine l_p (v := U _) rfl rfl ?_ | refine l_pint rfl rfl ?_
    refine l_nil ?_
    refine w_region ?_
    first | refine l_p (v := U _) rfl rfl ?_ | refine l_pint rfl rfl ?_
    refine l_v rfl (q_pure (u_and (a := crcN 4 (((bs.take i).foldl crcB 4294967295) ^^^ bs[i].toUInt32)) (b := 15) rfl rfl)) ?_
    refine l_v rfl (q_indexArrE (crcN 4 (((bs.take i).foldl crcB 4294967295) ^^^ bs[i].toUInt32) &&& 15).toNat rfl ar_244 rfl rfl rfl (nib_lt _)) ?_
    refine l_v rfl (q_load1 rfl c1_235 rfl (nib_cell hN H (crcN 4 (((bs.take i).foldl crcB 4294967295) ^^^ bs[i].toUInt32)))) ?_
    first | refine l_p (v := U _) rfl rfl ?_ | refine l_pint rfl rfl ?_
    refine l_v rfl (q_pure (u_shr (a := crcN 4 (((bs.take i).foldl crcB 4294967295) ^^^ bs[i].toUInt32)) (n := 4) rfl rfl (by decide))) ?_
    refine l_v rfl (q_pure (v := U (crcB ((bs.take i).foldl crcB 4294967295) bs[i])) (by rw [← nib_two, ← nib_step (crcN 4 _)]; exact u_xor (a := nibL.getD (crcN 4 (((bs.take i).foldl crcB 4294967295) ^^^ bs[i].toUInt32) &&& 15).toNat 0) (b := crcN 4 (((bs.take i).foldl crcB 4294967295) ^^^ bs[i].toUInt32) >>> 4) rfl rfl)) ?_
    first | refine l_p (v := U _) rfl rfl ?_ | refine l_pint rfl rfl ?_
    refine l_nil ?_
    refine w_region ?_
    first | refine l_v rfl (q_add rfl rfl rfl (by simp only [inK]; omega)) ?_ | refine l_pint rfl rfl ?_
    refine l_pint rfl rfl ?_
    refine l_nil ?_
    refine ⟨by repeat' first | exact aM | exact aR | refine aI rfl ?_ | refine aU rfl ?_ | refine aL rfl ?_, ?_⟩
    refine ⟨m - 1, i + 1, by omega, ⟨by rw [crc_take hi]; rfl, by exact congrArg (Value.int IntKind.i64) (Int.natCast_succ i).symm, trivial⟩, by omega, H⟩
  try simp only [sH] at c1
  obtain rfl : i = bs.length := by omega
  refine w_exit ?_
  refine w_seq ?_
  refine w_region ?_
  first | refine l_p (v := U _) rfl rfl ?_ | refine l_pint rfl rfl ?_
  refine l_v rfl (q_pure (u_not rfl)) ?_
  first | refine l_p (v := U _) rfl rfl ?_ | refine l_pint rfl rfl ?_
  refine l_nil ?_
  refine w_ret ?_
  refine fin1 (v := U (~~~ ((bs.take bs.length).foldl crcB 4294967295))) rfl ?_
  exact ⟨by unfold crcL; rw [List.take_length], H⟩
end Go.Proofs.YtfpmnhmdphaceaaDoor
