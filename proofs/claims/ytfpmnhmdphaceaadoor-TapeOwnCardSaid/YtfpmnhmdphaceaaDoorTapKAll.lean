/- Walks through the tape's functions. -/
import Derived.Test.YtfpmnhmdphaceaaDoorTap12
import Derived.Test.YtfpmnhmdphaceaaDoorTap7
import Derived.Test.YtfpmnhmdphaceaaDoorBaseAll
namespace Go.Proofs.YtfpmnhmdphaceaaDoor
open Go.EW
attribute [local irreducible] EW.W EW.L EW.fin block8 outB shaL
set_option linter.unusedVariables false
set_option linter.unusedSimpArgs false
attribute [local irreducible] crcN crcB crcL
theorem sealR_ok {b : List UInt8} (h : b.length ≤ 32756) : sealR b = (sealL b, 0) := if_neg (by omega)
theorem sealR_long {b : List UInt8} (h : 32756 < b.length) : sealR b = ([], 11) := if_pos h
theorem Seal_ok {W w : World} {F : List Seg} (hN : NibOk W) (H : St W w F) {a : Option Addr} {n c : Nat} {bs : List UInt8} (hr : RdIn W F a (bs.map B)) (hl : bs.length = n) (hn : n ≤ 140737488355328) :
    Ok Tryd.prog 111 [.slice a n c].toArray w (fun r w' => ∃ a' c', r = .tuple #[.slice a' (sealR bs).1.length c', I ((sealR bs).2 : Int)] ∧ St W w' (row 5 1 a' (sealR bs).1.length c' ((sealR bs).1.map B) :: F)) := by
  subst hl
  refine enter (n := 49) (rs := #[.tmp 2, .tmp 3]) Tryd.func111 rfl rfl rfl rfl ?_
  refine w_seq ?_
  refine w_region ?_
  refine l_pslice rfl rfl ?_
  refine l_pint rfl rfl ?_
  refine l_nil ?_
  refine w_seq ?_
  refine w_seq ?_
  refine w_region ?_
  refine l_pslice rfl rfl ?_
  refine l_v rfl (q_lenSlice rfl el_28 rfl) ?_
  refine l_pbool rfl rfl ?_
  refine l_nil ?_
  refine w_cond rfl (fun c1 => ?_) (fun c1 => ?_)
  · try simp only [sH] at c1
    refine w_seq ?_
    refine w_region ?_
    refine l_pslice rfl rfl ?_
    refine l_pint rfl rfl ?_
    refine l_nil ?_
    refine w_ret ?_
    refine fin2 rfl rfl ?_
    rw [sealR_long (by omega)]
    exact ⟨none, 0, rfl, St.newRow H⟩
  try simp only [sH] at c1
  refine w_skip ?_
  refine w_seq ?_
  refine w_region ?_
  refine l_pslice rfl rfl ?_
  refine l_v rfl (q_lenSlice rfl el_28 rfl) ?_
  first | refine l_v rfl (q_add rfl rfl rfl (by simp only [inK]; omega)) ?_ | refine l_pint rfl rfl ?_
  refine b_make0 (m := bs.length + 12) rfl el_28 ze_5 rfl rfl (congrArg (Value.int .i64) (by omega)) ⟨by omega, by simp only [maxLen]; omega⟩ H (fun b14 w H => ?_)
  refine l_pslice rfl rfl ?_
  refine l_nil ?_
  refine w_seq ?_
  refine w_region ?_
  refine l_pslice rfl rfl ?_
  refine b_appendStr rfl el_28 ze_5 rfl rfl st_9 rfl rfl rfl H 0 rfl ⟨by decide, by decide⟩ (fun a16 c16 w H => ?_)
  have H : St W w (row 5 1 a16 (4) c16 ((magicL).map B) :: F) := H
  refine l_pslice rfl rfl ?_
  refine l_nil ?_
  refine w_seq ?_
  refine w_seq ?_
  refine w_region ?_
  refine l_pint rfl rfl ?_
  refine l_nil ?_
  refine w_block ?_
  refine w_loopG (G := Nat × Option Addr × Nat) [4, 5, 17, 18, 19, 20, 21, 22, 23, 24, 25, 26, 27, 28, 29, 30] (fun ⟨i, fa, fc⟩ => [(4, .slice fa (4 + i) fc), (17, .int .i64 ((i : Nat) : Int))]) (fun m ⟨i, fa, fc⟩ w => m + i = 4 ∧ St W w (row 5 1 fa (4 + i) fc ((magicL ++ (be4 bs.length).take i).map B) :: F)) (fun _ => rfl) ?_ ?_
  · exact ⟨4, (0, a16, c16), ⟨rfl, rfl, trivial⟩, rfl, H⟩
  rintro m ⟨i, fa, fc⟩ ρ1 w ⟨hmi, H⟩
  refine w_seq ?_
  refine w_region ?_
  refine l_pbool rfl rfl ?_
  refine l_nil ?_
  refine w_seq ?_
  refine w_cond rfl (fun c2 => ?_) (fun c2 => ?_)
  · try simp only [sH] at c2
    refine w_skip ?_
    refine w_seq ?_
    refine w_block ?_
    refine w_seq ?_
    refine w_region ?_
    refine l_pint rfl rfl ?_
    refine l_pint rfl rfl ?_
    refine l_nil ?_
    refine w_region ?_
    refine l_pslice rfl rfl ?_
    refine l_pslice rfl rfl ?_
    refine l_v rfl (q_lenSlice rfl el_28 rfl) ?_
    refine l_pint rfl rfl ?_
    first | refine l_v rfl (q_mul (a := 8) (b := (i : Int)) rfl rfl rfl (by simp only [inK]; omega)) ?_ | refine l_pint rfl rfl ?_
    first | refine l_v rfl (q_sub rfl rfl rfl (by simp only [inK]; omega)) ?_ | refine l_pint rfl rfl ?_
    refine l_v rfl (q_pure (i64_shr (n := bs.length) (i := 24 - 8 * i) rfl (congrArg (Value.int .i64) (by omega)) (by omega))) ?_
    refine l_v rfl (q_lowN (M := bs.length / 2 ^ (24 - 8 * i)) rfl (by kernel_rfl) in_5 rfl) ?_
    refine b_buildSlice (cs := [B (UInt8.ofNat (bs.length / 2 ^ (24 - 8 * i)))]) rfl el_28 ze_5 rfl rfl rfl H (fun b28 w H => ?_)
    refine b_append rfl el_28 ze_5 rfl rfl rfl H 1 rfl (Rd.mk (H.cells0 0 rfl)) rfl (fun u hu => by obtain rfl := List.mem_singleton.1 hu; rfl) ⟨by omega, by simp only [maxLen]; omega⟩ (fun a29 c29 w H => ?_)
    refine l_pslice rfl rfl ?_
    refine l_nil ?_
    refine w_region ?_
    first | refine l_v rfl (q_add rfl rfl rfl (by simp only [inK]; omega)) ?_ | refine l_pint rfl rfl ?_
    refine l_pint rfl rfl ?_
    refine l_nil ?_
    refine ⟨by repeat' first | exact aM | exact aR | refine aI rfl ?_ | refine aU rfl ?_ | refine aL rfl ?_, ?_⟩
    refine ⟨m - 1, (i + 1, a29, c29), by omega, ⟨rfl, by exact congrArg (Value.int IntKind.i64) (Int.natCast_succ i).symm, trivial⟩, by omega, ?_⟩
    rw [be4_take _ (by omega), ← List.append_assoc, List.map_append]
    exact H.drop1
  try simp only [sH] at c2
  obtain rfl : i = 4 := by omega
  refine w_exit ?_
  refine w_seq ?_
  refine w_region ?_
  refine l_pslice rfl rfl ?_
  refine l_pslice rfl rfl ?_
  refine b_append rfl el_28 ze_5 rfl rfl rfl H 0 rfl (ys := bs.map B) (hr.use H 1 rfl) (by simp) (EW.oneB _) ⟨by omega, by simp only [maxLen]; omega⟩ (fun a33 c33 w H => ?_)
  have H : St W w (row 5 1 a33 (8 + bs.length) c33 ((frmL bs).map B) :: F) := by
    rw [← List.map_append] at H
    exact H
  refine l_pslice rfl rfl ?_
  refine l_nil ?_
  refine w_seq ?_
  refine w_region ?_
  refine l_pslice rfl rfl ?_
  refine b_call rfl cb_132 rfl (Crc_ok (bs := frmL bs) hN H (RdIn.row 0 rfl) (frm_len bs) (by omega)) (fun v w hv => ?_)
  obtain ⟨rfl, H⟩ := hv
  first | refine l_p (v := U _) rfl rfl ?_ | refine l_pint rfl rfl ?_
  refine l_nil ?_
  refine w_seq ?_
  refine w_seq ?_
  refine w_region ?_
  refine l_pint rfl rfl ?_
  refine l_nil ?_
  refine w_block ?_
  refine w_loopG (G := Nat × Option Addr × Nat) [4, 7, 36, 37, 38, 39, 40, 41, 42, 43, 44, 45, 46, 47] (fun ⟨i, fa, fc⟩ => [(4, .slice fa (8 + bs.length + i) fc), (36, .int .i64 ((i : Nat) : Int))]) (fun m ⟨i, fa, fc⟩ w => m + i = 4 ∧ St W w (row 5 1 fa (8 + bs.length + i) fc ((frmL bs ++ (le4 (crcL (frmL bs))).take i).map B) :: F)) (fun _ => rfl) ?_ ?_
  · refine ⟨4, (0, a33, c33), ⟨rfl, rfl, trivial⟩, rfl, ?_⟩
    rw [List.take_zero, List.append_nil]
    exact H
  rintro m ⟨i, fa, fc⟩ ρ1 w ⟨hmi, H⟩
  refine w_seq ?_
  refine w_region ?_
  refine l_pbool rfl rfl ?_
  refine l_nil ?_
  refine w_seq ?_
  refine w_cond rfl (fun c3 => ?_) (fun c3 => ?_)
  · try simp only [sH] at c3
    refine w_skip ?_
    refine w_seq ?_
    refine w_block ?_
    refine w_seq ?_
    refine w_region ?_
    refine l_pint rfl rfl ?_
    refine l_pint rfl rfl ?_
    refine l_nil ?_
    refine w_region ?_
    refine l_pslice rfl rfl ?_
    first | refine l_p (v := U _) rfl rfl ?_ | refine l_pint rfl rfl ?_
    refine l_pint rfl rfl ?_
    first | refine l_v rfl (q_mul (a := 8) (b := (i : Int)) rfl rfl rfl (by simp only [inK]; omega)) ?_ | refine l_pint rfl rfl ?_
    refine l_v rfl (q_pure (u_shr (a := crcL (frmL bs)) (n := 8 * i) rfl (congrArg (Value.int .i64) (by omega)) (by omega))) ?_
    refine l_v rfl (q_lowB rfl (by kernel_rfl) in_5 rfl) ?_
    refine b_buildSlice (cs := [B (crcL (frmL bs) >>> UInt32.ofNat (8 * i)).toUInt8]) rfl el_28 ze_5 rfl rfl rfl H (fun b45 w H => ?_)
    rw [low_shr _ (by omega)] at H
    refine b_append rfl el_28 ze_5 rfl rfl rfl H 1 rfl (Rd.mk (H.cells0 0 rfl)) rfl (fun u hu => by obtain rfl := List.mem_singleton.1 hu; rfl) ⟨by omega, by simp only [maxLen]; omega⟩ (fun a46 c46 w H => ?_)
    refine l_pslice rfl rfl ?_
    refine l_nil ?_
    refine w_region ?_
    first | refine l_v rfl (q_add rfl rfl rfl (by simp only [inK]; omega)) ?_ | refine l_pint rfl rfl ?_
    refine l_pint rfl rfl ?_
    refine l_nil ?_
    refine ⟨by repeat' first | exact aM | exact aR | refine aI rfl ?_ | refine aU rfl ?_ | refine aL rfl ?_, ?_⟩
    refine ⟨m - 1, (i + 1, a46, c46), by omega, ⟨rfl, by exact congrArg (Value.int IntKind.i64) (Int.natCast_succ i).symm, trivial⟩, by omega, ?_⟩
    rw [le4_take _ (by omega), ← List.append_assoc, List.map_append]
    exact H.drop1
  try simp only [sH] at c3
  obtain rfl : i = 4 := by omega
  refine w_exit ?_
  refine w_seq ?_
  refine w_region ?_
  refine l_pslice rfl rfl ?_
  refine l_pslice rfl rfl ?_
  refine l_pint rfl rfl ?_
  refine l_nil ?_
  refine w_ret ?_
  refine fin2 rfl rfl ?_
  rw [sealR_ok (by omega)]
  refine ⟨fa, fc, congrArg (fun z => Value.tuple #[.slice fa z fc, I 0]) (by rw [seal_len]; omega), ?_⟩
  rw [seal_len, show bs.length + 12 = 8 + bs.length + 4 by omega]
  exact H
end Go.Proofs.YtfpmnhmdphaceaaDoor
namespace Go.Proofs.YtfpmnhmdphaceaaDoor
open Go.EW
attribute [local irreducible] EW.W EW.L EW.fin block8 outB shaL
set_option linter.unusedVariables false
set_option linter.unusedSimpArgs false
attribute [local irreducible] crcN crcB crcL
theorem row_blk0 {W w : World} {S : List Seg} {T b n : Nat} {cs : List Value} (hl : cs.length = n) (hn : n ≤ maxLen) (H : St W w (blk0 b cs T :: S)) : St W w (row T 1 (some ⟨b, 0, none⟩) n n cs :: S) :=
  H.imp fun c h => row_of_blk0 h (by rw [hl, Nat.mul_one]) (List.take_of_length_le (Nat.le_refl _)) (by rw [hl, Nat.mul_one]) (Nat.le_refl _) hn
end Go.Proofs.YtfpmnhmdphaceaaDoor
namespace Go.Proofs.YtfpmnhmdphaceaaDoor
open Go.EW
attribute [local irreducible] EW.W EW.L EW.fin block8 outB shaL
set_option linter.unusedVariables false
set_option linter.unusedSimpArgs false
attribute [local irreducible] crcN crcB crcL
theorem rdin_part {W : World} {F : List Seg} {a : Option Addr} {bs : List UInt8} {p n cap : Nat} (h : RdIn W F a (bs.map B)) (hc : bs.length ≤ cap) (hp : p + n ≤ bs.length) : RdIn W F (subA a 1 p cap) (((bs.drop p).take n).map B) := fun w S H => rd_part (h w S H) hc hp
theorem open_0 {f : List UInt8} (h : 32768 < f.length) : openR f = ([], 11) := if_pos h
theorem open_1 {f : List UInt8} (h : f.length < 12) : openR f = ([], 10) := by unfold openR; rw [if_neg (by omega), if_pos h]
theorem open_2 {f : List UInt8} (h0 : ¬ 32768 < f.length) (h1 : ¬ f.length < 12) (h : ¬ f.take 4 = magicL) : openR f = ([], 13) := by unfold openR; rw [if_neg h0, if_neg h1, if_pos h]
theorem open_3 {f : List UInt8} (h0 : ¬ 32768 < f.length) (h1 : ¬ f.length < 12) (h2 : f.take 4 = magicL) (h : f.length < numB ((f.drop 4).take 4) + 12) : openR f = ([], 10) := by unfold openR; rw [if_neg h0, if_neg h1, if_neg (by simpa using h2), if_pos h]
theorem open_4 {f : List UInt8} (h0 : ¬ 32768 < f.length) (h1 : ¬ f.length < 12) (h2 : f.take 4 = magicL) (h3 : ¬ f.length < numB ((f.drop 4).take 4) + 12) (h : numB ((f.drop 4).take 4) + 12 < f.length) : openR f = ([], 15) := by unfold openR; rw [if_neg h0, if_neg h1, if_neg (by simpa using h2), if_neg h3, if_pos h]
theorem open_5 {f : List UInt8} (h0 : ¬ 32768 < f.length) (h1 : ¬ f.length < 12) (h2 : f.take 4 = magicL) (h3 : ¬ f.length < numB ((f.drop 4).take 4) + 12) (h4 : ¬ numB ((f.drop 4).take 4) + 12 < f.length) (h : ¬ f.drop (f.length - 4) = le4 (crcL (f.take (f.length - 4)))) : openR f = ([], 14) := by
  unfold openR; rw [if_neg h0, if_neg h1, if_neg (by simpa using h2), if_neg h3, if_neg h4, if_pos h]
theorem open_6 {f : List UInt8} (h0 : ¬ 32768 < f.length) (h1 : ¬ f.length < 12) (h2 : f.take 4 = magicL) (h3 : ¬ f.length < numB ((f.drop 4).take 4) + 12) (h4 : ¬ numB ((f.drop 4).take 4) + 12 < f.length) (h5 : f.drop (f.length - 4) = le4 (crcL (f.take (f.length - 4)))) : openR f = ((f.drop 8).take (f.length - 12), 0) := by
  unfold openR; rw [if_neg h0, if_neg h1, if_neg (by simpa using h2), if_neg h3, if_neg h4, if_neg (by simpa using h5)]
theorem le4_get (s : UInt32) {i : Nat} (hi : i < 4) : (le4 s)[i]? = some (UInt8.ofNat (s.toNat / 2 ^ (8 * i))) := by
  match i, hi with
  | 0, _ => show some _ = some _; simp
  | 1, _ => rfl
  | 2, _ => rfl
  | 3, _ => rfl
theorem tail_ne {f : List UInt8} {s : UInt32} {i : Nat} (hl : 12 ≤ f.length) (hi : i < 4) (h : ¬ (((f[f.length - 4 + i]'(by omega)).toNat : Nat) : Int) = (((UInt8.ofNat (s.toNat / 2 ^ (8 * i))).toNat : Nat) : Int)) : ¬ f.drop (f.length - 4) = le4 s := by
  intro he
  have h2 : (f.drop (f.length - 4))[i]? = (le4 s)[i]? := by rw [he]
  rw [le4_get s hi, List.getElem?_drop, List.getElem?_eq_getElem (by omega)] at h2
  rw [Option.some.inj h2] at h
  exact h rfl
theorem tail_step {f : List UInt8} {s : UInt32} {i : Nat} (hl : 12 ≤ f.length) (hi : i < 4) (h : (((f[f.length - 4 + i]'(by omega)).toNat : Nat) : Int) = (((UInt8.ofNat (s.toNat / 2 ^ (8 * i))).toNat : Nat) : Int)) (ht : (f.drop (f.length - 4)).take i = (le4 s).take i) : (f.drop (f.length - 4)).take (i + 1) = (le4 s).take (i + 1) := by
  have hd : i < (f.drop (f.length - 4)).length := by rw [List.length_drop]; omega
  rw [List.take_succ_eq_append_getElem hd, le4_take s hi, ht, List.getElem_drop]
  congr 2
  exact UInt8.toNat_inj.1 (by omega)
theorem tail_all {f : List UInt8} {s : UInt32} (hl : 12 ≤ f.length) (ht : (f.drop (f.length - 4)).take 4 = (le4 s).take 4) : f.drop (f.length - 4) = le4 s := by
  rw [List.take_of_length_le (by rw [List.length_drop]; omega)] at ht
  exact ht
theorem numB_4 {l : List UInt8} (h : l.length ≤ 4) : numB l < 4294967296 := by
  have h1 := numB_lt l
  have h2 : 256 ^ l.length ≤ 256 ^ 4 := Nat.pow_le_pow_right (by decide) h
  have h3 : 256 ^ 4 = 4294967296 := by decide
  omega
theorem Open_ok {W w : World} {F : List Seg} (hN : NibOk W) (H : St W w F) {a : Option Addr} {n c : Nat} {bs : List UInt8} (hr : RdIn W F a (bs.map B)) (hl : bs.length = n) (hcp : bs.length ≤ c) (hn : n ≤ 140737488355328) :
    Ok Tryd.prog 116 [.slice a n c].toArray w (fun r w' => ∃ a' c', r = .tuple #[.slice a' (openR bs).1.length c', I ((openR bs).2 : Int)] ∧ St W w' (row 5 1 a' (openR bs).1.length c' ((openR bs).1.map B) :: F)) := by
  subst hl
  refine enter (n := 79) (rs := #[.tmp 2, .tmp 3]) Tryd.func116 rfl rfl rfl rfl ?_
  refine w_seq ?_
  refine w_region ?_
  refine l_pslice rfl rfl ?_
  refine l_pint rfl rfl ?_
  refine l_nil ?_
  refine w_seq ?_
  refine w_block ?_
  refine w_seq ?_
  refine w_region ?_
  refine l_pslice rfl rfl ?_
  refine l_v rfl (q_lenSlice rfl el_28 rfl) ?_
  refine l_pbool rfl rfl ?_
  refine l_pbool rfl rfl ?_
  refine l_nil ?_
  refine w_cond rfl (fun c1 => ?_) (fun c1 => ?_)
  · try simp only [sH] at c1
    refine w_seq ?_
    refine w_region ?_
    refine l_pslice rfl rfl ?_
    refine l_pint rfl rfl ?_
    refine l_nil ?_
    refine w_ret ?_
    refine fin2 rfl rfl ?_
    rw [open_0 (by omega)]
    exact ⟨none, 0, rfl, St.newRow H⟩
  try simp only [sH] at c1
  refine w_seq ?_
  refine w_region ?_
  refine l_pslice rfl rfl ?_
  refine l_v rfl (q_lenSlice rfl el_28 rfl) ?_
  refine l_pbool rfl rfl ?_
  refine l_pbool rfl rfl ?_
  refine l_nil ?_
  refine w_cond rfl (fun c2 => ?_) (fun c2 => ?_)
  · try simp only [sH] at c2
    refine w_seq ?_
    refine w_region ?_
    refine l_pslice rfl rfl ?_
    refine l_pint rfl rfl ?_
    refine l_nil ?_
    refine w_ret ?_
    refine fin2 rfl rfl ?_
    rw [open_1 (by omega)]
    exact ⟨none, 0, rfl, St.newRow H⟩
  try simp only [sH] at c2
  refine w_seq ?_
  refine w_region ?_
  refine l_pslice rfl rfl ?_
  refine l_v rfl (q_slice (l := 0) (h := 4) (m := c) rfl el_28 rfl Bnd.none (Bnd.mk ⟨by omega, by omega⟩) Bnd.none (by simp)) ?_
  refine l_v rfl (q_bytesStr (bs := bs.take 4) rfl by_28 st_9 rfl (rd_part (p := 0) (n := 4) (hr.use H 0 rfl) hcp (by omega)) (by rw [List.length_take]; omega)) ?_
  refine l_v rfl (q_pure (s_neq rfl rfl)) ?_
  refine l_pbool rfl rfl ?_
  refine l_nil ?_
  refine w_cond rfl (fun c3 => ?_) (fun c3 => ?_)
  · try simp only [sH] at c3
    refine w_seq ?_
    refine w_region ?_
    refine l_pslice rfl rfl ?_
    refine l_pint rfl rfl ?_
    refine l_nil ?_
    refine w_ret ?_
    refine fin2 rfl rfl ?_
    rw [open_2 (by omega) (by omega) c3]
    exact ⟨none, 0, rfl, St.newRow H⟩
  try simp only [sH] at c3
  have hq4 : ((bs.drop 4).take 4).length = 4 := by rw [List.length_take, List.length_drop]; omega
  have h0 : ¬ 32768 < bs.length := by omega
  have h1 : ¬ bs.length < 12 := by omega
  have h2 : bs.take 4 = magicL := c3
  refine w_skip ?_
  refine w_seq ?_
  refine w_region ?_
  refine l_pint rfl rfl ?_
  refine l_nil ?_
  refine w_seq ?_
  refine w_seq ?_
  refine w_region ?_
  refine l_pslice rfl rfl ?_
  refine l_v rfl (q_slice (l := 4) (h := 8) (m := c) rfl el_28 rfl Bnd.none (Bnd.mk ⟨by omega, by omega⟩) (Bnd.mk ⟨by omega, by omega⟩) (by simp)) ?_
  refine l_v rfl (q_lenSlice rfl el_28 rfl) ?_
  refine l_pint rfl rfl ?_
  refine l_nil ?_
  refine w_block ?_
  refine w_loopG (G := Nat) [4, 6, 25, 26, 27, 28, 29, 30, 31, 32, 33, 34] (fun i => [(4, N64 (numB (((bs.drop 4).take 4).take i))), (25, .int .i64 ((i : Nat) : Int))]) (fun m i w => m + i = 4 ∧ St W w F) (fun _ => rfl) ?_ ?_
  · exact ⟨4, 0, ⟨rfl, rfl, trivial⟩, rfl, H⟩
  rintro m i ρ1 w ⟨hmi, H⟩
  refine w_seq ?_
  refine w_region ?_
  refine l_pbool rfl rfl ?_
  refine l_nil ?_
  refine w_seq ?_
  refine w_cond rfl (fun c4 => ?_) (fun c4 => ?_)
  · try simp only [sH] at c4
    have hqr := rd_part (p := 4) (n := 4) (hr.use H 0 rfl) hcp (by omega)
    obtain ⟨qb, qo, hqa, _⟩ := by_cell hqr (j := i) (by omega)
    have hk8 := numB_lt7 (l := ((bs.drop 4).take 4)) (i := i) (by omega)
    have hx := (((bs.drop 4).take 4)[i]'(by omega)).toNat_lt
    refine w_skip ?_
    refine w_seq ?_
    refine w_block ?_
    refine w_seq ?_
    refine w_region ?_
    refine l_v rfl (q_indexSliceE i rfl el_28 rfl hqa rfl rfl (by omega)) ?_
    refine l_v rfl (q_load1 rfl c1_5 rfl (by_at hqa hqr (by omega))) ?_
    first | refine l_p (v := B _) rfl rfl ?_ | refine l_pint rfl rfl ?_
    refine l_nil ?_
    refine w_region ?_
    refine l_pint rfl rfl ?_
    refine l_v rfl (q_pure (u64_shl8 rfl rfl hk8)) ?_
    first | refine l_p (v := B _) rfl rfl ?_ | refine l_pint rfl rfl ?_
    refine l_v rfl (q_convIntIn rfl (by kernel_rfl) in_23 rfl (by simp only [inK]; omega)) ?_
    refine l_v rfl (q_pure (u64_orb rfl rfl hx hk8)) ?_
    refine l_pint rfl rfl ?_
    refine l_nil ?_
    refine w_region ?_
    first | refine l_v rfl (q_add rfl rfl rfl (by simp only [inK]; omega)) ?_ | refine l_pint rfl rfl ?_
    refine l_pint rfl rfl ?_
    refine l_nil ?_
    refine ⟨by repeat' first | exact aM | exact aR | refine aI rfl ?_ | refine aU rfl ?_ | refine aL rfl ?_, ?_⟩
    refine ⟨m - 1, i + 1, by omega, ⟨congrArg N64 (numB_take (by omega)).symm, by exact congrArg (Value.int IntKind.i64) (Int.natCast_succ i).symm, trivial⟩, by omega, H⟩
  try simp only [sH] at c4
  obtain rfl : i = 4 := by omega
  have hqt : ((bs.drop 4).take 4).take 4 = ((bs.drop 4).take 4) := List.take_of_length_le (by omega)
  rw [hqt]
  have hn4 := numB_4 (l := ((bs.drop 4).take 4)) (by omega)
  refine w_exit ?_
  refine w_seq ?_
  refine w_block ?_
  refine w_seq ?_
  refine w_region ?_
  refine l_pslice rfl rfl ?_
  refine l_v rfl (q_lenSlice rfl el_28 rfl) ?_
  refine l_v rfl (q_convIntIn rfl (by kernel_rfl) in_23 rfl (by simp only [inK]; omega)) ?_
  refine l_pint rfl rfl ?_
  first | refine l_v rfl (q_add rfl rfl rfl (by simp only [inK]; omega)) ?_ | refine l_pint rfl rfl ?_
  refine l_pbool rfl rfl ?_
  refine l_pbool rfl rfl ?_
  refine l_nil ?_
  refine w_cond rfl (fun c5 => ?_) (fun c5 => ?_)
  · try simp only [sH] at c5
    refine w_seq ?_
    refine w_region ?_
    refine l_pslice rfl rfl ?_
    refine l_pint rfl rfl ?_
    refine l_nil ?_
    refine w_ret ?_
    refine fin2 rfl rfl ?_
    rw [open_3 h0 h1 h2 (by omega)]
    exact ⟨none, 0, rfl, St.newRow H⟩
  try simp only [sH] at c5
  refine w_seq ?_
  refine w_region ?_
  refine l_pslice rfl rfl ?_
  refine l_v rfl (q_lenSlice rfl el_28 rfl) ?_
  refine l_v rfl (q_convIntIn rfl (by kernel_rfl) in_23 rfl (by simp only [inK]; omega)) ?_
  refine l_pint rfl rfl ?_
  first | refine l_v rfl (q_add rfl rfl rfl (by simp only [inK]; omega)) ?_ | refine l_pint rfl rfl ?_
  refine l_pbool rfl rfl ?_
  refine l_pbool rfl rfl ?_
  refine l_nil ?_
  refine w_cond rfl (fun c6 => ?_) (fun c6 => ?_)
  · try simp only [sH] at c6
    refine w_seq ?_
    refine w_region ?_
    refine l_pslice rfl rfl ?_
    refine l_pint rfl rfl ?_
    refine l_nil ?_
    refine w_ret ?_
    refine fin2 rfl rfl ?_
    rw [open_4 h0 h1 h2 (by omega) (by omega)]
    exact ⟨none, 0, rfl, St.newRow H⟩
  try simp only [sH] at c6
  have h3 : ¬ bs.length < numB ((bs.drop 4).take 4) + 12 := by omega
  have h4 : ¬ numB ((bs.drop 4).take 4) + 12 < bs.length := by omega
  refine w_skip ?_
  refine w_seq ?_
  refine w_region ?_
  refine l_pslice rfl rfl ?_
  refine l_pslice rfl rfl ?_
  refine l_v rfl (q_lenSlice rfl el_28 rfl) ?_
  first | refine l_v rfl (q_sub rfl rfl rfl (by simp only [inK]; omega)) ?_ | refine l_pint rfl rfl ?_
  refine l_v rfl (q_slice (l := 0) (h := bs.length - 4) (m := c) rfl el_28 rfl Bnd.none (by have h := @Bnd.mk .i64 ((bs.length : Int) - 4) bs.length c ⟨by omega, by omega⟩; rwa [show ((bs.length : Int) - 4).toNat = bs.length - 4 by omega] at h) Bnd.none (by simp)) ?_
  refine b_call rfl cb_132 rfl (Crc_ok (bs := bs.take (bs.length - 4)) hN H (rdin_part (p := 0) (n := bs.length - 4) hr hcp (by omega)) (by rw [List.length_take]; omega) (by omega)) (fun v w hv => ?_)
  obtain ⟨rfl, H⟩ := hv
  first | refine l_p (v := U _) rfl rfl ?_ | refine l_pint rfl rfl ?_
  refine l_nil ?_
  refine w_seq ?_
  refine w_seq ?_
  refine w_region ?_
  refine l_pint rfl rfl ?_
  refine l_nil ?_
  refine w_block ?_
  refine w_loopG (G := Nat) [2, 3, 8, 55, 56, 57, 58, 59, 60, 61, 62, 63, 64, 65, 66, 67, 68, 69, 70, 71, 72] (fun i => [(55, .int .i64 ((i : Nat) : Int))]) (fun m i w => m + i = 4 ∧ (bs.drop (bs.length - 4)).take i = (le4 (crcL (bs.take (bs.length - 4)))).take i ∧ St W w F) (fun _ => rfl) ?_ ?_
  · exact ⟨4, 0, ⟨rfl, trivial⟩, rfl, rfl, H⟩
  rintro m i ρ1 w ⟨hmi, hti, H⟩
  refine w_seq ?_
  refine w_region ?_
  refine l_pbool rfl rfl ?_
  refine l_nil ?_
  refine w_seq ?_
  refine w_cond rfl (fun c7 => ?_) (fun c7 => ?_)
  · try simp only [sH] at c7
    have hi4 : i < 4 := by omega
    obtain ⟨bb, bo, hba, _⟩ := by_cell (hr.use H 0 rfl) (j := bs.length - 4 + i) (by omega)
    refine w_skip ?_
    refine w_seq ?_
    refine w_block ?_
    refine w_seq ?_
    refine w_region ?_
    refine l_pint rfl rfl ?_
    refine l_pint rfl rfl ?_
    refine l_nil ?_
    refine w_seq ?_
    refine w_drawT [] [7] [(0, 0), (1, 0), (2, 0), (3, 0), (4, 0), (5, 0), (6, 0), (7, 1), (8, 0), (9, 0), (10, 0), (11, 0), (12, 0), (13, 0)] mixed (by kernel_rfl) (fun _ _ _ h => fin_panic h) H (fun H => ?_)
    refine r_pslice rfl rfl rfl ?_
    refine r_pslice rfl rfl rfl ?_
    refine r_w rfl rfl (fun w => q_lenSlice rfl el_28 rfl) ?_
    first | refine r_w rfl rfl (fun w => q_sub rfl rfl rfl (by simp only [inK]; omega)) ?_ | refine r_pint rfl rfl rfl ?_
    refine r_pint rfl rfl rfl ?_
    first | refine r_w rfl rfl (fun w => q_add rfl rfl rfl (by simp only [inK]; omega)) ?_ | refine r_pint rfl rfl rfl ?_
    refine r_w rfl rfl (fun w => q_indexSliceE (bs.length - 4 + i) rfl el_28 rfl hba rfl (by omega) (by omega)) ?_
    refine r_v rfl rfl (fun w hS => q_load1 rfl c1_5 rfl (by_at (j := bs.length - 4 + i) hba (hr.use hS 0 rfl) (by omega))) ?_
    first | refine r_p (v := U _) rfl rfl rfl ?_ | refine r_pint rfl rfl rfl ?_
    refine r_pint rfl rfl rfl ?_
    first | refine r_w rfl rfl (fun w => q_mul (a := 8) (b := (i : Int)) rfl rfl rfl (by simp only [inK]; omega)) ?_ | refine r_pint rfl rfl rfl ?_
    refine r_w rfl rfl (fun w => q_pure (u_shr (a := (crcL (bs.take (bs.length - 4)))) (n := 8 * i) rfl (congrArg (Value.int .i64) (by omega)) (by omega))) ?_
    refine r_w rfl rfl (fun w => q_lowB rfl (by kernel_rfl) in_5 rfl) ?_
    refine r_pbool rfl rfl rfl ?_
    refine r_nil ?_
    refine w_cond rfl (fun c8 => ?_) (fun c8 => ?_)
    · try simp only [sH] at c8
      refine w_seq ?_
      refine w_region ?_
      refine l_pslice rfl rfl ?_
      refine l_pint rfl rfl ?_
      refine l_nil ?_
      refine w_ret ?_
      refine fin2 rfl rfl ?_
      rw [open_5 h0 h1 h2 h3 h4 (tail_ne (by omega) hi4 (by rw [low_shr _ (k := 8 * i) (by omega)] at c8; omega))]
      exact ⟨none, 0, rfl, St.newRow H⟩
    try simp only [sH] at c8
    refine w_skip ?_
    refine w_region ?_
    first | refine l_v rfl (q_add rfl rfl rfl (by simp only [inK]; omega)) ?_ | refine l_pint rfl rfl ?_
    refine l_pint rfl rfl ?_
    refine l_nil ?_
    refine ⟨by repeat' first | exact aM | exact aR | refine aI rfl ?_ | refine aU rfl ?_ | refine aL rfl ?_, ?_⟩
    refine ⟨m - 1, i + 1, by omega, ⟨by exact congrArg (Value.int IntKind.i64) (Int.natCast_succ i).symm, trivial⟩, by omega, tail_step (i := i) (by omega) hi4 (by rw [low_shr _ (k := 8 * i) (by omega)] at c8; omega) hti, H⟩
  try simp only [sH] at c7
  obtain rfl : i = 4 := by omega
  refine w_exit ?_
  refine w_seq ?_
  refine w_region ?_
  refine l_pslice rfl rfl ?_
  refine l_pslice rfl rfl ?_
  refine l_v rfl (q_lenSlice rfl el_28 rfl) ?_
  first | refine l_v rfl (q_sub rfl rfl rfl (by simp only [inK]; omega)) ?_ | refine l_pint rfl rfl ?_
  refine l_v rfl (q_slice (l := 8) (h := bs.length - 4) (m := c) rfl el_28 rfl Bnd.none (by have h := @Bnd.mk .i64 ((bs.length : Int) - 4) bs.length c ⟨by omega, by omega⟩; rwa [show ((bs.length : Int) - 4).toNat = bs.length - 4 by omega] at h) (Bnd.mk ⟨by omega, by omega⟩) (by simp)) ?_
  refine b_append rfl el_28 ze_5 rfl rfl rfl (St.newRow (T := 5) (sz := 1) H) 0 rfl (ys := ((bs.drop 8).take (bs.length - 12)).map B) (rd_part (p := 8) (n := bs.length - 12) (hr.use H 0 rfl) hcp (by omega)) (by rw [List.length_map, List.length_take, List.length_drop]; omega) (EW.oneB _) ⟨by omega, by simp only [maxLen]; omega⟩ (fun a78 c78 w H => ?_)
  refine l_pslice rfl rfl ?_
  refine l_pint rfl rfl ?_
  refine l_nil ?_
  refine w_ret ?_
  refine fin2 rfl rfl ?_
  rw [open_6 h0 h1 h2 h3 h4 (tail_all (by omega) hti)]
  have hL : ((bs.drop 8).take (bs.length - 12)).length = bs.length - 12 := by rw [List.length_take, List.length_drop]; omega
  rw [Nat.zero_add] at H
  rw [hL]
  refine ⟨a78, c78, congrArg (fun z => Value.tuple #[.slice a78 z c78, I 0]) (by omega), ?_⟩
  have e : bs.length - 4 - 8 = bs.length - 12 := by omega
  rw [e] at H
  exact H
end Go.Proofs.YtfpmnhmdphaceaaDoor
namespace Go.Proofs.YtfpmnhmdphaceaaDoor
open Go.EW
attribute [local irreducible] EW.W EW.L EW.fin block8 outB shaL
set_option linter.unusedVariables false
set_option linter.unusedSimpArgs false
attribute [local irreducible] crcN crcB crcL
end Go.Proofs.YtfpmnhmdphaceaaDoor
