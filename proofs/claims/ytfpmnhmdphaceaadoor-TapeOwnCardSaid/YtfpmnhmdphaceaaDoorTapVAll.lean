/- Walks through the tape's functions. -/
import Derived.Test.YtfpmnhmdphaceaaDoorTadAll
import Derived.Test.YtfpmnhmdphaceaaDoorWordAll
import Derived.Test.YtfpmnhmdphaceaaDoorBaseAll
namespace Go.Proofs.YtfpmnhmdphaceaaDoor
open Go.EW
attribute [local irreducible] EW.W EW.L EW.fin block8 outB shaL
set_option linter.unusedVariables false
set_option linter.unusedSimpArgs false
/-! the wire's numbers, as plain functions -/
def kgo (v : Nat) : Nat → Nat → Nat
  | 0, k => k
  | f + 1, k => bif Nat.beq (v / 2 ^ (8 * k)) 0 then k else kgo v f (k + 1)
def klen (v : Nat) : Nat := kgo v 8 0
def fb (v k : Nat) : Nat → List UInt8
  | 0 => []
  | i + 1 => fb v k i ++ [UInt8.ofNat (v / 2 ^ (8 * (k - 1 - i)))]
def formL (v : Nat) : List UInt8 := UInt8.ofNat (klen v) :: fb v (klen v) (klen v)
theorem fb_len (v k : Nat) : ∀ i, (fb v k i).length = i
  | 0 => rfl
  | i + 1 => by simp [fb, fb_len v k i]
theorem kgo_le (v : Nat) : ∀ f k, kgo v f k ≤ k + f
  | 0, k => Nat.le_refl _
  | f + 1, k => by
    rw [kgo]
    cases Nat.beq (v / 2 ^ (8 * k)) 0 with
    | true => show k ≤ _; omega
    | false => have := kgo_le v f (k + 1); show kgo v f (k + 1) ≤ _; omega
theorem formL_len (v : Nat) : (formL v).length ≤ 9 := by
  have := kgo_le v 8 0
  simp only [formL, List.length_cons, fb_len]
  unfold klen; omega
theorem kgo_stop {v f k : Nat} (h : v / 2 ^ (8 * k) = 0) : kgo v (f + 1) k = k := by rw [kgo, h]; rfl
theorem kgo_on {v f k : Nat} (h : v / 2 ^ (8 * k) ≠ 0) : kgo v (f + 1) k = kgo v f (k + 1) := by
  rw [kgo]
  cases hb : Nat.beq (v / 2 ^ (8 * k)) 0 with
  | true => exact absurd (Nat.eq_of_beq_eq_true hb) h
  | false => rfl
/-- a writer in memory -/
def writerX (rs : List Value) (T : TypeId) (b : Nat) (a : Option Addr) (cap : Nat) (bs : List UInt8) (F : List Seg) : List Seg := blk b (.slice a bs.length cap :: .int .i64 0 :: rs) T :: row 5 1 a bs.length cap (bs.map B) :: F
abbrev writerL (b : Nat) (a : Option Addr) (cap : Nat) (bs : List UInt8) (F : List Seg) : List Seg := writerX [] 82 b a cap bs F
theorem open_ok {W w : World} {F : List Seg} {b : Nat} {a : Option Addr} {cap : Nat} {bs : List UInt8} {rs : List Value} {T : TypeId} (H : St W w (writerX rs T b a cap bs F)) :
    Ok Tryd.prog 94 [.pointer (some ⟨b, 0, none⟩)].toArray w (fun v w' => v = .bool true ∧ St W w' (writerX rs T b a cap bs F)) := by
  refine enter (n := 12) (rs := #[.tmp 2]) Tryd.func94 rfl rfl rfl rfl ?_
  refine w_seq ?_
  refine w_region ?_
  refine l_pbool rfl rfl ?_
  refine l_nil ?_
  refine w_seq ?_
  refine w_region ?_
  refine l_pptr rfl rfl ?_
  refine l_v rfl (q_neqNilF rfl pt_157 rfl rfl) ?_
  refine l_pbool rfl rfl ?_
  refine l_pptr rfl rfl ?_
  refine l_pptr rfl rfl ?_
  refine l_v rfl (q_fieldAddr rfl fo82_1 rfl) ?_
  refine l_v rfl (q_load1 rfl c1_38 rfl (by first | exact H.cell 0 rfl rfl)) ?_
  refine l_pbool rfl rfl ?_
  refine l_pickT (v := .bool _) rfl rfl rfl ?_
  refine l_pbool rfl rfl ?_
  refine l_nil ?_
  refine w_ret ?_
  refine fin1 (v := .bool _) rfl ?_
  exact ⟨rfl, H⟩
theorem put_ok {W w : World} {F : List Seg} {b : Nat} {a : Option Addr} {cap : Nat} {bs : List UInt8} {rs : List Value} {T : TypeId} {v : Nat} (hv : v < 18446744073709551616) (hb : bs.length ≤ 140737488355300) (H : St W w (writerX rs T b a cap bs F)) :
    Ok Tryd.prog 96 [.pointer (some ⟨b, 0, none⟩), N64 v].toArray w (fun r w' => r = .tuple #[] ∧ ∃ a' c', St W w' (writerX rs T b a' c' (bs ++ formL v) F)) := by
  refine enter (n := 50) (rs := #[]) Tryd.func96 rfl rfl rfl rfl ?_
  refine w_seq ?_
  refine w_region ?_
  refine l_pint rfl rfl ?_
  refine l_nil ?_
  refine w_seq ?_
  refine w_block ?_
  refine w_loopG (G := Nat) [4, 6, 7, 8, 9, 10, 11, 12, 13, 14, 15, 16] (fun k => [(4, .int .i64 ((k : Nat) : Int))]) (fun m k w => m + k = 8 ∧ kgo v (8 - k) k = klen v ∧ St W w (writerX rs T b a cap bs F)) (fun _ => rfl) ?_ ?_
  · exact ⟨8, 0, ⟨rfl, trivial⟩, rfl, rfl, H⟩
  rintro m k ρ1 w ⟨hmk, hkl, H⟩
  refine w_seq ?_
  refine w_seq ?_
  refine w_region ?_
  refine l_pint rfl rfl ?_
  refine l_pbool rfl rfl ?_
  refine l_pbool rfl rfl ?_
  refine l_split 8 rfl (fun h8 => ?_) (fun h8 => ?_)
  · try simp only [decide_eq_true_eq, decide_eq_false_iff_not, Bool.not_eq_true', Bool.not_eq_false', beq_iff_eq, beq_eq_false_iff_ne, bne_iff_ne, bne_eq_false_iff_eq, ne_eq, Int.not_lt, Int.not_le] at h8
    refine l_pint rfl rfl ?_
    refine l_pint rfl rfl ?_
    first | refine l_v rfl (q_mul rfl rfl rfl (by simp only [inK]; omega)) ?_ | refine l_pint rfl rfl ?_
    refine l_v rfl (q_pure (u64_shr v (8 * k) rfl rfl rfl (by omega) (by omega))) ?_
    refine l_pbool rfl rfl ?_
    refine l_pickT (v := .bool _) rfl rfl rfl ?_
    refine l_nil ?_
    refine w_cond rfl (fun c1 => ?_) (fun c1 => ?_)
    · try simp only [decide_eq_true_eq, decide_eq_false_iff_not, Bool.not_eq_true', Bool.not_eq_false', beq_iff_eq, beq_eq_false_iff_ne, bne_iff_ne, bne_eq_false_iff_eq, ne_eq, Int.not_lt, Int.not_le] at c1
      refine w_skip ?_
      refine w_block ?_
      refine w_region ?_
      refine l_pint rfl rfl ?_
      first | refine l_v rfl (q_add rfl rfl rfl (by simp only [inK]; omega)) ?_ | refine l_pint rfl rfl ?_
      refine l_pint rfl rfl ?_
      refine l_nil ?_
      refine ⟨by repeat' first | exact Agr.mix _ _ _ | exact Agr.refl _ _ | refine Agr.inner rfl ?_ | refine Agr.upd rfl ?_ | refine Agr.updL' rfl ?_, ?_⟩
      exact ⟨m - 1, k + 1, by omega, ⟨by exact congrArg (Value.int IntKind.i64) (Int.natCast_succ k).symm, trivial⟩, by omega, (by rw [← hkl, show 8 - k = (8 - (k + 1)) + 1 by omega]; exact (kgo_on (by omega)).symm), H⟩
    try simp only [decide_eq_true_eq, decide_eq_false_iff_not, Bool.not_eq_true', Bool.not_eq_false', beq_iff_eq, beq_eq_false_iff_ne, bne_iff_ne, bne_eq_false_iff_eq, ne_eq, Int.not_lt, Int.not_le] at c1
    have ek : k = klen v := by
      rw [← hkl, show 8 - k = (7 - k) + 1 by omega]; exact (kgo_stop (by omega)).symm
    refine w_exit ?_
    refine w_seq ?_
    refine w_region ?_
    refine l_pptr rfl rfl ?_
    refine l_pptr rfl rfl ?_
    refine l_pptr rfl rfl ?_
    refine l_v rfl (q_fieldAddr rfl fo82_0 rfl) ?_
    refine l_v rfl (q_load1 rfl c1_28 rfl (by first | exact H.cell 0 rfl rfl | exact H.cell 1 rfl rfl)) ?_
    refine l_pint rfl rfl ?_
    refine l_v rfl (q_lowN (M := k) rfl (by kernel_rfl) in_5 rfl) ?_
    refine b_buildSlice (cs := [B (UInt8.ofNat k)]) rfl el_28 ze_5 rfl rfl rfl H (fun b24 w H => ?_)
    refine b_append rfl el_28 ze_5 rfl rfl rfl H 2 rfl (Rd.mk (H.cells0 0 rfl)) rfl (fun u hu => by obtain rfl := List.mem_singleton.1 hu; rfl) ⟨by omega, by simp only [maxLen]; omega⟩ (fun a25 c25 w H => ?_)
    refine l_pptr rfl rfl ?_
    refine l_v rfl (q_fieldAddr rfl fo82_0 rfl) ?_
    first | refine b_store rfl sz_28 rfl rfl rfl rfl rfl H 0 rfl rfl rfl (fun w H => ?_) | refine b_store rfl sz_28 rfl rfl rfl rfl rfl H 1 rfl rfl rfl (fun w H => ?_)
    refine l_nil ?_
    refine w_seq ?_
    refine w_region ?_
    refine l_pint rfl rfl ?_
    refine l_pint rfl rfl ?_
    refine l_nil ?_
    refine w_block ?_
    refine w_loopG (G := Nat × Option Addr × Nat) [5, 29, 30, 31, 32, 33, 34, 35, 36, 37, 38, 39, 40, 41, 42, 43, 44, 45, 46, 47, 48, 49] (fun ⟨i, aw, cw⟩ => [(29, .int .i64 ((i : Nat) : Int))]) (fun m ⟨i, aw, cw⟩ w => m + i = k ∧ St W w (blk b (.slice aw (bs ++ UInt8.ofNat k :: fb v k i).length cw :: .int .i64 0 :: rs) T :: row 5 1 aw (bs ++ UInt8.ofNat k :: fb v k i).length cw ((bs ++ UInt8.ofNat k :: fb v k i).map B) :: F)) (fun _ => rfl) ?_ ?_
    · have ek : k = klen v := by
        first
          | assumption
          | (have e8 : k = 8 := by omega
             subst e8; exact hkl)
      refine ⟨k, (0, a25, c25), ⟨rfl, trivial⟩, rfl, ?_⟩
      have e : (bs ++ UInt8.ofNat k :: fb v k 0).length = bs.length + 1 := by simp [fb]
      rw [e, show bs ++ UInt8.ofNat k :: fb v k 0 = bs ++ [UInt8.ofNat k] from rfl, List.map_append]
      exact H.drop1
    rintro m ⟨i, aw, cw⟩ ρ1 w ⟨hmi, H⟩
    have ek : k = klen v := by
      first
        | assumption
        | (have e8 : k = 8 := by omega
           subst e8; exact hkl)
    have hll : (bs ++ UInt8.ofNat k :: fb v k i).length = bs.length + 1 + i := by simp [fb_len]; omega
    refine w_seq ?_
    refine w_region ?_
    refine l_pbool rfl rfl ?_
    refine l_nil ?_
    refine w_seq ?_
    refine w_cond rfl (fun c2 => ?_) (fun c2 => ?_)
    · try simp only [decide_eq_true_eq, decide_eq_false_iff_not, Bool.not_eq_true', Bool.not_eq_false', beq_iff_eq, beq_eq_false_iff_ne, bne_iff_ne, bne_eq_false_iff_eq, ne_eq, Int.not_lt, Int.not_le] at c2
      refine w_skip ?_
      refine w_seq ?_
      refine w_block ?_
      refine w_seq ?_
      refine w_region ?_
      refine l_pint rfl rfl ?_
      refine l_pint rfl rfl ?_
      refine l_nil ?_
      refine w_drawT [14, 17] [4] [(0, 0), (1, 0), (2, 0), (3, 0), (4, 1), (5, 0), (6, 0), (7, 0), (8, 0), (9, 0), (10, 0), (11, 0), (12, 0), (13, 2), (14, 2), (15, 0), (16, 0), (17, 2)] mixed (by kernel_rfl) (fun _ _ _ h => fin_panic h) H (fun H => ?_)
      refine r_pptr rfl rfl rfl ?_
      refine r_pptr rfl rfl rfl ?_
      refine r_pptr rfl rfl rfl ?_
      refine r_w rfl rfl (fun w => q_fieldAddr rfl fo82_0 rfl) ?_
      refine r_v rfl rfl (fun w hS => q_load1 rfl c1_28 rfl (by first | exact hS.cell 0 rfl rfl | exact hS.cell 1 rfl rfl)) ?_
      refine r_pint rfl rfl rfl ?_
      refine r_pint rfl rfl rfl ?_
      first | refine r_w rfl rfl (fun w => q_sub rfl rfl rfl (by simp only [inK]; omega)) ?_ | refine r_pint rfl rfl rfl ?_
      refine r_pint rfl rfl rfl ?_
      first | refine r_w rfl rfl (fun w => q_sub rfl rfl rfl (by simp only [inK]; omega)) ?_ | refine r_pint rfl rfl rfl ?_
      first | refine r_w rfl rfl (fun w => q_mul rfl rfl rfl (by simp only [inK]; omega)) ?_ | refine r_pint rfl rfl rfl ?_
      refine r_w rfl rfl (fun w => q_pure (u64_shr v (8 * (k - 1 - i)) rfl rfl rfl (by omega) (by omega))) ?_
      refine r_w rfl rfl (fun w => q_lowN (M := v / 2 ^ (8 * (k - 1 - i))) rfl (by kernel_rfl) in_5 rfl) ?_
      refine r_do rfl ?_
      refine b_buildSlice (cs := [B (UInt8.ofNat (v / 2 ^ (8 * (k - 1 - i))))]) rfl el_28 ze_5 rfl rfl rfl H (fun b45 w H => ?_)
      refine l_nil ⟨fun _ _ => (by first | exact H | exact H.drop1 | exact H.drop1.drop1 | exact H.drop1.drop1.drop1), ?_⟩
      refine r_do rfl ?_
      refine b_append rfl el_28 ze_5 rfl rfl rfl H 2 rfl (Rd.mk (H.cells0 0 rfl)) rfl (fun u hu => by obtain rfl := List.mem_singleton.1 hu; rfl) ⟨by omega, by simp only [maxLen]; omega⟩ (fun a46 c46 w H => ?_)
      refine l_nil ⟨(fun h => nomatch h), ?_⟩
      refine r_pptr rfl rfl rfl ?_
      refine r_w rfl rfl (fun w => q_fieldAddr rfl fo82_0 rfl) ?_
      refine r_do rfl ?_
      first | refine b_store rfl sz_28 rfl rfl rfl rfl rfl H 0 rfl rfl rfl (fun w H => ?_) | refine b_store rfl sz_28 rfl rfl rfl rfl rfl H 1 rfl rfl rfl (fun w H => ?_)
      refine l_nil ⟨(fun h => nomatch h), ?_⟩
      refine r_nil ?_
      refine w_region ?_
      first | refine l_v rfl (q_add rfl rfl rfl (by simp only [inK]; omega)) ?_ | refine l_pint rfl rfl ?_
      refine l_pint rfl rfl ?_
      refine l_nil ?_
      refine ⟨by repeat' first | exact Agr.mix _ _ _ | exact Agr.refl _ _ | refine Agr.inner rfl ?_ | refine Agr.upd rfl ?_ | refine Agr.updL' rfl ?_, ?_⟩
      refine ⟨m - 1, (i + 1, a46, c46), by omega, ⟨by exact congrArg (Value.int IntKind.i64) (Int.natCast_succ i).symm, trivial⟩, by omega, ?_⟩
      have e : (bs ++ UInt8.ofNat k :: fb v k (i + 1)).length = (bs ++ UInt8.ofNat k :: fb v k i).length + 1 := by simp [fb_len]; omega
      have e2 : bs ++ UInt8.ofNat k :: fb v k (i + 1) = (bs ++ UInt8.ofNat k :: fb v k i) ++ [UInt8.ofNat (v / 2 ^ (8 * (k - 1 - i)))] := by rw [fb]; simp
      rw [e]
      rw [e2, List.map_append]
      exact H.drop1
    try simp only [decide_eq_true_eq, decide_eq_false_iff_not, Bool.not_eq_true', Bool.not_eq_false', beq_iff_eq, beq_eq_false_iff_ne, bne_iff_ne, bne_eq_false_iff_eq, ne_eq, Int.not_lt, Int.not_le] at c2
    refine w_exit ?_
    refine fin0n ⟨rfl, aw, cw, ?_⟩
    obtain rfl : i = k := by omega
    subst ek
    exact H
  try simp only [decide_eq_true_eq, decide_eq_false_iff_not, Bool.not_eq_true', Bool.not_eq_false', beq_iff_eq, beq_eq_false_iff_ne, bne_iff_ne, bne_eq_false_iff_eq, ne_eq, Int.not_lt, Int.not_le] at h8
  refine l_no rfl ?_
  refine l_no rfl ?_
  refine l_no rfl ?_
  refine l_no rfl ?_
  refine l_no rfl ?_
  refine l_pickF (v := .bool _) rfl rfl rfl ?_
  refine l_nil ?_
  refine w_cond_f rfl ?_
  refine w_exit ?_
  refine w_seq ?_
  refine w_region ?_
  refine l_pptr rfl rfl ?_
  refine l_pptr rfl rfl ?_
  refine l_pptr rfl rfl ?_
  refine l_v rfl (q_fieldAddr rfl fo82_0 rfl) ?_
  refine l_v rfl (q_load1 rfl c1_28 rfl (by first | exact H.cell 0 rfl rfl | exact H.cell 1 rfl rfl)) ?_
  refine l_pint rfl rfl ?_
  refine l_v rfl (q_lowN (M := k) rfl (by kernel_rfl) in_5 rfl) ?_
  refine b_buildSlice (cs := [B (UInt8.ofNat k)]) rfl el_28 ze_5 rfl rfl rfl H (fun b24 w H => ?_)
  refine b_append rfl el_28 ze_5 rfl rfl rfl H 2 rfl (Rd.mk (H.cells0 0 rfl)) rfl (fun u hu => by obtain rfl := List.mem_singleton.1 hu; rfl) ⟨by omega, by simp only [maxLen]; omega⟩ (fun a25 c25 w H => ?_)
  refine l_pptr rfl rfl ?_
  refine l_v rfl (q_fieldAddr rfl fo82_0 rfl) ?_
  first | refine b_store rfl sz_28 rfl rfl rfl rfl rfl H 0 rfl rfl rfl (fun w H => ?_) | refine b_store rfl sz_28 rfl rfl rfl rfl rfl H 1 rfl rfl rfl (fun w H => ?_)
  refine l_nil ?_
  refine w_seq ?_
  refine w_region ?_
  refine l_pint rfl rfl ?_
  refine l_pint rfl rfl ?_
  refine l_nil ?_
  refine w_block ?_
  refine w_loopG (G := Nat × Option Addr × Nat) [5, 29, 30, 31, 32, 33, 34, 35, 36, 37, 38, 39, 40, 41, 42, 43, 44, 45, 46, 47, 48, 49] (fun ⟨i, aw, cw⟩ => [(29, .int .i64 ((i : Nat) : Int))]) (fun m ⟨i, aw, cw⟩ w => m + i = k ∧ St W w (blk b (.slice aw (bs ++ UInt8.ofNat k :: fb v k i).length cw :: .int .i64 0 :: rs) T :: row 5 1 aw (bs ++ UInt8.ofNat k :: fb v k i).length cw ((bs ++ UInt8.ofNat k :: fb v k i).map B) :: F)) (fun _ => rfl) ?_ ?_
  · have ek : k = klen v := by
      first
        | assumption
        | (have e8 : k = 8 := by omega
           subst e8; exact hkl)
    refine ⟨k, (0, a25, c25), ⟨rfl, trivial⟩, rfl, ?_⟩
    have e : (bs ++ UInt8.ofNat k :: fb v k 0).length = bs.length + 1 := by simp [fb]
    rw [e, show bs ++ UInt8.ofNat k :: fb v k 0 = bs ++ [UInt8.ofNat k] from rfl, List.map_append]
    exact H.drop1
  rintro m ⟨i, aw, cw⟩ ρ1 w ⟨hmi, H⟩
  have ek : k = klen v := by
    first
      | assumption
      | (have e8 : k = 8 := by omega
         subst e8; exact hkl)
  have hll : (bs ++ UInt8.ofNat k :: fb v k i).length = bs.length + 1 + i := by simp [fb_len]; omega
  refine w_seq ?_
  refine w_region ?_
  refine l_pbool rfl rfl ?_
  refine l_nil ?_
  refine w_seq ?_
  refine w_cond rfl (fun c3 => ?_) (fun c3 => ?_)
  · try simp only [decide_eq_true_eq, decide_eq_false_iff_not, Bool.not_eq_true', Bool.not_eq_false', beq_iff_eq, beq_eq_false_iff_ne, bne_iff_ne, bne_eq_false_iff_eq, ne_eq, Int.not_lt, Int.not_le] at c3
    refine w_skip ?_
    refine w_seq ?_
    refine w_block ?_
    refine w_seq ?_
    refine w_region ?_
    refine l_pint rfl rfl ?_
    refine l_pint rfl rfl ?_
    refine l_nil ?_
    refine w_drawT [14, 17] [4] [(0, 0), (1, 0), (2, 0), (3, 0), (4, 1), (5, 0), (6, 0), (7, 0), (8, 0), (9, 0), (10, 0), (11, 0), (12, 0), (13, 2), (14, 2), (15, 0), (16, 0), (17, 2)] mixed (by kernel_rfl) (fun _ _ _ h => fin_panic h) H (fun H => ?_)
    refine r_pptr rfl rfl rfl ?_
    refine r_pptr rfl rfl rfl ?_
    refine r_pptr rfl rfl rfl ?_
    refine r_w rfl rfl (fun w => q_fieldAddr rfl fo82_0 rfl) ?_
    refine r_v rfl rfl (fun w hS => q_load1 rfl c1_28 rfl (by first | exact hS.cell 0 rfl rfl | exact hS.cell 1 rfl rfl)) ?_
    refine r_pint rfl rfl rfl ?_
    refine r_pint rfl rfl rfl ?_
    first | refine r_w rfl rfl (fun w => q_sub rfl rfl rfl (by simp only [inK]; omega)) ?_ | refine r_pint rfl rfl rfl ?_
    refine r_pint rfl rfl rfl ?_
    first | refine r_w rfl rfl (fun w => q_sub rfl rfl rfl (by simp only [inK]; omega)) ?_ | refine r_pint rfl rfl rfl ?_
    first | refine r_w rfl rfl (fun w => q_mul rfl rfl rfl (by simp only [inK]; omega)) ?_ | refine r_pint rfl rfl rfl ?_
    refine r_w rfl rfl (fun w => q_pure (u64_shr v (8 * (k - 1 - i)) rfl rfl rfl (by omega) (by omega))) ?_
    refine r_w rfl rfl (fun w => q_lowN (M := v / 2 ^ (8 * (k - 1 - i))) rfl (by kernel_rfl) in_5 rfl) ?_
    refine r_do rfl ?_
    refine b_buildSlice (cs := [B (UInt8.ofNat (v / 2 ^ (8 * (k - 1 - i))))]) rfl el_28 ze_5 rfl rfl rfl H (fun b45 w H => ?_)
    refine l_nil ⟨fun _ _ => (by first | exact H | exact H.drop1 | exact H.drop1.drop1 | exact H.drop1.drop1.drop1), ?_⟩
    refine r_do rfl ?_
    refine b_append rfl el_28 ze_5 rfl rfl rfl H 2 rfl (Rd.mk (H.cells0 0 rfl)) rfl (fun u hu => by obtain rfl := List.mem_singleton.1 hu; rfl) ⟨by omega, by simp only [maxLen]; omega⟩ (fun a46 c46 w H => ?_)
    refine l_nil ⟨(fun h => nomatch h), ?_⟩
    refine r_pptr rfl rfl rfl ?_
    refine r_w rfl rfl (fun w => q_fieldAddr rfl fo82_0 rfl) ?_
    refine r_do rfl ?_
    first | refine b_store rfl sz_28 rfl rfl rfl rfl rfl H 0 rfl rfl rfl (fun w H => ?_) | refine b_store rfl sz_28 rfl rfl rfl rfl rfl H 1 rfl rfl rfl (fun w H => ?_)
    refine l_nil ⟨(fun h => nomatch h), ?_⟩
    refine r_nil ?_
    refine w_region ?_
    first | refine l_v rfl (q_add rfl rfl rfl (by simp only [inK]; omega)) ?_ | refine l_pint rfl rfl ?_
    refine l_pint rfl rfl ?_
    refine l_nil ?_
    refine ⟨by repeat' first | exact Agr.mix _ _ _ | exact Agr.refl _ _ | refine Agr.inner rfl ?_ | refine Agr.upd rfl ?_ | refine Agr.updL' rfl ?_, ?_⟩
    refine ⟨m - 1, (i + 1, a46, c46), by omega, ⟨by exact congrArg (Value.int IntKind.i64) (Int.natCast_succ i).symm, trivial⟩, by omega, ?_⟩
    have e : (bs ++ UInt8.ofNat k :: fb v k (i + 1)).length = (bs ++ UInt8.ofNat k :: fb v k i).length + 1 := by simp [fb_len]; omega
    have e2 : bs ++ UInt8.ofNat k :: fb v k (i + 1) = (bs ++ UInt8.ofNat k :: fb v k i) ++ [UInt8.ofNat (v / 2 ^ (8 * (k - 1 - i)))] := by rw [fb]; simp
    rw [e]
    rw [e2, List.map_append]
    exact H.drop1
  try simp only [decide_eq_true_eq, decide_eq_false_iff_not, Bool.not_eq_true', Bool.not_eq_false', beq_iff_eq, beq_eq_false_iff_ne, bne_iff_ne, bne_eq_false_iff_eq, ne_eq, Int.not_lt, Int.not_le] at c3
  refine w_exit ?_
  refine fin0n ⟨rfl, aw, cw, ?_⟩
  obtain rfl : i = k := by omega
  subst ek
  exact H
theorem Number_ok {W w : World} {F : List Seg} {b : Nat} {a : Option Addr} {cap : Nat} {bs : List UInt8} {rs : List Value} {T : TypeId} {v : Nat} (hv : v < 18446744073709551616) (hb : bs.length ≤ 140737488355300) (H : St W w (writerX rs T b a cap bs F)) :
    Ok Tryd.prog 44 [.pointer (some ⟨b, 0, none⟩), N64 v].toArray w (fun r w' => r = .tuple #[] ∧ ∃ a' c', St W w' (writerX rs T b a' c' (bs ++ formL v) F)) := by
  refine enter (n := 9) (rs := #[]) Tryd.func44 rfl rfl rfl rfl ?_
  refine w_seq ?_
  refine w_region ?_
  refine l_pptr rfl rfl ?_
  refine b_call rfl cb_94 rfl (open_ok H) (fun v w hv => ?_)
  obtain ⟨rfl, H⟩ := hv
  refine l_nil ?_
  refine w_cond_t rfl ?_
  refine w_region ?_
  refine l_pptr rfl rfl ?_
  refine l_pint rfl rfl ?_
  refine b_call rfl cb_96 rfl (put_ok hv hb H) (fun v w hv => ?_)
  obtain ⟨rfl, a', c', H⟩ := hv
  refine l_nil ?_
  exact fin0n ⟨rfl, a', c', H⟩
theorem Bytes_ok {W w : World} {F : List Seg} {b : Nat} {a : Option Addr} {cap : Nat} {bs : List UInt8} {rs : List Value} {T : TypeId} (hb : bs.length ≤ 140737488355328) (H : St W w (writerX rs T b a cap bs F)) :
    Ok Tryd.prog 46 [.pointer (some ⟨b, 0, none⟩)].toArray w (fun r w' => ∃ a' c', r = .tuple #[.slice a' bs.length c', .int .i64 0] ∧ St W w' (row 5 1 a' bs.length c' (bs.map B) :: writerX rs T b a cap bs F)) := by
  refine enter (n := 20) (rs := #[.tmp 2, .tmp 3]) Tryd.func46 rfl rfl rfl rfl ?_
  refine w_seq ?_
  refine w_region ?_
  refine l_pslice rfl rfl ?_
  refine l_pint rfl rfl ?_
  refine l_nil ?_
  refine w_seq ?_
  refine w_seq ?_
  refine w_region ?_
  refine l_pptr rfl rfl ?_
  refine l_v rfl (q_eqlNilF rfl pt_157 rfl rfl) ?_
  refine l_nil ?_
  refine w_cond_f rfl ?_
  refine w_skip ?_
  refine w_seq ?_
  refine w_seq ?_
  refine w_region ?_
  refine l_pptr rfl rfl ?_
  refine l_pptr rfl rfl ?_
  refine l_v rfl (q_fieldAddr rfl fo82_1 rfl) ?_
  refine l_v rfl (q_load1 rfl c1_38 rfl (by first | exact H.cell 0 rfl rfl | exact H.cell 1 rfl rfl)) ?_
  refine l_pbool rfl rfl ?_
  refine l_nil ?_
  refine w_cond rfl (fun c1 => ?_) (fun c1 => ?_)
  · try simp only [decide_eq_true_eq, decide_eq_false_iff_not, Bool.not_eq_true', Bool.not_eq_false', beq_iff_eq, beq_eq_false_iff_ne, bne_iff_ne, bne_eq_false_iff_eq, ne_eq, Int.not_lt, Int.not_le] at c1
    exact absurd c1 (by simp)
  try simp only [decide_eq_true_eq, decide_eq_false_iff_not, Bool.not_eq_true', Bool.not_eq_false', beq_iff_eq, beq_eq_false_iff_ne, bne_iff_ne, bne_eq_false_iff_eq, ne_eq, Int.not_lt, Int.not_le] at c1
  refine w_skip ?_
  refine w_seq ?_
  refine w_region ?_
  refine l_pptr rfl rfl ?_
  refine l_pptr rfl rfl ?_
  refine l_v rfl (q_fieldAddr rfl fo82_0 rfl) ?_
  refine l_v rfl (q_load1 rfl c1_28 rfl (by first | exact H.cell 0 rfl rfl | exact H.cell 1 rfl rfl)) ?_
  refine b_append rfl el_28 ze_5 rfl rfl rfl (St.newRow H) 0 rfl (ys := bs.map B) ((H.rowInv (i := 1) rfl).2.2.2.2) (by simp) (oneB _) ⟨by omega, by simp only [maxLen]; omega⟩ (fun a19 c19 w H => ?_)
  refine l_pslice rfl rfl ?_
  refine l_pint rfl rfl ?_
  refine l_nil ?_
  refine w_ret ?_
  refine fin2 rfl rfl ?_
  refine ⟨a19, c19, congrArg (fun x => Value.tuple #[.slice a19 x c19, .int .i64 0]) (Nat.zero_add _), ?_⟩
  have H2 : St W w (row 5 1 a19 (0 + bs.length) c19 ([] ++ bs.map B) :: writerX rs T b a cap bs F) := H
  rw [Nat.zero_add, List.nil_append] at H2
  exact H2
end Go.Proofs.YtfpmnhmdphaceaaDoor
namespace Go.Proofs.YtfpmnhmdphaceaaDoor
open Go.EW
attribute [local irreducible] EW.W EW.L EW.fin block8 outB shaL
set_option linter.unusedVariables false
set_option linter.unusedSimpArgs false
theorem WInt_ok {W w : World} {F : List Seg} {b : Nat} {a : Option Addr} {cap : Nat} {bs : List UInt8} {rs : List Value} {T : TypeId} {n : Nat} (hn : n ≤ 9223372036854775807) (hb : bs.length ≤ 140737488355300) (H : St W w (writerX rs T b a cap bs F)) :
    Ok Tryd.prog 43 [.pointer (some ⟨b, 0, none⟩), .int .i64 (n : Int)].toArray w (fun r w' => r = .tuple #[] ∧ ∃ a' c', St W w' (writerX rs T b a' c' (bs ++ formL n) F)) := by
  refine enter (n := 17) (rs := #[]) Tryd.func43 rfl rfl rfl rfl ?_
  refine w_block ?_
  refine w_seq ?_
  refine w_region ?_
  refine l_pptr rfl rfl ?_
  refine b_call rfl cb_94 rfl (open_ok H) (fun v w hv => ?_)
  obtain ⟨rfl, H⟩ := hv
  refine l_pbool rfl rfl ?_
  refine l_pbool rfl rfl ?_
  refine l_nil ?_
  refine w_cond rfl (fun c1 => ?_) (fun c1 => ?_)
  · try simp only [sH] at c1
    exact absurd c1 (by simp)
  try simp only [sH] at c1
  refine w_seq ?_
  refine w_region ?_
  refine l_pint rfl rfl ?_
  refine l_pbool rfl rfl ?_
  refine l_pbool rfl rfl ?_
  refine l_nil ?_
  refine w_cond rfl (fun c2 => ?_) (fun c2 => ?_)
  · try simp only [sH] at c2
    exact absurd c2 (by omega)
  try simp only [sH] at c2
  refine w_region ?_
  refine l_pptr rfl rfl ?_
  refine l_pint rfl rfl ?_
  refine l_v rfl (q_convIntIn rfl (by kernel_rfl) in_23 rfl (by simp only [inK]; omega)) ?_
  refine b_call rfl cb_96 rfl (put_ok (v := n) (by omega) hb H) (fun v w hv => ?_)
  obtain ⟨rfl, a', c', H⟩ := hv
  refine l_nil ?_
  exact fin0n ⟨rfl, a', c', H⟩
theorem WCount_ok {W w : World} {F : List Seg} {b : Nat} {a : Option Addr} {cap : Nat} {bs : List UInt8} {rs : List Value} {T : TypeId} {n mo : Nat} (hn : n ≤ mo) (hmo : mo ≤ 140737488355328) (hb : bs.length ≤ 140737488355300) (H : St W w (writerX rs T b a cap bs F)) :
    Ok Tryd.prog 97 [.pointer (some ⟨b, 0, none⟩), .int .i64 (n : Int), .int .i64 (mo : Int)].toArray w (fun r w' => r = .tuple #[] ∧ ∃ a' c', St W w' (writerX rs T b a' c' (bs ++ formL n) F)) := by
  refine enter (n := 29) (rs := #[]) Tryd.func97 rfl rfl rfl rfl ?_
  refine w_block ?_
  refine w_seq ?_
  refine w_region ?_
  refine l_pptr rfl rfl ?_
  refine b_call rfl cb_94 rfl (open_ok H) (fun v w hv => ?_)
  obtain ⟨rfl, H⟩ := hv
  refine l_pbool rfl rfl ?_
  refine l_pbool rfl rfl ?_
  refine l_nil ?_
  refine w_cond_f rfl ?_
  refine w_seq ?_
  refine w_region ?_
  refine l_pint rfl rfl ?_
  refine l_pbool rfl rfl ?_
  refine l_pbool rfl rfl ?_
  refine l_split 17 rfl (fun h17 => absurd h17 (by first | (simp; done) | (simp; omega))) (fun h17 => ?_)
  try simp only [sH] at h17
  refine l_pint rfl rfl ?_
  refine l_pbool rfl rfl ?_
  refine l_pickF (v := .bool _) rfl rfl rfl ?_
  refine l_pbool rfl rfl ?_
  refine l_nil ?_
  refine w_cond rfl (fun c1 => ?_) (fun c1 => ?_)
  · try simp only [sH] at c1
    exact absurd c1 (by omega)
  try simp only [sH] at c1
  refine w_seq ?_
  refine w_region ?_
  refine l_pint rfl rfl ?_
  refine l_pint rfl rfl ?_
  refine l_pbool rfl rfl ?_
  refine l_pbool rfl rfl ?_
  refine l_nil ?_
  refine w_cond rfl (fun c2 => ?_) (fun c2 => ?_)
  · try simp only [sH] at c2
    exact absurd c2 (by omega)
  try simp only [sH] at c2
  refine w_region ?_
  refine l_pptr rfl rfl ?_
  refine l_pint rfl rfl ?_
  refine l_v rfl (q_convIntIn rfl (by kernel_rfl) in_23 rfl (by simp only [inK]; omega)) ?_
  refine b_call rfl cb_96 rfl (put_ok (v := n) (by omega) hb H) (fun v w hv => ?_)
  obtain ⟨rfl, a', c', H⟩ := hv
  refine l_nil ?_
  exact fin0n ⟨rfl, a', c', H⟩
theorem WText_ok {W w : World} {F : List Seg} {b : Nat} {a : Option Addr} {cap : Nat} {bs : List UInt8} {rs : List Value} {T : TypeId} {s : ByteArray} {mo : Nat} (hs : s.size ≤ mo) (hmo : mo ≤ 140737488355328) (hb : bs.length ≤ 100000000) (H : St W w (writerX rs T b a cap bs F)) :
    Ok Tryd.prog 45 [.pointer (some ⟨b, 0, none⟩), .string s, .int .i64 (mo : Int)].toArray w (fun r w' => r = .tuple #[] ∧ ∃ a' c', St W w' (writerX rs T b a' c' (bs ++ formL s.size ++ s.data.toList) F)) := by
  refine enter (n := 22) (rs := #[]) Tryd.func45 rfl rfl rfl rfl ?_
  refine w_seq ?_
  refine w_region ?_
  refine l_pptr rfl rfl ?_
  refine l_pstr rfl rfl ?_
  refine l_v rfl (q_lenStr rfl st_9 rfl) ?_
  refine l_pint rfl rfl ?_
  refine b_call rfl cb_97 rfl (WCount_ok hs hmo (by omega) H) (fun v w hv => ?_)
  obtain ⟨rfl, a1, c1, H⟩ := hv
  have hfl := formL_len s.size
  refine l_nil ?_
  refine w_seq ?_
  refine w_region ?_
  refine l_pptr rfl rfl ?_
  refine b_call rfl cb_94 rfl (open_ok H) (fun v w hv => ?_)
  obtain ⟨rfl, H⟩ := hv
  refine l_nil ?_
  refine w_cond_t rfl ?_
  refine w_region ?_
  refine l_pptr rfl rfl ?_
  refine l_pptr rfl rfl ?_
  refine l_pptr rfl rfl ?_
  refine l_v rfl (q_fieldAddr rfl fo82_0 rfl) ?_
  refine l_v rfl (q_load1 rfl c1_28 rfl (by first | exact H.cell 0 rfl rfl | exact H.cell 1 rfl rfl)) ?_
  refine l_pstr rfl rfl ?_
  refine b_appendStr rfl el_28 ze_5 rfl rfl st_9 rfl rfl rfl H 1 rfl ⟨by rw [List.length_append]; omega, by rw [List.length_append]; simp only [maxLen]; omega⟩ (fun a19 c19 w H => ?_)
  refine l_pptr rfl rfl ?_
  refine l_v rfl (q_fieldAddr rfl fo82_0 rfl) ?_
  first | refine b_store rfl sz_28 rfl rfl rfl rfl rfl H 0 rfl rfl rfl (fun w H => ?_) | refine b_store rfl sz_28 rfl rfl rfl rfl rfl H 1 rfl rfl rfl (fun w H => ?_)
  refine l_nil ?_
  refine fin0n ⟨rfl, a19, c19, ?_⟩
  have e : (bs ++ formL s.size ++ s.data.toList).length = (bs ++ formL s.size).length + s.size := by rw [List.length_append, Array.length_toList]; rfl
  unfold writerX
  rw [e, List.map_append (l₁ := bs ++ formL s.size)]
  exact H
end Go.Proofs.YtfpmnhmdphaceaaDoor
