/- The digest's digit and Print, and the reference's, do what their contracts say. -/
import Derived.Test.YtcmmbjplekgihaaDig7
import Derived.Test.YtcmmbjplekgihaaWord2
namespace Go.Proofs.Ytcmmbjplekgihaa
open Go.EW
attribute [local irreducible] EW.W EW.L EW.fin block8 outB parA pgo hexL
set_option linter.unusedVariables false
set_option linter.unusedSimpArgs false
theorem digitI_1 {c : UInt8} (h : 48 ≤ (c.toNat : Int) ∧ (c.toNat : Int) ≤ 57) : (c.toNat : Int) - 48 = digitI c := by unfold digitI; rw [if_pos (by omega)]
theorem digitI_2 {c : UInt8} (h : 97 ≤ (c.toNat : Int) ∧ (c.toNat : Int) ≤ 102) : (c.toNat : Int) - 97 + 10 = digitI c := by unfold digitI; rw [if_neg (by omega), if_pos (by omega)]
theorem digitI_3 {c : UInt8} (h : ¬ (48 ≤ (c.toNat : Int) ∧ (c.toNat : Int) ≤ 57) ∧ ¬ (97 ≤ (c.toNat : Int) ∧ (c.toNat : Int) ≤ 102)) : -1 = digitI c := by unfold digitI; rw [if_neg (by omega), if_neg (by omega)]

theorem digit_ok {w : World} (c : UInt8) :
    Ok Try.prog 38 [B c].toArray w (fun v w' => v = .int .i64 (digitI c) ∧ w' = w) := by
  have hc := c.toNat_lt
  refine enter (n := 24) (rs := #[.tmp 2]) Try.func38 rfl rfl rfl rfl ?_
  refine w_seq ?_
  refine w_region ?_
  refine l_pint rfl rfl ?_
  refine l_nil ?_
  refine w_seq ?_
  refine w_block ?_
  refine w_seq ?_
  refine w_region ?_
  refine l_pint rfl rfl ?_
  refine l_pbool rfl rfl ?_
  refine l_pbool rfl rfl ?_
  refine l_split 6 rfl (fun h6 => ?_) (fun h6 => ?_)
  · try simp only [decide_eq_true_eq, decide_eq_false_iff_not, Bool.not_eq_true', Bool.not_eq_false', beq_iff_eq, beq_eq_false_iff_ne, bne_iff_ne, bne_eq_false_iff_eq, ne_eq, Int.not_lt, Int.not_le] at h6
    refine l_pint rfl rfl ?_
    refine l_pbool rfl rfl ?_
    refine l_pickT (v := .bool _) rfl rfl rfl ?_
    refine l_pbool rfl rfl ?_
    refine l_nil ?_
    refine w_cond rfl (fun c1 => ?_) (fun c1 => ?_)
    · try simp only [decide_eq_true_eq, decide_eq_false_iff_not, Bool.not_eq_true', Bool.not_eq_false', beq_iff_eq, beq_eq_false_iff_ne, bne_iff_ne, bne_eq_false_iff_eq, ne_eq, Int.not_lt, Int.not_le] at c1
      refine w_seq ?_
      refine w_region ?_
      refine l_pint rfl rfl ?_
      first | refine l_v rfl (q_sub rfl rfl rfl (by simp only [inK]; omega)) ?_ | refine l_pint rfl rfl ?_
      refine l_v rfl (q_convIntIn rfl (by kernel_rfl) in_3 rfl (by simp only [inK]; omega)) ?_
      refine l_pint rfl rfl ?_
      refine l_nil ?_
      refine w_ret ?_
      refine fin1 (v := .int _ _) rfl ?_
      first | exact ⟨congrArg (Value.int .i64) (digitI_1 (by omega)), rfl⟩ | exact ⟨congrArg (Value.int .i64) (digitI_2 (by omega)), rfl⟩ | exact ⟨congrArg (Value.int .i64) (digitI_3 (by omega)), rfl⟩
    · try simp only [decide_eq_true_eq, decide_eq_false_iff_not, Bool.not_eq_true', Bool.not_eq_false', beq_iff_eq, beq_eq_false_iff_ne, bne_iff_ne, bne_eq_false_iff_eq, ne_eq, Int.not_lt, Int.not_le] at c1
      refine w_seq ?_
      refine w_region ?_
      refine l_pint rfl rfl ?_
      refine l_pbool rfl rfl ?_
      refine l_pbool rfl rfl ?_
      refine l_split 16 rfl (fun h16 => ?_) (fun h16 => ?_)
      · try simp only [decide_eq_true_eq, decide_eq_false_iff_not, Bool.not_eq_true', Bool.not_eq_false', beq_iff_eq, beq_eq_false_iff_ne, bne_iff_ne, bne_eq_false_iff_eq, ne_eq, Int.not_lt, Int.not_le] at h16
        refine l_pint rfl rfl ?_
        refine l_pbool rfl rfl ?_
        refine l_pickT (v := .bool _) rfl rfl rfl ?_
        refine l_pbool rfl rfl ?_
        refine l_nil ?_
        refine w_cond rfl (fun c2 => ?_) (fun c2 => ?_)
        · try simp only [decide_eq_true_eq, decide_eq_false_iff_not, Bool.not_eq_true', Bool.not_eq_false', beq_iff_eq, beq_eq_false_iff_ne, bne_iff_ne, bne_eq_false_iff_eq, ne_eq, Int.not_lt, Int.not_le] at c2
          refine w_seq ?_
          refine w_region ?_
          refine l_pint rfl rfl ?_
          first | refine l_v rfl (q_sub rfl rfl rfl (by simp only [inK]; omega)) ?_ | refine l_pint rfl rfl ?_
          refine l_v rfl (q_convIntIn rfl (by kernel_rfl) in_3 rfl (by simp only [inK]; omega)) ?_
          first | refine l_v rfl (q_add rfl rfl rfl (by simp only [inK]; omega)) ?_ | refine l_pint rfl rfl ?_
          refine l_pint rfl rfl ?_
          refine l_nil ?_
          refine w_ret ?_
          refine fin1 (v := .int _ _) rfl ?_
          first | exact ⟨congrArg (Value.int .i64) (digitI_1 (by omega)), rfl⟩ | exact ⟨congrArg (Value.int .i64) (digitI_2 (by omega)), rfl⟩ | exact ⟨congrArg (Value.int .i64) (digitI_3 (by omega)), rfl⟩
        · try simp only [decide_eq_true_eq, decide_eq_false_iff_not, Bool.not_eq_true', Bool.not_eq_false', beq_iff_eq, beq_eq_false_iff_ne, bne_iff_ne, bne_eq_false_iff_eq, ne_eq, Int.not_lt, Int.not_le] at c2
          refine w_skip ?_
          refine w_seq ?_
          refine w_region ?_
          refine l_pint rfl rfl ?_
          refine l_nil ?_
          refine w_ret ?_
          refine fin1 (v := .int _ _) rfl ?_
          first | exact ⟨congrArg (Value.int .i64) (digitI_1 (by omega)), rfl⟩ | exact ⟨congrArg (Value.int .i64) (digitI_2 (by omega)), rfl⟩ | exact ⟨congrArg (Value.int .i64) (digitI_3 (by omega)), rfl⟩
      · try simp only [decide_eq_true_eq, decide_eq_false_iff_not, Bool.not_eq_true', Bool.not_eq_false', beq_iff_eq, beq_eq_false_iff_ne, bne_iff_ne, bne_eq_false_iff_eq, ne_eq, Int.not_lt, Int.not_le] at h16
        refine l_no rfl ?_
        refine l_no rfl ?_
        refine l_pickF (v := .bool _) rfl rfl rfl ?_
        refine l_pbool rfl rfl ?_
        refine l_nil ?_
        refine w_cond_f rfl ?_
        refine w_skip ?_
        refine w_seq ?_
        refine w_region ?_
        refine l_pint rfl rfl ?_
        refine l_nil ?_
        refine w_ret ?_
        refine fin1 (v := .int _ _) rfl ?_
        first | exact ⟨congrArg (Value.int .i64) (digitI_1 (by omega)), rfl⟩ | exact ⟨congrArg (Value.int .i64) (digitI_2 (by omega)), rfl⟩ | exact ⟨congrArg (Value.int .i64) (digitI_3 (by omega)), rfl⟩
  · try simp only [decide_eq_true_eq, decide_eq_false_iff_not, Bool.not_eq_true', Bool.not_eq_false', beq_iff_eq, beq_eq_false_iff_ne, bne_iff_ne, bne_eq_false_iff_eq, ne_eq, Int.not_lt, Int.not_le] at h6
    refine l_no rfl ?_
    refine l_no rfl ?_
    refine l_pickF (v := .bool _) rfl rfl rfl ?_
    refine l_pbool rfl rfl ?_
    refine l_nil ?_
    refine w_cond_f rfl ?_
    refine w_seq ?_
    refine w_region ?_
    refine l_pint rfl rfl ?_
    refine l_pbool rfl rfl ?_
    refine l_pbool rfl rfl ?_
    refine l_split 16 rfl (fun h16 => ?_) (fun h16 => ?_)
    · try simp only [decide_eq_true_eq, decide_eq_false_iff_not, Bool.not_eq_true', Bool.not_eq_false', beq_iff_eq, beq_eq_false_iff_ne, bne_iff_ne, bne_eq_false_iff_eq, ne_eq, Int.not_lt, Int.not_le] at h16
      refine l_pint rfl rfl ?_
      refine l_pbool rfl rfl ?_
      refine l_pickT (v := .bool _) rfl rfl rfl ?_
      refine l_pbool rfl rfl ?_
      refine l_nil ?_
      refine w_cond rfl (fun c3 => ?_) (fun c3 => ?_)
      · try simp only [decide_eq_true_eq, decide_eq_false_iff_not, Bool.not_eq_true', Bool.not_eq_false', beq_iff_eq, beq_eq_false_iff_ne, bne_iff_ne, bne_eq_false_iff_eq, ne_eq, Int.not_lt, Int.not_le] at c3
        refine w_seq ?_
        refine w_region ?_
        refine l_pint rfl rfl ?_
        first | refine l_v rfl (q_sub rfl rfl rfl (by simp only [inK]; omega)) ?_ | refine l_pint rfl rfl ?_
        refine l_v rfl (q_convIntIn rfl (by kernel_rfl) in_3 rfl (by simp only [inK]; omega)) ?_
        first | refine l_v rfl (q_add rfl rfl rfl (by simp only [inK]; omega)) ?_ | refine l_pint rfl rfl ?_
        refine l_pint rfl rfl ?_
        refine l_nil ?_
        refine w_ret ?_
        refine fin1 (v := .int _ _) rfl ?_
        first | exact ⟨congrArg (Value.int .i64) (digitI_1 (by omega)), rfl⟩ | exact ⟨congrArg (Value.int .i64) (digitI_2 (by omega)), rfl⟩ | exact ⟨congrArg (Value.int .i64) (digitI_3 (by omega)), rfl⟩
      · try simp only [decide_eq_true_eq, decide_eq_false_iff_not, Bool.not_eq_true', Bool.not_eq_false', beq_iff_eq, beq_eq_false_iff_ne, bne_iff_ne, bne_eq_false_iff_eq, ne_eq, Int.not_lt, Int.not_le] at c3
        refine w_skip ?_
        refine w_seq ?_
        refine w_region ?_
        refine l_pint rfl rfl ?_
        refine l_nil ?_
        refine w_ret ?_
        refine fin1 (v := .int _ _) rfl ?_
        first | exact ⟨congrArg (Value.int .i64) (digitI_1 (by omega)), rfl⟩ | exact ⟨congrArg (Value.int .i64) (digitI_2 (by omega)), rfl⟩ | exact ⟨congrArg (Value.int .i64) (digitI_3 (by omega)), rfl⟩
    · try simp only [decide_eq_true_eq, decide_eq_false_iff_not, Bool.not_eq_true', Bool.not_eq_false', beq_iff_eq, beq_eq_false_iff_ne, bne_iff_ne, bne_eq_false_iff_eq, ne_eq, Int.not_lt, Int.not_le] at h16
      refine l_no rfl ?_
      refine l_no rfl ?_
      refine l_pickF (v := .bool _) rfl rfl rfl ?_
      refine l_pbool rfl rfl ?_
      refine l_nil ?_
      refine w_cond_f rfl ?_
      refine w_skip ?_
      refine w_seq ?_
      refine w_region ?_
      refine l_pint rfl rfl ?_
      refine l_nil ?_
      refine w_ret ?_
      refine fin1 (v := .int _ _) rfl ?_
      first | exact ⟨congrArg (Value.int .i64) (digitI_1 (by omega)), rfl⟩ | exact ⟨congrArg (Value.int .i64) (digitI_2 (by omega)), rfl⟩ | exact ⟨congrArg (Value.int .i64) (digitI_3 (by omega)), rfl⟩

theorem rdigit_ok {w : World} (c : UInt8) :
    Ok Try.prog 39 [B c].toArray w (fun v w' => v = .int .i64 (digitI c) ∧ w' = w) := by
  have hc := c.toNat_lt
  refine enter (n := 24) (rs := #[.tmp 2]) Try.func39 rfl rfl rfl rfl ?_
  refine w_seq ?_
  refine w_region ?_
  refine l_pint rfl rfl ?_
  refine l_nil ?_
  refine w_seq ?_
  refine w_block ?_
  refine w_seq ?_
  refine w_region ?_
  refine l_pint rfl rfl ?_
  refine l_pbool rfl rfl ?_
  refine l_pbool rfl rfl ?_
  refine l_split 6 rfl (fun h6 => ?_) (fun h6 => ?_)
  · try simp only [decide_eq_true_eq, decide_eq_false_iff_not, Bool.not_eq_true', Bool.not_eq_false', beq_iff_eq, beq_eq_false_iff_ne, bne_iff_ne, bne_eq_false_iff_eq, ne_eq, Int.not_lt, Int.not_le] at h6
    refine l_pint rfl rfl ?_
    refine l_pbool rfl rfl ?_
    refine l_pickT (v := .bool _) rfl rfl rfl ?_
    refine l_pbool rfl rfl ?_
    refine l_nil ?_
    refine w_cond rfl (fun c1 => ?_) (fun c1 => ?_)
    · try simp only [decide_eq_true_eq, decide_eq_false_iff_not, Bool.not_eq_true', Bool.not_eq_false', beq_iff_eq, beq_eq_false_iff_ne, bne_iff_ne, bne_eq_false_iff_eq, ne_eq, Int.not_lt, Int.not_le] at c1
      refine w_seq ?_
      refine w_region ?_
      refine l_pint rfl rfl ?_
      first | refine l_v rfl (q_sub rfl rfl rfl (by simp only [inK]; omega)) ?_ | refine l_pint rfl rfl ?_
      refine l_v rfl (q_convIntIn rfl (by kernel_rfl) in_3 rfl (by simp only [inK]; omega)) ?_
      refine l_pint rfl rfl ?_
      refine l_nil ?_
      refine w_ret ?_
      refine fin1 (v := .int _ _) rfl ?_
      first | exact ⟨congrArg (Value.int .i64) (digitI_1 (by omega)), rfl⟩ | exact ⟨congrArg (Value.int .i64) (digitI_2 (by omega)), rfl⟩ | exact ⟨congrArg (Value.int .i64) (digitI_3 (by omega)), rfl⟩
    · try simp only [decide_eq_true_eq, decide_eq_false_iff_not, Bool.not_eq_true', Bool.not_eq_false', beq_iff_eq, beq_eq_false_iff_ne, bne_iff_ne, bne_eq_false_iff_eq, ne_eq, Int.not_lt, Int.not_le] at c1
      refine w_seq ?_
      refine w_region ?_
      refine l_pint rfl rfl ?_
      refine l_pbool rfl rfl ?_
      refine l_pbool rfl rfl ?_
      refine l_split 16 rfl (fun h16 => ?_) (fun h16 => ?_)
      · try simp only [decide_eq_true_eq, decide_eq_false_iff_not, Bool.not_eq_true', Bool.not_eq_false', beq_iff_eq, beq_eq_false_iff_ne, bne_iff_ne, bne_eq_false_iff_eq, ne_eq, Int.not_lt, Int.not_le] at h16
        refine l_pint rfl rfl ?_
        refine l_pbool rfl rfl ?_
        refine l_pickT (v := .bool _) rfl rfl rfl ?_
        refine l_pbool rfl rfl ?_
        refine l_nil ?_
        refine w_cond rfl (fun c2 => ?_) (fun c2 => ?_)
        · try simp only [decide_eq_true_eq, decide_eq_false_iff_not, Bool.not_eq_true', Bool.not_eq_false', beq_iff_eq, beq_eq_false_iff_ne, bne_iff_ne, bne_eq_false_iff_eq, ne_eq, Int.not_lt, Int.not_le] at c2
          refine w_seq ?_
          refine w_region ?_
          refine l_pint rfl rfl ?_
          first | refine l_v rfl (q_sub rfl rfl rfl (by simp only [inK]; omega)) ?_ | refine l_pint rfl rfl ?_
          refine l_v rfl (q_convIntIn rfl (by kernel_rfl) in_3 rfl (by simp only [inK]; omega)) ?_
          first | refine l_v rfl (q_add rfl rfl rfl (by simp only [inK]; omega)) ?_ | refine l_pint rfl rfl ?_
          refine l_pint rfl rfl ?_
          refine l_nil ?_
          refine w_ret ?_
          refine fin1 (v := .int _ _) rfl ?_
          first | exact ⟨congrArg (Value.int .i64) (digitI_1 (by omega)), rfl⟩ | exact ⟨congrArg (Value.int .i64) (digitI_2 (by omega)), rfl⟩ | exact ⟨congrArg (Value.int .i64) (digitI_3 (by omega)), rfl⟩
        · try simp only [decide_eq_true_eq, decide_eq_false_iff_not, Bool.not_eq_true', Bool.not_eq_false', beq_iff_eq, beq_eq_false_iff_ne, bne_iff_ne, bne_eq_false_iff_eq, ne_eq, Int.not_lt, Int.not_le] at c2
          refine w_skip ?_
          refine w_seq ?_
          refine w_region ?_
          refine l_pint rfl rfl ?_
          refine l_nil ?_
          refine w_ret ?_
          refine fin1 (v := .int _ _) rfl ?_
          first | exact ⟨congrArg (Value.int .i64) (digitI_1 (by omega)), rfl⟩ | exact ⟨congrArg (Value.int .i64) (digitI_2 (by omega)), rfl⟩ | exact ⟨congrArg (Value.int .i64) (digitI_3 (by omega)), rfl⟩
      · try simp only [decide_eq_true_eq, decide_eq_false_iff_not, Bool.not_eq_true', Bool.not_eq_false', beq_iff_eq, beq_eq_false_iff_ne, bne_iff_ne, bne_eq_false_iff_eq, ne_eq, Int.not_lt, Int.not_le] at h16
        refine l_no rfl ?_
        refine l_no rfl ?_
        refine l_pickF (v := .bool _) rfl rfl rfl ?_
        refine l_pbool rfl rfl ?_
        refine l_nil ?_
        refine w_cond_f rfl ?_
        refine w_skip ?_
        refine w_seq ?_
        refine w_region ?_
        refine l_pint rfl rfl ?_
        refine l_nil ?_
        refine w_ret ?_
        refine fin1 (v := .int _ _) rfl ?_
        first | exact ⟨congrArg (Value.int .i64) (digitI_1 (by omega)), rfl⟩ | exact ⟨congrArg (Value.int .i64) (digitI_2 (by omega)), rfl⟩ | exact ⟨congrArg (Value.int .i64) (digitI_3 (by omega)), rfl⟩
  · try simp only [decide_eq_true_eq, decide_eq_false_iff_not, Bool.not_eq_true', Bool.not_eq_false', beq_iff_eq, beq_eq_false_iff_ne, bne_iff_ne, bne_eq_false_iff_eq, ne_eq, Int.not_lt, Int.not_le] at h6
    refine l_no rfl ?_
    refine l_no rfl ?_
    refine l_pickF (v := .bool _) rfl rfl rfl ?_
    refine l_pbool rfl rfl ?_
    refine l_nil ?_
    refine w_cond_f rfl ?_
    refine w_seq ?_
    refine w_region ?_
    refine l_pint rfl rfl ?_
    refine l_pbool rfl rfl ?_
    refine l_pbool rfl rfl ?_
    refine l_split 16 rfl (fun h16 => ?_) (fun h16 => ?_)
    · try simp only [decide_eq_true_eq, decide_eq_false_iff_not, Bool.not_eq_true', Bool.not_eq_false', beq_iff_eq, beq_eq_false_iff_ne, bne_iff_ne, bne_eq_false_iff_eq, ne_eq, Int.not_lt, Int.not_le] at h16
      refine l_pint rfl rfl ?_
      refine l_pbool rfl rfl ?_
      refine l_pickT (v := .bool _) rfl rfl rfl ?_
      refine l_pbool rfl rfl ?_
      refine l_nil ?_
      refine w_cond rfl (fun c3 => ?_) (fun c3 => ?_)
      · try simp only [decide_eq_true_eq, decide_eq_false_iff_not, Bool.not_eq_true', Bool.not_eq_false', beq_iff_eq, beq_eq_false_iff_ne, bne_iff_ne, bne_eq_false_iff_eq, ne_eq, Int.not_lt, Int.not_le] at c3
        refine w_seq ?_
        refine w_region ?_
        refine l_pint rfl rfl ?_
        first | refine l_v rfl (q_sub rfl rfl rfl (by simp only [inK]; omega)) ?_ | refine l_pint rfl rfl ?_
        refine l_v rfl (q_convIntIn rfl (by kernel_rfl) in_3 rfl (by simp only [inK]; omega)) ?_
        first | refine l_v rfl (q_add rfl rfl rfl (by simp only [inK]; omega)) ?_ | refine l_pint rfl rfl ?_
        refine l_pint rfl rfl ?_
        refine l_nil ?_
        refine w_ret ?_
        refine fin1 (v := .int _ _) rfl ?_
        first | exact ⟨congrArg (Value.int .i64) (digitI_1 (by omega)), rfl⟩ | exact ⟨congrArg (Value.int .i64) (digitI_2 (by omega)), rfl⟩ | exact ⟨congrArg (Value.int .i64) (digitI_3 (by omega)), rfl⟩
      · try simp only [decide_eq_true_eq, decide_eq_false_iff_not, Bool.not_eq_true', Bool.not_eq_false', beq_iff_eq, beq_eq_false_iff_ne, bne_iff_ne, bne_eq_false_iff_eq, ne_eq, Int.not_lt, Int.not_le] at c3
        refine w_skip ?_
        refine w_seq ?_
        refine w_region ?_
        refine l_pint rfl rfl ?_
        refine l_nil ?_
        refine w_ret ?_
        refine fin1 (v := .int _ _) rfl ?_
        first | exact ⟨congrArg (Value.int .i64) (digitI_1 (by omega)), rfl⟩ | exact ⟨congrArg (Value.int .i64) (digitI_2 (by omega)), rfl⟩ | exact ⟨congrArg (Value.int .i64) (digitI_3 (by omega)), rfl⟩
    · try simp only [decide_eq_true_eq, decide_eq_false_iff_not, Bool.not_eq_true', Bool.not_eq_false', beq_iff_eq, beq_eq_false_iff_ne, bne_iff_ne, bne_eq_false_iff_eq, ne_eq, Int.not_lt, Int.not_le] at h16
      refine l_no rfl ?_
      refine l_no rfl ?_
      refine l_pickF (v := .bool _) rfl rfl rfl ?_
      refine l_pbool rfl rfl ?_
      refine l_nil ?_
      refine w_cond_f rfl ?_
      refine w_skip ?_
      refine w_seq ?_
      refine w_region ?_
      refine l_pint rfl rfl ?_
      refine l_nil ?_
      refine w_ret ?_
      refine fin1 (v := .int _ _) rfl ?_
      first | exact ⟨congrArg (Value.int .i64) (digitI_1 (by omega)), rfl⟩ | exact ⟨congrArg (Value.int .i64) (digitI_2 (by omega)), rfl⟩ | exact ⟨congrArg (Value.int .i64) (digitI_3 (by omega)), rfl⟩

theorem num_ok {w : World} (a : Int) :
    Ok Try.prog 25 [.int .i64 a].toArray w (fun v w' => v = .int .i64 a ∧ w' = w) := by
  refine enter (n := 4) (rs := #[.tmp 2]) Try.func25 rfl rfl rfl rfl ?_
  refine w_seq ?_
  refine w_region ?_
  refine l_pint rfl rfl ?_
  refine l_nil ?_
  refine w_seq ?_
  refine w_region ?_
  refine l_pint rfl rfl ?_
  refine l_pint rfl rfl ?_
  refine l_nil ?_
  refine w_ret ?_
  refine fin1 (v := .int _ _) rfl ?_
  exact ⟨rfl, rfl⟩

theorem Print_ok {W w : World} {F : List Seg} (H : St W w F) {h : List UInt8} (hh : h.length = 32) :
    Ok Try.prog 23 [.agg (h.map B).toArray].toArray w (fun v w' => v = .string ⟨(hexL h).toArray⟩ ∧ St W w' F) := by
  refine enter (n := 22) (rs := #[.tmp 2]) Try.func23 rfl rfl rfl rfl ?_
  refine w_seq ?_
  refine w_region ?_
  refine b_box rfl rfl rfl H (fun b1 w H => ?_)
  refine l_pstr rfl rfl ?_
  refine l_nil ?_
  refine w_seq ?_
  refine w_region ?_
  refine l_pslice rfl rfl ?_
  refine l_nil ?_
  refine w_seq ?_
  refine w_seq ?_
  refine w_region ?_
  refine l_v rfl (q_loadN (vs := h.map B) rfl ag_32 rfl (by simp [hh]) (H.cells 0 rfl)) ?_
  refine l_pint rfl rfl ?_
  refine l_nil ?_
  refine w_block ?_
  refine w_loopG (G := Nat × Option Addr × Nat × List UInt8) [3, 5, 7, 8, 9, 10, 11, 12, 13, 14, 15, 16, 17, 18, 19] (fun ⟨i, a3, c3, l⟩ => [(7, .int .i64 ((i : Nat) : Int)), (3, .slice a3 l.length c3)]) (fun m ⟨i, a3, c3, l⟩ w => m + i = 32 ∧ l = hexL (h.take i) ∧ St W w (row 5 1 a3 l.length c3 (l.map B) :: blk b1 (h.map B) 32 :: F)) (fun _ => rfl) ?_ ?_
  · exact ⟨32, (0, none, 0, []), ⟨rfl, rfl, trivial⟩, rfl, by rw [List.take_zero]; unfold hexL; rfl, St.newRow H⟩
  · rintro m ⟨i, a3, c3, l⟩ ρ1 w ⟨hmi, hli, H⟩
    have hll : l.length = 2 * i := by rw [hli, hexL_len, List.length_take]; omega
    refine w_seq ?_
    refine w_region ?_
    refine l_pbool rfl rfl ?_
    refine l_nil ?_
    refine w_seq ?_
    refine w_cond rfl (fun c1 => ?_) (fun c1 => ?_)
    · try simp only [decide_eq_true_eq, decide_eq_false_iff_not, Bool.not_eq_true', Bool.not_eq_false', beq_iff_eq, beq_eq_false_iff_ne, bne_iff_ne, bne_eq_false_iff_eq, ne_eq, Int.not_lt, Int.not_le] at c1
      refine w_skip ?_
      refine w_seq ?_
      refine w_block ?_
      refine w_seq ?_
      refine w_region ?_
      refine l_v rfl (q_indexAgg1 (cs := h.map B) (v := B (h.getD i 0)) rfl ar_32 c1_5 rfl rfl ⟨by omega, by omega⟩ (get_B (by omega))) ?_
      first | refine l_p (v := B _) rfl rfl ?_ | refine l_pint rfl rfl ?_
      refine l_nil ?_
      refine w_drawT [7, 8] [] [(0, 0), (1, 0), (2, 0), (3, 0), (4, 0), (5, 0), (6, 0), (7, 2), (8, 2), (9, 0)] mixed (by kernel_rfl) (fun _ _ _ h => fin_panic h) H (fun H => ?_)
      refine r_pslice rfl rfl rfl ?_
      first | refine r_p (v := B _) rfl rfl rfl ?_ | refine r_pint rfl rfl rfl ?_
      refine r_w rfl rfl (fun w => q_pure (v_shr (n := 4) rfl rfl (by first | decide | omega))) ?_
      refine r_w rfl rfl (fun w => q_indexStr rfl st_9 rfl rfl ⟨by omega, dig_hi _⟩) ?_
      first | refine r_p (v := B _) rfl rfl rfl ?_ | refine r_pint rfl rfl rfl ?_
      refine r_w rfl rfl (fun w => q_pure (v_and (d := 15) rfl rfl)) ?_
      refine r_w rfl rfl (fun w => q_indexStr rfl st_9 rfl rfl ⟨by omega, dig_lo _⟩) ?_
      refine r_do rfl ?_
      refine b_buildSlice (cs := (hex1 (h.getD i 0)).map B) rfl el_22 ze_5 rfl rfl rfl H (fun b17 w H => ?_)
      refine l_nil ⟨(fun h => nomatch h), ?_⟩
      refine r_do rfl ?_
      refine b_append rfl el_22 ze_5 rfl rfl rfl H 1 rfl (ys := (hex1 (h.getD i 0)).map B) (Rd.mk (H.cells0 0 rfl)) rfl (oneB _) ⟨by omega, by simp only [maxLen]; omega⟩ (fun a18 c18 w H => ?_)
      refine l_nil ⟨(fun h => nomatch h), ?_⟩
      refine r_pslice rfl rfl rfl ?_
      refine r_nil ?_
      refine w_region ?_
      first | refine l_v rfl (q_add rfl rfl rfl (by simp only [inK]; omega)) ?_ | refine l_pint rfl rfl ?_
      refine l_pint rfl rfl ?_
      refine l_nil ?_
      refine ⟨by repeat' first | exact Agr.mix _ _ _ | exact Agr.refl _ _ | refine Agr.inner rfl ?_ | refine Agr.upd rfl ?_ | refine Agr.updL' rfl ?_, ?_⟩
      refine ⟨m - 1, (i + 1, a18, c18, l ++ hex1 (h.getD i 0)), by omega, ⟨by exact congrArg (Value.int IntKind.i64) (Int.natCast_succ i).symm, by exact congrArg (fun x => Value.slice a18 x c18) (by simp [hex1]), trivial⟩, by omega, by rw [hli, hexL_snoc h (by omega)], ?_⟩
      have H2 : St W w (row 5 1 a18 (l.length + 2) c18 (l.map B ++ (hex1 (h.getD i 0)).map B) :: blk b1 (h.map B) 32 :: F) := H.drop1
      rw [← List.map_append] at H2
      exact (by simpa [hex1] using H2)
    · try simp only [decide_eq_true_eq, decide_eq_false_iff_not, Bool.not_eq_true', Bool.not_eq_false', beq_iff_eq, beq_eq_false_iff_ne, bne_iff_ne, bne_eq_false_iff_eq, ne_eq, Int.not_lt, Int.not_le] at c1
      refine w_exit ?_
      refine w_seq ?_
      refine w_region ?_
      refine l_pslice rfl rfl ?_
      refine l_v rfl (q_bytesStr rfl by_22 st_9 rfl ((H.rowInv (i := 0) rfl).2.2.2.2) rfl) ?_
      refine l_pstr rfl rfl ?_
      refine l_nil ?_
      refine w_ret ?_
      refine fin1 (v := .string _) rfl ?_
      obtain rfl : i = 32 := by omega
      rw [List.take_of_length_le (by omega)] at hli
      subst hli
      exact ⟨rfl, H.erase 1 |>.erase 0⟩

theorem rPrint_ok {W w : World} {F : List Seg} (H : St W w F) {h : List UInt8} (hh : h.length = 32) :
    Ok Try.prog 24 [.agg (h.map B).toArray].toArray w (fun v w' => v = .string ⟨(hexL h).toArray⟩ ∧ St W w' F) := by
  refine enter (n := 24) (rs := #[.tmp 2]) Try.func24 rfl rfl rfl rfl ?_
  refine w_seq ?_
  refine w_region ?_
  refine b_box rfl rfl rfl H (fun b1 w H => ?_)
  refine l_pstr rfl rfl ?_
  refine l_nil ?_
  refine w_seq ?_
  refine w_region ?_
  refine l_pslice rfl rfl ?_
  refine l_nil ?_
  refine w_seq ?_
  refine w_seq ?_
  refine w_region ?_
  refine l_pint rfl rfl ?_
  refine l_nil ?_
  refine w_block ?_
  refine w_loopG (G := Nat × Option Addr × Nat × List UInt8) [3, 4, 5, 6, 7, 8, 9, 10, 11, 12, 13, 14, 15, 16, 17, 18, 19, 20, 21] (fun ⟨i, a3, c3, l⟩ => [(4, .int .i64 ((i : Nat) : Int)), (3, .slice a3 l.length c3)]) (fun m ⟨i, a3, c3, l⟩ w => m + i = 32 ∧ l = hexL (h.take i) ∧ St W w (row 5 1 a3 l.length c3 (l.map B) :: blk b1 (h.map B) 32 :: F)) (fun _ => rfl) ?_ ?_
  · exact ⟨32, (0, none, 0, []), ⟨rfl, rfl, trivial⟩, rfl, by rw [List.take_zero]; unfold hexL; rfl, St.newRow H⟩
  · rintro m ⟨i, a3, c3, l⟩ ρ1 w ⟨hmi, hli, H⟩
    have hll : l.length = 2 * i := by rw [hli, hexL_len, List.length_take]; omega
    refine w_seq ?_
    refine w_seq ?_
    refine w_region ?_
    refine l_pint rfl rfl ?_
    refine l_pbool rfl rfl ?_
    refine l_nil ?_
    refine w_cond rfl (fun c1 => ?_) (fun c1 => ?_)
    · try simp only [decide_eq_true_eq, decide_eq_false_iff_not, Bool.not_eq_true', Bool.not_eq_false', beq_iff_eq, beq_eq_false_iff_ne, bne_iff_ne, bne_eq_false_iff_eq, ne_eq, Int.not_lt, Int.not_le] at c1
      refine w_skip ?_
      refine w_seq ?_
      refine w_block ?_
      refine w_drawT [11, 12] [3, 8] [(0, 0), (1, 0), (2, 0), (3, 1), (4, 0), (5, 0), (6, 0), (7, 0), (8, 1), (9, 0), (10, 0), (11, 2), (12, 2), (13, 0)] mixed (by kernel_rfl) (fun _ _ _ h => fin_panic h) H (fun H => ?_)
      refine r_pslice rfl rfl rfl ?_
      refine r_pint rfl rfl rfl ?_
      refine r_w rfl rfl (fun w => q_indexArrE i rfl ar_32 rfl rfl rfl (by omega)) ?_
      refine r_v rfl rfl (fun w hS => q_load1 rfl c1_5 rfl (arr_cellB (hS.cells 1 rfl) (by omega))) ?_
      refine r_w rfl rfl (fun w => q_quo (k := .u8) (a := ((h.getD i 0).toNat : Int)) rfl rfl rfl (by omega) (by rw [show (16 : Int) = ((16 : Nat) : Int) from rfl, tdivN]; have := (h.getD i 0).toNat_lt; simp only [inK]; omega)) ?_
      refine r_w rfl rfl (fun w => q_indexStr rfl st_9 rfl rfl ⟨by rw [show (16 : Int) = ((16 : Nat) : Int) from rfl, tdivN]; omega, dig_hi2 _⟩) ?_
      refine r_pint rfl rfl rfl ?_
      refine r_w rfl rfl (fun w => q_indexArrE i rfl ar_32 rfl rfl rfl (by omega)) ?_
      refine r_v rfl rfl (fun w hS => q_load1 rfl c1_5 rfl (arr_cellB (hS.cells 1 rfl) (by omega))) ?_
      refine r_w rfl rfl (fun w => q_rem (k := .u8) (a := ((h.getD i 0).toNat : Int)) rfl rfl rfl (by omega)) ?_
      refine r_w rfl rfl (fun w => q_indexStr rfl st_9 rfl rfl ⟨by rw [show (16 : Int) = ((16 : Nat) : Int) from rfl, tmodN]; omega, dig_lo2 _⟩) ?_
      refine r_do rfl ?_
      refine b_buildSlice (cs := (hex1 (h.getD i 0)).map B) rfl el_22 ze_5 rfl rfl rfl H (fun b20 w H => ?_)
      refine l_nil ⟨(fun h => nomatch h), ?_⟩
      refine r_do rfl ?_
      refine b_append rfl el_22 ze_5 rfl rfl rfl H 1 rfl (ys := (hex1 (h.getD i 0)).map B) (Rd.mk (H.cells0 0 rfl)) rfl (oneB _) ⟨by omega, by simp only [maxLen]; omega⟩ (fun a21 c21 w H => ?_)
      refine l_nil ⟨(fun h => nomatch h), ?_⟩
      refine r_pslice rfl rfl rfl ?_
      refine r_nil ?_
      refine w_region ?_
      refine l_pint rfl rfl ?_
      first | refine l_v rfl (q_add rfl rfl rfl (by simp only [inK]; omega)) ?_ | refine l_pint rfl rfl ?_
      refine l_pint rfl rfl ?_
      refine l_nil ?_
      refine ⟨by repeat' first | exact Agr.mix _ _ _ | exact Agr.refl _ _ | refine Agr.inner rfl ?_ | refine Agr.upd rfl ?_ | refine Agr.updL' rfl ?_, ?_⟩
      refine ⟨m - 1, (i + 1, a21, c21, l ++ hex1 (h.getD i 0)), by omega, ⟨by exact congrArg (Value.int IntKind.i64) (Int.natCast_succ i).symm, by exact congrArg (fun x => Value.slice a21 x c21) (by simp [hex1]), trivial⟩, by omega, by rw [hli, hexL_snoc h (by omega)], ?_⟩
      have H2 : St W w (row 5 1 a21 (l.length + 2) c21 (l.map B ++ (hex1 (h.getD i 0)).map B) :: blk b1 (h.map B) 32 :: F) := H.drop1
      rw [← List.map_append] at H2
      exact (by simpa [hex1] using H2)
    · try simp only [decide_eq_true_eq, decide_eq_false_iff_not, Bool.not_eq_true', Bool.not_eq_false', beq_iff_eq, beq_eq_false_iff_ne, bne_iff_ne, bne_eq_false_iff_eq, ne_eq, Int.not_lt, Int.not_le] at c1
      refine w_exit ?_
      refine w_seq ?_
      refine w_region ?_
      refine l_pslice rfl rfl ?_
      refine l_v rfl (q_bytesStr rfl by_22 st_9 rfl ((H.rowInv (i := 0) rfl).2.2.2.2) rfl) ?_
      refine l_pstr rfl rfl ?_
      refine l_nil ?_
      refine w_ret ?_
      refine fin1 (v := .string _) rfl ?_
      obtain rfl : i = 32 := by omega
      rw [List.take_of_length_le (by omega)] at hli
      subst hli
      exact ⟨rfl, H.erase 1 |>.erase 0⟩

end Go.Proofs.Ytcmmbjplekgihaa
