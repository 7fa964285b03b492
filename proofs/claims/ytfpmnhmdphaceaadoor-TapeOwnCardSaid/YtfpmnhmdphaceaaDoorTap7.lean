/- Walks through the tape's functions. -/
import Derived.Test.YtfpmnhmdphaceaaDoorTap6
import Derived.Test.YtfpmnhmdphaceaaDoorTadAll
namespace Go.Proofs.YtfpmnhmdphaceaaDoor
open Go.EW
attribute [local irreducible] EW.W EW.L EW.fin block8 outB shaL
set_option linter.unusedVariables false
set_option linter.unusedSimpArgs false
def usesL : List (List UInt8) := [[], [46, 99, 46, 46, 46, 46, 46, 111, 46], [46, 99, 46, 46, 46, 46, 46, 46, 46], [46, 46, 105, 46, 46, 107, 46, 46, 46], [46, 46, 105, 46, 46, 46, 46, 46, 46], [46, 46, 105, 46, 46, 46, 46, 46, 46], [46, 46, 105, 97, 110, 46, 46, 46, 46], [110, 46, 46, 97, 46, 46, 46, 46, 98], [110, 46, 46, 46, 46, 107, 46, 46, 46], [110, 46, 46, 46, 46, 46, 46, 46, 46], [110, 46, 46, 46, 46, 107, 100, 46, 46], [46, 46, 46, 46, 110, 46, 46, 46, 46], [110, 99, 46, 46, 46, 46, 46, 111, 46]]
def usesS (k : Int) : List UInt8 := if k < 1 ∨ 13 ≤ k then [] else usesL.getD k.toNat []
theorem usesS_spec (k : Int) : (usesN k = 0 → usesS k = []) ∧ (¬ usesN k = 0 → (usesS k).length = 9 ∧ ∀ i, i < 9 → (!((usesS k).getD i 0).toNat == 46) = bitN (usesN k) i) := by
  unfold usesN usesS
  split
  · exact ⟨fun _ => rfl, fun h => absurd rfl h⟩
  rename_i h
  have h1 : k.toNat < 13 := by omega
  have hall : ∀ j, j < 13 → (usesT.getD j 0 = 0 → usesL.getD j [] = []) ∧ (¬ usesT.getD j 0 = 0 → (usesL.getD j []).length = 9 ∧ ∀ i, i < 9 → (!((usesL.getD j []).getD i 0).toNat == 46) = bitN (usesT.getD j 0) i) := by decide
  exact hall _ h1
theorem Uses_ok {w : World} (k : Int) :
    Ok Tryd.prog 47 [I k].toArray w (fun r w' => r = .string ⟨(usesS k).toArray⟩ ∧ w' = w) := by
  refine enter (n := 27) (rs := #[.tmp 2]) Tryd.func47 rfl rfl rfl rfl ?_
  refine w_seq ?_
  refine w_region ?_
  refine l_pstr rfl rfl ?_
  refine l_nil ?_
  refine w_seq ?_
  refine w_seq ?_
  refine w_region ?_
  refine l_pint rfl rfl ?_
  refine l_nil ?_
  refine w_block ?_
  refine w_seq ?_
  refine w_region ?_
  refine l_pbool rfl rfl ?_
  refine l_pbool rfl rfl ?_
  refine l_nil ?_
  refine w_cond rfl (fun c1 => ?_) (fun c1 => ?_)
  · try simp only [sH] at c1
    refine w_seq ?_
    refine w_region ?_
    refine l_pstr rfl rfl ?_
    refine l_nil ?_
    refine w_ret ?_
    refine fin1 (v := .string _) rfl ?_
    first
      | (exfalso; omega)
      | exact ⟨by rw [show k = 1 by omega] <;> rfl, rfl⟩
      | exact ⟨by rw [show k = 2 by omega] <;> rfl, rfl⟩
      | exact ⟨by rw [show k = 3 by omega] <;> rfl, rfl⟩
      | exact ⟨by rw [show k = 4 by omega] <;> rfl, rfl⟩
      | exact ⟨by rw [show k = 5 by omega] <;> rfl, rfl⟩
      | exact ⟨by rw [show k = 6 by omega] <;> rfl, rfl⟩
      | exact ⟨by rw [show k = 7 by omega] <;> rfl, rfl⟩
      | exact ⟨by rw [show k = 8 by omega] <;> rfl, rfl⟩
      | exact ⟨by rw [show k = 9 by omega] <;> rfl, rfl⟩
      | exact ⟨by rw [show k = 10 by omega] <;> rfl, rfl⟩
      | exact ⟨by rw [show k = 11 by omega] <;> rfl, rfl⟩
      | exact ⟨by rw [show k = 12 by omega] <;> rfl, rfl⟩
      | exact ⟨by rw [usesS, if_pos (by omega)] <;> rfl, rfl⟩
  try simp only [sH] at c1
  refine w_seq ?_
  refine w_region ?_
  refine l_pbool rfl rfl ?_
  refine l_pbool rfl rfl ?_
  refine l_nil ?_
  refine w_cond rfl (fun c2 => ?_) (fun c2 => ?_)
  · try simp only [sH] at c2
    refine w_seq ?_
    refine w_region ?_
    refine l_pstr rfl rfl ?_
    refine l_nil ?_
    refine w_ret ?_
    refine fin1 (v := .string _) rfl ?_
    first
      | (exfalso; omega)
      | exact ⟨by rw [show k = 1 by omega] <;> rfl, rfl⟩
      | exact ⟨by rw [show k = 2 by omega] <;> rfl, rfl⟩
      | exact ⟨by rw [show k = 3 by omega] <;> rfl, rfl⟩
      | exact ⟨by rw [show k = 4 by omega] <;> rfl, rfl⟩
      | exact ⟨by rw [show k = 5 by omega] <;> rfl, rfl⟩
      | exact ⟨by rw [show k = 6 by omega] <;> rfl, rfl⟩
      | exact ⟨by rw [show k = 7 by omega] <;> rfl, rfl⟩
      | exact ⟨by rw [show k = 8 by omega] <;> rfl, rfl⟩
      | exact ⟨by rw [show k = 9 by omega] <;> rfl, rfl⟩
      | exact ⟨by rw [show k = 10 by omega] <;> rfl, rfl⟩
      | exact ⟨by rw [show k = 11 by omega] <;> rfl, rfl⟩
      | exact ⟨by rw [show k = 12 by omega] <;> rfl, rfl⟩
      | exact ⟨by rw [usesS, if_pos (by omega)] <;> rfl, rfl⟩
  try simp only [sH] at c2
  refine w_seq ?_
  refine w_region ?_
  refine l_pbool rfl rfl ?_
  refine l_pbool rfl rfl ?_
  refine l_nil ?_
  refine w_cond rfl (fun c3 => ?_) (fun c3 => ?_)
  · try simp only [sH] at c3
    refine w_seq ?_
    refine w_region ?_
    refine l_pstr rfl rfl ?_
    refine l_nil ?_
    refine w_ret ?_
    refine fin1 (v := .string _) rfl ?_
    first
      | (exfalso; omega)
      | exact ⟨by rw [show k = 1 by omega] <;> rfl, rfl⟩
      | exact ⟨by rw [show k = 2 by omega] <;> rfl, rfl⟩
      | exact ⟨by rw [show k = 3 by omega] <;> rfl, rfl⟩
      | exact ⟨by rw [show k = 4 by omega] <;> rfl, rfl⟩
      | exact ⟨by rw [show k = 5 by omega] <;> rfl, rfl⟩
      | exact ⟨by rw [show k = 6 by omega] <;> rfl, rfl⟩
      | exact ⟨by rw [show k = 7 by omega] <;> rfl, rfl⟩
      | exact ⟨by rw [show k = 8 by omega] <;> rfl, rfl⟩
      | exact ⟨by rw [show k = 9 by omega] <;> rfl, rfl⟩
      | exact ⟨by rw [show k = 10 by omega] <;> rfl, rfl⟩
      | exact ⟨by rw [show k = 11 by omega] <;> rfl, rfl⟩
      | exact ⟨by rw [show k = 12 by omega] <;> rfl, rfl⟩
      | exact ⟨by rw [usesS, if_pos (by omega)] <;> rfl, rfl⟩
  try simp only [sH] at c3
  refine w_seq ?_
  refine w_seq ?_
  refine w_region ?_
  refine l_pbool rfl rfl ?_
  refine l_pbool rfl rfl ?_
  refine l_nil ?_
  refine w_cond rfl (fun c4 => ?_) (fun c4 => ?_)
  · try simp only [sH] at c4
    refine w_skip ?_
    refine w_cond rfl (fun c5 => ?_) (fun c5 => ?_)
    · try simp only [sH] at c5
      refine w_seq ?_
      refine w_region ?_
      refine l_pstr rfl rfl ?_
      refine l_nil ?_
      refine w_ret ?_
      refine fin1 (v := .string _) rfl ?_
      first
        | (exfalso; omega)
        | exact ⟨by rw [show k = 1 by omega] <;> rfl, rfl⟩
        | exact ⟨by rw [show k = 2 by omega] <;> rfl, rfl⟩
        | exact ⟨by rw [show k = 3 by omega] <;> rfl, rfl⟩
        | exact ⟨by rw [show k = 4 by omega] <;> rfl, rfl⟩
        | exact ⟨by rw [show k = 5 by omega] <;> rfl, rfl⟩
        | exact ⟨by rw [show k = 6 by omega] <;> rfl, rfl⟩
        | exact ⟨by rw [show k = 7 by omega] <;> rfl, rfl⟩
        | exact ⟨by rw [show k = 8 by omega] <;> rfl, rfl⟩
        | exact ⟨by rw [show k = 9 by omega] <;> rfl, rfl⟩
        | exact ⟨by rw [show k = 10 by omega] <;> rfl, rfl⟩
        | exact ⟨by rw [show k = 11 by omega] <;> rfl, rfl⟩
        | exact ⟨by rw [show k = 12 by omega] <;> rfl, rfl⟩
        | exact ⟨by rw [usesS, if_pos (by omega)] <;> rfl, rfl⟩
    try simp only [sH] at c5
    refine w_seq ?_
    refine w_region ?_
    refine l_pbool rfl rfl ?_
    refine l_pbool rfl rfl ?_
    refine l_nil ?_
    refine w_cond rfl (fun c6 => ?_) (fun c6 => ?_)
    · try simp only [sH] at c6
      refine w_seq ?_
      refine w_region ?_
      refine l_pstr rfl rfl ?_
      refine l_nil ?_
      refine w_ret ?_
      refine fin1 (v := .string _) rfl ?_
      first
        | (exfalso; omega)
        | exact ⟨by rw [show k = 1 by omega] <;> rfl, rfl⟩
        | exact ⟨by rw [show k = 2 by omega] <;> rfl, rfl⟩
        | exact ⟨by rw [show k = 3 by omega] <;> rfl, rfl⟩
        | exact ⟨by rw [show k = 4 by omega] <;> rfl, rfl⟩
        | exact ⟨by rw [show k = 5 by omega] <;> rfl, rfl⟩
        | exact ⟨by rw [show k = 6 by omega] <;> rfl, rfl⟩
        | exact ⟨by rw [show k = 7 by omega] <;> rfl, rfl⟩
        | exact ⟨by rw [show k = 8 by omega] <;> rfl, rfl⟩
        | exact ⟨by rw [show k = 9 by omega] <;> rfl, rfl⟩
        | exact ⟨by rw [show k = 10 by omega] <;> rfl, rfl⟩
        | exact ⟨by rw [show k = 11 by omega] <;> rfl, rfl⟩
        | exact ⟨by rw [show k = 12 by omega] <;> rfl, rfl⟩
        | exact ⟨by rw [usesS, if_pos (by omega)] <;> rfl, rfl⟩
    try simp only [sH] at c6
    refine w_seq ?_
    refine w_region ?_
    refine l_pbool rfl rfl ?_
    refine l_pbool rfl rfl ?_
    refine l_nil ?_
    refine w_cond rfl (fun c7 => ?_) (fun c7 => ?_)
    · try simp only [sH] at c7
      refine w_seq ?_
      refine w_region ?_
      refine l_pstr rfl rfl ?_
      refine l_nil ?_
      refine w_ret ?_
      refine fin1 (v := .string _) rfl ?_
      first
        | (exfalso; omega)
        | exact ⟨by rw [show k = 1 by omega] <;> rfl, rfl⟩
        | exact ⟨by rw [show k = 2 by omega] <;> rfl, rfl⟩
        | exact ⟨by rw [show k = 3 by omega] <;> rfl, rfl⟩
        | exact ⟨by rw [show k = 4 by omega] <;> rfl, rfl⟩
        | exact ⟨by rw [show k = 5 by omega] <;> rfl, rfl⟩
        | exact ⟨by rw [show k = 6 by omega] <;> rfl, rfl⟩
        | exact ⟨by rw [show k = 7 by omega] <;> rfl, rfl⟩
        | exact ⟨by rw [show k = 8 by omega] <;> rfl, rfl⟩
        | exact ⟨by rw [show k = 9 by omega] <;> rfl, rfl⟩
        | exact ⟨by rw [show k = 10 by omega] <;> rfl, rfl⟩
        | exact ⟨by rw [show k = 11 by omega] <;> rfl, rfl⟩
        | exact ⟨by rw [show k = 12 by omega] <;> rfl, rfl⟩
        | exact ⟨by rw [usesS, if_pos (by omega)] <;> rfl, rfl⟩
    try simp only [sH] at c7
    refine w_seq ?_
    refine w_region ?_
    refine l_pbool rfl rfl ?_
    refine l_pbool rfl rfl ?_
    refine l_nil ?_
    refine w_cond rfl (fun c8 => ?_) (fun c8 => ?_)
    · try simp only [sH] at c8
      refine w_seq ?_
      refine w_region ?_
      refine l_pstr rfl rfl ?_
      refine l_nil ?_
      refine w_ret ?_
      refine fin1 (v := .string _) rfl ?_
      first
        | (exfalso; omega)
        | exact ⟨by rw [show k = 1 by omega] <;> rfl, rfl⟩
        | exact ⟨by rw [show k = 2 by omega] <;> rfl, rfl⟩
        | exact ⟨by rw [show k = 3 by omega] <;> rfl, rfl⟩
        | exact ⟨by rw [show k = 4 by omega] <;> rfl, rfl⟩
        | exact ⟨by rw [show k = 5 by omega] <;> rfl, rfl⟩
        | exact ⟨by rw [show k = 6 by omega] <;> rfl, rfl⟩
        | exact ⟨by rw [show k = 7 by omega] <;> rfl, rfl⟩
        | exact ⟨by rw [show k = 8 by omega] <;> rfl, rfl⟩
        | exact ⟨by rw [show k = 9 by omega] <;> rfl, rfl⟩
        | exact ⟨by rw [show k = 10 by omega] <;> rfl, rfl⟩
        | exact ⟨by rw [show k = 11 by omega] <;> rfl, rfl⟩
        | exact ⟨by rw [show k = 12 by omega] <;> rfl, rfl⟩
        | exact ⟨by rw [usesS, if_pos (by omega)] <;> rfl, rfl⟩
    try simp only [sH] at c8
    refine w_seq ?_
    refine w_region ?_
    refine l_pbool rfl rfl ?_
    refine l_pbool rfl rfl ?_
    refine l_nil ?_
    refine w_cond rfl (fun c9 => ?_) (fun c9 => ?_)
    · try simp only [sH] at c9
      refine w_seq ?_
      refine w_region ?_
      refine l_pstr rfl rfl ?_
      refine l_nil ?_
      refine w_ret ?_
      refine fin1 (v := .string _) rfl ?_
      first
        | (exfalso; omega)
        | exact ⟨by rw [show k = 1 by omega] <;> rfl, rfl⟩
        | exact ⟨by rw [show k = 2 by omega] <;> rfl, rfl⟩
        | exact ⟨by rw [show k = 3 by omega] <;> rfl, rfl⟩
        | exact ⟨by rw [show k = 4 by omega] <;> rfl, rfl⟩
        | exact ⟨by rw [show k = 5 by omega] <;> rfl, rfl⟩
        | exact ⟨by rw [show k = 6 by omega] <;> rfl, rfl⟩
        | exact ⟨by rw [show k = 7 by omega] <;> rfl, rfl⟩
        | exact ⟨by rw [show k = 8 by omega] <;> rfl, rfl⟩
        | exact ⟨by rw [show k = 9 by omega] <;> rfl, rfl⟩
        | exact ⟨by rw [show k = 10 by omega] <;> rfl, rfl⟩
        | exact ⟨by rw [show k = 11 by omega] <;> rfl, rfl⟩
        | exact ⟨by rw [show k = 12 by omega] <;> rfl, rfl⟩
        | exact ⟨by rw [usesS, if_pos (by omega)] <;> rfl, rfl⟩
    try simp only [sH] at c9
    refine w_seq ?_
    refine w_region ?_
    refine l_pbool rfl rfl ?_
    refine l_pbool rfl rfl ?_
    refine l_nil ?_
    refine w_cond rfl (fun c10 => ?_) (fun c10 => ?_)
    · try simp only [sH] at c10
      refine w_seq ?_
      refine w_region ?_
      refine l_pstr rfl rfl ?_
      refine l_nil ?_
      refine w_ret ?_
      refine fin1 (v := .string _) rfl ?_
      first
        | (exfalso; omega)
        | exact ⟨by rw [show k = 1 by omega] <;> rfl, rfl⟩
        | exact ⟨by rw [show k = 2 by omega] <;> rfl, rfl⟩
        | exact ⟨by rw [show k = 3 by omega] <;> rfl, rfl⟩
        | exact ⟨by rw [show k = 4 by omega] <;> rfl, rfl⟩
        | exact ⟨by rw [show k = 5 by omega] <;> rfl, rfl⟩
        | exact ⟨by rw [show k = 6 by omega] <;> rfl, rfl⟩
        | exact ⟨by rw [show k = 7 by omega] <;> rfl, rfl⟩
        | exact ⟨by rw [show k = 8 by omega] <;> rfl, rfl⟩
        | exact ⟨by rw [show k = 9 by omega] <;> rfl, rfl⟩
        | exact ⟨by rw [show k = 10 by omega] <;> rfl, rfl⟩
        | exact ⟨by rw [show k = 11 by omega] <;> rfl, rfl⟩
        | exact ⟨by rw [show k = 12 by omega] <;> rfl, rfl⟩
        | exact ⟨by rw [usesS, if_pos (by omega)] <;> rfl, rfl⟩
    try simp only [sH] at c10
    refine w_seq ?_
    refine w_region ?_
    refine l_pbool rfl rfl ?_
    refine l_pbool rfl rfl ?_
    refine l_nil ?_
    refine w_cond rfl (fun c11 => ?_) (fun c11 => ?_)
    · try simp only [sH] at c11
      refine w_seq ?_
      refine w_region ?_
      refine l_pstr rfl rfl ?_
      refine l_nil ?_
      refine w_ret ?_
      refine fin1 (v := .string _) rfl ?_
      first
        | (exfalso; omega)
        | exact ⟨by rw [show k = 1 by omega] <;> rfl, rfl⟩
        | exact ⟨by rw [show k = 2 by omega] <;> rfl, rfl⟩
        | exact ⟨by rw [show k = 3 by omega] <;> rfl, rfl⟩
        | exact ⟨by rw [show k = 4 by omega] <;> rfl, rfl⟩
        | exact ⟨by rw [show k = 5 by omega] <;> rfl, rfl⟩
        | exact ⟨by rw [show k = 6 by omega] <;> rfl, rfl⟩
        | exact ⟨by rw [show k = 7 by omega] <;> rfl, rfl⟩
        | exact ⟨by rw [show k = 8 by omega] <;> rfl, rfl⟩
        | exact ⟨by rw [show k = 9 by omega] <;> rfl, rfl⟩
        | exact ⟨by rw [show k = 10 by omega] <;> rfl, rfl⟩
        | exact ⟨by rw [show k = 11 by omega] <;> rfl, rfl⟩
        | exact ⟨by rw [show k = 12 by omega] <;> rfl, rfl⟩
        | exact ⟨by rw [usesS, if_pos (by omega)] <;> rfl, rfl⟩
    try simp only [sH] at c11
    refine w_seq ?_
    refine w_region ?_
    refine l_pbool rfl rfl ?_
    refine l_pbool rfl rfl ?_
    refine l_nil ?_
    refine w_cond rfl (fun c12 => ?_) (fun c12 => ?_)
    · try simp only [sH] at c12
      refine w_seq ?_
      refine w_region ?_
      refine l_pstr rfl rfl ?_
      refine l_nil ?_
      refine w_ret ?_
      refine fin1 (v := .string _) rfl ?_
      first
        | (exfalso; omega)
        | exact ⟨by rw [show k = 1 by omega] <;> rfl, rfl⟩
        | exact ⟨by rw [show k = 2 by omega] <;> rfl, rfl⟩
        | exact ⟨by rw [show k = 3 by omega] <;> rfl, rfl⟩
        | exact ⟨by rw [show k = 4 by omega] <;> rfl, rfl⟩
        | exact ⟨by rw [show k = 5 by omega] <;> rfl, rfl⟩
        | exact ⟨by rw [show k = 6 by omega] <;> rfl, rfl⟩
        | exact ⟨by rw [show k = 7 by omega] <;> rfl, rfl⟩
        | exact ⟨by rw [show k = 8 by omega] <;> rfl, rfl⟩
        | exact ⟨by rw [show k = 9 by omega] <;> rfl, rfl⟩
        | exact ⟨by rw [show k = 10 by omega] <;> rfl, rfl⟩
        | exact ⟨by rw [show k = 11 by omega] <;> rfl, rfl⟩
        | exact ⟨by rw [show k = 12 by omega] <;> rfl, rfl⟩
        | exact ⟨by rw [usesS, if_pos (by omega)] <;> rfl, rfl⟩
    try simp only [sH] at c12
    refine w_skip ?_
    refine w_seq ?_
    refine w_region ?_
    refine l_pstr rfl rfl ?_
    refine l_nil ?_
    refine w_ret ?_
    refine fin1 (v := .string _) rfl ?_
    first
      | (exfalso; omega)
      | exact ⟨by rw [show k = 1 by omega] <;> rfl, rfl⟩
      | exact ⟨by rw [show k = 2 by omega] <;> rfl, rfl⟩
      | exact ⟨by rw [show k = 3 by omega] <;> rfl, rfl⟩
      | exact ⟨by rw [show k = 4 by omega] <;> rfl, rfl⟩
      | exact ⟨by rw [show k = 5 by omega] <;> rfl, rfl⟩
      | exact ⟨by rw [show k = 6 by omega] <;> rfl, rfl⟩
      | exact ⟨by rw [show k = 7 by omega] <;> rfl, rfl⟩
      | exact ⟨by rw [show k = 8 by omega] <;> rfl, rfl⟩
      | exact ⟨by rw [show k = 9 by omega] <;> rfl, rfl⟩
      | exact ⟨by rw [show k = 10 by omega] <;> rfl, rfl⟩
      | exact ⟨by rw [show k = 11 by omega] <;> rfl, rfl⟩
      | exact ⟨by rw [show k = 12 by omega] <;> rfl, rfl⟩
      | exact ⟨by rw [usesS, if_pos (by omega)] <;> rfl, rfl⟩
  try simp only [sH] at c4
  refine w_region ?_
  refine l_pbool rfl rfl ?_
  refine l_pbool rfl rfl ?_
  refine l_nil ?_
  refine w_cond rfl (fun c13 => ?_) (fun c13 => ?_)
  · try simp only [sH] at c13
    refine w_seq ?_
    refine w_region ?_
    refine l_pstr rfl rfl ?_
    refine l_nil ?_
    refine w_ret ?_
    refine fin1 (v := .string _) rfl ?_
    first
      | (exfalso; omega)
      | exact ⟨by rw [show k = 1 by omega] <;> rfl, rfl⟩
      | exact ⟨by rw [show k = 2 by omega] <;> rfl, rfl⟩
      | exact ⟨by rw [show k = 3 by omega] <;> rfl, rfl⟩
      | exact ⟨by rw [show k = 4 by omega] <;> rfl, rfl⟩
      | exact ⟨by rw [show k = 5 by omega] <;> rfl, rfl⟩
      | exact ⟨by rw [show k = 6 by omega] <;> rfl, rfl⟩
      | exact ⟨by rw [show k = 7 by omega] <;> rfl, rfl⟩
      | exact ⟨by rw [show k = 8 by omega] <;> rfl, rfl⟩
      | exact ⟨by rw [show k = 9 by omega] <;> rfl, rfl⟩
      | exact ⟨by rw [show k = 10 by omega] <;> rfl, rfl⟩
      | exact ⟨by rw [show k = 11 by omega] <;> rfl, rfl⟩
      | exact ⟨by rw [show k = 12 by omega] <;> rfl, rfl⟩
      | exact ⟨by rw [usesS, if_pos (by omega)] <;> rfl, rfl⟩
  try simp only [sH] at c13
  refine w_seq ?_
  refine w_region ?_
  refine l_pbool rfl rfl ?_
  refine l_pbool rfl rfl ?_
  refine l_nil ?_
  refine w_cond rfl (fun c14 => ?_) (fun c14 => ?_)
  · try simp only [sH] at c14
    refine w_seq ?_
    refine w_region ?_
    refine l_pstr rfl rfl ?_
    refine l_nil ?_
    refine w_ret ?_
    refine fin1 (v := .string _) rfl ?_
    first
      | (exfalso; omega)
      | exact ⟨by rw [show k = 1 by omega] <;> rfl, rfl⟩
      | exact ⟨by rw [show k = 2 by omega] <;> rfl, rfl⟩
      | exact ⟨by rw [show k = 3 by omega] <;> rfl, rfl⟩
      | exact ⟨by rw [show k = 4 by omega] <;> rfl, rfl⟩
      | exact ⟨by rw [show k = 5 by omega] <;> rfl, rfl⟩
      | exact ⟨by rw [show k = 6 by omega] <;> rfl, rfl⟩
      | exact ⟨by rw [show k = 7 by omega] <;> rfl, rfl⟩
      | exact ⟨by rw [show k = 8 by omega] <;> rfl, rfl⟩
      | exact ⟨by rw [show k = 9 by omega] <;> rfl, rfl⟩
      | exact ⟨by rw [show k = 10 by omega] <;> rfl, rfl⟩
      | exact ⟨by rw [show k = 11 by omega] <;> rfl, rfl⟩
      | exact ⟨by rw [show k = 12 by omega] <;> rfl, rfl⟩
      | exact ⟨by rw [usesS, if_pos (by omega)] <;> rfl, rfl⟩
  try simp only [sH] at c14
  refine w_seq ?_
  refine w_region ?_
  refine l_pbool rfl rfl ?_
  refine l_pbool rfl rfl ?_
  refine l_nil ?_
  refine w_cond rfl (fun c15 => ?_) (fun c15 => ?_)
  · try simp only [sH] at c15
    refine w_seq ?_
    refine w_region ?_
    refine l_pstr rfl rfl ?_
    refine l_nil ?_
    refine w_ret ?_
    refine fin1 (v := .string _) rfl ?_
    first
      | (exfalso; omega)
      | exact ⟨by rw [show k = 1 by omega] <;> rfl, rfl⟩
      | exact ⟨by rw [show k = 2 by omega] <;> rfl, rfl⟩
      | exact ⟨by rw [show k = 3 by omega] <;> rfl, rfl⟩
      | exact ⟨by rw [show k = 4 by omega] <;> rfl, rfl⟩
      | exact ⟨by rw [show k = 5 by omega] <;> rfl, rfl⟩
      | exact ⟨by rw [show k = 6 by omega] <;> rfl, rfl⟩
      | exact ⟨by rw [show k = 7 by omega] <;> rfl, rfl⟩
      | exact ⟨by rw [show k = 8 by omega] <;> rfl, rfl⟩
      | exact ⟨by rw [show k = 9 by omega] <;> rfl, rfl⟩
      | exact ⟨by rw [show k = 10 by omega] <;> rfl, rfl⟩
      | exact ⟨by rw [show k = 11 by omega] <;> rfl, rfl⟩
      | exact ⟨by rw [show k = 12 by omega] <;> rfl, rfl⟩
      | exact ⟨by rw [usesS, if_pos (by omega)] <;> rfl, rfl⟩
  try simp only [sH] at c15
  refine w_seq ?_
  refine w_region ?_
  refine l_pbool rfl rfl ?_
  refine l_pbool rfl rfl ?_
  refine l_nil ?_
  refine w_cond rfl (fun c16 => ?_) (fun c16 => ?_)
  · try simp only [sH] at c16
    refine w_seq ?_
    refine w_region ?_
    refine l_pstr rfl rfl ?_
    refine l_nil ?_
    refine w_ret ?_
    refine fin1 (v := .string _) rfl ?_
    first
      | (exfalso; omega)
      | exact ⟨by rw [show k = 1 by omega] <;> rfl, rfl⟩
      | exact ⟨by rw [show k = 2 by omega] <;> rfl, rfl⟩
      | exact ⟨by rw [show k = 3 by omega] <;> rfl, rfl⟩
      | exact ⟨by rw [show k = 4 by omega] <;> rfl, rfl⟩
      | exact ⟨by rw [show k = 5 by omega] <;> rfl, rfl⟩
      | exact ⟨by rw [show k = 6 by omega] <;> rfl, rfl⟩
      | exact ⟨by rw [show k = 7 by omega] <;> rfl, rfl⟩
      | exact ⟨by rw [show k = 8 by omega] <;> rfl, rfl⟩
      | exact ⟨by rw [show k = 9 by omega] <;> rfl, rfl⟩
      | exact ⟨by rw [show k = 10 by omega] <;> rfl, rfl⟩
      | exact ⟨by rw [show k = 11 by omega] <;> rfl, rfl⟩
      | exact ⟨by rw [show k = 12 by omega] <;> rfl, rfl⟩
      | exact ⟨by rw [usesS, if_pos (by omega)] <;> rfl, rfl⟩
  try simp only [sH] at c16
  refine w_seq ?_
  refine w_region ?_
  refine l_pbool rfl rfl ?_
  refine l_pbool rfl rfl ?_
  refine l_nil ?_
  refine w_cond rfl (fun c17 => ?_) (fun c17 => ?_)
  · try simp only [sH] at c17
    refine w_seq ?_
    refine w_region ?_
    refine l_pstr rfl rfl ?_
    refine l_nil ?_
    refine w_ret ?_
    refine fin1 (v := .string _) rfl ?_
    first
      | (exfalso; omega)
      | exact ⟨by rw [show k = 1 by omega] <;> rfl, rfl⟩
      | exact ⟨by rw [show k = 2 by omega] <;> rfl, rfl⟩
      | exact ⟨by rw [show k = 3 by omega] <;> rfl, rfl⟩
      | exact ⟨by rw [show k = 4 by omega] <;> rfl, rfl⟩
      | exact ⟨by rw [show k = 5 by omega] <;> rfl, rfl⟩
      | exact ⟨by rw [show k = 6 by omega] <;> rfl, rfl⟩
      | exact ⟨by rw [show k = 7 by omega] <;> rfl, rfl⟩
      | exact ⟨by rw [show k = 8 by omega] <;> rfl, rfl⟩
      | exact ⟨by rw [show k = 9 by omega] <;> rfl, rfl⟩
      | exact ⟨by rw [show k = 10 by omega] <;> rfl, rfl⟩
      | exact ⟨by rw [show k = 11 by omega] <;> rfl, rfl⟩
      | exact ⟨by rw [show k = 12 by omega] <;> rfl, rfl⟩
      | exact ⟨by rw [usesS, if_pos (by omega)] <;> rfl, rfl⟩
  try simp only [sH] at c17
  refine w_seq ?_
  refine w_region ?_
  refine l_pbool rfl rfl ?_
  refine l_pbool rfl rfl ?_
  refine l_nil ?_
  refine w_cond rfl (fun c18 => ?_) (fun c18 => ?_)
  · try simp only [sH] at c18
    refine w_seq ?_
    refine w_region ?_
    refine l_pstr rfl rfl ?_
    refine l_nil ?_
    refine w_ret ?_
    refine fin1 (v := .string _) rfl ?_
    first
      | (exfalso; omega)
      | exact ⟨by rw [show k = 1 by omega] <;> rfl, rfl⟩
      | exact ⟨by rw [show k = 2 by omega] <;> rfl, rfl⟩
      | exact ⟨by rw [show k = 3 by omega] <;> rfl, rfl⟩
      | exact ⟨by rw [show k = 4 by omega] <;> rfl, rfl⟩
      | exact ⟨by rw [show k = 5 by omega] <;> rfl, rfl⟩
      | exact ⟨by rw [show k = 6 by omega] <;> rfl, rfl⟩
      | exact ⟨by rw [show k = 7 by omega] <;> rfl, rfl⟩
      | exact ⟨by rw [show k = 8 by omega] <;> rfl, rfl⟩
      | exact ⟨by rw [show k = 9 by omega] <;> rfl, rfl⟩
      | exact ⟨by rw [show k = 10 by omega] <;> rfl, rfl⟩
      | exact ⟨by rw [show k = 11 by omega] <;> rfl, rfl⟩
      | exact ⟨by rw [show k = 12 by omega] <;> rfl, rfl⟩
      | exact ⟨by rw [usesS, if_pos (by omega)] <;> rfl, rfl⟩
  try simp only [sH] at c18
  refine w_seq ?_
  refine w_region ?_
  refine l_pbool rfl rfl ?_
  refine l_pbool rfl rfl ?_
  refine l_nil ?_
  refine w_cond rfl (fun c19 => ?_) (fun c19 => ?_)
  · try simp only [sH] at c19
    refine w_seq ?_
    refine w_region ?_
    refine l_pstr rfl rfl ?_
    refine l_nil ?_
    refine w_ret ?_
    refine fin1 (v := .string _) rfl ?_
    first
      | (exfalso; omega)
      | exact ⟨by rw [show k = 1 by omega] <;> rfl, rfl⟩
      | exact ⟨by rw [show k = 2 by omega] <;> rfl, rfl⟩
      | exact ⟨by rw [show k = 3 by omega] <;> rfl, rfl⟩
      | exact ⟨by rw [show k = 4 by omega] <;> rfl, rfl⟩
      | exact ⟨by rw [show k = 5 by omega] <;> rfl, rfl⟩
      | exact ⟨by rw [show k = 6 by omega] <;> rfl, rfl⟩
      | exact ⟨by rw [show k = 7 by omega] <;> rfl, rfl⟩
      | exact ⟨by rw [show k = 8 by omega] <;> rfl, rfl⟩
      | exact ⟨by rw [show k = 9 by omega] <;> rfl, rfl⟩
      | exact ⟨by rw [show k = 10 by omega] <;> rfl, rfl⟩
      | exact ⟨by rw [show k = 11 by omega] <;> rfl, rfl⟩
      | exact ⟨by rw [show k = 12 by omega] <;> rfl, rfl⟩
      | exact ⟨by rw [usesS, if_pos (by omega)] <;> rfl, rfl⟩
  try simp only [sH] at c19
  refine w_seq ?_
  refine w_region ?_
  refine l_pbool rfl rfl ?_
  refine l_pbool rfl rfl ?_
  refine l_nil ?_
  refine w_cond rfl (fun c20 => ?_) (fun c20 => ?_)
  · try simp only [sH] at c20
    refine w_seq ?_
    refine w_region ?_
    refine l_pstr rfl rfl ?_
    refine l_nil ?_
    refine w_ret ?_
    refine fin1 (v := .string _) rfl ?_
    first
      | (exfalso; omega)
      | exact ⟨by rw [show k = 1 by omega] <;> rfl, rfl⟩
      | exact ⟨by rw [show k = 2 by omega] <;> rfl, rfl⟩
      | exact ⟨by rw [show k = 3 by omega] <;> rfl, rfl⟩
      | exact ⟨by rw [show k = 4 by omega] <;> rfl, rfl⟩
      | exact ⟨by rw [show k = 5 by omega] <;> rfl, rfl⟩
      | exact ⟨by rw [show k = 6 by omega] <;> rfl, rfl⟩
      | exact ⟨by rw [show k = 7 by omega] <;> rfl, rfl⟩
      | exact ⟨by rw [show k = 8 by omega] <;> rfl, rfl⟩
      | exact ⟨by rw [show k = 9 by omega] <;> rfl, rfl⟩
      | exact ⟨by rw [show k = 10 by omega] <;> rfl, rfl⟩
      | exact ⟨by rw [show k = 11 by omega] <;> rfl, rfl⟩
      | exact ⟨by rw [show k = 12 by omega] <;> rfl, rfl⟩
      | exact ⟨by rw [usesS, if_pos (by omega)] <;> rfl, rfl⟩
  try simp only [sH] at c20
  refine w_skip ?_
  refine w_seq ?_
  refine w_region ?_
  refine l_pstr rfl rfl ?_
  refine l_nil ?_
  refine w_ret ?_
  refine fin1 (v := .string _) rfl ?_
  first
    | (exfalso; omega)
    | exact ⟨by rw [show k = 1 by omega] <;> rfl, rfl⟩
    | exact ⟨by rw [show k = 2 by omega] <;> rfl, rfl⟩
    | exact ⟨by rw [show k = 3 by omega] <;> rfl, rfl⟩
    | exact ⟨by rw [show k = 4 by omega] <;> rfl, rfl⟩
    | exact ⟨by rw [show k = 5 by omega] <;> rfl, rfl⟩
    | exact ⟨by rw [show k = 6 by omega] <;> rfl, rfl⟩
    | exact ⟨by rw [show k = 7 by omega] <;> rfl, rfl⟩
    | exact ⟨by rw [show k = 8 by omega] <;> rfl, rfl⟩
    | exact ⟨by rw [show k = 9 by omega] <;> rfl, rfl⟩
    | exact ⟨by rw [show k = 10 by omega] <;> rfl, rfl⟩
    | exact ⟨by rw [show k = 11 by omega] <;> rfl, rfl⟩
    | exact ⟨by rw [show k = 12 by omega] <;> rfl, rfl⟩
    | exact ⟨by rw [usesS, if_pos (by omega)] <;> rfl, rfl⟩
end Go.Proofs.YtfpmnhmdphaceaaDoor
