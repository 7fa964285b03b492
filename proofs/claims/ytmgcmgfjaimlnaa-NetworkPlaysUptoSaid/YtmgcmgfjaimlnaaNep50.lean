/- The plain package's markByte and markInt answer the marks that the plain functions say, for the network's seat. -/
import Derived.Test.YtmgcmgfjaimlnaaNep30
import Derived.Test.YtmgcmgfjaimlnaaBaseAll
namespace Go.Proofs.Ytmgcmgfjaimlnaa
open Go.EW
attribute [local irreducible] EW.W EW.L EW.fin
set_option linter.unusedVariables false
set_option linter.unusedSimpArgs false
def mkBy (i k : Nat) : Value := B (UInt8.ofNat (i * 31 + k * 7 + 5))
def mkIn (i k : Nat) : Value := I (-1 - 100003 * ((i : Int) + 1) - 7 * (k : Int))
theorem markByte_ok {W w : World} {S : List Seg} (H : St W w S) (i k : Nat) (hi : i ≤ 10000000000000) (hk : k ≤ 140737488355328) :
    Ok Try.prog 89 [I (i : Int), I (k : Int)].toArray w (fun r w' => r = mkBy i k ∧ St W w' S) := by
  refine enter (n := 12) (rs := #[.tmp 4]) Try.func89 rfl rfl rfl rfl ?_
  refine w_seq ?_
  refine w_region ?_
  first | refine l_p (v := B _) rfl rfl ?_ | refine l_pint rfl rfl ?_
  refine l_nil ?_
  refine w_seq ?_
  refine w_region ?_
  refine l_pint rfl rfl ?_
  first | refine l_v rfl (q_mul rfl rfl rfl (by simp only [inK]; omega)) ?_ | refine l_pint rfl rfl ?_
  refine l_pint rfl rfl ?_
  first | refine l_v rfl (q_mul rfl rfl rfl (by simp only [inK]; omega)) ?_ | refine l_pint rfl rfl ?_
  first | refine l_v rfl (q_add rfl rfl rfl (by simp only [inK]; omega)) ?_ | refine l_pint rfl rfl ?_
  first | refine l_v rfl (q_add rfl rfl rfl (by simp only [inK]; omega)) ?_ | refine l_pint rfl rfl ?_
  refine l_v rfl (q_lowN (M := i * 31 + k * 7 + 5) rfl (by kernel_rfl) in_5 rfl) ?_
  first | refine l_p (v := B _) rfl rfl ?_ | refine l_pint rfl rfl ?_
  refine l_nil ?_
  refine w_ret ?_
  refine fin1 (v := .int _ _) rfl ?_
  exact ⟨rfl, H⟩
theorem markInt_ok {W w : World} {S : List Seg} (H : St W w S) (i k : Nat) (hi : i ≤ 10000000000000) (hk : k ≤ 140737488355328) :
    Ok Try.prog 90 [I (i : Int), I (k : Int)].toArray w (fun r w' => r = mkIn i k ∧ St W w' S) := by
  refine enter (n := 12) (rs := #[.tmp 4]) Try.func90 rfl rfl rfl rfl ?_
  refine w_seq ?_
  refine w_region ?_
  refine l_pint rfl rfl ?_
  refine l_nil ?_
  refine w_seq ?_
  refine w_region ?_
  refine l_pint rfl rfl ?_
  first | refine l_v rfl (q_add rfl rfl rfl (by simp only [inK]; omega)) ?_ | refine l_pint rfl rfl ?_
  first | refine l_v rfl (q_mul rfl rfl rfl (by simp only [inK]; omega)) ?_ | refine l_pint rfl rfl ?_
  first | refine l_v rfl (q_sub rfl rfl rfl (by simp only [inK]; omega)) ?_ | refine l_pint rfl rfl ?_
  refine l_pint rfl rfl ?_
  first | refine l_v rfl (q_mul rfl rfl rfl (by simp only [inK]; omega)) ?_ | refine l_pint rfl rfl ?_
  first | refine l_v rfl (q_sub rfl rfl rfl (by simp only [inK]; omega)) ?_ | refine l_pint rfl rfl ?_
  refine l_pint rfl rfl ?_
  refine l_nil ?_
  refine w_ret ?_
  refine fin1 (v := .int _ _) rfl ?_
  exact ⟨rfl, H⟩
end Go.Proofs.Ytmgcmgfjaimlnaa
