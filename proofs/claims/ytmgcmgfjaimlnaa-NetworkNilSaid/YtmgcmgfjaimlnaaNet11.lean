/- The network's Swap and Turn, and the helper SamePackets, do what their contracts say. -/
import Derived.Test.YtmgcmgfjaimlnaaNet10
namespace Go.Proofs.Ytmgcmgfjaimlnaa
open Go.EW
attribute [local irreducible] EW.W EW.L EW.fin
set_option linter.unusedVariables false
set_option linter.unusedSimpArgs false
def swapL (l : List Pk) (i k : Nat) : List Pk := match l[i]?, l[k]? with
  | some p, some q => (l.set i q).set k p
  | _, _ => l
def swapS (st : NetS) (i k : Int) : NetS := if (0 ≤ i ∧ i < st.pool.length) ∧ 0 ≤ k ∧ k < st.pool.length then { st with pool := swapL st.pool i.toNat k.toNat } else st
theorem swapL_perm (l : List Pk) (i k : Nat) : (swapL l i k).Perm l := by
  unfold swapL
  split
  · rename_i p q hp hq
    obtain ⟨h1, rfl⟩ := List.getElem?_eq_some_iff.1 hp
    obtain ⟨h2, rfl⟩ := List.getElem?_eq_some_iff.1 hq
    exact List.set_set_perm h1 h2
  exact List.Perm.refl _
theorem swapL_length (l : List Pk) (i k : Nat) : (swapL l i k).length = l.length := (swapL_perm l i k).length_eq
def turnL (l : List Pk) (k j : Nat) (m : UInt8) : List Pk := match l[k]? with
  | some p => l.set k { p with bs := p.bs.set j (p.bs.getD j 0 ^^^ m) }
  | none => l
def turnS (st : NetS) (k j : Int) (m : UInt8) : NetS := match st.pool[k.toNat]? with
  | some p => if (0 ≤ k ∧ k < st.pool.length) ∧ 0 ≤ j ∧ j < p.n then { st with pool := turnL st.pool k.toNat j.toNat m } else st
  | none => st
theorem turnL_length (l : List Pk) (k j : Nat) (m : UInt8) : (turnL l k j m).length = l.length := by unfold turnL; split <;> simp
end Go.Proofs.Ytmgcmgfjaimlnaa
