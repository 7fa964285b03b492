/- Heads and paths of three entries, reckoned by the kernel. -/
import Derived.Test.YtcmmhpkgjcepdaaTre8
namespace Go.Proofs.Ytcmmhpkgjcepdaa
open Go.EW
def entN (n : Nat) : Ent := ⟨((n % 16 : Nat) : Int), ((n + 1 : Nat) : Int), 2, 0, ⟨#[UInt8.ofNat n]⟩⟩
def three : List Ent := [entN 1, entN 2, entN 3]
theorem w_none : (shaL []).getD 0 0 = 227 ∧ (shaL []).getD 31 0 = 85 := ⟨by kernel_rfl, by kernel_rfl⟩
theorem w_path : (incR three 2).2 = 0 ∧ (incR three 2).1.length = 2 := ⟨by kernel_rfl, by kernel_rfl⟩
theorem w_in : incdR (headH three) 3 2 (entN 2) (incR three 2).1 = 0 := by kernel_rfl
theorem w_out : incdR (headH three) 3 2 (entN 3) (incR three 2).1 = 202 := by kernel_rfl
theorem w_ext : extR (headH three) 3 (shaL []) 3 [] = 202 := by kernel_rfl
end Go.Proofs.Ytcmmhpkgjcepdaa
