/- What Swap, Turn, Copy and Take do to lists of packets. -/
import Derived.Test.YtmgcmgfjaimlnaaNet11
namespace Go.Proofs.Ytmgcmgfjaimlnaa
open Go.EW
attribute [local irreducible] EW.W EW.L EW.fin
set_option linter.unusedVariables false
set_option linter.unusedSimpArgs false
theorem byte_cell {w : World} {a : Option Addr} {b o : Nat} {bs : List UInt8} {j : Nat} (ha : a = some ⟨b, o, none⟩) (h : Rd w a (bs.map B)) (hj : j < bs.length) : w.cell? ⟨b, o + j * 1, none⟩ = some (B (bs.getD j 0)) := by
  obtain ⟨b', o', h1, h2⟩ := h j (B (bs.getD j 0)) (by simp [List.getD, hj])
  rw [ha] at h1; cases h1
  rw [Nat.mul_one]; exact h2
end Go.Proofs.Ytmgcmgfjaimlnaa
