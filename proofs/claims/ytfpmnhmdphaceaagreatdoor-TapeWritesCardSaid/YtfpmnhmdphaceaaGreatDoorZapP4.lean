/- A part of this claim: laws of the tape's functions and of plain lists; no conditions beyond those that the theorems name. -/
import Derived.Test.YtfpmnhmdphaceaaGreatDoorZapP3
import Derived.Test.YtfpmnhmdphaceaaGreatDoorZap33
namespace Go.Proofs.YtfpmnhmdphaceaaGreatDoor
open Go.EW
set_option linter.unusedVariables false
set_option linter.unusedSimpArgs false
attribute [local irreducible] sealL openR sealR crcL shaL
theorem klen_small : ∀ j, 1 ≤ j → j ≤ 32 → klen j = 1 := by
  intro j h1 h2
  have h : ∀ j : Fin 33, 1 ≤ j.val → klen j.val = 1 := by decide
  exact h ⟨j, by omega⟩ h1
theorem chunkB_len (f : Nat) (ts : List (List UInt8)) : (chunkB f ts).length = 2 + szN f + szN ts.length + sizeT ts := by
  unfold chunkB
  simp only [List.length_append, szN_len, cat_len]
  rfl
theorem sizeT_take (ts : List (List UInt8)) (j : Nat) : sizeT (ts.take j) ≤ sizeT ts := by
  have h : sizeT ts = sizeT (ts.take j) + sizeT (ts.drop j) := by
    conv => lhs; rw [← List.take_append_drop j ts]
    unfold sizeT
    rw [List.map_append, List.sum_append]
  omega
/-- what is read so far is what the tape would write -/
structure Fit (bs : List UInt8) (s : SS) (q : Nat) (t : TS) : Prop where
  n : t.n = s.evs.length
  first : t.texts.length > 0 → t.first = s.first
  last : t.texts = s.last
  out : outT t = bs.take q
  pl : plT t = s.places
theorem Fit.setR {bs : List UInt8} {s : SS} {q : Nat} {t : TS} (h : Fit bs s q t) (r : Nat) : Fit bs { s with right := r } q t := ⟨h.n, h.first, h.last, h.out, h.pl⟩
end Go.Proofs.YtfpmnhmdphaceaaGreatDoor
