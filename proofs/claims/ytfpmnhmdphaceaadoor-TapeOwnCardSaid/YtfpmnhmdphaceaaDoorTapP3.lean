/- One form: what is read is what would be written, in plain lists. -/
import Derived.Test.YtfpmnhmdphaceaaDoorTapLAll
import Derived.Test.YtfpmnhmdphaceaaDoorTap27
namespace Go.Proofs.YtfpmnhmdphaceaaDoor
open Go.EW
set_option linter.unusedVariables false
set_option linter.unusedSimpArgs false
theorem be4_num {l : List UInt8} (h : l.length = 4) : be4 (numB l) = l := by
  match l, h with
  | [a, b, c, d], _ =>
    have ha := a.toNat_lt; have hb := b.toNat_lt; have hc := c.toNat_lt; have hd := d.toNat_lt
    have hn : numB [a, b, c, d] = ((a.toNat * 256 + b.toNat) * 256 + c.toNat) * 256 + d.toNat := by simp [numB]
    unfold be4
    rw [hn]
    congr 1
    · apply UInt8.toNat_inj.1; rw [UInt8.toNat_ofNat']; omega
    congr 1
    · apply UInt8.toNat_inj.1; rw [UInt8.toNat_ofNat']; omega
    congr 1
    · apply UInt8.toNat_inj.1; rw [UInt8.toNat_ofNat']; omega
    congr 1
    apply UInt8.toNat_inj.1; rw [UInt8.toNat_ofNat']; omega
theorem take3 {f : List UInt8} {n : Nat} (h : n + 12 ≤ f.length) : f.take (n + 8) = f.take 4 ++ (f.drop 4).take 4 ++ (f.drop 8).take n := by
  rw [show n + 8 = 4 + (4 + n) by omega, List.take_add, List.take_add, List.drop_drop, List.append_assoc]
theorem openR_good {f : List UInt8} (h : (openR f).2 = 0) : f = sealL (openR f).1 ∧ (openR f).1.length + 12 = f.length ∧ f.length ≤ 32768 := by
  unfold openR at h ⊢
  split at h
  · cases h
  split at h
  · cases h
  split at h
  · cases h
  split at h
  · cases h
  split at h
  · cases h
  split at h
  · cases h
  rename_i h1 h2 h3 h4 h5 h6
  simp only [h1, h2, h3, h4, h5, h6, if_false]
  have hm : f.take 4 = magicL := by simpa using h3
  have hc : f.drop (f.length - 4) = le4 (crcL (f.take (f.length - 4))) := by simpa using h6
  have hl4 : ((f.drop 4).take 4).length = 4 := by rw [List.length_take, List.length_drop]; omega
  have hb4 := be4_num hl4
  generalize hn : numB ((f.drop 4).take 4) = n at *
  have hlen : f.length = n + 12 := by omega
  have hbl : ((f.drop 8).take (f.length - 12)).length = n := by rw [List.length_take, List.length_drop]; omega
  have h8 : f.length - 4 = n + 8 := by omega
  have hfr : frmL ((f.drop 8).take (f.length - 12)) = f.take (n + 8) := by
    unfold frmL
    rw [hbl, hb4, ← hm, take3 (by omega), show f.length - 12 = n by omega]
  refine ⟨?_, by rw [hbl]; omega, by omega⟩
  unfold sealL
  rw [hfr, ← h8, ← hc, List.take_append_drop]
end Go.Proofs.YtfpmnhmdphaceaaDoor
