/- One form: what is read is what would be written, in plain lists. -/
import Derived.Test.YtfpmnhmdphaceaaDoorTapP3
import Derived.Test.YtfpmnhmdphaceaaDoorTap33
namespace Go.Proofs.YtfpmnhmdphaceaaDoor
open Go.EW
set_option linter.unusedVariables false
set_option linter.unusedSimpArgs false
attribute [local irreducible] sealL openR sealR crcL shaL
theorem chunkB_len (f : Nat) (ts : List (List UInt8)) : (chunkB f ts).length = 2 + szN f + szN ts.length + sizeT ts := by
  unfold chunkB
  simp only [List.length_append, szN_len, cat_len]
  rfl
theorem addRT_ok {t : TS} {e : Evt} (h : (putEv e).2 = 0) (hn : t.n < 4096) : addRT t e = (0, addT t (putEv e).1) := by
  unfold addRT
  rw [if_neg (by omega), if_neg (by omega)]
theorem addT_n (t : TS) (b : List UInt8) : (addT t b).n = t.n + 1 := by
  unfold addT
  simp only []
  split <;> rfl
/-- what is read so far is what the tape would write -/
structure Fit (bs : List UInt8) (s : SS) (q : Nat) (t : TS) : Prop where
  n : t.n = s.evs.length
  first : t.texts.length > 0 → t.first = s.first
  last : t.texts = s.last
  out : outT t = bs.take q
  pl : plT t = s.places
theorem Fit.setR {bs : List UInt8} {s : SS} {q : Nat} {t : TS} (h : Fit bs s q t) (r : Nat) : Fit bs { s with right := r } q t := ⟨h.n, h.first, h.last, h.out, h.pl⟩
end Go.Proofs.YtfpmnhmdphaceaaDoor
