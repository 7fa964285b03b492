/- The walk of the law TapeBack ends in true, where the table of nibbles is laid. -/
import Derived.Test.YtfpmnhmdphaceaaDoorTapP13
import Derived.Test.YtfpmnhmdphaceaaDoorTap38
import Derived.Test.YtfpmnhmdphaceaaDoorTap11
namespace Go.Proofs.YtfpmnhmdphaceaaDoor
open Go.EW
attribute [local irreducible] EW.W EW.L EW.fin block8 outB shaL
set_option linter.unusedVariables false
set_option linter.unusedSimpArgs false
attribute [local irreducible] crcN crcB crcL sealL openR sealR putEv getEv runR readR fileT usedE seekR addRT chkS
theorem evs_slice {W : World} {S : List Seg} {la : Option Addr} {ls : List EvM} {lc j1 j2 : Nat} (h : RdIn W S la (evsV ls)) (hc : lc = j1 → j2 = 0) : RdIn W S (subA la 13 j1 lc) (evsV ((ls.drop j1).take j2)) := by
  have h2 := h.subA (sz := 13) (l := j1) (m := lc) (j := j2 * 13) (fun e => .inl (by rw [hc e]))
  rw [evsV_drop, evsV_take] at h2
  exact h2
end Go.Proofs.YtfpmnhmdphaceaaDoor
