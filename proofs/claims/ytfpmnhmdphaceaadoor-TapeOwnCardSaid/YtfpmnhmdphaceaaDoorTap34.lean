/- Walks through the tape's functions. -/
import Derived.Test.YtfpmnhmdphaceaaDoorTapP5
namespace Go.Proofs.YtfpmnhmdphaceaaDoor
open Go.EW
attribute [local irreducible] EW.W EW.L EW.fin block8 outB shaL
set_option linter.unusedVariables false
set_option linter.unusedSimpArgs false
attribute [local irreducible] crcN crcB crcL sealL openR sealR putEv getEv runR fileT
theorem EvsIn.segs {W : World} {S : List Seg} {es : List EvM} (i : Nat) (hi : S[i]? = some (Segs (es.map EvM.seg))) (h : ∀ e ∈ es.map EvM.e, EvOk e) : EvsIn W S es := fun x hx => by
  obtain ⟨j, hj, rfl⟩ := List.getElem_of_mem hx
  exact ⟨RdIn.segsF i hi j (by rw [List.getElem?_map, List.getElem?_eq_getElem hj]; rfl), h _ (List.mem_map.2 ⟨_, hx, rfl⟩)⟩
attribute [local irreducible] readR
end Go.Proofs.YtfpmnhmdphaceaaDoor
