/- A part of this claim: laws of the tape's functions and of plain lists; no conditions beyond those that the theorems name. -/
import Derived.Test.YtfpmnhmdphaceaaGreatDoorZap34
namespace Go.Proofs.YtfpmnhmdphaceaaGreatDoor
open Go.EW
attribute [local irreducible] EW.W EW.L EW.fin block8 outB shaL
set_option linter.unusedVariables false
set_option linter.unusedSimpArgs false
attribute [local irreducible] crcN crcB crcL sealL openR sealR putEv getEv
/-- bytes of events that are held -/
def EvsR (W : World) (F : List Seg) (l : List EvM) : Prop := ∀ x ∈ l, RdIn W F x.a (x.e.bs.map B)
theorem EvsR.segs {W : World} {S : List Seg} {es : List EvM} (i : Nat) (hi : S[i]? = some (Segs (es.map EvM.seg))) : EvsR W S es := fun x hx => by
  obtain ⟨j, hj, rfl⟩ := List.getElem_of_mem hx
  exact RdIn.segsF i hi j (by rw [List.getElem?_map, List.getElem?_eq_getElem hj]; rfl)
theorem EvsIn.r {W : World} {S : List Seg} {es : List EvM} (h : EvsIn W S es) : EvsR W S es := fun x hx => (h x hx).1
theorem EvsR.sub {W : World} {S : List Seg} {es fs : List EvM} (h : EvsR W S es) (hs : ∀ x ∈ fs, x ∈ es) : EvsR W S fs := fun x hx => h x (hs x hx)
theorem EvsR.up {W : World} {F S : List Seg} {l : List EvM} (h : EvsR W F l) (k : Nat) (hk : S.drop k = F) : EvsR W S l := fun x hx => (h x hx).up k hk
theorem EvsIn.up {W : World} {F S : List Seg} {l : List EvM} (h : EvsIn W F l) (k : Nat) (hk : S.drop k = F) : EvsIn W S l := fun x hx => ⟨(h x hx).1.up k hk, (h x hx).2⟩
end Go.Proofs.YtfpmnhmdphaceaaGreatDoor
