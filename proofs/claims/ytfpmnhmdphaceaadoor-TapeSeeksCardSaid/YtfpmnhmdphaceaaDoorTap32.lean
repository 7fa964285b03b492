/- Walks through the tape's functions. -/
import Derived.Test.YtfpmnhmdphaceaaDoorTap31
import Derived.Test.YtfpmnhmdphaceaaDoorTap9
import Derived.Test.YtfpmnhmdphaceaaDoorTap11
namespace Go.Proofs.YtfpmnhmdphaceaaDoor
open Go.EW
attribute [local irreducible] EW.W EW.L EW.fin block8 outB shaL
set_option linter.unusedVariables false
set_option linter.unusedSimpArgs false
attribute [local irreducible] crcN crcB crcL sealL openR sealR putEv getEv
theorem given0 {W w : World} {F : List Seg} {b : Nat} (H : St W w (blk b (gcells gp0) 37 :: F)) : St W w (givenL b gp0 F) :=
  St.pick [4, 0, 1, 2, 3] (pre := [_, _, _, _, _]) rfl (St.newRow (T := 28) (sz := 1) (St.newRow (T := 28) (sz := 1) (St.nilseg.2 (St.nilseg.2 H)))) rfl
theorem rdin_mark {W : World} {S : List Seg} {a : Option Addr} {c : Nat} {bs xs : List UInt8} (e : xs = bs ++ [90]) (h : RdIn W S a (xs.map B)) : RdIn W S (subA a 1 0 c) (bs.map B) := by
  have h2 := rdin_head (c := c) (n := bs.length) h
  rwa [e, List.take_left' rfl] at h2
end Go.Proofs.YtfpmnhmdphaceaaDoor
