/- The walk of the law TapeCut ends in true, where the table of nibbles is laid. -/
import Derived.Test.YtfpmnhmdphaceaaDoorTap47
import Derived.Test.YtfpmnhmdphaceaaDoorTap38
import Derived.Test.YtfpmnhmdphaceaaDoorTap39
import Derived.Test.YtfpmnhmdphaceaaDoorTap31
namespace Go.Proofs.YtfpmnhmdphaceaaDoor
open Go.EW
attribute [local irreducible] EW.W EW.L EW.fin block8 outB shaL
set_option linter.unusedVariables false
set_option linter.unusedSimpArgs false
attribute [local irreducible] crcN crcB crcL sealL openR sealR putEv getEv runR readR fileT fileL usedE addRT chkS chsOf posW
theorem row_nil {W w : World} {S : List Seg} {T sz : Nat} {a : Option Addr} {c : Nat} : True := trivial
end Go.Proofs.YtfpmnhmdphaceaaDoor
