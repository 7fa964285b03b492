/- The walk of the law NetworkFor ends in true, of any packets in memory. -/
import Derived.Test.YtmgcmgfjaimlnaaNet19
import Derived.Test.YtmgcmgfjaimlnaaBaseAll
namespace Go.Proofs.Ytmgcmgfjaimlnaa
open Go.EW
attribute [local irreducible] EW.W EW.L EW.fin
set_option linter.unusedVariables false
set_option linter.unusedSimpArgs false
theorem Each_iter {W : World} {F : List Seg} {b3 : Nat} {a : Option Addr} {c : Nat} {l : List Pk} (hn : ∀ q ∈ l, q.n ≤ 32768) (hl : l.length ≤ 140737488351232) :
    Iter Try.prog W 53 [.pointer (some ⟨b3, 0, none⟩)] (fun i (q : Pk) => [I64 (i : Int), pkv q]) (fun _ q => [q.own]) (fun i q => ∃ p, l[i]? = some p ∧ q.con = p.con ∧ q.bs.length = q.n) l.length (eachL b3 a c l F) :=
  fun lp C X w H hY => Each1_ok hn hl H (fun i p q F' w h1 h2 h3 H => hY i q F' w ⟨p, h1, h2, h3⟩ (St.pick [1, 0] (pre := [_, _]) rfl H rfl))
end Go.Proofs.Ytmgcmgfjaimlnaa
