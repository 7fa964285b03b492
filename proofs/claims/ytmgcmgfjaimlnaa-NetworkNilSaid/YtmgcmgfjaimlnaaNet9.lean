/- The law NetworkOrders answers true, of every list of packets and every order that memory holds. -/
import Derived.Test.YtmgcmgfjaimlnaaNet8
namespace Go.Proofs.Ytmgcmgfjaimlnaa
open Go.EW
attribute [local irreducible] EW.W EW.L EW.fin
set_option linter.unusedVariables false
set_option linter.unusedSimpArgs false
theorem NetOk.take {st : NetS} {i : Nat} (h : NetOk st i) (k : Int) : NetOk (takeS st k) i := by
  unfold takeS
  split
  · refine ⟨h.cl, h.nd, fun p hp => h.pool p (List.mem_of_mem_eraseIdx hp), h.record, ?_, h.rl, h.few⟩
    have := h.pl
    have h2 := (List.eraseIdx_sublist st.pool k.toNat).length_le
    show (st.pool.eraseIdx k.toNat).length ≤ i
    omega
  exact h
end Go.Proofs.Ytmgcmgfjaimlnaa
