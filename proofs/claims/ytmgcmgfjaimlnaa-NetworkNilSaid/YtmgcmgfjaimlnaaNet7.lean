/- The laws' helper that fills a net. -/
import Derived.Test.YtmgcmgfjaimlnaaNet6
namespace Go.Proofs.Ytmgcmgfjaimlnaa
open Go.EW
attribute [local irreducible] EW.W EW.L EW.fin
set_option linter.unusedVariables false
set_option linter.unusedSimpArgs false
/-- a net of three and two, of i packets -/
structure NetOk (st : NetS) (i : Nat) : Prop where
  cl : st.clients = 2
  nd : st.nodes = 3
  pool : ∀ p ∈ st.pool, p.n ≤ 32768 ∧ adr p.to
  record : ∀ p ∈ st.record, p.n ≤ 32768
  pl : st.pool.length ≤ i
  rl : st.record.length ≤ i
  few : st.few i
theorem NetOk.fit {st : NetS} {i : Nat} (h : NetOk st i) : st.fit := ⟨by rw [h.cl]; omega, fun p hp => (h.pool p hp).1, h.record⟩
theorem NetOk.addr {st : NetS} {i : Nat} (h : NetOk st i) {x : Int} (hx : adr x) : st.addr x := by
  unfold NetS.addr; rw [h.cl, h.nd]; exact hx
theorem NetOk.new (pm cm : Nat) : NetOk (newS 3 2 pm cm) 0 := ⟨rfl, rfl, by simp [newS], by simp [newS], by simp [newS], by simp [newS], by simp [newS, NetS.few]⟩
end Go.Proofs.Ytmgcmgfjaimlnaa
