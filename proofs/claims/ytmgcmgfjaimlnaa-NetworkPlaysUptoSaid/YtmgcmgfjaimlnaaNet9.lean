/- The law NetworkOrders answers true, of every list of packets and every order that memory holds. -/
import Derived.Test.YtmgcmgfjaimlnaaNet8
namespace Go.Proofs.Ytmgcmgfjaimlnaa
open Go.EW
attribute [local irreducible] EW.W EW.L EW.fin
set_option linter.unusedVariables false
set_option linter.unusedSimpArgs false
theorem NetOk.take {st : NetS} {i : Nat} (h : NetOk st i) (k : Int) : NetOk (takeS st k) i := by
  unfold takeS
  split
  · refine ⟨h.cl, h.nd, fun p hp => h.pool p (List.mem_of_mem_eraseIdx hp), h.record, ?_, h.rl, h.few⟩
    have := h.pl
    have h2 := (List.eraseIdx_sublist st.pool k.toNat).length_le
    show (st.pool.eraseIdx k.toNat).length ≤ i
    omega
  exact h
theorem con_get {l l' : List Pk} (h : l'.map Pk.con = l.map Pk.con) {k : Nat} {q p : Pk} (hq : l'[k]? = some q) (hp : l[k]? = some p) : q.con = p.con := by
  have := congrArg (fun x => x[k]?) h
  simpa [hq, hp] using this
theorem con_bs {p q : Pk} (h : q.con = p.con) : q.bs = p.bs := congrArg (·.2.2) h
theorem con_same {p q : Pk} (h : q.con = p.con) : sameB p q = true := by
  simp only [Pk.con, Prod.mk.injEq] at h
  simp [sameB, h]
theorem pk_cellsA {w : World} {a : Option Addr} {b o : Nat} {l : List Pk} {k : Nat} {p : Pk} (ha : a = some ⟨b, o, none⟩) (h : Rd w a (pks l)) (hk : l[k]? = some p) : Cells w b (o + k * 3) p.cells := by
  obtain ⟨b', o', h1, h2⟩ := pk_cells h hk
  rw [ha] at h1; cases h1; exact h2
end Go.Proofs.Ytmgcmgfjaimlnaa
