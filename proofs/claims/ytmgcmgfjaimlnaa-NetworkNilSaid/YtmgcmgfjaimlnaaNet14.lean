/- The law NetworkApart answers true, of every list of packets and every script. -/
import Derived.Test.YtmgcmgfjaimlnaaNet13
namespace Go.Proofs.Ytmgcmgfjaimlnaa
open Go.EW
attribute [local irreducible] EW.W EW.L EW.fin
set_option linter.unusedVariables false
set_option linter.unusedSimpArgs false
/-- a call of a script -/
structure OpS where
  kind : Int
  k : Int
  at_ : Int
  mask : UInt8
  pk : Pk
  mine : Bool
def OpS.cells (o : OpS) : List Value := [.int .i64 o.kind, .int .i64 o.k, .int .i64 o.at_, B o.mask, .int .i64 o.pk.fr, .int .i64 o.pk.to, .slice o.pk.a o.pk.n o.pk.cap, .bool o.mine]
theorem NetOk.mono {st : NetS} {i i' : Nat} (h : NetOk st i) (hi : i ≤ i') : NetOk st i' := ⟨h.cl, h.nd, h.pool, h.record, Nat.le_trans h.pl hi, Nat.le_trans h.rl hi, fun p hp => ⟨(h.few p hp).1, by have := (h.few p hp).2; omega⟩⟩
theorem NetOk.clear {st : NetS} {i : Nat} (h : NetOk st i) : NetOk (clearS st) i := ⟨h.cl, h.nd, fun p hp => by simp [clearS] at hp, h.record, by simp [clearS], h.rl, h.few⟩
theorem NetOk.swap {st : NetS} {i : Nat} (h : NetOk st i) (a b : Int) : NetOk (swapS st a b) i := by
  unfold swapS; split
  · refine ⟨h.cl, h.nd, fun p hp => h.pool p ((swapL_perm _ _ _).mem_iff.1 hp), h.record, ?_, h.rl, h.few⟩
    show (swapL _ _ _).length ≤ i
    rw [swapL_length]; exact h.pl
  exact h
theorem NetOk.turn {st : NetS} {i : Nat} (h : NetOk st i) (a b : Int) (m : UInt8) : NetOk (turnS st a b m) i := by
  unfold turnS; split
  · split
    · refine ⟨h.cl, h.nd, ?_, h.record, ?_, h.rl, h.few⟩
      · intro p hp
        unfold turnL at hp
        simp only at hp
        split at hp
        · rename_i p0 hp0
          rcases List.mem_or_eq_of_mem_set hp with hp | rfl
          · exact h.pool p hp
          exact h.pool p0 (List.mem_of_getElem? hp0)
        exact h.pool p hp
      show (turnL _ _ _ _).length ≤ i
      rw [turnL_length]; exact h.pl
    exact h
  exact h
end Go.Proofs.Ytmgcmgfjaimlnaa
