/- The law NetworkApart answers true, of every list of packets and every script. -/
import Derived.Test.YtmgcmgfjaimlnaaNet13
namespace Go.Proofs.Ytmgcmgfjaimlnaa
open Go.EW
attribute [local irreducible] EW.W EW.L EW.fin
set_option linter.unusedVariables false
set_option linter.unusedSimpArgs false
/-- a call of a script -/
structure OpS where
  kind : Int
  k : Int
  at_ : Int
  mask : UInt8
  pk : Pk
  mine : Bool
def OpS.cells (o : OpS) : List Value := [.int .i64 o.kind, .int .i64 o.k, .int .i64 o.at_, B o.mask, .int .i64 o.pk.fr, .int .i64 o.pk.to, .slice o.pk.a o.pk.n o.pk.cap, .bool o.mine]
def opsL (l : List OpS) : List Value := l.flatMap OpS.cells
theorem flat_at {α : Type} {f : α → List Value} {sz : Nat} (hf : ∀ x, (f x).length = sz) : ∀ {l : List α} {k : Nat} {p : α}, l[k]? = some p → ((l.flatMap f).drop (k * sz)).take sz = f p
  | q :: l, 0, p, h => by
    obtain rfl : q = p := by simpa using h
    rw [List.flatMap_cons, Nat.zero_mul, List.drop_zero]
    have := hf q
    rw [← this, List.take_left]
  | q :: l, k+1, p, h => by
    have e : ((q :: l).flatMap f).drop ((k + 1) * sz) = (l.flatMap f).drop (k * sz) := by
      rw [List.flatMap_cons, List.drop_append, hf q, List.drop_eq_nil_of_le (by rw [hf q, Nat.add_mul]; omega), List.nil_append]
      congr 1; rw [Nat.add_mul]; omega
    rw [e]; exact flat_at hf (by simpa using h)
  | [], k, p, h => by simp at h
theorem flat_cells {α : Type} {f : α → List Value} {sz : Nat} {w : World} {a : Option Addr} {l : List α} {k : Nat} {p : α} (hf : ∀ x, (f x).length = sz) (hs : 0 < sz) (h : Rd w a (l.flatMap f)) (hk : l[k]? = some p) : ∃ b o, a = some ⟨b, o, none⟩ ∧ Cells w b (o + k * sz) (f p) := by
  have h2 := flat_at hf hk
  obtain ⟨v, hv⟩ : ∃ v, (f p)[0]? = some v := ⟨_, List.getElem?_eq_getElem (by rw [hf p]; exact hs)⟩
  have h0 : (l.flatMap f)[k * sz]? = some v := by
    have := congrArg (fun x => x[0]?) h2
    simp only [List.getElem?_take, List.getElem?_drop, hs, if_true, Nat.add_zero, hv] at this
    exact this
  obtain ⟨b, o, rfl, _⟩ := h _ _ h0
  refine ⟨b, o, rfl, ?_⟩
  have := h.cells.sub (k * sz) sz
  rwa [h2] at this
theorem op_cells {w : World} {a : Option Addr} {l : List OpS} {k : Nat} {p : OpS} (h : Rd w a (opsL l)) (hk : l[k]? = some p) : ∃ b o, a = some ⟨b, o, none⟩ ∧ Cells w b (o + k * 8) p.cells :=
  flat_cells (fun _ => rfl) (by omega) h hk
def OpGood (W : World) (l : List OpS) : Prop := ∀ o ∈ l, RdIn W [] o.pk.a (o.pk.bs.map B) ∧ o.pk.bs.length = o.pk.n ∧ o.pk.n ≤ 140737488355328
theorem NetOk.mono {st : NetS} {i i' : Nat} (h : NetOk st i) (hi : i ≤ i') : NetOk st i' := ⟨h.cl, h.nd, h.pool, h.record, Nat.le_trans h.pl hi, Nat.le_trans h.rl hi, fun p hp => ⟨(h.few p hp).1, by have := (h.few p hp).2; omega⟩⟩
theorem NetOk.clear {st : NetS} {i : Nat} (h : NetOk st i) : NetOk (clearS st) i := ⟨h.cl, h.nd, fun p hp => by simp [clearS] at hp, h.record, by simp [clearS], h.rl, h.few⟩
theorem NetOk.swap {st : NetS} {i : Nat} (h : NetOk st i) (a b : Int) : NetOk (swapS st a b) i := by
  unfold swapS; split
  · refine ⟨h.cl, h.nd, fun p hp => h.pool p ((swapL_perm _ _ _).mem_iff.1 hp), h.record, ?_, h.rl, h.few⟩
    show (swapL _ _ _).length ≤ i
    rw [swapL_length]; exact h.pl
  exact h
theorem NetOk.turn {st : NetS} {i : Nat} (h : NetOk st i) (a b : Int) (m : UInt8) : NetOk (turnS st a b m) i := by
  unfold turnS; split
  · split
    · refine ⟨h.cl, h.nd, ?_, h.record, ?_, h.rl, h.few⟩
      · intro p hp
        unfold turnL at hp
        simp only at hp
        split at hp
        · rename_i p0 hp0
          rcases List.mem_or_eq_of_mem_set hp with hp | rfl
          · exact h.pool p hp
          exact h.pool p0 (List.mem_of_getElem? hp0)
        exact h.pool p hp
      show (turnL _ _ _ _).length ≤ i
      rw [turnL_length]; exact h.pl
    exact h
  exact h
end Go.Proofs.Ytmgcmgfjaimlnaa
