/- The laws' helper that fills a net. -/
import Derived.Test.YtmgcmgfjaimlnaaNet6
namespace Go.Proofs.Ytmgcmgfjaimlnaa
open Go.EW
attribute [local irreducible] EW.W EW.L EW.fin
set_option linter.unusedVariables false
set_option linter.unusedSimpArgs false
theorem set_mem {α : Type} : ∀ {l : List α} {j : Nat} {x y p : α}, l[j]? = some y → p ∈ l.set j x → p = x ∨ p ∈ l.eraseIdx j
  | a :: l, 0, x, y, p, _, h => by simpa using h
  | a :: l, j+1, x, y, p, hy, h => by
    simp only [List.set_cons_succ, List.mem_cons] at h
    rcases h with rfl | h
    · right; simp
    rcases set_mem (by simpa using hy) h with h | h
    · exact .inl h
    right; simp [h]
  | [], _, x, y, p, hy, h => by simp at hy
theorem updK_mem {k : Ky} {v : Int} {l : List (Ky × Int)} {p : Ky × Int} (h : p ∈ updK k v l) : p ∈ l ∨ p = (k, v) := by
  obtain ⟨u, hu⟩ := midK_idx k l
  unfold updK at h
  rcases set_mem hu h with h | h
  · exact .inr h
  unfold midK idxK at *
  cases hk : kgetI k l 0 with
  | some j => simp only [hk] at h; exact .inl (List.mem_of_mem_eraseIdx h)
  | none =>
    simp only [hk] at h
    rw [List.eraseIdx_append_of_length_le (Nat.le_refl _)] at h
    exact .inl (by simpa using h)
/-- a net of three and two, of i packets -/
structure NetOk (st : NetS) (i : Nat) : Prop where
  cl : st.clients = 2
  nd : st.nodes = 3
  pool : ∀ p ∈ st.pool, p.n ≤ 32768 ∧ adr p.to
  record : ∀ p ∈ st.record, p.n ≤ 32768
  pl : st.pool.length ≤ i
  rl : st.record.length ≤ i
  few : st.few i
theorem NetOk.fit {st : NetS} {i : Nat} (h : NetOk st i) : st.fit := ⟨by rw [h.cl]; omega, fun p hp => (h.pool p hp).1, h.record⟩
theorem NetOk.addr {st : NetS} {i : Nat} (h : NetOk st i) {x : Int} (hx : adr x) : st.addr x := by
  unfold NetS.addr; rw [h.cl, h.nd]; exact hx
theorem NetOk.new (pm cm : Nat) : NetOk (newS 3 2 pm cm) 0 := ⟨rfl, rfl, by simp [newS], by simp [newS], by simp [newS], by simp [newS], by simp [newS, NetS.few]⟩
end Go.Proofs.Ytmgcmgfjaimlnaa
