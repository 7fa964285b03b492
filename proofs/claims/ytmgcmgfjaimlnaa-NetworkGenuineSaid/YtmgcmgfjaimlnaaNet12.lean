/- What Swap, Turn, Copy and Take do to lists of packets. -/
import Derived.Test.YtmgcmgfjaimlnaaNet11
namespace Go.Proofs.Ytmgcmgfjaimlnaa
open Go.EW
attribute [local irreducible] EW.W EW.L EW.fin
set_option linter.unusedVariables false
set_option linter.unusedSimpArgs false

theorem AtR.miss {pool : List Pk} {k : Int} {q : Pk} {e : Int} (h : AtR pool k q e) (hk : ¬ (0 ≤ k ∧ k < pool.length)) : e = 141 := by
  rcases h with h | ⟨p, h1, h2, _⟩
  · exact h.2.1
  · exact absurd ⟨h1, h2⟩ hk
theorem takeS_miss {st : NetS} {k : Int} (hk : ¬ (0 ≤ k ∧ k < st.pool.length)) : takeS st k = st := if_neg hk
theorem swapS_miss {st : NetS} {i k : Int} (hk : ¬ ((0 ≤ i ∧ i < st.pool.length) ∧ 0 ≤ k ∧ k < st.pool.length)) : swapS st i k = st := if_neg hk
theorem swapS_len (st : NetS) (i k : Int) : (swapS st i k).pool.length = st.pool.length := by
  unfold swapS; split
  · exact swapL_length _ _ _
  · rfl
theorem swapL_back {l : List Pk} {i k : Nat} (hi : i < l.length) (hk : k < l.length) : swapL (swapL l i k) k i = l := by
  have e : swapL l i k = (l.set i l[k]).set k l[i] := by unfold swapL; simp [hi, hk]
  have h1 : (swapL l i k)[k]? = some l[i] := by rw [e]; simp [hk]
  have h2 : (swapL l i k)[i]? = some l[k] := by
    rw [e]
    by_cases hik : k = i
    · subst hik; simp [hk]
    · rw [List.getElem?_set_ne hik]; simp [hi]
  rw [show swapL (swapL l i k) k i = ((swapL l i k).set k l[k]).set i l[i] by rw [swapL, h1, h2], e]
  apply List.ext_getElem?
  intro j
  simp only [List.getElem?_set, List.length_set]
  by_cases hj : i = j
  · subst hj; simp [hi]
  · by_cases hj2 : k = j
    · subst hj2; simp [hj, hk]
    · simp [hj, hj2]
theorem swap_back {st : NetS} {i k : Nat} (hi : i < st.pool.length) (hk : k < st.pool.length) : swapS (swapS st i k) k i = st := by
  have e : swapS st i k = { st with pool := swapL st.pool i k } := by unfold swapS; rw [if_pos (by omega)]; simp
  rw [e]
  unfold swapS
  rw [if_pos (by simp only [swapL_length]; omega)]
  simp only [Int.toNat_natCast, swapL_back hi hk]
theorem xor_back (u m : UInt8) : u ^^^ m ^^^ m = u := by rw [UInt8.xor_assoc, UInt8.xor_self, UInt8.xor_zero]
theorem set_xor_back {bs : List UInt8} {j : Nat} (m : UInt8) (hj : j < bs.length) : (bs.set j (bs.getD j 0 ^^^ m)).set j ((bs.set j (bs.getD j 0 ^^^ m)).getD j 0 ^^^ m) = bs := by
  have h1 : (bs.set j (bs.getD j 0 ^^^ m)).getD j 0 = bs.getD j 0 ^^^ m := by simp [List.getD, hj]
  rw [h1, xor_back, List.set_set]
  have : bs.getD j 0 = bs[j] := by simp [List.getD, hj]
  rw [this, List.set_getElem_self]
theorem turn_back {st : NetS} {k j : Nat} {m : UInt8} {p : Pk} (hp : st.pool[k]? = some p) (hj : j < p.n) (hl : p.bs.length = p.n) : turnS (turnS st k j m) k j m = st := by
  obtain ⟨hk, _⟩ := List.getElem?_eq_some_iff.1 hp
  rw [(turn_yes (m := m) hp hj).1]
  have h2 : ({ st with pool := st.pool.set k { p with bs := p.bs.set j (p.bs.getD j 0 ^^^ m) } } : NetS).pool[k]? = some { p with bs := p.bs.set j (p.bs.getD j 0 ^^^ m) } := by simp [hk]
  rw [(turn_yes (m := m) h2 hj).1]
  simp only [set_xor_back m (show j < p.bs.length by omega), List.set_set]
  have : st.pool.set k p = st.pool := by
    obtain ⟨_, rfl⟩ := List.getElem?_eq_some_iff.1 hp
    exact List.set_getElem_self _
  rw [show ({ p with bs := p.bs } : Pk) = p from rfl, this]
theorem fit_copy {st : NetS} {pa : Option Addr} {pcap : Nat} {q : Pk} (h : st.fit) (hq : q.n ≤ 32768) : ({ st with pa, pcap, pool := st.pool ++ [q] } : NetS).fit := by
  refine ⟨h.cl, ?_, h.record⟩
  intro p hp
  simp only [List.mem_append, List.mem_singleton] at hp
  rcases hp with hp | rfl
  · exact h.pool p hp
  · exact hq
theorem fit_take {st : NetS} (h : st.fit) (k : Int) : (takeS st k).fit := by
  unfold takeS; split
  · exact ⟨h.cl, fun p hp => h.pool p (List.mem_of_mem_eraseIdx hp), h.record⟩
  · exact h
theorem fit_turn {st : NetS} (h : st.fit) (k j : Int) (m : UInt8) : (turnS st k j m).fit := by
  unfold turnS; split
  · split
    · refine ⟨h.cl, ?_, h.record⟩
      intro p hp
      unfold turnL at hp
      simp only at hp
      split at hp
      · rename_i p0 hp0
        rcases List.mem_or_eq_of_mem_set hp with hp | rfl
        · exact h.pool p hp
        · exact h.pool p0 (List.mem_of_getElem? hp0)
      · exact h.pool p hp
    · exact h
  · exact h
theorem byte_cell {w : World} {a : Option Addr} {b o : Nat} {bs : List UInt8} {j : Nat} (ha : a = some ⟨b, o, none⟩) (h : Rd w a (bs.map B)) (hj : j < bs.length) : w.cell? ⟨b, o + j * 1, none⟩ = some (B (bs.getD j 0)) := by
  obtain ⟨b', o', h1, h2⟩ := h j (B (bs.getD j 0)) (by simp [List.getD, hj])
  rw [ha] at h1; cases h1
  rw [Nat.mul_one]; exact h2
theorem byte_addr {w : World} {a : Option Addr} {bs : List UInt8} {j : Nat} (h : Rd w a (bs.map B)) (hj : j < bs.length) : ∃ b o, a = some ⟨b, o, none⟩ := by
  obtain ⟨b', o', h1, _⟩ := h j (B (bs.getD j 0)) (by simp [List.getD, hj])
  exact ⟨b', o', h1⟩

end Go.Proofs.Ytmgcmgfjaimlnaa
