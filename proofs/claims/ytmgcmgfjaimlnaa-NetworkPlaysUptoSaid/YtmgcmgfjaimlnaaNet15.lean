/- The law's helper was, and what a net holds of what was sent. -/
import Derived.Test.YtmgcmgfjaimlnaaNet14
namespace Go.Proofs.Ytmgcmgfjaimlnaa
open Go.EW
attribute [local irreducible] EW.W EW.L EW.fin
set_option linter.unusedVariables false
set_option linter.unusedSimpArgs false
theorem kgetI_cons (k : Ky) (p : Ky × Int) (l : List (Ky × Int)) (i : Nat) : kgetI k (p :: l) i = if p.1 = k then some (i, p.2) else kgetI k l (i + 1) := by
  obtain ⟨a, b⟩ := p
  by_cases h : a = k <;> simp [kgetI, h]
theorem kgetI_shift (k : Ky) : ∀ (l : List (Ky × Int)) (i : Nat), kgetI k l (i + 1) = (kgetI k l i).map (fun p => (p.1 + 1, p.2))
  | [], i => rfl
  | p :: l, i => by
    rw [kgetI_cons, kgetI_cons]
    split
    · rfl
    rw [kgetI_shift k l (i + 1)]
theorem updK_nil (k : Ky) (v : Int) : updK k v [] = [(k, v)] := rfl
theorem updK_cons (k : Ky) (v : Int) (p : Ky × Int) (l : List (Ky × Int)) : updK k v (p :: l) = if p.1 = k then (k, v) :: l else p :: updK k v l := by
  unfold updK midK idxK
  rw [kgetI_cons]
  by_cases h : p.1 = k
  · rw [if_pos h, if_pos h]; rfl
  rw [if_neg h, if_neg h, kgetI_shift]
  cases kgetI k l 0 with
  | none => simp
  | some q => simp
theorem kget_cons (k : Ky) (p : Ky × Int) (l : List (Ky × Int)) : kget k (p :: l) = if p.1 = k then some p.2 else kget k l := by
  unfold kget
  rw [List.find?_cons]
  by_cases h : p.1 = k <;> simp [h]
theorem kget_updK (k k' : Ky) (v : Int) : ∀ l : List (Ky × Int), kget k (updK k' v l) = if k' = k then some v else kget k l
  | [] => by rw [updK_nil, kget_cons]
  | p :: l => by
    rw [updK_cons, kget_cons]
    by_cases h1 : p.1 = k'
    · rw [if_pos h1, kget_cons]
      by_cases h2 : k' = k
      · rw [if_pos h2, if_pos h2]
      rw [if_neg h2, if_neg h2, if_neg (fun h => h2 (h1.symm.trans h))]
    rw [if_neg h1, kget_cons, kget_updK k k' v l]
    by_cases h2 : p.1 = k
    · rw [if_pos h2, if_pos h2, if_neg (fun h => h1 (h2.trans h.symm))]
    rw [if_neg h2, if_neg h2]
/-- what was sent, and what a net holds of it -/
structure Gen (st : NetS) (sl : List Pk) : Prop where
  pool : ∀ p ∈ st.pool, ∃ q ∈ sl, q.to = p.to ∧ q.bs = p.bs
  came : ∀ to bs, (kget (0, to, bs) st.came).getD 0 > 0 ↔ ∃ q ∈ sl, q.to = to ∧ q.bs = bs
theorem Gen.new (pm cm : Nat) : Gen (newS 3 2 pm cm) [] := ⟨by simp [newS], fun to bs => by simp [newS, kget]⟩
theorem Gen.sub {st st' : NetS} {sl : List Pk} (h : Gen st sl) (hp : ∀ p ∈ st'.pool, p ∈ st.pool) (hc : st'.came = st.came) : Gen st' sl := ⟨fun p hm => h.pool p (hp p hm), fun to bs => by rw [hc]; exact h.came to bs⟩
theorem Gen.take {st : NetS} {sl : List Pk} (h : Gen st sl) (k : Int) : Gen (takeS st k) sl := by
  unfold takeS; split
  · exact h.sub (fun p hp => List.mem_of_mem_eraseIdx hp) rfl
  exact h
theorem Gen.swap {st : NetS} {sl : List Pk} (h : Gen st sl) (i k : Int) : Gen (swapS st i k) sl := by
  unfold swapS; split
  · exact h.sub (fun p hp => (swapL_perm _ _ _).mem_iff.1 hp) rfl
  exact h
theorem Gen.clear {st : NetS} {sl : List Pk} (h : Gen st sl) : Gen (clearS st) sl := h.sub (fun p hp => by simp [clearS] at hp) rfl
theorem Gen.copy {st : NetS} {sl : List Pk} (h : Gen st sl) {p q : Pk} (hp : p ∈ st.pool) (hq : q.con = p.con) (pa : Option Addr) (pcap : Nat) : Gen { st with pa, pcap, pool := st.pool ++ [q] } sl := by
  refine ⟨?_, h.came⟩
  intro r hr
  simp only [List.mem_append, List.mem_singleton] at hr
  rcases hr with hr | rfl
  · exact h.pool r hr
  obtain ⟨x, hx, h1, h2⟩ := h.pool p hp
  simp only [Pk.con, Prod.mk.injEq] at hq
  exact ⟨x, hx, h1.trans hq.2.1.symm, h2.trans hq.2.2.symm⟩
theorem NetOk.copy {st : NetS} {i : Nat} (h : NetOk st i) {q : Pk} (hq : q.n ≤ 32768) (ha : adr q.to) (pa : Option Addr) (pcap : Nat) : NetOk { st with pa, pcap, pool := st.pool ++ [q] } (i + 1) := by
  refine ⟨h.cl, h.nd, ?_, h.record, ?_, Nat.le_succ_of_le h.rl, (h.mono (Nat.le_succ i)).few⟩
  · intro p hp
    simp only [List.mem_append, List.mem_singleton] at hp
    rcases hp with hp | rfl
    · exact h.pool p hp
    exact ⟨hq, ha⟩
  have := h.pl
  simp only [List.length_append, List.length_singleton]; omega
end Go.Proofs.Ytmgcmgfjaimlnaa
